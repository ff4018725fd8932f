/-
  PROVED HERE: lemmas and contracts that the law's proof leans on (texts put together: RefSha4, QuietSegs).
  CONDITIONS: each names its own.
-/
import Derived.BigQuiet
import Derived.Deep.Cut
import Derived.Deep.DeepCutAuto
import Derived.Test.YtdldkkoplgkloaaGreatPz4
import Derived.Test.YtdldkkoplgkloaaGreatPz7
namespace Go.Proofs.YtdldkkoplgkloaaGreat
set_option linter.unusedVariables false
set_option linter.unusedSimpArgs false
set_option maxRecDepth 100000
set_option maxHeartbeats 32000000
namespace sha


open Go.RowKit Go.Deep base obj mem sep crc plan chain
theorem wp_app {P:Program} {t e size bytes:Nat} (T:SlT P t e size bytes) {o:Oper} {a:Act} {K:Act→World→Prop} {Q:Exit→Act→World→Prop} {w:World} (hgd:o.guard=none) (s x:Operand)
  (ho:o.op=.call { callee:=.builtin .append,args:=#[s,x],argTypes:=#[t,t] })
  {base:Nat} {v:Value} {n:Nat} {xs:List Value} (hown:w.ownsRow base e size v n xs) (hs:a.eval s=v) {B m c:Nat} {A:Option Addr} {ys:List Value} (hx:a.eval x=.slice A m c)
  (hr:Sl w B size A m ys) (h1:∀u∈ys,u.oneCell'=true) (hm:0 < m) (hb:(n+m)*bytes≤140737488355328) (h63:n+m≤maxLen) (hbase:base≤w.heap.size)
  (h:∀g cap w',w'.ownsRow base e size (.slice (some ⟨g,0,none⟩) (n+m) cap) (n+m) (xs++ys)→w.grownBy w' v.ownBlock→(v.ownBlock=some g∨w.heap.size≤g)→g < w'.heap.size→K (a.put o.dst (.slice (some ⟨g,0,none⟩) (n+m) cap)) w') :
  Oper.wp P o a w K Q:=by
 have k:=step_app' T (ops:=#[o]) (Q:=Q) (E:=True) hgd s x ho hown hs hx hr h1 hm hb h63 hbase h
 rwa [if_pos (by simp [Region.wanted,hgd])] at k
theorem nats_snoc (l:List Nat) (z:Nat):nats (l++[z])=nats l++[.int .i64 (z:Int)]:=by simp [nats]
def kF (k:Nat):List Nat:=((primes.take 8).take k).map (rootL · 2)
def kR (k:Nat):List Nat:=(primes.take k).map (rootL · 3)
theorem alloc_size1 (w:World) (o:Obj):(w.alloc o).heap.size=w.heap.size+1:=Array.size_push _
theorem primes_len:primes.length=64:=rfl
theorem kF_len (k:Nat):(kF k).length=min k 8:=by simp [kF,primes_len]
theorem kF_more (k:Nat) (h:k < 8):kF (k+1)=kF k++[rootL (primes.getD k 0) 2]:=by
 have h8:k < (primes.take 8).length:=by simp [primes_len];exact h
 unfold kF
 rw [List.take_succ_eq_append_getElem h8,List.map_append,List.getElem_take,List.getD_eq_getElem?_getD,List.getElem?_eq_getElem (by rw [primes_len];omega)]
 rfl
theorem kF_stop (k:Nat) (h:8≤k):kF (k+1)=kF k:=by
 unfold kF
 rw [List.take_take,List.take_take,show min (k+1) 8=8 by omega,show min k 8=8 by omega]
theorem kR_more (k:Nat) (h:k < 64):kR (k+1)=kR k++[rootL (primes.getD k 0) 3]:=by
 unfold kR
 rw [List.take_succ_eq_append_getElem (by rw [primes_len];exact h),List.map_append,List.getD_eq_getElem?_getD,List.getElem?_eq_getElem (by rw [primes_len];exact h)]
 rfl
theorem kF_all:kF 64=first8:=by
 rw [←first_roots];rfl
theorem kR_all:kR 64=ks:=by
 rw [←ks_roots];rfl
theorem primes_le (k:Nat) (h:k < 64):primes.getD k 0≤1000:=by
 have:∀k,k < 64→primes.getD k 0≤1000:=by decide
 exact this k h
theorem know_at (w:World):Calls Tryz.prog 190 #[] w fun e w'=>∃v1 v2,e=.returned (.agg #[v1,v2])∧St w w' [own 3 1 v1 8 (nats first8),own 3 1 v2 64 (nats ks)]:=by
 have HS0:=Lib.hid (((St.nil w).new 264 #[.slice none 0 0,.slice none 0 0]).new 264 #[.slice none 0 0,.slice none 0 0])
 go_enter Tryz.func190,Tryz.ntmps190
 go_wp2_with (fail)
 refine (primes_at _).mono ?_;rintro e w2 ⟨v,rfl,ho,hb⟩
 have h2:=HS0.out.addOwn hb ho
 rw [alloc_size1] at h2
 obtain ⟨A,c,rfl,hc,hcm⟩:=own_form ho
 have h3:=((h2.add (Q:=own 3 1 (.slice none 0 0) 0 []) (F:=fun _=>False) (Below.refl _ _) ⟨World.ownsRow_nil _ _ _ _,fun i=>by simp [Value.ownBlock]⟩ (fun i hi=>hi.elim)).add (Q:=own 3 1 (.slice none 0 0) 0 []) (F:=fun _=>False) (Below.refl _ _) ⟨World.ownsRow_nil _ _ _ _,fun i=>by simp [Value.ownBlock]⟩ (fun i hi=>hi.elim)).pick 3 rfl
 have H3:=Lib.hid h3
 clear h2 h3 ho hb
 go_wp2_with (fail)
 go_loopw [3] (fun i wr=>∃(k:Nat) (v1 v2:Value),k≤64∧i=.int .i64 k∧St w wr [row (w.heap.size+1) 264 [v1,v2],own 3 1 v1 (kF k).length (nats (kF k)),own 3 1 v2 k (nats (kR k)),own 3 1 (.slice A 64 c) 64 (nats primes),row w.heap.size 264 [.slice none 0 0,.slice none 0 0]]) (fun i _=>64-(intOf i).toNat)
 case atStart=>exact ⟨0,_,_,by omega,rfl,H3.out⟩
 case round =>
  obtain ⟨k,v1,v2,hk,rfl,h4⟩:=hrel
  have H4:=Lib.hid h4
  clear h4
  by_cases hlt:k < 64
  ·have hlt':(k:Int) < 64:=by omega
   obtain ⟨bA,oA,rfl,hbA,cA⟩:=nsl_get (Sl.of_own (H4.out.pick 3 rfl).own) primes_len k hlt
   have hkR:=kR_more k hlt
   have hkp:=primes_le k hlt
   have i0:(0:Int)≤(k:Int):=by omega
   by_cases h8:k < 8
   ·have h8':(k:Int) < 8:=by omega
    have hkF:=kF_more k h8
    obtain ⟨pk,hpk⟩:∃pk,primes.getD k 0=pk:=⟨_,rfl⟩
    rw [hpk] at hkF hkR hkp cA
    have hx:=H4.out
    rw [kF_len,show min k 8=k by omega] at hx
    have H5:=Lib.hid hx
    have p0:=hx.row.1.cell 0
    simp only [List.getElem?_cons_succ,List.getElem?_cons_zero] at p0
    have pl:=hx.row.1.lt
    clear hx
    go_upto_region 7 with fail
    go_cut [0,1,2,3] (fun s0 s1 s2 s3 wc=>∃v1':Value,s0=.pointer (some ⟨w.heap.size,0,none⟩)∧s1=.pointer (some ⟨w.heap.size+1,0,none⟩)∧s2=.slice (some ⟨bA,oA,none⟩) 64 c∧s3=.int .i64 k∧St w wc [row (w.heap.size+1) 264 [v1',v2],own 3 1 v1' (kF (k+1)).length (nats (kF (k+1))),own 3 1 v2 k (nats (kR k)),own 3 1 (.slice (some ⟨bA,oA,none⟩) 64 c) 64 (nats primes),row w.heap.size 264 [.slice none 0 0,.slice none 0 0]])
    case first =>
     generalize hz:rootL pk 2=z at *
     have HZ:=Lib.hid hz
     have HKF:=Lib.hid hkF
     clear hz hkF hkR hpk
     have HRT:=Lib.hid (fun w=>root_at w pk 2 hkp (by omega) (by omega))
     rw [HZ.out] at HRT
     refine segs_start (by kernel_rfl) ?_
     refine segs_take [0,2,3,4] (by kernel_rfl) (fun _ _ _ _ _ h=>h) ?_
     simp only [pick,xGs,xGz,xGo]
     iterate 4 still_step
     refine wpStill_nil ?_
     refine segs_take [5] (by kernel_rfl) (fun _ _ _ _ _ h=>h) ?_
     simp only [pick,xGs,xGz,xGo]
     iterate 1 still_step
     refine wpStill_nil ?_
     refine segs_two 1 6 (by kernel_rfl) (by rfl) (by rfl) ?_ ?_
     ·skip
      try simp only [xGs,xGz,xGo]
      go_simp
      try dsimp only
      try simp only [xGs,xGz,xGo,Act.put,xSi,xSz,xSs]
      refine segs_one 6 (by kernel_rfl) (by rfl) ?_
      try simp only [xGs,xGz,xGo]
      go_simp
      refine (HRT.out _).mono ?_
      rintro e w5 ⟨rfl,hb5⟩
      have H5:=Lib.hid (H5.out.drew.below hb5)
      have q0:=H5.out.row.1.cell 0
      simp only [List.getElem?_cons_succ,List.getElem?_cons_zero] at q0
      have ql:=H5.out.row.1.lt
      clear hb5
      try dsimp only
      try simp only [xGs,xGz,xGo,Act.put,xSi,xSz,xSs]
      refine segs_one 7 (by kernel_rfl) (by rfl) ?_
      try simp only [xGs,xGz,xGo]
      go_simp
      try dsimp only
      try simp only [xGs,xGz,xGo,Act.put,xSi,xSz,xSs]
      have H6:=Lib.hid ((H5.out.new 3 #[.int .i64 (z:Int)]).swap.pick 2 rfl)
      refine segs_one 8 (by kernel_rfl) (by rfl) ?_
      try simp only [xGs,xGz,xGo]
      refine wp_app slI (by rfl) (.tmp 13) (.tmp 19) (by rfl) H6.out.own (by rfl) (by rfl) (((Row.new w5 3 #[.int .i64 (z:Int)]).sl (B:=w5.heap.size+1) (size:=1) (n:=1) (o:=0) (ys:=[.int .i64 (z:Int)]) (Nat.lt_succ_self _) rfl rfl)) (by simp [Value.oneCell']) (by omega) (by omega) (by unfold maxLen;omega) H6.out.bel.size ?_
      intro g6 cap6 w6 ho6 hg6 hor6 hlt6
      have H7:=Lib.hid (H6.out.grown hg6 ho6 (fun g hg=>by cases hg;exact hor6)).swap
      have x0:=H7.out.row.1.cell 0
      simp only [List.getElem?_cons_succ,List.getElem?_cons_zero] at x0
      have xf:=H7.out.row.1.frozen 0
      have xl:=H7.out.row.1.lt
      clear ho6 hg6 hor6 hlt6 q0 ql
      try dsimp only
      try simp only [xGs,xGz,xGo,Act.put,xSi,xSz,xSs]
      refine segs_one 9 (by kernel_rfl) (by rfl) ?_
      try simp only [xGs,xGz,xGo]
      go_simp
      try dsimp only
      try simp only [xGs,xGz,xGo,Act.put,xSi,xSz,xSs]
      refine segs_one 10 (by kernel_rfl) (by rfl) ?_
      try simp only [xGs,xGz,xGo]
      go_simp
      try dsimp only
      refine segs_end (by kernel_rfl) ?_
      have H8:=Lib.hid (H7.out.set 0 (.slice (some ⟨g6,0,none⟩) (k+1) cap6))
      go_wp2_with (fail)
      go_meet
      have h:=(H8.out.pick 2 rfl).drop
      rw [HKF.out,List.length_append,kF_len,show min k 8=k by omega,nats_snoc]
      first|exact ⟨.slice (some ⟨g6,0,none⟩) (k+1) cap6,h⟩|exact ⟨.slice (some ⟨g6,0,none⟩) (k+1) cap6,rfl,rfl,rfl,rfl,h⟩
     ·try simp only [xGs,xGz,xGo]
      go_simp
      refine (HRT.out _).mono ?_
      rintro e w5 ⟨rfl,hb5⟩
      have H5:=Lib.hid (H5.out.drew.below hb5)
      have q0:=H5.out.row.1.cell 0
      simp only [List.getElem?_cons_succ,List.getElem?_cons_zero] at q0
      have ql:=H5.out.row.1.lt
      clear hb5
      try dsimp only
      try simp only [xGs,xGz,xGo,Act.put,xSi,xSz,xSs]
      refine segs_two 1 7 (by kernel_rfl) (by rfl) (by rfl) ?_ ?_
      ·skip
       try simp only [xGs,xGz,xGo]
       go_simp
       try dsimp only
       try simp only [xGs,xGz,xGo,Act.put,xSi,xSz,xSs]
       refine segs_one 7 (by kernel_rfl) (by rfl) ?_
       try simp only [xGs,xGz,xGo]
       go_simp
       try dsimp only
       try simp only [xGs,xGz,xGo,Act.put,xSi,xSz,xSs]
       have H6:=Lib.hid ((H5.out.new 3 #[.int .i64 (z:Int)]).swap.pick 2 rfl)
       refine segs_one 8 (by kernel_rfl) (by rfl) ?_
       try simp only [xGs,xGz,xGo]
       refine wp_app slI (by rfl) (.tmp 13) (.tmp 19) (by rfl) H6.out.own (by rfl) (by rfl) (((Row.new w5 3 #[.int .i64 (z:Int)]).sl (B:=w5.heap.size+1) (size:=1) (n:=1) (o:=0) (ys:=[.int .i64 (z:Int)]) (Nat.lt_succ_self _) rfl rfl)) (by simp [Value.oneCell']) (by omega) (by omega) (by unfold maxLen;omega) H6.out.bel.size ?_
       intro g6 cap6 w6 ho6 hg6 hor6 hlt6
       have H7:=Lib.hid (H6.out.grown hg6 ho6 (fun g hg=>by cases hg;exact hor6)).swap
       have x0:=H7.out.row.1.cell 0
       simp only [List.getElem?_cons_succ,List.getElem?_cons_zero] at x0
       have xf:=H7.out.row.1.frozen 0
       have xl:=H7.out.row.1.lt
       clear ho6 hg6 hor6 hlt6 q0 ql
       try dsimp only
       try simp only [xGs,xGz,xGo,Act.put,xSi,xSz,xSs]
       refine segs_one 9 (by kernel_rfl) (by rfl) ?_
       try simp only [xGs,xGz,xGo]
       go_simp
       try dsimp only
       try simp only [xGs,xGz,xGo,Act.put,xSi,xSz,xSs]
       refine segs_one 10 (by kernel_rfl) (by rfl) ?_
       try simp only [xGs,xGz,xGo]
       go_simp
       try dsimp only
       refine segs_end (by kernel_rfl) ?_
       have H8:=Lib.hid (H7.out.set 0 (.slice (some ⟨g6,0,none⟩) (k+1) cap6))
       go_wp2_with (fail)
       go_meet
       have h:=(H8.out.pick 2 rfl).drop
       rw [HKF.out,List.length_append,kF_len,show min k 8=k by omega,nats_snoc]
       first|exact ⟨.slice (some ⟨g6,0,none⟩) (k+1) cap6,h⟩|exact ⟨.slice (some ⟨g6,0,none⟩) (k+1) cap6,rfl,rfl,rfl,rfl,h⟩
      ·try simp only [xGs,xGz,xGo]
       go_simp
       try dsimp only
       try simp only [xGs,xGz,xGo,Act.put,xSi,xSz,xSs]
       refine segs_one 1 (by kernel_rfl) (by rfl) ?_
       try simp only [xGs,xGz,xGo]
       go_simp
       try dsimp only
       try simp only [xGs,xGz,xGo,Act.put,xSi,xSz,xSs]
       have H6:=Lib.hid ((H5.out.new 3 #[.int .i64 (z:Int)]).swap.pick 2 rfl)
       refine segs_one 8 (by kernel_rfl) (by rfl) ?_
       try simp only [xGs,xGz,xGo]
       refine wp_app slI (by rfl) (.tmp 13) (.tmp 19) (by rfl) H6.out.own (by rfl) (by rfl) (((Row.new w5 3 #[.int .i64 (z:Int)]).sl (B:=w5.heap.size+1) (size:=1) (n:=1) (o:=0) (ys:=[.int .i64 (z:Int)]) (Nat.lt_succ_self _) rfl rfl)) (by simp [Value.oneCell']) (by omega) (by omega) (by unfold maxLen;omega) H6.out.bel.size ?_
       intro g6 cap6 w6 ho6 hg6 hor6 hlt6
       have H7:=Lib.hid (H6.out.grown hg6 ho6 (fun g hg=>by cases hg;exact hor6)).swap
       have x0:=H7.out.row.1.cell 0
       simp only [List.getElem?_cons_succ,List.getElem?_cons_zero] at x0
       have xf:=H7.out.row.1.frozen 0
       have xl:=H7.out.row.1.lt
       clear ho6 hg6 hor6 hlt6 q0 ql
       try dsimp only
       try simp only [xGs,xGz,xGo,Act.put,xSi,xSz,xSs]
       refine segs_one 9 (by kernel_rfl) (by rfl) ?_
       try simp only [xGs,xGz,xGo]
       go_simp
       try dsimp only
       try simp only [xGs,xGz,xGo,Act.put,xSi,xSz,xSs]
       refine segs_one 10 (by kernel_rfl) (by rfl) ?_
       try simp only [xGs,xGz,xGo]
       go_simp
       try dsimp only
       refine segs_end (by kernel_rfl) ?_
       have H8:=Lib.hid (H7.out.set 0 (.slice (some ⟨g6,0,none⟩) (k+1) cap6))
       go_wp2_with (fail)
       go_meet
       have h:=(H8.out.pick 2 rfl).drop
       rw [HKF.out,List.length_append,kF_len,show min k 8=k by omega,nats_snoc]
       first|exact ⟨.slice (some ⟨g6,0,none⟩) (k+1) cap6,h⟩|exact ⟨.slice (some ⟨g6,0,none⟩) (k+1) cap6,rfl,rfl,rfl,rfl,h⟩
    case rest =>
     obtain ⟨v1',rfl,rfl,rfl,rfl,h9⟩:=hcut
     have hx9:=(h9.pick 2 rfl).swap
     have H9:=Lib.hid hx9
     have p1:=hx9.row.1.cell 1
     simp only [List.getElem?_cons_succ,List.getElem?_cons_zero] at p1
     have pl:=hx9.row.1.lt
     have cA:=(nsl_get (Sl.of_own (h9.pick 3 rfl).own) primes_len k hlt)
     rw [hpk] at cA
     obtain ⟨bB,oB,hAB,hbA,cA⟩:=cA
     cases hAB
     clear h9 hx9 hpk
     generalize hz:rootL pk 3=z at *
     have HZ:=Lib.hid hz
     have HKR:=Lib.hid hkR
     clear hz hkR
     have HRT:=Lib.hid (fun w=>root_at w pk 3 hkp (by omega) (by omega))
     rw [HZ.out] at HRT
     go_upto_region 8 with fail
     refine segs_start (by kernel_rfl) ?_
     refine segs_take [0,2,3,4] (by kernel_rfl) (fun _ _ _ _ _ h=>h) ?_
     simp only [pick,xGs,xGz,xGo]
     iterate 4 still_step
     refine wpStill_nil ?_
     refine segs_take [5] (by kernel_rfl) (fun _ _ _ _ _ h=>h) ?_
     simp only [pick,xGs,xGz,xGo]
     iterate 1 still_step
     refine wpStill_nil ?_
     refine segs_two 1 6 (by kernel_rfl) (by rfl) (by rfl) ?_ ?_
     ·skip
      try simp only [xGs,xGz,xGo]
      go_simp
      try dsimp only
      try simp only [xGs,xGz,xGo,Act.put,xSi,xSz,xSs]
      refine segs_one 6 (by kernel_rfl) (by rfl) ?_
      try simp only [xGs,xGz,xGo]
      go_simp
      refine (HRT.out _).mono ?_
      rintro e w5 ⟨rfl,hb5⟩
      have H5:=Lib.hid (H9.out.drew.below hb5)
      have q0:=H5.out.row.1.cell 1
      simp only [List.getElem?_cons_succ,List.getElem?_cons_zero] at q0
      have ql:=H5.out.row.1.lt
      clear hb5
      try dsimp only
      try simp only [xGs,xGz,xGo,Act.put,xSi,xSz,xSs]
      refine segs_one 7 (by kernel_rfl) (by rfl) ?_
      try simp only [xGs,xGz,xGo]
      go_simp
      try dsimp only
      try simp only [xGs,xGz,xGo,Act.put,xSi,xSz,xSs]
      have H6:=Lib.hid ((H5.out.new 3 #[.int .i64 (z:Int)]).swap.pick 2 rfl)
      refine segs_one 8 (by kernel_rfl) (by rfl) ?_
      try simp only [xGs,xGz,xGo]
      refine wp_app slI (by rfl) (.tmp 23) (.tmp 29) (by rfl) H6.out.own (by rfl) (by rfl) (((Row.new w5 3 #[.int .i64 (z:Int)]).sl (B:=w5.heap.size+1) (size:=1) (n:=1) (o:=0) (ys:=[.int .i64 (z:Int)]) (Nat.lt_succ_self _) rfl rfl)) (by simp [Value.oneCell']) (by omega) (by omega) (by unfold maxLen;omega) H6.out.bel.size ?_
      intro g6 cap6 w6 ho6 hg6 hor6 hlt6
      have H7:=Lib.hid (H6.out.grown hg6 ho6 (fun g hg=>by cases hg;exact hor6)).swap
      have x0:=H7.out.row.1.cell 1
      simp only [List.getElem?_cons_succ,List.getElem?_cons_zero] at x0
      have xf:=H7.out.row.1.frozen 1
      have xl:=H7.out.row.1.lt
      clear ho6 hg6 hor6 hlt6 q0 ql
      try dsimp only
      try simp only [xGs,xGz,xGo,Act.put,xSi,xSz,xSs]
      refine segs_one 9 (by kernel_rfl) (by rfl) ?_
      try simp only [xGs,xGz,xGo]
      go_simp
      try dsimp only
      try simp only [xGs,xGz,xGo,Act.put,xSi,xSz,xSs]
      refine segs_one 10 (by kernel_rfl) (by rfl) ?_
      try simp only [xGs,xGz,xGo]
      go_simp
      try dsimp only
      refine segs_end (by kernel_rfl) ?_
      have H8:=Lib.hid (H7.out.set 1 (.slice (some ⟨g6,0,none⟩) (k+1) cap6))
      go_wp2_with (fail)
      go_roundw
      case rel =>
       refine ⟨k+1,v1',.slice (some ⟨g6,0,none⟩) (k+1) cap6,by omega,by go_num,?_⟩
       have h:=((H8.out.pick 2 rfl).drop.pick 2 rfl).swap
       rw [HKR.out,nats_snoc]
       exact h
      case measure=>simp [intOf];omega
     ·try simp only [xGs,xGz,xGo]
      go_simp
      refine (HRT.out _).mono ?_
      rintro e w5 ⟨rfl,hb5⟩
      have H5:=Lib.hid (H9.out.drew.below hb5)
      have q0:=H5.out.row.1.cell 1
      simp only [List.getElem?_cons_succ,List.getElem?_cons_zero] at q0
      have ql:=H5.out.row.1.lt
      clear hb5
      try dsimp only
      try simp only [xGs,xGz,xGo,Act.put,xSi,xSz,xSs]
      refine segs_two 1 7 (by kernel_rfl) (by rfl) (by rfl) ?_ ?_
      ·skip
       try simp only [xGs,xGz,xGo]
       go_simp
       try dsimp only
       try simp only [xGs,xGz,xGo,Act.put,xSi,xSz,xSs]
       refine segs_one 7 (by kernel_rfl) (by rfl) ?_
       try simp only [xGs,xGz,xGo]
       go_simp
       try dsimp only
       try simp only [xGs,xGz,xGo,Act.put,xSi,xSz,xSs]
       have H6:=Lib.hid ((H5.out.new 3 #[.int .i64 (z:Int)]).swap.pick 2 rfl)
       refine segs_one 8 (by kernel_rfl) (by rfl) ?_
       try simp only [xGs,xGz,xGo]
       refine wp_app slI (by rfl) (.tmp 23) (.tmp 29) (by rfl) H6.out.own (by rfl) (by rfl) (((Row.new w5 3 #[.int .i64 (z:Int)]).sl (B:=w5.heap.size+1) (size:=1) (n:=1) (o:=0) (ys:=[.int .i64 (z:Int)]) (Nat.lt_succ_self _) rfl rfl)) (by simp [Value.oneCell']) (by omega) (by omega) (by unfold maxLen;omega) H6.out.bel.size ?_
       intro g6 cap6 w6 ho6 hg6 hor6 hlt6
       have H7:=Lib.hid (H6.out.grown hg6 ho6 (fun g hg=>by cases hg;exact hor6)).swap
       have x0:=H7.out.row.1.cell 1
       simp only [List.getElem?_cons_succ,List.getElem?_cons_zero] at x0
       have xf:=H7.out.row.1.frozen 1
       have xl:=H7.out.row.1.lt
       clear ho6 hg6 hor6 hlt6 q0 ql
       try dsimp only
       try simp only [xGs,xGz,xGo,Act.put,xSi,xSz,xSs]
       refine segs_one 9 (by kernel_rfl) (by rfl) ?_
       try simp only [xGs,xGz,xGo]
       go_simp
       try dsimp only
       try simp only [xGs,xGz,xGo,Act.put,xSi,xSz,xSs]
       refine segs_one 10 (by kernel_rfl) (by rfl) ?_
       try simp only [xGs,xGz,xGo]
       go_simp
       try dsimp only
       refine segs_end (by kernel_rfl) ?_
       have H8:=Lib.hid (H7.out.set 1 (.slice (some ⟨g6,0,none⟩) (k+1) cap6))
       go_wp2_with (fail)
       go_roundw
       case rel =>
        refine ⟨k+1,v1',.slice (some ⟨g6,0,none⟩) (k+1) cap6,by omega,by go_num,?_⟩
        have h:=((H8.out.pick 2 rfl).drop.pick 2 rfl).swap
        rw [HKR.out,nats_snoc]
        exact h
       case measure=>simp [intOf];omega
      ·try simp only [xGs,xGz,xGo]
       go_simp
       try dsimp only
       try simp only [xGs,xGz,xGo,Act.put,xSi,xSz,xSs]
       refine segs_one 1 (by kernel_rfl) (by rfl) ?_
       try simp only [xGs,xGz,xGo]
       go_simp
       try dsimp only
       try simp only [xGs,xGz,xGo,Act.put,xSi,xSz,xSs]
       have H6:=Lib.hid ((H5.out.new 3 #[.int .i64 (z:Int)]).swap.pick 2 rfl)
       refine segs_one 8 (by kernel_rfl) (by rfl) ?_
       try simp only [xGs,xGz,xGo]
       refine wp_app slI (by rfl) (.tmp 23) (.tmp 29) (by rfl) H6.out.own (by rfl) (by rfl) (((Row.new w5 3 #[.int .i64 (z:Int)]).sl (B:=w5.heap.size+1) (size:=1) (n:=1) (o:=0) (ys:=[.int .i64 (z:Int)]) (Nat.lt_succ_self _) rfl rfl)) (by simp [Value.oneCell']) (by omega) (by omega) (by unfold maxLen;omega) H6.out.bel.size ?_
       intro g6 cap6 w6 ho6 hg6 hor6 hlt6
       have H7:=Lib.hid (H6.out.grown hg6 ho6 (fun g hg=>by cases hg;exact hor6)).swap
       have x0:=H7.out.row.1.cell 1
       simp only [List.getElem?_cons_succ,List.getElem?_cons_zero] at x0
       have xf:=H7.out.row.1.frozen 1
       have xl:=H7.out.row.1.lt
       clear ho6 hg6 hor6 hlt6 q0 ql
       try dsimp only
       try simp only [xGs,xGz,xGo,Act.put,xSi,xSz,xSs]
       refine segs_one 9 (by kernel_rfl) (by rfl) ?_
       try simp only [xGs,xGz,xGo]
       go_simp
       try dsimp only
       try simp only [xGs,xGz,xGo,Act.put,xSi,xSz,xSs]
       refine segs_one 10 (by kernel_rfl) (by rfl) ?_
       try simp only [xGs,xGz,xGo]
       go_simp
       try dsimp only
       refine segs_end (by kernel_rfl) ?_
       have H8:=Lib.hid (H7.out.set 1 (.slice (some ⟨g6,0,none⟩) (k+1) cap6))
       go_wp2_with (fail)
       go_roundw
       case rel =>
        refine ⟨k+1,v1',.slice (some ⟨g6,0,none⟩) (k+1) cap6,by omega,by go_num,?_⟩
        have h:=((H8.out.pick 2 rfl).drop.pick 2 rfl).swap
        rw [HKR.out,nats_snoc]
        exact h
       case measure=>simp [intOf];omega
   ·have h8':¬(k:Int) < 8:=by omega
    have hkF:=kF_stop k (by omega)
    obtain ⟨pk,hpk⟩:∃pk,primes.getD k 0=pk:=⟨_,rfl⟩
    rw [hpk] at hkR hkp cA
    have hx9:=(H4.out.pick 2 rfl).swap
    have H9:=Lib.hid hx9
    have p1:=hx9.row.1.cell 1
    simp only [List.getElem?_cons_succ,List.getElem?_cons_zero] at p1
    have pl:=hx9.row.1.lt
    generalize hz:rootL pk 3=z at *
    have HZ:=Lib.hid hz
    have HKR:=Lib.hid hkR;have HKF:=Lib.hid hkF
    clear hz hkR hx9 hpk hkF
    have HRT:=Lib.hid (fun w=>root_at w pk 3 hkp (by omega) (by omega))
    rw [HZ.out] at HRT
    go_upto_region 8 with fail
    refine segs_start (by kernel_rfl) ?_
    refine segs_take [0,2,3,4] (by kernel_rfl) (fun _ _ _ _ _ h=>h) ?_
    simp only [pick,xGs,xGz,xGo]
    iterate 4 still_step
    refine wpStill_nil ?_
    refine segs_take [5] (by kernel_rfl) (fun _ _ _ _ _ h=>h) ?_
    simp only [pick,xGs,xGz,xGo]
    iterate 1 still_step
    refine wpStill_nil ?_
    refine segs_two 1 6 (by kernel_rfl) (by rfl) (by rfl) ?_ ?_
    ·skip
     try simp only [xGs,xGz,xGo]
     go_simp
     try dsimp only
     try simp only [xGs,xGz,xGo,Act.put,xSi,xSz,xSs]
     refine segs_one 6 (by kernel_rfl) (by rfl) ?_
     try simp only [xGs,xGz,xGo]
     go_simp
     refine (HRT.out _).mono ?_
     rintro e w5 ⟨rfl,hb5⟩
     have H5:=Lib.hid (H9.out.drew.below hb5)
     have q0:=H5.out.row.1.cell 1
     simp only [List.getElem?_cons_succ,List.getElem?_cons_zero] at q0
     have ql:=H5.out.row.1.lt
     clear hb5
     try dsimp only
     try simp only [xGs,xGz,xGo,Act.put,xSi,xSz,xSs]
     refine segs_one 7 (by kernel_rfl) (by rfl) ?_
     try simp only [xGs,xGz,xGo]
     go_simp
     try dsimp only
     try simp only [xGs,xGz,xGo,Act.put,xSi,xSz,xSs]
     have H6:=Lib.hid ((H5.out.new 3 #[.int .i64 (z:Int)]).swap.pick 2 rfl)
     refine segs_one 8 (by kernel_rfl) (by rfl) ?_
     try simp only [xGs,xGz,xGo]
     refine wp_app slI (by rfl) (.tmp 23) (.tmp 29) (by rfl) H6.out.own (by rfl) (by rfl) (((Row.new w5 3 #[.int .i64 (z:Int)]).sl (B:=w5.heap.size+1) (size:=1) (n:=1) (o:=0) (ys:=[.int .i64 (z:Int)]) (Nat.lt_succ_self _) rfl rfl)) (by simp [Value.oneCell']) (by omega) (by omega) (by unfold maxLen;omega) H6.out.bel.size ?_
     intro g6 cap6 w6 ho6 hg6 hor6 hlt6
     have H7:=Lib.hid (H6.out.grown hg6 ho6 (fun g hg=>by cases hg;exact hor6)).swap
     have x0:=H7.out.row.1.cell 1
     simp only [List.getElem?_cons_succ,List.getElem?_cons_zero] at x0
     have xf:=H7.out.row.1.frozen 1
     have xl:=H7.out.row.1.lt
     clear ho6 hg6 hor6 hlt6 q0 ql
     try dsimp only
     try simp only [xGs,xGz,xGo,Act.put,xSi,xSz,xSs]
     refine segs_one 9 (by kernel_rfl) (by rfl) ?_
     try simp only [xGs,xGz,xGo]
     go_simp
     try dsimp only
     try simp only [xGs,xGz,xGo,Act.put,xSi,xSz,xSs]
     refine segs_one 10 (by kernel_rfl) (by rfl) ?_
     try simp only [xGs,xGz,xGo]
     go_simp
     try dsimp only
     refine segs_end (by kernel_rfl) ?_
     have H8:=Lib.hid (H7.out.set 1 (.slice (some ⟨g6,0,none⟩) (k+1) cap6))
     go_wp2_with (fail)
     go_roundw
     case rel =>
      refine ⟨k+1,v1,.slice (some ⟨g6,0,none⟩) (k+1) cap6,by omega,by go_num,?_⟩
      rw [HKF.out]
      have h:=((H8.out.pick 2 rfl).drop.pick 2 rfl).swap
      rw [HKR.out,nats_snoc]
      exact h
     case measure=>simp [intOf];omega
    ·try simp only [xGs,xGz,xGo]
     go_simp
     refine (HRT.out _).mono ?_
     rintro e w5 ⟨rfl,hb5⟩
     have H5:=Lib.hid (H9.out.drew.below hb5)
     have q0:=H5.out.row.1.cell 1
     simp only [List.getElem?_cons_succ,List.getElem?_cons_zero] at q0
     have ql:=H5.out.row.1.lt
     clear hb5
     try dsimp only
     try simp only [xGs,xGz,xGo,Act.put,xSi,xSz,xSs]
     refine segs_two 1 7 (by kernel_rfl) (by rfl) (by rfl) ?_ ?_
     ·skip
      try simp only [xGs,xGz,xGo]
      go_simp
      try dsimp only
      try simp only [xGs,xGz,xGo,Act.put,xSi,xSz,xSs]
      refine segs_one 7 (by kernel_rfl) (by rfl) ?_
      try simp only [xGs,xGz,xGo]
      go_simp
      try dsimp only
      try simp only [xGs,xGz,xGo,Act.put,xSi,xSz,xSs]
      have H6:=Lib.hid ((H5.out.new 3 #[.int .i64 (z:Int)]).swap.pick 2 rfl)
      refine segs_one 8 (by kernel_rfl) (by rfl) ?_
      try simp only [xGs,xGz,xGo]
      refine wp_app slI (by rfl) (.tmp 23) (.tmp 29) (by rfl) H6.out.own (by rfl) (by rfl) (((Row.new w5 3 #[.int .i64 (z:Int)]).sl (B:=w5.heap.size+1) (size:=1) (n:=1) (o:=0) (ys:=[.int .i64 (z:Int)]) (Nat.lt_succ_self _) rfl rfl)) (by simp [Value.oneCell']) (by omega) (by omega) (by unfold maxLen;omega) H6.out.bel.size ?_
      intro g6 cap6 w6 ho6 hg6 hor6 hlt6
      have H7:=Lib.hid (H6.out.grown hg6 ho6 (fun g hg=>by cases hg;exact hor6)).swap
      have x0:=H7.out.row.1.cell 1
      simp only [List.getElem?_cons_succ,List.getElem?_cons_zero] at x0
      have xf:=H7.out.row.1.frozen 1
      have xl:=H7.out.row.1.lt
      clear ho6 hg6 hor6 hlt6 q0 ql
      try dsimp only
      try simp only [xGs,xGz,xGo,Act.put,xSi,xSz,xSs]
      refine segs_one 9 (by kernel_rfl) (by rfl) ?_
      try simp only [xGs,xGz,xGo]
      go_simp
      try dsimp only
      try simp only [xGs,xGz,xGo,Act.put,xSi,xSz,xSs]
      refine segs_one 10 (by kernel_rfl) (by rfl) ?_
      try simp only [xGs,xGz,xGo]
      go_simp
      try dsimp only
      refine segs_end (by kernel_rfl) ?_
      have H8:=Lib.hid (H7.out.set 1 (.slice (some ⟨g6,0,none⟩) (k+1) cap6))
      go_wp2_with (fail)
      go_roundw
      case rel =>
       refine ⟨k+1,v1,.slice (some ⟨g6,0,none⟩) (k+1) cap6,by omega,by go_num,?_⟩
       rw [HKF.out]
       have h:=((H8.out.pick 2 rfl).drop.pick 2 rfl).swap
       rw [HKR.out,nats_snoc]
       exact h
      case measure=>simp [intOf];omega
     ·try simp only [xGs,xGz,xGo]
      go_simp
      try dsimp only
      try simp only [xGs,xGz,xGo,Act.put,xSi,xSz,xSs]
      refine segs_one 1 (by kernel_rfl) (by rfl) ?_
      try simp only [xGs,xGz,xGo]
      go_simp
      try dsimp only
      try simp only [xGs,xGz,xGo,Act.put,xSi,xSz,xSs]
      have H6:=Lib.hid ((H5.out.new 3 #[.int .i64 (z:Int)]).swap.pick 2 rfl)
      refine segs_one 8 (by kernel_rfl) (by rfl) ?_
      try simp only [xGs,xGz,xGo]
      refine wp_app slI (by rfl) (.tmp 23) (.tmp 29) (by rfl) H6.out.own (by rfl) (by rfl) (((Row.new w5 3 #[.int .i64 (z:Int)]).sl (B:=w5.heap.size+1) (size:=1) (n:=1) (o:=0) (ys:=[.int .i64 (z:Int)]) (Nat.lt_succ_self _) rfl rfl)) (by simp [Value.oneCell']) (by omega) (by omega) (by unfold maxLen;omega) H6.out.bel.size ?_
      intro g6 cap6 w6 ho6 hg6 hor6 hlt6
      have H7:=Lib.hid (H6.out.grown hg6 ho6 (fun g hg=>by cases hg;exact hor6)).swap
      have x0:=H7.out.row.1.cell 1
      simp only [List.getElem?_cons_succ,List.getElem?_cons_zero] at x0
      have xf:=H7.out.row.1.frozen 1
      have xl:=H7.out.row.1.lt
      clear ho6 hg6 hor6 hlt6 q0 ql
      try dsimp only
      try simp only [xGs,xGz,xGo,Act.put,xSi,xSz,xSs]
      refine segs_one 9 (by kernel_rfl) (by rfl) ?_
      try simp only [xGs,xGz,xGo]
      go_simp
      try dsimp only
      try simp only [xGs,xGz,xGo,Act.put,xSi,xSz,xSs]
      refine segs_one 10 (by kernel_rfl) (by rfl) ?_
      try simp only [xGs,xGz,xGo]
      go_simp
      try dsimp only
      refine segs_end (by kernel_rfl) ?_
      have H8:=Lib.hid (H7.out.set 1 (.slice (some ⟨g6,0,none⟩) (k+1) cap6))
      go_wp2_with (fail)
      go_roundw
      case rel =>
       refine ⟨k+1,v1,.slice (some ⟨g6,0,none⟩) (k+1) cap6,by omega,by go_num,?_⟩
       rw [HKF.out]
       have h:=((H8.out.pick 2 rfl).drop.pick 2 rfl).swap
       rw [HKR.out,nats_snoc]
       exact h
      case measure=>simp [intOf];omega
  ·have hlt':¬(k:Int) < 64:=by omega
   have hk8:k=64:=by omega
   have hx:=H4.out
   rw [hk8,kF_all,kR_all] at hx
   obtain ⟨A1,c1,rfl,_,_⟩:=own_form (hx.pick 1 rfl).own
   obtain ⟨A2,c2,rfl,_,_⟩:=own_form (hx.pick 2 rfl).own
   have hx0:=hx.row.1.cell 0;have hx1:=hx.row.1.cell 1
   simp only [List.getElem?_cons_succ,List.getElem?_cons_zero] at hx0 hx1
   have hr:=hx.pick 4 rfl
   have hr0:=hr.row.1.cell 0;have hr1:=hr.row.1.cell 1;have hf0:=hr.row.1.frozen 0;have hf1:=hr.row.1.frozen 1
   simp only [List.getElem?_cons_succ,List.getElem?_cons_zero] at hr0 hr1
   have hlr:=hr.row.1.lt
   have HR:=Lib.hid ((hr.set 0 (.slice A1 8 c1)).set 1 (.slice A2 64 c2))
   clear hk8 hx hr
   go_wp2_with (fail)
   refine bodyPost_ret (results_cell_row (cs:=#[.slice A1 8 c1,.slice A2 64 c2]) rfl _ _ w.heap.size _ _ _ rfl HR.out.row.1 Tryz.underlying264 rfl (by kernel_rfl)) rfl ?_
   exact ⟨_,_,rfl,(HR.out.drop.drop).take 2⟩
end sha
namespace plan


open Go.RowKit
section
variable {P : Program} {ops : Array Oper} {md : Region.Mode} {C : World → Prop}
def wpAnyHq (P:Program) (md:Region.Mode) (ops:Array Oper) (C:World→Prop) (Q:Array Bool→Act→Prop):Nat→Array Bool→Act→Prop
 | 0,listed,a=>Q listed a
 | fuel+1,listed,a=>Region.ready md ops listed≠[]∧∀i∈Region.ready md ops listed,qOp P ops C i (wpAnyHq P md ops C Q fuel (listed.setIfInBounds i true)) a
theorem wpAny_of_H {Q:Array Bool→Act→Prop} {Q':Exit→Act→World→Prop} {n:Nat} (hQ:∀L a w,C w→Q L a→wpAny P md ops Q' n L a w):∀(fuel:Nat) (listed:Array Bool) (a:Act) (w:World),C w→wpAnyHq P md ops C Q fuel listed a→wpAny P md ops Q' (fuel+n) listed a w
 | 0,L,a,w,hw,h=>by rw [Nat.zero_add];exact hQ L a w hw h
 | fuel+1,L,a,w,hw,h=>by
   rw [show fuel+1+n=(fuel+n)+1 by omega]
   exact ⟨fun h0=>absurd h0 h.1,fun i hi=>wpOp_of_qOp hw (fun a' w' hw' hk=>wpAny_of_H hQ fuel _ a' w' hw' hk) (h.2 i hi)⟩
structure Left (md:Region.Mode) (ops:Array Oper) (rem:List Nat) (listed:Array Bool):Prop where
 nd:rem.Nodup
 cl:Closed md ops listed
 un:∀i∈rem,listed.getD i true=false
 wt:∀i∈rem,waitB md ops i (waitSet md ops i)=true
 cov:∀j,listed.getD j true=false→j∈rem∨∀i∈rem,(waitSet md ops i).getD j false=true
theorem Left.ready {rem:List Nat} {listed:Array Bool} (h:Left md ops rem listed) {i j:Nat} (hi:i∈rem) (hj:j∈Region.ready md ops listed):j∈rem:=by
 rcases h.cov j (mem_ready.1 hj).1 with k|k
 ·exact k
 ·by_cases e:j=i
  ·rw [e];exact hi
  ·have h1:=not_ready (h.wt i hi) h.cl (by
    have:=h.un i hi
    by_cases hs:i < listed.size
    ·simp [hs] at this ⊢;exact this
    ·simp [Array.getElem?_eq_none (Nat.le_of_not_lt hs)] at this) hj e
   rw [k i hi] at h1
   cases h1
theorem Left.step {rem:List Nat} {listed:Array Bool} (h:Left md ops rem listed) {j:Nat} (hj:j∈Region.ready md ops listed) (hm:j∈rem):Left md ops (rem.erase j) (listed.setIfInBounds j true) where
 nd:=h.nd.erase j
 cl:=h.cl.set hj
 un:=fun i hi=>by
  have h1:=(h.nd.mem_erase_iff).1 hi
  rw [getD_set_ne true (Ne.symm h1.1)]
  exact h.un i h1.2
 wt:=fun i hi=>h.wt i (List.mem_of_mem_erase hi)
 cov:=fun x hx=>by
  by_cases e:j=x
  ·subst e
   by_cases hs:j < listed.size
   ·simp [hs] at hx
   ·simp [Array.getElem?_eq_none (Nat.le_of_not_lt hs)] at hx
  ·rw [getD_set_ne true e] at hx
   rcases h.cov x hx with k|k
   ·exact .inl (h.nd.mem_erase_iff.2 ⟨fun q=>e q.symm,k⟩)
   ·exact .inr fun i hi=>k i (List.mem_of_mem_erase hi)
theorem wpAnyHq_first {Q:Array Bool→Act→Prop} {i:Nat} {oi:Oper} {v:Value} (hi:ops[i]?=some oi) (hsel:∀(j:Nat) (o:Oper) cs b,ops[j]?=some o→o.op≠.select cs b) :
  ∀(fuel:Nat) (rem:List Nat) (listed:Array Bool) (a:Act),rem.length=fuel+1→i∈rem→Left md ops rem listed→
   (∀j oj,ops[j]?=some oj→j≠i→listed.getD j true=false→(∀e∈oj.after,Region.binds md e=true→e.on≠i)→oi.apart ops oj=true)→
   i∈Region.ready md ops listed→YieldsIn P ops C oi v a→
   wpAnyHq P md ops C Q fuel (listed.setIfInBounds i true) (a.put oi.dst v)→wpAnyHq P md ops C Q (fuel+1) listed a:=by
 intro fuel
 induction fuel with
 | zero =>
   intro rem listed a hl hir hL _ hr hy H
   refine ⟨fun h=>(by rw [h] at hr;cases hr),fun j hj=>?_⟩
   have hjr:=hL.ready hir hj
   obtain ⟨x,hx⟩:=List.length_eq_one_iff.1 hl
   rw [hx] at hjr hir
   have e:j=i:=(List.mem_singleton.1 hjr).trans (List.mem_singleton.1 hir).symm
   subst e
   exact hy.qOp hi H
 | succ fuel ih =>
   intro rem listed a hl hir hL hfree hr hy H
   refine ⟨fun h=>(by rw [h] at hr;cases hr),fun j hj=>?_⟩
   by_cases hji:j=i
   ·subst hji;exact hy.qOp hi H
   ·have hjr:=hL.ready hir hj
    have h1:=H.2 j (ready_mono hj hji)
    obtain ⟨hjun,oj,hoj,hall⟩:=mem_ready.1 hj
    have hnot:∀e∈oj.after,Region.binds md e=true→e.on≠i:=fun e he hb heq=>by
     have h1:=hall e he hb
     have h0:=(mem_ready.1 hr).1
     rw [heq] at h1
     rcases Nat.lt_or_ge i listed.size with h'|h'
     ·simp [h'] at h0 h1;rw [h0] at h1;cases h1
     ·simp [Array.getElem?_eq_none h'] at h1
    have h2:=qOp_put hoj (hfree j oj hoj hji hjun hnot) (fun cs b=>hsel i oi cs b hi) (fun cs b=>hsel j oj cs b hoj) hy h1
    have hfree':∀k ok,ops[k]?=some ok→k≠i→(listed.setIfInBounds j true).getD k true=false→
      (∀e∈ok.after,Region.binds md e=true→e.on≠i)→oi.apart ops ok=true:=fun k ok hk hki hun hno=>by
     refine hfree k ok hk hki ?_ hno
     by_cases hjk:j=k
     ·subst hjk;exact hjun
     ·rw [getD_set_ne true hjk] at hun;exact hun
    refine qOp_mono (fun a' h3=>ih (rem.erase j) (listed.setIfInBounds j true) a' (by rw [List.length_erase_of_mem hjr,hl];rfl) ((List.mem_erase_of_ne (Ne.symm hji)).2 hir) (hL.step hj hjr) hfree' (ready_mono hr (Ne.symm hji)) h3.1 ?_) h2
    rw [Array.setIfInBounds_comm _ _ hji]
    exact h3.2
def headsQ (md:Region.Mode) (ops:Array Oper):List Nat→Array Bool→Bool
 | [],_=>true
 | i::r,listed=>(Region.ready md ops listed).contains i&&Region.free md ops listed i&&headsQ md ops r (listed.setIfInBounds i true)
end
section
variable {P : Program} {l : List Oper} {md : Region.Mode} {C : World → Prop}
theorem wpAnyHq_heads {Q:Array Bool→Act→Prop} (hs:Region.noSelect l.toArray=true):∀(hd:List Nat) (listed:Array Bool) (a:Act),Left md l.toArray hd listed→headsQ md l.toArray hd listed=true→
  wpQuiet P l.toArray C (fun a'=>Q (heard hd listed) a') (pick l hd) a→wpAnyHq P md l.toArray C Q hd.length listed a
 | [],_,_,_,_,h=>h
 | i::r,listed,a,hL,hB,h=>by
   simp only [headsQ,Bool.and_eq_true] at hB
   obtain ⟨⟨hr,hf⟩,hB'⟩:=hB
   have hr':i∈Region.ready md l.toArray listed:=by simpa using hr
   obtain ⟨_,oi,hoi,_⟩:=mem_ready.1 hr'
   have hget:(l[i]?).getD default=oi:=by
    have:l[i]?=some oi:=by simpa using hoi
    rw [this];rfl
   have hst:qOp P l.toArray C i (wpQuiet P l.toArray C (fun a'=>Q (heard r (listed.setIfInBounds i true)) a') (pick l r)) a:=by
    unfold qOp
    simp only [hoi]
    simp only [pick,hget] at h
    exact h
   obtain ⟨v,hy,hK⟩:=yieldsIn_of_qOp hoi hst
   have hL2:=hL.step hr' (List.mem_cons_self)
   rw [List.erase_cons_head] at hL2
   exact wpAnyHq_first hoi (Region.noSelect_spec hs) r.length (i::r) listed a rfl (List.mem_cons_self) hL (Region.free_spec hoi hf) hr' hy (wpAnyHq_heads hs r _ _ hL2 hB' hK)
def quietB (md:Region.Mode) (ops:Array Oper) (hd:List Nat) (listed:Array Bool) (N:Nat):Bool :=
 Region.noSelect ops&&closedB md ops listed&&decide (hd.length≤N)&&decide hd.Nodup&&(listed.size==ops.size)&&hd.all (fun i=>!listed.getD i true)&&hd.all (fun i=>waitB md ops i (waitSet md ops i)) &&
 (List.range ops.size).all (fun j=>listed.getD j true||hd.contains j||hd.all fun i=>(waitSet md ops i).getD j false)&&headsQ md ops hd listed
theorem segs_quiet {Q:Exit→Act→World→Prop} {a:Act} {w:World} {N:Nat} {listed:Array Bool} (hd:List Nat) (hB:quietB md l.toArray hd listed N=true)
  (h:wpQuiet P l.toArray (fun w'=>∃n,w'=w.drewN n) (fun a'=>∀w',(∃n,w'=w.drewN n)→wpAny P md l.toArray Q (N-hd.length) (heard hd listed) a' w') (pick l hd) a):wpAny P md l.toArray Q N listed a w:=by
 simp only [quietB,Bool.and_eq_true,decide_eq_true_eq,beq_iff_eq] at hB
 obtain ⟨⟨⟨⟨⟨⟨⟨⟨hsel,hc⟩,hn⟩,hnd⟩,hsz⟩,hun⟩,hwt⟩,hcov⟩,hB⟩:=hB
 have hL:Left md l.toArray hd listed:={
  nd:=hnd
  cl:=closed_of hc
  un:=fun i hi=>by simpa using List.all_eq_true.1 hun i hi
  wt:=fun i hi=>List.all_eq_true.1 hwt i hi
  cov:=fun j hj=>by
   have hjs:j < l.toArray.size:=by
    rcases Nat.lt_or_ge j l.toArray.size with h|h
    ·exact h
    ·rw [←hsz] at h
     simp [Array.getElem?_eq_none h] at hj
   have h1:=List.all_eq_true.1 hcov j (List.mem_range.2 hjs)
   simp only [hj,Bool.false_or,Bool.or_eq_true,List.contains_iff_mem] at h1
   rcases h1 with h1|h1
   ·exact .inl h1
   ·exact .inr fun i hi=>List.all_eq_true.1 h1 i hi }
 have k:=wpAnyHq_heads (P:=P) (C:=fun w'=>∃n,w'=w.drewN n) (Q:=fun L a'=>L=heard hd listed∧∀w',(∃n,w'=w.drewN n)→wpAny P md l.toArray Q (N-hd.length) (heard hd listed) a' w') hsel hd listed a hL hB (by
  refine cast ?_ h
  simp)
 have k2:=wpAny_of_H (Q':=Q) (n:=N-hd.length) (fun L a' w' hw' h'=>by rw [h'.1];exact h'.2 w' hw') hd.length listed a w ⟨0,rfl⟩ k
 rwa [show hd.length+(N-hd.length)=N by omega] at k2
end
end plan
end Go.Proofs.YtdldkkoplgkloaaGreat
