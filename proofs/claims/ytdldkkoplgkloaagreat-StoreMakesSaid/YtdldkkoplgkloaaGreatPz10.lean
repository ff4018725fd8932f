/-
  PROVED HERE: lemmas and contracts that the law's proof leans on (texts put together: RefSha6, Image, ImagePut).
  CONDITIONS: each names its own.
-/
import Derived.Test.YtdldkkoplgkloaaGreatPz3
import Derived.Test.YtdldkkoplgkloaaGreatPz6
import Derived.Test.YtdldkkoplgkloaaGreatPz7
import Derived.Test.YtdldkkoplgkloaaGreatPz9
namespace Go.Proofs.YtdldkkoplgkloaaGreat
set_option linter.unusedVariables false
set_option linter.unusedSimpArgs false
set_option maxRecDepth 100000
set_option maxHeartbeats 32000000
namespace sha


open Go.RowKit Go.Deep base obj mem sep crc num bytes plan chain
abbrev u8s (l:List Int):List Value:=l.map (Value.int .u8)
theorem u8s_app (a b:List Int):u8s (a++b)=u8s a++u8s b:=by simp [u8s]
def slen:Value→Nat
 | .slice _ n _=>n
 | _=>0
theorem outL_more (v:W8) (k:Nat) (h:k < 8):(outL v).take (4*(k+1))=(outL v).take (4*k)++be 4 (v.lst.getD k 0):=by
 rcases (by omega:k=0∨k=1∨k=2∨k=3∨k=4∨k=5∨k=6∨k=7) with rfl|rfl|rfl|rfl|rfl|rfl|rfl|rfl<;>rfl
theorem cf_ok (t:List Int):∀m,(cf t m).Ok
 | 0=>first_ok
 | m+1=>comp_ok _ _
theorem app_one {ops:Array Oper} {rest:List Oper} {o:Oper} {a:Act} {Q:Exit→Act→World→Prop} {w0 w:World} {l:List Asn} (hgd:o.guard=none) (s x:Operand)
  (ho:o.op=.call { callee:=.builtin .append,args:=#[s,x],argTypes:=#[24,24] }) {v:Value} {n:Nat} {xs:List Value} (H:St w0 w (own 5 1 v n xs::l)) (hs:a.eval s=v) (z:Int) (hx:a.eval x=.slice (some ⟨w.heap.size,0,none⟩) 1 1) (hn:n≤1000000)
  (h:∀v' w',St w0 w' (own 5 1 v' (n+1) (xs++[.int .u8 z])::l)→wpList Tryz.prog ops Q rest (a.put o.dst v') w'):wpList Tryz.prog ops Q (o::rest) a (w.alloc (.cells #[.int .u8 z] 5)):=by
 have HX:=(H.new 5 #[.int .u8 z]).swap
 exact app_at slB hgd s x ho HX.own hs hx (fun h=>by cases h) ((Row.new w 5 #[.int .u8 z]).sl (B:=w.heap.size+1) (size:=1) (n:=1) (o:=0) (ys:=[.int .u8 z]) (Nat.lt_succ_self _) rfl rfl) (by simp [Value.oneCell']) (by omega) (by unfold maxLen;omega) HX.bel.size fun v' w' ho hg hl=>h v' w' ((HX.grown hg ho hl).swap.drop)
theorem wp_app4 {o:Oper} {a:Act} {K:Act→World→Prop} {Q:Exit→Act→World→Prop} {w0 w:World} {l:List Asn} (hgd:o.guard=none) (s x:Operand)
  (ho:o.op=.call { callee:=.builtin .append,args:=#[s,x],argTypes:=#[24,24] }) {v:Value} {n:Nat} {xs:List Value} (H:St w0 w (own 5 1 v n xs::l)) (hs:a.eval s=v) {z0 z1 z2 z3:Int} (hx:a.eval x=.slice (some ⟨w.heap.size,0,none⟩) 4 4) (hn:n≤1000000)
  (h:∀v' w',St w0 w' (own 5 1 v' (n+4) (xs++[.int .u8 z0,.int .u8 z1,.int .u8 z2,.int .u8 z3])::l)→K (a.put o.dst v') w'):Oper.wp Tryz.prog o a (w.alloc (.cells #[.int .u8 z0,.int .u8 z1,.int .u8 z2,.int .u8 z3] 5)) K Q:=by
 have HX:=(H.new 5 #[.int .u8 z0,.int .u8 z1,.int .u8 z2,.int .u8 z3]).swap
 exact wp_app slB hgd s x ho HX.own hs hx ((Row.new w 5 #[.int .u8 z0,.int .u8 z1,.int .u8 z2,.int .u8 z3]).sl (B:=w.heap.size+1) (size:=1) (n:=4) (o:=0) (ys:=[.int .u8 z0,.int .u8 z1,.int .u8 z2,.int .u8 z3]) (Nat.lt_succ_self _) rfl rfl) (by simp [Value.oneCell']) (by omega) (by omega) (by unfold maxLen;omega) HX.bel.size fun g cap w' ho hg hor _=>h _ w' ((HX.grown hg ho (fun g' hg'=>by cases hg';exact hor)).swap.drop)
theorem of_at (w:World) (A1 A2 Ab:Option Addr) (c1 c2 n cb:Nat) (bs:List Int) (hb:Byt bs) (hn:bs.length=n) (hm:n≤100000) (h1:Sl w w.heap.size 1 A1 8 (nats first8)) (h2:Sl w w.heap.size 1 A2 64 (nats ks)) (hbs:Sl w w.heap.size 1 Ab n (u8s bs)) (hcb:Ab=none→cb=0) :
  Calls Tryz.prog 189 #[.agg #[.slice A1 8 c1,.slice A2 64 c2],.slice Ab n cb] w fun e w'=>∃r,e=.returned r∧w'.ownsRow w.heap.size 5 1 r 32 (u8s (dig bs))∧Below w.heap.size w w':=by
 have HB:=Lib.hid hb;have HN:=Lib.hid hn;have H1:=Lib.hid h1;have H2:=Lib.hid h2;have HBS:=Lib.hid hbs;have HCB:=Lib.hid hcb
 have h3:=((St.nil w).new 264 #[.slice A1 8 c1,.slice A2 64 c2])
 have H3:=Lib.hid h3
 have HW3:=Lib.hid (nsl_more hbs h3.bel)
 clear hb hn h1 h2 hbs h3 hcb
 go_enter Tryz.func189,Tryz.ntmps189
 go_upto_region 3 with (at_builtin;refine app_at slB rfl (.tmp 12) (.tmp 13) rfl (World.ownsRow_nil _ w.heap.size 5 1) rfl rfl HCB.out HW3.out (by simp [Value.oneCell',u8s]) (by omega) (by unfold maxLen;omega) H3.out.bel.size ?_;intro v' w6 ho6 hg6 hl6)
 have h6:=H3.out.add (Q:=own 5 1 v' n (u8s bs)) (F:=fun i=>v'.ownBlock=some i) (grownBy_below hg6) ⟨by rw [←Nat.zero_add n];exact ho6.mono (Nat.zero_le _),fun i=>Iff.rfl⟩ (fun i hi=>by
  rcases hl6 i hi with h|h
  ·cases h
  ·exact h)
 have H6:=Lib.hid h6
 clear h6 ho6 hg6 hl6
 obtain ⟨A5,c5,rfl,_,_⟩:=own_form H6.out.own
 go_wp2_with (at_builtin;refine app_one rfl (.tmp 15) (.tmp 16) rfl H6.out rfl 128 rfl (by omega) ?_;intro v7 w7 h7)
 have h7':St w w7 [own 5 1 v7 (n+1) (u8s (bs++[128])),row w.heap.size 264 [.slice A1 8 c1,.slice A2 64 c2]]:=by rw [u8s_app];exact h7
 have H7:=Lib.hid h7'
 clear h7 h7'
 go_wp2_with (fail)
 obtain ⟨K,hK⟩:∃K,K=(119-n % 64) % 64:=⟨_,rfl⟩
 have HK:=Lib.hid hK
 have hK64:K < 64:=by omega
 clear hK
 go_loopw [5] (fun vv wr=>∃(k:Nat),k≤K∧St w wr [own 5 1 vv (n+1+k) (u8s (bs++[128]++List.replicate k 0)),row w.heap.size 264 [.slice A1 8 c1,.slice A2 64 c2]]) (fun vv _=>200000-slen vv)
 case atStart=>exact ⟨0,by omega,by rw [List.replicate_zero,List.append_nil];exact H7.out⟩
 case round =>
  obtain ⟨k,hk,h8⟩:=hrel
  obtain ⟨A8,c8,rfl,_,_⟩:=own_form h8.own
  have H8:=Lib.hid h8
  clear h8
  by_cases hlt:k < K
  ·have e1:(((n+1+k:Nat):Int) % 64 != 56)=true:=by
    rw [bne_iff_ne]
    have:=HK.out
    omega
   have e2:(((n:Int)+1+(k:Int)) % 64 != 56)=true:=e1
   have nk0:(0:Int)≤(n:Int)+1+(k:Int):=by omega
   go_wp2_with (at_builtin;refine app_one rfl (.tmp 22) (.tmp 23) rfl H8.out rfl 0 rfl (by omega) ?_;intro v9 w9 h9)
   have h9':St w w9 [own 5 1 v9 (n+1+(k+1)) (u8s (bs++[128]++List.replicate (k+1) 0)),row w.heap.size 264 [.slice A1 8 c1,.slice A2 64 c2]]:=by
    rw [List.replicate_succ',←List.append_assoc,u8s_app]
    exact h9
   obtain ⟨A9,c9,rfl,_,_⟩:=own_form h9'.own
   have H9:=Lib.hid h9'
   clear h9 h9'
   go_wp2_with (fail)
   go_roundw
   case rel=>exact ⟨k+1,by omega,H9.out⟩
   case measure=>simp only [slen];omega
  ·have hkK:k=K:=by omega
   have e1:(((n+1+k:Nat):Int) % 64 != 56)=false:=by
    rw [bne_eq_false_iff_eq]
    have:=HK.out
    omega
   have e2:(((n:Int)+1+(k:Int)) % 64 != 56)=false:=e1
   have nk0:(0:Int)≤(n:Int)+1+(k:Int):=by omega
   have h8:=H8.out
   have hkk:=hkK.trans HK.out
   have HKK:=Lib.hid hkk
   have H9:=Lib.hid h8
   clear h8 hkk hkK
   go_wp2_with (fail)
   go_loopw [5,7] (fun vv i wr=>∃(s t:Nat),s+t=8∧i=.int .i64 ((s:Int)-1)∧St w wr [own 5 1 vv (n+1+k+t) (u8s (bs++[128]++List.replicate k 0++(be 8 (8*n)).take t)),row w.heap.size 264 [.slice A1 8 c1,.slice A2 64 c2]]) (fun _ i _=>(intOf i+1).toNat)
   case atStart=>exact ⟨8,0,rfl,rfl,by rw [List.take_zero,List.append_nil];exact H9.out⟩
   case round =>
    obtain ⟨s,t,hs,rfl,h10⟩:=hrel
    obtain ⟨A10,c10,rfl,_,_⟩:=own_form h10.own
    have H10:=Lib.hid h10
    clear h10
    rcases Nat.eq_zero_or_pos s with hs0|hs0
    ·subst hs0
     have hn1:¬(0:Int)≤((0:Nat):Int)-1:=by omega
     have x0:=(H10.out.pick 1 rfl).row.1.cell 0
     simp only [List.getElem?_cons_succ,List.getElem?_cons_zero] at x0
     obtain rfl:t=8:=by omega
     have hTL:bs++[128]++List.replicate k 0++(be 8 (8*n)).take 8=padL bs:=by
      unfold padL
      rw [HKK.out,HN.out,List.take_of_length_le (by rw [be_length];exact Nat.le_refl _)]
     have hpl:=padL_len bs
     rw [HN.out] at hpl
     have h12:=H10.out
     rw [hTL] at h12
     have hbp:Byt (padL bs):=fun z hz=>by
      unfold padL at hz
      rcases List.mem_append.1 hz with h|h
      ·rcases List.mem_append.1 h with h|h
       ·rcases List.mem_append.1 h with h|h
        ·exact HB.out z h
        ·rw [List.mem_singleton.1 h];omega
       ·rw [(List.mem_replicate.1 h).2];omega
      ·exact be_byt _ _ z h
     have hLL:n+1+k+8=64*((n+72) / 64):=by rw [HKK.out];omega
     have hdig:dig bs=outL (cf (padL bs) ((n+72) / 64)):=by unfold dig;rw [HN.out]
     have hm0:(n+72) / 64≤2000:=by omega
     generalize padL bs=TL at *
     generalize (n+72) / 64=m0 at *
     generalize n+1+k+8=L at *
     have H12:=Lib.hid h12;have HTLB:=Lib.hid hbp;have HTL:=Lib.hid hpl;have HDIG:=Lib.hid hdig;have HLL:=Lib.hid hLL
     clear hTL hpl h12 hbp hdig hLL H10
     go_wp2_with (fail)
     go_loopw [8,9] (fun vv i wr=>∃(m:Nat) (A:Option Addr) (c:Nat),m≤m0∧vv=.slice A 8 c∧i=.int .i64 (64*(m:Int))∧Sl wr wr.heap.size 1 A 8 (nats (cf TL m).lst)∧St w wr [own 5 1 (.slice A10 L c10) L (u8s TL),row w.heap.size 264 [.slice A1 8 c1,.slice A2 64 c2]]) (fun _ i _=>(64*m0-(intOf i).toNat))
     case atStart=>exact ⟨0,A1,c1,by omega,rfl,rfl,nsl_more H1.out H12.out.bel,H12.out⟩
     case round =>
      obtain ⟨m,A,c,hm1,rfl,rfl,hsl,h13⟩:=hrel
      have H13:=Lib.hid h13;have HSL:=Lib.hid hsl
      by_cases hlt3:m < m0
      ·have hlt3':64*(m:Int) < (L:Int):=by rw [HLL.out];omega
       obtain ⟨g5,c5',e5,_,_⟩:=h13.own.form (by omega)
       cases e5
       have x0:=(h13.pick 1 rfl).row.1.cell 0;have x1:=(h13.pick 1 rfl).row.1.cell 1
       simp only [List.getElem?_cons_succ,List.getElem?_cons_zero] at x0 x1
       have hb64:((TL.drop (64*m)).take 64).length=64:=by
        rw [List.length_take,List.length_drop,HTL.out];omega
       have hbb:Byt ((TL.drop (64*m)).take 64):=fun z hz=>HTLB.out z (List.mem_of_mem_drop (List.mem_of_mem_take hz))
       have hsub:∀w',St w w' [own 5 1 (.slice (some ⟨g5,0,none⟩) L c10) L (u8s TL),row w.heap.size 264 [.slice A1 8 c1,.slice A2 64 c2]]→Sl w' w'.heap.size 1 (some ⟨g5,64*m,none⟩) 64 (u8s ((TL.drop (64*m)).take 64)):=fun w' h=>by
        obtain ⟨gg2,oo2,ee2,hlt2,hcc⟩:=(Sl.of_own h.own).2 (by omega)
        cases ee2
        refine ⟨by rw [List.length_map,hb64],fun _=>⟨g5,64*m,rfl,hlt2,fun j v hv=>?_⟩⟩
        rw [←Nat.zero_add (64*m),Nat.add_assoc]
        refine hcc (64*m+j) v ?_
        rw [u8s,List.getElem?_map] at hv
        rw [u8s,List.getElem?_map]
        have hj:j < 64:=by
         rcases Nat.lt_or_ge j 64 with h|h
         ·exact h
         ·rw [List.getElem?_eq_none (by rw [hb64];exact h)] at hv;cases hv
        rw [List.getElem?_take_of_lt hj,List.getElem?_drop] at hv
        exact hv
       have hbeh:=fun (w':World) (h:St w w' [own 5 1 (.slice (some ⟨g5,0,none⟩) L c10) L (u8s TL),row w.heap.size 264 [.slice A1 8 c1,.slice A2 64 c2]]) (hs:Sl w' w'.heap.size 1 A 8 (nats (cf TL m).lst))=>behind_at w' (.slice A1 8 c1) A2 A (some ⟨g5,64*m,none⟩) c2 c (c10-64*m) (cf TL m) (cf_ok TL m) ((TL.drop (64*m)).take 64) hbb hb64 rfl (nsl_more H2.out h.bel) hs (hsub w' h)
       have HBEH:=Lib.hid hbeh
       have hcf:comp (cf TL m) ((TL.drop (64*m)).take 64)=cf TL (m+1):=rfl
       rw [hcf] at hbeh
       have HBEH:=Lib.hid hbeh
       have hle:64*m+64≤L:=by rw [HLL.out];omega
       have hlc:L≤c10:=by omega
       have j1:IntKind.i64.wrap (64*(m:Int)+64)=64*(m:Int)+64:=IntWalk.i64_in _ ⟨by omega,by omega⟩
       clear hbeh hsub hb64 hbb hcf h13 hsl
       go_upto_region 17 with fail
       refine segs_start (by kernel_rfl) ?_
       refine segs_take [1,2,3,4] (by kernel_rfl) (fun _ _ _ _ _ h=>h) ?_
       simp only [pick,xGs,xGz,xGo]
       iterate 4 still_step
       refine wpStill_nil ?_
       refine segs_pure 5 (.int .i64 (64*(m:Int)+64)) (by kernel_rfl) (fun _ _ _ _ _ h=>h) (by rfl) ?_ ?_
       ·intro w2
        try simp only [xGs,xGz,xGo]
        go_simp
       try simp only [xGs,xGz,xGo,Act.put,xSi,xSz,xSs]
       refine segs_pure 6 (.slice (some ⟨g5,64*m,none⟩) 64 (c10-64*m)) (by kernel_rfl) (fun _ _ _ _ _ h=>h) (by rfl) ?_ ?_
       ·intro w2
        try simp only [xGs,xGz,xGo]
        go_simp
        rw [if_pos ⟨by omega,by omega⟩,if_pos ⟨by omega,by omega⟩,show (64*(m:Int)).toNat=64*m by omega,show (64*(m:Int)+64).toNat=64*m+64 by omega,if_neg (by omega),show 64*m+64-64*m=64 by omega]
       try simp only [xGs,xGz,xGo,Act.put,xSi,xSz,xSs]
       refine segs_take [0] (by kernel_rfl) (fun _ _ _ _ _ h=>h) ?_
       simp only [pick,xGs,xGz,xGo]
       iterate 1 still_step
       refine wpStill_nil ?_
       try simp only [xGs,xGz,xGo,Act.put,xSi,xSz,xSs]
       refine segs_one 7 (by kernel_rfl) (by rfl) ?_
       try simp only [xGs,xGz,xGo]
       go_simp
       refine (HBEH.out _ H13.out.drew (nsl_more HSL.out (Below.refl _ _).drew)).mono ?_
       rintro e w14 ⟨r,rfl,hro,hrb⟩
       obtain ⟨AR,cR,rfl,_,_⟩:=own_form hro
       have H14:=Lib.hid (H13.out.drew.below hrb)
       have HS14:=Lib.hid (Sl.of_own hro)
       clear hro hrb
       try dsimp only
       try simp only [xGs,xGz,xGo,Act.put,xSi,xSz,xSs]
       refine segs_one 8 (by kernel_rfl) (by rfl) ?_
       try simp only [xGs,xGz,xGo]
       go_simp
       try dsimp only
       refine segs_end (by kernel_rfl) ?_
       go_wp2_with (fail)
       go_roundw
       case rel=>exact ⟨m+1,_,_,by omega,rfl,by go_num,HS14.out,H14.out⟩
       case measure=>simp [intOf];omega
      ·have hlt3':¬64*(m:Int) < (L:Int):=by rw [HLL.out];omega
       have hmm:m=m0:=by omega
       have hsl2:=HSL.out
       rw [hmm] at hsl2
       have hok:=cf_ok TL m0
       generalize cf TL m0=V at hsl2 hok HDIG
       obtain ⟨bV,oV,rfl,hbV,hcV⟩:=hsl2.2 (by omega)
       have hnil:=(St.nil wr).add (Q:=own 5 1 (.slice none 0 0) 0 []) (F:=fun _=>False) (Below.refl _ _) ⟨World.ownsRow_nil _ _ _ _,fun i=>by simp [Value.ownBlock]⟩ (fun i hi=>hi.elim)
       have H14:=Lib.hid hnil;have HCV:=Lib.hid hcV;have HOK:=Lib.hid hok
       clear hnil hcV hsl2 hok hmm h13 hsl
       go_wp2_with (fail)
       go_loopw [10,11] (fun vv i wx=>∃k4:Nat,k4≤8∧i=.int .i64 k4∧St wr wx [own 5 1 vv (4*k4) (u8s ((outL V).take (4*k4)))]) (fun _ i _=>8-(intOf i).toNat)
       case atStart=>exact ⟨0,by omega,rfl,H14.out⟩
       case round =>
        obtain ⟨k4,hk4,rfl,h16⟩:=hrel
        obtain ⟨AO,cO,rfl,_,_⟩:=own_form h16.own
        have H16:=Lib.hid h16
        by_cases hlt4:k4 < 8
        ·have hlt4':(k4:Int) < 8:=by omega
         have cV:=(h16.bel.cell (p:=⟨bV,oV+k4,none⟩) hbV).trans (HCV.out k4 _ (nats_get V.lst k4 hlt4))
         have lV:=lst_lt HOK.out k4
         have hmo:=outL_more V k4 hlt4
         generalize V.lst.getD k4 0=x at *
         have i0:(0:Int)≤(k4:Int):=by omega
         have HMO:=Lib.hid hmo
         clear hmo h16
         go_upto_region 22 with fail
         refine segs_start (by kernel_rfl) ?_
         refine segs_take [0] (by kernel_rfl) (fun _ _ _ _ _ h=>h) ?_
         simp only [pick,xGs,xGz,xGo]
         iterate 1 still_step
         refine wpStill_nil ?_
         refine segs_quiet [1,2,3,4,5,6,7,8,9,10,11,12,13,14,15,16,17,18,19,20,21,22,23,24,25,26] (by kernel_rfl) ?_
         simp only [pick,xGs,xGz,xGo]
         repeat (go_big_quiet_step (fail))
         refine wpQuiet_nil ?_
         rintro _ ⟨nq,rfl⟩
         refine segs_one 27 (by kernel_rfl) (by rfl) ?_
         try simp only [xGs,xGz,xGo]
         go_simp
         try dsimp only
         try simp only [xGs,xGz,xGo,Act.put,xSi,xSz,xSs]
         refine segs_one 28 (by kernel_rfl) (by rfl) ?_
         try simp only [xGs,xGz,xGo]
         refine wp_app4 rfl (.tmp 67) (.tmp 94) rfl (H16.out.drewN (1+nq)) rfl rfl (by omega) ?_
         intro v17 w17 h17
         have h18:=(show ∀w0',St w0' w17 _→St w0' w17 [own 5 1 v17 (4*(k4+1)) (u8s ((outL V).take (4*(k4+1))))] from fun w0' h=>by
          rw [HMO.out,u8s_app]
          refine cast ?_ h
          have d0:digit 4 x 0=(x:Int) / 16777216:=by
           show ((x / 16777216 % 256:Nat):Int)=_
           omega
          have d1:digit 4 x 1=(x:Int) / 65536 % 256:=by
           show ((x / 65536 % 256:Nat):Int)=_
           omega
          have d2:digit 4 x 2=(x:Int) / 256 % 256:=by
           show ((x / 256 % 256:Nat):Int)=_
           omega
          have d3:digit 4 x 3=(x:Int) % 256:=by
           show ((x / 1 % 256:Nat):Int)=_
           omega
          congr 4
          rw [show be 4 x=[digit 4 x 0,digit 4 x 1,digit 4 x 2,digit 4 x 3] from rfl,d0,d1,d2,d3]
          rfl) _ h17
         have H18:=Lib.hid h18
         clear h17 h18
         try dsimp only
         try simp only [xGs,xGz,xGo,Act.put,xSi,xSz,xSs]
         refine segs_one 29 (by kernel_rfl) (by rfl) ?_
         try simp only [xGs,xGz,xGo]
         go_simp
         try dsimp only
         refine segs_end (by kernel_rfl) ?_
         go_wp2_with (fail)
         go_roundw
         case rel=>exact ⟨k4+1,by omega,by go_num,H18.out⟩
         case measure=>simp [intOf];omega
        ·have hlt4':¬(k4:Int) < 8:=by omega
         obtain rfl:k4=8:=by omega
         clear h16
         go_wp2_with (fail)
         go_ret
         refine ⟨_,rfl,?_,H13.out.bel.trans (H16.out.bel.mono H13.out.bel.size)⟩
         have h:=H16.out.own
         rw [List.take_of_length_le (by rw [outL_len];exact Nat.le_refl _),←HDIG.out] at h
         exact h.mono H13.out.bel.size
    ·obtain ⟨q,rfl⟩:∃q,s=q+1:=⟨s-1,by omega⟩
     have hq:((q+1:Nat):Int)-1=(q:Int):=by omega
     rw [hq]
     clear hq
     have q0:(0:Int)≤(q:Int):=by omega
     have hmore:(be 8 (8*n)).take (t+1)=(be 8 (8*n)).take t++[digit 8 (8*n) t]:=by
      rw [List.take_succ_eq_append_getElem (by rw [be_length];omega)]
      congr 2
      simp [be]
     have HMORE:=Lib.hid hmore
     clear hmore
     have hstep:∀v11 w11,St w w11 [own 5 1 v11 (n+1+k+t+1) (u8s (bs++[128]++List.replicate k 0++(be 8 (8*n)).take t)++[.int .u8 (digit 8 (8*n) t)]),row w.heap.size 264 [.slice A1 8 c1,.slice A2 64 c2]]→St w w11 [own 5 1 v11 (n+1+k+(t+1)) (u8s (bs++[128]++List.replicate k 0++(be 8 (8*n)).take (t+1))),row w.heap.size 264 [.slice A1 8 c1,.slice A2 64 c2]]:=fun v11 w11 h=>by
      rw [HMORE.out,←List.append_assoc,u8s_app]
      exact h
     have HST:=Lib.hid hstep
     clear hstep
     by_cases hq6:6≤q
     ·have hq6':(6:Int)≤(q:Int):=by omega
      have hd0:digit 8 (8*n) t=0:=by
       unfold digit
       rw [Nat.div_eq_of_lt]
       ·rfl
       ·have:256 ^ 6≤256 ^ (8-1-t):=Nat.pow_le_pow_right (by omega) (by omega)
        omega
      have HD:=Lib.hid hd0
      clear hd0
      go_wp2_with (at_builtin;refine app_one rfl (.tmp 34) (.tmp 35) rfl H10.out rfl 0 rfl (by omega) ?_;intro v11 w11 h11)
      have H11:=Lib.hid (HST.out v11 w11 (by rw [HD.out];exact h11))
      clear h11
      go_wp2_with (fail)
      go_roundw
      case rel=>exact ⟨q,t+1,by omega,by go_num,H11.out⟩
      case measure=>simp [intOf]
     ·have hq6':¬(6:Int)≤(q:Int):=by omega
      have hpw:=fun w=>power_at w (8*q) (by omega)
      rw [show ((8*q:Nat):Int)=8*(q:Int) by omega] at hpw
      have hp0:0 < 2 ^ (8*q):=Nat.two_pow_pos _
      have hdg:((8*(n:Int)) / ((2 ^ (8*q):Nat):Int)) % 256=digit 8 (8*n) t:=by
       unfold digit
       rw [show 8-1-t=q by omega,show (256:Nat) ^ q=2 ^ (8*q) by rw [show (256:Nat)=2 ^ 8 from rfl,←Nat.pow_mul],Int.natCast_emod,Int.natCast_ediv]
       rfl
      have hquo:(8*(n:Int)) / ((2 ^ (8*q):Nat):Int)=((8*n / 2 ^ (8*q):Nat):Int):=by rw [Int.natCast_ediv];rfl
      have hqb:8*n / 2 ^ (8*q)≤8*n:=Nat.div_le_self _ _
      generalize 2 ^ (8*q)=p at *
      have p0:(0:Int) < (p:Int):=by omega
      have pne:¬(p:Int)=0:=by omega
      have HDG:=Lib.hid hdg;have HPW:=Lib.hid hpw
      obtain ⟨z,hz⟩:∃z,z=8*n / p:=⟨_,rfl⟩
      rw [←hz] at hquo hqb
      have hr0:(0:Int)≤(8*(n:Int)) / (p:Int):=by rw [hquo];omega
      have hrb:(8*(n:Int)) / (p:Int)≤800000:=by rw [hquo];omega
      clear hz
      clear hdg hpw hquo hqb
      have q8:IntKind.i64.wrap (8*(q:Int))=8*(q:Int):=IntWalk.i64_in _ ⟨by omega,by omega⟩
      go_wp2_with (fail)
      refine (HPW.out _).mono ?_;rintro e w11 ⟨rfl,rfl⟩
      go_wp2_with (at_builtin;refine app_one rfl (.tmp 37) (.tmp 45) rfl H10.out rfl _ rfl (by omega) ?_;intro v12 w12 h11)
      rw [HDG.out] at h11
      have H11:=Lib.hid (HST.out v12 w12 h11)
      clear h11
      go_wp2_with (fail)
      go_roundw
      case rel=>exact ⟨q,t+1,by omega,by go_num,H11.out⟩
      case measure=>simp [intOf]
end sha
namespace image


open Go.RowKit Go.Deep base obj mem sep crc num bytes plan chain sha
theorem within_at (w:World) (n a b:Int):Calls Tryz.prog 122 #[.int .i64 n,.int .i64 a,.int .i64 b] w fun e w'=>e=.returned (.bool (decide (a≤n∧n≤b)))∧w'=w:=by
 by_cases h:a≤n
 ·have h1:decide (a≤n)=true:=by simpa using h
  have e:decide (a≤n∧n≤b)=decide (n≤b):=by simp [h]
  rw [e]
  clear e
  go_enter Tryz.func122,Tryz.ntmps122
  go_wp2_with (fail)
  go_ret
  exact ⟨rfl,rfl⟩
 ·have h1:decide (a≤n)=false:=by simpa using h
  have e:decide (a≤n∧n≤b)=false:=by simp;omega
  rw [e]
  clear e
  go_enter Tryz.func122,Tryz.ntmps122
  go_wp2_with (fail)
  go_ret
  exact ⟨rfl,rfl⟩
theorem fed_at {w0 w:World} {l:List Asn} {g B:Nat} {h:HS} {A:Option Addr} {n c:Nat} {bs:List Int} (H:St w0 w (hsh g h::row B 24 [.slice A n c]::l)) (hh:h.Ok) (hn:bs.length=n) (hm:h.n+n < 1099511627776) (hb:Byt bs) (hs:∀(w':World) (x:HS),St w0 w' (hsh g x::row B 24 [.slice A n c]::l)→Sl w' w'.heap.size 1 A n (bs.map (.int .u8))) :
  Calls Tryz.prog 126 #[.func (Fn.func 127) #[.pointer (some ⟨g,0,none⟩)] #[],.slice (some ⟨B,0,none⟩) 1 1] w fun e w'=>e=.returned (.tuple #[])∧St w0 w' (hsh g (h.write bs)::row B 24 [.slice A n c]::l):=by
 have HW:=Lib.hid (write_at H hh A n c bs hn hm hb hs)
 have HH:=Lib.hid H
 have cB:=(H.pick 1 rfl).row.1.cell 0
 simp only [List.getElem?_cons_succ,List.getElem?_cons_zero] at cB
 have lB:=(H.pick 1 rfl).row.1.lt
 clear H hh hn hb hs
 go_enter Tryz.func126,Tryz.ntmps126
 go_wp2_with (fail)
 go_loopw [8] (fun i wr=>(i=.int .i64 0∧wr=w)∨(i=.int .i64 1∧St w0 wr (hsh g (h.write bs)::row B 24 [.slice A n c]::l))) (fun i _=>1-(intOf i).toNat)
 case atStart=>exact .inl ⟨rfl,rfl⟩
 case round =>
  rcases hrel with ⟨rfl,rfl⟩|⟨rfl,h2⟩
  ·go_wp2_with (fail)
   refine HW.out.mono ?_;rintro e w2 ⟨rfl,h2⟩
   have H2:=Lib.hid h2
   clear h2
   go_wp2_with (fail)
   go_roundw
   case rel=>exact .inr ⟨rfl,H2.out⟩
   case measure=>simp [intOf]
  ·have H2:=Lib.hid h2
   clear h2
   go_wp2_with (fail)
   go_end0
   exact ⟨rfl,H2.out⟩
theorem digest_at (w:World) (A:Option Addr) (n c:Nat) (bs:List Int) (hn:bs.length=n) (hm:n≤100000) (hb:Byt bs) (hs:Sl w w.heap.size 1 A n (u8s bs)) :
  Calls Tryz.prog 77 #[.slice A n c] w fun e w'=>∃g,e=.returned (.slice (some ⟨g,0,none⟩) 32 32)∧Sl w' w'.heap.size 1 (some ⟨g,0,none⟩) 32 (u8s (dig bs))∧Below w.heap.size w w':=by
 have HN:=Lib.hid (new_at (St.nil w))
 have HB:=Lib.hid hb;have HS:=Lib.hid hs;have HL:=Lib.hid hn
 clear hb hs hn
 go_enter Tryz.func77,Tryz.ntmps77
 go_wp2_with (fail)
 refine HN.out.mono ?_;rintro e w1 ⟨g,rfl,h1⟩
 have h2:=(h1.new 24 #[.slice A n c]).swap
 have H2:=Lib.hid h2
 clear h1 h2
 go_wp2_with (fail)
 refine (fed_at H2.out h0_ok HL.out (by show 0+n < _;omega) HB.out (fun w' x h=>nsl_more HS.out h.bel)).mono ?_;rintro e w2 ⟨rfl,h3⟩
 have hsu:=sum_at h3 HB.out (by rw [HL.out];omega)
 have H3:=Lib.hid h3
 clear h3
 have hD:(u8s (dig bs)).toArray.size=32:=by rw [List.size_toArray,List.length_map,dig_len]
 have hD1:∀v∈(u8s (dig bs)).toArray.toList,v.oneCell'=true:=fun v hv=>by
  obtain ⟨x,_,rfl⟩:=List.mem_map.1 hv;rfl
 obtain ⟨D,hDD⟩:∃D,D=(u8s (dig bs)).toArray:=⟨_,rfl⟩
 have hDl:u8s (dig bs)=D.toList:=by rw [hDD]
 change Calls Tryz.prog _ _ _ (fun e w'=>e=.returned (.agg (u8s (dig bs)).toArray)∧_) at hsu
 rw [←hDD] at hsu hD hD1
 have HSU:=Lib.hid hsu
 have HSZ32:=Lib.hid hD;have HD1:=Lib.hid hD1;have HDL:=Lib.hid hDl
 have HSZ:RowKit.Hid ((Tryz.prog.info? 198).map (·.size)=some D.size):=Lib.hid (by rw [hD];kernel_rfl)
 have Z:=Lib.hid z32_zero
 have HZ:RowKit.Hid ((oCells z8 0).toArray.size=D.size):=Lib.hid (by rw [hD];exact oCells_len z8 0 (by omega))
 clear hD hD1 hDD hDl hsu
 go_wp2_with (fail)
 refine HSU.out.mono ?_;rintro e w3 ⟨rfl,hb3⟩
 have HB3:=Lib.hid (H3.out.bel.trans (hb3.mono H3.out.bel.size))
 clear hb3
 go_wp2_with (first
  | (with_reducible refine wpList_alloc rfl 198 rfl _ Z.out ?_)
  | (refine wpList_fill rfl 198 (.tmp 4) (.tmp 12) rfl D _ 198 w3.heap.size rfl rfl HSZ.out HZ.out HD1.out ?_ rfl))
 go_ret
 refine ⟨w3.heap.size,rfl,?_,HB3.out.alloc HB3.out.size _⟩
 rw [HDL.out]
 exact (Row.new w3 198 D).sl (by show w3.heap.size < (w3.heap.push _).size;rw [Array.size_push];omega) (by rw [List.drop_zero,List.take_of_length_le (by rw [Array.length_toList,HSZ32.out];omega)]) (by rw [Array.length_toList,HSZ32.out])
end image
namespace image


open Go.RowKit Go.Deep base obj mem sep crc num bytes plan chain
abbrev u8s (l:List Int):List Value:=l.map (Value.int .u8)
abbrev dig:=sha.dig
theorem isum_at (w:World) (A:Option Addr) (n c:Nat) (bs:List Int) (hn:bs.length=n) (hm:n≤100000) (hb:Byt bs) (hs:Sl w w.heap.size 1 A n (u8s bs)) :
  Calls Tryz.prog 78 #[.slice A n c] w fun e w'=>∃v,e=.returned v∧w'.ownsRow w.heap.size 5 1 v 4 (u8s (be 4 (sum bs)))∧Below w.heap.size w w':=by
 have HB:=Lib.hid hb;have HS:=Lib.hid hs;have HL:=Lib.hid hn
 clear hb hs hn
 go_enter Tryz.func78,Tryz.ntmps78
 go_wp2_with (fail)
 refine (make_at _).mono ?_;rintro e w1 ⟨g,rfl,hg,hr,hb1⟩
 have HC:=Lib.hid (crc.sum_at w1 g hr A n c bs HL.out (by omega) HB.out ((HS.out.below hb1).more hb1.size))
 have HB1:=Lib.hid hb1
 clear hg hr hb1
 go_wp2_with (fail)
 refine HC.out.mono ?_;rintro e w2 ⟨rfl,rfl⟩
 have hsl:=sum_lt (bs:=bs)
 generalize hz:sum bs=z at *
 have HP:=Lib.hid (put_at w2 none 0 0 [] (Sl.nil_ w2 _ _) (by simp) (by omega) z 4 (by omega) (by omega) (by omega))
 have HZ:=Lib.hid hz
 clear hz
 go_wp2_with (fail)
 refine HP.out.mono ?_;rintro e w3 ⟨v,rfl,ho,hb3⟩
 have HO:=Lib.hid ho;have HB3:=Lib.hid (HB1.out.trans (hb3.mono HB1.out.size))
 clear ho hb3
 go_wp2_with (fail)
 go_ret
 refine ⟨_,rfl,?_,HB3.out⟩
 have h:=HO.out.mono HB1.out.size
 rw [HZ.out]
 exact h
theorem text_at (w:World) (A:Option Addr) (n c:Nat) (xs:List Value) (hs:Sl w w.heap.size 1 A n xs) (h1:∀v∈xs,v.oneCell'=true) (hn:n≤100000) (T:Option Addr) (m d:Nat) (bs:List Int) (hm0:0 < m) (hm:m≤1000) (hmd:m≤d) (ht:Sl w w.heap.size 1 T m (u8s bs)) :
  Calls Tryz.prog 124 #[.slice A n c,.slice T m d] w fun e w'=>∃v,e=.returned v∧w'.ownsRow w.heap.size 5 1 v (n+2+m) (xs++u8s (be 2 m)++u8s bs)∧Below w.heap.size w w':=by
 have HP:=Lib.hid (fun k (hk:k < 65536)=>put_at w A n c xs hs h1 hn k 2 (by omega) (by omega) hk)
 obtain ⟨gT,oT,rfl,hgT,_⟩:=ht.2 (by omega)
 have HT:=Lib.hid ht
 clear hs h1 ht
 go_enter Tryz.func124,Tryz.ntmps124
 go_wp2_with (fail)
 refine (HP.out m (by omega)).mono ?_;rintro e w2 ⟨v,rfl,ho,hb2⟩
 obtain ⟨A2,c2,rfl,hc2,hm2⟩:=own_form ho
 have HO:=Lib.hid ho;have HB2:=Lib.hid hb2
 have HT2:=Lib.hid (sha.nsl_more HT.out hb2)
 clear ho hb2
 go_wp2_with (at_builtin;refine app_at slB rfl (.tmp 13) (.tmp 14) rfl HO.out rfl rfl (fun h=>by cases h) HT2.out (by simp [Value.oneCell']) (by omega) (by unfold maxLen;omega) HB2.out.size ?_;intro v3 w3 ho3 hg3 hl3;have HO3:=Lib.hid ho3;have HB3:=Lib.hid (below_own HB2.out HO.out hg3 HB2.out.size);clear ho3 hg3 hl3)
 go_ret
 exact ⟨_,rfl,by rw [List.append_assoc] at *;exact HO3.out,HB3.out⟩
structure Img where
 part:Int
 version:Int
 hard:Int
 mem:Int
 fuel:Int
 sends:Int
 receives:Int
 code:List Int
def Img.right (i:Img):Prop:=(0≤i.part∧i.part≤3)∧(1≤i.version∧i.version≤65535)∧(0≤i.hard∧i.hard≤65535)∧(1≤i.mem∧i.mem≤16)∧(1≤i.fuel∧i.fuel≤32)∧(0≤i.sends∧i.sends≤15)∧(0≤i.receives∧i.receives≤15)∧(1≤(i.code.length:Int)∧(i.code.length:Int)≤96)
instance (i:Img):Decidable i.right:=by unfold Img.right;infer_instance
def Img.val (i:Img) (A:Option Addr) (c:Nat):Value:=.agg #[.int .i64 i.part,.int .i64 i.version,.int .i64 i.hard,.int .i64 i.mem,.int .i64 i.fuel,.int .i64 i.sends,.int .i64 i.receives,.slice A i.code.length c]
def Img.head (i:Img):List Int:=be 2 19529++be 1 i.part.toNat++be 2 i.version.toNat++be 2 i.hard.toNat++be 1 i.mem.toNat++be 1 i.fuel.toNat++be 1 i.sends.toNat++be 1 i.receives.toNat++be 2 i.code.length++i.code
def sealed (b:List Int):List Int:=b++dig b++be 4 (sum (b++dig b))
def Img.bytes (i:Img):List Int:=sealed i.head
theorem head_len (i:Img):i.head.length=13+i.code.length:=by
 simp only [Img.head,List.length_append,be_length]
theorem head_byt (i:Img) (h:Byt i.code):Byt i.head:=by
 intro z hz
 simp only [Img.head,List.mem_append] at hz
 rcases hz with ((((((((hz|hz)|hz)|hz)|hz)|hz)|hz)|hz)|hz)|hz
 all_goals first|exact be_byt _ _ z hz|exact h z hz
theorem q_within (n a b:Int) (w:World) (k:Nat):Calls Tryz.prog 122 #[.int .i64 n,.int .i64 a,.int .i64 b] (w.drewN (1+k)) fun e w'=>e=.returned (.bool (decide (a≤n∧n≤b)))∧∃j,w'=w.drewN (1+j) :=
 (within_at _ n a b).mono fun e w' ⟨h1,h2⟩=>⟨h1,k,h2⟩
theorem right_at (w:World) (i:Img) (A:Option Addr) (c:Nat) (hc:i.code.length≤9223372036854775807):Calls Tryz.prog 75 #[i.val A c] w fun e w'=>e=.returned (.bool (decide i.right))∧Below w.heap.size w w':=by
 obtain ⟨part,version,hard,mem,fuel,sends,receives,code⟩:=i
 simp only [Img.val]
 have t0:=q_within part 0 3
 have t1:=q_within version 1 65535
 have t2:=q_within hard 0 65535
 have t3:=q_within mem 1 16
 have t4:=q_within fuel 1 32
 have t5:=q_within sends 0 15
 have t6:=q_within receives 0 15
 have t7:=q_within (code.length:Int) 1 96
 have hr:decide (Img.right ⟨part,version,hard,mem,fuel,sends,receives,code⟩)=[decide (0≤part∧part≤3),decide (1≤version∧version≤65535),decide (0≤hard∧hard≤65535),decide (1≤mem∧mem≤16),decide (1≤fuel∧fuel≤32),decide (0≤sends∧sends≤15),decide (0≤receives∧receives≤15),decide (1≤(code.length:Int)∧(code.length:Int)≤96)].all id:=by
  rw [Bool.eq_iff_iff,decide_eq_true_iff]
  simp only [Img.right,List.all_cons,List.all_nil,id,Bool.and_true,Bool.and_eq_true,decide_eq_true_eq]
 generalize decide (0≤part∧part≤3)=b0 at *
 generalize decide (1≤version∧version≤65535)=b1 at *
 generalize decide (0≤hard∧hard≤65535)=b2 at *
 generalize decide (1≤mem∧mem≤16)=b3 at *
 generalize decide (1≤fuel∧fuel≤32)=b4 at *
 generalize decide (0≤sends∧sends≤15)=b5 at *
 generalize decide (0≤receives∧receives≤15)=b6 at *
 generalize decide (1≤(code.length:Int)∧(code.length:Int)≤96)=b7 at *
 have HR:=Lib.hid hr
 have T0:=Lib.hid t0
 have T1:=Lib.hid t1
 have T2:=Lib.hid t2
 have T3:=Lib.hid t3
 have T4:=Lib.hid t4
 have T5:=Lib.hid t5
 have T6:=Lib.hid t6
 have T7:=Lib.hid t7
 clear hr t0 t1 t2 t3 t4 t5 t6 t7
 have HB0:=Lib.hid ((Below.refl w.heap.size w).alloc (Nat.le_refl _) (.cells #[.int .i64 part,.int .i64 version,.int .i64 hard,.int .i64 mem,.int .i64 fuel,.int .i64 sends,.int .i64 receives,.slice A code.length c] 26))
 go_enter Tryz.func75,Tryz.ntmps75
 go_wp2_with (fail)
 refine segs_start (by kernel_rfl) ?_
 refine segs_take [27] (by kernel_rfl) (fun _ _ _ _ _ h=>h) ?_
 simp only [pick,xGs,xGz,xGo]
 iterate 1 still_step
 refine wpStill_nil ?_
 refine segs_quiet [0,1,2,3,4,5,6,7,8,9,10,11,12,13,14,15,16,17,18,19,20,21,22,23,24] (by kernel_rfl) ?_
 simp only [pick,xGs,xGz,xGo]
 repeat (go_big_quiet_step (first|(with_reducible exact T0.out _ _)|(with_reducible exact T1.out _ _)|(with_reducible exact T2.out _ _)|(with_reducible exact T3.out _ _)|(with_reducible exact T4.out _ _)|(with_reducible exact T5.out _ _)|(with_reducible exact T6.out _ _)|(with_reducible exact T7.out _ _)))
 refine wpQuiet_nil ?_
 rintro _ ⟨nq,rfl⟩
 refine segs_one 25 (by kernel_rfl) (by rfl) ?_
 try simp only [xGs,xGz,xGo]
 go_simp
 try dsimp only
 try simp only [xGs,xGz,xGo,Act.put,xSi,xSz,xSs]
 refine segs_one 26 (by kernel_rfl) (by rfl) ?_
 try simp only [xGs,xGz,xGo]
 go_simp
 try dsimp only
 try simp only [xGs,xGz,xGo,Act.put,xSi,xSz,xSs]
 refine segs_end (by kernel_rfl) ?_
 obtain ⟨L,hL⟩:∃L:List Bool,L=[b0,b1,b2,b3,b4,b5,b6,b7]:=⟨_,rfl⟩
 have hLl:L.length=8:=by rw [hL];rfl
 rw [←hL] at HR
 have hrow:∀(W:World) (n:Nat),W.heap.size=n→Row (W.alloc (.cells #[.bool b0,.bool b1,.bool b2,.bool b3,.bool b4,.bool b5,.bool b6,.bool b7] 4)) n 4 (L.map Value.bool):=fun W n h=>by subst h;rw [hL];exact Row.new W _ _
 have HROW:=Lib.hid hrow;have HLL:=Lib.hid hLl
 clear hL hLl hrow
 go_wp2_with (fail)
 go_loopw [32] (fun i wr=>∃k:Nat,k≤8∧i=.int .i64 k∧(L.take k).all id=true∧Row wr (w.heap.size+1) 4 (L.map Value.bool)∧Below w.heap.size w wr) (fun i _=>8-(intOf i).toNat)
 case atStart=>exact ⟨0,by omega,rfl,rfl,HROW.out _ _ (Array.size_push _),(below_drewN HB0.out _).alloc (by show w.heap.size≤(w.heap.push _).size;rw [Array.size_push];omega) _⟩
 case round =>
  obtain ⟨k,hk,rfl,hall,hrw,hbl⟩:=hrel
  by_cases hlt:k < 8
  ·have hlt':(k:Int) < 8:=by omega
   have i0:(0:Int)≤(k:Int):=by omega
   have hkl:k < L.length:=by rw [HLL.out];exact hlt
   have ck:=(hrw.cell k).trans (by rw [List.getElem?_map,List.getElem?_eq_getElem hkl];rfl:(L.map Value.bool)[k]?=some (.bool L[k]))
   have lk:=hrw.lt
   have htk:(L.take (k+1)).all id=((L.take k).all id&&L[k]):=by
    rw [List.take_succ_eq_append_getElem hkl,List.all_append];simp
   have hno:L[k]=false→L.all id=false:=fun h=>by
    rw [List.all_eq_false]
    exact ⟨L[k],List.getElem_mem hkl,by simp [h]⟩
   have HRW:=Lib.hid hrw;have HBL:=Lib.hid hbl;have HTK:=Lib.hid htk;have HNO:=Lib.hid hno;have HALL:=Lib.hid hall
   clear hrw hbl htk hno hall
   cases hb:L[k]
   ·rw [hb] at ck
    have HF:=Lib.hid (HNO.out hb)
    clear hb
    go_wp2_with (fail)
    go_ret
    exact ⟨by rw [HR.out,HF.out];rfl,HBL.out⟩
   ·rw [hb] at ck
    have HT:=Lib.hid (show (L.take (k+1)).all id=true by rw [HTK.out,HALL.out,hb];rfl)
    clear hb
    go_wp2_with (fail)
    go_roundw
    case rel=>exact ⟨k+1,by omega,by go_num,HT.out,HRW.out,HBL.out⟩
    case measure=>simp [intOf];omega
  ·have hlt':¬(k:Int) < 8:=by omega
   have hT:L.all id=true:=by
    rw [List.take_of_length_le (by rw [HLL.out];omega)] at hall
    exact hall
   have HT:=Lib.hid hT;have HBL:=Lib.hid hbl
   clear hrw hbl hall hT
   go_wp2_with (fail)
   go_ret
   exact ⟨by rw [HR.out,HT.out];rfl,HBL.out⟩
end image
end Go.Proofs.YtdldkkoplgkloaaGreat
