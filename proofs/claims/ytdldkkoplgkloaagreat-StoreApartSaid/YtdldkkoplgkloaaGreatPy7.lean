/-
  PROVED HERE: lemmas that the law leans on.
  CONDITIONS: each names its own.
-/
import Derived.BigQuiet
import Derived.Deep.Cut
import Derived.Deep.DeepCutAuto
import Derived.Test.YtdldkkoplgkloaaGreatPy0
import Derived.Test.YtdldkkoplgkloaaGreatPy4
import Derived.Test.YtdldkkoplgkloaaGreatPy6
namespace Go.Proofs.YtdldkkoplgkloaaGreat
set_option linter.unusedVariables false
set_option linter.unusedSimpArgs false
set_option maxRecDepth 100000
set_option maxHeartbeats 32000000
namespace fH


open Go.RowKit Go.Deep base obj mem sep bw bf chain
theorem kf {P:Program} {t e size bytes:Nat} (T:pX P t e size bytes) {o:Oper} {a:Act} {K:Act→World→Prop} {Q:Exit→Act→World→Prop} {w:World} (ew:o.guard=none) (s x:Operand)
  (ho:o.op=.call { callee:=.builtin .append,args:=#[s,x],argTypes:=#[t,t] })
  {base:Nat} {v:Value} {n:Nat} {xs:List Value} (fP:w.ownsRow base e size v n xs) (hs:a.eval s=v) {B m c:Nat} {A:Option Addr} {ys:List Value} (hx:a.eval x=.slice A m c)
  (hr:Sl w B size A m ys) (h1:∀u∈ys,u.oneCell'=true) (hm:0 < m) (hb:(n+m)*bytes≤140737488355328) (qG:n+m≤maxLen) (nZ:base≤w.heap.size)
  (h:∀g cap w',w'.ownsRow base e size (.slice (some ⟨g,0,none⟩) (n+m) cap) (n+m) (xs++ys)→w.grownBy w' v.ownBlock→(v.ownBlock=some g∨w.heap.size≤g)→g < w'.heap.size→K (a.put o.dst (.slice (some ⟨g,0,none⟩) (n+m) cap)) w') :
  Oper.wp P o a w K Q:=by
 have k:=F9 T (ops:=#[o]) (Q:=Q) (E:=True) ew s x ho fP hs hx hr h1 hm hb qG nZ h
 rwa [if_pos (by simp [Region.wanted,ew])] at k
theorem iQ (l:List Nat) (z:Nat):dP (l++[z])=dP l++[.int .i64 (z:Int)]:=by simp [dP]
def kF (k:Nat):List Nat:=((eQ.take 8).take k).map (nR · 2)
def kR (k:Nat):List Nat:=(eQ.take k).map (nR · 3)
theorem LA (w:World) (o:Obj):(w.alloc o).heap.size=w.heap.size+1:=Array.size_push _
theorem m9:eQ.length=64:=rfl
theorem Ec (k:Nat):(kF k).length=min k 8:=by simp [kF,m9]
theorem WS (k:Nat) (h:k < 8):kF (k+1)=kF k++[nR (eQ.getD k 0) 2]:=by
 have h8:k < (eQ.take 8).length:=by simp [m9];exact h
 unfold kF;rw [jz h8,List.map_append,List.getElem_take,dz,cM (by rw [m9];omega)];rfl
theorem WR (k:Nat) (h:8≤k):kF (k+1)=kF k:=by
 unfold kF;rw [List.take_take,List.take_take,show min (k+1) 8=8 by omega,show min k 8=8 by omega]
theorem WQ (k:Nat) (h:k < 64):kR (k+1)=kR k++[nR (eQ.getD k 0) 3]:=by
 unfold kR;rw [jz (by rw [m9];exact h),List.map_append,dz,cM (by rw [m9];exact h)];rfl
theorem Ym:kF 64=EF:=by
 rw [←Lz];rfl
theorem Yl:kR 64=ks:=by
 rw [←Tq];rfl
theorem PR (k:Nat) (h:k < 64):eQ.getD k 0≤1000:=by
 have:∀k,k < 64→eQ.getD k 0≤1000:=by decide
 exact this k h
theorem WN (w:World):Calls Tryz.prog 190 #[] w fun e w'=>∃v1 v2,e=.returned (.agg #[v1,v2])∧St w w' [own 3 1 v1 8 (dP EF),own 3 1 v2 64 (dP ks)]:=by
 have KZ:=aa (((St.nil w).new 264 #[.slice none 0 0,.slice none 0 0]).new 264 #[.slice none 0 0,.slice none 0 0]);go_enter Tryz.func190,Tryz.ntmps190;go_wp2_with fail;refine (PS _).mono ?_;rintro e w2 ⟨v,rfl,ho,hb⟩;have h2:=KZ.o.cQ hb ho;rw [LA] at h2;obtain ⟨A,c,rfl,hc,tk⟩:=aH ho;have h3:=((h2.add (Q:=own 3 1 (.slice none 0 0) 0 []) (F:=fun _=>False) (Below.refl _ _) ⟨World.ownsRow_nil _ _ _ _,fun i=>by simp [Value.ownBlock]⟩ (fun i hi=>hi.elim)).add (Q:=own 3 1 (.slice none 0 0) 0 []) (F:=fun _=>False) (Below.refl _ _) ⟨World.ownsRow_nil _ _ _ _,fun i=>by simp [Value.ownBlock]⟩ (fun i hi=>hi.elim)).pick 3 rfl;have H3:=aa h3;clear h2 h3 ho hb;go_wp2_with fail;go_loopw [3] (fun i wr=>∃(k:Nat) (v1 v2:Value),k≤64∧i=.int .i64 k∧St w wr [row (w.heap.size+1) 264 [v1,v2],own 3 1 v1 (kF k).length (dP (kF k)),own 3 1 v2 k (dP (kR k)),own 3 1 (.slice A 64 c) 64 (dP eQ),row w.heap.size 264 [.slice none 0 0,.slice none 0 0]]) (fun i _=>64-(intOf i).toNat)
 case atStart=>exact ⟨0,_,_,by omega,rfl,H3.o⟩
 case round =>
  obtain ⟨k,v1,v2,hk,rfl,h4⟩:=hrel;have H4:=aa h4;clear h4;by_cases aK:k < 64
  ·have cZ:(k:Int) < 64:=by omega
   obtain ⟨bA,oA,rfl,Mn,cA⟩:=uA (Sl.bz (H4.o.pick 3 rfl).own) m9 k aK;have JX:=WQ k aK;have zv:=PR k aK;have i0:(0:Int)≤(k:Int):=by omega
   by_cases h8:k < 8
   ·have h8':(k:Int) < 8:=by omega
    have Me:=WS k h8;obtain ⟨pk,uX⟩:∃pk,eQ.getD k 0=pk:=⟨_,rfl⟩
    rw [uX] at Me JX zv cA;have hx:=H4.o;rw [Ec,show min k 8=k by omega] at hx;have H5:=aa hx;have p0:=hx.row.1.cell 0;simp only [List.getElem?_cons_succ,List.getElem?_cons_zero] at p0;have pl:=hx.row.1.lt;clear hx;go_upto_region 7 with fail
    go_cut [0,1,2,3] (fun s0 s1 s2 s3 wc=>∃LH:Value,s0=.pointer (some ⟨w.heap.size,0,none⟩)∧s1=.pointer (some ⟨w.heap.size+1,0,none⟩)∧s2=.slice (some ⟨bA,oA,none⟩) 64 c∧s3=.int .i64 k∧St w wc [row (w.heap.size+1) 264 [LH,v2],own 3 1 LH (kF (k+1)).length (dP (kF (k+1))),own 3 1 v2 k (dP (kR k)),own 3 1 (.slice (some ⟨bA,oA,none⟩) 64 c) 64 (dP eQ),row w.heap.size 264 [.slice none 0 0,.slice none 0 0]])
    case first =>
     generalize hz:nR pk 2=z at *;have HZ:=aa hz;have K9:=aa Me;clear hz Me JX uX;have ez:=aa (fun w=>Fm w pk 2 zv (by omega) (by omega));rw [HZ.o] at ez;refine dA ?_;refine bj [0,2,3,4] ?_;simp only [pick,af,ae,ah];iterate 4 still_step
     refine wpStill_nil ?_;refine bj [5] ?_;simp only [pick,af,ae,ah];iterate 1 still_step
     refine wpStill_nil ?_;refine lL 1 6 (by kernel_rfl) (by rfl) (by rfl) ?_ ?_
     ·skip
      try simp only [af,ae,ah]
      go_simp;try dsimp only
      try simp only [af,ae,ah,Act.put,aq,ak,ao]
      refine aL 6 ?_;try simp only [af,ae,ah]
      go_simp;refine (ez.o _).mono ?_;rintro e w5 ⟨rfl,jG⟩;have H5:=aa (H5.o.drew.below jG);have q0:=H5.o.row.1.cell 0;simp only [List.getElem?_cons_succ,List.getElem?_cons_zero] at q0;have ql:=H5.o.row.1.lt;clear jG;try dsimp only
      try simp only [af,ae,ah,Act.put,aq,ak,ao]
      refine aL 7 ?_;try simp only [af,ae,ah]
      go_simp;try dsimp only
      try simp only [af,ae,ah,Act.put,aq,ak,ao]
      have H6:=aa ((H5.o.new 3 #[.int .i64 (z:Int)]).swap.pick 2 rfl);refine aL 8 ?_;try simp only [af,ae,ah]
      refine kf uM (by rfl) (.tmp 13) (.tmp 19) (by rfl) H6.o.own (by rfl) (by rfl) (((Row.new w5 3 #[.int .i64 (z:Int)]).sl (B:=w5.heap.size+1) (size:=1) (n:=1) (o:=0) (ys:=[.int .i64 (z:Int)]) (Nat.lt_succ_self _) rfl rfl)) (by simp [Value.oneCell']) (by omega) (by omega) (by unfold maxLen;omega) H6.o.aI.size ?_;intro g6 gu w6 eU fR fa jN;have H7:=aa (H6.o.grown fR eU (fun g hg=>by cases hg;exact fa)).swap;have x0:=H7.o.row.1.cell 0;simp only [List.getElem?_cons_succ,List.getElem?_cons_zero] at x0;have xf:=H7.o.row.1.frozen 0;have xl:=H7.o.row.1.lt;clear eU fR fa jN q0 ql;try dsimp only
      try simp only [af,ae,ah,Act.put,aq,ak,ao]
      refine aL 9 ?_;try simp only [af,ae,ah]
      go_simp;try dsimp only
      try simp only [af,ae,ah,Act.put,aq,ak,ao]
      refine aL 10 ?_;try simp only [af,ae,ah]
      go_simp;try dsimp only
      refine bZ ?_;have H8:=aa (H7.o.set 0 (.slice (some ⟨g6,0,none⟩) (k+1) gu));go_wp2_with fail;go_meet;have h:=(H8.o.pick 2 rfl).drop;rw [K9.o,gA,Ec,show min k 8=k by omega,iQ]
      first|exact ⟨.slice (some ⟨g6,0,none⟩) (k+1) gu,h⟩|exact ⟨.slice (some ⟨g6,0,none⟩) (k+1) gu,rfl,rfl,rfl,rfl,h⟩
     ·try simp only [af,ae,ah]
      go_simp;refine (ez.o _).mono ?_;rintro e w5 ⟨rfl,jG⟩;have H5:=aa (H5.o.drew.below jG);have q0:=H5.o.row.1.cell 0;simp only [List.getElem?_cons_succ,List.getElem?_cons_zero] at q0;have ql:=H5.o.row.1.lt;clear jG;try dsimp only
      try simp only [af,ae,ah,Act.put,aq,ak,ao]
      refine lL 1 7 (by kernel_rfl) (by rfl) (by rfl) ?_ ?_
      ·skip
       try simp only [af,ae,ah]
       go_simp;try dsimp only
       try simp only [af,ae,ah,Act.put,aq,ak,ao]
       refine aL 7 ?_;try simp only [af,ae,ah]
       go_simp;try dsimp only
       try simp only [af,ae,ah,Act.put,aq,ak,ao]
       have H6:=aa ((H5.o.new 3 #[.int .i64 (z:Int)]).swap.pick 2 rfl);refine aL 8 ?_;try simp only [af,ae,ah]
       refine kf uM (by rfl) (.tmp 13) (.tmp 19) (by rfl) H6.o.own (by rfl) (by rfl) (((Row.new w5 3 #[.int .i64 (z:Int)]).sl (B:=w5.heap.size+1) (size:=1) (n:=1) (o:=0) (ys:=[.int .i64 (z:Int)]) (Nat.lt_succ_self _) rfl rfl)) (by simp [Value.oneCell']) (by omega) (by omega) (by unfold maxLen;omega) H6.o.aI.size ?_;intro g6 gu w6 eU fR fa jN;have H7:=aa (H6.o.grown fR eU (fun g hg=>by cases hg;exact fa)).swap;have x0:=H7.o.row.1.cell 0;simp only [List.getElem?_cons_succ,List.getElem?_cons_zero] at x0;have xf:=H7.o.row.1.frozen 0;have xl:=H7.o.row.1.lt;clear eU fR fa jN q0 ql;try dsimp only
       try simp only [af,ae,ah,Act.put,aq,ak,ao]
       refine aL 9 ?_;try simp only [af,ae,ah]
       go_simp;try dsimp only
       try simp only [af,ae,ah,Act.put,aq,ak,ao]
       refine aL 10 ?_;try simp only [af,ae,ah]
       go_simp;try dsimp only
       refine bZ ?_;have H8:=aa (H7.o.set 0 (.slice (some ⟨g6,0,none⟩) (k+1) gu));go_wp2_with fail;go_meet;have h:=(H8.o.pick 2 rfl).drop;rw [K9.o,gA,Ec,show min k 8=k by omega,iQ]
       first|exact ⟨.slice (some ⟨g6,0,none⟩) (k+1) gu,h⟩|exact ⟨.slice (some ⟨g6,0,none⟩) (k+1) gu,rfl,rfl,rfl,rfl,h⟩
      ·try simp only [af,ae,ah]
       go_simp;try dsimp only
       try simp only [af,ae,ah,Act.put,aq,ak,ao]
       refine aL 1 ?_;try simp only [af,ae,ah]
       go_simp;try dsimp only
       try simp only [af,ae,ah,Act.put,aq,ak,ao]
       have H6:=aa ((H5.o.new 3 #[.int .i64 (z:Int)]).swap.pick 2 rfl);refine aL 8 ?_;try simp only [af,ae,ah]
       refine kf uM (by rfl) (.tmp 13) (.tmp 19) (by rfl) H6.o.own (by rfl) (by rfl) (((Row.new w5 3 #[.int .i64 (z:Int)]).sl (B:=w5.heap.size+1) (size:=1) (n:=1) (o:=0) (ys:=[.int .i64 (z:Int)]) (Nat.lt_succ_self _) rfl rfl)) (by simp [Value.oneCell']) (by omega) (by omega) (by unfold maxLen;omega) H6.o.aI.size ?_;intro g6 gu w6 eU fR fa jN;have H7:=aa (H6.o.grown fR eU (fun g hg=>by cases hg;exact fa)).swap;have x0:=H7.o.row.1.cell 0;simp only [List.getElem?_cons_succ,List.getElem?_cons_zero] at x0;have xf:=H7.o.row.1.frozen 0;have xl:=H7.o.row.1.lt;clear eU fR fa jN q0 ql;try dsimp only
       try simp only [af,ae,ah,Act.put,aq,ak,ao]
       refine aL 9 ?_;try simp only [af,ae,ah]
       go_simp;try dsimp only
       try simp only [af,ae,ah,Act.put,aq,ak,ao]
       refine aL 10 ?_;try simp only [af,ae,ah]
       go_simp;try dsimp only
       refine bZ ?_;have H8:=aa (H7.o.set 0 (.slice (some ⟨g6,0,none⟩) (k+1) gu));go_wp2_with fail;go_meet;have h:=(H8.o.pick 2 rfl).drop;rw [K9.o,gA,Ec,show min k 8=k by omega,iQ]
       first|exact ⟨.slice (some ⟨g6,0,none⟩) (k+1) gu,h⟩|exact ⟨.slice (some ⟨g6,0,none⟩) (k+1) gu,rfl,rfl,rfl,rfl,h⟩
    case rest =>
     obtain ⟨LH,rfl,rfl,rfl,rfl,h9⟩:=hcut;have Ee:=(h9.pick 2 rfl).swap;have H9:=aa Ee;have p1:=Ee.row.1.cell 1;simp only [List.getElem?_cons_succ,List.getElem?_cons_zero] at p1;have pl:=Ee.row.1.lt;have cA:=(uA (Sl.bz (h9.pick 3 rfl).own) m9 k aK)
     rw [uX] at cA;obtain ⟨bB,oB,hAB,Mn,cA⟩:=cA;cases hAB;clear h9 Ee uX;generalize hz:nR pk 3=z at *;have HZ:=aa hz;have K8:=aa JX;clear hz JX;have ez:=aa (fun w=>Fm w pk 3 zv (by omega) (by omega));rw [HZ.o] at ez;go_upto_region 8 with fail;refine dA ?_;refine bj [0,2,3,4] ?_;simp only [pick,af,ae,ah];iterate 4 still_step
     refine wpStill_nil ?_;refine bj [5] ?_;simp only [pick,af,ae,ah];iterate 1 still_step
     refine wpStill_nil ?_;refine lL 1 6 (by kernel_rfl) (by rfl) (by rfl) ?_ ?_
     ·skip
      try simp only [af,ae,ah]
      go_simp;try dsimp only
      try simp only [af,ae,ah,Act.put,aq,ak,ao]
      refine aL 6 ?_;try simp only [af,ae,ah]
      go_simp;refine (ez.o _).mono ?_;rintro e w5 ⟨rfl,jG⟩;have H5:=aa (H9.o.drew.below jG);have q0:=H5.o.row.1.cell 1;simp only [List.getElem?_cons_succ,List.getElem?_cons_zero] at q0;have ql:=H5.o.row.1.lt;clear jG;try dsimp only
      try simp only [af,ae,ah,Act.put,aq,ak,ao]
      refine aL 7 ?_;try simp only [af,ae,ah]
      go_simp;try dsimp only
      try simp only [af,ae,ah,Act.put,aq,ak,ao]
      have H6:=aa ((H5.o.new 3 #[.int .i64 (z:Int)]).swap.pick 2 rfl);refine aL 8 ?_;try simp only [af,ae,ah]
      refine kf uM (by rfl) (.tmp 23) (.tmp 29) (by rfl) H6.o.own (by rfl) (by rfl) (((Row.new w5 3 #[.int .i64 (z:Int)]).sl (B:=w5.heap.size+1) (size:=1) (n:=1) (o:=0) (ys:=[.int .i64 (z:Int)]) (Nat.lt_succ_self _) rfl rfl)) (by simp [Value.oneCell']) (by omega) (by omega) (by unfold maxLen;omega) H6.o.aI.size ?_;intro g6 gu w6 eU fR fa jN;have H7:=aa (H6.o.grown fR eU (fun g hg=>by cases hg;exact fa)).swap;have x0:=H7.o.row.1.cell 1;simp only [List.getElem?_cons_succ,List.getElem?_cons_zero] at x0;have xf:=H7.o.row.1.frozen 1;have xl:=H7.o.row.1.lt;clear eU fR fa jN q0 ql;try dsimp only
      try simp only [af,ae,ah,Act.put,aq,ak,ao]
      refine aL 9 ?_;try simp only [af,ae,ah]
      go_simp;try dsimp only
      try simp only [af,ae,ah,Act.put,aq,ak,ao]
      refine aL 10 ?_;try simp only [af,ae,ah]
      go_simp;try dsimp only
      refine bZ ?_;have H8:=aa (H7.o.set 1 (.slice (some ⟨g6,0,none⟩) (k+1) gu));go_wp2_with fail;go_roundw
      case rel =>
       refine ⟨k+1,LH,.slice (some ⟨g6,0,none⟩) (k+1) gu,by omega,by go_num,?_⟩;have h:=((H8.o.pick 2 rfl).drop.pick 2 rfl).swap;rw [K8.o,iQ];exact h
      case measure=>simp [intOf];omega
     ·try simp only [af,ae,ah]
      go_simp;refine (ez.o _).mono ?_;rintro e w5 ⟨rfl,jG⟩;have H5:=aa (H9.o.drew.below jG);have q0:=H5.o.row.1.cell 1;simp only [List.getElem?_cons_succ,List.getElem?_cons_zero] at q0;have ql:=H5.o.row.1.lt;clear jG;try dsimp only
      try simp only [af,ae,ah,Act.put,aq,ak,ao]
      refine lL 1 7 (by kernel_rfl) (by rfl) (by rfl) ?_ ?_
      ·skip
       try simp only [af,ae,ah]
       go_simp;try dsimp only
       try simp only [af,ae,ah,Act.put,aq,ak,ao]
       refine aL 7 ?_;try simp only [af,ae,ah]
       go_simp;try dsimp only
       try simp only [af,ae,ah,Act.put,aq,ak,ao]
       have H6:=aa ((H5.o.new 3 #[.int .i64 (z:Int)]).swap.pick 2 rfl);refine aL 8 ?_;try simp only [af,ae,ah]
       refine kf uM (by rfl) (.tmp 23) (.tmp 29) (by rfl) H6.o.own (by rfl) (by rfl) (((Row.new w5 3 #[.int .i64 (z:Int)]).sl (B:=w5.heap.size+1) (size:=1) (n:=1) (o:=0) (ys:=[.int .i64 (z:Int)]) (Nat.lt_succ_self _) rfl rfl)) (by simp [Value.oneCell']) (by omega) (by omega) (by unfold maxLen;omega) H6.o.aI.size ?_;intro g6 gu w6 eU fR fa jN;have H7:=aa (H6.o.grown fR eU (fun g hg=>by cases hg;exact fa)).swap;have x0:=H7.o.row.1.cell 1;simp only [List.getElem?_cons_succ,List.getElem?_cons_zero] at x0;have xf:=H7.o.row.1.frozen 1;have xl:=H7.o.row.1.lt;clear eU fR fa jN q0 ql;try dsimp only
       try simp only [af,ae,ah,Act.put,aq,ak,ao]
       refine aL 9 ?_;try simp only [af,ae,ah]
       go_simp;try dsimp only
       try simp only [af,ae,ah,Act.put,aq,ak,ao]
       refine aL 10 ?_;try simp only [af,ae,ah]
       go_simp;try dsimp only
       refine bZ ?_;have H8:=aa (H7.o.set 1 (.slice (some ⟨g6,0,none⟩) (k+1) gu));go_wp2_with fail;go_roundw
       case rel =>
        refine ⟨k+1,LH,.slice (some ⟨g6,0,none⟩) (k+1) gu,by omega,by go_num,?_⟩;have h:=((H8.o.pick 2 rfl).drop.pick 2 rfl).swap;rw [K8.o,iQ];exact h
       case measure=>simp [intOf];omega
      ·try simp only [af,ae,ah]
       go_simp;try dsimp only
       try simp only [af,ae,ah,Act.put,aq,ak,ao]
       refine aL 1 ?_;try simp only [af,ae,ah]
       go_simp;try dsimp only
       try simp only [af,ae,ah,Act.put,aq,ak,ao]
       have H6:=aa ((H5.o.new 3 #[.int .i64 (z:Int)]).swap.pick 2 rfl);refine aL 8 ?_;try simp only [af,ae,ah]
       refine kf uM (by rfl) (.tmp 23) (.tmp 29) (by rfl) H6.o.own (by rfl) (by rfl) (((Row.new w5 3 #[.int .i64 (z:Int)]).sl (B:=w5.heap.size+1) (size:=1) (n:=1) (o:=0) (ys:=[.int .i64 (z:Int)]) (Nat.lt_succ_self _) rfl rfl)) (by simp [Value.oneCell']) (by omega) (by omega) (by unfold maxLen;omega) H6.o.aI.size ?_;intro g6 gu w6 eU fR fa jN;have H7:=aa (H6.o.grown fR eU (fun g hg=>by cases hg;exact fa)).swap;have x0:=H7.o.row.1.cell 1;simp only [List.getElem?_cons_succ,List.getElem?_cons_zero] at x0;have xf:=H7.o.row.1.frozen 1;have xl:=H7.o.row.1.lt;clear eU fR fa jN q0 ql;try dsimp only
       try simp only [af,ae,ah,Act.put,aq,ak,ao]
       refine aL 9 ?_;try simp only [af,ae,ah]
       go_simp;try dsimp only
       try simp only [af,ae,ah,Act.put,aq,ak,ao]
       refine aL 10 ?_;try simp only [af,ae,ah]
       go_simp;try dsimp only
       refine bZ ?_;have H8:=aa (H7.o.set 1 (.slice (some ⟨g6,0,none⟩) (k+1) gu));go_wp2_with fail;go_roundw
       case rel =>
        refine ⟨k+1,LH,.slice (some ⟨g6,0,none⟩) (k+1) gu,by omega,by go_num,?_⟩;have h:=((H8.o.pick 2 rfl).drop.pick 2 rfl).swap;rw [K8.o,iQ];exact h
       case measure=>simp [intOf];omega
   ·have h8':¬(k:Int) < 8:=by omega
    have Me:=WR k (by omega);obtain ⟨pk,uX⟩:∃pk,eQ.getD k 0=pk:=⟨_,rfl⟩
    rw [uX] at JX zv cA;have Ee:=(H4.o.pick 2 rfl).swap;have H9:=aa Ee;have p1:=Ee.row.1.cell 1;simp only [List.getElem?_cons_succ,List.getElem?_cons_zero] at p1;have pl:=Ee.row.1.lt;generalize hz:nR pk 3=z at *;have HZ:=aa hz;have K8:=aa JX;have K9:=aa Me;clear hz JX Ee uX Me;have ez:=aa (fun w=>Fm w pk 3 zv (by omega) (by omega));rw [HZ.o] at ez;go_upto_region 8 with fail;refine dA ?_;refine bj [0,2,3,4] ?_;simp only [pick,af,ae,ah];iterate 4 still_step
    refine wpStill_nil ?_;refine bj [5] ?_;simp only [pick,af,ae,ah];iterate 1 still_step
    refine wpStill_nil ?_;refine lL 1 6 (by kernel_rfl) (by rfl) (by rfl) ?_ ?_
    ·skip
     try simp only [af,ae,ah]
     go_simp;try dsimp only
     try simp only [af,ae,ah,Act.put,aq,ak,ao]
     refine aL 6 ?_;try simp only [af,ae,ah]
     go_simp;refine (ez.o _).mono ?_;rintro e w5 ⟨rfl,jG⟩;have H5:=aa (H9.o.drew.below jG);have q0:=H5.o.row.1.cell 1;simp only [List.getElem?_cons_succ,List.getElem?_cons_zero] at q0;have ql:=H5.o.row.1.lt;clear jG;try dsimp only
     try simp only [af,ae,ah,Act.put,aq,ak,ao]
     refine aL 7 ?_;try simp only [af,ae,ah]
     go_simp;try dsimp only
     try simp only [af,ae,ah,Act.put,aq,ak,ao]
     have H6:=aa ((H5.o.new 3 #[.int .i64 (z:Int)]).swap.pick 2 rfl);refine aL 8 ?_;try simp only [af,ae,ah]
     refine kf uM (by rfl) (.tmp 23) (.tmp 29) (by rfl) H6.o.own (by rfl) (by rfl) (((Row.new w5 3 #[.int .i64 (z:Int)]).sl (B:=w5.heap.size+1) (size:=1) (n:=1) (o:=0) (ys:=[.int .i64 (z:Int)]) (Nat.lt_succ_self _) rfl rfl)) (by simp [Value.oneCell']) (by omega) (by omega) (by unfold maxLen;omega) H6.o.aI.size ?_;intro g6 gu w6 eU fR fa jN;have H7:=aa (H6.o.grown fR eU (fun g hg=>by cases hg;exact fa)).swap;have x0:=H7.o.row.1.cell 1;simp only [List.getElem?_cons_succ,List.getElem?_cons_zero] at x0;have xf:=H7.o.row.1.frozen 1;have xl:=H7.o.row.1.lt;clear eU fR fa jN q0 ql;try dsimp only
     try simp only [af,ae,ah,Act.put,aq,ak,ao]
     refine aL 9 ?_;try simp only [af,ae,ah]
     go_simp;try dsimp only
     try simp only [af,ae,ah,Act.put,aq,ak,ao]
     refine aL 10 ?_;try simp only [af,ae,ah]
     go_simp;try dsimp only
     refine bZ ?_;have H8:=aa (H7.o.set 1 (.slice (some ⟨g6,0,none⟩) (k+1) gu));go_wp2_with fail;go_roundw
     case rel =>
      refine ⟨k+1,v1,.slice (some ⟨g6,0,none⟩) (k+1) gu,by omega,by go_num,?_⟩;rw [K9.o];have h:=((H8.o.pick 2 rfl).drop.pick 2 rfl).swap;rw [K8.o,iQ];exact h
     case measure=>simp [intOf];omega
    ·try simp only [af,ae,ah]
     go_simp;refine (ez.o _).mono ?_;rintro e w5 ⟨rfl,jG⟩;have H5:=aa (H9.o.drew.below jG);have q0:=H5.o.row.1.cell 1;simp only [List.getElem?_cons_succ,List.getElem?_cons_zero] at q0;have ql:=H5.o.row.1.lt;clear jG;try dsimp only
     try simp only [af,ae,ah,Act.put,aq,ak,ao]
     refine lL 1 7 (by kernel_rfl) (by rfl) (by rfl) ?_ ?_
     ·skip
      try simp only [af,ae,ah]
      go_simp;try dsimp only
      try simp only [af,ae,ah,Act.put,aq,ak,ao]
      refine aL 7 ?_;try simp only [af,ae,ah]
      go_simp;try dsimp only
      try simp only [af,ae,ah,Act.put,aq,ak,ao]
      have H6:=aa ((H5.o.new 3 #[.int .i64 (z:Int)]).swap.pick 2 rfl);refine aL 8 ?_;try simp only [af,ae,ah]
      refine kf uM (by rfl) (.tmp 23) (.tmp 29) (by rfl) H6.o.own (by rfl) (by rfl) (((Row.new w5 3 #[.int .i64 (z:Int)]).sl (B:=w5.heap.size+1) (size:=1) (n:=1) (o:=0) (ys:=[.int .i64 (z:Int)]) (Nat.lt_succ_self _) rfl rfl)) (by simp [Value.oneCell']) (by omega) (by omega) (by unfold maxLen;omega) H6.o.aI.size ?_;intro g6 gu w6 eU fR fa jN;have H7:=aa (H6.o.grown fR eU (fun g hg=>by cases hg;exact fa)).swap;have x0:=H7.o.row.1.cell 1;simp only [List.getElem?_cons_succ,List.getElem?_cons_zero] at x0;have xf:=H7.o.row.1.frozen 1;have xl:=H7.o.row.1.lt;clear eU fR fa jN q0 ql;try dsimp only
      try simp only [af,ae,ah,Act.put,aq,ak,ao]
      refine aL 9 ?_;try simp only [af,ae,ah]
      go_simp;try dsimp only
      try simp only [af,ae,ah,Act.put,aq,ak,ao]
      refine aL 10 ?_;try simp only [af,ae,ah]
      go_simp;try dsimp only
      refine bZ ?_;have H8:=aa (H7.o.set 1 (.slice (some ⟨g6,0,none⟩) (k+1) gu));go_wp2_with fail;go_roundw
      case rel =>
       refine ⟨k+1,v1,.slice (some ⟨g6,0,none⟩) (k+1) gu,by omega,by go_num,?_⟩;rw [K9.o];have h:=((H8.o.pick 2 rfl).drop.pick 2 rfl).swap;rw [K8.o,iQ];exact h
      case measure=>simp [intOf];omega
     ·try simp only [af,ae,ah]
      go_simp;try dsimp only
      try simp only [af,ae,ah,Act.put,aq,ak,ao]
      refine aL 1 ?_;try simp only [af,ae,ah]
      go_simp;try dsimp only
      try simp only [af,ae,ah,Act.put,aq,ak,ao]
      have H6:=aa ((H5.o.new 3 #[.int .i64 (z:Int)]).swap.pick 2 rfl);refine aL 8 ?_;try simp only [af,ae,ah]
      refine kf uM (by rfl) (.tmp 23) (.tmp 29) (by rfl) H6.o.own (by rfl) (by rfl) (((Row.new w5 3 #[.int .i64 (z:Int)]).sl (B:=w5.heap.size+1) (size:=1) (n:=1) (o:=0) (ys:=[.int .i64 (z:Int)]) (Nat.lt_succ_self _) rfl rfl)) (by simp [Value.oneCell']) (by omega) (by omega) (by unfold maxLen;omega) H6.o.aI.size ?_;intro g6 gu w6 eU fR fa jN;have H7:=aa (H6.o.grown fR eU (fun g hg=>by cases hg;exact fa)).swap;have x0:=H7.o.row.1.cell 1;simp only [List.getElem?_cons_succ,List.getElem?_cons_zero] at x0;have xf:=H7.o.row.1.frozen 1;have xl:=H7.o.row.1.lt;clear eU fR fa jN q0 ql;try dsimp only
      try simp only [af,ae,ah,Act.put,aq,ak,ao]
      refine aL 9 ?_;try simp only [af,ae,ah]
      go_simp;try dsimp only
      try simp only [af,ae,ah,Act.put,aq,ak,ao]
      refine aL 10 ?_;try simp only [af,ae,ah]
      go_simp;try dsimp only
      refine bZ ?_;have H8:=aa (H7.o.set 1 (.slice (some ⟨g6,0,none⟩) (k+1) gu));go_wp2_with fail;go_roundw
      case rel =>
       refine ⟨k+1,v1,.slice (some ⟨g6,0,none⟩) (k+1) gu,by omega,by go_num,?_⟩;rw [K9.o];have h:=((H8.o.pick 2 rfl).drop.pick 2 rfl).swap;rw [K8.o,iQ];exact h
      case measure=>simp [intOf];omega
  ·have cZ:¬(k:Int) < 64:=by omega
   have we:k=64:=by omega
   have hx:=H4.o;rw [we,Ym,Yl] at hx;obtain ⟨A1,c1,rfl,_,_⟩:=aH (hx.pick 1 rfl).own;obtain ⟨A2,c2,rfl,_,_⟩:=aH (hx.pick 2 rfl).own;have xD:=hx.row.1.cell 0;have hx1:=hx.row.1.cell 1;simp only [List.getElem?_cons_succ,List.getElem?_cons_zero] at xD hx1;have hr:=hx.pick 4 rfl;have oz:=hr.row.1.cell 0;have vT:=hr.row.1.cell 1;have hf0:=hr.row.1.frozen 0;have hf1:=hr.row.1.frozen 1;simp only [List.getElem?_cons_succ,List.getElem?_cons_zero] at oz vT;have hlr:=hr.row.1.lt;have HR:=aa ((hr.set 0 (.slice A1 8 c1)).set 1 (.slice A2 64 c2));clear we hx hr;go_wp2_with fail;refine bodyPost_ret (results_cell_row (cs:=#[.slice A1 8 c1,.slice A2 64 c2]) rfl _ _ w.heap.size _ _ _ rfl HR.o.row.1 Tryz.underlying264 rfl (by kernel_rfl)) rfl ?_;exact ⟨_,_,rfl,(HR.o.drop.drop).take 2⟩
end fH
namespace bf


open Go.RowKit
section
variable {P : Program} {ops : Array Oper} {md : Region.Mode} {C : World → Prop}
def xg (P:Program) (md:Region.Mode) (ops:Array Oper) (C:World→Prop) (Q:Array Bool→Act→Prop):Nat→Array Bool→Act→Prop
 | 0,ar,a=>Q ar a
 | fuel+1,ar,a=>Region.ready md ops ar≠[]∧∀i∈Region.ready md ops ar,qOp P ops C i (xg P md ops C Q fuel (ar.setIfInBounds i true)) a
theorem DD {Q:Array Bool→Act→Prop} {Q':Exit→Act→World→Prop} {n:Nat} (hQ:∀L a w,C w→Q L a→wpAny P md ops Q' n L a w):∀(fuel:Nat) (ar:Array Bool) (a:Act) (w:World),C w→xg P md ops C Q fuel ar a→wpAny P md ops Q' (fuel+n) ar a w
 | 0,L,a,w,hw,h=>by rw [Nat.zero_add];exact hQ L a w hw h
 | fuel+1,L,a,w,hw,h=>by
   rw [show fuel+1+n=(fuel+n)+1 by omega];exact ⟨fun h0=>absurd h0 h.1,fun i hi=>wpOp_of_qOp hw (fun a' w' hw' hk=>DD hQ fuel _ a' w' hw' hk) (h.2 i hi)⟩
structure Left (md:Region.Mode) (ops:Array Oper) (rem:List Nat) (ar:Array Bool):Prop where
 nd:rem.Nodup
 cl:mO md ops ar
 un:∀i∈rem,ar.getD i true=false
 wt:∀i∈rem,ym md ops i (qy md ops i)=true
 cov:∀j,ar.getD j true=false→j∈rem∨∀i∈rem,(qy md ops i).getD j false=true
theorem Left.ready {rem:List Nat} {ar:Array Bool} (h:Left md ops rem ar) {i j:Nat} (hi:i∈rem) (hj:j∈Region.ready md ops ar):j∈rem:=by
 rcases h.cov j (mem_ready.1 hj).1 with k|k
 ·exact k
 ·by_cases e:j=i
  ·rw [e];exact hi
  ·have h1:=Gi (h.wt i hi) h.cl (by
    have:=h.un i hi;by_cases hs:i < ar.size
    ·simp [hs] at this ⊢;exact this
    ·simp [Array.getElem?_eq_none (Nat.le_of_not_lt hs)] at this) hj e
   rw [k i hi] at h1;cases h1
theorem Left.step {rem:List Nat} {ar:Array Bool} (h:Left md ops rem ar) {j:Nat} (hj:j∈Region.ready md ops ar) (hm:j∈rem):Left md ops (rem.erase j) (ar.setIfInBounds j true) where
 nd:=h.nd.erase j
 cl:=h.cl.set hj
 un:=fun i hi=>by
  have h1:=(h.nd.mem_erase_iff).1 hi;rw [getD_set_ne true (Ne.symm h1.1)];exact h.un i h1.2
 wt:=fun i hi=>h.wt i (List.mem_of_mem_erase hi)
 cov:=fun x hx=>by
  by_cases e:j=x
  ·subst e;by_cases hs:j < ar.size
   ·simp [hs] at hx
   ·simp [Array.getElem?_eq_none (Nat.le_of_not_lt hs)] at hx
  ·rw [getD_set_ne true e] at hx;rcases h.cov x hx with k|k
   ·exact .inl (h.nd.mem_erase_iff.2 ⟨fun q=>e q.symm,k⟩)
   ·exact .inr fun i hi=>k i (List.mem_of_mem_erase hi)
theorem Ig {Q:Array Bool→Act→Prop} {i:Nat} {oi:Oper} {v:Value} (hi:ops[i]?=some oi) (jM:∀(j:Nat) (o:Oper) cs b,ops[j]?=some o→o.op≠.select cs b) :
  ∀(fuel:Nat) (rem:List Nat) (ar:Array Bool) (a:Act),rem.length=fuel+1→i∈rem→Left md ops rem ar→
   (∀j oj,ops[j]?=some oj→j≠i→ar.getD j true=false→(∀e∈oj.after,Region.binds md e=true→e.on≠i)→oi.apart ops oj=true)→
   i∈Region.ready md ops ar→YieldsIn P ops C oi v a→
   xg P md ops C Q fuel (ar.setIfInBounds i true) (a.put oi.dst v)→xg P md ops C Q (fuel+1) ar a:=by
 intro fuel
 induction fuel with
 | zero =>
   intro rem ar a hl wh hL _ hr hy H;refine ⟨fun h=>(by rw [h] at hr;cases hr),fun j hj=>?_⟩;have QE:=hL.ready wh hj;obtain ⟨x,hx⟩:=List.length_eq_one_iff.1 hl;rw [hx] at QE wh;have e:j=i:=(List.mem_singleton.1 QE).trans (List.mem_singleton.1 wh).symm;subst e;exact hy.qOp hi H
 | succ fuel ih =>
   intro rem ar a hl wh hL Ew hr hy H;refine ⟨fun h=>(by rw [h] at hr;cases hr),fun j hj=>?_⟩;by_cases jQ:j=i
   ·subst jQ;exact hy.qOp hi H
   ·have QE:=hL.ready wh hj;have h1:=H.2 j (ready_mono hj jQ);obtain ⟨Dl,oj,xJ,cN⟩:=mem_ready.1 hj
    have TF:∀e∈oj.after,Region.binds md e=true→e.on≠i:=fun e he hb heq=>by
     have h1:=cN e he hb;have h0:=(mem_ready.1 hr).1;rw [heq] at h1;rcases Nat.lt_or_ge i ar.size with h'|h'
     ·simp [h'] at h0 h1;rw [h0] at h1;cases h1
     ·simp [Array.getElem?_eq_none h'] at h1
    have h2:=qOp_put xJ (Ew j oj xJ jQ Dl TF) (fun cs b=>jM i oi cs b hi) (fun cs b=>jM j oj cs b xJ) hy h1
    have YW:∀k ok,ops[k]?=some ok→k≠i→(ar.setIfInBounds j true).getD k true=false→
      (∀e∈ok.after,Region.binds md e=true→e.on≠i)→oi.apart ops ok=true:=fun k ok hk Eu rP kt=>by
     refine Ew k ok hk Eu ?_ kt;by_cases wg:j=k
     ·subst wg;exact Dl
     ·rw [getD_set_ne true wg] at rP;exact rP
    refine qOp_mono (fun a' h3=>ih (rem.erase j) (ar.setIfInBounds j true) a' (by rw [List.length_erase_of_mem QE,hl];rfl) ((List.mem_erase_of_ne (Ne.symm jQ)).2 wh) (hL.step hj QE) YW (ready_mono hr (Ne.symm jQ)) h3.1 ?_) h2;rw [Array.setIfInBounds_comm _ _ jQ];exact h3.2
def Ex (md:Region.Mode) (ops:Array Oper):List Nat→Array Bool→Bool
 | [],_=>true
 | i::r,ar=>(Region.ready md ops ar).contains i&&Region.free md ops ar i&&Ex md ops r (ar.setIfInBounds i true)
end
section
variable {P : Program} {l : List Oper} {md : Region.Mode} {C : World → Prop}
theorem zh {Q:Array Bool→Act→Prop} (hs:Region.noSelect l.toArray=true):∀(hd:List Nat) (ar:Array Bool) (a:Act),Left md l.toArray hd ar→Ex md l.toArray hd ar=true→
  wpQuiet P l.toArray C (fun a'=>Q (heard hd ar) a') (pick l hd) a→xg P md l.toArray C Q hd.length ar a
 | [],_,_,_,_,h=>h
 | i::r,ar,a,hL,hB,h=>by
   simp only [Ex,Bool.and_eq_true] at hB;obtain ⟨⟨hr,hf⟩,hB'⟩:=hB;have rA:i∈Region.ready md l.toArray ar:=by simpa using hr
   obtain ⟨_,oi,nH,_⟩:=mem_ready.1 rA
   have yN:(l[i]?).getD default=oi:=by
    have:l[i]?=some oi:=by simpa using nH
    rw [this];rfl
   have av:qOp P l.toArray C i (wpQuiet P l.toArray C (fun a'=>Q (heard r (ar.setIfInBounds i true)) a') (pick l r)) a:=by
    unfold qOp;simp only [nH];simp only [pick,yN] at h;exact h
   obtain ⟨v,hy,hK⟩:=yieldsIn_of_qOp nH av;have zy:=hL.step rA (List.mem_cons_self);rw [List.erase_cons_head] at zy;exact Ig nH (Region.noSelect_spec hs) r.length (i::r) ar a rfl (List.mem_cons_self) hL (Region.free_spec nH hf) rA hy (zh hs r _ _ zy hB' hK)
def PN (md:Region.Mode) (ops:Array Oper) (hd:List Nat) (ar:Array Bool) (N:Nat):Bool :=
 Region.noSelect ops&&FQ md ops ar&&decide (hd.length≤N)&&decide hd.Nodup&&(ar.size==ops.size)&&hd.all (fun i=>!ar.getD i true)&&hd.all (fun i=>ym md ops i (qy md ops i)) &&
 (List.range ops.size).all (fun j=>ar.getD j true||hd.contains j||hd.all fun i=>(qy md ops i).getD j false)&&Ex md ops hd ar
theorem jT {Q:Exit→Act→World→Prop} {a:Act} {w:World} {N:Nat} {ar:Array Bool} (hd:List Nat) (hB:PN md l.toArray hd ar N=true)
  (h:wpQuiet P l.toArray (fun w'=>∃n,w'=w.drewN n) (fun a'=>∀w',(∃n,w'=w.drewN n)→wpAny P md l.toArray Q (N-hd.length) (heard hd ar) a' w') (pick l hd) a):wpAny P md l.toArray Q N ar a w:=by
 simp only [PN,Bool.and_eq_true,decide_eq_true_eq,beq_iff_eq] at hB;obtain ⟨⟨⟨⟨⟨⟨⟨⟨jM,hc⟩,hn⟩,hnd⟩,iu⟩,rP⟩,hwt⟩,aa5⟩,hB⟩:=hB
 have hL:Left md l.toArray hd ar:={
  nd:=hnd
  cl:=Hb hc
  un:=fun i hi=>by simpa using List.all_eq_true.1 rP i hi
  wt:=fun i hi=>List.all_eq_true.1 hwt i hi
  cov:=fun j hj=>by
   have hjs:j < l.toArray.size:=by
    rcases Nat.lt_or_ge j l.toArray.size with h|h
    ·exact h
    ·rw [←iu] at h;simp [Array.getElem?_eq_none h] at hj
   have h1:=List.all_eq_true.1 aa5 j (List.mem_range.2 hjs);simp only [hj,Bool.false_or,Bool.or_eq_true,List.contains_iff_mem] at h1;rcases h1 with h1|h1
   ·exact .inl h1
   ·exact .inr fun i hi=>List.all_eq_true.1 h1 i hi }
 have k:=zh (P:=P) (C:=fun w'=>∃n,w'=w.drewN n) (Q:=fun L a'=>L=heard hd ar∧∀w',(∃n,w'=w.drewN n)→wpAny P md l.toArray Q (N-hd.length) (heard hd ar) a' w') jM hd ar a hL hB (by
  refine cast ?_ h
  simp)
 have k2:=DD (Q':=Q) (n:=N-hd.length) (fun L a' w' hw' h'=>by rw [h'.1];exact h'.2 w' hw') hd.length ar a w ⟨0,rfl⟩ k
 rwa [show hd.length+(N-hd.length)=N by omega] at k2
end
end bf
end Go.Proofs.YtdldkkoplgkloaaGreat
