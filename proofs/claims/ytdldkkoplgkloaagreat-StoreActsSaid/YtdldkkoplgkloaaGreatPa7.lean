/- PROVED HERE: lemmas of the law. CONDITIONS: each names its own. -/
import Derived.BigQuiet
import Derived.Deep.Cut
import Derived.Deep.DeepCutAuto
import Derived.Test.YtdldkkoplgkloaaGreatPa0
import Derived.Test.YtdldkkoplgkloaaGreatPa4
import Derived.Test.YtdldkkoplgkloaaGreatPa6
namespace Go.Proofs.YtdldkkoplgkloaaGreat
set_option linter.unusedVariables false
set_option linter.unusedSimpArgs false
set_option maxRecDepth 100000
set_option maxHeartbeats 32000000
open Go.Value renaming int → ae
open Go.IntKind renaming i64 → aa
namespace fZ
open Go.RowKit Go.Deep base obj mem sep bC aW chain
theorem kP {P:Program} {t e size bytes:Nat} (T:qP P t e size bytes) {o:Oper} {a:Act} {K:Act→World→Prop} {Q:Exit→Act→World→Prop} {w:World} (eP:o.guard=none) (s x:Operand)
  (ho:o.op=.call { callee:=.builtin .append,args:=#[s,x],argTypes:=#[t,t] })
  {base:Nat} {v:Value} {n:Nat} {xs:List Value} (ft:w.ownsRow base e size v n xs) (hs:a.eval s=v) {B m c:Nat} {A:Option Addr} {ys:List Value} (hx:a.eval x=.slice A m c)
  (hr:Sl w B size A m ys) (h1:∀u∈ys,u.oneCell'=true) (hm:0 < m) (hb:(n+m)*bytes≤140737488355328) (rP:n+m≤maxLen) (pj:base≤w.heap.size)
  (h:∀g cap w',w'.ownsRow base e size (.slice (some ⟨g,0,none⟩) (n+m) cap) (n+m) (xs++ys)→w.grownBy w' v.ownBlock→(v.ownBlock=some g∨w.heap.size≤g)→g < w'.heap.size→K (a.put o.dst (.slice (some ⟨g,0,none⟩) (n+m) cap)) w') :
  Oper.wp P o a w K Q:=by
 have k:=Hw T (ops:=#[o]) (Q:=Q) (E:=True) eP s x ho ft hs hx hr h1 hm hb rP pj h
 rwa [if_pos (by simp [Region.wanted,eP])] at k
theorem jl (l:List Nat) (z:Nat):dZ (l++[z])=dZ l++[ae aa (z:Int)]:=by simp [dZ]
def kF (k:Nat):List Nat:=((fi.take 8).take k).map (o8 · 2)
def kR (k:Nat):List Nat:=(fi.take k).map (o8 · 3)
theorem Ng (w:World) (o:Obj):(w.alloc o).heap.size=w.heap.size+1:=Array.size_push _
theorem od:fi.length=64:=rfl
theorem Fu (k:Nat):(kF k).length=min k 8:=by simp [kF,od]
theorem YH (k:Nat) (h:k < 8):kF (k+1)=kF k++[o8 (fi.getD k 0) 2]:=by
 have h8:k < (fi.take 8).length:=by simp [od];exact h
 unfold kF;rw [kr h8,List.map_append,List.getElem_take,dD,cN (by rw [od];omega)];rfl
theorem YG (k:Nat) (h:8≤k):kF (k+1)=kF k:=by
 unfold kF;rw [List.take_take,List.take_take,show min (k+1) 8=8 by omega,show min k 8=8 by omega]
theorem YF (k:Nat) (h:k < 64):kR (k+1)=kR k++[o8 (fi.getD k 0) 3]:=by
 unfold kR;rw [kr (by rw [od];exact h),List.map_append,dD,cN (by rw [od];exact h)];rfl
theorem Z7:kF 64=F0:=by
 rw [←Nc];rfl
theorem Z6:kR 64=ks:=by
 rw [←Vw];rfl
theorem RI (k:Nat) (h:k < 64):fi.getD k 0≤1000:=by
 have:∀k,k < 64→fi.getD k 0≤1000:=by decide
 exact this k h
theorem YD (w:World):Calls Tryz.prog 190 #[] w fun e w'=>∃v1 v2,e=.returned (.agg #[v1,v2])∧St w w' [own 3 1 v1 8 (dZ F0),own 3 1 v2 64 (dZ ks)]:=by
 have Mv:=af (((St.nil w).new 264 #[.slice none 0 0,.slice none 0 0]).new 264 #[.slice none 0 0,.slice none 0 0]);go_enter Tryz.func190,Tryz.ntmps190;go_wp2_with fail;refine (RJ _).mono ?_;rintro e w2 ⟨v,rfl,ho,hb⟩;have h2:=Mv.o.cX hb ho;rw [Ng] at h2;obtain ⟨A,c,rfl,hc,uk⟩:=aD ho;have h3:=((h2.add (Q:=own 3 1 (.slice none 0 0) 0 []) (F:=fun _=>False) (Below.refl _ _) ⟨World.ownsRow_nil _ _ _ _,fun i=>by simp [Value.ownBlock]⟩ (fun i hi=>hi.elim)).add (Q:=own 3 1 (.slice none 0 0) 0 []) (F:=fun _=>False) (Below.refl _ _) ⟨World.ownsRow_nil _ _ _ _,fun i=>by simp [Value.ownBlock]⟩ (fun i hi=>hi.elim)).pick 3 rfl;have H3:=af h3;clear h2 h3 ho hb;go_wp2_with fail;go_loopw [3] (fun i wr=>∃(k:Nat) (v1 v2:Value),k≤64∧i=ae aa k∧St w wr [row (w.heap.size+1) 264 [v1,v2],own 3 1 v1 (kF k).length (dZ (kF k)),own 3 1 v2 k (dZ (kR k)),own 3 1 (.slice A 64 c) 64 (dZ fi),row w.heap.size 264 [.slice none 0 0,.slice none 0 0]]) (fun i _=>64-(intOf i).toNat)
 case atStart=>exact ⟨0,_,_,by omega,rfl,H3.o⟩
 case round =>
  obtain ⟨k,v1,v2,hk,rfl,h4⟩:=hrel;have H4:=af h4;clear h4;by_cases aH:k < 64
  ·have df:(k:Int) < 64:=by omega
   obtain ⟨bA,oA,rfl,Od,cA⟩:=vG (Sl.bP (H4.o.pick 3 rfl).own) od k aH;have Lo:=YF k aH;have AN:=RI k aH;have i0:(0:Int)≤(k:Int):=by omega
   by_cases h8:k < 8
   ·have h8':(k:Int) < 8:=by omega
    have NX:=YH k h8;obtain ⟨pk,wL⟩:∃pk,fi.getD k 0=pk:=⟨_,rfl⟩
    rw [wL] at NX Lo AN cA;have hx:=H4.o;rw [Fu,show min k 8=k by omega] at hx;have H5:=af hx;have p0:=hx.row.1.cell 0;simp only [List.getElem?_cons_succ,List.getElem?_cons_zero] at p0;have pl:=hx.row.1.lt;clear hx;go_upto_region 7 with fail
    go_cut [0,1,2,3] (fun s0 s1 s2 s3 wc=>∃Nm:Value,s0=.pointer (some ⟨w.heap.size,0,none⟩)∧s1=.pointer (some ⟨w.heap.size+1,0,none⟩)∧s2=.slice (some ⟨bA,oA,none⟩) 64 c∧s3=ae aa k∧St w wc [row (w.heap.size+1) 264 [Nm,v2],own 3 1 Nm (kF (k+1)).length (dZ (kF (k+1))),own 3 1 v2 k (dZ (kR k)),own 3 1 (.slice (some ⟨bA,oA,none⟩) 64 c) 64 (dZ fi),row w.heap.size 264 [.slice none 0 0,.slice none 0 0]])
    case first =>
     generalize hz:o8 pk 2=z at *;have HZ:=af hz;have MB:=af NX;clear hz NX Lo wL;have eR:=af (fun w=>GB w pk 2 AN (by omega) (by omega));rw [HZ.o] at eR;refine dN ?_;refine bk [0,2,3,4] ?_;simp only [pick,xG];iterate 4 still_step
     refine wpStill_nil ?_;refine bk [5] ?_;simp only [pick,xG];iterate 1 still_step
     refine wpStill_nil ?_;refine mB 1 6 (by kernel_rfl) (by rfl) (by rfl) ?_ ?_
     ·skip
      try simp only [xG]
      go_simp;try dsimp only
      try simp only [ai]
      refine aK 6 ?_;try simp only [xG]
      go_simp;refine (eR.o _).mono ?_;rintro e w5 ⟨rfl,ka⟩;have H5:=af (H5.o.drew.below ka);have q0:=H5.o.row.1.cell 0;simp only [List.getElem?_cons_succ,List.getElem?_cons_zero] at q0;have ql:=H5.o.row.1.lt;clear ka;try dsimp only
      try simp only [ai]
      refine aK 7 ?_;try simp only [xG]
      go_simp;try dsimp only
      try simp only [ai]
      have H6:=af ((H5.o.new 3 #[ae aa (z:Int)]).swap.pick 2 rfl);refine aK 8 ?_;try simp only [xG]
      refine kP vZ (by rfl) (.tmp 13) (.tmp 19) (by rfl) H6.o.own (by rfl) (by rfl) (((Row.new w5 3 #[ae aa (z:Int)]).sl (B:=w5.heap.size+1) (size:=1) (n:=1) (o:=0) (ys:=[ae aa (z:Int)]) (Nat.lt_succ_self _) rfl rfl)) (by simp [Value.oneCell']) (by omega) (by omega) (by unfold maxLen;omega) H6.o.aE.size ?_;intro g6 gZ w6 fC gq fG kh;have H7:=af (H6.o.grown gq fC (fun g hg=>by cases hg;exact fG)).swap;have x0:=H7.o.row.1.cell 0;simp only [List.getElem?_cons_succ,List.getElem?_cons_zero] at x0;have xf:=H7.o.row.1.frozen 0;have xl:=H7.o.row.1.lt;clear fC gq fG kh q0 ql;try dsimp only
      try simp only [ai]
      refine aK 9 ?_;try simp only [xG]
      go_simp;try dsimp only
      try simp only [ai]
      refine aK 10 ?_;try simp only [xG]
      go_simp;try dsimp only
      refine cw ?_;have H8:=af (H7.o.set 0 (.slice (some ⟨g6,0,none⟩) (k+1) gZ));go_wp2_with fail;go_meet;have h:=(H8.o.pick 2 rfl).drop;rw [MB.o,gC,Fu,show min k 8=k by omega,jl]
      first|exact ⟨.slice (some ⟨g6,0,none⟩) (k+1) gZ,h⟩|exact ⟨.slice (some ⟨g6,0,none⟩) (k+1) gZ,rfl,rfl,rfl,rfl,h⟩
     ·try simp only [xG]
      go_simp;refine (eR.o _).mono ?_;rintro e w5 ⟨rfl,ka⟩;have H5:=af (H5.o.drew.below ka);have q0:=H5.o.row.1.cell 0;simp only [List.getElem?_cons_succ,List.getElem?_cons_zero] at q0;have ql:=H5.o.row.1.lt;clear ka;try dsimp only
      try simp only [ai]
      refine mB 1 7 (by kernel_rfl) (by rfl) (by rfl) ?_ ?_
      ·skip
       try simp only [xG]
       go_simp;try dsimp only
       try simp only [ai]
       refine aK 7 ?_;try simp only [xG]
       go_simp;try dsimp only
       try simp only [ai]
       have H6:=af ((H5.o.new 3 #[ae aa (z:Int)]).swap.pick 2 rfl);refine aK 8 ?_;try simp only [xG]
       refine kP vZ (by rfl) (.tmp 13) (.tmp 19) (by rfl) H6.o.own (by rfl) (by rfl) (((Row.new w5 3 #[ae aa (z:Int)]).sl (B:=w5.heap.size+1) (size:=1) (n:=1) (o:=0) (ys:=[ae aa (z:Int)]) (Nat.lt_succ_self _) rfl rfl)) (by simp [Value.oneCell']) (by omega) (by omega) (by unfold maxLen;omega) H6.o.aE.size ?_;intro g6 gZ w6 fC gq fG kh;have H7:=af (H6.o.grown gq fC (fun g hg=>by cases hg;exact fG)).swap;have x0:=H7.o.row.1.cell 0;simp only [List.getElem?_cons_succ,List.getElem?_cons_zero] at x0;have xf:=H7.o.row.1.frozen 0;have xl:=H7.o.row.1.lt;clear fC gq fG kh q0 ql;try dsimp only
       try simp only [ai]
       refine aK 9 ?_;try simp only [xG]
       go_simp;try dsimp only
       try simp only [ai]
       refine aK 10 ?_;try simp only [xG]
       go_simp;try dsimp only
       refine cw ?_;have H8:=af (H7.o.set 0 (.slice (some ⟨g6,0,none⟩) (k+1) gZ));go_wp2_with fail;go_meet;have h:=(H8.o.pick 2 rfl).drop;rw [MB.o,gC,Fu,show min k 8=k by omega,jl]
       first|exact ⟨.slice (some ⟨g6,0,none⟩) (k+1) gZ,h⟩|exact ⟨.slice (some ⟨g6,0,none⟩) (k+1) gZ,rfl,rfl,rfl,rfl,h⟩
      ·try simp only [xG]
       go_simp;try dsimp only
       try simp only [ai]
       refine aK 1 ?_;try simp only [xG]
       go_simp;try dsimp only
       try simp only [ai]
       have H6:=af ((H5.o.new 3 #[ae aa (z:Int)]).swap.pick 2 rfl);refine aK 8 ?_;try simp only [xG]
       refine kP vZ (by rfl) (.tmp 13) (.tmp 19) (by rfl) H6.o.own (by rfl) (by rfl) (((Row.new w5 3 #[ae aa (z:Int)]).sl (B:=w5.heap.size+1) (size:=1) (n:=1) (o:=0) (ys:=[ae aa (z:Int)]) (Nat.lt_succ_self _) rfl rfl)) (by simp [Value.oneCell']) (by omega) (by omega) (by unfold maxLen;omega) H6.o.aE.size ?_;intro g6 gZ w6 fC gq fG kh;have H7:=af (H6.o.grown gq fC (fun g hg=>by cases hg;exact fG)).swap;have x0:=H7.o.row.1.cell 0;simp only [List.getElem?_cons_succ,List.getElem?_cons_zero] at x0;have xf:=H7.o.row.1.frozen 0;have xl:=H7.o.row.1.lt;clear fC gq fG kh q0 ql;try dsimp only
       try simp only [ai]
       refine aK 9 ?_;try simp only [xG]
       go_simp;try dsimp only
       try simp only [ai]
       refine aK 10 ?_;try simp only [xG]
       go_simp;try dsimp only
       refine cw ?_;have H8:=af (H7.o.set 0 (.slice (some ⟨g6,0,none⟩) (k+1) gZ));go_wp2_with fail;go_meet;have h:=(H8.o.pick 2 rfl).drop;rw [MB.o,gC,Fu,show min k 8=k by omega,jl]
       first|exact ⟨.slice (some ⟨g6,0,none⟩) (k+1) gZ,h⟩|exact ⟨.slice (some ⟨g6,0,none⟩) (k+1) gZ,rfl,rfl,rfl,rfl,h⟩
    case rest =>
     obtain ⟨Nm,rfl,rfl,rfl,rfl,h9⟩:=hcut;have Fw:=(h9.pick 2 rfl).swap;have H9:=af Fw;have p1:=Fw.row.1.cell 1;simp only [List.getElem?_cons_succ,List.getElem?_cons_zero] at p1;have pl:=Fw.row.1.lt;have cA:=(vG (Sl.bP (h9.pick 3 rfl).own) od k aH)
     rw [wL] at cA;obtain ⟨bB,oB,hAB,Od,cA⟩:=cA;cases hAB;clear h9 Fw wL;generalize hz:o8 pk 3=z at *;have HZ:=af hz;have Mz:=af Lo;clear hz Lo;have eR:=af (fun w=>GB w pk 3 AN (by omega) (by omega));rw [HZ.o] at eR;go_upto_region 8 with fail;refine dN ?_;refine bk [0,2,3,4] ?_;simp only [pick,xG];iterate 4 still_step
     refine wpStill_nil ?_;refine bk [5] ?_;simp only [pick,xG];iterate 1 still_step
     refine wpStill_nil ?_;refine mB 1 6 (by kernel_rfl) (by rfl) (by rfl) ?_ ?_
     ·skip
      try simp only [xG]
      go_simp;try dsimp only
      try simp only [ai]
      refine aK 6 ?_;try simp only [xG]
      go_simp;refine (eR.o _).mono ?_;rintro e w5 ⟨rfl,ka⟩;have H5:=af (H9.o.drew.below ka);have q0:=H5.o.row.1.cell 1;simp only [List.getElem?_cons_succ,List.getElem?_cons_zero] at q0;have ql:=H5.o.row.1.lt;clear ka;try dsimp only
      try simp only [ai]
      refine aK 7 ?_;try simp only [xG]
      go_simp;try dsimp only
      try simp only [ai]
      have H6:=af ((H5.o.new 3 #[ae aa (z:Int)]).swap.pick 2 rfl);refine aK 8 ?_;try simp only [xG]
      refine kP vZ (by rfl) (.tmp 23) (.tmp 29) (by rfl) H6.o.own (by rfl) (by rfl) (((Row.new w5 3 #[ae aa (z:Int)]).sl (B:=w5.heap.size+1) (size:=1) (n:=1) (o:=0) (ys:=[ae aa (z:Int)]) (Nat.lt_succ_self _) rfl rfl)) (by simp [Value.oneCell']) (by omega) (by omega) (by unfold maxLen;omega) H6.o.aE.size ?_;intro g6 gZ w6 fC gq fG kh;have H7:=af (H6.o.grown gq fC (fun g hg=>by cases hg;exact fG)).swap;have x0:=H7.o.row.1.cell 1;simp only [List.getElem?_cons_succ,List.getElem?_cons_zero] at x0;have xf:=H7.o.row.1.frozen 1;have xl:=H7.o.row.1.lt;clear fC gq fG kh q0 ql;try dsimp only
      try simp only [ai]
      refine aK 9 ?_;try simp only [xG]
      go_simp;try dsimp only
      try simp only [ai]
      refine aK 10 ?_;try simp only [xG]
      go_simp;try dsimp only
      refine cw ?_;have H8:=af (H7.o.set 1 (.slice (some ⟨g6,0,none⟩) (k+1) gZ));go_wp2_with fail;go_roundw
      case rel =>
       refine ⟨k+1,Nm,.slice (some ⟨g6,0,none⟩) (k+1) gZ,by omega,by go_num,?_⟩;have h:=((H8.o.pick 2 rfl).drop.pick 2 rfl).swap;rw [Mz.o,jl];exact h
      case measure=>simp [intOf];omega
     ·try simp only [xG]
      go_simp;refine (eR.o _).mono ?_;rintro e w5 ⟨rfl,ka⟩;have H5:=af (H9.o.drew.below ka);have q0:=H5.o.row.1.cell 1;simp only [List.getElem?_cons_succ,List.getElem?_cons_zero] at q0;have ql:=H5.o.row.1.lt;clear ka;try dsimp only
      try simp only [ai]
      refine mB 1 7 (by kernel_rfl) (by rfl) (by rfl) ?_ ?_
      ·skip
       try simp only [xG]
       go_simp;try dsimp only
       try simp only [ai]
       refine aK 7 ?_;try simp only [xG]
       go_simp;try dsimp only
       try simp only [ai]
       have H6:=af ((H5.o.new 3 #[ae aa (z:Int)]).swap.pick 2 rfl);refine aK 8 ?_;try simp only [xG]
       refine kP vZ (by rfl) (.tmp 23) (.tmp 29) (by rfl) H6.o.own (by rfl) (by rfl) (((Row.new w5 3 #[ae aa (z:Int)]).sl (B:=w5.heap.size+1) (size:=1) (n:=1) (o:=0) (ys:=[ae aa (z:Int)]) (Nat.lt_succ_self _) rfl rfl)) (by simp [Value.oneCell']) (by omega) (by omega) (by unfold maxLen;omega) H6.o.aE.size ?_;intro g6 gZ w6 fC gq fG kh;have H7:=af (H6.o.grown gq fC (fun g hg=>by cases hg;exact fG)).swap;have x0:=H7.o.row.1.cell 1;simp only [List.getElem?_cons_succ,List.getElem?_cons_zero] at x0;have xf:=H7.o.row.1.frozen 1;have xl:=H7.o.row.1.lt;clear fC gq fG kh q0 ql;try dsimp only
       try simp only [ai]
       refine aK 9 ?_;try simp only [xG]
       go_simp;try dsimp only
       try simp only [ai]
       refine aK 10 ?_;try simp only [xG]
       go_simp;try dsimp only
       refine cw ?_;have H8:=af (H7.o.set 1 (.slice (some ⟨g6,0,none⟩) (k+1) gZ));go_wp2_with fail;go_roundw
       case rel =>
        refine ⟨k+1,Nm,.slice (some ⟨g6,0,none⟩) (k+1) gZ,by omega,by go_num,?_⟩;have h:=((H8.o.pick 2 rfl).drop.pick 2 rfl).swap;rw [Mz.o,jl];exact h
       case measure=>simp [intOf];omega
      ·try simp only [xG]
       go_simp;try dsimp only
       try simp only [ai]
       refine aK 1 ?_;try simp only [xG]
       go_simp;try dsimp only
       try simp only [ai]
       have H6:=af ((H5.o.new 3 #[ae aa (z:Int)]).swap.pick 2 rfl);refine aK 8 ?_;try simp only [xG]
       refine kP vZ (by rfl) (.tmp 23) (.tmp 29) (by rfl) H6.o.own (by rfl) (by rfl) (((Row.new w5 3 #[ae aa (z:Int)]).sl (B:=w5.heap.size+1) (size:=1) (n:=1) (o:=0) (ys:=[ae aa (z:Int)]) (Nat.lt_succ_self _) rfl rfl)) (by simp [Value.oneCell']) (by omega) (by omega) (by unfold maxLen;omega) H6.o.aE.size ?_;intro g6 gZ w6 fC gq fG kh;have H7:=af (H6.o.grown gq fC (fun g hg=>by cases hg;exact fG)).swap;have x0:=H7.o.row.1.cell 1;simp only [List.getElem?_cons_succ,List.getElem?_cons_zero] at x0;have xf:=H7.o.row.1.frozen 1;have xl:=H7.o.row.1.lt;clear fC gq fG kh q0 ql;try dsimp only
       try simp only [ai]
       refine aK 9 ?_;try simp only [xG]
       go_simp;try dsimp only
       try simp only [ai]
       refine aK 10 ?_;try simp only [xG]
       go_simp;try dsimp only
       refine cw ?_;have H8:=af (H7.o.set 1 (.slice (some ⟨g6,0,none⟩) (k+1) gZ));go_wp2_with fail;go_roundw
       case rel =>
        refine ⟨k+1,Nm,.slice (some ⟨g6,0,none⟩) (k+1) gZ,by omega,by go_num,?_⟩;have h:=((H8.o.pick 2 rfl).drop.pick 2 rfl).swap;rw [Mz.o,jl];exact h
       case measure=>simp [intOf];omega
   ·have h8':¬(k:Int) < 8:=by omega
    have NX:=YG k (by omega);obtain ⟨pk,wL⟩:∃pk,fi.getD k 0=pk:=⟨_,rfl⟩
    rw [wL] at Lo AN cA;have Fw:=(H4.o.pick 2 rfl).swap;have H9:=af Fw;have p1:=Fw.row.1.cell 1;simp only [List.getElem?_cons_succ,List.getElem?_cons_zero] at p1;have pl:=Fw.row.1.lt;generalize hz:o8 pk 3=z at *;have HZ:=af hz;have Mz:=af Lo;have MB:=af NX;clear hz Lo Fw wL NX;have eR:=af (fun w=>GB w pk 3 AN (by omega) (by omega));rw [HZ.o] at eR;go_upto_region 8 with fail;refine dN ?_;refine bk [0,2,3,4] ?_;simp only [pick,xG];iterate 4 still_step
    refine wpStill_nil ?_;refine bk [5] ?_;simp only [pick,xG];iterate 1 still_step
    refine wpStill_nil ?_;refine mB 1 6 (by kernel_rfl) (by rfl) (by rfl) ?_ ?_
    ·skip
     try simp only [xG]
     go_simp;try dsimp only
     try simp only [ai]
     refine aK 6 ?_;try simp only [xG]
     go_simp;refine (eR.o _).mono ?_;rintro e w5 ⟨rfl,ka⟩;have H5:=af (H9.o.drew.below ka);have q0:=H5.o.row.1.cell 1;simp only [List.getElem?_cons_succ,List.getElem?_cons_zero] at q0;have ql:=H5.o.row.1.lt;clear ka;try dsimp only
     try simp only [ai]
     refine aK 7 ?_;try simp only [xG]
     go_simp;try dsimp only
     try simp only [ai]
     have H6:=af ((H5.o.new 3 #[ae aa (z:Int)]).swap.pick 2 rfl);refine aK 8 ?_;try simp only [xG]
     refine kP vZ (by rfl) (.tmp 23) (.tmp 29) (by rfl) H6.o.own (by rfl) (by rfl) (((Row.new w5 3 #[ae aa (z:Int)]).sl (B:=w5.heap.size+1) (size:=1) (n:=1) (o:=0) (ys:=[ae aa (z:Int)]) (Nat.lt_succ_self _) rfl rfl)) (by simp [Value.oneCell']) (by omega) (by omega) (by unfold maxLen;omega) H6.o.aE.size ?_;intro g6 gZ w6 fC gq fG kh;have H7:=af (H6.o.grown gq fC (fun g hg=>by cases hg;exact fG)).swap;have x0:=H7.o.row.1.cell 1;simp only [List.getElem?_cons_succ,List.getElem?_cons_zero] at x0;have xf:=H7.o.row.1.frozen 1;have xl:=H7.o.row.1.lt;clear fC gq fG kh q0 ql;try dsimp only
     try simp only [ai]
     refine aK 9 ?_;try simp only [xG]
     go_simp;try dsimp only
     try simp only [ai]
     refine aK 10 ?_;try simp only [xG]
     go_simp;try dsimp only
     refine cw ?_;have H8:=af (H7.o.set 1 (.slice (some ⟨g6,0,none⟩) (k+1) gZ));go_wp2_with fail;go_roundw
     case rel =>
      refine ⟨k+1,v1,.slice (some ⟨g6,0,none⟩) (k+1) gZ,by omega,by go_num,?_⟩;rw [MB.o];have h:=((H8.o.pick 2 rfl).drop.pick 2 rfl).swap;rw [Mz.o,jl];exact h
     case measure=>simp [intOf];omega
    ·try simp only [xG]
     go_simp;refine (eR.o _).mono ?_;rintro e w5 ⟨rfl,ka⟩;have H5:=af (H9.o.drew.below ka);have q0:=H5.o.row.1.cell 1;simp only [List.getElem?_cons_succ,List.getElem?_cons_zero] at q0;have ql:=H5.o.row.1.lt;clear ka;try dsimp only
     try simp only [ai]
     refine mB 1 7 (by kernel_rfl) (by rfl) (by rfl) ?_ ?_
     ·skip
      try simp only [xG]
      go_simp;try dsimp only
      try simp only [ai]
      refine aK 7 ?_;try simp only [xG]
      go_simp;try dsimp only
      try simp only [ai]
      have H6:=af ((H5.o.new 3 #[ae aa (z:Int)]).swap.pick 2 rfl);refine aK 8 ?_;try simp only [xG]
      refine kP vZ (by rfl) (.tmp 23) (.tmp 29) (by rfl) H6.o.own (by rfl) (by rfl) (((Row.new w5 3 #[ae aa (z:Int)]).sl (B:=w5.heap.size+1) (size:=1) (n:=1) (o:=0) (ys:=[ae aa (z:Int)]) (Nat.lt_succ_self _) rfl rfl)) (by simp [Value.oneCell']) (by omega) (by omega) (by unfold maxLen;omega) H6.o.aE.size ?_;intro g6 gZ w6 fC gq fG kh;have H7:=af (H6.o.grown gq fC (fun g hg=>by cases hg;exact fG)).swap;have x0:=H7.o.row.1.cell 1;simp only [List.getElem?_cons_succ,List.getElem?_cons_zero] at x0;have xf:=H7.o.row.1.frozen 1;have xl:=H7.o.row.1.lt;clear fC gq fG kh q0 ql;try dsimp only
      try simp only [ai]
      refine aK 9 ?_;try simp only [xG]
      go_simp;try dsimp only
      try simp only [ai]
      refine aK 10 ?_;try simp only [xG]
      go_simp;try dsimp only
      refine cw ?_;have H8:=af (H7.o.set 1 (.slice (some ⟨g6,0,none⟩) (k+1) gZ));go_wp2_with fail;go_roundw
      case rel =>
       refine ⟨k+1,v1,.slice (some ⟨g6,0,none⟩) (k+1) gZ,by omega,by go_num,?_⟩;rw [MB.o];have h:=((H8.o.pick 2 rfl).drop.pick 2 rfl).swap;rw [Mz.o,jl];exact h
      case measure=>simp [intOf];omega
     ·try simp only [xG]
      go_simp;try dsimp only
      try simp only [ai]
      refine aK 1 ?_;try simp only [xG]
      go_simp;try dsimp only
      try simp only [ai]
      have H6:=af ((H5.o.new 3 #[ae aa (z:Int)]).swap.pick 2 rfl);refine aK 8 ?_;try simp only [xG]
      refine kP vZ (by rfl) (.tmp 23) (.tmp 29) (by rfl) H6.o.own (by rfl) (by rfl) (((Row.new w5 3 #[ae aa (z:Int)]).sl (B:=w5.heap.size+1) (size:=1) (n:=1) (o:=0) (ys:=[ae aa (z:Int)]) (Nat.lt_succ_self _) rfl rfl)) (by simp [Value.oneCell']) (by omega) (by omega) (by unfold maxLen;omega) H6.o.aE.size ?_;intro g6 gZ w6 fC gq fG kh;have H7:=af (H6.o.grown gq fC (fun g hg=>by cases hg;exact fG)).swap;have x0:=H7.o.row.1.cell 1;simp only [List.getElem?_cons_succ,List.getElem?_cons_zero] at x0;have xf:=H7.o.row.1.frozen 1;have xl:=H7.o.row.1.lt;clear fC gq fG kh q0 ql;try dsimp only
      try simp only [ai]
      refine aK 9 ?_;try simp only [xG]
      go_simp;try dsimp only
      try simp only [ai]
      refine aK 10 ?_;try simp only [xG]
      go_simp;try dsimp only
      refine cw ?_;have H8:=af (H7.o.set 1 (.slice (some ⟨g6,0,none⟩) (k+1) gZ));go_wp2_with fail;go_roundw
      case rel =>
       refine ⟨k+1,v1,.slice (some ⟨g6,0,none⟩) (k+1) gZ,by omega,by go_num,?_⟩;rw [MB.o];have h:=((H8.o.pick 2 rfl).drop.pick 2 rfl).swap;rw [Mz.o,jl];exact h
      case measure=>simp [intOf];omega
  ·have df:¬(k:Int) < 64:=by omega
   have xO:k=64:=by omega
   have hx:=H4.o;rw [xO,Z7,Z6] at hx;obtain ⟨A1,c1,rfl,_,_⟩:=aD (hx.pick 1 rfl).own;obtain ⟨A2,c2,rfl,_,_⟩:=aD (hx.pick 2 rfl).own;have yR:=hx.row.1.cell 0;have hx1:=hx.row.1.cell 1;simp only [List.getElem?_cons_succ,List.getElem?_cons_zero] at yR hx1;have hr:=hx.pick 4 rfl;have ph:=hr.row.1.cell 0;have wK:=hr.row.1.cell 1;have hf0:=hr.row.1.frozen 0;have hf1:=hr.row.1.frozen 1;simp only [List.getElem?_cons_succ,List.getElem?_cons_zero] at ph wK;have hlr:=hr.row.1.lt;have HR:=af ((hr.set 0 (.slice A1 8 c1)).set 1 (.slice A2 64 c2));clear xO hx hr;go_wp2_with fail;refine bodyPost_ret (results_cell_row (cs:=#[.slice A1 8 c1,.slice A2 64 c2]) rfl _ _ w.heap.size _ _ _ rfl HR.o.row.1 Tryz.underlying264 rfl (by kernel_rfl)) rfl ?_;exact ⟨_,_,rfl,(HR.o.drop.drop).take 2⟩
end fZ
namespace aW
open Go.RowKit
section
variable {ao:Array Bool}
section
variable {P : Program} {ops : Array Oper} {md : Region.Mode} {C : World → Prop}
def yA (P:Program) (md:Region.Mode) (ops:Array Oper) (C:World→Prop) (Q:Array Bool→Act→Prop):Nat→Array Bool→Act→Prop
 | 0,ao,a=>Q ao a
 | fuel+1,ao,a=>Region.ready md ops ao≠[]∧∀i∈Region.ready md ops ao,qOp P ops C i (yA P md ops C Q fuel (ao.setIfInBounds i true)) a
theorem EU {Q:Array Bool→Act→Prop} {Q':Exit→Act→World→Prop} {n:Nat} (hQ:∀L a w,C w→Q L a→wpAny P md ops Q' n L a w):∀(fuel:Nat) (ao:Array Bool) (a:Act) (w:World),C w→yA P md ops C Q fuel ao a→wpAny P md ops Q' (fuel+n) ao a w
 | 0,L,a,w,hw,h=>by rw [Nat.zero_add];exact hQ L a w hw h
 | fuel+1,L,a,w,hw,h=>by
   rw [show fuel+1+n=(fuel+n)+1 by omega];exact ⟨fun h0=>absurd h0 h.1,fun i hi=>wpOp_of_qOp hw (fun a' w' hw' hk=>EU hQ fuel _ a' w' hw' hk) (h.2 i hi)⟩
structure Left (md:Region.Mode) (ops:Array Oper) (rem:List Nat) (ao:Array Bool):Prop where
 nd:rem.Nodup
 cl:nK md ops ao
 un:∀i∈rem,ao.getD i true=false
 wt:∀i∈rem,zB md ops i (rC md ops i)=true
 cov:∀j,ao.getD j true=false→j∈rem∨∀i∈rem,(rC md ops i).getD j false=true
theorem Left.ready {rem:List Nat} {ao:Array Bool} (h:Left md ops rem ao) {i j:Nat} (hi:i∈rem) (hj:j∈Region.ready md ops ao):j∈rem:=by
 rcases h.cov j (mem_ready.1 hj).1 with k|k
 ·exact k
 ·by_cases e:j=i
  ·rw [e];exact hi
  ·have h1:=Ik (h.wt i hi) h.cl (by
    have:=h.un i hi;by_cases hs:i < ao.size
    ·simp [hs] at this ⊢;exact this
    ·simp [Array.getElem?_eq_none (Nat.le_of_not_lt hs)] at this) hj e
   rw [k i hi] at h1;cases h1
theorem Left.step {rem:List Nat} (h:Left md ops rem ao) {j:Nat} (hj:j∈Region.ready md ops ao) (hm:j∈rem):Left md ops (rem.erase j) (ao.setIfInBounds j true) where
 nd:=h.nd.erase j
 cl:=h.cl.set hj
 un:=fun i hi=>by
  have h1:=(h.nd.mem_erase_iff).1 hi;rw [getD_set_ne true (Ne.symm h1.1)];exact h.un i h1.2
 wt:=fun i hi=>h.wt i (List.mem_of_mem_erase hi)
 cov:=fun x hx=>by
  by_cases e:j=x
  ·subst e;by_cases hs:j < ao.size
   ·simp [hs] at hx
   ·simp [Array.getElem?_eq_none (Nat.le_of_not_lt hs)] at hx
  ·rw [getD_set_ne true e] at hx;rcases h.cov x hx with k|k
   ·exact .inl (h.nd.mem_erase_iff.2 ⟨fun q=>e q.symm,k⟩)
   ·exact .inr fun i hi=>k i (List.mem_of_mem_erase hi)
theorem JM {Q:Array Bool→Act→Prop} {i:Nat} {oi:Oper} {v:Value} (hi:ops[i]?=some oi) (kg:∀(j:Nat) (o:Oper) cs b,ops[j]?=some o→o.op≠.select cs b) :
  ∀(fuel:Nat) (rem:List Nat) (ao:Array Bool) (a:Act),rem.length=fuel+1→i∈rem→Left md ops rem ao→
   (∀j oj,ops[j]?=some oj→j≠i→ao.getD j true=false→(∀e∈oj.after,Region.binds md e=true→e.on≠i)→oi.apart ops oj=true)→
   i∈Region.ready md ops ao→YieldsIn P ops C oi v a→
   yA P md ops C Q fuel (ao.setIfInBounds i true) (a.put oi.dst v)→yA P md ops C Q (fuel+1) ao a:=by
 intro fuel
 induction fuel with
 | zero =>
   intro rem ao a hl xQ hL _ hr hy H;refine ⟨fun h=>(by rw [h] at hr;cases hr),fun j hj=>?_⟩;have Sz:=hL.ready xQ hj;obtain ⟨x,hx⟩:=List.length_eq_one_iff.1 hl;rw [hx] at Sz xQ;have e:j=i:=(List.mem_singleton.1 Sz).trans (List.mem_singleton.1 xQ).symm;subst e;exact hy.qOp hi H
 | succ fuel ih =>
   intro rem ao a hl xQ hL FQ hr hy H;refine ⟨fun h=>(by rw [h] at hr;cases hr),fun j hj=>?_⟩;by_cases kt:j=i
   ·subst kt;exact hy.qOp hi H
   ·have Sz:=hL.ready xQ hj;have h1:=H.2 j (ready_mono hj kt);obtain ⟨ED,oj,yZ,cH⟩:=mem_ready.1 hj
    have VP:∀e∈oj.after,Region.binds md e=true→e.on≠i:=fun e he hb heq=>by
     have h1:=cH e he hb;have h0:=(mem_ready.1 hr).1;rw [heq] at h1;rcases Nat.lt_or_ge i ao.size with h'|h'
     ·simp [h'] at h0 h1;rw [h0] at h1;cases h1
     ·simp [Array.getElem?_eq_none h'] at h1
    have h2:=qOp_put yZ (FQ j oj yZ kt ED VP) (fun cs b=>kg i oi cs b hi) (fun cs b=>kg j oj cs b yZ) hy h1
    have aaG:∀k ok,ops[k]?=some ok→k≠i→(ao.setIfInBounds j true).getD k true=false→
      (∀e∈ok.after,Region.binds md e=true→e.on≠i)→oi.apart ops ok=true:=fun k ok hk FO qw jS=>by
     refine FQ k ok hk FO ?_ jS;by_cases xP:j=k
     ·subst xP;exact ED
     ·rw [getD_set_ne true xP] at qw;exact qw
    refine qOp_mono (fun a' h3=>ih (rem.erase j) (ao.setIfInBounds j true) a' (by rw [List.length_erase_of_mem Sz,hl];rfl) ((List.mem_erase_of_ne (Ne.symm kt)).2 xQ) (hL.step hj Sz) aaG (ready_mono hr (Ne.symm kt)) h3.1 ?_) h2;rw [Array.setIfInBounds_comm _ _ kt];exact h3.2
def FR (md:Region.Mode) (ops:Array Oper):List Nat→Array Bool→Bool
 | [],_=>true
 | i::r,ao=>(Region.ready md ops ao).contains i&&Region.free md ops ao i&&FR md ops r (ao.setIfInBounds i true)
end
section
variable {P : Program} {l : List Oper} {md : Region.Mode} {C : World → Prop}
theorem Az {Q:Array Bool→Act→Prop} (hs:Region.noSelect l.toArray=true):∀(hd:List Nat) (ao:Array Bool) (a:Act),Left md l.toArray hd ao→FR md l.toArray hd ao=true→
  wpQuiet P l.toArray C (fun a'=>Q (heard hd ao) a') (pick l hd) a→yA P md l.toArray C Q hd.length ao a
 | [],_,_,_,_,h=>h
 | i::r,ao,a,hL,hB,h=>by
   simp only [FR,Bool.and_eq_true] at hB;obtain ⟨⟨hr,hf⟩,hB'⟩:=hB;have sC:i∈Region.ready md l.toArray ao:=by simpa using hr
   obtain ⟨_,oi,oN,_⟩:=mem_ready.1 sC
   have z9:(l[i]?).getD default=oi:=by
    have:l[i]?=some oi:=by simpa using oN
    rw [this];rfl
   have ak:qOp P l.toArray C i (wpQuiet P l.toArray C (fun a'=>Q (heard r (ao.setIfInBounds i true)) a') (pick l r)) a:=by
    unfold qOp;simp only [oN];simp only [pick,z9] at h;exact h
   obtain ⟨v,hy,hK⟩:=yieldsIn_of_qOp oN ak;have rO:=hL.step sC (List.mem_cons_self);rw [List.erase_cons_head] at rO;exact JM oN (Region.noSelect_spec hs) r.length (i::r) ao a rfl (List.mem_cons_self) hL (Region.free_spec oN hf) sC hy (Az hs r _ _ rO hB' hK)
def RE (md:Region.Mode) (ops:Array Oper) (hd:List Nat) (ao:Array Bool) (N:Nat):Bool :=
 Region.noSelect ops&&Hi md ops ao&&decide (hd.length≤N)&&decide hd.Nodup&&(ao.size==ops.size)&&hd.all (fun i=>!ao.getD i true)&&hd.all (fun i=>zB md ops i (rC md ops i)) &&
 (List.range ops.size).all (fun j=>ao.getD j true||hd.contains j||hd.all fun i=>(rC md ops i).getD j false)&&FR md ops hd ao
theorem kB {Q:Exit→Act→World→Prop} {a:Act} {w:World} {N:Nat} (hd:List Nat) (hB:RE md l.toArray hd ao N=true)
  (h:wpQuiet P l.toArray (fun w'=>∃n,w'=w.drewN n) (fun a'=>∀w',(∃n,w'=w.drewN n)→wpAny P md l.toArray Q (N-hd.length) (heard hd ao) a' w') (pick l hd) a):wpAny P md l.toArray Q N ao a w:=by
 simp only [RE,Bool.and_eq_true,decide_eq_true_eq,beq_iff_eq] at hB;obtain ⟨⟨⟨⟨⟨⟨⟨⟨kg,hc⟩,hn⟩,hnd⟩,iP⟩,qw⟩,hwt⟩,acJ⟩,hB⟩:=hB
 have hL:Left md l.toArray hd ao:={
  nd:=hnd
  cl:=Jb hc
  un:=fun i hi=>by simpa using List.all_eq_true.1 qw i hi
  wt:=fun i hi=>List.all_eq_true.1 hwt i hi
  cov:=fun j hj=>by
   have hjs:j < l.toArray.size:=by
    rcases Nat.lt_or_ge j l.toArray.size with h|h
    ·exact h
    ·rw [←iP] at h;simp [Array.getElem?_eq_none h] at hj
   have h1:=List.all_eq_true.1 acJ j (List.mem_range.2 hjs);simp only [hj,Bool.false_or,Bool.or_eq_true,List.contains_iff_mem] at h1;rcases h1 with h1|h1
   ·exact .inl h1
   ·exact .inr fun i hi=>List.all_eq_true.1 h1 i hi }
 have k:=Az (P:=P) (C:=fun w'=>∃n,w'=w.drewN n) (Q:=fun L a'=>L=heard hd ao∧∀w',(∃n,w'=w.drewN n)→wpAny P md l.toArray Q (N-hd.length) (heard hd ao) a' w') kg hd ao a hL hB (by
  refine cast ?_ h
  simp)
 have k2:=EU (Q':=Q) (n:=N-hd.length) (fun L a' w' hw' h'=>by rw [h'.1];exact h'.2 w' hw') hd.length ao a w ⟨0,rfl⟩ k
 rwa [show hd.length+(N-hd.length)=N by omega] at k2
end
end
end aW
end Go.Proofs.YtdldkkoplgkloaaGreat
