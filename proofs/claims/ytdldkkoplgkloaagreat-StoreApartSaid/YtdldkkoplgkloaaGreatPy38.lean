/-
  PROVED HERE: lemmas that the law leans on.
  CONDITIONS: each names its own.
-/
import Derived.Deep.RegionHeld3
import Derived.Test.YtdldkkoplgkloaaGreatPy0
import Derived.Test.YtdldkkoplgkloaaGreatPy10
import Derived.Test.YtdldkkoplgkloaaGreatPy12
import Derived.Test.YtdldkkoplgkloaaGreatPy18
import Derived.Test.YtdldkkoplgkloaaGreatPy19
import Derived.Test.YtdldkkoplgkloaaGreatPy37
namespace Go.Proofs.YtdldkkoplgkloaaGreat
set_option linter.unusedVariables false
set_option linter.unusedSimpArgs false
set_option maxRecDepth 100000
set_option maxHeartbeats 32000000
namespace store


open Go.RowKit Go.Deep base obj mem sep bf bk record bP aU image bK bR chain bw
theorem aal {w0 w:World} {A:aD} {L l:List aD} (h:St w0 w (A::(L++l))):St w0 w (A::dr L::l):=by
 have h2:St w0 w (L++(A::l)):=h.perm List.perm_middle.symm;exact (St.eR h2).swap
theorem Y8 {w0 w:World} {A:aD} {L l:List aD} (h:St w0 w (A::dr L::l)):St w0 w (A::(L++l)):=h.swap.fI.perm List.perm_middle
section
variable {w0 w : World} {l : List aD} {X : Nat} {tv : List Value} {v : Value} {P : List (Nat × List Value)} {ys : List (dH × RP)} {p : Nat}
theorem yx (hp:p < ys.length) (y:dH×RP):dg (ys.set p y)=dg (ys.take p)++(eE y++dg (ys.drop (p+1))):=by
 unfold dg;rw [List.set_eq_take_append_cons_drop,if_pos hp];simp
theorem Gc (l:List (dH×RP)):(dg l).length=l.length*8:=by
 induction l with
 | nil=>rfl
 | cons a l ih =>
   show (eE a++dg l).length=_
   rw [gA,ih,wS,List.length_cons];omega
theorem PG (h:St w0 w (cw X tv v P ys::l)) (hp:p < ys.length):∃(b c:Nat) (pre post:List Value) (F:aD),pre.length=p*8∧v=.slice (some ⟨b,0,none⟩) ys.length c∧St w0 w (row b 65 (pre++(ys[p].2.aA.cells.toList++post))::F::l)∧
  ∀(w':World) (r:Rec) (l':List aD),St w0 w' (row b 65 (pre++(r.cells.toList++post))::F::l')→St w0 w' (cw X tv v P (ys.set p (ys[p].1,{ ys[p].2 with aA:=r }))::l'):=by
 have h1:=(ec h).pick 1 rfl;rw [←List.set_getElem_self hp,yx hp,List.set_getElem_self hp] at h1;obtain ⟨b,c,post,e,h2,hb⟩:=uz (c:=ys[p].2.aA.cells.toList) (post:=[ys[p].1.vS,ys[p].1.vI]++dg (ys.drop (p+1))) h1 (by omega);refine ⟨b,c,_,post,_,by rw [Gc,fv];omega,e,aal (L:=[_,_,_]) h2,fun w' r l' h'=>?_⟩;have h4:=(hb w' _ r.cells.toList rfl (Y8 h')).swap;refine qA ?_
 have e1:ee P (ys.set p (ys[p].1,{ ys[p].2 with aA:=r }))=ee P ys:=by
  unfold ee;rw [List.map_set,show iF P (ys[p].1,({ ys[p].2 with aA:=r }:RP)).1 (ys[p].1,({ ys[p].2 with aA:=r }:RP)).2=(ys.map fun y=>iF P y.1 y.2)[p]'(by simpa using hp) by simp [iF],List.set_getElem_self]
 rw [e1,yx hp];rw [List.length_set];exact h4
theorem Fj (h:St w0 w (cw X tv v P ys::l)) (hp:p < ys.length) (iR:tv.length=5):∃b c,v=.slice (some ⟨b,0,none⟩) ys.length c∧w.cell? ⟨X,5,none⟩=some (.slice (some ⟨b,0,none⟩) ys.length c)∧X < w.heap.size∧b < w.heap.size∧∀k u,ys[p].2.aA.cells.toList[k]?=some u→w.cell? ⟨b,p*8+k,none⟩=some u:=by
 obtain ⟨b,c,pre,post,F,hl,hv,h2,iW⟩:=PG h hp;refine ⟨b,c,hv,?_,(ec h).row.1.lt,h2.row.1.lt,fun k u hu=>(h2.row.1.cell _).trans (kS hl hu)⟩;rw [(ec h).row.1.cell 5,List.getElem?_append_right (by omega),iR,hv];rfl
theorem O4 (x:RP) (r:Rec):eo x r=((nM x.aA r).2,{ x with aA:=(nM x.aA r).1 }):=by
 unfold eo nM;split
 ·rfl
 ·split<;>rfl
theorem CO (h:St w0 w (cw X tv v P ys::l)) (hp:p < ys.length) (hr:ys[p].2.aA.right=true) (hK:jn w0 P ys) {b c:Nat} (hv:v=.slice (some ⟨b,0,none⟩) ys.length c) (r:Rec) :
  Calls Tryz.prog 113 #[.pointer (some ⟨b,p*8,none⟩),r.val] w fun e w'=>e=.returned (.int .i64 (eo ys[p].2 r).1)∧gM w0 w' X tv v P l ((ys.map (·.2)).set p (eo ys[p].2 r).2):=by
 obtain ⟨b',c',pre,post,F,hl,Eg,h2,iW⟩:=PG h hp
 obtain ⟨rfl,rfl⟩:b'=b∧c'=c:=by
  rw [hv] at Eg;injection Eg with e1 _ e3
  injection e1 with e1
  injection e1 with e1
  exact ⟨e1.symm,e3.symm⟩
 rw [O4];have HN:=aa (fun w'=>Tg w' ys[p].2.aA r (by have:=fC.la hr;omega))
 have HE:=aa (show (nM ys[p].2.aA r).2≠0→(nM ys[p].2.aA r).1=ys[p].2.aA by
  unfold nM;split
  ·exact fun _=>rfl
  ·split
   ·intro h;exact absurd rfl h
   ·exact fun _=>rfl)
 have HK:=aa (fun (w':World) (n:Rec) (h:St w0 w' (row b' 65 (pre++(n.cells.toList++post))::F::l))=>show gM w0 w' X tv v P l ((ys.map (·.2)).set p { ys[p].2 with aA:=n }) from ⟨P,_,fun _ h=>h,iW w' n l h,by rw [List.map_set],hK.set (a:=ys[p].1) (x:={ ys[p].2 with aA:=n }) (fun _ h=>h) (hK _ (List.getElem_mem hp)).1 (hK _ (List.getElem_mem hp)).2 p⟩);have HL:=aa hl;generalize nM ys[p].2.aA r=q at *;obtain ⟨nx,er⟩:=q;generalize ys[p].2.aA=o at *;obtain ⟨Z,hZ⟩:∃Z,Z=w.heap.size:=⟨_,rfl⟩
 obtain ⟨w1,aJ⟩:∃w1,w1=w.alloc (.cells #[.int .i64 r.part,.int .i64 r.seq,.int .i64 r.ax,.int .i64 r.aj,.int .i64 r.left,.int .i64 r.bad] 35):=⟨_,rfl⟩
 have H1:=aa (show St w0 w1 (row Z 35 r.cells.toList::row b' 65 (pre++(o.cells.toList++post))::F::l) by rw [aJ,hZ];exact h2.new _ r.cells)
 have HC:=aa (fun (w':World) (hb:Below w1.heap.size w1 w')=>show (w'.cell? ⟨b',p*8,none⟩=some (.int .i64 o.part)∧w'.cell? ⟨b',p*8+1,none⟩=some (.int .i64 o.seq)∧w'.cell? ⟨b',p*8+2,none⟩=some (.int .i64 o.ax)∧w'.cell? ⟨b',p*8+3,none⟩=some (.int .i64 o.aj)∧w'.cell? ⟨b',p*8+4,none⟩=some (.int .i64 o.left)∧w'.cell? ⟨b',p*8+5,none⟩=some (.int .i64 o.bad)∧b' < w'.heap.size)∧w'.cell? ⟨Z,0,none⟩=some (.int .i64 r.part)∧w'.cell? ⟨Z,1,none⟩=some (.int .i64 r.seq)∧w'.cell? ⟨Z,2,none⟩=some (.int .i64 r.ax)∧w'.cell? ⟨Z,3,none⟩=some (.int .i64 r.aj)∧w'.cell? ⟨Z,4,none⟩=some (.int .i64 r.left)∧w'.cell? ⟨Z,5,none⟩=some (.int .i64 r.bad)∧Z < w'.heap.size from by
  have a:=(H1.o.below hb).row.1;have d:=((H1.o.below hb).pick 1 rfl).row.1
  exact ⟨⟨(d.cell _).trans (kS hl (k:=0) rfl),(d.cell _).trans (kS hl rfl),(d.cell _).trans (kS hl rfl),(d.cell _).trans (kS hl rfl),(d.cell _).trans (kS hl rfl),(d.cell _).trans (kS hl rfl),d.lt⟩,a.cell 0,a.cell 1,a.cell 2,a.cell 3,a.cell 4,a.cell 5,a.lt⟩)
 have bq:=aa aJ;have HZ:=aa hZ;simp only [Rec.mA] at HN ⊢;clear h h2 iW hK hl aJ hZ hv Eg hr;go_enter Tryz.func113,Tryz.ntmps113;go_upto_region 1 with fail;rw [←bq.o,←HZ.o]
 go_cut [5,6] (fun s5 s6 wc=>∃Y,s5=.pointer (some ⟨Y,0,none⟩)∧s6=.int .i64 er∧St w0 wc (row Y 35 nx.cells.toList::row Z 35 r.cells.toList::row b' 65 (pre++(o.cells.toList++post))::F::l))
 case first =>
  refine eh (fun w'=>(w'.cell? ⟨b',p*8,none⟩=some (.int .i64 o.part)∧w'.cell? ⟨b',p*8+1,none⟩=some (.int .i64 o.seq)∧w'.cell? ⟨b',p*8+2,none⟩=some (.int .i64 o.ax)∧w'.cell? ⟨b',p*8+3,none⟩=some (.int .i64 o.aj)∧w'.cell? ⟨b',p*8+4,none⟩=some (.int .i64 o.left)∧w'.cell? ⟨b',p*8+5,none⟩=some (.int .i64 o.bad)∧b' < w'.heap.size)∧w'.cell? ⟨Z,0,none⟩=some (.int .i64 r.part)∧w'.cell? ⟨Z,1,none⟩=some (.int .i64 r.seq)∧w'.cell? ⟨Z,2,none⟩=some (.int .i64 r.ax)∧w'.cell? ⟨Z,3,none⟩=some (.int .i64 r.aj)∧w'.cell? ⟨Z,4,none⟩=some (.int .i64 r.left)∧w'.cell? ⟨Z,5,none⟩=some (.int .i64 r.bad)∧Z < w'.heap.size) (by kernel_rfl) (HC.o w1.drew (Below.refl w1.heap.size w1).drew) (fun bQ=>?_);(refine ai 0 ?_;(try simp only [af,ae,ah,Act.put,aq,ak,ao]));(refine ai 1 ?_;(try simp only [af,ae,ah,Act.put,aq,ak,ao]));(refine ai 2 ?_;(try simp only [af,ae,ah,Act.put,aq,ak,ao]));(refine ai 3 ?_;(try simp only [af,ae,ah,Act.put,aq,ak,ao]));(refine ai 4 ?_;(try simp only [af,ae,ah,Act.put,aq,ak,ao]));refine TI 5 9 (by kernel_rfl) (by rfl) (by rfl) ?_ ?_
  ·((try simp only [af,ae,ah]);go_simp;try dsimp only)
   refine (HN.o _).mono ?_;rintro e w3 ⟨rfl,hb⟩;have bD:=aa ((Below.refl w1.heap.size w1).drew.trans hb);clear hb;dsimp only;(refine cG (HC.o w3 bD.o) (fun bQ=>?_);(try simp only [af,ae,ah,Act.put,aq,ak,ao]));(refine ai 6 ?_;(try simp only [af,ae,ah,Act.put,aq,ak,ao]));(refine ai 7 ?_;(try simp only [af,ae,ah,Act.put,aq,ak,ao]));(refine ai 8 ?_;(try simp only [af,ae,ah,Act.put,aq,ak,ao]));(refine dV 9 ?_;(try simp only [af,ae,ah]);go_simp);(try simp only [af,ae,ah,Act.put,aq,ak,ao]);(refine dV 10 ?_;(try simp only [af,ae,ah]));refine fH.qx 35 (.tmp 5) (.tmp 14) rfl w3.heap.size 0 #[.int .i64 nx.part,.int .i64 nx.seq,.int .i64 nx.ax,.int .i64 nx.aj,.int .i64 nx.left,.int .i64 nx.bad] rfl rfl (Row.new w3 35 #[.int .i64 0,.int .i64 0,.int .i64 0,.int .i64 0,.int .i64 0,.int .i64 0]) (by kernel_rfl) (by simp) (by simp [Value.oneCell']) nx.cells.toList rfl ?_;(refine cG (HC.o _ ((((St.nil w1).below bD.o).new 35 #[.int .i64 0,.int .i64 0,.int .i64 0,.int .i64 0,.int .i64 0,.int .i64 0]).setRow nx.cells.toList).aI) (fun bQ=>?_);(try simp only [af,ae,ah,Act.put,aq,ak,ao]));(refine ai 11 ?_;(try simp only [af,ae,ah,Act.put,aq,ak,ao]));refine dW (by kernel_rfl) ?_;clear bQ;go_wp2_with fail;go_meet;exact ⟨_,rfl,rfl,((H1.o.below bD.o).new 35 #[.int .i64 0,.int .i64 0,.int .i64 0,.int .i64 0,.int .i64 0,.int .i64 0]).setRow nx.cells.toList⟩
  ·((try simp only [af,ae,ah]);go_simp;try dsimp only)
   (refine cG (by simpa using HC.o _ ((St.nil w1).new 35 #[.int .i64 0,.int .i64 0,.int .i64 0,.int .i64 0,.int .i64 0,.int .i64 0]).drew.aI) (fun bQ=>?_);(try simp only [af,ae,ah,Act.put,aq,ak,ao]));(refine dV 5 ?_;(try simp only [af,ae,ah]);go_simp);refine (HN.o _).mono ?_;rintro e w3 ⟨rfl,hb⟩;have bD:=aa hb;clear hb;dsimp only;(refine cG (HC.o w3 (((St.nil w1).new 35 #[.int .i64 0,.int .i64 0,.int .i64 0,.int .i64 0,.int .i64 0,.int .i64 0]).drew.below bD.o).aI) (fun bQ=>?_);(try simp only [af,ae,ah,Act.put,aq,ak,ao]));(refine ai 6 ?_;(try simp only [af,ae,ah,Act.put,aq,ak,ao]));(refine ai 7 ?_;(try simp only [af,ae,ah,Act.put,aq,ak,ao]));(refine ai 8 ?_;(try simp only [af,ae,ah,Act.put,aq,ak,ao]));(refine dV 10 ?_;(try simp only [af,ae,ah]));refine fH.qx 35 (.tmp 5) (.tmp 14) rfl w1.heap.size 0 #[.int .i64 nx.part,.int .i64 nx.seq,.int .i64 nx.ax,.int .i64 nx.aj,.int .i64 nx.left,.int .i64 nx.bad] rfl rfl ((H1.o.new 35 #[.int .i64 0,.int .i64 0,.int .i64 0,.int .i64 0,.int .i64 0,.int .i64 0]).drew.below bD.o).row.1 (by kernel_rfl) (by simp) (by simp [Value.oneCell']) nx.cells.toList rfl ?_;(refine cG (HC.o _ ((((St.nil w1).new 35 #[.int .i64 0,.int .i64 0,.int .i64 0,.int .i64 0,.int .i64 0,.int .i64 0]).drew.below bD.o).setRow nx.cells.toList).aI) (fun bQ=>?_);(try simp only [af,ae,ah,Act.put,aq,ak,ao]));(refine ai 11 ?_;(try simp only [af,ae,ah,Act.put,aq,ak,ao]));refine dW (by kernel_rfl) ?_;clear bQ;go_wp2_with fail;go_meet;exact ⟨_,rfl,rfl,((H1.o.new 35 #[.int .i64 0,.int .i64 0,.int .i64 0,.int .i64 0,.int .i64 0,.int .i64 0]).drew.below bD.o).setRow nx.cells.toList⟩
 case rest =>
  obtain ⟨Y,rfl,rfl,h5⟩:=hcut;obtain ⟨y0,y1,y2,y3,y4,y5⟩:=Rec.read h5.row.1;have lY:=h5.row.1.lt;have H5:=aa h5;by_cases g:er=0
  ·subst g;have HM:=aa (show (pre++(o.cells.toList++post)).take (p*8)++(#[.int .i64 nx.part,.int .i64 nx.seq,.int .i64 nx.ax,.int .i64 nx.aj,.int .i64 nx.left,.int .i64 nx.bad]:Array Value).toList++(pre++(o.cells.toList++post)).drop (p*8+(#[.int .i64 nx.part,.int .i64 nx.seq,.int .i64 nx.ax,.int .i64 nx.aj,.int .i64 nx.left,.int .i64 nx.bad]:Array Value).size)=pre++(nx.cells.toList++post) from BJ HL.o 0 nx.cells.toList (by simp [Rec.cells]));have HF:=aa (show p*8+(#[.int .i64 nx.part,.int .i64 nx.seq,.int .i64 nx.ax,.int .i64 nx.aj,.int .i64 nx.left,.int .i64 nx.bad]:Array Value).size≤(pre++(o.cells.toList++post)).length by have:=HL.o;simp [Rec.cells];omega);clear h5;go_wp2_with (refine aF rfl 35 (.tmp 21) (.tmp 19) rfl b' (p*8) #[.int .i64 nx.part,.int .i64 nx.seq,.int .i64 nx.ax,.int .i64 nx.aj,.int .i64 nx.left,.int .i64 nx.bad] rfl rfl (H5.o.pick 2 rfl).row.1 (by kernel_rfl) HF.o (by simp [Value.oneCell']) _ HM.o ?_);go_ret;exact ⟨rfl,HK.o _ nx ((((H5.o.pick 2 rfl).setRow (pre++(nx.cells.toList++post))).pick 1 rfl).drop.pick 1 rfl).drop⟩
  ·have g2:(er==0)=false:=by simpa using g
   have HX:=aa (show gM w0 wc X tv v P l _ from HK.o wc nx (by rw [show nx=o from HE.o g] at h5 ⊢;exact h5.drop.drop));clear g h5;go_wp2_with fail;go_ret;exact ⟨rfl,HX.o⟩
theorem Sf (h:St w0 w (cw X tv v P ys::l)) (iR:tv.length=5) (hr:∀y∈ys,y.2.aA.right=true) (hK:jn w0 P ys) (q:Int) :
  Calls Tryz.prog 64 #[.pointer (some ⟨X,0,none⟩),.int .i64 q] w fun e w'=>e=.returned (.int .i64 (ph (ys.map (·.2)) q).1)∧gM w0 w' X tv v P l (ph (ys.map (·.2)) q).2:=by
 have HB:=aa (fun (w':World) (hb:Below w.heap.size w w')=>gM.same hK (h.below hb));by_cases hq:q < 0∨(ys.length:Int)≤q
 ·obtain ⟨A,c,x5,lX⟩:=yw h iR;have e:ph (ys.map (·.2)) q=(3,ys.map (·.2)):=by unfold ph;rw [gN,if_pos hq]
  rw [e];clear e h;rcases (by omega:q < 0∨(0≤q∧(ys.length:Int)≤q)) with h0|⟨h0,h1⟩
  all_goals
   go_enter Tryz.func64,Tryz.ntmps64;go_wp2_with fail;go_ret;exact ⟨rfl,HB.o _ (Below.refl _ _)⟩
 ·obtain ⟨p,rfl⟩:=Int.eq_ofNat_of_zero_le (by omega:0≤q);have hp:p < ys.length:=by omega
  obtain ⟨b,c,hv,x5,lX,lb,hc⟩:=Fj h hp iR;have L9:=hr _ (List.getElem_mem hp);have vr:=aa (fun (w':World) (hb:Below w.heap.size w w') (r:Rec)=>CO (h.below hb) hp L9 hK hv r)
  have HE:=aa (show ph (ys.map (·.2)) (p:Int)=if ys[p].2.dp.ay=false then (0,ys.map (·.2)) else ((eo ys[p].2 (aW ys[p].2.aA)).1,(ys.map (·.2)).set p (eo ys[p].2 (aW ys[p].2.aA)).2) by
   unfold ph
   rw [gN,if_neg hq,jg,qN hp,ea])
  have HT:=aa (show ys[p].2.dp.ay=!(ys[p].2.aA.ax==ys[p].2.aA.aj) from rfl);have et:=fC.la L9;have r0:w.cell? ⟨b,p*8,none⟩=some (.int .i64 ys[p].2.aA.part):=hc 0 _ rfl;have r1:w.cell? ⟨b,p*8+1,none⟩=some (.int .i64 ys[p].2.aA.seq):=hc 1 _ rfl;have r2:w.cell? ⟨b,p*8+2,none⟩=some (.int .i64 ys[p].2.aA.ax):=hc 2 _ rfl;have r3:w.cell? ⟨b,p*8+3,none⟩=some (.int .i64 ys[p].2.aA.aj):=hc 3 _ rfl;have r4:w.cell? ⟨b,p*8+4,none⟩=some (.int .i64 ys[p].2.aA.left):=hc 4 _ rfl;have r5:w.cell? ⟨b,p*8+5,none⟩=some (.int .i64 ys[p].2.aA.bad):=hc 5 _ rfl;have k1:(p:Int) < (ys.length:Int):=by omega
  have k0:(0:Int)≤(p:Int):=by omega
  clear hc L9 hr h hq hv;generalize ys[p].2.aA=o at *;obtain ⟨oP,oS,oA,oC,oL,oB⟩:=o;simp only [Rec.mA] at vr HT et r0 r1 r2 r3 r4 r5;obtain ⟨-,-,hA,hC,hL,-⟩:=et;by_cases g:oA=oC
  ·have g2:(oA==oC)=true:=by simpa using g
   have ub:=aa (HE.o.trans (if_pos (by rw [HT.o,g2];rfl)));clear g;go_enter Tryz.func64,Tryz.ntmps64;go_wp2_with fail;go_ret;rw [ub.o];exact ⟨rfl,HB.o _ ((Below.refl _ w).alloc (Nat.le_refl _) _)⟩
  ·have g2:(oA==oC)=false:=by simpa using g
   have ub:=HE.o.trans (if_neg (by rw [HT.o,g2];simp));by_cases g3:oL=0
   ·have w1:IntKind.i64.wrap (1+oA)=1+oA:=IntWalk.i64_in _ (by omega);have w2:(oL==0)=true:=by simpa using g3
    rw [show aW ⟨oP,oS,oA,oC,oL,oB⟩=⟨oP,oS,oC,oC,oL,1+oA⟩ by
     unfold aW;rw [if_pos g3]
     rcases (by omega:oA=0∨oA=1) with e|e<;>rw [e]<;>rfl] at ub
    have Bm:=aa ub;clear g g3 ub hA hC hL;go_enter Tryz.func64,Tryz.ntmps64;go_wp2_with fail;refine (vr.o _ ((Below.refl _ w).alloc (Nat.le_refl _) _) ⟨oP,oS,oC,oC,oL,1+oA⟩).mono ?_;rintro e w3 ⟨rfl,hx⟩;have HX:=aa hx;clear hx;go_wp2_with fail;go_ret;rw [Bm.o];exact ⟨rfl,HX.o⟩
   ·have w1:IntKind.i64.wrap (oL-1)=oL-1:=IntWalk.i64_in _ (by omega);have w2:(oL==0)=false:=by simpa using g3
    rw [show aW ⟨oP,oS,oA,oC,oL,oB⟩=⟨oP,oS,oA,oC,oL-1,oB⟩ by unfold aW;rw [if_neg g3]] at ub;have Bm:=aa ub;clear g g3 ub hA hC hL;go_enter Tryz.func64,Tryz.ntmps64;go_wp2_with fail;refine (vr.o _ ((Below.refl _ w).alloc (Nat.le_refl _) _) ⟨oP,oS,oA,oC,oL-1,oB⟩).mono ?_;rintro e w3 ⟨rfl,hx⟩;have HX:=aa hx;clear hx;go_wp2_with fail;go_ret;rw [Bm.o];exact ⟨rfl,HX.o⟩
theorem Li (h:St w0 w (cw X tv v P ys::l)) (iR:tv.length=5) (hr:∀y∈ys,y.2.aA.right=true) (hK:jn w0 P ys) (q:Int) :
  Calls Tryz.prog 65 #[.pointer (some ⟨X,0,none⟩),.int .i64 q] w fun e w'=>e=.returned (.int .i64 (jf (ys.map (·.2)) q).1)∧gM w0 w' X tv v P l (jf (ys.map (·.2)) q).2:=by
 have HB:=aa (fun (w':World) (hb:Below w.heap.size w w')=>gM.same hK (h.below hb));by_cases hq:q < 0∨(ys.length:Int)≤q
 ·obtain ⟨A,c,x5,lX⟩:=yw h iR;have e:jf (ys.map (·.2)) q=(3,ys.map (·.2)):=by unfold jf;rw [gN,if_pos hq]
  rw [e];clear e h;rcases (by omega:q < 0∨(0≤q∧(ys.length:Int)≤q)) with h0|⟨h0,h1⟩
  all_goals
   go_enter Tryz.func65,Tryz.ntmps65;go_wp2_with fail;go_ret;exact ⟨rfl,HB.o _ (Below.refl _ _)⟩
 ·obtain ⟨p,rfl⟩:=Int.eq_ofNat_of_zero_le (by omega:0≤q);have hp:p < ys.length:=by omega
  obtain ⟨b,c,hv,x5,lX,lb,hc⟩:=Fj h hp iR;have L9:=hr _ (List.getElem_mem hp);have vr:=aa (fun (w':World) (hb:Below w.heap.size w w') (r:Rec)=>CO (h.below hb) hp L9 hK hv r)
  have HE:=aa (show jf (ys.map (·.2)) (p:Int)=if ys[p].2.dp.ay=false then (16,ys.map (·.2)) else ((eo ys[p].2 (Rec.oN ys[p].2.aA)).1,(ys.map (·.2)).set p (eo ys[p].2 (Rec.oN ys[p].2.aA)).2) by
   unfold jf
   rw [gN,if_neg hq,jg,qN hp,ea])
  have HT:=aa (show ys[p].2.dp.ay=!(ys[p].2.aA.ax==ys[p].2.aA.aj) from rfl);have r0:w.cell? ⟨b,p*8,none⟩=some (.int .i64 ys[p].2.aA.part):=hc 0 _ rfl;have r1:w.cell? ⟨b,p*8+1,none⟩=some (.int .i64 ys[p].2.aA.seq):=hc 1 _ rfl;have r2:w.cell? ⟨b,p*8+2,none⟩=some (.int .i64 ys[p].2.aA.ax):=hc 2 _ rfl;have r3:w.cell? ⟨b,p*8+3,none⟩=some (.int .i64 ys[p].2.aA.aj):=hc 3 _ rfl;have r4:w.cell? ⟨b,p*8+4,none⟩=some (.int .i64 ys[p].2.aA.left):=hc 4 _ rfl;have r5:w.cell? ⟨b,p*8+5,none⟩=some (.int .i64 ys[p].2.aA.bad):=hc 5 _ rfl;have k1:(p:Int) < (ys.length:Int):=by omega
  have k0:(0:Int)≤(p:Int):=by omega
  clear hc L9 hr h hq hv;generalize ys[p].2.aA=o at *;obtain ⟨oP,oS,oA,oC,oL,oB⟩:=o;simp only [Rec.mA,Rec.oN] at HE vr HT r0 r1 r2 r3 r4 r5;by_cases g:oA=oC
  ·have g2:(oA==oC)=true:=by simpa using g
   have ub:=aa (HE.o.trans (if_pos (by rw [HT.o,g2];rfl)));clear g;go_enter Tryz.func65,Tryz.ntmps65;go_wp2_with fail;go_ret;rw [ub.o];exact ⟨rfl,HB.o _ ((Below.refl _ w).alloc (Nat.le_refl _) _)⟩
  ·have g2:(oA==oC)=false:=by simpa using g
   have Bm:=aa (HE.o.trans (if_neg (by rw [HT.o,g2];simp)));clear g;go_enter Tryz.func65,Tryz.ntmps65;go_wp2_with fail;refine (vr.o _ ((Below.refl _ w).alloc (Nat.le_refl _) _) ⟨oP,oS,oA,oA,0,0⟩).mono ?_;rintro e w3 ⟨rfl,hx⟩;have HX:=aa hx;clear hx;go_wp2_with fail;go_ret;rw [Bm.o];exact ⟨rfl,HX.o⟩
end
end store
namespace nE

open Go.RowKit base obj mem bw num bytes bf
structure CC (w:World) (R:Nat) (bs:List Int) (i:Nat):Prop where
 cell:∃A c,Row w R 230 [.slice A bs.length c,.int .i64 i,.int .i64 0]∧bs.length≤c∧Sl w R 1 A bs.length (bs.map (.int .u8))
theorem CC.lt {w:World} {R:Nat} {bs:List Int} {i:Nat} (h:CC w R bs i):R < w.heap.size:=by
 obtain ⟨A,c,e,_⟩:=h.cell;exact e.lt
theorem CC.below {w w':World} {R:Nat} {bs:List Int} {i:Nat} (h:CC w R bs i) (k:Below w.heap.size w w'):CC w' R bs i:=by
 obtain ⟨A,c,e,hc,hs⟩:=h.cell;exact ⟨A,c,e.below k e.lt,hc,hs.below (k.mono (Nat.le_of_lt e.lt))⟩
theorem Ur (w:World) {base:Nat} (hb:base≤w.heap.size) {ops:Array Oper} {o:Oper} {a:Act} {K:Act→World→Prop} {Q:Exit→Act→World→Prop} {E:Prop} (ew:o.guard=none) (s x:Operand)
  (ho:o.op=.call { callee:=.builtin .append,args:=#[s,x],argTypes:=#[24,24] }) (hs:a.eval s=.slice none 0 0) {B n c:Nat} {A:Option Addr} (ys:List Int) (hx:a.eval x=.slice A n c) (hl:ys.length=n) (h0:0 < n) (hn:n≤1000000)
  (hr:Sl w B 1 A n (ys.map (.int .u8)))
  (h:∀g cap w',w'.ownsRow base 5 1 (.slice (some ⟨g,0,none⟩) n cap) n (ys.map (.int .u8))→Below w.heap.size w w'→K (a.put o.dst (.slice (some ⟨g,0,none⟩) n cap)) w') :
  if Region.wanted o (yielded ops a.tmps)=true then Oper.wp Tryz.prog o a w K Q else E:=by
 obtain ⟨i,z,hi,hz,h2,h3,h4⟩:=qW.hi;obtain ⟨b,off,rfl,_,hc⟩:=hr.2 h0;refine step_append_lies w ew s x 24 ho base 5 i z 1 1 qW.ht hi hz h2 h3 h4 qW.hs (.slice none 0 0) 0 [] hs (World.ownsRow_nil w base 5 1) ⟨b,off,none⟩ n c (ys.map (.int .u8)) hx (by simp [hl]) (fun j u hu=>?_) (xz _) h0 (by unfold maxLen;omega) (by omega) hb w.heap.size rfl ?_
 ·rw [Addr.add_mid];exact hc j u hu
 ·intro g cap w' Ar hg _ _;rw [Nat.zero_add,List.nil_append] at Ar;have e:(a.put o.dst (.slice (some ⟨g,0,none⟩) (0+n) cap))=a.put o.dst (.slice (some ⟨g,0,none⟩) n cap):=by rw [Nat.zero_add]
  rw [e];exact h g cap w' Ar ⟨hg.os,hg.tape,hg.output,hg.size,fun k hk=>hg.block k hk (by simp [Value.ownBlock])⟩
theorem oR {w:World} {R:Nat} {bs:List Int} {i:Nat} (h:CC w R bs i) (n:Nat) (h1:1≤n) (hn:i+n≤bs.length) (hm:bs.length≤100000) :
  Calls Tryz.prog 193 #[.pointer (some ⟨R,0,none⟩),.int .i64 n] w fun e w'=>∃g c,e=.returned (.slice (some ⟨g,0,none⟩) n c)∧w'.ownsRow w.heap.size 5 1 (.slice (some ⟨g,0,none⟩) n c) n (((bs.drop i).take n).map (.int .u8))∧CC w' R bs (i+n)∧Kept (fun k=>k=R) w w':=by
 obtain ⟨A,c,hr,hc,hs⟩:=h.cell;obtain ⟨g,o,rfl,hgR,fc⟩:=hs.2 (by omega);have hR:=hr.lt;have c0:w.cell? ⟨R,0,none⟩=some (.slice (some ⟨g,o,none⟩) bs.length c):=hr.cell 0;have c1:w.cell? ⟨R,1,none⟩=some (.int .i64 i):=hr.cell 1;have c2:w.cell? ⟨R,2,none⟩=some (.int .i64 0):=hr.cell 2
 have HS:=aa (show Sl w R 1 (some ⟨g,o+i,none⟩) n (((bs.drop i).take n).map (.int .u8)) from ⟨by simp;omega,fun _=>⟨g,o+i,rfl,hgR,fun k u hu=>by
  rw [Nat.add_assoc];refine fc (i+k) u ?_;rw [List.getElem?_map,List.getElem?_take] at hu;split at hu
  ·rw [List.getElem?_drop] at hu;rw [List.getElem?_map];exact hu
  ·simp at hu⟩⟩)
 have HR:=aa hr;have HSA:=aa hs;have HC:=aa hc;have E5:=aa (show ((bs.drop i).take n).length=n by simp;omega);obtain ⟨l,hl⟩:∃l,l=bs.length:=⟨_,rfl⟩
 rw [←hl] at c0;have HL:=aa hl;have g1:¬(n:Int)≤0:=by omega
 have g2:¬(n:Int) > (l:Int)-(i:Int):=by omega
 have g3:(0:Int)≤(i:Int):=by omega
 have g4:(i:Int)≤(i:Int)+(n:Int):=by omega
 have g5:(i:Int)+(n:Int)≤(c:Int):=by omega
 have g6:¬c=i:=by omega
 have w1:IntKind.i64.wrap ((l:Int)-(i:Int))=(l:Int)-(i:Int):=by rw [IntKind.wrap_i64];omega
 have w2:IntKind.i64.wrap ((i:Int)+(n:Int))=(i:Int)+(n:Int):=by rw [IntKind.wrap_i64];omega
 have w3:((i:Int)+(n:Int)).toNat=i+n:=by omega
 have hll:l≤100000:=by omega
 clear hr fc hs hc hl hn hm h;have hf:w.frozen? ⟨R,1,none⟩=false:=HR.o.frozen 1;go_enter Tryz.func193,Tryz.ntmps193;go_wp2_with fail;go_quiet (fail);go_wp2_with fail;obtain ⟨wd,xF⟩:∃wd,wd=w.drewN nq:=⟨_,rfl⟩
 rw [←xF];have R6:=aa (show Below w.heap.size w wd by rw [xF];exact below_drewN (Below.refl _ _) _);have d0:wd.cell? ⟨R,0,none⟩=some (.slice (some ⟨g,o,none⟩) l c):=by rw [xF];exact c0
 have d1:wd.cell? ⟨R,1,none⟩=some (.int .i64 i):=by rw [xF];exact c1
 have HDS:=aa (show wd.heap.size=w.heap.size by rw [xF];rfl);clear xF c0 c1 c2 hf
 go_region_held3 (fun w'=>w'.cell? ⟨R,0,none⟩=some (.slice (some ⟨g,o,none⟩) l c)∧w'.cell? ⟨R,1,none⟩=some (.int .i64 i)) (first|go_keep|(refine ⟨?_,?_⟩<;>(refine lu nL.o ?_;go_simp)))
  ((refine Ur _ (base:=w.heap.size) (by have:=R6.o.size;simpa using this) (by rfl) _ _ (by rfl) (by rfl) ((bs.drop i).take n) (by rfl) E5.o h1 (by omega) (by first|exact HS.o.below (R6.o.mono (Nat.le_of_lt hR))|exact HS.o.below (R6.o.drew.mono (Nat.le_of_lt hR))) ?_;intro g5' abi w5 vW jG;have CH:=aa vW;have nL:=aa jG;clear vW jG))
 have zH:=aa (R6.o.trans ((show Below wd.heap.size wd w5 from ⟨nL.o.os,nL.o.tape,nL.o.output,nL.o.size,nL.o.block⟩).mono R6.o.size));have wL:=aa (HR.o.below zH.o hR);have HL5:=HL.o;have k1:w5.cell? ⟨R,1,none⟩=some (.int .i64 i):=wL.o.cell 1;have k2:w5.frozen? ⟨R,1,none⟩=false:=wL.o.frozen 1;clear HL5;go_wp2_with fail;go_ret;refine ⟨g5',abi,rfl,ownsRow_setCell_below CH.o (a:=⟨R,1,none⟩) hR _,⟨some ⟨g,o,none⟩,c,?_,?_,?_⟩,(Kept.ng zH.o (fun k=>k=R)).setCell (p:=⟨R,1,none⟩) (.inl rfl) _⟩
 ·have h:=wL.o.setCell 1 (.int .i64 ((i+n:Nat):Int));rw [show ((i:Int)+(n:Int))=((i+n:Nat):Int) by omega];exact h
 ·exact HC.o
 ·exact HSA.o.below ((zH.o.mono (Nat.le_of_lt hR)).setCell (p:=⟨R,1,none⟩) (Nat.le_refl _) _)
theorem sZ {w:World} {R:Nat} {bs:List Int} {i:Nat} (h:CC w R bs i) (k:Nat) (h1:1≤k) (h6:k≤6) (hn:i+k≤bs.length) (hm:bs.length≤100000) (cu:bo bs) :
  Calls Tryz.prog 161 #[.pointer (some ⟨R,0,none⟩),.int .i64 k] w fun e w'=>e=.returned (.int .i64 (val ((bs.drop i).take k):Nat))∧CC w' R bs (i+k)∧Kept (fun k=>k=R) w w':=by
 have HH:=aa (oR h k h1 hn hm);obtain ⟨cs,cX⟩:∃cs,cs=(bs.drop i).take k:=⟨_,rfl⟩
 rw [←cX] at HH ⊢;have HY:=aa (show bo cs by rw [cX];exact record.yo (record.sB cu _) _);have MV:=aa (show cs.length=k by rw [cX];simp;omega);clear h cu cX;go_enter Tryz.func161,Tryz.ntmps161;go_wp2_with fail;refine (yi _ k h1 h6).mono ?_;rintro e w' ⟨rfl,rfl⟩;go_wp2_with fail;refine HH.o.mono ?_;rintro e w1 ⟨g,c,rfl,ho,hr,hk⟩;have HS:=aa (Sl.bz ho);have HF:=aa (And.intro hr hk);clear ho hr hk;go_wp2_with fail;go_loopw [7,6] (fun i s wr=>∃j:Nat,j≤k∧i=.int .i64 j∧s=.int .i64 (val (cs.take j):Nat)∧wr=w1) (fun i _ _=>k-(intOf i).toNat)
 case atStart=>exact ⟨0,by omega,rfl,by rw [List.take_zero];rfl,rfl⟩
 case round =>
  obtain ⟨j,hj,rfl,rfl,rfl⟩:=hrel;by_cases aK:j < k
  ·have dF:j < cs.length:=by rw [MV.o];exact aK
   obtain ⟨b,off,QW,cy,fc⟩:=HS.o.2 (by omega);injection QW with QW
   injection QW with e1 e2 _
   subst e1;subst e2;have hz:=HY.o cs[j] (List.getElem_mem dF);have c1:=fc j (.int .u8 cs[j]) (by simp [dF]);rw [Nat.zero_add] at c1;have fQ:=tI cs j dF
   have wA:val (cs.take j) < 2 ^ 40:=by
    have h:=qU (cs.take j) fun y hy=>HY.o y (List.mem_of_mem_take hy);rw [fv,Nat.min_eq_left (by omega)] at h;exact Nat.lt_of_lt_of_le h (Nat.le_trans (Nat.pow_le_pow_right (by decide) (show j≤5 by omega)) (by decide))
   generalize hf:val (cs.take j)=f at *;have iq:cs[j]=((cs[j].toNat:Nat):Int):=by omega
   rw [iq] at c1;generalize Ed:cs[j].toNat=z at *;have pQ:z < 256:=by omega
   have i0:(0:Int)≤(j:Int):=by omega
   have i1:(j:Int) < (k:Int):=by omega
   have QM:(f:Int)≤1099511627776:=by omega
   have kM:=aa fQ;clear fc fQ iq hz Ed hf;go_wp2_with fail;go_roundw;case rel=>exact ⟨j+1,by omega,by go_num,by rw [kM.o];go_num,trivial⟩
   case measure=>simp [intOf]<;>omega
  ·have dC:j=k:=by omega
   have cZ:¬(j:Int) < (k:Int):=by omega
   have HK:=aa dC;clear dC;go_wp2_with fail;go_ret;exact ⟨bt (by rw [HK.o,←MV.o,List.take_length]),HF.o⟩
end nE
namespace nE


open Go.RowKit Go.Deep base obj mem sep bw num bytes bf image
def RY (w:World) (R:Nat):Option (List Int)→Prop
 | .none=>∃(A:Option Addr) (n c:Nat) (i:Int),Row w R 230 [.slice A n c,.int .i64 i,.int .i64 1]
 | .some b=>∃(bs:List Int) (i:Nat),CC w R bs i∧i≤bs.length∧bs.length≤100000∧bo bs∧b=bs.drop i
def eG (n:Nat):Option (List Int)→List Int×Option (List Int)
 | .none=>([],.none)
 | .some b=>if n=0 then ([],.some b) else if b.length < n then ([],.none) else (b.take n,.some (b.drop n))
theorem Lp (k:Nat) (h1:1≤k) (s:Option (List Int)):rdNum k s=(val (eG k s).1,(eG k s).2):=by
 cases s with
 | none=>rfl
 | some b =>
   unfold rdNum eG;dsimp only;rw [if_neg (show ¬k=0 by omega)];split<;>rfl
theorem Jl (s:Option (List Int)):eF s=eG (rdNum 2 s).1 (rdNum 2 s).2:=by
 cases s with
 | none=>rfl
 | some b =>
   unfold eF rdNum;dsimp only;by_cases h:b.length < 2
   ·rw [if_pos (.inl h),if_pos h];rfl
   ·rw [if_neg h];unfold eG;dsimp only;by_cases h0:val (b.take 2)=0
    ·rw [if_pos h0,if_neg (by omega),h0,List.take_zero,List.drop_zero]
    ·rw [if_neg h0];by_cases h3:b.length < 2+val (b.take 2)
     ·rw [if_pos (.inr h3),if_pos (by rw [List.length_drop];omega)]
     ·rw [if_neg (by omega),if_neg (by rw [List.length_drop];omega)]
theorem RY.lt {w:World} {R:Nat} {s:Option (List Int)} (h:RY w R s):R < w.heap.size:=by
 cases s with
 | none=>obtain ⟨A,n,c,i,h⟩:=h;exact h.lt
 | some b=>obtain ⟨bs,i,h,_⟩:=h;exact h.lt
theorem RY.below {w w':World} {R:Nat} {s:Option (List Int)} (h:RY w R s) (k:Below w.heap.size w w'):RY w' R s:=by
 cases s with
 | none=>obtain ⟨A,n,c,i,h⟩:=h;exact ⟨A,n,c,i,h.below k h.lt⟩
 | some b=>obtain ⟨bs,i,h,h2⟩:=h;exact ⟨bs,i,h.below k,h2⟩
theorem RY.err {w:World} {R:Nat} {s:Option (List Int)} (h:RY w R s):∃(A:Option Addr) (n c:Nat) (i:Int),Row w R 230 [.slice A n c,.int .i64 i,.int .i64 (if s=none then 1 else 0)]:=by
 cases s with
 | none=>exact h
 | some b =>
   obtain ⟨bs,i,h,_⟩:=h;obtain ⟨A,c,e,_⟩:=h.cell;exact ⟨A,_,c,_,e⟩
theorem nh (w:World) (B:Nat):w.ownsRow B 5 1 (.slice none 0 0) 0 (aP []):=⟨rfl,.inl ⟨rfl,rfl⟩⟩
theorem MA {w:World} {R:Nat} {s:Option (List Int)} (h:RY w R s) (n:Nat) (hn:n≤100000):Calls Tryz.prog 193 #[.pointer (some ⟨R,0,none⟩),.int .i64 n] w fun e w'=>∃A c,e=.returned (.slice A (eG n s).1.length c)∧w'.ownsRow w.heap.size 5 1 (.slice A (eG n s).1.length c) (eG n s).1.length (aP (eG n s).1)∧RY w' R (eG n s).2∧Kept (fun k=>k=R) w w':=by
 have H:=aa h;cases s with
 | none =>
   obtain ⟨A,m,c,i,hr⟩:=h;have c2:w.cell? ⟨R,2,none⟩=some (.int .i64 1):=hr.cell 2;clear hr;go_enter Tryz.func193,Tryz.ntmps193;go_wp2_with fail;go_ret;exact ⟨none,0,rfl,nh _ _,H.o,Kept.refl _ _⟩
 | some b =>
   obtain ⟨bs,i,hr,hi,hm,cu,rfl⟩:=h;by_cases h0:n=0
   ·subst h0;obtain ⟨A,c,e,_⟩:=hr.cell;have c2:w.cell? ⟨R,2,none⟩=some (.int .i64 0):=e.cell 2;rw [show eG 0 (some (bs.drop i))=([],some (bs.drop i)) from rfl];clear hr e;go_enter Tryz.func193,Tryz.ntmps193;go_wp2_with fail;go_ret;exact ⟨none,0,rfl,nh _ _,H.o,Kept.refl _ _⟩
   ·by_cases h1:(bs.drop i).length < n
    ·rw [show eG n (some (bs.drop i))=([],none) by unfold eG;dsimp only;rw [if_neg h0,if_pos h1]];obtain ⟨A,c,e,_⟩:=hr.cell;have c0:w.cell? ⟨R,0,none⟩=some (.slice A bs.length c):=e.cell 0;have c1:w.cell? ⟨R,1,none⟩=some (.int .i64 i):=e.cell 1;have c2:w.cell? ⟨R,2,none⟩=some (.int .i64 0):=e.cell 2;have lR:=e.lt;have f2:=e.frozen 2;have HE:=aa e;rw [List.length_drop] at h1;obtain ⟨l,hl⟩:∃l,l=bs.length:=⟨_,rfl⟩
     rw [←hl] at c0 h1 hi hm;have HL:=aa hl;have g1:¬(n:Int)≤0:=by omega
     have w1:IntKind.i64.wrap ((l:Int)-(i:Int))=(l:Int)-(i:Int):=IntWalk.i64_in _ (by omega);have g2:(l:Int)-(i:Int) < (n:Int):=by omega
     clear hr e hl;go_enter Tryz.func193,Tryz.ntmps193;go_wp2_with fail;go_quiet (fail);go_wp2_with fail;go_ret;exact ⟨none,0,rfl,nh _ _,⟨A,_,c,_,by have h:=(HE.o.below (below_drewN (Below.refl _ _) nq) lR).setCell 2 (.int .i64 1);exact h⟩,((Kept.refl (fun k=>k=R) w).drewN nq).setCell (p:=⟨R,2,none⟩) (.inl rfl) _⟩
    ·rw [show eG n (some (bs.drop i))=((bs.drop i).take n,some ((bs.drop i).drop n)) by unfold eG;dsimp only;rw [if_neg h0,if_neg h1]];rw [List.length_drop] at h1;have hlen:((bs.drop i).take n).length=n:=by rw [fv,List.length_drop];omega
     refine (oR hr n (by omega) (by omega) hm).mono ?_;rintro e w' ⟨g,c,e1,e2,e3,e4⟩;exact ⟨_,c,by rw [e1,hlen],by rw [hlen];exact e2,⟨bs,i+n,e3,by omega,hm,cu,by rw [List.drop_drop]⟩,e4⟩
theorem ug {w:World} {R:Nat} {s:Option (List Int)} (h:RY w R s) (k:Nat) (h1:1≤k) (h6:k≤6) :
  Calls Tryz.prog 161 #[.pointer (some ⟨R,0,none⟩),.int .i64 k] w fun e w'=>e=.returned (.int .i64 ((rdNum k s).1:Nat))∧RY w' R (rdNum k s).2∧Kept (fun k=>k=R) w w':=by
 have hy:bo (eG k s).1:=by
  cases s with
  | none=>exact fun z hz=>by simp [eG] at hz
  | some b =>
    obtain ⟨bs,i,_,_,_,cu,rfl⟩:=h;unfold eG;dsimp only;split
    ·exact fun z hz=>by simp at hz
    ·split
     ·exact fun z hz=>by simp at hz
     ·exact record.yo (record.sB cu _) _
 have hl:(eG k s).1.length≤6:=by
  cases s with
  | none=>simp [eG]
  | some b =>
    unfold eG;dsimp only;split
    ·simp
    ·split
     ·simp
     ·rw [fv];omega
 have HH:=aa (MA h k (by omega));rw [Lp k h1];obtain ⟨cs,cX⟩:∃cs,cs=(eG k s).1:=⟨_,rfl⟩
 rw [←cX] at HH hy hl ⊢;have HY:=aa hy;obtain ⟨m,hm⟩:∃m,m=cs.length:=⟨_,rfl⟩
 rw [←hm] at HH hl;have HM:=aa hm;clear h hy cX hm;go_enter Tryz.func161,Tryz.ntmps161;go_wp2_with fail;refine (yi _ k h1 h6).mono ?_;rintro e w' ⟨rfl,rfl⟩;go_wp2_with fail;refine HH.o.mono ?_;rintro e w1 ⟨A,c,rfl,ho,hr,hk⟩;have HS:=aa (Sl.bz ho);have HF:=aa (And.intro hr hk);clear ho hr hk;go_wp2_with fail;go_loopw [7,6] (fun i s wr=>∃j:Nat,j≤m∧i=.int .i64 j∧s=.int .i64 (val (cs.take j):Nat)∧wr=w1) (fun i _ _=>m-(intOf i).toNat)
 case atStart=>exact ⟨0,by omega,rfl,by rw [List.take_zero];rfl,rfl⟩
 case round =>
  obtain ⟨j,hj,rfl,rfl,rfl⟩:=hrel;by_cases aK:j < m
  ·have dF:j < cs.length:=by rw [←HM.o];exact aK
   obtain ⟨b,off,QW,cy,fc⟩:=HS.o.2 (by omega);subst QW;have hz:=HY.o cs[j] (List.getElem_mem dF);have c1:=fc j (.int .u8 cs[j]) (by simp [aP,dF]);have fQ:=tI cs j dF
   have wA:val (cs.take j) < 2 ^ 40:=by
    have h:=qU (cs.take j) fun y hy=>HY.o y (List.mem_of_mem_take hy);rw [fv,Nat.min_eq_left (by omega)] at h;exact Nat.lt_of_lt_of_le h (Nat.le_trans (Nat.pow_le_pow_right (by decide) (show j≤5 by omega)) (by decide))
   generalize hf:val (cs.take j)=f at *;have iq:cs[j]=((cs[j].toNat:Nat):Int):=by omega
   rw [iq] at c1;generalize Ed:cs[j].toNat=z at *;have pQ:z < 256:=by omega
   have i0:(0:Int)≤(j:Int):=by omega
   have i1:(j:Int) < (m:Int):=by omega
   have QM:(f:Int)≤1099511627776:=by omega
   have kM:=aa fQ;clear fc fQ iq hz Ed hf;go_wp2_with fail;go_roundw;case rel=>exact ⟨j+1,by omega,by go_num,by rw [kM.o];go_num,trivial⟩
   case measure=>simp [intOf]<;>omega
  ·have dC:j=m:=by omega
   have cZ:¬(j:Int) < (m:Int):=by omega
   have HK:=aa dC;clear dC;go_wp2_with fail;go_ret;exact ⟨bt (by rw [HK.o,HM.o,List.take_length]),HF.o⟩
theorem RY.Yc {w:World} {R:Nat} {s:Option (List Int)} (h:RY w R s):(rdNum 2 s).1 < 65536:=by
 cases s with
 | none=>decide
 | some b =>
   obtain ⟨bs,i,_,_,_,cu,rfl⟩:=h;unfold rdNum;dsimp only;split
   ·decide
   ·have hv:=qU ((bs.drop i).take 2) (record.yo (record.sB cu _) _);rw [fv] at hv;exact Nat.lt_of_lt_of_le hv (Nat.pow_le_pow_right (by decide) (show min 2 (bs.drop i).length≤2 by omega))
theorem XI {w:World} {R:Nat} {s:Option (List Int)} (h:RY w R s):Calls Tryz.prog 162 #[.pointer (some ⟨R,0,none⟩),.int .i64 70000] w fun e w'=>∃A c,e=.returned (.slice A (eF s).1.length c)∧w'.ownsRow w.heap.size 5 1 (.slice A (eF s).1.length c) (eF s).1.length (aP (eF s).1)∧RY w' R (eF s).2∧Kept (fun k=>k=R) w w':=by
 have H:=aa h;cases hs:s with
 | none =>
   subst hs;obtain ⟨A,m,c,i,hr⟩:=h;have c2:w.cell? ⟨R,2,none⟩=some (.int .i64 1):=hr.cell 2;clear hr;go_enter Tryz.func162,Tryz.ntmps162;go_wp2_with fail;go_ret;exact ⟨none,0,rfl,nh _ _,H.o,Kept.refl _ _⟩
 | some b =>
   have HN:=aa (ug h 2 (by omega) (by omega));have aK:=h.Yc;obtain ⟨A,m,c,i,hr⟩:=h.err;rw [if_neg (by rw [hs];simp)] at hr;have c1:w.cell? ⟨R,1,none⟩=some (.int .i64 i):=hr.cell 1;have c2:w.cell? ⟨R,2,none⟩=some (.int .i64 0):=hr.cell 2;rw [←hs,Jl];obtain ⟨x,hx⟩:∃x,x=rdNum 2 s:=⟨_,rfl⟩
   rw [←hx] at HN aK ⊢;obtain ⟨n,s2⟩:=x;dsimp only at HN aK ⊢;clear hr hs hx h H;go_enter Tryz.func162,Tryz.ntmps162;go_wp2_with fail;refine HN.o.mono ?_;rintro e w2 ⟨rfl,hr,hk⟩;have oe:=aa hk;have E5:=aa hr.lt;have HB:=aa (MA hr n (by omega));obtain ⟨A2,m2,cc2,i2,mG⟩:=hr.err;have d2:=mG.cell 2;have g1:¬70000 < (n:Int):=by omega
   obtain ⟨x,hx⟩:∃x,x=eG n s2:=⟨_,rfl⟩
   rw [←hx] at HB;have HX:=aa hx;obtain ⟨t,s3⟩:=x;obtain ⟨tl,uU⟩:∃tl,tl=t.length:=⟨_,rfl⟩
   dsimp only at HB;rw [←uU] at HB;have RL:=aa uU;clear hr mG hk c1 c2 hx uU;rcases (by cases s2<;>simp:s2=none∨s2≠none) with hn|hn
   case' inl=>rw [if_pos hn] at d2
   case' inr=>rw [if_neg hn] at d2
   all_goals
    simp only [List.getElem?_cons_succ,List.getElem?_cons_zero] at d2;clear hn;go_wp2_with fail;refine HB.o.mono ?_;rintro e w3 ⟨A3,c3,rfl,ho,hr,hk⟩;have HO:=aa ho;have HK3:=aa (oe.o.trans hk (fun _ h=>h) (fun _ h _=>h));have HKB:=aa hk;have HR:=aa hr;have lv:=aa oe.o.size;clear d2;obtain ⟨A4,m4,c4,i4,s9⟩:=hr.err;have d1:w3.cell? ⟨R,1,none⟩=some (.int .i64 i4):=s9.cell 1;have d2:=s9.cell 2;have f1:=s9.frozen 1;have lR:=s9.lt;have H4:=aa s9;clear s9 hr hk ho;rcases (by cases s3<;>simp:s3=none∨s3≠none) with hn|hn
    case' inl=>rw [if_pos hn] at d2
    case' inr=>rw [if_neg hn] at d2
    all_goals
     simp only [List.getElem?_cons_succ,List.getElem?_cons_zero] at d2;have CI:=aa hn;clear hn;go_wp2_with fail;go_ret;rw [←HX.o];have ho:=HO.o;rw [RL.o] at ho
     first
      | exact ⟨A3,c3,by rw [RL.o];rfl,ho.mono lv.o,HR.o,HK3.o⟩
      | (have h4:=H4.o;rw [if_pos CI.o] at h4
         exact ⟨A3,c3,by rw [RL.o];rfl,(ownsRow_setCell_below ho (a:=⟨R,1,none⟩) E5.o _).mono lv.o,by rw [CI.o];exact ⟨A4,m4,c4,_,h4.setCell 1 (.int .i64 i)⟩,HK3.o.setCell (p:=⟨R,1,none⟩) (.inl rfl) _⟩)
theorem Vv {w:World} {R:Nat} {s:Option (List Int)} (h:RY w R s):Calls Tryz.prog 163 #[.pointer (some ⟨R,0,none⟩)] w fun e w'=>e=.returned (.int .i64 (lf s))∧∃n,w'=w.drewN n:=by
 cases s with
 | none =>
   obtain ⟨A,m,c,i,hr⟩:=h;have c2:w.cell? ⟨R,2,none⟩=some (.int .i64 1):=hr.cell 2;clear hr;go_enter Tryz.func163,Tryz.ntmps163;go_wp2_with fail;go_quiet (fail);go_wp2_with fail;go_ret;exact ⟨rfl,_,rfl⟩
 | some b =>
   obtain ⟨bs,i,hr,hi,hm,cu,rfl⟩:=h;obtain ⟨A,c,e,_⟩:=hr.cell;have c0:w.cell? ⟨R,0,none⟩=some (.slice A bs.length c):=e.cell 0;have c1:w.cell? ⟨R,1,none⟩=some (.int .i64 i):=e.cell 1;have c2:w.cell? ⟨R,2,none⟩=some (.int .i64 0):=e.cell 2;have HE:=aa (show lf (some (bs.drop i))=if bs.length-i=0 then 0 else 2 by rw [lf,List.length_drop]);generalize lf (some (bs.drop i))=r at *;obtain ⟨l,hl⟩:∃l,l=bs.length:=⟨_,rfl⟩
   rw [←hl] at c0 hi HE;clear hr e hl cu hm;rcases (by omega:l-i=0∨l-i≠0) with g|g
   case' inl=>have g1:¬(i:Int) < (l:Int):=by omega
   case' inr=>have g1:(i:Int) < (l:Int):=by omega
   all_goals
    have HG:=aa g;clear g hi;go_enter Tryz.func163,Tryz.ntmps163;go_wp2_with fail;go_quiet (fail);go_wp2_with fail;go_ret;exact ⟨bt (by rw [HE.o];simp [HG.o]),_,rfl⟩
end nE
end Go.Proofs.YtdldkkoplgkloaaGreat
