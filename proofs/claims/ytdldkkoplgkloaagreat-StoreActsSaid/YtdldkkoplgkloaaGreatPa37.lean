/- PROVED HERE: lemmas of the law. CONDITIONS: each names its own. -/
import Derived.Test.YtdldkkoplgkloaaGreatPa36
namespace Go.Proofs.YtdldkkoplgkloaaGreat
set_option linter.unusedVariables false
set_option linter.unusedSimpArgs false
set_option maxRecDepth 100000
set_option maxHeartbeats 32000000
open Go.Value renaming int → ae
open Go.IntKind renaming i64 → aa
namespace store
open Go.RowKit Go.Deep base obj mem sep aW aX record bD aG image bN bL chain bC
section
variable {A:aI} {P:List (Nat×List Value)} {l:List aI} {L:List RP} {tv:List Value} {X:Nat} {v:Value} {w' w0:World}
theorem Ye (w:World) (i:aq) (A:Option Addr) (c:Nat) (hc:i.code.length≤c) (hm:i.code.length≤9223372036854775807) (cG:bn i.code) (hs:Sl w w.heap.size 1 A i.code.length (aP i.code)) :
  Calls Tryz.prog 30 #[i.val A c] w fun e w'=>∃A' n' c' er,e=.returned (.tuple #[.slice A' n' c',ae aa er])∧Below w.heap.size w w'∧((er=0∧(n':Int)=o7 i)∨(er≠0∧o7 i=30)):=by
 by_cases hr:i.right
 ·refine (GP w i hr A c hc cG hs).mono ?_;rintro e w' ⟨v,rfl,ho,hb⟩;obtain ⟨A',c',rfl,_,_⟩:=aD ho;exact ⟨A',_,c',0,rfl,hb,.inl ⟨rfl,by unfold o7;rw [if_pos hr,nS]⟩⟩
 ·refine (NK w i hr A c hm).mono ?_;rintro e w' ⟨rfl,hb⟩;exact ⟨none,0,0,3,rfl,hb,.inr ⟨by decide,by unfold o7;rw [if_neg hr]⟩⟩
theorem ix.qT {B:aI} (h:ix w0 w' X tv v P (A::B::l) L):ix w0 w' X tv v P (A::l) L:=by
 obtain ⟨P',vO,h1,h2,h3⟩:=h;exact ⟨P',vO,h1,((h2.pick 2 rfl).drop),h3⟩
theorem ix.abv (h:ix w0 w' X tv v P (A::l) L):ix w0 w' X tv v P l L:=h.drop
theorem UN (i:aq):-9223372036854775808≤o7 i:=by
 unfold o7;split<;>omega
theorem abU {w:World} {ad:fy} {t:aY} {d:Nat} {m:DS} {xs:List PP} {a:dF} {ys:List (dv×RP)} {AI:Option Addr} {nI cI:Nat} {js:List aq} {K:Nat→Option Addr×Nat} (h:St w0 w (aZ ad t d m xs::bK X [ae aa t.frame,.slice a.AP t.parts.length a.cP,.slice a.AW t.aJ.length a.cW,.slice a.AC t.av.length a.cC,ae aa t.ay] v P ys::l)) (ok:iJ t m xs)
  (hr:∀y∈ys,y.2.aw.right=true) (hS:∀y∈ys,∀k:Int,Ch (y.2.slot k)) (hK:iK w0 P ys) (eE:∀w',Below w0.heap.size w0 w'→ya w' a t AI nI cI js K) (c:dU) :
  Calls Tryz.prog 23 #[.pointer (some ⟨ad.S,0,none⟩),.pointer (some ⟨X,0,none⟩),.agg #[ae aa t.frame,.slice a.AP t.parts.length a.cP,.slice a.AW t.aJ.length a.cW,.slice a.AC t.av.length a.cC,ae aa t.ay,.slice AI nI cI],.agg #[ae aa c.kind,ae aa c.part,ae aa c.n,ae aa c.i,ae aa c.no,.bool c.dL,.int .u64 c.keep]] w fun e w' =>
   e=.returned (.tuple #[ae aa (oD t m xs js c).1,ae aa (pB t (ys.map (·.2)) js c).1])∧ix w0 w' X [ae aa t.frame,.slice a.AP t.parts.length a.cP,.slice a.AW t.aJ.length a.cW,.slice a.AC t.av.length a.cC,ae aa t.ay] v P (aZ ad t d (oD t m xs js c).2.1 (oD t m xs js c).2.2::l) (pB t (ys.map (·.2)) js c).2:=by
 obtain ⟨Z,hZ⟩:=xE w.heap.size;obtain ⟨Y,hY⟩:=xE (Z+1);obtain ⟨w1,aF⟩:∃v,v=(w.alloc (.cells #[ae aa t.frame,.slice a.AP t.parts.length a.cP,.slice a.AW t.aJ.length a.cW,.slice a.AC t.av.length a.cC,ae aa t.ay,.slice AI nI cI] 49)).alloc (.cells #[ae aa c.kind,ae aa c.part,ae aa c.n,ae aa c.i,ae aa c.no,.bool c.dL,.int .u64 c.keep] 58):=⟨_,rfl⟩
 have H1:=af (show St w0 w1 (row Y 58 c.cells::row Z 49 [ae aa t.frame,.slice a.AP t.parts.length a.cP,.slice a.AW t.aJ.length a.cW,.slice a.AC t.av.length a.cC,ae aa t.ay,.slice AI nI cI]::aZ ad t d m xs::bK X [ae aa t.frame,.slice a.AP t.parts.length a.cP,.slice a.AW t.aJ.length a.cW,.slice a.AC t.av.length a.cC,ae aa t.ay] v P ys::l) by
  have h3:=(h.new 49 #[ae aa t.frame,.slice a.AP t.parts.length a.cP,.slice a.AW t.aJ.length a.cW,.slice a.AC t.av.length a.cC,ae aa t.ay,.slice AI nI cI]).new 58 c.cells.toArray;rw [World.size_alloc,←hZ,←hY] at h3;rw [aF]
  exact h3)
 have ux:=af (Yh (eE w1 H1.o.aE) c);have HTB:=af (fun w' hb=>(eE w' hb).bN);have hpb:=Ie (eE w1 H1.o.aE).iO.jo c.i;have DQ:=af hpb
 have sW:=af (show oD t m xs js c=if c.kind=0 then jv m xs c.part c.n (o7 (fo js c.i)) else if c.kind=1 then lf m xs c.part c.n c.no (iI (fo js c.i) c.no c.dL) else if c.kind=2 then la t m xs c.part c.n
  else if c.kind=3 then lh m xs c.part c.n else if c.kind=4 then ((iY t m xs c.part).1.2,(iY t m xs c.part).2) else fQ m xs c.part from rfl)
 have AZ:=af (show pB t (ys.map (·.2)) js c=if c.kind=0 then mY (ys.map (·.2)) c.part c.n (o7 (fo js c.i)) else if c.kind=1 then qe (ys.map (·.2)) c.part c.n c.no (iI (fo js c.i) c.no c.dL) else if c.kind=2 then n8 t (ys.map (·.2)) c.part c.n
  else if c.kind=3 then qf (ys.map (·.2)) c.part c.n else if c.kind=4 then qg (ys.map (·.2)) c.part else jC (ys.map (·.2)) c.part from rfl)
 generalize oD t m xs js c=SD at *;generalize pB t (ys.map (·.2)) js c=XD at *;have fb:=af ok;have HR:=af hr;have HS:=af hS;have HK:=af hK;have br:=af aF;have HZ:=af hZ;have HY:=af hY;have rz:=(H1.o.pick 1 rfl).row.1;have z0:=rz.cell 0;have z1:=rz.cell 1;have z2:=rz.cell 2;have z3:=rz.cell 3;have z4:=rz.cell 4;have z5:=rz.cell 5;have lZ:=rz.lt;obtain ⟨c0,c1,c2,c3,c4,c5,c6,lY⟩:=km H1.o.row.1;clear h ok hr hS hK eE aF hZ hY rz hpb;go_enter Tryz.func23,Tryz.ntmps23;go_upto_region 1 with fail;rw [←HZ.o,←HY.o,←br.o];go_wp2_with fail;refine ux.o.mono ?_;rintro e w2 ⟨A,k,rfl,⟨hs,j9,uk⟩,hb⟩;have H2:=af (H1.o.below hb);have im:=af (fun (w':World) (nB:Below w2.heap.size w2 w')=>Ye w' (fo js c.i) A k j9 uk DQ.o ((((hs.below hb).more hb.size).below nB).more nB.size));have iS:=af (fun (w':World) (l':List aI) (h':St w0 w' l') (nB:Below w2.heap.size w2 w') (no:Int) (sp:Bool)=>Md h' (fo js c.i) DQ.o A k j9 uk ((((hs.below hb).more hb.size).below nB).more nB.size) no sp);have mv:=af (UN (fo js c.i));generalize iP:o7 (fo js c.i)=sz at *;generalize hii:fo js c.i=i at *;clear iP hii hs j9 uk hb z0 z1 z2 z3 z4 z5 lZ c0 c1 c2 c3 c4 c5 c6 lY;simp only [aq.val] at im iS ⊢;generalize i.part=i0,i.version=i1,i.aV=i2,i.mem=i3,i.fuel=i4,i.aM=i5,i.ax=i6,i.code.length=i7 at im iS ⊢;obtain ⟨I,hI⟩:=xE w2.heap.size;obtain ⟨w3,nQ⟩:=xE (w2.alloc (.cells #[ae aa i0,ae aa i1,ae aa i2,ae aa i3,ae aa i4,ae aa i5,ae aa i6,.slice A i7 k] 26));have h3:=H2.o.new 26 #[ae aa i0,ae aa i1,ae aa i2,ae aa i3,ae aa i4,ae aa i5,ae aa i6,.slice A i7 k];rw [←hI,←nQ] at h3;have lA:Below w2.heap.size w2 w3:=by rw [nQ];exact (Below.refl _ w2).alloc (Nat.le_refl _) _
 have H3:=af (show St w0 w3 (aZ ad t d m xs::row Y 58 c.cells::row I 26 [ae aa i0,ae aa i1,ae aa i2,ae aa i3,ae aa i4,ae aa i5,ae aa i6,.slice A i7 k]::bK X [ae aa t.frame,.slice a.AP t.parts.length a.cP,.slice a.AW t.aJ.length a.cW,.slice a.AC t.av.length a.cC,ae aa t.ay] v P ys::l) from (((h3.pick 2 rfl).drop.pick 1 rfl).pick 2 rfl));have bM:=af lA;have HI:=af hI;have wW:=af nQ;clear h3 lA hI nQ;go_upto_region 3 with fail;rw [←wW.o,←HI.o];have ri:=(H3.o.pick 2 rfl).row.1;have m0:=ri.cell 0;have m1:=ri.cell 1;have m2:=ri.cell 2;have m3:=ri.cell 3;have m4:=ri.cell 4;have m5:=ri.cell 5;have m6:=ri.cell 6;have m7:=ri.cell 7;have lI:=ri.lt;clear ri;go_wp2_with fail;refine (im.o w3 bM.o).mono ?_;rintro e w4 ⟨A',n',c',er,rfl,hb,abS⟩;have H4:=af (H3.o.below hb);have fD:=af (bM.o.trans (hb.mono bM.o.size));clear hb m0 m1 m2 m3 m4 m5 m6 m7 lI;have y4:=H4.o.pick 1 rfl;obtain ⟨c0,c1,c2,c3,c4,c5,c6,lY⟩:=km y4.row.1;clear y4;rcases abS with ⟨rfl,hn⟩|⟨he,hz⟩
 case' inl=>subst hn
 case' inr =>
  subst hz;have g4:(er==0)=false:=by simpa using he
  clear he
 all_goals
  by_cases e0:c.kind=0
  ·have q0:(c.kind==0)=true:=by simpa using e0
   have xd:=af (sW.o.trans (if_pos e0));have Ci:=af (AZ.o.trans (if_pos e0));clear sW AZ e0;have HC:=af (fun (w':World) (l':List aI) (h':St w0 w' (row Y 58 c.cells::l'))=>show w'.cell? ⟨Y,1,none⟩=some (ae aa c.part)∧w'.cell? ⟨Y,2,none⟩=some (ae aa c.n)∧w'.cell? ⟨Y,4,none⟩=some (ae aa c.no)∧Y < w'.heap.size from ⟨h'.row.1.cell 1,h'.row.1.cell 2,h'.row.1.cell 4,h'.row.1.lt⟩);go_wp2_with fail;clear c0 c1 c2 c3 c4 c5 c6 lY;refine eb (fun w'=>w'.cell? ⟨Y,1,none⟩=some (ae aa c.part)∧w'.cell? ⟨Y,2,none⟩=some (ae aa c.n)∧w'.cell? ⟨Y,4,none⟩=some (ae aa c.no)∧Y < w'.heap.size) (by kernel_rfl) (HC.o w4.drew _ (H4.o.drew.pick 1 rfl)) (fun bJ=>?_);(refine ah 0 ?_;(try simp only [ai]));(refine ah 1 ?_;(try simp only [ai]));(refine ah 2 ?_;(try simp only [ai]));(refine ah 3 ?_;(try simp only [ai]));(refine ah 4 ?_;(try simp only [ai]));(refine ah 5 ?_;(try simp only [ai]));(refine ah 7 ?_;(try simp only [ai]));(refine ah 8 ?_;(try simp only [ai]));(refine ah 9 ?_;(try simp only [ai]));(refine ah 10 ?_;(try simp only [ai]));(refine ah 11 ?_;(try simp only [ai]));(refine ah 12 ?_;(try simp only [ai]));(refine dQ 6 ?_;(try simp only [xG]);go_simp);refine (Jp H4.o.drew fb.o c.part c.n _).mono ?_;rintro e w5 ⟨rfl,h5⟩;have H5:=af h5;clear h5;try dsimp only
   (refine cu (HC.o w5 _ (H5.o.pick 1 rfl)) (fun bJ=>?_);(try simp only [ai]));(refine dQ 13 ?_;(try simp only [xG]);go_simp);refine (QT (H5.o.pick 3 rfl) rfl HR.o HK.o c.part c.n _ mv.o).mono ?_;rintro e w6 ⟨rfl,hx⟩;have HX:=af hx;obtain ⟨P',vO,hP,h6,hL,FX⟩:=hx;have H6:=af h6;clear h6 hP hL FX;try dsimp only
   (refine cu (HC.o w6 _ (H6.o.pick 2 rfl)) (fun bJ=>?_);(try simp only [ai]));(refine ah 14 ?_;(try simp only [ai]));(refine ah 15 ?_;(try simp only [ai]));refine dw (by kernel_rfl) ?_;clear bJ;go_wp2_with fail;go_ret2;rw [xd.o,Ci.o];exact ⟨rfl,HX.o.qT.qT⟩
  have q0:(c.kind==0)=false:=by simpa using e0
  by_cases e1:c.kind=1
  ·have q1:(c.kind==1)=true:=by simpa using e1
   have xd:=af (sW.o.trans ((if_neg e0).trans (if_pos e1)));have Ci:=af (AZ.o.trans ((if_neg e0).trans (if_pos e1)));clear sW AZ e0 e1;have ri:=(H4.o.pick 2 rfl).row.1;have m0:=ri.cell 0;have m1:=ri.cell 1;have m2:=ri.cell 2;have m3:=ri.cell 3;have m4:=ri.cell 4;have m5:=ri.cell 5;have m6:=ri.cell 6;have m7:=ri.cell 7;have lI:=ri.lt;clear ri;go_wp2_with fail;refine (iS.o w4 _ H4.o fD.o c.no c.dL).mono ?_;rintro e w7 ⟨D,rfl,h7⟩;have H7:=af (h7.swap);have yl:=af (pP (w0:=w0) (t:=D) (n:=16) (xs:=aP (iI i c.no c.dL)) (bs:=iI i c.no c.dL) (vu _ _ _) (by rw [List.take_of_length_le (by simp [aP,vu])]));clear h7 m0 m1 m2 m3 m4 m5 m6 m7 lI c0 c1 c2 c3 c4 c5 c6 lY;go_upto_region 11 with fail;have HC:=af (fun (w':World) (l':List aI) (h':St w0 w' (row Y 58 c.cells::l'))=>show w'.cell? ⟨Y,1,none⟩=some (ae aa c.part)∧w'.cell? ⟨Y,2,none⟩=some (ae aa c.n)∧w'.cell? ⟨Y,4,none⟩=some (ae aa c.no)∧Y < w'.heap.size from ⟨h'.row.1.cell 1,h'.row.1.cell 2,h'.row.1.cell 4,h'.row.1.lt⟩);refine eb (fun w'=>w'.cell? ⟨Y,1,none⟩=some (ae aa c.part)∧w'.cell? ⟨Y,2,none⟩=some (ae aa c.n)∧w'.cell? ⟨Y,4,none⟩=some (ae aa c.no)∧Y < w'.heap.size) (by kernel_rfl) (HC.o w7.drew _ (H7.o.drew.pick 2 rfl)) (fun bJ=>?_);(refine ah 0 ?_;(try simp only [ai]));(refine ah 1 ?_;(try simp only [ai]));(refine ah 2 ?_;(try simp only [ai]));(refine ah 3 ?_;(try simp only [ai]));(refine ah 4 ?_;(try simp only [ai]));(refine ah 5 ?_;(try simp only [ai]));(refine ah 6 ?_;(try simp only [ai]));(refine ah 7 ?_;(try simp only [ai]));(refine ah 9 ?_;(try simp only [ai]));(refine ah 10 ?_;(try simp only [ai]));(refine ah 11 ?_;(try simp only [ai]));(refine ah 12 ?_;(try simp only [ai]));(refine ah 13 ?_;(try simp only [ai]));(refine ah 14 ?_;(try simp only [ai]));(refine ah 15 ?_;(try simp only [ai]));(refine ah 16 ?_;(try simp only [ai]));(refine dQ 8 ?_;(try simp only [xG]);go_simp);refine (KW H7.o.drew fb.o c.part c.n c.no yl.o).mono ?_;rintro e w5 ⟨rfl,h5⟩;have H5:=af h5;clear h5;try dsimp only
   (refine cu (HC.o w5 _ (H5.o.pick 2 rfl)) (fun bJ=>?_);(try simp only [ai]));(refine dQ 17 ?_;(try simp only [xG]);go_simp);refine (Ui ((H5.o.pick 4 rfl).perm ((List.Perm.swap _ _ _).cons _)) rfl HR.o HS.o HK.o yl.o c.part c.n c.no).mono ?_;rintro e w6 ⟨rfl,hx⟩;have HX:=af hx;obtain ⟨P',vO,hP,h6,hL,FX⟩:=hx;have H6:=af h6;clear h6 hP hL FX;try dsimp only
   (refine cu (HC.o w6 _ (H6.o.pick 3 rfl)) (fun bJ=>?_);(try simp only [ai]));(refine ah 18 ?_;(try simp only [ai]));(refine ah 19 ?_;(try simp only [ai]));refine dw (by kernel_rfl) ?_;clear bJ;go_wp2_with fail;go_ret2;rw [xd.o,Ci.o];exact ⟨rfl,HX.o.abv.qT.qT⟩
  have q1:(c.kind==1)=false:=by simpa using e1
  by_cases e2:c.kind=2
  ·have q2:(c.kind==2)=true:=by simpa using e2
   have xd:=af (sW.o.trans ((if_neg e0).trans ((if_neg e1).trans (if_pos e2))));have Ci:=af (AZ.o.trans ((if_neg e0).trans ((if_neg e1).trans (if_pos e2))));clear sW AZ e0 e1 e2;have HC:=af (fun (w':World) (l':List aI) (h':St w0 w' (row Y 58 c.cells::l'))=>show w'.cell? ⟨Y,1,none⟩=some (ae aa c.part)∧w'.cell? ⟨Y,2,none⟩=some (ae aa c.n)∧w'.cell? ⟨Y,4,none⟩=some (ae aa c.no)∧Y < w'.heap.size from ⟨h'.row.1.cell 1,h'.row.1.cell 2,h'.row.1.cell 4,h'.row.1.lt⟩);go_wp2_with fail;clear c0 c1 c2 c3 c4 c5 c6 lY;refine eb (fun w'=>w'.cell? ⟨Y,1,none⟩=some (ae aa c.part)∧w'.cell? ⟨Y,2,none⟩=some (ae aa c.n)∧w'.cell? ⟨Y,4,none⟩=some (ae aa c.no)∧Y < w'.heap.size) (by kernel_rfl) (HC.o w4.drew _ (H4.o.drew.pick 1 rfl)) (fun bJ=>?_);(refine ah 0 ?_;(try simp only [ai]));(refine ah 1 ?_;(try simp only [ai]));(refine ah 2 ?_;(try simp only [ai]));(refine ah 3 ?_;(try simp only [ai]));(refine ah 4 ?_;(try simp only [ai]));(refine ah 6 ?_;(try simp only [ai]));(refine ah 7 ?_;(try simp only [ai]));(refine ah 8 ?_;(try simp only [ai]));(refine ah 9 ?_;(try simp only [ai]));(refine ah 10 ?_;(try simp only [ai]));(refine dQ 5 ?_;(try simp only [xG]);go_simp);refine (Hx H4.o.drew fb.o c.part c.n).mono ?_;rintro e w5 ⟨rfl,h5⟩;have H5:=af h5;clear h5;try dsimp only
   (refine cu (HC.o w5 _ (H5.o.pick 1 rfl)) (fun bJ=>?_);(try simp only [ai]));(refine dQ 11 ?_;(try simp only [xG]);go_simp);refine (Uh (H5.o.pick 3 rfl) HR.o HS.o HK.o HTB.o c.part c.n).mono ?_;rintro e w6 ⟨rfl,hx⟩;have HX:=af hx;obtain ⟨P',vO,hP,h6,hL,FX⟩:=hx;have H6:=af h6;clear h6 hP hL FX;try dsimp only
   (refine cu (HC.o w6 _ (H6.o.pick 2 rfl)) (fun bJ=>?_);(try simp only [ai]));(refine ah 12 ?_;(try simp only [ai]));(refine ah 13 ?_;(try simp only [ai]));refine dw (by kernel_rfl) ?_;clear bJ;go_wp2_with fail;go_ret2;rw [xd.o,Ci.o];exact ⟨rfl,HX.o.qT.qT⟩
  have q2:(c.kind==2)=false:=by simpa using e2
  by_cases e3:c.kind=3
  ·have q3:(c.kind==3)=true:=by simpa using e3
   have xd:=af (sW.o.trans ((if_neg e0).trans ((if_neg e1).trans ((if_neg e2).trans (if_pos e3)))));have Ci:=af (AZ.o.trans ((if_neg e0).trans ((if_neg e1).trans ((if_neg e2).trans (if_pos e3)))));clear sW AZ e0 e1 e2 e3;have HC:=af (fun (w':World) (l':List aI) (h':St w0 w' (row Y 58 c.cells::l'))=>show w'.cell? ⟨Y,1,none⟩=some (ae aa c.part)∧w'.cell? ⟨Y,2,none⟩=some (ae aa c.n)∧w'.cell? ⟨Y,4,none⟩=some (ae aa c.no)∧Y < w'.heap.size from ⟨h'.row.1.cell 1,h'.row.1.cell 2,h'.row.1.cell 4,h'.row.1.lt⟩);go_wp2_with fail;clear c0 c1 c2 c3 c4 c5 c6 lY;refine eb (fun w'=>w'.cell? ⟨Y,1,none⟩=some (ae aa c.part)∧w'.cell? ⟨Y,2,none⟩=some (ae aa c.n)∧w'.cell? ⟨Y,4,none⟩=some (ae aa c.no)∧Y < w'.heap.size) (by kernel_rfl) (HC.o w4.drew _ (H4.o.drew.pick 1 rfl)) (fun bJ=>?_);(refine ah 0 ?_;(try simp only [ai]));(refine ah 1 ?_;(try simp only [ai]));(refine ah 2 ?_;(try simp only [ai]));(refine ah 3 ?_;(try simp only [ai]));(refine ah 4 ?_;(try simp only [ai]));(refine ah 6 ?_;(try simp only [ai]));(refine ah 7 ?_;(try simp only [ai]));(refine ah 8 ?_;(try simp only [ai]));(refine ah 9 ?_;(try simp only [ai]));(refine ah 10 ?_;(try simp only [ai]));(refine dQ 5 ?_;(try simp only [xG]);go_simp);refine (Wg H4.o.drew fb.o c.part c.n).mono ?_;rintro e w5 ⟨rfl,h5⟩;have H5:=af h5;clear h5;try dsimp only
   (refine cu (HC.o w5 _ (H5.o.pick 1 rfl)) (fun bJ=>?_);(try simp only [ai]));(refine dQ 11 ?_;(try simp only [xG]);go_simp);refine (Uj (H5.o.pick 3 rfl) rfl HR.o HK.o c.part c.n).mono ?_;rintro e w6 ⟨rfl,hx⟩;have HX:=af hx;obtain ⟨P',vO,hP,h6,hL,FX⟩:=hx;have H6:=af h6;clear h6 hP hL FX;try dsimp only
   (refine cu (HC.o w6 _ (H6.o.pick 2 rfl)) (fun bJ=>?_);(try simp only [ai]));(refine ah 12 ?_;(try simp only [ai]));(refine ah 13 ?_;(try simp only [ai]));refine dw (by kernel_rfl) ?_;clear bJ;go_wp2_with fail;go_ret2;rw [xd.o,Ci.o];exact ⟨rfl,HX.o.qT.qT⟩
  have q3:(c.kind==3)=false:=by simpa using e3
  by_cases e4:c.kind=4
  ·have q4:(c.kind==4)=true:=by simpa using e4
   have xd:=af (sW.o.trans ((if_neg e0).trans ((if_neg e1).trans ((if_neg e2).trans ((if_neg e3).trans (if_pos e4))))));have Ci:=af (AZ.o.trans ((if_neg e0).trans ((if_neg e1).trans ((if_neg e2).trans ((if_neg e3).trans (if_pos e4))))));clear sW AZ e0 e1 e2 e3 e4;go_wp2_with fail;refine (Ma H4.o fb.o c.part).mono ?_;rintro e w5 ⟨j,AJ,cJ,ej,rfl,hej,h5⟩;have HEJ:=af hej;have H5:=af (h5.drop);clear hej h5 c0 c1 c2 c3 c4 c5 c6 lY;obtain ⟨c0,c1,c2,c3,c4,c5,c6,lY⟩:=km (H5.o.pick 1 rfl).row.1;have HXB:=af (fun (w':World) (hb:Below w5.heap.size w5 w')=>Ul ((H5.o.below hb).pick 3 rfl) rfl HR.o HK.o c.part);obtain ⟨j0,j1,j2,j3,j4,j5,j6,jc⟩:=j;simp only [aq.val];generalize jc.length=j7;go_wp2_with fail;refine (HXB.o _ ((Below.refl _ w5).alloc (Nat.le_refl _) _)).mono ?_;rintro e w6 ⟨rfl,hx⟩;have HX:=af hx;clear hx;go_wp2_with fail;go_ret2;rw [xd.o,Ci.o,show (iY t m xs c.part).1.2=ej from (congrArg Prod.snd HEJ.o).symm];exact ⟨rfl,HX.o.qT.qT⟩
  have q4:(c.kind==4)=false:=by simpa using e4
  ·have xd:=af (sW.o.trans ((if_neg e0).trans ((if_neg e1).trans ((if_neg e2).trans ((if_neg e3).trans ((if_neg e4).trans (rfl)))))));have Ci:=af (AZ.o.trans ((if_neg e0).trans ((if_neg e1).trans ((if_neg e2).trans ((if_neg e3).trans ((if_neg e4).trans (rfl)))))));clear sW AZ e0 e1 e2 e3 e4;have HC:=af (fun (w':World) (l':List aI) (h':St w0 w' (row Y 58 c.cells::l'))=>show w'.cell? ⟨Y,1,none⟩=some (ae aa c.part)∧w'.cell? ⟨Y,2,none⟩=some (ae aa c.n)∧w'.cell? ⟨Y,4,none⟩=some (ae aa c.no)∧Y < w'.heap.size from ⟨h'.row.1.cell 1,h'.row.1.cell 2,h'.row.1.cell 4,h'.row.1.lt⟩);go_wp2_with fail;clear c0 c1 c2 c3 c4 c5 c6 lY;refine eb (fun w'=>w'.cell? ⟨Y,1,none⟩=some (ae aa c.part)∧w'.cell? ⟨Y,2,none⟩=some (ae aa c.n)∧w'.cell? ⟨Y,4,none⟩=some (ae aa c.no)∧Y < w'.heap.size) (by kernel_rfl) (HC.o w4.drew _ (H4.o.drew.pick 1 rfl)) (fun bJ=>?_);(refine ah 0 ?_;(try simp only [ai]));(refine ah 1 ?_;(try simp only [ai]));(refine ah 2 ?_;(try simp only [ai]));(refine ah 4 ?_;(try simp only [ai]));(refine ah 5 ?_;(try simp only [ai]));(refine ah 6 ?_;(try simp only [ai]));(refine dQ 3 ?_;(try simp only [xG]);go_simp);refine (Kv H4.o.drew fb.o c.part).mono ?_;rintro e w5 ⟨rfl,h5⟩;have H5:=af h5;clear h5;try dsimp only
   (refine cu (HC.o w5 _ (H5.o.pick 1 rfl)) (fun bJ=>?_);(try simp only [ai]));(refine dQ 7 ?_;(try simp only [xG]);go_simp);refine (MT (H5.o.pick 3 rfl) rfl HR.o HK.o c.part).mono ?_;rintro e w6 ⟨rfl,hx⟩;have HX:=af hx;obtain ⟨P',vO,hP,h6,hL,FX⟩:=hx;have H6:=af h6;clear h6 hP hL FX;try dsimp only
   (refine cu (HC.o w6 _ (H6.o.pick 2 rfl)) (fun bJ=>?_);(try simp only [ai]));(refine ah 8 ?_;(try simp only [ai]));(refine ah 9 ?_;(try simp only [ai]));refine dw (by kernel_rfl) ?_;clear bJ;go_wp2_with fail;go_ret2;rw [xd.o,Ci.o];exact ⟨rfl,HX.o.qT.qT⟩
end
section
variable {w0 w : World} {l : List aI} {X X2 : Nat} {tv : List Value} {v v2 : Value} {P P0 : List (Nat × List Value)} {ys zs : List (dv × RP)} {p : Nat}
theorem iK.same (h:iK w0 P ys) (hk:J5 zs ys) (hm:zs.map (·.2)=ys.map (·.2)):iK w0 P zs:=by
 intro z hz;obtain ⟨i,hi,rfl⟩:=List.getElem_of_mem hz;have hl:zs.length=ys.length:=by have:=congrArg List.length hm;simpa using this
 have BU:i < ys.length:=by omega
 obtain ⟨k0,k1⟩:=hk i hi BU
 have hx:zs[i].2=ys[i].2:=by
  have h1:(zs.map (·.2))[i]?=(ys.map (·.2))[i]?:=by rw [hm]
  simpa [hi,BU] using h1
 rw [k0,k1,hx];exact h _ (List.getElem_mem BU)
theorem iK.mono {P':List (Nat×List Value)} (h:iK w0 P ys) (hp:∀x∈P,x∈P'):iK w0 P' ys:=fun y hy=>⟨(h y hy).1.mono hp,(h y hy).2.mono hp⟩
theorem iK.put (h:iK w0 P zs) {y:dv×RP} (hy:wV w0 P y.1.K0 y.2.i0∧wV w0 P y.1.K1 y.2.i1) (p:Nat):iK w0 P (zs.set p y):=by
 intro z hz;rcases List.mem_or_eq_of_mem_set hz with h2|rfl
 ·exact h z h2
 ·exact hy
end
section
variable {w : World} {t : aY} {p : Nat} {L0 : List RP} {P0 : List (Nat × List Value)} {m : DS} {xs : List PP} {P : List (Nat × List Value)} {ys : List (dv × RP)}
end
def Zw (ad:fy) (t:aY) (d:Nat) (xs:List PP):aI:=du [row ad.S 114 (uZ ad t xs.length),own 94 1 (.slice ad.AL xs.length ad.cL) xs.length (nt ad.al),Dj ad.bN t,du (fT d ad.al xs),fact (ad.al.length=xs.length)]
section
variable {w0 w : World} {l : List aI} {ad : fy} {t : aY} {d : Nat} {m : DS} {xs : List PP}
theorem Bt (h:St w0 w (aZ ad t d m xs::l)):St w0 w (bE d m::Zw ad t d xs::l):=by
 obtain ⟨h1,h2⟩:=Bq h;have h3:=(h1.pick 3 rfl).addFact h2;have h4:=(((((h3.pick 5 rfl).pick 5 rfl).pick 5 rfl).pick 5 rfl))
 exact (St.eJ (L:=[_,_,_,_,_]) h4).swap
theorem UE (h:St w0 w (bE d m::Zw ad t d xs::l)):St w0 w (aZ ad t d m xs::l):=by
 have h1:=h.swap.fI;simp only [List.cons_append,List.nil_append] at h1;have hl:=(h1.pick 4 rfl).fact;have h2:=(h1.pick 4 rfl).drop;exact Bu rfl (((((h2.pick 3 rfl).pick 4 rfl).pick 4 rfl).pick 4 rfl).pick 4 rfl) hl
end
section
variable {MA:aI} {D E:List DP} {tv:List Value} {a:dF} {mp:Value}
theorem Q8 {L:List dU} (jL:∀a∈L,pZ a.n∧pZ a.no∧0≤a.keep∧a.keep≤18446744073709551615):∀a∈iF L,pZ a.no∧0≤a.keep∧a.keep≤18446744073709551615:=by
 intro a ha;obtain ⟨x,hx,h⟩:=List.mem_flatten.1 ha;obtain ⟨b,hb,rfl⟩:=List.mem_map.1 hx;have hb:=(jL b hb).2;unfold na sy at h;split at h
 ·simp only [List.mem_append,List.mem_cons,List.mem_map,List.not_mem_nil,or_false,List.mem_range] at h;rcases h with (rfl|⟨no,hn,rfl⟩)|rfl
  ·exact hb
  ·exact ⟨⟨by show -9223372036854775808≤(no:Int);omega,by show (no:Int)≤9223372036854775807;omega⟩,hb.2⟩
  ·exact hb
 ·simp only [List.mem_cons,List.not_mem_nil,or_false] at h;rw [h];exact hb
section
variable {w0 w : World} {l : List aI} {X : Nat} {tv : List Value} {v : Value} {P P' : List (Nat × List Value)} {ys zs : List (dv × RP)}
def half (X:Nat) (tv:List Value) (v:Value) (P:List (Nat×List Value)) (ys:List (dv×RP)):aI:=du [row X 68 (tv++[v]),own 65 8 v ys.length (dG ys),dY P ys]
theorem Oe (h:St w0 w (row X 68 (tv++[v])::own 65 8 v ys.length (dG ys)::dY P ys::l)):St w0 w (half X tv v P ys::l):=St.eJ (L:=[_,_,_]) h
theorem CU (h:St w0 w (bK X tv v P ys::l)):St w0 w (eG P::half X tv v P ys::l):=by
 have h1:=(((et h).pick 3 rfl).pick 2 rfl).pick 2 rfl;exact (Oe h1).swap
theorem CQ (hp:∀x∈P',x∈P) (h:St w0 w (eG P::half X tv v P' ys::l)):St w0 w (bK X tv v P ys::l):=by
 have h1:St w0 w (row X 68 (tv++[v])::own 65 8 v ys.length (dG ys)::dY P' ys::eG P::l):=h.swap.fI;exact rF ((((tM hp (h1.pick 2 rfl)).pick 3 rfl).pick 3 rfl).pick 3 rfl)
end
structure rU (w:World) (t:aY) (P:List (Nat×List Value)) (ys:List (dv×RP)):Prop where
 Be:jI t (ys.map (·.2))
 NH:iK w P ys
 len:ys.length=t.parts.length
 rs:∀p,p < ys.length→∀k,Ch (((bw (ys.map (·.2))).getD p default).slot k)
theorem rU.mono {w:World} {t:aY} {P P':List (Nat×List Value)} {ys:List (dv×RP)} (h:rU w t P ys) (hp:∀x∈P,x∈P'):rU w t P' ys:=⟨h.Be,h.NH.mono hp,h.len,h.rs⟩
theorem ZE {m:DS} {xs:List PP} (h:dh m xs D) {p:Nat} (hp:p < D.length) (k:Int):Ch ((D.getD p default).slot k):=by
 have hu:=h.parts p (by rw [←h.len];exact hp)
 have one:∀{j:Int} {s:cy} {R:RS},SI m p j s R Option.none→Ch R:=fun {j s R} hs=>by
  refine ⟨fun hh=>?_,x9.abz hs.mem,by rw [←hs.Cc h.lit.on];exact Ap h.lit.eQ _ _ _⟩;have h1:s.has=true:=hs.mem.has.trans hh;rw [←hs.mem.st];exact hs.right h1
 unfold DP.slot;split
 ·exact one (hu.si (.inl rfl))
 ·exact one (hu.si (.inr rfl))
section
variable {w0 w : World} {l : List aI} {t : aY} {m : DS} {xs : List PP} {P P' : List (Nat × List Value)} {ys zs : List (dv × RP)}
theorem Wh (p:Nat) (hp:p < ys.length) (k:Int):((bw (ys.map (·.2))).getD p default).slot k=ys[p].2.slot k:=by rw [JT hp];rfl
theorem rU.rss (h:rU w t P ys):∀y∈ys,∀k:Int,Ch (y.2.slot k):=by
 intro y hy k;obtain ⟨i,hi,rfl⟩:=List.getElem_of_mem hy;have:=h.rs i hi k
 rwa [Wh i hi] at this
theorem Ho (h:jI t (ys.map (·.2))):∀y∈ys,y.2.aw.right=true:=by
 intro y hy;obtain ⟨i,hi,rfl⟩:=List.getElem_of_mem hy;have:=(h i (by simpa using hi)).right
 rwa [rW hi] at this
theorem rU.fin (hx:jI t (ys.map (·.2))) (hk:iK w P ys) (hl:ys.length=t.parts.length) (h:dh m xs (bw (ys.map (·.2)))):rU w t P ys:=⟨hx,hk,hl,fun p hp k=>ZE h (by rw [vN];exact hp) k⟩
theorem rU.ZY (h:rU w t P ys) (hx:jI t (zs.map (·.2))) (hk:iK w P' zs) (he:bw (zs.map (·.2))=bw (ys.map (·.2))):rU w t P' zs:=by
 have hl:zs.length=ys.length:=by have:=congrArg List.length he;rwa [vN,vN] at this
 exact ⟨hx,hk,hl.trans h.len,fun p hp k=>by rw [he];exact h.rs p (by omega) k⟩
theorem iK.lens (h:iK w P ys):∀p,p < ys.length→∀k:Int,(((ys.map fun y:dv×RP=>y.2).getD p default).ee k).code.length≤1000000:=fun p hp k=>by
 rw [rW hp];obtain ⟨h0,h1⟩:=h _ (List.getElem_mem hp);unfold RP.ee;split
 ·exact h0.1
 ·exact h1.1
theorem Eh {ad:fy} {d X:Nat} {v:Value} {L:List RP} (h:St w0 w (aZ ad t d m xs::bK X tv v P zs::l)) (hr:t.right=true) (il:tv.length=5) (hm:m.ar.length=10*t.parts.length) (hf:dh m xs (bw L)) (hx:jI t L) (hl:L.length=t.parts.length) (hc:∀p,p < L.length→∀k:Int,((L.getD p default).ee k).code.length≤1000000) (hzx:jI t (zs.map (·.2))) (hzk:iK w0 P zs) (nO:zs.length=t.parts.length) :
  Calls Tryz.prog 24 #[.pointer (some ⟨ad.S,0,none⟩),.pointer (some ⟨X,0,none⟩)] w fun e w'=>∃b,e=.returned (.bool b)∧St w0 w' (aZ ad t d m xs::bK X tv v P zs::l)∧(L=zs.map (·.2)→b=true)∧(b=true→Alike (bw L) (bw (zs.map (·.2)))):=by
 have xl:xs.length=t.parts.length:=by rw [←hf.len,rR,hl]
 have at_:∀p,p < L.length→(jA t (bw L) p).2=0∧(jA t (bw L) p).1.code.length≤1000000:=fun p hp=>by
  obtain ⟨h1,h2,_⟩:=hx.same hp;exact ⟨h1,by rw [h2];exact hc p hp _⟩
 refine (zH (D:=bw L) ⟨h,hf,xl,by rw [xl,hm];exact Nat.le_refl _,hr⟩ il (by rw [nO,xl]) (Ho hzx) (fun w2 l2 h2 y hy k=>hzk.read (et (h2.pick 1 rfl) |>.pick 2 rfl) hy k) (fun p hp=>at_ p (by rw [hl,←nO];exact hp))).mono fun e w2 hO=>Exists.elim hO fun b ⟨h1,h2,h3,h4⟩=>⟨b,h1,h2.st,fun hL=>h3 fun p hp=>?_,fun hb p hp=>?_⟩
 ·have h5:=hx.same (p:=p) (by rw [hl,←nO];exact hp);subst hL
  rwa [rW hp] at h5
 ·have hpz:p < zs.length:=by rw [rR,hl] at hp;rw [nO];exact hp
  have eE:¬((p:Int) < 0∨((bw L).length:Int)≤p):=by omega
  obtain ⟨q1,q2,q3⟩:=h4 hb p hpz;unfold lW at q1;unfold nE at q2 q3;rw [if_neg eE,dC] at q1 q2 q3;rw [JT hpz];have wI:((bw L).getD p default).sp=zs[p].2.dp.sp:=by unfold DP.sp;rw [q1];rfl
  have gm:zs[p].2.dp.slot zs[p].2.dp.sp=zs[p].2.sp:=rfl;refine ⟨q1,?_⟩;simp only [];rw [←wI] at gm ⊢;rw [gm];refine ⟨q2,fun h=>?_⟩;have h6:=q3 (q2.trans h);unfold E3 at h6;rw [if_pos (q2.trans h)] at h6;exact h6
inductive ll (w:World) (t:aY) (tv:List Value) (m:DS) (xs:List PP) (P:List (Nat×List Value)) (ys:List (dv×RP)):Value→aI→Prop
 | lit (h:dh m xs (bw (ys.map (·.2)))):ll w t tv m xs P ys (.pointer none) (fact True)
 | fell (M:Nat) (vM:Value) (PM:List (Nat×List Value)) (zs:List (dv×RP)) (h:mJ t m xs (bw (ys.map (·.2))) (bw (zs.map (·.2)))) (hz:jI t (zs.map (·.2))∧iK w PM zs∧zs.length=t.parts.length) (hP:∀x∈PM,x∈P):ll w t tv m xs P ys (.pointer (some ⟨M,0,none⟩)) (half M tv vM PM zs)
theorem ll.Zk (h:ll w t tv m xs P ys mp MA) (hx:rU w t P ys):xs.length=t.parts.length:=by
 cases h with
 | lit h=>rw [←h.len,vN,hx.len]
 | fell M vM PM zs h hz hP=>rw [←h.len,vN,hx.len]
theorem ll.Hy {tv:List Value} {mp:Value} {MA:aI} (h:ll w t tv m xs P ys mp MA) (hx:rU w t P ys) (hr:t.right=true) (hm:m.ar.length=10*t.parts.length):iJ t m xs:=by
 have xl:=h.Zk hx;cases h with
 | lit h=>exact h.Hy hr xl (by rw [xl,hm];exact Nat.le_refl _)
 | fell M vM PM zs h hz hP=>exact h.ok
theorem ll.act (hs:ll w t tv m xs P ys mp MA) (hx:rU w t P ys) (hr:t.right=true) (hm:m.ar.length=10*t.parts.length) {js:List aq} (hb:∀i,bn (fo js i).code) (q:dU) {jW:List (dv×RP)} (rO:jW.map (·.2)=(pB t (ys.map (·.2)) js q).2) {P2:List (Nat×List Value)} (DF:∀x∈P,x∈P2) (zh:iK w P2 jW) (X2:Nat) (v2:Value) :
  (oD t m xs js q).2.1.ar.length=10*t.parts.length∧(((oD t m xs js q).1=(pB t (ys.map (·.2)) js q).1∧(oD t m xs js q).1≠8∧ll w t tv (oD t m xs js q).2.1 (oD t m xs js q).2.2 P2 jW mp MA∧rU w t P2 jW)∨
   ((oD t m xs js q).1=8∧¬((pB t (ys.map (·.2)) js q).1=0∧mp=.pointer none)∧ll w t tv (oD t m xs js q).2.1 (oD t m xs js q).2.2 P2 ys mp MA)∨
   ((oD t m xs js q).1=8∧(pB t (ys.map (·.2)) js q).1=0∧mp=.pointer none∧ll w t tv (oD t m xs js q).2.1 (oD t m xs js q).2.2 P2 ys (.pointer (some ⟨X2,0,none⟩)) (half X2 tv v2 P2 jW))):=by
 have hk:=hs.Hy hx hr hm;have uc:jI t (jW.map (·.2)):=by rw [rO];exact Zl hx.Be q
 have uN:jW.length=t.parts.length:=by
  have:=congrArg List.length rO;rw [Xx,iB,iB] at this;rw [this,hx.len]
 cases hs with
 | lit h =>
   cases Zi h hk hx.Be hb q with
   | same h1 h2 h3 h4 =>
     refine ⟨h4.trans hm,?_⟩;by_cases e8:(oD t m xs js q).1=8
     ·refine .inr (.inl ⟨e8,fun ⟨h,_⟩=>?_,.lit (by have:=h2 e8;simp only at this;rw [←this];exact h3)⟩);have:(oD t m xs js q).1=(pB t (ys.map (·.2)) js q).1:=h1;omega
     ·exact .inl ⟨h1,e8,.lit (by rw [rO];exact h3),.fin uc zh uN (by rw [rO];exact h3)⟩
   | fell h1 h2 h3 h4 h5 =>
     exact ⟨h5.trans hm,.inr (.inr ⟨h1,h2,rfl,by rw [h3];exact .fell X2 v2 P2 jW (by rw [rO];exact h4) ⟨uc,zh,uN⟩ fun _ h=>h⟩)⟩
 | fell M vM PM zs h hz hP =>
   have idle:ll w t tv m xs P2 ys (.pointer (some ⟨M,0,none⟩)) (half M tv vM PM zs):=.fell M vM PM zs h hz fun x hx=>DF x (hP x hx);rcases Wy h hx.Be q with e|⟨e,e2⟩
   ·rw [e];exact ⟨hm,.inr (.inl ⟨rfl,fun ⟨_,h⟩=>by simp at h,idle⟩)⟩
   ·rw [e];refine ⟨hm,?_⟩;by_cases e8:(pB t (ys.map (·.2)) js q).1=8
    ·exact .inr (.inl ⟨e8,fun ⟨_,h⟩=>by simp at h,idle⟩)
    ·exact .inl ⟨rfl,e8,.fell M vM PM zs (by rw [rO];simp only at e2;rw [e2];exact h) hz fun x hx=>DF x (hP x hx),hx.ZY uc zh (by rw [rO];exact e2)⟩
variable {ad : fy} {d X X2 : Nat} {tv : List Value} {v v2 : Value}
theorem Ts (h:St w0 w (row X2 68 (tv++[v2])::own 65 8 v2 zs.length (dG zs)::dY P zs::bK X tv v P ys::l)):St w0 w (bK X2 tv v2 P zs::half X tv v P ys::l) :=
 CQ (fun _ h=>h) ((CU (Oe h).swap).pick 2 rfl).swap
theorem Hv {PM:List (Nat×List Value)} (hP:∀x∈PM,x∈P) (h:St w0 w (bK X tv v P ys::half X2 tv v2 PM zs::l)):St w0 w (bK X2 tv v2 P zs::half X tv v P ys::l) :=
 CQ hP ((CU h).pick 2 rfl).swap
section
variable {B C Z MA : aI} {P2 : List (Nat × List Value)} {jW : List (dv × RP)}
theorem Zb (h:St w0 w (bK X2 tv v2 P2 jW::aZ ad t d m xs::half X tv v P ys::B::C::MA::[Z])):St w0 w (aZ ad t d m xs::bK X2 tv v2 P2 jW::C::MA::[Z]):=((h.pick 2 rfl).drop.pick 2 rfl).drop.swap
theorem Jr (hP:∀x∈P,x∈P2) (h:St w0 w (bK X2 tv v2 P2 jW::aZ ad t d m xs::half X tv v P ys::B::C::MA::[Z])):St w0 w (aZ ad t d m xs::bK X tv v P2 ys::C::MA::[Z]) :=
 ((CQ hP ((((CU h).pick 1 rfl).drop.pick 2 rfl).swap)).pick 2 rfl).drop.swap
theorem QA (hP:∀x∈P,x∈P2) (h:St w0 w (bK X2 tv v2 P2 jW::aZ ad t d m xs::half X tv v P ys::B::C::MA::[Z])):St w0 w (aZ ad t d m xs::bK X tv v P2 ys::C::half X2 tv v2 P2 jW::[Z]):=by
 have h1:=(((CU h).pick 6 rfl).drop.pick 4 rfl).drop;have h2:=CQ hP ((h1.pick 3 rfl).swap);exact (((h2.pick 1 rfl).pick 3 rfl).pick 2 rfl).pick 3 rfl
end
theorem oc (h:St w0 w (aZ ad t d m xs::l)) {b:Bool} (hb:m.down=b):Calls Tryz.prog 40 #[.pointer (some ⟨d,0,none⟩)] w fun e w'=>e=.returned (.bool b)∧w'=w:=by
 subst hb;exact Wf (Bt h)
theorem UF (h:St w0 w (aZ ad t d m xs::l)) (n:Int) (hn:n≤9223372036854775807):Calls Tryz.prog 39 #[.pointer (some ⟨d,0,none⟩),ae aa n] w fun e w'=>e=.returned (.tuple #[])∧St w0 w' (aZ ad t d (m.eV n) xs::l) :=
 (We (Bt h) n hn).mono fun e w' ⟨h1,h2⟩=>⟨h1,UE h2⟩
theorem Q6 (h:St w0 w (aZ ad t d m xs::l)) (hk:iJ t m xs) (keep:Int) (mM:0≤keep∧keep≤18446744073709551615):Calls Tryz.prog 32 #[.pointer (some ⟨d,0,none⟩),.int .u64 keep] w fun e w'=>e=.returned (.tuple #[])∧St w0 w' (bE d (m.bZ keep)::l) :=
 (Tm (Bt h) keep mM.1 mM.2 (by have:=hk.pR;omega)).mono fun e w' ⟨h1,h2⟩=>⟨h1,(h2.pick 1 rfl).drop⟩
theorem rL (h:St w0 w (bE d m::l)) (hu:cE m xs D) (hd:vy t D) (ht:ko w a t) (hr:t.right=true) (hl:xs.length=t.parts.length) (hm:m.ar.length=10*t.parts.length) :
  Calls Tryz.prog 25 #[.pointer (some ⟨d,0,none⟩),a.val t] w fun e w'=>∃ad:fy,e=.returned (.tuple #[.pointer (some ⟨ad.S,0,none⟩),ae aa 0])∧St w0 w' (aZ ad t d m xs::l) :=
 (ZQ h hu ht hr hl (by rw [hl,hm];exact Nat.le_refl _) hd).mono fun e w' ⟨ad,h1,h2⟩=>⟨ad,h1,h2.st⟩
theorem Yk {Q:Prop} (h:St w0 w (bE d m::l)) (hu:(cE m xs D∧Q)∨cE m xs E) (hd:vy t D) (he:vy t E) (ht:ko w a t) (hr:t.right=true) (hl:xs.length=t.parts.length) (hm:m.ar.length=10*t.parts.length) :
  Calls Tryz.prog 25 #[.pointer (some ⟨d,0,none⟩),a.val t] w fun e w'=>∃ad:fy,e=.returned (.tuple #[.pointer (some ⟨ad.S,0,none⟩),ae aa 0])∧St w0 w' (aZ ad t d m xs::l) :=
 hu.elim (fun hu=>rL h hu.1 hd ht hr hl hm) fun hu=>rL h hu he ht hr hl hm
theorem aaS {Q:Prop} (hu:(cE m xs D∧Q)∨cE m xs E):(dh m xs D∧Q)∨dh m xs E:=hu.imp (fun h=>⟨h.1.fin,h.2⟩) fun h=>h.fin
theorem vB (h:St w0 w (aZ ad t d m xs::bK X tv v P ys::l)) (hr:t.right=true) (il:tv.length=5) (hm:m.ar.length=10*t.parts.length) (hf:dh m xs (bw (ys.map (·.2)))) (hx:rU w0 t P ys) :
  Calls Tryz.prog 24 #[.pointer (some ⟨ad.S,0,none⟩),.pointer (some ⟨X,0,none⟩)] w fun e w'=>e=.returned (.bool true)∧St w0 w' (aZ ad t d m xs::bK X tv v P ys::l) :=
 (Eh h hr il hm hf hx.Be (by rw [iB];exact hx.len) (by rw [iB];exact hx.NH.lens) hx.Be hx.NH hx.len).mono fun e w' ⟨b,h1,h2,h3,_⟩=>⟨by rw [h1,h3 rfl],h2⟩
theorem Pb (h:St w0 w (aZ ad t d m xs::bK X2 tv v2 P zs::l)) (hr:t.right=true) (il:tv.length=5) (hm:m.ar.length=10*t.parts.length)
  (hf:(dh m xs (bw (ys.map (·.2)))∧(Alike (bw (ys.map (·.2))) (bw (zs.map (·.2)))→bw (ys.map (·.2))=bw (zs.map (·.2))))∨dh m xs (bw (zs.map (·.2)))) (hx:rU w0 t P ys) (hz:jI t (zs.map (·.2))∧iK w0 P zs∧zs.length=t.parts.length) :
  Calls Tryz.prog 24 #[.pointer (some ⟨ad.S,0,none⟩),.pointer (some ⟨X2,0,none⟩)] w fun e w'=>∃b,e=.returned (.bool b)∧St w0 w' (aZ ad t d m xs::bK X2 tv v2 P zs::l)∧(b=true→dh m xs (bw (zs.map (·.2))))∧(b=false→dh m xs (bw (ys.map (·.2)))):=by
 obtain ⟨z1,z2,z3⟩:=hz;rcases hf with ⟨hf,ha⟩|hf
 ·exact (Eh h hr il hm hf hx.Be (by rw [iB];exact hx.len) (by rw [iB];exact hx.NH.lens) z1 z2 z3).mono fun e w' ⟨b,h1,h2,_,h4⟩=>⟨b,h1,h2,fun hb=>by rw [←ha (h4 hb)];exact hf,fun _=>hf⟩
 ·exact (Eh h hr il hm hf z1 (by rw [iB];exact z3) (by rw [iB];exact z2.lens) z1 z2 z3).mono fun e w' ⟨b,h1,h2,h3,_⟩=>⟨b,h1,h2,fun _=>hf,fun hb=>by rw [h3 rfl] at hb;cases hb⟩
theorem Tb (m:DS) (n:Int):(m.eV n).ar.length=m.ar.length:=by unfold DS.eV;split<;>rfl
section
variable {C Z B : aI} {PM : List (Nat × List Value)}
theorem UB (hP:∀x∈PM,x∈P) (h:St w0 w (aZ ad t d m xs::bK X tv v P ys::B::C::half X2 tv v2 PM zs::[Z])):St w0 w (aZ ad t d m xs::bK X2 tv v2 P zs::half X tv v P ys::C::[Z]) :=
 (Hv hP (((h.pick 2 rfl).drop.pick 3 rfl).pick 2 rfl)).pick 2 rfl
theorem I0 (h:St w0 w (aZ ad t d m xs::bK X2 tv v2 P zs::half X tv v P ys::C::[Z])):St w0 w (aZ ad t d m xs::bK X2 tv v2 P zs::C::fact True::[Z]) :=
 (((((h.pick 2 rfl).drop.addFact trivial).pick 3 rfl).pick 3 rfl).pick 3 rfl)
theorem YX (h:St w0 w (aZ ad t d m xs::bK X2 tv v2 P zs::half X tv v P ys::C::[Z])):St w0 w (aZ ad t d m xs::bK X tv v P ys::C::fact True::[Z]) :=
 I0 (((Hv (fun _ h=>h) (((h.pick 1 rfl).pick 2 rfl).swap)).pick 2 rfl))
end
end
end
theorem Wx:(Tryz.prog.info? 58).map (fun i=>(i.zero,i.size,i.bytes))=some (some (.agg #[ae aa 0,ae aa 0,ae aa 0,ae aa 0,ae aa 0,.bool false,.int .u64 0]),7,56):=by kernel_rfl
theorem O5:qP Tryz.prog 50 58 7 56:=by
 obtain ⟨i0,hi,kJ,ny,gm⟩:=info_parts Wx;exact ⟨Tryz.underlying50,⟨i0,_,hi,kJ,ny,gm,rfl⟩,by decide⟩
section
variable {w0 w : World} {l : List aI}
theorem Eb (h:St w0 w l) (y0 y1 y2 y3 y4 y5:Value) (a:dU) :
  Calls Tryz.prog 58 #[.agg #[y0,y1,y2,y3,y4,y5],.agg #[ae aa a.kind,ae aa a.part,ae aa a.n,ae aa a.i,ae aa a.no,.bool a.dL,.int .u64 a.keep]] w fun e w'=>∃v,e=.returned v∧St w0 w' (own 58 7 v (na a).length (jR (na a))::l):=by
 obtain ⟨Z,hZ⟩:=xE w.heap.size;obtain ⟨Y,hY⟩:=xE (Z+1);obtain ⟨w1,aF⟩:∃w1,w1=(w.alloc (.cells #[y0,y1,y2,y3,y4,y5] 49)).alloc (.cells #[ae aa a.kind,ae aa a.part,ae aa a.n,ae aa a.i,ae aa a.no,.bool a.dL,.int .u64 a.keep] 58):=⟨_,rfl⟩
 have H1:=af (show St w0 w1 (row Y 58 a.cells::l) by
  have h3:=((h.new 49 #[y0,y1,y2,y3,y4,y5]).new 58 a.cells.toArray)
  rw [World.size_alloc,←hZ,←hY] at h3;rw [aF]
  exact (h3.pick 1 rfl).drop)
 have br:=af aF;have HZ:=af hZ;have HY:=af hY;clear h aF hY hZ;obtain ⟨c0,c1,c2,c3,c4,c5,c6,lY⟩:=km H1.o.row.1;have f0:=H1.o.row.1.frozen 0;by_cases h8:a.kind=8
 case neg =>
  have k8:(a.kind != 8)=true:=by simpa using h8
  have HE:=af (show na a=[a] from if_neg h8);clear h8;go_enter Tryz.func58,Tryz.ntmps58;go_upto_region 1 with fail;rw [←HZ.o,←HY.o,←br.o];go_wp2_with fail;go_ret;refine ⟨_,rfl,?_⟩;rw [HE.o];exact ((H1.o.new 58 a.cells.toArray).mE (size:=7) (n:=1) (cap:=1) (by omega) (by unfold maxLen;omega) rfl).swap.drop
 case pos =>
  have k8:(a.kind != 8)=false:=by simpa using h8
  have HE:=af (show na a=sy a 10++[{ a with kind:=2 }] from if_pos h8);obtain ⟨w2,eh⟩:=xE (w1.setCell ⟨Y,0,none⟩ (ae aa 0));have H2:=af (show St w0 w2 (row Y 58 { a with kind:=0:dU }.cells::l) by rw [eh];exact H1.o.set 0 _);have jf:=af eh;clear h8 eh;go_enter Tryz.func58,Tryz.ntmps58;go_upto_region 1 with fail;rw [←HZ.o,←HY.o,←br.o];go_upto_region 4 with fail;rw [←jf.o];clear c0 c1 c2 c3 c4 c5 c6 lY f0;obtain ⟨c0,c1,c2,c3,c4,c5,c6,lY⟩:=km H2.o.row.1;have H3:=af (((H2.o.new 58 { a with kind:=0:dU }.cells.toArray).mE (size:=7) (n:=1) (cap:=1) (by omega) (by unfold maxLen;omega) rfl));go_upto_region 5 with fail;clear c0 c1 c2 c3 c4 c5 c6 lY;go_wp2_with fail;go_loopw [5,16] (fun s x wr=>∃k:Nat,k≤10∧x=ae aa (k:Int)∧St w0 wr (own 58 7 s (1+k) (jR (sy a k))::row Y 58 { a with kind:=0:dU }.cells::l)) (fun _ x _=>10-(intOf x).toNat)
  case atStart=>exact ⟨0,by omega,rfl,H3.o⟩
  case round =>
   obtain ⟨k,hk,rfl,ak⟩:=hrel;obtain ⟨c0,c1,c2,c3,c4,c5,c6,lY⟩:=km (ak.pick 1 rfl).row.1;have bH:=af ak;clear ak H3 H2;by_cases aH:k < 10
   ·have k1:(k:Int) < 10:=by omega
    have Mt:=af (show sy a (k+1)=sy a k++[{ a with kind:=1,no:=(k:Int) }] by simp [sy,List.range_succ]);obtain ⟨D,hD⟩:=xE wr.heap.size;obtain ⟨w5,eD⟩:=xE (wr.alloc (.cells #[ae aa 1,ae aa a.part,ae aa a.n,ae aa a.i,ae aa (k:Int),.bool a.dL,.int .u64 a.keep] 58));have h5:=bH.o.new 58 { a with kind:=1,no:=(k:Int):dU }.cells.toArray;rw [←hD,show wr.alloc (.cells { a with kind:=1,no:=(k:Int):dU }.cells.toArray 58)=w5 from eD.symm] at h5;have QG:=af h5.swap;have sO:=af eD;have HD:=af hD;go_upto_region 10 with fail;rw [←sO.o,←HD.o];clear c0 c1 c2 c3 c4 c5 c6 lY eD hD h5;obtain ⟨c0,c1,c2,c3,c4,c5,c6,lY⟩:=km (QG.o.pick 1 rfl).row.1;go_wp2_with (refine Ce O5 rfl (.tmp 23) (.tmp 25) rfl QG.o rfl (m:=1) { a with kind:=1,no:=(k:Int):dU }.cells rfl (by simp [Value.oneCell',dU.cells]) rfl (by omega) (by omega) (by unfold maxLen;omega) ?_;rintro g5 c5 w5 h5;have H5:=af h5;clear h5);go_roundw
    case rel =>
     refine ⟨k+1,by omega,by go_num,?_⟩;rw [Mt.o,Aq];exact H5.o.swap.drop
    case measure=>simp [intOf];omega
   ·obtain rfl:k=10:=by omega
    obtain ⟨w4,dW⟩:=xE (wr.setCell ⟨Y,0,none⟩ (ae aa 2));have H4:=af (show St w0 w4 (own 58 7 _ 11 (jR (sy a 10))::row Y 58 { a with kind:=2:dU }.cells::l) by rw [dW];exact ((bH.o.pick 1 rfl).set 0 _).swap);have kL:=af dW;have f0:=(bH.o.pick 1 rfl).row.1.frozen 0;clear dW;go_upto_region 13 with fail;rw [←kL.o];clear c0 c1 c2 c3 c4 c5 c6 lY f0;obtain ⟨c0,c1,c2,c3,c4,c5,c6,lY⟩:=km (H4.o.pick 1 rfl).row.1;go_wp2_with (refine Ce O5 rfl (.tmp 29) (.tmp 31) rfl H4.o rfl (m:=1) { a with kind:=2:dU }.cells rfl (by simp [Value.oneCell',dU.cells]) rfl (by omega) (by omega) (by unfold maxLen;omega) ?_;rintro g5 c5 w5 h5;have H5:=af h5;clear h5);go_ret;refine ⟨_,rfl,?_⟩;rw [HE.o,Aq];exact H5.o.swap.drop
theorem xw (h:St w0 w l) (y0 y1 y2 y3 y4 y5:Value) {L:List dU} {B:aI} {A:Option Addr} {c:Nat} (hs:∀w' l',St w0 w' (B::l')→Sl w' w'.heap.size 7 A L.length (jR L)) (hl:L.length≤40) (hB:∃l',l=B::l') :
  Calls Tryz.prog 22 #[.agg #[y0,y1,y2,y3,y4,y5],.slice A L.length c] w fun e w'=>∃v,e=.returned v∧St w0 w' (own 58 7 v (iF L).length (jR (iF L))::l):=by
 obtain ⟨l0,rfl⟩:=hB;obtain ⟨Z,hZ⟩:=xE w.heap.size;obtain ⟨w1,aF⟩:=xE (w.alloc (.cells #[y0,y1,y2,y3,y4,y5] 49))
 have H1:=af (show St w0 w1 (own 58 7 (.slice none 0 0) 0 []::row Z 49 [y0,y1,y2,y3,y4,y5]::B::l0) by
  have h3:=h.new 49 #[y0,y1,y2,y3,y4,y5];rw [←hZ,←aF] at h3
  exact h3.cX (Below.refl _ _) ⟨rfl,.inl ⟨rfl,rfl⟩⟩)
 have br:=af aF;have HZ:=af hZ;have HS:=af hs;clear h aF hZ hs;go_enter Tryz.func22,Tryz.ntmps22;go_upto_region 1 with fail;rw [←HZ.o,←br.o];obtain ⟨n,hn⟩:=xE L.length;rw [←hn];have HN:=af hn;have adV:n≤40:=by omega
 clear hn hl;go_wp2_with fail;go_loopw [5,10] (fun s x wr=>∃k:Nat,k≤n∧x=ae aa (k:Int)∧St w0 wr (own 58 7 s (iF (L.take k)).length (jR (iF (L.take k)))::row Z 49 [y0,y1,y2,y3,y4,y5]::B::l0)) (fun _ x _=>n-(intOf x).toNat)
 case atStart=>exact ⟨0,by omega,rfl,H1.o⟩
 case round =>
  obtain ⟨k,hk,rfl,ak⟩:=hrel;have bH:=af ak;clear ak H1;by_cases aH:k < n
  ·have Lp:k < L.length:=by rw [←HN.o];exact aH
   have Mt:=af (show iF (L.take (k+1))=iF (L.take k)++na L[k] by rw [kr Lp];simp only [iF,List.map_append,List.flatten_append,List.map_cons,List.map_nil,List.flatten_cons,List.flatten_nil,List.append_nil]);have HLB:=af (show (iF (L.take k)).length≤480 by have:=Dk (L.take k);rw [fW] at this;omega);have HWL:=af (EX L[k]);obtain ⟨b,off,rfl,hb,a0,a1,a2,a3,a4,a5,a6⟩:=Oy (HS.o wr _ (bH.o.pick 2 rfl)) Lp;generalize L[k]=a at *;have k1:(k:Int) < (n:Int):=by omega
   have k0:(0:Int)≤(k:Int):=by omega
   obtain ⟨w5,eD⟩:=xE (wr.alloc (.cells #[ae aa a.kind,ae aa a.part,ae aa a.n,ae aa a.i,ae aa a.no,.bool a.dL,.int .u64 a.keep] 58));obtain ⟨D,hD⟩:=xE wr.heap.size;have h5:=bH.o.new 58 a.cells.toArray;rw [←hD,show wr.alloc (.cells a.cells.toArray 58)=w5 from eD.symm] at h5;have H5:=af h5;have sO:=af eD;have HD:=af hD;have HWH:=af (Eb h5 y0 y1 y2 y3 y4 y5 a);have ry:=(h5.pick 2 rfl).row.1;have z0:=ry.cell 0;have z1:=ry.cell 1;have z2:=ry.cell 2;have z3:=ry.cell 3;have z4:=ry.cell 4;have z5:=ry.cell 5;have lZ:=ry.lt;obtain ⟨c0,c1,c2,c3,c4,c5,c6,lD⟩:=km h5.row.1;clear ry h5 hD eD Lp;go_upto_region 5 with fail;rw [←sO.o,←HD.o];clear a0 a1 a2 a3 a4 a5 a6;go_wp2_with fail;refine HWH.o.mono ?_;rintro e w6 ⟨v,rfl,h6⟩;obtain ⟨A6,c6,rfl,_,_⟩:=aD h6.own;have lJ:=af (Sl.bP h6.own);have h7:=h6.pick 2 rfl;have H7:=af h7;clear h6 h7 z0 z1 z2 z3 z4 z5 c0 c1 c2 c3 c4 c5 lD lZ;have zY:=HWL.o.1;have pg:=HWL.o.2;have adM:=HLB.o;go_wp2_with (refine tK O5 rfl (.tmp 14) (.tmp 17) rfl H7.o.own rfl rfl lJ.o (TI _) pg (by omega) (by unfold maxLen;omega) (H7.o.aE.size) ?_;intro g cap w8 ho hg kU acC;have H8:=af (H7.o.grown hg ho (fun x hx=>by injection hx with hx;rw [←hx];exact kU));clear ho hg kU acC);go_roundw
   case rel =>
    refine ⟨k+1,by omega,by go_num,?_⟩;have h9:=H8.o;rw [Mt.o,gC,show jR (iF (L.take k)++na a)=jR (iF (L.take k))++jR (na a) by simp [jR]];exact (h9.swap.drop.swap.drop)
   case measure=>simp [intOf];omega
  ·obtain rfl:k=n:=by omega
   go_wp2_with fail;go_ret;refine ⟨_,rfl,?_⟩;have h9:=bH.o;rw [List.take_of_length_le (by rw [HN.o];exact Nat.le_refl _)] at h9;exact h9.swap.drop
end
end store
end Go.Proofs.YtdldkkoplgkloaaGreat
