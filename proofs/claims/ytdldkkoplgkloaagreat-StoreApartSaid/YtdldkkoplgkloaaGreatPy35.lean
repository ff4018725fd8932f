/-
  PROVED HERE: lemmas that the law leans on.
  CONDITIONS: each names its own.
-/
import Derived.Test.YtdldkkoplgkloaaGreatPy0
import Derived.Test.YtdldkkoplgkloaaGreatPy5
import Derived.Test.YtdldkkoplgkloaaGreatPy21
import Derived.Test.YtdldkkoplgkloaaGreatPy29
import Derived.Test.YtdldkkoplgkloaaGreatPy31
import Derived.Test.YtdldkkoplgkloaaGreatPy34
namespace Go.Proofs.YtdldkkoplgkloaaGreat
set_option linter.unusedVariables false
set_option linter.unusedSimpArgs false
set_option maxRecDepth 100000
set_option maxHeartbeats 32000000
namespace store


open Go.RowKit Go.Deep base obj mem sep bf bk record bP aU image bK bR chain bw
structure im (w0 w:World) (ad:du) (t:aQ) (d:Nat) (m:DS) (xs:List PP) (D:List DP) (l:List aD):Prop where
 st:St w0 w (bL ad t d m xs::l)
 inv:dD m xs D
 len:xs.length=t.parts.length
 room:10*xs.length≤m.az.length
 right:t.right=true
section
variable {w0 w : World} {ad : du} {t : aQ} {d : Nat} {m : DS} {xs : List PP} {D : List DP} {l : List aD}
theorem im.ok (h:im w0 w ad t d m xs D l):n8 t m xs:=h.inv.UO h.right h.len h.room
theorem im.step (h:im w0 w ad t d m xs D l) {w':World} {m':DS} {og:List PP} {D':List DP} {l':List aD} (av:St w0 w' (bL ad t d m' og::l')) (hi:dD m' og D') (hD:D'.length=D.length) (hl:m'.az.length=m.az.length):im w0 w' ad t d m' og D' l':=by
 have e:og.length=xs.length:=by rw [←hi.len,hD,h.inv.len]
 exact ⟨av,hi,by rw [e];exact h.len,by rw [e,hl];exact h.room,h.right⟩
theorem im.move (h:im w0 w ad t d m xs D l) {w':World} {l':List aD} (av:St w0 w' (bL ad t d m xs::l')):im w0 w' ad t d m xs D l':=⟨av,h.inv,h.len,h.room,h.right⟩
theorem im.below {w':World} (h:im w0 w ad t d m xs D l) (hb:Below w.heap.size w w'):im w0 w' ad t d m xs D l:=h.move (h.st.below hb)
theorem Oy (q se sz:Int):(nJ D q se sz).2.length=D.length:=by unfold nJ;split<;>simp
theorem Rj (q se no:Int) (data:List Int):(qf D q se no data).2.length=D.length:=by unfold qf;split<;>simp
theorem Ha (p:Nat) (r:Rec):(gC D p r).2.length=D.length:=by unfold gC;split;rfl;split<;>simp
theorem Rk (q:Int):(jW t D q).2.length=D.length:=by unfold jW;split;rfl;split;rfl;split<;>exact Ha _ _
theorem Ri (q se:Int):(qe t D q se).2.length=D.length:=by
 unfold qe;split;rfl;split;rfl;split;rfl;split;rfl;split;rfl;exact Ha _ _
theorem Xs (h:im w0 w ad t d m xs D l) (q se sz:Int):Calls Tryz.prog 14 #[.pointer (some ⟨ad.S,0,none⟩),.int .i64 q,.int .i64 se,.int .i64 sz] w fun e w'=>e=.returned (.int .i64 (nJ D q se sz).1)∧∃m' og,im w0 w' ad t d m' og (nJ D q se sz).2 l:=by
 obtain ⟨h1,h2,h3⟩:=h.inv.begin q se sz;exact (Hn h.st h.ok q se sz).mono fun e w' ⟨e1,e2⟩=>⟨by rw [e1,h1],_,_,h.step e2 h2 (Oy _ _ _) h3⟩
theorem Yf {B:aD} {A:Option Addr} {n c:Nat} {data:List Int} (h:im w0 w ad t d m xs D (B::l)) (hg:qi w0 B A n data) (hb:bo data) (q se no:Int):Calls Tryz.prog 15 #[.pointer (some ⟨ad.S,0,none⟩),.int .i64 q,.int .i64 se,.int .i64 no,.slice A n c] w fun e w'=>e=.returned (.int .i64 (qf D q se no data).1)∧∃m' og,im w0 w' ad t d m' og (qf D q se no data).2 (B::l):=by
 obtain ⟨h1,h2,h3⟩:=h.inv.load q se no hb;exact (JB h.st h.ok q se no hg).mono fun e w' ⟨e1,e2⟩=>⟨by rw [e1,h1],_,_,h.step e2 h2 (Rj _ _ _ _) h3⟩
theorem XU (h:im w0 w ad t d m xs D l) (q se:Int):Calls Tryz.prog 16 #[.pointer (some ⟨ad.S,0,none⟩),.int .i64 q,.int .i64 se] w fun e w'=>e=.returned (.int .i64 (qe t D q se).1)∧∃m' og,im w0 w' ad t d m' og (qe t D q se).2 l:=by
 obtain ⟨h1,h2,h3⟩:=h.inv.UQ (t:=t) q se;exact (Ga h.st h.ok q se).mono fun e w' ⟨e1,e2⟩=>⟨by rw [e1,h1],_,_,h.step e2 h2 (Ri _ _) h3⟩
theorem Zh (h:im w0 w ad t d m xs D l) (q:Int):Calls Tryz.prog 10 #[.pointer (some ⟨ad.S,0,none⟩),.int .i64 q] w fun e w'=>∃(A:Option Addr) (c:Nat),e=.returned (.tuple #[(jW t D q).1.1.val A c,.int .i64 (jW t D q).1.2])∧∃m' og,im w0 w' ad t d m' og (jW t D q).2 (own 5 1 (.slice A (jW t D q).1.1.code.length c) (jW t D q).1.1.code.length (aP (jW t D q).1.1.code)::l):=by
 obtain ⟨h1,h2,h3⟩:=h.inv.Zi (t:=t) q;refine (KD h.st h.ok q).mono fun e w' ⟨i,A,c,er,e1,e2,e3⟩=>?_;rw [h1] at e2;rw [←e2];exact ⟨A,c,e1,_,_,h.step e3.swap h2 (Rk _) h3⟩
theorem WU (h:im w0 w ad t d m xs D l) (q:Int):Calls Tryz.prog 11 #[.pointer (some ⟨ad.S,0,none⟩),.int .i64 q] w fun e w'=>∃(A:Option Addr) (c:Nat),e=.returned (.tuple #[(oM t D q).1.val A c,.int .i64 (oM t D q).2])∧im w0 w' ad t d m xs D (own 5 1 (.slice A (oM t D q).1.code.length c) (oM t D q).1.code.length (aP (oM t D q).1.code)::l):=by
 refine (Qq h.st h.ok q).mono fun e w' ⟨i,A,c,er,e1,e2,e3⟩=>?_;rw [h.inv.image q] at e2;rw [←e2];exact ⟨A,c,e1,h.move e3.swap⟩
def AX (D:List DP) (q:Int):Rec:=if q < 0∨(D.length:Int)≤q then Rec.zero else (D.getD q.toNat default).r
theorem Jj (h:im w0 w ad t d m xs D l) (q:Int):Calls Tryz.prog 13 #[.pointer (some ⟨ad.S,0,none⟩),.int .i64 q] w fun e w'=>e=.returned (AX D q).val∧Below w.heap.size w w':=by
 have e:recAt xs q=AX D q:=by
  unfold recAt AX;rw [h.inv.len];by_cases hq:q < 0∨(xs.length:Int)≤q
  ·rw [if_pos hq,if_pos hq]
  ·rw [if_neg hq,if_neg hq,(h.inv.parts q.toNat (by omega)).now]
 rw [←e];exact Nt h.st q
def Io (R:RS):aS:=if R.has then R.st else aS.zero
def sD (D:List DP) (q:Int):aS×Bool:=if q < 0∨(D.length:Int)≤q then (aS.zero,false) else (Io ((D.getD q.toNat default).slot (D.getD q.toNat default).sp),((D.getD q.toNat default).slot (D.getD q.toNat default).sp).has)
end
end store
namespace store


open Go.RowKit Go.Deep base obj mem sep bf bk record bP aU image bK bR chain bw
theorem ZR (r:Rec) (w:World):(Instr.field 35 r.val 5).run Tryz.prog w=.ok (.int .i64 r.bad) w:=by kernel_rfl
theorem Ko:rR.right=true:=by decide +kernel
theorem Xe {w0 w:World} {l:List aD} {gP gW gI g2:Nat} (h:St w0 w (EH gP gW gI g2::l)) :
  Calls Tryz.prog 20 #[.agg #[.int .i64 4,.slice (some ⟨gP,0,none⟩) 2 2,.slice (some ⟨gW,0,none⟩) 1 1,.slice none 0 0,.int .i64 2,.slice (some ⟨gI,0,none⟩) 3 3]] w fun e w'=>∃(ad:du) (d X:Nat),e=.returned (.tuple #[.pointer (some ⟨ad.S,0,none⟩),.pointer (some ⟨d,0,none⟩),.pointer (some ⟨X,0,none⟩)])∧∃(m:DS) (xs:List PP) (R:aD),im w0 w' ad rR d m xs (gm (bh 0) RS.none) (EH gP gW gI g2::R::l):=by
 have hm:=LW (js:=EG) (AI:=some ⟨gI,0,none⟩) (nI:=3) (cI:=3) (K:=fun _=>(some ⟨g2,0,none⟩,1)) (a:=exA gP gW) (t:=rR) h (Xf w0 gP gW gI g2 3 (by omega)) (fun w' l' h'=>Za h') (Nat.le_refl _) Ko (by decide) (by decide) (fun p hp=>by
  have th:p < 2:=hp
  rcases (by omega:p=0∨p=1) with rfl|rfl<;>decide +kernel)
 refine hm.mono fun e w' ⟨ad,d,X,h1,m,xs,v,P,ys,h2,h3,h4,h5,_,_⟩=>⟨ad,d,X,h1,m,xs,_,(h2.pick 1 rfl).perm (.cons _ (List.Perm.swap _ _ _)),?_,h4,by rw [h4,h5];exact Nat.le_refl _,Ko⟩
 have:=h3.made
 rwa [show rR.parts.length=2 from rfl,VM] at this
theorem Sw (w:World):Calls Tryz.prog 9 #[] w fun e w'=>e=.returned (.bool true)∧Below w.heap.size w w':=by
 go_enter Tryz.func9,Tryz.ntmps9;go_wp2_with fail;refine (Ov (St.nil w)).mono ?_;rintro e w1 ⟨gP,gW,gI,rfl,g2,av⟩;obtain ⟨Z,hZ⟩:∃Z,Z=w1.heap.size:=⟨_,rfl⟩
 obtain ⟨w2,dY⟩:∃v,v=w1.alloc (.cells #[.int .i64 4,.slice (some ⟨gP,0,none⟩) 2 2,.slice (some ⟨gW,0,none⟩) 1 1,.slice none 0 0,.int .i64 2,.slice (some ⟨gI,0,none⟩) 3 3] 49):=⟨_,rfl⟩
 have h2:=(av.new 49 #[.int .i64 4,.slice (some ⟨gP,0,none⟩) 2 2,.slice (some ⟨gW,0,none⟩) 1 1,.slice none 0 0,.int .i64 2,.slice (some ⟨gI,0,none⟩) 3 3])
 rw [←dY,←hZ] at h2;have h3:=Ua (h2.perm (List.perm_append_singleton _ [_,_,_,_]).symm);have H3:=aa h3;have HZ:=aa hZ;have iL:=aa dY;have Gp:=(h3.pick 1 rfl).row.1;have z0:w2.cell? ⟨Z,0,none⟩=some (.int .i64 4):=Gp.cell 0;have z1:w2.cell? ⟨Z,1,none⟩=some (.slice (some ⟨gP,0,none⟩) 2 2):=Gp.cell 1;have z2:w2.cell? ⟨Z,2,none⟩=some (.slice (some ⟨gW,0,none⟩) 1 1):=Gp.cell 2;have z3:w2.cell? ⟨Z,3,none⟩=some (.slice none 0 0):=Gp.cell 3;have z4:w2.cell? ⟨Z,4,none⟩=some (.int .i64 2):=Gp.cell 4;have z5:w2.cell? ⟨Z,5,none⟩=some (.slice (some ⟨gI,0,none⟩) 3 3):=Gp.cell 5;have lZ:=Gp.lt;clear av h2 h3 Gp hZ dY;go_upto_region 2 with fail;rw [←iL.o,←HZ.o];go_wp2_with fail;refine (Xe H3.o).mono ?_;rintro e w3 ⟨ad,d,X,rfl,m,xs,R,hs⟩;have HS:=aa (Xs hs 0 5 50);rw [Sr] at HS;clear hs z0 z1 z2 z3 z4 z5 lZ H3 HZ iL;obtain ⟨S,hS⟩:∃S,S=ad.S:=⟨_,rfl⟩
 rw [←hS] at HS ⊢;have wJ:=aa hS;clear hS;go_wp2_with fail;refine HS.o.mono ?_;rintro e w4 ⟨rfl,m',og,hs⟩;have H4:=aa hs;clear hs HS;dsimp only;go_wp2_with fail;go_loopw [24] (fun x wr=>∃(no:Nat) (m:DS) (xs:List PP),no≤4∧x=.int .i64 (no:Int)∧im w wr ad rR d m xs (gm (bh 0) (dx 5 fT.bytes no)) (EH gP gW gI g2::R::[row Z 49 [.int .i64 4,.slice (some ⟨gP,0,none⟩) 2 2,.slice (some ⟨gW,0,none⟩) 1 1,.slice none 0 0,.int .i64 2,.slice (some ⟨gI,0,none⟩) 3 3]])) (fun x _=>4-(intOf x).toNat)
 case atStart=>exact ⟨0,_,_,by omega,rfl,H4.o⟩
 case round =>
  obtain ⟨no,m,xs,kt,rfl,hs⟩:=hrel;have HS:=aa hs;clear H4 hs;by_cases aK:no < 4
  ·have hz:=(HS.o.st.pick 3 rfl).row.1;have z5:wr.cell? ⟨Z,5,none⟩=some (.slice (some ⟨gI,0,none⟩) 3 3):=hz.cell 5;have lZ:=hz.lt;have hi:=(yW (HS.o.st.pick 1 rfl)).row.1;have i0:wr.cell? ⟨gI,16,none⟩=some (.int .i64 0):=hi.cell 16;have i1:wr.cell? ⟨gI,17,none⟩=some (.int .i64 2):=hi.cell 17;have i2:wr.cell? ⟨gI,18,none⟩=some (.int .i64 0):=hi.cell 18;have i3:wr.cell? ⟨gI,19,none⟩=some (.int .i64 1):=hi.cell 19;have i4:wr.cell? ⟨gI,20,none⟩=some (.int .i64 1):=hi.cell 20;have i5:wr.cell? ⟨gI,21,none⟩=some (.int .i64 0):=hi.cell 21;have i6:wr.cell? ⟨gI,22,none⟩=some (.int .i64 0):=hi.cell 22;have i7:wr.cell? ⟨gI,23,none⟩=some (.slice (some ⟨g2,0,none⟩) 1 1):=hi.cell 23;have lI:=hi.lt;have ix:=aa (KE HS.o.st fT (fun z hz=>by simp [fT] at hz;subst hz;omega) (some ⟨g2,0,none⟩) 1 (Nat.le_refl _) (by decide) (Vu (HS.o.st.pick 1 rfl)) (no:Int) false);have qa:=aa aK;have k1:(no:Int) < 4:=by omega
   rw [show fT.val (some ⟨g2,0,none⟩) 1=.agg #[.int .i64 0,.int .i64 2,.int .i64 0,.int .i64 1,.int .i64 1,.int .i64 0,.int .i64 0,.slice (some ⟨g2,0,none⟩) 1 1] from rfl] at ix;clear hz hi;go_wp2_with fail;refine ix.o.mono ?_;rintro e w5 ⟨D,rfl,h5⟩;have Hx:=aa (Yf (HS.o.move h5.swap) (oJ (bs:=jd fT no false) (uq _ _ _) (by rw [List.take_of_length_le (by simp [aP,uq])])) (by rw [Hj wC (by rw [xU];omega)];exact KF (ue _ (sy fT (fun z hz=>by simp [fT] at hz;subst hz;omega))) no) 0 5 (no:Int) (c:=16));rw [VN qa.o,←wJ.o] at Hx;clear h5 z5 lZ i0 i1 i2 i3 i4 i5 i6 i7 lI ix;go_wp2_with fail;refine Hx.o.mono ?_;rintro e w6 ⟨rfl,m6,xs6,hs⟩;have H6:=aa (hs.move ((hs.st.pick 1 rfl).drop));clear hs Hx;dsimp only;go_wp2_with fail;go_roundw;case rel=>exact ⟨no+1,m6,xs6,by omega,by go_num,H6.o⟩
   case measure=>simp [intOf];omega
  ·have zr:no=4:=by omega
   subst zr;have kL:=aa (XU HS.o 0 5);rw [VK,←wJ.o] at kL;have k1:¬((4:Nat):Int) < 4:=by omega
   clear HS;go_wp2_with fail;refine kL.o.mono ?_;rintro e w5 ⟨rfl,m5,xs5,hs⟩;have H5:=aa hs;clear hs kL;dsimp only;obtain ⟨Q,hQ⟩:∃Q,Q=w5.heap.size:=⟨_,rfl⟩
   obtain ⟨w6,nU⟩:∃v,v=w5.alloc (.cells #[.int .i64 2,.int .i64 2,.int .i64 1,.int .i64 1] 3):=⟨_,rfl⟩
   have h6:=H5.o.st.new 3 #[.int .i64 2,.int .i64 2,.int .i64 1,.int .i64 1];rw [←hQ,←nU] at h6;have H6:=aa (H5.o.move h6.swap);have HQ:=aa hQ;have ER:=aa nU;clear h6 hQ nU H5;go_upto_region 14 with fail;rw [←ER.o,←HQ.o];clear k1;go_loopw [43] (fun x wr=>∃(n:Nat) (m:DS) (xs:List PP),n≤4∧x=.int .i64 (n:Int)∧im w wr ad rR d m xs (gm (kI n) (dx 5 fT.bytes 4)) (row Q 3 [.int .i64 2,.int .i64 2,.int .i64 1,.int .i64 1]::EH gP gW gI g2::R::[row Z 49 [.int .i64 4,.slice (some ⟨gP,0,none⟩) 2 2,.slice (some ⟨gW,0,none⟩) 1 1,.slice none 0 0,.int .i64 2,.slice (some ⟨gI,0,none⟩) 3 3]])) (fun x _=>4-(intOf x).toNat)
   case atStart=>exact ⟨0,_,_,by omega,rfl,H6.o⟩
   case round =>
    obtain ⟨n,m,xs,hn,rfl,hs⟩:=hrel;have HS:=aa hs;clear H6 hs;by_cases yM:n < 4
    ·have hq:=(HS.o.st.pick 1 rfl).row.1;obtain ⟨vv,hvv⟩:∃v:Int,v=if n < 2 then 2 else 1:=⟨_,rfl⟩
     have cq:wr.cell? ⟨Q,n,none⟩=some (.int .i64 vv):=by
      rw [hvv];rcases (by omega:n=0∨n=1∨n=2∨n=3) with rfl|rfl|rfl|rfl
      ·exact hq.cell 0
      ·exact hq.cell 1
      ·exact hq.cell 2
      ·exact hq.cell 3
     have lQ:=hq.lt;obtain ⟨ki,Eu⟩:∃i:aw,i=if n < 2 then fT else tW:=⟨_,rfl⟩
     have HVV:=aa (show ki.version=vv by rw [Eu,hvv];split<;>rfl);have yd:=aa (Zh HS.o 0);rw [VO n yM,←wJ.o,←Eu] at yd;have k1:(n:Int) < 4:=by omega
     have k0:(0:Int)≤(n:Int):=by omega
     clear hq hvv Eu;go_wp2_with fail;refine yd.o.mono ?_;rintro e w7 ⟨KA,Kc,rfl,m7,xs7,hs⟩;have H7:=aa (hs.move ((hs.st.pick 1 rfl).drop));dsimp only;simp only [aw.val];rw [HVV.o];generalize ki.part=j0,ki.aY=j2,ki.mem=j3,ki.fuel=j4,ki.aN=j5,ki.aB=j6,ki.code.length=j7;obtain ⟨I,hI⟩:∃I,I=w7.heap.size:=⟨_,rfl⟩
     obtain ⟨w8,Aj⟩:∃v,v=w7.alloc (.cells #[.int .i64 j0,.int .i64 vv,.int .i64 j2,.int .i64 j3,.int .i64 j4,.int .i64 j5,.int .i64 j6,.slice KA j7 Kc] 26):=⟨_,rfl⟩
     have h8:=H7.o.st.new 26 #[.int .i64 j0,.int .i64 vv,.int .i64 j2,.int .i64 j3,.int .i64 j4,.int .i64 j5,.int .i64 j6,.slice KA j7 Kc];rw [←hI,←Aj] at h8;have c1:w8.cell? ⟨I,1,none⟩=some (.int .i64 vv):=h8.row.1.cell 1;have lI:=h8.row.1.lt;have H8:=aa (H7.o.move h8.drop);have HI:=aa hI;have RJ:=aa Aj;clear hs h8 hI Aj yd cq lQ;go_upto_region 17 with fail;rw [←RJ.o,←HI.o];go_wp2_with fail;go_roundw;case rel=>exact ⟨n+1,m7,xs7,by omega,by go_num,H8.o⟩
     case measure=>simp [intOf];omega
    ·have zr:n=4:=by omega
     subst zr;have pN:=aa (Jj HS.o 0);have HB:=aa HS.o.st.aI;have r5:=ZR (AX (gm (kI 4) (dx 5 fT.bytes 4)) 0);rw [show (AX (gm (kI 4) (dx 5 fT.bytes 4)) 0).bad=2 from rfl] at r5;rw [←wJ.o] at pN;generalize (AX (gm (kI 4) (dx 5 fT.bytes 4)) 0).val=rv at *;have k1:¬((4:Nat):Int) < 4:=by omega
     clear HS;go_wp2_with fail;refine pN.o.mono ?_;rintro e w7 ⟨rfl,hb⟩;have wQ:=aa (HB.o.trans (hb.mono HB.o.size));clear hb;go_wp2_with fail;go_ret;exact ⟨rfl,wQ.o⟩
end store
namespace store


open Go.RowKit Go.Deep base obj mem sep bf bk record bP aU image bK bR chain bw
def Ir (i j:aw):Bool:=decide (i.part=j.part∧i.version=j.version∧i.aY=j.aY∧i.mem=j.mem∧i.fuel=j.fuel∧i.aN=j.aN∧i.aB=j.aB∧i.code=j.code)
theorem Pw {i j:aw}:Ir i j=true ↔ i=j:=by
 obtain ⟨i0,i1,i2,i3,i4,i5,i6,ic⟩:=i;obtain ⟨j0,j1,j2,j3,j4,j5,j6,jc⟩:=j;simp only [Ir,decide_eq_true_eq,aw.mk.injEq]
theorem SR (w:World) (i j:aw) (A A':Option Addr) (c c':Nat) (hs:Sl w w.heap.size 1 A i.code.length (aP i.code)) (ht:Sl w w.heap.size 1 A' j.code.length (aP j.code)) (hi:i.code.length≤1000000) (hj:j.code.length≤1000000) :
  Calls Tryz.prog 66 #[i.val A c,j.val A' c'] w fun e w'=>e=.returned (.bool (Ir i j))∧Below w.heap.size w w':=by
 obtain ⟨i0,i1,i2,i3,i4,i5,i6,ic⟩:=i;obtain ⟨j0,j1,j2,j3,j4,j5,j6,jc⟩:=j;simp only at hs ht hi hj;simp only [aw.val,Ir];have hb:Below w.heap.size w ((w.alloc (.cells #[.int .i64 i0,.int .i64 i1,.int .i64 i2,.int .i64 i3,.int .i64 i4,.int .i64 i5,.int .i64 i6,.slice A ic.length c] 26)).alloc (.cells #[.int .i64 j0,.int .i64 j1,.int .i64 j2,.int .i64 j3,.int .i64 j4,.int .i64 j5,.int .i64 j6,.slice A' jc.length c'] 26)):=((Below.refl _ w).alloc (Nat.le_refl _) _).alloc (by simp) _;have HB:=aa hb;have kE:=aa (same.Je ic jc A A' ic.length jc.length c c' _ rfl rfl hi hj ((hs.below hb).more hb.size) ((ht.below hb).more hb.size));clear hb hs ht hi hj;by_cases h0:i0=j0
 case neg =>
  have e0:(i0==j0)=false:=by simpa using h0
  have hd:decide (i0=j0∧i1=j1∧i2=j2∧i3=j3∧i4=j4∧i5=j5∧i6=j6∧ic=jc)=false:=by simp [h0]
  rw [hd];clear hd h0 kE;generalize ic.length=ni,jc.length=nj at *;go_enter Tryz.func66,Tryz.ntmps66;go_wp2_with fail;go_ret;exact ⟨rfl,HB.o⟩
 case pos =>
  subst h0;by_cases h1:i1=j1
  case neg =>
   have e1:(i1==j1)=false:=by simpa using h1
   have hd:decide (i0=i0∧i1=j1∧i2=j2∧i3=j3∧i4=j4∧i5=j5∧i6=j6∧ic=jc)=false:=by simp [h1]
   rw [hd];clear hd h1 kE;generalize ic.length=ni,jc.length=nj at *;go_enter Tryz.func66,Tryz.ntmps66;go_wp2_with fail;go_ret;exact ⟨rfl,HB.o⟩
  case pos =>
   subst h1;by_cases h2:i2=j2
   case neg =>
    have e2:(i2==j2)=false:=by simpa using h2
    have hd:decide (i0=i0∧i1=i1∧i2=j2∧i3=j3∧i4=j4∧i5=j5∧i6=j6∧ic=jc)=false:=by simp [h2]
    rw [hd];clear hd h2 kE;generalize ic.length=ni,jc.length=nj at *;go_enter Tryz.func66,Tryz.ntmps66;go_wp2_with fail;go_ret;exact ⟨rfl,HB.o⟩
   case pos =>
    subst h2;by_cases h3:i3=j3
    case neg =>
     have e3:(i3==j3)=false:=by simpa using h3
     have hd:decide (i0=i0∧i1=i1∧i2=i2∧i3=j3∧i4=j4∧i5=j5∧i6=j6∧ic=jc)=false:=by simp [h3]
     rw [hd];clear hd h3 kE;generalize ic.length=ni,jc.length=nj at *;go_enter Tryz.func66,Tryz.ntmps66;go_wp2_with fail;go_ret;exact ⟨rfl,HB.o⟩
    case pos =>
     subst h3;by_cases h4:i4=j4
     case neg =>
      have e4:(i4==j4)=false:=by simpa using h4
      have hd:decide (i0=i0∧i1=i1∧i2=i2∧i3=i3∧i4=j4∧i5=j5∧i6=j6∧ic=jc)=false:=by simp [h4]
      rw [hd];clear hd h4 kE;generalize ic.length=ni,jc.length=nj at *;go_enter Tryz.func66,Tryz.ntmps66;go_wp2_with fail;go_ret;exact ⟨rfl,HB.o⟩
     case pos =>
      subst h4;by_cases h5:i5=j5
      case neg =>
       have e5:(i5==j5)=false:=by simpa using h5
       have hd:decide (i0=i0∧i1=i1∧i2=i2∧i3=i3∧i4=i4∧i5=j5∧i6=j6∧ic=jc)=false:=by simp [h5]
       rw [hd];clear hd h5 kE;generalize ic.length=ni,jc.length=nj at *;go_enter Tryz.func66,Tryz.ntmps66;go_wp2_with fail;go_ret;exact ⟨rfl,HB.o⟩
      case pos =>
       subst h5;by_cases h6:i6=j6
       case neg =>
        have e6:(i6==j6)=false:=by simpa using h6
        have hd:decide (i0=i0∧i1=i1∧i2=i2∧i3=i3∧i4=i4∧i5=i5∧i6=j6∧ic=jc)=false:=by simp [h6]
        rw [hd];clear hd h6 kE;generalize ic.length=ni,jc.length=nj at *;go_enter Tryz.func66,Tryz.ntmps66;go_wp2_with fail;go_ret;exact ⟨rfl,HB.o⟩
       case pos =>
        subst h6;have hd:decide (i0=i0∧i1=i1∧i2=i2∧i3=i3∧i4=i4∧i5=i5∧i6=i6∧ic=jc)=decide (ic=jc):=by simp
        rw [hd];clear hd;generalize ic.length=ni,jc.length=nj at *;go_enter Tryz.func66,Tryz.ntmps66;go_wp2_with fail;refine kE.o.mono ?_;rintro e w2 ⟨rfl,hb⟩;have aO:=aa (HB.o.trans (hb.mono HB.o.size));clear hb;go_wp2_with fail;go_ret;exact ⟨rfl,aO.o⟩
theorem wS (y:dH×RP):(eE y).length=8:=rfl
structure tX (w:World) (X:Nat) (n p:Nat) (y:dH×RP) (b off c bS oS cS bI oI cI:Nat):Prop where
 x5:w.cell? ⟨X,5,none⟩=some (.slice (some ⟨b,off,none⟩) n c)
 lX:X < w.heap.size
 lb:b < w.heap.size
 row:∀j u,j < 8→(eE y)[j]?=some u→w.cell? ⟨b,off+p*8+j,none⟩=some u
 eS:y.1.vS=.slice (some ⟨bS,oS,none⟩) 2 cS
 lS:bS < w.heap.size
 slots:∀j u,(bE y.2.s0 y.1.v0++bE y.2.s1 y.1.v1)[j]?=some u→w.cell? ⟨bS,oS+j,none⟩=some u
 eI:y.1.vI=.slice (some ⟨bI,oI,none⟩) 2 cI
 lI:bI < w.heap.size
 il:∀j u,(aw.row y.2.i0 y.1.K0++aw.row y.2.i1 y.1.K1)[j]?=some u→w.cell? ⟨bI,oI+j,none⟩=some u
theorem sj {w0 w:World} {l:List aD} {X:Nat} {tv:List Value} {v:Value} {P:List (Nat×List Value)} {ys:List (dH×RP)} (h:St w0 w (cw X tv v P ys::l)) (iR:tv.length=5) {p:Nat} (hp:p < ys.length) :
  ∃b off c bS oS cS bI oI cI,tX w X ys.length p ys[p] b off c bS oS cS bI oI cI:=by
 have h1:=ec h;have hX:=h1.row.1;have hO:=(h1.pick 1 rfl).own;obtain ⟨A,c,hv,_,_⟩:=aH hO;rw [hv] at hO;have dB:=Sl.bz hO;obtain ⟨b,off,rfl,cy,qF⟩:=dB.2 (by omega)
 have h9:∀x∈ys.map eE,x.length=8:=by
  intro x hx;obtain ⟨a,_,rfl⟩:=List.mem_map.1 hx;rfl
 have Z9:St w0 w (iF P ys[p].1 ys[p].2::_):=(h1.pick 3 rfl).D9 (k:=p) (by simp [hp]);have h2:=Z9.fI;simp only [List.cons_append,List.nil_append] at h2;have hS:=(h2.pick 1 rfl).own;obtain ⟨AS,cS,hvS,_,_⟩:=aH hS;rw [hvS] at hS;obtain ⟨bS,oS,rfl,lS,hcS⟩:=(Sl.bz hS).2 (by omega);have hI:=(h2.pick 4 rfl).own;obtain ⟨AI,cI,hvI,_,_⟩:=aH hI;rw [hvI] at hI;obtain ⟨bI,oI,rfl,lI,hcI⟩:=(Sl.bz hI).2 (by omega);refine ⟨b,off,c,bS,oS,cS,bI,oI,cI,?_,hX.lt,cy,?_,hvS,lS,hcS,hvI,lI,hcI⟩
 ·rw [hX.cell 5,List.getElem?_append_right (by omega),iR,hv];rfl
 ·intro j u hj hu;have e:=qH h9 (i:=p) (by simpa using hp);rw [Nat.add_assoc];refine qF _ _ ?_
  have e2:(((ys.map eE).flatten.drop (p*8)).take 8)[j]?=(ys.map eE).flatten[p*8+j]?:=by
   rw [List.getElem?_take,if_pos hj,List.getElem?_drop]
  rw [e] at e2;show (dg ys)[p*8+j]?=some u
  unfold dg;rw [←e2];simpa using hu
end store
namespace store


open Go.RowKit Go.Deep base obj mem sep bf bk record bP aU image bK bR chain bw
def RP.ek (x:RP) (k:Int):aw:=if k=0 then x.i0 else x.i1
def dH.K (a:dH) (k:Int):Option Addr×Nat:=if k=0 then a.K0 else a.K1
theorem PC {w:World} {X n p:Nat} {y:dH×RP} {b off c bS oS cS bI oI cI:Nat} (h:tX w X n p y b off c bS oS cS bI oI cI) (hp:p < n) (hk:y.2.aA.ax=0∨y.2.aA.ax=1) :
  Calls Tryz.prog 67 #[.pointer (some ⟨X,0,none⟩),.int .i64 p] w fun e w'=>e=.returned ((y.2.ek y.2.aA.ax).val (y.1.K y.2.aA.ax).1 (y.1.K y.2.aA.ax).2)∧Below w.heap.size w w':=by
 obtain ⟨k,rQ,dC⟩:∃k:Nat,y.2.aA.ax=k∧k < 2:=⟨y.2.aA.ax.toNat,by omega,by omega⟩
 obtain ⟨j,hj⟩:∃j,j=y.2.ek y.2.aA.ax:=⟨_,rfl⟩
 obtain ⟨KK,hKK⟩:∃q,q=y.1.K y.2.aA.ax:=⟨_,rfl⟩
 have fc:∀m u,m < 8→(aw.row j KK)[m]?=some u→w.cell? ⟨bI,oI+k*8+m,none⟩=some u:=fun m u hm hu=>by
  rw [Nat.add_assoc];refine h.il _ _ ?_;rcases (by omega:k=0∨k=1) with rfl|rfl
  ·rw [List.getElem?_append_left (by show 0*8+m < 8;omega),Nat.zero_mul,Nat.zero_add];rw [hj,hKK,rQ] at hu;exact hu
  ·rw [List.getElem?_append_right (by show 8≤1*8+m;omega),show 1*8+m-(aw.row y.2.i0 y.1.K0).length=m by show 1*8+m-8=m;omega];rw [hj,hKK,rQ] at hu;exact hu
 have c0:w.cell? ⟨bI,oI+k*8,none⟩=some (.int .i64 j.part):=fc 0 _ (by omega) rfl;have c1:w.cell? ⟨bI,oI+k*8+1,none⟩=some (.int .i64 j.version):=fc 1 _ (by omega) rfl;have c2:w.cell? ⟨bI,oI+k*8+2,none⟩=some (.int .i64 j.aY):=fc 2 _ (by omega) rfl;have c3:w.cell? ⟨bI,oI+k*8+3,none⟩=some (.int .i64 j.mem):=fc 3 _ (by omega) rfl;have c4:w.cell? ⟨bI,oI+k*8+4,none⟩=some (.int .i64 j.fuel):=fc 4 _ (by omega) rfl;have c5:w.cell? ⟨bI,oI+k*8+5,none⟩=some (.int .i64 j.aN):=fc 5 _ (by omega) rfl;have c6:w.cell? ⟨bI,oI+k*8+6,none⟩=some (.int .i64 j.aB):=fc 6 _ (by omega) rfl;have c7:w.cell? ⟨bI,oI+k*8+7,none⟩=some (.slice KK.1 j.code.length KK.2):=fc 7 _ (by omega) rfl;have x5:=h.x5;have lX:=h.lX;have lb:=h.lb;have lI:=h.lI;have r2:w.cell? ⟨b,off+p*8+2,none⟩=some (.int .i64 k):=h.row 2 _ (by omega) (by rw [←rQ];rfl);have r7:w.cell? ⟨b,off+p*8+7,none⟩=some (.slice (some ⟨bI,oI,none⟩) 2 cI):=h.row 7 _ (by omega) (by rw [←h.eI];rfl);rw [←hj,←hKK];simp only [aw.val];generalize j.part=j0,j.version=j1,j.aY=j2,j.mem=j3,j.fuel=j4,j.aN=j5,j.aB=j6,j.code.length=j7 at *;generalize KK.1=KA,KK.2=Kc at *;have p0:(0:Int)≤(p:Int):=by omega
 have p1:(p:Int) < (n:Int):=by omega
 have q0:(0:Int)≤(k:Int):=by omega
 have q1:(k:Int) < 2:=by omega
 have wW:∀v,Below w.heap.size w (w.alloc v):=fun v=>(Below.refl _ w).alloc (Nat.le_refl _) v;obtain ⟨w1,aJ⟩:∃v,v=w.alloc (.cells #[.int .i64 0,.int .i64 0,.int .i64 0,.int .i64 0,.int .i64 0,.int .i64 0,.int .i64 0,.slice none 0 0] 26):=⟨_,rfl⟩
 have HB:=aa (show Below w.heap.size w w1.drew by rw [aJ];exact (wW _).drew);have HR:=aa (show Row w1.drew w.heap.size 26 [.int .i64 0,.int .i64 0,.int .i64 0,.int .i64 0,.int .i64 0,.int .i64 0,.int .i64 0,.slice none 0 0] by rw [aJ];exact (Row.new w _ _).drew);have iu:=HB.o.size;clear hj hKK fc rQ hk h wW;have MS:=aa (show (Tryz.prog.info? 26).map (·.size)=some (#[Value.int .i64 j0,.int .i64 j1,.int .i64 j2,.int .i64 j3,.int .i64 j4,.int .i64 j5,.int .i64 j6,.slice KA j7 Kc]:Array Value).size from by kernel_rfl);have y0:w1.drew.cell? ⟨bI,oI+k*8,none⟩=some (.int .i64 j0):=(HB.o.cell lI).trans c0;have y1:w1.drew.cell? ⟨bI,oI+k*8+1,none⟩=some (.int .i64 j1):=(HB.o.cell lI).trans c1;have y2:w1.drew.cell? ⟨bI,oI+k*8+2,none⟩=some (.int .i64 j2):=(HB.o.cell lI).trans c2;have y3:w1.drew.cell? ⟨bI,oI+k*8+3,none⟩=some (.int .i64 j3):=(HB.o.cell lI).trans c3;have y4:w1.drew.cell? ⟨bI,oI+k*8+4,none⟩=some (.int .i64 j4):=(HB.o.cell lI).trans c4;have y5:w1.drew.cell? ⟨bI,oI+k*8+5,none⟩=some (.int .i64 j5):=(HB.o.cell lI).trans c5;have y6:w1.drew.cell? ⟨bI,oI+k*8+6,none⟩=some (.int .i64 j6):=(HB.o.cell lI).trans c6;have y7:w1.drew.cell? ⟨bI,oI+k*8+7,none⟩=some (.slice KA j7 Kc):=(HB.o.cell lI).trans c7;have z5:w1.drew.cell? ⟨X,5,none⟩=some (.slice (some ⟨b,off,none⟩) n c):=(HB.o.cell lX).trans x5;have s2:w1.drew.cell? ⟨b,off+p*8+2,none⟩=some (.int .i64 k):=(HB.o.cell lb).trans r2;have s7:w1.drew.cell? ⟨b,off+p*8+7,none⟩=some (.slice (some ⟨bI,oI,none⟩) 2 cI):=(HB.o.cell lb).trans r7;have mX:X < w1.drew.heap.size:=Nat.lt_of_lt_of_le lX iu;have mb:b < w1.drew.heap.size:=Nat.lt_of_lt_of_le lb iu;have mI:bI < w1.drew.heap.size:=Nat.lt_of_lt_of_le lI iu;clear c0 c1 c2 c3 c4 c5 c6 c7 x5 lX lb lI r2 r7 iu;have bJ:=aa (show St w w1.drew [row w.heap.size 26 [.int .i64 0,.int .i64 0,.int .i64 0,.int .i64 0,.int .i64 0,.int .i64 0,.int .i64 0,.slice none 0 0]] by rw [aJ];exact ((St.nil w).new 26 #[.int .i64 0,.int .i64 0,.int .i64 0,.int .i64 0,.int .i64 0,.int .i64 0,.int .i64 0,.slice none 0 0]).drew);have bq:=aa aJ;clear aJ;go_enter Tryz.func67,Tryz.ntmps67;go_upto_region 1 with fail;rw [←bq.o];refine dA ?_;(refine bj [0,1,2,3,4,5,6,7,8,9,10,11,12,13,14,15,16,17,18] ?_;simp only [pick,af,ae,ah];(iterate 19 still_step);refine wpStill_nil ?_);(try simp only [af,ae,ah,Act.put,aq,ak,ao]);(refine aL 19 ?_;(try simp only [af,ae,ah]));refine fH.qx 26 (.tmp 4) (.tmp 23) rfl w.heap.size 0 #[.int .i64 j0,.int .i64 j1,.int .i64 j2,.int .i64 j3,.int .i64 j4,.int .i64 j5,.int .i64 j6,.slice KA j7 Kc] rfl rfl HR.o MS.o (by simp) (by simp [Value.oneCell']) [.int .i64 j0,.int .i64 j1,.int .i64 j2,.int .i64 j3,.int .i64 j4,.int .i64 j5,.int .i64 j6,.slice KA j7 Kc] rfl ?_;have km:=bJ.o.setRow [.int .i64 j0,.int .i64 j1,.int .i64 j2,.int .i64 j3,.int .i64 j4,.int .i64 j5,.int .i64 j6,.slice KA j7 Kc];have bD:=aa km.aI;have x9:=aa km.row.1;clear km;(try simp only [af,ae,ah,Act.put,aq,ak,ao]);refine bZ ?_;go_wp2_with fail;refine bodyPost_ret (results_cell_row rfl _ _ w.heap.size _ _ _ _ rfl x9.o Tryz.underlying26 rfl (by kernel_rfl)) rfl ?_;exact ⟨rfl,bD.o⟩
end store
end Go.Proofs.YtdldkkoplgkloaaGreat
