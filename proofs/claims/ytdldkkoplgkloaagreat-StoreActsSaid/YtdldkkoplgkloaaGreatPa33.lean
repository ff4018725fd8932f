/- PROVED HERE: lemmas of the law. CONDITIONS: each names its own. -/
import Derived.Test.YtdldkkoplgkloaaGreatPa32
namespace Go.Proofs.YtdldkkoplgkloaaGreat
set_option linter.unusedVariables false
set_option linter.unusedSimpArgs false
set_option maxRecDepth 100000
set_option maxHeartbeats 32000000
open Go.Value renaming int → ae
open Go.IntKind renaming i64 → aa
namespace store
open Go.RowKit Go.Deep base obj mem sep aW aX record bD aG image bN bL chain bC
section
variable {a0 a1 a2 b0 b1 b2:Int}
structure qG (w0 w:World) (ad:fy) (t:aY) (d:Nat) (m:DS) (xs:List PP) (D:List DP) (l:List aI):Prop where
 st:St w0 w (aZ ad t d m xs::l)
 inv:dh m xs D
 len:xs.length=t.parts.length
 room:10*xs.length≤m.ar.length
 right:t.right=true
section
variable {w0 w : World} {ad : fy} {t : aY} {d : Nat} {m : DS} {xs : List PP} {D : List DP} {l : List aI}
theorem qG.ok (h:qG w0 w ad t d m xs D l):iJ t m xs:=h.inv.Hy h.right h.len h.room
theorem qG.move (h:qG w0 w ad t d m xs D l) {w':World} {l':List aI} (ak:St w0 w' (aZ ad t d m xs::l')):qG w0 w' ad t d m xs D l':=⟨ak,h.inv,h.len,h.room,h.right⟩
theorem qG.below {w':World} (h:qG w0 w ad t d m xs D l) (hb:Below w.heap.size w w'):qG w0 w' ad t d m xs D l:=h.move (h.st.below hb)
theorem YJ (h:qG w0 w ad t d m xs D l) (q:Int):Calls Tryz.prog 11 #[.pointer (some ⟨ad.S,0,none⟩),ae aa q] w fun e w'=>∃(A:Option Addr) (c:Nat),e=.returned (.tuple #[(jA t D q).1.val A c,ae aa (jA t D q).2])∧qG w0 w' ad t d m xs D (own 5 1 (.slice A (jA t D q).1.code.length c) (jA t D q).1.code.length (aP (jA t D q).1.code)::l):=by
 refine (Sh h.st h.ok q).mono fun e w' ⟨i,A,c,er,e1,e2,e3⟩=>?_;rw [h.inv.image q] at e2;rw [←e2];exact ⟨A,c,e1,h.move e3.swap⟩
theorem U4 (h:qG w0 w ad t d m xs D l) (q:Int):Calls Tryz.prog 13 #[.pointer (some ⟨ad.S,0,none⟩),ae aa q] w fun e w'=>e=.returned (lW D q).val∧Below w.heap.size w w':=by
 have e:recAt xs q=lW D q:=by
  unfold recAt lW;rw [h.inv.len];by_cases hq:q < 0∨(xs.length:Int)≤q
  ·rw [if_pos hq,if_pos hq]
  ·rw [if_neg hq,if_neg hq,(h.inv.parts q.toNat (by omega)).now]
 rw [←e];exact Fg h.st q
theorem XR (h:qG w0 w ad t d m xs D l) (q:Int):Calls Tryz.prog 12 #[.pointer (some ⟨ad.S,0,none⟩),ae aa q] w fun e w'=>e=.returned (.tuple #[(nE D q).1.val,.bool (nE D q).2])∧Below w.heap.size w w':=by
 have e:CH xs q=nE D q:=by
  unfold CH nE;rw [h.inv.len];by_cases hq:q < 0∨(xs.length:Int)≤q
  ·rw [if_pos hq,if_pos hq]
  ·rw [if_neg hq,if_neg hq];have hu:=h.inv.parts q.toNat (by omega);have hm:=(hu.si hu.pH).mem;rw [hu.sp];unfold told E3;simp only [hm.has,hm.st]
 rw [←e];exact OX h.st h.ok q
end
theorem ne1:∀{a b:Bool},¬a=b→(a=true∧b=false)∨(a=false∧b=true):=by decide
theorem ne3 (h:¬(a0=b0∧a1=b1∧a2=b2)):(a0==b0)=false∨((a0==b0)=true∧(a1==b1)=false)∨((a0==b0)=true∧(a1==b1)=true∧(a2==b2)=false):=by
 simp only [beq_eq_false_iff_ne,beq_iff_eq];omega
theorem ne6 {a3 a4 a5 b3 b4 b5:Int} (h:¬(a0=b0∧a1=b1∧a2=b2∧a3=b3∧a4=b4∧a5=b5)):(a0==b0)=false∨((a0==b0)=true∧(a1==b1)=false)∨((a0==b0)=true∧(a1==b1)=true∧(a2==b2)=false)∨((a0==b0)=true∧(a1==b1)=true∧(a2==b2)=true∧(a3==b3)=false)∨((a0==b0)=true∧(a1==b1)=true∧(a2==b2)=true∧(a3==b3)=true∧(a4==b4)=false)∨((a0==b0)=true∧(a1==b1)=true∧(a2==b2)=true∧(a3==b3)=true∧(a4==b4)=true∧(a5==b5)=false):=by
 simp only [beq_eq_false_iff_ne,beq_iff_eq];omega
def JV (D:List DP) (p:Nat) (x:RP):Prop:=lW D p=x.aw∧(nE D p).2=x.sp.has∧((nE D p).2=true→(nE D p).1=x.sp.st)
def abZ (t:aY) (D:List DP) (ys:List (dv×RP)) (S:Prop) (e:Ending):Prop:=∃b,e=.returned (.bool b)∧S∧((∀p (hp:p < ys.length),Pc t D p ys[p].2)→b=true)∧(b=true→∀p (hp:p < ys.length),JV D p ys[p].2)
theorem zH {w0 w:World} {ad:fy} {t:aY} {d:Nat} {m:DS} {xs:List PP} {D:List DP} {X:Nat} {tv:List Value} {v:Value} {P:List (Nat×List Value)} {ys:List (dv×RP)} {l:List aI} (h:qG w0 w ad t d m xs D (bK X tv v P ys::l)) (il:tv.length=5) (hn:ys.length=xs.length)
  (hr:∀y∈ys,y.2.aw.right=true) (hc:∀w' l',St w0 w' (aZ ad t d m xs::bK X tv v P ys::l')→∀y∈ys,∀k:Int,Sl w' w'.heap.size 1 (y.1.K k).1 (y.2.ee k).code.length (aP (y.2.ee k).code)∧(y.2.ee k).code.length≤1000000)
  (hi:∀p,p < ys.length→(jA t D p).2=0∧(jA t D p).1.code.length≤1000000) :
  Calls Tryz.prog 24 #[.pointer (some ⟨ad.S,0,none⟩),.pointer (some ⟨X,0,none⟩)] w fun e w'=>abZ t D ys (qG w0 w' ad t d m xs D (bK X tv v P ys::l)) e:=by
 have ak:=h.st.pick 1 rfl;have hX:=(et ak)
 have hXr:=hX.row.1;have hO:=(hX.pick 1 rfl).own;obtain ⟨AO,cO,hv,_,_⟩:=aD hO
 have x5:w.cell? ⟨X,5,none⟩=some (.slice AO ys.length cO):=by
  rw [hXr.cell 5,List.getElem?_append_right (by omega),il,hv];rfl
 have lX:=hXr.lt;have H:=af h;have HR:=af hr;have HC:=af hc;have HS:=af hi;have HN:=af hn;have HTV:=af il;obtain ⟨n,AG⟩:=xE ys.length;have y9:n≤4:=by have:=h.ok.n4;omega
 rw [←AG] at x5;have Co:=af AG;obtain ⟨S,hS⟩:=xE ad.S;rw [←hS];have yd:=af hS;clear ak hX hXr hO hv h hr hc hi hn il AG hS;go_enter Tryz.func24,Tryz.ntmps24;go_wp2_with fail;go_loopw [17] (fun x wr=>∃p:Nat,p≤n∧x=ae aa (p:Int)∧qG w0 wr ad t d m xs D (bK X tv v P ys::l)∧∀q (hq:q < ys.length),q < p→JV D q ys[q].2) (fun x _=>n-(intOf x).toNat)
 case atStart=>exact ⟨0,by omega,rfl,H.o,fun _ _ h=>absurd h (Nat.not_lt_zero _)⟩
 case round =>
  obtain ⟨p,hp,rfl,hs,AU⟩:=hrel;clear H x5 lX;have bH:=af hs;have uY:=af AU;clear hs AU;by_cases aH:p < n
  ·have FG:p < ys.length:=by rw [←Co.o];exact aH
   have Mw:=af (fun (w':World) (l':List aI) (ak:St w0 w' (bK X tv v P ys::l'))=>vC ak HTV.o FG);have hme:=List.getElem_mem FG;have oM:=eu.iZ (HR.o _ hme);have wI:=HS.o p FG;have lL:=af (fun (h:∀p (hp:p < ys.length),Pc t D p ys[p].2)=>h p FG)
   have DN:=af (fun (h:JV D p ys[p].2)=>show ∀q (hq:q < ys.length),q < p+1→JV D q ys[q].2 from fun q hq h1=>by
    by_cases e:q=p
    ·subst e;exact h
    ·exact uY.o q hq (by omega))
   have HCC:=af (fun (w':World) (l':List aI) (ak:St w0 w' (aZ ad t d m xs::bK X tv v P ys::l')) (k:Int)=>HC.o w' l' ak _ hme k);rw [←Co.o] at Mw;generalize ys[p]=y at hme oM wI Mw lL DN HCC;have kz:=af wI;have Cs:=af (YJ bH.o (p:Int));rw [wI.1,←yd.o] at Cs;have k1:(p:Int) < (n:Int):=by omega
   have kp:(0:Int)≤(p:Int):=by omega
   have pM:y.2.aw.aj=0∨y.2.aw.aj=1:=by omega
   have wQ:y.2.aw.au=0∨y.2.aw.au=1:=by omega
   clear hme oM wI;go_wp2_with fail;refine Cs.o.mono ?_;rintro e w1 ⟨A,cA,rfl,j8⟩;have nX:=af j8;clear j8 Cs;dsimp only;obtain ⟨j,hj⟩:∃j,j=(jA t D (p:Int)).1:=⟨_,rfl⟩
   rw [←hj] at nX ⊢;obtain ⟨q,hq⟩:=xE (y.2.ee y.2.aw.au);have HQ:=af hq;obtain ⟨b1,kb⟩:=xE (Fa j q);have bh:=af kb;have HJ:=af hj;simp only [aq.val];obtain ⟨j0,hj0⟩:=xE j.part;obtain ⟨j1,NZ⟩:=xE j.version;obtain ⟨j2,BS⟩:=xE j.aV;obtain ⟨j3,hj3⟩:=xE j.mem;obtain ⟨j4,uO⟩:=xE j.fuel;obtain ⟨j5,hj5⟩:=xE j.aM;obtain ⟨j6,hj6⟩:=xE j.ax;obtain ⟨j7,hj7⟩:=xE j.code.length;have HJV:=af (show ∀(A:Option Addr) (c:Nat),j.val A c=.agg #[ae aa j0,ae aa j1,ae aa j2,ae aa j3,ae aa j4,ae aa j5,ae aa j6,.slice A j7 c] from fun A c=>by rw [hj0,NZ,BS,hj3,uO,hj5,hj6,hj7];rfl);rw [←hj0,←NZ,←BS,←hj3,←uO,←hj5,←hj6,←hj7];obtain ⟨q0,NT⟩:=xE q.part;obtain ⟨q1,AF⟩:=xE q.version;obtain ⟨q2,uf⟩:=xE q.aV;obtain ⟨q3,NS⟩:=xE q.mem;obtain ⟨q4,qz⟩:=xE q.fuel;obtain ⟨q5,hq5⟩:=xE q.aM;obtain ⟨q6,xI⟩:=xE q.ax;obtain ⟨q7,hq7⟩:=xE q.code.length;have HQV:=af (show ∀(A:Option Addr) (c:Nat),q.val A c=.agg #[ae aa q0,ae aa q1,ae aa q2,ae aa q3,ae aa q4,ae aa q5,ae aa q6,.slice A q7 c] from fun A c=>by rw [NT,AF,uf,NS,qz,hq5,xI,hq7];rfl);have HJ7:=af hj7;clear hj hj0 NZ BS hj3 uO hj5 hj6 hj7 hq NT AF uf NS qz hq5 xI hq7 kb;obtain ⟨I,hI⟩:=xE w1.heap.size;obtain ⟨w2,eh⟩:=xE (w1.alloc (.cells #[ae aa j0,ae aa j1,ae aa j2,ae aa j3,ae aa j4,ae aa j5,ae aa j6,.slice A j7 cA] 26));have h2:=nX.o.st.new 26 #[ae aa j0,ae aa j1,ae aa j2,ae aa j3,ae aa j4,ae aa j5,ae aa j6,.slice A j7 cA];rw [←hI,←eh] at h2;have iy:=af (nX.o.move h2.swap);have DO:=af (XR iy.o (p:Int));have HI:=af hI;have jf:=af eh;obtain ⟨s1,j8⟩:∃v,v=(nE D (p:Int)).1.aC:=⟨_,rfl⟩
   obtain ⟨s2,pK⟩:∃v,v=(nE D (p:Int)).1.size:=⟨_,rfl⟩
   obtain ⟨s3,yV⟩:∃v,v=(nE D (p:Int)).1.bf:=⟨_,rfl⟩
   have ud:(nE D (p:Int)).1.val=.agg #[ae aa s1,ae aa s2,ae aa s3]:=by rw [j8,pK,yV];rfl
   obtain ⟨ha,Lq⟩:=xE y.2.sp.has;obtain ⟨hb,hhb⟩:∃v,v=(nE D (p:Int)).2:=⟨_,rfl⟩
   rw [ud,←hhb,←yd.o] at DO
   have WC:=af (show (nE D (p:Int)).1=y.2.sp.st ↔ s1=y.2.sp.st.aC∧s2=y.2.sp.st.size∧s3=y.2.sp.st.bf by
    rw [j8,pK,yV];cases (nE D (p:Int)).1;cases y.2.sp.st
    simp only [aR.mk.injEq])
   have oO:=af hhb;have zt:=af Lq;clear h2 hI eh j8 pK yV ud Lq hhb;go_upto_region 5 with fail;rw [←jf.o,←HI.o];go_wp2_with fail;refine DO.o.mono ?_;rintro e w3 ⟨rfl,cm⟩;have Gf:=af (iy.o.below cm);clear cm DO;dsimp only;obtain ⟨T,hT⟩:=xE w3.heap.size;obtain ⟨w4,dW⟩:=xE (w3.alloc (.cells #[ae aa s1,ae aa s2,ae aa s3] 31));have h4:=Gf.o.st.new 31 #[ae aa s1,ae aa s2,ae aa s3];rw [←hT,←dW] at h4;have uw:=af (Gf.o.move h4.swap);have HT:=af hT;have kL:=af dW;clear h4 hT dW;go_upto_region 6 with fail;rw [←kL.o,←HT.o];obtain ⟨r0,ph⟩:=xE y.2.aw.part;obtain ⟨r1,wK⟩:=xE y.2.aw.seq;obtain ⟨r2,mL⟩:=xE y.2.aw.au;obtain ⟨r3,Ss⟩:=xE y.2.aw.aj;obtain ⟨r4,sS⟩:=xE y.2.aw.left;obtain ⟨r5,Iz⟩:=xE y.2.aw.bad;have kA:=af (show r0=y.2.aw.part∧r1=y.2.aw.seq∧r2=y.2.aw.au∧r3=y.2.aw.aj∧r4=y.2.aw.left∧r5=y.2.aw.bad from ⟨ph,wK,mL,Ss,sS,Iz⟩);have HRV:=af (show y.2.aw.val=.agg #[ae aa r0,ae aa r1,ae aa r2,ae aa r3,ae aa r4,ae aa r5] by rw [ph,wK,mL,Ss,sS,Iz];rfl);obtain ⟨b,off,c,bS,oS,cS,bI,oI,cI,qy⟩:=Mw.o w4 _ (uw.o.st.pick 4 rfl);have Gi:=af qy;have x5:=qy.x5;have lX:=qy.lX;have lb:=qy.lb;have q0:w4.cell? ⟨b,off+p*8,none⟩=some (ae aa r0):=qy.row 0 _ (by omega) (by rw [ph];rfl);have q1:w4.cell? ⟨b,off+p*8+1,none⟩=some (ae aa r1):=qy.row 1 _ (by omega) (by rw [wK];rfl);have q2:w4.cell? ⟨b,off+p*8+2,none⟩=some (ae aa r2):=qy.row 2 _ (by omega) (by rw [mL];rfl);have q3:w4.cell? ⟨b,off+p*8+3,none⟩=some (ae aa r3):=qy.row 3 _ (by omega) (by rw [Ss];rfl);have q4:w4.cell? ⟨b,off+p*8+4,none⟩=some (ae aa r4):=qy.row 4 _ (by omega) (by rw [sS];rfl);have q5:w4.cell? ⟨b,off+p*8+5,none⟩=some (ae aa r5):=qy.row 5 _ (by omega) (by rw [Iz];rfl);have q6:w4.cell? ⟨b,off+p*8+6,none⟩=some (.slice (some ⟨bS,oS,none⟩) 2 cS):=qy.row 6 _ (by omega) (by rw [←qy.eS];rfl);have q7:w4.cell? ⟨b,off+p*8+7,none⟩=some (.slice (some ⟨bI,oI,none⟩) 2 cI):=qy.row 7 _ (by omega) (by rw [←qy.eI];rfl);obtain ⟨kk,IG,aaB⟩:∃kk:Nat,1-y.2.aw.aj=kk∧kk < 2:=⟨(1-y.2.aw.aj).toNat,by omega,by omega⟩
   obtain ⟨e1,SP⟩:=xE y.2.sp.st.aC;obtain ⟨e2,SN⟩:=xE y.2.sp.st.size;obtain ⟨e3,Ob⟩:=xE y.2.sp.st.bf
   have dk:∀m u,m < 4→([.bool y.2.sp.has,ae aa y.2.sp.st.aC,ae aa y.2.sp.st.size,ae aa y.2.sp.st.bf]:List Value)[m]?=some u→w4.cell? ⟨bS,oS+kk*5+m,none⟩=some u:=fun m u hm hu=>by
    rw [Nat.add_assoc];refine qy.slots _ _ ?_;unfold RP.sp at hu;rcases (by omega:kk=0∨kk=1) with rfl|rfl
    ·rw [if_pos (by omega)] at hu;rw [List.getElem?_append_left (by show 0*5+m < 5;omega),Nat.zero_mul,Nat.zero_add];rcases (by omega:m=0∨m=1∨m=2∨m=3) with rfl|rfl|rfl|rfl<;>exact hu
    ·rw [if_neg (by omega)] at hu;rw [List.getElem?_append_right (by show 5≤1*5+m;omega),show 1*5+m-(bO y.2.s0 y.1.v0).length=m by show 1*5+m-5=m;omega];rcases (by omega:m=0∨m=1∨m=2∨m=3) with rfl|rfl|rfl|rfl<;>exact hu
   have lJ:=af (show w4.cell? ⟨bS,oS+kk*5,none⟩=some (.bool ha)∧w4.cell? ⟨bS,oS+kk*5+1,none⟩=some (ae aa e1)∧w4.cell? ⟨bS,oS+kk*5+2,none⟩=some (ae aa e2)∧w4.cell? ⟨bS,oS+kk*5+3,none⟩=some (ae aa e3)∧bS < w4.heap.size from ⟨by rw [zt.o];exact dk 0 _ (by omega) rfl,by rw [SP];exact dk 1 _ (by omega) rfl,by rw [SN];exact dk 2 _ (by omega) rfl,by rw [Ob];exact dk 3 _ (by omega) rfl,qy.lS⟩);rw [←SP,←SN,←Ob] at WC;have adu:=af aaB;have nQ:IntKind.i64.wrap (1-r3)=(kk:Int):=by rw [Ss,IG,IntWalk.i64_in _ (by omega)]
   have adb:=af (fun (w':World) (hb:Below w4.heap.size w4 w')=>Rr (Gi.o.over hb) aH (by rw [←mL] at wQ;rw [←mL];exact wQ));have HRU:=af (fun (w':World) (l':List aI) (ak:St w0 w' (aZ ad t d m xs::l'))=>U4 (uw.o.move ak) (p:Int));clear dk ph wK mL Ss sS Iz IG SP SN Ob pM wQ qy;obtain ⟨O,hO⟩:=xE w4.heap.size;obtain ⟨w5,eD⟩:=xE (w4.alloc (.cells #[ae aa r0,ae aa r1,ae aa r2,ae aa r3,ae aa r4,ae aa r5,.slice (some ⟨bS,oS,none⟩) 2 cS,.slice (some ⟨bI,oI,none⟩) 2 cI] 65));have h5:=uw.o.st.new 65 #[ae aa r0,ae aa r1,ae aa r2,ae aa r3,ae aa r4,ae aa r5,.slice (some ⟨bS,oS,none⟩) 2 cS,.slice (some ⟨bI,oI,none⟩) 2 cI];rw [←hO,←eD] at h5;have sY:=af (uw.o.move h5.swap);have WN:=af (show Below w4.heap.size w4 w5 by rw [eD];exact (Below.refl _ w4).alloc (Nat.le_refl _) _);have r3c:=h5.row.1.c3;have lO:=h5.row.1.lt;have HO:=af hO;have sO:=af eD;clear h5 hO eD;go_upto_region 7 with fail;rw [←sO.o,←HO.o];clear q0 q1 q2 q3 q4 q5 q6 q7 x5 lX lb
   have OI:=af (fun (w':World) (hb:Below w5.heap.size w5 w')=>show w'.cell? ⟨I,0,none⟩=some (ae aa j0)∧w'.cell? ⟨I,1,none⟩=some (ae aa j1)∧w'.cell? ⟨I,2,none⟩=some (ae aa j2)∧w'.cell? ⟨I,3,none⟩=some (ae aa j3)∧w'.cell? ⟨I,4,none⟩=some (ae aa j4)∧w'.cell? ⟨I,5,none⟩=some (ae aa j5)∧w'.cell? ⟨I,6,none⟩=some (ae aa j6)∧w'.cell? ⟨I,7,none⟩=some (.slice A j7 cA)∧I < w'.heap.size∧w'.cell? ⟨T,0,none⟩=some (ae aa s1)∧w'.cell? ⟨T,1,none⟩=some (ae aa s2)∧w'.cell? ⟨T,2,none⟩=some (ae aa s3)∧T < w'.heap.size∧w'.cell? ⟨O,0,none⟩=some (ae aa r0)∧w'.cell? ⟨O,1,none⟩=some (ae aa r1)∧w'.cell? ⟨O,2,none⟩=some (ae aa r2)∧w'.cell? ⟨O,3,none⟩=some (ae aa r3)∧w'.cell? ⟨O,4,none⟩=some (ae aa r4)∧w'.cell? ⟨O,5,none⟩=some (ae aa r5)∧w'.cell? ⟨O,6,none⟩=some (.slice (some ⟨bS,oS,none⟩) 2 cS)∧w'.cell? ⟨O,7,none⟩=some (.slice (some ⟨bI,oI,none⟩) 2 cI)∧O < w'.heap.size∧w'.cell? ⟨bS,oS+kk*5,none⟩=some (.bool ha)∧w'.cell? ⟨bS,oS+kk*5+1,none⟩=some (ae aa e1)∧w'.cell? ⟨bS,oS+kk*5+2,none⟩=some (ae aa e2)∧w'.cell? ⟨bS,oS+kk*5+3,none⟩=some (ae aa e3)∧bS < w'.heap.size from by
    have h:=sY.o.st.below hb;have ra:=(h.pick 3 rfl).row.1;have rb:=(h.pick 2 rfl).row.1;have rc:=(h.pick 1 rfl).row.1;have nB:=WN.o.trans (hb.mono WN.o.size);obtain ⟨a0,a1,a2,a3,a4⟩:=lJ.o
    exact ⟨ra.cell 0,ra.cell 1,ra.cell 2,ra.cell 3,ra.cell 4,ra.cell 5,ra.cell 6,ra.cell 7,ra.lt,rb.cell 0,rb.cell 1,rb.cell 2,rb.lt,rc.cell 0,rc.cell 1,rc.cell 2,rc.cell 3,rc.cell 4,rc.cell 5,rc.cell 6,rc.cell 7,rc.lt,(nB.cell a4).trans a0,(nB.cell a4).trans a1,(nB.cell a4).trans a2,(nB.cell a4).trans a3,Nat.lt_of_lt_of_le a4 nB.size⟩)
   have mN:=af (adb.o w5.drew WN.o.drew);rw [←HQ.o,HQV.o] at mN;have j9:=HCC.o w5 _ ((sY.o.st.pick 5 rfl).swap) y.2.aw.au;have Hl:=af (fun (w':World) (hb:Below w5.heap.size w5 w')=>show Sl w' w'.heap.size 1 (y.1.K y.2.aw.au).1 q.code.length (aP q.code) from by rw [HQ.o];exact (j9.1.below hb).more hb.size);have jr:=af (show q.code.length≤1000000 by rw [HQ.o];exact j9.2);have adt:=af (show j.code.length≤1000000 by rw [HJ.o];exact kz.o.2);have adg:=af (fun (w':World) (hb:Below w5.heap.size w5 w')=>show Sl w' w'.heap.size 1 A j.code.length (aP j.code) from Sl.bP (((sY.o.st.below hb).pick 4 rfl).own));obtain ⟨KA,IL⟩:∃v,v=(y.1.K y.2.aw.au).1:=⟨_,rfl⟩
   obtain ⟨Kc,LC⟩:∃v,v=(y.1.K y.2.aw.au).2:=⟨_,rfl⟩
   rw [←IL,←LC] at mN;rw [←IL] at Hl;have Gh:=af (fun (w':World) (hb:Below w5.heap.size w5 w')=>UW w' j q A KA cA Kc (adg.o w' hb) (Hl.o w' hb) adt.o jr.o);rw [HJV.o,HQV.o,←bh.o] at Gh;have mO:=af (fun (w':World) (hb:Below w5.heap.size w5 w')=>HRU.o w' _ (sY.o.st.below hb));obtain ⟨u0,qI⟩:∃v,v=(lW D (p:Int)).part:=⟨_,rfl⟩
   obtain ⟨u1,hu1⟩:∃v,v=(lW D (p:Int)).seq:=⟨_,rfl⟩
   obtain ⟨u2,hu2⟩:∃v,v=(lW D (p:Int)).au:=⟨_,rfl⟩
   obtain ⟨u3,hu3⟩:∃v,v=(lW D (p:Int)).aj:=⟨_,rfl⟩
   obtain ⟨u4,hu4⟩:∃v,v=(lW D (p:Int)).left:=⟨_,rfl⟩
   obtain ⟨u5,hu5⟩:∃v,v=(lW D (p:Int)).bad:=⟨_,rfl⟩
   have huv:(lW D (p:Int)).val=.agg #[ae aa u0,ae aa u1,ae aa u2,ae aa u3,ae aa u4,ae aa u5]:=by rw [qI,hu1,hu2,hu3,hu4,hu5];rfl
   rw [huv,←yd.o] at mO
   have JB:=af (show lW D (p:Int)=y.2.aw ↔ u0=r0∧u1=r1∧u2=r2∧u3=r3∧u4=r4∧u5=r5 by
    rw [qI,hu1,hu2,hu3,hu4,hu5,kA.o.1,kA.o.2.1,kA.o.2.2.1,kA.o.2.2.2.1,kA.o.2.2.2.2.1,kA.o.2.2.2.2.2];cases lW D (p:Int);cases y.2.aw
    simp only [Rec.mk.injEq])
   clear qI hu1 hu2 hu3 hu4 hu5 huv
   have Cu:=af (fun (w':World) (hb:Below w5.heap.size w5 w')=>show qG w0 w' ad t d m xs D (bK X tv v P ys::l) from
    bH.o.move (((((((sY.o.st.below hb).pick 1 rfl).drop.pick 1 rfl).drop.pick 1 rfl).drop.pick 1 rfl).drop)))
   clear j9 IL LC aaB;have kk0:(0:Int)≤(kk:Int):=by omega
   have kk2:(kk:Int) < 2:=by have:=adu.o;omega
   go_upto_region 8 with fail;refine eb (fun w'=>w'.cell? ⟨I,0,none⟩=some (ae aa j0)∧w'.cell? ⟨I,1,none⟩=some (ae aa j1)∧w'.cell? ⟨I,2,none⟩=some (ae aa j2)∧w'.cell? ⟨I,3,none⟩=some (ae aa j3)∧w'.cell? ⟨I,4,none⟩=some (ae aa j4)∧w'.cell? ⟨I,5,none⟩=some (ae aa j5)∧w'.cell? ⟨I,6,none⟩=some (ae aa j6)∧w'.cell? ⟨I,7,none⟩=some (.slice A j7 cA)∧I < w'.heap.size∧w'.cell? ⟨T,0,none⟩=some (ae aa s1)∧w'.cell? ⟨T,1,none⟩=some (ae aa s2)∧w'.cell? ⟨T,2,none⟩=some (ae aa s3)∧T < w'.heap.size∧w'.cell? ⟨O,0,none⟩=some (ae aa r0)∧w'.cell? ⟨O,1,none⟩=some (ae aa r1)∧w'.cell? ⟨O,2,none⟩=some (ae aa r2)∧w'.cell? ⟨O,3,none⟩=some (ae aa r3)∧w'.cell? ⟨O,4,none⟩=some (ae aa r4)∧w'.cell? ⟨O,5,none⟩=some (ae aa r5)∧w'.cell? ⟨O,6,none⟩=some (.slice (some ⟨bS,oS,none⟩) 2 cS)∧w'.cell? ⟨O,7,none⟩=some (.slice (some ⟨bI,oI,none⟩) 2 cI)∧O < w'.heap.size∧w'.cell? ⟨bS,oS+kk*5,none⟩=some (.bool ha)∧w'.cell? ⟨bS,oS+kk*5+1,none⟩=some (ae aa e1)∧w'.cell? ⟨bS,oS+kk*5+2,none⟩=some (ae aa e2)∧w'.cell? ⟨bS,oS+kk*5+3,none⟩=some (ae aa e3)∧bS < w'.heap.size) (by kernel_rfl) (OI.o w5.drew (Below.refl w5.heap.size w5).drew) (fun bJ=>?_);(refine ah 0 ?_;(try simp only [ai]));(refine ah 1 ?_;(try simp only [ai]));(refine ah 2 ?_;(try simp only [ai]));(refine ah 3 ?_;(try simp only [ai]));(refine ah 4 ?_;(try simp only [ai]));(refine ah 5 ?_;(try simp only [ai]));(refine dQ 6 ?_;(try simp only [xG]);go_simp);refine mN.o.mono ?_;rintro e w6 ⟨rfl,hb⟩;have pA:=af ((Below.refl w5.heap.size w5).drew.trans (hb.mono (Below.refl w5.heap.size w5).drew.size));clear hb;dsimp only;(refine cu (OI.o w6 pA.o) (fun bJ=>?_);(try simp only [ai]));(refine dQ 7 ?_;(try simp only [xG]);go_simp);refine (Gh.o w6 pA.o).mono ?_;rintro e w7 ⟨rfl,hb⟩;have xn:=af (pA.o.trans (hb.mono pA.o.size));clear hb;dsimp only;(refine cu (OI.o w7 xn.o) (fun bJ=>?_);(try simp only [ai]));cases b1 with
   | false =>
     have MI:=af (Cu.o w7 xn.o);(refine ah 8 ?_;(try simp only [ai]));(refine ah 9 ?_;(try simp only [ai]));(refine ah 10 ?_;(try simp only [ai]));(refine az 11 (by kernel_rfl) (fun _ _ _ _ _ h=>h) (by rfl) (by assumption) ?_;(try simp only [ai]));(refine az 12 (by kernel_rfl) (fun _ _ _ _ _ h=>h) (by rfl) (by assumption) ?_;(try simp only [ai]));(refine az 13 (by kernel_rfl) (fun _ _ _ _ _ h=>h) (by rfl) (by assumption) ?_;(try simp only [ai]));(refine az 14 (by kernel_rfl) (fun _ _ _ _ _ h=>h) (by rfl) (by assumption) ?_;(try simp only [ai]));(refine az 15 (by kernel_rfl) (fun _ _ _ _ _ h=>h) (by rfl) (by assumption) ?_;(try simp only [ai]));(refine az 16 (by kernel_rfl) (fun _ _ _ _ _ h=>h) (by rfl) (by assumption) ?_;(try simp only [ai]));(refine ah 17 ?_;(try simp only [ai]));(refine ah 18 ?_;(try simp only [ai]));(refine az 19 (by kernel_rfl) (fun _ _ _ _ _ h=>h) (by rfl) (by assumption) ?_;(try simp only [ai]));(refine az 20 (by kernel_rfl) (fun _ _ _ _ _ h=>h) (by rfl) (by assumption) ?_;(try simp only [ai]));(refine az 21 (by kernel_rfl) (fun _ _ _ _ _ h=>h) (by rfl) (by assumption) ?_;(try simp only [ai]));(refine az 22 (by kernel_rfl) (fun _ _ _ _ _ h=>h) (by rfl) (by assumption) ?_;(try simp only [ai]));(refine az 23 (by kernel_rfl) (fun _ _ _ _ _ h=>h) (by rfl) (by assumption) ?_;(try simp only [ai]));(refine az 24 (by kernel_rfl) (fun _ _ _ _ _ h=>h) (by rfl) (by assumption) ?_;(try simp only [ai]));(refine az 25 (by kernel_rfl) (fun _ _ _ _ _ h=>h) (by rfl) (by assumption) ?_;(try simp only [ai]));(refine az 26 (by kernel_rfl) (fun _ _ _ _ _ h=>h) (by rfl) (by assumption) ?_;(try simp only [ai]));(refine ah 27 ?_;(try simp only [ai]));(refine ah 28 ?_;(try simp only [ai]));(refine az 29 (by kernel_rfl) (fun _ _ _ _ _ h=>h) (by rfl) (by assumption) ?_;(try simp only [ai]));(refine az 30 (by kernel_rfl) (fun _ _ _ _ _ h=>h) (by rfl) (by assumption) ?_;(try simp only [ai]));(refine az 31 (by kernel_rfl) (fun _ _ _ _ _ h=>h) (by rfl) (by assumption) ?_;(try simp only [ai]));(refine az 32 (by kernel_rfl) (fun _ _ _ _ _ h=>h) (by rfl) (by assumption) ?_;(try simp only [ai]));(refine az 33 (by kernel_rfl) (fun _ _ _ _ _ h=>h) (by rfl) (by assumption) ?_;(try simp only [ai]));(refine az 34 (by kernel_rfl) (fun _ _ _ _ _ h=>h) (by rfl) (by assumption) ?_;(try simp only [ai]));(refine az 35 (by kernel_rfl) (fun _ _ _ _ _ h=>h) (by rfl) (by assumption) ?_;(try simp only [ai]));(refine az 36 (by kernel_rfl) (fun _ _ _ _ _ h=>h) (by rfl) (by assumption) ?_;(try simp only [ai]));(refine az 37 (by kernel_rfl) (fun _ _ _ _ _ h=>h) (by rfl) (by assumption) ?_;(try simp only [ai]));(refine az 38 (by kernel_rfl) (fun _ _ _ _ _ h=>h) (by rfl) (by assumption) ?_;(try simp only [ai]));(refine az 39 (by kernel_rfl) (fun _ _ _ _ _ h=>h) (by rfl) (by assumption) ?_;(try simp only [ai]));(refine ah 40 ?_;(try simp only [ai]));refine dw (by kernel_rfl) ?_;clear bJ;go_wp2_with fail;go_ret;exact ⟨false,rfl,MI.o,fun h=>absurd (bh.o.trans (Rk.2 (HJ.o.trans ((lL.o h).2.1.trans HQ.o.symm)))) (by decide),fun h=>nomatch h⟩
   | true =>
     (refine ah 8 ?_;(try simp only [ai]));(refine ah 9 ?_;(try simp only [ai]));(refine ah 10 ?_;(try simp only [ai]));(refine ah 11 ?_;(try simp only [ai]));(refine ah 12 ?_;(try simp only [ai]));(refine ah 14 ?_;(try simp only [ai]));(refine ah 15 ?_;(try simp only [ai]));(refine dQ 13 ?_;(try simp only [xG]);go_simp);refine (mO.o w7 xn.o).mono ?_;rintro e w8 ⟨rfl,lA⟩;have HB8:=af (xn.o.trans (lA.mono xn.o.size));have MI:=af (Cu.o w8 HB8.o);clear lA;dsimp only;(refine cu (OI.o w8 HB8.o) (fun bJ=>?_);(try simp only [ai]));by_cases hre:u0=r0∧u1=r1∧u2=r2∧u3=r3∧u4=r4∧u5=r5
     ·obtain ⟨rfl,rfl,rfl,rfl,rfl,rfl⟩:=hre;(refine ah 16 ?_;(try simp only [ai]));(refine ah 17 ?_;(try simp only [ai]));(refine ah 18 ?_;(try simp only [ai]));by_cases Lq:hb=ha
      ·subst Lq;cases hb with
       | false =>
         (refine ah 19 ?_;(try simp only [ai]));(refine ah 20 ?_;(try simp only [ai]));(refine ah 21 ?_;(try simp only [ai]));(refine ah 22 ?_;(try simp only [ai]));(refine ah 23 ?_;(try simp only [ai]));(refine ah 24 ?_;(try simp only [ai]));(refine ah 25 ?_;(try simp only [ai]));(refine ah 26 ?_;(try simp only [ai]));(refine ah 27 ?_;(try simp only [ai]));(refine ah 28 ?_;(try simp only [ai]));(refine ah 29 ?_;(try simp only [ai]));(refine ah 30 ?_;(try simp only [ai]));(refine az 31 (by kernel_rfl) (fun _ _ _ _ _ h=>h) (by rfl) (by assumption) ?_;(try simp only [ai]));(refine az 32 (by kernel_rfl) (fun _ _ _ _ _ h=>h) (by rfl) (by assumption) ?_;(try simp only [ai]));(refine az 33 (by kernel_rfl) (fun _ _ _ _ _ h=>h) (by rfl) (by assumption) ?_;(try simp only [ai]));(refine az 34 (by kernel_rfl) (fun _ _ _ _ _ h=>h) (by rfl) (by assumption) ?_;(try simp only [ai]));(refine az 35 (by kernel_rfl) (fun _ _ _ _ _ h=>h) (by rfl) (by assumption) ?_;(try simp only [ai]));(refine az 36 (by kernel_rfl) (fun _ _ _ _ _ h=>h) (by rfl) (by assumption) ?_;(try simp only [ai]));(refine az 37 (by kernel_rfl) (fun _ _ _ _ _ h=>h) (by rfl) (by assumption) ?_;(try simp only [ai]));(refine az 38 (by kernel_rfl) (fun _ _ _ _ _ h=>h) (by rfl) (by assumption) ?_;(try simp only [ai]));(refine ah 39 ?_;(try simp only [ai]));(refine ah 40 ?_;(try simp only [ai]));refine dw (by kernel_rfl) ?_;clear bJ;go_wp2_with fail;go_roundw;case rel=>exact ⟨p+1,by omega,by go_num,MI.o,DN.o ⟨JB.o.2 ⟨rfl,rfl,rfl,rfl,rfl,rfl⟩,oO.o.symm.trans zt.o,fun h=>absurd (oO.o.trans h) (by decide)⟩⟩
         case measure=>simp [intOf];omega
       | true =>
         by_cases jK:s1=e1∧s2=e2∧s3=e3
         ·obtain ⟨rfl,rfl,rfl⟩:=jK;(refine ah 19 ?_;(try simp only [ai]));(refine ah 20 ?_;(try simp only [ai]));(refine ah 21 ?_;(try simp only [ai]));(refine ah 22 ?_;(try simp only [ai]));(refine ah 23 ?_;(try simp only [ai]));(refine ah 24 ?_;(try simp only [ai]));(refine ah 25 ?_;(try simp only [ai]));(refine ah 26 ?_;(try simp only [ai]));(refine ah 27 ?_;(try simp only [ai]));(refine ah 28 ?_;(try simp only [ai]));(refine ah 29 ?_;(try simp only [ai]));(refine ah 30 ?_;(try simp only [ai]));(refine ah 31 ?_;(try simp only [ai]));(refine ah 32 ?_;(try simp only [ai]));(refine ah 33 ?_;(try simp only [ai]));(refine ah 34 ?_;(try simp only [ai]));(refine ah 35 ?_;(try simp only [ai]));(refine ah 36 ?_;(try simp only [ai]));(refine ah 37 ?_;(try simp only [ai]));(refine ah 38 ?_;(try simp only [ai]));(refine ah 39 ?_;(try simp only [ai]));(refine ah 40 ?_;(try simp only [ai]));refine dw (by kernel_rfl) ?_;clear bJ;go_wp2_with fail;go_roundw;case rel=>exact ⟨p+1,by omega,by go_num,MI.o,DN.o ⟨JB.o.2 ⟨rfl,rfl,rfl,rfl,rfl,rfl⟩,oO.o.symm.trans zt.o,fun h=>WC.o.2 ⟨rfl,rfl,rfl⟩⟩⟩
          case measure=>simp [intOf];omega
         ·have xd:=af jK;rcases ne3 jK with f0|⟨f0,f1⟩|⟨f0,f1,f2⟩
          all_goals
           clear jK;(refine ah 19 ?_;(try simp only [ai]));(refine ah 20 ?_;(try simp only [ai]));(refine ah 21 ?_;(try simp only [ai]));(refine ah 22 ?_;(try simp only [ai]));(refine ah 23 ?_;(try simp only [ai]));(refine ah 24 ?_;(try simp only [ai]));(refine ah 25 ?_;(try simp only [ai]));(refine ah 26 ?_;(try simp only [ai]));(refine ah 27 ?_;(try simp only [ai]));(refine ah 28 ?_;(try simp only [ai]));(refine ah 29 ?_;(try simp only [ai]));(refine ah 30 ?_;(try simp only [ai]));(refine ah 31 ?_;(try simp only [ai]));(refine ah 32 ?_;(try simp only [ai]));(refine ah 33 ?_;(try simp only [ai]));(refine ah 34 ?_;(try simp only [ai]));(refine ah 35 ?_;(try simp only [ai]));(refine ah 36 ?_;(try simp only [ai]));(refine ah 37 ?_;(try simp only [ai]));(refine ah 38 ?_;(try simp only [ai]));(refine ah 39 ?_;(try simp only [ai]));(refine ah 40 ?_;(try simp only [ai]));refine dw (by kernel_rfl) ?_;clear bJ;go_wp2_with fail;go_ret;exact ⟨false,rfl,MI.o,fun h=>absurd (WC.o.1 ((lL.o h).2.2.2.2 oO.o.symm)) xd.o,fun h=>nomatch h⟩
      ·have HHE:=af Lq;rcases ne1 Lq with ⟨rfl,rfl⟩|⟨rfl,rfl⟩
       all_goals
        clear Lq;(refine ah 19 ?_;(try simp only [ai]));(refine ah 20 ?_;(try simp only [ai]));(refine ah 21 ?_;(try simp only [ai]));(refine ah 22 ?_;(try simp only [ai]));(refine ah 23 ?_;(try simp only [ai]));(refine ah 24 ?_;(try simp only [ai]));(refine ah 25 ?_;(try simp only [ai]));(refine ah 26 ?_;(try simp only [ai]));(refine ah 27 ?_;(try simp only [ai]));(refine ah 28 ?_;(try simp only [ai]));(refine az 29 (by kernel_rfl) (fun _ _ _ _ _ h=>h) (by rfl) (by assumption) ?_;(try simp only [ai]));(refine az 30 (by kernel_rfl) (fun _ _ _ _ _ h=>h) (by rfl) (by assumption) ?_;(try simp only [ai]));(refine az 31 (by kernel_rfl) (fun _ _ _ _ _ h=>h) (by rfl) (by assumption) ?_;(try simp only [ai]));(refine az 32 (by kernel_rfl) (fun _ _ _ _ _ h=>h) (by rfl) (by assumption) ?_;(try simp only [ai]));(refine az 33 (by kernel_rfl) (fun _ _ _ _ _ h=>h) (by rfl) (by assumption) ?_;(try simp only [ai]));(refine az 34 (by kernel_rfl) (fun _ _ _ _ _ h=>h) (by rfl) (by assumption) ?_;(try simp only [ai]));(refine az 35 (by kernel_rfl) (fun _ _ _ _ _ h=>h) (by rfl) (by assumption) ?_;(try simp only [ai]));(refine az 36 (by kernel_rfl) (fun _ _ _ _ _ h=>h) (by rfl) (by assumption) ?_;(try simp only [ai]));(refine az 37 (by kernel_rfl) (fun _ _ _ _ _ h=>h) (by rfl) (by assumption) ?_;(try simp only [ai]));(refine az 38 (by kernel_rfl) (fun _ _ _ _ _ h=>h) (by rfl) (by assumption) ?_;(try simp only [ai]));(refine az 39 (by kernel_rfl) (fun _ _ _ _ _ h=>h) (by rfl) (by assumption) ?_;(try simp only [ai]));(refine ah 40 ?_;(try simp only [ai]));refine dw (by kernel_rfl) ?_;clear bJ;go_wp2_with fail;go_ret;exact ⟨false,rfl,MI.o,fun h=>absurd (oO.o.trans ((lL.o h).2.2.2.1.trans zt.o.symm)) HHE.o,fun h=>nomatch h⟩
     ·have HRN:=af hre;rcases ne6 hre with f0|⟨f0,f1⟩|⟨f0,f1,f2⟩|⟨f0,f1,f2,f3⟩|⟨f0,f1,f2,f3,f4⟩|⟨f0,f1,f2,f3,f4,f5⟩
      all_goals
       clear hre;(refine ah 16 ?_;(try simp only [ai]));(refine ah 17 ?_;(try simp only [ai]));(refine ah 18 ?_;(try simp only [ai]));(refine az 19 (by kernel_rfl) (fun _ _ _ _ _ h=>h) (by rfl) (by assumption) ?_;(try simp only [ai]));(refine az 20 (by kernel_rfl) (fun _ _ _ _ _ h=>h) (by rfl) (by assumption) ?_;(try simp only [ai]));(refine az 21 (by kernel_rfl) (fun _ _ _ _ _ h=>h) (by rfl) (by assumption) ?_;(try simp only [ai]));(refine az 22 (by kernel_rfl) (fun _ _ _ _ _ h=>h) (by rfl) (by assumption) ?_;(try simp only [ai]));(refine az 23 (by kernel_rfl) (fun _ _ _ _ _ h=>h) (by rfl) (by assumption) ?_;(try simp only [ai]));(refine az 24 (by kernel_rfl) (fun _ _ _ _ _ h=>h) (by rfl) (by assumption) ?_;(try simp only [ai]));(refine az 25 (by kernel_rfl) (fun _ _ _ _ _ h=>h) (by rfl) (by assumption) ?_;(try simp only [ai]));(refine az 26 (by kernel_rfl) (fun _ _ _ _ _ h=>h) (by rfl) (by assumption) ?_;(try simp only [ai]));(refine ah 27 ?_;(try simp only [ai]));(refine ah 28 ?_;(try simp only [ai]));(refine az 29 (by kernel_rfl) (fun _ _ _ _ _ h=>h) (by rfl) (by assumption) ?_;(try simp only [ai]));(refine az 30 (by kernel_rfl) (fun _ _ _ _ _ h=>h) (by rfl) (by assumption) ?_;(try simp only [ai]));(refine az 31 (by kernel_rfl) (fun _ _ _ _ _ h=>h) (by rfl) (by assumption) ?_;(try simp only [ai]));(refine az 32 (by kernel_rfl) (fun _ _ _ _ _ h=>h) (by rfl) (by assumption) ?_;(try simp only [ai]));(refine az 33 (by kernel_rfl) (fun _ _ _ _ _ h=>h) (by rfl) (by assumption) ?_;(try simp only [ai]));(refine az 34 (by kernel_rfl) (fun _ _ _ _ _ h=>h) (by rfl) (by assumption) ?_;(try simp only [ai]));(refine az 35 (by kernel_rfl) (fun _ _ _ _ _ h=>h) (by rfl) (by assumption) ?_;(try simp only [ai]));(refine az 36 (by kernel_rfl) (fun _ _ _ _ _ h=>h) (by rfl) (by assumption) ?_;(try simp only [ai]));(refine az 37 (by kernel_rfl) (fun _ _ _ _ _ h=>h) (by rfl) (by assumption) ?_;(try simp only [ai]));(refine az 38 (by kernel_rfl) (fun _ _ _ _ _ h=>h) (by rfl) (by assumption) ?_;(try simp only [ai]));(refine az 39 (by kernel_rfl) (fun _ _ _ _ _ h=>h) (by rfl) (by assumption) ?_;(try simp only [ai]));(refine ah 40 ?_;(try simp only [ai]));refine dw (by kernel_rfl) ?_;clear bJ;go_wp2_with fail;go_ret;exact ⟨false,rfl,MI.o,fun h=>absurd (JB.o.1 (lL.o h).2.2.1) HRN.o,fun h=>nomatch h⟩
  ·have Dz:p=n:=by omega
   have k1:¬(p:Int) < (n:Int):=by omega
   go_wp2_with fail;go_ret;exact ⟨true,rfl,bH.o,fun _=>rfl,fun _ q hq=>uY.o q hq (by have:=Co.o;omega)⟩
end
section
variable {A B:aI} {L l:List aI} {post pre:List Value} {w w0:World}
theorem yI {e size n:Nat} {v:Value} {c:List Value} (h:St w0 w (own e size v n (pre++(c++post))::l)) (hn:0 < n) :
  ∃(T cap:Nat) (tN:List Value),v=.slice (some ⟨T,0,none⟩) n cap∧St w0 w (row T e (pre++(c++tN))::l)∧∀(w':World) (l':List aI) (c':List Value),c'.length=c.length→St w0 w' (row T e (pre++(c'++tN))::l')→St w0 w' (own e size v n (pre++(c'++post))::l'):=by
 obtain ⟨A,cap,rfl,hc,hm⟩:=aD h.own;obtain ⟨T,xs,rfl,_,hl,ht,h2⟩:=nu h hn;obtain ⟨tl,wH⟩:=xE (xs.drop (n*size))
 have hx:xs=pre++(c++(post++tl)):=by
  rw [←List.append_assoc c,←List.append_assoc pre,←ht,wH,List.take_append_drop]
 have hle:n*size≤xs.length:=by rw [hl];exact Nat.mul_le_mul_right _ hc
 have hll:(pre++(c++post)).length=n*size:=by rw [←ht,fW];omega
 have FN:=congrArg List.length hx;rw [hx] at h2;clear wH;refine ⟨T,cap,_,rfl,h2,fun w' l' c' cZ h'=>?_⟩;have uN:(pre++(c'++post)).length=n*size:=by rw [←hll];simp [cZ]
 have h3:=h'.mE (size:=size) (n:=n) (cap:=cap) hc hm (by
  rw [←hl,FN]
  simp [cZ])
 rwa [←List.append_assoc c',←List.append_assoc pre,List.take_left' uN] at h3
theorem B8 {α β:Type} (f:α→β):∀(l:List α) (p:Nat),(l.map f).eraseIdx p=(l.eraseIdx p).map f
 | [],_=>rfl
 | a::l,0=>rfl
 | a::l,p+1=>by simp [B8 f l p]
theorem Xq (h:St w0 w (A::B::(L++l))):St w0 w (A::B::du L::l):=by
 have h2:St w0 w (L++(A::B::l)):=h.perm ((List.perm_middle.trans (List.perm_middle.cons A)).symm);exact ((St.eJ h2).pick 2 rfl).pick 2 rfl
theorem Tc (h:St w0 w (A::B::du L::l)):St w0 w (A::B::(L++l)) :=
 (h.pick 2 rfl).fI.perm (List.perm_middle.trans (List.perm_middle.cons A))
section
variable {w0 w : World} {l : List aI} {X : Nat} {tv : List Value} {v : Value} {P P' : List (Nat × List Value)} {ys : List (dv × RP)} {p : Nat}
theorem GH (h:St w0 w (bK X tv v P ys::l)) (hp:p < ys.length):(qc P ys[p].2.s0.blocks ys[p].1.pE∧qc P ys[p].2.s1.blocks ys[p].1.tU)∧St w0 w (own 118 5 ys[p].1.vS 2 (bO ys[p].2.s0 ys[p].1.v0++bO ys[p].2.s1 ys[p].1.v1)::own 24 1 ys[p].1.v0 ys[p].2.s0.blocks.length ys[p].1.pE::own 24 1 ys[p].1.v1 ys[p].2.s1.blocks.length ys[p].1.tU::own 26 8 ys[p].1.vI 2 (aq.row ys[p].2.i0 ys[p].1.K0++aq.row ys[p].2.i1 ys[p].1.K1)::dY P (ys.eraseIdx p)::row X 68 (tv++[v])::own 65 8 v ys.length (dG ys)::eG P::l):=by
 have h1:=(et h).pick 3 rfl;have h2:=(h1.PA (k:=p) (P:=mj P ys[p].1 ys[p].2) (by simp [hp])).fI;rw [B8] at h2;exact ⟨h2.fact,h2.drop⟩
theorem CM {a:dv} {x:RP} (hp:p < ys.length) (hP:∀x∈P,x∈P') (hb:qc P' x.s0.blocks a.pE∧qc P' x.s1.blocks a.tU)
  (h:St w0 w (own 118 5 a.vS 2 (bO x.s0 a.v0++bO x.s1 a.v1)::own 24 1 a.v0 x.s0.blocks.length a.pE::own 24 1 a.v1 x.s1.blocks.length a.tU::own 26 8 a.vI 2 (aq.row x.i0 a.K0++aq.row x.i1 a.K1)::dY P (ys.eraseIdx p)::row X 68 (tv++[v])::own 65 8 v ys.length (dG (ys.set p (a,x)))::eG P'::l)):St w0 w (bK X tv v P' (ys.set p (a,x))::l):=by
 have h1:=(tM hP (h.pick 4 rfl)).perm (l':=own 118 5 a.vS 2 (bO x.s0 a.v0++bO x.s1 a.v1)::own 24 1 a.v0 x.s0.blocks.length a.pE::own 24 1 a.v1 x.s1.blocks.length a.tU::own 26 8 a.vI 2 (aq.row x.i0 a.K0++aq.row x.i1 a.K1)::dY P' (ys.eraseIdx p)::row X 68 (tv++[v])::own 65 8 v ys.length (dG (ys.set p (a,x)))::eG P'::l) (by
  exact (List.perm_middle (l₁:=[_,_,_,_])).symm)
 have h2:St w0 w (mj P' a x::dY P' (ys.eraseIdx p)::row X 68 (tv++[v])::own 65 8 v ys.length (dG (ys.set p (a,x)))::eG P'::l):=St.eJ (L:=[_,_,_,_,_]) (h1.addFact hb)
 have h3:St w0 w (dY P' (ys.set p (a,x))::row X 68 (tv++[v])::own 65 8 v ys.length (dG (ys.set p (a,x)))::eG P'::l):=by
  unfold dY at h2 ⊢;rw [←B8] at h2;have h4:=h2.ZV (by simpa using hp);rw [List.map_set];exact h4
 have h5:=h3.perm (l':=row X 68 (tv++[v])::own 65 8 v ys.length (dG (ys.set p (a,x)))::eG P'::dY P' (ys.set p (a,x))::l) (List.perm_middle (l₁:=[_,_,_])).symm;refine rF ?_;rw [List.length_set];exact h5
theorem vg {y:dv×RP} (hp:p < ys.length) (hy:l6 y=l6 ys[p]):dG (ys.set p y)=dG ys:=by
 unfold dG;rw [List.map_set,hy,←List.map_set,List.set_getElem_self]
theorem XS (h:St w0 w (bK X tv v P ys::l)) (hp:p < ys.length) {k:Int} (hk:k=0∨k=1):∃(T c:Nat) (pre post:List Value) (F:aI),pre.length=k.toNat*5∧ys[p].1.vS=.slice (some ⟨T,0,none⟩) 2 c∧St w0 w (nr T pre post P (ys[p].2.slot k)::eG P::F::l)∧
  ∀(w':World) (P':List (Nat×List Value)) (R:RS) (l':List aI),(∀x∈P,x∈P')→St w0 w' (nr T pre post P' R::eG P'::F::l')→∃a:dv,(a.K0=ys[p].1.K0∧a.K1=ys[p].1.K1)∧St w0 w' (bK X tv v P' (ys.set p (a,ys[p].2.bj k R))::l'):=by
 obtain ⟨⟨b0,b1⟩,h1⟩:=GH h hp;rcases hk with rfl|rfl
 ·obtain ⟨T,c,tN,e,h2,hb⟩:=yI (n:=2) (pre:=[]) (c:=bO ys[p].2.s0 ys[p].1.v0) (post:=bO ys[p].2.s1 ys[p].1.v1) h1 (by omega);refine ⟨T,c,[],tN,_,rfl,e,Xq (L:=[_,_,_,_,_]) ((mh b0 h2).pick 6 rfl).swap,fun w' P' R l' hP h'=>?_⟩;obtain ⟨v',Hr,gF,h3⟩:=nL (Tc h');have h4:=((hb w' _ (bO R v') rfl h3).pick 2 rfl).perm (List.perm_middle (l₁:=[_,_,_,_,_,_,_])).symm;refine ⟨{ ys[p].1 with v0:=v',pE:=Hr },⟨rfl,rfl⟩,CM hp hP ⟨gF,b1.mono hP⟩ ?_⟩;rw [←vg (y:=({ ys[p].1 with v0:=v',pE:=Hr },ys[p].2.bj 0 R)) hp rfl] at h4;exact h4
 ·obtain ⟨T,c,tN,e,h2,hb⟩:=yI (n:=2) (pre:=bO ys[p].2.s0 ys[p].1.v0) (c:=bO ys[p].2.s1 ys[p].1.v1) (post:=[]) h1 (by omega);refine ⟨T,c,_,tN,_,rfl,e,Xq (L:=[_,_,_,_,_]) ((mh b1 ((h2.pick 2 rfl).swap)).pick 6 rfl).swap,fun w' P' R l' hP h'=>?_⟩;obtain ⟨v',Hr,gF,h3⟩:=nL (Tc h');have h4:=(((hb w' _ (bO R v') rfl h3).pick 2 rfl).perm (List.perm_middle (l₁:=[_,_,_,_,_,_,_])).symm)
  have h5:=(h4.pick 2 rfl).pick 1 rfl;refine ⟨{ ys[p].1 with v1:=v',tU:=Hr },⟨rfl,rfl⟩,CM hp hP ⟨b0.mono hP,gF⟩ ?_⟩;rw [←vg (y:=({ ys[p].1 with v1:=v',tU:=Hr },ys[p].2.bj 1 R)) hp rfl] at h5;exact h5
theorem Pd {T o:Nat} {R:RS} (ho:pre.length=o) (h:St w0 w (nr T pre post P R::l)):∃cs:List Value,Row w T 118 cs∧o+5≤cs.length∧
  St w0 (w.setRow T (cs.take o++([.bool false,ae aa 0,ae aa 0,ae aa 0,.slice none 0 0]:List Value)++cs.drop (o+5)).toArray) (nr T pre post P RS.none::l):=by
 obtain ⟨v',Hr,gF,h3⟩:=nL h;refine ⟨_,h3.row.1,by simp [bO,ho],?_⟩;have h4:=h3.setRow (pre++(bO RS.none (.slice none 0 0)++post));have h6:=((h4.pick 1 rfl).drop).cX (e:=24) (size:=1) (v:=.slice none 0 0) (n:=0) (xs:=[]) (Below.refl _ _) ⟨rfl,.inl ⟨rfl,rfl⟩⟩;have h7:=mh (R:=RS.none) (v:=.slice none 0 0) (vs:=[]) (P:=P) ⟨rfl,fun i b v h=>by simp [RS.none] at h⟩ h6.swap
 have he:(pre++(bO R v'++post)).take o++([.bool false,ae aa 0,ae aa 0,ae aa 0,.slice none 0 0]:List Value)++(pre++(bO R v'++post)).drop (o+5)=pre++(bO RS.none (.slice none 0 0)++post) :=
  GM ho 0 [.bool false,ae aa 0,ae aa 0,ae aa 0,.slice none 0 0] (by simp [bO])
 rw [he];exact h7
end
end
section
variable {P':List (Nat×List Value)} {b:Nat}
section
variable {w0 w : World} {l : List aI} {X : Nat} {tv : List Value} {v : Value} {P : List (Nat × List Value)} {ys : List (dv × RP)} {p : Nat}
theorem zJ (h:St w0 w (bK X tv v P ys::l)) (il:tv.length=5):∃A c,w.cell? ⟨X,5,none⟩=some (.slice A ys.length c)∧X < w.heap.size:=by
 have h1:=et h;obtain ⟨A,c,hv,_,_⟩:=aD (h1.pick 1 rfl).own;refine ⟨A,c,?_,h1.row.1.lt⟩;rw [h1.row.1.cell 5,List.getElem?_append_right (by omega),il,hv];rfl
theorem uS.recs {n:Nat} {y:dv×RP} {off c bS oS cS bI oI cI:Nat} (h:uS w X n p y b off c bS oS cS bI oI cI):w.cell? ⟨b,off+p*8,none⟩=some (ae aa y.2.aw.part)∧w.cell? ⟨b,off+p*8+1,none⟩=some (ae aa y.2.aw.seq)∧w.cell? ⟨b,off+p*8+2,none⟩=some (ae aa y.2.aw.au)∧w.cell? ⟨b,off+p*8+3,none⟩=some (ae aa y.2.aw.aj)∧w.cell? ⟨b,off+p*8+4,none⟩=some (ae aa y.2.aw.left)∧w.cell? ⟨b,off+p*8+5,none⟩=some (ae aa y.2.aw.bad)∧w.cell? ⟨b,off+p*8+6,none⟩=some (.slice (some ⟨bS,oS,none⟩) 2 cS)∧w.cell? ⟨b,off+p*8+7,none⟩=some (.slice (some ⟨bI,oI,none⟩) 2 cI)∧b < w.heap.size :=
 ⟨h.row 0 _ (by omega) rfl,h.row 1 _ (by omega) rfl,h.row 2 _ (by omega) rfl,h.row 3 _ (by omega) rfl,h.row 4 _ (by omega) rfl,h.row 5 _ (by omega) rfl,h.row 6 _ (by omega) (by rw [←h.eS];rfl),h.row 7 _ (by omega) (by rw [←h.eI];rfl),h.lb⟩
theorem uS.slot {n:Nat} {y:dv×RP} {b off c bS oS cS bI oI cI:Nat} (h:uS w X n p y b off c bS oS cS bI oI cI) {k:Nat} (hk:k < 2):w.cell? ⟨bS,oS+k*5,none⟩=some (.bool (y.2.slot k).has)∧w.cell? ⟨bS,oS+k*5+1,none⟩=some (ae aa (y.2.slot k).st.aC)∧bS < w.heap.size:=by
 rcases (by omega:k=0∨k=1) with rfl|rfl
 ·exact ⟨h.slots 0 _ rfl,h.slots 1 _ rfl,h.lS⟩
 ·exact ⟨h.slots 5 _ rfl,h.slots 6 _ rfl,h.lS⟩
theorem rW (hp:p < ys.length):(ys.map (·.2)).getD p default=ys[p].2:=by simp [dD,hp]
theorem JT (hp:p < ys.length):(bw (ys.map (·.2))).getD p default=ys[p].2.dp:=by rw [kY,rW hp]
theorem vN:(bw (ys.map (·.2))).length=ys.length:=by simp [bw]
theorem D4 (h:St w0 w (bK X tv v P ys::l)) (il:tv.length=5) (q:Int):Calls Tryz.prog 106 #[.pointer (some ⟨X,0,none⟩),ae aa q] w fun e w'=>e=.returned (ae aa (bU (bw (ys.map (·.2))) q))∧Below w.heap.size w w':=by
 by_cases hq:q < 0∨(ys.length:Int)≤q
 ·obtain ⟨A,c,x5,lX⟩:=zJ h il;have e:bU (bw (ys.map (·.2))) q=3:=by unfold bU;rw [vN,if_pos hq]
  rw [e];clear e h;generalize ys.length=n at *;rcases (by omega:q < 0∨(0≤q∧(n:Int)≤q)) with h0|⟨h0,h1⟩
  all_goals
   go_enter Tryz.func106,Tryz.ntmps106;go_wp2_with fail;go_ret;exact ⟨rfl,Below.refl _ _⟩
 ·obtain ⟨p,rfl⟩:=Int.eq_ofNat_of_zero_le (by omega:0≤q);have hp:p < ys.length:=by omega
  have e:bU (bw (ys.map (·.2))) (p:Int)=if ys[p].2.aw.au=ys[p].2.aw.aj then 0 else 18:=by
   unfold bU;rw [vN,if_neg hq,dC,JT hp];by_cases g:ys[p].2.aw.au=ys[p].2.aw.aj
   ·rw [if_pos g,if_neg (by simp [DP.ay,RP.dp,g])]
   ·rw [if_neg g,if_pos (by simp [DP.ay,RP.dp,g])]
  obtain ⟨b,off,c,bS,oS,cS,bI,oI,cI,ha⟩:=vC h il hp;obtain ⟨-,-,r2,r3,-,-,-,-,lb⟩:=ha.recs;have x5:=ha.x5;have lX:=ha.lX;rw [e];have k1:(p:Int) < (ys.length:Int):=by omega
  clear e ha h;generalize ys[p].2.aw.au=ra,ys[p].2.aw.aj=rc at *;clear hp hq;generalize ys.length=n at *;have k0:(0:Int)≤(p:Int):=by omega
  by_cases g:ra=rc;case' pos=>have g2:(ra != rc)=false:=by simpa using g
  case' neg=>have g2:(ra != rc)=true:=by simpa using g
  all_goals
   first|rw [if_pos g]|rw [if_neg g]
   clear g;go_enter Tryz.func106,Tryz.ntmps106;go_wp2_with fail;go_quiet (fail);go_wp2_with fail;go_ret;exact ⟨rfl,below_drewN (Below.refl _ _) _⟩
theorem tT {o k:Nat} {r:Int} (h:w.cell? ⟨b,o+3,none⟩=some (ae aa r)) (hb:b < w.heap.size) (hr:1-r=(k:Int)) (hk:k < 2):Calls Tryz.prog 107 #[.pointer (some ⟨b,o,none⟩)] w fun e w'=>e=.returned (ae aa k)∧w'=w:=by
 have hw:IntKind.i64.wrap (1-r)=k:=by rw [hr,IntWalk.i64_in _ (by omega)]
 clear hr hk;go_enter Tryz.func107,Tryz.ntmps107;go_wp2_with fail;go_ret;exact ⟨rfl,rfl⟩
theorem Ns {x:RP} (h:x.aw.right=true):∃k:Nat,k < 2∧1-x.aw.aj=(k:Int)∧x.pG=k:=by
 have:=eu.iZ h;exact ⟨(1-x.aw.aj).toNat,by omega,by omega,by unfold RP.pG;omega⟩
def wV (w0:World) (P:List (Nat×List Value)) (K:Option Addr×Nat) (i:aq):Prop:=i.code.length≤1000000∧((∀w',Below w0.heap.size w0 w'→Sl w' w'.heap.size 1 K.1 i.code.length (aP i.code))∨∃g xs,(g,xs)∈P∧K.1=some ⟨g,0,none⟩∧xs.take i.code.length=aP i.code)
def iK (w0:World) (P:List (Nat×List Value)) (ys:List (dv×RP)):Prop:=∀y∈ys,wV w0 P y.1.K0 y.2.i0∧wV w0 P y.1.K1 y.2.i1
theorem wV.mono {K:Option Addr×Nat} {i:aq} (h:wV w0 P K i) (hp:∀x∈P,x∈P'):wV w0 P' K i:=⟨h.1,h.2.imp id fun ⟨g,xs,h1,h2⟩=>⟨g,xs,hp _ h1,h2⟩⟩
theorem iK.set {P':List (Nat×List Value)} (h:iK w0 P ys) (hp:∀x∈P,x∈P') {a:dv} {x:RP} (h0:wV w0 P' a.K0 x.i0) (h1:wV w0 P' a.K1 x.i1) (p:Nat):iK w0 P' (ys.set p (a,x)):=by
 intro y hy;rcases List.mem_or_eq_of_mem_set hy with h2|rfl
 ·exact ⟨(h y h2).1.mono hp,(h y h2).2.mono hp⟩
 ·exact ⟨h0,h1⟩
theorem iK.slot (h:iK w0 P ys) (hp:∀x∈P,x∈P') (hl:p < ys.length) {a:dv} (ha:a.K0=ys[p].1.K0∧a.K1=ys[p].1.K1) (k:Int) (R:RS):iK w0 P' (ys.set p (a,ys[p].2.bj k R)):=by
 obtain ⟨h1,h2⟩:=h _ (List.getElem_mem hl);refine h.set hp ?_ ?_ p
 ·rw [ha.1,show (ys[p].2.bj k R).i0=ys[p].2.i0 by unfold RP.bj;split<;>rfl];exact h1.mono hp
 ·rw [ha.2,show (ys[p].2.bj k R).i1=ys[p].2.i1 by unfold RP.bj;split<;>rfl];exact h2.mono hp
theorem iK.read (h:iK w0 P ys) (ak:St w0 w (eG P::l)) {y:dv×RP} (hy:y∈ys) (k:Int):Sl w w.heap.size 1 (y.1.K k).1 (y.2.ee k).code.length (aP (y.2.ee k).code)∧(y.2.ee k).code.length≤1000000:=by
 have one:∀{K:Option Addr×Nat} {i:aq},wV w0 P K i→Sl w w.heap.size 1 K.1 i.code.length (aP i.code)∧i.code.length≤1000000:=fun {K i} hk=>by
  refine ⟨?_,hk.1⟩;rcases hk.2 with h1|⟨g,xs,h1,h2,h3⟩
  ·exact h1 w ak.aE
  ·obtain ⟨hr,_⟩:=KL ak h1;rw [h2];exact hr.sl (o:=0) hr.lt (by rw [List.drop_zero,Nat.mul_one];exact h3.symm) (by simp [aP])
 unfold dv.K RP.ee;split
 ·exact one (h y hy).1
 ·exact one (h y hy).2
def ix (w0 w:World) (X:Nat) (tv:List Value) (v:Value) (P:List (Nat×List Value)) (l:List aI) (L:List RP):Prop:=∃P' vO,(∀x∈P,x∈P')∧St w0 w (bK X tv v P' vO::l)∧vO.map (·.2)=L∧iK w0 P' vO
theorem ix.slot {w':World} (hK:iK w0 P ys) (hp:p < ys.length) {L:List RP} {k:Int} {R:RS} {P':List (Nat×List Value)} (hP:∀x∈P,x∈P') {a:dv} (ha:a.K0=ys[p].1.K0∧a.K1=ys[p].1.K1) (h:St w0 w' (bK X tv v P' (ys.set p (a,ys[p].2.bj k R))::l)) (hL:L=(ys.map (·.2)).set p (ys[p].2.bj k R)):ix w0 w' X tv v P l L :=
 ⟨P',_,hP,h,by rw [hL,List.map_set],hK.slot hP hp ha k R⟩
theorem ix.same {w':World} (hK:iK w0 P ys) (h:St w0 w' (bK X tv v P ys::l)):ix w0 w' X tv v P l (ys.map (·.2)):=⟨P,ys,fun _ h=>h,h,rfl,hK⟩
theorem Hp (h:St w0 w (bK X tv v P ys::l)) (il:tv.length=5) (hr:∀y∈ys,y.2.aw.right=true) (q se:Int):Calls Tryz.prog 110 #[.pointer (some ⟨X,0,none⟩),ae aa q,ae aa se] w fun e w'=>e=.returned (ae aa (cM (bw (ys.map (·.2))) q se))∧Below w.heap.size w w':=by
 have HF:=af (D4 h il q);by_cases hf:bU (bw (ys.map (·.2))) q=0
 ·obtain ⟨p,rfl,hp,_⟩:=mg hf;rw [hf] at HF;rw [iB] at hp;obtain ⟨k,hk,jm,dy⟩:=Ns (hr _ (List.getElem_mem hp));obtain ⟨b,off,c,bS,oS,cS,bI,oI,cI,ha⟩:=vC h il hp
  have e:cM (bw (ys.map (·.2))) (p:Int) se=if (ys[p].2.slot k).has=false then 16 else if (ys[p].2.slot k).st.aC≠se then 17 else 0:=by
   unfold cM;rw [hf,if_neg (by simp),dC,JT hp,←dy];rfl
  rw [e]
  have HA:=af (fun (w':World) (hb:Below w.heap.size w w')=>show w'.cell? ⟨X,5,none⟩=some (.slice (some ⟨b,off,none⟩) ys.length c)∧X < w'.heap.size∧w'.cell? ⟨b,off+p*8+3,none⟩=some (ae aa ys[p].2.aw.aj)∧w'.cell? ⟨b,off+p*8+6,none⟩=some (.slice (some ⟨bS,oS,none⟩) 2 cS)∧b < w'.heap.size∧w'.cell? ⟨bS,oS+k*5,none⟩=some (.bool (ys[p].2.slot k).has)∧w'.cell? ⟨bS,oS+k*5+1,none⟩=some (ae aa (ys[p].2.slot k).st.aC)∧bS < w'.heap.size from by
   have h:=ha.over hb;obtain ⟨-,-,-,r3,-,-,r6,-,lb⟩:=h.recs;obtain ⟨s0,s1,ls⟩:=h.slot hk
   exact ⟨h.x5,h.lX,r3,r6,lb,s0,s1,ls⟩)
  have k1:(p:Int) < (ys.length:Int):=by omega
  clear e ha h hr hf;generalize (ys[p].2.slot k).has=ha,(ys[p].2.slot k).st.aC=Rj,ys[p].2.aw.aj=rc at *;clear dy hp;generalize ys.length=n at *;have k0:(0:Int)≤(p:Int):=by omega
  have k2:(k:Int) < 2:=by omega
  have k3:(0:Int)≤(k:Int):=by omega
  obtain ⟨r,hr⟩:∃r:Int,r=if ha=false then 16 else if Rj≠se then 17 else 0:=⟨_,rfl⟩
  rw [←hr];have HR:=af hr;clear hr;have kz:=af (fun (w':World) (hb:Below w.heap.size w w')=>tT (HA.o w' hb).2.2.1 (HA.o w' hb).2.2.2.2.1 jm hk);clear hk jm;go_enter Tryz.func110,Tryz.ntmps110;go_wp2_with fail;refine HF.o.mono ?_;rintro e w2 ⟨rfl,hb⟩;obtain ⟨x5,lX,r3,r6,lb,s0,s1,ls⟩:=HA.o w2 hb;have iy:=af (fun n=>kz.o (w2.drewN n) (below_drewN hb n));have Gf:=af (fun m n=>kz.o ((w2.drewN m).drewN n) (below_drewN (below_drewN hb m) n));have aO:=af (fun n=>below_drewN hb n);clear hb kz HA r3;cases ha with
  | false =>
    go_wp2_with fail;go_quiet (exact Calls.quiet_of_same (iy.o _));go_wp2_with fail;go_ret;exact ⟨bx (by rw [HR.o];rfl),aO.o _⟩
  | true =>
    by_cases g:Rj=se;case' pos=>have g2:(Rj != se)=false:=by simpa using g
    case' neg=>have g2:(Rj != se)=true:=by simpa using g
    all_goals
     have HG:=af g;clear g;go_wp2_with fail;go_quiet (exact Calls.quiet_of_same (iy.o _));go_wp2_with fail;obtain ⟨w3,nQ⟩:=xE (w2.drewN nq);rw [←nQ];have wW:=af (aO.o nq);have uw:=af (Gf.o nq);rw [←nQ] at wW uw;have r6:w3.cell? ⟨b,off+p*8+6,none⟩=some (.slice (some ⟨bS,oS,none⟩) 2 cS):=by rw [nQ];exact r6
     have s1:w3.cell? ⟨bS,oS+k*5+1,none⟩=some (ae aa Rj):=by rw [nQ];exact s1
     clear nQ;go_quiet (exact Calls.quiet_of_same (uw.o _));go_wp2_with fail;go_ret;exact ⟨bx (by rw [HR.o];simp [HG.o]),below_drewN wW.o _⟩
 ·have e:cM (bw (ys.map (·.2))) q se=bU (bw (ys.map (·.2))) q:=by unfold cM;rw [if_pos hf]
  rw [e];generalize bU (bw (ys.map (·.2))) q=r at *;have g:(r != 0)=true:=by simpa using hf
  clear e h hf;go_enter Tryz.func110,Tryz.ntmps110;go_wp2_with fail;refine HF.o.mono ?_;rintro e w2 ⟨rfl,hb⟩;have aO:=af hb;clear hb;go_wp2_with fail;go_ret;exact ⟨rfl,aO.o⟩
end
end
end store
end Go.Proofs.YtdldkkoplgkloaaGreat
