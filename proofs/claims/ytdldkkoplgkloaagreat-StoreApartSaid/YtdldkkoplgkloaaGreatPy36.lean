/-
  PROVED HERE: lemmas that the law leans on.
  CONDITIONS: each names its own.
-/
import Derived.Test.YtdldkkoplgkloaaGreatPy0
import Derived.Test.YtdldkkoplgkloaaGreatPy27
import Derived.Test.YtdldkkoplgkloaaGreatPy34
import Derived.Test.YtdldkkoplgkloaaGreatPy35
namespace Go.Proofs.YtdldkkoplgkloaaGreat
set_option linter.unusedVariables false
set_option linter.unusedSimpArgs false
set_option maxRecDepth 100000
set_option maxHeartbeats 32000000
namespace store


open Go.RowKit Go.Deep base obj mem sep bf bk record bP aU image bK bR chain bw
theorem tX.over {w w':World} {X n p:Nat} {y:dH×RP} {b off c bS oS cS bI oI cI:Nat} (h:tX w X n p y b off c bS oS cS bI oI cI) (k:Below w.heap.size w w'):tX w' X n p y b off c bS oS cS bI oI cI :=
 ⟨(k.cell h.lX).trans h.x5,Nat.lt_of_lt_of_le h.lX k.size,Nat.lt_of_lt_of_le h.lb k.size,fun j u hj hu=>(k.cell h.lb).trans (h.row j u hj hu),h.eS,Nat.lt_of_lt_of_le h.lS k.size,fun j u hu=>(k.cell h.lS).trans (h.slots j u hu),h.eI,Nat.lt_of_lt_of_le h.lI k.size,fun j u hu=>(k.cell h.lI).trans (h.il j u hu)⟩
section
variable {w0 w : World} {ad : du} {t : aQ} {d : Nat} {m : DS} {xs : List PP} {D : List DP} {l : List aD}
theorem VZ (h:im w0 w ad t d m xs D l) (q:Int):Calls Tryz.prog 12 #[.pointer (some ⟨ad.S,0,none⟩),.int .i64 q] w fun e w'=>e=.returned (.tuple #[(sD D q).1.val,.bool (sD D q).2])∧Below w.heap.size w w':=by
 have e:By xs q=sD D q:=by
  unfold By sD;rw [h.inv.len];by_cases hq:q < 0∨(xs.length:Int)≤q
  ·rw [if_pos hq,if_pos hq]
  ·rw [if_neg hq,if_neg hq];have hu:=h.inv.parts q.toNat (by omega);have hm:=(hu.si hu.yt).mem;rw [hu.sp];unfold told Io;simp only [hm.has,hm.st]
 rw [←e];exact Nc h.st h.ok q
end
def RP.sp (x:RP):RS:=if 1-x.aA.aj=0 then x.s0 else x.s1
def UR (t:aQ) (D:List DP) (p:Nat) (x:RP):Prop:=(oM t D p).2=0∧(oM t D p).1=x.ek x.aA.ax∧AX D p=x.aA∧(sD D p).2=x.sp.has∧((sD D p).2=true→(sD D p).1=x.sp.st)
theorem SN {w0 w:World} {ad:du} {t:aQ} {d:Nat} {m:DS} {xs:List PP} {D:List DP} {X:Nat} {tv:List Value} {v:Value} {P:List (Nat×List Value)} {ys:List (dH×RP)} {l:List aD} (h:im w0 w ad t d m xs D (cw X tv v P ys::l)) (iR:tv.length=5) (hn:ys.length=xs.length)
  (hr:∀y∈ys,y.2.aA.right=true) (hc:∀w' l',St w0 w' (bL ad t d m xs::cw X tv v P ys::l')→∀y∈ys,∀k:Int,Sl w' w'.heap.size 1 (y.1.K k).1 (y.2.ek k).code.length (aP (y.2.ek k).code)∧(y.2.ek k).code.length≤1000000)
  (hs:∀p (hp:p < ys.length),UR t D p ys[p].2) :
  Calls Tryz.prog 24 #[.pointer (some ⟨ad.S,0,none⟩),.pointer (some ⟨X,0,none⟩)] w fun e w'=>e=.returned (.bool true)∧im w0 w' ad t d m xs D (cw X tv v P ys::l):=by
 have av:=h.st.pick 1 rfl;have hX:=(ec av)
 have hXr:=hX.row.1;have hO:=(hX.pick 1 rfl).own;obtain ⟨AO,cO,hv,_,_⟩:=aH hO
 have x5:w.cell? ⟨X,5,none⟩=some (.slice AO ys.length cO):=by
  rw [hXr.cell 5,List.getElem?_append_right (by omega),iR,hv];rfl
 have lX:=hXr.lt;have H:=aa h;have HR:=aa hr;have HC:=aa hc;have HS:=aa hs;have HN:=aa hn;have HTV:=aa iR;obtain ⟨n,Ep⟩:∃n,n=ys.length:=⟨_,rfl⟩
 have zr:n≤4:=by have:=h.ok.n4;omega
 rw [←Ep] at x5;have CI:=aa Ep;obtain ⟨S,hS⟩:∃S,S=ad.S:=⟨_,rfl⟩
 rw [←hS];have wJ:=aa hS;clear av hX hXr hO hv h hr hc hs hn iR Ep hS;go_enter Tryz.func24,Tryz.ntmps24;go_wp2_with fail;go_loopw [17] (fun x wr=>∃p:Nat,p≤n∧x=.int .i64 (p:Int)∧im w0 wr ad t d m xs D (cw X tv v P ys::l)) (fun x _=>n-(intOf x).toNat)
 case atStart=>exact ⟨0,by omega,rfl,H.o⟩
 case round =>
  obtain ⟨p,hp,rfl,hs⟩:=hrel;clear H x5 lX;have bJ:=aa hs;clear hs;by_cases aK:p < n
  ·have zq:p < ys.length:=by rw [←CI.o];exact aK
   have MJ:=aa (fun (w':World) (l':List aD) (av:St w0 w' (cw X tv v P ys::l'))=>sj av HTV.o zq);have hme:=List.getElem_mem zq;have nX:=fC.la (HR.o _ hme);have zo:=HS.o p zq;have HCC:=aa (fun (w':World) (l':List aD) (av:St w0 w' (bL ad t d m xs::cw X tv v P ys::l')) (k:Int)=>HC.o w' l' av _ hme k);rw [←CI.o] at MJ;generalize ys[p]=y at *;have jI:=aa zo;have Bk:=aa (WU bJ.o (p:Int));rw [zo.1,zo.2.1,←wJ.o] at Bk;have k1:(p:Int) < (n:Int):=by omega
   have kp:(0:Int)≤(p:Int):=by omega
   have oG:y.2.aA.aj=0∨y.2.aA.aj=1:=by omega
   have AF:y.2.aA.ax=0∨y.2.aA.ax=1:=by omega
   clear hme nX zo;go_wp2_with fail;refine Bk.o.mono ?_;rintro e w1 ⟨A,cA,rfl,jE⟩;have mU:=aa jE;clear jE Bk;dsimp only;obtain ⟨j,hj⟩:∃j,j=y.2.ek y.2.aA.ax:=⟨_,rfl⟩
   rw [←hj] at mU ⊢;have HJ:=aa hj;simp only [aw.val];obtain ⟨j0,hj0⟩:∃v,v=j.part:=⟨_,rfl⟩
   obtain ⟨j1,hj1⟩:∃v,v=j.version:=⟨_,rfl⟩
   obtain ⟨j2,Ay⟩:∃v,v=j.aY:=⟨_,rfl⟩
   obtain ⟨j3,hj3⟩:∃v,v=j.mem:=⟨_,rfl⟩
   obtain ⟨j4,tT⟩:∃v,v=j.fuel:=⟨_,rfl⟩
   obtain ⟨j5,hj5⟩:∃v,v=j.aN:=⟨_,rfl⟩
   obtain ⟨j6,hj6⟩:∃v,v=j.aB:=⟨_,rfl⟩
   obtain ⟨j7,hj7⟩:∃v,v=j.code.length:=⟨_,rfl⟩
   have HJV:=aa (show ∀(A:Option Addr) (c:Nat),j.val A c=.agg #[.int .i64 j0,.int .i64 j1,.int .i64 j2,.int .i64 j3,.int .i64 j4,.int .i64 j5,.int .i64 j6,.slice A j7 c] from fun A c=>by rw [hj0,hj1,Ay,hj3,tT,hj5,hj6,hj7];rfl);rw [←hj0,←hj1,←Ay,←hj3,←tT,←hj5,←hj6,←hj7];have HJ7:=aa hj7;clear hj hj0 hj1 Ay hj3 tT hj5 hj6 hj7;obtain ⟨I,hI⟩:∃I,I=w1.heap.size:=⟨_,rfl⟩
   obtain ⟨w2,dY⟩:∃v,v=w1.alloc (.cells #[.int .i64 j0,.int .i64 j1,.int .i64 j2,.int .i64 j3,.int .i64 j4,.int .i64 j5,.int .i64 j6,.slice A j7 cA] 26):=⟨_,rfl⟩
   have h2:=mU.o.st.new 26 #[.int .i64 j0,.int .i64 j1,.int .i64 j2,.int .i64 j3,.int .i64 j4,.int .i64 j5,.int .i64 j6,.slice A j7 cA];rw [←hI,←dY] at h2;have jJ:=aa (mU.o.move h2.swap);have CD:=aa (VZ jJ.o (p:Int));have Gv:=jI.o.2.2.2;have HI:=aa hI;have iL:=aa dY;obtain ⟨s1,jE⟩:∃v,v=(sD D (p:Int)).1.aG:=⟨_,rfl⟩
   obtain ⟨s2,oy⟩:∃v,v=(sD D (p:Int)).1.size:=⟨_,rfl⟩
   obtain ⟨s3,xH⟩:∃v,v=(sD D (p:Int)).1.bd:=⟨_,rfl⟩
   have uV:(sD D (p:Int)).1.val=.agg #[.int .i64 s1,.int .i64 s2,.int .i64 s3]:=by rw [jE,oy,xH];rfl
   obtain ⟨ha,hha⟩:∃v,v=y.2.sp.has:=⟨_,rfl⟩
   rw [uV,Gv.1,←hha,←wJ.o] at CD
   have Zr:=aa (show ha=true→s1=y.2.sp.st.aG∧s2=y.2.sp.st.size∧s3=y.2.sp.st.bd from fun h=>by
    have:=Gv.2 (by rw [Gv.1,←hha];exact h)
    rw [jE,oy,xH,this];exact ⟨rfl,rfl,rfl⟩)
   have CM:=aa hha;clear h2 hI dY Gv jE oy xH uV hha;go_upto_region 5 with fail;rw [←iL.o,←HI.o];go_wp2_with fail;refine CD.o.mono ?_;rintro e w3 ⟨rfl,hb⟩;have EU:=aa (jJ.o.below hb);clear hb CD;dsimp only;obtain ⟨T,hT⟩:∃T,T=w3.heap.size:=⟨_,rfl⟩
   obtain ⟨w4,dX⟩:∃v,v=w3.alloc (.cells #[.int .i64 s1,.int .i64 s2,.int .i64 s3] 31):=⟨_,rfl⟩
   have h4:=EU.o.st.new 31 #[.int .i64 s1,.int .i64 s2,.int .i64 s3];rw [←hT,←dX] at h4;have tC:=aa (EU.o.move h4.swap);have HT:=aa hT;have kb:=aa dX;clear h4 hT dX;go_upto_region 6 with fail;rw [←kb.o,←HT.o];obtain ⟨r0,oz⟩:∃v,v=y.2.aA.part:=⟨_,rfl⟩
   obtain ⟨r1,vT⟩:∃v,v=y.2.aA.seq:=⟨_,rfl⟩
   obtain ⟨r2,mG⟩:∃v,v=y.2.aA.ax:=⟨_,rfl⟩
   obtain ⟨r3,Vd⟩:∃v,v=y.2.aA.aj:=⟨_,rfl⟩
   obtain ⟨r4,s9⟩:∃v,v=y.2.aA.left:=⟨_,rfl⟩
   obtain ⟨r5,JN⟩:∃v,v=y.2.aA.bad:=⟨_,rfl⟩
   have HRV:=aa (show y.2.aA.val=.agg #[.int .i64 r0,.int .i64 r1,.int .i64 r2,.int .i64 r3,.int .i64 r4,.int .i64 r5] by rw [oz,vT,mG,Vd,s9,JN];rfl);obtain ⟨b,off,c,bS,oS,cS,bI,oI,cI,pJ⟩:=MJ.o w4 _ (tC.o.st.pick 4 rfl);have EX:=aa pJ;have x5:=pJ.x5;have lX:=pJ.lX;have lb:=pJ.lb;have q0:w4.cell? ⟨b,off+p*8,none⟩=some (.int .i64 r0):=pJ.row 0 _ (by omega) (by rw [oz];rfl);have q1:w4.cell? ⟨b,off+p*8+1,none⟩=some (.int .i64 r1):=pJ.row 1 _ (by omega) (by rw [vT];rfl);have q2:w4.cell? ⟨b,off+p*8+2,none⟩=some (.int .i64 r2):=pJ.row 2 _ (by omega) (by rw [mG];rfl);have q3:w4.cell? ⟨b,off+p*8+3,none⟩=some (.int .i64 r3):=pJ.row 3 _ (by omega) (by rw [Vd];rfl);have q4:w4.cell? ⟨b,off+p*8+4,none⟩=some (.int .i64 r4):=pJ.row 4 _ (by omega) (by rw [s9];rfl);have q5:w4.cell? ⟨b,off+p*8+5,none⟩=some (.int .i64 r5):=pJ.row 5 _ (by omega) (by rw [JN];rfl);have q6:w4.cell? ⟨b,off+p*8+6,none⟩=some (.slice (some ⟨bS,oS,none⟩) 2 cS):=pJ.row 6 _ (by omega) (by rw [←pJ.eS];rfl);have q7:w4.cell? ⟨b,off+p*8+7,none⟩=some (.slice (some ⟨bI,oI,none⟩) 2 cI):=pJ.row 7 _ (by omega) (by rw [←pJ.eI];rfl);obtain ⟨kk,GC,YR⟩:∃kk:Nat,1-y.2.aA.aj=kk∧kk < 2:=⟨(1-y.2.aA.aj).toNat,by omega,by omega⟩
   obtain ⟨e1,QP⟩:∃v,v=y.2.sp.st.aG:=⟨_,rfl⟩
   obtain ⟨e2,QO⟩:∃v,v=y.2.sp.st.size:=⟨_,rfl⟩
   obtain ⟨e3,Mm⟩:∃v,v=y.2.sp.st.bd:=⟨_,rfl⟩
   have dB:∀m u,m < 4→([.bool y.2.sp.has,.int .i64 y.2.sp.st.aG,.int .i64 y.2.sp.st.size,.int .i64 y.2.sp.st.bd]:List Value)[m]?=some u→w4.cell? ⟨bS,oS+kk*5+m,none⟩=some u:=fun m u hm hu=>by
    rw [Nat.add_assoc];refine pJ.slots _ _ ?_;unfold RP.sp at hu;rcases (by omega:kk=0∨kk=1) with rfl|rfl
    ·rw [if_pos (by omega)] at hu;rw [List.getElem?_append_left (by show 0*5+m < 5;omega),Nat.zero_mul,Nat.zero_add];rcases (by omega:m=0∨m=1∨m=2∨m=3) with rfl|rfl|rfl|rfl<;>exact hu
    ·rw [if_neg (by omega)] at hu;rw [List.getElem?_append_right (by show 5≤1*5+m;omega),show 1*5+m-(bE y.2.s0 y.1.v0).length=m by show 1*5+m-5=m;omega];rcases (by omega:m=0∨m=1∨m=2∨m=3) with rfl|rfl|rfl|rfl<;>exact hu
   have kL:=aa (show w4.cell? ⟨bS,oS+kk*5,none⟩=some (.bool ha)∧w4.cell? ⟨bS,oS+kk*5+1,none⟩=some (.int .i64 e1)∧w4.cell? ⟨bS,oS+kk*5+2,none⟩=some (.int .i64 e2)∧w4.cell? ⟨bS,oS+kk*5+3,none⟩=some (.int .i64 e3)∧bS < w4.heap.size from ⟨by rw [CM.o];exact dB 0 _ (by omega) rfl,by rw [QP];exact dB 1 _ (by omega) rfl,by rw [QO];exact dB 2 _ (by omega) rfl,by rw [Mm];exact dB 3 _ (by omega) rfl,pJ.lS⟩);rw [←QP,←QO,←Mm] at Zr;have abN:=aa YR;have mR:IntKind.i64.wrap (1-r3)=(kk:Int):=by rw [Vd,GC,IntWalk.i64_in _ (by omega)]
   have aby:=aa (fun (w':World) (hb:Below w4.heap.size w4 w')=>PC (EX.o.over hb) aK (by rw [←mG] at AF;rw [←mG];exact AF));have HRU:=aa (fun (w':World) (l':List aD) (av:St w0 w' (bL ad t d m xs::l'))=>Jj (tC.o.move av) (p:Int));clear dB oz vT mG Vd s9 JN GC QP QO Mm oG AF pJ;obtain ⟨O,hO⟩:∃O,O=w4.heap.size:=⟨_,rfl⟩
   obtain ⟨w5,dQ⟩:∃v,v=w4.alloc (.cells #[.int .i64 r0,.int .i64 r1,.int .i64 r2,.int .i64 r3,.int .i64 r4,.int .i64 r5,.slice (some ⟨bS,oS,none⟩) 2 cS,.slice (some ⟨bI,oI,none⟩) 2 cI] 65):=⟨_,rfl⟩
   have h5:=tC.o.st.new 65 #[.int .i64 r0,.int .i64 r1,.int .i64 r2,.int .i64 r3,.int .i64 r4,.int .i64 r5,.slice (some ⟨bS,oS,none⟩) 2 cS,.slice (some ⟨bI,oI,none⟩) 2 cI];rw [←hO,←dQ] at h5;have rT:=aa (tC.o.move h5.swap);have UE:=aa (show Below w4.heap.size w4 w5 by rw [dQ];exact (Below.refl _ w4).alloc (Nat.le_refl _) _);have r3c:w5.cell? ⟨O,3,none⟩=some (.int .i64 r3):=h5.row.1.cell 3;have lO:=h5.row.1.lt;have HO:=aa hO;have pZ:=aa dQ;clear h5 hO dQ;go_upto_region 7 with fail;rw [←pZ.o,←HO.o];clear q0 q1 q2 q3 q4 q5 q6 q7 x5 lX lb
   have MW:=aa (fun (w':World) (hb:Below w5.heap.size w5 w')=>show w'.cell? ⟨I,0,none⟩=some (.int .i64 j0)∧w'.cell? ⟨I,1,none⟩=some (.int .i64 j1)∧w'.cell? ⟨I,2,none⟩=some (.int .i64 j2)∧w'.cell? ⟨I,3,none⟩=some (.int .i64 j3)∧w'.cell? ⟨I,4,none⟩=some (.int .i64 j4)∧w'.cell? ⟨I,5,none⟩=some (.int .i64 j5)∧w'.cell? ⟨I,6,none⟩=some (.int .i64 j6)∧w'.cell? ⟨I,7,none⟩=some (.slice A j7 cA)∧I < w'.heap.size∧w'.cell? ⟨T,0,none⟩=some (.int .i64 s1)∧w'.cell? ⟨T,1,none⟩=some (.int .i64 s2)∧w'.cell? ⟨T,2,none⟩=some (.int .i64 s3)∧T < w'.heap.size∧w'.cell? ⟨O,0,none⟩=some (.int .i64 r0)∧w'.cell? ⟨O,1,none⟩=some (.int .i64 r1)∧w'.cell? ⟨O,2,none⟩=some (.int .i64 r2)∧w'.cell? ⟨O,3,none⟩=some (.int .i64 r3)∧w'.cell? ⟨O,4,none⟩=some (.int .i64 r4)∧w'.cell? ⟨O,5,none⟩=some (.int .i64 r5)∧w'.cell? ⟨O,6,none⟩=some (.slice (some ⟨bS,oS,none⟩) 2 cS)∧w'.cell? ⟨O,7,none⟩=some (.slice (some ⟨bI,oI,none⟩) 2 cI)∧O < w'.heap.size∧w'.cell? ⟨bS,oS+kk*5,none⟩=some (.bool ha)∧w'.cell? ⟨bS,oS+kk*5+1,none⟩=some (.int .i64 e1)∧w'.cell? ⟨bS,oS+kk*5+2,none⟩=some (.int .i64 e2)∧w'.cell? ⟨bS,oS+kk*5+3,none⟩=some (.int .i64 e3)∧bS < w'.heap.size from by
    have h:=rT.o.st.below hb;have ra:=(h.pick 3 rfl).row.1;have rb:=(h.pick 2 rfl).row.1;have rc:=(h.pick 1 rfl).row.1;have mK:=UE.o.trans (hb.mono UE.o.size);obtain ⟨a0,a1,a2,a3,a4⟩:=kL.o
    exact ⟨ra.cell 0,ra.cell 1,ra.cell 2,ra.cell 3,ra.cell 4,ra.cell 5,ra.cell 6,ra.cell 7,ra.lt,rb.cell 0,rb.cell 1,rb.cell 2,rb.lt,rc.cell 0,rc.cell 1,rc.cell 2,rc.cell 3,rc.cell 4,rc.cell 5,rc.cell 6,rc.cell 7,rc.lt,(mK.cell a4).trans a0,(mK.cell a4).trans a1,(mK.cell a4).trans a2,(mK.cell a4).trans a3,Nat.lt_of_lt_of_le a4 mK.size⟩)
   have mi:=aa (aby.o w5.drew UE.o.drew);rw [←HJ.o,HJV.o] at mi;have jF:=HCC.o w5 _ ((rT.o.st.pick 5 rfl).swap) y.2.aA.ax;have FV:=aa (fun (w':World) (hb:Below w5.heap.size w5 w')=>show Sl w' w'.heap.size 1 (y.1.K y.2.aA.ax).1 j.code.length (aP j.code) from by rw [HJ.o];exact (jF.1.below hb).more hb.size);have iM:=aa (show j.code.length≤1000000 by rw [HJ.o];exact jF.2);have abB:=aa (fun (w':World) (hb:Below w5.heap.size w5 w')=>show Sl w' w'.heap.size 1 A j.code.length (aP j.code) from Sl.bz (((rT.o.st.below hb).pick 4 rfl).own));obtain ⟨KA,GI⟩:∃v,v=(y.1.K y.2.aA.ax).1:=⟨_,rfl⟩
   obtain ⟨Kc,Ka⟩:∃v,v=(y.1.K y.2.aA.ax).2:=⟨_,rfl⟩
   rw [←GI,←Ka] at mi;rw [←GI] at FV;have EW:=aa (fun (w':World) (hb:Below w5.heap.size w5 w')=>SR w' j j A KA cA Kc (abB.o w' hb) (FV.o w' hb) iM.o iM.o);rw [Pw.2 rfl,HJV.o,HJV.o] at EW;have pN:=aa (fun (w':World) (hb:Below w5.heap.size w5 w')=>HRU.o w' _ (rT.o.st.below hb));rw [jI.o.2.2.1,HRV.o,←wJ.o] at pN
   have DA:=aa (fun (w':World) (hb:Below w5.heap.size w5 w')=>show im w0 w' ad t d m xs D (cw X tv v P ys::l) from
    bJ.o.move (((((((rT.o.st.below hb).pick 1 rfl).drop.pick 1 rfl).drop.pick 1 rfl).drop.pick 1 rfl).drop)))
   clear jF GI Ka YR;have kk0:(0:Int)≤(kk:Int):=by omega
   have kk2:(kk:Int) < 2:=by have:=abN.o;omega
   go_upto_region 8 with fail;refine eh (fun w'=>w'.cell? ⟨I,0,none⟩=some (.int .i64 j0)∧w'.cell? ⟨I,1,none⟩=some (.int .i64 j1)∧w'.cell? ⟨I,2,none⟩=some (.int .i64 j2)∧w'.cell? ⟨I,3,none⟩=some (.int .i64 j3)∧w'.cell? ⟨I,4,none⟩=some (.int .i64 j4)∧w'.cell? ⟨I,5,none⟩=some (.int .i64 j5)∧w'.cell? ⟨I,6,none⟩=some (.int .i64 j6)∧w'.cell? ⟨I,7,none⟩=some (.slice A j7 cA)∧I < w'.heap.size∧w'.cell? ⟨T,0,none⟩=some (.int .i64 s1)∧w'.cell? ⟨T,1,none⟩=some (.int .i64 s2)∧w'.cell? ⟨T,2,none⟩=some (.int .i64 s3)∧T < w'.heap.size∧w'.cell? ⟨O,0,none⟩=some (.int .i64 r0)∧w'.cell? ⟨O,1,none⟩=some (.int .i64 r1)∧w'.cell? ⟨O,2,none⟩=some (.int .i64 r2)∧w'.cell? ⟨O,3,none⟩=some (.int .i64 r3)∧w'.cell? ⟨O,4,none⟩=some (.int .i64 r4)∧w'.cell? ⟨O,5,none⟩=some (.int .i64 r5)∧w'.cell? ⟨O,6,none⟩=some (.slice (some ⟨bS,oS,none⟩) 2 cS)∧w'.cell? ⟨O,7,none⟩=some (.slice (some ⟨bI,oI,none⟩) 2 cI)∧O < w'.heap.size∧w'.cell? ⟨bS,oS+kk*5,none⟩=some (.bool ha)∧w'.cell? ⟨bS,oS+kk*5+1,none⟩=some (.int .i64 e1)∧w'.cell? ⟨bS,oS+kk*5+2,none⟩=some (.int .i64 e2)∧w'.cell? ⟨bS,oS+kk*5+3,none⟩=some (.int .i64 e3)∧bS < w'.heap.size) (by kernel_rfl) (MW.o w5.drew (Below.refl w5.heap.size w5).drew) (fun bQ=>?_);(refine ai 0 ?_;(try simp only [af,ae,ah,Act.put,aq,ak,ao]));(refine ai 1 ?_;(try simp only [af,ae,ah,Act.put,aq,ak,ao]));(refine ai 2 ?_;(try simp only [af,ae,ah,Act.put,aq,ak,ao]));(refine ai 3 ?_;(try simp only [af,ae,ah,Act.put,aq,ak,ao]));(refine ai 4 ?_;(try simp only [af,ae,ah,Act.put,aq,ak,ao]));(refine ai 5 ?_;(try simp only [af,ae,ah,Act.put,aq,ak,ao]));(refine dV 6 ?_;(try simp only [af,ae,ah]);go_simp);refine mi.o.mono ?_;rintro e w6 ⟨rfl,hb⟩;have qb:=aa ((Below.refl w5.heap.size w5).drew.trans (hb.mono (Below.refl w5.heap.size w5).drew.size));clear hb;dsimp only;(refine cG (MW.o w6 qb.o) (fun bQ=>?_);(try simp only [af,ae,ah,Act.put,aq,ak,ao]));(refine dV 7 ?_;(try simp only [af,ae,ah]);go_simp);refine (EW.o w6 qb.o).mono ?_;rintro e w7 ⟨rfl,hb⟩;have wQ:=aa (qb.o.trans (hb.mono qb.o.size));clear hb;dsimp only;(refine cG (MW.o w7 wQ.o) (fun bQ=>?_);(try simp only [af,ae,ah,Act.put,aq,ak,ao]));(refine ai 8 ?_;(try simp only [af,ae,ah,Act.put,aq,ak,ao]));(refine ai 9 ?_;(try simp only [af,ae,ah,Act.put,aq,ak,ao]));(refine ai 10 ?_;(try simp only [af,ae,ah,Act.put,aq,ak,ao]));(refine ai 11 ?_;(try simp only [af,ae,ah,Act.put,aq,ak,ao]));(refine ai 12 ?_;(try simp only [af,ae,ah,Act.put,aq,ak,ao]));(refine ai 14 ?_;(try simp only [af,ae,ah,Act.put,aq,ak,ao]));(refine ai 15 ?_;(try simp only [af,ae,ah,Act.put,aq,ak,ao]));(refine dV 13 ?_;(try simp only [af,ae,ah]);go_simp);refine (pN.o w7 wQ.o).mono ?_;rintro e w8 ⟨rfl,hb⟩;have HB8:=aa (wQ.o.trans (hb.mono wQ.o.size));have HEE:=aa (DA.o w8 HB8.o);clear hb;dsimp only;(refine cG (MW.o w8 HB8.o) (fun bQ=>?_);(try simp only [af,ae,ah,Act.put,aq,ak,ao]));(refine ai 16 ?_;(try simp only [af,ae,ah,Act.put,aq,ak,ao]));(refine ai 17 ?_;(try simp only [af,ae,ah,Act.put,aq,ak,ao]));(refine ai 18 ?_;(try simp only [af,ae,ah,Act.put,aq,ak,ao]));cases ha with
   | false =>
     (refine ai 19 ?_;(try simp only [af,ae,ah,Act.put,aq,ak,ao]));(refine ai 20 ?_;(try simp only [af,ae,ah,Act.put,aq,ak,ao]));(refine ai 21 ?_;(try simp only [af,ae,ah,Act.put,aq,ak,ao]));(refine ai 22 ?_;(try simp only [af,ae,ah,Act.put,aq,ak,ao]));(refine ai 23 ?_;(try simp only [af,ae,ah,Act.put,aq,ak,ao]));(refine ai 24 ?_;(try simp only [af,ae,ah,Act.put,aq,ak,ao]));(refine ai 25 ?_;(try simp only [af,ae,ah,Act.put,aq,ak,ao]));(refine ai 26 ?_;(try simp only [af,ae,ah,Act.put,aq,ak,ao]));(refine ai 27 ?_;(try simp only [af,ae,ah,Act.put,aq,ak,ao]));(refine ai 28 ?_;(try simp only [af,ae,ah,Act.put,aq,ak,ao]));(refine ai 29 ?_;(try simp only [af,ae,ah,Act.put,aq,ak,ao]));(refine ai 30 ?_;(try simp only [af,ae,ah,Act.put,aq,ak,ao]));(refine bT 31 (by kernel_rfl) (fun _ _ _ _ _ h=>h) (by rfl) (by assumption) ?_;(try simp only [af,ae,ah,Act.put,aq,ak,ao]));(refine bT 32 (by kernel_rfl) (fun _ _ _ _ _ h=>h) (by rfl) (by assumption) ?_;(try simp only [af,ae,ah,Act.put,aq,ak,ao]));(refine bT 33 (by kernel_rfl) (fun _ _ _ _ _ h=>h) (by rfl) (by assumption) ?_;(try simp only [af,ae,ah,Act.put,aq,ak,ao]));(refine bT 34 (by kernel_rfl) (fun _ _ _ _ _ h=>h) (by rfl) (by assumption) ?_;(try simp only [af,ae,ah,Act.put,aq,ak,ao]));(refine bT 35 (by kernel_rfl) (fun _ _ _ _ _ h=>h) (by rfl) (by assumption) ?_;(try simp only [af,ae,ah,Act.put,aq,ak,ao]));(refine bT 36 (by kernel_rfl) (fun _ _ _ _ _ h=>h) (by rfl) (by assumption) ?_;(try simp only [af,ae,ah,Act.put,aq,ak,ao]));(refine bT 37 (by kernel_rfl) (fun _ _ _ _ _ h=>h) (by rfl) (by assumption) ?_;(try simp only [af,ae,ah,Act.put,aq,ak,ao]));(refine bT 38 (by kernel_rfl) (fun _ _ _ _ _ h=>h) (by rfl) (by assumption) ?_;(try simp only [af,ae,ah,Act.put,aq,ak,ao]));(refine ai 39 ?_;(try simp only [af,ae,ah,Act.put,aq,ak,ao]));(refine ai 40 ?_;(try simp only [af,ae,ah,Act.put,aq,ak,ao]));refine dW (by kernel_rfl) ?_;clear bQ;go_wp2_with fail;go_roundw;case rel=>exact ⟨p+1,by omega,by go_num,HEE.o⟩
     case measure=>simp [intOf];omega
   | true =>
     obtain ⟨rfl,rfl,rfl⟩:=Zr.o rfl;(refine ai 19 ?_;(try simp only [af,ae,ah,Act.put,aq,ak,ao]));(refine ai 20 ?_;(try simp only [af,ae,ah,Act.put,aq,ak,ao]));(refine ai 21 ?_;(try simp only [af,ae,ah,Act.put,aq,ak,ao]));(refine ai 22 ?_;(try simp only [af,ae,ah,Act.put,aq,ak,ao]));(refine ai 23 ?_;(try simp only [af,ae,ah,Act.put,aq,ak,ao]));(refine ai 24 ?_;(try simp only [af,ae,ah,Act.put,aq,ak,ao]));(refine ai 25 ?_;(try simp only [af,ae,ah,Act.put,aq,ak,ao]));(refine ai 26 ?_;(try simp only [af,ae,ah,Act.put,aq,ak,ao]));(refine ai 27 ?_;(try simp only [af,ae,ah,Act.put,aq,ak,ao]));(refine ai 28 ?_;(try simp only [af,ae,ah,Act.put,aq,ak,ao]));(refine ai 29 ?_;(try simp only [af,ae,ah,Act.put,aq,ak,ao]));(refine ai 30 ?_;(try simp only [af,ae,ah,Act.put,aq,ak,ao]));(refine ai 31 ?_;(try simp only [af,ae,ah,Act.put,aq,ak,ao]));(refine ai 32 ?_;(try simp only [af,ae,ah,Act.put,aq,ak,ao]));(refine ai 33 ?_;(try simp only [af,ae,ah,Act.put,aq,ak,ao]));(refine ai 34 ?_;(try simp only [af,ae,ah,Act.put,aq,ak,ao]));(refine ai 35 ?_;(try simp only [af,ae,ah,Act.put,aq,ak,ao]));(refine ai 36 ?_;(try simp only [af,ae,ah,Act.put,aq,ak,ao]));(refine ai 37 ?_;(try simp only [af,ae,ah,Act.put,aq,ak,ao]));(refine ai 38 ?_;(try simp only [af,ae,ah,Act.put,aq,ak,ao]));(refine ai 39 ?_;(try simp only [af,ae,ah,Act.put,aq,ak,ao]));(refine ai 40 ?_;(try simp only [af,ae,ah,Act.put,aq,ak,ao]));refine dW (by kernel_rfl) ?_;clear bQ;go_wp2_with fail;go_roundw;case rel=>exact ⟨p+1,by omega,by go_num,HEE.o⟩
     case measure=>simp [intOf];omega
  ·have Cn:p=n:=by omega
   have k1:¬(p:Int) < (n:Int):=by omega
   go_wp2_with fail;go_ret;exact ⟨rfl,bJ.o⟩
end store
namespace store


open Go.RowKit Go.Deep base obj mem sep bf bk record bP aU image bK bR chain bw
theorem EJ {t:aQ} {p:Int} {i:aw} {v:Int}:bX t p i v=0 ↔ t.right=true∧(0≤p∧p < t.parts.length)∧i.right∧∀j,j < 4→fE t p.toNat i v j=true:=by
 unfold bX;cases hr:t.right
 ·simp
 ·by_cases h1:¬(0≤p∧p < t.parts.length)∨¬i.right
  ·rw [if_neg (by simp),if_pos h1]
   constructor
   ·intro h;simp at h
   ·rintro ⟨_,a,b,_⟩;exact absurd h1 (by simp only [a,b];simp)
  ·rw [if_neg (by simp),if_neg h1]
   have ha:(0≤p∧p < t.parts.length)∧i.right:=by
    constructor
    ·exact Classical.byContradiction fun h=>h1 (.inl h)
    ·exact Classical.byContradiction fun h=>h1 (.inr h)
   have e:nr t p.toNat i v 4=if fE t p.toNat i v 0 then (if fE t p.toNat i v 1 then (if fE t p.toNat i v 2 then (if fE t p.toNat i v 3 then 0 else 13) else 15) else 14) else 12:=rfl;rw [e]
   constructor
   ·intro h;refine ⟨rfl,ha.1,ha.2,fun j hj=>?_⟩;split at h
    ·split at h
     ·split at h
      ·split at h
       ·rcases (by omega:j=0∨j=1∨j=2∨j=3) with rfl|rfl|rfl|rfl<;>assumption
       ·simp at h
      ·simp at h
     ·simp at h
    ·simp at h
   ·rintro ⟨_,_,_,h⟩;rw [if_pos (h 0 (by omega)),if_pos (h 1 (by omega)),if_pos (h 2 (by omega)),if_pos (h 3 (by omega))]
section
variable {m : DS} {xs : List PP} {D : List DP}
theorem Calm.eD {m:DS} (h:Calm m) (k:Int):Calm (m.eD k)∧∀j,(m.eD k).now j=m.now j:=by
 have hs:(m.eD k).az=m.az:=by
  rcases Aa (i:=0) (bs:=[]) (.inl h.waits) k with e|⟨e,_⟩
  ·exact e
  ·rw [h.waits] at e;cases e
 exact ⟨⟨DS.S7 m k,DS.wT m k,DS.yB h.b8 k,h.jm.eD k⟩,fun j=>by rw [DS.pz h.waits,DS.pz (DS.wT m k),hs]⟩
theorem dD.eD (h:dD m xs D) (k:Int):dD (m.eD k) xs D :=
 ⟨(h.calm.eD k).1,h.len,fun p hp=>(h.parts p hp).other h.calm (h.calm.eD k).1 (DS.DY m k) fun j _ _=>(h.calm.eD k).2 j⟩
end
section
variable {D0 : List DP} {R0 R1 : RS} {t : aQ} {r : Rec}
end
end store
namespace store


open Go.RowKit Go.Deep base obj mem sep bf bk record bP aU image bK bR chain bw
instance:Inhabited RP:=⟨⟨Rec.zero,RS.none,RS.none,aw.none,aw.none⟩⟩
def RP.slot (x:RP) (k:Int):RS:=if k=0 then x.s0 else x.s1
def RP.bx (x:RP) (k:Int) (s:RS):RP:=if k=0 then { x with s0:=s } else { x with s1:=s }
def RP.mB (x:RP) (k:Int) (i:aw):RP:=if k=0 then { x with i0:=i } else { x with i1:=i }
def RP.ot (x:RP):Int:=1-x.aA.aj
def RP.dp (x:RP):DP:=⟨x.aA,x.s0,x.s1⟩
def cK (L:List RP):List DP:=L.map RP.dp
def jA (L:List RP) (q:Int):RP:=L.getD q.toNat default
def mr (L:List RP) (q se sz:Int):Int×List RP :=
 if dm (cK L) q≠0 then (dm (cK L) q,L)
 else ((fF ((jA L q).slot (jA L q).ot) se sz).1,L.set q.toNat ((jA L q).bx (jA L q).ot (fF ((jA L q).slot (jA L q).ot) se sz).2))
def pd (L:List RP) (q se no:Int) (data:List Int):Int×List RP :=
 if dm (cK L) q≠0 then (dm (cK L) q,L)
 else ((jU ((jA L q).slot (jA L q).ot) se no data).1,L.set q.toNat ((jA L q).bx (jA L q).ot (jU ((jA L q).slot (jA L q).ot) se no data).2))
def pg (L:List RP) (q se:Int):Int×List RP :=
 if dR (cK L) q se≠0 then (dR (cK L) q se,L) else (0,L.set q.toNat ((jA L q).bx (jA L q).ot RS.none))
def eo (x:RP) (r:Rec):Int×RP :=
 if 4294967295≤x.aA.seq then (4,x) else if (bY x.aA.part x.aA r).right then (0,{ x with aA:=bY x.aA.part x.aA r }) else (3,x)
def jf (L:List RP) (q:Int):Int×List RP :=
 if q < 0∨(L.length:Int)≤q then (3,L) else if (jA L q).dp.ay=false then (16,L)
 else ((eo (jA L q) (Rec.oN (jA L q).aA)).1,L.set q.toNat (eo (jA L q) (Rec.oN (jA L q).aA)).2)
def ph (L:List RP) (q:Int):Int×List RP :=
 if q < 0∨(L.length:Int)≤q then (3,L) else if (jA L q).dp.ay=false then (0,L)
 else ((eo (jA L q) (aW (jA L q).aA)).1,L.set q.toNat (eo (jA L q) (aW (jA L q).aA)).2)
def lJ (L:List RP) (q:Int):List Int×Int:=dt ((jA L q).slot (jA L q).ot)
def qw (t:aQ) (x:RP) (i:aw):Int×RP:=((eo x (fh t x.aA)).1,if (eo x (fh t x.aA)).1=0 then (eo x (fh t x.aA)).2.mB x.ot i else (eo x (fh t x.aA)).2)
def mY (t:aQ) (L:List RP) (q se:Int):Int×List RP :=
 if dR (cK L) q se≠0 then (dR (cK L) q se,L)
 else if (lJ L q).2≠0 then ((lJ L q).2,L)
 else if (b9 (lJ L q).1).2≠0 then ((b9 (lJ L q).1).2,L)
 else if bX t q (b9 (lJ L q).1).1 ((jA L q).ek (jA L q).aA.ax).version≠0 then (bX t q (b9 (lJ L q).1).1 ((jA L q).ek (jA L q).aA.ax).version,L)
 else ((qw t (jA L q) (b9 (lJ L q).1).1).1,L.set q.toNat (qw t (jA L q) (b9 (lJ L q).1).1).2)
structure XP (t:aQ) (p:Nat) (x:RP):Prop where
 part:x.aA.part=p
 right:x.aA.right=true
 act:iH t p (x.slot x.aA.ax)=(x.ek x.aA.ax,0)
 Rm:iH t p (x.slot x.aA.aj)=(x.ek x.aA.aj,0)
def qu (t:aQ) (L:List RP):Prop:=∀p,p < L.length→XP t p (L.getD p default)
theorem uF (L:List RP):(cK L).length=L.length:=by simp [cK]
theorem kB (L:List RP) (p:Nat):(cK L).getD p default=(L.getD p default).dp:=by
 simp only [cK,dz,List.getElem?_map];cases L[p]?<;>rfl
theorem uE (L:List RP) (p:Nat) (x:RP):cK (L.set p x)=(cK L).set p x.dp:=by simp [cK,List.map_set]
theorem yY (x:RP) (k:Int) (s:RS):(x.bx k s).dp=x.dp.bx k s:=by unfold RP.bx DP.bx;split<;>rfl
theorem Rh (x:RP) (k:Int) (i:aw):(x.mB k i).dp=x.dp:=by unfold RP.mB;split<;>rfl
theorem B9 {L:List RP} {p:Nat} (h:p < L.length):L.set p (L.getD p default)=L:=by
 refine List.ext_getElem (by simp) fun i h1 h2=>?_;rw [List.getElem_set];split
 ·subst_vars;exact tu h _
 ·rfl
theorem XP.c01 {t:aQ} {p:Nat} {x:RP} (h:XP t p x):(x.aA.aj=0∨x.aA.aj=1)∧(x.aA.ax=0∨x.aA.ax=1):=by
 have:=fC.la h.right;omega
theorem Nf {x:RP} {c:Int} (hc:c=0∨c=1) (s:RS):(x.bx (1-c) s).slot c=x.slot c∧(x.bx (1-c) s).ek c=x.ek c∧(x.bx (1-c) s).aA=x.aA:=by
 rcases hc with rfl|rfl
 ·exact ⟨rfl,rfl,rfl⟩
 ·exact ⟨rfl,rfl,rfl⟩
theorem XP.spare {t:aQ} {p:Nat} {x:RP} (h:XP t p x) (hn:x.dp.ay=false) (s:RS):XP t p (x.bx x.ot s):=by
 have AF:x.aA.ax=x.aA.aj:=by simpa [DP.ay,RP.dp] using hn
 obtain ⟨h1,h2,h3⟩:=Nf (x:=x) h.c01.1 s;unfold RP.ot;refine ⟨by rw [h3];exact h.part,by rw [h3];exact h.right,?_,?_⟩
 ·rw [h3,AF,h1,h2];exact h.Rm
 ·rw [h3,h1,h2];exact h.Rm
theorem IJ {t:aQ} {p:Nat} {x:RP} (h:XP t p x) {r:Rec} (ha:r.ax=x.aA.ax∨r.ax=x.aA.aj) (hc:r.aj=x.aA.ax∨r.aj=x.aA.aj):XP t p (eo x r).2:=by
 unfold eo;split
 ·exact h
 ·split
  ·rename_i hr
   refine ⟨h.part,hr,?_,?_⟩
   ·show iH t p (x.slot r.ax)=(x.ek r.ax,0)
    rcases ha with e|e<;>rw [e]
    ·exact h.act
    ·exact h.Rm
   ·show iH t p (x.slot r.aj)=(x.ek r.aj,0)
    rcases hc with e|e<;>rw [e]
    ·exact h.act
    ·exact h.Rm
  ·exact h
theorem qu.set {t:aQ} {L:List RP} (h:qu t L) {p:Nat} (hp:p < L.length) {x:RP} (hx:XP t p x):qu t (L.set p x):=by
 intro i hi;rw [List.length_set] at hi;by_cases hpi:p=i
 ·subst hpi;rw [kT hp];exact hx
 ·rw [ke hpi];exact h i hi
theorem kW {L:List RP} {q:Int} (h:dm (cK L) q=0):∃p:Nat,q=p∧p < L.length∧(L.getD p default).dp.ay=false:=by
 obtain ⟨p,rfl,hp⟩:=sF h;rw [uF] at hp;refine ⟨p,rfl,hp,?_⟩;unfold dm at h;rw [if_neg (by rw [uF];omega),ea,kB] at h;cases e:(L.getD p default).dp.ay
 ·rfl
 ·rw [e] at h;simp at h
theorem ur {D:List DP} {q se:Int} (h:dR D q se=0):dm D q=0:=by
 by_cases h1:dm D q=0
 ·exact h1
 ·unfold dR at h;rw [if_pos h1] at h;exact h
theorem jg (L:List RP) (p:Nat):jA L (p:Int)=L.getD p default:=by unfold jA;rw [ea]
section
variable {t : aQ} {L : List RP} (h : qu t L)
include h
theorem O7 (q se sz:Int):(mr L q se sz).1=(nJ (cK L) q se sz).1∧cK (mr L q se sz).2=(nJ (cK L) q se sz).2∧qu t (mr L q se sz).2:=by
 unfold mr nJ;by_cases h0:dm (cK L) q≠0
 ·rw [if_pos h0,if_pos h0];exact ⟨rfl,rfl,h⟩
 ·rw [if_neg h0,if_neg h0];obtain ⟨p,rfl,hp,ht⟩:=kW (by simpa using h0);rw [ea,jg,kB];refine ⟨rfl,?_,h.set hp ((h p hp).spare ht _)⟩;rw [uE,yY];rfl
theorem Sh (q se no:Int) (data:List Int):(pd L q se no data).1=(qf (cK L) q se no data).1∧cK (pd L q se no data).2=(qf (cK L) q se no data).2∧qu t (pd L q se no data).2:=by
 unfold pd qf;by_cases h0:dm (cK L) q≠0
 ·rw [if_pos h0,if_pos h0];exact ⟨rfl,rfl,h⟩
 ·rw [if_neg h0,if_neg h0];obtain ⟨p,rfl,hp,ht⟩:=kW (by simpa using h0);rw [ea,jg,kB];refine ⟨rfl,?_,h.set hp ((h p hp).spare ht _)⟩;rw [uE,yY];rfl
theorem Si (q se:Int):(pg L q se).1=(BU (cK L) q se).1∧cK (pg L q se).2=(BU (cK L) q se).2∧qu t (pg L q se).2:=by
 unfold pg BU;by_cases h0:dR (cK L) q se≠0
 ·rw [if_pos h0,if_pos h0];exact ⟨rfl,rfl,h⟩
 ·rw [if_neg h0,if_neg h0];obtain ⟨p,rfl,hp,ht⟩:=kW (ur (by simpa using h0));rw [ea,jg,kB];refine ⟨rfl,?_,h.set hp ((h p hp).spare ht _)⟩;rw [uE,yY];rfl
theorem CQ {p:Nat} (hp:p < L.length) (r:Rec):(eo (L.getD p default) r).1=(gC (cK L) p r).1∧cK (L.set p (eo (L.getD p default) r).2)=(gC (cK L) p r).2:=by
 unfold eo gC;rw [kB,(h p hp).part];show _=(if 4294967295≤(L.getD p default).aA.seq then _ else if (bY p (L.getD p default).aA r).right then _ else _:Int×List DP).1∧_
 by_cases h1:4294967295≤(L.getD p default).aA.seq
 ·rw [if_pos h1,if_pos h1,B9 hp,if_pos (show 4294967295≤(L.getD p default).dp.r.seq from h1)];exact ⟨rfl,rfl⟩
 ·rw [if_neg h1,if_neg h1,if_neg (show ¬4294967295≤(L.getD p default).dp.r.seq from h1)];by_cases h2:(bY p (L.getD p default).aA r).right=true
  ·rw [if_pos h2,if_pos h2,if_pos (show (bY p (L.getD p default).dp.r r).right=true from h2),uE];exact ⟨rfl,rfl⟩
  ·rw [if_neg h2,if_neg h2,B9 hp,if_neg (show ¬(bY p (L.getD p default).dp.r r).right=true from h2)];exact ⟨rfl,rfl⟩
theorem Lj (q:Int):(jf L q).1=(sG (cK L) q).1∧cK (jf L q).2=(sG (cK L) q).2∧qu t (jf L q).2:=by
 unfold jf sG;rw [uF];by_cases hq:q < 0∨(L.length:Int)≤q
 ·rw [if_pos hq,if_pos hq];exact ⟨rfl,rfl,h⟩
 ·rw [if_neg hq,if_neg hq];obtain ⟨p,rfl⟩:=Int.eq_ofNat_of_zero_le (by omega:0≤q);have hp:p < L.length:=by omega
  simp only [Int.ofNat_eq_natCast,ea,jg,kB] at *;by_cases h2:(L.getD p default).dp.ay=false
  ·rw [if_pos h2,if_pos h2];exact ⟨rfl,rfl,h⟩
  ·rw [if_neg h2,if_neg h2];obtain ⟨e1,e2⟩:=CQ h hp (Rec.oN (L.getD p default).aA);exact ⟨e1,e2,h.set hp (IJ (h p hp) (.inl rfl) (.inl rfl))⟩
theorem Di {p:Nat} (hp:p < L.length):tO t (cK L) p=((L.getD p default).ek (L.getD p default).aA.ax,0):=by
 unfold tO;rw [kB];exact (h p hp).act
theorem Sj (q:Int):(ph L q).1=(jW t (cK L) q).1.2∧cK (ph L q).2=(jW t (cK L) q).2∧qu t (ph L q).2:=by
 unfold ph jW;rw [uF];by_cases hq:q < 0∨(L.length:Int)≤q
 ·rw [if_pos hq,if_pos hq];exact ⟨rfl,rfl,h⟩
 ·rw [if_neg hq,if_neg hq];obtain ⟨p,rfl⟩:=Int.eq_ofNat_of_zero_le (by omega:0≤q);have hp:p < L.length:=by omega
  simp only [Int.ofNat_eq_natCast,ea,jg,kB] at *;by_cases h2:(L.getD p default).dp.ay=false
  ·rw [if_pos h2,if_pos h2,Di h hp];exact ⟨rfl,rfl,h⟩
  ·rw [if_neg h2,if_neg h2];obtain ⟨e1,e2⟩:=CQ h hp (aW (L.getD p default).aA);have hx:XP t p (eo (L.getD p default) (aW (L.getD p default).aA)).2:=IJ (h p hp) (by unfold aW;split<;>simp) (by unfold aW;split<;>simp);show _=(if (gC (cK L) p (aW (L.getD p default).aA)).1≠0 then _ else _:(aw×Int)×List DP).1.2∧cK _=(if (gC (cK L) p (aW (L.getD p default).aA)).1≠0 then _ else _:(aw×Int)×List DP).2∧_
   by_cases h3:(gC (cK L) p (aW (L.getD p default).aA)).1≠0
   ·rw [if_pos h3];exact ⟨e1,e2,h.set hp hx⟩
   ·rw [if_neg h3];refine ⟨?_,e2,h.set hp hx⟩;show (eo (L.getD p default) (aW (L.getD p default).aA)).1=(iH t p (((gC (cK L) p (aW (L.getD p default).aA)).2.getD p default).slot (aW (L.getD p default).aA).ax)).2
    rw [←e2,kB,kT hp,e1];have nY:(eo (L.getD p default) (aW (L.getD p default).aA)).1=0:=by rw [e1];simpa using h3
    have pJ:(eo (L.getD p default) (aW (L.getD p default).aA)).2.aA.ax=(aW (L.getD p default).aA).ax:=by
     unfold eo at nY ⊢;split at nY
     ·simp at nY
     ·split at nY
      ·rename_i g1 g2;rw [if_neg g1,if_pos g2];rfl
      ·simp at nY
    have ha:=hx.act;rw [pJ] at ha;rw [←e1,nY];exact (congrArg Prod.snd ha).symm
theorem Sg (q se:Int):(mY t L q se).1=(qe t (cK L) q se).1∧cK (mY t L q se).2=(qe t (cK L) q se).2∧qu t (mY t L q se).2:=by
 unfold mY qe;by_cases h0:dR (cK L) q se≠0
 ·rw [if_pos h0,if_pos h0];exact ⟨rfl,rfl,h⟩
 ·rw [if_neg h0,if_neg h0];obtain ⟨p,rfl,hp,ht⟩:=kW (ur (by simpa using h0));have e0:wD (cK L) p=lJ L p:=by unfold wD lJ;rw [kB,jg];rfl
  rw [ea,e0,Di h hp];simp only [jg];by_cases h1:(lJ L p).2≠0
  ·rw [if_pos h1,if_pos h1];exact ⟨rfl,rfl,h⟩
  rw [if_neg h1,if_neg h1];by_cases h2:(b9 (lJ L p).1).2≠0
  ·rw [if_pos h2,if_pos h2];exact ⟨rfl,rfl,h⟩
  rw [if_neg h2,if_neg h2,if_neg (show ¬((0:Int)≠0) by simp)];by_cases h4:bX t p (b9 (lJ L p).1).1 ((L.getD p default).ek (L.getD p default).aA.ax).version≠0
  ·rw [if_pos h4,if_pos h4];exact ⟨rfl,rfl,h⟩
  rw [if_neg h4,if_neg h4,kB];obtain ⟨e1,e2⟩:=CQ h hp (fh t (L.getD p default).aA);have xD:=h p hp;generalize hL:L.getD p default=x at *;have hg:b9 (lJ L p).1=((b9 (lJ L p).1).1,0):=Prod.ext rfl (by simpa using h2)
  have hB:dt (x.slot x.ot)=((lJ L p).1,0):=by
   have:lJ L p=dt (x.slot x.ot):=by unfold lJ;rw [jg,hL]
   rw [←this];exact Prod.ext rfl (by simpa using h1)
  generalize (lJ L p).1=b at *;obtain ⟨i,hi⟩:∃i,i=(b9 b).1:=⟨_,rfl⟩
  rw [←hi] at h4 hg ⊢
  have tV:bX t p i 0=0:=by
   obtain ⟨c1,c2,c3,c4⟩:=EJ.1 (by simpa using h4);refine EJ.2 ⟨c1,c2,c3,fun j hj=>?_⟩;rcases (by omega:j=0∨j=1∨j=2∨j=3) with rfl|rfl|rfl|rfl
   ·exact c4 0 (by omega)
   ·exact c4 1 (by omega)
   ·exact c4 2 (by omega)
   ·obtain ⟨_,⟨a0,_⟩,_⟩:=c3;simp only [fE,decide_eq_true_eq];omega
  have hh:iH t p (x.slot x.ot)=(i,0):=by
   unfold iH;rw [hB];simp only [hg];rw [if_neg (by simp),if_neg (by simp),if_neg (by simpa using tV)]
  refine ⟨e1,?_,?_⟩
  ·rw [uE];refine Eq.trans ?_ e2;rw [uE];unfold qw
   congr 1
   dsimp only;split
   ·exact Rh _ _ _
   ·rfl
  ·refine h.set hp ?_;show XP t p (qw t x i).2
   unfold qw;dsimp only;have AF:x.aA.ax=x.aA.aj:=by simpa [DP.ay,RP.dp] using ht
   by_cases hz:(eo x (fh t x.aA)).1=0
   ·rw [if_pos hz];unfold eo at hz ⊢;split at hz
    ·simp at hz
    ·split at hz
     ·rename_i g1 g2
      rw [if_neg g1,if_pos g2];have c01:=xD.c01.1;have N6:=xD.Rm;have Vf:=xD.part;obtain ⟨r,s0,s1,j0,j1⟩:=x;simp only [RP.ot] at *;have hk:(1-r.aj=0∧r.aj=1)∨(1-r.aj=1∧r.aj=0):=by omega
      unfold RP.mB;rcases hk with ⟨k1,k2⟩|⟨k1,k2⟩
      ·simp only [k1] at hh ⊢;refine ⟨Vf,g2,?_,?_⟩
       ·show iH t p (RP.slot _ (1-r.aj))=(RP.ek _ (1-r.aj),0)
        rw [k1];exact hh
       ·show iH t p (RP.slot _ r.aj)=(RP.ek _ r.aj,0)
        simp only [k2] at N6 ⊢;exact N6
      ·simp only [k1] at hh ⊢;refine ⟨Vf,g2,?_,?_⟩
       ·show iH t p (RP.slot _ (1-r.aj))=(RP.ek _ (1-r.aj),0)
        rw [k1];exact hh
       ·show iH t p (RP.slot _ r.aj)=(RP.ek _ r.aj,0)
        simp only [k2] at N6 ⊢;exact N6
     ·simp at hz
   ·rw [if_neg hz];unfold eo at hz ⊢;split
    ·exact xD
    ·split
     ·rename_i g1 g2;rw [if_neg g1,if_pos g2] at hz;exact absurd rfl hz
     ·exact xD
theorem qu.same {p:Nat} (hp:p < L.length):UR t (cK L) p (L.getD p default):=by
 have hx:=h p hp;have et:¬((p:Int) < 0∨((cK L).length:Int)≤p):=by rw [uF];omega
 have hI:oM t (cK L) (p:Int)=((L.getD p default).ek (L.getD p default).aA.ax,0):=by
  unfold oM;rw [if_neg et,ea];exact Di h hp
 have hS:sD (cK L) (p:Int)=(Io (L.getD p default).sp,(L.getD p default).sp.has):=by
  unfold sD;rw [if_neg et,ea,kB];rfl
 refine ⟨by rw [hI],by rw [hI],?_,by rw [hS],fun hh=>?_⟩
 ·unfold AX;rw [if_neg et,ea,kB];rfl
 ·rw [hS] at hh ⊢;simp only at hh;unfold Io;rw [if_pos hh]
end
end store
end Go.Proofs.YtdldkkoplgkloaaGreat
