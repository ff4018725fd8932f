/-
  PROVED HERE: lemmas and contracts that the law's proof leans on (texts put together: SameStore).
  CONDITIONS: each names its own.
-/
import Derived.Test.YtdldkkoplgkloaaGreatPz38
namespace Go.Proofs.YtdldkkoplgkloaaGreat
set_option linter.unusedVariables false
set_option linter.unusedSimpArgs false
set_option maxRecDepth 100000
set_option maxHeartbeats 32000000
namespace store


open Go.RowKit Go.Deep base obj mem sep plan disk record commit stage image tab compat chain crc
theorem RAt.over {w w':World} {X n p:Nat} {y:RPA×RP} {b off c bS oS cS bI oI cI:Nat} (h:RAt w X n p y b off c bS oS cS bI oI cI) (k:Below w.heap.size w w'):RAt w' X n p y b off c bS oS cS bI oI cI :=
 ⟨(k.cell h.lX).trans h.x5,Nat.lt_of_lt_of_le h.lX k.size,Nat.lt_of_lt_of_le h.lb k.size,fun j u hj hu=>(k.cell h.lb).trans (h.row j u hj hu),h.eS,Nat.lt_of_lt_of_le h.lS k.size,fun j u hu=>(k.cell h.lS).trans (h.slots j u hu),h.eI,Nat.lt_of_lt_of_le h.lI k.size,fun j u hu=>(k.cell h.lI).trans (h.imgs j u hu)⟩
section
variable {w0 w : World} {ad : StAd} {t : Tab} {d : Nat} {m : DS} {xs : List PP} {D : List DP} {l : List Asn}
theorem stage_u (h:StoU w0 w ad t d m xs D l) (q:Int):Calls Tryz.prog 12 #[.pointer (some ⟨ad.S,0,none⟩),.int .i64 q] w fun e w'=>e=.returned (.tuple #[(dStg D q).1.val,.bool (dStg D q).2])∧Below w.heap.size w w':=by
 have e:stgAt xs q=dStg D q:=by
  unfold stgAt dStg
  rw [h.inv.len]
  by_cases hq:q < 0∨(xs.length:Int)≤q
  ·rw [if_pos hq,if_pos hq]
  ·rw [if_neg hq,if_neg hq]
   have hu:=h.inv.parts q.toNat (by omega)
   have hm:=(hu.si hu.sp01).mem
   rw [hu.sp]
   unfold told toldR
   simp only [hm.has,hm.st]
 rw [←e]
 exact sstage_str h.st h.ok q
end
def RP.sp (x:RP):RS:=if 1-x.rec_.confirmed=0 then x.s0 else x.s1
def sameP (t:Tab) (D:List DP) (p:Nat) (x:RP):Prop:=(dImage t D p).2=0∧(dImage t D p).1=x.img x.rec_.active∧dRec D p=x.rec_∧(dStg D p).2=x.sp.has∧((dStg D p).2=true→(dStg D p).1=x.sp.st)
theorem same_yes {w0 w:World} {ad:StAd} {t:Tab} {d:Nat} {m:DS} {xs:List PP} {D:List DP} {X:Nat} {tv:List Value} {v:Value} {P:List (Nat×List Value)} {ys:List (RPA×RP)} {l:List Asn} (h:StoU w0 w ad t d m xs D (rstr X tv v P ys::l)) (htv:tv.length=5) (hn:ys.length=xs.length)
  (hr:∀y∈ys,y.2.rec_.right=true) (hc:∀w' l',St w0 w' (strA ad t d m xs::rstr X tv v P ys::l')→∀y∈ys,∀k:Int,Sl w' w'.heap.size 1 (y.1.K k).1 (y.2.img k).code.length (u8s (y.2.img k).code)∧(y.2.img k).code.length≤1000000)
  (hs:∀p (hp:p < ys.length),sameP t D p ys[p].2) :
  Calls Tryz.prog 24 #[.pointer (some ⟨ad.S,0,none⟩),.pointer (some ⟨X,0,none⟩)] w fun e w'=>e=.returned (.bool true)∧StoU w0 w' ad t d m xs D (rstr X tv v P ys::l):=by
 have hst:=h.st.pick 1 rfl
 have hX:=(rstr_open hst)
 have hXr:=hX.row.1
 have hO:=(hX.pick 1 rfl).own
 obtain ⟨AO,cO,hv,_,_⟩:=own_form hO
 have x5:w.cell? ⟨X,5,none⟩=some (.slice AO ys.length cO):=by
  rw [hXr.cell 5,List.getElem?_append_right (by omega),htv,hv];rfl
 have lX:=hXr.lt
 have H:=Lib.hid h;have HR:=Lib.hid hr;have HC:=Lib.hid hc;have HS:=Lib.hid hs;have HN:=Lib.hid hn
 have HTV:=Lib.hid htv
 obtain ⟨n,hnn⟩:∃n,n=ys.length:=⟨_,rfl⟩
 have hn4:n≤4:=by have:=h.ok.n4;omega
 rw [←hnn] at x5
 have HNN:=Lib.hid hnn
 obtain ⟨S,hS⟩:∃S,S=ad.S:=⟨_,rfl⟩
 rw [←hS]
 have HSS:=Lib.hid hS
 clear hst hX hXr hO hv h hr hc hs hn htv hnn hS
 go_enter Tryz.func24,Tryz.ntmps24
 go_wp2_with (fail)
 go_loopw [17] (fun x wr=>∃p:Nat,p≤n∧x=.int .i64 (p:Int)∧StoU w0 wr ad t d m xs D (rstr X tv v P ys::l)) (fun x _=>n-(intOf x).toNat)
 case atStart=>exact ⟨0,by omega,rfl,H.out⟩
 case round =>
  obtain ⟨p,hp,rfl,hs⟩:=hrel
  clear H x5 lX
  have HST:=Lib.hid hs
  clear hs
  by_cases hlt:p < n
  ·have hpy:p < ys.length:=by rw [←HNN.out];exact hlt
   have HRS:=Lib.hid (fun (w':World) (l':List Asn) (hst:St w0 w' (rstr X tv v P ys::l'))=>rstr_at hst HTV.out hpy)
   have hme:=List.getElem_mem hpy
   have hrr:=refRec.rec_in (HR.out _ hme)
   have hsp:=HS.out p hpy
   have HCC:=Lib.hid (fun (w':World) (l':List Asn) (hst:St w0 w' (strA ad t d m xs::rstr X tv v P ys::l')) (k:Int)=>HC.out w' l' hst _ hme k)
   rw [←HNN.out] at HRS
   generalize ys[p]=y at *
   have HSP:=Lib.hid hsp
   have HIM:=Lib.hid (image_u HST.out (p:Int))
   rw [hsp.1,hsp.2.1,←HSS.out] at HIM
   have k1:(p:Int) < (n:Int):=by omega
   have kp:(0:Int)≤(p:Int):=by omega
   have hcf:y.2.rec_.confirmed=0∨y.2.rec_.confirmed=1:=by omega
   have hac:y.2.rec_.active=0∨y.2.rec_.active=1:=by omega
   clear hme hrr hsp
   go_wp2_with (fail)
   refine HIM.out.mono ?_
   rintro e w1 ⟨A,cA,rfl,hs1⟩
   have HS1:=Lib.hid hs1
   clear hs1 HIM
   dsimp only
   obtain ⟨j,hj⟩:∃j,j=y.2.img y.2.rec_.active:=⟨_,rfl⟩
   rw [←hj] at HS1 ⊢
   have HJ:=Lib.hid hj
   simp only [Img.val]
   obtain ⟨j0,hj0⟩:∃v,v=j.part:=⟨_,rfl⟩
   obtain ⟨j1,hj1⟩:∃v,v=j.version:=⟨_,rfl⟩
   obtain ⟨j2,hj2⟩:∃v,v=j.hard:=⟨_,rfl⟩
   obtain ⟨j3,hj3⟩:∃v,v=j.mem:=⟨_,rfl⟩
   obtain ⟨j4,hj4⟩:∃v,v=j.fuel:=⟨_,rfl⟩
   obtain ⟨j5,hj5⟩:∃v,v=j.sends:=⟨_,rfl⟩
   obtain ⟨j6,hj6⟩:∃v,v=j.receives:=⟨_,rfl⟩
   obtain ⟨j7,hj7⟩:∃v,v=j.code.length:=⟨_,rfl⟩
   have HJV:=Lib.hid (show ∀(A:Option Addr) (c:Nat),j.val A c=.agg #[.int .i64 j0,.int .i64 j1,.int .i64 j2,.int .i64 j3,.int .i64 j4,.int .i64 j5,.int .i64 j6,.slice A j7 c] from fun A c=>by rw [hj0,hj1,hj2,hj3,hj4,hj5,hj6,hj7];rfl)
   rw [←hj0,←hj1,←hj2,←hj3,←hj4,←hj5,←hj6,←hj7]
   have HJ7:=Lib.hid hj7
   clear hj hj0 hj1 hj2 hj3 hj4 hj5 hj6 hj7
   obtain ⟨I,hI⟩:∃I,I=w1.heap.size:=⟨_,rfl⟩
   obtain ⟨w2,hw2⟩:∃v,v=w1.alloc (.cells #[.int .i64 j0,.int .i64 j1,.int .i64 j2,.int .i64 j3,.int .i64 j4,.int .i64 j5,.int .i64 j6,.slice A j7 cA] 26):=⟨_,rfl⟩
   have h2:=HS1.out.st.new 26 #[.int .i64 j0,.int .i64 j1,.int .i64 j2,.int .i64 j3,.int .i64 j4,.int .i64 j5,.int .i64 j6,.slice A j7 cA]
   rw [←hI,←hw2] at h2
   have HS2:=Lib.hid (HS1.out.move h2.swap)
   have HSG:=Lib.hid (stage_u HS2.out (p:Int))
   have hs4:=HSP.out.2.2.2
   have HI:=Lib.hid hI;have HW2:=Lib.hid hw2
   obtain ⟨s1,hs1⟩:∃v,v=(dStg D (p:Int)).1.session:=⟨_,rfl⟩
   obtain ⟨s2,hs2⟩:∃v,v=(dStg D (p:Int)).1.size:=⟨_,rfl⟩
   obtain ⟨s3,hs3⟩:∃v,v=(dStg D (p:Int)).1.have_:=⟨_,rfl⟩
   have hsv:(dStg D (p:Int)).1.val=.agg #[.int .i64 s1,.int .i64 s2,.int .i64 s3]:=by rw [hs1,hs2,hs3];rfl
   obtain ⟨ha,hha⟩:∃v,v=y.2.sp.has:=⟨_,rfl⟩
   rw [hsv,hs4.1,←hha,←HSS.out] at HSG
   have HST5:=Lib.hid (show ha=true→s1=y.2.sp.st.session∧s2=y.2.sp.st.size∧s3=y.2.sp.st.have_ from fun h=>by
    have:=hs4.2 (by rw [hs4.1,←hha];exact h)
    rw [hs1,hs2,hs3,this];exact ⟨rfl,rfl,rfl⟩)
   have HHA:=Lib.hid hha
   clear h2 hI hw2 hs4 hs1 hs2 hs3 hsv hha
   go_upto_region 5 with fail
   rw [←HW2.out,←HI.out]
   go_wp2_with (fail)
   refine HSG.out.mono ?_
   rintro e w3 ⟨rfl,hb⟩
   have HS3:=Lib.hid (HS2.out.below hb)
   clear hb HSG
   dsimp only
   obtain ⟨T,hT⟩:∃T,T=w3.heap.size:=⟨_,rfl⟩
   obtain ⟨w4,hw4⟩:∃v,v=w3.alloc (.cells #[.int .i64 s1,.int .i64 s2,.int .i64 s3] 31):=⟨_,rfl⟩
   have h4:=HS3.out.st.new 31 #[.int .i64 s1,.int .i64 s2,.int .i64 s3]
   rw [←hT,←hw4] at h4
   have HS4:=Lib.hid (HS3.out.move h4.swap)
   have HT:=Lib.hid hT;have HW4:=Lib.hid hw4
   clear h4 hT hw4
   go_upto_region 6 with fail
   rw [←HW4.out,←HT.out]
   obtain ⟨r0,hr0⟩:∃v,v=y.2.rec_.part:=⟨_,rfl⟩
   obtain ⟨r1,hr1⟩:∃v,v=y.2.rec_.seq:=⟨_,rfl⟩
   obtain ⟨r2,hr2⟩:∃v,v=y.2.rec_.active:=⟨_,rfl⟩
   obtain ⟨r3,hr3⟩:∃v,v=y.2.rec_.confirmed:=⟨_,rfl⟩
   obtain ⟨r4,hr4⟩:∃v,v=y.2.rec_.left:=⟨_,rfl⟩
   obtain ⟨r5,hr5⟩:∃v,v=y.2.rec_.bad:=⟨_,rfl⟩
   have HRV:=Lib.hid (show y.2.rec_.val=.agg #[.int .i64 r0,.int .i64 r1,.int .i64 r2,.int .i64 r3,.int .i64 r4,.int .i64 r5] by rw [hr0,hr1,hr2,hr3,hr4,hr5];rfl)
   obtain ⟨b,off,c,bS,oS,cS,bI,oI,cI,hra⟩:=HRS.out w4 _ (HS4.out.st.pick 4 rfl)
   have HRA:=Lib.hid hra
   have x5:=hra.x5;have lX:=hra.lX;have lb:=hra.lb
   have q0:w4.cell? ⟨b,off+p*8,none⟩=some (.int .i64 r0):=hra.row 0 _ (by omega) (by rw [hr0];rfl)
   have q1:w4.cell? ⟨b,off+p*8+1,none⟩=some (.int .i64 r1):=hra.row 1 _ (by omega) (by rw [hr1];rfl)
   have q2:w4.cell? ⟨b,off+p*8+2,none⟩=some (.int .i64 r2):=hra.row 2 _ (by omega) (by rw [hr2];rfl)
   have q3:w4.cell? ⟨b,off+p*8+3,none⟩=some (.int .i64 r3):=hra.row 3 _ (by omega) (by rw [hr3];rfl)
   have q4:w4.cell? ⟨b,off+p*8+4,none⟩=some (.int .i64 r4):=hra.row 4 _ (by omega) (by rw [hr4];rfl)
   have q5:w4.cell? ⟨b,off+p*8+5,none⟩=some (.int .i64 r5):=hra.row 5 _ (by omega) (by rw [hr5];rfl)
   have q6:w4.cell? ⟨b,off+p*8+6,none⟩=some (.slice (some ⟨bS,oS,none⟩) 2 cS):=hra.row 6 _ (by omega) (by rw [←hra.eS];rfl)
   have q7:w4.cell? ⟨b,off+p*8+7,none⟩=some (.slice (some ⟨bI,oI,none⟩) 2 cI):=hra.row 7 _ (by omega) (by rw [←hra.eI];rfl)
   obtain ⟨kk,hkk,hkk2⟩:∃kk:Nat,1-y.2.rec_.confirmed=kk∧kk < 2:=⟨(1-y.2.rec_.confirmed).toNat,by omega,by omega⟩
   obtain ⟨e1,he1⟩:∃v,v=y.2.sp.st.session:=⟨_,rfl⟩
   obtain ⟨e2,he2⟩:∃v,v=y.2.sp.st.size:=⟨_,rfl⟩
   obtain ⟨e3,he3⟩:∃v,v=y.2.sp.st.have_:=⟨_,rfl⟩
   have hsl:∀m u,m < 4→([.bool y.2.sp.has,.int .i64 y.2.sp.st.session,.int .i64 y.2.sp.st.size,.int .i64 y.2.sp.st.have_]:List Value)[m]?=some u→w4.cell? ⟨bS,oS+kk*5+m,none⟩=some u:=fun m u hm hu=>by
    rw [Nat.add_assoc]
    refine hra.slots _ _ ?_
    unfold RP.sp at hu
    rcases (by omega:kk=0∨kk=1) with rfl|rfl
    ·rw [if_pos (by omega)] at hu
     rw [List.getElem?_append_left (by show 0*5+m < 5;omega),Nat.zero_mul,Nat.zero_add]
     rcases (by omega:m=0∨m=1∨m=2∨m=3) with rfl|rfl|rfl|rfl<;>exact hu
    ·rw [if_neg (by omega)] at hu
     rw [List.getElem?_append_right (by show 5≤1*5+m;omega),show 1*5+m-(rcells y.2.s0 y.1.v0).length=m by show 1*5+m-5=m;omega]
     rcases (by omega:m=0∨m=1∨m=2∨m=3) with rfl|rfl|rfl|rfl<;>exact hu
   have HSL:=Lib.hid (show w4.cell? ⟨bS,oS+kk*5,none⟩=some (.bool ha)∧w4.cell? ⟨bS,oS+kk*5+1,none⟩=some (.int .i64 e1)∧w4.cell? ⟨bS,oS+kk*5+2,none⟩=some (.int .i64 e2)∧w4.cell? ⟨bS,oS+kk*5+3,none⟩=some (.int .i64 e3)∧bS < w4.heap.size from ⟨by rw [HHA.out];exact hsl 0 _ (by omega) rfl,by rw [he1];exact hsl 1 _ (by omega) rfl,by rw [he2];exact hsl 2 _ (by omega) rfl,by rw [he3];exact hsl 3 _ (by omega) rfl,hra.lS⟩)
   rw [←he1,←he2,←he3] at HST5
   have HKK2:=Lib.hid hkk2
   have hw3:IntKind.i64.wrap (1-r3)=(kk:Int):=by rw [hr3,hkk,IntWalk.i64_in _ (by omega)]
   have HRA2:=Lib.hid (fun (w':World) (hb:Below w4.heap.size w4 w')=>rimage_at (HRA.out.over hb) hlt (by rw [←hr2] at hac;rw [←hr2];exact hac))
   have HRU:=Lib.hid (fun (w':World) (l':List Asn) (hst:St w0 w' (strA ad t d m xs::l'))=>record_u (HS4.out.move hst) (p:Int))
   clear hsl hr0 hr1 hr2 hr3 hr4 hr5 hkk he1 he2 he3 hcf hac hra
   obtain ⟨O,hO⟩:∃O,O=w4.heap.size:=⟨_,rfl⟩
   obtain ⟨w5,hw5⟩:∃v,v=w4.alloc (.cells #[.int .i64 r0,.int .i64 r1,.int .i64 r2,.int .i64 r3,.int .i64 r4,.int .i64 r5,.slice (some ⟨bS,oS,none⟩) 2 cS,.slice (some ⟨bI,oI,none⟩) 2 cI] 65):=⟨_,rfl⟩
   have h5:=HS4.out.st.new 65 #[.int .i64 r0,.int .i64 r1,.int .i64 r2,.int .i64 r3,.int .i64 r4,.int .i64 r5,.slice (some ⟨bS,oS,none⟩) 2 cS,.slice (some ⟨bI,oI,none⟩) 2 cI]
   rw [←hO,←hw5] at h5
   have HS5:=Lib.hid (HS4.out.move h5.swap)
   have HB45:=Lib.hid (show Below w4.heap.size w4 w5 by rw [hw5];exact (Below.refl _ w4).alloc (Nat.le_refl _) _)
   have r3c:w5.cell? ⟨O,3,none⟩=some (.int .i64 r3):=h5.row.1.cell 3
   have lO:=h5.row.1.lt
   have HO:=Lib.hid hO;have HW5:=Lib.hid hw5
   clear h5 hO hw5
   go_upto_region 7 with fail
   rw [←HW5.out,←HO.out]
   clear q0 q1 q2 q3 q4 q5 q6 q7 x5 lX lb
   have HCJ:=Lib.hid (fun (w':World) (hb:Below w5.heap.size w5 w')=>show w'.cell? ⟨I,0,none⟩=some (.int .i64 j0)∧w'.cell? ⟨I,1,none⟩=some (.int .i64 j1)∧w'.cell? ⟨I,2,none⟩=some (.int .i64 j2)∧w'.cell? ⟨I,3,none⟩=some (.int .i64 j3)∧w'.cell? ⟨I,4,none⟩=some (.int .i64 j4)∧w'.cell? ⟨I,5,none⟩=some (.int .i64 j5)∧w'.cell? ⟨I,6,none⟩=some (.int .i64 j6)∧w'.cell? ⟨I,7,none⟩=some (.slice A j7 cA)∧I < w'.heap.size∧w'.cell? ⟨T,0,none⟩=some (.int .i64 s1)∧w'.cell? ⟨T,1,none⟩=some (.int .i64 s2)∧w'.cell? ⟨T,2,none⟩=some (.int .i64 s3)∧T < w'.heap.size∧w'.cell? ⟨O,0,none⟩=some (.int .i64 r0)∧w'.cell? ⟨O,1,none⟩=some (.int .i64 r1)∧w'.cell? ⟨O,2,none⟩=some (.int .i64 r2)∧w'.cell? ⟨O,3,none⟩=some (.int .i64 r3)∧w'.cell? ⟨O,4,none⟩=some (.int .i64 r4)∧w'.cell? ⟨O,5,none⟩=some (.int .i64 r5)∧w'.cell? ⟨O,6,none⟩=some (.slice (some ⟨bS,oS,none⟩) 2 cS)∧w'.cell? ⟨O,7,none⟩=some (.slice (some ⟨bI,oI,none⟩) 2 cI)∧O < w'.heap.size∧w'.cell? ⟨bS,oS+kk*5,none⟩=some (.bool ha)∧w'.cell? ⟨bS,oS+kk*5+1,none⟩=some (.int .i64 e1)∧w'.cell? ⟨bS,oS+kk*5+2,none⟩=some (.int .i64 e2)∧w'.cell? ⟨bS,oS+kk*5+3,none⟩=some (.int .i64 e3)∧bS < w'.heap.size from by
    have h:=HS5.out.st.below hb
    have ra:=(h.pick 3 rfl).row.1
    have rb:=(h.pick 2 rfl).row.1
    have rc:=(h.pick 1 rfl).row.1
    have hb':=HB45.out.trans (hb.mono HB45.out.size)
    obtain ⟨a0,a1,a2,a3,a4⟩:=HSL.out
    exact ⟨ra.cell 0,ra.cell 1,ra.cell 2,ra.cell 3,ra.cell 4,ra.cell 5,ra.cell 6,ra.cell 7,ra.lt,rb.cell 0,rb.cell 1,rb.cell 2,rb.lt,rc.cell 0,rc.cell 1,rc.cell 2,rc.cell 3,rc.cell 4,rc.cell 5,rc.cell 6,rc.cell 7,rc.lt,(hb'.cell a4).trans a0,(hb'.cell a4).trans a1,(hb'.cell a4).trans a2,(hb'.cell a4).trans a3,Nat.lt_of_lt_of_le a4 hb'.size⟩)
   have HRI:=Lib.hid (HRA2.out w5.drew HB45.out.drew)
   rw [←HJ.out,HJV.out] at HRI
   have hck:=HCC.out w5 _ ((HS5.out.st.pick 5 rfl).swap) y.2.rec_.active
   have HCK2:=Lib.hid (fun (w':World) (hb:Below w5.heap.size w5 w')=>show Sl w' w'.heap.size 1 (y.1.K y.2.rec_.active).1 j.code.length (u8s j.code) from by rw [HJ.out];exact (hck.1.below hb).more hb.size)
   have HLEN:=Lib.hid (show j.code.length≤1000000 by rw [HJ.out];exact hck.2)
   have HOWN:=Lib.hid (fun (w':World) (hb:Below w5.heap.size w5 w')=>show Sl w' w'.heap.size 1 A j.code.length (u8s j.code) from Sl.of_own (((HS5.out.st.below hb).pick 4 rfl).own))
   obtain ⟨KA,hKA⟩:∃v,v=(y.1.K y.2.rec_.active).1:=⟨_,rfl⟩
   obtain ⟨Kc,hKc⟩:∃v,v=(y.1.K y.2.rec_.active).2:=⟨_,rfl⟩
   rw [←hKA,←hKc] at HRI
   rw [←hKA] at HCK2
   have HRM:=Lib.hid (fun (w':World) (hb:Below w5.heap.size w5 w')=>rsame_at w' j j A KA cA Kc (HOWN.out w' hb) (HCK2.out w' hb) HLEN.out HLEN.out)
   rw [sameB_iff.2 rfl,HJV.out,HJV.out] at HRM
   have HRC:=Lib.hid (fun (w':World) (hb:Below w5.heap.size w5 w')=>HRU.out w' _ (HS5.out.st.below hb))
   rw [HSP.out.2.2.1,HRV.out,←HSS.out] at HRC
   have HEND:=Lib.hid (fun (w':World) (hb:Below w5.heap.size w5 w')=>show StoU w0 w' ad t d m xs D (rstr X tv v P ys::l) from
    HST.out.move (((((((HS5.out.st.below hb).pick 1 rfl).drop.pick 1 rfl).drop.pick 1 rfl).drop.pick 1 rfl).drop)))
   clear hck hKA hKc hkk2
   have kk0:(0:Int)≤(kk:Int):=by omega
   have kk2:(kk:Int) < 2:=by have:=HKK2.out;omega
   go_upto_region 8 with fail
   refine held_start (fun w'=>w'.cell? ⟨I,0,none⟩=some (.int .i64 j0)∧w'.cell? ⟨I,1,none⟩=some (.int .i64 j1)∧w'.cell? ⟨I,2,none⟩=some (.int .i64 j2)∧w'.cell? ⟨I,3,none⟩=some (.int .i64 j3)∧w'.cell? ⟨I,4,none⟩=some (.int .i64 j4)∧w'.cell? ⟨I,5,none⟩=some (.int .i64 j5)∧w'.cell? ⟨I,6,none⟩=some (.int .i64 j6)∧w'.cell? ⟨I,7,none⟩=some (.slice A j7 cA)∧I < w'.heap.size∧w'.cell? ⟨T,0,none⟩=some (.int .i64 s1)∧w'.cell? ⟨T,1,none⟩=some (.int .i64 s2)∧w'.cell? ⟨T,2,none⟩=some (.int .i64 s3)∧T < w'.heap.size∧w'.cell? ⟨O,0,none⟩=some (.int .i64 r0)∧w'.cell? ⟨O,1,none⟩=some (.int .i64 r1)∧w'.cell? ⟨O,2,none⟩=some (.int .i64 r2)∧w'.cell? ⟨O,3,none⟩=some (.int .i64 r3)∧w'.cell? ⟨O,4,none⟩=some (.int .i64 r4)∧w'.cell? ⟨O,5,none⟩=some (.int .i64 r5)∧w'.cell? ⟨O,6,none⟩=some (.slice (some ⟨bS,oS,none⟩) 2 cS)∧w'.cell? ⟨O,7,none⟩=some (.slice (some ⟨bI,oI,none⟩) 2 cI)∧O < w'.heap.size∧w'.cell? ⟨bS,oS+kk*5,none⟩=some (.bool ha)∧w'.cell? ⟨bS,oS+kk*5+1,none⟩=some (.int .i64 e1)∧w'.cell? ⟨bS,oS+kk*5+2,none⟩=some (.int .i64 e2)∧w'.cell? ⟨bS,oS+kk*5+3,none⟩=some (.int .i64 e3)∧bS < w'.heap.size) (by kernel_rfl) (HCJ.out w5.drew (Below.refl w5.heap.size w5).drew) (fun hHeld=>?_)
   (refine held_t 0 (h:=?_);(try simp only [xGs,xGz,xGo,Act.put,xSi,xSz,xSs]));(refine held_t 1 (h:=?_);(try simp only [xGs,xGz,xGo,Act.put,xSi,xSz,xSs]));(refine held_t 2 (h:=?_);(try simp only [xGs,xGz,xGo,Act.put,xSi,xSz,xSs]));(refine held_t 3 (h:=?_);(try simp only [xGs,xGz,xGo,Act.put,xSi,xSz,xSs]));(refine held_t 4 (h:=?_);(try simp only [xGs,xGz,xGo,Act.put,xSi,xSz,xSs]));(refine held_t 5 (h:=?_);(try simp only [xGs,xGz,xGo,Act.put,xSi,xSz,xSs]))
   (refine held_one 6 (by kernel_rfl) (by rfl) ?_;(try simp only [xGs,xGz,xGo]);go_simp)
   refine HRI.out.mono ?_
   rintro e w6 ⟨rfl,hb⟩
   have HB6:=Lib.hid ((Below.refl w5.heap.size w5).drew.trans (hb.mono (Below.refl w5.heap.size w5).drew.size))
   clear hb
   dsimp only
   (refine and_hand (HCJ.out w6 HB6.out) (fun hHeld=>?_);(try simp only [xGs,xGz,xGo,Act.put,xSi,xSz,xSs]))
   (refine held_one 7 (by kernel_rfl) (by rfl) ?_;(try simp only [xGs,xGz,xGo]);go_simp)
   refine (HRM.out w6 HB6.out).mono ?_
   rintro e w7 ⟨rfl,hb⟩
   have HB7:=Lib.hid (HB6.out.trans (hb.mono HB6.out.size))
   clear hb
   dsimp only
   (refine and_hand (HCJ.out w7 HB7.out) (fun hHeld=>?_);(try simp only [xGs,xGz,xGo,Act.put,xSi,xSz,xSs]))
   (refine held_t 8 (h:=?_);(try simp only [xGs,xGz,xGo,Act.put,xSi,xSz,xSs]));(refine held_t 9 (h:=?_);(try simp only [xGs,xGz,xGo,Act.put,xSi,xSz,xSs]));(refine held_t 10 (h:=?_);(try simp only [xGs,xGz,xGo,Act.put,xSi,xSz,xSs]));(refine held_t 11 (h:=?_);(try simp only [xGs,xGz,xGo,Act.put,xSi,xSz,xSs]));(refine held_t 12 (h:=?_);(try simp only [xGs,xGz,xGo,Act.put,xSi,xSz,xSs]));(refine held_t 14 (h:=?_);(try simp only [xGs,xGz,xGo,Act.put,xSi,xSz,xSs]));(refine held_t 15 (h:=?_);(try simp only [xGs,xGz,xGo,Act.put,xSi,xSz,xSs]))
   (refine held_one 13 (by kernel_rfl) (by rfl) ?_;(try simp only [xGs,xGz,xGo]);go_simp)
   refine (HRC.out w7 HB7.out).mono ?_
   rintro e w8 ⟨rfl,hb⟩
   have HB8:=Lib.hid (HB7.out.trans (hb.mono HB7.out.size))
   have HEE:=Lib.hid (HEND.out w8 HB8.out)
   clear hb
   dsimp only
   (refine and_hand (HCJ.out w8 HB8.out) (fun hHeld=>?_);(try simp only [xGs,xGz,xGo,Act.put,xSi,xSz,xSs]))
   (refine held_t 16 (h:=?_);(try simp only [xGs,xGz,xGo,Act.put,xSi,xSz,xSs]));(refine held_t 17 (h:=?_);(try simp only [xGs,xGz,xGo,Act.put,xSi,xSz,xSs]));(refine held_t 18 (h:=?_);(try simp only [xGs,xGz,xGo,Act.put,xSi,xSz,xSs]))
   cases ha with
   | false =>
     (refine held_t 19 (h:=?_);(try simp only [xGs,xGz,xGo,Act.put,xSi,xSz,xSs]));(refine held_t 20 (h:=?_);(try simp only [xGs,xGz,xGo,Act.put,xSi,xSz,xSs]));(refine held_t 21 (h:=?_);(try simp only [xGs,xGz,xGo,Act.put,xSi,xSz,xSs]));(refine held_t 22 (h:=?_);(try simp only [xGs,xGz,xGo,Act.put,xSi,xSz,xSs]));(refine held_t 23 (h:=?_);(try simp only [xGs,xGz,xGo,Act.put,xSi,xSz,xSs]));(refine held_t 24 (h:=?_);(try simp only [xGs,xGz,xGo,Act.put,xSi,xSz,xSs]));(refine held_t 25 (h:=?_);(try simp only [xGs,xGz,xGo,Act.put,xSi,xSz,xSs]));(refine held_t 26 (h:=?_);(try simp only [xGs,xGz,xGo,Act.put,xSi,xSz,xSs]));(refine held_t 27 (h:=?_);(try simp only [xGs,xGz,xGo,Act.put,xSi,xSz,xSs]));(refine held_t 28 (h:=?_);(try simp only [xGs,xGz,xGo,Act.put,xSi,xSz,xSs]));(refine held_t 29 (h:=?_);(try simp only [xGs,xGz,xGo,Act.put,xSi,xSz,xSs]));(refine held_t 30 (h:=?_);(try simp only [xGs,xGz,xGo,Act.put,xSi,xSz,xSs]))
     (refine held_drop 31 (by kernel_rfl) (fun _ _ _ _ _ h=>h) (by rfl) (by assumption) ?_;(try simp only [xGs,xGz,xGo,Act.put,xSi,xSz,xSs]));(refine held_drop 32 (by kernel_rfl) (fun _ _ _ _ _ h=>h) (by rfl) (by assumption) ?_;(try simp only [xGs,xGz,xGo,Act.put,xSi,xSz,xSs]));(refine held_drop 33 (by kernel_rfl) (fun _ _ _ _ _ h=>h) (by rfl) (by assumption) ?_;(try simp only [xGs,xGz,xGo,Act.put,xSi,xSz,xSs]));(refine held_drop 34 (by kernel_rfl) (fun _ _ _ _ _ h=>h) (by rfl) (by assumption) ?_;(try simp only [xGs,xGz,xGo,Act.put,xSi,xSz,xSs]));(refine held_drop 35 (by kernel_rfl) (fun _ _ _ _ _ h=>h) (by rfl) (by assumption) ?_;(try simp only [xGs,xGz,xGo,Act.put,xSi,xSz,xSs]));(refine held_drop 36 (by kernel_rfl) (fun _ _ _ _ _ h=>h) (by rfl) (by assumption) ?_;(try simp only [xGs,xGz,xGo,Act.put,xSi,xSz,xSs]));(refine held_drop 37 (by kernel_rfl) (fun _ _ _ _ _ h=>h) (by rfl) (by assumption) ?_;(try simp only [xGs,xGz,xGo,Act.put,xSi,xSz,xSs]));(refine held_drop 38 (by kernel_rfl) (fun _ _ _ _ _ h=>h) (by rfl) (by assumption) ?_;(try simp only [xGs,xGz,xGo,Act.put,xSi,xSz,xSs]))
     (refine held_t 39 (h:=?_);(try simp only [xGs,xGz,xGo,Act.put,xSi,xSz,xSs]));(refine held_t 40 (h:=?_);(try simp only [xGs,xGz,xGo,Act.put,xSi,xSz,xSs]))
     refine held_end (by kernel_rfl) ?_
     clear hHeld
     go_wp2_with (fail)
     go_roundw
     case rel=>exact ⟨p+1,by omega,by go_num,HEE.out⟩
     case measure=>simp [intOf];omega
   | true =>
     obtain ⟨rfl,rfl,rfl⟩:=HST5.out rfl
     (refine held_t 19 (h:=?_);(try simp only [xGs,xGz,xGo,Act.put,xSi,xSz,xSs]));(refine held_t 20 (h:=?_);(try simp only [xGs,xGz,xGo,Act.put,xSi,xSz,xSs]));(refine held_t 21 (h:=?_);(try simp only [xGs,xGz,xGo,Act.put,xSi,xSz,xSs]));(refine held_t 22 (h:=?_);(try simp only [xGs,xGz,xGo,Act.put,xSi,xSz,xSs]));(refine held_t 23 (h:=?_);(try simp only [xGs,xGz,xGo,Act.put,xSi,xSz,xSs]));(refine held_t 24 (h:=?_);(try simp only [xGs,xGz,xGo,Act.put,xSi,xSz,xSs]));(refine held_t 25 (h:=?_);(try simp only [xGs,xGz,xGo,Act.put,xSi,xSz,xSs]));(refine held_t 26 (h:=?_);(try simp only [xGs,xGz,xGo,Act.put,xSi,xSz,xSs]));(refine held_t 27 (h:=?_);(try simp only [xGs,xGz,xGo,Act.put,xSi,xSz,xSs]));(refine held_t 28 (h:=?_);(try simp only [xGs,xGz,xGo,Act.put,xSi,xSz,xSs]));(refine held_t 29 (h:=?_);(try simp only [xGs,xGz,xGo,Act.put,xSi,xSz,xSs]));(refine held_t 30 (h:=?_);(try simp only [xGs,xGz,xGo,Act.put,xSi,xSz,xSs]));(refine held_t 31 (h:=?_);(try simp only [xGs,xGz,xGo,Act.put,xSi,xSz,xSs]));(refine held_t 32 (h:=?_);(try simp only [xGs,xGz,xGo,Act.put,xSi,xSz,xSs]));(refine held_t 33 (h:=?_);(try simp only [xGs,xGz,xGo,Act.put,xSi,xSz,xSs]));(refine held_t 34 (h:=?_);(try simp only [xGs,xGz,xGo,Act.put,xSi,xSz,xSs]));(refine held_t 35 (h:=?_);(try simp only [xGs,xGz,xGo,Act.put,xSi,xSz,xSs]));(refine held_t 36 (h:=?_);(try simp only [xGs,xGz,xGo,Act.put,xSi,xSz,xSs]));(refine held_t 37 (h:=?_);(try simp only [xGs,xGz,xGo,Act.put,xSi,xSz,xSs]));(refine held_t 38 (h:=?_);(try simp only [xGs,xGz,xGo,Act.put,xSi,xSz,xSs]));(refine held_t 39 (h:=?_);(try simp only [xGs,xGz,xGo,Act.put,xSi,xSz,xSs]));(refine held_t 40 (h:=?_);(try simp only [xGs,xGz,xGo,Act.put,xSi,xSz,xSs]))
     refine held_end (by kernel_rfl) ?_
     clear hHeld
     go_wp2_with (fail)
     go_roundw
     case rel=>exact ⟨p+1,by omega,by go_num,HEE.out⟩
     case measure=>simp [intOf];omega
  ·have hpn:p=n:=by omega
   have k1:¬(p:Int) < (n:Int):=by omega
   go_wp2_with (fail)
   go_ret
   exact ⟨rfl,HST.out⟩
end store
end Go.Proofs.YtdldkkoplgkloaaGreat
