/- PROVED HERE: lemmas of the law. CONDITIONS: each names its own. -/
import Derived.Below
import Derived.Deep.OwnRows
import Derived.Laws.BytesArg
import Derived.Lib.Bytes
import Derived.Test.YtdldkkoplgkloaaGreatPa0
import Derived.Test.YtdldkkoplgkloaaGreatPa2
import Derived.Test.YtdldkkoplgkloaaGreatPa4
import Derived.Test.YtdldkkoplgkloaaGreatPa9
namespace Go.Proofs.YtdldkkoplgkloaaGreat
set_option linter.unusedVariables false
set_option linter.unusedSimpArgs false
set_option maxRecDepth 100000
set_option maxHeartbeats 32000000
open Go.Value renaming int → ae
open Go.IntKind renaming i64 → aa
namespace bN
open Go.RowKit Go.Deep base obj mem sep aW num bytes bC chain image
section
variable {t:aY} {v:Value} {w:World}
def tJ (X:Nat) (n:Nat) (bs:List Int):aI:=some_ fun v=>du [row X 24 [v],own 5 1 v n (aP bs)]
section
variable {w0 w : World} {l : List aI} {X n : Nat} {bs : List Int}
theorem EO (h:St w0 w (tJ X n bs::l)):∃v,St w0 w (row X 24 [v]::own 5 1 v n (aP bs)::l):=by
 obtain ⟨v,h⟩:=h.ex;exact ⟨v,h.fI⟩
theorem EN (h:St w0 w (row X 24 [v]::own 5 1 v n (aP bs)::l)):St w0 w (tJ X n bs::l) :=
 St.Zr v (St.eJ (L:=[row X 24 [v],own 5 1 v n (aP bs)]) h)
theorem Ow (h:St w0 w (row X 24 [v]::own 5 1 v n (aP bs)::l)) (hn:n≤100000) (m k:Nat) (jm:1≤k) (dy:k≤6) (hm:m < 256 ^ k) :
  Calls Tryz.prog 123 #[v,ae aa m,ae aa k] w fun e w'=>∃v',e=.returned v'∧St w0 w' (row X 24 [v]::own 5 1 v' (n+k) (aP (bs++be k m))::l):=by
 have ho:=h.swap.own;obtain ⟨A,c,rfl,_,_⟩:=aD ho;refine (num.jw w A n c _ (Sl.bP ho) (ji bs) hn m k jm dy hm).mono ?_;rintro e w' ⟨v',rfl,BO,hb⟩;have h2:=(h.swap.drop.cX hb BO).swap;rw [aP,←List.map_append] at h2;exact ⟨v',rfl,h2⟩
end
def ints (L:List Int):List Value:=L.map (.int .i64)
theorem acf (w:World) (B:Nat):w.ownsRow B 5 1 (.slice none 0 0) 0 (aP []):=⟨rfl,.inl ⟨rfl,rfl⟩⟩
theorem Mg {z:Int} (h0:0≤z) (h1:z≤255):be 1 z.toNat=[z]:=by
 have:((z.toNat / 256 ^ (1-1-0) % 256:Nat):Int)=z:=by simp;omega
 simp only [be,List.range_succ,List.range_zero,List.nil_append,List.map_cons,List.map_nil,digit];rw [this]
theorem CL {w0:World} {l:List aI} {X n:Nat} {bs:List Int} {B c:Nat} {L:List Int} (h:St w0 w (tJ X n bs::row B 3 (ints L)::l)) (hn:n+L.length≤100000) (hL:∀z∈L,0≤z∧z≤255) (k:Nat) (hk:L.length=k) :
  Calls Tryz.prog 165 #[.slice (some ⟨B,0,none⟩) k c,.pointer (some ⟨X,0,none⟩)] w fun e w'=>e=.returned (.tuple #[])∧St w0 w' (tJ X (n+k) (bs++L)::row B 3 (ints L)::l):=by
 have H:=af h;have HL:=af hL;have HK:=af hk;clear h hL hk;go_enter Tryz.func165,Tryz.ntmps165;go_wp2_with fail;go_loopw [7] (fun i wr=>∃j:Nat,j≤k∧i=ae aa j∧St w0 wr (tJ X (n+j) (bs++L.take j)::row B 3 (ints L)::l)) (fun i _=>k-(intOf i).toNat)
 case atStart=>exact ⟨0,by omega,rfl,by rw [List.take_zero,List.append_nil];exact H.o⟩
 case round =>
  obtain ⟨j,hj,rfl,ak⟩:=hrel;clear H;by_cases aH:j < k
  ·have dJ:j < L.length:=by rw [HK.o];exact aH
   have hz:=HL.o L[j] (List.getElem_mem dJ);obtain ⟨v,iz⟩:=EO ak;have c0:=iz.row.1.c0;have f0:wr.frozen? ⟨X,0,none⟩=false:=iz.row.1.frozen 0;have l0:=iz.row.1.lt;have hB:=(iz.pick 2 rfl).row.1;have c1:wr.cell? ⟨B,j,none⟩=some (ae aa L[j]):=(hB.cell j).trans (by simp [ints,dJ]);have l1:=hB.lt;have bH:=af iz;have HZ:=af hz;obtain ⟨m,hm⟩:∃m:Nat,m=L[j].toNat:=⟨_,rfl⟩
   have hzm:L[j]=(m:Int):=by omega
   have HT:=af (show bs++L.take (j+1)=bs++L.take j++be 1 m by rw [kr dJ,hm,Mg hz.1 hz.2,List.append_assoc]);rw [hzm] at c1;have xN:m < 256:=by omega
   have k0:(0:Int)≤(j:Int):=by omega
   have k1:(j:Int) < (k:Int):=by omega
   clear ak iz hB hz hm hzm;go_wp2_with fail;refine (Ow bH.o (by have:=HK.o;omega) m 1 (by omega) (by omega) (by omega)).mono ?_;rintro e w1 ⟨v1,rfl,GS⟩;have nX:=af GS;have f1:w1.frozen? ⟨X,0,none⟩=false:=GS.row.1.frozen 0;have c2:=GS.row.1.c0;have l2:=GS.row.1.lt;obtain ⟨A1,d1,rfl,_,_⟩:=aD GS.swap.own;clear GS c0 f0 l0 c1 l1;go_wp2_with fail;go_roundw
   case rel =>
    refine ⟨j+1,by omega,by go_num,?_⟩;have h:=nX.o.set 0 (.slice A1 (n+j+1) d1);simp only [List.set_cons_zero] at h;rw [HT.o];exact EN h
   case measure=>simp [intOf];omega
  ·have HE:=af (show j=k by omega);have bH:=af ak;clear ak;have k1:¬(j:Int) < (k:Int):=by omega
   go_wp2_with fail
   go_end0
   refine ⟨rfl,?_⟩;have h:=bH.o;rw [HE.o,←HK.o,List.take_length,HK.o] at h;exact h
def ea (x:T3):List Int:=[x.a,x.b]++be 2 x.c.toNat
def fY (x:T3):List Int:=[x.a,x.b,x.c]
def dI (t:aY):List Int:=[t.frame,t.ay,(t.parts.length:Int),(t.aJ.length:Int),(t.av.length:Int)]
def sk (t:aY):List Int:=dI t++t.parts.flatMap ea++t.aJ.flatMap fY++t.av.flatMap fY
structure Wz (t:aY):Prop where
 fr:1≤t.frame∧t.frame≤64
 tr:1≤t.ay∧t.ay≤7
 np:2≤t.parts.length∧t.parts.length≤4
 nw:1≤t.aJ.length∧t.aJ.length≤8
 nc:t.av.length≤4
 ps:∀x∈t.parts,(1≤x.a∧x.a≤16)∧(1≤x.b∧x.b≤32)∧0≤x.c∧x.c≤65535
 ws:∀x∈t.aJ,(0≤x.a∧x.a < t.parts.length)∧(0≤x.b∧x.b≤64)∧1≤x.c∧x.c≤64
 cs:∀x∈t.av,(0≤x.a∧x.a < t.parts.length)∧(0≤x.b∧x.b < t.parts.length)∧x.a≠x.b∧0≤x.c∧x.c≤4
theorem CP {n a b:Int} :cQ n a b=true ↔ a≤n∧n≤b:=by simp [cQ]
theorem EW {n:Nat} {fr:Int}:∀(l:List T3) (e:Int),0≤e→fr≤64→sf n fr e l=true→∀x∈l,(0≤x.a∧x.a < n)∧(0≤x.b∧x.b≤64)∧1≤x.c∧x.c≤64
 | [],_,_,_,_,x,hx=>by cases hx
 | y::l,e,he,hf,h,x,hx=>by
   simp only [sf,Bool.and_eq_true] at h;obtain ⟨h1,h2,h3,h4,h5⟩:=zx h.1;have h1':=CP.1 h1;rcases List.mem_cons.1 hx with rfl|hx
   ·omega
   ·exact EW l _ (by omega) hf h.2 x hx
theorem aY.r (h:t.right=true):Wz t:=by
 simp only [aY.right,Bool.and_eq_true,CP,decide_eq_true_eq,Bool.not_eq_true',List.any_eq_false] at h;obtain ⟨h1,h2,h3,h4,h5,h6,h7⟩:=h;simp only [aY.mS,Bool.and_eq_true,decide_eq_true_eq,List.any_eq_true] at h5;obtain ⟨h8,⟨x0,yR,_⟩,h9⟩:=h5;refine ⟨h1,h2,by omega,⟨?_,h9⟩,h6,fun x hx=>?_,fun x hx=>EW _ 0 (by omega) (by omega) h8 x hx,fun x hx=>?_⟩
 ·cases hw:t.aJ with
  | nil=>rw [hw] at yR;cases yR
  | cons y l=>simp
 ·have h:x.part=true:=by simpa using h4 x hx
  simp only [T3.part,Bool.and_eq_true,CP] at h;omega
 ·have h:jB t.parts.length x=true:=by simpa using h7 x hx
  simp only [jB,Bool.and_eq_true,CP,beq_eq_false_iff_ne,ne_eq,Bool.not_eq_true'] at h;omega
theorem xz (x:T3):(ea x).length=4:=by simp [ea,bp]
theorem CG (x:T3):(fY x).length=3:=rfl
theorem kX {f:T3→List Int} {k:Nat} (hf:∀x,(f x).length=k) (l:List T3):(l.flatMap f).length=k*l.length:=by
 induction l with
 | nil=>simp
 | cons x l ih=>rw [List.flatMap_cons,gC,hf,ih,List.length_cons,Nat.mul_succ,Nat.add_comm]
theorem XJ {AP AW AC:Option Addr} {nP cP nW cW nC cC:Nat} (h:pX w w.heap.size t AP nP cP AW nW cW AC nC cC) (hr:t.right=true) :
  Calls Tryz.prog 116 #[tW t.frame AP nP cP AW nW cW AC nC cC t.ay] w fun e w'=>∃v,e=.returned (.tuple #[v,ae aa 0])∧w'.ownsRow w.heap.size 5 1 v (sk t).length (aP (sk t))∧Below w.heap.size w w':=by
 have R:=aY.r hr;have HV:=af h;have eR:=af (fun w' (hb:Below w.heap.size w w')=>fR (h.over hb));rw [hr] at eR;obtain ⟨T,hT⟩:=xE w.heap.size;obtain ⟨w1,aF⟩:=xE (w.alloc (.cells #[ae aa t.frame,.slice AP nP cP,.slice AW nW cW,.slice AC nC cC,ae aa t.ay] 46));have H1:=af (show St w w1 [row T 46 (di t.frame AP nP cP AW nW cW AC nC cC t.ay)] by rw [aF,hT];exact (St.nil w).new _ _);obtain ⟨fr,ku⟩:=xE t.frame;obtain ⟨tr,jJ⟩:=xE t.ay;have HR:=af R;rw [←ku,←jJ] at eR H1 aF ⊢;have br:=af aF;have HT:=af hT;have JF:=af ku;have Jy:=af jJ;clear h aF hT ku jJ hr R;go_enter Tryz.func116,Tryz.ntmps116;go_upto_region 1 with fail;rw [←br.o,←HT.o];have t0:=H1.o.row.1.c0;have t1:=H1.o.row.1.c1;have t2:=H1.o.row.1.c2;have t3:=H1.o.row.1.c3;have t4:=H1.o.row.1.c4;have lT:=H1.o.row.1.lt;go_wp2_with fail;refine (eR.o w1 H1.o.aE).mono ?_;rintro e w2 ⟨rfl,bT⟩;have H2:=af (H1.o.below bT);clear bT t0 t1 t2 t3 t4 lT H1;have t0:=H2.o.row.1.c0;have t1:=H2.o.row.1.c1;have t2:=H2.o.row.1.c2;have t3:=H2.o.row.1.c3;have t4:=H2.o.row.1.c4;have lT:=H2.o.row.1.lt;go_wp2_with fail;obtain ⟨X,hX⟩:=xE w2.heap.size;rw [←hX];obtain ⟨w3,nQ⟩:∃v,v=(w2.alloc (.cells #[.slice none 0 0] 24)).alloc (.cells #[ae aa fr,ae aa tr,ae aa (nP:Int),ae aa (nW:Int),ae aa (nC:Int)] 3):=⟨_,rfl⟩
 have GR:St w w3 (row (X+1) 3 (ints [fr,tr,(nP:Int),(nW:Int),(nC:Int)])::row X 24 [.slice none 0 0]::[row T 46 (di fr AP nP cP AW nW cW AC nC cC tr)]):=by
  have h:=(H2.o.new 24 #[.slice none 0 0]).new 3 #[ae aa fr,ae aa tr,ae aa (nP:Int),ae aa (nW:Int),ae aa (nC:Int)];rw [nQ];rw [show (w2.alloc (.cells #[.slice none 0 0] 24)).heap.size=X+1 by rw [hX];exact Array.size_push _,←hX] at h;exact h
 have Lb:St w w3 (tJ X 0 []::row (X+1) 3 (ints [fr,tr,(nP:Int),(nW:Int),(nC:Int)])::[row T 46 (di fr AP nP cP AW nW cW AC nC cC tr)]) :=
  (EN ((GR.swap.cX (Below.refl _ _) (acf _ _)).swap)).swap.swap
 rw [←nQ];have H3:=af Lb;have HX:=af hX;clear GR Lb nQ hX t0 t1 t2 t3 t4 lT
 refine (CL H3.o (by simp) (by
  have hl:=HV.o;have r:=HR.o;have:=r.fr;have:=r.tr;have:=r.np;have:=r.nw;have:=r.nc;have:=hl.lp;have:=hl.lw;have:=hl.lc;have:=JF.o;have:=Jy.o;intro z hz;simp only [List.mem_cons,List.not_mem_nil,or_false] at hz
  rcases hz with rfl|rfl|rfl|rfl|rfl<;>omega) 5 rfl).mono ?_
 rintro e w4 ⟨rfl,Lb⟩
 have H4:=af (show St w w4 (tJ X (dI t).length (dI t)::[row T 46 (di fr AP nP cP AW nW cW AC nC cC tr)]) from by
  have e:dI t=[fr,tr,(nP:Int),(nW:Int),(nC:Int)]:=by rw [dI,JF.o,Jy.o,HV.o.lp,HV.o.lw,HV.o.lc]
  rw [e];have h:=Lb.swap.drop;rw [List.nil_append] at h
  exact h)
 clear Lb H3;have t1:=H4.o.swap.row.1.c1;have lT:=H4.o.swap.row.1.lt;have OA:=af (show ∀w',Below w.heap.size w w'→Sl w' w'.heap.size 3 AP nP (gD t.parts) from fun w' hb=>(HV.o.over hb).ps);have HWS:=af (show ∀w',Below w.heap.size w w'→Sl w' w'.heap.size 3 AW nW (gD t.aJ) from fun w' hb=>(HV.o.over hb).ws);have nZ:=af (show ∀w',Below w.heap.size w w'→Sl w' w'.heap.size 3 AC nC (gD t.av) from fun w' hb=>(HV.o.over hb).cs);have Cp:=af HV.o.lp;have JD:=af HV.o.lw;have Cq:=af HV.o.lc;go_wp2_with fail;go_loopw [35] (fun i wr=>∃j:Nat,j≤nP∧i=ae aa j∧St w wr [tJ X (dI t++(t.parts.take j).flatMap ea).length (dI t++(t.parts.take j).flatMap ea),row T 46 (di fr AP nP cP AW nW cW AC nC cC tr)]) (fun i _=>nP-(intOf i).toNat)
 case atStart=>exact ⟨0,by omega,rfl,by rw [List.take_zero,List.flatMap_nil,List.append_nil];exact H4.o⟩
 case round =>
  obtain ⟨j,hj,rfl,ak⟩:=hrel;clear H4 t1 lT;have n9:nP≤8:=by have:=HR.o.np;have:=HR.o.nw;have:=HR.o.nc;have:=Cp.o;omega
  by_cases aH:j < nP
  ·have dJ:j < t.parts.length:=by have:=Cp.o;omega
   obtain ⟨B,off,rfl,hBl,c0,c1,c2⟩:=jE (OA.o wr ak.aE) Cp.o dJ;have qQ:=af (HR.o.ps _ (List.getElem_mem dJ));have DY:=af (show dI t++(t.parts.take (j+1)).flatMap ea=(dI t++(t.parts.take j).flatMap ea)++ea t.parts[j] by rw [kr dJ,List.flatMap_append,List.append_assoc];simp)
   have HL:=af (show (dI t++(t.parts.take j).flatMap ea).length≤1000 from by
    have:=HR.o.np;have:=HR.o.nw;have:=HR.o.nc;simp only [gC,dI,List.length_cons,List.length_nil,kX xz,kX CG,fW]
    omega)
   generalize (dI t++(t.parts.take j).flatMap ea)=bs at *;generalize t.parts[j]=x at *;obtain ⟨xa,xb,xc⟩:=x;simp only at c0 c1 c2 qQ;have H:=af ak;have k0:(0:Int)≤(j:Int):=by omega
   have k1:(j:Int) < (nP:Int):=by omega
   clear ak;go_wp2_with fail;obtain ⟨g,hg⟩:=xE wr.heap.size;rw [←hg];obtain ⟨w5,eD⟩:∃v,v=(wr.alloc (.cells #[ae aa xa,ae aa xb,ae aa xc] 147)).alloc (.cells #[ae aa xa,ae aa xb] 3):=⟨_,rfl⟩
   have h5:=((H.o.new 147 #[ae aa xa,ae aa xb,ae aa xc]).new 3 #[ae aa xa,ae aa xb]).pick 2 rfl;rw [show (wr.alloc (.cells #[ae aa xa,ae aa xb,ae aa xc] 147)).heap.size=g+1 by rw [hg];exact Array.size_push _,←hg,←eD] at h5;rw [←eD];have H5:=af h5;clear h5 eD hg c0 c1 c2 H
   refine (CL (L:=[xa,xb]) H5.o (by have:=HL.o;simp;omega) (by
    have:=qQ.o;have:=HR.o.np;intro z hz;simp only [List.mem_cons,List.not_mem_nil,or_false] at hz
    rcases hz with rfl|rfl<;>omega) 2 rfl).mono ?_
   rintro e w6 ⟨rfl,uG⟩;obtain ⟨v6,tC⟩:=EO (uG.swap.drop);have H6:=af tC;have z0:=tC.row.1.c0;have l0:=tC.row.1.lt;have p2:=(tC.pick 2 rfl).row.1.c2;have l2:=(tC.pick 2 rfl).row.1.lt;obtain ⟨m,hm⟩:∃m:Nat,m=xc.toNat:=⟨_,rfl⟩
   have xN:m < 65536:=by have:=qQ.o;omega
   have hm3:xc=(m:Int):=by have:=qQ.o;omega
   have HM:=af hm;rw [hm3] at p2;clear uG tC H5 hm hm3;go_wp2_with fail;refine (Ow H6.o (by have:=HL.o;omega) m 2 (by omega) (by omega) (by omega)).mono ?_;rintro e w7 ⟨v7,rfl,tC⟩;have H7:=af tC;have f1:w7.frozen? ⟨X,0,none⟩=false:=tC.row.1.frozen 0;have c2:=tC.row.1.c0;have l3:=tC.row.1.lt;obtain ⟨A1,d1,rfl,_,_⟩:=aD tC.swap.own;clear tC H6 z0 l0 p2 l2;go_wp2_with fail;go_roundw
   case rel =>
    refine ⟨j+1,by omega,by go_num,?_⟩;have h:=(EN ((H7.o.set 0 (.slice A1 (bs.length+2+2) d1)))).swap.drop.swap;rw [DY.o,show ea ⟨xa,xb,xc⟩=[xa,xb]++be 2 m by rw [HM.o];rfl,←List.append_assoc];rw [show (bs++[xa,xb]++be 2 m).length=bs.length+2+2 by simp [bp]];exact h.swap
   case measure=>simp [intOf];omega
  ·have HE:=af (show j=t.parts.length by have:=Cp.o;omega);have k1:¬(j:Int) < (nP:Int):=by omega
   have H8:=af (show St w wr [tJ X (dI t++t.parts.flatMap ea).length (dI t++t.parts.flatMap ea),row T 46 (di fr AP nP cP AW nW cW AC nC cC tr)] by
    have h:=ak;rw [HE.o,List.take_length] at h
    exact h)
   clear ak;have t1:=H8.o.swap.row.1.c2;have lT:=H8.o.swap.row.1.lt;go_wp2_with fail;generalize wr=w4 at *;have H4:=af H8.o;clear H8;go_loopw [54] (fun i wr=>∃j:Nat,j≤nW∧i=ae aa j∧St w wr [tJ X ((dI t++t.parts.flatMap ea)++(t.aJ.take j).flatMap fY).length ((dI t++t.parts.flatMap ea)++(t.aJ.take j).flatMap fY),row T 46 (di fr AP nP cP AW nW cW AC nC cC tr)]) (fun i _=>nW-(intOf i).toNat)
   case atStart=>exact ⟨0,by omega,rfl,by rw [List.take_zero,List.flatMap_nil,List.append_nil];exact H4.o⟩
   case round =>
    obtain ⟨j,hj,rfl,ak⟩:=hrel;clear H4 t1 lT;have n9:nW≤8:=by have:=HR.o.np;have:=HR.o.nw;have:=HR.o.nc;have:=JD.o;omega
    by_cases aH:j < nW
    ·have dJ:j < t.aJ.length:=by have:=JD.o;omega
     obtain ⟨B,off,rfl,hBl,c0,c1,c2⟩:=jE (HWS.o wr ak.aE) JD.o dJ;have qQ:=af (HR.o.ws _ (List.getElem_mem dJ));have DY:=af (show (dI t++t.parts.flatMap ea)++(t.aJ.take (j+1)).flatMap fY=((dI t++t.parts.flatMap ea)++(t.aJ.take j).flatMap fY)++fY t.aJ[j] by rw [kr dJ,List.flatMap_append,List.append_assoc];simp)
     have HL:=af (show ((dI t++t.parts.flatMap ea)++(t.aJ.take j).flatMap fY).length≤1000 from by
      have:=HR.o.np;have:=HR.o.nw;have:=HR.o.nc;simp only [gC,dI,List.length_cons,List.length_nil,kX xz,kX CG,fW]
      omega)
     generalize ((dI t++t.parts.flatMap ea)++(t.aJ.take j).flatMap fY)=bs at *;generalize t.aJ[j]=x at *;obtain ⟨xa,xb,xc⟩:=x;simp only at c0 c1 c2 qQ;have H:=af ak;have k0:(0:Int)≤(j:Int):=by omega
     have k1:(j:Int) < (nW:Int):=by omega
     clear ak;go_wp2_with fail;obtain ⟨g,hg⟩:=xE wr.heap.size;rw [←hg];obtain ⟨w5,eD⟩:∃v,v=(wr.alloc (.cells #[ae aa xa,ae aa xb,ae aa xc] 150)).alloc (.cells #[ae aa xa,ae aa xb,ae aa xc] 3):=⟨_,rfl⟩
     have h5:=((H.o.new 150 #[ae aa xa,ae aa xb,ae aa xc]).new 3 #[ae aa xa,ae aa xb,ae aa xc]).pick 2 rfl;rw [show (wr.alloc (.cells #[ae aa xa,ae aa xb,ae aa xc] 150)).heap.size=g+1 by rw [hg];exact Array.size_push _,←hg,←eD] at h5;rw [←eD];have H5:=af h5;clear h5 eD hg c0 c1 c2 H
     refine (CL (L:=[xa,xb,xc]) H5.o (by have:=HL.o;simp;omega) (by
      have:=qQ.o;have:=HR.o.np;intro z hz;simp only [List.mem_cons,List.not_mem_nil,or_false] at hz
      rcases hz with rfl|rfl|rfl<;>omega) 3 rfl).mono ?_
     rintro e w6 ⟨rfl,uG⟩;have H6:=af uG;clear uG H5;go_wp2_with fail;go_roundw
     case rel =>
      refine ⟨j+1,by omega,by go_num,?_⟩;have h:=(H6.o.swap.drop).swap.drop.swap;rw [DY.o,show fY ⟨xa,xb,xc⟩=[xa,xb,xc] from rfl,show (bs++[xa,xb,xc]).length=bs.length+3 by simp];exact h.swap
     case measure=>simp [intOf];omega
    ·have HE:=af (show j=t.aJ.length by have:=JD.o;omega);have k1:¬(j:Int) < (nW:Int):=by omega
     have H8:=af (show St w wr [tJ X ((dI t++t.parts.flatMap ea)++t.aJ.flatMap fY).length ((dI t++t.parts.flatMap ea)++t.aJ.flatMap fY),row T 46 (di fr AP nP cP AW nW cW AC nC cC tr)] by
      have h:=ak;rw [HE.o,List.take_length] at h
      exact h)
     clear ak;have t1:=H8.o.swap.row.1.c3;have lT:=H8.o.swap.row.1.lt;go_wp2_with fail;generalize wr=w4 at *;have H4:=af H8.o;clear H8;go_loopw [71] (fun i wr=>∃j:Nat,j≤nC∧i=ae aa j∧St w wr [tJ X ((dI t++t.parts.flatMap ea++t.aJ.flatMap fY)++(t.av.take j).flatMap fY).length ((dI t++t.parts.flatMap ea++t.aJ.flatMap fY)++(t.av.take j).flatMap fY),row T 46 (di fr AP nP cP AW nW cW AC nC cC tr)]) (fun i _=>nC-(intOf i).toNat)
     case atStart=>exact ⟨0,by omega,rfl,by rw [List.take_zero,List.flatMap_nil,List.append_nil];exact H4.o⟩
     case round =>
      obtain ⟨j,hj,rfl,ak⟩:=hrel;clear H4 t1 lT;have n9:nC≤8:=by have:=HR.o.np;have:=HR.o.nw;have:=HR.o.nc;have:=Cq.o;omega
      by_cases aH:j < nC
      ·have dJ:j < t.av.length:=by have:=Cq.o;omega
       obtain ⟨B,off,rfl,hBl,c0,c1,c2⟩:=jE (nZ.o wr ak.aE) Cq.o dJ;have qQ:=af (HR.o.cs _ (List.getElem_mem dJ));have DY:=af (show (dI t++t.parts.flatMap ea++t.aJ.flatMap fY)++(t.av.take (j+1)).flatMap fY=((dI t++t.parts.flatMap ea++t.aJ.flatMap fY)++(t.av.take j).flatMap fY)++fY t.av[j] by rw [kr dJ,List.flatMap_append,List.append_assoc];simp)
       have HL:=af (show ((dI t++t.parts.flatMap ea++t.aJ.flatMap fY)++(t.av.take j).flatMap fY).length≤1000 from by
        have:=HR.o.np;have:=HR.o.nw;have:=HR.o.nc;simp only [gC,dI,List.length_cons,List.length_nil,kX xz,kX CG,fW]
        omega)
       generalize ((dI t++t.parts.flatMap ea++t.aJ.flatMap fY)++(t.av.take j).flatMap fY)=bs at *;generalize t.av[j]=x at *;obtain ⟨xa,xb,xc⟩:=x;simp only at c0 c1 c2 qQ;have H:=af ak;have k0:(0:Int)≤(j:Int):=by omega
       have k1:(j:Int) < (nC:Int):=by omega
       clear ak;go_wp2_with fail;obtain ⟨g,hg⟩:=xE wr.heap.size;rw [←hg];obtain ⟨w5,eD⟩:∃v,v=(wr.alloc (.cells #[ae aa xa,ae aa xb,ae aa xc] 152)).alloc (.cells #[ae aa xa,ae aa xb,ae aa xc] 3):=⟨_,rfl⟩
       have h5:=((H.o.new 152 #[ae aa xa,ae aa xb,ae aa xc]).new 3 #[ae aa xa,ae aa xb,ae aa xc]).pick 2 rfl;rw [show (wr.alloc (.cells #[ae aa xa,ae aa xb,ae aa xc] 152)).heap.size=g+1 by rw [hg];exact Array.size_push _,←hg,←eD] at h5;rw [←eD];have H5:=af h5;clear h5 eD hg c0 c1 c2 H
       refine (CL (L:=[xa,xb,xc]) H5.o (by have:=HL.o;simp;omega) (by
        have:=qQ.o;have:=HR.o.np;intro z hz;simp only [List.mem_cons,List.not_mem_nil,or_false] at hz
        rcases hz with rfl|rfl|rfl<;>omega) 3 rfl).mono ?_
       rintro e w6 ⟨rfl,uG⟩;have H6:=af uG;clear uG H5;go_wp2_with fail;go_roundw
       case rel =>
        refine ⟨j+1,by omega,by go_num,?_⟩;have h:=(H6.o.swap.drop).swap.drop.swap;rw [DY.o,show fY ⟨xa,xb,xc⟩=[xa,xb,xc] from rfl,show (bs++[xa,xb,xc]).length=bs.length+3 by simp];exact h.swap
       case measure=>simp [intOf];omega
      ·have HE:=af (show j=t.av.length by have:=Cq.o;omega);have k1:¬(j:Int) < (nC:Int):=by omega
       have H8:=af (show St w wr [tJ X ((dI t++t.parts.flatMap ea++t.aJ.flatMap fY)++t.av.flatMap fY).length ((dI t++t.parts.flatMap ea++t.aJ.flatMap fY)++t.av.flatMap fY),row T 46 (di fr AP nP cP AW nW cW AC nC cC tr)] by
        have h:=ak;rw [HE.o,List.take_length] at h
        exact h)
       clear ak;obtain ⟨v,ak⟩:=EO H8.o;have z0:=ak.row.1.c0;have l0:=ak.row.1.lt;have H9:=af ak;clear ak H8;go_wp2_with fail;go_ret2;exact ⟨v,rfl,H9.o.swap.own,H9.o.aE⟩
end
end bN
namespace num
open Go.RowKit base obj mem bC bytes
section
variable {bs:List Int} {B R c n:Nat} {w w':World}
structure Rd (w:World) (B R:Nat) (bs:List Int):Prop where
 cell:∃A c,w.heap[R]?=some (.cells #[.slice A bs.length c,ae aa 0] 255 (0,0))∧bs.length≤c∧(0 < bs.length→∃g o,A=some ⟨g,o,none⟩∧B≤g∧g < R∧∀k u,(bs.map (Value.int .u8))[k]?=some u→w.cell? ⟨g,o+k,none⟩=some u)
 base:B≤R
theorem Rd.lt (h:Rd w B R bs):R < w.heap.size:=by
 obtain ⟨A,c,e,_⟩:=h.cell;exact (Array.getElem?_eq_some_iff.1 e).1
theorem Rd.keep (h:Rd w B R bs) (hk:∀i,B≤i→i≤R→w'.heap[i]?=w.heap[i]?):Rd w' B R bs:=by
 obtain ⟨⟨A,c,e,hc,hs⟩,hb⟩:=h;refine ⟨⟨A,c,(hk R hb (Nat.le_refl _)).trans e,hc,fun hp=>?_⟩,hb⟩;obtain ⟨g,o,ha,h1,h2,h3⟩:=hs hp;exact ⟨g,o,ha,h1,h2,fun k u hu=>(World.cell?_of_block (a:=⟨g,o+k,none⟩) (hk g h1 (Nat.le_of_lt h2))).trans (h3 k u hu)⟩
theorem Rd.below (h:Rd w B R bs) (k:Below w.heap.size w w'):Rd w' B R bs:=h.keep fun i _ hi=>k.block i (Nat.lt_of_le_of_lt hi h.lt)
theorem Rd.kept {S:Nat→Prop} (h:Rd w B R bs) (k:Kept S w w') (hS:∀i,B≤i→i≤R→¬S i):Rd w' B R bs:=h.keep fun i h1 h2=>k.block i (Nat.lt_of_le_of_lt h2 h.lt) (hS i h1 h2)
theorem Rd.sl {A:Option Addr} (h:Rd w B R bs) (e:w.heap[R]?=some (.cells #[.slice A n c,ae aa 0] 255 (0,0))):n=bs.length∧bs.length≤c∧Sl w R 1 A bs.length (bs.map (.int .u8)):=by
 obtain ⟨A2,c2,e2,hc,hs⟩:=h.cell;rw [e] at e2;injection e2 with e2
 injection e2 with e2 _ _
 simp at e2;obtain ⟨rfl,rfl,rfl⟩:=e2;refine ⟨rfl,hc,by simp,fun hp=>?_⟩;obtain ⟨g,o,ha,h1,h2,h3⟩:=hs hp;exact ⟨g,o,ha,h2,h3⟩
theorem yG (w:World) (A:Option Addr) (n c:Nat) (bs:List Int) (hl:bs.length=n) (hs:Sl w w.heap.size 1 A n (bs.map (.int .u8))) (hn:n≤100000) :
  Calls Tryz.prog 143 #[.slice A n c] w fun e w'=>∃R,e=.returned (.pointer (some ⟨R,0,none⟩))∧Rd w' w.heap.size R bs∧Below w.heap.size w w':=by
 have HC:=af (Ca w A n c _ hs (yM bs) (by omega));have HL:=af hl;clear hs hl;go_enter Tryz.func143,Tryz.ntmps143;go_wp2_with fail;refine HC.o.mono ?_;rintro e w1 ⟨v,rfl,ho,hb⟩;have HO:=af ho;have HB:=af hb;obtain ⟨A2,c2,e2,BW,_⟩:=aD ho;subst e2;clear ho hb;go_wp2_with fail;go_ret;refine ⟨w1.heap.size,rfl,⟨⟨A2,c2,?_,by rw [HL.o];exact BW,fun hp=>?_⟩,HB.o.size⟩,HB.o.alloc HB.o.size _⟩
 ·rw [HL.o];exact heap_alloc_new _ _
 ·obtain ⟨g,cap,e,h1,h2⟩:=HO.o.form (by rw [←HL.o];exact hp);have dk:=Sl.bP HO.o;obtain ⟨b,o,rfl,bT,fJ⟩:=dk.2 (by rw [←HL.o];exact hp);injection e with e3 _ _
  injection e3 with e4
  injection e4 with e5 e6 _
  subst e5;exact ⟨_,o,rfl,h1,bT,fun k u hu=>(World.cell?_alloc_lt _ _ _ bT).trans (fJ k u hu)⟩
theorem kM (h:Rd w B R bs):Calls Tryz.prog 182 #[.pointer (some ⟨R,0,none⟩)] w fun e w'=>e=.returned (.bool true)∧w'=w:=by
 obtain ⟨A,c,e,_⟩:=h.cell;have c1:w.cell? ⟨R,1,none⟩=some (ae aa 0):=by simp [World.cell?,e]
 clear h e;go_enter Tryz.func182,Tryz.ntmps182;go_wp2_with fail;go_ret;exact ⟨rfl,rfl⟩
theorem left_at (h:Rd w B R bs):Calls Tryz.prog 196 #[.pointer (some ⟨R,0,none⟩)] w fun e w'=>e=.returned (ae aa bs.length)∧w'=w:=by
 have HW:=af (kM h);obtain ⟨A,c,e,_⟩:=h.cell;have c1:w.cell? ⟨R,0,none⟩=some (.slice A bs.length c):=by simp [World.cell?,e]
 clear h e;go_enter Tryz.func196,Tryz.ntmps196;go_wp2_with fail;refine HW.o.mono ?_;rintro e w' ⟨rfl,rfl⟩;go_wp2_with fail;go_ret;exact ⟨rfl,rfl⟩
theorem RA {w1:World} {g o o2 l c2:Nat} (h:Rd w B R bs) (e:w.heap[R]?=some (.cells #[.slice (some ⟨g,o,none⟩) l c,ae aa 0] 255 (0,0))) (hb:Below w.heap.size w w1) (hl:bs.length=l) (hn:n≤l) (ho:l≤n∨o2=o+n) (hc:l-n≤c2) :
  Rd (w1.setCell ⟨R,0,none⟩ (.slice (some ⟨g,o2,none⟩) (l-n) c2)) B R (bs.drop n)∧Kept (fun i=>i=R) w (w1.setCell ⟨R,0,none⟩ (.slice (some ⟨g,o2,none⟩) (l-n) c2)):=by
 refine ⟨⟨⟨some ⟨g,o2,none⟩,c2,?_,by simp;omega,fun hp=>?_⟩,h.base⟩,(Kept.oh hb (fun i=>i=R)).setCell (p:=⟨R,0,none⟩) (.inl rfl) _⟩
 ·have e1:=(hb.block R h.lt).trans e;simp only [World.setCell,Array.getElem?_modify,if_true,e1,Option.map_some];simp [hl]
 ·obtain ⟨A2,c3,e2,_,hs⟩:=h.cell;rw [e] at e2;injection e2 with e2
  injection e2 with e2 _ _
  simp at e2;obtain ⟨rfl,_,rfl⟩:=e2;simp at hp;obtain ⟨g2,o3,ha,h1,h2,h3⟩:=hs (by omega);injection ha with ha
  injection ha with ha bT _
  subst ha;subst bT;refine ⟨_,o2,rfl,h1,h2,fun k u hu=>?_⟩;have xT:g < w.heap.size:=Nat.lt_trans h2 h.lt;have Su:o2=o+n:=by rcases ho with h|h<;>omega
  rw [World.cell?_of_block (w:=w) (w':=w1.setCell ⟨R,0,none⟩ (.slice (some ⟨g,o2,none⟩) (l-n) c2)) (a:=⟨g,o2+k,none⟩) ((Below.heap_setCell w1 ⟨R,0,none⟩ _ g (show g≠R by omega)).trans (hb.block g xT)),Su,Nat.add_assoc];refine h3 (n+k) u ?_;rw [List.getElem?_map,List.getElem?_drop] at hu;rw [List.getElem?_map];exact hu
theorem pU (h:Rd w B R bs) (n:Nat) (h1:1≤n) (hn:n≤bs.length) (hm:bs.length≤100000) :
  Calls Tryz.prog 181 #[.pointer (some ⟨R,0,none⟩),ae aa n] w fun e w'=>∃v,e=.returned v∧w'.ownsRow w.heap.size 5 1 v n ((bs.map (.int .u8)).take n)∧Rd w' B R (bs.drop n)∧Kept (fun i=>i=R) w w':=by
 have HW:=af (fun (w':World) (k:Below w.heap.size w w')=>kM (h.below k));obtain ⟨A,c,e,hc,hs⟩:=h.cell;obtain ⟨g,o,rfl,hBg,hgR,fJ⟩:=hs (by omega)
 have dk:Sl w R 1 (some ⟨g,o,none⟩) n ((bs.map (.int .u8)).take n):=⟨by simp;omega,fun _=>⟨g,o,rfl,hgR,fun k u hu=>fJ k u (by
  rw [List.getElem?_take] at hu;split at hu
  ·exact hu
  ·simp at hu)⟩⟩
 have c0:w.cell? ⟨R,0,none⟩=some (.slice (some ⟨g,o,none⟩) bs.length c):=by simp [World.cell?,e]
 have hR:=h.lt;have HC:=af (Ca w (some ⟨g,o,none⟩) n c _ (dk.more (Nat.le_of_lt hR)) (fun v hv=>yM bs v (List.mem_of_mem_take hv)) (by omega));have HH:=af h;have HE:=af e;have adN:=af fJ;clear dk h e hs fJ;have i0:¬(n:Int)≤0:=by omega
 have i1:¬(n:Int) > (bs.length:Int):=by omega
 have i2:(0:Int)≤(n:Int):=by omega
 have i3:(n:Int)≤(bs.length:Int):=by omega
 have i4:(bs.length:Int)≤(c:Int):=by omega
 have i5:(n:Int)≤(c:Int):=by omega
 generalize cm:bs.length=l at *;have ch:=af cm;clear cm;go_enter Tryz.func181,Tryz.ntmps181;go_wp2_with fail;refine (HW.o _ (Below.refl _ _)).mono ?_;rintro e w' ⟨rfl,rfl⟩;go_wp2_with fail;refine HC.o.mono ?_;rintro e w1 ⟨v,rfl,ho,hb⟩;have HO:=af ho;have HB:=af hb;have e1:=(hb.block R hR).trans HE.o;have c1:w1.cell? ⟨R,0,none⟩=some (.slice (some ⟨g,o,none⟩) l c):=by simp [World.cell?,e1]
 have f1:w1.frozen? ⟨R,0,none⟩=false:=by simp [World.frozen?,e1]
 have E1:=af e1;clear ho hb c0 e1;go_wp2_with fail
 ·go_ret;refine ⟨v,rfl,?_,?_⟩
  ·exact ownsRow_setCell_below HO.o (a:=⟨R,0,none⟩) hR _
  ·exact RA HH.o HE.o HB.o ch.o hn (.inl (by omega)) (by omega)
 ·go_ret;refine ⟨v,rfl,?_,?_⟩
  ·exact ownsRow_setCell_below HO.o (a:=⟨R,0,none⟩) hR _
  ·exact RA HH.o HE.o HB.o ch.o hn (.inr rfl) (by omega)
theorem ZO (n z:Nat) (hn:n < 2 ^ 50) (hz:z < 256):Go.bits .or .i64 ((n*256:Nat):Int) (z:Int)=((256*n+z:Nat):Int):=by
 show IntKind.i64.wrap ((BitVec.ofInt 64 ((n*256:Nat):Int) ||| BitVec.ofInt 64 (z:Int)).toNat:Int)=_
 have e:=Nat.two_pow_add_eq_or_of_lt (i:=8) (b:=z) (by omega) n;rw [BitVec.toNat_or,BitVec.toNat_ofInt,BitVec.toNat_ofInt,show (((n*256:Nat):Int) % ((2 ^ 64:Nat):Int)).toNat=2 ^ 8*n by omega,show ((z:Int) % ((2 ^ 64:Nat):Int)).toNat=z by omega,←e,IntKind.wrap_i64];omega
theorem ub (h:Rd w B R bs) (k:Nat) (h1:1≤k) (h6:k≤6) (hn:k≤bs.length) (hm:bs.length≤100000) (cG:bn bs) :
  Calls Tryz.prog 144 #[.pointer (some ⟨R,0,none⟩),ae aa k] w fun e w'=>e=.returned (ae aa (val (bs.take k):Nat))∧Rd w' B R (bs.drop k)∧Kept (fun i=>i=R) w w':=by
 have HH:=af (pU h k h1 hn hm);have HY:=af cG;clear h cG;go_enter Tryz.func144,Tryz.ntmps144;go_wp2_with fail;refine (GZ _ k h1 h6).mono ?_;rintro e w' ⟨rfl,rfl⟩;go_wp2_with fail;refine HH.o.mono ?_;rintro e w1 ⟨v,rfl,ho,hr,hk⟩;obtain ⟨A,c,e2,hc,_⟩:=aD ho;subst e2;have HS:=af (Sl.bP ho);have HF:=af (And.intro hr hk);clear ho hr hk;go_wp2_with fail;go_loopw [16,6] (fun i s wr=>∃j:Nat,j≤k∧i=ae aa j∧s=ae aa (val (bs.take j):Nat)∧wr=w1) (fun i _ _=>k-(intOf i).toNat)
 case atStart=>exact ⟨0,by omega,rfl,by rw [List.take_zero];rfl,rfl⟩
 case round =>
  obtain ⟨j,hj,rfl,rfl,rfl⟩:=hrel;by_cases aH:j < k
  ·have dJ:j < bs.length:=by omega
   obtain ⟨b,off,rfl,cm,fJ⟩:=HS.o.2 (by omega);have hz:=HY.o bs[j] (List.getElem_mem dJ);have c1:=fJ j (.int .u8 bs[j]) (by rw [List.getElem?_take,if_pos aH];simp [dJ]);have gp:=uB bs j dJ
   have xW:val (bs.take j) < 2 ^ 40:=by
    have h:=sj (bs.take j) fun y hy=>HY.o y (List.mem_of_mem_take hy);rw [fW,Nat.min_eq_left (by omega)] at h;exact Nat.lt_of_lt_of_le h (Nat.le_trans (Nat.pow_le_pow_right (by decide) (show j≤5 by omega)) (by decide))
   generalize hf:val (bs.take j)=f at *;have gm:bs[j]=((bs[j].toNat:Nat):Int):=by omega
   rw [gm] at c1;generalize Fv:bs[j].toNat=z at *;have nO:z < 256:=by omega
   have i0:(0:Int)≤(j:Int):=by omega
   have i1:(j:Int) < (k:Int):=by omega
   have ho:=ZO f z (by omega) nO;have lK:=af gp;have HZ:=af gm;have HO:=af ho;have HFL:=af xW;clear fJ gp gm hz Fv hf ho xW;go_wp2_with fail;go_roundw
   case rel =>
    refine ⟨j+1,by omega,by go_num,?_,trivial⟩;have xW:=HFL.o;rw [show wrap64 ((f:Int)*256)=((f*256:Nat):Int) by unfold wrap64;omega,HO.o,lK.o]
   case measure=>simp [intOf];omega
  ·have dy:j=k:=by omega
   have df:¬(j:Int) < (k:Int):=by omega
   have HK:=af dy;clear dy;go_wp2_with fail;go_ret;exact ⟨by rw [HK.o];rfl,HF.o⟩
end
end num
namespace image
open Go.RowKit Go.Deep base obj mem sep bC num bytes aW chain
section
variable {B R:Nat} {w:World}
theorem Ei {bs:List Int} (h:Rd w B R bs) (n:Nat) (hn:val (bs.take 2)=n) (h1:1≤n) (h2:2+n≤bs.length) (hm:bs.length≤100000) (cG:bn bs) (o9:Int) (hl:(n:Int)≤o9) :
  Calls Tryz.prog 145 #[.pointer (some ⟨R,0,none⟩),ae aa o9] w fun e w'=>∃v,e=.returned v∧w'.ownsRow w.heap.size 5 1 v n (aP ((bs.drop 2).take n))∧Rd w' B R ((bs.drop 2).drop n)∧Kept (fun i=>i=R) w w':=by
 have HW:=af (kM h);have HN:=af (ub h 2 (by omega) (by omega) (by omega) hm cG);obtain ⟨A,c,e,_⟩:=h.cell;have c0:w.cell? ⟨R,0,none⟩=some (.slice A bs.length c):=by simp [World.cell?,e]
 clear h e;go_enter Tryz.func145,Tryz.ntmps145;go_wp2_with fail;refine HW.o.mono ?_;rintro e w1 ⟨rfl,rfl⟩;go_wp2_with fail;refine HN.o.mono ?_;rintro e w2 ⟨rfl,hr,hk⟩;rw [hn];have dK:=af hr;have nY:=af hk;have jf:=af (kM hr);have aO:=af (pU hr n h1 (by rw [List.length_drop];omega) (by rw [List.length_drop];omega));have hng:¬o9 < (n:Int):=by omega
 clear hr hk c0;go_wp2_with fail;refine jf.o.mono ?_;rintro e w3 ⟨rfl,rfl⟩;go_wp2_with fail;refine aO.o.mono ?_;rintro e w4 ⟨v,rfl,ho,sS,NY⟩;have py:=af sS;have Cn:=af ho;have kL:=af (kM sS);have HK4:=af (nY.o.trans NY (fun _ h=>h) (fun _ h _=>h));have iP:=nY.o.size;have mv:=af iP;clear ho sS NY iP;go_wp2_with fail;refine kL.o.mono ?_;rintro e w5 ⟨rfl,rfl⟩;go_wp2_with fail;go_ret;refine ⟨_,rfl,?_,py.o,HK4.o⟩;have h:=Cn.o.mono mv.o;rw [←List.map_take] at h;exact h
theorem X8 (h:Rd w B R []):Calls Tryz.prog 146 #[.pointer (some ⟨R,0,none⟩)] w fun e w'=>e=.returned (ae aa 0)∧w'=w:=by
 obtain ⟨A,c,e,_⟩:=h.cell;have c0:w.cell? ⟨R,0,none⟩=some (.slice A 0 c):=by simp [World.cell?,e]
 have c1:w.cell? ⟨R,1,none⟩=some (ae aa 0):=by simp [World.cell?,e]
 clear h e;go_enter Tryz.func146,Tryz.ntmps146;go_wp2_with fail;go_ret;exact ⟨rfl,rfl⟩
end
end image
namespace bytes
open Go.RowKit Go.Deep base obj mem bC
theorem str_inj (xs ys:List Int) (hx:bn xs) (hy:bn ys):((strOfNums xs).toList==(strOfNums ys).toList)=decide (xs=ys):=by
 rw [Bool.eq_iff_iff,decide_eq_true_iff,beq_iff_eq,Lib.strOfNums_toList,Lib.strOfNums_toList]
 constructor
 ·intro h;have e:xs.map (fun n=>UInt8.ofNat n.toNat)=ys.map (fun n=>UInt8.ofNat n.toNat):=h
  have back:∀zs:List Int,bn zs→(zs.map (fun n=>UInt8.ofNat n.toNat)).map (fun u=>((u.toNat:Nat):Int))=zs:=by
   intro zs hz;rw [List.map_map]
   conv=>rhs;rw [←List.map_id zs]
   apply List.map_congr_left;intro z h;have:=hz z h;simp [UInt8.toNat_ofNat'];omega
  rw [←back xs hx,←back ys hy,e]
 ·intro h;rw [h]
theorem LX (w:World) (A:Option Addr) (n c:Nat) (xs:List Int) (hl:xs.length=n) (h0:0 < n) (hs:Sl w w.heap.size 1 A n (xs.map (.int .u8))):(convert 24 9 (.slice A n c)).run Tryz.prog w=.ok (.string (strOfNums xs)) w:=by
 obtain ⟨b,o,rfl,_,hc⟩:=hs.2 h0;refine run_convert_bytes_arg w 24 5 Tryz.underlying24 Tryz.underlying5 b o n c xs hl (fun i hi=>?_) 9 Tryz.underlying9;refine hc i _ ?_;have BU:i < xs.length:=by omega
 simp [BU]
theorem EG (w:World) (A A':Option Addr) (n m c c':Nat) (xs ys:List Int) (hn:xs.length=n) (hm:ys.length=m) (h0:0 < n) (h1:0 < m) (hx:bn xs) (hy:bn ys) (hs:Sl w w.heap.size 1 A n (xs.map (.int .u8))) (ht:Sl w w.heap.size 1 A' m (ys.map (.int .u8))) :
  Calls Tryz.prog 98 #[.slice A n c,.slice A' m c'] w fun e w'=>e=.returned (.bool (decide (xs=ys)))∧w'=w:=by
 have e1:=LX w A n c xs hn h0 hs;have e2:=LX w A' m c' ys hm h1 ht;have e3:=af (str_inj xs ys hx hy);clear hs ht hx hy;go_enter Tryz.func98,Tryz.ntmps98;go_wp2_with fail;go_ret;exact ⟨aA e3.out,rfl⟩
theorem vJ (k:Nat) (hk:k≤1000000) (w:World):(Instr.makeSlice 24 (ae aa (k:Int)) (ae aa (k:Int))).run Tryz.prog w=.ok (.slice (some ⟨w.heap.size,0,none⟩) k k) (w.alloc (.cells (List.replicate k (Value.int .u8 0)).toArray 5)):=by
 rw [run_make_row' (P:=Tryz.prog) 24 5 (.int .u8 0) 1 Tryz.underlying24 PD rfl .i64 .i64 k (by omega) (by omega) w]
 congr 2
 congr 1
 apply Array.ext
 ·simp [madeCells]
 ·intro i h1 h2;simp [madeCells,Nat.mod_one]
end bytes
end Go.Proofs.YtdldkkoplgkloaaGreat
