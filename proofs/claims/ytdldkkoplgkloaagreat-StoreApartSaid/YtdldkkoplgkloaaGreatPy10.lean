/-
  PROVED HERE: lemmas that the law leans on.
  CONDITIONS: each names its own.
-/
import Derived.Below
import Derived.Deep.OwnRows
import Derived.Laws.BytesArg
import Derived.Lib.Bytes
import Derived.Test.YtdldkkoplgkloaaGreatPy0
import Derived.Test.YtdldkkoplgkloaaGreatPy2
import Derived.Test.YtdldkkoplgkloaaGreatPy4
import Derived.Test.YtdldkkoplgkloaaGreatPy9
namespace Go.Proofs.YtdldkkoplgkloaaGreat
set_option linter.unusedVariables false
set_option linter.unusedSimpArgs false
set_option maxRecDepth 100000
set_option maxHeartbeats 32000000
namespace bK


open Go.RowKit Go.Deep base obj mem sep bf num bytes bw chain image
def sH (X:Nat) (n:Nat) (bs:List Int):aD:=some_ fun v=>dr [row X 24 [v],own 5 1 v n (aP bs)]
section
variable {w0 w : World} {l : List aD} {X n : Nat} {bs : List Int}
theorem Dw (h:St w0 w (sH X n bs::l)):∃v,St w0 w (row X 24 [v]::own 5 1 v n (aP bs)::l):=by
 obtain ⟨v,h⟩:=h.ex;exact ⟨v,h.fI⟩
theorem Dv {v:Value} (h:St w0 w (row X 24 [v]::own 5 1 v n (aP bs)::l)):St w0 w (sH X n bs::l) :=
 St.XH v (St.eR (L:=[row X 24 [v],own 5 1 v n (aP bs)]) h)
theorem MD {v:Value} (h:St w0 w (row X 24 [v]::own 5 1 v n (aP bs)::l)) (hn:n≤100000) (m k:Nat) (jP:1≤k) (dC:k≤6) (hm:m < 256 ^ k) :
  Calls Tryz.prog 123 #[v,.int .i64 m,.int .i64 k] w fun e w'=>∃v',e=.returned v'∧St w0 w' (row X 24 [v]::own 5 1 v' (n+k) (aP (bs++be k m))::l):=by
 have ho:=h.swap.own;obtain ⟨A,c,rfl,_,_⟩:=aH ho;refine (num.iX w A n c _ (Sl.bz ho) (iO bs) hn m k jP dC hm).mono ?_;rintro e w' ⟨v',rfl,Ar,hb⟩;have h2:=(h.swap.drop.cQ hb Ar).swap;rw [aP,←List.map_append] at h2;exact ⟨v',rfl,h2⟩
end
def ints (L:List Int):List Value:=L.map (.int .i64)
theorem aaB (w:World) (B:Nat):w.ownsRow B 5 1 (.slice none 0 0) 0 (aP []):=⟨rfl,.inl ⟨rfl,rfl⟩⟩
theorem KH {z:Int} (h0:0≤z) (h1:z≤255):be 1 z.toNat=[z]:=by
 have:((z.toNat / 256 ^ (1-1-0) % 256:Nat):Int)=z:=by simp;omega
 simp only [be,List.range_succ,List.range_zero,List.nil_append,List.map_cons,List.map_nil,digit];rw [this]
theorem BD {w0 w:World} {l:List aD} {X n:Nat} {bs:List Int} {B c:Nat} {L:List Int} (h:St w0 w (sH X n bs::row B 3 (ints L)::l)) (hn:n+L.length≤100000) (hL:∀z∈L,0≤z∧z≤255) (k:Nat) (hk:L.length=k) :
  Calls Tryz.prog 165 #[.slice (some ⟨B,0,none⟩) k c,.pointer (some ⟨X,0,none⟩)] w fun e w'=>e=.returned (.tuple #[])∧St w0 w' (sH X (n+k) (bs++L)::row B 3 (ints L)::l):=by
 have H:=aa h;have HL:=aa hL;have HK:=aa hk;clear h hL hk;go_enter Tryz.func165,Tryz.ntmps165;go_wp2_with fail;go_loopw [7] (fun i wr=>∃j:Nat,j≤k∧i=.int .i64 j∧St w0 wr (sH X (n+j) (bs++L.take j)::row B 3 (ints L)::l)) (fun i _=>k-(intOf i).toNat)
 case atStart=>exact ⟨0,by omega,rfl,by rw [List.take_zero,List.append_nil];exact H.o⟩
 case round =>
  obtain ⟨j,hj,rfl,av⟩:=hrel;clear H;by_cases aK:j < k
  ·have dF:j < L.length:=by rw [HK.o];exact aK
   have hz:=HL.o L[j] (List.getElem_mem dF);obtain ⟨v,kO⟩:=Dw av;have c0:wr.cell? ⟨X,0,none⟩=some v:=kO.row.1.cell 0;have f0:wr.frozen? ⟨X,0,none⟩=false:=kO.row.1.frozen 0;have l0:=kO.row.1.lt;have hB:=(kO.pick 2 rfl).row.1;have c1:wr.cell? ⟨B,j,none⟩=some (.int .i64 L[j]):=(hB.cell j).trans (by simp [ints,dF]);have l1:=hB.lt;have bJ:=aa kO;have HZ:=aa hz;obtain ⟨m,hm⟩:∃m:Nat,m=L[j].toNat:=⟨_,rfl⟩
   have hzm:L[j]=(m:Int):=by omega
   have HT:=aa (show bs++L.take (j+1)=bs++L.take j++be 1 m by rw [jz dF,hm,KH hz.1 hz.2,List.append_assoc]);rw [hzm] at c1;have At:m < 256:=by omega
   have k0:(0:Int)≤(j:Int):=by omega
   have k1:(j:Int) < (k:Int):=by omega
   clear av kO hB hz hm hzm;go_wp2_with fail;refine (MD bJ.o (by have:=HK.o;omega) m 1 (by omega) (by omega) (by omega)).mono ?_;rintro e w1 ⟨v1,rfl,FE⟩;have mU:=aa FE;have f1:w1.frozen? ⟨X,0,none⟩=false:=FE.row.1.frozen 0;have c2:w1.cell? ⟨X,0,none⟩=some v:=FE.row.1.cell 0;have l2:=FE.row.1.lt;obtain ⟨A1,d1,rfl,_,_⟩:=aH FE.swap.own;clear FE c0 f0 l0 c1 l1;go_wp2_with fail;go_roundw
   case rel =>
    refine ⟨j+1,by omega,by go_num,?_⟩;have h:=mU.o.set 0 (.slice A1 (n+j+1) d1);simp only [List.set_cons_zero] at h;rw [HT.o];exact Dv h
   case measure=>simp [intOf];omega
  ·have HE:=aa (show j=k by omega);have bJ:=aa av;clear av;have k1:¬(j:Int) < (k:Int):=by omega
   go_wp2_with fail
   go_end0
   refine ⟨rfl,?_⟩;have h:=bJ.o;rw [HE.o,←HK.o,List.take_length,HK.o] at h;exact h
def dS (x:T3):List Int:=[x.a,x.b]++be 2 x.c.toNat
def fL (x:T3):List Int:=[x.a,x.b,x.c]
def dy (t:aQ):List Int:=[t.frame,t.ay,(t.parts.length:Int),(t.aC.length:Int),(t.au.length:Int)]
def qV (t:aQ):List Int:=dy t++t.parts.flatMap dS++t.aC.flatMap fL++t.au.flatMap fL
structure Uu (t:aQ):Prop where
 fr:1≤t.frame∧t.frame≤64
 tr:1≤t.ay∧t.ay≤7
 np:2≤t.parts.length∧t.parts.length≤4
 nw:1≤t.aC.length∧t.aC.length≤8
 nc:t.au.length≤4
 ps:∀x∈t.parts,(1≤x.a∧x.a≤16)∧(1≤x.b∧x.b≤32)∧0≤x.c∧x.c≤65535
 ws:∀x∈t.aC,(0≤x.a∧x.a < t.parts.length)∧(0≤x.b∧x.b≤64)∧1≤x.c∧x.c≤64
 cs:∀x∈t.au,(0≤x.a∧x.a < t.parts.length)∧(0≤x.b∧x.b < t.parts.length)∧x.a≠x.b∧0≤x.c∧x.c≤4
theorem BH {n a b:Int}:cH n a b=true ↔ a≤n∧n≤b:=by simp [cH]
theorem DF {n:Nat} {fr:Int}:∀(l:List T3) (e:Int),0≤e→fr≤64→qR n fr e l=true→∀x∈l,(0≤x.a∧x.a < n)∧(0≤x.b∧x.b≤64)∧1≤x.c∧x.c≤64
 | [],_,_,_,_,x,hx=>by cases hx
 | y::l,e,he,hf,h,x,hx=>by
   simp only [qR,Bool.and_eq_true] at h;obtain ⟨h1,h2,h3,h4,h5⟩:=yh h.1;have h1':=BH.1 h1;rcases List.mem_cons.1 hx with rfl|hx
   ·omega
   ·exact DF l _ (by omega) hf h.2 x hx
theorem aQ.r {t:aQ} (h:t.right=true):Uu t:=by
 simp only [aQ.right,Bool.and_eq_true,BH,decide_eq_true_eq,Bool.not_eq_true',List.any_eq_false] at h;obtain ⟨h1,h2,h3,h4,h5,h6,h7⟩:=h;simp only [aQ.mn,Bool.and_eq_true,decide_eq_true_eq,List.any_eq_true] at h5;obtain ⟨h8,⟨x0,xD,_⟩,h9⟩:=h5;refine ⟨h1,h2,by omega,⟨?_,h9⟩,h6,fun x hx=>?_,fun x hx=>DF _ 0 (by omega) (by omega) h8 x hx,fun x hx=>?_⟩
 ·cases hw:t.aC with
  | nil=>rw [hw] at xD;cases xD
  | cons y l=>simp
 ·have h:x.part=true:=by simpa using h4 x hx
  simp only [T3.part,Bool.and_eq_true,BH] at h;omega
 ·have h:jb t.parts.length x=true:=by simpa using h7 x hx
  simp only [jb,Bool.and_eq_true,BH,beq_eq_false_iff_ne,ne_eq,Bool.not_eq_true'] at h;omega
theorem vK (x:T3):(dS x).length=4:=by simp [dS,bp]
theorem Bx (x:T3):(fL x).length=3:=rfl
theorem kA {f:T3→List Int} {k:Nat} (hf:∀x,(f x).length=k) (l:List T3):(l.flatMap f).length=k*l.length:=by
 induction l with
 | nil=>simp
 | cons x l ih=>rw [List.flatMap_cons,gA,hf,ih,List.length_cons,Nat.mul_succ,Nat.add_comm]
theorem VS {w:World} {t:aQ} {AP AW AC:Option Addr} {nP cP nW cW nC cC:Nat} (h:oZ w w.heap.size t AP nP cP AW nW cW AC nC cC) (hr:t.right=true) :
  Calls Tryz.prog 116 #[sV t.frame AP nP cP AW nW cW AC nC cC t.ay] w fun e w'=>∃v,e=.returned (.tuple #[v,.int .i64 0])∧w'.ownsRow w.heap.size 5 1 v (qV t).length (aP (qV t))∧Below w.heap.size w w':=by
 have R:=aQ.r hr;have HV:=aa h;have ez:=aa (fun w' (hb:Below w.heap.size w w')=>ft (h.over hb));rw [hr] at ez;obtain ⟨T,hT⟩:∃T,T=w.heap.size:=⟨_,rfl⟩
 obtain ⟨w1,aJ⟩:∃w1,w1=w.alloc (.cells #[.int .i64 t.frame,.slice AP nP cP,.slice AW nW cW,.slice AC nC cC,.int .i64 t.ay] 46):=⟨_,rfl⟩
 have H1:=aa (show St w w1 [row T 46 (da t.frame AP nP cP AW nW cW AC nC cC t.ay)] by rw [aJ,hT];exact (St.nil w).new _ _);obtain ⟨fr,jR⟩:∃fr,fr=t.frame:=⟨_,rfl⟩
 obtain ⟨tr,jl⟩:∃tr,tr=t.ay:=⟨_,rfl⟩
 have HR:=aa R;rw [←jR,←jl] at ez H1 aJ ⊢;have bq:=aa aJ;have HT:=aa hT;have Hy:=aa jR;have Hs:=aa jl;clear h aJ hT jR jl hr R;go_enter Tryz.func116,Tryz.ntmps116;go_upto_region 1 with fail;rw [←bq.o,←HT.o];have t0:w1.cell? ⟨T,0,none⟩=some (.int .i64 fr):=H1.o.row.1.cell 0;have t1:w1.cell? ⟨T,1,none⟩=some (.slice AP nP cP):=H1.o.row.1.cell 1;have t2:w1.cell? ⟨T,2,none⟩=some (.slice AW nW cW):=H1.o.row.1.cell 2;have t3:w1.cell? ⟨T,3,none⟩=some (.slice AC nC cC):=H1.o.row.1.cell 3;have t4:w1.cell? ⟨T,4,none⟩=some (.int .i64 tr):=H1.o.row.1.cell 4;have lT:=H1.o.row.1.lt;go_wp2_with fail;refine (ez.o w1 H1.o.aI).mono ?_;rintro e w2 ⟨rfl,bN⟩;have H2:=aa (H1.o.below bN);clear bN t0 t1 t2 t3 t4 lT H1;have t0:w2.cell? ⟨T,0,none⟩=some (.int .i64 fr):=H2.o.row.1.cell 0;have t1:w2.cell? ⟨T,1,none⟩=some (.slice AP nP cP):=H2.o.row.1.cell 1;have t2:w2.cell? ⟨T,2,none⟩=some (.slice AW nW cW):=H2.o.row.1.cell 2;have t3:w2.cell? ⟨T,3,none⟩=some (.slice AC nC cC):=H2.o.row.1.cell 3;have t4:w2.cell? ⟨T,4,none⟩=some (.int .i64 tr):=H2.o.row.1.cell 4;have lT:=H2.o.row.1.lt;go_wp2_with fail;obtain ⟨X,hX⟩:∃X,X=w2.heap.size:=⟨_,rfl⟩
 rw [←hX];obtain ⟨w3,mR⟩:∃v,v=(w2.alloc (.cells #[.slice none 0 0] 24)).alloc (.cells #[.int .i64 fr,.int .i64 tr,.int .i64 (nP:Int),.int .i64 (nW:Int),.int .i64 (nC:Int)] 3):=⟨_,rfl⟩
 have FD:St w w3 (row (X+1) 3 (ints [fr,tr,(nP:Int),(nW:Int),(nC:Int)])::row X 24 [.slice none 0 0]::[row T 46 (da fr AP nP cP AW nW cW AC nC cC tr)]):=by
  have h:=(H2.o.new 24 #[.slice none 0 0]).new 3 #[.int .i64 fr,.int .i64 tr,.int .i64 (nP:Int),.int .i64 (nW:Int),.int .i64 (nC:Int)];rw [mR];rw [show (w2.alloc (.cells #[.slice none 0 0] 24)).heap.size=X+1 by rw [hX];exact Array.size_push _,←hX] at h;exact h
 have JK:St w w3 (sH X 0 []::row (X+1) 3 (ints [fr,tr,(nP:Int),(nW:Int),(nC:Int)])::[row T 46 (da fr AP nP cP AW nW cW AC nC cC tr)]) :=
  (Dv ((FD.swap.cQ (Below.refl _ _) (aaB _ _)).swap)).swap.swap
 rw [←mR];have H3:=aa JK;have HX:=aa hX;clear FD JK mR hX t0 t1 t2 t3 t4 lT
 refine (BD H3.o (by simp) (by
  have hl:=HV.o;have r:=HR.o;have:=r.fr;have:=r.tr;have:=r.np;have:=r.nw;have:=r.nc;have:=hl.lp;have:=hl.lw;have:=hl.lc;have:=Hy.o;have:=Hs.o;intro z hz;simp only [List.mem_cons,List.not_mem_nil,or_false] at hz
  rcases hz with rfl|rfl|rfl|rfl|rfl<;>omega) 5 rfl).mono ?_
 rintro e w4 ⟨rfl,JK⟩
 have H4:=aa (show St w w4 (sH X (dy t).length (dy t)::[row T 46 (da fr AP nP cP AW nW cW AC nC cC tr)]) from by
  have e:dy t=[fr,tr,(nP:Int),(nW:Int),(nC:Int)]:=by rw [dy,Hy.o,Hs.o,HV.o.lp,HV.o.lw,HV.o.lc]
  rw [e];have h:=JK.swap.drop;rw [List.nil_append] at h
  exact h)
 clear JK H3;have t1:w4.cell? ⟨T,1,none⟩=some (.slice AP nP cP):=H4.o.swap.row.1.cell 1;have lT:=H4.o.swap.row.1.lt;have MM:=aa (show ∀w',Below w.heap.size w w'→Sl w' w'.heap.size 3 AP nP (fW t.parts) from fun w' hb=>(HV.o.over hb).ps);have HWS:=aa (show ∀w',Below w.heap.size w w'→Sl w' w'.heap.size 3 AW nW (fW t.aC) from fun w' hb=>(HV.o.over hb).ws);have mW:=aa (show ∀w',Below w.heap.size w w'→Sl w' w'.heap.size 3 AC nC (fW t.au) from fun w' hb=>(HV.o.over hb).cs);have Bg:=aa HV.o.lp;have Hw:=aa HV.o.lw;have Bi:=aa HV.o.lc;go_wp2_with fail;go_loopw [35] (fun i wr=>∃j:Nat,j≤nP∧i=.int .i64 j∧St w wr [sH X (dy t++(t.parts.take j).flatMap dS).length (dy t++(t.parts.take j).flatMap dS),row T 46 (da fr AP nP cP AW nW cW AC nC cC tr)]) (fun i _=>nP-(intOf i).toNat)
 case atStart=>exact ⟨0,by omega,rfl,by rw [List.take_zero,List.flatMap_nil,List.append_nil];exact H4.o⟩
 case round =>
  obtain ⟨j,hj,rfl,av⟩:=hrel;clear H4 t1 lT;have n9:nP≤8:=by have:=HR.o.np;have:=HR.o.nw;have:=HR.o.nc;have:=Bg.o;omega
  by_cases aK:j < nP
  ·have dF:j < t.parts.length:=by have:=Bg.o;omega
   obtain ⟨B,off,rfl,hBl,c0,c1,c2⟩:=jh (MM.o wr av.aI) Bg.o dF;have pY:=aa (HR.o.ps _ (List.getElem_mem dF));have Ia:=aa (show dy t++(t.parts.take (j+1)).flatMap dS=(dy t++(t.parts.take j).flatMap dS)++dS t.parts[j] by rw [jz dF,List.flatMap_append,List.append_assoc];simp)
   have HL:=aa (show (dy t++(t.parts.take j).flatMap dS).length≤1000 from by
    have:=HR.o.np;have:=HR.o.nw;have:=HR.o.nc;simp only [gA,dy,List.length_cons,List.length_nil,kA vK,kA Bx,fv]
    omega)
   generalize (dy t++(t.parts.take j).flatMap dS)=bs at *;generalize t.parts[j]=x at *;obtain ⟨xa,xb,xc⟩:=x;simp only at c0 c1 c2 pY;have H:=aa av;have k0:(0:Int)≤(j:Int):=by omega
   have k1:(j:Int) < (nP:Int):=by omega
   clear av;go_wp2_with fail;obtain ⟨g,hg⟩:∃g,g=wr.heap.size:=⟨_,rfl⟩
   rw [←hg];obtain ⟨w5,dQ⟩:∃v,v=(wr.alloc (.cells #[.int .i64 xa,.int .i64 xb,.int .i64 xc] 147)).alloc (.cells #[.int .i64 xa,.int .i64 xb] 3):=⟨_,rfl⟩
   have h5:=((H.o.new 147 #[.int .i64 xa,.int .i64 xb,.int .i64 xc]).new 3 #[.int .i64 xa,.int .i64 xb]).pick 2 rfl;rw [show (wr.alloc (.cells #[.int .i64 xa,.int .i64 xb,.int .i64 xc] 147)).heap.size=g+1 by rw [hg];exact Array.size_push _,←hg,←dQ] at h5;rw [←dQ];have H5:=aa h5;clear h5 dQ hg c0 c1 c2 H
   refine (BD (L:=[xa,xb]) H5.o (by have:=HL.o;simp;omega) (by
    have:=pY.o;have:=HR.o.np;intro z hz;simp only [List.mem_cons,List.not_mem_nil,or_false] at hz
    rcases hz with rfl|rfl<;>omega) 2 rfl).mono ?_
   rintro e w6 ⟨rfl,tM⟩;obtain ⟨v6,sw⟩:=Dw (tM.swap.drop);have H6:=aa sw;have z0:w6.cell? ⟨X,0,none⟩=some v6:=sw.row.1.cell 0;have l0:=sw.row.1.lt;have p2:w6.cell? ⟨g,2,none⟩=some (.int .i64 xc):=(sw.pick 2 rfl).row.1.cell 2;have l2:=(sw.pick 2 rfl).row.1.lt;obtain ⟨m,hm⟩:∃m:Nat,m=xc.toNat:=⟨_,rfl⟩
   have At:m < 65536:=by have:=pY.o;omega
   have hm3:xc=(m:Int):=by have:=pY.o;omega
   have HM:=aa hm;rw [hm3] at p2;clear tM sw H5 hm hm3;go_wp2_with fail;refine (MD H6.o (by have:=HL.o;omega) m 2 (by omega) (by omega) (by omega)).mono ?_;rintro e w7 ⟨v7,rfl,sw⟩;have H7:=aa sw;have f1:w7.frozen? ⟨X,0,none⟩=false:=sw.row.1.frozen 0;have c2:w7.cell? ⟨X,0,none⟩=some v6:=sw.row.1.cell 0;have l3:=sw.row.1.lt;obtain ⟨A1,d1,rfl,_,_⟩:=aH sw.swap.own;clear sw H6 z0 l0 p2 l2;go_wp2_with fail;go_roundw
   case rel =>
    refine ⟨j+1,by omega,by go_num,?_⟩;have h:=(Dv ((H7.o.set 0 (.slice A1 (bs.length+2+2) d1)))).swap.drop.swap;rw [Ia.o,show dS ⟨xa,xb,xc⟩=[xa,xb]++be 2 m by rw [HM.o];rfl,←List.append_assoc];rw [show (bs++[xa,xb]++be 2 m).length=bs.length+2+2 by simp [bp]];exact h.swap
   case measure=>simp [intOf];omega
  ·have HE:=aa (show j=t.parts.length by have:=Bg.o;omega);have k1:¬(j:Int) < (nP:Int):=by omega
   have H8:=aa (show St w wr [sH X (dy t++t.parts.flatMap dS).length (dy t++t.parts.flatMap dS),row T 46 (da fr AP nP cP AW nW cW AC nC cC tr)] by
    have h:=av;rw [HE.o,List.take_length] at h
    exact h)
   clear av;have t1:wr.cell? ⟨T,2,none⟩=some (.slice AW nW cW):=H8.o.swap.row.1.cell 2;have lT:=H8.o.swap.row.1.lt;go_wp2_with fail;generalize wr=w4 at *;have H4:=aa H8.o;clear H8;go_loopw [54] (fun i wr=>∃j:Nat,j≤nW∧i=.int .i64 j∧St w wr [sH X ((dy t++t.parts.flatMap dS)++(t.aC.take j).flatMap fL).length ((dy t++t.parts.flatMap dS)++(t.aC.take j).flatMap fL),row T 46 (da fr AP nP cP AW nW cW AC nC cC tr)]) (fun i _=>nW-(intOf i).toNat)
   case atStart=>exact ⟨0,by omega,rfl,by rw [List.take_zero,List.flatMap_nil,List.append_nil];exact H4.o⟩
   case round =>
    obtain ⟨j,hj,rfl,av⟩:=hrel;clear H4 t1 lT;have n9:nW≤8:=by have:=HR.o.np;have:=HR.o.nw;have:=HR.o.nc;have:=Hw.o;omega
    by_cases aK:j < nW
    ·have dF:j < t.aC.length:=by have:=Hw.o;omega
     obtain ⟨B,off,rfl,hBl,c0,c1,c2⟩:=jh (HWS.o wr av.aI) Hw.o dF;have pY:=aa (HR.o.ws _ (List.getElem_mem dF));have Ia:=aa (show (dy t++t.parts.flatMap dS)++(t.aC.take (j+1)).flatMap fL=((dy t++t.parts.flatMap dS)++(t.aC.take j).flatMap fL)++fL t.aC[j] by rw [jz dF,List.flatMap_append,List.append_assoc];simp)
     have HL:=aa (show ((dy t++t.parts.flatMap dS)++(t.aC.take j).flatMap fL).length≤1000 from by
      have:=HR.o.np;have:=HR.o.nw;have:=HR.o.nc;simp only [gA,dy,List.length_cons,List.length_nil,kA vK,kA Bx,fv]
      omega)
     generalize ((dy t++t.parts.flatMap dS)++(t.aC.take j).flatMap fL)=bs at *;generalize t.aC[j]=x at *;obtain ⟨xa,xb,xc⟩:=x;simp only at c0 c1 c2 pY;have H:=aa av;have k0:(0:Int)≤(j:Int):=by omega
     have k1:(j:Int) < (nW:Int):=by omega
     clear av;go_wp2_with fail;obtain ⟨g,hg⟩:∃g,g=wr.heap.size:=⟨_,rfl⟩
     rw [←hg];obtain ⟨w5,dQ⟩:∃v,v=(wr.alloc (.cells #[.int .i64 xa,.int .i64 xb,.int .i64 xc] 150)).alloc (.cells #[.int .i64 xa,.int .i64 xb,.int .i64 xc] 3):=⟨_,rfl⟩
     have h5:=((H.o.new 150 #[.int .i64 xa,.int .i64 xb,.int .i64 xc]).new 3 #[.int .i64 xa,.int .i64 xb,.int .i64 xc]).pick 2 rfl;rw [show (wr.alloc (.cells #[.int .i64 xa,.int .i64 xb,.int .i64 xc] 150)).heap.size=g+1 by rw [hg];exact Array.size_push _,←hg,←dQ] at h5;rw [←dQ];have H5:=aa h5;clear h5 dQ hg c0 c1 c2 H
     refine (BD (L:=[xa,xb,xc]) H5.o (by have:=HL.o;simp;omega) (by
      have:=pY.o;have:=HR.o.np;intro z hz;simp only [List.mem_cons,List.not_mem_nil,or_false] at hz
      rcases hz with rfl|rfl|rfl<;>omega) 3 rfl).mono ?_
     rintro e w6 ⟨rfl,tM⟩;have H6:=aa tM;clear tM H5;go_wp2_with fail;go_roundw
     case rel =>
      refine ⟨j+1,by omega,by go_num,?_⟩;have h:=(H6.o.swap.drop).swap.drop.swap;rw [Ia.o,show fL ⟨xa,xb,xc⟩=[xa,xb,xc] from rfl,show (bs++[xa,xb,xc]).length=bs.length+3 by simp];exact h.swap
     case measure=>simp [intOf];omega
    ·have HE:=aa (show j=t.aC.length by have:=Hw.o;omega);have k1:¬(j:Int) < (nW:Int):=by omega
     have H8:=aa (show St w wr [sH X ((dy t++t.parts.flatMap dS)++t.aC.flatMap fL).length ((dy t++t.parts.flatMap dS)++t.aC.flatMap fL),row T 46 (da fr AP nP cP AW nW cW AC nC cC tr)] by
      have h:=av;rw [HE.o,List.take_length] at h
      exact h)
     clear av;have t1:wr.cell? ⟨T,3,none⟩=some (.slice AC nC cC):=H8.o.swap.row.1.cell 3;have lT:=H8.o.swap.row.1.lt;go_wp2_with fail;generalize wr=w4 at *;have H4:=aa H8.o;clear H8;go_loopw [71] (fun i wr=>∃j:Nat,j≤nC∧i=.int .i64 j∧St w wr [sH X ((dy t++t.parts.flatMap dS++t.aC.flatMap fL)++(t.au.take j).flatMap fL).length ((dy t++t.parts.flatMap dS++t.aC.flatMap fL)++(t.au.take j).flatMap fL),row T 46 (da fr AP nP cP AW nW cW AC nC cC tr)]) (fun i _=>nC-(intOf i).toNat)
     case atStart=>exact ⟨0,by omega,rfl,by rw [List.take_zero,List.flatMap_nil,List.append_nil];exact H4.o⟩
     case round =>
      obtain ⟨j,hj,rfl,av⟩:=hrel;clear H4 t1 lT;have n9:nC≤8:=by have:=HR.o.np;have:=HR.o.nw;have:=HR.o.nc;have:=Bi.o;omega
      by_cases aK:j < nC
      ·have dF:j < t.au.length:=by have:=Bi.o;omega
       obtain ⟨B,off,rfl,hBl,c0,c1,c2⟩:=jh (mW.o wr av.aI) Bi.o dF;have pY:=aa (HR.o.cs _ (List.getElem_mem dF));have Ia:=aa (show (dy t++t.parts.flatMap dS++t.aC.flatMap fL)++(t.au.take (j+1)).flatMap fL=((dy t++t.parts.flatMap dS++t.aC.flatMap fL)++(t.au.take j).flatMap fL)++fL t.au[j] by rw [jz dF,List.flatMap_append,List.append_assoc];simp)
       have HL:=aa (show ((dy t++t.parts.flatMap dS++t.aC.flatMap fL)++(t.au.take j).flatMap fL).length≤1000 from by
        have:=HR.o.np;have:=HR.o.nw;have:=HR.o.nc;simp only [gA,dy,List.length_cons,List.length_nil,kA vK,kA Bx,fv]
        omega)
       generalize ((dy t++t.parts.flatMap dS++t.aC.flatMap fL)++(t.au.take j).flatMap fL)=bs at *;generalize t.au[j]=x at *;obtain ⟨xa,xb,xc⟩:=x;simp only at c0 c1 c2 pY;have H:=aa av;have k0:(0:Int)≤(j:Int):=by omega
       have k1:(j:Int) < (nC:Int):=by omega
       clear av;go_wp2_with fail;obtain ⟨g,hg⟩:∃g,g=wr.heap.size:=⟨_,rfl⟩
       rw [←hg];obtain ⟨w5,dQ⟩:∃v,v=(wr.alloc (.cells #[.int .i64 xa,.int .i64 xb,.int .i64 xc] 152)).alloc (.cells #[.int .i64 xa,.int .i64 xb,.int .i64 xc] 3):=⟨_,rfl⟩
       have h5:=((H.o.new 152 #[.int .i64 xa,.int .i64 xb,.int .i64 xc]).new 3 #[.int .i64 xa,.int .i64 xb,.int .i64 xc]).pick 2 rfl;rw [show (wr.alloc (.cells #[.int .i64 xa,.int .i64 xb,.int .i64 xc] 152)).heap.size=g+1 by rw [hg];exact Array.size_push _,←hg,←dQ] at h5;rw [←dQ];have H5:=aa h5;clear h5 dQ hg c0 c1 c2 H
       refine (BD (L:=[xa,xb,xc]) H5.o (by have:=HL.o;simp;omega) (by
        have:=pY.o;have:=HR.o.np;intro z hz;simp only [List.mem_cons,List.not_mem_nil,or_false] at hz
        rcases hz with rfl|rfl|rfl<;>omega) 3 rfl).mono ?_
       rintro e w6 ⟨rfl,tM⟩;have H6:=aa tM;clear tM H5;go_wp2_with fail;go_roundw
       case rel =>
        refine ⟨j+1,by omega,by go_num,?_⟩;have h:=(H6.o.swap.drop).swap.drop.swap;rw [Ia.o,show fL ⟨xa,xb,xc⟩=[xa,xb,xc] from rfl,show (bs++[xa,xb,xc]).length=bs.length+3 by simp];exact h.swap
       case measure=>simp [intOf];omega
      ·have HE:=aa (show j=t.au.length by have:=Bi.o;omega);have k1:¬(j:Int) < (nC:Int):=by omega
       have H8:=aa (show St w wr [sH X ((dy t++t.parts.flatMap dS++t.aC.flatMap fL)++t.au.flatMap fL).length ((dy t++t.parts.flatMap dS++t.aC.flatMap fL)++t.au.flatMap fL),row T 46 (da fr AP nP cP AW nW cW AC nC cC tr)] by
        have h:=av;rw [HE.o,List.take_length] at h
        exact h)
       clear av;obtain ⟨v,av⟩:=Dw H8.o;have z0:wr.cell? ⟨X,0,none⟩=some v:=av.row.1.cell 0;have l0:=av.row.1.lt;have H9:=aa av;clear av H8;go_wp2_with fail;go_ret2;exact ⟨v,rfl,H9.o.swap.own,H9.o.aI⟩
end bK
namespace num

open Go.RowKit base obj mem bw bytes
structure Rd (w:World) (B R:Nat) (bs:List Int):Prop where
 cell:∃A c,w.heap[R]?=some (.cells #[.slice A bs.length c,.int .i64 0] 255 (0,0))∧bs.length≤c∧(0 < bs.length→∃g o,A=some ⟨g,o,none⟩∧B≤g∧g < R∧∀k u,(bs.map (Value.int .u8))[k]?=some u→w.cell? ⟨g,o+k,none⟩=some u)
 base:B≤R
theorem Rd.lt {w:World} {B R:Nat} {bs:List Int} (h:Rd w B R bs):R < w.heap.size:=by
 obtain ⟨A,c,e,_⟩:=h.cell;exact (Array.getElem?_eq_some_iff.1 e).1
theorem Rd.keep {w w':World} {B R:Nat} {bs:List Int} (h:Rd w B R bs) (hk:∀i,B≤i→i≤R→w'.heap[i]?=w.heap[i]?):Rd w' B R bs:=by
 obtain ⟨⟨A,c,e,hc,hs⟩,hb⟩:=h;refine ⟨⟨A,c,(hk R hb (Nat.le_refl _)).trans e,hc,fun hp=>?_⟩,hb⟩;obtain ⟨g,o,ha,h1,h2,h3⟩:=hs hp;exact ⟨g,o,ha,h1,h2,fun k u hu=>(World.cell?_of_block (a:=⟨g,o+k,none⟩) (hk g h1 (Nat.le_of_lt h2))).trans (h3 k u hu)⟩
theorem Rd.below {w w':World} {B R:Nat} {bs:List Int} (h:Rd w B R bs) (k:Below w.heap.size w w'):Rd w' B R bs:=h.keep fun i _ hi=>k.block i (Nat.lt_of_le_of_lt hi h.lt)
theorem Rd.kept {w w':World} {B R:Nat} {bs:List Int} {S:Nat→Prop} (h:Rd w B R bs) (k:Kept S w w') (hS:∀i,B≤i→i≤R→¬S i):Rd w' B R bs:=h.keep fun i h1 h2=>k.block i (Nat.lt_of_le_of_lt h2 h.lt) (hS i h1 h2)
theorem Rd.sl {w:World} {B R:Nat} {bs:List Int} {A:Option Addr} {n c:Nat} (h:Rd w B R bs) (e:w.heap[R]?=some (.cells #[.slice A n c,.int .i64 0] 255 (0,0))):n=bs.length∧bs.length≤c∧Sl w R 1 A bs.length (bs.map (.int .u8)):=by
 obtain ⟨A2,c2,e2,hc,hs⟩:=h.cell;rw [e] at e2;injection e2 with e2
 injection e2 with e2 _ _
 simp at e2;obtain ⟨rfl,rfl,rfl⟩:=e2;refine ⟨rfl,hc,by simp,fun hp=>?_⟩;obtain ⟨g,o,ha,h1,h2,h3⟩:=hs hp;exact ⟨g,o,ha,h2,h3⟩
theorem xv (w:World) (A:Option Addr) (n c:Nat) (bs:List Int) (hl:bs.length=n) (hs:Sl w w.heap.size 1 A n (bs.map (.int .u8))) (hn:n≤100000) :
  Calls Tryz.prog 143 #[.slice A n c] w fun e w'=>∃R,e=.returned (.pointer (some ⟨R,0,none⟩))∧Rd w' w.heap.size R bs∧Below w.heap.size w w':=by
 have HC:=aa (AY w A n c _ hs (xz bs) (by omega));have HL:=aa hl;clear hs hl;go_enter Tryz.func143,Tryz.ntmps143;go_wp2_with fail;refine HC.o.mono ?_;rintro e w1 ⟨v,rfl,ho,hb⟩;have HO:=aa ho;have HB:=aa hb;obtain ⟨A2,c2,e2,AB,_⟩:=aH ho;subst e2;clear ho hb;go_wp2_with fail;go_ret;refine ⟨w1.heap.size,rfl,⟨⟨A2,c2,?_,by rw [HL.o];exact AB,fun hp=>?_⟩,HB.o.size⟩,HB.o.alloc HB.o.size _⟩
 ·rw [HL.o];exact heap_alloc_new _ _
 ·obtain ⟨g,cap,e,h1,h2⟩:=HO.o.form (by rw [←HL.o];exact hp);have dB:=Sl.bz HO.o;obtain ⟨b,o,rfl,bN,fc⟩:=dB.2 (by rw [←HL.o];exact hp);injection e with e3 _ _
  injection e3 with e4
  injection e4 with e5 e6 _
  subst e5;exact ⟨_,o,rfl,h1,bN,fun k u hu=>(World.cell?_alloc_lt _ _ _ bN).trans (fc k u hu)⟩
theorem kd {w:World} {B R:Nat} {bs:List Int} (h:Rd w B R bs):Calls Tryz.prog 182 #[.pointer (some ⟨R,0,none⟩)] w fun e w'=>e=.returned (.bool true)∧w'=w:=by
 obtain ⟨A,c,e,_⟩:=h.cell;have c1:w.cell? ⟨R,1,none⟩=some (.int .i64 0):=by simp [World.cell?,e]
 clear h e;go_enter Tryz.func182,Tryz.ntmps182;go_wp2_with fail;go_ret;exact ⟨rfl,rfl⟩
theorem left_at {w:World} {B R:Nat} {bs:List Int} (h:Rd w B R bs):Calls Tryz.prog 196 #[.pointer (some ⟨R,0,none⟩)] w fun e w'=>e=.returned (.int .i64 bs.length)∧w'=w:=by
 have HW:=aa (kd h);obtain ⟨A,c,e,_⟩:=h.cell;have c1:w.cell? ⟨R,0,none⟩=some (.slice A bs.length c):=by simp [World.cell?,e]
 clear h e;go_enter Tryz.func196,Tryz.ntmps196;go_wp2_with fail;refine HW.o.mono ?_;rintro e w' ⟨rfl,rfl⟩;go_wp2_with fail;go_ret;exact ⟨rfl,rfl⟩
theorem PJ {w w1:World} {B R g o o2 l n c c2:Nat} {bs:List Int} (h:Rd w B R bs) (e:w.heap[R]?=some (.cells #[.slice (some ⟨g,o,none⟩) l c,.int .i64 0] 255 (0,0))) (hb:Below w.heap.size w w1) (hl:bs.length=l) (hn:n≤l) (ho:l≤n∨o2=o+n) (hc:l-n≤c2) :
  Rd (w1.setCell ⟨R,0,none⟩ (.slice (some ⟨g,o2,none⟩) (l-n) c2)) B R (bs.drop n)∧Kept (fun i=>i=R) w (w1.setCell ⟨R,0,none⟩ (.slice (some ⟨g,o2,none⟩) (l-n) c2)):=by
 refine ⟨⟨⟨some ⟨g,o2,none⟩,c2,?_,by simp;omega,fun hp=>?_⟩,h.base⟩,(Kept.ng hb (fun i=>i=R)).setCell (p:=⟨R,0,none⟩) (.inl rfl) _⟩
 ·have e1:=(hb.block R h.lt).trans e;simp only [World.setCell,Array.getElem?_modify,if_true,e1,Option.map_some];simp [hl]
 ·obtain ⟨A2,c3,e2,_,hs⟩:=h.cell;rw [e] at e2;injection e2 with e2
  injection e2 with e2 _ _
  simp at e2;obtain ⟨rfl,_,rfl⟩:=e2;simp at hp;obtain ⟨g2,o3,ha,h1,h2,h3⟩:=hs (by omega);injection ha with ha
  injection ha with ha bN _
  subst ha;subst bN;refine ⟨_,o2,rfl,h1,h2,fun k u hu=>?_⟩;have wu:g < w.heap.size:=Nat.lt_trans h2 h.lt;have ho2:o2=o+n:=by rcases ho with h|h<;>omega
  rw [World.cell?_of_block (w:=w) (w':=w1.setCell ⟨R,0,none⟩ (.slice (some ⟨g,o2,none⟩) (l-n) c2)) (a:=⟨g,o2+k,none⟩) ((Below.heap_setCell w1 ⟨R,0,none⟩ _ g (show g≠R by omega)).trans (hb.block g wu)),ho2,Nat.add_assoc];refine h3 (n+k) u ?_;rw [List.getElem?_map,List.getElem?_drop] at hu;rw [List.getElem?_map];exact hu
theorem oR {w:World} {B R:Nat} {bs:List Int} (h:Rd w B R bs) (n:Nat) (h1:1≤n) (hn:n≤bs.length) (hm:bs.length≤100000) :
  Calls Tryz.prog 181 #[.pointer (some ⟨R,0,none⟩),.int .i64 n] w fun e w'=>∃v,e=.returned v∧w'.ownsRow w.heap.size 5 1 v n ((bs.map (.int .u8)).take n)∧Rd w' B R (bs.drop n)∧Kept (fun i=>i=R) w w':=by
 have HW:=aa (fun (w':World) (k:Below w.heap.size w w')=>kd (h.below k));obtain ⟨A,c,e,hc,hs⟩:=h.cell;obtain ⟨g,o,rfl,hBg,hgR,fc⟩:=hs (by omega)
 have dB:Sl w R 1 (some ⟨g,o,none⟩) n ((bs.map (.int .u8)).take n):=⟨by simp;omega,fun _=>⟨g,o,rfl,hgR,fun k u hu=>fc k u (by
  rw [List.getElem?_take] at hu;split at hu
  ·exact hu
  ·simp at hu)⟩⟩
 have c0:w.cell? ⟨R,0,none⟩=some (.slice (some ⟨g,o,none⟩) bs.length c):=by simp [World.cell?,e]
 have hR:=h.lt;have HC:=aa (AY w (some ⟨g,o,none⟩) n c _ (dB.more (Nat.le_of_lt hR)) (fun v hv=>xz bs v (List.mem_of_mem_take hv)) (by omega));have HH:=aa h;have HE:=aa e;have ab6:=aa fc;clear dB h e hs fc;have i0:¬(n:Int)≤0:=by omega
 have i1:¬(n:Int) > (bs.length:Int):=by omega
 have i2:(0:Int)≤(n:Int):=by omega
 have i3:(n:Int)≤(bs.length:Int):=by omega
 have i4:(bs.length:Int)≤(c:Int):=by omega
 have i5:(n:Int)≤(c:Int):=by omega
 generalize cy:bs.length=l at *;have ch:=aa cy;clear cy;go_enter Tryz.func181,Tryz.ntmps181;go_wp2_with fail;refine (HW.o _ (Below.refl _ _)).mono ?_;rintro e w' ⟨rfl,rfl⟩;go_wp2_with fail;refine HC.o.mono ?_;rintro e w1 ⟨v,rfl,ho,hb⟩;have HO:=aa ho;have HB:=aa hb;have e1:=(hb.block R hR).trans HE.o;have c1:w1.cell? ⟨R,0,none⟩=some (.slice (some ⟨g,o,none⟩) l c):=by simp [World.cell?,e1]
 have f1:w1.frozen? ⟨R,0,none⟩=false:=by simp [World.frozen?,e1]
 have E1:=aa e1;clear ho hb c0 e1;go_wp2_with fail
 ·go_ret;refine ⟨v,rfl,?_,?_⟩
  ·exact ownsRow_setCell_below HO.o (a:=⟨R,0,none⟩) hR _
  ·exact PJ HH.o HE.o HB.o ch.o hn (.inl (by omega)) (by omega)
 ·go_ret;refine ⟨v,rfl,?_,?_⟩
  ·exact ownsRow_setCell_below HO.o (a:=⟨R,0,none⟩) hR _
  ·exact PJ HH.o HE.o HB.o ch.o hn (.inr rfl) (by omega)
theorem X8 (n z:Nat) (hn:n < 2 ^ 50) (hz:z < 256):Go.bits .or .i64 ((n*256:Nat):Int) (z:Int)=((256*n+z:Nat):Int):=by
 show IntKind.i64.wrap ((BitVec.ofInt 64 ((n*256:Nat):Int) ||| BitVec.ofInt 64 (z:Int)).toNat:Int)=_
 have e:=Nat.two_pow_add_eq_or_of_lt (i:=8) (b:=z) (by omega) n;rw [BitVec.toNat_or,BitVec.toNat_ofInt,BitVec.toNat_ofInt,show (((n*256:Nat):Int) % ((2 ^ 64:Nat):Int)).toNat=2 ^ 8*n by omega,show ((z:Int) % ((2 ^ 64:Nat):Int)).toNat=z by omega,←e,IntKind.wrap_i64];omega
theorem sZ {w:World} {B R:Nat} {bs:List Int} (h:Rd w B R bs) (k:Nat) (h1:1≤k) (h6:k≤6) (hn:k≤bs.length) (hm:bs.length≤100000) (cu:bo bs) :
  Calls Tryz.prog 144 #[.pointer (some ⟨R,0,none⟩),.int .i64 k] w fun e w'=>e=.returned (.int .i64 (val (bs.take k):Nat))∧Rd w' B R (bs.drop k)∧Kept (fun i=>i=R) w w':=by
 have HH:=aa (oR h k h1 hn hm);have HY:=aa cu;clear h cu;go_enter Tryz.func144,Tryz.ntmps144;go_wp2_with fail;refine (FK _ k h1 h6).mono ?_;rintro e w' ⟨rfl,rfl⟩;go_wp2_with fail;refine HH.o.mono ?_;rintro e w1 ⟨v,rfl,ho,hr,hk⟩;obtain ⟨A,c,e2,hc,_⟩:=aH ho;subst e2;have HS:=aa (Sl.bz ho);have HF:=aa (And.intro hr hk);clear ho hr hk;go_wp2_with fail;go_loopw [16,6] (fun i s wr=>∃j:Nat,j≤k∧i=.int .i64 j∧s=.int .i64 (val (bs.take j):Nat)∧wr=w1) (fun i _ _=>k-(intOf i).toNat)
 case atStart=>exact ⟨0,by omega,rfl,by rw [List.take_zero];rfl,rfl⟩
 case round =>
  obtain ⟨j,hj,rfl,rfl,rfl⟩:=hrel;by_cases aK:j < k
  ·have dF:j < bs.length:=by omega
   obtain ⟨b,off,rfl,cy,fc⟩:=HS.o.2 (by omega);have hz:=HY.o bs[j] (List.getElem_mem dF);have c1:=fc j (.int .u8 bs[j]) (by rw [List.getElem?_take,if_pos aK];simp [dF]);have fQ:=tI bs j dF
   have wA:val (bs.take j) < 2 ^ 40:=by
    have h:=qU (bs.take j) fun y hy=>HY.o y (List.mem_of_mem_take hy);rw [fv,Nat.min_eq_left (by omega)] at h;exact Nat.lt_of_lt_of_le h (Nat.le_trans (Nat.pow_le_pow_right (by decide) (show j≤5 by omega)) (by decide))
   generalize hf:val (bs.take j)=f at *;have iq:bs[j]=((bs[j].toNat:Nat):Int):=by omega
   rw [iq] at c1;generalize Ed:bs[j].toNat=z at *;have pQ:z < 256:=by omega
   have i0:(0:Int)≤(j:Int):=by omega
   have i1:(j:Int) < (k:Int):=by omega
   have ho:=X8 f z (by omega) pQ;have kM:=aa fQ;have HZ:=aa iq;have HO:=aa ho;have HFL:=aa wA;clear fc fQ iq hz Ed hf ho wA;go_wp2_with fail;go_roundw
   case rel =>
    refine ⟨j+1,by omega,by go_num,?_,trivial⟩;have wA:=HFL.o;rw [show wrap64 ((f:Int)*256)=((f*256:Nat):Int) by unfold wrap64;omega,HO.o,kM.o]
   case measure=>simp [intOf];omega
  ·have dC:j=k:=by omega
   have cZ:¬(j:Int) < (k:Int):=by omega
   have HK:=aa dC;clear dC;go_wp2_with fail;go_ret;exact ⟨by rw [HK.o];rfl,HF.o⟩
end num
namespace image


open Go.RowKit Go.Deep base obj mem sep bw num bytes bf chain
theorem CZ {w:World} {B R:Nat} {bs:List Int} (h:Rd w B R bs) (n:Nat) (hn:val (bs.take 2)=n) (h1:1≤n) (h2:2+n≤bs.length) (hm:bs.length≤100000) (cu:bo bs) (nS:Int) (hl:(n:Int)≤nS) :
  Calls Tryz.prog 145 #[.pointer (some ⟨R,0,none⟩),.int .i64 nS] w fun e w'=>∃v,e=.returned v∧w'.ownsRow w.heap.size 5 1 v n (aP ((bs.drop 2).take n))∧Rd w' B R ((bs.drop 2).drop n)∧Kept (fun i=>i=R) w w':=by
 have HW:=aa (kd h);have HN:=aa (sZ h 2 (by omega) (by omega) (by omega) hm cu);obtain ⟨A,c,e,_⟩:=h.cell;have c0:w.cell? ⟨R,0,none⟩=some (.slice A bs.length c):=by simp [World.cell?,e]
 clear h e;go_enter Tryz.func145,Tryz.ntmps145;go_wp2_with fail;refine HW.o.mono ?_;rintro e w1 ⟨rfl,rfl⟩;go_wp2_with fail;refine HN.o.mono ?_;rintro e w2 ⟨rfl,hr,hk⟩;rw [hn];have dI:=aa hr;have oe:=aa hk;have iL:=aa (kd hr);have aO:=aa (oR hr n h1 (by rw [List.length_drop];omega) (by rw [List.length_drop];omega));have hng:¬nS < (n:Int):=by omega
 clear hr hk c0;go_wp2_with fail;refine iL.o.mono ?_;rintro e w3 ⟨rfl,rfl⟩;go_wp2_with fail;refine aO.o.mono ?_;rintro e w4 ⟨v,rfl,ho,s9,Mf⟩;have od:=aa s9;have Bf:=aa ho;have kb:=aa (kd s9);have HK4:=aa (oe.o.trans Mf (fun _ h=>h) (fun _ h _=>h));have iu:=oe.o.size;have lv:=aa iu;clear ho s9 Mf iu;go_wp2_with fail;refine kb.o.mono ?_;rintro e w5 ⟨rfl,rfl⟩;go_wp2_with fail;go_ret;refine ⟨_,rfl,?_,od.o,HK4.o⟩;have h:=Bf.o.mono lv.o;rw [←List.map_take] at h;exact h
theorem Wc {w:World} {B R:Nat} (h:Rd w B R []):Calls Tryz.prog 146 #[.pointer (some ⟨R,0,none⟩)] w fun e w'=>e=.returned (.int .i64 0)∧w'=w:=by
 obtain ⟨A,c,e,_⟩:=h.cell;have c0:w.cell? ⟨R,0,none⟩=some (.slice A 0 c):=by simp [World.cell?,e]
 have c1:w.cell? ⟨R,1,none⟩=some (.int .i64 0):=by simp [World.cell?,e]
 clear h e;go_enter Tryz.func146,Tryz.ntmps146;go_wp2_with fail;go_ret;exact ⟨rfl,rfl⟩
end image
namespace bytes

open Go.RowKit Go.Deep base obj mem bw
theorem str_inj (xs ys:List Int) (hx:bo xs) (hy:bo ys):((strOfNums xs).toList==(strOfNums ys).toList)=decide (xs=ys):=by
 rw [Bool.eq_iff_iff,decide_eq_true_iff,beq_iff_eq,Lib.strOfNums_toList,Lib.strOfNums_toList]
 constructor
 ·intro h;have e:xs.map (fun n=>UInt8.ofNat n.toNat)=ys.map (fun n=>UInt8.ofNat n.toNat):=h
  have back:∀zs:List Int,bo zs→(zs.map (fun n=>UInt8.ofNat n.toNat)).map (fun u=>((u.toNat:Nat):Int))=zs:=by
   intro zs hz;rw [List.map_map]
   conv=>rhs;rw [←List.map_id zs]
   apply List.map_congr_left;intro z h;have:=hz z h;simp [UInt8.toNat_ofNat'];omega
  rw [←back xs hx,←back ys hy,e]
 ·intro h;rw [h]
theorem Kt (w:World) (A:Option Addr) (n c:Nat) (xs:List Int) (hl:xs.length=n) (h0:0 < n) (hs:Sl w w.heap.size 1 A n (xs.map (.int .u8))):(convert 24 9 (.slice A n c)).run Tryz.prog w=.ok (.string (strOfNums xs)) w:=by
 obtain ⟨b,o,rfl,_,hc⟩:=hs.2 h0;refine run_convert_bytes_arg w 24 5 Tryz.underlying24 Tryz.underlying5 b o n c xs hl (fun i hi=>?_) 9 Tryz.underlying9;refine hc i _ ?_;have Az:i < xs.length:=by omega
 simp [Az]
theorem Dn (w:World) (A A':Option Addr) (n m c c':Nat) (xs ys:List Int) (hn:xs.length=n) (hm:ys.length=m) (h0:0 < n) (h1:0 < m) (hx:bo xs) (hy:bo ys) (hs:Sl w w.heap.size 1 A n (xs.map (.int .u8))) (ht:Sl w w.heap.size 1 A' m (ys.map (.int .u8))) :
  Calls Tryz.prog 98 #[.slice A n c,.slice A' m c'] w fun e w'=>e=.returned (.bool (decide (xs=ys)))∧w'=w:=by
 have e1:=Kt w A n c xs hn h0 hs;have e2:=Kt w A' m c' ys hm h1 ht;have e3:=aa (str_inj xs ys hx hy);clear hs ht hx hy;go_enter Tryz.func98,Tryz.ntmps98;go_wp2_with fail;go_ret;exact ⟨aE e3.out,rfl⟩
theorem uC (k:Nat) (hk:k≤1000000) (w:World):(Instr.makeSlice 24 (.int .i64 (k:Int)) (.int .i64 (k:Int))).run Tryz.prog w=.ok (.slice (some ⟨w.heap.size,0,none⟩) k k) (w.alloc (.cells (List.replicate k (Value.int .u8 0)).toArray 5)):=by
 rw [run_make_row' (P:=Tryz.prog) 24 5 (.int .u8 0) 1 Tryz.underlying24 NP rfl .i64 .i64 k (by omega) (by omega) w]
 congr 2
 congr 1
 apply Array.ext
 ·simp [madeCells]
 ·intro i h1 h2;simp [madeCells,Nat.mod_one]
end bytes
end Go.Proofs.YtdldkkoplgkloaaGreat
