/-
  PROVED HERE: lemmas that the law leans on.
  CONDITIONS: each names its own.
-/
import Derived.Deep.AppendLies
import Derived.Deep.RegionHeld3
import Derived.Lib.MinMax
import Derived.Test.YtdldkkoplgkloaaGreatPy0
import Derived.Test.YtdldkkoplgkloaaGreatPy1
import Derived.Test.YtdldkkoplgkloaaGreatPy14
namespace Go.Proofs.YtdldkkoplgkloaaGreat
set_option linter.unusedVariables false
set_option linter.unusedSimpArgs false
set_option maxRecDepth 100000
set_option maxHeartbeats 32000000
namespace bR


open Go.RowKit Go.Deep base obj mem sep bf num bytes bw chain image bK
section
variable {w : World} {a : en} {t : aQ} {p : Nat} {i : aw} {A : Option Addr} {c : Nat} {bu : Int}
def yq (n:Int) (m:Nat):Bool:=Go.bits .andNot .i64 n (m:Int)==0
theorem Ss (h:ma w a t) (hp:p < t.parts.length) (hr:t.right=true):Calls Tryz.prog 104 #[.agg (cY a t p i A c bu).toArray] w fun e w'=>e=.returned (.bool (yq i.aN (iI T3.a p t.au t.au.length)&&yq i.aB (iI T3.b p t.au t.au.length)))∧Below w.heap.size w w':=by
 obtain ⟨Z,hZ⟩:∃Z,Z=w.heap.size:=⟨_,rfl⟩
 obtain ⟨w1,aJ⟩:∃w1,w1=w.alloc (.cells (cY a t p i A c bu).toArray 172):=⟨_,rfl⟩
 have H1:=aa (show St w w1 [row Z 172 (cY a t p i A c bu)] by
  have h:=(St.nil w).new 172 (cY a t p i A c bu).toArray;rw [←hZ,←aJ] at h
  exact h)
 have HR:=aa (fun (w':World) (hb:Below w1.heap.size w1 w')=>vh (H1.o.row.1.below hb H1.o.row.1.lt));have HS:=aa (fun (w':World) (hb:Below w.heap.size w w')=>SH (h.over hb) hr hp);have pN:=aa (fun (w':World) (hb:Below w.heap.size w w')=>Lo (h.over hb) hr hp);simp only [en.val] at HS pN;have bq:=aa aJ;have HZ:=aa hZ;simp only [cY,T3.cells] at bq HR HS pN ⊢;generalize iI T3.a p t.au t.au.length=cs,iI T3.b p t.au t.au.length=cr at *;generalize t.parts.length=nP,t.aC.length=nW,t.au.length=nC,t.frame=fr,t.ay=tr,i.part=i0,i.version=i1,i.aY=i2,i.mem=i3,i.fuel=i4,i.aN=i5,i.aB=i6,i.code.length=i7 at *;clear aJ hZ h;obtain ⟨r0,r1,r2,r3,r4,r5,r6,r7,r8,r9,U0,UZ,UY,UX,UW,lZ⟩:=HR.o w1 (Below.refl _ _);go_enter Tryz.func104,Tryz.ntmps104;go_upto_region 1 with fail;rw [←bq.o,←HZ.o];go_wp2_with fail;have HW:=aa H1.o.aI;refine eh (fun w'=>w'.cell? ⟨Z,0,none⟩=some (.int .i64 fr)∧w'.cell? ⟨Z,1,none⟩=some (.slice a.AP nP a.cP)∧w'.cell? ⟨Z,2,none⟩=some (.slice a.AW nW a.cW)∧w'.cell? ⟨Z,3,none⟩=some (.slice a.AC nC a.cC)∧w'.cell? ⟨Z,4,none⟩=some (.int .i64 tr)∧w'.cell? ⟨Z,5,none⟩=some (.int .i64 p)∧w'.cell? ⟨Z,6,none⟩=some (.int .i64 i0)∧w'.cell? ⟨Z,7,none⟩=some (.int .i64 i1)∧w'.cell? ⟨Z,8,none⟩=some (.int .i64 i2)∧w'.cell? ⟨Z,9,none⟩=some (.int .i64 i3)∧w'.cell? ⟨Z,10,none⟩=some (.int .i64 i4)∧w'.cell? ⟨Z,11,none⟩=some (.int .i64 i5)∧w'.cell? ⟨Z,12,none⟩=some (.int .i64 i6)∧w'.cell? ⟨Z,13,none⟩=some (.slice A i7 c)∧w'.cell? ⟨Z,14,none⟩=some (.int .i64 bu)∧Z < w'.heap.size) (by kernel_rfl) (HR.o w1.drew (Below.refl w1.heap.size w1).drew) (fun bQ=>?_);(refine ai 0 ?_;(try simp only [af,ae,ah,Act.put,aq,ak,ao]));(refine ai 1 ?_;(try simp only [af,ae,ah,Act.put,aq,ak,ao]));(refine ai 2 ?_;(try simp only [af,ae,ah,Act.put,aq,ak,ao]));(refine ai 3 ?_;(try simp only [af,ae,ah,Act.put,aq,ak,ao]));(refine ai 4 ?_;(try simp only [af,ae,ah,Act.put,aq,ak,ao]));(refine ai 5 ?_;(try simp only [af,ae,ah,Act.put,aq,ak,ao]));(refine ai 6 ?_;(try simp only [af,ae,ah,Act.put,aq,ak,ao]));(refine dV 7 ?_;(try simp only [af,ae,ah]);go_simp);refine (HS.o w1.drew HW.o.drew).mono ?_;rintro e w2 ⟨rfl,hb⟩;have rO:=aa (((Below.refl w1.heap.size w1).drew).trans (hb.mono ((Below.refl w1.heap.size w1).drew).size));clear hb;dsimp only;(refine cG (HR.o w2 rO.o) (fun bQ=>?_);(try simp only [af,ae,ah,Act.put,aq,ak,ao]));obtain ⟨x,hx⟩:∃x,x=Go.bits .andNot .i64 i5 (cs:Int):=⟨_,rfl⟩
 by_cases h0:x=0
 ·have e0:(x==0)=true:=by simpa using h0
  have e1:(Go.bits .andNot .i64 i5 (cs:Int)==0)=true:=by rw [←hx];exact e0
  have E1:=aa (show yq i5 cs=true from e1);clear h0 hx;(refine ai 8 ?_;(try simp only [af,ae,ah,Act.put,aq,ak,ao]));(refine ai 9 ?_;(try simp only [af,ae,ah,Act.put,aq,ak,ao]));(refine ai 10 ?_;(try simp only [af,ae,ah,Act.put,aq,ak,ao]));(refine ai 11 ?_;(try simp only [af,ae,ah,Act.put,aq,ak,ao]));(refine ai 12 ?_;(try simp only [af,ae,ah,Act.put,aq,ak,ao]));(refine ai 13 ?_;(try simp only [af,ae,ah,Act.put,aq,ak,ao]));(refine ai 14 ?_;(try simp only [af,ae,ah,Act.put,aq,ak,ao]));(refine ai 15 ?_;(try simp only [af,ae,ah,Act.put,aq,ak,ao]));(refine ai 16 ?_;(try simp only [af,ae,ah,Act.put,aq,ak,ao]));(refine ai 17 ?_;(try simp only [af,ae,ah,Act.put,aq,ak,ao]));(refine dV 18 ?_;(try simp only [af,ae,ah]);go_simp);refine (pN.o w2 (HW.o.trans (rO.o.mono HW.o.size))).mono ?_;rintro e w3 ⟨rfl,hb⟩;have Le:=aa ((rO.o).trans (hb.mono (rO.o).size));clear hb;dsimp only;(refine cG (HR.o w3 Le.o) (fun bQ=>?_);(try simp only [af,ae,ah,Act.put,aq,ak,ao]));(refine ai 19 ?_;(try simp only [af,ae,ah,Act.put,aq,ak,ao]));(refine ai 20 ?_;(try simp only [af,ae,ah,Act.put,aq,ak,ao]));(refine ai 21 ?_;(try simp only [af,ae,ah,Act.put,aq,ak,ao]));(refine ai 22 ?_;(try simp only [af,ae,ah,Act.put,aq,ak,ao]));refine dW (by kernel_rfl) ?_;go_wp2_with fail;go_ret;exact ⟨aE (by rw [E1.o];rfl),HW.o.trans (Le.o.mono HW.o.size)⟩
 ·have e0:(x==0)=false:=by simpa using h0
  have e1:(Go.bits .andNot .i64 i5 (cs:Int)==0)=false:=by rw [←hx];exact e0
  have E1:=aa (show yq i5 cs=false from e1);clear h0 hx;(refine ai 8 ?_;(try simp only [af,ae,ah,Act.put,aq,ak,ao]));(refine ai 9 ?_;(try simp only [af,ae,ah,Act.put,aq,ak,ao]));(refine ai 10 ?_;(try simp only [af,ae,ah,Act.put,aq,ak,ao]));(refine bT 11 (by kernel_rfl) (fun _ _ _ _ _ h=>h) (by rfl) (by assumption) ?_;(try simp only [af,ae,ah,Act.put,aq,ak,ao]));(refine bT 12 (by kernel_rfl) (fun _ _ _ _ _ h=>h) (by rfl) (by assumption) ?_;(try simp only [af,ae,ah,Act.put,aq,ak,ao]));(refine bT 13 (by kernel_rfl) (fun _ _ _ _ _ h=>h) (by rfl) (by assumption) ?_;(try simp only [af,ae,ah,Act.put,aq,ak,ao]));(refine bT 14 (by kernel_rfl) (fun _ _ _ _ _ h=>h) (by rfl) (by assumption) ?_;(try simp only [af,ae,ah,Act.put,aq,ak,ao]));(refine bT 15 (by kernel_rfl) (fun _ _ _ _ _ h=>h) (by rfl) (by assumption) ?_;(try simp only [af,ae,ah,Act.put,aq,ak,ao]));(refine bT 16 (by kernel_rfl) (fun _ _ _ _ _ h=>h) (by rfl) (by assumption) ?_;(try simp only [af,ae,ah,Act.put,aq,ak,ao]));(refine bT 17 (by kernel_rfl) (fun _ _ _ _ _ h=>h) (by rfl) (by assumption) ?_;(try simp only [af,ae,ah,Act.put,aq,ak,ao]));(refine bT 18 (by kernel_rfl) (fun _ _ _ _ _ h=>h) (by rfl) (by assumption) ?_;(try simp only [af,ae,ah,Act.put,aq,ak,ao]));(refine bT 19 (by kernel_rfl) (fun _ _ _ _ _ h=>h) (by rfl) (by assumption) ?_;(try simp only [af,ae,ah,Act.put,aq,ak,ao]));(refine bT 20 (by kernel_rfl) (fun _ _ _ _ _ h=>h) (by rfl) (by assumption) ?_;(try simp only [af,ae,ah,Act.put,aq,ak,ao]));(refine ai 21 ?_;(try simp only [af,ae,ah,Act.put,aq,ak,ao]));(refine ai 22 ?_;(try simp only [af,ae,ah,Act.put,aq,ak,ao]));refine dW (by kernel_rfl) ?_;go_wp2_with fail;go_ret;exact ⟨aE (by rw [E1.o];rfl),HW.o.trans (rO.o.mono HW.o.size)⟩
def partAt (t:aQ) (p:Nat):T3:=t.parts.getD p ⟨0,0,0⟩
def fE (t:aQ) (p:Nat) (i:aw) (bu:Int):Nat→Bool
 | 0=>decide (i.part=p∧i.aY=(partAt t p).c)
 | 1=>decide (i.mem≤(partAt t p).a∧i.fuel≤(partAt t p).b)
 | 2=>yq i.aN (iI T3.a p t.au t.au.length)&&yq i.aB (iI T3.b p t.au t.au.length)
 | _=>decide (bu < i.version)
def Kw (j:Nat):Nat:=[102,103,104,105].getD j 0
def FR (j:Nat):Int:=[12,14,15,13].getD j 0
def nr (t:aQ) (p:Nat) (i:aw) (bu:Int):Nat→Int
 | 0=>0
 | k+1=>if fE t p i bu (3-k) then nr t p i bu k else FR (3-k)
def bX (t:aQ) (p:Int) (i:aw) (bu:Int):Int :=
 if t.right=false then 9 else if ¬(0≤p∧p < t.parts.length)∨¬i.right then 3 else nr t p.toNat i bu 4
theorem Zg (h:ma w a t) (hr:t.right=true) (hp:p < t.parts.length) (j:Nat) (hj:j < 4):Calls Tryz.prog (Kw j) #[.agg (cY a t p i A c bu).toArray] w fun e w'=>e=.returned (.bool (fE t p i bu j))∧Below w.heap.size w w':=by
 have hg:partAt t p=t.parts[p]:=by simp [partAt,hp]
 rcases (by omega:j=0∨j=1∨j=2∨j=3) with rfl|rfl|rfl|rfl
 ·rw [fE,hg];exact Wy h hp
 ·rw [fE,hg];exact SF h hp
 ·exact Ss h hp hr
 ·exact Th h hp
theorem Xl (j:Nat) (hj:j < 4) (w:World):(Instr.index 175 (.agg #[.func (Fn.func 102) #[] #[],.int .i64 12,.func (Fn.func 103) #[] #[],.int .i64 14,.func (Fn.func 104) #[] #[],.int .i64 15,.func (Fn.func 105) #[] #[],.int .i64 13]) (.int .i64 (j:Int))).run Tryz.prog w=.ok (.agg #[.func (Fn.func (Kw j)) #[] #[],.int .i64 (FR j)]) w:=by
 rcases (by omega:j=0∨j=1∨j=2∨j=3) with rfl|rfl|rfl|rfl
 ·kernel_rfl
 ·kernel_rfl
 ·kernel_rfl
 ·kernel_rfl
theorem Xm (j:Nat) (hj:j < 4) (x:Array Value) (w:World):(callFunc (Kw j) #[.agg x]).run Tryz.prog w=.ok (.enter (Kw j) #[.agg x]) w:=by
 rcases (by omega:j=0∨j=1∨j=2∨j=3) with rfl|rfl|rfl|rfl
 ·kernel_rfl
 ·kernel_rfl
 ·kernel_rfl
 ·kernel_rfl
theorem Hc {k:Nat} (hk:k≤4) (h:∀j,4-k≤j→j < 4→fE t p i bu j=true):nr t p i bu k=0:=by
 induction k with
 | zero=>rfl
 | succ k ih =>
   rw [nr,if_pos (h _ (by omega) (by omega))];exact ih (by omega) fun j h1 h2=>h j (by omega) h2
theorem Ds {j:Nat} (hj:j < 4) (h:∀k,k < j→fE t p i bu k=true) (hn:fE t p i bu j=false):∀k,4-k≤j→k≤4→nr t p i bu k=FR j
 | 0,h1,_=>by omega
 | k+1,h1,h2=>by
   rw [nr];by_cases he:3-k=j
   ·rw [he,hn];rfl
   ·rw [if_pos (h _ (by omega))];exact Ds hj h hn k (by omega) (by omega)
theorem Dt (h:ma w a t) (q:Int) (hc:i.code.length≤9223372036854775807):Calls Tryz.prog 55 #[a.val t,.int .i64 q,i.val A c,.int .i64 bu] w fun e w'=>e=.returned (.int .i64 (bX t q i bu))∧Below w.heap.size w w':=by
 have ez:=aa (fun w' (hb:Below w.heap.size w w')=>ft (h.over hb));have pP:=aa (fun w' (hb:Below w.heap.size w w')=>AE (h.over hb) q);have wN:=aa (fun w'=>image.ft w' i A c hc);have mj:=aa (fun (w':World) (hb:Below w.heap.size w w') (hr:t.right=true) (p:Nat) (hp:p < t.parts.length) (j:Nat) (hj:j < 4)=>Zg (p:=p) (i:=i) (A:=A) (c:=c) (bu:=bu) (h.over hb) hr hp j hj);obtain ⟨Z,hZ⟩:∃Z,Z=w.heap.size:=⟨_,rfl⟩
 obtain ⟨w1,aJ⟩:∃w1,w1=(w.alloc (.cells #[.int .i64 t.frame,.slice a.AP t.parts.length a.cP,.slice a.AW t.aC.length a.cW,.slice a.AC t.au.length a.cC,.int .i64 t.ay] 46)).alloc (.cells #[.int .i64 i.part,.int .i64 i.version,.int .i64 i.aY,.int .i64 i.mem,.int .i64 i.fuel,.int .i64 i.aN,.int .i64 i.aB,.slice A i.code.length c] 26):=⟨_,rfl⟩
 have H1:=aa (show St w w1 [row Z 46 [.int .i64 t.frame,.slice a.AP t.parts.length a.cP,.slice a.AW t.aC.length a.cW,.slice a.AC t.au.length a.cC,.int .i64 t.ay],row (Z+1) 26 [.int .i64 i.part,.int .i64 i.version,.int .i64 i.aY,.int .i64 i.mem,.int .i64 i.fuel,.int .i64 i.aN,.int .i64 i.aB,.slice A i.code.length c]] by
  have h:=((St.nil w).new 46 #[.int .i64 t.frame,.slice a.AP t.parts.length a.cP,.slice a.AW t.aC.length a.cW,.slice a.AC t.au.length a.cC,.int .i64 t.ay]).new 26 #[.int .i64 i.part,.int .i64 i.version,.int .i64 i.aY,.int .i64 i.mem,.int .i64 i.fuel,.int .i64 i.aN,.int .i64 i.aB,.slice A i.code.length c];rw [show (w.alloc (.cells #[.int .i64 t.frame,.slice a.AP t.parts.length a.cP,.slice a.AW t.aC.length a.cW,.slice a.AC t.au.length a.cC,.int .i64 t.ay] 46)).heap.size=Z+1 by rw [hZ];exact Array.size_push _,←hZ,←aJ] at h
  exact h.swap)
 have bq:=aa aJ;have HZ:=aa hZ;have HL:=aa (show bX t q i bu=if t.right=false then 9 else if ¬(0≤q∧q < t.parts.length)∨¬i.right then 3 else nr t q.toNat i bu 4 from rfl);obtain ⟨L,hL⟩:∃L,L=bX t q i bu:=⟨_,rfl⟩
 rw [←hL] at HL ⊢;simp only [en.val,aw.val,cY] at bq pP wN mj ⊢;obtain ⟨nP,oE⟩:∃v,v=t.parts.length:=⟨_,rfl⟩
 obtain ⟨rr,nX⟩:∃v,v=t.right:=⟨_,rfl⟩
 obtain ⟨ir,wh⟩:∃v:Bool,v=decide i.right:=⟨_,rfl⟩
 obtain ⟨ck,jF⟩:∃v,v=fE t q.toNat i bu:=⟨_,rfl⟩
 have Ht:=aa (fun (j:Nat) (hj:j < 4) (h:∀k,k < j→ck k=true) (hn:ck j=false)=>show nr t q.toNat i bu 4=FR j from Ds hj (by rw [←jF];exact h) (by rw [←jF];exact hn) 4 (by omega) (by omega));have mf:=aa (fun (h:∀k,k < 4→ck k=true)=>show nr t q.toNat i bu 4=0 from Hc (by omega) (by rw [←jF];exact fun j _ hj=>h j hj));have Dz:=aa (show i.right ↔ ir=true by rw [wh];simp);rw [←nX] at ez HL mj;rw [←wh] at wN;simp only [←oE] at ez pP wN mj HL H1 bq ⊢
 have FV:=aa (fun (w':World) (hb:Below w.heap.size w w') (hr:rr=true) (h0:0≤q) (h1:q < nP) (j:Nat) (hj:j < 4)=>by
  have hh:=mj.o w' hb hr q.toNat (by omega) j hj;rw [←jF,show ((q.toNat:Nat):Int)=q by omega] at hh
  exact hh)
 clear mj;generalize t.aC.length=nW,t.au.length=nC,t.frame=fr,t.ay=tr,i.part=i0,i.version=i1,i.aY=i2,i.mem=i3,i.fuel=i4,i.aN=i5,i.aB=i6,i.code.length=i7,nr t q.toNat i bu 4=L4 at *;clear aJ hZ h hL oE nX wh jF;have lA:=aa (fun (w':World) (hb:Below w1.heap.size w1 w')=>H1.o.row.1.below hb H1.o.row.1.lt);have mi:=aa (fun (w':World) (hb:Below w1.heap.size w1 w')=>H1.o.swap.row.1.below hb H1.o.swap.row.1.lt)
 have rows:∀w',Below w1.heap.size w1 w'→(w'.cell? ⟨Z,0,none⟩=some (.int .i64 fr)∧w'.cell? ⟨Z,1,none⟩=some (.slice a.AP nP a.cP)∧w'.cell? ⟨Z,2,none⟩=some (.slice a.AW nW a.cW)∧w'.cell? ⟨Z,3,none⟩=some (.slice a.AC nC a.cC)∧w'.cell? ⟨Z,4,none⟩=some (.int .i64 tr)∧Z < w'.heap.size)∧
   (w'.cell? ⟨Z+1,0,none⟩=some (.int .i64 i0)∧w'.cell? ⟨Z+1,1,none⟩=some (.int .i64 i1)∧w'.cell? ⟨Z+1,2,none⟩=some (.int .i64 i2)∧w'.cell? ⟨Z+1,3,none⟩=some (.int .i64 i3)∧w'.cell? ⟨Z+1,4,none⟩=some (.int .i64 i4)∧w'.cell? ⟨Z+1,5,none⟩=some (.int .i64 i5)∧w'.cell? ⟨Z+1,6,none⟩=some (.int .i64 i6)∧w'.cell? ⟨Z+1,7,none⟩=some (.slice A i7 c)∧Z+1 < w'.heap.size) :=
  fun w' hb=>⟨⟨(lA.o w' hb).cell 0,(lA.o w' hb).cell 1,(lA.o w' hb).cell 2,(lA.o w' hb).cell 3,(lA.o w' hb).cell 4,(lA.o w' hb).lt⟩,
   (mi.o w' hb).cell 0,(mi.o w' hb).cell 1,(mi.o w' hb).cell 2,(mi.o w' hb).cell 3,(mi.o w' hb).cell 4,(mi.o w' hb).cell 5,(mi.o w' hb).cell 6,(mi.o w' hb).cell 7,(mi.o w' hb).lt⟩
 have dO:=aa rows;have bn:=aa H1.o.aI;clear rows H1 lA mi;obtain ⟨⟨t0,t1,t2,t3,t4,lZ⟩,u0,u1,u2,u3,u4,u5,u6,u7,lY⟩:=dO.o w1 (Below.refl _ _);go_enter Tryz.func55,Tryz.ntmps55;go_upto_region 1 with fail;rw [←bq.o,←HZ.o];go_wp2_with fail;refine (ez.o w1 bn.o).mono ?_;rintro e w2 ⟨rfl,bN⟩;have aO:=aa bN;clear t0 t1 t2 t3 t4 lZ u0 u1 u2 u3 u4 u5 u6 u7 lY bN;obtain ⟨⟨t0,t1,t2,t3,t4,lZ⟩,u0,u1,u2,u3,u4,u5,u6,u7,lY⟩:=dO.o w2 aO.o;have FW:=aa (bn.o.trans (aO.o.mono bn.o.size));cases rr with
 | false =>
   go_wp2_with fail;go_ret;exact ⟨bt (by rw [HL.o];rfl),FW.o⟩
 | true =>
   go_wp2_with fail;refine (pP.o w2 FW.o).mono ?_;rintro e w3 ⟨rfl,mJ⟩;have bD:=aa (aO.o.trans (mJ.mono aO.o.size));clear t0 t1 t2 t3 t4 lZ u0 u1 u2 u3 u4 u5 u6 u7 lY mJ;obtain ⟨⟨t0,t1,t2,t3,t4,lZ⟩,u0,u1,u2,u3,u4,u5,u6,u7,lY⟩:=dO.o w3 bD.o;have abV:=aa (bn.o.trans (bD.o.mono bn.o.size));by_cases hq:0≤q∧q < (nP:Int)
   ·rw [decide_eq_true hq];have HQ:=aa hq;clear hq;go_wp2_with fail;refine (wN.o w3).mono ?_;rintro e w4 ⟨rfl,oH⟩;have eV:=aa (bD.o.trans (oH.mono bD.o.size));clear t0 t1 t2 t3 t4 lZ u0 u1 u2 u3 u4 u5 u6 u7 lY oH;obtain ⟨⟨t0,t1,t2,t3,t4,lZ⟩,u0,u1,u2,u3,u4,u5,u6,u7,lY⟩:=dO.o w4 eV.o;have zf:=aa (bn.o.trans (eV.o.mono bn.o.size));cases ir with
    | false =>
      go_wp2_with fail;go_ret;exact ⟨bt (by rw [HL.o,if_neg (by simp),if_pos (.inr (by rw [Dz.o];simp))]),zf.o⟩
    | true =>
      have rW:=aa (show L=L4 by rw [HL.o,if_neg (by simp),if_neg (by rw [Dz.o];simp;exact HQ.o)]);go_wp2_with fail;go_loopw [30] (fun x wr=>∃j:Nat,j≤4∧x=.int .i64 j∧Below w1.heap.size w1 wr∧∀k,k < j→ck k=true) (fun x _=>4-(intOf x).toNat)
      case atStart=>exact ⟨0,by omega,rfl,eV.o,fun k hk=>absurd hk (by omega)⟩
      case round =>
       obtain ⟨j,hj,rfl,pU,cN⟩:=hrel;have dv:=aa pU;have tG:=aa cN;clear t0 t1 t2 t3 t4 lZ u0 u1 u2 u3 u4 u5 u6 u7 lY pU cN;by_cases aK:j < 4
       ·obtain ⟨⟨t0,t1,t2,t3,t4,lZ⟩,u0,u1,u2,u3,u4,u5,u6,u7,lY⟩:=dO.o wr dv.o;have Mg:=Xl j aK;have oG:=Xm j aK;have HC:=aa (fun w' hb=>FV.o w' hb trivial HQ.o.1 HQ.o.2 j aK);have HTJ:=aa (fun h=>Ht.o j aK tG.o h);generalize Kw j=F at *;generalize FR j=E at *;obtain ⟨cj,hcj⟩:∃v,v=ck j:=⟨_,rfl⟩
        rw [←hcj] at HC HTJ;have MW:=aa hcj;obtain ⟨y,hy⟩:∃y,y=wr.heap.size:=⟨_,rfl⟩
        obtain ⟨wa,Ef⟩:∃v,v=wr.alloc (.cells #[.nilFunc,.int .i64 0] 174):=⟨_,rfl⟩
        have pJ:Row wa y 174 [.nilFunc,.int .i64 0]:=by rw [Ef,hy];exact Row.new wr _ _
        have xR:Below w1.heap.size w1 wa:=by rw [Ef];exact dv.o.trans (((Below.refl wr.heap.size wr).alloc (Nat.le_refl _) _).mono dv.o.size)
        have ru:w1.heap.size≤y:=by rw [hy];exact dv.o.size
        have EX:=aa pJ;have tF:=aa xR;have EP:=aa ru;have HY:=aa hy;have HWA:=aa Ef;have k1:(j:Int) < 4:=by omega
        clear hcj xR pJ ru hy Ef;go_upto_region 8 with (rw [←HWA.o,←HY.o];refine aF rfl 174 (.tmp 10) (.tmp 32) rfl y 0 #[.func (Fn.func F) #[] #[],.int .i64 E] rfl rfl EX.o (by kernel_rfl) (by simp) (by simp [Value.oneCell']) [.func (Fn.func F) #[] #[],.int .i64 E] (by simp) ?_)
        obtain ⟨wb,zn⟩:∃v,v=wa.setRow y #[.func (Fn.func F) #[] #[],.int .i64 E]:=⟨_,rfl⟩
        have Gy:Row wb y 174 [.func (Fn.func F) #[] #[],.int .i64 E]:=by rw [zn];exact EX.o.setRow _
        have mH:Below w1.heap.size w1 wb:=by rw [zn];exact dN tF.o EP.o _
        rw [←zn];have CN:=aa mH;have HRB:=aa Gy;have z0:wb.cell? ⟨y,0,none⟩=some (.func (Fn.func F) #[] #[]):=Gy.cell 0;have lz:=Gy.lt;clear t0 t1 t2 t3 t4 lZ u0 u1 u2 u3 u4 u5 u6 u7 lY Gy mH zn;obtain ⟨⟨t0,t1,t2,t3,t4,lZ⟩,u0,u1,u2,u3,u4,u5,u6,u7,lY⟩:=dO.o wb CN.o;go_wp2_with fail;refine (HC.o _ (bn.o.trans (CN.o.mono bn.o.size))).mono ?_;rintro e w5 ⟨rfl,jG⟩;have nL:=aa (CN.o.trans (jG.mono CN.o.size));have aZ:=HRB.o.below jG HRB.o.lt;clear z0 lz;have z1:w5.cell? ⟨y,1,none⟩=some (.int .i64 E):=aZ.cell 1;have lz:=aZ.lt;clear t0 t1 t2 t3 t4 lZ u0 u1 u2 u3 u4 u5 u6 u7 lY jG Mg oG aZ;cases cj with
        | true =>
          go_wp2_with fail;go_roundw
          case rel =>
           refine ⟨j+1,by omega,by go_num,nL.o,fun k hk=>?_⟩;by_cases xM:k=j
           ·rw [xM];exact MW.o.symm
           ·exact tG.o k (by omega)
          case measure=>simp [intOf];omega
        | false =>
          go_wp2_with fail;go_ret;exact ⟨bt (by rw [rW.o,HTJ.o trivial]),bn.o.trans (nL.o.mono bn.o.size)⟩
       ·have tT:j=4:=by omega
        have HL4:=aa (mf.o (by rw [←tT];exact tG.o));have k1:¬(j:Int) < 4:=by omega
        clear tT;go_wp2_with fail;go_ret;exact ⟨bt (by rw [rW.o,HL4.o]),bn.o.trans (dv.o.mono bn.o.size)⟩
   ·rw [decide_eq_false hq];have HQ:=aa hq;clear hq;go_wp2_with fail;go_ret;exact ⟨bt (by rw [HL.o,if_neg (by simp),if_pos (.inl HQ.o)]),abV.o⟩
end
end bR
namespace bk

structure DS where
 az:List (List Int)
 waits:List (Nat×List Int)
 kQ:Int
 down:Bool
def aV (s:List Int):List Value:=s.map (.int .u8)
def aX (p:Nat×List Int):List Value:=.int .i64 p.1::p.2.map (.int .u8)
structure DS.Good (m:DS):Prop where
 az:∀s∈m.az,s.length=64
 waits:∀p∈m.waits,p.1 < m.az.length∧p.2.length=64
 BP:-1≤m.kQ
 BO:m.kQ≤9223372036854775807
 n0:1≤m.az.length
 n1:m.az.length≤128
def rH (n:Int):Nat:=if n < 1 then 1 else if 128 < n then 128 else n.toNat
theorem Rq (n:Int):1≤rH n∧rH n≤128:=by unfold rH;split<;>(try split)<;>omega
def br:List Int:=List.replicate 64 0
def DS.new (n:Nat):DS:=⟨List.replicate n br,[],-1,false⟩
theorem DS.Jw {n:Nat} (h0:1≤n) (h1:n≤128):(DS.new n).Good:=by
 refine ⟨fun s hs=>?_,fun p hp=>absurd hp (by simp [DS.new]),by simp [DS.new],by simp [DS.new],by simpa [DS.new] using h0,by simpa [DS.new] using h1⟩;rw [(List.mem_replicate.1 hs).2];rfl
def DS.goes (m:DS):Bool:=!(m.down||m.kQ==0)
def DS.bH (m:DS):DS:=if m.down||m.kQ==0 then { m with down:=true } else { m with kQ:=max (m.kQ-1) (-1) }
theorem DS.nt {m:DS} (h:m.Good):m.bH.Good:=by
 have h0:=h.BP;have h1:=h.BO;unfold DS.bH;split
 ·exact ⟨h.az,h.waits,h0,h1,h.n0,h.n1⟩
 ·exact ⟨h.az,h.waits,by simp only;omega,by simp only;omega,h.n0,h.n1⟩
theorem DS.gL (m:DS):m.bH.az=m.az:=by unfold DS.bH;split<;>rfl
theorem DS.fk (m:DS):m.bH.waits=m.waits:=by unfold DS.bH;split<;>rfl
def DS.put (m:DS) (at_:Nat) (b:List Int):DS:={ m with waits:=m.waits++[(at_,b)] }
theorem DS.C5 {m:DS} (h:m.Good) {at_:Nat} {b:List Int} (h0:at_ < m.az.length) (h1:b.length=64):(m.put at_ b).Good:=by
 refine ⟨h.az,fun p hp=>?_,h.BP,h.BO,h.n0,h.n1⟩;simp only [DS.put,List.mem_append,List.mem_singleton] at hp;rcases hp with hp|rfl
 ·exact h.waits p hp
 ·exact ⟨h0,h1⟩
def DS.write (m:DS) (at_:Int) (b:List Int):Int×DS :=
 if at_ < 0∨m.az.length≤at_ then (3,m) else if b.length≠64 then (14,m) else if m.goes then (0,m.bH.put at_.toNat b) else (8,m.bH)
def jt (ws:List (Nat×List Int)) (s:List Int) (at_:Nat):Nat→List Int
 | 0=>s
 | k+1=>match ws[k]? with
   | some w=>if w.1=at_ then w.2 else jt ws s at_ k
   | none=>jt ws s at_ k
theorem Ae {ws:List (Nat×List Int)} {s:List Int} {at_ k:Nat} (h:k < ws.length) (e:ws[k].1=at_):jt ws s at_ (k+1)=ws[k].2:=by
 simp [jt,cM h,e]
theorem ui {ws:List (Nat×List Int)} {s:List Int} {at_ k:Nat} (h:k < ws.length) (e:ws[k].1≠at_):jt ws s at_ (k+1)=jt ws s at_ k:=by
 simp [jt,cM h,e]
theorem vM {ws:List (Nat×List Int)} {s:List Int} {at_:Nat} (hw:∀p∈ws,p.2.length=64) (hs:s.length=64):∀k,k≤ws.length→(jt ws s at_ k).length=64
 | 0,_=>hs
 | k+1,h=>by
   have ih:=vM (at_:=at_) hw hs k (by omega);by_cases e:(ws[k]'(by omega)).1=at_
   ·rw [Ae (by omega) e];exact hw _ (List.getElem_mem _)
   ·rw [ui (by omega) e];exact ih
def DS.now (m:DS) (at_:Nat):List Int:=jt m.waits (m.az.getD at_ []) at_ m.waits.length
def gK (p:Nat→Bool) (ws:List (Nat×List Int)) (s:List (List Int)):Nat→List (List Int)
 | 0=>s
 | k+1=>match ws[k]? with
   | some w=>if p k then (gK p ws s k).set w.1 w.2 else gK p ws s k
   | none=>gK p ws s k
theorem Ai {p:Nat→Bool} {ws:List (Nat×List Int)} {s:List (List Int)} {k:Nat} (h:k < ws.length) (e:p k=true):gK p ws s (k+1)=(gK p ws s k).set ws[k].1 ws[k].2:=by
 simp [gK,cM h,e]
theorem JD {p:Nat→Bool} {ws:List (Nat×List Int)} {s:List (List Int)} {k:Nat} (h:k < ws.length) (e:p k=false):gK p ws s (k+1)=gK p ws s k:=by
 simp [gK,cM h,e]
theorem jZ (p:Nat→Bool) (ws:List (Nat×List Int)) (s:List (List Int)):∀k,(gK p ws s k).length=s.length
 | 0=>rfl
 | k+1=>by
   have ih:=jZ p ws s k;rw [gK];split
   ·split
    ·rw [List.length_set,ih]
    ·exact ih
   ·exact ih
theorem Dg {p:Nat→Bool} {ws:List (Nat×List Int)} {s:List (List Int)} (hw:∀q∈ws,q.2.length=64) (hs:∀q∈s,q.length=64):∀k,∀q∈gK p ws s k,q.length=64
 | 0=>hs
 | k+1=>by
   have ih:=Dg (p:=p) hw hs k;intro q hq;rw [gK] at hq;split at hq
   ·rename_i w hw'
    split at hq
    ·rcases List.mem_or_eq_of_mem_set hq with h|h
     ·exact ih q h
     ·subst h;exact hw w (List.mem_of_getElem? hw')
    ·exact ih q hq
   ·exact ih q hq
def DS.lay (m:DS) (p:Nat→Bool):DS:={ m with az:=gK p m.waits m.az m.waits.length,waits:=[] }
theorem DS.Df {m:DS} (h:m.Good) (p:Nat→Bool):(m.lay p).Good:=by
 refine ⟨Dg (fun q hq=>(h.waits q hq).2) h.az _,fun q hq=>absurd hq (by simp [DS.lay]),h.BP,h.BO,?_,?_⟩
 ·show 1≤(gK _ _ _ _).length
  rw [jZ];exact h.n0
 ·show (gK _ _ _ _).length≤128
  rw [jZ];exact h.n1
def DS.flush (m:DS):Int×DS:=if m.goes then (0,m.bH.lay fun _=>true) else (8,m.bH)
def keeps (keep:Int) (i:Nat):Bool:=decide (i < 64)&&(keep / 2 ^ i % 2==1)
def DS.eD (m:DS) (keep:Int):DS:={ m.lay (keeps keep) with kQ:=-1,down:=false }
theorem DS.yB {m:DS} (h:m.Good) (keep:Int):(m.eD keep).Good:=by
 have g:=DS.Df h (keeps keep);exact ⟨g.az,g.waits,by simp [DS.eD],by simp [DS.eD],g.n0,g.n1⟩
def DS.py (m:DS) (n:Int):DS:=if m.down then m else { m with kQ:=max n (-1) }
theorem DS.Ja {m:DS} (h:m.Good) {n:Int} (hn:n≤9223372036854775807):(m.py n).Good:=by
 unfold DS.py;split
 ·exact h
 ·exact ⟨h.az,h.waits,by simp only;omega,by simp only;omega,h.n0,h.n1⟩
end bk
namespace bk

open Go.RowKit base obj mem
def Dy (F:Nat→Prop) (w w':World):Nat→Prop:=fun i=>F i∨(w.heap.size≤i∧i < w'.heap.size)
def jS (L:Nat) (wv:Value) (m:DS):List Value:=[.slice (some ⟨L,0,none⟩) m.az.length m.az.length,wv,.int .i64 m.kQ,.bool m.down]
structure dE (w:World) (F:Nat→Prop) (g L:Nat) (wv:Value) (m:DS):Prop where
 b8:m.Good
 mh:Row w g 135 (jS L wv m)
 laid:Row w L 137 (m.az.map aV).flatten
 own:w.ownsRow 0 139 65 wv m.waits.length (m.waits.map aX).flatten
 fg:F g
 fl:F L
 fw:∀k,wv.ownBlock=some k→F k
def hU (w:World) (F:Nat→Prop) (g:Nat) (m:DS):Prop:=∃L wv,dE w F g L wv m
section
variable {w w' : World} {F F' : Nat → Prop} {g L : Nat} {wv : Value} {m : DS}
theorem dE.more (h:dE w F g L wv m) (hF:∀i,F i→F' i):dE w F' g L wv m :=
 ⟨h.b8,h.mh,h.laid,h.own,hF _ h.fg,hF _ h.fl,fun k hk=>hF _ (h.fw k hk)⟩
theorem hU.more (h:hU w F g m) (hF:∀i,F i→F' i):hU w F' g m:=by
 obtain ⟨L,wv,h⟩:=h;exact ⟨L,wv,h.more hF⟩
theorem dE.kept (h:dE w F g L wv m) {S:Nat→Prop} (k:Kept S w w') (hS:∀i,F i→¬S i):dE w' F g L wv m :=
 ⟨h.b8,h.mh.kept k (hS _ h.fg),h.laid.kept k (hS _ h.fl),k.own h.own (fun i hi=>hS _ (h.fw i hi)),h.fg,h.fl,h.fw⟩
theorem hU.kept (h:hU w F g m) {S:Nat→Prop} (k:Kept S w w') (hS:∀i,F i→¬S i):hU w' F g m:=by
 obtain ⟨L,wv,h⟩:=h;exact ⟨L,wv,h.kept k hS⟩
theorem hU.below (h:hU w F g m) (k:Below w.heap.size w w'):hU w' F g m:=h.kept (Kept.ng k (fun _=>False)) (fun _ _ h=>h)
theorem dE.read (h:dE w F g L wv m):w.cell? ⟨g,0,none⟩=some (.slice (some ⟨L,0,none⟩) m.az.length m.az.length)∧w.cell? ⟨g,1,none⟩=some wv∧w.cell? ⟨g,2,none⟩=some (.int .i64 m.kQ)∧w.cell? ⟨g,3,none⟩=some (.bool m.down) :=
 ⟨h.mh.cell 0,h.mh.cell 1,h.mh.cell 2,h.mh.cell 3⟩
theorem dE.gl (h:dE w F g L wv m):g≠L:=h.mh.ne h.laid (by decide)
theorem dE.gw (h:dE w F g L wv m):wv.ownBlock≠some g:=by
 intro e;rcases h.own.2 with ⟨rfl,_⟩|⟨k,cap,cur,rfl,_,hk,_⟩
 ·simp [Value.ownBlock] at e
 ·simp only [Value.ownBlock,Option.some.injEq] at e;subst e;have:=h.mh;unfold Row at this;rw [hk] at this;injection this with this
  injection this with _ h2
  exact absurd h2 (by decide)
theorem dE.lw (h:dE w F g L wv m):wv.ownBlock≠some L:=by
 intro e;rcases h.own.2 with ⟨rfl,_⟩|⟨k,cap,cur,rfl,_,hk,_⟩
 ·simp [Value.ownBlock] at e
 ·simp only [Value.ownBlock,Option.some.injEq] at e;subst e;have:=h.laid;unfold Row at this;rw [hk] at this;injection this with this
  injection this with _ h2
  exact absurd h2 (by decide)
theorem dE.set (h:dE w F g L wv m) {m':DS} (k:Nat) (v:Value) (e:(jS L wv m).set k v=jS L wv m') (hg:m'.Good) (hs:m'.az=m.az) (hw:m'.waits=m.waits):dE (w.setCell ⟨g,k,none⟩ v) F g L wv m':=by
 refine ⟨hg,?_,?_,?_,h.fg,h.fl,h.fw⟩
 ·rw [←e];exact h.mh.setCell k v
 ·rw [hs];exact h.laid.dM (p:=⟨g,k,none⟩) (Ne.symm h.gl) v
 ·rw [hw];exact ownsRow_setCell_other h.own (a:=⟨g,k,none⟩) h.gw v
end
abbrev One (g:Nat):Nat→Prop:=fun i=>i=g
theorem Mv {w:World} {F:Nat→Prop} {g L:Nat} {wv:Value} {m:DS} (h:dE w F g L wv m):Calls Tryz.prog 40 #[.pointer (some ⟨g,0,none⟩)] w fun e w'=>e=.returned (.bool m.down)∧w=w':=by
 obtain ⟨c0,c1,c2,c3⟩:=h.read;go_enter Tryz.func40,Tryz.ntmps40;go_wp2_with fail;go_ret;exact ⟨rfl,rfl⟩
theorem Yg {w:World} {F:Nat→Prop} {g L:Nat} {wv:Value} {m:DS} (h:dE w F g L wv m):Calls Tryz.prog 35 #[.pointer (some ⟨g,0,none⟩)] w fun e w'=>e=.returned (.int .i64 m.az.length)∧w=w':=by
 obtain ⟨c0,c1,c2,c3⟩:=h.read;go_enter Tryz.func35,Tryz.ntmps35;go_wp2_with fail;go_ret;exact ⟨rfl,rfl⟩
theorem lK {w:World} {F:Nat→Prop} {g L:Nat} {wv:Value} {m:DS} (h:dE w F g L wv m) (i:Int):Calls Tryz.prog 73 #[.pointer (some ⟨g,0,none⟩),.int .i64 i] w fun e w'=>e=.returned (.int .i64 (if i < 0∨m.az.length≤i then 3 else 0))∧w=w':=by
 obtain ⟨c0,c1,c2,c3⟩:=h.read;by_cases h0:i < 0
 ·rw [if_pos (.inl h0)];go_enter Tryz.func73,Tryz.ntmps73;go_wp2_with fail;go_ret;exact ⟨rfl,rfl⟩
 ·by_cases h1:(m.az.length:Int)≤i
  ·rw [if_pos (.inr h1)];go_enter Tryz.func73,Tryz.ntmps73;go_wp2_with fail;go_ret;exact ⟨rfl,rfl⟩
  ·rw [if_neg (by omega)];go_enter Tryz.func73,Tryz.ntmps73;go_wp2_with fail;go_ret;exact ⟨rfl,rfl⟩
theorem Yk {g:Nat} {a w:World} (h:Kept (One g) a w) (k:Nat) (v:Value):Kept (One g) a (w.setCell ⟨g,k,none⟩ v):=h.setCell (p:=⟨g,k,none⟩) (Or.inl rfl) v
theorem MC {w:World} {F:Nat→Prop} {g L:Nat} {wv:Value} {m:DS} (h:dE w F g L wv m):Calls Tryz.prog 74 #[.pointer (some ⟨g,0,none⟩)] w fun e w'=>e=.returned (.bool m.goes)∧dE w' F g L wv m.bH∧Kept (One g) w w':=by
 obtain ⟨c0,c1,c2,c3⟩:=h.read;have f2:=h.mh.frozen 2;have f3:=h.mh.frozen 3;have g0:=h.b8.BP;have g1:=h.b8.BO;have H:=aa h;have HG:=aa (DS.nt h.b8);clear h;by_cases hz:m.kQ=0
 ·have hb:m.bH={ m with down:=true }:=by simp [DS.bH,hz]
  have u9:m.goes=false:=by simp [DS.goes,hz]
  have HB:=aa hb;rw [u9];have hz':(m.kQ==0)=true:=by simpa using hz
  clear hb u9 hz g0 g1;go_enter Tryz.func74,Tryz.ntmps74;go_wp2_with fail;go_ret;refine ⟨rfl,?_,Yk (Kept.refl _ _) 3 _⟩;rw [HB.o];rw [HB.o] at HG;exact H.o.set 3 _ rfl HG.o rfl rfl
 ·have hz':(m.kQ==0)=false:=by simpa using hz
  cases hd:m.down
  ·have hb:m.bH={ m with kQ:=max (m.kQ-1) (-1) }:=by simp [DS.bH,hz,hd]
   have u9:m.goes=true:=by simp [DS.goes,hz,hd]
   have HB:=aa hb;rw [u9];rw [hd] at c3;clear hb u9 hz hd;go_enter Tryz.func74,Tryz.ntmps74;go_wp2_with fail;go_ret;refine ⟨rfl,?_,Yk (Kept.refl _ _) 2 _⟩;rw [HB.o];rw [HB.o] at HG;exact H.o.set 2 _ rfl HG.o rfl rfl
  ·have hb:m.bH=m:=by
    simp only [DS.bH,hd,Bool.true_or,if_true];rw [←hd]
   have u9:m.goes=false:=by simp [DS.goes,hd]
   have HB:=aa hb;rw [u9];rw [hd] at c3;clear hb u9 hz hd g0 g1;go_enter Tryz.func74,Tryz.ntmps74;go_wp2_with fail;go_ret;refine ⟨rfl,?_,Kept.refl _ _⟩;rw [HB.o];exact H.o
end bk
namespace bk

open Go.RowKit base obj mem
def sf:Array Value:=Array.replicate 64 (.int .u8 0)
def gz (at_:Int):Array Value:=⟨.int .i64 at_::List.replicate 64 (.int .u8 0)⟩
theorem WT:(Tryz.prog.info? 137).map (fun i=>(i.zero,i.size,i.bytes))=some (some (.agg sf),64,64):=by kernel_rfl
theorem Tu:(Tryz.prog.info? 139).map (fun i=>(i.zero,i.size,i.bytes))=some (some (.agg (gz 0)),65,72):=by kernel_rfl
theorem Pr:pX Tryz.prog 133 139 65 72:=by
 obtain ⟨i0,hi,j8,mF,iq⟩:=info_parts Tu;exact ⟨Tryz.underlying133,⟨i0,_,hi,j8,mF,iq,rfl⟩,by decide⟩
theorem MZ (n:Nat):(madeCells sf (n*64)).toList=((List.replicate n br).map aV).flatten:=by
 rw [zk (v:=.int .u8 0) (by decide) (by simp [sf]),List.map_replicate];have:aV br=List.replicate 64 (.int .u8 0):=by simp [aV,br]
 rw [this,List.flatten_replicate_replicate]
def uB (k:Nat):Array Value:=madeCells sf (k*64)
theorem Wv (w:World) (k:Nat) (h0:1≤k) (h1:k≤128):hU ((w.alloc (.cells (uB k) 137)).alloc (.cells #[.slice (some ⟨w.heap.size,0,none⟩) k k,.slice none 0 0,.int .i64 (-1),.bool false] 135)) (Dy (fun _=>False) w ((w.alloc (.cells (uB k) 137)).alloc (.cells #[.slice (some ⟨w.heap.size,0,none⟩) k k,.slice none 0 0,.int .i64 (-1),.bool false] 135))) (w.heap.size+1) (DS.new k):=by
 refine ⟨w.heap.size,.slice none 0 0,DS.Jw h0 h1,?_,?_,World.ownsRow_nil _ _ _ _,.inr (by simp),.inr (by simp;omega),fun k hk=>by simp [Value.ownBlock] at hk⟩
 ·have:=Row.new (w.alloc (.cells (uB k) 137)) 135 #[.slice (some ⟨w.heap.size,0,none⟩) k k,.slice none 0 0,.int .i64 (-1),.bool false];simpa [jS,DS.new] using this
 ·refine Row.alloc ?_ _;have:=Row.new w 137 (uB k);rw [uB,MZ] at this;exact this
theorem Wx (n:Int) (w:World):Calls Tryz.prog 26 #[.int .i64 n] w fun e w'=>∃g,e=.returned (.pointer (some ⟨g,0,none⟩))∧w.heap.size≤g∧hU w' (Dy (fun _=>False) w w') g (DS.new (rH n))∧Below w.heap.size w w':=by
 obtain ⟨i0,hi,j8,mF,iq⟩:=info_parts WT;have cb:=Rq n
 have pL:∀(k:Nat) (v:Int),v=k→k≤128→∀w:World,(Instr.makeSlice 132 (.int .i64 v) (.int .i64 v)).run Tryz.prog w=.ok (.slice (some ⟨w.heap.size,0,none⟩) k k) (w.alloc (.cells (uB k) 137)):=by
  intro k v hv hk w;subst hv;have:=zi (P:=Tryz.prog) 132 137 i0 _ Tryz.underlying132 hi j8 .i64 .i64 k k (Nat.le_refl _) (by rw [iq];omega) (by omega) w;rw [mF] at this;exact this
 have HM:=aa pL;clear pL hi j8 mF iq;have aI:∀a b:Obj,Below w.heap.size w ((w.alloc a).alloc b):=fun a b=>((Below.refl _ _).alloc (Nat.le_refl _) _).alloc (by simp) _;have BEL:=aa aI;clear aI;have pL:=HM.o (rH n) (min (max n 1) 128) (by unfold rH;split<;>(try split)<;>omega) cb.2;have CB:=aa cb;clear cb HM;go_enter Tryz.func26,Tryz.ntmps26;go_wp2_with fail;go_ret;exact ⟨w.heap.size+1,rfl,by omega,Wv w _ CB.o.1 CB.o.2,BEL.o _ _⟩
end bk
end Go.Proofs.YtdldkkoplgkloaaGreat
