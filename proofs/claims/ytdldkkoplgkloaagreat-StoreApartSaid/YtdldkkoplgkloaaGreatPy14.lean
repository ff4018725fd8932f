/-
  PROVED HERE: lemmas that the law leans on.
  CONDITIONS: each names its own.
-/
import Derived.Test.YtdldkkoplgkloaaGreatPy0
import Derived.Test.YtdldkkoplgkloaaGreatPy13
namespace Go.Proofs.YtdldkkoplgkloaaGreat
set_option linter.unusedVariables false
set_option linter.unusedSimpArgs false
set_option maxRecDepth 100000
set_option maxHeartbeats 32000000
namespace bR


open Go.RowKit Go.Deep base obj mem sep bf num bytes bw chain image bK
def cY (a:en) (t:aQ) (p:Int) (i:aw) (A:Option Addr) (c:Nat) (bu:Int):List Value :=
 [.int .i64 t.frame,.slice a.AP t.parts.length a.cP,.slice a.AW t.aC.length a.cW,.slice a.AC t.au.length a.cC,.int .i64 t.ay,.int .i64 p,
  .int .i64 i.part,.int .i64 i.version,.int .i64 i.aY,.int .i64 i.mem,.int .i64 i.fuel,.int .i64 i.aN,.int .i64 i.aB,.slice A i.code.length c,.int .i64 bu]
section
variable {w : World} {a : en} {t : aQ} {p : Nat} {i : aw} {A : Option Addr} {c : Nat} {bu : Int}
theorem vh {Z:Nat} {w1:World} (h:Row w1 Z 172 (cY a t p i A c bu)):w1.cell? ⟨Z,0,none⟩=some (.int .i64 t.frame)∧w1.cell? ⟨Z,1,none⟩=some (.slice a.AP t.parts.length a.cP)∧w1.cell? ⟨Z,2,none⟩=some (.slice a.AW t.aC.length a.cW)∧w1.cell? ⟨Z,3,none⟩=some (.slice a.AC t.au.length a.cC)∧w1.cell? ⟨Z,4,none⟩=some (.int .i64 t.ay)∧w1.cell? ⟨Z,5,none⟩=some (.int .i64 p)∧
  w1.cell? ⟨Z,6,none⟩=some (.int .i64 i.part)∧w1.cell? ⟨Z,7,none⟩=some (.int .i64 i.version)∧w1.cell? ⟨Z,8,none⟩=some (.int .i64 i.aY)∧w1.cell? ⟨Z,9,none⟩=some (.int .i64 i.mem)∧w1.cell? ⟨Z,10,none⟩=some (.int .i64 i.fuel)∧w1.cell? ⟨Z,11,none⟩=some (.int .i64 i.aN)∧w1.cell? ⟨Z,12,none⟩=some (.int .i64 i.aB)∧w1.cell? ⟨Z,13,none⟩=some (.slice A i.code.length c)∧w1.cell? ⟨Z,14,none⟩=some (.int .i64 bu)∧Z < w1.heap.size :=
 ⟨h.cell 0,h.cell 1,h.cell 2,h.cell 3,h.cell 4,h.cell 5,h.cell 6,h.cell 7,h.cell 8,h.cell 9,h.cell 10,h.cell 11,h.cell 12,h.cell 13,h.cell 14,h.lt⟩
theorem uQ (h:ma w a t) (hp:p < t.parts.length):Calls Tryz.prog 154 #[.agg (cY a t p i A c bu).toArray] w fun e w'=>e=.returned (.agg (T3.cells t.parts[p]).toArray)∧Below w.heap.size w w':=by
 obtain ⟨Z,hZ⟩:∃Z,Z=w.heap.size:=⟨_,rfl⟩
 obtain ⟨w1,aJ⟩:∃w1,w1=(w.alloc (.cells (cY a t p i A c bu).toArray 172)).alloc (.cells #[.int .i64 0,.int .i64 0,.int .i64 0] 147):=⟨_,rfl⟩
 have H1:=aa (show St w w1 [row Z 172 (cY a t p i A c bu),row (Z+1) 147 [.int .i64 0,.int .i64 0,.int .i64 0]] by
  have h:=((St.nil w).new 172 (cY a t p i A c bu).toArray).new 147 #[.int .i64 0,.int .i64 0,.int .i64 0];rw [show (w.alloc (.cells (cY a t p i A c bu).toArray 172)).heap.size=Z+1 by rw [hZ];exact Array.size_push _,←hZ,←aJ] at h
  exact h.swap)
 obtain ⟨b,off,hA,cy,c0,c1,c2⟩:=jh (h.over H1.o.aI).ps rfl hp;have bq:=aa aJ;have HZ:=aa hZ;have HA:=aa hA;generalize t.parts[p]=x at *;obtain ⟨xa,xb,xc⟩:=x;simp only [T3.cells] at *;obtain ⟨r0,r1,r2,r3,r4,r5,r6,r7,r8,r9,U0,UZ,UY,UX,UW,lZ⟩:=vh H1.o.row.1;have lY:=H1.o.swap.row.1.lt;have HR:=aa H1.o.swap.row.1;have k0:(0:Int)≤(p:Int):=by omega
 have k1:(p:Int) < (t.parts.length:Int):=by omega
 rw [hA] at r1;simp only [cY,hA] at bq ⊢;generalize t.parts.length=nP at *;generalize t.aC.length=nW,t.au.length=nC,t.frame=fr,t.ay=tr at *;clear aJ hZ h hA;go_enter Tryz.func154,Tryz.ntmps154;go_upto_region 1 with fail;rw [←bq.o,←HZ.o];go_wp2_with (refine aF rfl 147 (.tmp 2) (.tmp 9) rfl (Z+1) 0 #[.int .i64 xa,.int .i64 xb,.int .i64 xc] rfl rfl HR.o (by kernel_rfl) (by simp) (by simp [Value.oneCell']) [.int .i64 xa,.int .i64 xb,.int .i64 xc] (by simp) ?_);have h:=H1.o.swap.setRow [.int .i64 xa,.int .i64 xb,.int .i64 xc];refine bodyPost_ret (v:=.agg #[.int .i64 xa,.int .i64 xb,.int .i64 xc]) (results_cell_row rfl _ _ (Z+1) _ _ _ _ rfl (h.row.1) Tryz.underlying147 rfl (by kernel_rfl)) rfl ?_;exact ⟨rfl,h.aI⟩

theorem abg (a b c:Int) (w:World):(Instr.field 147 (.agg #[.int .i64 a,.int .i64 b,.int .i64 c]) 0).run Tryz.prog w=.ok (.int .i64 a) w:=by kernel_rfl
theorem abf (a b c:Int) (w:World):(Instr.field 147 (.agg #[.int .i64 a,.int .i64 b,.int .i64 c]) 1).run Tryz.prog w=.ok (.int .i64 b) w:=by kernel_rfl
theorem abe (a b c:Int) (w:World):(Instr.field 147 (.agg #[.int .i64 a,.int .i64 b,.int .i64 c]) 2).run Tryz.prog w=.ok (.int .i64 c) w:=by kernel_rfl
theorem Th (h:ma w a t) (hp:p < t.parts.length):Calls Tryz.prog 105 #[.agg (cY a t p i A c bu).toArray] w fun e w'=>e=.returned (.bool (decide (bu < i.version)))∧Below w.heap.size w w':=by
 obtain ⟨Z,hZ⟩:∃Z,Z=w.heap.size:=⟨_,rfl⟩
 obtain ⟨w1,aJ⟩:∃w1,w1=w.alloc (.cells (cY a t p i A c bu).toArray 172):=⟨_,rfl⟩
 have H1:=aa (show St w w1 [row Z 172 (cY a t p i A c bu)] by
  have h:=(St.nil w).new 172 (cY a t p i A c bu).toArray;rw [←hZ,←aJ] at h
  exact h)
 have HR:=aa (fun (w':World) (hb:Below w1.heap.size w1 w')=>vh (H1.o.row.1.below hb H1.o.row.1.lt));have bq:=aa aJ;have HZ:=aa hZ;simp only [cY,T3.cells] at bq HR ⊢;generalize t.parts.length=nP,t.aC.length=nW,t.au.length=nC,t.frame=fr,t.ay=tr,i.part=i0,i.version=i1,i.aY=i2,i.mem=i3,i.fuel=i4,i.aN=i5,i.aB=i6,i.code.length=i7 at *;clear aJ hZ h;obtain ⟨r0,r1,r2,r3,r4,r5,r6,r7,r8,r9,U0,UZ,UY,UX,UW,lZ⟩:=HR.o w1 (Below.refl _ _);go_enter Tryz.func105,Tryz.ntmps105;go_upto_region 1 with fail;rw [←bq.o,←HZ.o];go_wp2_with fail;go_ret;exact ⟨rfl,H1.o.aI⟩
theorem Wy (h:ma w a t) (hp:p < t.parts.length):Calls Tryz.prog 102 #[.agg (cY a t p i A c bu).toArray] w fun e w'=>e=.returned (.bool (decide (i.part=p∧i.aY=t.parts[p].c)))∧Below w.heap.size w w':=by
 obtain ⟨Z,hZ⟩:∃Z,Z=w.heap.size:=⟨_,rfl⟩
 obtain ⟨w1,aJ⟩:∃w1,w1=w.alloc (.cells (cY a t p i A c bu).toArray 172):=⟨_,rfl⟩
 have H1:=aa (show St w w1 [row Z 172 (cY a t p i A c bu)] by
  have h:=(St.nil w).new 172 (cY a t p i A c bu).toArray;rw [←hZ,←aJ] at h
  exact h)
 have HR:=aa (fun (w':World) (hb:Below w1.heap.size w1 w')=>vh (H1.o.row.1.below hb H1.o.row.1.lt));have HO:=aa (fun (w':World) (hb:Below w.heap.size w w')=>uQ (p:=p) (i:=i) (A:=A) (c:=c) (bu:=bu) (h.over hb) hp);have bq:=aa aJ;have HZ:=aa hZ;simp only [cY,T3.cells] at bq HR HO ⊢;generalize t.parts[p]=x at *;obtain ⟨xa,xb,xc⟩:=x;simp only at HO ⊢;generalize t.parts.length=nP,t.aC.length=nW,t.au.length=nC,t.frame=fr,t.ay=tr,i.part=i0,i.version=i1,i.aY=i2,i.mem=i3,i.fuel=i4,i.aN=i5,i.aB=i6,i.code.length=i7 at *;clear aJ hZ h;obtain ⟨r0,r1,r2,r3,r4,r5,r6,r7,r8,r9,U0,UZ,UY,UX,UW,lZ⟩:=HR.o w1 (Below.refl _ _);go_enter Tryz.func102,Tryz.ntmps102;go_upto_region 1 with fail;rw [←bq.o,←HZ.o];go_wp2_with fail;have wA:=abe xa xb xc;have HW:=aa H1.o.aI;by_cases h0:i0=(p:Int)
 ·have e0:(i0==(p:Int))=true:=by simpa using h0
  have E0:=aa h0;clear h0;refine eh (fun w'=>w'.cell? ⟨Z,0,none⟩=some (.int .i64 fr)∧w'.cell? ⟨Z,1,none⟩=some (.slice a.AP nP a.cP)∧w'.cell? ⟨Z,2,none⟩=some (.slice a.AW nW a.cW)∧w'.cell? ⟨Z,3,none⟩=some (.slice a.AC nC a.cC)∧w'.cell? ⟨Z,4,none⟩=some (.int .i64 tr)∧w'.cell? ⟨Z,5,none⟩=some (.int .i64 p)∧w'.cell? ⟨Z,6,none⟩=some (.int .i64 i0)∧w'.cell? ⟨Z,7,none⟩=some (.int .i64 i1)∧w'.cell? ⟨Z,8,none⟩=some (.int .i64 i2)∧w'.cell? ⟨Z,9,none⟩=some (.int .i64 i3)∧w'.cell? ⟨Z,10,none⟩=some (.int .i64 i4)∧w'.cell? ⟨Z,11,none⟩=some (.int .i64 i5)∧w'.cell? ⟨Z,12,none⟩=some (.int .i64 i6)∧w'.cell? ⟨Z,13,none⟩=some (.slice A i7 c)∧w'.cell? ⟨Z,14,none⟩=some (.int .i64 bu)∧Z < w'.heap.size) (by kernel_rfl) (HR.o w1.drew (Below.refl w1.heap.size w1).drew) (fun bQ=>?_);(refine ai 0 ?_;(try simp only [af,ae,ah,Act.put,aq,ak,ao]));(refine ai 1 ?_;(try simp only [af,ae,ah,Act.put,aq,ak,ao]));(refine ai 2 ?_;(try simp only [af,ae,ah,Act.put,aq,ak,ao]));(refine ai 3 ?_;(try simp only [af,ae,ah,Act.put,aq,ak,ao]));(refine ai 4 ?_;(try simp only [af,ae,ah,Act.put,aq,ak,ao]));(refine ai 5 ?_;(try simp only [af,ae,ah,Act.put,aq,ak,ao]));(refine ai 6 ?_;(try simp only [af,ae,ah,Act.put,aq,ak,ao]));(refine ai 7 ?_;(try simp only [af,ae,ah,Act.put,aq,ak,ao]));(refine ai 8 ?_;(try simp only [af,ae,ah,Act.put,aq,ak,ao]));(refine ai 9 ?_;(try simp only [af,ae,ah,Act.put,aq,ak,ao]));(refine ai 10 ?_;(try simp only [af,ae,ah,Act.put,aq,ak,ao]));(refine dV 11 ?_;(try simp only [af,ae,ah]);go_simp);refine (HO.o w1.drew HW.o.drew).mono ?_;rintro e w2 ⟨rfl,hb⟩;have rO:=aa (((Below.refl w1.heap.size w1).drew).trans (hb.mono ((Below.refl w1.heap.size w1).drew).size));clear hb;dsimp only;(refine cG (HR.o w2 rO.o) (fun bQ=>?_);(try simp only [af,ae,ah,Act.put,aq,ak,ao]));(refine ai 12 ?_;(try simp only [af,ae,ah,Act.put,aq,ak,ao]));(refine ai 13 ?_;(try simp only [af,ae,ah,Act.put,aq,ak,ao]));(refine ai 14 ?_;(try simp only [af,ae,ah,Act.put,aq,ak,ao]));(refine ai 15 ?_;(try simp only [af,ae,ah,Act.put,aq,ak,ao]));refine dW (by kernel_rfl) ?_;go_wp2_with fail;go_ret;exact ⟨aE (by simp only [E0.o,true_and];rfl),HW.o.trans (rO.o.mono HW.o.size)⟩
 ·have e0:(i0==(p:Int))=false:=by simpa using h0
  have E0:=aa h0;clear h0;refine eh (fun w'=>w'.cell? ⟨Z,0,none⟩=some (.int .i64 fr)∧w'.cell? ⟨Z,1,none⟩=some (.slice a.AP nP a.cP)∧w'.cell? ⟨Z,2,none⟩=some (.slice a.AW nW a.cW)∧w'.cell? ⟨Z,3,none⟩=some (.slice a.AC nC a.cC)∧w'.cell? ⟨Z,4,none⟩=some (.int .i64 tr)∧w'.cell? ⟨Z,5,none⟩=some (.int .i64 p)∧w'.cell? ⟨Z,6,none⟩=some (.int .i64 i0)∧w'.cell? ⟨Z,7,none⟩=some (.int .i64 i1)∧w'.cell? ⟨Z,8,none⟩=some (.int .i64 i2)∧w'.cell? ⟨Z,9,none⟩=some (.int .i64 i3)∧w'.cell? ⟨Z,10,none⟩=some (.int .i64 i4)∧w'.cell? ⟨Z,11,none⟩=some (.int .i64 i5)∧w'.cell? ⟨Z,12,none⟩=some (.int .i64 i6)∧w'.cell? ⟨Z,13,none⟩=some (.slice A i7 c)∧w'.cell? ⟨Z,14,none⟩=some (.int .i64 bu)∧Z < w'.heap.size) (by kernel_rfl) (HR.o w1.drew (Below.refl w1.heap.size w1).drew) (fun bQ=>?_);(refine ai 0 ?_;(try simp only [af,ae,ah,Act.put,aq,ak,ao]));(refine ai 1 ?_;(try simp only [af,ae,ah,Act.put,aq,ak,ao]));(refine ai 2 ?_;(try simp only [af,ae,ah,Act.put,aq,ak,ao]));(refine ai 3 ?_;(try simp only [af,ae,ah,Act.put,aq,ak,ao]));(refine ai 4 ?_;(try simp only [af,ae,ah,Act.put,aq,ak,ao]));(refine ai 5 ?_;(try simp only [af,ae,ah,Act.put,aq,ak,ao]));(refine ai 6 ?_;(try simp only [af,ae,ah,Act.put,aq,ak,ao]));(refine bT 7 (by kernel_rfl) (fun _ _ _ _ _ h=>h) (by rfl) (by assumption) ?_;(try simp only [af,ae,ah,Act.put,aq,ak,ao]));(refine bT 8 (by kernel_rfl) (fun _ _ _ _ _ h=>h) (by rfl) (by assumption) ?_;(try simp only [af,ae,ah,Act.put,aq,ak,ao]));(refine bT 9 (by kernel_rfl) (fun _ _ _ _ _ h=>h) (by rfl) (by assumption) ?_;(try simp only [af,ae,ah,Act.put,aq,ak,ao]));(refine bT 10 (by kernel_rfl) (fun _ _ _ _ _ h=>h) (by rfl) (by assumption) ?_;(try simp only [af,ae,ah,Act.put,aq,ak,ao]));(refine bT 11 (by kernel_rfl) (fun _ _ _ _ _ h=>h) (by rfl) (by assumption) ?_;(try simp only [af,ae,ah,Act.put,aq,ak,ao]));(refine bT 12 (by kernel_rfl) (fun _ _ _ _ _ h=>h) (by rfl) (by assumption) ?_;(try simp only [af,ae,ah,Act.put,aq,ak,ao]));(refine bT 13 (by kernel_rfl) (fun _ _ _ _ _ h=>h) (by rfl) (by assumption) ?_;(try simp only [af,ae,ah,Act.put,aq,ak,ao]));(refine ai 14 ?_;(try simp only [af,ae,ah,Act.put,aq,ak,ao]));(refine ai 15 ?_;(try simp only [af,ae,ah,Act.put,aq,ak,ao]));refine dW (by kernel_rfl) ?_;go_wp2_with fail;go_ret;exact ⟨aE (by simp [E0.o]),HW.o.drew⟩
theorem SF (h:ma w a t) (hp:p < t.parts.length):Calls Tryz.prog 103 #[.agg (cY a t p i A c bu).toArray] w fun e w'=>e=.returned (.bool (decide (i.mem≤t.parts[p].a∧i.fuel≤t.parts[p].b)))∧Below w.heap.size w w':=by
 obtain ⟨Z,hZ⟩:∃Z,Z=w.heap.size:=⟨_,rfl⟩
 obtain ⟨w1,aJ⟩:∃w1,w1=w.alloc (.cells (cY a t p i A c bu).toArray 172):=⟨_,rfl⟩
 have H1:=aa (show St w w1 [row Z 172 (cY a t p i A c bu)] by
  have h:=(St.nil w).new 172 (cY a t p i A c bu).toArray;rw [←hZ,←aJ] at h
  exact h)
 have HR:=aa (fun (w':World) (hb:Below w1.heap.size w1 w')=>vh (H1.o.row.1.below hb H1.o.row.1.lt));have HO:=aa (fun (w':World) (hb:Below w.heap.size w w')=>uQ (p:=p) (i:=i) (A:=A) (c:=c) (bu:=bu) (h.over hb) hp);have bq:=aa aJ;have HZ:=aa hZ;simp only [cY,T3.cells] at bq HR HO ⊢;generalize t.parts[p]=x at *;obtain ⟨xa,xb,xc⟩:=x;simp only at HO ⊢;generalize t.parts.length=nP,t.aC.length=nW,t.au.length=nC,t.frame=fr,t.ay=tr,i.part=i0,i.version=i1,i.aY=i2,i.mem=i3,i.fuel=i4,i.aN=i5,i.aB=i6,i.code.length=i7 at *;clear aJ hZ h;obtain ⟨r0,r1,r2,r3,r4,r5,r6,r7,r8,r9,U0,UZ,UY,UX,UW,lZ⟩:=HR.o w1 (Below.refl _ _);go_enter Tryz.func103,Tryz.ntmps103;go_upto_region 1 with fail;rw [←bq.o,←HZ.o];go_wp2_with fail;have acr:=abg xa xb xc;have acq:=abf xa xb xc;have HW:=aa H1.o.aI;refine eh (fun w'=>w'.cell? ⟨Z,0,none⟩=some (.int .i64 fr)∧w'.cell? ⟨Z,1,none⟩=some (.slice a.AP nP a.cP)∧w'.cell? ⟨Z,2,none⟩=some (.slice a.AW nW a.cW)∧w'.cell? ⟨Z,3,none⟩=some (.slice a.AC nC a.cC)∧w'.cell? ⟨Z,4,none⟩=some (.int .i64 tr)∧w'.cell? ⟨Z,5,none⟩=some (.int .i64 p)∧w'.cell? ⟨Z,6,none⟩=some (.int .i64 i0)∧w'.cell? ⟨Z,7,none⟩=some (.int .i64 i1)∧w'.cell? ⟨Z,8,none⟩=some (.int .i64 i2)∧w'.cell? ⟨Z,9,none⟩=some (.int .i64 i3)∧w'.cell? ⟨Z,10,none⟩=some (.int .i64 i4)∧w'.cell? ⟨Z,11,none⟩=some (.int .i64 i5)∧w'.cell? ⟨Z,12,none⟩=some (.int .i64 i6)∧w'.cell? ⟨Z,13,none⟩=some (.slice A i7 c)∧w'.cell? ⟨Z,14,none⟩=some (.int .i64 bu)∧Z < w'.heap.size) (by kernel_rfl) (HR.o w1.drew (Below.refl w1.heap.size w1).drew) (fun bQ=>?_);(refine ai 0 ?_;(try simp only [af,ae,ah,Act.put,aq,ak,ao]));(refine ai 1 ?_;(try simp only [af,ae,ah,Act.put,aq,ak,ao]));(refine ai 2 ?_;(try simp only [af,ae,ah,Act.put,aq,ak,ao]));(refine ai 3 ?_;(try simp only [af,ae,ah,Act.put,aq,ak,ao]));(refine dV 4 ?_;(try simp only [af,ae,ah]);go_simp);refine (HO.o w1.drew HW.o.drew).mono ?_;rintro e w2 ⟨rfl,hb⟩;have rO:=aa (((Below.refl w1.heap.size w1).drew).trans (hb.mono ((Below.refl w1.heap.size w1).drew).size));clear hb;dsimp only;(refine cG (HR.o w2 rO.o) (fun bQ=>?_);(try simp only [af,ae,ah,Act.put,aq,ak,ao]));by_cases h0:i3≤xa
 ·have e0:decide (i3≤xa)=true:=by simpa using h0
  have E0:=aa h0;clear h0;(refine ai 5 ?_;(try simp only [af,ae,ah,Act.put,aq,ak,ao]));(refine ai 6 ?_;(try simp only [af,ae,ah,Act.put,aq,ak,ao]));(refine ai 7 ?_;(try simp only [af,ae,ah,Act.put,aq,ak,ao]));(refine ai 8 ?_;(try simp only [af,ae,ah,Act.put,aq,ak,ao]));(refine ai 9 ?_;(try simp only [af,ae,ah,Act.put,aq,ak,ao]));(refine ai 10 ?_;(try simp only [af,ae,ah,Act.put,aq,ak,ao]));(refine ai 11 ?_;(try simp only [af,ae,ah,Act.put,aq,ak,ao]));(refine dV 12 ?_;(try simp only [af,ae,ah]);go_simp);refine (HO.o w2 (HW.o.trans (rO.o.mono HW.o.size))).mono ?_;rintro e w3 ⟨rfl,hb⟩;have Le:=aa ((rO.o).trans (hb.mono (rO.o).size));clear hb;dsimp only;(refine cG (HR.o w3 Le.o) (fun bQ=>?_);(try simp only [af,ae,ah,Act.put,aq,ak,ao]));(refine ai 13 ?_;(try simp only [af,ae,ah,Act.put,aq,ak,ao]));(refine ai 14 ?_;(try simp only [af,ae,ah,Act.put,aq,ak,ao]));(refine ai 15 ?_;(try simp only [af,ae,ah,Act.put,aq,ak,ao]));(refine ai 16 ?_;(try simp only [af,ae,ah,Act.put,aq,ak,ao]));refine dW (by kernel_rfl) ?_;go_wp2_with fail;go_ret;exact ⟨aE (by simp [E0.o]),HW.o.trans (Le.o.mono HW.o.size)⟩
 ·have e0:decide (i3≤xa)=false:=by simpa using h0
  have E0:=aa h0;clear h0;(refine ai 5 ?_;(try simp only [af,ae,ah,Act.put,aq,ak,ao]));(refine ai 6 ?_;(try simp only [af,ae,ah,Act.put,aq,ak,ao]));(refine ai 7 ?_;(try simp only [af,ae,ah,Act.put,aq,ak,ao]));(refine bT 8 (by kernel_rfl) (fun _ _ _ _ _ h=>h) (by rfl) (by assumption) ?_;(try simp only [af,ae,ah,Act.put,aq,ak,ao]));(refine bT 9 (by kernel_rfl) (fun _ _ _ _ _ h=>h) (by rfl) (by assumption) ?_;(try simp only [af,ae,ah,Act.put,aq,ak,ao]));(refine bT 10 (by kernel_rfl) (fun _ _ _ _ _ h=>h) (by rfl) (by assumption) ?_;(try simp only [af,ae,ah,Act.put,aq,ak,ao]));(refine bT 11 (by kernel_rfl) (fun _ _ _ _ _ h=>h) (by rfl) (by assumption) ?_;(try simp only [af,ae,ah,Act.put,aq,ak,ao]));(refine bT 12 (by kernel_rfl) (fun _ _ _ _ _ h=>h) (by rfl) (by assumption) ?_;(try simp only [af,ae,ah,Act.put,aq,ak,ao]));(refine bT 13 (by kernel_rfl) (fun _ _ _ _ _ h=>h) (by rfl) (by assumption) ?_;(try simp only [af,ae,ah,Act.put,aq,ak,ao]));(refine bT 14 (by kernel_rfl) (fun _ _ _ _ _ h=>h) (by rfl) (by assumption) ?_;(try simp only [af,ae,ah,Act.put,aq,ak,ao]));(refine ai 15 ?_;(try simp only [af,ae,ah,Act.put,aq,ak,ao]));(refine ai 16 ?_;(try simp only [af,ae,ah,Act.put,aq,ak,ao]));refine dW (by kernel_rfl) ?_;go_wp2_with fail;go_ret;exact ⟨aE (by simp [E0.o]),HW.o.trans (rO.o.mono HW.o.size)⟩
end
end bR
namespace bR


open Go.RowKit Go.Deep base obj mem sep bf num bytes bw chain image bK
section
variable {w : World} {a : en} {t : aQ} {p : Nat} {i : aw} {A : Option Addr} {c : Nat} {bu : Int}
theorem AE (h:ma w a t) (q:Int):Calls Tryz.prog 101 #[a.val t,.int .i64 q] w fun e w'=>e=.returned (.bool (decide (0≤q∧q < t.parts.length)))∧Below w.heap.size w w':=by
 obtain ⟨Z,hZ⟩:∃Z,Z=w.heap.size:=⟨_,rfl⟩
 obtain ⟨w1,aJ⟩:∃w1,w1=w.alloc (.cells #[.int .i64 t.frame,.slice a.AP t.parts.length a.cP,.slice a.AW t.aC.length a.cW,.slice a.AC t.au.length a.cC,.int .i64 t.ay] 46):=⟨_,rfl⟩
 have H1:=aa (show St w w1 [row Z 46 [.int .i64 t.frame,.slice a.AP t.parts.length a.cP,.slice a.AW t.aC.length a.cW,.slice a.AC t.au.length a.cC,.int .i64 t.ay]] by
  have h:=(St.nil w).new 46 #[.int .i64 t.frame,.slice a.AP t.parts.length a.cP,.slice a.AW t.aC.length a.cW,.slice a.AC t.au.length a.cC,.int .i64 t.ay];rw [←hZ,←aJ] at h
  exact h)
 have c1:w1.cell? ⟨Z,1,none⟩=some (.slice a.AP t.parts.length a.cP):=H1.o.row.1.cell 1;have lZ:=H1.o.row.1.lt;have bq:=aa aJ;have HZ:=aa hZ;simp only [en.val] at bq ⊢;generalize t.parts.length=nP,t.aC.length=nW,t.au.length=nC,t.frame=fr,t.ay=tr at *;clear aJ hZ h;go_enter Tryz.func101,Tryz.ntmps101;go_upto_region 1 with fail;rw [←bq.o,←HZ.o];by_cases h0:0≤q
 ·have k0:(0:Int)≤q:=h0;have E0:=aa h0;go_wp2_with fail;go_ret;exact ⟨aE (by simp [E0.o]),H1.o.aI⟩
 ·have k0:¬(0:Int)≤q:=h0;have E0:=aa h0;go_wp2_with fail;go_ret;exact ⟨aE (by have:=E0.o;simp;omega),H1.o.aI⟩
def iI (f:T3→Int) (p:Int) (l:List T3):Nat→Nat
 | 0=>0
 | k+1=>iI f p l k+(if f (l.getD k ⟨0,0,0⟩)=p then 2 ^ k else 0)
theorem BV (f:T3→Int) (p:Int) (l:List T3):∀k,iI f p l k < 2 ^ k
 | 0=>by simp [iI]
 | k+1=>by have:=BV f p l k;simp only [iI,Nat.pow_succ];split<;>omega
theorem V3 (x:T3) (w:World):Calls Tryz.prog 187 #[x.agg] w fun e w'=>e=.returned (.int .i64 x.a)∧Below w.heap.size w w':=by
 obtain ⟨xa,xb,xc⟩:=x;have hb:=(Below.refl w.heap.size w).alloc (Nat.le_refl _) (.cells #[.int .i64 xa,.int .i64 xb,.int .i64 xc] 152);go_enter Tryz.func187,Tryz.ntmps187;go_wp2_with fail;go_ret;exact ⟨rfl,hb⟩
theorem Nu (x:T3) (w:World):Calls Tryz.prog 188 #[x.agg] w fun e w'=>e=.returned (.int .i64 x.b)∧Below w.heap.size w w':=by
 obtain ⟨xa,xb,xc⟩:=x;have hb:=(Below.refl w.heap.size w).alloc (Nat.le_refl _) (.cells #[.int .i64 xa,.int .i64 xb,.int .i64 xc] 152);go_enter Tryz.func188,Tryz.ntmps188;go_wp2_with fail;go_ret;exact ⟨rfl,hb⟩
theorem S8 (j:Nat) (hj:j < 4):wrap64 ((2:Int) ^ j)=((2 ^ j:Nat):Int):=by
 have:∀j:Nat,j < 4→wrap64 ((2:Int) ^ j)=((2 ^ j:Nat):Int):=by decide +kernel
 exact this j hj
theorem D3 (s k:Nat) (hk:k < 4) (hs:s < 2 ^ k):Go.bits .or .i64 (s:Int) ((2 ^ k:Nat):Int)=((s+2 ^ k:Nat):Int):=by
 have:∀k:Nat,k < 4→∀s:Nat,s < 2 ^ k→Go.bits .or .i64 (s:Int) ((2 ^ k:Nat):Int)=((s+2 ^ k:Nat):Int):=by decide +kernel
 exact this k hk s hs
theorem CA (h:ma w a t) (hr:t.right=true) (hp:p < t.parts.length) (F:Nat) (f:T3→Int) (oG:∀(w':World) (x:T3),(callFunc F #[x.agg]).run Tryz.prog w'=.ok (.enter F #[x.agg]) w')
  (hf:∀(x:T3) (w':World),Calls Tryz.prog F #[x.agg] w' fun e kV=>e=.returned (.int .i64 (f x))∧Below w'.heap.size w' kV) :
  Calls Tryz.prog 186 #[a.val t,.int .i64 p,.func (Fn.func F) #[] #[]] w fun e w'=>e=.returned (.int .i64 (iI f p t.au t.au.length:Nat))∧Below w.heap.size w w':=by
 have zr:=(aQ.r hr).nc;have ez:=aa (fun w' (hb:Below w.heap.size w w')=>ft (h.over hb));have pP:=aa (fun w' (hb:Below w.heap.size w w')=>AE (h.over hb) (p:Int));rw [show decide (0≤(p:Int)∧(p:Int) < t.parts.length)=true by simp;omega] at pP;rw [hr] at ez;have mW:=aa (fun w' (hb:Below w.heap.size w w')=>(h.over hb).cs);obtain ⟨Z,hZ⟩:∃Z,Z=w.heap.size:=⟨_,rfl⟩
 obtain ⟨w1,aJ⟩:∃w1,w1=w.alloc (.cells #[.int .i64 t.frame,.slice a.AP t.parts.length a.cP,.slice a.AW t.aC.length a.cW,.slice a.AC t.au.length a.cC,.int .i64 t.ay] 46):=⟨_,rfl⟩
 have H1:=aa (show St w w1 [row Z 46 [.int .i64 t.frame,.slice a.AP t.parts.length a.cP,.slice a.AW t.aC.length a.cW,.slice a.AC t.au.length a.cC,.int .i64 t.ay]] by
  have h:=(St.nil w).new 46 #[.int .i64 t.frame,.slice a.AP t.parts.length a.cP,.slice a.AW t.aC.length a.cW,.slice a.AC t.au.length a.cC,.int .i64 t.ay];rw [←hZ,←aJ] at h
  exact h)
 have bq:=aa aJ;have HZ:=aa hZ;simp only [en.val] at bq pP ⊢;obtain ⟨nC,pK⟩:∃v,v=t.au.length:=⟨_,rfl⟩
 have wM:=aa pK;rw [←pK] at zr;simp only [←pK] at ez pP mW H1 bq ⊢;generalize t.parts.length=nP,t.aC.length=nW,t.frame=fr,t.ay=tr at *;clear aJ hZ h pK;have lA:=aa (fun (w':World) (hb:Below w1.heap.size w1 w')=>H1.o.row.1.below hb H1.o.row.1.lt)
 have rows:∀w',Below w1.heap.size w1 w'→w'.cell? ⟨Z,0,none⟩=some (.int .i64 fr)∧w'.cell? ⟨Z,1,none⟩=some (.slice a.AP nP a.cP)∧w'.cell? ⟨Z,2,none⟩=some (.slice a.AW nW a.cW)∧w'.cell? ⟨Z,3,none⟩=some (.slice a.AC nC a.cC)∧w'.cell? ⟨Z,4,none⟩=some (.int .i64 tr)∧Z < w'.heap.size :=
  fun w' hb=>⟨(lA.o w' hb).cell 0,(lA.o w' hb).cell 1,(lA.o w' hb).cell 2,(lA.o w' hb).cell 3,(lA.o w' hb).cell 4,(lA.o w' hb).lt⟩
 have dO:=aa rows;clear rows;obtain ⟨t0,t1,t2,t3,t4,lZ⟩:=dO.o w1 (Below.refl _ _);go_enter Tryz.func186,Tryz.ntmps186;go_upto_region 1 with fail;rw [←bq.o,←HZ.o];go_wp2_with fail;refine (ez.o w1 H1.o.aI).mono ?_;rintro e w2 ⟨rfl,bN⟩;have aO:=aa bN;clear t0 t1 t2 t3 t4 lZ bN;obtain ⟨t0,t1,t2,t3,t4,lZ⟩:=dO.o w2 aO.o;go_wp2_with fail;refine (pP.o w2 (H1.o.aI.trans (aO.o.mono H1.o.aI.size))).mono ?_;rintro e w3 ⟨rfl,mJ⟩;have bD:=aa (aO.o.trans (mJ.mono aO.o.size));clear t0 t1 t2 t3 t4 lZ mJ;obtain ⟨t0,t1,t2,t3,t4,lZ⟩:=dO.o w3 bD.o;go_wp2_with fail;go_loopw [22,7] (fun i s wr=>∃j:Nat,j≤nC∧i=.int .i64 j∧s=.int .i64 (iI f p t.au j:Nat)∧Below w1.heap.size w1 wr) (fun i _ _=>nC-(intOf i).toNat)
 case atStart=>exact ⟨0,by omega,rfl,rfl,bD.o⟩
 case round =>
  obtain ⟨j,hj,rfl,rfl,pU⟩:=hrel;have dv:=aa pU;clear t0 t1 t2 t3 t4 lZ pU;by_cases aK:j < nC
  ·have dF:j < t.au.length:=by have:=wM.o;omega
   obtain ⟨b,off,hA,cy,c0,c1,c2⟩:=jh (mW.o wr (H1.o.aI.trans (dv.o.mono H1.o.aI.size))) wM.o dF;have ew:t.au.getD j ⟨0,0,0⟩=t.au[j]:=by simp [dF]
   have RN:=aa (show iI f p t.au (j+1)=iI f p t.au j+(if f t.au[j]=p then 2 ^ j else 0) by rw [iI,ew]);have pM:=BV f (p:Int) t.au j;have HFX:=aa (hf t.au[j]);have QR:=(fun w'=>oG w' t.au[j])
   generalize t.au[j]=x at *;generalize iI f p t.au j=s at *;obtain ⟨xa,xb,xc⟩:=x;simp only at c0 c1 c2;have HA:=aa hA;have k0:(0:Int)≤(j:Int):=by omega
   have k1:(j:Int) < (nC:Int):=by omega
   obtain ⟨fx,hfx⟩:∃v,v=f ⟨xa,xb,xc⟩:=⟨_,rfl⟩
   rw [←hfx] at RN HFX;have HO:=aa (D3 s j (by omega) pM);clear hA ew hfx hf oG;rw [HA.o];go_wp2_with fail;refine (HFX.o _).mono ?_;rintro e w4 ⟨rfl,oH⟩;have eV:=aa ((dv.o.trans (((Below.refl wr.heap.size wr).alloc (Nat.le_refl _) _).mono dv.o.size)).trans (oH.mono (Nat.le_trans dv.o.size (by simp))));clear oH QR;by_cases hq:fx=(p:Int)
   ·have El:(fx==(p:Int))=true:=by simpa using hq
    have HQ:=aa (show iI f p t.au (j+1)=s+2 ^ j by rw [RN.o,if_pos hq]);clear hq;have zE:=aa (S8 j (by omega));go_wp2_with fail;go_roundw;case rel=>exact ⟨j+1,by omega,by go_num,by rw [zE.o,HO.o,HQ.o],eV.o⟩
    case measure=>simp [intOf];omega
   ·have El:(fx==(p:Int))=false:=by simpa using hq
    have HQ:=aa (show iI f p t.au (j+1)=s by rw [RN.o,if_neg hq];rfl);clear hq;go_wp2_with fail;go_roundw;case rel=>exact ⟨j+1,by omega,by go_num,by rw [HQ.o],eV.o⟩
    case measure=>simp [intOf];omega
  ·have hje:j=nC:=by omega
   have HE:=aa (show iI f p t.au nC=iI f p t.au j by rw [hje]);have k1:¬(j:Int) < (nC:Int):=by omega
   clear hje;go_wp2_with fail;go_ret;exact ⟨bt (by rw [HE.o]),H1.o.aI.trans (dv.o.mono H1.o.aI.size)⟩
theorem QS (w':World) (x:T3):(callFunc 187 #[x.agg]).run Tryz.prog w'=.ok (.enter 187 #[x.agg]) w':=by kernel_rfl
theorem J1 (w':World) (x:T3):(callFunc 188 #[x.agg]).run Tryz.prog w'=.ok (.enter 188 #[x.agg]) w':=by kernel_rfl
theorem SH (h:ma w a t) (hr:t.right=true) (hp:p < t.parts.length):Calls Tryz.prog 155 #[a.val t,.int .i64 p] w fun e w'=>e=.returned (.int .i64 (iI T3.a p t.au t.au.length:Nat))∧Below w.heap.size w w':=by
 obtain ⟨Z,hZ⟩:∃Z,Z=w.heap.size:=⟨_,rfl⟩
 obtain ⟨w1,aJ⟩:∃w1,w1=w.alloc (.cells #[.int .i64 t.frame,.slice a.AP t.parts.length a.cP,.slice a.AW t.aC.length a.cW,.slice a.AC t.au.length a.cC,.int .i64 t.ay] 46):=⟨_,rfl⟩
 have H1:=aa (show St w w1 [row Z 46 [.int .i64 t.frame,.slice a.AP t.parts.length a.cP,.slice a.AW t.aC.length a.cW,.slice a.AC t.au.length a.cC,.int .i64 t.ay]] by
  have h:=(St.nil w).new 46 #[.int .i64 t.frame,.slice a.AP t.parts.length a.cP,.slice a.AW t.aC.length a.cW,.slice a.AC t.au.length a.cC,.int .i64 t.ay];rw [←hZ,←aJ] at h
  exact h)
 have Hz:=aa (CA (h.over H1.o.aI) hr hp 187 T3.a QS V3);have bq:=aa aJ;have HZ:=aa hZ;generalize iI T3.a p t.au t.au.length=r at *;simp only [en.val] at bq Hz ⊢;generalize t.parts.length=nP,t.aC.length=nW,t.au.length=nC,t.frame=fr,t.ay=tr at *;have t0:w1.cell? ⟨Z,0,none⟩=some (.int .i64 fr):=H1.o.row.1.cell 0;have t1:w1.cell? ⟨Z,1,none⟩=some (.slice a.AP nP a.cP):=H1.o.row.1.cell 1;have t2:w1.cell? ⟨Z,2,none⟩=some (.slice a.AW nW a.cW):=H1.o.row.1.cell 2;have t3:w1.cell? ⟨Z,3,none⟩=some (.slice a.AC nC a.cC):=H1.o.row.1.cell 3;have t4:w1.cell? ⟨Z,4,none⟩=some (.int .i64 tr):=H1.o.row.1.cell 4;have lT:=H1.o.row.1.lt;clear aJ hZ h hr;go_enter Tryz.func155,Tryz.ntmps155;go_upto_region 1 with fail;rw [←bq.o,←HZ.o];go_wp2_with fail;refine Hz.o.mono ?_;rintro e w2 ⟨rfl,hb⟩;have HB:=aa (H1.o.aI.trans (hb.mono H1.o.aI.size));clear hb;go_wp2_with fail;go_ret;exact ⟨rfl,HB.o⟩
theorem Lo (h:ma w a t) (hr:t.right=true) (hp:p < t.parts.length):Calls Tryz.prog 156 #[a.val t,.int .i64 p] w fun e w'=>e=.returned (.int .i64 (iI T3.b p t.au t.au.length:Nat))∧Below w.heap.size w w':=by
 obtain ⟨Z,hZ⟩:∃Z,Z=w.heap.size:=⟨_,rfl⟩
 obtain ⟨w1,aJ⟩:∃w1,w1=w.alloc (.cells #[.int .i64 t.frame,.slice a.AP t.parts.length a.cP,.slice a.AW t.aC.length a.cW,.slice a.AC t.au.length a.cC,.int .i64 t.ay] 46):=⟨_,rfl⟩
 have H1:=aa (show St w w1 [row Z 46 [.int .i64 t.frame,.slice a.AP t.parts.length a.cP,.slice a.AW t.aC.length a.cW,.slice a.AC t.au.length a.cC,.int .i64 t.ay]] by
  have h:=(St.nil w).new 46 #[.int .i64 t.frame,.slice a.AP t.parts.length a.cP,.slice a.AW t.aC.length a.cW,.slice a.AC t.au.length a.cC,.int .i64 t.ay];rw [←hZ,←aJ] at h
  exact h)
 have Hz:=aa (CA (h.over H1.o.aI) hr hp 188 T3.b J1 Nu);have bq:=aa aJ;have HZ:=aa hZ;generalize iI T3.b p t.au t.au.length=r at *;simp only [en.val] at bq Hz ⊢;generalize t.parts.length=nP,t.aC.length=nW,t.au.length=nC,t.frame=fr,t.ay=tr at *;have t0:w1.cell? ⟨Z,0,none⟩=some (.int .i64 fr):=H1.o.row.1.cell 0;have t1:w1.cell? ⟨Z,1,none⟩=some (.slice a.AP nP a.cP):=H1.o.row.1.cell 1;have t2:w1.cell? ⟨Z,2,none⟩=some (.slice a.AW nW a.cW):=H1.o.row.1.cell 2;have t3:w1.cell? ⟨Z,3,none⟩=some (.slice a.AC nC a.cC):=H1.o.row.1.cell 3;have t4:w1.cell? ⟨Z,4,none⟩=some (.int .i64 tr):=H1.o.row.1.cell 4;have lT:=H1.o.row.1.lt;clear aJ hZ h hr;go_enter Tryz.func156,Tryz.ntmps156;go_upto_region 1 with fail;rw [←bq.o,←HZ.o];go_wp2_with fail;refine Hz.o.mono ?_;rintro e w2 ⟨rfl,hb⟩;have HB:=aa (H1.o.aI.trans (hb.mono H1.o.aI.size));clear hb;go_wp2_with fail;go_ret;exact ⟨rfl,HB.o⟩
end
end bR
end Go.Proofs.YtdldkkoplgkloaaGreat
