/- PROVED HERE: lemmas of the law. CONDITIONS: each names its own. -/
import Derived.Test.YtdldkkoplgkloaaGreatPa0
import Derived.Test.YtdldkkoplgkloaaGreatPa12
namespace Go.Proofs.YtdldkkoplgkloaaGreat
set_option linter.unusedVariables false
set_option linter.unusedSimpArgs false
set_option maxRecDepth 100000
set_option maxHeartbeats 32000000
open Go.Value renaming int → ae
open Go.IntKind renaming i64 → aa
namespace bL
open Go.RowKit Go.Deep base obj mem sep aW num bytes bC chain image bN
def da (a:dF) (t:aY) (p:Int) (i:aq) (A:Option Addr) (c:Nat) (bG:Int):List Value :=
 [ae aa t.frame,.slice a.AP t.parts.length a.cP,.slice a.AW t.aJ.length a.cW,.slice a.AC t.av.length a.cC,ae aa t.ay,ae aa p,
  ae aa i.part,ae aa i.version,ae aa i.aV,ae aa i.mem,ae aa i.fuel,ae aa i.aM,ae aa i.ax,.slice A i.code.length c,ae aa bG]
section
variable {w : World} {a : dF} {t : aY} {p : Nat} {i : aq} {A : Option Addr} {c : Nat} {bG : Int}
theorem wR {Z:Nat} {w1:World} (h:Row w1 Z 172 (da a t p i A c bG)):w1.cell? ⟨Z,0,none⟩=some (ae aa t.frame)∧w1.cell? ⟨Z,1,none⟩=some (.slice a.AP t.parts.length a.cP)∧w1.cell? ⟨Z,2,none⟩=some (.slice a.AW t.aJ.length a.cW)∧w1.cell? ⟨Z,3,none⟩=some (.slice a.AC t.av.length a.cC)∧w1.cell? ⟨Z,4,none⟩=some (ae aa t.ay)∧w1.cell? ⟨Z,5,none⟩=some (ae aa p)∧
  w1.cell? ⟨Z,6,none⟩=some (ae aa i.part)∧w1.cell? ⟨Z,7,none⟩=some (ae aa i.version)∧w1.cell? ⟨Z,8,none⟩=some (ae aa i.aV)∧w1.cell? ⟨Z,9,none⟩=some (ae aa i.mem)∧w1.cell? ⟨Z,10,none⟩=some (ae aa i.fuel)∧w1.cell? ⟨Z,11,none⟩=some (ae aa i.aM)∧w1.cell? ⟨Z,12,none⟩=some (ae aa i.ax)∧w1.cell? ⟨Z,13,none⟩=some (.slice A i.code.length c)∧w1.cell? ⟨Z,14,none⟩=some (ae aa bG)∧Z < w1.heap.size :=
 ⟨h.cell 0,h.cell 1,h.cell 2,h.cell 3,h.cell 4,h.cell 5,h.cell 6,h.cell 7,h.cell 8,h.cell 9,h.cell 10,h.cell 11,h.cell 12,h.cell 13,h.cell 14,h.lt⟩
theorem wB (h:ko w a t) (hp:p < t.parts.length):Calls Tryz.prog 154 #[.agg (da a t p i A c bG).toArray] w fun e w'=>e=.returned (.agg (T3.cells t.parts[p]).toArray)∧Below w.heap.size w w':=by
 obtain ⟨Z,hZ⟩:=xE w.heap.size;obtain ⟨w1,aF⟩:∃w1,w1=(w.alloc (.cells (da a t p i A c bG).toArray 172)).alloc (.cells #[ae aa 0,ae aa 0,ae aa 0] 147):=⟨_,rfl⟩
 have H1:=af (show St w w1 [row Z 172 (da a t p i A c bG),row (Z+1) 147 [ae aa 0,ae aa 0,ae aa 0]] by
  have h:=((St.nil w).new 172 (da a t p i A c bG).toArray).new 147 #[ae aa 0,ae aa 0,ae aa 0];rw [show (w.alloc (.cells (da a t p i A c bG).toArray 172)).heap.size=Z+1 by rw [hZ];exact Array.size_push _,←hZ,←aF] at h
  exact h.swap)
 obtain ⟨b,off,hA,cm,c0,c1,c2⟩:=jE (h.over H1.o.aE).ps rfl hp;have br:=af aF;have HZ:=af hZ;have HA:=af hA;generalize t.parts[p]=x at *;obtain ⟨xa,xb,xc⟩:=x;simp only [T3.cells] at *;obtain ⟨r0,r1,r2,r3,r4,r5,r6,r7,r8,r9,r10,r11,r12,r13,r14,lZ⟩:=wR H1.o.row.1;have lY:=H1.o.swap.row.1.lt;have HR:=af H1.o.swap.row.1;have k0:(0:Int)≤(p:Int):=by omega
 have k1:(p:Int) < (t.parts.length:Int):=by omega
 rw [hA] at r1;simp only [da,hA] at br ⊢;generalize t.parts.length=nP at *;generalize t.aJ.length=nW,t.av.length=nC,t.frame=fr,t.ay=tr at *;clear aF hZ h hA;go_enter Tryz.func154,Tryz.ntmps154;go_upto_region 1 with fail;rw [←br.o,←HZ.o];go_wp2_with (refine aB rfl 147 (.tmp 2) (.tmp 9) rfl (Z+1) 0 #[ae aa xa,ae aa xb,ae aa xc] rfl rfl HR.o (by kernel_rfl) (by simp) (by simp [Value.oneCell']) [ae aa xa,ae aa xb,ae aa xc] (by simp) ?_);have h:=H1.o.swap.setRow [ae aa xa,ae aa xb,ae aa xc];refine bodyPost_ret (v:=.agg #[ae aa xa,ae aa xb,ae aa xc]) (results_cell_row rfl _ _ (Z+1) _ _ _ _ rfl (h.row.1) Tryz.underlying147 rfl (by kernel_rfl)) rfl ?_;exact ⟨rfl,h.aE⟩
theorem acU (a b c:Int) (w:World):(Instr.field 147 (.agg #[ae aa a,ae aa b,ae aa c]) 0).run Tryz.prog w=.ok (ae aa a) w:=by kernel_rfl
theorem acT (a b c:Int) (w:World):(Instr.field 147 (.agg #[ae aa a,ae aa b,ae aa c]) 1).run Tryz.prog w=.ok (ae aa b) w:=by kernel_rfl
theorem acS (a b c:Int) (w:World):(Instr.field 147 (.agg #[ae aa a,ae aa b,ae aa c]) 2).run Tryz.prog w=.ok (ae aa c) w:=by kernel_rfl
theorem Vo (h:ko w a t) (hp:p < t.parts.length):Calls Tryz.prog 105 #[.agg (da a t p i A c bG).toArray] w fun e w'=>e=.returned (.bool (decide (bG < i.version)))∧Below w.heap.size w w':=by
 obtain ⟨Z,hZ⟩:=xE w.heap.size;obtain ⟨w1,aF⟩:=xE (w.alloc (.cells (da a t p i A c bG).toArray 172))
 have H1:=af (show St w w1 [row Z 172 (da a t p i A c bG)] by
  have h:=(St.nil w).new 172 (da a t p i A c bG).toArray;rw [←hZ,←aF] at h
  exact h)
 have HR:=af (fun (w':World) (hb:Below w1.heap.size w1 w')=>wR (H1.o.row.1.below hb H1.o.row.1.lt));have br:=af aF;have HZ:=af hZ;simp only [da,T3.cells] at br HR ⊢;generalize t.parts.length=nP,t.aJ.length=nW,t.av.length=nC,t.frame=fr,t.ay=tr,i.part=i0,i.version=i1,i.aV=i2,i.mem=i3,i.fuel=i4,i.aM=i5,i.ax=i6,i.code.length=i7 at *;clear aF hZ h;obtain ⟨r0,r1,r2,r3,r4,r5,r6,r7,r8,r9,r10,r11,r12,r13,r14,lZ⟩:=HR.o w1 (Below.refl _ _);go_enter Tryz.func105,Tryz.ntmps105;go_upto_region 1 with fail;rw [←br.o,←HZ.o];go_wp2_with fail;go_ret;exact ⟨rfl,H1.o.aE⟩
theorem Yr (h:ko w a t) (hp:p < t.parts.length):Calls Tryz.prog 102 #[.agg (da a t p i A c bG).toArray] w fun e w'=>e=.returned (.bool (decide (i.part=p∧i.aV=t.parts[p].c)))∧Below w.heap.size w w':=by
 obtain ⟨Z,hZ⟩:=xE w.heap.size;obtain ⟨w1,aF⟩:=xE (w.alloc (.cells (da a t p i A c bG).toArray 172))
 have H1:=af (show St w w1 [row Z 172 (da a t p i A c bG)] by
  have h:=(St.nil w).new 172 (da a t p i A c bG).toArray;rw [←hZ,←aF] at h
  exact h)
 have HR:=af (fun (w':World) (hb:Below w1.heap.size w1 w')=>wR (H1.o.row.1.below hb H1.o.row.1.lt));have HO:=af (fun (w':World) (hb:Below w.heap.size w w')=>wB (p:=p) (i:=i) (A:=A) (c:=c) (bG:=bG) (h.over hb) hp);have br:=af aF;have HZ:=af hZ;simp only [da,T3.cells] at br HR HO ⊢;generalize t.parts[p]=x at *;obtain ⟨xa,xb,xc⟩:=x;simp only at HO ⊢;generalize t.parts.length=nP,t.aJ.length=nW,t.av.length=nC,t.frame=fr,t.ay=tr,i.part=i0,i.version=i1,i.aV=i2,i.mem=i3,i.fuel=i4,i.aM=i5,i.ax=i6,i.code.length=i7 at *;clear aF hZ h;obtain ⟨r0,r1,r2,r3,r4,r5,r6,r7,r8,r9,r10,r11,r12,r13,r14,lZ⟩:=HR.o w1 (Below.refl _ _);go_enter Tryz.func102,Tryz.ntmps102;go_upto_region 1 with fail;rw [←br.o,←HZ.o];go_wp2_with fail;have xW:=acS xa xb xc;have HW:=af H1.o.aE;by_cases h0:i0=(p:Int)
 ·have e0:(i0==(p:Int))=true:=by simpa using h0
  have E0:=af h0;clear h0;refine eb (fun w'=>w'.cell? ⟨Z,0,none⟩=some (ae aa fr)∧w'.cell? ⟨Z,1,none⟩=some (.slice a.AP nP a.cP)∧w'.cell? ⟨Z,2,none⟩=some (.slice a.AW nW a.cW)∧w'.cell? ⟨Z,3,none⟩=some (.slice a.AC nC a.cC)∧w'.cell? ⟨Z,4,none⟩=some (ae aa tr)∧w'.cell? ⟨Z,5,none⟩=some (ae aa p)∧w'.cell? ⟨Z,6,none⟩=some (ae aa i0)∧w'.cell? ⟨Z,7,none⟩=some (ae aa i1)∧w'.cell? ⟨Z,8,none⟩=some (ae aa i2)∧w'.cell? ⟨Z,9,none⟩=some (ae aa i3)∧w'.cell? ⟨Z,10,none⟩=some (ae aa i4)∧w'.cell? ⟨Z,11,none⟩=some (ae aa i5)∧w'.cell? ⟨Z,12,none⟩=some (ae aa i6)∧w'.cell? ⟨Z,13,none⟩=some (.slice A i7 c)∧w'.cell? ⟨Z,14,none⟩=some (ae aa bG)∧Z < w'.heap.size) (by kernel_rfl) (HR.o w1.drew (Below.refl w1.heap.size w1).drew) (fun bJ=>?_);(refine ah 0 ?_;(try simp only [ai]));(refine ah 1 ?_;(try simp only [ai]));(refine ah 2 ?_;(try simp only [ai]));(refine ah 3 ?_;(try simp only [ai]));(refine ah 4 ?_;(try simp only [ai]));(refine ah 5 ?_;(try simp only [ai]));(refine ah 6 ?_;(try simp only [ai]));(refine ah 7 ?_;(try simp only [ai]));(refine ah 8 ?_;(try simp only [ai]));(refine ah 9 ?_;(try simp only [ai]));(refine ah 10 ?_;(try simp only [ai]));(refine dQ 11 ?_;(try simp only [xG]);go_simp);refine (HO.o w1.drew HW.o.drew).mono ?_;rintro e w2 ⟨rfl,hb⟩;have sQ:=af (((Below.refl w1.heap.size w1).drew).trans (hb.mono ((Below.refl w1.heap.size w1).drew).size));clear hb;dsimp only;(refine cu (HR.o w2 sQ.o) (fun bJ=>?_);(try simp only [ai]));(refine ah 12 ?_;(try simp only [ai]));(refine ah 13 ?_;(try simp only [ai]));(refine ah 14 ?_;(try simp only [ai]));(refine ah 15 ?_;(try simp only [ai]));refine dw (by kernel_rfl) ?_;go_wp2_with fail;go_ret;exact ⟨aA (by simp only [E0.o,true_and];rfl),HW.o.trans (sQ.o.mono HW.o.size)⟩
 ·have e0:(i0==(p:Int))=false:=by simpa using h0
  have E0:=af h0;clear h0;refine eb (fun w'=>w'.cell? ⟨Z,0,none⟩=some (ae aa fr)∧w'.cell? ⟨Z,1,none⟩=some (.slice a.AP nP a.cP)∧w'.cell? ⟨Z,2,none⟩=some (.slice a.AW nW a.cW)∧w'.cell? ⟨Z,3,none⟩=some (.slice a.AC nC a.cC)∧w'.cell? ⟨Z,4,none⟩=some (ae aa tr)∧w'.cell? ⟨Z,5,none⟩=some (ae aa p)∧w'.cell? ⟨Z,6,none⟩=some (ae aa i0)∧w'.cell? ⟨Z,7,none⟩=some (ae aa i1)∧w'.cell? ⟨Z,8,none⟩=some (ae aa i2)∧w'.cell? ⟨Z,9,none⟩=some (ae aa i3)∧w'.cell? ⟨Z,10,none⟩=some (ae aa i4)∧w'.cell? ⟨Z,11,none⟩=some (ae aa i5)∧w'.cell? ⟨Z,12,none⟩=some (ae aa i6)∧w'.cell? ⟨Z,13,none⟩=some (.slice A i7 c)∧w'.cell? ⟨Z,14,none⟩=some (ae aa bG)∧Z < w'.heap.size) (by kernel_rfl) (HR.o w1.drew (Below.refl w1.heap.size w1).drew) (fun bJ=>?_);(refine ah 0 ?_;(try simp only [ai]));(refine ah 1 ?_;(try simp only [ai]));(refine ah 2 ?_;(try simp only [ai]));(refine ah 3 ?_;(try simp only [ai]));(refine ah 4 ?_;(try simp only [ai]));(refine ah 5 ?_;(try simp only [ai]));(refine ah 6 ?_;(try simp only [ai]));(refine az 7 (by kernel_rfl) (fun _ _ _ _ _ h=>h) (by rfl) (by assumption) ?_;(try simp only [ai]));(refine az 8 (by kernel_rfl) (fun _ _ _ _ _ h=>h) (by rfl) (by assumption) ?_;(try simp only [ai]));(refine az 9 (by kernel_rfl) (fun _ _ _ _ _ h=>h) (by rfl) (by assumption) ?_;(try simp only [ai]));(refine az 10 (by kernel_rfl) (fun _ _ _ _ _ h=>h) (by rfl) (by assumption) ?_;(try simp only [ai]));(refine az 11 (by kernel_rfl) (fun _ _ _ _ _ h=>h) (by rfl) (by assumption) ?_;(try simp only [ai]));(refine az 12 (by kernel_rfl) (fun _ _ _ _ _ h=>h) (by rfl) (by assumption) ?_;(try simp only [ai]));(refine az 13 (by kernel_rfl) (fun _ _ _ _ _ h=>h) (by rfl) (by assumption) ?_;(try simp only [ai]));(refine ah 14 ?_;(try simp only [ai]));(refine ah 15 ?_;(try simp only [ai]));refine dw (by kernel_rfl) ?_;go_wp2_with fail;go_ret;exact ⟨aA (by simp [E0.o]),HW.o.drew⟩
theorem UL (h:ko w a t) (hp:p < t.parts.length):Calls Tryz.prog 103 #[.agg (da a t p i A c bG).toArray] w fun e w'=>e=.returned (.bool (decide (i.mem≤t.parts[p].a∧i.fuel≤t.parts[p].b)))∧Below w.heap.size w w':=by
 obtain ⟨Z,hZ⟩:=xE w.heap.size;obtain ⟨w1,aF⟩:=xE (w.alloc (.cells (da a t p i A c bG).toArray 172))
 have H1:=af (show St w w1 [row Z 172 (da a t p i A c bG)] by
  have h:=(St.nil w).new 172 (da a t p i A c bG).toArray;rw [←hZ,←aF] at h
  exact h)
 have HR:=af (fun (w':World) (hb:Below w1.heap.size w1 w')=>wR (H1.o.row.1.below hb H1.o.row.1.lt));have HO:=af (fun (w':World) (hb:Below w.heap.size w w')=>wB (p:=p) (i:=i) (A:=A) (c:=c) (bG:=bG) (h.over hb) hp);have br:=af aF;have HZ:=af hZ;simp only [da,T3.cells] at br HR HO ⊢;generalize t.parts[p]=x at *;obtain ⟨xa,xb,xc⟩:=x;simp only at HO ⊢;generalize t.parts.length=nP,t.aJ.length=nW,t.av.length=nC,t.frame=fr,t.ay=tr,i.part=i0,i.version=i1,i.aV=i2,i.mem=i3,i.fuel=i4,i.aM=i5,i.ax=i6,i.code.length=i7 at *;clear aF hZ h;obtain ⟨r0,r1,r2,r3,r4,r5,r6,r7,r8,r9,r10,r11,r12,r13,r14,lZ⟩:=HR.o w1 (Below.refl _ _);go_enter Tryz.func103,Tryz.ntmps103;go_upto_region 1 with fail;rw [←br.o,←HZ.o];go_wp2_with fail;have ad6:=acU xa xb xc;have ad5:=acT xa xb xc;have HW:=af H1.o.aE;refine eb (fun w'=>w'.cell? ⟨Z,0,none⟩=some (ae aa fr)∧w'.cell? ⟨Z,1,none⟩=some (.slice a.AP nP a.cP)∧w'.cell? ⟨Z,2,none⟩=some (.slice a.AW nW a.cW)∧w'.cell? ⟨Z,3,none⟩=some (.slice a.AC nC a.cC)∧w'.cell? ⟨Z,4,none⟩=some (ae aa tr)∧w'.cell? ⟨Z,5,none⟩=some (ae aa p)∧w'.cell? ⟨Z,6,none⟩=some (ae aa i0)∧w'.cell? ⟨Z,7,none⟩=some (ae aa i1)∧w'.cell? ⟨Z,8,none⟩=some (ae aa i2)∧w'.cell? ⟨Z,9,none⟩=some (ae aa i3)∧w'.cell? ⟨Z,10,none⟩=some (ae aa i4)∧w'.cell? ⟨Z,11,none⟩=some (ae aa i5)∧w'.cell? ⟨Z,12,none⟩=some (ae aa i6)∧w'.cell? ⟨Z,13,none⟩=some (.slice A i7 c)∧w'.cell? ⟨Z,14,none⟩=some (ae aa bG)∧Z < w'.heap.size) (by kernel_rfl) (HR.o w1.drew (Below.refl w1.heap.size w1).drew) (fun bJ=>?_);(refine ah 0 ?_;(try simp only [ai]));(refine ah 1 ?_;(try simp only [ai]));(refine ah 2 ?_;(try simp only [ai]));(refine ah 3 ?_;(try simp only [ai]));(refine dQ 4 ?_;(try simp only [xG]);go_simp);refine (HO.o w1.drew HW.o.drew).mono ?_;rintro e w2 ⟨rfl,hb⟩;have sQ:=af (((Below.refl w1.heap.size w1).drew).trans (hb.mono ((Below.refl w1.heap.size w1).drew).size));clear hb;dsimp only;(refine cu (HR.o w2 sQ.o) (fun bJ=>?_);(try simp only [ai]));by_cases h0:i3≤xa
 ·have e0:decide (i3≤xa)=true:=by simpa using h0
  have E0:=af h0;clear h0;(refine ah 5 ?_;(try simp only [ai]));(refine ah 6 ?_;(try simp only [ai]));(refine ah 7 ?_;(try simp only [ai]));(refine ah 8 ?_;(try simp only [ai]));(refine ah 9 ?_;(try simp only [ai]));(refine ah 10 ?_;(try simp only [ai]));(refine ah 11 ?_;(try simp only [ai]));(refine dQ 12 ?_;(try simp only [xG]);go_simp);refine (HO.o w2 (HW.o.trans (sQ.o.mono HW.o.size))).mono ?_;rintro e w3 ⟨rfl,hb⟩;have MJ:=af ((sQ.o).trans (hb.mono (sQ.o).size));clear hb;dsimp only;(refine cu (HR.o w3 MJ.o) (fun bJ=>?_);(try simp only [ai]));(refine ah 13 ?_;(try simp only [ai]));(refine ah 14 ?_;(try simp only [ai]));(refine ah 15 ?_;(try simp only [ai]));(refine ah 16 ?_;(try simp only [ai]));refine dw (by kernel_rfl) ?_;go_wp2_with fail;go_ret;exact ⟨aA (by simp [E0.o]),HW.o.trans (MJ.o.mono HW.o.size)⟩
 ·have e0:decide (i3≤xa)=false:=by simpa using h0
  have E0:=af h0;clear h0;(refine ah 5 ?_;(try simp only [ai]));(refine ah 6 ?_;(try simp only [ai]));(refine ah 7 ?_;(try simp only [ai]));(refine az 8 (by kernel_rfl) (fun _ _ _ _ _ h=>h) (by rfl) (by assumption) ?_;(try simp only [ai]));(refine az 9 (by kernel_rfl) (fun _ _ _ _ _ h=>h) (by rfl) (by assumption) ?_;(try simp only [ai]));(refine az 10 (by kernel_rfl) (fun _ _ _ _ _ h=>h) (by rfl) (by assumption) ?_;(try simp only [ai]));(refine az 11 (by kernel_rfl) (fun _ _ _ _ _ h=>h) (by rfl) (by assumption) ?_;(try simp only [ai]));(refine az 12 (by kernel_rfl) (fun _ _ _ _ _ h=>h) (by rfl) (by assumption) ?_;(try simp only [ai]));(refine az 13 (by kernel_rfl) (fun _ _ _ _ _ h=>h) (by rfl) (by assumption) ?_;(try simp only [ai]));(refine az 14 (by kernel_rfl) (fun _ _ _ _ _ h=>h) (by rfl) (by assumption) ?_;(try simp only [ai]));(refine ah 15 ?_;(try simp only [ai]));(refine ah 16 ?_;(try simp only [ai]));refine dw (by kernel_rfl) ?_;go_wp2_with fail;go_ret;exact ⟨aA (by simp [E0.o]),HW.o.trans (sQ.o.mono HW.o.size)⟩
end
section
variable {w : World} {a : dF} {t : aY} {p : Nat} {i : aq} {A : Option Addr} {c : Nat} {bG : Int}
theorem B0 (h:ko w a t) (q:Int):Calls Tryz.prog 101 #[a.val t,ae aa q] w fun e w'=>e=.returned (.bool (decide (0≤q∧q < t.parts.length)))∧Below w.heap.size w w':=by
 obtain ⟨Z,hZ⟩:=xE w.heap.size;obtain ⟨w1,aF⟩:=xE (w.alloc (.cells #[ae aa t.frame,.slice a.AP t.parts.length a.cP,.slice a.AW t.aJ.length a.cW,.slice a.AC t.av.length a.cC,ae aa t.ay] 46))
 have H1:=af (show St w w1 [row Z 46 [ae aa t.frame,.slice a.AP t.parts.length a.cP,.slice a.AW t.aJ.length a.cW,.slice a.AC t.av.length a.cC,ae aa t.ay]] by
  have h:=(St.nil w).new 46 #[ae aa t.frame,.slice a.AP t.parts.length a.cP,.slice a.AW t.aJ.length a.cW,.slice a.AC t.av.length a.cC,ae aa t.ay];rw [←hZ,←aF] at h
  exact h)
 have c1:=H1.o.row.1.c1;have lZ:=H1.o.row.1.lt;have br:=af aF;have HZ:=af hZ;simp only [dF.val] at br ⊢;generalize t.parts.length=nP,t.aJ.length=nW,t.av.length=nC,t.frame=fr,t.ay=tr at *;clear aF hZ h;go_enter Tryz.func101,Tryz.ntmps101;go_upto_region 1 with fail;rw [←br.o,←HZ.o];by_cases h0:0≤q
 ·have k0:(0:Int)≤q:=h0;have E0:=af h0;go_wp2_with fail;go_ret;exact ⟨aA (by simp [E0.o]),H1.o.aE⟩
 ·have k0:¬(0:Int)≤q:=h0;have E0:=af h0;go_wp2_with fail;go_ret;exact ⟨aA (by have:=E0.o;simp;omega),H1.o.aE⟩
def jd (f:T3→Int) (p:Int) (l:List T3):Nat→Nat
 | 0=>0
 | k+1=>jd f p l k+(if f (l.getD k ⟨0,0,0⟩)=p then 2 ^ k else 0)
theorem C6 (f:T3→Int) (p:Int) (l:List T3):∀k,jd f p l k < 2 ^ k
 | 0=>by simp [jd]
 | k+1=>by have:=C6 f p l k;simp only [jd,Nat.pow_succ];split<;>omega
theorem XV (x:T3) (w:World):Calls Tryz.prog 187 #[x.agg] w fun e w'=>e=.returned (ae aa x.a)∧Below w.heap.size w w':=by
 obtain ⟨xa,xb,xc⟩:=x;have hb:=(Below.refl w.heap.size w).alloc (Nat.le_refl _) (.cells #[ae aa xa,ae aa xb,ae aa xc] 152);go_enter Tryz.func187,Tryz.ntmps187;go_wp2_with fail;go_ret;exact ⟨rfl,hb⟩
theorem Pk (x:T3) (w:World):Calls Tryz.prog 188 #[x.agg] w fun e w'=>e=.returned (ae aa x.b)∧Below w.heap.size w w':=by
 obtain ⟨xa,xb,xc⟩:=x;have hb:=(Below.refl w.heap.size w).alloc (Nat.le_refl _) (.cells #[ae aa xa,ae aa xb,ae aa xc] 152);go_enter Tryz.func188,Tryz.ntmps188;go_wp2_with fail;go_ret;exact ⟨rfl,hb⟩
theorem Vc (j:Nat) (hj:j < 4):wrap64 ((2:Int) ^ j)=((2 ^ j:Nat):Int):=by
 have:∀j:Nat,j < 4→wrap64 ((2:Int) ^ j)=((2 ^ j:Nat):Int):=by decide +kernel
 exact this j hj
theorem Fj (s k:Nat) (hk:k < 4) (hs:s < 2 ^ k):Go.bits .or .i64 (s:Int) ((2 ^ k:Nat):Int)=((s+2 ^ k:Nat):Int):=by
 have:∀k:Nat,k < 4→∀s:Nat,s < 2 ^ k→Go.bits .or .i64 (s:Int) ((2 ^ k:Nat):Int)=((s+2 ^ k:Nat):Int):=by decide +kernel
 exact this k hk s hs
theorem DL (h:ko w a t) (hr:t.right=true) (hp:p < t.parts.length) (F:Nat) (f:T3→Int) (pM:∀(w':World) (x:T3),(callFunc F #[x.agg]).run Tryz.prog w'=.ok (.enter F #[x.agg]) w')
  (hf:∀(x:T3) (w':World),Calls Tryz.prog F #[x.agg] w' fun e mf=>e=.returned (ae aa (f x))∧Below w'.heap.size w' mf) :
  Calls Tryz.prog 186 #[a.val t,ae aa p,.func (Fn.func F) #[] #[]] w fun e w'=>e=.returned (ae aa (jd f p t.av t.av.length:Nat))∧Below w.heap.size w w':=by
 have y9:=(aY.r hr).nc;have eR:=af (fun w' (hb:Below w.heap.size w w')=>fR (h.over hb));have qH:=af (fun w' (hb:Below w.heap.size w w')=>B0 (h.over hb) (p:Int));rw [show decide (0≤(p:Int)∧(p:Int) < t.parts.length)=true by simp;omega] at qH;rw [hr] at eR;have nZ:=af (fun w' (hb:Below w.heap.size w w')=>(h.over hb).cs);obtain ⟨Z,hZ⟩:=xE w.heap.size;obtain ⟨w1,aF⟩:=xE (w.alloc (.cells #[ae aa t.frame,.slice a.AP t.parts.length a.cP,.slice a.AW t.aJ.length a.cW,.slice a.AC t.av.length a.cC,ae aa t.ay] 46))
 have H1:=af (show St w w1 [row Z 46 [ae aa t.frame,.slice a.AP t.parts.length a.cP,.slice a.AW t.aJ.length a.cW,.slice a.AC t.av.length a.cC,ae aa t.ay]] by
  have h:=(St.nil w).new 46 #[ae aa t.frame,.slice a.AP t.parts.length a.cP,.slice a.AW t.aJ.length a.cW,.slice a.AC t.av.length a.cC,ae aa t.ay];rw [←hZ,←aF] at h
  exact h)
 have br:=af aF;have HZ:=af hZ;simp only [dF.val] at br qH ⊢;obtain ⟨nC,qA⟩:=xE t.av.length;have yg:=af qA;rw [←qA] at y9;simp only [←qA] at eR qH nZ H1 br ⊢;generalize t.parts.length=nP,t.aJ.length=nW,t.frame=fr,t.ay=tr at *;clear aF hZ h qA;have pq:=af (fun (w':World) (hb:Below w1.heap.size w1 w')=>H1.o.row.1.below hb H1.o.row.1.lt)
 have rows:∀w',Below w1.heap.size w1 w'→w'.cell? ⟨Z,0,none⟩=some (ae aa fr)∧w'.cell? ⟨Z,1,none⟩=some (.slice a.AP nP a.cP)∧w'.cell? ⟨Z,2,none⟩=some (.slice a.AW nW a.cW)∧w'.cell? ⟨Z,3,none⟩=some (.slice a.AC nC a.cC)∧w'.cell? ⟨Z,4,none⟩=some (ae aa tr)∧Z < w'.heap.size :=
  fun w' hb=>⟨(pq.o w' hb).cell 0,(pq.o w' hb).cell 1,(pq.o w' hb).cell 2,(pq.o w' hb).cell 3,(pq.o w' hb).cell 4,(pq.o w' hb).lt⟩
 have dr:=af rows;clear rows;obtain ⟨t0,t1,t2,t3,t4,lZ⟩:=dr.o w1 (Below.refl _ _);go_enter Tryz.func186,Tryz.ntmps186;go_upto_region 1 with fail;rw [←br.o,←HZ.o];go_wp2_with fail;refine (eR.o w1 H1.o.aE).mono ?_;rintro e w2 ⟨rfl,bT⟩;have aO:=af bT;clear t0 t1 t2 t3 t4 lZ bT;obtain ⟨t0,t1,t2,t3,t4,lZ⟩:=dr.o w2 aO.o;go_wp2_with fail;refine (qH.o w2 (H1.o.aE.trans (aO.o.mono H1.o.aE.size))).mono ?_;rintro e w3 ⟨rfl,lA⟩;have bM:=af (aO.o.trans (lA.mono aO.o.size));clear t0 t1 t2 t3 t4 lZ lA;obtain ⟨t0,t1,t2,t3,t4,lZ⟩:=dr.o w3 bM.o;go_wp2_with fail;go_loopw [22,7] (fun i s wr=>∃j:Nat,j≤nC∧i=ae aa j∧s=ae aa (jd f p t.av j:Nat)∧Below w1.heap.size w1 wr) (fun i _ _=>nC-(intOf i).toNat)
 case atStart=>exact ⟨0,by omega,rfl,rfl,bM.o⟩
 case round =>
  obtain ⟨j,hj,rfl,rfl,qL⟩:=hrel;have dz:=af qL;clear t0 t1 t2 t3 t4 lZ qL;by_cases aH:j < nC
  ·have dJ:j < t.av.length:=by have:=yg.o;omega
   obtain ⟨b,off,hA,cm,c0,c1,c2⟩:=jE (nZ.o wr (H1.o.aE.trans (dz.o.mono H1.o.aE.size))) yg.o dJ;have eP:t.av.getD j ⟨0,0,0⟩=t.av[j]:=by simp [dJ]
   have TT:=af (show jd f p t.av (j+1)=jd f p t.av j+(if f t.av[j]=p then 2 ^ j else 0) by rw [jd,eP]);have qC:=C6 f (p:Int) t.av j;have HFX:=af (hf t.av[j]);have SR:=(fun w'=>pM w' t.av[j])
   generalize t.av[j]=x at *;generalize jd f p t.av j=s at *;obtain ⟨xa,xb,xc⟩:=x;simp only at c0 c1 c2;have HA:=af hA;have k0:(0:Int)≤(j:Int):=by omega
   have k1:(j:Int) < (nC:Int):=by omega
   obtain ⟨fx,hfx⟩:=xE (f ⟨xa,xb,xc⟩);rw [←hfx] at TT HFX;have HO:=af (Fj s j (by omega) qC);clear hA eP hfx hf pM;rw [HA.o];go_wp2_with fail;refine (HFX.o _).mono ?_;rintro e w4 ⟨rfl,pO⟩;have fD:=af ((dz.o.trans (((Below.refl wr.heap.size wr).alloc (Nat.le_refl _) _).mono dz.o.size)).trans (pO.mono (Nat.le_trans dz.o.size (by simp))));clear pO SR;by_cases hq:fx=(p:Int)
   ·have AF:(fx==(p:Int))=true:=by simpa using hq
    have HQ:=af (show jd f p t.av (j+1)=s+2 ^ j by rw [TT.o,if_pos hq]);clear hq;have xg:=af (Vc j (by omega));go_wp2_with fail;go_roundw;case rel=>exact ⟨j+1,by omega,by go_num,by rw [xg.o,HO.o,HQ.o],fD.o⟩
    case measure=>simp [intOf];omega
   ·have AF:(fx==(p:Int))=false:=by simpa using hq
    have HQ:=af (show jd f p t.av (j+1)=s by rw [TT.o,if_neg hq];rfl);clear hq;go_wp2_with fail;go_roundw;case rel=>exact ⟨j+1,by omega,by go_num,by rw [HQ.o],fD.o⟩
    case measure=>simp [intOf];omega
  ·have SA:j=nC:=by omega
   have HE:=af (show jd f p t.av nC=jd f p t.av j by rw [SA]);have k1:¬(j:Int) < (nC:Int):=by omega
   clear SA;go_wp2_with fail;go_ret;exact ⟨bx (by rw [HE.o]),H1.o.aE.trans (dz.o.mono H1.o.aE.size)⟩
theorem SS (w':World) (x:T3):(callFunc 187 #[x.agg]).run Tryz.prog w'=.ok (.enter 187 #[x.agg]) w':=by kernel_rfl
theorem Lu (w':World) (x:T3):(callFunc 188 #[x.agg]).run Tryz.prog w'=.ok (.enter 188 #[x.agg]) w':=by kernel_rfl
theorem UO (h:ko w a t) (hr:t.right=true) (hp:p < t.parts.length):Calls Tryz.prog 155 #[a.val t,ae aa p] w fun e w'=>e=.returned (ae aa (jd T3.a p t.av t.av.length:Nat))∧Below w.heap.size w w':=by
 obtain ⟨Z,hZ⟩:=xE w.heap.size;obtain ⟨w1,aF⟩:=xE (w.alloc (.cells #[ae aa t.frame,.slice a.AP t.parts.length a.cP,.slice a.AW t.aJ.length a.cW,.slice a.AC t.av.length a.cC,ae aa t.ay] 46))
 have H1:=af (show St w w1 [row Z 46 [ae aa t.frame,.slice a.AP t.parts.length a.cP,.slice a.AW t.aJ.length a.cW,.slice a.AC t.av.length a.cC,ae aa t.ay]] by
  have h:=(St.nil w).new 46 #[ae aa t.frame,.slice a.AP t.parts.length a.cP,.slice a.AW t.aJ.length a.cW,.slice a.AC t.av.length a.cC,ae aa t.ay];rw [←hZ,←aF] at h
  exact h)
 have JG:=af (DL (h.over H1.o.aE) hr hp 187 T3.a SS XV);have br:=af aF;have HZ:=af hZ;generalize jd T3.a p t.av t.av.length=r at *;simp only [dF.val] at br JG ⊢;generalize t.parts.length=nP,t.aJ.length=nW,t.av.length=nC,t.frame=fr,t.ay=tr at *;have t0:=H1.o.row.1.c0;have t1:=H1.o.row.1.c1;have t2:=H1.o.row.1.c2;have t3:=H1.o.row.1.c3;have t4:=H1.o.row.1.c4;have lT:=H1.o.row.1.lt;clear aF hZ h hr;go_enter Tryz.func155,Tryz.ntmps155;go_upto_region 1 with fail;rw [←br.o,←HZ.o];go_wp2_with fail;refine JG.o.mono ?_;rintro e w2 ⟨rfl,hb⟩;have HB:=af (H1.o.aE.trans (hb.mono H1.o.aE.size));clear hb;go_wp2_with fail;go_ret;exact ⟨rfl,HB.o⟩
theorem MZ (h:ko w a t) (hr:t.right=true) (hp:p < t.parts.length):Calls Tryz.prog 156 #[a.val t,ae aa p] w fun e w'=>e=.returned (ae aa (jd T3.b p t.av t.av.length:Nat))∧Below w.heap.size w w':=by
 obtain ⟨Z,hZ⟩:=xE w.heap.size;obtain ⟨w1,aF⟩:=xE (w.alloc (.cells #[ae aa t.frame,.slice a.AP t.parts.length a.cP,.slice a.AW t.aJ.length a.cW,.slice a.AC t.av.length a.cC,ae aa t.ay] 46))
 have H1:=af (show St w w1 [row Z 46 [ae aa t.frame,.slice a.AP t.parts.length a.cP,.slice a.AW t.aJ.length a.cW,.slice a.AC t.av.length a.cC,ae aa t.ay]] by
  have h:=(St.nil w).new 46 #[ae aa t.frame,.slice a.AP t.parts.length a.cP,.slice a.AW t.aJ.length a.cW,.slice a.AC t.av.length a.cC,ae aa t.ay];rw [←hZ,←aF] at h
  exact h)
 have JG:=af (DL (h.over H1.o.aE) hr hp 188 T3.b Lu Pk);have br:=af aF;have HZ:=af hZ;generalize jd T3.b p t.av t.av.length=r at *;simp only [dF.val] at br JG ⊢;generalize t.parts.length=nP,t.aJ.length=nW,t.av.length=nC,t.frame=fr,t.ay=tr at *;have t0:=H1.o.row.1.c0;have t1:=H1.o.row.1.c1;have t2:=H1.o.row.1.c2;have t3:=H1.o.row.1.c3;have t4:=H1.o.row.1.c4;have lT:=H1.o.row.1.lt;clear aF hZ h hr;go_enter Tryz.func156,Tryz.ntmps156;go_upto_region 1 with fail;rw [←br.o,←HZ.o];go_wp2_with fail;refine JG.o.mono ?_;rintro e w2 ⟨rfl,hb⟩;have HB:=af (H1.o.aE.trans (hb.mono H1.o.aE.size));clear hb;go_wp2_with fail;go_ret;exact ⟨rfl,HB.o⟩
end
section
variable {w : World} {a : dF} {t : aY} {p : Nat} {i : aq} {A : Option Addr} {c : Nat} {bG : Int}
def zF (n:Int) (m:Nat):Bool:=Go.bits .andNot .i64 n (m:Int)==0
theorem Uu (h:ko w a t) (hp:p < t.parts.length) (hr:t.right=true):Calls Tryz.prog 104 #[.agg (da a t p i A c bG).toArray] w fun e w'=>e=.returned (.bool (zF i.aM (jd T3.a p t.av t.av.length)&&zF i.ax (jd T3.b p t.av t.av.length)))∧Below w.heap.size w w':=by
 obtain ⟨Z,hZ⟩:=xE w.heap.size;obtain ⟨w1,aF⟩:=xE (w.alloc (.cells (da a t p i A c bG).toArray 172))
 have H1:=af (show St w w1 [row Z 172 (da a t p i A c bG)] by
  have h:=(St.nil w).new 172 (da a t p i A c bG).toArray;rw [←hZ,←aF] at h
  exact h)
 have HR:=af (fun (w':World) (hb:Below w1.heap.size w1 w')=>wR (H1.o.row.1.below hb H1.o.row.1.lt));have HS:=af (fun (w':World) (hb:Below w.heap.size w w')=>UO (h.over hb) hr hp);have mO:=af (fun (w':World) (hb:Below w.heap.size w w')=>MZ (h.over hb) hr hp);simp only [dF.val] at HS mO;have br:=af aF;have HZ:=af hZ;simp only [da,T3.cells] at br HR HS mO ⊢;generalize jd T3.a p t.av t.av.length=cs,jd T3.b p t.av t.av.length=cr at *;generalize t.parts.length=nP,t.aJ.length=nW,t.av.length=nC,t.frame=fr,t.ay=tr,i.part=i0,i.version=i1,i.aV=i2,i.mem=i3,i.fuel=i4,i.aM=i5,i.ax=i6,i.code.length=i7 at *;clear aF hZ h;obtain ⟨r0,r1,r2,r3,r4,r5,r6,r7,r8,r9,r10,r11,r12,r13,r14,lZ⟩:=HR.o w1 (Below.refl _ _);go_enter Tryz.func104,Tryz.ntmps104;go_upto_region 1 with fail;rw [←br.o,←HZ.o];go_wp2_with fail;have HW:=af H1.o.aE;refine eb (fun w'=>w'.cell? ⟨Z,0,none⟩=some (ae aa fr)∧w'.cell? ⟨Z,1,none⟩=some (.slice a.AP nP a.cP)∧w'.cell? ⟨Z,2,none⟩=some (.slice a.AW nW a.cW)∧w'.cell? ⟨Z,3,none⟩=some (.slice a.AC nC a.cC)∧w'.cell? ⟨Z,4,none⟩=some (ae aa tr)∧w'.cell? ⟨Z,5,none⟩=some (ae aa p)∧w'.cell? ⟨Z,6,none⟩=some (ae aa i0)∧w'.cell? ⟨Z,7,none⟩=some (ae aa i1)∧w'.cell? ⟨Z,8,none⟩=some (ae aa i2)∧w'.cell? ⟨Z,9,none⟩=some (ae aa i3)∧w'.cell? ⟨Z,10,none⟩=some (ae aa i4)∧w'.cell? ⟨Z,11,none⟩=some (ae aa i5)∧w'.cell? ⟨Z,12,none⟩=some (ae aa i6)∧w'.cell? ⟨Z,13,none⟩=some (.slice A i7 c)∧w'.cell? ⟨Z,14,none⟩=some (ae aa bG)∧Z < w'.heap.size) (by kernel_rfl) (HR.o w1.drew (Below.refl w1.heap.size w1).drew) (fun bJ=>?_);(refine ah 0 ?_;(try simp only [ai]));(refine ah 1 ?_;(try simp only [ai]));(refine ah 2 ?_;(try simp only [ai]));(refine ah 3 ?_;(try simp only [ai]));(refine ah 4 ?_;(try simp only [ai]));(refine ah 5 ?_;(try simp only [ai]));(refine ah 6 ?_;(try simp only [ai]));(refine dQ 7 ?_;(try simp only [xG]);go_simp);refine (HS.o w1.drew HW.o.drew).mono ?_;rintro e w2 ⟨rfl,hb⟩;have sQ:=af (((Below.refl w1.heap.size w1).drew).trans (hb.mono ((Below.refl w1.heap.size w1).drew).size));clear hb;dsimp only;(refine cu (HR.o w2 sQ.o) (fun bJ=>?_);(try simp only [ai]));obtain ⟨x,hx⟩:=xE (Go.bits .andNot .i64 i5 (cs:Int));by_cases h0:x=0
 ·have e0:(x==0)=true:=by simpa using h0
  have e1:(Go.bits .andNot .i64 i5 (cs:Int)==0)=true:=by rw [←hx];exact e0
  have E1:=af (show zF i5 cs=true from e1);clear h0 hx;(refine ah 8 ?_;(try simp only [ai]));(refine ah 9 ?_;(try simp only [ai]));(refine ah 10 ?_;(try simp only [ai]));(refine ah 11 ?_;(try simp only [ai]));(refine ah 12 ?_;(try simp only [ai]));(refine ah 13 ?_;(try simp only [ai]));(refine ah 14 ?_;(try simp only [ai]));(refine ah 15 ?_;(try simp only [ai]));(refine ah 16 ?_;(try simp only [ai]));(refine ah 17 ?_;(try simp only [ai]));(refine dQ 18 ?_;(try simp only [xG]);go_simp);refine (mO.o w2 (HW.o.trans (sQ.o.mono HW.o.size))).mono ?_;rintro e w3 ⟨rfl,hb⟩;have MJ:=af ((sQ.o).trans (hb.mono (sQ.o).size));clear hb;dsimp only;(refine cu (HR.o w3 MJ.o) (fun bJ=>?_);(try simp only [ai]));(refine ah 19 ?_;(try simp only [ai]));(refine ah 20 ?_;(try simp only [ai]));(refine ah 21 ?_;(try simp only [ai]));(refine ah 22 ?_;(try simp only [ai]));refine dw (by kernel_rfl) ?_;go_wp2_with fail;go_ret;exact ⟨aA (by rw [E1.o];rfl),HW.o.trans (MJ.o.mono HW.o.size)⟩
 ·have e0:(x==0)=false:=by simpa using h0
  have e1:(Go.bits .andNot .i64 i5 (cs:Int)==0)=false:=by rw [←hx];exact e0
  have E1:=af (show zF i5 cs=false from e1);clear h0 hx;(refine ah 8 ?_;(try simp only [ai]));(refine ah 9 ?_;(try simp only [ai]));(refine ah 10 ?_;(try simp only [ai]));(refine az 11 (by kernel_rfl) (fun _ _ _ _ _ h=>h) (by rfl) (by assumption) ?_;(try simp only [ai]));(refine az 12 (by kernel_rfl) (fun _ _ _ _ _ h=>h) (by rfl) (by assumption) ?_;(try simp only [ai]));(refine az 13 (by kernel_rfl) (fun _ _ _ _ _ h=>h) (by rfl) (by assumption) ?_;(try simp only [ai]));(refine az 14 (by kernel_rfl) (fun _ _ _ _ _ h=>h) (by rfl) (by assumption) ?_;(try simp only [ai]));(refine az 15 (by kernel_rfl) (fun _ _ _ _ _ h=>h) (by rfl) (by assumption) ?_;(try simp only [ai]));(refine az 16 (by kernel_rfl) (fun _ _ _ _ _ h=>h) (by rfl) (by assumption) ?_;(try simp only [ai]));(refine az 17 (by kernel_rfl) (fun _ _ _ _ _ h=>h) (by rfl) (by assumption) ?_;(try simp only [ai]));(refine az 18 (by kernel_rfl) (fun _ _ _ _ _ h=>h) (by rfl) (by assumption) ?_;(try simp only [ai]));(refine az 19 (by kernel_rfl) (fun _ _ _ _ _ h=>h) (by rfl) (by assumption) ?_;(try simp only [ai]));(refine az 20 (by kernel_rfl) (fun _ _ _ _ _ h=>h) (by rfl) (by assumption) ?_;(try simp only [ai]));(refine ah 21 ?_;(try simp only [ai]));(refine ah 22 ?_;(try simp only [ai]));refine dw (by kernel_rfl) ?_;go_wp2_with fail;go_ret;exact ⟨aA (by rw [E1.o];rfl),HW.o.trans (sQ.o.mono HW.o.size)⟩
def partAt (t:aY) (p:Nat):T3:=t.parts.getD p ⟨0,0,0⟩
def fV (t:aY) (p:Nat) (i:aq) (bG:Int):Nat→Bool
 | 0=>decide (i.part=p∧i.aV=(partAt t p).c)
 | 1=>decide (i.mem≤(partAt t p).a∧i.fuel≤(partAt t p).b)
 | 2=>zF i.aM (jd T3.a p t.av t.av.length)&&zF i.ax (jd T3.b p t.av t.av.length)
 | _=>decide (bG < i.version)
def L3 (j:Nat):Nat:=[102,103,104,105].getD j 0
def Hj (j:Nat):Int:=[12,14,15,13].getD j 0
def ot (t:aY) (p:Nat) (i:aq) (bG:Int):Nat→Int
 | 0=>0
 | k+1=>if fV t p i bG (3-k) then ot t p i bG k else Hj (3-k)
def bX (t:aY) (p:Int) (i:aq) (bG:Int):Int :=
 if t.right=false then 9 else if ¬(0≤p∧p < t.parts.length)∨¬i.right then 3 else ot t p.toNat i bG 4
theorem aa1 (h:ko w a t) (hr:t.right=true) (hp:p < t.parts.length) (j:Nat) (hj:j < 4):Calls Tryz.prog (L3 j) #[.agg (da a t p i A c bG).toArray] w fun e w'=>e=.returned (.bool (fV t p i bG j))∧Below w.heap.size w w':=by
 have hg:partAt t p=t.parts[p]:=by simp [partAt,hp]
 rcases (by omega:j=0∨j=1∨j=2∨j=3) with rfl|rfl|rfl|rfl
 ·rw [fV,hg];exact Yr h hp
 ·rw [fV,hg];exact UL h hp
 ·exact Uu h hp hr
 ·exact Vo h hp
theorem Y1 (j:Nat) (hj:j < 4) (w:World):(Instr.index 175 (.agg #[.func (Fn.func 102) #[] #[],ae aa 12,.func (Fn.func 103) #[] #[],ae aa 14,.func (Fn.func 104) #[] #[],ae aa 15,.func (Fn.func 105) #[] #[],ae aa 13]) (ae aa (j:Int))).run Tryz.prog w=.ok (.agg #[.func (Fn.func (L3 j)) #[] #[],ae aa (Hj j)]) w:=by
 rcases (by omega:j=0∨j=1∨j=2∨j=3) with rfl|rfl|rfl|rfl
 ·kernel_rfl
 ·kernel_rfl
 ·kernel_rfl
 ·kernel_rfl
theorem Y2 (j:Nat) (hj:j < 4) (x:Array Value) (w:World):(callFunc (L3 j) #[.agg x]).run Tryz.prog w=.ok (.enter (L3 j) #[.agg x]) w:=by
 rcases (by omega:j=0∨j=1∨j=2∨j=3) with rfl|rfl|rfl|rfl
 ·kernel_rfl
 ·kernel_rfl
 ·kernel_rfl
 ·kernel_rfl
theorem Jc {k:Nat} (hk:k≤4) (h:∀j,4-k≤j→j < 4→fV t p i bG j=true):ot t p i bG k=0:=by
 induction k with
 | zero=>rfl
 | succ k ih =>
   rw [ot,if_pos (h _ (by omega) (by omega))];exact ih (by omega) fun j h1 h2=>h j (by omega) h2
theorem EK {j:Nat} (hj:j < 4) (h:∀k,k < j→fV t p i bG k=true) (hn:fV t p i bG j=false):∀k,4-k≤j→k≤4→ot t p i bG k=Hj j
 | 0,h1,_=>by omega
 | k+1,h1,h2=>by
   rw [ot];by_cases he:3-k=j
   ·rw [he,hn];rfl
   ·rw [if_pos (h _ (by omega))];exact EK hj h hn k (by omega) (by omega)
theorem EL (h:ko w a t) (q:Int) (hc:i.code.length≤9223372036854775807):Calls Tryz.prog 55 #[a.val t,ae aa q,i.val A c,ae aa bG] w fun e w'=>e=.returned (ae aa (bX t q i bG))∧Below w.heap.size w w':=by
 have eR:=af (fun w' (hb:Below w.heap.size w w')=>fR (h.over hb));have qH:=af (fun w' (hb:Below w.heap.size w w')=>B0 (h.over hb) q);have yj:=af (fun w'=>image.fR w' i A c hc);have mP:=af (fun (w':World) (hb:Below w.heap.size w w') (hr:t.right=true) (p:Nat) (hp:p < t.parts.length) (j:Nat) (hj:j < 4)=>aa1 (p:=p) (i:=i) (A:=A) (c:=c) (bG:=bG) (h.over hb) hr hp j hj);obtain ⟨Z,hZ⟩:=xE w.heap.size;obtain ⟨w1,aF⟩:∃w1,w1=(w.alloc (.cells #[ae aa t.frame,.slice a.AP t.parts.length a.cP,.slice a.AW t.aJ.length a.cW,.slice a.AC t.av.length a.cC,ae aa t.ay] 46)).alloc (.cells #[ae aa i.part,ae aa i.version,ae aa i.aV,ae aa i.mem,ae aa i.fuel,ae aa i.aM,ae aa i.ax,.slice A i.code.length c] 26):=⟨_,rfl⟩
 have H1:=af (show St w w1 [row Z 46 [ae aa t.frame,.slice a.AP t.parts.length a.cP,.slice a.AW t.aJ.length a.cW,.slice a.AC t.av.length a.cC,ae aa t.ay],row (Z+1) 26 [ae aa i.part,ae aa i.version,ae aa i.aV,ae aa i.mem,ae aa i.fuel,ae aa i.aM,ae aa i.ax,.slice A i.code.length c]] by
  have h:=((St.nil w).new 46 #[ae aa t.frame,.slice a.AP t.parts.length a.cP,.slice a.AW t.aJ.length a.cW,.slice a.AC t.av.length a.cC,ae aa t.ay]).new 26 #[ae aa i.part,ae aa i.version,ae aa i.aV,ae aa i.mem,ae aa i.fuel,ae aa i.aM,ae aa i.ax,.slice A i.code.length c];rw [show (w.alloc (.cells #[ae aa t.frame,.slice a.AP t.parts.length a.cP,.slice a.AW t.aJ.length a.cW,.slice a.AC t.av.length a.cC,ae aa t.ay] 46)).heap.size=Z+1 by rw [hZ];exact Array.size_push _,←hZ,←aF] at h
  exact h.swap)
 have br:=af aF;have HZ:=af hZ;have HL:=af (show bX t q i bG=if t.right=false then 9 else if ¬(0≤q∧q < t.parts.length)∨¬i.right then 3 else ot t q.toNat i bG 4 from rfl);obtain ⟨L,hL⟩:=xE (bX t q i bG);rw [←hL] at HL ⊢;simp only [dF.val,aq.val,da] at br qH yj mP ⊢;obtain ⟨nP,pL⟩:=xE t.parts.length;obtain ⟨rr,oM⟩:=xE t.right;obtain ⟨ir,xQ⟩:∃v:Bool,v=decide i.right:=⟨_,rfl⟩
 obtain ⟨ck,j9⟩:=xE (fV t q.toNat i bG);have Jz:=af (fun (j:Nat) (hj:j < 4) (h:∀k,k < j→ck k=true) (hn:ck j=false)=>show ot t q.toNat i bG 4=Hj j from EK hj (by rw [←j9];exact h) (by rw [←j9];exact hn) 4 (by omega) (by omega));have o6:=af (fun (h:∀k,k < 4→ck k=true)=>show ot t q.toNat i bG 4=0 from Jc (by omega) (by rw [←j9];exact fun j _ hj=>h j hj));have ER:=af (show i.right ↔ ir=true by rw [xQ];simp);rw [←oM] at eR HL mP;rw [←xQ] at yj;simp only [←pL] at eR qH yj mP HL H1 br ⊢
 have Hl:=af (fun (w':World) (hb:Below w.heap.size w w') (hr:rr=true) (h0:0≤q) (h1:q < nP) (j:Nat) (hj:j < 4)=>by
  have hh:=mP.o w' hb hr q.toNat (by omega) j hj;rw [←j9,show ((q.toNat:Nat):Int)=q by omega] at hh
  exact hh)
 clear mP;generalize t.aJ.length=nW,t.av.length=nC,t.frame=fr,t.ay=tr,i.part=i0,i.version=i1,i.aV=i2,i.mem=i3,i.fuel=i4,i.aM=i5,i.ax=i6,i.code.length=i7,ot t q.toNat i bG 4=L4 at *;clear aF hZ h hL pL oM xQ j9;have pq:=af (fun (w':World) (hb:Below w1.heap.size w1 w')=>H1.o.row.1.below hb H1.o.row.1.lt);have mN:=af (fun (w':World) (hb:Below w1.heap.size w1 w')=>H1.o.swap.row.1.below hb H1.o.swap.row.1.lt)
 have rows:∀w',Below w1.heap.size w1 w'→(w'.cell? ⟨Z,0,none⟩=some (ae aa fr)∧w'.cell? ⟨Z,1,none⟩=some (.slice a.AP nP a.cP)∧w'.cell? ⟨Z,2,none⟩=some (.slice a.AW nW a.cW)∧w'.cell? ⟨Z,3,none⟩=some (.slice a.AC nC a.cC)∧w'.cell? ⟨Z,4,none⟩=some (ae aa tr)∧Z < w'.heap.size)∧
   (w'.cell? ⟨Z+1,0,none⟩=some (ae aa i0)∧w'.cell? ⟨Z+1,1,none⟩=some (ae aa i1)∧w'.cell? ⟨Z+1,2,none⟩=some (ae aa i2)∧w'.cell? ⟨Z+1,3,none⟩=some (ae aa i3)∧w'.cell? ⟨Z+1,4,none⟩=some (ae aa i4)∧w'.cell? ⟨Z+1,5,none⟩=some (ae aa i5)∧w'.cell? ⟨Z+1,6,none⟩=some (ae aa i6)∧w'.cell? ⟨Z+1,7,none⟩=some (.slice A i7 c)∧Z+1 < w'.heap.size) :=
  fun w' hb=>⟨⟨(pq.o w' hb).cell 0,(pq.o w' hb).cell 1,(pq.o w' hb).cell 2,(pq.o w' hb).cell 3,(pq.o w' hb).cell 4,(pq.o w' hb).lt⟩,
   (mN.o w' hb).cell 0,(mN.o w' hb).cell 1,(mN.o w' hb).cell 2,(mN.o w' hb).cell 3,(mN.o w' hb).cell 4,(mN.o w' hb).cell 5,(mN.o w' hb).cell 6,(mN.o w' hb).cell 7,(mN.o w' hb).lt⟩
 have dr:=af rows;have bh:=af H1.o.aE;clear rows H1 pq mN;obtain ⟨⟨t0,t1,t2,t3,t4,lZ⟩,u0,u1,u2,u3,u4,u5,u6,u7,lY⟩:=dr.o w1 (Below.refl _ _);go_enter Tryz.func55,Tryz.ntmps55;go_upto_region 1 with fail;rw [←br.o,←HZ.o];go_wp2_with fail;refine (eR.o w1 bh.o).mono ?_;rintro e w2 ⟨rfl,bT⟩;have aO:=af bT;clear t0 t1 t2 t3 t4 lZ u0 u1 u2 u3 u4 u5 u6 u7 lY bT;obtain ⟨⟨t0,t1,t2,t3,t4,lZ⟩,u0,u1,u2,u3,u4,u5,u6,u7,lY⟩:=dr.o w2 aO.o;have Hm:=af (bh.o.trans (aO.o.mono bh.o.size));cases rr with
 | false =>
   go_wp2_with fail;go_ret;exact ⟨bx (by rw [HL.o];rfl),Hm.o⟩
 | true =>
   go_wp2_with fail;refine (qH.o w2 Hm.o).mono ?_;rintro e w3 ⟨rfl,lA⟩;have bM:=af (aO.o.trans (lA.mono aO.o.size));clear t0 t1 t2 t3 t4 lZ u0 u1 u2 u3 u4 u5 u6 u7 lY lA;obtain ⟨⟨t0,t1,t2,t3,t4,lZ⟩,u0,u1,u2,u3,u4,u5,u6,u7,lY⟩:=dr.o w3 bM.o;have adC:=af (bh.o.trans (bM.o.mono bh.o.size));by_cases hq:0≤q∧q < (nP:Int)
   ·rw [decide_eq_true hq];have HQ:=af hq;clear hq;go_wp2_with fail;refine (yj.o w3).mono ?_;rintro e w4 ⟨rfl,pO⟩;have fD:=af (bM.o.trans (pO.mono bM.o.size));clear t0 t1 t2 t3 t4 lZ u0 u1 u2 u3 u4 u5 u6 u7 lY pO;obtain ⟨⟨t0,t1,t2,t3,t4,lZ⟩,u0,u1,u2,u3,u4,u5,u6,u7,lY⟩:=dr.o w4 fD.o;have Aw:=af (bh.o.trans (fD.o.mono bh.o.size));cases ir with
    | false =>
      go_wp2_with fail;go_ret;exact ⟨bx (by rw [HL.o,if_neg (by simp),if_pos (.inr (by rw [ER.o];simp))]),Aw.o⟩
    | true =>
      have s9:=af (show L=L4 by rw [HL.o,if_neg (by simp),if_neg (by rw [ER.o];simp;exact HQ.o)]);go_wp2_with fail;go_loopw [30] (fun x wr=>∃j:Nat,j≤4∧x=ae aa j∧Below w1.heap.size w1 wr∧∀k,k < j→ck k=true) (fun x _=>4-(intOf x).toNat)
      case atStart=>exact ⟨0,by omega,rfl,fD.o,fun k hk=>absurd hk (by omega)⟩
      case round =>
       obtain ⟨j,hj,rfl,qL,cH⟩:=hrel;have dz:=af qL;have uY:=af cH;clear t0 t1 t2 t3 t4 lZ u0 u1 u2 u3 u4 u5 u6 u7 lY qL cH;by_cases aH:j < 4
       ·obtain ⟨⟨t0,t1,t2,t3,t4,lZ⟩,u0,u1,u2,u3,u4,u5,u6,u7,lY⟩:=dr.o wr dz.o;have N0:=Y1 j aH;have pM:=Y2 j aH;have HC:=af (fun w' hb=>Hl.o w' hb trivial HQ.o.1 HQ.o.2 j aH);have HTJ:=af (fun h=>Jz.o j aH uY.o h);generalize L3 j=F at *;generalize Hj j=E at *;obtain ⟨cj,hcj⟩:=xE (ck j);rw [←hcj] at HC HTJ;have OI:=af hcj;obtain ⟨y,hy⟩:=xE wr.heap.size;obtain ⟨wa,Fy⟩:=xE (wr.alloc (.cells #[.nilFunc,ae aa 0] 174));have qy:Row wa y 174 [.nilFunc,ae aa 0]:=by rw [Fy,hy];exact Row.new wr _ _
        have zg:Below w1.heap.size w1 wa:=by rw [Fy];exact dz.o.trans (((Below.refl wr.heap.size wr).alloc (Nat.le_refl _) _).mono dz.o.size)
        have sB:w1.heap.size≤y:=by rw [hy];exact dz.o.size
        have Gi:=af qy;have uy:=af zg;have Jv:=af sB;have HY:=af hy;have HWA:=af Fy;have k1:(j:Int) < 4:=by omega
        clear hcj zg qy sB hy Fy;go_upto_region 8 with (rw [←HWA.o,←HY.o];refine aB rfl 174 (.tmp 10) (.tmp 32) rfl y 0 #[.func (Fn.func F) #[] #[],ae aa E] rfl rfl Gi.o (by kernel_rfl) (by simp) (by simp [Value.oneCell']) [.func (Fn.func F) #[] #[],ae aa E] (by simp) ?_)
        obtain ⟨wb,uL⟩:=xE (wa.setRow y #[.func (Fn.func F) #[] #[],ae aa E]);have Iy:Row wb y 174 [.func (Fn.func F) #[] #[],ae aa E]:=by rw [uL];exact Gi.o.setRow _
        have nA:Below w1.heap.size w1 wb:=by rw [uL];exact dX uy.o Jv.o _
        rw [←uL];have DZ:=af nA;have HRB:=af Iy;have z0:=Iy.c0;have lz:=Iy.lt;clear t0 t1 t2 t3 t4 lZ u0 u1 u2 u3 u4 u5 u6 u7 lY Iy nA uL;obtain ⟨⟨t0,t1,t2,t3,t4,lZ⟩,u0,u1,u2,u3,u4,u5,u6,u7,lY⟩:=dr.o wb DZ.o;go_wp2_with fail;refine (HC.o _ (bh.o.trans (DZ.o.mono bh.o.size))).mono ?_;rintro e w5 ⟨rfl,ka⟩;have lN:=af (DZ.o.trans (ka.mono DZ.o.size));have bo:=HRB.o.below ka HRB.o.lt;clear z0 lz;have z1:=bo.c1;have lz:=bo.lt;clear t0 t1 t2 t3 t4 lZ u0 u1 u2 u3 u4 u5 u6 u7 lY ka N0 pM bo;cases cj with
        | true =>
          go_wp2_with fail;go_roundw
          case rel =>
           refine ⟨j+1,by omega,by go_num,lN.o,fun k hk=>?_⟩;by_cases za:k=j
           ·rw [za];exact OI.o.symm
           ·exact uY.o k (by omega)
          case measure=>simp [intOf];omega
        | false =>
          go_wp2_with fail;go_ret;exact ⟨bx (by rw [s9.o,HTJ.o trivial]),bh.o.trans (lN.o.mono bh.o.size)⟩
       ·have uO:j=4:=by omega
        have HL4:=af (o6.o (by rw [←uO];exact uY.o));have k1:¬(j:Int) < 4:=by omega
        clear uO;go_wp2_with fail;go_ret;exact ⟨bx (by rw [s9.o,HL4.o]),bh.o.trans (dz.o.mono bh.o.size)⟩
   ·rw [decide_eq_false hq];have HQ:=af hq;clear hq;go_wp2_with fail;go_ret;exact ⟨bx (by rw [HL.o,if_neg (by simp),if_pos (.inl HQ.o)]),adC.o⟩
end
end bL
end Go.Proofs.YtdldkkoplgkloaaGreat
