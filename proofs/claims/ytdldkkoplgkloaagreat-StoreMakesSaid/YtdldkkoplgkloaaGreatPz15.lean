/-
  PROVED HERE: lemmas and contracts that the law's proof leans on (texts put together: Compat, Channels).
  CONDITIONS: each names its own.
-/
import Derived.Test.YtdldkkoplgkloaaGreatPz14
namespace Go.Proofs.YtdldkkoplgkloaaGreat
set_option linter.unusedVariables false
set_option linter.unusedSimpArgs false
set_option maxRecDepth 100000
set_option maxHeartbeats 32000000
namespace compat


open Go.RowKit Go.Deep base obj mem sep plan num bytes crc chain image tab
def askCells (a:TabA) (t:Tab) (p:Int) (i:Img) (A:Option Addr) (c:Nat) (ver:Int):List Value :=
 [.int .i64 t.frame,.slice a.AP t.parts.length a.cP,.slice a.AW t.wins.length a.cW,.slice a.AC t.chans.length a.cC,.int .i64 t.trial,.int .i64 p,
  .int .i64 i.part,.int .i64 i.version,.int .i64 i.hard,.int .i64 i.mem,.int .i64 i.fuel,.int .i64 i.sends,.int .i64 i.receives,.slice A i.code.length c,.int .i64 ver]
section
variable {w : World} {a : TabA} {t : Tab} {p : Nat} {i : Img} {A : Option Addr} {c : Nat} {ver : Int}
theorem ask_read {Z:Nat} {w1:World} (h:Row w1 Z 172 (askCells a t p i A c ver)):w1.cell? ⟨Z,0,none⟩=some (.int .i64 t.frame)∧w1.cell? ⟨Z,1,none⟩=some (.slice a.AP t.parts.length a.cP)∧w1.cell? ⟨Z,2,none⟩=some (.slice a.AW t.wins.length a.cW)∧w1.cell? ⟨Z,3,none⟩=some (.slice a.AC t.chans.length a.cC)∧w1.cell? ⟨Z,4,none⟩=some (.int .i64 t.trial)∧w1.cell? ⟨Z,5,none⟩=some (.int .i64 p)∧
  w1.cell? ⟨Z,6,none⟩=some (.int .i64 i.part)∧w1.cell? ⟨Z,7,none⟩=some (.int .i64 i.version)∧w1.cell? ⟨Z,8,none⟩=some (.int .i64 i.hard)∧w1.cell? ⟨Z,9,none⟩=some (.int .i64 i.mem)∧w1.cell? ⟨Z,10,none⟩=some (.int .i64 i.fuel)∧w1.cell? ⟨Z,11,none⟩=some (.int .i64 i.sends)∧w1.cell? ⟨Z,12,none⟩=some (.int .i64 i.receives)∧w1.cell? ⟨Z,13,none⟩=some (.slice A i.code.length c)∧w1.cell? ⟨Z,14,none⟩=some (.int .i64 ver)∧Z < w1.heap.size :=
 ⟨h.cell 0,h.cell 1,h.cell 2,h.cell 3,h.cell 4,h.cell 5,h.cell 6,h.cell 7,h.cell 8,h.cell 9,h.cell 10,h.cell 11,h.cell 12,h.cell 13,h.cell 14,h.lt⟩
theorem own_at (h:TabW w a t) (hp:p < t.parts.length):Calls Tryz.prog 154 #[.agg (askCells a t p i A c ver).toArray] w fun e w'=>e=.returned (.agg (T3.cells t.parts[p]).toArray)∧Below w.heap.size w w':=by
 obtain ⟨Z,hZ⟩:∃Z,Z=w.heap.size:=⟨_,rfl⟩
 obtain ⟨w1,hw1⟩:∃w1,w1=(w.alloc (.cells (askCells a t p i A c ver).toArray 172)).alloc (.cells #[.int .i64 0,.int .i64 0,.int .i64 0] 147):=⟨_,rfl⟩
 have H1:=Lib.hid (show St w w1 [row Z 172 (askCells a t p i A c ver),row (Z+1) 147 [.int .i64 0,.int .i64 0,.int .i64 0]] by
  have h:=((St.nil w).new 172 (askCells a t p i A c ver).toArray).new 147 #[.int .i64 0,.int .i64 0,.int .i64 0]
  rw [show (w.alloc (.cells (askCells a t p i A c ver).toArray 172)).heap.size=Z+1 by rw [hZ];exact Array.size_push _,←hZ,←hw1] at h
  exact h.swap)
 obtain ⟨b,off,hA,hbl,c0,c1,c2⟩:=t3s_get (h.over H1.out.bel).ps rfl hp
 have HW1:=Lib.hid hw1;have HZ:=Lib.hid hZ;have HA:=Lib.hid hA
 generalize t.parts[p]=x at *
 obtain ⟨xa,xb,xc⟩:=x
 simp only [T3.cells] at *
 obtain ⟨r0,r1,r2,r3,r4,r5,r6,r7,r8,r9,r10,r11,r12,r13,r14,lZ⟩:=ask_read H1.out.row.1
 have lY:=H1.out.swap.row.1.lt
 have HR:=Lib.hid H1.out.swap.row.1
 have k0:(0:Int)≤(p:Int):=by omega
 have k1:(p:Int) < (t.parts.length:Int):=by omega
 rw [hA] at r1
 simp only [askCells,hA] at HW1 ⊢
 generalize t.parts.length=nP at *
 generalize t.wins.length=nW,t.chans.length=nC,t.frame=fr,t.trial=tr at *
 clear hw1 hZ h hA
 go_enter Tryz.func154,Tryz.ntmps154
 go_upto_region 1 with fail
 rw [←HW1.out,←HZ.out]
 go_wp2_with (refine wpList_putR rfl 147 (.tmp 2) (.tmp 9) rfl (Z+1) 0 #[.int .i64 xa,.int .i64 xb,.int .i64 xc] rfl rfl HR.out (by kernel_rfl) (by simp) (by simp [Value.oneCell']) [.int .i64 xa,.int .i64 xb,.int .i64 xc] (by simp) ?_)
 have h:=H1.out.swap.setRow [.int .i64 xa,.int .i64 xb,.int .i64 xc]
 refine bodyPost_ret (v:=.agg #[.int .i64 xa,.int .i64 xb,.int .i64 xc]) (results_cell_row rfl _ _ (Z+1) _ _ _ _ rfl (h.row.1) Tryz.underlying147 rfl (by kernel_rfl)) rfl ?_
 exact ⟨rfl,h.bel⟩

theorem fld0 (a b c:Int) (w:World):(Instr.field 147 (.agg #[.int .i64 a,.int .i64 b,.int .i64 c]) 0).run Tryz.prog w=.ok (.int .i64 a) w:=by kernel_rfl
theorem fld1 (a b c:Int) (w:World):(Instr.field 147 (.agg #[.int .i64 a,.int .i64 b,.int .i64 c]) 1).run Tryz.prog w=.ok (.int .i64 b) w:=by kernel_rfl
theorem fld2 (a b c:Int) (w:World):(Instr.field 147 (.agg #[.int .i64 a,.int .i64 b,.int .i64 c]) 2).run Tryz.prog w=.ok (.int .i64 c) w:=by kernel_rfl
theorem newer_at (h:TabW w a t) (hp:p < t.parts.length):Calls Tryz.prog 105 #[.agg (askCells a t p i A c ver).toArray] w fun e w'=>e=.returned (.bool (decide (ver < i.version)))∧Below w.heap.size w w':=by
 obtain ⟨Z,hZ⟩:∃Z,Z=w.heap.size:=⟨_,rfl⟩
 obtain ⟨w1,hw1⟩:∃w1,w1=w.alloc (.cells (askCells a t p i A c ver).toArray 172):=⟨_,rfl⟩
 have H1:=Lib.hid (show St w w1 [row Z 172 (askCells a t p i A c ver)] by
  have h:=(St.nil w).new 172 (askCells a t p i A c ver).toArray
  rw [←hZ,←hw1] at h
  exact h)
 have HR:=Lib.hid (fun (w':World) (hb:Below w1.heap.size w1 w')=>ask_read (H1.out.row.1.below hb H1.out.row.1.lt))
 have HW1:=Lib.hid hw1;have HZ:=Lib.hid hZ
 simp only [askCells,T3.cells] at HW1 HR ⊢
 generalize t.parts.length=nP,t.wins.length=nW,t.chans.length=nC,t.frame=fr,t.trial=tr,i.part=i0,i.version=i1,i.hard=i2,i.mem=i3,i.fuel=i4,i.sends=i5,i.receives=i6,i.code.length=i7 at *
 clear hw1 hZ h
 obtain ⟨r0,r1,r2,r3,r4,r5,r6,r7,r8,r9,r10,r11,r12,r13,r14,lZ⟩:=HR.out w1 (Below.refl _ _)
 go_enter Tryz.func105,Tryz.ntmps105
 go_upto_region 1 with fail
 rw [←HW1.out,←HZ.out]
 go_wp2_with (fail)
 go_ret
 exact ⟨rfl,H1.out.bel⟩
theorem mine_at (h:TabW w a t) (hp:p < t.parts.length):Calls Tryz.prog 102 #[.agg (askCells a t p i A c ver).toArray] w fun e w'=>e=.returned (.bool (decide (i.part=p∧i.hard=t.parts[p].c)))∧Below w.heap.size w w':=by
 obtain ⟨Z,hZ⟩:∃Z,Z=w.heap.size:=⟨_,rfl⟩
 obtain ⟨w1,hw1⟩:∃w1,w1=w.alloc (.cells (askCells a t p i A c ver).toArray 172):=⟨_,rfl⟩
 have H1:=Lib.hid (show St w w1 [row Z 172 (askCells a t p i A c ver)] by
  have h:=(St.nil w).new 172 (askCells a t p i A c ver).toArray
  rw [←hZ,←hw1] at h
  exact h)
 have HR:=Lib.hid (fun (w':World) (hb:Below w1.heap.size w1 w')=>ask_read (H1.out.row.1.below hb H1.out.row.1.lt))
 have HO:=Lib.hid (fun (w':World) (hb:Below w.heap.size w w')=>own_at (p:=p) (i:=i) (A:=A) (c:=c) (ver:=ver) (h.over hb) hp)
 have HW1:=Lib.hid hw1;have HZ:=Lib.hid hZ
 simp only [askCells,T3.cells] at HW1 HR HO ⊢
 generalize t.parts[p]=x at *
 obtain ⟨xa,xb,xc⟩:=x
 simp only at HO ⊢
 generalize t.parts.length=nP,t.wins.length=nW,t.chans.length=nC,t.frame=fr,t.trial=tr,i.part=i0,i.version=i1,i.hard=i2,i.mem=i3,i.fuel=i4,i.sends=i5,i.receives=i6,i.code.length=i7 at *
 clear hw1 hZ h
 obtain ⟨r0,r1,r2,r3,r4,r5,r6,r7,r8,r9,r10,r11,r12,r13,r14,lZ⟩:=HR.out w1 (Below.refl _ _)
 go_enter Tryz.func102,Tryz.ntmps102
 go_upto_region 1 with fail
 rw [←HW1.out,←HZ.out]
 go_wp2_with (fail)
 have hfl:=fld2 xa xb xc
 have HW:=Lib.hid H1.out.bel
 by_cases h0:i0=(p:Int)
 ·have e0:(i0==(p:Int))=true:=by simpa using h0
  have E0:=Lib.hid h0
  clear h0
  refine held_start (fun w'=>w'.cell? ⟨Z,0,none⟩=some (.int .i64 fr)∧w'.cell? ⟨Z,1,none⟩=some (.slice a.AP nP a.cP)∧w'.cell? ⟨Z,2,none⟩=some (.slice a.AW nW a.cW)∧w'.cell? ⟨Z,3,none⟩=some (.slice a.AC nC a.cC)∧w'.cell? ⟨Z,4,none⟩=some (.int .i64 tr)∧w'.cell? ⟨Z,5,none⟩=some (.int .i64 p)∧w'.cell? ⟨Z,6,none⟩=some (.int .i64 i0)∧w'.cell? ⟨Z,7,none⟩=some (.int .i64 i1)∧w'.cell? ⟨Z,8,none⟩=some (.int .i64 i2)∧w'.cell? ⟨Z,9,none⟩=some (.int .i64 i3)∧w'.cell? ⟨Z,10,none⟩=some (.int .i64 i4)∧w'.cell? ⟨Z,11,none⟩=some (.int .i64 i5)∧w'.cell? ⟨Z,12,none⟩=some (.int .i64 i6)∧w'.cell? ⟨Z,13,none⟩=some (.slice A i7 c)∧w'.cell? ⟨Z,14,none⟩=some (.int .i64 ver)∧Z < w'.heap.size) (by kernel_rfl) (HR.out w1.drew (Below.refl w1.heap.size w1).drew) (fun hHeld=>?_)
  (refine held_t 0 (h:=?_);(try simp only [xGs,xGz,xGo,Act.put,xSi,xSz,xSs]));(refine held_t 1 (h:=?_);(try simp only [xGs,xGz,xGo,Act.put,xSi,xSz,xSs]));(refine held_t 2 (h:=?_);(try simp only [xGs,xGz,xGo,Act.put,xSi,xSz,xSs]));(refine held_t 3 (h:=?_);(try simp only [xGs,xGz,xGo,Act.put,xSi,xSz,xSs]));(refine held_t 4 (h:=?_);(try simp only [xGs,xGz,xGo,Act.put,xSi,xSz,xSs]));(refine held_t 5 (h:=?_);(try simp only [xGs,xGz,xGo,Act.put,xSi,xSz,xSs]));(refine held_t 6 (h:=?_);(try simp only [xGs,xGz,xGo,Act.put,xSi,xSz,xSs]));(refine held_t 7 (h:=?_);(try simp only [xGs,xGz,xGo,Act.put,xSi,xSz,xSs]));(refine held_t 8 (h:=?_);(try simp only [xGs,xGz,xGo,Act.put,xSi,xSz,xSs]));(refine held_t 9 (h:=?_);(try simp only [xGs,xGz,xGo,Act.put,xSi,xSz,xSs]));(refine held_t 10 (h:=?_);(try simp only [xGs,xGz,xGo,Act.put,xSi,xSz,xSs]))
  (refine held_one 11 (by kernel_rfl) (by rfl) ?_;(try simp only [xGs,xGz,xGo]);go_simp)
  refine (HO.out w1.drew HW.out.drew).mono ?_
  rintro e w2 ⟨rfl,hb⟩
  have HCw2:=Lib.hid (((Below.refl w1.heap.size w1).drew).trans (hb.mono ((Below.refl w1.heap.size w1).drew).size))
  clear hb
  dsimp only
  (refine and_hand (HR.out w2 HCw2.out) (fun hHeld=>?_);(try simp only [xGs,xGz,xGo,Act.put,xSi,xSz,xSs]))
  (refine held_t 12 (h:=?_);(try simp only [xGs,xGz,xGo,Act.put,xSi,xSz,xSs]));(refine held_t 13 (h:=?_);(try simp only [xGs,xGz,xGo,Act.put,xSi,xSz,xSs]));(refine held_t 14 (h:=?_);(try simp only [xGs,xGz,xGo,Act.put,xSi,xSz,xSs]));(refine held_t 15 (h:=?_);(try simp only [xGs,xGz,xGo,Act.put,xSi,xSz,xSs]))
  refine held_end (by kernel_rfl) ?_
  go_wp2_with (fail)
  go_ret
  exact ⟨ret_bool (by simp only [E0.out,true_and];rfl),HW.out.trans (HCw2.out.mono HW.out.size)⟩
 ·have e0:(i0==(p:Int))=false:=by simpa using h0
  have E0:=Lib.hid h0
  clear h0
  refine held_start (fun w'=>w'.cell? ⟨Z,0,none⟩=some (.int .i64 fr)∧w'.cell? ⟨Z,1,none⟩=some (.slice a.AP nP a.cP)∧w'.cell? ⟨Z,2,none⟩=some (.slice a.AW nW a.cW)∧w'.cell? ⟨Z,3,none⟩=some (.slice a.AC nC a.cC)∧w'.cell? ⟨Z,4,none⟩=some (.int .i64 tr)∧w'.cell? ⟨Z,5,none⟩=some (.int .i64 p)∧w'.cell? ⟨Z,6,none⟩=some (.int .i64 i0)∧w'.cell? ⟨Z,7,none⟩=some (.int .i64 i1)∧w'.cell? ⟨Z,8,none⟩=some (.int .i64 i2)∧w'.cell? ⟨Z,9,none⟩=some (.int .i64 i3)∧w'.cell? ⟨Z,10,none⟩=some (.int .i64 i4)∧w'.cell? ⟨Z,11,none⟩=some (.int .i64 i5)∧w'.cell? ⟨Z,12,none⟩=some (.int .i64 i6)∧w'.cell? ⟨Z,13,none⟩=some (.slice A i7 c)∧w'.cell? ⟨Z,14,none⟩=some (.int .i64 ver)∧Z < w'.heap.size) (by kernel_rfl) (HR.out w1.drew (Below.refl w1.heap.size w1).drew) (fun hHeld=>?_)
  (refine held_t 0 (h:=?_);(try simp only [xGs,xGz,xGo,Act.put,xSi,xSz,xSs]));(refine held_t 1 (h:=?_);(try simp only [xGs,xGz,xGo,Act.put,xSi,xSz,xSs]));(refine held_t 2 (h:=?_);(try simp only [xGs,xGz,xGo,Act.put,xSi,xSz,xSs]));(refine held_t 3 (h:=?_);(try simp only [xGs,xGz,xGo,Act.put,xSi,xSz,xSs]));(refine held_t 4 (h:=?_);(try simp only [xGs,xGz,xGo,Act.put,xSi,xSz,xSs]));(refine held_t 5 (h:=?_);(try simp only [xGs,xGz,xGo,Act.put,xSi,xSz,xSs]));(refine held_t 6 (h:=?_);(try simp only [xGs,xGz,xGo,Act.put,xSi,xSz,xSs]))
  (refine held_drop 7 (by kernel_rfl) (fun _ _ _ _ _ h=>h) (by rfl) (by assumption) ?_;(try simp only [xGs,xGz,xGo,Act.put,xSi,xSz,xSs]));(refine held_drop 8 (by kernel_rfl) (fun _ _ _ _ _ h=>h) (by rfl) (by assumption) ?_;(try simp only [xGs,xGz,xGo,Act.put,xSi,xSz,xSs]));(refine held_drop 9 (by kernel_rfl) (fun _ _ _ _ _ h=>h) (by rfl) (by assumption) ?_;(try simp only [xGs,xGz,xGo,Act.put,xSi,xSz,xSs]));(refine held_drop 10 (by kernel_rfl) (fun _ _ _ _ _ h=>h) (by rfl) (by assumption) ?_;(try simp only [xGs,xGz,xGo,Act.put,xSi,xSz,xSs]));(refine held_drop 11 (by kernel_rfl) (fun _ _ _ _ _ h=>h) (by rfl) (by assumption) ?_;(try simp only [xGs,xGz,xGo,Act.put,xSi,xSz,xSs]));(refine held_drop 12 (by kernel_rfl) (fun _ _ _ _ _ h=>h) (by rfl) (by assumption) ?_;(try simp only [xGs,xGz,xGo,Act.put,xSi,xSz,xSs]));(refine held_drop 13 (by kernel_rfl) (fun _ _ _ _ _ h=>h) (by rfl) (by assumption) ?_;(try simp only [xGs,xGz,xGo,Act.put,xSi,xSz,xSs]))
  (refine held_t 14 (h:=?_);(try simp only [xGs,xGz,xGo,Act.put,xSi,xSz,xSs]));(refine held_t 15 (h:=?_);(try simp only [xGs,xGz,xGo,Act.put,xSi,xSz,xSs]))
  refine held_end (by kernel_rfl) ?_
  go_wp2_with (fail)
  go_ret
  exact ⟨ret_bool (by simp [E0.out]),HW.out.drew⟩
theorem small_at (h:TabW w a t) (hp:p < t.parts.length):Calls Tryz.prog 103 #[.agg (askCells a t p i A c ver).toArray] w fun e w'=>e=.returned (.bool (decide (i.mem≤t.parts[p].a∧i.fuel≤t.parts[p].b)))∧Below w.heap.size w w':=by
 obtain ⟨Z,hZ⟩:∃Z,Z=w.heap.size:=⟨_,rfl⟩
 obtain ⟨w1,hw1⟩:∃w1,w1=w.alloc (.cells (askCells a t p i A c ver).toArray 172):=⟨_,rfl⟩
 have H1:=Lib.hid (show St w w1 [row Z 172 (askCells a t p i A c ver)] by
  have h:=(St.nil w).new 172 (askCells a t p i A c ver).toArray
  rw [←hZ,←hw1] at h
  exact h)
 have HR:=Lib.hid (fun (w':World) (hb:Below w1.heap.size w1 w')=>ask_read (H1.out.row.1.below hb H1.out.row.1.lt))
 have HO:=Lib.hid (fun (w':World) (hb:Below w.heap.size w w')=>own_at (p:=p) (i:=i) (A:=A) (c:=c) (ver:=ver) (h.over hb) hp)
 have HW1:=Lib.hid hw1;have HZ:=Lib.hid hZ
 simp only [askCells,T3.cells] at HW1 HR HO ⊢
 generalize t.parts[p]=x at *
 obtain ⟨xa,xb,xc⟩:=x
 simp only at HO ⊢
 generalize t.parts.length=nP,t.wins.length=nW,t.chans.length=nC,t.frame=fr,t.trial=tr,i.part=i0,i.version=i1,i.hard=i2,i.mem=i3,i.fuel=i4,i.sends=i5,i.receives=i6,i.code.length=i7 at *
 clear hw1 hZ h
 obtain ⟨r0,r1,r2,r3,r4,r5,r6,r7,r8,r9,r10,r11,r12,r13,r14,lZ⟩:=HR.out w1 (Below.refl _ _)
 go_enter Tryz.func103,Tryz.ntmps103
 go_upto_region 1 with fail
 rw [←HW1.out,←HZ.out]
 go_wp2_with (fail)
 have hfl0:=fld0 xa xb xc
 have hfl1:=fld1 xa xb xc
 have HW:=Lib.hid H1.out.bel
 refine held_start (fun w'=>w'.cell? ⟨Z,0,none⟩=some (.int .i64 fr)∧w'.cell? ⟨Z,1,none⟩=some (.slice a.AP nP a.cP)∧w'.cell? ⟨Z,2,none⟩=some (.slice a.AW nW a.cW)∧w'.cell? ⟨Z,3,none⟩=some (.slice a.AC nC a.cC)∧w'.cell? ⟨Z,4,none⟩=some (.int .i64 tr)∧w'.cell? ⟨Z,5,none⟩=some (.int .i64 p)∧w'.cell? ⟨Z,6,none⟩=some (.int .i64 i0)∧w'.cell? ⟨Z,7,none⟩=some (.int .i64 i1)∧w'.cell? ⟨Z,8,none⟩=some (.int .i64 i2)∧w'.cell? ⟨Z,9,none⟩=some (.int .i64 i3)∧w'.cell? ⟨Z,10,none⟩=some (.int .i64 i4)∧w'.cell? ⟨Z,11,none⟩=some (.int .i64 i5)∧w'.cell? ⟨Z,12,none⟩=some (.int .i64 i6)∧w'.cell? ⟨Z,13,none⟩=some (.slice A i7 c)∧w'.cell? ⟨Z,14,none⟩=some (.int .i64 ver)∧Z < w'.heap.size) (by kernel_rfl) (HR.out w1.drew (Below.refl w1.heap.size w1).drew) (fun hHeld=>?_)
 (refine held_t 0 (h:=?_);(try simp only [xGs,xGz,xGo,Act.put,xSi,xSz,xSs]));(refine held_t 1 (h:=?_);(try simp only [xGs,xGz,xGo,Act.put,xSi,xSz,xSs]));(refine held_t 2 (h:=?_);(try simp only [xGs,xGz,xGo,Act.put,xSi,xSz,xSs]));(refine held_t 3 (h:=?_);(try simp only [xGs,xGz,xGo,Act.put,xSi,xSz,xSs]))
 (refine held_one 4 (by kernel_rfl) (by rfl) ?_;(try simp only [xGs,xGz,xGo]);go_simp)
 refine (HO.out w1.drew HW.out.drew).mono ?_
 rintro e w2 ⟨rfl,hb⟩
 have HCw2:=Lib.hid (((Below.refl w1.heap.size w1).drew).trans (hb.mono ((Below.refl w1.heap.size w1).drew).size))
 clear hb
 dsimp only
 (refine and_hand (HR.out w2 HCw2.out) (fun hHeld=>?_);(try simp only [xGs,xGz,xGo,Act.put,xSi,xSz,xSs]))
 by_cases h0:i3≤xa
 ·have e0:decide (i3≤xa)=true:=by simpa using h0
  have E0:=Lib.hid h0
  clear h0
  (refine held_t 5 (h:=?_);(try simp only [xGs,xGz,xGo,Act.put,xSi,xSz,xSs]));(refine held_t 6 (h:=?_);(try simp only [xGs,xGz,xGo,Act.put,xSi,xSz,xSs]));(refine held_t 7 (h:=?_);(try simp only [xGs,xGz,xGo,Act.put,xSi,xSz,xSs]));(refine held_t 8 (h:=?_);(try simp only [xGs,xGz,xGo,Act.put,xSi,xSz,xSs]));(refine held_t 9 (h:=?_);(try simp only [xGs,xGz,xGo,Act.put,xSi,xSz,xSs]));(refine held_t 10 (h:=?_);(try simp only [xGs,xGz,xGo,Act.put,xSi,xSz,xSs]));(refine held_t 11 (h:=?_);(try simp only [xGs,xGz,xGo,Act.put,xSi,xSz,xSs]))
  (refine held_one 12 (by kernel_rfl) (by rfl) ?_;(try simp only [xGs,xGz,xGo]);go_simp)
  refine (HO.out w2 (HW.out.trans (HCw2.out.mono HW.out.size))).mono ?_
  rintro e w3 ⟨rfl,hb⟩
  have HCw3:=Lib.hid ((HCw2.out).trans (hb.mono (HCw2.out).size))
  clear hb
  dsimp only
  (refine and_hand (HR.out w3 HCw3.out) (fun hHeld=>?_);(try simp only [xGs,xGz,xGo,Act.put,xSi,xSz,xSs]))
  (refine held_t 13 (h:=?_);(try simp only [xGs,xGz,xGo,Act.put,xSi,xSz,xSs]));(refine held_t 14 (h:=?_);(try simp only [xGs,xGz,xGo,Act.put,xSi,xSz,xSs]));(refine held_t 15 (h:=?_);(try simp only [xGs,xGz,xGo,Act.put,xSi,xSz,xSs]));(refine held_t 16 (h:=?_);(try simp only [xGs,xGz,xGo,Act.put,xSi,xSz,xSs]))
  refine held_end (by kernel_rfl) ?_
  go_wp2_with (fail)
  go_ret
  exact ⟨ret_bool (by simp [E0.out]),HW.out.trans (HCw3.out.mono HW.out.size)⟩
 ·have e0:decide (i3≤xa)=false:=by simpa using h0
  have E0:=Lib.hid h0
  clear h0
  (refine held_t 5 (h:=?_);(try simp only [xGs,xGz,xGo,Act.put,xSi,xSz,xSs]));(refine held_t 6 (h:=?_);(try simp only [xGs,xGz,xGo,Act.put,xSi,xSz,xSs]));(refine held_t 7 (h:=?_);(try simp only [xGs,xGz,xGo,Act.put,xSi,xSz,xSs]))
  (refine held_drop 8 (by kernel_rfl) (fun _ _ _ _ _ h=>h) (by rfl) (by assumption) ?_;(try simp only [xGs,xGz,xGo,Act.put,xSi,xSz,xSs]));(refine held_drop 9 (by kernel_rfl) (fun _ _ _ _ _ h=>h) (by rfl) (by assumption) ?_;(try simp only [xGs,xGz,xGo,Act.put,xSi,xSz,xSs]));(refine held_drop 10 (by kernel_rfl) (fun _ _ _ _ _ h=>h) (by rfl) (by assumption) ?_;(try simp only [xGs,xGz,xGo,Act.put,xSi,xSz,xSs]));(refine held_drop 11 (by kernel_rfl) (fun _ _ _ _ _ h=>h) (by rfl) (by assumption) ?_;(try simp only [xGs,xGz,xGo,Act.put,xSi,xSz,xSs]));(refine held_drop 12 (by kernel_rfl) (fun _ _ _ _ _ h=>h) (by rfl) (by assumption) ?_;(try simp only [xGs,xGz,xGo,Act.put,xSi,xSz,xSs]));(refine held_drop 13 (by kernel_rfl) (fun _ _ _ _ _ h=>h) (by rfl) (by assumption) ?_;(try simp only [xGs,xGz,xGo,Act.put,xSi,xSz,xSs]));(refine held_drop 14 (by kernel_rfl) (fun _ _ _ _ _ h=>h) (by rfl) (by assumption) ?_;(try simp only [xGs,xGz,xGo,Act.put,xSi,xSz,xSs]))
  (refine held_t 15 (h:=?_);(try simp only [xGs,xGz,xGo,Act.put,xSi,xSz,xSs]));(refine held_t 16 (h:=?_);(try simp only [xGs,xGz,xGo,Act.put,xSi,xSz,xSs]))
  refine held_end (by kernel_rfl) ?_
  go_wp2_with (fail)
  go_ret
  exact ⟨ret_bool (by simp [E0.out]),HW.out.trans (HCw2.out.mono HW.out.size)⟩
end
end compat
namespace compat


open Go.RowKit Go.Deep base obj mem sep plan num bytes crc chain image tab
section
variable {w : World} {a : TabA} {t : Tab} {p : Nat} {i : Img} {A : Option Addr} {c : Nat} {ver : Int}
theorem has_at (h:TabW w a t) (q:Int):Calls Tryz.prog 101 #[a.val t,.int .i64 q] w fun e w'=>e=.returned (.bool (decide (0≤q∧q < t.parts.length)))∧Below w.heap.size w w':=by
 obtain ⟨Z,hZ⟩:∃Z,Z=w.heap.size:=⟨_,rfl⟩
 obtain ⟨w1,hw1⟩:∃w1,w1=w.alloc (.cells #[.int .i64 t.frame,.slice a.AP t.parts.length a.cP,.slice a.AW t.wins.length a.cW,.slice a.AC t.chans.length a.cC,.int .i64 t.trial] 46):=⟨_,rfl⟩
 have H1:=Lib.hid (show St w w1 [row Z 46 [.int .i64 t.frame,.slice a.AP t.parts.length a.cP,.slice a.AW t.wins.length a.cW,.slice a.AC t.chans.length a.cC,.int .i64 t.trial]] by
  have h:=(St.nil w).new 46 #[.int .i64 t.frame,.slice a.AP t.parts.length a.cP,.slice a.AW t.wins.length a.cW,.slice a.AC t.chans.length a.cC,.int .i64 t.trial]
  rw [←hZ,←hw1] at h
  exact h)
 have c1:w1.cell? ⟨Z,1,none⟩=some (.slice a.AP t.parts.length a.cP):=H1.out.row.1.cell 1
 have lZ:=H1.out.row.1.lt
 have HW1:=Lib.hid hw1;have HZ:=Lib.hid hZ
 simp only [TabA.val] at HW1 ⊢
 generalize t.parts.length=nP,t.wins.length=nW,t.chans.length=nC,t.frame=fr,t.trial=tr at *
 clear hw1 hZ h
 go_enter Tryz.func101,Tryz.ntmps101
 go_upto_region 1 with fail
 rw [←HW1.out,←HZ.out]
 by_cases h0:0≤q
 ·have k0:(0:Int)≤q:=h0
  have E0:=Lib.hid h0
  go_wp2_with (fail)
  go_ret
  exact ⟨ret_bool (by simp [E0.out]),H1.out.bel⟩
 ·have k0:¬(0:Int)≤q:=h0
  have E0:=Lib.hid h0
  go_wp2_with (fail)
  go_ret
  exact ⟨ret_bool (by have:=E0.out;simp;omega),H1.out.bel⟩
def cset (f:T3→Int) (p:Int) (l:List T3):Nat→Nat
 | 0=>0
 | k+1=>cset f p l k+(if f (l.getD k ⟨0,0,0⟩)=p then 2 ^ k else 0)
theorem cset_lt (f:T3→Int) (p:Int) (l:List T3):∀k,cset f p l k < 2 ^ k
 | 0=>by simp [cset]
 | k+1=>by have:=cset_lt f p l k;simp only [cset,Nat.pow_succ];split<;>omega
theorem sends_1 (x:T3) (w:World):Calls Tryz.prog 187 #[x.agg] w fun e w'=>e=.returned (.int .i64 x.a)∧Below w.heap.size w w':=by
 obtain ⟨xa,xb,xc⟩:=x
 have hb:=(Below.refl w.heap.size w).alloc (Nat.le_refl _) (.cells #[.int .i64 xa,.int .i64 xb,.int .i64 xc] 152)
 go_enter Tryz.func187,Tryz.ntmps187
 go_wp2_with (fail)
 go_ret
 exact ⟨rfl,hb⟩
theorem receives_1 (x:T3) (w:World):Calls Tryz.prog 188 #[x.agg] w fun e w'=>e=.returned (.int .i64 x.b)∧Below w.heap.size w w':=by
 obtain ⟨xa,xb,xc⟩:=x
 have hb:=(Below.refl w.heap.size w).alloc (Nat.le_refl _) (.cells #[.int .i64 xa,.int .i64 xb,.int .i64 xc] 152)
 go_enter Tryz.func188,Tryz.ntmps188
 go_wp2_with (fail)
 go_ret
 exact ⟨rfl,hb⟩
theorem pow_wrap (j:Nat) (hj:j < 4):wrap64 ((2:Int) ^ j)=((2 ^ j:Nat):Int):=by
 have:∀j:Nat,j < 4→wrap64 ((2:Int) ^ j)=((2 ^ j:Nat):Int):=by decide +kernel
 exact this j hj
theorem or_pow (s k:Nat) (hk:k < 4) (hs:s < 2 ^ k):Go.bits .or .i64 (s:Int) ((2 ^ k:Nat):Int)=((s+2 ^ k:Nat):Int):=by
 have:∀k:Nat,k < 4→∀s:Nat,s < 2 ^ k→Go.bits .or .i64 (s:Int) ((2 ^ k:Nat):Int)=((s+2 ^ k:Nat):Int):=by decide +kernel
 exact this k hk s hs
theorem channels_at (h:TabW w a t) (hr:t.right=true) (hp:p < t.parts.length) (F:Nat) (f:T3→Int) (hcf:∀(w':World) (x:T3),(callFunc F #[x.agg]).run Tryz.prog w'=.ok (.enter F #[x.agg]) w')
  (hf:∀(x:T3) (w':World),Calls Tryz.prog F #[x.agg] w' fun e w''=>e=.returned (.int .i64 (f x))∧Below w'.heap.size w' w'') :
  Calls Tryz.prog 186 #[a.val t,.int .i64 p,.func (Fn.func F) #[] #[]] w fun e w'=>e=.returned (.int .i64 (cset f p t.chans t.chans.length:Nat))∧Below w.heap.size w w':=by
 have hn4:=(Tab.r hr).nc
 have HRT:=Lib.hid (fun w' (hb:Below w.heap.size w w')=>right_at (h.over hb))
 have HHAS:=Lib.hid (fun w' (hb:Below w.heap.size w w')=>has_at (h.over hb) (p:Int))
 rw [show decide (0≤(p:Int)∧(p:Int) < t.parts.length)=true by simp;omega] at HHAS
 rw [hr] at HRT
 have HCS:=Lib.hid (fun w' (hb:Below w.heap.size w w')=>(h.over hb).cs)
 obtain ⟨Z,hZ⟩:∃Z,Z=w.heap.size:=⟨_,rfl⟩
 obtain ⟨w1,hw1⟩:∃w1,w1=w.alloc (.cells #[.int .i64 t.frame,.slice a.AP t.parts.length a.cP,.slice a.AW t.wins.length a.cW,.slice a.AC t.chans.length a.cC,.int .i64 t.trial] 46):=⟨_,rfl⟩
 have H1:=Lib.hid (show St w w1 [row Z 46 [.int .i64 t.frame,.slice a.AP t.parts.length a.cP,.slice a.AW t.wins.length a.cW,.slice a.AC t.chans.length a.cC,.int .i64 t.trial]] by
  have h:=(St.nil w).new 46 #[.int .i64 t.frame,.slice a.AP t.parts.length a.cP,.slice a.AW t.wins.length a.cW,.slice a.AC t.chans.length a.cC,.int .i64 t.trial]
  rw [←hZ,←hw1] at h
  exact h)
 have HW1:=Lib.hid hw1;have HZ:=Lib.hid hZ
 simp only [TabA.val] at HW1 HHAS ⊢
 obtain ⟨nC,hnC⟩:∃v,v=t.chans.length:=⟨_,rfl⟩
 have HNC:=Lib.hid hnC
 rw [←hnC] at hn4
 simp only [←hnC] at HRT HHAS HCS H1 HW1 ⊢
 generalize t.parts.length=nP,t.wins.length=nW,t.frame=fr,t.trial=tr at *
 clear hw1 hZ h hnC
 have HRW:=Lib.hid (fun (w':World) (hb:Below w1.heap.size w1 w')=>H1.out.row.1.below hb H1.out.row.1.lt)
 have rows:∀w',Below w1.heap.size w1 w'→w'.cell? ⟨Z,0,none⟩=some (.int .i64 fr)∧w'.cell? ⟨Z,1,none⟩=some (.slice a.AP nP a.cP)∧w'.cell? ⟨Z,2,none⟩=some (.slice a.AW nW a.cW)∧w'.cell? ⟨Z,3,none⟩=some (.slice a.AC nC a.cC)∧w'.cell? ⟨Z,4,none⟩=some (.int .i64 tr)∧Z < w'.heap.size :=
  fun w' hb=>⟨(HRW.out w' hb).cell 0,(HRW.out w' hb).cell 1,(HRW.out w' hb).cell 2,(HRW.out w' hb).cell 3,(HRW.out w' hb).cell 4,(HRW.out w' hb).lt⟩
 have HROWS:=Lib.hid rows
 clear rows
 obtain ⟨t0,t1,t2,t3,t4,lZ⟩:=HROWS.out w1 (Below.refl _ _)
 go_enter Tryz.func186,Tryz.ntmps186
 go_upto_region 1 with fail
 rw [←HW1.out,←HZ.out]
 go_wp2_with (fail)
 refine (HRT.out w1 H1.out.bel).mono ?_
 rintro e w2 ⟨rfl,hb2⟩
 have HB2:=Lib.hid hb2
 clear t0 t1 t2 t3 t4 lZ hb2
 obtain ⟨t0,t1,t2,t3,t4,lZ⟩:=HROWS.out w2 HB2.out
 go_wp2_with (fail)
 refine (HHAS.out w2 (H1.out.bel.trans (HB2.out.mono H1.out.bel.size))).mono ?_
 rintro e w3 ⟨rfl,hb3⟩
 have HB3:=Lib.hid (HB2.out.trans (hb3.mono HB2.out.size))
 clear t0 t1 t2 t3 t4 lZ hb3
 obtain ⟨t0,t1,t2,t3,t4,lZ⟩:=HROWS.out w3 HB3.out
 go_wp2_with (fail)
 go_loopw [22,7] (fun i s wr=>∃j:Nat,j≤nC∧i=.int .i64 j∧s=.int .i64 (cset f p t.chans j:Nat)∧Below w1.heap.size w1 wr) (fun i _ _=>nC-(intOf i).toNat)
 case atStart=>exact ⟨0,by omega,rfl,rfl,HB3.out⟩
 case round =>
  obtain ⟨j,hj,rfl,rfl,hbr⟩:=hrel
  have HBR:=Lib.hid hbr
  clear t0 t1 t2 t3 t4 lZ hbr
  by_cases hlt:j < nC
  ·have hjb:j < t.chans.length:=by have:=HNC.out;omega
   obtain ⟨b,off,hA,hbl,c0,c1,c2⟩:=t3s_get (HCS.out wr (H1.out.bel.trans (HBR.out.mono H1.out.bel.size))) HNC.out hjb
   have hgd:t.chans.getD j ⟨0,0,0⟩=t.chans[j]:=by simp [hjb]
   have HSU:=Lib.hid (show cset f p t.chans (j+1)=cset f p t.chans j+(if f t.chans[j]=p then 2 ^ j else 0) by rw [cset,hgd])
   have hcl:=cset_lt f (p:Int) t.chans j
   have HFX:=Lib.hid (hf t.chans[j])
   have hcx:=(fun w'=>hcf w' t.chans[j])
   generalize t.chans[j]=x at *
   generalize cset f p t.chans j=s at *
   obtain ⟨xa,xb,xc⟩:=x
   simp only at c0 c1 c2
   have HA:=Lib.hid hA
   have k0:(0:Int)≤(j:Int):=by omega
   have k1:(j:Int) < (nC:Int):=by omega
   obtain ⟨fx,hfx⟩:∃v,v=f ⟨xa,xb,xc⟩:=⟨_,rfl⟩
   rw [←hfx] at HSU HFX
   have HO:=Lib.hid (or_pow s j (by omega) hcl)
   clear hA hgd hfx hf hcf
   rw [HA.out]
   go_wp2_with (fail)
   refine (HFX.out _).mono ?_
   rintro e w4 ⟨rfl,hb4⟩
   have HB4:=Lib.hid ((HBR.out.trans (((Below.refl wr.heap.size wr).alloc (Nat.le_refl _) _).mono HBR.out.size)).trans (hb4.mono (Nat.le_trans HBR.out.size (by simp))))
   clear hb4 hcx
   by_cases hq:fx=(p:Int)
   ·have hq1:(fx==(p:Int))=true:=by simpa using hq
    have HQ:=Lib.hid (show cset f p t.chans (j+1)=s+2 ^ j by rw [HSU.out,if_pos hq])
    clear hq
    have HPW:=Lib.hid (pow_wrap j (by omega))
    go_wp2_with (fail)
    go_roundw
    case rel=>exact ⟨j+1,by omega,by go_num,by rw [HPW.out,HO.out,HQ.out],HB4.out⟩
    case measure=>simp [intOf];omega
   ·have hq1:(fx==(p:Int))=false:=by simpa using hq
    have HQ:=Lib.hid (show cset f p t.chans (j+1)=s by rw [HSU.out,if_neg hq];rfl)
    clear hq
    go_wp2_with (fail)
    go_roundw
    case rel=>exact ⟨j+1,by omega,by go_num,by rw [HQ.out],HB4.out⟩
    case measure=>simp [intOf];omega
  ·have hje:j=nC:=by omega
   have HE:=Lib.hid (show cset f p t.chans nC=cset f p t.chans j by rw [hje])
   have k1:¬(j:Int) < (nC:Int):=by omega
   clear hje
   go_wp2_with (fail)
   go_ret
   exact ⟨ret_int (by rw [HE.out]),H1.out.bel.trans (HBR.out.mono H1.out.bel.size)⟩
theorem hcf_sends (w':World) (x:T3):(callFunc 187 #[x.agg]).run Tryz.prog w'=.ok (.enter 187 #[x.agg]) w':=by kernel_rfl
theorem hcf_receives (w':World) (x:T3):(callFunc 188 #[x.agg]).run Tryz.prog w'=.ok (.enter 188 #[x.agg]) w':=by kernel_rfl
theorem sends_at (h:TabW w a t) (hr:t.right=true) (hp:p < t.parts.length):Calls Tryz.prog 155 #[a.val t,.int .i64 p] w fun e w'=>e=.returned (.int .i64 (cset T3.a p t.chans t.chans.length:Nat))∧Below w.heap.size w w':=by
 obtain ⟨Z,hZ⟩:∃Z,Z=w.heap.size:=⟨_,rfl⟩
 obtain ⟨w1,hw1⟩:∃w1,w1=w.alloc (.cells #[.int .i64 t.frame,.slice a.AP t.parts.length a.cP,.slice a.AW t.wins.length a.cW,.slice a.AC t.chans.length a.cC,.int .i64 t.trial] 46):=⟨_,rfl⟩
 have H1:=Lib.hid (show St w w1 [row Z 46 [.int .i64 t.frame,.slice a.AP t.parts.length a.cP,.slice a.AW t.wins.length a.cW,.slice a.AC t.chans.length a.cC,.int .i64 t.trial]] by
  have h:=(St.nil w).new 46 #[.int .i64 t.frame,.slice a.AP t.parts.length a.cP,.slice a.AW t.wins.length a.cW,.slice a.AC t.chans.length a.cC,.int .i64 t.trial]
  rw [←hZ,←hw1] at h
  exact h)
 have HCH:=Lib.hid (channels_at (h.over H1.out.bel) hr hp 187 T3.a hcf_sends sends_1)
 have HW1:=Lib.hid hw1;have HZ:=Lib.hid hZ
 generalize cset T3.a p t.chans t.chans.length=r at *
 simp only [TabA.val] at HW1 HCH ⊢
 generalize t.parts.length=nP,t.wins.length=nW,t.chans.length=nC,t.frame=fr,t.trial=tr at *
 have t0:w1.cell? ⟨Z,0,none⟩=some (.int .i64 fr):=H1.out.row.1.cell 0
 have t1:w1.cell? ⟨Z,1,none⟩=some (.slice a.AP nP a.cP):=H1.out.row.1.cell 1
 have t2:w1.cell? ⟨Z,2,none⟩=some (.slice a.AW nW a.cW):=H1.out.row.1.cell 2
 have t3:w1.cell? ⟨Z,3,none⟩=some (.slice a.AC nC a.cC):=H1.out.row.1.cell 3
 have t4:w1.cell? ⟨Z,4,none⟩=some (.int .i64 tr):=H1.out.row.1.cell 4
 have lT:=H1.out.row.1.lt
 clear hw1 hZ h hr
 go_enter Tryz.func155,Tryz.ntmps155
 go_upto_region 1 with fail
 rw [←HW1.out,←HZ.out]
 go_wp2_with (fail)
 refine HCH.out.mono ?_
 rintro e w2 ⟨rfl,hb⟩
 have HB:=Lib.hid (H1.out.bel.trans (hb.mono H1.out.bel.size))
 clear hb
 go_wp2_with (fail)
 go_ret
 exact ⟨rfl,HB.out⟩
theorem receives_at (h:TabW w a t) (hr:t.right=true) (hp:p < t.parts.length):Calls Tryz.prog 156 #[a.val t,.int .i64 p] w fun e w'=>e=.returned (.int .i64 (cset T3.b p t.chans t.chans.length:Nat))∧Below w.heap.size w w':=by
 obtain ⟨Z,hZ⟩:∃Z,Z=w.heap.size:=⟨_,rfl⟩
 obtain ⟨w1,hw1⟩:∃w1,w1=w.alloc (.cells #[.int .i64 t.frame,.slice a.AP t.parts.length a.cP,.slice a.AW t.wins.length a.cW,.slice a.AC t.chans.length a.cC,.int .i64 t.trial] 46):=⟨_,rfl⟩
 have H1:=Lib.hid (show St w w1 [row Z 46 [.int .i64 t.frame,.slice a.AP t.parts.length a.cP,.slice a.AW t.wins.length a.cW,.slice a.AC t.chans.length a.cC,.int .i64 t.trial]] by
  have h:=(St.nil w).new 46 #[.int .i64 t.frame,.slice a.AP t.parts.length a.cP,.slice a.AW t.wins.length a.cW,.slice a.AC t.chans.length a.cC,.int .i64 t.trial]
  rw [←hZ,←hw1] at h
  exact h)
 have HCH:=Lib.hid (channels_at (h.over H1.out.bel) hr hp 188 T3.b hcf_receives receives_1)
 have HW1:=Lib.hid hw1;have HZ:=Lib.hid hZ
 generalize cset T3.b p t.chans t.chans.length=r at *
 simp only [TabA.val] at HW1 HCH ⊢
 generalize t.parts.length=nP,t.wins.length=nW,t.chans.length=nC,t.frame=fr,t.trial=tr at *
 have t0:w1.cell? ⟨Z,0,none⟩=some (.int .i64 fr):=H1.out.row.1.cell 0
 have t1:w1.cell? ⟨Z,1,none⟩=some (.slice a.AP nP a.cP):=H1.out.row.1.cell 1
 have t2:w1.cell? ⟨Z,2,none⟩=some (.slice a.AW nW a.cW):=H1.out.row.1.cell 2
 have t3:w1.cell? ⟨Z,3,none⟩=some (.slice a.AC nC a.cC):=H1.out.row.1.cell 3
 have t4:w1.cell? ⟨Z,4,none⟩=some (.int .i64 tr):=H1.out.row.1.cell 4
 have lT:=H1.out.row.1.lt
 clear hw1 hZ h hr
 go_enter Tryz.func156,Tryz.ntmps156
 go_upto_region 1 with fail
 rw [←HW1.out,←HZ.out]
 go_wp2_with (fail)
 refine HCH.out.mono ?_
 rintro e w2 ⟨rfl,hb⟩
 have HB:=Lib.hid (H1.out.bel.trans (hb.mono H1.out.bel.size))
 clear hb
 go_wp2_with (fail)
 go_ret
 exact ⟨rfl,HB.out⟩
end
end compat
end Go.Proofs.YtdldkkoplgkloaaGreat
