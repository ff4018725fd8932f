/-
  PROVED HERE: a stage's fields, its sector.
  CONDITIONS: each contract names its own.
-/
import Derived.Test.YtooagoikiafgcaaRecStage
import Derived.Test.YtooagoikiafgcaaRecSeal
namespace Go.Proofs.Ytooagoikiafgcaa.record
set_option linter.unusedVariables false
open Go.RowKit Go.Proofs.Ytooagoikiafgcaa.base Go.Proofs.Ytooagoikiafgcaa.obj Go.Proofs.Ytooagoikiafgcaa.mem Go.Proofs.Ytooagoikiafgcaa.crc Go.Proofs.Ytooagoikiafgcaa.num Go.Proofs.Ytooagoikiafgcaa.bytes Go.Proofs.Ytooagoikiafgcaa.plan

set_option maxRecDepth 100000 in
set_option maxHeartbeats 4000000 in
theorem stageFields_at (w : World) (R : Nat) : Calls Try.prog 110 #[.pointer (some ⟨R, 0, none⟩)] w fun e w' => ∃ F, e = .returned (.slice (some ⟨F, 0, none⟩) 3 3) ∧ w.heap.size ≤ F ∧ Row w' F 224 (fieldCells R [2, 2, 2]) ∧ Below w.heap.size w w' := by
  go_enter Try.func110, Try.ntmps110
  go_wp2_with (fail)
  go_region
  go_wp2_with (fail)
  go_ret
  exact ⟨w.heap.size, rfl, Nat.le_refl _, (Row.new w _ _).drew, ((Below.refl w.heap.size w).alloc (Nat.le_refl _) _).drew⟩

def Stg.nums (s : Stg) : List Nat := [s.session.toNat, s.size.toNat, s.have_.toNat]
abbrev stgWidths : List Nat := [2, 2, 2]
def Stg.head (s : Stg) : List Int := pre 19539 stgWidths s.nums 3
def Stg.bytes (s : Stg) : List Int := sealB s.head
theorem Stg.head_length (s : Stg) : s.head.length = 8 := by
  simp [Stg.head, pre, be_length, List.range_succ]
theorem stg_in {s : Stg} (h : s.right = true) : (1 ≤ s.session ∧ s.session ≤ 65535) ∧ (1 ≤ s.size ∧ s.size ≤ 160) ∧ 0 ≤ s.have_ ∧ s.have_ < 1024 := by
  simp [Stg.right] at h
  obtain ⟨⟨h1, h2⟩, h3, h4⟩ := h
  refine ⟨h1, h2, h3, ?_⟩
  have hb : blocksN s.size ≤ 10 := by unfold blocksN; omega
  have hp : (2 : Nat) ^ blocksN s.size ≤ 2 ^ 10 := Nat.pow_le_pow_right (by decide) hb
  have hc : ((2 ^ blocksN s.size : Nat) : Int) = (2 : Int) ^ blocksN s.size := by simp
  omega

/-- the fields of a stage in a block -/
theorem stg_fl {w : World} {R F : Nat} {s : Stg} (hr : Row w R 96 s.cells.toList) (hF : Row w F 224 (fieldCells R stgWidths)) (h : s.right = true) : Fl w R F 224 stgWidths s.nums := by
  obtain ⟨⟨h1, h2⟩, ⟨h3, h4⟩, h5, h6⟩ := stg_in h
  obtain ⟨session, size, have_⟩ := s
  simp only at *
  refine ⟨hF, fun i hi => ?_, fun i hi => ?_⟩
  · have hi6 : i = 0 ∨ i = 1 ∨ i = 2 := by simp at hi; omega
    rcases hi6 with rfl | rfl | rfl <;> refine (hr.cell _).trans ?_ <;> simp [Stg.cells, Stg.nums] <;> omega
  · have hi6 : i = 0 ∨ i = 1 ∨ i = 2 := by simp at hi; omega
    rcases hi6 with rfl | rfl | rfl <;> simp [Stg.nums] <;> omega

set_option maxRecDepth 100000 in
set_option maxHeartbeats 4000000 in
theorem putStage_at (s : Stg) (w : World) (h : s.right = true) : Calls Try.prog 76 #[s.val] w fun e w' => ∃ v, e = .returned (.tuple #[v, .int .i64 0]) ∧ w'.ownsRow w.heap.size 5 1 v 64 (s.bytes.map (.int .u8)) ∧ Below w.heap.size w w' := by
  have H := Lib.hid h
  have HR0 := Lib.hid (Row.new w 96 s.cells)
  have HB0 := Lib.hid ((Below.refl w.heap.size w).alloc (Nat.le_refl _) (.cells s.cells 96))
  have HA := Lib.hid (rightStage_at s)
  clear h
  unfold Stg.val Stg.cells at *
  go_enter Try.func76, Try.ntmps76
  go_wp2_with (fail)
  refine (HA.out _).mono ?_
  rintro e w1 ⟨rfl, hb⟩
  rw [H.out]
  have HB1 := Lib.hid (HB0.out.trans (hb.mono (by simp)))
  have HR1 := Lib.hid (HR0.out.below hb (by simp))
  clear hb
  go_wp2_with (fail)
  refine (stageFields_at _ _).mono ?_
  rintro e w2 ⟨F, rfl, hF, hrow, hb⟩
  have HB2 := Lib.hid (HB1.out.trans (hb.mono HB1.out.size))
  have HR2 := Lib.hid (HR1.out.below hb HR1.out.lt)
  have HF2 := Lib.hid hrow
  clear hb hrow hF
  go_wp2_with (fail)
  refine (sealed_at _ w.heap.size F 224 stgWidths s.nums 3 rfl (by omega) (stg_fl HR2.out HF2.out H.out) 19539 (by decide) (by have := s.head_length; unfold Stg.head at this; omega)).mono ?_
  rintro e w3 ⟨v, rfl, ho, hb⟩
  have HO := Lib.hid (own_base ho HB2.out.size)
  have HB3 := Lib.hid (HB2.out.trans (hb.mono HB2.out.size))
  clear ho hb
  go_wp2_with (fail)
  go_ret2
  exact ⟨v, rfl, HO.out, HB3.out⟩

set_option maxRecDepth 100000 in
set_option maxHeartbeats 4000000 in
theorem putStage_bad (s : Stg) (w : World) (h : s.right = false) : Calls Try.prog 76 #[s.val] w fun e w' => e = .returned (.tuple #[.slice none 0 0, .int .i64 3]) ∧ Below w.heap.size w w' := by
  have H := Lib.hid h
  have HB0 := Lib.hid ((Below.refl w.heap.size w).alloc (Nat.le_refl _) (.cells s.cells 96))
  have HA := Lib.hid (rightStage_at s)
  clear h
  unfold Stg.val Stg.cells at *
  go_enter Try.func76, Try.ntmps76
  go_wp2_with (fail)
  refine (HA.out _).mono ?_
  rintro e w1 ⟨rfl, hb⟩
  rw [H.out]
  have HB1 := Lib.hid (HB0.out.trans (hb.mono (by simp)))
  clear hb
  go_wp2_with (fail)
  go_ret2
  exact ⟨rfl, HB1.out⟩
end Go.Proofs.Ytooagoikiafgcaa.record
