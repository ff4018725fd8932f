/-
  PROVED HERE: which stages are right, as the document tells it; how many blocks a size has; a stage's sector.
  CONDITIONS: each contract names its own.
-/
import Derived.Test.YtooagoikiafgcaaRecStage
import Derived.Test.YtooagoikiafgcaaRefBytes
namespace Go.Proofs.Ytooagoikiafgcaa.refRec
set_option linter.unusedVariables false
open Go.RowKit Go.Proofs.Ytooagoikiafgcaa.base Go.Proofs.Ytooagoikiafgcaa.obj Go.Proofs.Ytooagoikiafgcaa.mem Go.Proofs.Ytooagoikiafgcaa.crc Go.Proofs.Ytooagoikiafgcaa.num Go.Proofs.Ytooagoikiafgcaa.bytes Go.Proofs.Ytooagoikiafgcaa.record Go.Proofs.Ytooagoikiafgcaa.refNum

set_option maxHeartbeats 1000000 in
theorem blocks_at (w : World) (size : Int) (h1 : size ≤ 1000) (h0 : -9223372036854775808 ≤ size) : Calls Try.prog 117 #[.int .i64 size] w fun e w' => e = .returned (.int .i64 (blocksN size : Nat)) ∧ w' = w := by
  go_enter Try.func117, Try.ntmps117
  go_wp2_with (fail)
  go_loopw [3, 0] (fun k s wr => ∃ j : Nat, j ≤ 63 ∧ (0 < j → 16 * ((j : Int) - 1) < size) ∧ k = .int .i64 j ∧ s = .int .i64 (size - 16 * j) ∧ wr = w) (fun _ s _ => (intOf s).toNat)
  case atStart => exact ⟨0, by omega, by omega, rfl, by simp, rfl⟩
  case round =>
    obtain ⟨j, hj, hj2, rfl, rfl, rfl⟩ := hrel
    have a1 : (j : Int) < 1000 := by omega
    by_cases hlt : size - 16 * (j : Int) > 0
    · have HJ := Lib.hid hj2
      clear hj2
      generalize hs : size - 16 * (j : Int) = s at *
      have hs1 : s ≤ 1000 := by omega
      have HS := Lib.hid hs
      clear hs
      go_wp2_with (fail)
      go_roundw
      case rel => exact ⟨j + 1, by have := HS.out; omega, by have := HS.out; omega, by go_num, by rw [show s - 16 = size - 16 * ((j + 1 : Nat) : Int) by have := HS.out; omega], trivial⟩
      case measure => simp [intOf] <;> omega
    · have HB := Lib.hid (show ((blocksN size : Nat) : Int) = j by unfold blocksN; omega)
      have hs2 : size - 16 * (j : Int) ≤ 0 := by omega
      generalize hs : size - 16 * (j : Int) = s at *
      have HS := Lib.hid hs
      clear hs hj2 hlt
      have hlt : ¬ s > 0 := by omega
      go_wp2_with (fail)
      go_ret
      exact ⟨ret_int (by rw [HB.out]), rfl⟩

set_option maxRecDepth 100000 in
set_option maxHeartbeats 8000000 in
theorem rightStage_at (s : Stg) (w : World) (hI : -9223372036854775808 ≤ s.size) : Calls Try.prog 116 #[s.val] w fun e w' => e = .returned (.bool s.right) ∧ Below w.heap.size w w' := by
  obtain ⟨session, size, have_⟩ := s
  unfold Stg.val Stg.cells
  have HB := Lib.hid (fun o => (Below.refl w.heap.size w).alloc (Nat.le_refl _) o)
  by_cases hr : 1 ≤ session ∧ session ≤ 65535 ∧ 1 ≤ size ∧ size ≤ 160 ∧ 0 ≤ have_
  · obtain ⟨a1, a2, a3, a4, a5⟩ := hr
    obtain ⟨b, hb⟩ : ∃ b, b = blocksN size := ⟨_, rfl⟩
    have hb1 : 1 ≤ b := by rw [hb]; unfold blocksN; omega
    have hb10 : b ≤ 10 := by rw [hb]; unfold blocksN; omega
    have HBL := Lib.hid (show ∀ W, Calls Try.prog 117 #[.int .i64 size] W fun e w' => e = .returned (.int .i64 (b : Nat)) ∧ w' = W by rw [hb]; exact fun W => blocks_at W size (by omega) (by omega))
    have HE := Lib.hid (show Stg.right ⟨session, size, have_⟩ = decide (have_ < 2 ^ b) by
      unfold Stg.right
      simp only
      rw [← hb]
      rw [Bool.eq_iff_iff]
      simp
      omega)
    clear hb hI
    go_enter Try.func116, Try.ntmps116
    go_wp2_with (fail)
    obtain ⟨w1, hw1⟩ : ∃ w1, w1 = w.alloc (.cells #[.int .i64 session, .int .i64 size, .int .i64 have_] 96) := ⟨_, rfl⟩
    rw [← hw1]
    have d1 : w1.cell? ⟨w.heap.size, 1, none⟩ = some (.int .i64 size) := by rw [hw1]; exact World.cell?_alloc_new _ _ _ _
    have d2 : w1.cell? ⟨w.heap.size, 2, none⟩ = some (.int .i64 have_) := by rw [hw1]; exact World.cell?_alloc_new _ _ _ _
    have HB1 := Lib.hid (show Below w.heap.size w w1 by rw [hw1]; exact HB.out _)
    clear hw1 HB
    go_loopw [4, 3] (fun k s wr => ∃ j : Nat, j ≤ b ∧ k = .int .i64 j ∧ s = .int .i64 ((2 ^ j : Nat) : Int) ∧ wr = w1) (fun k _ _ => b - (intOf k).toNat)
    case atStart => exact ⟨0, by omega, rfl, rfl, rfl⟩
    case round =>
      obtain ⟨j, hj, rfl, rfl, rfl⟩ := hrel
      have hp : 2 ^ j ≤ 1024 := by
        have := Nat.pow_le_pow_right (n := 2) (by decide) (show j ≤ 10 by omega)
        simpa using this
      have HP := Lib.hid (show 2 ^ (j + 1) = 2 * 2 ^ j by rw [Nat.pow_succ, Nat.mul_comm])
      have HPB := Lib.hid (show j = b → ((2 ^ j : Nat) : Int) = 2 ^ b by rintro rfl; simp)
      by_cases hlt : j < b
      · have hlt' : (j : Int) < (b : Int) := by omega
        generalize 2 ^ j = p at *
        go_wp2_with (fail)
        refine (HBL.out _).mono ?_; rintro e w' ⟨rfl, rfl⟩
        go_wp2_with (fail)
        go_roundw
        case rel => exact ⟨j + 1, by omega, by go_num, by rw [HP.out]; go_num, trivial⟩
        case measure => simp [intOf] <;> omega
      · have hjb : j = b := by omega
        have hlt' : ¬ (j : Int) < (b : Int) := by omega
        have HPE := Lib.hid (HPB.out hjb)
        clear hjb
        generalize 2 ^ j = p at *
        go_wp2_with (fail)
        refine (HBL.out _).mono ?_; rintro e w' ⟨rfl, rfl⟩
        go_wp2_with (fail)
        go_ret
        exact ⟨ret_bool (by rw [HE.out, ← HPE.out]), HB1.out⟩
  · go_enter Try.func116, Try.ntmps116
    have HR := Lib.hid hr
    clear hr
    go_wp2_with (fail)
    all_goals first
      | (go_ret; refine ⟨ret_bool ?_, HB.out _⟩; simp [Stg.right] <;> omega)
      | (exfalso; have := HR.out; omega)
end Go.Proofs.Ytooagoikiafgcaa.refRec
