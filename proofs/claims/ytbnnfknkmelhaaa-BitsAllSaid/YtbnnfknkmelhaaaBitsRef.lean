/-
  PROVED HERE: contracts of longeronref10 (Power, Has, Missing), of bits.All and bits.Many at whole sets, and of longeronlaw10's wakes.
  CONDITIONS: each contract names its own.
-/
import Derived.Test.YtbnnfknkmelhaaaBitsPlain
import Derived.Deep.QuietTactic
import Derived.BigQuiet
namespace Go.Proofs.Ytbnnfknkmelhaaa.bits
set_option linter.unusedVariables false
open Go.RowKit Go.Proofs.Ytbnnfknkmelhaaa.base

theorem pow_bd (k : Nat) (hk : k ≤ 16) : (0 : Int) < 2 ^ k ∧ (2 : Int) ^ k ≤ 65536 := by
  refine ⟨Int.pow_pos (by omega), ?_⟩
  have : 2 ^ k ≤ 2 ^ 16 := Nat.pow_le_pow_right (by omega) hk
  have : (2 : Int) ^ k ≤ 2 ^ 16 := by exact_mod_cast this
  simpa using this
theorem power_in (k : Nat) (w : World) (hk : k ≤ 16) : Calls Try.prog 53 #[.int .i64 k] w fun e w' => e = .returned (.int .i64 (2 ^ k)) ∧ w = w' := by
  go_enter Try.func53, Try.ntmps53
  go_wp2
  go_loop [3, 4] (fun n i => ∃ j : Nat, j ≤ k ∧ i = .int .i64 j ∧ n = .int .i64 (2 ^ j)) (fun _ i => k - (intOf i).toNat)
  case atStart => exact ⟨0, by omega, rfl, rfl⟩
  case round =>
    obtain ⟨j, hj, rfl, rfl⟩ := hrel
    by_cases hlt : j < k
    · have hb := pow_bd j (by omega)
      have h0 := hb.1
      have h1 := hb.2
      have HS := Lib.hid (show (2 : Int) ^ j + 2 ^ j = 2 ^ (j + 1) by rw [Int.pow_succ]; omega)
      clear hb
      generalize hp : (2 : Int) ^ j = p at *
      clear hp
      go_wp2
      go_round
      case rel => exact ⟨j + 1, by omega, by go_num, by rw [← HS.out]⟩
      case measure => simp [intOf]; omega
    · obtain rfl : j = k := by omega
      go_wp2
      go_ret
      exact ⟨rfl, rfl⟩

theorem low_bit (s : Int) (k : Nat) (hk : k < 16) : s % 65536 / 2 ^ k % 2 = s / 2 ^ k % 2 := by
  rcases (by omega : k = 0 ∨ k = 1 ∨ k = 2 ∨ k = 3 ∨ k = 4 ∨ k = 5 ∨ k = 6 ∨ k = 7 ∨ k = 8 ∨ k = 9 ∨ k = 10 ∨ k = 11 ∨ k = 12 ∨ k = 13 ∨ k = 14 ∨ k = 15) with rfl | rfl | rfl | rfl | rfl | rfl | rfl | rfl | rfl | rfl | rfl | rfl | rfl | rfl | rfl | rfl <;>
  · simp only [Int.reducePow]
    omega

theorem rhas_tail (x s : Int) (k : Nat) (hk : k < 16) (hx : x = s % 65536) : ((x / 2 ^ k).tmod 2 == 1) = bitb s k := by
  have h0 : 0 ≤ x / 2 ^ k := Int.ediv_nonneg (by omega) (Int.le_of_lt (Int.pow_pos (by omega)))
  rw [Int.tmod_eq_emod_of_nonneg h0]
  subst hx
  unfold bitb
  rw [low_bit s k hk, Bool.eq_iff_iff]
  simp

set_option maxHeartbeats 1000000 in
theorem rhas_in (s : Int) (k : Nat) (w : World) (hk : k < 16) (hs : InI64 s) : Calls Try.prog 31 #[.int .i64 s, .int .i64 k] w fun e w' => e = .returned (.bool (bitb s k)) ∧ w = w' := by
  have i0 : ¬ (k : Int) < 0 := by omega
  have i1 : ¬ (15 : Int) < k := by omega
  have hb := pow_bd k (by omega)
  have p0 := hb.1
  have p1 := hb.2
  clear hb
  by_cases h0 : 0 ≤ s
  · have HT := Lib.hid (rhas_tail (s % 65536) s k hk rfl)
    go_enter Try.func31, Try.ntmps31
    go_wp2_with (fail)
    refine (power_in k _ (by omega)).mono ?_; rintro e w' ⟨rfl, rfl⟩
    go_wp2_with (fail)
    go_ret
    exact ⟨ret_bool HT.out, rfl⟩
  · have hd := Int.mul_tdiv_add_tmod s 65536
    have hlt := Int.lt_tmod_of_pos s (show (0 : Int) < 65536 by omega)
    have hle : s.tmod 65536 ≤ 0 := by
      have := Int.tmod_nonneg (a := -s) 65536 (by omega)
      rw [Int.neg_tmod] at this
      omega
    generalize hm : s.tmod 65536 = m at *
    generalize s.tdiv 65536 = q at *
    by_cases hm0 : m < 0
    · have HT := Lib.hid (rhas_tail (m + 65536) s k hk (by omega))
      have HM := Lib.hid hm
      have m0 : -65536 < m := by omega
      clear hm hd hle hlt
      go_enter Try.func31, Try.ntmps31
      have hm := HM.out
      go_wp2_with (fail)
      clear hm
      refine (power_in k _ (by omega)).mono ?_; rintro e w' ⟨rfl, rfl⟩
      go_wp2_with (fail)
      go_ret
      exact ⟨ret_bool HT.out, rfl⟩
    · obtain rfl : m = 0 := by omega
      have HT := Lib.hid (rhas_tail 0 s k hk (by omega))
      have HM := Lib.hid hm
      clear hm hd hle hlt hm0
      go_enter Try.func31, Try.ntmps31
      have hm := HM.out
      go_wp2_with (fail)
      clear hm
      refine (power_in k _ (by omega)).mono ?_; rintro e w' ⟨rfl, rfl⟩
      go_wp2_with (fail)
      go_ret
      exact ⟨ret_bool (by simpa using HT.out), rfl⟩

theorem rhas_out (s i : Int) (w : World) (h : i < 0 ∨ 15 < i) : Calls Try.prog 31 #[.int .i64 s, .int .i64 i] w fun e w' => e = .returned (.bool false) ∧ w = w' := by
  rcases (by omega : i < 0 ∨ (¬ i < 0 ∧ 15 < i)) with h | ⟨h, h1⟩ <;>
  · go_enter Try.func31, Try.ntmps31
    go_wp2
    go_ret
    exact ⟨rfl, rfl⟩

theorem slInt : SlT Try.prog 42 3 1 8 := by
  obtain ⟨i0, hi, hz0, hz1, hz2⟩ := info_parts infoInt
  exact ⟨Try.underlying42, ⟨i0, _, hi, hz0, hz1, hz2, rfl⟩, by decide⟩

set_option maxHeartbeats 1000000 in
theorem rmissing_any (s n : Int) (w : World) (hs : InI64 s) : Calls Try.prog 32 #[.int .i64 s, .int .i64 n] w fun e W' => (∃ v, e = .returned v ∧ W'.ownsRow w.heap.size 3 1 v (missL s n).length ((missL s n).map (Value.int .i64))) ∧ Below w.heap.size w W' := by
  have hm := heldN_le n
  go_enter Try.func32, Try.ntmps32
  go_wp2_with (fail)
  go_loopw [5, 6] (fun v i wr => ∃ k : Nat, k ≤ heldN n ∧ i = .int .i64 k ∧ wr.ownsRow w.heap.size 3 1 v (missP (elems s k)).length ((missP (elems s k)).map (Value.int .i64)) ∧ Below w.heap.size w wr) (fun _ i _ => heldN n - (intOf i).toNat)
  case atStart => exact ⟨0, by omega, rfl, World.ownsRow_nil _ _ _ _, Below.refl _ _⟩
  case round =>
    obtain ⟨k, hk, rfl, hown, hb⟩ := hrel
    have HO := Lib.hid hown; have HB := Lib.hid hb
    have hz := hb.size
    clear hown hb
    by_cases hlt : k < heldN n
    · have i0 : (k : Int) < n := by unfold heldN at hlt; omega
      have i1 : (k : Int) < 16 := by omega
      have hl := missP_len (elems s k)
      rw [elems_len] at hl
      have hes := elems_succ s k
      have HES := Lib.hid hes
      clear hes
      cases hbit : bitb s k
      · have HBIT := Lib.hid hbit
        clear hbit
        go_wp2_with (first
          | (go_at_call 31; refine (rhas_in s k _ (by omega) hs).mono ?_; rintro e w' ⟨rfl, rfl⟩; rw [HBIT.out])
          | (at_builtin; refine app_new slInt rfl (.tmp 20) (.tmp 22) rfl HO.out rfl rfl rfl (by simp [Value.oneCell']) (by omega) (by simp only [maxLen]; omega) (by omega) ?_; intro v2 w2 hown2 hg2; have HB2 := Lib.hid (below_own HB.out HO.out hg2 (by omega)); clear hg2))
        go_roundw
        case rel =>
          refine ⟨k + 1, by omega, by go_num, ?_, HB2.out⟩
          rw [HES.out, HBIT.out, missP_hit]
          simpa using hown2
        case measure => simp [intOf]; omega
      · have HBIT := Lib.hid hbit
        clear hbit
        go_wp2_with (go_at_call 31; refine (rhas_in s k _ (by omega) hs).mono ?_; rintro e w' ⟨rfl, rfl⟩; rw [HBIT.out])
        go_roundw
        case rel =>
          refine ⟨k + 1, by omega, by go_num, ?_, HB.out⟩
          rw [HES.out, HBIT.out, missP_miss]
          exact HO.out
        case measure => simp [intOf]; omega
    · obtain rfl : k = heldN n := by omega
      have hcase : ¬ ((heldN n : Nat) : Int) < n ∨ (((heldN n : Nat) : Int) < n ∧ ¬ ((heldN n : Nat) : Int) < 16) := by unfold heldN; omega
      rcases hcase with h1 | ⟨h1, h2⟩
      · go_wp2_with (fail)
        go_ret
        exact ⟨⟨_, rfl, HO.out⟩, HB.out⟩
      · go_wp2_with (fail)
        go_ret
        exact ⟨⟨_, rfl, HO.out⟩, HB.out⟩

theorem all_any (n : Int) (w : World) : Calls Try.prog 37 #[.int .i64 n] w fun e w' => e = .returned (.int .i64 (2 ^ heldN n - 1)) ∧ w = w' := by
  have hb := pow_bd (heldN n) (heldN_le n)
  have p0 := hb.1
  have p1 := hb.2
  have hw : wrap64 (2 ^ heldN n) = 2 ^ heldN n := IntWalk.wrap64_in _ ⟨by omega, by omega⟩
  have hw2 : IntKind.i64.wrap (2 ^ heldN n) = 2 ^ heldN n := IntWalk.i64_in _ ⟨by omega, by omega⟩
  have hm := heldN_le n
  clear hb
  go_enter Try.func37, Try.ntmps37
  go_wp2_with (go_at_call 54; refine (held_any _ _).mono ?_; rintro e w' ⟨rfl, rfl⟩)
  go_ret
  exact ⟨rfl, rfl⟩

end Go.Proofs.Ytbnnfknkmelhaaa.bits
