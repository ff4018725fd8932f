/-
  PROVED HERE: contracts of the functions of package place: what each returns, for every input.
  CONDITIONS: none (each contract names the range it speaks of).
-/
import Derived.Test.YtooagoikiafgcaaBase
namespace Go.Proofs.Ytooagoikiafgcaa.place
open Go.RowKit Go.Proofs.Ytooagoikiafgcaa.base

theorem block_out (n : Int) (w : World) (h : n < 0 ∨ 9 < n) : Calls Try.prog 81 #[.int .i64 n] w fun e w' => e = .returned (.tuple #[.int .i64 0, .int .i64 0, .bool false]) ∧ w = w' := by
  rcases h with h | h
  · go_enter Try.func81, Try.ntmps81
    go_wp2
    go_ret3
    exact ⟨rfl, rfl⟩
  · have h2 : 0 ≤ n := by omega
    have h3 : ¬ n < 10 := by omega
    go_enter Try.func81, Try.ntmps81
    go_wp2
    go_ret3
    exact ⟨rfl, rfl⟩

theorem block_in (n : Int) (w : World) (h0 : 0 ≤ n) (h1 : n < 10) : Calls Try.prog 81 #[.int .i64 n] w fun e w' => e = .returned (.tuple #[.int .i64 (n / 4), .int .i64 (n % 4 * 16), .bool true]) ∧ w = w' := by
  go_enter Try.func81, Try.ntmps81
  go_wp2
  go_ret3
  exact ⟨rfl, rfl⟩

theorem one_in (n k : Int) (w : World) (h0 : 0 ≤ n) (h1 : n < k) : Calls Try.prog 107 #[.int .i64 n, .int .i64 k] w fun e w' => e = .returned (.bool true) ∧ w = w' := by
  go_enter Try.func107, Try.ntmps107
  go_wp2
  go_ret
  exact ⟨rfl, rfl⟩

theorem one_out (n k : Int) (w : World) (h : n < 0 ∨ k ≤ n) : Calls Try.prog 107 #[.int .i64 n, .int .i64 k] w fun e w' => e = .returned (.bool false) ∧ w = w' := by
  by_cases h0 : n < 0
  · go_enter Try.func107, Try.ntmps107
    go_wp2
    go_ret
    exact ⟨rfl, rfl⟩
  · have h1 : 0 ≤ n := by omega
    have h2 : ¬ n < k := by omega
    clear h
    go_enter Try.func107, Try.ntmps107
    go_wp2
    go_ret
    exact ⟨rfl, rfl⟩

theorem stage_in (p s : Int) (w : World) (h0 : 0 ≤ p) (h1 : p < 4) (h2 : 0 ≤ s) (h3 : s < 2) : Calls Try.prog 73 #[.int .i64 p, .int .i64 s] w fun e w' => e = .returned (.tuple #[.int .i64 (p * 10 + (2 + s * 4)), .bool true]) ∧ Below w.heap.size w w' := by
  go_enter Try.func73, Try.ntmps73
  go_wp2
  go_ret2
  exact ⟨rfl, by first | exact Below.refl _ _ | exact (Below.refl _ _).alloc (Nat.le_refl _) _⟩

theorem stage_out (p s : Int) (w : World) (h : p < 0 ∨ 4 ≤ p ∨ s < 0 ∨ 2 ≤ s) : Calls Try.prog 73 #[.int .i64 p, .int .i64 s] w fun e w' => e = .returned (.tuple #[.int .i64 0, .bool false]) ∧ Below w.heap.size w w' := by
  by_cases h0 : s < 0 ∨ 2 ≤ s
  · clear h
    go_enter Try.func73, Try.ntmps73
    go_wp2_with (first | (go_at_call 107; refine (one_out _ _ _ h0).mono ?_; rintro e w' ⟨rfl, rfl⟩) | go_in)
    go_ret2
    exact ⟨rfl, by first | exact Below.refl _ _ | exact (Below.refl _ _).alloc (Nat.le_refl _) _⟩
  · have h1 : 0 ≤ s := by omega
    have h2 : s < 2 := by omega
    by_cases h3 : p < 0
    · clear h h0
      go_enter Try.func73, Try.ntmps73
      go_wp2
      go_ret2
      exact ⟨rfl, by first | exact Below.refl _ _ | exact (Below.refl _ _).alloc (Nat.le_refl _) _⟩
    · have h4 : 0 ≤ p := by omega
      have h5 : 4 ≤ p := by omega
      clear h h0
      go_enter Try.func73, Try.ntmps73
      go_wp2
      go_ret2
      exact ⟨rfl, by first | exact Below.refl _ _ | exact (Below.refl _ _).alloc (Nat.le_refl _) _⟩

theorem data_in (p s i : Int) (w : World) (h0 : 0 ≤ p) (h1 : p < 4) (h2 : 0 ≤ s) (h3 : s < 2) (h4 : 0 ≤ i) (h5 : i < 3) : Calls Try.prog 74 #[.int .i64 p, .int .i64 s, .int .i64 i] w fun e w' => e = .returned (.tuple #[.int .i64 (p * 10 + (2 + s * 4 + 1 + i)), .bool true]) ∧ Below w.heap.size w w' := by
  go_enter Try.func74, Try.ntmps74
  go_wp2
  go_ret2
  exact ⟨rfl, by first | exact Below.refl _ _ | exact (Below.refl _ _).alloc (Nat.le_refl _) _⟩

theorem data_out (p s i : Int) (w : World) (h : p < 0 ∨ 4 ≤ p ∨ s < 0 ∨ 2 ≤ s ∨ i < 0 ∨ 3 ≤ i) : Calls Try.prog 74 #[.int .i64 p, .int .i64 s, .int .i64 i] w fun e w' => e = .returned (.tuple #[.int .i64 0, .bool false]) ∧ Below w.heap.size w w' := by
  by_cases h0 : s < 0 ∨ 2 ≤ s
  · clear h
    go_enter Try.func74, Try.ntmps74
    go_wp2_with (first | (go_at_call 107; refine (one_out _ _ _ h0).mono ?_; rintro e w' ⟨rfl, rfl⟩) | go_in)
    go_ret2
    exact ⟨rfl, by first | exact Below.refl _ _ | exact (Below.refl _ _).alloc (Nat.le_refl _) _⟩
  · have h1 : 0 ≤ s := by omega
    have h2 : s < 2 := by omega
    by_cases h6 : i < 0 ∨ 3 ≤ i
    · clear h h0
      go_enter Try.func74, Try.ntmps74
      go_wp2_with (fail)
      refine (one_in _ _ _ h1 h2).mono ?_; rintro e w' ⟨rfl, rfl⟩
      go_wp2_with (fail)
      refine (one_out _ _ _ h6).mono ?_; rintro e w' ⟨rfl, rfl⟩
      go_wp2_with (fail)
      go_ret2
      exact ⟨rfl, by first | exact Below.refl _ _ | exact (Below.refl _ _).alloc (Nat.le_refl _) _⟩
    · have h7 : 0 ≤ i := by omega
      have h8 : i < 3 := by omega
      by_cases h3 : p < 0
      · clear h h0 h6
        go_enter Try.func74, Try.ntmps74
        go_wp2
        go_ret2
        exact ⟨rfl, by first | exact Below.refl _ _ | exact (Below.refl _ _).alloc (Nat.le_refl _) _⟩
      · have h4 : 0 ≤ p := by omega
        have h5 : 4 ≤ p := by omega
        clear h h0 h6
        go_enter Try.func74, Try.ntmps74
        go_wp2
        go_ret2
        exact ⟨rfl, by first | exact Below.refl _ _ | exact (Below.refl _ _).alloc (Nat.le_refl _) _⟩

end Go.Proofs.Ytooagoikiafgcaa.place
