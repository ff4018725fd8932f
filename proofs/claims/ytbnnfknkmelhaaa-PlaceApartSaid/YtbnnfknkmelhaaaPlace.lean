/-
  PROVED HERE: contracts of the functions of package place: what each returns, for every input.
  CONDITIONS: none (each contract names the range it speaks of).
-/
import Derived.Test.YtbnnfknkmelhaaaBase
namespace Go.Proofs.Ytbnnfknkmelhaaa.place
open Go.RowKit Go.Proofs.Ytbnnfknkmelhaaa.base

theorem block_out (n : Int) (w : World) (h : n < 0 ∨ 9 < n) : Calls Try.prog 15 #[.int .i64 n] w fun e w' => e = .returned (.tuple #[.int .i64 0, .int .i64 0, .bool false]) ∧ w = w' := by
  rcases h with h | h
  · go_enter Try.func15, Try.ntmps15
    go_wp2
    go_ret3
    exact ⟨rfl, rfl⟩
  · have h2 : 0 ≤ n := by omega
    have h3 : ¬ n < 10 := by omega
    go_enter Try.func15, Try.ntmps15
    go_wp2
    go_ret3
    exact ⟨rfl, rfl⟩

theorem block_in (n : Int) (w : World) (h0 : 0 ≤ n) (h1 : n < 10) : Calls Try.prog 15 #[.int .i64 n] w fun e w' => e = .returned (.tuple #[.int .i64 (n / 4), .int .i64 (n % 4 * 16), .bool true]) ∧ w = w' := by
  go_enter Try.func15, Try.ntmps15
  go_wp2
  go_ret3
  exact ⟨rfl, rfl⟩

theorem one_in (n k : Int) (w : World) (h0 : 0 ≤ n) (h1 : n < k) : Calls Try.prog 49 #[.int .i64 n, .int .i64 k] w fun e w' => e = .returned (.bool true) ∧ w = w' := by
  go_enter Try.func49, Try.ntmps49
  go_wp2
  go_ret
  exact ⟨rfl, rfl⟩

theorem one_out (n k : Int) (w : World) (h : n < 0 ∨ k ≤ n) : Calls Try.prog 49 #[.int .i64 n, .int .i64 k] w fun e w' => e = .returned (.bool false) ∧ w = w' := by
  by_cases h0 : n < 0
  · go_enter Try.func49, Try.ntmps49
    go_wp2
    go_ret
    exact ⟨rfl, rfl⟩
  · have h1 : 0 ≤ n := by omega
    have h2 : ¬ n < k := by omega
    clear h
    go_enter Try.func49, Try.ntmps49
    go_wp2
    go_ret
    exact ⟨rfl, rfl⟩

theorem commit_in (p c : Int) (w : World) (h0 : 0 ≤ p) (h1 : p < 4) (h2 : 0 ≤ c) (h3 : c < 2) : Calls Try.prog 16 #[.int .i64 p, .int .i64 c] w fun e w' => e = .returned (.tuple #[.int .i64 (p * 10 + c), .bool true]) ∧ Below w.heap.size w w' := by
  go_enter Try.func16, Try.ntmps16
  go_wp2
  go_ret2
  exact ⟨rfl, by first | exact Below.refl _ _ | exact (Below.refl _ _).alloc (Nat.le_refl _) _⟩

theorem commit_out (p c : Int) (w : World) (h : p < 0 ∨ 4 ≤ p ∨ c < 0 ∨ 2 ≤ c) : Calls Try.prog 16 #[.int .i64 p, .int .i64 c] w fun e w' => e = .returned (.tuple #[.int .i64 0, .bool false]) ∧ Below w.heap.size w w' := by
  by_cases h0 : c < 0 ∨ 2 ≤ c
  · clear h
    go_enter Try.func16, Try.ntmps16
    go_wp2_with (first | (go_at_call 49; refine (one_out _ _ _ h0).mono ?_; rintro e w' ⟨rfl, rfl⟩) | go_in)
    go_ret2
    exact ⟨rfl, by first | exact Below.refl _ _ | exact (Below.refl _ _).alloc (Nat.le_refl _) _⟩
  · have h1 : 0 ≤ c := by omega
    have h2 : c < 2 := by omega
    by_cases h3 : p < 0
    · clear h h0
      go_enter Try.func16, Try.ntmps16
      go_wp2
      go_ret2
      exact ⟨rfl, by first | exact Below.refl _ _ | exact (Below.refl _ _).alloc (Nat.le_refl _) _⟩
    · have h4 : 0 ≤ p := by omega
      have h5 : 4 ≤ p := by omega
      clear h h0
      go_enter Try.func16, Try.ntmps16
      go_wp2
      go_ret2
      exact ⟨rfl, by first | exact Below.refl _ _ | exact (Below.refl _ _).alloc (Nat.le_refl _) _⟩

theorem stage_in (p s : Int) (w : World) (h0 : 0 ≤ p) (h1 : p < 4) (h2 : 0 ≤ s) (h3 : s < 2) : Calls Try.prog 17 #[.int .i64 p, .int .i64 s] w fun e w' => e = .returned (.tuple #[.int .i64 (p * 10 + (2 + s * 4)), .bool true]) ∧ Below w.heap.size w w' := by
  go_enter Try.func17, Try.ntmps17
  go_wp2
  go_ret2
  exact ⟨rfl, by first | exact Below.refl _ _ | exact (Below.refl _ _).alloc (Nat.le_refl _) _⟩

theorem stage_out (p s : Int) (w : World) (h : p < 0 ∨ 4 ≤ p ∨ s < 0 ∨ 2 ≤ s) : Calls Try.prog 17 #[.int .i64 p, .int .i64 s] w fun e w' => e = .returned (.tuple #[.int .i64 0, .bool false]) ∧ Below w.heap.size w w' := by
  by_cases h0 : s < 0 ∨ 2 ≤ s
  · clear h
    go_enter Try.func17, Try.ntmps17
    go_wp2_with (first | (go_at_call 49; refine (one_out _ _ _ h0).mono ?_; rintro e w' ⟨rfl, rfl⟩) | go_in)
    go_ret2
    exact ⟨rfl, by first | exact Below.refl _ _ | exact (Below.refl _ _).alloc (Nat.le_refl _) _⟩
  · have h1 : 0 ≤ s := by omega
    have h2 : s < 2 := by omega
    by_cases h3 : p < 0
    · clear h h0
      go_enter Try.func17, Try.ntmps17
      go_wp2
      go_ret2
      exact ⟨rfl, by first | exact Below.refl _ _ | exact (Below.refl _ _).alloc (Nat.le_refl _) _⟩
    · have h4 : 0 ≤ p := by omega
      have h5 : 4 ≤ p := by omega
      clear h h0
      go_enter Try.func17, Try.ntmps17
      go_wp2
      go_ret2
      exact ⟨rfl, by first | exact Below.refl _ _ | exact (Below.refl _ _).alloc (Nat.le_refl _) _⟩

theorem data_in (p s i : Int) (w : World) (h0 : 0 ≤ p) (h1 : p < 4) (h2 : 0 ≤ s) (h3 : s < 2) (h4 : 0 ≤ i) (h5 : i < 3) : Calls Try.prog 18 #[.int .i64 p, .int .i64 s, .int .i64 i] w fun e w' => e = .returned (.tuple #[.int .i64 (p * 10 + (2 + s * 4 + 1 + i)), .bool true]) ∧ Below w.heap.size w w' := by
  go_enter Try.func18, Try.ntmps18
  go_wp2
  go_ret2
  exact ⟨rfl, by first | exact Below.refl _ _ | exact (Below.refl _ _).alloc (Nat.le_refl _) _⟩

theorem data_out (p s i : Int) (w : World) (h : p < 0 ∨ 4 ≤ p ∨ s < 0 ∨ 2 ≤ s ∨ i < 0 ∨ 3 ≤ i) : Calls Try.prog 18 #[.int .i64 p, .int .i64 s, .int .i64 i] w fun e w' => e = .returned (.tuple #[.int .i64 0, .bool false]) ∧ Below w.heap.size w w' := by
  by_cases h0 : s < 0 ∨ 2 ≤ s
  · clear h
    go_enter Try.func18, Try.ntmps18
    go_wp2_with (first | (go_at_call 49; refine (one_out _ _ _ h0).mono ?_; rintro e w' ⟨rfl, rfl⟩) | go_in)
    go_ret2
    exact ⟨rfl, by first | exact Below.refl _ _ | exact (Below.refl _ _).alloc (Nat.le_refl _) _⟩
  · have h1 : 0 ≤ s := by omega
    have h2 : s < 2 := by omega
    by_cases h6 : i < 0 ∨ 3 ≤ i
    · clear h h0
      go_enter Try.func18, Try.ntmps18
      go_wp2_with (fail)
      refine (one_in _ _ _ h1 h2).mono ?_; rintro e w' ⟨rfl, rfl⟩
      go_wp2_with (fail)
      refine (one_out _ _ _ h6).mono ?_; rintro e w' ⟨rfl, rfl⟩
      go_wp2_with (fail)
      go_ret2
      exact ⟨rfl, by first | exact Below.refl _ _ | exact (Below.refl _ _).alloc (Nat.le_refl _) _⟩
    · have h7 : 0 ≤ i := by omega
      have h8 : i < 3 := by omega
      by_cases h3 : p < 0
      · clear h h0 h6
        go_enter Try.func18, Try.ntmps18
        go_wp2
        go_ret2
        exact ⟨rfl, by first | exact Below.refl _ _ | exact (Below.refl _ _).alloc (Nat.le_refl _) _⟩
      · have h4 : 0 ≤ p := by omega
        have h5 : 4 ≤ p := by omega
        clear h h0 h6
        go_enter Try.func18, Try.ntmps18
        go_wp2
        go_ret2
        exact ⟨rfl, by first | exact Below.refl _ _ | exact (Below.refl _ _).alloc (Nat.le_refl _) _⟩

theorem sectors_low (n : Int) (w : World) (h : n < 1) : Calls Try.prog 23 #[.int .i64 n] w fun e w' => e = .returned (.int .i64 10) ∧ w = w' := by
  go_enter Try.func23, Try.ntmps23
  go_wp2
  go_ret
  exact ⟨rfl, rfl⟩

theorem sectors_in (n : Int) (w : World) (h : 1 ≤ n) (h' : n ≤ 4) : Calls Try.prog 23 #[.int .i64 n] w fun e w' => e = .returned (.int .i64 (10 * n)) ∧ w = w' := by
  go_enter Try.func23, Try.ntmps23
  go_wp2
  go_ret
  exact ⟨rfl, rfl⟩

theorem sectors_high (n : Int) (w : World) (h : 4 < n) : Calls Try.prog 23 #[.int .i64 n] w fun e w' => e = .returned (.int .i64 40) ∧ w = w' := by
  go_enter Try.func23, Try.ntmps23
  go_wp2
  go_ret
  exact ⟨rfl, rfl⟩

theorem sectors (n : Int) (w : World) : Calls Try.prog 23 #[.int .i64 n] w fun e w' => (∃ r, e = .returned (.int .i64 r) ∧ (n < 1 ∧ r = 10 ∨ 4 < n ∧ r = 40 ∨ 1 ≤ n ∧ n ≤ 4 ∧ r = 10 * n)) ∧ w = w' := by
  by_cases h : n < 1
  · exact (sectors_low n w h).mono fun e w' ⟨a, b⟩ => ⟨⟨_, a, by omega⟩, b⟩
  · by_cases h' : 4 < n
    · exact (sectors_high n w h').mono fun e w' ⟨a, b⟩ => ⟨⟨_, a, by omega⟩, b⟩
    · exact (sectors_in n w (by omega) (by omega)).mono fun e w' ⟨a, b⟩ => ⟨⟨_, a, by omega⟩, b⟩

theorem wakes (w : World) : Calls Try.prog 14 #[] w fun e w' => e = .returned (.bool true) ∧ Below w.heap.size w w' := by
  go_enter Try.func14, Try.ntmps14
  go_wp2_with (go_at_call 18; refine (data_in _ _ _ _ (by omega) (by omega) (by omega) (by omega) (by omega) (by omega)).mono ?_; rintro e w' ⟨rfl, hg⟩)
  go_ret
  exact ⟨rfl, hg⟩

theorem what_out (n : Int) (w : World) (h : n < 0 ∨ 40 ≤ n) : Calls Try.prog 28 #[.int .i64 n] w fun e w' => e = .returned (.tuple #[.int .i64 (-1), .int .i64 (-1)]) ∧ w = w' := by
  go_enter Try.func28, Try.ntmps28
  go_wp2_with (first | (go_at_call 49; refine (one_out _ _ _ h).mono ?_; rintro e w' ⟨rfl, rfl⟩) | go_in)
  go_ret2
  exact ⟨rfl, rfl⟩

theorem what_commit (n : Int) (w : World) (h0 : 0 ≤ n) (h1 : n < 40) (h2 : n % 10 < 2) : Calls Try.prog 28 #[.int .i64 n] w fun e w' => e = .returned (.tuple #[.int .i64 (n / 10), .int .i64 0]) ∧ w = w' := by
  go_enter Try.func28, Try.ntmps28
  go_wp2
  go_ret2
  exact ⟨rfl, rfl⟩

theorem what_stage (n : Int) (w : World) (h0 : 0 ≤ n) (h1 : n < 40) (h2 : 2 ≤ n % 10) (h3 : (n % 10 - 2) % 4 = 0) : Calls Try.prog 28 #[.int .i64 n] w fun e w' => e = .returned (.tuple #[.int .i64 (n / 10), .int .i64 1]) ∧ w = w' := by
  go_enter Try.func28, Try.ntmps28
  go_wp2
  all_goals
    go_ret2
    exact ⟨rfl, rfl⟩

theorem what_data (n : Int) (w : World) (h0 : 0 ≤ n) (h1 : n < 40) (h2 : 2 ≤ n % 10) (h3 : ¬ (n % 10 - 2) % 4 = 0) : Calls Try.prog 28 #[.int .i64 n] w fun e w' => e = .returned (.tuple #[.int .i64 (n / 10), .int .i64 2]) ∧ w = w' := by
  go_enter Try.func28, Try.ntmps28
  go_wp2
  all_goals
    go_ret2
    exact ⟨rfl, rfl⟩

end Go.Proofs.Ytbnnfknkmelhaaa.place
