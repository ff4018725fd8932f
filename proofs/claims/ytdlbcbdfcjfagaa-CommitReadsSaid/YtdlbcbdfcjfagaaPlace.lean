/-
  PROVED HERE: contracts of the functions of package place: what each returns, for every input.
  CONDITIONS: none (each contract names the range it speaks of).
-/
import Derived.Test.YtdlbcbdfcjfagaaBase
namespace Go.Proofs.Ytdlbcbdfcjfagaa.place
open Go.RowKit Go.Proofs.Ytdlbcbdfcjfagaa.base

theorem one_in (n k : Int) (w : World) (h0 : 0 ≤ n) (h1 : n < k) : Calls Try.prog 111 #[.int .i64 n, .int .i64 k] w fun e w' => e = .returned (.bool true) ∧ w = w' := by
  go_enter Try.func111, Try.ntmps111
  go_wp2
  go_ret
  exact ⟨rfl, rfl⟩

theorem one_out (n k : Int) (w : World) (h : n < 0 ∨ k ≤ n) : Calls Try.prog 111 #[.int .i64 n, .int .i64 k] w fun e w' => e = .returned (.bool false) ∧ w = w' := by
  by_cases h0 : n < 0
  · go_enter Try.func111, Try.ntmps111
    go_wp2
    go_ret
    exact ⟨rfl, rfl⟩
  · have h1 : 0 ≤ n := by omega
    have h2 : ¬ n < k := by omega
    clear h
    go_enter Try.func111, Try.ntmps111
    go_wp2
    go_ret
    exact ⟨rfl, rfl⟩

theorem commit_in (p c : Int) (w : World) (h0 : 0 ≤ p) (h1 : p < 4) (h2 : 0 ≤ c) (h3 : c < 2) : Calls Try.prog 92 #[.int .i64 p, .int .i64 c] w fun e w' => e = .returned (.tuple #[.int .i64 (p * 10 + c), .bool true]) ∧ Below w.heap.size w w' := by
  go_enter Try.func92, Try.ntmps92
  go_wp2
  go_ret2
  exact ⟨rfl, by first | exact Below.refl _ _ | exact (Below.refl _ _).alloc (Nat.le_refl _) _⟩

theorem commit_out (p c : Int) (w : World) (h : p < 0 ∨ 4 ≤ p ∨ c < 0 ∨ 2 ≤ c) : Calls Try.prog 92 #[.int .i64 p, .int .i64 c] w fun e w' => e = .returned (.tuple #[.int .i64 0, .bool false]) ∧ Below w.heap.size w w' := by
  by_cases h0 : c < 0 ∨ 2 ≤ c
  · clear h
    go_enter Try.func92, Try.ntmps92
    go_wp2_with (first | (go_at_call 111; refine (one_out _ _ _ h0).mono ?_; rintro e w' ⟨rfl, rfl⟩) | go_in)
    go_ret2
    exact ⟨rfl, by first | exact Below.refl _ _ | exact (Below.refl _ _).alloc (Nat.le_refl _) _⟩
  · have h1 : 0 ≤ c := by omega
    have h2 : c < 2 := by omega
    by_cases h3 : p < 0
    · clear h h0
      go_enter Try.func92, Try.ntmps92
      go_wp2
      go_ret2
      exact ⟨rfl, by first | exact Below.refl _ _ | exact (Below.refl _ _).alloc (Nat.le_refl _) _⟩
    · have h4 : 0 ≤ p := by omega
      have h5 : 4 ≤ p := by omega
      clear h h0
      go_enter Try.func92, Try.ntmps92
      go_wp2
      go_ret2
      exact ⟨rfl, by first | exact Below.refl _ _ | exact (Below.refl _ _).alloc (Nat.le_refl _) _⟩

end Go.Proofs.Ytdlbcbdfcjfagaa.place
