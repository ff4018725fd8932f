/-
  PROVED HERE: for all ints part, slot, i, longeronlaw09.PlaceSays(part, slot, i) returns true and leaves memory as it was.
  CONDITIONS: none.
-/
import Derived.Test.YtdlbcbdfcjfagaaPlace
namespace Go.Proofs.Ytdlbcbdfcjfagaa.placeSays
set_option linter.unusedVariables false
open Go.Proofs.Ytdlbcbdfcjfagaa.base Go.ChangeShapes Go.WideShapes Go.ChangeAt Go.RowKit Go.Proofs.Ytdlbcbdfcjfagaa.place

theorem find_in (p n : Int) (w : World) (h0 : 0 ≤ p) (h1 : p < 4) (h2 : 0 ≤ n) (h3 : n < 10) : Calls Try.prog 69 #[.int .i64 p, .int .i64 n] w fun e w' => (∃ r, r = 10 * p + n ∧ e = .returned (.int .i64 r)) ∧ w = w' := by
  have h4 : ¬ p < 0 := by omega
  have h5 : ¬ 3 < p := by omega
  go_enter Try.func69, Try.ntmps69
  go_wp2
  go_ret
  exact ⟨rfl, rfl⟩

theorem find_out (p n : Int) (w : World) (h : p < 0 ∨ 4 ≤ p) : Calls Try.prog 69 #[.int .i64 p, .int .i64 n] w fun e w' => e = .returned (.int .i64 (-1)) ∧ w = w' := by
  rcases h with h | h
  · go_enter Try.func69, Try.ntmps69
    go_wp2
    go_ret
    exact ⟨rfl, rfl⟩
  · have h4 : ¬ p < 0 := by omega
    have h5 : 3 < p := by omega
    go_enter Try.func69, Try.ntmps69
    go_wp2
    go_ret
    exact ⟨rfl, rfl⟩

theorem rcommit_in (p c : Int) (w : World) (h0 : 0 ≤ p) (h1 : p < 4) (h2 : 0 ≤ c) (h3 : c < 2) : Calls Try.prog 36 #[.int .i64 p, .int .i64 c] w fun e w' => (∃ r, r = 10 * p + c ∧ e = .returned (.int .i64 r)) ∧ w = w' := by
  rcases (by omega : c = 0 ∨ c = 1) with rfl | rfl <;>
  · go_enter Try.func36, Try.ntmps36
    go_wp2_with (go_at_call 69; refine (find_in _ _ _ h0 h1 (by omega) (by omega)).mono ?_; rintro e w' ⟨⟨r, hr, rfl⟩, rfl⟩; have HR := Lib.hid hr; clear hr)
    go_ret
    exact ⟨⟨_, HR.out, rfl⟩, rfl⟩

theorem rcommit_out (p c : Int) (w : World) (h : p < 0 ∨ 4 ≤ p ∨ c < 0 ∨ 2 ≤ c) : Calls Try.prog 36 #[.int .i64 p, .int .i64 c] w fun e w' => e = .returned (.int .i64 (-1)) ∧ w = w' := by
  by_cases h0 : c < 0 ∨ 2 ≤ c
  · have e0 : (c == 0) = false := by simp; omega
    have e1 : (c == 1) = false := by simp; omega
    clear h h0
    go_enter Try.func36, Try.ntmps36
    go_wp2
    go_ret
    exact ⟨rfl, rfl⟩
  · have hp : p < 0 ∨ 4 ≤ p := by omega
    rcases (by omega : c = 0 ∨ c = 1) with rfl | rfl <;>
    · clear h h0
      go_enter Try.func36, Try.ntmps36
      go_wp2_with (go_at_call 69; refine (find_out _ _ _ hp).mono ?_; rintro e w' ⟨rfl, rfl⟩)
      go_ret
      exact ⟨rfl, rfl⟩

/-- one place, both ways, and whether they agree -/
def Agree (s : Int) (is : Bool) (t : Int) : Prop := (is = true ∧ s = t ∧ 0 ≤ s) ∨ (is = false ∧ s = 0 ∧ t = -1)
theorem commit_any (p c : Int) (w : World) : Calls Try.prog 92 #[.int .i64 p, .int .i64 c] w fun e w' => (∃ s is, e = .returned (.tuple #[.int .i64 s, .bool is]) ∧ (∀ t, (0 ≤ p ∧ p < 4 ∧ 0 ≤ c ∧ c < 2 → t = 10 * p + c) → (¬ (0 ≤ p ∧ p < 4 ∧ 0 ≤ c ∧ c < 2) → t = -1) → Agree s is t)) ∧ Below w.heap.size w w' := by
  by_cases h : 0 ≤ p ∧ p < 4 ∧ 0 ≤ c ∧ c < 2
  · exact (commit_in p c w (by omega) (by omega) (by omega) (by omega)).mono fun e w' ⟨a, b⟩ => ⟨⟨_, _, a, fun t ht _ => .inl ⟨rfl, by have := ht h; omega, by omega⟩⟩, b⟩
  · exact (commit_out p c w (by omega)).mono fun e w' ⟨a, b⟩ => ⟨⟨_, _, a, fun t _ ht => .inr ⟨rfl, rfl, ht h⟩⟩, b⟩
theorem rcommit_any (p c : Int) (w : World) : Calls Try.prog 36 #[.int .i64 p, .int .i64 c] w fun e w' => (∃ t, e = .returned (.int .i64 t) ∧ (0 ≤ p ∧ p < 4 ∧ 0 ≤ c ∧ c < 2 → t = 10 * p + c) ∧ (¬ (0 ≤ p ∧ p < 4 ∧ 0 ≤ c ∧ c < 2) → t = -1)) ∧ w = w' := by
  by_cases h : 0 ≤ p ∧ p < 4 ∧ 0 ≤ c ∧ c < 2
  · exact (rcommit_in p c w (by omega) (by omega) (by omega) (by omega)).mono fun e w' ⟨⟨r, hr, a⟩, b⟩ => ⟨⟨_, a, fun _ => hr, fun k => (k h).elim⟩, b⟩
  · exact (rcommit_out p c w (by omega)).mono fun e w' ⟨a, b⟩ => ⟨⟨_, a, fun k => (h k).elim, fun _ => rfl⟩, b⟩