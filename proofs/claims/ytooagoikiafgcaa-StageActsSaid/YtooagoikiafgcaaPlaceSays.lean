/-
  PROVED HERE: for all ints part, slot, i, longeronlaw09.PlaceSays(part, slot, i) returns true and leaves memory as it was.
  CONDITIONS: none.
-/
import Derived.Test.YtooagoikiafgcaaPlace
namespace Go.Proofs.Ytooagoikiafgcaa.placeSays
set_option linter.unusedVariables false
open Go.Proofs.Ytooagoikiafgcaa.base Go.ChangeShapes Go.WideShapes Go.ChangeAt Go.RowKit Go.Proofs.Ytooagoikiafgcaa.place

theorem find_in (p n : Int) (w : World) (h0 : 0 ≤ p) (h1 : p < 4) (h2 : 0 ≤ n) (h3 : n < 10) : Calls Try.prog 90 #[.int .i64 p, .int .i64 n] w fun e w' => (∃ r, r = 10 * p + n ∧ e = .returned (.int .i64 r)) ∧ w = w' := by
  have h4 : ¬ p < 0 := by omega
  have h5 : ¬ 3 < p := by omega
  go_enter Try.func90, Try.ntmps90
  go_wp2
  go_ret
  exact ⟨rfl, rfl⟩

theorem find_out (p n : Int) (w : World) (h : p < 0 ∨ 4 ≤ p) : Calls Try.prog 90 #[.int .i64 p, .int .i64 n] w fun e w' => e = .returned (.int .i64 (-1)) ∧ w = w' := by
  rcases h with h | h
  · go_enter Try.func90, Try.ntmps90
    go_wp2
    go_ret
    exact ⟨rfl, rfl⟩
  · have h4 : ¬ p < 0 := by omega
    have h5 : 3 < p := by omega
    go_enter Try.func90, Try.ntmps90
    go_wp2
    go_ret
    exact ⟨rfl, rfl⟩

theorem rstage_in (p s : Int) (w : World) (h0 : 0 ≤ p) (h1 : p < 4) (h2 : 0 ≤ s) (h3 : s < 2) : Calls Try.prog 53 #[.int .i64 p, .int .i64 s] w fun e w' => (∃ r, r = 10 * p + 2 + 4 * s ∧ e = .returned (.int .i64 r)) ∧ w = w' := by
  rcases (by omega : s = 0 ∨ s = 1) with rfl | rfl <;>
  · go_enter Try.func53, Try.ntmps53
    go_wp2_with (go_at_call 90; refine (find_in _ _ _ h0 h1 (by omega) (by omega)).mono ?_; rintro e w' ⟨⟨r, hr, rfl⟩, rfl⟩; have HR := Lib.hid hr; clear hr)
    go_ret
    have hr := HR.out
    exact ⟨⟨_, by omega, rfl⟩, rfl⟩

theorem rstage_out (p s : Int) (w : World) (h : p < 0 ∨ 4 ≤ p ∨ s < 0 ∨ 2 ≤ s) : Calls Try.prog 53 #[.int .i64 p, .int .i64 s] w fun e w' => e = .returned (.int .i64 (-1)) ∧ w = w' := by
  by_cases h0 : s < 0 ∨ 2 ≤ s
  · have e0 : (s == 0) = false := by simp; omega
    have e1 : (s == 1) = false := by simp; omega
    clear h h0
    go_enter Try.func53, Try.ntmps53
    go_wp2
    go_ret
    exact ⟨rfl, rfl⟩
  · have hp : p < 0 ∨ 4 ≤ p := by omega
    rcases (by omega : s = 0 ∨ s = 1) with rfl | rfl <;>
    · clear h h0
      go_enter Try.func53, Try.ntmps53
      go_wp2_with (go_at_call 90; refine (find_out _ _ _ hp).mono ?_; rintro e w' ⟨rfl, rfl⟩)
      go_ret
      exact ⟨rfl, rfl⟩

theorem rdata_in (p s i : Int) (w : World) (h0 : 0 ≤ p) (h1 : p < 4) (h2 : 0 ≤ s) (h3 : s < 2) (h4 : 0 ≤ i) (h5 : i < 3) : Calls Try.prog 45 #[.int .i64 p, .int .i64 s, .int .i64 i] w fun e w' => (∃ r, r = 10 * p + 3 + 4 * s + i ∧ e = .returned (.int .i64 r)) ∧ w = w' := by
  go_enter Try.func45, Try.ntmps45
  go_wp2_with (fail)
  refine (rstage_in _ _ _ h0 h1 h2 h3).mono ?_
  rintro e w' ⟨⟨r, hr, rfl⟩, rfl⟩
  have hr0 : 0 ≤ r := by omega
  have hr1 : r ≤ 100 := by omega
  have h6 : ¬ i < 0 := by omega
  have h7 : ¬ 2 < i := by omega
  have HR := Lib.hid hr
  clear hr
  go_wp2
  go_ret
  have hr := HR.out
  exact ⟨⟨_, by omega, rfl⟩, rfl⟩

theorem rdata_out (p s i : Int) (w : World) (h : p < 0 ∨ 4 ≤ p ∨ s < 0 ∨ 2 ≤ s ∨ i < 0 ∨ 3 ≤ i) : Calls Try.prog 45 #[.int .i64 p, .int .i64 s, .int .i64 i] w fun e w' => e = .returned (.int .i64 (-1)) ∧ w = w' := by
  by_cases h0 : p < 0 ∨ 4 ≤ p ∨ s < 0 ∨ 2 ≤ s
  · go_enter Try.func45, Try.ntmps45
    go_wp2_with (fail)
    refine (rstage_out _ _ _ h0).mono ?_
    rintro e w' ⟨rfl, rfl⟩
    clear h h0
    go_wp2
    go_ret
    exact ⟨rfl, rfl⟩
  · go_enter Try.func45, Try.ntmps45
    go_wp2_with (fail)
    refine (rstage_in _ _ _ (by omega) (by omega) (by omega) (by omega)).mono ?_
    rintro e w' ⟨⟨r, hr, rfl⟩, rfl⟩
    have hr0 : 0 ≤ r := by omega
    have h6 : i < 0 ∨ (¬ i < 0 ∧ 2 < i) := by omega
    clear hr h h0
    rcases h6 with h6 | ⟨h6, h7⟩ <;>
    · go_wp2
      go_ret
      exact ⟨rfl, rfl⟩

/-- one place, both ways, and whether they agree -/
def Agree (s : Int) (is : Bool) (t : Int) : Prop := (is = true ∧ s = t ∧ 0 ≤ s) ∨ (is = false ∧ s = 0 ∧ t = -1)
theorem stage_any (p s : Int) (w : World) : Calls Try.prog 73 #[.int .i64 p, .int .i64 s] w fun e w' => (∃ r is, e = .returned (.tuple #[.int .i64 r, .bool is]) ∧ (∀ t, (0 ≤ p ∧ p < 4 ∧ 0 ≤ s ∧ s < 2 → t = 10 * p + 2 + 4 * s) → (¬ (0 ≤ p ∧ p < 4 ∧ 0 ≤ s ∧ s < 2) → t = -1) → Agree r is t)) ∧ Below w.heap.size w w' := by
  by_cases h : 0 ≤ p ∧ p < 4 ∧ 0 ≤ s ∧ s < 2
  · exact (stage_in p s w (by omega) (by omega) (by omega) (by omega)).mono fun e w' ⟨a, b⟩ => ⟨⟨_, _, a, fun t ht _ => .inl ⟨rfl, by have := ht h; omega, by omega⟩⟩, b⟩
  · exact (stage_out p s w (by omega)).mono fun e w' ⟨a, b⟩ => ⟨⟨_, _, a, fun t _ ht => .inr ⟨rfl, rfl, ht h⟩⟩, b⟩
theorem data_any (p s i : Int) (w : World) : Calls Try.prog 74 #[.int .i64 p, .int .i64 s, .int .i64 i] w fun e w' => (∃ r is, e = .returned (.tuple #[.int .i64 r, .bool is]) ∧ (∀ t, (0 ≤ p ∧ p < 4 ∧ 0 ≤ s ∧ s < 2 ∧ 0 ≤ i ∧ i < 3 → t = 10 * p + 3 + 4 * s + i) → (¬ (0 ≤ p ∧ p < 4 ∧ 0 ≤ s ∧ s < 2 ∧ 0 ≤ i ∧ i < 3) → t = -1) → Agree r is t)) ∧ Below w.heap.size w w' := by
  by_cases h : 0 ≤ p ∧ p < 4 ∧ 0 ≤ s ∧ s < 2 ∧ 0 ≤ i ∧ i < 3
  · exact (data_in p s i w (by omega) (by omega) (by omega) (by omega) (by omega) (by omega)).mono fun e w' ⟨a, b⟩ => ⟨⟨_, _, a, fun t ht _ => .inl ⟨rfl, by have := ht h; omega, by omega⟩⟩, b⟩
  · exact (data_out p s i w (by omega)).mono fun e w' ⟨a, b⟩ => ⟨⟨_, _, a, fun t _ ht => .inr ⟨rfl, rfl, ht h⟩⟩, b⟩
theorem rstage_any (p s : Int) (w : World) : Calls Try.prog 53 #[.int .i64 p, .int .i64 s] w fun e w' => (∃ t, e = .returned (.int .i64 t) ∧ (0 ≤ p ∧ p < 4 ∧ 0 ≤ s ∧ s < 2 → t = 10 * p + 2 + 4 * s) ∧ (¬ (0 ≤ p ∧ p < 4 ∧ 0 ≤ s ∧ s < 2) → t = -1)) ∧ w = w' := by
  by_cases h : 0 ≤ p ∧ p < 4 ∧ 0 ≤ s ∧ s < 2
  · exact (rstage_in p s w (by omega) (by omega) (by omega) (by omega)).mono fun e w' ⟨⟨r, hr, a⟩, b⟩ => ⟨⟨_, a, fun _ => hr, fun k => (k h).elim⟩, b⟩
  · exact (rstage_out p s w (by omega)).mono fun e w' ⟨a, b⟩ => ⟨⟨_, a, fun k => (h k).elim, fun _ => rfl⟩, b⟩
theorem rdata_any (p s i : Int) (w : World) : Calls Try.prog 45 #[.int .i64 p, .int .i64 s, .int .i64 i] w fun e w' => (∃ t, e = .returned (.int .i64 t) ∧ (0 ≤ p ∧ p < 4 ∧ 0 ≤ s ∧ s < 2 ∧ 0 ≤ i ∧ i < 3 → t = 10 * p + 3 + 4 * s + i) ∧ (¬ (0 ≤ p ∧ p < 4 ∧ 0 ≤ s ∧ s < 2 ∧ 0 ≤ i ∧ i < 3) → t = -1)) ∧ w = w' := by
  by_cases h : 0 ≤ p ∧ p < 4 ∧ 0 ≤ s ∧ s < 2 ∧ 0 ≤ i ∧ i < 3
  · exact (rdata_in p s i w (by omega) (by omega) (by omega) (by omega) (by omega) (by omega)).mono fun e w' ⟨⟨r, hr, a⟩, b⟩ => ⟨⟨_, a, fun _ => hr, fun k => (k h).elim⟩, b⟩
  · exact (rdata_out p s i w (by omega)).mono fun e w' ⟨a, b⟩ => ⟨⟨_, a, fun k => (h k).elim, fun _ => rfl⟩, b⟩
