/-
  PROVED HERE: records and stages as numbers; which ones are right, as the program tells it.
  CONDITIONS: none.
-/
import Derived.Test.YtooagoikiafgcaaNumMath
import Derived.Test.YtooagoikiafgcaaMem
import Derived.BigQuiet
import Derived.Deep.QuietTactic
namespace Go.Proofs.Ytooagoikiafgcaa.record
set_option linter.unusedVariables false
open Go.RowKit Go.Proofs.Ytooagoikiafgcaa.base Go.Proofs.Ytooagoikiafgcaa.obj Go.Proofs.Ytooagoikiafgcaa.mem

structure Rec where
  part : Int
  seq : Int
  active : Int
  confirmed : Int
  left : Int
  bad : Int
deriving DecidableEq
def Rec.cells (r : Rec) : Array Value := #[.int .i64 r.part, .int .i64 r.seq, .int .i64 r.active, .int .i64 r.confirmed, .int .i64 r.left, .int .i64 r.bad]
def Rec.val (r : Rec) : Value := .agg r.cells
def bitOff (n i : Int) : Bool := decide (n / 2 ^ i.toNat % 2 = 0)
/-- a record that is right -/
def Rec.right (r : Rec) : Bool :=
  decide (0 ≤ r.part ∧ r.part ≤ 3) && decide (1 ≤ r.seq ∧ r.seq ≤ 4294967295) && decide (0 ≤ r.active ∧ r.active ≤ 1) && decide (0 ≤ r.confirmed ∧ r.confirmed ≤ 1) && decide (0 ≤ r.left ∧ r.left ≤ 7)
    && (decide (r.left = 0) || !decide (r.active = r.confirmed)) && decide (0 ≤ r.bad ∧ r.bad ≤ 3) && (bitOff r.bad r.active && bitOff r.bad r.confirmed)

set_option maxHeartbeats 1000000 in
theorem between_at (a lo hi : Int) (w : World) : Calls Try.prog 131 #[.int .i64 a, .int .i64 lo, .int .i64 hi] w fun e w' => e = .returned (.bool (decide (lo ≤ a ∧ a ≤ hi))) ∧ w' = w := by
  by_cases h1 : lo ≤ a
  · by_cases h2 : a ≤ hi
    · have e : decide (lo ≤ a ∧ a ≤ hi) = true := by simp [h1, h2]
      rw [e]
      go_enter Try.func131, Try.ntmps131
      go_wp2_with (fail)
      go_ret
      exact ⟨rfl, rfl⟩
    · have e : decide (lo ≤ a ∧ a ≤ hi) = false := by simp [h2]
      rw [e]
      go_enter Try.func131, Try.ntmps131
      go_wp2_with (fail)
      go_ret
      exact ⟨rfl, rfl⟩
  · have e : decide (lo ≤ a ∧ a ≤ hi) = false := by simp [h1]
    rw [e]
    go_enter Try.func131, Try.ntmps131
    go_wp2_with (fail)
    go_ret
    exact ⟨rfl, rfl⟩

/-- what between tells, where it is known -/
theorem between_is (a lo hi : Int) (w : World) (b : Bool) (h : decide (lo ≤ a ∧ a ≤ hi) = b) : Calls Try.prog 131 #[.int .i64 a, .int .i64 lo, .int .i64 hi] w fun e w' => e = .returned (.bool b) ∧ w' = w := by
  subst h; exact between_at a lo hi w

theorem mask_eq (bad a c : Int) (ha : 0 ≤ a ∧ a ≤ 1) (hc : 0 ≤ c ∧ c ≤ 1) (hb : 0 ≤ bad ∧ bad ≤ 3) : bits .and .i64 bad (bits .or .i64 (wrap64 (2 ^ a.toNat)) (wrap64 (2 ^ c.toNat))) = 0 ↔ (bitOff bad a && bitOff bad c) = true := by
  have h1 : a = 0 ∨ a = 1 := by omega
  have h2 : c = 0 ∨ c = 1 := by omega
  have h3 : bad = 0 ∨ bad = 1 ∨ bad = 2 ∨ bad = 3 := by omega
  rcases h1 with rfl | rfl <;> rcases h2 with rfl | rfl <;> rcases h3 with rfl | rfl | rfl | rfl <;> decide +kernel
end Go.Proofs.Ytooagoikiafgcaa.record
