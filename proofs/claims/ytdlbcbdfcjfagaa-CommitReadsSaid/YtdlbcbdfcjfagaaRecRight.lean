/-
  PROVED HERE: records and stages as numbers; which ones are right, as the program tells it.
  CONDITIONS: none.
-/
import Derived.Test.YtdlbcbdfcjfagaaNumMath
import Derived.Test.YtdlbcbdfcjfagaaMem
import Derived.BigQuiet
import Derived.Deep.QuietTactic
namespace Go.Proofs.Ytdlbcbdfcjfagaa.record
set_option linter.unusedVariables false
open Go.RowKit Go.Proofs.Ytdlbcbdfcjfagaa.base Go.Proofs.Ytdlbcbdfcjfagaa.obj Go.Proofs.Ytdlbcbdfcjfagaa.mem

structure Rec where
  part : Int
  seq : Int
  active : Int
  confirmed : Int
  left : Int
  bad : Int
deriving DecidableEq
def Rec.cells (r : Rec) : Array Value := #[.int .i64 r.part, .int .i64 r.seq, .int .i64 r.active, .int .i64 r.confirmed, .int .i64 r.left, .int .i64 r.bad]
def Rec.val (r : Rec) : Value := .agg r.cells
def bitOff (n i : Int) : Bool := decide (n / 2 ^ i.toNat % 2 = 0)
/-- a record that is right -/
def Rec.right (r : Rec) : Bool :=
  decide (0 ≤ r.part ∧ r.part ≤ 3) && decide (1 ≤ r.seq ∧ r.seq ≤ 4294967295) && decide (0 ≤ r.active ∧ r.active ≤ 1) && decide (0 ≤ r.confirmed ∧ r.confirmed ≤ 1) && decide (0 ≤ r.left ∧ r.left ≤ 7)
    && (decide (r.left = 0) || !decide (r.active = r.confirmed)) && decide (0 ≤ r.bad ∧ r.bad ≤ 3) && (bitOff r.bad r.active && bitOff r.bad r.confirmed)

set_option maxHeartbeats 1000000 in
theorem between_at (a lo hi : Int) (w : World) : Calls Try.prog 50 #[.int .i64 a, .int .i64 lo, .int .i64 hi] w fun e w' => e = .returned (.bool (decide (lo ≤ a ∧ a ≤ hi))) ∧ w' = w := by
  by_cases h1 : lo ≤ a
  · by_cases h2 : a ≤ hi
    · have e : decide (lo ≤ a ∧ a ≤ hi) = true := by simp [h1, h2]
      rw [e]
      go_enter Try.func50, Try.ntmps50
      go_wp2_with (fail)
      go_ret
      exact ⟨rfl, rfl⟩
    · have e : decide (lo ≤ a ∧ a ≤ hi) = false := by simp [h2]
      rw [e]
      go_enter Try.func50, Try.ntmps50
      go_wp2_with (fail)
      go_ret
      exact ⟨rfl, rfl⟩
  · have e : decide (lo ≤ a ∧ a ≤ hi) = false := by simp [h1]
    rw [e]
    go_enter Try.func50, Try.ntmps50
    go_wp2_with (fail)
    go_ret
    exact ⟨rfl, rfl⟩

/-- what between tells, where it is known -/
theorem between_is (a lo hi : Int) (w : World) (b : Bool) (h : decide (lo ≤ a ∧ a ≤ hi) = b) : Calls Try.prog 50 #[.int .i64 a, .int .i64 lo, .int .i64 hi] w fun e w' => e = .returned (.bool b) ∧ w' = w := by
  subst h; exact between_at a lo hi w

theorem mask_eq (bad a c : Int) (ha : 0 ≤ a ∧ a ≤ 1) (hc : 0 ≤ c ∧ c ≤ 1) (hb : 0 ≤ bad ∧ bad ≤ 3) : bits .and .i64 bad (bits .or .i64 (wrap64 (2 ^ a.toNat)) (wrap64 (2 ^ c.toNat))) = 0 ↔ (bitOff bad a && bitOff bad c) = true := by
  have h1 : a = 0 ∨ a = 1 := by omega
  have h2 : c = 0 ∨ c = 1 := by omega
  have h3 : bad = 0 ∨ bad = 1 ∨ bad = 2 ∨ bad = 3 := by omega
  rcases h1 with rfl | rfl <;> rcases h2 with rfl | rfl <;> rcases h3 with rfl | rfl | rfl | rfl <;> decide +kernel
set_option maxRecDepth 100000 in
set_option maxHeartbeats 8000000 in
theorem right_at (r : Rec) (w : World) : Calls Try.prog 16 #[r.val] w fun e w' => e = .returned (.bool r.right) ∧ Below w.heap.size w w' := by
  obtain ⟨part, seq, active, confirmed, left, bad⟩ := r
  unfold Rec.val Rec.cells
  have HD := Lib.hid (show Rec.right ⟨part, seq, active, confirmed, left, bad⟩ = (decide (0 ≤ part ∧ part ≤ 3) && decide (1 ≤ seq ∧ seq ≤ 4294967295) && decide (0 ≤ active ∧ active ≤ 1) && decide (0 ≤ confirmed ∧ confirmed ≤ 1) && decide (0 ≤ left ∧ left ≤ 7)
    && (decide (left = 0) || !decide (active = confirmed)) && decide (0 ≤ bad ∧ bad ≤ 3) && (bitOff bad active && bitOff bad confirmed)) from rfl)
  have HB := Lib.hid (fun o => (Below.refl w.heap.size w).alloc (Nat.le_refl _) o)
  cases k1 : decide (0 ≤ part ∧ part ≤ 3) with
  | false =>
    have K1 := Lib.hid k1
    clear k1
    have HR := Lib.hid (show false = Rec.right ⟨part, seq, active, confirmed, left, bad⟩ from by rw [HD.out, K1.out]; simp)
    go_enter Try.func16, Try.ntmps16
    go_wp2_with (fail)
    go_big_quiet (first | exact Calls.quiet_of_same (between_is _ _ _ _ _ K1.out))
    go_wp2_with (fail)
    go_ret
    exact ⟨ret_bool HR.out, below_drewN (HB.out _) _⟩
  | true =>
    have K1 := Lib.hid k1
    clear k1
    cases k2 : decide (1 ≤ seq ∧ seq ≤ 4294967295) with
    | false =>
      have K2 := Lib.hid k2
      clear k2
      have HR := Lib.hid (show false = Rec.right ⟨part, seq, active, confirmed, left, bad⟩ from by rw [HD.out, K1.out, K2.out]; simp)
      go_enter Try.func16, Try.ntmps16
      go_wp2_with (fail)
      go_big_quiet (first | exact Calls.quiet_of_same (between_is _ _ _ _ _ K1.out) | exact Calls.quiet_of_same (between_is _ _ _ _ _ K2.out))
      go_wp2_with (fail)
      go_ret
      exact ⟨ret_bool HR.out, below_drewN (HB.out _) _⟩
    | true =>
      have K2 := Lib.hid k2
      clear k2
      cases k3 : decide (0 ≤ active ∧ active ≤ 1) with
      | false =>
        have K3 := Lib.hid k3
        clear k3
        have HR := Lib.hid (show false = Rec.right ⟨part, seq, active, confirmed, left, bad⟩ from by rw [HD.out, K1.out, K2.out, K3.out]; simp)
        go_enter Try.func16, Try.ntmps16
        go_wp2_with (fail)
        go_big_quiet (first | exact Calls.quiet_of_same (between_is _ _ _ _ _ K1.out) | exact Calls.quiet_of_same (between_is _ _ _ _ _ K2.out) | exact Calls.quiet_of_same (between_is _ _ _ _ _ K3.out))
        go_wp2_with (fail)
        go_ret
        exact ⟨ret_bool HR.out, below_drewN (HB.out _) _⟩
      | true =>
        have K3 := Lib.hid k3
        clear k3
        cases k4 : decide (0 ≤ confirmed ∧ confirmed ≤ 1) with
        | false =>
          have K4 := Lib.hid k4
          clear k4
          have HR := Lib.hid (show false = Rec.right ⟨part, seq, active, confirmed, left, bad⟩ from by rw [HD.out, K1.out, K2.out, K3.out, K4.out]; simp)
          go_enter Try.func16, Try.ntmps16
          go_wp2_with (fail)
          go_big_quiet (first | exact Calls.quiet_of_same (between_is _ _ _ _ _ K1.out) | exact Calls.quiet_of_same (between_is _ _ _ _ _ K2.out) | exact Calls.quiet_of_same (between_is _ _ _ _ _ K3.out) | exact Calls.quiet_of_same (between_is _ _ _ _ _ K4.out))
          go_wp2_with (fail)
          go_ret
          exact ⟨ret_bool HR.out, below_drewN (HB.out _) _⟩
        | true =>
          have K4 := Lib.hid k4
          clear k4
          cases k5 : decide (0 ≤ left ∧ left ≤ 7) with
          | false =>
            have K5 := Lib.hid k5
            clear k5
            have HR := Lib.hid (show false = Rec.right ⟨part, seq, active, confirmed, left, bad⟩ from by rw [HD.out, K1.out, K2.out, K3.out, K4.out, K5.out]; simp)
            go_enter Try.func16, Try.ntmps16
            go_wp2_with (fail)
            go_big_quiet (first | exact Calls.quiet_of_same (between_is _ _ _ _ _ K1.out) | exact Calls.quiet_of_same (between_is _ _ _ _ _ K2.out) | exact Calls.quiet_of_same (between_is _ _ _ _ _ K3.out) | exact Calls.quiet_of_same (between_is _ _ _ _ _ K4.out) | exact Calls.quiet_of_same (between_is _ _ _ _ _ K5.out))
            go_wp2_with (fail)
            go_ret
            exact ⟨ret_bool HR.out, below_drewN (HB.out _) _⟩
          | true =>
            have K5 := Lib.hid k5
            clear k5
            by_cases l0 : left = 0
            · have t1 : (left == 0) = true := by simp [l0]
              have L0 := Lib.hid (show (decide (left = 0) || !decide (active = confirmed)) = true from by simp [l0])
              clear l0
              cases k6 : decide (0 ≤ bad ∧ bad ≤ 3) with
              | false =>
                have K6 := Lib.hid k6
                clear k6
                have HR := Lib.hid (show false = Rec.right ⟨part, seq, active, confirmed, left, bad⟩ from by rw [HD.out, K1.out, K2.out, K3.out, K4.out, K5.out, L0.out, K6.out]; simp)
                go_enter Try.func16, Try.ntmps16
                go_wp2_with (fail)
                go_big_quiet (first | exact Calls.quiet_of_same (between_is _ _ _ _ _ K1.out) | exact Calls.quiet_of_same (between_is _ _ _ _ _ K2.out) | exact Calls.quiet_of_same (between_is _ _ _ _ _ K3.out) | exact Calls.quiet_of_same (between_is _ _ _ _ _ K4.out) | exact Calls.quiet_of_same (between_is _ _ _ _ _ K5.out) | exact Calls.quiet_of_same (between_is _ _ _ _ _ K6.out))
                go_wp2_with (fail)
                go_ret
                exact ⟨ret_bool HR.out, below_drewN (HB.out _) _⟩
              | true =>
                have K6 := Lib.hid k6
                clear k6
                have HT := Lib.hid (show bits .and .i64 bad (bits .or .i64 (wrap64 (2 ^ active.toNat)) (wrap64 (2 ^ confirmed.toNat))) = 0 ↔ (bitOff bad active && bitOff bad confirmed) = true from mask_eq bad active confirmed (by simpa using K3.out) (by simpa using K4.out) (by simpa using K6.out))
                have a0 : 0 ≤ active := (show 0 ≤ active ∧ active ≤ 1 by simpa using K3.out).1
                have a1 : active ≤ 1 := (show 0 ≤ active ∧ active ≤ 1 by simpa using K3.out).2
                have c0 : 0 ≤ confirmed := (show 0 ≤ confirmed ∧ confirmed ≤ 1 by simpa using K4.out).1
                have c1 : confirmed ≤ 1 := (show 0 ≤ confirmed ∧ confirmed ≤ 1 by simpa using K4.out).2
                go_enter Try.func16, Try.ntmps16
                go_wp2_with (fail)
                go_big_quiet (first | exact Calls.quiet_of_same (between_is _ _ _ _ _ K1.out) | exact Calls.quiet_of_same (between_is _ _ _ _ _ K2.out) | exact Calls.quiet_of_same (between_is _ _ _ _ _ K3.out) | exact Calls.quiet_of_same (between_is _ _ _ _ _ K4.out) | exact Calls.quiet_of_same (between_is _ _ _ _ _ K5.out) | exact Calls.quiet_of_same (between_is _ _ _ _ _ K6.out))
                go_wp2_with (fail)
                go_ret
                exact ⟨ret_bool (by rw [HD.out, K1.out, K2.out, K3.out, K4.out, K5.out, L0.out, K6.out]; simp only [Bool.true_and]; exact Bool.eq_iff_iff.2 (by rw [beq_iff_eq]; exact HT.out)), below_drewN (HB.out _) _⟩
            · have t1 : (left == 0) = false := by simp [l0]
              by_cases ac : active = confirmed
              · have t2 : (active != confirmed) = false := by simp [ac]
                have L0 := Lib.hid (show (decide (left = 0) || !decide (active = confirmed)) = false from by simp [l0, ac])
                have AC := Lib.hid ac
                clear l0 ac
                have HR := Lib.hid (show false = Rec.right ⟨part, seq, active, confirmed, left, bad⟩ from by rw [HD.out, K1.out, K2.out, K3.out, K4.out, K5.out, L0.out]; simp)
                go_enter Try.func16, Try.ntmps16
                go_wp2_with (fail)
                go_big_quiet (first | exact Calls.quiet_of_same (between_is _ _ _ _ _ K1.out) | exact Calls.quiet_of_same (between_is _ _ _ _ _ K2.out) | exact Calls.quiet_of_same (between_is _ _ _ _ _ K3.out) | exact Calls.quiet_of_same (between_is _ _ _ _ _ K4.out) | exact Calls.quiet_of_same (between_is _ _ _ _ _ K5.out))
                go_wp2_with (fail)
                go_ret
                exact ⟨ret_bool HR.out, below_drewN (HB.out _) _⟩
              · have t2 : (active != confirmed) = true := by simp [ac]
                have L0 := Lib.hid (show (decide (left = 0) || !decide (active = confirmed)) = true from by simp [ac])
                clear l0 ac
                cases k6 : decide (0 ≤ bad ∧ bad ≤ 3) with
                | false =>
                  have K6 := Lib.hid k6
                  clear k6
                  have HR := Lib.hid (show false = Rec.right ⟨part, seq, active, confirmed, left, bad⟩ from by rw [HD.out, K1.out, K2.out, K3.out, K4.out, K5.out, L0.out, K6.out]; simp)
                  go_enter Try.func16, Try.ntmps16
                  go_wp2_with (fail)
                  go_big_quiet (first | exact Calls.quiet_of_same (between_is _ _ _ _ _ K1.out) | exact Calls.quiet_of_same (between_is _ _ _ _ _ K2.out) | exact Calls.quiet_of_same (between_is _ _ _ _ _ K3.out) | exact Calls.quiet_of_same (between_is _ _ _ _ _ K4.out) | exact Calls.quiet_of_same (between_is _ _ _ _ _ K5.out) | exact Calls.quiet_of_same (between_is _ _ _ _ _ K6.out))
                  go_wp2_with (fail)
                  go_ret
                  exact ⟨ret_bool HR.out, below_drewN (HB.out _) _⟩
                | true =>
                  have K6 := Lib.hid k6
                  clear k6
                  have HT := Lib.hid (show bits .and .i64 bad (bits .or .i64 (wrap64 (2 ^ active.toNat)) (wrap64 (2 ^ confirmed.toNat))) = 0 ↔ (bitOff bad active && bitOff bad confirmed) = true from mask_eq bad active confirmed (by simpa using K3.out) (by simpa using K4.out) (by simpa using K6.out))
                  have a0 : 0 ≤ active := (show 0 ≤ active ∧ active ≤ 1 by simpa using K3.out).1
                  have a1 : active ≤ 1 := (show 0 ≤ active ∧ active ≤ 1 by simpa using K3.out).2
                  have c0 : 0 ≤ confirmed := (show 0 ≤ confirmed ∧ confirmed ≤ 1 by simpa using K4.out).1
                  have c1 : confirmed ≤ 1 := (show 0 ≤ confirmed ∧ confirmed ≤ 1 by simpa using K4.out).2
                  go_enter Try.func16, Try.ntmps16
                  go_wp2_with (fail)
                  go_big_quiet (first | exact Calls.quiet_of_same (between_is _ _ _ _ _ K1.out) | exact Calls.quiet_of_same (between_is _ _ _ _ _ K2.out) | exact Calls.quiet_of_same (between_is _ _ _ _ _ K3.out) | exact Calls.quiet_of_same (between_is _ _ _ _ _ K4.out) | exact Calls.quiet_of_same (between_is _ _ _ _ _ K5.out) | exact Calls.quiet_of_same (between_is _ _ _ _ _ K6.out))
                  go_wp2_with (fail)
                  go_ret
                  exact ⟨ret_bool (by rw [HD.out, K1.out, K2.out, K3.out, K4.out, K5.out, L0.out, K6.out]; simp only [Bool.true_and]; exact Bool.eq_iff_iff.2 (by rw [beq_iff_eq]; exact HT.out)), below_drewN (HB.out _) _⟩
end Go.Proofs.Ytdlbcbdfcjfagaa.record
