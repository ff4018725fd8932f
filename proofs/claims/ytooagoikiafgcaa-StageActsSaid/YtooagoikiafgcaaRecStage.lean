/-
  PROVED HERE: stages as numbers; which ones are right, as the program tells it; how many blocks a size has.
  CONDITIONS: each contract names its own.
-/
import Derived.Test.YtooagoikiafgcaaRecRight
namespace Go.Proofs.Ytooagoikiafgcaa.record
set_option linter.unusedVariables false
open Go.RowKit Go.Proofs.Ytooagoikiafgcaa.base Go.Proofs.Ytooagoikiafgcaa.obj Go.Proofs.Ytooagoikiafgcaa.mem

structure Stg where
  session : Int
  size : Int
  have_ : Int
deriving DecidableEq
def Stg.cells (s : Stg) : Array Value := #[.int .i64 s.session, .int .i64 s.size, .int .i64 s.have_]
def Stg.val (s : Stg) : Value := .agg s.cells
/-- how many blocks a size has -/
def blocksN (size : Int) : Nat := ((size + 15) / 16).toNat
def Stg.right (s : Stg) : Bool := decide (1 ≤ s.session ∧ s.session ≤ 65535) && decide (1 ≤ s.size ∧ s.size ≤ 160) && decide (0 ≤ s.have_ ∧ s.have_ ≤ 2 ^ blocksN s.size - 1)

set_option maxHeartbeats 1000000 in
theorem blocks_at (w : World) (size : Int) (h0 : -9223372036854775808 ≤ size) (h1 : size ≤ 9223372036854775807) : Calls Try.prog 84 #[.int .i64 size] w fun e w' => e = .returned (.int .i64 (blocksN size : Nat)) ∧ w' = w := by
  by_cases h : size < 1
  · have HB := Lib.hid (show blocksN size = 0 by unfold blocksN; omega)
    go_enter Try.func84, Try.ntmps84
    go_wp2_with (fail)
    go_ret
    exact ⟨ret_int (by rw [HB.out]; rfl), rfl⟩
  · have HB := Lib.hid (show ((blocksN size : Nat) : Int) = (size - 1) / 16 + 1 by unfold blocksN; omega)
    have h' : 1 ≤ size := by omega
    go_enter Try.func84, Try.ntmps84
    go_wp2_with (fail)
    go_ret
    exact ⟨ret_int (by rw [HB.out]), rfl⟩

set_option maxRecDepth 100000 in
set_option maxHeartbeats 8000000 in
theorem rightStage_at (s : Stg) (w : World) : Calls Try.prog 111 #[s.val] w fun e w' => e = .returned (.bool s.right) ∧ Below w.heap.size w w' := by
  obtain ⟨session, size, have_⟩ := s
  unfold Stg.val Stg.cells
  have HD := Lib.hid (show Stg.right ⟨session, size, have_⟩ = (decide (1 ≤ session ∧ session ≤ 65535) && decide (1 ≤ size ∧ size ≤ 160) && decide (0 ≤ have_ ∧ have_ ≤ 2 ^ blocksN size - 1)) from rfl)
  have HB := Lib.hid (fun o => (Below.refl w.heap.size w).alloc (Nat.le_refl _) o)
  cases k1 : decide (1 ≤ session ∧ session ≤ 65535) with
  | false =>
    have K1 := Lib.hid k1
    clear k1
    have HR := Lib.hid (show false = Stg.right ⟨session, size, have_⟩ from by rw [HD.out, K1.out]; simp)
    go_enter Try.func111, Try.ntmps111
    go_wp2_with (fail)
    go_big_quiet (first | exact Calls.quiet_of_same (between_is _ _ _ _ _ K1.out))
    go_wp2_with (fail)
    go_ret
    exact ⟨ret_bool HR.out, below_drewN (HB.out _) _⟩
  | true =>
    have K1 := Lib.hid k1
    clear k1
    cases k2 : decide (1 ≤ size ∧ size ≤ 160) with
    | false =>
      have K2 := Lib.hid k2
      clear k2
      have HR := Lib.hid (show false = Stg.right ⟨session, size, have_⟩ from by rw [HD.out, K1.out, K2.out]; simp)
      go_enter Try.func111, Try.ntmps111
      go_wp2_with (fail)
      go_big_quiet (first | exact Calls.quiet_of_same (between_is _ _ _ _ _ K1.out) | exact Calls.quiet_of_same (between_is _ _ _ _ _ K2.out))
      go_wp2_with (fail)
      go_ret
      exact ⟨ret_bool HR.out, below_drewN (HB.out _) _⟩
    | true =>
      have h2 : 1 ≤ size ∧ size ≤ 160 := by simpa using k2
      have K2 := Lib.hid k2
      obtain ⟨b, hb⟩ : ∃ b, b = blocksN size := ⟨_, rfl⟩
      have hb1 : 1 ≤ b := by rw [hb]; unfold blocksN; omega
      have hb10 : b ≤ 10 := by rw [hb]; unfold blocksN; omega
      have HBL := Lib.hid (show ∀ W, Calls Try.prog 84 #[.int .i64 size] W fun e w' => e = .returned (.int .i64 (b : Nat)) ∧ w' = W by rw [hb]; exact fun W => blocks_at W size (by omega) (by omega))
      have HB2 := Lib.hid hb
      have hp1 : (1 : Int) ≤ 2 ^ b := by have := Int.pow_pos (n := 2) (m := b) (by decide); omega
      have hp2 : (2 : Int) ^ b ≤ 1024 := by
        have h6 : b = 1 ∨ b = 2 ∨ b = 3 ∨ b = 4 ∨ b = 5 ∨ b = 6 ∨ b = 7 ∨ b = 8 ∨ b = 9 ∨ b = 10 := by omega
        rcases h6 with rfl | rfl | rfl | rfl | rfl | rfl | rfl | rfl | rfl | rfl <;> decide
      have hsh : wrap64 (2 ^ b) = 2 ^ b := by unfold wrap64; omega
      rw [← hb] at HD
      clear hb k2 h2
      cases k3 : decide (0 ≤ have_ ∧ have_ ≤ 2 ^ b - 1)
      all_goals
        have K3 := Lib.hid k3
        clear k3
        go_enter Try.func111, Try.ntmps111
        go_wp2_with (fail)
        go_big_quiet (first | exact Calls.quiet_of_same (between_is _ _ _ _ _ K1.out) | exact Calls.quiet_of_same (between_is _ _ _ _ _ K2.out) | exact Calls.quiet_of_same (HBL.out _) | exact Calls.quiet_of_same (between_is _ _ _ _ _ K3.out))
        go_wp2_with (fail)
        go_ret
        refine ⟨ret_bool ?_, below_drewN (HB.out _) _⟩
        rw [HD.out, K1.out, K2.out, K3.out]
        rfl
end Go.Proofs.Ytooagoikiafgcaa.record
