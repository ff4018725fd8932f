/-
  PROVED HERE: bits.Many of a whole set of k blocks is k.
  CONDITIONS: k is at most 16.
-/
import Derived.Test.YtbnnfknkmelhaaaBitsRef
namespace Go.Proofs.Ytbnnfknkmelhaaa.bits
set_option linter.unusedVariables false
open Go.RowKit Go.Proofs.Ytbnnfknkmelhaaa.base

theorem quiet_at {P : Program} {ops : Array Oper} {C : World → Prop} {Q : Act → Prop} {a : Act} {o : Oper} {rest : List Oper} (v : Value) (hw : Region.wanted o (yielded ops a.tmps) = true)
    (hv : ∀ w, (execOp a.eval o).run P w = .ok (.value v) w) (h : wpQuiet P ops C Q rest (a.put o.dst v)) : wpQuiet P ops C Q (o :: rest) a := by
  unfold wpQuiet
  rw [if_pos hw]
  refine ⟨v, fun w hc => ?_, h⟩
  unfold Oper.quietAt
  rw [hv w]
  exact ⟨rfl, rfl⟩

set_option maxRecDepth 100000 in
set_option maxHeartbeats 1000000 in
theorem ones_0 (w : World) : Calls Try.prog 55 #[.int .u16 0] w fun e w' => e = .returned (.int .i64 0) ∧ Below w.heap.size w w' := by
  go_enter Try.func55, Try.ntmps55
  go_wp2
  refine wp_region_quiet_lit (by kernel_rfl) (by kernel_rfl) ?_
  repeat (any_goals (first | go_big_quiet_step (fail) | quiet_step (fail)))
  refine quiet_at (.int .u8 0) ?_ ?_ ?_
  · rfl
  · intro w; kernel_rfl
  repeat (any_goals (first | go_big_quiet_step (fail) | quiet_step (fail)))
  refine wpQuiet_nil ?_
  rintro w' ⟨nq, rfl⟩
  go_wp2
  go_ret
  exact ⟨ret_int (by kernel_rfl), below_drewN (Below.refl _ _) _⟩

set_option maxRecDepth 100000 in
set_option maxHeartbeats 1000000 in
theorem ones_1 (w : World) : Calls Try.prog 55 #[.int .u16 1] w fun e w' => e = .returned (.int .i64 1) ∧ Below w.heap.size w w' := by
  go_enter Try.func55, Try.ntmps55
  go_wp2
  refine wp_region_quiet_lit (by kernel_rfl) (by kernel_rfl) ?_
  repeat (any_goals (first | go_big_quiet_step (fail) | quiet_step (fail)))
  refine quiet_at (.int .u8 1) ?_ ?_ ?_
  · rfl
  · intro w; kernel_rfl
  repeat (any_goals (first | go_big_quiet_step (fail) | quiet_step (fail)))
  refine wpQuiet_nil ?_
  rintro w' ⟨nq, rfl⟩
  go_wp2
  go_ret
  exact ⟨ret_int (by kernel_rfl), below_drewN (Below.refl _ _) _⟩

set_option maxRecDepth 100000 in
set_option maxHeartbeats 1000000 in
theorem ones_2 (w : World) : Calls Try.prog 55 #[.int .u16 3] w fun e w' => e = .returned (.int .i64 2) ∧ Below w.heap.size w w' := by
  go_enter Try.func55, Try.ntmps55
  go_wp2
  refine wp_region_quiet_lit (by kernel_rfl) (by kernel_rfl) ?_
  repeat (any_goals (first | go_big_quiet_step (fail) | quiet_step (fail)))
  refine quiet_at (.int .u8 2) ?_ ?_ ?_
  · rfl
  · intro w; kernel_rfl
  repeat (any_goals (first | go_big_quiet_step (fail) | quiet_step (fail)))
  refine wpQuiet_nil ?_
  rintro w' ⟨nq, rfl⟩
  go_wp2
  go_ret
  exact ⟨ret_int (by kernel_rfl), below_drewN (Below.refl _ _) _⟩

set_option maxRecDepth 100000 in
set_option maxHeartbeats 1000000 in
theorem ones_3 (w : World) : Calls Try.prog 55 #[.int .u16 7] w fun e w' => e = .returned (.int .i64 3) ∧ Below w.heap.size w w' := by
  go_enter Try.func55, Try.ntmps55
  go_wp2
  refine wp_region_quiet_lit (by kernel_rfl) (by kernel_rfl) ?_
  repeat (any_goals (first | go_big_quiet_step (fail) | quiet_step (fail)))
  refine quiet_at (.int .u8 3) ?_ ?_ ?_
  · rfl
  · intro w; kernel_rfl
  repeat (any_goals (first | go_big_quiet_step (fail) | quiet_step (fail)))
  refine wpQuiet_nil ?_
  rintro w' ⟨nq, rfl⟩
  go_wp2
  go_ret
  exact ⟨ret_int (by kernel_rfl), below_drewN (Below.refl _ _) _⟩

set_option maxRecDepth 100000 in
set_option maxHeartbeats 1000000 in
theorem ones_4 (w : World) : Calls Try.prog 55 #[.int .u16 15] w fun e w' => e = .returned (.int .i64 4) ∧ Below w.heap.size w w' := by
  go_enter Try.func55, Try.ntmps55
  go_wp2
  refine wp_region_quiet_lit (by kernel_rfl) (by kernel_rfl) ?_
  repeat (any_goals (first | go_big_quiet_step (fail) | quiet_step (fail)))
  refine quiet_at (.int .u8 4) ?_ ?_ ?_
  · rfl
  · intro w; kernel_rfl
  repeat (any_goals (first | go_big_quiet_step (fail) | quiet_step (fail)))
  refine wpQuiet_nil ?_
  rintro w' ⟨nq, rfl⟩
  go_wp2
  go_ret
  exact ⟨ret_int (by kernel_rfl), below_drewN (Below.refl _ _) _⟩

set_option maxRecDepth 100000 in
set_option maxHeartbeats 1000000 in
theorem ones_5 (w : World) : Calls Try.prog 55 #[.int .u16 31] w fun e w' => e = .returned (.int .i64 5) ∧ Below w.heap.size w w' := by
  go_enter Try.func55, Try.ntmps55
  go_wp2
  refine wp_region_quiet_lit (by kernel_rfl) (by kernel_rfl) ?_
  repeat (any_goals (first | go_big_quiet_step (fail) | quiet_step (fail)))
  refine quiet_at (.int .u8 5) ?_ ?_ ?_
  · rfl
  · intro w; kernel_rfl
  repeat (any_goals (first | go_big_quiet_step (fail) | quiet_step (fail)))
  refine wpQuiet_nil ?_
  rintro w' ⟨nq, rfl⟩
  go_wp2
  go_ret
  exact ⟨ret_int (by kernel_rfl), below_drewN (Below.refl _ _) _⟩

set_option maxRecDepth 100000 in
set_option maxHeartbeats 1000000 in
theorem ones_6 (w : World) : Calls Try.prog 55 #[.int .u16 63] w fun e w' => e = .returned (.int .i64 6) ∧ Below w.heap.size w w' := by
  go_enter Try.func55, Try.ntmps55
  go_wp2
  refine wp_region_quiet_lit (by kernel_rfl) (by kernel_rfl) ?_
  repeat (any_goals (first | go_big_quiet_step (fail) | quiet_step (fail)))
  refine quiet_at (.int .u8 6) ?_ ?_ ?_
  · rfl
  · intro w; kernel_rfl
  repeat (any_goals (first | go_big_quiet_step (fail) | quiet_step (fail)))
  refine wpQuiet_nil ?_
  rintro w' ⟨nq, rfl⟩
  go_wp2
  go_ret
  exact ⟨ret_int (by kernel_rfl), below_drewN (Below.refl _ _) _⟩

set_option maxRecDepth 100000 in
set_option maxHeartbeats 1000000 in
theorem ones_7 (w : World) : Calls Try.prog 55 #[.int .u16 127] w fun e w' => e = .returned (.int .i64 7) ∧ Below w.heap.size w w' := by
  go_enter Try.func55, Try.ntmps55
  go_wp2
  refine wp_region_quiet_lit (by kernel_rfl) (by kernel_rfl) ?_
  repeat (any_goals (first | go_big_quiet_step (fail) | quiet_step (fail)))
  refine quiet_at (.int .u8 7) ?_ ?_ ?_
  · rfl
  · intro w; kernel_rfl
  repeat (any_goals (first | go_big_quiet_step (fail) | quiet_step (fail)))
  refine wpQuiet_nil ?_
  rintro w' ⟨nq, rfl⟩
  go_wp2
  go_ret
  exact ⟨ret_int (by kernel_rfl), below_drewN (Below.refl _ _) _⟩

set_option maxRecDepth 100000 in
set_option maxHeartbeats 1000000 in
theorem ones_8 (w : World) : Calls Try.prog 55 #[.int .u16 255] w fun e w' => e = .returned (.int .i64 8) ∧ Below w.heap.size w w' := by
  go_enter Try.func55, Try.ntmps55
  go_wp2
  refine wp_region_quiet_lit (by kernel_rfl) (by kernel_rfl) ?_
  repeat (any_goals (first | go_big_quiet_step (fail) | quiet_step (fail)))
  refine quiet_at (.int .u8 8) ?_ ?_ ?_
  · rfl
  · intro w; kernel_rfl
  repeat (any_goals (first | go_big_quiet_step (fail) | quiet_step (fail)))
  refine wpQuiet_nil ?_
  rintro w' ⟨nq, rfl⟩
  go_wp2
  go_ret
  exact ⟨ret_int (by kernel_rfl), below_drewN (Below.refl _ _) _⟩

set_option maxRecDepth 100000 in
set_option maxHeartbeats 1000000 in
theorem ones_9 (w : World) : Calls Try.prog 55 #[.int .u16 511] w fun e w' => e = .returned (.int .i64 9) ∧ Below w.heap.size w w' := by
  go_enter Try.func55, Try.ntmps55
  go_wp2
  refine wp_region_quiet_lit (by kernel_rfl) (by kernel_rfl) ?_
  repeat (any_goals (first | go_big_quiet_step (fail) | quiet_step (fail)))
  refine quiet_at (.int .u8 8) ?_ ?_ ?_
  · rfl
  · intro w; kernel_rfl
  repeat (any_goals (first | go_big_quiet_step (fail) | quiet_step (fail)))
  refine wpQuiet_nil ?_
  rintro w' ⟨nq, rfl⟩
  go_wp2
  go_ret
  exact ⟨ret_int (by kernel_rfl), below_drewN (Below.refl _ _) _⟩

set_option maxRecDepth 100000 in
set_option maxHeartbeats 1000000 in
theorem ones_10 (w : World) : Calls Try.prog 55 #[.int .u16 1023] w fun e w' => e = .returned (.int .i64 10) ∧ Below w.heap.size w w' := by
  go_enter Try.func55, Try.ntmps55
  go_wp2
  refine wp_region_quiet_lit (by kernel_rfl) (by kernel_rfl) ?_
  repeat (any_goals (first | go_big_quiet_step (fail) | quiet_step (fail)))
  refine quiet_at (.int .u8 8) ?_ ?_ ?_
  · rfl
  · intro w; kernel_rfl
  repeat (any_goals (first | go_big_quiet_step (fail) | quiet_step (fail)))
  refine wpQuiet_nil ?_
  rintro w' ⟨nq, rfl⟩
  go_wp2
  go_ret
  exact ⟨ret_int (by kernel_rfl), below_drewN (Below.refl _ _) _⟩

set_option maxRecDepth 100000 in
set_option maxHeartbeats 1000000 in
theorem ones_11 (w : World) : Calls Try.prog 55 #[.int .u16 2047] w fun e w' => e = .returned (.int .i64 11) ∧ Below w.heap.size w w' := by
  go_enter Try.func55, Try.ntmps55
  go_wp2
  refine wp_region_quiet_lit (by kernel_rfl) (by kernel_rfl) ?_
  repeat (any_goals (first | go_big_quiet_step (fail) | quiet_step (fail)))
  refine quiet_at (.int .u8 8) ?_ ?_ ?_
  · rfl
  · intro w; kernel_rfl
  repeat (any_goals (first | go_big_quiet_step (fail) | quiet_step (fail)))
  refine wpQuiet_nil ?_
  rintro w' ⟨nq, rfl⟩
  go_wp2
  go_ret
  exact ⟨ret_int (by kernel_rfl), below_drewN (Below.refl _ _) _⟩

set_option maxRecDepth 100000 in
set_option maxHeartbeats 1000000 in
theorem ones_12 (w : World) : Calls Try.prog 55 #[.int .u16 4095] w fun e w' => e = .returned (.int .i64 12) ∧ Below w.heap.size w w' := by
  go_enter Try.func55, Try.ntmps55
  go_wp2
  refine wp_region_quiet_lit (by kernel_rfl) (by kernel_rfl) ?_
  repeat (any_goals (first | go_big_quiet_step (fail) | quiet_step (fail)))
  refine quiet_at (.int .u8 8) ?_ ?_ ?_
  · rfl
  · intro w; kernel_rfl
  repeat (any_goals (first | go_big_quiet_step (fail) | quiet_step (fail)))
  refine wpQuiet_nil ?_
  rintro w' ⟨nq, rfl⟩
  go_wp2
  go_ret
  exact ⟨ret_int (by kernel_rfl), below_drewN (Below.refl _ _) _⟩

set_option maxRecDepth 100000 in
set_option maxHeartbeats 1000000 in
theorem ones_13 (w : World) : Calls Try.prog 55 #[.int .u16 8191] w fun e w' => e = .returned (.int .i64 13) ∧ Below w.heap.size w w' := by
  go_enter Try.func55, Try.ntmps55
  go_wp2
  refine wp_region_quiet_lit (by kernel_rfl) (by kernel_rfl) ?_
  repeat (any_goals (first | go_big_quiet_step (fail) | quiet_step (fail)))
  refine quiet_at (.int .u8 8) ?_ ?_ ?_
  · rfl
  · intro w; kernel_rfl
  repeat (any_goals (first | go_big_quiet_step (fail) | quiet_step (fail)))
  refine wpQuiet_nil ?_
  rintro w' ⟨nq, rfl⟩
  go_wp2
  go_ret
  exact ⟨ret_int (by kernel_rfl), below_drewN (Below.refl _ _) _⟩

set_option maxRecDepth 100000 in
set_option maxHeartbeats 1000000 in
theorem ones_14 (w : World) : Calls Try.prog 55 #[.int .u16 16383] w fun e w' => e = .returned (.int .i64 14) ∧ Below w.heap.size w w' := by
  go_enter Try.func55, Try.ntmps55
  go_wp2
  refine wp_region_quiet_lit (by kernel_rfl) (by kernel_rfl) ?_
  repeat (any_goals (first | go_big_quiet_step (fail) | quiet_step (fail)))
  refine quiet_at (.int .u8 8) ?_ ?_ ?_
  · rfl
  · intro w; kernel_rfl
  repeat (any_goals (first | go_big_quiet_step (fail) | quiet_step (fail)))
  refine wpQuiet_nil ?_
  rintro w' ⟨nq, rfl⟩
  go_wp2
  go_ret
  exact ⟨ret_int (by kernel_rfl), below_drewN (Below.refl _ _) _⟩

set_option maxRecDepth 100000 in
set_option maxHeartbeats 1000000 in
theorem ones_15 (w : World) : Calls Try.prog 55 #[.int .u16 32767] w fun e w' => e = .returned (.int .i64 15) ∧ Below w.heap.size w w' := by
  go_enter Try.func55, Try.ntmps55
  go_wp2
  refine wp_region_quiet_lit (by kernel_rfl) (by kernel_rfl) ?_
  repeat (any_goals (first | go_big_quiet_step (fail) | quiet_step (fail)))
  refine quiet_at (.int .u8 8) ?_ ?_ ?_
  · rfl
  · intro w; kernel_rfl
  repeat (any_goals (first | go_big_quiet_step (fail) | quiet_step (fail)))
  refine wpQuiet_nil ?_
  rintro w' ⟨nq, rfl⟩
  go_wp2
  go_ret
  exact ⟨ret_int (by kernel_rfl), below_drewN (Below.refl _ _) _⟩

set_option maxRecDepth 100000 in
set_option maxHeartbeats 1000000 in
theorem ones_16 (w : World) : Calls Try.prog 55 #[.int .u16 65535] w fun e w' => e = .returned (.int .i64 16) ∧ Below w.heap.size w w' := by
  go_enter Try.func55, Try.ntmps55
  go_wp2
  refine wp_region_quiet_lit (by kernel_rfl) (by kernel_rfl) ?_
  repeat (any_goals (first | go_big_quiet_step (fail) | quiet_step (fail)))
  refine quiet_at (.int .u8 8) ?_ ?_ ?_
  · rfl
  · intro w; kernel_rfl
  repeat (any_goals (first | go_big_quiet_step (fail) | quiet_step (fail)))
  refine wpQuiet_nil ?_
  rintro w' ⟨nq, rfl⟩
  go_wp2
  go_ret
  exact ⟨ret_int (by kernel_rfl), below_drewN (Below.refl _ _) _⟩

theorem many_all (k : Nat) (w : World) (hk : k ≤ 16) : Calls Try.prog 38 #[.int .i64 (2 ^ k - 1)] w fun e w' => e = .returned (.int .i64 k) ∧ Below w.heap.size w w' := by
  have hw : k = 0 ∨ k = 1 ∨ k = 2 ∨ k = 3 ∨ k = 4 ∨ k = 5 ∨ k = 6 ∨ k = 7 ∨ k = 8 ∨ k = 9 ∨ k = 10 ∨ k = 11 ∨ k = 12 ∨ k = 13 ∨ k = 14 ∨ k = 15 ∨ k = 16 := by omega
  rcases hw with rfl | rfl | rfl | rfl | rfl | rfl | rfl | rfl | rfl | rfl | rfl | rfl | rfl | rfl | rfl | rfl | rfl
  · simp only [Int.reducePow, Int.reduceSub]
    go_enter Try.func38, Try.ntmps38
    go_wp2_with (go_at_call 55; refine (ones_0 _).mono ?_; rintro e w' ⟨rfl, hb⟩)
    go_ret
    exact ⟨rfl, hb⟩
  · simp only [Int.reducePow, Int.reduceSub]
    go_enter Try.func38, Try.ntmps38
    go_wp2_with (go_at_call 55; refine (ones_1 _).mono ?_; rintro e w' ⟨rfl, hb⟩)
    go_ret
    exact ⟨rfl, hb⟩
  · simp only [Int.reducePow, Int.reduceSub]
    go_enter Try.func38, Try.ntmps38
    go_wp2_with (go_at_call 55; refine (ones_2 _).mono ?_; rintro e w' ⟨rfl, hb⟩)
    go_ret
    exact ⟨rfl, hb⟩
  · simp only [Int.reducePow, Int.reduceSub]
    go_enter Try.func38, Try.ntmps38
    go_wp2_with (go_at_call 55; refine (ones_3 _).mono ?_; rintro e w' ⟨rfl, hb⟩)
    go_ret
    exact ⟨rfl, hb⟩
  · simp only [Int.reducePow, Int.reduceSub]
    go_enter Try.func38, Try.ntmps38
    go_wp2_with (go_at_call 55; refine (ones_4 _).mono ?_; rintro e w' ⟨rfl, hb⟩)
    go_ret
    exact ⟨rfl, hb⟩
  · simp only [Int.reducePow, Int.reduceSub]
    go_enter Try.func38, Try.ntmps38
    go_wp2_with (go_at_call 55; refine (ones_5 _).mono ?_; rintro e w' ⟨rfl, hb⟩)
    go_ret
    exact ⟨rfl, hb⟩
  · simp only [Int.reducePow, Int.reduceSub]
    go_enter Try.func38, Try.ntmps38
    go_wp2_with (go_at_call 55; refine (ones_6 _).mono ?_; rintro e w' ⟨rfl, hb⟩)
    go_ret
    exact ⟨rfl, hb⟩
  · simp only [Int.reducePow, Int.reduceSub]
    go_enter Try.func38, Try.ntmps38
    go_wp2_with (go_at_call 55; refine (ones_7 _).mono ?_; rintro e w' ⟨rfl, hb⟩)
    go_ret
    exact ⟨rfl, hb⟩
  · simp only [Int.reducePow, Int.reduceSub]
    go_enter Try.func38, Try.ntmps38
    go_wp2_with (go_at_call 55; refine (ones_8 _).mono ?_; rintro e w' ⟨rfl, hb⟩)
    go_ret
    exact ⟨rfl, hb⟩
  · simp only [Int.reducePow, Int.reduceSub]
    go_enter Try.func38, Try.ntmps38
    go_wp2_with (go_at_call 55; refine (ones_9 _).mono ?_; rintro e w' ⟨rfl, hb⟩)
    go_ret
    exact ⟨rfl, hb⟩
  · simp only [Int.reducePow, Int.reduceSub]
    go_enter Try.func38, Try.ntmps38
    go_wp2_with (go_at_call 55; refine (ones_10 _).mono ?_; rintro e w' ⟨rfl, hb⟩)
    go_ret
    exact ⟨rfl, hb⟩
  · simp only [Int.reducePow, Int.reduceSub]
    go_enter Try.func38, Try.ntmps38
    go_wp2_with (go_at_call 55; refine (ones_11 _).mono ?_; rintro e w' ⟨rfl, hb⟩)
    go_ret
    exact ⟨rfl, hb⟩
  · simp only [Int.reducePow, Int.reduceSub]
    go_enter Try.func38, Try.ntmps38
    go_wp2_with (go_at_call 55; refine (ones_12 _).mono ?_; rintro e w' ⟨rfl, hb⟩)
    go_ret
    exact ⟨rfl, hb⟩
  · simp only [Int.reducePow, Int.reduceSub]
    go_enter Try.func38, Try.ntmps38
    go_wp2_with (go_at_call 55; refine (ones_13 _).mono ?_; rintro e w' ⟨rfl, hb⟩)
    go_ret
    exact ⟨rfl, hb⟩
  · simp only [Int.reducePow, Int.reduceSub]
    go_enter Try.func38, Try.ntmps38
    go_wp2_with (go_at_call 55; refine (ones_14 _).mono ?_; rintro e w' ⟨rfl, hb⟩)
    go_ret
    exact ⟨rfl, hb⟩
  · simp only [Int.reducePow, Int.reduceSub]
    go_enter Try.func38, Try.ntmps38
    go_wp2_with (go_at_call 55; refine (ones_15 _).mono ?_; rintro e w' ⟨rfl, hb⟩)
    go_ret
    exact ⟨rfl, hb⟩
  · simp only [Int.reducePow, Int.reduceSub]
    go_enter Try.func38, Try.ntmps38
    go_wp2_with (go_at_call 55; refine (ones_16 _).mono ?_; rintro e w' ⟨rfl, hb⟩)
    go_ret
    exact ⟨rfl, hb⟩

end Go.Proofs.Ytbnnfknkmelhaaa.bits
