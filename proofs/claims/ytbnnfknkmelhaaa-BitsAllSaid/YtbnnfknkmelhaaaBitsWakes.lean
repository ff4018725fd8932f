/-
  PROVED HERE: longeronlaw10's wakes returns true and leaves memory as it was; bounds of runs.
  CONDITIONS: none.
-/
import Derived.Test.YtbnnfknkmelhaaaBitsRef
import Derived.Test.YtbnnfknkmelhaaaLift
namespace Go.Proofs.Ytbnnfknkmelhaaa.bits
set_option linter.unusedVariables false
open Go.RowKit Go.Proofs.Ytbnnfknkmelhaaa.base

theorem eq_pr_d (d : Nat) (a b c e : Int) (w : World) : (Op.equalIn (d + 2) 40 (.agg #[.int .i64 a, .int .i64 b]) (.agg #[.int .i64 c, .int .i64 e])).run Try.prog w = .ok (a == c && b == e) w := by
  have hu := @run_underlying Try.prog 40 _ Try.underlying40
  have hs : ∀ w, (sizeOf 3).run Try.prog w = .ok 1 w := fun w => by kernel_rfl
  have hp0 : ∀ (x y : Int) w, (part 3 #[.int .i64 x, .int .i64 y] 0).run Try.prog w = .ok (.int .i64 x) w := fun x y w => by kernel_rfl
  have hp1 : ∀ (x y : Int) w, (part 3 #[.int .i64 x, .int .i64 y] 1).run Try.prog w = .ok (.int .i64 y) w := fun x y w => by kernel_rfl
  have hi : ∀ (x y : Int) w, (Op.equalIn (d + 1) 3 (.int .i64 x) (.int .i64 y)).run Try.prog w = .ok (x == y) w := fun x y w => run_equalIn_int w d _ _ _ _ _ Try.underlying3
  rw [Op.equalIn]
  simp only [Sem.run_bind, hu, Result.andThen_ok, hs]
  rw [Std.Legacy.Range.forIn_eq_forIn_range']
  simp only [Std.Legacy.Range.size, Nat.sub_zero, Nat.add_one_sub_one, Nat.div_one, List.range'_succ, List.range'_zero, List.forIn_cons, List.forIn_nil, Sem.run_bind, Nat.zero_mul, Nat.reduceAdd, Nat.reduceMul, hp0, hi, Result.andThen_ok]
  cases h1 : (a == c) <;> cases h2 : (b == e) <;> simp [hp1, hi, h2]
theorem eq_pr (a b : Int) (w : World) : (Op.equalIn 10000 40 (.agg #[.int .i64 a, .int .i64 b]) (.agg #[.int .i64 a, .int .i64 b])).run Try.prog w = .ok true w := by
  have := eq_pr_d 9998 a b a b w
  simpa using this
theorem runs_example : runsL 11 5 = [(0, 2), (3, 1)] := by decide
set_option maxHeartbeats 1000000 in
theorem wakes (w : World) : Calls Try.prog 29 #[] w fun e w' => e = .returned (.bool true) ∧ Below w.heap.size w w' := by
  go_enter Try.func29, Try.ntmps29
  go_wp2_with (fail)
  refine (runs_any _ _ _).mono ?_
  rintro e w1 ⟨v, rfl, hown, hb⟩
  rw [runs_example] at hown
  have hown2 : w1.ownsRow w.heap.size 40 2 v (1 + 1) (prCells [(0, 2), (3, 1)]) := hown
  obtain ⟨g, cap, rfl⟩ := ownsRow_succ hown2
  have c0 : w1.cell? ⟨g, 0, none⟩ = some (.int .i64 0) := hown2.cellAt 0 (by omega)
  have c1 : w1.cell? ⟨g, 1, none⟩ = some (.int .i64 2) := hown2.cellAt 1 (by omega)
  have c2 : w1.cell? ⟨g, 2, none⟩ = some (.int .i64 3) := hown2.cellAt 2 (by omega)
  have c3 : w1.cell? ⟨g, 3, none⟩ = some (.int .i64 1) := hown2.cellAt 3 (by omega)
  have HB := Lib.hid hb
  have e1 := eq_pr 0 2
  have e2 := eq_pr 3 1
  clear hb hown hown2
  go_wp2_with (fail)
  go_ret
  exact ⟨rfl, HB.out⟩

theorem good_bd {s : Int} {M : Nat} : ∀ {r : List (Int × Int)}, GoodR s M r → 0 ≤ sumR r ∧ sumR r ≤ endR r ∧ endR r ≤ M
  | [], _ => by simp [sumR, endR]
  | p :: r, h => by
    obtain ⟨⟨c1, c2, c3, c4, _, _⟩, h⟩ := h
    have := good_bd h
    simp only [sumR, endR]
    omega
theorem good_take {s : Int} {M : Nat} {l : List (Int × Int)} (h : GoodR s M l.reverse) (q : Nat) : GoodR s M (l.take q).reverse := by
  have e : l.reverse = (l.drop q).reverse ++ (l.take q).reverse := by rw [← List.reverse_append, List.take_append_drop]
  rw [e] at h
  exact goodR_suffix _ _ h
theorem prCells_get : ∀ (l : List (Int × Int)) (k : Nat) (h : k < l.length), (prCells l)[k * 2]? = some (.int .i64 l[k].1) ∧ (prCells l)[k * 2 + 1]? = some (.int .i64 l[k].2)
  | [], k, h => absurd h (by simp)
  | p :: l, 0, h => by simp [prCells]
  | p :: l, k + 1, h => by
    have := prCells_get l k (by simpa using h)
    simp only [prCells, List.flatMap_cons] at this ⊢
    have e : (k + 1) * 2 = k * 2 + 2 := by omega
    rw [e]
    simpa using this
theorem i64_of {s : Int} (h : (Lit.int .i64 s).wf = true) : InI64 s := by
  have h1 : IntKind.i64.min = -9223372036854775808 := rfl
  have h2 : IntKind.i64.max = 9223372036854775807 := rfl
  simp only [Lit.wf, Bool.and_eq_true, decide_eq_true_eq] at h
  unfold InI64
  omega
theorem runs_len (s n : Int) : (runsL s n).length ≤ 16 := by
  have : ∀ i, RunBd (elems s i) := by
    intro i
    induction i with
    | zero => exact runBd_nil
    | succ i ih => rw [elems_succ]; exact runBd_snoc ih _
  have h := (this (heldN n)).1
  rw [elems_len] at h
  have := heldN_le n
  unfold runsL
  omega

end Go.Proofs.Ytbnnfknkmelhaaa.bits
