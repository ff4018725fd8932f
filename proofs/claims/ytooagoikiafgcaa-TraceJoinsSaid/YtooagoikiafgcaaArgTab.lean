/-
  PROVED HERE: how a table comes in.
  CONDITIONS: none.
-/
import Derived.Test.YtooagoikiafgcaaTab
import Derived.Test.YtooagoikiafgcaaLiftField
namespace Go.Proofs.Ytooagoikiafgcaa.tab
set_option linter.unusedVariables false
open Go.RowKit Go.ChangeShapes Go.WideShapes Go.ChangeAt Go.Deep Go.Joins Go.Proofs.Ytooagoikiafgcaa.base Go.Proofs.Ytooagoikiafgcaa.obj Go.Proofs.Ytooagoikiafgcaa.mem

theorem t3_in {H : Type} {enc : TypeId × Value → H} {W : World} {e : TypeId} {s : TypeId} {v : Value} {fuel : Nat} {x : DataW H × List MemPlace} (ht : Try.prog.underlying s = some (.slice e)) (hc : Try.prog.cellsOf e = 3)
    (he : ∀ (cs : List Value) (m : Nat) (y : DataW H × List MemPlace), cs.length = 3 → DataW.trod enc Try.prog W 0 (fun _ => true) true m e cs = some y → ∃ t : T3, cs = t.cells)
    (hf : DataW.trod enc Try.prog W 0 (fun _ => true) true fuel s [v] = some x) : ∃ (A : Option Addr) (n c : Nat) (l : List T3), v = .slice A n c ∧ n = l.length ∧ n ≤ maxLen ∧ Sl W W.heap.size 3 A n (t3s l) := by
  obtain ⟨A, n, c, q, rfl, _, hn, hs, hq⟩ := Go.Proofs.Ytooagoikiafgcaa.lift.field_row ht hc (by decide) hf
  have each : ∀ i, i < n → ∃ p : T3, q i = p.cells := by
    intro i hi
    obtain ⟨hl, m, y, hy⟩ := hq i hi
    exact he _ m y hl hy
  obtain ⟨z, hz⟩ := choose_lt each
  have e1 : ∀ m, m ≤ n → (List.range m).flatMap q = t3s ((List.range m).map z) := by
    intro m
    induction m with
    | zero => intro _; simp [t3s]
    | succ m ih =>
      intro hm
      rw [List.range_succ, List.flatMap_append, List.map_append, ih (by omega), List.map_cons, List.map_nil, t3s_snoc]
      simp [hz m (by omega)]
  rw [e1 n (Nat.le_refl _)] at hs
  exact ⟨A, n, c, (List.range n).map z, rfl, by simp, hn, hs⟩
theorem t3_of {H : Type} {enc : TypeId × Value → H} {W : World} {e : TypeId} {f0 f1 f2 : Field} (hu : Try.prog.underlying e = some (.struct #[f0, f1, f2])) (hone : oneCellFields Try.prog #[f0, f1, f2] = true) (h0 : f0.type = 3) (h1 : f1.type = 3) (h2 : f2.type = 3) :
    ∀ (cs : List Value) (m : Nat) (y : DataW H × List MemPlace), cs.length = 3 → DataW.trod enc Try.prog W 0 (fun _ => true) true m e cs = some y → ∃ t : T3, cs = t.cells := by
  intro cs m y hl hy
  have hf := Go.Proofs.Ytooagoikiafgcaa.lift.row_fields hu hone hl hy
  obtain ⟨v0, k0, y0, g0, t0⟩ := hf 0 f0 rfl
  obtain ⟨v1, k1, y1, g1, t1⟩ := hf 1 f1 rfl
  obtain ⟨v2, k2, y2, g2, t2⟩ := hf 2 f2 rfl
  rw [h0] at t0
  rw [h1] at t1
  rw [h2] at t2
  obtain ⟨a0, e0, _, _⟩ := DataW.trod_int Try.underlying3 t0
  obtain ⟨a1, e1, _, _⟩ := DataW.trod_int Try.underlying3 t1
  obtain ⟨a2, e2, _, _⟩ := DataW.trod_int Try.underlying3 t2
  simp only [List.cons.injEq, and_true] at e0 e1 e2
  refine ⟨⟨a0, a1, a2⟩, ?_⟩
  match cs, hl with
  | [u0, u1, u2], _ =>
    simp only [List.getElem?_cons_zero, List.getElem?_cons_succ, Option.some.injEq] at g0 g1 g2
    rw [g0, g1, g2, e0, e1, e2]
    rfl
set_option maxRecDepth 100000 in
theorem arg_tab {H : Type} {enc : TypeId × Value → H} {W : World} {r : Reach} {b0 : Nat} {v : Value} {d : DataW H} {ps : List MemPlace} (hval : Value.okWide Try.prog W r b0 39 v)
    (h : DataW.Trod enc Try.prog W 0 (fun _ => true) true 39 v d ps) : ∃ (t : Tab) (AP : Option Addr) (nP cP : Nat) (AW : Option Addr) (nW cW : Nat) (AC : Option Addr) (nC cC : Nat), v = tabAgg t.frame AP nP cP AW nW cW AC nC cC t.trial ∧ TabV W W.heap.size t AP nP cP AW nW cW AC nC cC := by
  obtain ⟨cs, rfl, hl⟩ := okWide_struct Try.underlying39 hval
  obtain ⟨fuel, hx⟩ := h
  have hl5 : cs.toList.length = 5 := by rw [Array.length_toList, hl]; kernel_rfl
  have hf := Go.Proofs.Ytooagoikiafgcaa.lift.row_fields Try.underlying39 (by kernel_rfl) (by rw [show (Value.agg cs).cells.toList = cs.toList from rfl]; exact hl5) hx
  obtain ⟨v0, k0, y0, g0, t0⟩ := hf 0 _ rfl
  obtain ⟨v1, k1, y1, g1, t1⟩ := hf 1 _ rfl
  obtain ⟨v2, k2, y2, g2, t2⟩ := hf 2 _ rfl
  obtain ⟨v3, k3, y3, g3, t3⟩ := hf 3 _ rfl
  obtain ⟨v4, k4, y4, g4, t4⟩ := hf 4 _ rfl
  obtain ⟨a0, h0, _, w0⟩ := DataW.trod_int Try.underlying3 t0
  obtain ⟨a4, h4, _, w4⟩ := DataW.trod_int Try.underlying3 t4
  obtain ⟨AP, nP, cP, lp, rfl, p1, p2, p3⟩ := t3_in Try.underlying35 (by kernel_rfl) (t3_of Try.underlying134 (by kernel_rfl) rfl rfl rfl) t1
  obtain ⟨AW, nW, cW, lw, rfl, q1, q2, q3⟩ := t3_in Try.underlying36 (by kernel_rfl) (t3_of Try.underlying137 (by kernel_rfl) rfl rfl rfl) t2
  obtain ⟨AC, nC, cC, lc, rfl, r1, r2, r3⟩ := t3_in Try.underlying37 (by kernel_rfl) (t3_of Try.underlying139 (by kernel_rfl) rfl rfl rfl) t3
  simp at h0 h4
  subst h0; subst h4
  refine ⟨⟨a0, lp, lw, lc, a4⟩, AP, nP, cP, AW, nW, cW, AC, nC, cC, ?_, ⟨p3, q3, r3, p1, q1, r1, p2, q2, r2⟩⟩
  obtain ⟨l⟩ := cs
  match hqi : l, hl5 with
  | [u0, u1, u2, u3, u4], _ =>
    simp [Value.cells] at g0 g1 g2 g3 g4
    rw [g0, g1, g2, g3, g4]
end Go.Proofs.Ytooagoikiafgcaa.tab
