/-
  PROVED HERE: rows of two numbers (api.Sent): their cells, how they are read, how they come in.
  CONDITIONS: none.
-/
import Derived.Test.YtooagoikiafgcaaArgTab
namespace Go.Proofs.Ytooagoikiafgcaa.joins
set_option linter.unusedVariables false
open Go.RowKit Go.ChangeShapes Go.WideShapes Go.ChangeAt Go.Deep Go.Joins Go.Proofs.Ytooagoikiafgcaa.base Go.Proofs.Ytooagoikiafgcaa.obj Go.Proofs.Ytooagoikiafgcaa.mem Go.Proofs.Ytooagoikiafgcaa.tab

def cells2 (x : Int × Int) : List Value := [.int .i64 x.1, .int .i64 x.2]
def t2s (l : List (Int × Int)) : List Value := (l.map cells2).flatten
theorem t2s_snoc (l : List (Int × Int)) (x : Int × Int) : t2s (l ++ [x]) = t2s l ++ cells2 x := by simp [t2s]
theorem t2s_one (l : List (Int × Int)) : ∀ u ∈ t2s l, u.oneCell' = true := by
  intro u hu
  simp only [t2s, List.mem_flatten, List.mem_map] at hu
  obtain ⟨_, ⟨x, _, rfl⟩, h⟩ := hu
  simp only [cells2, List.mem_cons, List.not_mem_nil, or_false] at h
  rcases h with rfl | rfl <;> rfl
theorem t2s_get {w : World} {B n : Nat} {A : Option Addr} {l : List (Int × Int)} (h : Sl w B 2 A n (t2s l)) (hn : n = l.length) {k : Nat} (hk : k < l.length) :
    ∃ b off, A = some ⟨b, off, none⟩ ∧ b < B ∧ w.cell? ⟨b, off + k * 2, none⟩ = some (.int .i64 l[k].1) ∧ w.cell? ⟨b, off + k * 2 + 1, none⟩ = some (.int .i64 l[k].2) := by
  obtain ⟨b, off, rfl, hbl, hc⟩ := h.2 (by omega)
  have h9 : ∀ x ∈ l.map cells2, x.length = 2 := by
    intro x hx
    obtain ⟨a, _, rfl⟩ := List.mem_map.1 hx
    rfl
  have e := flat_elem h9 (i := k) (by simpa using hk)
  have g : ∀ j, j < 2 → (t2s l)[k * 2 + j]? = (cells2 l[k])[j]? := by
    intro j hj
    have e2 : (((l.map cells2).flatten.drop (k * 2)).take 2)[j]? = (l.map cells2).flatten[k * 2 + j]? := by
      rw [List.getElem?_take, if_pos hj, List.getElem?_drop]
    rw [e] at e2
    rw [t2s, ← e2]
    simp
  refine ⟨b, off, rfl, hbl, ?_, ?_⟩
  · exact hc (k * 2) _ ((g 0 (by omega)).trans rfl)
  · rw [Nat.add_assoc]; exact hc (k * 2 + 1) _ ((g 1 (by omega)).trans rfl)
theorem t2_in {H : Type} {enc : TypeId × Value → H} {W : World} {e : TypeId} {s : TypeId} {v : Value} {fuel : Nat} {x : DataW H × List MemPlace} (ht : Try.prog.underlying s = some (.slice e)) (hc : Try.prog.cellsOf e = 2)
    (he : ∀ (cs : List Value) (m : Nat) (y : DataW H × List MemPlace), cs.length = 2 → DataW.trod enc Try.prog W 0 (fun _ => true) true m e cs = some y → ∃ t : Int × Int, cs = cells2 t)
    (hf : DataW.trod enc Try.prog W 0 (fun _ => true) true fuel s [v] = some x) : ∃ (A : Option Addr) (n c : Nat) (l : List (Int × Int)), v = .slice A n c ∧ n = l.length ∧ n ≤ maxLen ∧ Sl W W.heap.size 2 A n (t2s l) := by
  obtain ⟨A, n, c, q, rfl, _, hn, hs, hq⟩ := Go.Proofs.Ytooagoikiafgcaa.lift.field_row ht hc (by decide) hf
  have each : ∀ i, i < n → ∃ p : Int × Int, q i = cells2 p := by
    intro i hi
    obtain ⟨hl, m, y, hy⟩ := hq i hi
    exact he _ m y hl hy
  obtain ⟨z, hz⟩ := choose_lt each
  have e1 : ∀ m, m ≤ n → (List.range m).flatMap q = t2s ((List.range m).map z) := by
    intro m
    induction m with
    | zero => intro _; simp [t2s]
    | succ m ih =>
      intro hm
      rw [List.range_succ, List.flatMap_append, List.map_append, ih (by omega), List.map_cons, List.map_nil, t2s_snoc]
      simp [hz m (by omega)]
  rw [e1 n (Nat.le_refl _)] at hs
  exact ⟨A, n, c, (List.range n).map z, rfl, by simp, hn, hs⟩
theorem t2_of {H : Type} {enc : TypeId × Value → H} {W : World} {e : TypeId} {f0 f1 : Field} (hu : Try.prog.underlying e = some (.struct #[f0, f1])) (hone : oneCellFields Try.prog #[f0, f1] = true) (h0 : f0.type = 3) (h1 : f1.type = 3) :
    ∀ (cs : List Value) (m : Nat) (y : DataW H × List MemPlace), cs.length = 2 → DataW.trod enc Try.prog W 0 (fun _ => true) true m e cs = some y → ∃ t : Int × Int, cs = cells2 t := by
  intro cs m y hl hy
  have hf := Go.Proofs.Ytooagoikiafgcaa.lift.row_fields hu hone hl hy
  obtain ⟨v0, k0, y0, g0, t0⟩ := hf 0 f0 rfl
  obtain ⟨v1, k1, y1, g1, t1⟩ := hf 1 f1 rfl
  rw [h0] at t0
  rw [h1] at t1
  obtain ⟨a0, e0, _, _⟩ := DataW.trod_int Try.underlying3 t0
  obtain ⟨a1, e1, _, _⟩ := DataW.trod_int Try.underlying3 t1
  simp only [List.cons.injEq, and_true] at e0 e1
  refine ⟨⟨a0, a1⟩, ?_⟩
  match cs, hl with
  | [u0, u1], _ =>
    simp only [List.getElem?_cons_zero, List.getElem?_cons_succ, Option.some.injEq] at g0 g1
    rw [g0, g1, e0, e1]
    rfl
end Go.Proofs.Ytooagoikiafgcaa.joins
