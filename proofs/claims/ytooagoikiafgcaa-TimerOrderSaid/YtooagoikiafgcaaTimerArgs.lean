/-
  PROVED HERE: the acts of the timers' laws as arguments.
  CONDITIONS: each lemma names its own.
-/
import Derived.Test.YtooagoikiafgcaaTimerWakes
import Derived.Test.YtooagoikiafgcaaLiftField
namespace Go.Proofs.Ytooagoikiafgcaa.timer
set_option linter.unusedVariables false
open Go.RowKit Go.ChangeShapes Go.WideShapes Go.ChangeAt Go.Deep Go.Joins Go.Proofs.Ytooagoikiafgcaa.base Go.Proofs.Ytooagoikiafgcaa.obj Go.Proofs.Ytooagoikiafgcaa.mem Go.Proofs.Ytooagoikiafgcaa.sep Go.Proofs.Ytooagoikiafgcaa.plan

structure ActT where
  kind : Int
  name : Int
  tick : Int
instance : Inhabited ActT := ⟨⟨0, 0, 0⟩⟩
structure ActT.Ok (a : ActT) : Prop where
  name : (Lit.int .i64 a.name).wf = true
  tick : (Lit.int .i64 a.tick).wf = true
def ActT.cells (a : ActT) : List Value := [.int .i64 a.kind, .int .i64 a.name, .int .i64 a.tick]
def actCells (l : List ActT) : List Value := (l.map ActT.cells).flatten
theorem actCells_snoc (l : List ActT) (a : ActT) : actCells (l ++ [a]) = actCells l ++ a.cells := by simp [actCells]
theorem wf_u8 {z : Int} (h : (Lit.int .u8 z).wf = true) : 0 ≤ z ∧ z ≤ 255 := by
  have h1 : IntKind.u8.min = 0 := rfl
  have h2 : IntKind.u8.max = 255 := rfl
  simp only [Lit.wf, Bool.and_eq_true, decide_eq_true_eq] at h
  omega
theorem wf_i64 {z : Int} (h : (Lit.int .i64 z).wf = true) : -9223372036854775808 ≤ z ∧ z ≤ 9223372036854775807 := by
  have h1 : IntKind.i64.min = -9223372036854775808 := rfl
  have h2 : IntKind.i64.max = 9223372036854775807 := rfl
  simp only [Lit.wf, Bool.and_eq_true, decide_eq_true_eq] at h
  omega
theorem row_parts {H : Type} {enc : TypeId × Value → H} {P : Program} {W : World} {e : TypeId} {fs : Array Field} {cs : List Value} {m : Nat} {x : DataW H × List MemPlace} (he : P.underlying e = some (.struct fs))
    (h : DataW.trod enc P W 0 (fun _ => true) true m e cs = some x) : ∀ (j : Nat) (f : Field) (n : Nat), fs[j]? = some f → P.cellsOf f.type = n → ∃ (k : Nat) (y : DataW H × List MemPlace), DataW.trod enc P W 0 (fun _ => true) true k f.type ((cs.drop f.offset).take n) = some y := by
  obtain ⟨ys, n', hn', hy, hlen, hyl, hf⟩ := DataW.trod_struct he h
  intro j f n hj hn
  subst hn
  have hjl : j < fs.size := (Array.getElem?_eq_some_iff.1 hj).1
  have hys : ys[j]? = some (ys[j]'(by rw [hyl]; exact hjl)) := List.getElem?_eq_getElem _
  exact ⟨n', _, (hf j f hj).trans hys⟩
set_option maxRecDepth 100000 in
theorem arg_acts {H : Type} {enc : TypeId × Value → H} {W : World} {r : Reach} {b0 : Nat} {v : Value} {d : DataW H} {ps : List MemPlace} (hval : Value.okWide Try.prog W r b0 22 v)
    (h : DataW.Trod enc Try.prog W 0 (fun _ => true) true 22 v d ps) : ∃ (A : Option Addr) (c : Nat) (l : List ActT), v = .slice A l.length c ∧ l.length ≤ maxLen ∧ Sl W W.heap.size 3 A l.length (actCells l) ∧ ∀ a ∈ l, a.Ok := by
  obtain ⟨A, n, c, q, rfl, hn, hs, hq⟩ := Go.Proofs.Ytooagoikiafgcaa.lift.arg_row Try.underlying22 (s := 3) (by kernel_rfl) (by decide) hval h
  have each : ∀ i, i < n → ∃ p : ActT, q i = p.cells ∧ p.Ok := by
    intro i hi
    obtain ⟨hl, m, x, hx⟩ := hq i hi
    obtain ⟨u0, u1, u2, hqi⟩ : ∃ u0 u1 u2, q i = [u0, u1, u2] := by
      match hqi : q i, hl with
      | [u0, u1, u2], _ => exact ⟨_, _, _, rfl⟩
    rw [hqi] at hx ⊢
    have hf := row_parts Try.underlying28 hx
    obtain ⟨k0, y0, t0⟩ := hf 0 _ 1 rfl (by kernel_rfl)
    obtain ⟨k1, y1, t1⟩ := hf 1 _ 1 rfl (by kernel_rfl)
    obtain ⟨k2, y2, t2⟩ := hf 2 _ 1 rfl (by kernel_rfl)
    obtain ⟨a0, h0, _, w0⟩ := DataW.trod_int Try.underlying3 t0
    obtain ⟨a1, h1, _, w1⟩ := DataW.trod_int Try.underlying3 t1
    obtain ⟨a2, h2, _, w2⟩ := DataW.trod_int Try.underlying3 t2
    simp at h0 h1 h2
    exact ⟨⟨a0, a1, a2⟩, by rw [h0, h1, h2]; rfl, w1, w2⟩
  obtain ⟨z, hz⟩ := choose_lt each
  have e1 : ∀ m, m ≤ n → (List.range m).flatMap q = actCells ((List.range m).map z) := by
    intro m
    induction m with
    | zero => intro _; simp [actCells]
    | succ m ih =>
      intro hm
      rw [List.range_succ, List.flatMap_append, List.map_append, ih (by omega), List.map_cons, List.map_nil, actCells_snoc]
      simp [(hz m (by omega)).1]
  rw [e1 n (Nat.le_refl _)] at hs
  have hl : ((List.range n).map z).length = n := by simp
  refine ⟨A, c, (List.range n).map z, by rw [hl], by rw [hl]; exact hn, by rw [hl]; exact hs, fun a ha => ?_⟩
  obtain ⟨i, hi, rfl⟩ := List.mem_map.1 ha
  exact (hz i (List.mem_range.1 hi)).2
/-- the cells of act number k -/
theorem act_at {w w' : World} {A : Option Addr} {l : List ActT} (h : Sl w w.heap.size 3 A l.length (actCells l)) (hb : Below w.heap.size w w') {k : Nat} (hk : k < l.length) : ∃ b off, A = some ⟨b, off, none⟩ ∧ b < w'.heap.size ∧
    ∀ j u, j < 3 → l[k].cells[j]? = some u → w'.cell? ⟨b, off + k * 3 + j, none⟩ = some u := by
  obtain ⟨b, off, rfl, hbl, hc⟩ := h.2 (by omega)
  have h9 : ∀ x ∈ l.map ActT.cells, x.length = 3 := by
    intro x hx
    obtain ⟨a, _, rfl⟩ := List.mem_map.1 hx
    rfl
  have e := flat_elem h9 (i := k) (by simpa using hk)
  have g : ∀ j, j < 3 → (actCells l)[k * 3 + j]? = l[k].cells[j]? := by
    intro j hj
    have e2 : (((l.map ActT.cells).flatten.drop (k * 3)).take 3)[j]? = (l.map ActT.cells).flatten[k * 3 + j]? := by
      rw [List.getElem?_take, if_pos hj, List.getElem?_drop]
    rw [e] at e2
    rw [actCells, ← e2]
    simp
  refine ⟨b, off, rfl, Nat.lt_of_lt_of_le hbl hb.size, fun j u hj hu => ?_⟩
  rw [hb.cell (p := ⟨b, off + k * 3 + j, none⟩) hbl, Nat.add_assoc]
  exact hc _ _ ((g j hj).trans hu)
end Go.Proofs.Ytooagoikiafgcaa.timer
