/-
  PROVED HERE: how a slice that is a field of what came in is opened.
  CONDITIONS: each lemma names its own.
-/
import Derived.Test.YtooagoikiafgcaaLift
namespace Go.Proofs.Ytooagoikiafgcaa.lift
set_option linter.unusedVariables false
open Go.RowKit Go.ChangeShapes Go.WideShapes Go.Deep Go.Proofs.Ytooagoikiafgcaa.base

section
variable {H : Type} {enc : TypeId × Value → H} {P : Program}

/-- a slice in one cell of what came in: its cells, element by element, and how each element reads -/
theorem field_row {W : World} {t e s : TypeId} {v : Value} {fuel : Nat} {x : DataW H × List MemPlace} (ht : P.underlying t = some (.slice e)) (hc : P.cellsOf e = s) (hs : 0 < s)
    (hf : DataW.trod enc P W 0 (fun _ => true) true fuel t [v] = some x) :
    ∃ (A : Option Addr) (n c : Nat) (q : Nat → List Value), v = .slice A n c ∧ n ≤ c ∧ n ≤ maxLen ∧ Sl W W.heap.size s A n ((List.range n).flatMap q) ∧
      ∀ i, i < n → (q i).length = s ∧ ∃ m x, DataW.trod enc P W 0 (fun _ => true) true m e (q i) = some x := by
  rcases open_slice ht hf with ⟨hcs, _⟩ | ⟨a, len, cap, m, k, D, Pl, hcs, _, hl, hm, hmm, _, hx⟩
  · simp at hcs
    subst hcs
    exact ⟨none, 0, 0, fun _ => [], rfl, Nat.le_refl _, by simp [maxLen], ⟨by simp, fun h => absurd h (by omega)⟩, fun i hi => absurd hi (by omega)⟩
  · simp at hcs
    subst hcs
    simp only [if_true] at hmm
    subst hmm
    rw [hc] at hx
    obtain ⟨q, hq⟩ := choose_lt hx
    have hlen : ∀ i, i < len → (q i).length = s ∧ ∀ j, j < s → W.cell? (a.add (i * s + j)) = (q i)[j]? := by
      intro i hi
      obtain ⟨_, h1, h2⟩ := World.cells?_some (hq i (by omega)).1
      exact ⟨h1, fun j hj => by rw [← h2 j hj, add_add']⟩
    obtain ⟨f1, f2⟩ := flat_get q s hs len (fun i hi => (hlen i hi).1)
    have hlm : len ≤ maxLen := Nat.le_trans hl hm
    have hrd : ∀ i, i < len → (q i).length = s ∧ ∃ m x, DataW.trod enc P W 0 (fun _ => true) true m e (q i) = some x := fun i hi => ⟨(hlen i hi).1, k, _, (hq i (Nat.lt_of_lt_of_le hi hl)).2⟩
    refine ⟨some a, len, _, q, rfl, hl, hlm, ⟨f1, fun hn => ?_⟩, hrd⟩
    have cell0 := (hlen 0 (by omega)).2 0 hs
    have h0l := (hlen 0 (by omega)).1
    obtain ⟨b, off, spot⟩ := a
    have hsome : W.cell? ((⟨b, off, spot⟩ : Addr).add (0 * s + 0)) = some ((q 0)[0]'(by rw [h0l]; exact hs)) := by rw [cell0]; exact List.getElem?_eq_getElem (by rw [h0l]; exact hs)
    have hspot : spot = none := by simpa [Addr.add] using World.cell?_spot hsome
    subst hspot
    have hadd : ∀ k, (⟨b, off, none⟩ : Addr).add k = ⟨b, off + k, none⟩ := fun k => by unfold Addr.add; split <;> simp_all
    refine ⟨b, off, rfl, ?_, fun k u hu => ?_⟩
    · have := World.block_lt_of_cell? W _ hsome
      rw [hadd] at this
      exact this
    · have hk : k < len * s := by
        have := (List.getElem?_eq_some_iff.1 hu).1
        omega
      have hi : k / s < len := Nat.div_lt_of_lt_mul (by rw [Nat.mul_comm]; exact hk)
      have hj : k % s < s := Nat.mod_lt _ hs
      have hk2 : k / s * s + k % s = k := by rw [Nat.mul_comm]; exact Nat.div_add_mod k s
      have g := f2 (k / s) (k % s) hi hj
      rw [hk2] at g
      have c := (hlen (k / s) hi).2 (k % s) hj
      rw [hk2, hadd] at c
      rw [c, ← g]
      exact hu

/-- a slice of integers in one cell of what came in -/
theorem field_ints {W : World} {t e : TypeId} {k : IntKind} {v : Value} {fuel : Nat} {x : DataW H × List MemPlace} (ht : P.underlying t = some (.slice e)) (he : P.underlying e = some (.int k)) (hc : P.cellsOf e = 1)
    (h : DataW.trod enc P W 0 (fun _ => true) true fuel t [v] = some x) :
    ∃ (A : Option Addr) (c : Nat) (zs : List Int), v = .slice A zs.length c ∧ zs.length ≤ c ∧ zs.length ≤ maxLen ∧ Sl W W.heap.size 1 A zs.length (zs.map (.int k)) ∧ ∀ z ∈ zs, (Lit.int k z).wf = true := by
  obtain ⟨A, n, c, q, rfl, hnc, hn, hs, hq⟩ := field_row ht hc (by decide) h
  have each : ∀ i, i < n → ∃ z : Int, q i = [.int k z] ∧ (Lit.int k z).wf = true := by
    intro i hi
    obtain ⟨_, m, x, hx⟩ := hq i hi
    obtain ⟨z, h1, _, h3⟩ := DataW.trod_int he hx
    exact ⟨z, h1, h3⟩
  obtain ⟨z, hz⟩ := choose_lt each
  have e1 : ∀ m, m ≤ n → (List.range m).flatMap q = ((List.range m).map z).map (Value.int k) := by
    intro m
    induction m with
    | zero => intro _; simp
    | succ m ih =>
      intro hm
      rw [List.range_succ, List.flatMap_append, List.map_append, List.map_append, ih (by omega)]
      simp [(hz m (by omega)).1]
  rw [e1 n (Nat.le_refl _)] at hs
  have hl : ((List.range n).map z).length = n := by simp
  refine ⟨A, c, (List.range n).map z, by rw [hl], by rw [hl]; exact hnc, by rw [hl]; exact hn, by rw [hl]; exact hs, fun y hy => ?_⟩
  obtain ⟨i, hi, rfl⟩ := List.mem_map.1 hy
  exact (hz i (List.mem_range.1 hi)).2

end
end Go.Proofs.Ytooagoikiafgcaa.lift
