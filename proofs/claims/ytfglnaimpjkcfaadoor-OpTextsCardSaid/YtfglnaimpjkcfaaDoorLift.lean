/-
  PROVED HERE: how a law's arguments are opened (ints, bools, slices, structs), and that they read behind the call as before, where the call left what was there.
  CONDITIONS: each lemma names its own.
-/
import Derived.Test.YtfglnaimpjkcfaaDoorBase
import Derived.WideKeyArgs
import Derived.Deep.Slices
import Derived.Lib.SmallJoins
import Derived.ReadAgain
namespace Go.Proofs.YtfglnaimpjkcfaaDoor.lift
set_option linter.unusedVariables false
open Go.RowKit Go.ChangeShapes Go.WideShapes Go.Deep Go.Proofs.YtfglnaimpjkcfaaDoor.base

theorem own : ownKnob Tryd.prog.godebug = none := by kernel_rfl
theorem laidOut : laidOutB Tryd.prog = true := by kernel_rfl

section
variable {H : Type} {enc : TypeId × Value → H} {P : Program}

/-- all arguments read behind a call that left what was there as they did before -/
theorem args_stay (hl : laidOutB P = true) {W W' : World} (hb : Below W.heap.size W W') {sp : Nat → Bool} : ∀ (ts : List TypeId) (vs : List Value) (ds : List (DataW H)) (ps : List MemPlace),
    (ts.all fun t => P.readableRec t && decide (t < P.types.size)) = true → DataW.TrodAll enc P W 0 (fun _ => true) true ts vs ds ps → (∀ p ∈ ps, p.block < W.heap.size) → (∀ p ∈ ps, sp p.block = true) →
    DataW.TrodAll enc P W' 0 sp true ts vs ds ps
  | [], vs, ds, ps, _, h, _, _ => by
    obtain ⟨rfl, rfl, rfl⟩ := trodAll_nil h
    exact trodAll_mk0
  | t :: ts, vs, ds, ps, hr, h, hlt, hsp => by
    obtain ⟨v, vs', d, ds', p, q, rfl, rfl, rfl, h0, h1⟩ := trodAll_cons h
    simp only [List.all_cons, Bool.and_eq_true, decide_eq_true_eq] at hr
    refine trodAll_cons_mk (WideElems.Trod_stays hl hr.1.1 hr.1.2 h0 (fun x hx => hb.same (hlt x (by simp [hx]))) (fun x hx => hsp x (by simp [hx]))) ?_
    exact args_stay hl hb ts vs' ds' q (by simpa using hr.2) h1 (fun x hx => hlt x (by simp [hx])) (fun x hx => hsp x (by simp [hx]))

theorem flat_get {α : Type} (q : Nat → List α) (s : Nat) (hs : 0 < s) : ∀ (n : Nat), (∀ i, i < n → (q i).length = s) → ((List.range n).flatMap q).length = n * s ∧ ∀ i j, i < n → j < s → ((List.range n).flatMap q)[i * s + j]? = (q i)[j]?
  | 0, _ => ⟨by simp, fun i j hi => absurd hi (by omega)⟩
  | n + 1, h => by
    obtain ⟨h1, h2⟩ := flat_get q s hs n (fun i hi => h i (by omega))
    have e : (List.range (n + 1)).flatMap q = (List.range n).flatMap q ++ q n := by rw [List.range_succ, List.flatMap_append]; simp
    have hm : n * s + s = (n + 1) * s := by rw [Nat.add_mul, Nat.one_mul]
    refine ⟨by rw [e, List.length_append, h1, h n (by omega)]; exact hm, fun i j hi hj => ?_⟩
    rw [e]
    by_cases hin : i < n
    · have : i * s + j < n * s := by
        have : (i + 1) * s ≤ n * s := Nat.mul_le_mul_right s hin
        rw [Nat.add_mul, Nat.one_mul] at this
        omega
      rw [List.getElem?_append_left (by omega), h2 i j hin hj]
    · have hi' : i = n := by omega
      subst hi'
      rw [List.getElem?_append_right (by omega), h1]
      congr 1
      omega

theorem add_add' (a : Addr) (i j : Nat) : (a.add i).add j = a.add (i + j) := by
  unfold Addr.add
  by_cases hi : i = 0 <;> by_cases hj : j = 0 <;> simp [hi, hj, Nat.add_assoc]

/-- a slice that came in: its cells, element by element, and how each element reads -/
theorem arg_row {W : World} {r : Reach} {b0 : Nat} {t e s : TypeId} {v : Value} {d : DataW H} {ps : List MemPlace} (ht : P.underlying t = some (.slice e)) (hc : P.cellsOf e = s) (hs : 0 < s)
    (hval : Value.okWide P W r b0 t v) (h : DataW.Trod enc P W 0 (fun _ => true) true t v d ps) :
    ∃ (A : Option Addr) (n c : Nat) (q : Nat → List Value), v = .slice A n c ∧ n ≤ maxLen ∧ Sl W W.heap.size s A n ((List.range n).flatMap q) ∧
      ∀ i, i < n → (q i).length = s ∧ ∃ m x, DataW.trod enc P W 0 (fun _ => true) true m e (q i) = some x := by
  obtain ⟨a0, len, cap, rfl⟩ := okWide_slice ht hval
  obtain ⟨fuel, hf⟩ := h
  rcases open_slice ht hf with ⟨hcs, _⟩ | ⟨a, len', cap', m, k, D, Pl, hcs, _, hl, hm, hmm, _, hx⟩
  · simp [Value.cells] at hcs
    obtain ⟨rfl, rfl, rfl⟩ := hcs
    exact ⟨none, 0, 0, fun _ => [], rfl, by simp [maxLen], ⟨by simp, fun h => absurd h (by omega)⟩, fun i hi => absurd hi (by omega)⟩
  · simp [Value.cells] at hcs
    obtain ⟨rfl, rfl, rfl⟩ := hcs
    simp only [if_true] at hmm
    subst hmm
    rw [hc] at hx
    obtain ⟨q, hq⟩ := choose_lt hx
    have hlen : ∀ i, i < len → (q i).length = s ∧ ∀ j, j < s → W.cell? (a.add (i * s + j)) = (q i)[j]? := by
      intro i hi
      obtain ⟨_, h1, h2⟩ := World.cells?_some (hq i (by omega)).1
      exact ⟨h1, fun j hj => by rw [← h2 j hj, add_add']⟩
    obtain ⟨f1, f2⟩ := flat_get q s hs len (fun i hi => (hlen i hi).1)
    have hlm : len ≤ maxLen := Nat.le_trans hl hm
    have hrd : ∀ i, i < len → (q i).length = s ∧ ∃ m x, DataW.trod enc P W 0 (fun _ => true) true m e (q i) = some x := fun i hi => ⟨(hlen i hi).1, k, _, (hq i (Nat.lt_of_lt_of_le hi hl)).2⟩
    refine ⟨some a, len, _, q, rfl, hlm, ⟨f1, fun hn => ?_⟩, hrd⟩
    have cell0 := (hlen 0 (by omega)).2 0 hs
    have h0l := (hlen 0 (by omega)).1
    obtain ⟨b, off, spot⟩ := a
    have hsome : W.cell? ((⟨b, off, spot⟩ : Addr).add (0 * s + 0)) = some ((q 0)[0]'(by rw [h0l]; exact hs)) := by rw [cell0]; exact List.getElem?_eq_getElem (by rw [h0l]; exact hs)
    have hspot : spot = none := by simpa [Addr.add] using World.cell?_spot hsome
    subst hspot
    have hadd : ∀ k, (⟨b, off, none⟩ : Addr).add k = ⟨b, off + k, none⟩ := fun k => by unfold Addr.add; split <;> simp_all
    refine ⟨b, off, rfl, ?_, fun k u hu => ?_⟩
    · have := World.block_lt_of_cell? W _ hsome
      rw [hadd] at this
      exact this
    · have hk : k < len * s := by
        have := (List.getElem?_eq_some_iff.1 hu).1
        omega
      have hi : k / s < len := Nat.div_lt_of_lt_mul (by rw [Nat.mul_comm]; exact hk)
      have hj : k % s < s := Nat.mod_lt _ hs
      have hk2 : k / s * s + k % s = k := by rw [Nat.mul_comm]; exact Nat.div_add_mod k s
      have g := f2 (k / s) (k % s) hi hj
      rw [hk2] at g
      have c := (hlen (k / s) hi).2 (k % s) hj
      rw [hk2, hadd] at c
      rw [c, ← g]
      exact hu

/-- a slice of integers that came in -/
theorem arg_ints {W : World} {r : Reach} {b0 : Nat} {t e : TypeId} {k : IntKind} {v : Value} {d : DataW H} {ps : List MemPlace} (ht : P.underlying t = some (.slice e)) (he : P.underlying e = some (.int k)) (hc : P.cellsOf e = 1)
    (hval : Value.okWide P W r b0 t v) (h : DataW.Trod enc P W 0 (fun _ => true) true t v d ps) :
    ∃ (A : Option Addr) (c : Nat) (zs : List Int), v = .slice A zs.length c ∧ zs.length ≤ maxLen ∧ Sl W W.heap.size 1 A zs.length (zs.map (.int k)) ∧ ∀ z ∈ zs, (Lit.int k z).wf = true := by
  obtain ⟨A, n, c, q, rfl, hn, hs, hq⟩ := arg_row ht hc (by decide) hval h
  have each : ∀ i, i < n → ∃ z : Int, q i = [.int k z] ∧ (Lit.int k z).wf = true := by
    intro i hi
    obtain ⟨_, m, x, hx⟩ := hq i hi
    obtain ⟨z, h1, _, h3⟩ := DataW.trod_int he hx
    exact ⟨z, h1, h3⟩
  obtain ⟨z, hz⟩ := choose_lt each
  have e1 : ∀ m, m ≤ n → (List.range m).flatMap q = ((List.range m).map z).map (Value.int k) := by
    intro m
    induction m with
    | zero => intro _; simp
    | succ m ih =>
      intro hm
      rw [List.range_succ, List.flatMap_append, List.map_append, List.map_append, ih (by omega)]
      simp [(hz m (by omega)).1]
  rw [e1 n (Nat.le_refl _)] at hs
  have hl : ((List.range n).map z).length = n := by simp
  refine ⟨A, c, (List.range n).map z, by rw [hl], by rw [hl]; exact hn, by rw [hl]; exact hs, fun y hy => ?_⟩
  obtain ⟨i, hi, rfl⟩ := List.mem_map.1 hy
  exact (hz i (List.mem_range.1 hi)).2

/-- an element that is a struct of one-cell fields: each field's cell, and how it reads -/
theorem row_fields {W : World} {e : TypeId} {fs : Array Field} {cs : List Value} {m : Nat} {x : DataW H × List MemPlace} (he : P.underlying e = some (.struct fs)) (hone : oneCellFields P fs = true) (hl : cs.length = fs.size)
    (h : DataW.trod enc P W 0 (fun _ => true) true m e cs = some x) : ∀ (j : Nat) (f : Field), fs[j]? = some f → ∃ (v : Value) (k : Nat) (y : DataW H × List MemPlace), cs[j]? = some v ∧ DataW.trod enc P W 0 (fun _ => true) true k f.type [v] = some y := by
  obtain ⟨ys, n', hn', hy, hlen, hyl, hf⟩ := DataW.trod_struct he h
  intro j f hj
  obtain ⟨ho, hk⟩ := hone_of hone j f hj
  have hjl : j < fs.size := (Array.getElem?_eq_some_iff.1 hj).1
  have h1 := hf j f hj
  rw [ho, hk] at h1
  have hj' : j < cs.length := by rw [hl]; exact hjl
  have hone' : (cs.drop j).take 1 = [cs[j]] := by
    rw [List.drop_eq_getElem_cons hj']
    rfl
  rw [hone'] at h1
  have hys : ys[j]? = some (ys[j]'(by rw [hyl]; exact hjl)) := List.getElem?_eq_getElem _
  exact ⟨_, n', _, List.getElem?_eq_getElem hj', h1.trans hys⟩

end
end Go.Proofs.YtfglnaimpjkcfaaDoor.lift
