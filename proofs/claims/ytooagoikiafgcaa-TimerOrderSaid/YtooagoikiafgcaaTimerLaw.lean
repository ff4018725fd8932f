/-
  PROVED HERE: timers as a list of names and ticks: what many Sets, Stops and one Due leave. No program.
  CONDITIONS: each lemma names its own.
-/
import Derived.Test.YtooagoikiafgcaaTimerArgs
namespace Go.Proofs.Ytooagoikiafgcaa.timer
set_option linter.unusedVariables false

theorem lessP_total {a b : Int × Int} (h : a ≠ b) : lessP a b = true ∨ lessP b a = true := by
  unfold lessP
  obtain ⟨a1, a2⟩ := a
  obtain ⟨b1, b2⟩ := b
  by_cases e : a2 = b2
  · subst e
    have : a1 ≠ b1 := fun e => h (by rw [e])
    simp
    omega
  · have e' : b2 ≠ a2 := fun x => e x.symm
    simp [e, e']
    omega
theorem lessP_irr (a : Int × Int) : lessP a a = false := by simp [lessP]
theorem lessP_trans {a b c : Int × Int} (h : lessP a b = true) (k : lessP b c = true) : lessP a c = true := by
  unfold lessP at *
  obtain ⟨a1, a2⟩ := a
  obtain ⟨b1, b2⟩ := b
  obtain ⟨c1, c2⟩ := c
  simp only at *
  split at h <;> split at k <;> split <;> simp_all <;> omega
theorem lessP_asym {a b : Int × Int} (h : lessP a b = true) : lessP b a = false := by
  cases e : lessP b a with
  | false => rfl
  | true => have := lessP_trans h e; rw [lessP_irr] at this; exact absurd this (by decide)
theorem exists_min : ∀ {M : List (Int × Int)}, M ≠ [] → ∃ o, IsMin M o
  | [], h => absurd rfl h
  | [x], _ => ⟨x, by simp, fun y hy => by rw [List.mem_singleton.1 hy]; exact lessP_irr x⟩
  | x :: y :: l, _ => by
    obtain ⟨o, ho, hm⟩ := exists_min (M := y :: l) (by simp)
    by_cases e : lessP x o = true
    · refine ⟨x, by simp, fun z hz => ?_⟩
      rcases List.mem_cons.1 hz with rfl | hz
      · exact lessP_irr _
      · cases e2 : lessP z x with
        | false => rfl
        | true => have := lessP_trans e2 e; rw [hm z hz] at this; exact absurd this (by decide)
    · refine ⟨o, by simp [List.mem_cons.1 ho], fun z hz => ?_⟩
      rcases List.mem_cons.1 hz with rfl | hz
      · simpa using e
      · exact hm z hz
/-- all that is set comes of the acts -/
structure SetOk (l : List ActT) (M : List (Int × Int)) : Prop where
  from_ : ∀ x ∈ M, ∃ a ∈ l, a.name = x.1 ∧ a.tick = x.2
theorem SetOk.nil (l : List ActT) : SetOk l [] := ⟨fun x hx => absurd hx (by simp)⟩
theorem SetOk.set {l : List ActT} {M : List (Int × Int)} (h : SetOk l M) {a : ActT} (ha : a ∈ l) : SetOk l (setM M a.name a.tick) := ⟨fun x hx => by
  rcases List.mem_cons.1 hx with rfl | hx
  · exact ⟨a, ha, rfl, rfl⟩
  · exact h.from_ x (List.mem_filter.1 hx).1⟩
theorem SetOk.stop {l : List ActT} {M : List (Int × Int)} (h : SetOk l M) (nm : Int) : SetOk l (stopM M nm) := ⟨fun x hx => h.from_ x (List.mem_filter.1 hx).1⟩
theorem stopM_len (M : List (Int × Int)) (nm : Int) : (stopM M nm).length ≤ M.length := List.length_filter_le _ _
theorem stopM_mem {M : List (Int × Int)} {nm : Int} {x : Int × Int} : x ∈ stopM M nm ↔ x ∈ M ∧ x.1 ≠ nm := by simp [stopM]
/-- all is due at last -/
theorem DueR.all {tick : Int} {M M' : List (Int × Int)} {names : List Int} (h : DueR tick M names M') (ht : ∀ x ∈ M, x.2 ≤ tick) : M' = [] ∧ ∀ n ∈ names, ∃ x ∈ M, x.1 = n := by
  induction h with
  | stop M h =>
    refine ⟨?_, by simp⟩
    by_cases e : M = []
    · exact e
    · obtain ⟨o, ho⟩ := exists_min e
      have h1 := h o ho
      have h2 := ht o ho.1
      omega
  | step o M out M' ho hle r ih =>
    obtain ⟨h1, h2⟩ := ih fun x hx => ht x (stopM_mem.1 hx).1
    refine ⟨h1, fun n hn => ?_⟩
    rcases List.mem_cons.1 hn with rfl | hn
    · exact ⟨o, ho.1, rfl⟩
    · obtain ⟨x, hx, e⟩ := h2 n hn
      exact ⟨x, (stopM_mem.1 hx).1, e⟩
/-- behind q stops of names of a kind -/
structure StopsI (p : Int → Prop) (l : List ActT) (q : Nat) (M : List (Int × Int)) : Prop where
  ok : SetOk l M
  gone : ∀ i (h : i < l.length), i < q → p l[i].name → ∀ x ∈ M, x.1 ≠ l[i].name
theorem StopsI.go {p : Int → Prop} {l : List ActT} {q : Nat} {M : List (Int × Int)} (h : StopsI p l q M) (hq : q < l.length) (hp : p l[q].name) : StopsI p l (q + 1) (stopM M l[q].name) :=
  ⟨h.ok.stop _, fun i hi hlt hpi x hx => by
    obtain ⟨h1, h2⟩ := stopM_mem.1 hx
    by_cases e : i = q
    · subst e; exact h2
    · exact h.gone i hi (by omega) hpi x h1⟩
theorem StopsI.stay {p : Int → Prop} {l : List ActT} {q : Nat} {M : List (Int × Int)} (h : StopsI p l q M) (hq : q < l.length) (hp : ¬ p l[q].name) : StopsI p l (q + 1) M :=
  ⟨h.ok, fun i hi hlt hpi x hx => by
    by_cases e : i = q
    · subst e; exact absurd hpi hp
    · exact h.gone i hi (by omega) hpi x hx⟩
theorem StopsI.end_ {p : Int → Prop} {l : List ActT} {M : List (Int × Int)} (h : StopsI p l l.length M) : ∀ x ∈ M, ¬ p x.1 := fun x hx hp => by
  obtain ⟨a, ha, e, _⟩ := h.ok.from_ x hx
  obtain ⟨i, hi, rfl⟩ := List.getElem_of_mem ha
  exact h.gone i hi hi (by rw [e]; exact hp) x hx e.symm
end Go.Proofs.Ytooagoikiafgcaa.timer
