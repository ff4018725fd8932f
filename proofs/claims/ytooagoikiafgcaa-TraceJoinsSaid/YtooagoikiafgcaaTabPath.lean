/-
  PROVED HERE: what is reached over channels: in at most four, and as a set that grows till it stands still. No program.
  CONDITIONS: each lemma names its own.
-/
import Derived.Test.YtooagoikiafgcaaRefTab
namespace Go.Proofs.Ytooagoikiafgcaa.tab
set_option linter.unusedVariables false

inductive Rch (cs : List T3) : Int → Int → Prop
  | refl (a : Int) : Rch cs a a
  | head (x : T3) (b : Int) (hx : x ∈ cs) (h : Rch cs x.b b) : Rch cs x.a b
theorem Rch.tail {cs : List T3} {a : Int} {x : T3} (h : Rch cs a x.a) (hx : x ∈ cs) : Rch cs a x.b := by
  generalize e : x.a = c at h
  induction h with
  | refl a => rw [← e]; exact .head x _ hx (.refl _)
  | head y b hy h ih => exact .head y _ hy (ih e)
def pathB (cs : List T3) : Nat → Int → Int → Bool
  | 0, a, b => a == b
  | k + 1, a, b => (a == b) || cs.any fun x => (x.a == a) && pathB cs k x.b b
theorem pathB_rch {cs : List T3} : ∀ {k : Nat} {a b : Int}, pathB cs k a b = true → Rch cs a b
  | 0, a, b, h => by
    simp [pathB] at h
    subst h
    exact .refl a
  | k + 1, a, b, h => by
    simp only [pathB, Bool.or_eq_true, beq_iff_eq, List.any_eq_true, Bool.and_eq_true] at h
    rcases h with rfl | ⟨x, hx, rfl, h⟩
    · exact .refl _
    · exact .head x b hx (pathB_rch h)
theorem pathB_mono {cs : List T3} : ∀ {k : Nat} {a b : Int}, pathB cs k a b = true → pathB cs (k + 1) a b = true
  | 0, a, b, h => by
    simp only [pathB] at h ⊢
    simp [h]
  | k + 1, a, b, h => by
    rw [pathB, Bool.or_eq_true, List.any_eq_true] at h ⊢
    rcases h with h | ⟨x, hx, h⟩
    · exact .inl h
    · refine .inr ⟨x, hx, ?_⟩
      rw [Bool.and_eq_true] at h ⊢
      exact ⟨h.1, pathB_mono h.2⟩
theorem pathB_le {cs : List T3} {k j : Nat} {a b : Int} (hkj : k ≤ j) (h : pathB cs k a b = true) : pathB cs j a b = true := by
  induction hkj with
  | refl => exact h
  | step _ ih => exact pathB_mono ih
/-- all channels lie among four partitions -/
def In4 (cs : List T3) : Prop := ∀ x ∈ cs, (0 ≤ x.a ∧ x.a < 4) ∧ 0 ≤ x.b ∧ x.b < 4
theorem pathB_same {cs : List T3} (h4 : In4 cs) {k : Nat} {b : Int} (h : ∀ i : Nat, i < 4 → pathB cs (k + 1) i b = pathB cs k i b) (a : Int) : pathB cs (k + 2) a b = pathB cs (k + 1) a b := by
  rw [pathB, show pathB cs (k + 1) a b = ((a == b) || cs.any fun x => (x.a == a) && pathB cs k x.b b) from rfl]
  congr 1
  rw [Bool.eq_iff_iff, List.any_eq_true, List.any_eq_true]
  have e : ∀ x ∈ cs, pathB cs (k + 1) x.b b = pathB cs k x.b b := fun x hx => by
    obtain ⟨_, h1, h2⟩ := h4 x hx
    have := h x.b.toNat (by omega)
    rw [show ((x.b.toNat : Nat) : Int) = x.b by omega] at this
    exact this
  constructor
  · rintro ⟨x, hx, h⟩
    rw [e x hx] at h
    exact ⟨x, hx, h⟩
  · rintro ⟨x, hx, h⟩
    rw [← e x hx] at h
    exact ⟨x, hx, h⟩
theorem pathB_stays {cs : List T3} (h4 : In4 cs) {k : Nat} {b : Int} (h : ∀ i : Nat, i < 4 → pathB cs (k + 1) i b = pathB cs k i b) : ∀ (j : Nat) (a : Int), pathB cs (k + 1 + j) a b = pathB cs (k + 1) a b := by
  have h1 : ∀ (j : Nat) (a : Int), pathB cs (k + 1 + (j + 1)) a b = pathB cs (k + 1 + j) a b := by
    intro j
    induction j with
    | zero => exact pathB_same h4 h
    | succ j ih => exact pathB_same (k := k + 1 + j) h4 fun i _ => ih i
  intro j
  induction j with
  | zero => exact fun a => rfl
  | succ j ih => exact fun a => (h1 j a).trans (ih a)
def cntP (cs : List T3) (k : Nat) (b : Int) : Nat := ((List.range 4).filter fun i : Nat => pathB cs k i b).length
theorem filter_grow {α : Type} {p q : α → Bool} (h : ∀ x, p x = true → q x = true) : ∀ (l : List α), (l.filter p).length ≤ (l.filter q).length ∧ ((l.filter p).length = (l.filter q).length → ∀ x ∈ l, q x = p x)
  | [] => by simp
  | x :: l => by
    obtain ⟨h1, h2⟩ := filter_grow h l
    rw [List.filter_cons, List.filter_cons]
    cases hp : p x
    · cases hq : q x
      · simp only [Bool.false_eq_true, if_false]
        refine ⟨h1, fun e y hy => ?_⟩
        rcases List.mem_cons.1 hy with rfl | hy
        · rw [hp, hq]
        · exact h2 e y hy
      · simp only [Bool.false_eq_true, if_false, if_true, List.length_cons]
        exact ⟨by omega, fun e => by omega⟩
    · rw [h x hp]
      simp only [if_true, List.length_cons]
      refine ⟨by omega, fun e y hy => ?_⟩
      rcases List.mem_cons.1 hy with rfl | hy
      · rw [hp, h _ hp]
      · exact h2 (by omega) y hy
theorem cnt_step {cs : List T3} {k : Nat} {b : Int} (h : ¬ ∀ i : Nat, i < 4 → pathB cs (k + 1) i b = pathB cs k i b) : cntP cs k b + 1 ≤ cntP cs (k + 1) b := by
  obtain ⟨h1, h2⟩ := filter_grow (p := fun i : Nat => pathB cs k i b) (q := fun i : Nat => pathB cs (k + 1) i b) (fun x hx => pathB_mono hx) (List.range 4)
  unfold cntP
  rcases Nat.lt_or_ge ((List.range 4).filter fun i : Nat => pathB cs k i b).length ((List.range 4).filter fun i : Nat => pathB cs (k + 1) i b).length with h3 | h3
  · exact h3
  · exact absurd (fun i hi => h2 (Nat.le_antisymm h1 h3) i (List.mem_range.2 hi)) h
theorem still {cs : List T3} {b : Int} (hb : 0 ≤ b ∧ b < 4) : ∃ k, k ≤ 3 ∧ ∀ i : Nat, i < 4 → pathB cs (k + 1) i b = pathB cs k i b := by
  by_cases h0 : ∀ i : Nat, i < 4 → pathB cs (0 + 1) i b = pathB cs 0 i b
  · exact ⟨0, by omega, h0⟩
  by_cases h1 : ∀ i : Nat, i < 4 → pathB cs (1 + 1) i b = pathB cs 1 i b
  · exact ⟨1, by omega, h1⟩
  by_cases h2 : ∀ i : Nat, i < 4 → pathB cs (2 + 1) i b = pathB cs 2 i b
  · exact ⟨2, by omega, h2⟩
  by_cases h3 : ∀ i : Nat, i < 4 → pathB cs (3 + 1) i b = pathB cs 3 i b
  · exact ⟨3, by omega, h3⟩
  have c0 : cntP cs 0 b + 1 ≤ cntP cs 1 b := cnt_step h0
  have c1 : cntP cs 1 b + 1 ≤ cntP cs 2 b := cnt_step h1
  have c2 : cntP cs 2 b + 1 ≤ cntP cs 3 b := cnt_step h2
  have c3 : cntP cs 3 b + 1 ≤ cntP cs 4 b := cnt_step h3
  have c4 : cntP cs 4 b ≤ 4 := Nat.le_trans (List.length_filter_le _ _) (by simp)
  have c5 : 1 ≤ cntP cs 0 b := by
    refine List.length_pos_of_mem (a := b.toNat) (List.mem_filter.2 ⟨List.mem_range.2 (by omega), ?_⟩)
    show ((b.toNat : Int) == b) = true
    simp; omega
  omega
theorem rch_path {cs : List T3} (h4 : In4 cs) {a b : Int} (hb : 0 ≤ b ∧ b < 4) (h : Rch cs a b) : pathB cs 4 a b = true := by
  obtain ⟨k, hk, hs⟩ := still (cs := cs) hb
  have key : pathB cs (k + 1) a b = true := by
    induction h with
    | refl a => exact pathB_le (Nat.zero_le _) (by simp [pathB])
    | head x b hx h ih =>
      rw [← pathB_stays h4 hs 1, pathB, Bool.or_eq_true, List.any_eq_true]
      exact .inr ⟨x, hx, by rw [Bool.and_eq_true]; exact ⟨by simp, ih hb hs⟩⟩
  exact pathB_le (by omega) key
theorem path_iff {cs : List T3} (h4 : In4 cs) {a b : Int} (hb : 0 ≤ b ∧ b < 4) : pathB cs 4 a b = true ↔ Rch cs a b := ⟨pathB_rch, rch_path h4 hb⟩

/-! ### the set that grows -/
def pstep (m : List Bool) (x : T3) : List Bool := m.set x.b.toNat (m.getD x.b.toNat false || m.getD x.a.toNat false)
theorem pstep_len (m : List Bool) (x : T3) : (pstep m x).length = m.length := by simp [pstep]
theorem getD_set' (m : List Bool) (i j : Nat) (v : Bool) : (m.set i v).getD j false = if i = j ∧ i < m.length then v else m.getD j false := by
  rw [List.getD_eq_getElem?_getD, List.getElem?_set]
  by_cases e : i = j
  · subst e
    by_cases h : i < m.length
    · simp [h]
    · simp [h, List.getD_eq_getElem?_getD]
  · simp [e, List.getD_eq_getElem?_getD]
theorem pstep_ge {m : List Bool} {x : T3} {k : Nat} (h : m.getD k false = true) : (pstep m x).getD k false = true := by
  unfold pstep
  rw [getD_set']
  split
  · rename_i e; rw [e.1, h]; rfl
  · exact h
theorem pstep_rch {cs : List T3} (h4 : In4 cs) {m : List Bool} {a : Int} (h : ∀ k : Nat, m.getD k false = true → Rch cs a k) {x : T3} (hx : x ∈ cs) : ∀ k : Nat, (pstep m x).getD k false = true → Rch cs a k := by
  intro k hk
  obtain ⟨⟨a0, _⟩, b0, _⟩ := h4 x hx
  unfold pstep at hk
  rw [getD_set'] at hk
  split at hk
  · rename_i e
    rw [← e.1]
    rw [show ((x.b.toNat : Nat) : Int) = x.b by omega]
    rw [Bool.or_eq_true] at hk
    rcases hk with hk | hk
    · have := h _ hk
      rw [show ((x.b.toNat : Nat) : Int) = x.b by omega] at this
      exact this
    · have := h _ hk
      rw [show ((x.a.toNat : Nat) : Int) = x.a by omega] at this
      exact this.tail hx
  · exact h k hk
def pass (cs : List T3) (m : List Bool) : List Bool := cs.foldl pstep m
theorem pass_len (cs : List T3) : ∀ m : List Bool, (pass cs m).length = m.length := by
  induction cs with
  | nil => exact fun m => rfl
  | cons x cs ih => exact fun m => (ih (pstep m x)).trans (pstep_len m x)
theorem pass_ge (cs : List T3) : ∀ {m : List Bool} {k : Nat}, m.getD k false = true → (pass cs m).getD k false = true := by
  induction cs with
  | nil => exact fun h => h
  | cons x cs ih => exact fun h => ih (pstep_ge h)
theorem pass_closed {cs : List T3} : ∀ {m : List Bool} {x : T3}, x ∈ cs → (0 ≤ x.b ∧ x.b < m.length) → m.getD x.a.toNat false = true → (pass cs m).getD x.b.toNat false = true := by
  induction cs with
  | nil => exact fun h => absurd h (by simp)
  | cons y cs ih =>
    intro m x hx hb ha
    rcases List.mem_cons.1 hx with rfl | hx
    · refine pass_ge cs (m := pstep m x) ?_
      unfold pstep
      rw [getD_set', if_pos ⟨rfl, by omega⟩, ha]
      simp
    · exact ih (m := pstep m y) hx (by rw [pstep_len]; exact hb) (pstep_ge ha)
/-- at the loop's head: what is met, what was -/
structure MI (cs : List T3) (a : Int) (m u : List Bool) : Prop where
  lm : m.length = 4
  lu : u.length = 4
  a0 : 0 ≤ a ∧ a < 4
  hit : m.getD a.toNat false = true
  rch : ∀ k : Nat, m.getD k false = true → Rch cs a k
  from_ : u = List.replicate 4 false ∨ m = pass cs u
  ge : ∀ k : Nat, u.getD k false = true → m.getD k false = true
theorem MI.start {cs : List T3} {a : Int} (h : 0 ≤ a ∧ a < 4) : MI cs a ((List.replicate 4 false).set a.toNat true) (List.replicate 4 false) := by
  refine ⟨by simp, by simp, h, by rw [getD_set', if_pos ⟨rfl, by simp; omega⟩], fun k hk => ?_, .inl rfl, fun k hk => ?_⟩
  · rw [getD_set'] at hk
    split at hk
    · rename_i e
      rw [← e.1, show ((a.toNat : Nat) : Int) = a by omega]
      exact .refl a
    · exfalso
      rw [List.getD_eq_getElem?_getD, List.getElem?_replicate] at hk
      split at hk <;> simp at hk
  · exfalso
    rw [List.getD_eq_getElem?_getD, List.getElem?_replicate] at hk
    split at hk <;> simp at hk
/-- within a pass -/
structure MJ (cs : List T3) (a : Int) (m u : List Bool) (k : Nat) : Prop where
  eq : m = pass (cs.take k) u
  lm : m.length = 4
  rch : ∀ k : Nat, m.getD k false = true → Rch cs a k
theorem MI.go {cs : List T3} {a : Int} {m u : List Bool} (h : MI cs a m u) : MJ cs a m m 0 := ⟨by simp [pass], h.lm, h.rch⟩
theorem MJ.step {cs : List T3} (h4 : In4 cs) {a : Int} {m u : List Bool} {k : Nat} (h : MJ cs a m u k) (hk : k < cs.length) : MJ cs a (pstep m cs[k]) u (k + 1) :=
  ⟨by
    have e := h.eq
    unfold pass at e ⊢
    rw [List.take_succ_eq_append_getElem hk, List.foldl_append, ← e]
    rfl, (pstep_len _ _).trans h.lm, pstep_rch h4 h.rch (List.getElem_mem hk)⟩
theorem MJ.end_ {cs : List T3} {a : Int} {m u u0 : List Bool} (h : MJ cs a m u cs.length) (h0 : MI cs a u u0) : MI cs a m u := by
  have e := h.eq
  rw [List.take_length] at e
  exact ⟨h.lm, h0.lm, h0.a0, by rw [e]; exact pass_ge cs h0.hit, h.rch, .inr e, fun k hk => by rw [e]; exact pass_ge cs hk⟩
theorem MI.done {cs : List T3} (h4 : In4 cs) {a : Int} {m : List Bool} (h : MI cs a m m) : ∀ k : Nat, k < 4 → (m.getD k false = pathB cs 4 a k) := by
  have hp : m = pass cs m := by
    rcases h.from_ with e | e
    · have := h.hit
      rw [e, List.getD_eq_getElem?_getD, List.getElem?_replicate] at this
      split at this <;> simp at this
    · exact e
  have hc : ∀ b : Int, Rch cs a b → m.getD b.toNat false = true := by
    have gen : ∀ a b : Int, Rch cs a b → m.getD a.toNat false = true → m.getD b.toNat false = true := by
      intro a b hr
      induction hr with
      | refl a => exact fun h => h
      | head x b hx _ ih =>
        intro ha
        refine ih ?_
        rw [hp]
        obtain ⟨_, b0, b1⟩ := h4 x hx
        exact pass_closed hx ⟨b0, by rw [h.lm]; omega⟩ ha
    exact fun b hr => gen a b hr h.hit
  intro k hk
  rw [Bool.eq_iff_iff]
  constructor
  · intro hm
    exact rch_path h4 ⟨by omega, by omega⟩ (h.rch k hm)
  · intro hq
    have := hc k (pathB_rch hq)
    simpa using this
def falses (m : List Bool) : Nat := (m.filter fun b => !b).length
theorem falses_lt : ∀ {u m : List Bool}, u.length = m.length → (∀ k : Nat, u.getD k false = true → m.getD k false = true) → falses m ≤ falses u ∧ (m ≠ u → falses m < falses u)
  | [], [], _, _ => ⟨Nat.le_refl _, fun h => absurd rfl h⟩
  | [], _ :: _, h, _ => absurd h (by simp)
  | _ :: _, [], h, _ => absurd h (by simp)
  | b :: u, c :: m, hl, h => by
    obtain ⟨h1, h2⟩ := falses_lt (u := u) (m := m) (by simpa using hl) fun k hk => by
      have := h (k + 1) (by simpa using hk)
      simpa using this
    have h0 : b = true → c = true := fun e => by
      have := h 0 (by simpa using e)
      simpa using this
    unfold falses at *
    cases b <;> cases c
    · simp; exact ⟨h1, h2⟩
    · simp; omega
    · exact absurd (h0 rfl) (by decide)
    · simp; exact ⟨h1, h2⟩
/-- the loop's measure -/
def mu (m u : List Bool) : Nat := 2 * falses m + (if m = u then 0 else 1)
theorem mu_lt {cs : List T3} {a : Int} {m u m' : List Bool} (hne : m ≠ u) (h : MI cs a m' m) : mu m' m < mu m u := by
  obtain ⟨h1, h2⟩ := falses_lt (u := m) (m := m') (by rw [h.lm, h.lu]) h.ge
  unfold mu
  rw [if_neg hne]
  by_cases e : m' = m
  · rw [if_pos e]; omega
  · rw [if_neg e]
    have := h2 e
    omega
/-- the partitions that are reached -/
def reachL (t : Tab) (a : Int) : List Int := if t.right && okr a 0 ((t.parts.length : Int) - 1) then ((List.range 4).filter fun k : Nat => pathB t.chans 4 a k).map fun k : Nat => (k : Int) else []
theorem right_in4 {t : Tab} (h : t.right = true) : In4 t.chans := by
  intro x hx
  simp [Tab.right] at h
  have h1 := h.2.2.2.2.2.2 x hx
  have h2 := h.2.2.1
  simp [chanOk, okr] at h1 h2
  omega
end Go.Proofs.Ytooagoikiafgcaa.tab
