/-
  PROVED HERE: assertions on blocks that are apart from one another, and what steps and calls do to a list of them: 'St w0 w l'.
  CONDITIONS: each lemma names its own.
-/
import Derived.Test.YtfglnaimpjkcfaaDoorMem
namespace Go.Proofs.YtfglnaimpjkcfaaDoor.sep
set_option linter.unusedVariables false
open Go.RowKit Go.Proofs.YtfglnaimpjkcfaaDoor.base Go.Proofs.YtfglnaimpjkcfaaDoor.obj Go.Proofs.YtfglnaimpjkcfaaDoor.mem

/-- an assertion on a world, and the blocks that it is on -/
structure Asn where
  on : World → (Nat → Prop) → Prop
  dom : ∀ {w : World} {F : Nat → Prop}, on w F → ∀ i, F i → i < w.heap.size
  loc : ∀ {w w' : World} {F : Nat → Prop}, on w F → (∀ i, F i → w'.heap[i]? = w.heap[i]?) → on w' F

theorem dom_of {w w' : World} {i : Nat} (h : i < w.heap.size) (e : w'.heap[i]? = w.heap[i]?) : i < w'.heap.size := by
  rw [Array.getElem?_eq_getElem h] at e
  exact (Array.getElem?_eq_some_iff.1 e).1

/-- all of a list, each on blocks of its own -/
def all : List Asn → World → (Nat → Prop) → Prop
  | [], _, F => ∀ i, ¬ F i
  | P :: l, w, F => ∃ F1 F2 : Nat → Prop, P.on w F1 ∧ all l w F2 ∧ (∀ i, F i ↔ F1 i ∨ F2 i) ∧ ∀ i, F1 i → ¬ F2 i

theorem all_dom : ∀ {l : List Asn} {w : World} {F : Nat → Prop}, all l w F → ∀ i, F i → i < w.heap.size
  | [], _, _, h, i, hi => absurd hi (h i)
  | P :: l, w, F, h, i, hi => by
    obtain ⟨F1, F2, h1, h2, h3, _⟩ := h
    rcases (h3 i).1 hi with h | h
    · exact P.dom h1 i h
    · exact all_dom h2 i h
theorem all_loc : ∀ {l : List Asn} {w w' : World} {F : Nat → Prop}, all l w F → (∀ i, F i → w'.heap[i]? = w.heap[i]?) → all l w' F
  | [], _, _, _, h, _ => h
  | P :: l, w, w', F, h, k => by
    obtain ⟨F1, F2, h1, h2, h3, h4⟩ := h
    exact ⟨F1, F2, P.loc h1 fun i hi => k i ((h3 i).2 (.inl hi)), all_loc h2 fun i hi => k i ((h3 i).2 (.inr hi)), h3, h4⟩
theorem all_iff : ∀ {l : List Asn} {w : World} {F F' : Nat → Prop}, all l w F → (∀ i, F' i ↔ F i) → all l w F'
  | [], _, _, _, h, k => fun i hi => h i ((k i).1 hi)
  | P :: l, w, F, F', h, k => by
    obtain ⟨F1, F2, h1, h2, h3, h4⟩ := h
    exact ⟨F1, F2, h1, h2, fun i => (k i).trans (h3 i), h4⟩
theorem all_perm {l l' : List Asn} (p : l.Perm l') {w : World} : ∀ {F : Nat → Prop}, all l w F → all l' w F := by
  induction p with
  | nil => exact fun h => h
  | cons P _ ih =>
    rintro F ⟨F1, F2, h1, h2, h3, h4⟩
    exact ⟨F1, F2, h1, ih h2, h3, h4⟩
  | swap P Q l =>
    rintro F ⟨F1, F2, h1, ⟨F3, F4, h5, h6, h7, h8⟩, h3, h4⟩
    refine ⟨F3, fun i => F1 i ∨ F4 i, h5, ⟨F1, F4, h1, h6, fun i => Iff.rfl, fun i hi h => h4 i hi ((h7 i).2 (.inr h))⟩, fun i => ?_, fun i hi h => ?_⟩
    · rw [h3 i, h7 i]
      constructor
      · rintro (h | h | h)
        · exact .inr (.inl h)
        · exact .inl h
        · exact .inr (.inr h)
      · rintro (h | h | h)
        · exact .inr (.inl h)
        · exact .inl h
        · exact .inr (.inr h)
    · rcases h with h | h
      · exact h4 i h ((h7 i).2 (.inl hi))
      · exact h8 i hi h
  | trans _ _ ih1 ih2 => exact fun h => ih2 (ih1 h)
theorem all_append : ∀ {l l' : List Asn} {w : World} {F : Nat → Prop}, all (l ++ l') w F ↔ ∃ F1 F2 : Nat → Prop, all l w F1 ∧ all l' w F2 ∧ (∀ i, F i ↔ F1 i ∨ F2 i) ∧ ∀ i, F1 i → ¬ F2 i
  | [], l', w, F => by
    constructor
    · intro h
      exact ⟨fun _ => False, F, fun i hi => hi, h, fun i => by simp, fun i hi => hi.elim⟩
    · rintro ⟨F1, F2, h1, h2, h3, _⟩
      refine all_iff h2 fun i => ?_
      rw [h3 i]
      exact ⟨fun h => h.elim (fun h => absurd h (h1 i)) id, .inr⟩
  | P :: l, l', w, F => by
    constructor
    · rintro ⟨F1, F2, h1, h2, h3, h4⟩
      obtain ⟨F3, F4, h5, h6, h7, h8⟩ := all_append.1 h2
      refine ⟨fun i => F1 i ∨ F3 i, F4, ⟨F1, F3, h1, h5, fun i => Iff.rfl, fun i hi h => h4 i hi ((h7 i).2 (.inl h))⟩, h6, fun i => by rw [h3 i, h7 i, or_assoc], fun i hi h => ?_⟩
      rcases hi with hi | hi
      · exact h4 i hi ((h7 i).2 (.inr h))
      · exact h8 i hi h
    · rintro ⟨F1, F2, ⟨F3, F4, h1, h2, h3, h4⟩, h5, h6, h7⟩
      refine ⟨F3, fun i => F4 i ∨ F2 i, h1, all_append.2 ⟨F4, F2, h2, h5, fun i => Iff.rfl, fun i hi h => h7 i ((h3 i).2 (.inr hi)) h⟩, fun i => by rw [h6 i, h3 i, or_assoc], fun i hi h => ?_⟩
      rcases h with h | h
      · exact h4 i hi h
      · exact h7 i ((h3 i).2 (.inl hi)) h

/-! ### the assertions -/
/-- a block that is known whole -/
def row (g : Nat) (t : TypeId) (xs : List Value) : Asn where
  on w F := Row w g t xs ∧ ∀ i, F i ↔ i = g
  dom := fun ⟨h, k⟩ i hi => by rw [(k i).1 hi]; exact h.lt
  loc := fun ⟨h, k⟩ e => ⟨(e g ((k g).2 rfl)).trans h, k⟩
/-- a row of one's own -/
def own (e : TypeId) (size : Nat) (v : Value) (n : Nat) (xs : List Value) : Asn where
  on w F := w.ownsRow 0 e size v n xs ∧ ∀ i, F i ↔ v.ownBlock = some i
  dom := fun ⟨h, k⟩ i hi => (h.lt i ((k i).1 hi)).2
  loc := fun {w w' F} ⟨h, k⟩ e => by
    refine ⟨⟨h.1, ?_⟩, k⟩
    rcases h.2 with hz | ⟨g, cap, cur, rfl, hb, hg, rest⟩
    · exact .inl hz
    · exact .inr ⟨g, cap, cur, rfl, hb, (e g ((k g).2 rfl)).trans hg, rest⟩
/-- a list as one -/
def lst (l : List Asn) : Asn where
  on := all l
  dom := all_dom
  loc := all_loc
/-- a fact -/
def fact (p : Prop) : Asn where
  on _ F := p ∧ ∀ i, ¬ F i
  dom := fun ⟨_, k⟩ i hi => absurd hi (k i)
  loc := fun h _ => h
/-- of some x -/
def some_ {α : Type} (P : α → Asn) : Asn where
  on w F := ∃ x, (P x).on w F
  dom := fun ⟨x, h⟩ => (P x).dom h
  loc := fun ⟨x, h⟩ e => ⟨x, (P x).loc h e⟩

/-! ### a state: what was there at w0 is as it was; behind it the list -/
structure St (w0 w : World) (l : List Asn) : Prop where
  bel : Below w0.heap.size w0 w
  sat : ∃ F, all l w F ∧ ∀ i, F i → w0.heap.size ≤ i

section
variable {w0 w w' : World} {l l' : List Asn} {P Q : Asn}
theorem St.nil (w : World) : St w w [] := ⟨Below.refl _ _, fun _ => False, fun i hi => hi, fun i hi => hi.elim⟩
theorem St.perm (h : St w0 w l) (p : l.Perm l') : St w0 w l' := by
  obtain ⟨F, h1, h2⟩ := h.sat
  exact ⟨h.bel, F, all_perm p h1, h2⟩
/-- number k to the front -/
theorem St.pick (h : St w0 w l) (k : Nat) (hk : l[k]? = some P) : St w0 w (P :: l.eraseIdx k) := by
  refine h.perm ?_
  obtain ⟨hlt, e⟩ := List.getElem?_eq_some_iff.1 hk
  rw [← e, List.eraseIdx_eq_take_drop_succ]
  have h2 : l = l.take k ++ l[k] :: l.drop (k + 1) := by rw [← List.drop_eq_getElem_cons hlt, List.take_append_drop]
  conv => lhs; rw [h2]
  exact List.perm_middle
theorem St.swap (h : St w0 w (P :: Q :: l)) : St w0 w (Q :: P :: l) := h.perm (List.Perm.swap _ _ _)
theorem St.drop (h : St w0 w (P :: l)) : St w0 w l := by
  obtain ⟨F, ⟨F1, F2, h1, h2, h3, h4⟩, k⟩ := h.sat
  exact ⟨h.bel, F2, h2, fun i hi => k i ((h3 i).2 (.inr hi))⟩
/-- the first n -/
theorem St.take (h : St w0 w l) (n : Nat) : St w0 w (l.take n) := by
  obtain ⟨F, h1, k⟩ := h.sat
  rw [← List.take_append_drop n l] at h1
  obtain ⟨F1, F2, h1, h2, h3, h4⟩ := all_append.1 h1
  exact ⟨h.bel, F1, h1, fun i hi => k i ((h3 i).2 (.inl hi))⟩
/-- what leaves all that is there -/
theorem St.below (h : St w0 w l) (k : Below w.heap.size w w') : St w0 w' l := by
  obtain ⟨F, h1, h2⟩ := h.sat
  exact ⟨h.bel.trans (k.mono h.bel.size), F, all_loc h1 fun i hi => k.block i (all_dom h1 i hi), h2⟩
theorem St.drew (h : St w0 w l) : St w0 w.drew l := h.below (Below.refl _ _).drew
theorem St.drewN (h : St w0 w l) (n : Nat) : St w0 (w.drewN n) l := h.below (below_drewN (Below.refl _ _) n)
/-- the first one's blocks, and how it is laid anew -/
theorem St.frame (h : St w0 w (P :: l)) : ∃ F, P.on w F ∧ (∀ i, F i → w0.heap.size ≤ i) ∧ ∀ (w' : World) (Q : Asn) (F' : Nat → Prop), Kept F w w' → Q.on w' F' → (∀ i, F' i → F i ∨ w.heap.size ≤ i) → St w0 w' (Q :: l) := by
  obtain ⟨F, ⟨F1, F2, h1, h2, h3, h4⟩, k⟩ := h.sat
  refine ⟨F1, h1, fun i hi => k i ((h3 i).2 (.inl hi)), fun w' Q F' hk hq hF => ?_⟩
  have hd := all_dom h2
  refine ⟨h.bel.trans (hk.below h.bel.size fun i hi h => by have := k i ((h3 i).2 (.inl h)); omega), fun i => F' i ∨ F2 i, ⟨F', F2, hq, all_loc h2 fun i hi => hk.block i (hd i hi) fun h => h4 i h hi, fun i => Iff.rfl, fun i hi h => ?_⟩, fun i hi => ?_⟩
  · rcases hF i hi with h' | h'
    · exact h4 i h' h
    · have := hd i h; omega
  · rcases hi with hi | hi
    · rcases hF i hi with h' | h'
      · exact k i ((h3 i).2 (.inl h'))
      · exact Nat.le_trans h.bel.size h'
    · exact k i ((h3 i).2 (.inr hi))
/-- another word for the first one -/
theorem St.conv (h : St w0 w (P :: l)) (hq : ∀ w F, P.on w F → Q.on w F) : St w0 w (Q :: l) := by
  obtain ⟨F, ⟨F1, F2, h1, h2, h3, h4⟩, k⟩ := h.sat
  exact ⟨h.bel, F, ⟨F1, F2, hq _ _ h1, h2, h3, h4⟩, k⟩
/-- something new, behind what leaves all that is there -/
theorem St.add (h : St w0 w l) (k : Below w.heap.size w w') {F : Nat → Prop} (hq : Q.on w' F) (hF : ∀ i, F i → w.heap.size ≤ i) : St w0 w' (Q :: l) := by
  obtain ⟨F2, h1, h2⟩ := h.sat
  have hd := all_dom h1
  refine ⟨h.bel.trans (k.mono h.bel.size), fun i => F i ∨ F2 i, ⟨F, F2, hq, all_loc h1 fun i hi => k.block i (hd i hi), fun i => Iff.rfl, fun i hi h => ?_⟩, fun i hi => ?_⟩
  · have := hF i hi; have := hd i h; omega
  · rcases hi with hi | hi
    · exact Nat.le_trans h.bel.size (hF i hi)
    · exact h2 i hi
theorem St.new (h : St w0 w l) (t : TypeId) (cs : Array Value) : St w0 (w.alloc (.cells cs t)) (row w.heap.size t cs.toList :: l) :=
  h.add ((Below.refl _ _).alloc (Nat.le_refl _) _) (F := fun i => i = w.heap.size) ⟨Row.new w t cs, fun i => Iff.rfl⟩ fun i hi => by rw [hi]; exact Nat.le_refl _
theorem St.addRow (h : St w0 w l) (k : Below w.heap.size w w') {g : Nat} {t : TypeId} {xs : List Value} (hr : Row w' g t xs) (hg : w.heap.size ≤ g) : St w0 w' (row g t xs :: l) :=
  h.add k (F := fun i => i = g) ⟨hr, fun i => Iff.rfl⟩ fun i hi => by rw [hi]; exact hg
theorem St.addOwn (h : St w0 w l) (k : Below w.heap.size w w') {e : TypeId} {size n : Nat} {v : Value} {xs : List Value} (hr : w'.ownsRow w.heap.size e size v n xs) : St w0 w' (own e size v n xs :: l) :=
  h.add k (F := fun i => v.ownBlock = some i) ⟨hr.mono (Nat.zero_le _), fun i => Iff.rfl⟩ fun i hi => (hr.lt i hi).1
/-- facts -/
theorem St.fact {p : Prop} (h : St w0 w (fact p :: l)) : p := by
  obtain ⟨F, ⟨F1, F2, h1, h2, h3, h4⟩, k⟩ := h.sat
  exact h1.1
theorem St.addFact {p : Prop} (h : St w0 w l) (hp : p) : St w0 w (sep.fact p :: l) :=
  h.add (Below.refl _ _) (F := fun _ => False) ⟨hp, fun i hi => hi⟩ fun i hi => hi.elim
theorem St.ex {α : Type} {R : α → Asn} (h : St w0 w (some_ R :: l)) : ∃ x, St w0 w (R x :: l) := by
  obtain ⟨F, ⟨F1, F2, ⟨x, h1⟩, h2, h3, h4⟩, k⟩ := h.sat
  exact ⟨x, h.bel, F, ⟨F1, F2, h1, h2, h3, h4⟩, k⟩
theorem St.toEx {α : Type} {R : α → Asn} (x : α) (h : St w0 w (R x :: l)) : St w0 w (some_ R :: l) := h.conv fun _ _ hq => ⟨x, hq⟩
theorem St.unlst {L : List Asn} (h : St w0 w (lst L :: l)) : St w0 w (L ++ l) := by
  obtain ⟨F, ⟨F1, F2, h1, h2, h3, h4⟩, k⟩ := h.sat
  exact ⟨h.bel, F, all_append.2 ⟨F1, F2, h1, h2, h3, h4⟩, k⟩
theorem St.tolst {L : List Asn} (h : St w0 w (L ++ l)) : St w0 w (lst L :: l) := by
  obtain ⟨F, h1, k⟩ := h.sat
  obtain ⟨F1, F2, h1, h2, h3, h4⟩ := all_append.1 h1
  exact ⟨h.bel, F, ⟨F1, F2, h1, h2, h3, h4⟩, k⟩
/-- a row -/
theorem St.row {g : Nat} {t : TypeId} {xs : List Value} (h : St w0 w (row g t xs :: l)) : Row w g t xs ∧ w0.heap.size ≤ g := by
  obtain ⟨F, ⟨F1, F2, h1, h2, h3, h4⟩, k⟩ := h.sat
  exact ⟨h1.1, k g ((h3 g).2 (.inl ((h1.2 g).2 rfl)))⟩
theorem St.set {g : Nat} {t : TypeId} {xs : List Value} (h : St w0 w (sep.row g t xs :: l)) (k : Nat) (v : Value) : St w0 (w.setCell ⟨g, k, none⟩ v) (sep.row g t (xs.set k v) :: l) := by
  obtain ⟨F, h1, h2, h3⟩ := h.frame
  refine h3 _ _ F ((Kept.refl F w).setCell (p := ⟨g, k, none⟩) (.inl ((h1.2 g).2 rfl)) v) ⟨h1.1.setCell k v, h1.2⟩ fun i hi => .inl hi
theorem St.setRow {g : Nat} {t : TypeId} {xs : List Value} (h : St w0 w (sep.row g t xs :: l)) (cs : List Value) : St w0 (w.setRow g cs.toArray) (sep.row g t cs :: l) := by
  obtain ⟨F, h1, h2, h3⟩ := h.frame
  refine h3 _ _ F (kept_setRow (Kept.refl F w) (.inl ((h1.2 g).2 rfl)) _) ⟨h1.1.setRow cs, h1.2⟩ fun i hi => .inl hi
theorem St.ne {g g' : Nat} {t t' : TypeId} {xs ys : List Value} (h : St w0 w (sep.row g t xs :: sep.row g' t' ys :: l)) : g ≠ g' := by
  obtain ⟨F, ⟨F1, F2, h1, ⟨F3, F4, h5, h6, h7, h8⟩, h3, h4⟩, k⟩ := h.sat
  rintro rfl
  exact h4 g ((h1.2 g).2 rfl) ((h7 g).2 (.inl ((h5.2 g).2 rfl)))
/-- a row of one's own -/
theorem St.own {e : TypeId} {size n : Nat} {v : Value} {xs : List Value} (h : St w0 w (own e size v n xs :: l)) : w.ownsRow w0.heap.size e size v n xs := by
  obtain ⟨F, ⟨F1, F2, h1, h2, h3, h4⟩, k⟩ := h.sat
  refine ⟨h1.1.1, ?_⟩
  rcases h1.1.2 with hz | ⟨g, cap, cur, rfl, hb, rest⟩
  · exact .inl hz
  · exact .inr ⟨g, cap, cur, rfl, k g ((h3 g).2 (.inl ((h1.2 g).2 rfl))), rest⟩
theorem St.grown {e : TypeId} {size n n' : Nat} {v v' : Value} {xs xs' : List Value} (h : St w0 w (sep.own e size v n xs :: l)) (hg : w.grownBy w' v.ownBlock) {base : Nat} (ho : w'.ownsRow base e size v' n' xs') (hv : ∀ g, v'.ownBlock = some g → v.ownBlock = some g ∨ w.heap.size ≤ g) : St w0 w' (sep.own e size v' n' xs' :: l) := by
  obtain ⟨F, h1, h2, h3⟩ := h.frame
  refine h3 _ _ (fun i => v'.ownBlock = some i) (Kept.of_grown hg F fun k hk => (h1.2 k).2 hk) ⟨ho.mono (Nat.zero_le _), fun i => Iff.rfl⟩ fun i hi => ?_
  rcases hv i hi with h | h
  · exact .inl ((h1.2 i).2 h)
  · exact .inr h
theorem St.new_row_own {g : Nat} {e : TypeId} {xs : List Value} {size n cap : Nat} (h : St w0 w (sep.row g e xs :: l)) (hn : n ≤ cap) (hc : cap ≤ maxLen) (hl : xs.length = cap * size) : St w0 w (sep.own e size (.slice (some ⟨g, 0, none⟩) n cap) n (xs.take (n * size)) :: l) :=
  h.conv fun w F ⟨hr, k⟩ => ⟨hr.own (Nat.zero_le _) hn hc hl, fun i => by rw [k i]; simp [Value.ownBlock, eq_comm]⟩
theorem St.to_below (h : St w0 w l) : Below w0.heap.size w0 w := h.bel
end
end Go.Proofs.YtfglnaimpjkcfaaDoor.sep
