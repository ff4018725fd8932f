/-
  PROVED HERE: a map from names to ticks beside the timers: what it says, stores, look-ups, ranging over it; what is due, in order.
  CONDITIONS: each lemma names its own.
-/
import Derived.Test.YtooagoikiafgcaaTimerLaw
import Derived.Maps.RangeWalk
namespace Go.Proofs.Ytooagoikiafgcaa.timer
set_option linter.unusedVariables false
open Go.RowKit Go.WideShapes Go.Maps Go.Proofs.Ytooagoikiafgcaa.base Go.Proofs.Ytooagoikiafgcaa.obj Go.Proofs.Ytooagoikiafgcaa.mem Go.Proofs.Ytooagoikiafgcaa.sep Go.Proofs.Ytooagoikiafgcaa.plan

theorem zeroI (w : World) : (zeroValue 3).run Try.prog w = .ok (.int .i64 0) w := by kernel_rfl
def mapI (B k : Nat) (D : DataW Unit) : Asn where
  on w F := w.ownsMap Try.prog 3 (plainElem Try.prog 3) B k D ∧ ∀ i, F i ↔ i = B
  dom := fun ⟨⟨es, clock, h, _⟩, k⟩ i hi => by
    rw [(k i).1 hi]
    exact (Array.getElem?_eq_some_iff.1 h).1
  loc := fun ⟨⟨es, clock, h, r⟩, k⟩ e => ⟨⟨es, clock, (e _ ((k _).2 rfl)).trans h, r⟩, k⟩
def rng (B r k : Nat) (D : DataW Unit) (left : Lit → Bool) (cnt : Nat) : Asn where
  on w F := w.ranges Try.prog 3 (plainElem Try.prog 3) B r k D left cnt ∧ ∀ i, F i ↔ i = B ∨ i = r
  dom := fun ⟨h, k⟩ i hi => by
    rcases (k i).1 hi with rfl | rfl
    · exact h.owns.lt
    · exact h.lt
  loc := fun ⟨⟨es, clock, since, seen, c0, h1, h2, h3, h4, h5, h6⟩, k⟩ e => ⟨⟨es, clock, since, seen, c0, (e _ ((k _).2 (.inl rfl))).trans h1, h2, h3, h4, (e _ ((k _).2 (.inr rfl))).trans h5, h6⟩, k⟩
section
variable {w0 w w' : World} {l : List Asn} {B r k k' cnt cnt' : Nat} {D D' : DataW Unit} {left left' : Lit → Bool}
theorem mapI_own (h : St w0 w (mapI B k D :: l)) : w.ownsMap Try.prog 3 (plainElem Try.prog 3) B k D := by
  obtain ⟨F, ⟨F1, F2, h1, h2, h3, h4⟩, k⟩ := h.sat
  exact h1.1
theorem rng_own (h : St w0 w (rng B r k D left cnt :: l)) : w.ranges Try.prog 3 (plainElem Try.prog 3) B r k D left cnt := by
  obtain ⟨F, ⟨F1, F2, h1, h2, h3, h4⟩, k⟩ := h.sat
  exact h1.1
theorem mapI_turn (h : St w0 w (mapI B k D :: l)) (ht : w.mapTurned w' B) (ho : w'.ownsMap Try.prog 3 (plainElem Try.prog 3) B k' D') : St w0 w' (mapI B k' D' :: l) := by
  obtain ⟨F, h1, h2, h3⟩ := h.frame
  exact h3 _ _ F (Kept.of_grown ht.grown F fun i hi => by injection hi with hi; exact (h1.2 i).2 hi.symm) ⟨ho, h1.2⟩ fun i hi => .inl hi
theorem mapI_range (h : St w0 w (mapI B k D :: l)) (hr : w'.ranges Try.prog 3 (plainElem Try.prog 3) B w.heap.size k D left cnt) (hg : w.grownBy w' none) : St w0 w' (rng B w.heap.size k D left cnt :: l) := by
  obtain ⟨F, h1, h2, h3⟩ := h.frame
  exact h3 _ _ (fun i => i = B ∨ i = w.heap.size) (Kept.of_grown hg F fun i hi => by cases hi) ⟨hr, fun i => Iff.rfl⟩ fun i hi => by
    rcases hi with rfl | rfl
    · exact .inl ((h1.2 _).2 rfl)
    · exact .inr (Nat.le_refl _)
theorem rng_next (h : St w0 w (rng B r k D left cnt :: l)) (hr : w'.ranges Try.prog 3 (plainElem Try.prog 3) B r k D left' cnt') (hg : w.grownBy w' (some r)) : St w0 w' (rng B r k D left' cnt' :: l) := by
  obtain ⟨F, h1, h2, h3⟩ := h.frame
  exact h3 _ _ F (Kept.of_grown hg F fun i hi => by injection hi with hi; exact (h1.2 i).2 (.inr hi.symm)) ⟨hr, h1.2⟩ fun i hi => .inl hi
theorem rng_map (h : St w0 w (rng B r k D left cnt :: l)) : St w0 w (mapI B k D :: l) := by
  obtain ⟨F, h1, h2, h3⟩ := h.frame
  exact h3 _ _ (fun i => i = B) (Kept.refl _ _) ⟨h1.1.owns, fun i => Iff.rfl⟩ fun i hi => .inl ((h1.2 i).2 (.inl hi))
end

section
variable {w0 w w' : World} {T q : Nat} {M : List (Int × Int)} {l : List Asn}
theorem TS.front {P P' : Asn} (h : TS w0 w T q M (P :: l)) (k : ∀ L, St w0 w (P :: L) → St w0 w' (P' :: L)) : TS w0 w' T q M (P' :: l) :=
  h.side fun L hs => (k _ (hs.perm List.perm_middle)).perm List.perm_middle.symm
theorem TS.pick (h : TS w0 w T q M l) (k : Nat) {P : Asn} (hk : l[k]? = some P) : TS w0 w T q M (P :: l.eraseIdx k) :=
  h.side fun L hs => hs.perm (List.Perm.append_left L (by
    obtain ⟨hlt, e⟩ := List.getElem?_eq_some_iff.1 hk
    rw [← e, List.eraseIdx_eq_take_drop_succ]
    have h2 : l = l.take k ++ l[k] :: l.drop (k + 1) := by rw [← List.drop_eq_getElem_cons hlt, List.take_append_drop]
    conv => lhs; rw [h2]
    exact List.perm_middle))
theorem TS.drop {P : Asn} (h : TS w0 w T q M (P :: l)) : TS w0 w T q M l :=
  h.side fun L hs => (hs.perm List.perm_middle).drop
end
/-! ### what the map says -/
structure MV (M : List (Int × Int)) (D : DataW Unit) : Prop where
  has : ∀ nm, Maps.has D (key nm) = true ↔ ∃ x ∈ M, x.1 = nm
  val : ∀ x ∈ M, ∀ z, D.atKey (key x.1) z = .lit (.int .i64 x.2)
  size : Maps.size D = M.length
  nd : (M.map Prod.fst).Nodup
theorem MV.nil : MV [] (.map []) := ⟨fun nm => by simp [Maps.has_eq], fun x hx => absurd hx (by simp), by simp [Maps.size_eq], by simp⟩
theorem nd_stop {M : List (Int × Int)} (h : (M.map Prod.fst).Nodup) (nm : Int) : ((stopM M nm).map Prod.fst).Nodup := List.Nodup.sublist ((List.filter_sublist).map _) h
theorem stopM_len_has : ∀ {M : List (Int × Int)} {nm : Int}, (M.map Prod.fst).Nodup → (∃ x ∈ M, x.1 = nm) → (stopM M nm).length + 1 = M.length
  | [], _, _, h => by obtain ⟨_, h, _⟩ := h; exact absurd h (by simp)
  | x :: M, nm, hn, h => by
    rw [List.map_cons, List.nodup_cons] at hn
    by_cases e : x.1 = nm
    · have h1 : stopM (x :: M) nm = stopM M nm := by unfold stopM; rw [List.filter_cons, if_neg (by simp [e])]
      have h2 : stopM M nm = M := stopM_none fun y hy e2 => hn.1 (List.mem_map.2 ⟨y, hy, e2.trans e.symm⟩)
      rw [h1, h2]; simp
    · have h1 : stopM (x :: M) nm = x :: stopM M nm := by unfold stopM; rw [List.filter_cons, if_pos (by simp [e])]
      obtain ⟨y, hy, e2⟩ := h
      have := stopM_len_has (M := M) hn.2 ⟨y, (List.mem_cons.1 hy).resolve_left (fun e3 => e (by rw [← e3]; exact e2)), e2⟩
      rw [h1]; simp; omega
theorem MV.set {M : List (Int × Int)} {D : DataW Unit} (h : MV M D) (hD : Tidy D) (nm tk : Int) : MV (setM M nm tk) (D.put (key nm) (.lit (.int .i64 tk))) := by
  have hk : WideAt.IsKeyLit (key nm) := trivial
  refine ⟨fun n => ?_, fun x hx z => ?_, ?_, ?_⟩
  · by_cases e : n = nm
    · subst e
      exact ⟨fun _ => ⟨(n, tk), by simp [setM], rfl⟩, fun _ => has_put_same hD.isMap hk _⟩
    · rw [has_put_other (key_ne e), h.has]
      constructor
      · rintro ⟨x, hx, rfl⟩
        exact ⟨x, List.mem_cons_of_mem _ (stopM_mem.2 ⟨hx, e⟩), rfl⟩
      · rintro ⟨x, hx, rfl⟩
        rcases List.mem_cons.1 hx with rfl | hx
        · exact absurd rfl e
        · exact ⟨x, (stopM_mem.1 hx).1, rfl⟩
  · rcases List.mem_cons.1 hx with rfl | hx
    · exact atKey_put_same hD.isMap hk _ _
    · obtain ⟨h1, h2⟩ := stopM_mem.1 hx
      rw [atKey_put_other (key_ne h2)]
      exact h.val x h1 z
  · rw [size_put hD]
    unfold setM
    rw [List.length_cons]
    split
    · rename_i hh
      rw [h.size]
      exact (stopM_len_has h.nd ((h.has nm).1 hh)).symm
    · rename_i hh
      rw [h.size, stopM_none fun x hx e => hh ((h.has nm).2 ⟨x, hx, e⟩)]
  · unfold setM
    rw [List.map_cons, List.nodup_cons]
    refine ⟨fun hm => ?_, nd_stop h.nd nm⟩
    obtain ⟨x, hx, e⟩ := List.mem_map.1 hm
    exact (stopM_mem.1 hx).2 e
theorem lit_inj {a b : Int} (h : (DataW.lit (.int .i64 a) : DataW Unit) = .lit (.int .i64 b)) : a = b := by
  injection h with h
  injection h
set_option maxRecDepth 100000 in
theorem MV.look {M : List (Int × Int)} {D : DataW Unit} {w : World} {B k : Nat} (h : MV M D) (ho : w.ownsMap Try.prog 3 (plainElem Try.prog 3) B k D) {x : Int × Int} (hx : x ∈ M) (hw : (Lit.int .i64 x.1).wf = true) :
    (Instr.lookup 26 (.map (some B)) (.int .i64 x.1) true).run Try.prog w = .ok (.tuple #[.int .i64 x.2, .bool true]) w ∧ (Instr.lookup 26 (.map (some B)) (.int .i64 x.1) false).run Try.prog w = .ok (.int .i64 x.2) w := by
  have hz : plainElem Try.prog 3 (.int .i64 0) = some ((.lit (.int .i64 0) : DataW Unit), []) := plainElem_int Try.underlying3 (by decide)
  obtain ⟨v, ps, hrun, hv⟩ := ho.look_ok intKey Try.underlying26 (zeroI w) hz (keyOf_int_mk Try.underlying3 hw)
  obtain ⟨v2, hrun2, hv2, _⟩ := ho.lookup_int intKey Try.underlying26 Try.underlying3 (zeroI w) (keyOf_int_mk Try.underlying3 hw)
  have e := h.val x hx (.lit (.int .i64 0))
  have hh : Maps.has D (.int .i64 x.1) = true := (h.has x.1).2 ⟨x, hx, rfl⟩
  rw [hh] at hrun
  constructor
  · rw [show (Lit.int .i64 x.1) = key x.1 from rfl, e] at hv
    obtain ⟨c, rfl, hc, _⟩ := plainElem_int_inv Try.underlying3 hv
    have h1 := lit_inj (Prod.mk.inj hc).1
    rw [h1]; exact hrun
  · rw [show (Lit.int .i64 x.1) = key x.1 from rfl, e] at hv2
    rw [lit_inj hv2]; exact hrun2
/-- how many are due, of those that have come -/
def cnt (M : List (Int × Int)) (tick : Int) (left : Lit → Bool) : Nat := (M.filter fun x => decide (x.2 ≤ tick) && !left (key x.1)).length
theorem key_same (a b : Int) : (key a).sameKey (key b) = decide (a = b) := by
  by_cases e : a = b
  · subst e; simp [Lit.sameKey]
  · rw [Maps.sameKey_ne (key_ne e)]; simp [e]
theorem cnt_start {M : List (Int × Int)} {D : DataW Unit} (h : MV M D) (tick : Int) : cnt M tick (Maps.has D) = 0 := by
  unfold cnt
  rw [List.length_eq_zero_iff, List.filter_eq_nil_iff]
  intro x hx
  rw [(h.has x.1).2 ⟨x, hx, rfl⟩]
  simp
theorem cnt_step : ∀ {M : List (Int × Int)} {left : Lit → Bool} {tick nm tk : Int}, (M.map Prod.fst).Nodup → (nm, tk) ∈ M → left (key nm) = true →
    cnt M tick (fun z => left z && !z.sameKey (key nm)) = cnt M tick left + (if tk ≤ tick then 1 else 0)
  | [], _, _, _, _, _, h, _ => absurd h (by simp)
  | x :: M, left, tick, nm, tk, hn, h, hl => by
    rw [List.map_cons, List.nodup_cons] at hn
    by_cases e : x.1 = nm
    · have hx : x = (nm, tk) := by
        rcases List.mem_cons.1 h with h | h
        · exact h.symm
        · exact absurd (List.mem_map.2 ⟨_, h, e.symm⟩) hn.1
      subst hx
      have h2 : ∀ y ∈ M, y.1 ≠ nm := fun y hy e2 => hn.1 (List.mem_map.2 ⟨y, hy, e2⟩)
      have h3 : (M.filter fun x => decide (x.2 ≤ tick) && !(left (key x.1) && !(key x.1).sameKey (key nm))) = M.filter fun x => decide (x.2 ≤ tick) && !left (key x.1) := List.filter_congr fun y hy => by
        rw [key_same, decide_eq_false (h2 y hy)]; simp
      unfold cnt
      rw [List.filter_cons, List.filter_cons]
      simp only [hl, key_same]
      by_cases e2 : tk ≤ tick
      · simp [e2]
        rw [← h3]
        simp [key_same]
      · simp [e2]
        rw [← h3]
        simp [key_same]
    · have ih := cnt_step (M := M) (left := left) (tick := tick) hn.2 ((List.mem_cons.1 h).resolve_left fun e2 => e (by rw [← e2])) hl
      unfold cnt at ih ⊢
      rw [List.filter_cons, List.filter_cons]
      change (M.filter fun x => decide (x.2 ≤ tick) && !(left (key x.1) && !(key x.1).sameKey (key nm))).length = _ at ih
      have h4 : (left (key x.1) && !(key x.1).sameKey (key nm)) = left (key x.1) := by rw [key_same, decide_eq_false e]; simp
      simp only [h4]
      split
      · simp only [List.length_cons]; omega
      · exact ih
theorem cnt_end {M : List (Int × Int)} {left : Lit → Bool} (tick : Int) (h : ∀ z, left z = false) : cnt M tick left = (M.filter fun x => decide (x.2 ≤ tick)).length := by
  unfold cnt
  congr 1
  exact List.filter_congr fun x _ => by rw [h]; simp
/-! ### what is due, in order -/
theorem IsMin.rest {M : List (Int × Int)} {o : Int × Int} (h : IsMin M o) {x : Int × Int} (hx : x ∈ stopM M o.1) : lessP o x = true := by
  obtain ⟨h1, h2⟩ := stopM_mem.1 hx
  rcases lessP_total (a := o) (b := x) (fun e => h2 (by rw [e])) with h3 | h3
  · exact h3
  · rw [h.2 x h1] at h3; exact absurd h3 (by decide)
theorem DueR.order {tick : Int} {M M' : List (Int × Int)} {names : List Int} (h : DueR tick M names M') (hn : (M.map Prod.fst).Nodup) :
    M' = (M.filter fun x => decide (tick < x.2)) ∧ names.length = (M.filter fun x => decide (x.2 ≤ tick)).length ∧ ∃ os : List (Int × Int), names = os.map Prod.fst ∧ (∀ o ∈ os, o ∈ M ∧ o.2 ≤ tick) ∧ os.Pairwise fun a b => lessP a b = true := by
  induction h with
  | stop M h =>
    have hall : ∀ x ∈ M, tick < x.2 := fun x hx => by
      obtain ⟨o, ho⟩ := exists_min (M := M) (fun e => by rw [e] at hx; exact absurd hx (by simp))
      have h1 := h o ho
      have h2 := ho.2 x hx
      unfold lessP at h2
      split at h2
      · simp at h2; omega
      · rename_i h3; omega
    refine ⟨(List.filter_eq_self.2 fun x hx => decide_eq_true (hall x hx)).symm, ?_, [], rfl, by simp, List.Pairwise.nil⟩
    rw [List.length_nil, eq_comm, List.length_eq_zero_iff, List.filter_eq_nil_iff]
    intro x hx
    have := hall x hx
    simp; omega
  | step o M out M' ho hle r ih =>
    obtain ⟨h1, h2, os, h3, h4, h5⟩ := ih (nd_stop hn o.1)
    have hone : ∀ x ∈ M, x.1 = o.1 → x = o := by
      intro x hx e
      have hx2 : x ∉ stopM M o.1 := fun h => (stopM_mem.1 h).2 e
      by_cases ex : x = o
      · exact ex
      · exfalso
        obtain ⟨a, b, hab⟩ := List.append_of_mem ho.1
        rw [hab] at hx hn
        rw [List.map_append, List.map_cons] at hn
        have hn2 := (List.perm_middle.nodup_iff).1 hn
        rw [List.nodup_cons] at hn2
        have : x ∈ a ++ b := by
          rcases List.mem_append.1 hx with h | h
          · exact List.mem_append_left _ h
          · exact List.mem_append_right _ ((List.mem_cons.1 h).resolve_left ex)
        exact hn2.1 (by rw [← List.map_append]; exact List.mem_map.2 ⟨x, this, e⟩)
    refine ⟨?_, ?_, o :: os, by rw [List.map_cons, h3], fun x hx => ?_, List.Pairwise.cons (fun x hx => ho.rest (h4 x hx).1) h5⟩
    · rw [h1]
      unfold stopM
      rw [List.filter_filter]
      refine List.filter_congr fun x hx => ?_
      by_cases e : x.1 = o.1
      · have := hone x hx e
        subst this
        simp
        omega
      · simp [e]
    · rw [List.length_cons, h2]
      have e1 : (stopM M o.1).filter (fun x => decide (x.2 ≤ tick)) = stopM (M.filter fun x => decide (x.2 ≤ tick)) o.1 := by
        unfold stopM
        rw [List.filter_filter, List.filter_filter]
        exact List.filter_congr fun x _ => Bool.and_comm _ _
      rw [e1]
      exact stopM_len_has (hn.sublist ((List.filter_sublist).map _)) ⟨o, List.mem_filter.2 ⟨ho.1, decide_eq_true hle⟩, rfl⟩
    · rcases List.mem_cons.1 hx with rfl | hx
      · exact ⟨ho.1, hle⟩
      · exact ⟨(stopM_mem.1 (h4 x hx).1).1, (h4 x hx).2⟩
end Go.Proofs.Ytooagoikiafgcaa.timer
