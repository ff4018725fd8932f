/-
  PROVED HERE: a region that draws its order, run piece by piece: what leaves the world alone, and then one call that alone may come next, and so on.
  CONDITIONS: the closed checks 'takeB', 'oneB'.
-/
import Derived.Test.YtfglnaimpjkcfaaDoorPlan
namespace Go.Proofs.YtfglnaimpjkcfaaDoor.plan
set_option linter.unusedVariables false
open Go.RowKit

section
variable {P : Program} {Q : Exit → Act → World → Prop} {md : Region.Mode} {w : World} {l : List Oper} {a : Act}
/-- the region's start -/
theorem segs_start {id : Nat} (hm : P.follows .mixedOrders = true) (h : wpAny P .any l.toArray Q l.toArray.size (Array.replicate l.toArray.size false) a w.drew) : (Code.region id l.toArray true).wp P Q a w := wp_region_any hm h
def closedB (md : Region.Mode) (ops : Array Oper) (listed : Array Bool) : Bool :=
  (List.range ops.size).all fun j => !listed.getD j false || (match ops[j]? with | some oj => oj.after.all fun e => !Region.binds md e || listed.getD e.on false | none => true)
theorem closed_of {ops : Array Oper} {listed : Array Bool} (h : closedB md ops listed = true) : Closed md ops listed := by
  intro j oj hj hl e he hb
  have hjl : j < ops.size := (Array.getElem?_eq_some_iff.1 hj).1
  have h1 := List.all_eq_true.1 h j (List.mem_range.2 hjl)
  rw [hl, hj] at h1
  simp only [Bool.not_true, Bool.false_or] at h1
  obtain ⟨k, hk, e2⟩ := Array.mem_iff_getElem.1 he
  have h2 := (Array.all_eq_true.1 h1) k hk
  rw [e2, hb] at h2
  simpa using h2
/-- the closed check of a piece: each may come up, and may be taken first -/
def headsB (P : Program) (md : Region.Mode) (ops : Array Oper) : List Nat → Array Bool → Bool
  | [], _ => true
  | i :: r, listed => (Region.ready md ops listed).contains i && Region.free md ops listed i && (match ops[i]? with
      | some oi => indepB P oi || (waitB md ops i (waitSet md ops i) && (List.range ops.size).all fun j => j == i || listed.getD j true || (waitSet md ops i).getD j false || (match ops[j]? with
        | some oj => calmB P oj
        | none => true))
      | none => false) && headsB P md ops r (listed.setIfInBounds i true)
def heard : List Nat → Array Bool → Array Bool
  | [], listed => listed
  | i :: r, listed => heard r (listed.setIfInBounds i true)
theorem wpAny_heads {n : Nat} (hsel : Region.noSelect l.toArray = true) (hQ : ∀ c a d v w, Q (.panic c) (Act.put a (some d) v) w → Q (.panic c) a w) :
    ∀ (hd : List Nat) (listed : Array Bool) (a : Act), Closed md l.toArray listed → headsB P md l.toArray hd listed = true →
    wpStill P l.toArray w (fun a' => wpAny P md l.toArray Q n (heard hd listed) a' w) (pick l hd) a → wpAny P md l.toArray Q (hd.length + n) listed a w
  | [], listed, a, _, hB, h => by
    rw [List.length_nil, Nat.zero_add]
    exact h
  | i :: r, listed, a, hc, hB, h => by
    simp only [headsB, Bool.and_eq_true] at hB
    obtain ⟨⟨⟨hr, hf⟩, hk⟩, hB⟩ := hB
    have hr' : i ∈ Region.ready md l.toArray listed := by simpa using hr
    cases hoi : l.toArray[i]? with
    | none => rw [hoi] at hk; cases hk
    | some oi =>
      have hget : (l[i]?).getD default = oi := by
        have : l[i]? = some oi := by simpa using hoi
        rw [this]; rfl
      have h' : stOp P l.toArray w i (wpStill P l.toArray w (fun a' => wpAny P md l.toArray Q n (heard r (listed.setIfInBounds i true)) a' w) (pick l r)) a := by
        unfold stOp
        simp only [hoi]
        simp only [pick, hget] at h
        exact h
      obtain ⟨v, hy, hn⟩ := yieldsAt_of_stOp hoi h'
      have ih := wpAny_heads (n := n) hsel hQ r _ _ (hc.set hr') hB hn
      rw [List.length_cons, show r.length + 1 + n = (r.length + n) + 1 by omega]
      rw [hoi] at hk
      simp only [Bool.or_eq_true, Bool.and_eq_true] at hk
      rcases hk with hk | ⟨hW, hk⟩
      · refine wpAny_take hoi hsel hf hr (fun c a w h => put_some hQ c a _ _ w h) ?_ ih
        rcases hy with ⟨hw, hv | ⟨hv, rfl⟩ | ⟨f, args, hv, hcl⟩⟩ | ⟨hw, rfl⟩
        · exact .inl ⟨hw, (indep_op hk _ _ _ _ hv).2⟩
        · obtain ⟨u, hu⟩ := calm_kind (by unfold calmB; split; exact rfl; exact hk) _ _ _ _ hv
          cases hu
        · obtain ⟨u, hu⟩ := calm_kind (by unfold calmB; split; exact rfl; exact hk) _ _ _ _ hv
          cases hu
        · exact .inr ⟨hw, rfl⟩
      · refine wpAny_calm hoi (Region.noSelect_spec hsel) (fun c a w h => put_some hQ c a _ _ w h) hW _ listed a hc (Region.free_spec hoi hf) (fun j oj hj hji hun => ?_) hr' hy ih
        have hjl : j < l.toArray.size := (Array.getElem?_eq_some_iff.1 hj).1
        have h1 := List.all_eq_true.1 hk j (List.mem_range.2 hjl)
        simp only [Bool.or_eq_true, beq_iff_eq, hji, false_or, hun, Bool.false_eq_true, hj] at h1
        exact h1
def takeB (P : Program) (md : Region.Mode) (ops : Array Oper) (hd : List Nat) (listed : Array Bool) (N : Nat) : Bool :=
  Region.noSelect ops && closedB md ops listed && decide (hd.length ≤ N) && headsB P md ops hd listed
/-- a piece that leaves the world alone -/
theorem segs_take {N : Nat} {listed : Array Bool} (hd : List Nat) (hB : takeB P md l.toArray hd listed N = true) (hQ : ∀ c a d v w, Q (.panic c) (Act.put a (some d) v) w → Q (.panic c) a w)
    (h : wpStill P l.toArray w (fun a' => wpAny P md l.toArray Q (N - hd.length) (heard hd listed) a' w) (pick l hd) a) : wpAny P md l.toArray Q N listed a w := by
  simp only [takeB, Bool.and_eq_true, decide_eq_true_eq] at hB
  obtain ⟨⟨⟨hsel, hc⟩, hn⟩, hB⟩ := hB
  have := wpAny_heads (n := N - hd.length) hsel hQ hd listed a (closed_of hc) hB h
  rwa [show hd.length + (N - hd.length) = N by omega] at this
def oneB (md : Region.Mode) (ops : Array Oper) (i : Nat) (listed : Array Bool) (N : Nat) : Bool := decide (0 < N) && decide (i < ops.size) && decide (Region.ready md ops listed = [i])
/-- one operation that alone may come next, and is wanted -/
theorem segs_one {N : Nat} {listed : Array Bool} (i : Nat) (hB : oneB md l.toArray i listed N = true) (hw : Region.wanted ((l[i]?).getD default) (yielded l.toArray a.tmps) = true)
    (h : Oper.wp P ((l[i]?).getD default) a w (wpAny P md l.toArray Q (N - 1) (listed.setIfInBounds i true)) Q) : wpAny P md l.toArray Q N listed a w := by
  simp only [oneB, Bool.and_eq_true, decide_eq_true_eq] at hB
  obtain ⟨⟨hN, hi⟩, hr⟩ := hB
  obtain ⟨n, rfl⟩ : ∃ n, N = n + 1 := ⟨N - 1, by omega⟩
  have h0 : l.toArray[i]? = some ((l[i]?).getD default) := by simp [List.getElem?_eq_getElem (show i < l.length by simpa using hi)]
  refine ⟨fun h1 => (by rw [hr] at h1; cases h1), fun j hj => ?_⟩
  rw [hr] at hj
  have hji : j = i := by simpa using hj
  subst hji
  unfold wpOp
  simp only [h0]
  rw [if_pos hw]
  exact .inl h
/-- one operation that alone may come next, and is not wanted -/
theorem segs_skip {N : Nat} {listed : Array Bool} (i : Nat) (hB : oneB md l.toArray i listed N = true) (hw : Region.wanted ((l[i]?).getD default) (yielded l.toArray a.tmps) = false)
    (h : wpAny P md l.toArray Q (N - 1) (listed.setIfInBounds i true) (a.put ((l[i]?).getD default).dst undef) w) : wpAny P md l.toArray Q N listed a w := by
  simp only [oneB, Bool.and_eq_true, decide_eq_true_eq] at hB
  obtain ⟨⟨hN, hi⟩, hr⟩ := hB
  obtain ⟨n, rfl⟩ : ∃ n, N = n + 1 := ⟨N - 1, by omega⟩
  have h0 : l.toArray[i]? = some ((l[i]?).getD default) := by simp [List.getElem?_eq_getElem (show i < l.length by simpa using hi)]
  refine ⟨fun h1 => (by rw [hr] at h1; cases h1), fun j hj => ?_⟩
  rw [hr] at hj
  have hji : j = i := by simpa using hj
  subst hji
  unfold wpOp
  simp only [h0]
  rw [if_neg (by rw [hw]; decide)]
  exact h
def freeB (md : Region.Mode) (ops : Array Oper) (i : Nat) (listed : Array Bool) (N : Nat) : Bool := Region.noSelect ops && decide (0 < N) && decide (i < ops.size) && Region.free md ops listed i && (Region.ready md ops listed).contains i
/-- one of those that may come next, which only reckons: now -/
theorem segs_pure {N : Nat} {listed : Array Bool} (i : Nat) (v : Value) (hB : freeB md l.toArray i listed N = true) (hQ : ∀ c a d v w, Q (.panic c) (Act.put a (some d) v) w → Q (.panic c) a w)
    (hw : Region.wanted ((l[i]?).getD default) (yielded l.toArray a.tmps) = true) (hv : ∀ w2, (execOp a.eval ((l[i]?).getD default)).run P w2 = .ok (.value v) w2)
    (h : wpAny P md l.toArray Q (N - 1) (listed.setIfInBounds i true) (a.put ((l[i]?).getD default).dst v) w) : wpAny P md l.toArray Q N listed a w := by
  simp only [freeB, Bool.and_eq_true, decide_eq_true_eq] at hB
  obtain ⟨⟨⟨⟨hsel, hN⟩, hi⟩, hf⟩, hr⟩ := hB
  obtain ⟨n, rfl⟩ : ∃ n, N = n + 1 := ⟨N - 1, by omega⟩
  have h0 : l.toArray[i]? = some ((l[i]?).getD default) := by simp [List.getElem?_eq_getElem (show i < l.length by simpa using hi)]
  exact wpAny_take h0 hsel hf hr (fun c a w h => put_some hQ c a _ _ w h) (.inl ⟨hw, fun w2 => hv w2⟩) h
def twoB (md : Region.Mode) (ops : Array Oper) (i j : Nat) (listed : Array Bool) (N : Nat) : Bool := decide (0 < N) && decide (i < ops.size) && decide (j < ops.size) && decide (Region.ready md ops listed = [i, j])
/-- two operations of which either may come next -/
theorem segs_two {N : Nat} {listed : Array Bool} (i j : Nat) (hB : twoB md l.toArray i j listed N = true)
    (hi : Region.wanted ((l[i]?).getD default) (yielded l.toArray a.tmps) = true) (hj : Region.wanted ((l[j]?).getD default) (yielded l.toArray a.tmps) = true)
    (h1 : Oper.wp P ((l[i]?).getD default) a w (wpAny P md l.toArray Q (N - 1) (listed.setIfInBounds i true)) Q)
    (h2 : Oper.wp P ((l[j]?).getD default) a w (wpAny P md l.toArray Q (N - 1) (listed.setIfInBounds j true)) Q) : wpAny P md l.toArray Q N listed a w := by
  simp only [twoB, Bool.and_eq_true, decide_eq_true_eq] at hB
  obtain ⟨⟨⟨hN, hil⟩, hjl⟩, hr⟩ := hB
  obtain ⟨n, rfl⟩ : ∃ n, N = n + 1 := ⟨N - 1, by omega⟩
  have g : ∀ k, k < l.toArray.size → l.toArray[k]? = some ((l[k]?).getD default) := fun k hk => by simp [List.getElem?_eq_getElem (show k < l.length by simpa using hk)]
  refine ⟨fun h1 => (by rw [hr] at h1; cases h1), fun k hk => ?_⟩
  rw [hr] at hk
  unfold wpOp
  rcases List.mem_cons.1 hk with rfl | hk
  · simp only [g _ hil]
    rw [if_pos hi]
    exact .inl h1
  · have hkj : k = j := by simpa using hk
    subst hkj
    simp only [g _ hjl]
    rw [if_pos hj]
    exact .inl h2
/-- the end -/
theorem segs_end {N : Nat} {listed : Array Bool} {ops : Array Oper} (hr : (Region.ready md ops listed).isEmpty = true) (h : Q .normal a w) : wpAny P md ops Q N listed a w := wpAny_done (by simpa using hr) h N
end
end Go.Proofs.YtfglnaimpjkcfaaDoor.plan
