/-
  PROVED HERE: a region in which one operation stands behind the other: a part that only reads, one operation, and the rest of a chain of '&&' that has failed.
  CONDITIONS: each lemma names its own.
-/
import Derived.Test.YtfglnaimpjkcfaaDoorBase
import Derived.Still
namespace Go.Proofs.YtfglnaimpjkcfaaDoor.chain
set_option linter.unusedVariables false
open Go.RowKit
section
variable {P : Program} {ops : Array Oper} {Q : Exit → Act → World → Prop} {w : World}

theorem list_still : ∀ (l rest : List Oper) (a : Act), wpStill P ops w (fun a' => wpList P ops Q rest a' w) l a → wpList P ops Q (l ++ rest) a w
  | [], rest, a, h => h
  | o :: l, rest, a, h => by
    rw [List.cons_append]
    unfold wpStill at h
    unfold wpList
    split at h
    · rename_i hw
      rw [if_pos hw]
      refine .inl ?_
      unfold Oper.still at h
      unfold Oper.wp
      revert h
      generalize (execOp a.eval o).run P w = r
      intro h
      unfold Oper.stillUpon at h
      unfold Oper.upon
      split at h
      · obtain ⟨he, h⟩ := h
        rw [he]
        exact list_still l rest _ h
      · obtain ⟨he, h⟩ := h
        rw [he]
        exact list_still l rest _ h
      · obtain ⟨he, v, hc, h⟩ := h
        rw [he]
        refine hc.mono ?_
        rintro e w2 ⟨rfl, he2⟩
        rw [he2]
        exact list_still l rest _ h
      · exact h.elim
    · rename_i hw
      rw [if_neg hw]
      exact list_still l rest _ h
/-- the first n only read -/
theorem list_take {l : List Oper} {a : Act} (n : Nat) (h : wpStill P ops w (fun a' => wpList P ops Q (l.drop n) a' w) (l.take n) a) : wpList P ops Q l a w := by
  have := list_still (l.take n) (l.drop n) a h
  rwa [List.take_append_drop] at this
/-- one, which is wanted -/
theorem list_one {o : Oper} {rest : List Oper} {a : Act} (hw : Region.wanted o (yielded ops a.tmps) = true) (h : o.wp P a w (wpList P ops Q rest) Q) : wpList P ops Q (o :: rest) a w := by
  unfold wpList
  rw [if_pos hw]
  exact .inl h

/-- one whose value is known -/
theorem list_val {o : Oper} {rest : List Oper} {a : Act} {v : Value} (hg : o.guard = none) (hv : (execOp a.eval o).run P w = .ok (.value v) w) (h : wpList P ops Q rest (a.put o.dst v) w) : wpList P ops Q (o :: rest) a w := by
  refine list_one (by simp [Region.wanted, hg]) ?_
  unfold Oper.wp
  rw [hv]
  exact h

/-- what an operation that only moves leaves -/
def moved (ev : Operand → Value) : Op → Option Value
  | .move x => some (ev x)
  | .assign x => some (ev x)
  | .pick c x y => match ev c with
    | .bool true => some (ev x)
    | .bool false => some (ev y)
    | _ => none
  | _ => none
theorem moved_run {o : Oper} {ev : Operand → Value} {v : Value} (h : moved ev o.op = some v) : (execOp ev o).run P w = .ok (.value v) w := by
  unfold moved at h
  split at h
  · rename_i x ho
    injection h with h
    subst h
    unfold execOp
    rw [ho]
    simp
  · rename_i x ho
    injection h with h
    subst h
    unfold execOp
    rw [ho]
    simp
  · rename_i c x y ho
    unfold execOp
    rw [ho]
    split at h
    · rename_i hc
      injection h with h
      subst h
      simp [hc, asBool]
    · rename_i hc
      injection h with h
      subst h
      simp [hc, asBool]
    · cases h
  · cases h
/-- the rest of a chain that has failed: what is guarded is left out, what is not only moves -/
def dead (ops : Array Oper) : List Oper → Act → Option Act
  | [], a => some a
  | o :: r, a => if Region.wanted o (yielded ops a.tmps) then (match moved a.eval o.op with
      | some v => dead ops r (a.put o.dst v)
      | none => none) else dead ops r (a.put o.dst undef)
theorem list_dead : ∀ (l : List Oper) (a a' : Act), dead ops l a = some a' → Q .normal a' w → wpList P ops Q l a w
  | [], a, a', h, hq => by
    unfold dead at h
    injection h with h
    subst h
    exact hq
  | o :: l, a, a', h, hq => by
    unfold dead at h
    unfold wpList
    split at h
    · rename_i hw
      rw [if_pos hw]
      split at h
      · rename_i v hv
        refine .inl ?_
        unfold Oper.wp
        rw [moved_run hv]
        exact list_dead l _ _ h hq
      · cases h
    · rename_i hw
      rw [if_neg hw]
      exact list_dead l _ _ h hq
/-- the same, told by a slot -/
theorem list_off {l : List Oper} {a : Act} (k : Nat) (v : Value) (hB : (dead ops l a).map (fun a' => (a'.tmps[k]?, a'.defers)) = some (some v, [])) (hq : ∀ a', a'.tmps[k]? = some v → a'.defers = [] → Q .normal a' w) : wpList P ops Q l a w := by
  cases h : dead ops l a with
  | none => rw [h] at hB; cases hB
  | some a' =>
    rw [h] at hB
    simp only [Option.map_some, Option.some.injEq, Prod.mk.injEq] at hB
    exact list_dead l a a' h (hq a' hB.1 hB.2)
end
end Go.Proofs.YtfglnaimpjkcfaaDoor.chain
