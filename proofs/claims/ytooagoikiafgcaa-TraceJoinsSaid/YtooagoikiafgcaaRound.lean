/-
  PROVED HERE: a region that draws its order, reads first and then writes in one forced order, inside a round of a range over a function.
  CONDITIONS: no operation of it is a defer statement.
-/
import Derived.Test.YtooagoikiafgcaaBase
import Derived.RangeFuncNested
import Derived.RangeFuncCalls
import Derived.StillTailTactics
import Derived.OrdersIn
namespace Go.Proofs.Ytooagoikiafgcaa.round
set_option linter.unusedVariables false
open Go.RowKit

section
variable {P : Program} {ops : Array Oper} {md : Region.Mode} {Q : Exit → Act → World → Prop} {l0 m : Nat}

theorem op_in_round {o : Oper} (hnd : ∀ c, o.op ≠ .defer c) {a : Act} {w : World} {K K' : Act → World → Prop} (hK : ∀ a w, K a w → K' a w) (hno : ¬ LetsOut Q) (h : o.wp P a w K Q) : o.wpIn (Fence.wide.inRound l0) m P a w K' Q := by
  refine ⟨fun _ _ => trivial, ?_⟩
  rw [Oper.semAt_eq _ _ _ hnd]
  unfold Oper.wp at h
  revert h
  generalize (execOp a.eval o).run P w = r
  intro h
  unfold Oper.upon at h
  unfold Oper.uponIn
  split at h
  · exact hK _ _ h
  · exact hK _ _ h
  · exact hK _ _ h
  · refine ⟨(fun hd => by cases hd), ?_⟩
    have h' := callsIn_wide (n := m - 1).2 h
    refine CallsIn.mono (F := Fence.wide) h' ?_
    intro e w'' hh
    cases e with
    | returned v => exact hK _ _ hh
    | panicked c => exact hh
    | outgrown => exact hh
  · refine ⟨(fun hd => by cases hd), ?_⟩
    intro c cs _
    obtain ⟨v, w2, hr, s⟩ := h c cs
    exact ⟨v, w2, hK _ _ hr, stepsIn_wide.2 s⟩
  · exact h
  · exact h.elim

theorem any_in_round (hnd : ∀ o, o ∈ ops.toList → ∀ c, o.op ≠ .defer c) (hno : ¬ LetsOut Q) : ∀ (fuel : Nat) (listed : Array Bool) (a : Act) (w : World),
    wpAny P md ops Q fuel listed a w → wpAnyIn (Fence.wide.inRound l0) m P md ops Q fuel listed a w
  | 0, listed, a, w, h => h
  | fuel + 1, listed, a, w, h => by
    refine ⟨h.1, fun i hi => ?_⟩
    have hh := h.2 i hi
    unfold wpOp at hh
    unfold wpOpIn
    split at hh
    · rename_i ho
      rw [ho]
      exact any_in_round hnd hno fuel _ _ _ hh
    · rename_i o ho
      rw [ho]
      simp only
      split at hh
      · rename_i hw
        rw [if_pos hw]
        rcases hh with hh | hh
        · exact op_in_round (hnd o (Array.mem_toList_iff.2 (Array.mem_of_getElem? ho))) (fun a w => any_in_round hnd hno fuel _ a w) hno hh
        · exact (hno hh.2).elim
      · rename_i hw
        rw [if_neg hw]
        exact ⟨fun _ _ => trivial, any_in_round hnd hno fuel _ _ _ hh⟩

theorem region_still_tail_in {id : Nat} {a : Act} {w : World} {l : List Oper} (n : Nat) (hm : P.follows .mixedOrders = true) (hB : Region.lexTailB .any l.toArray n = true)
    (hnd : ∀ o, o ∈ l → ∀ c, o.op ≠ .defer c) (hno : ¬ LetsOut Q)
    (h : wpStill P l.toArray { w with drawn := w.drawn + 1 } (fun a' => wpList P l.toArray Q (l.drop n) a' { w with drawn := w.drawn + 1 }) (l.take n) a) : (Code.region id l.toArray true).wpIn (Fence.wide.inRound l0) m P Q a w := by
  simp only [Region.lexTailB, Bool.and_eq_true, decide_eq_true_eq] at hB
  obtain ⟨⟨⟨⟨hsel, hn⟩, hs⟩, hc⟩, hlex⟩ := hB
  have hn' : n < l.length := by simpa using hn
  have htl : (l.take n).length = n := by simp; omega
  have hdl : (l.drop n).length = l.toArray.size - n := by simp
  have inv0 : HeadInv .any l.toArray n (Array.replicate l.toArray.size false) :=
    ⟨by simp, fun j oj _ hl => (by rw [getD_replicate_false] at hl; cases hl), fun t _ ht => getD_in (by simpa using ht) (getD_replicate_false _ _)⟩
  have H := wpAnyL_lex (md := .any) (g := l.toArray.size - n) hsel hs hc hn (l.take n) 0 _ a (fun j hj => by
    have hj' : j < n := by rw [htl] at hj; exact hj
    simp [hj']) (by simpa using htl) inv0 (by rw [htl]; exact hlex) h
  refine wpIn_region_any hm ?_
  refine any_in_round (by simpa using hnd) hno _ _ _ _ ?_
  have := wpAny_of_head (Q' := Q) (g := l.toArray.size - n) (fun listed a' hL => by
    have := wpAny_of_seq (md := .any) (Q' := Q) (l.drop n) n listed a' { w with drawn := w.drawn + 1 } (fun j => by simp [List.getElem?_drop]) (by rw [hdl]; exact hL.1) hL.2
    rwa [hdl] at this) _ _ _ H
  rw [htl, show n + (l.toArray.size - n) = l.toArray.size by omega] at this
  exact this
end
end Go.Proofs.Ytooagoikiafgcaa.round
