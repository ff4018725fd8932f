/-
  PROVED HERE: plain Lean of what trace.View and trace.Same reckon: rows of two logs, one behind the other, are the one's rows, then the other's.
  CONDITIONS: none.
-/
import Derived.Test.YtooagoikiafgcaaTab
namespace Go.Proofs.Ytooagoikiafgcaa.joins
set_option linter.unusedVariables false
open Go.Proofs.Ytooagoikiafgcaa.tab

/-- an event, as data -/
structure EvD where
  tick : Int
  booted : List T3
  part : Int
  sent : List (Int × Int)
  confirm : Bool
  pc : Int
  stack : List Int
  mem : List Int
  ticks : Int
  fault : Int
  answered : Bool
/-- a row, as data -/
structure RowD where
  tick : Int
  booted : Bool
  ran : Bool
  version : Int
  slot : Int
  sent : List (Int × Int)
  pc : Int
  stack : List Int
  mem : List Int
  ticks : Int
  fault : Int
deriving DecidableEq
/-- what the boots of a tick leave in a row -/
def bootStep (part : Int) (x : Bool × Int × Int) (b : T3) : Bool × Int × Int := if b.a = part then (true, b.b, b.c) else x
def boots (part : Int) (l : List T3) : Bool × Int × Int := l.foldl (bootStep part) (false, 0, 0)
theorem boots_snoc (part : Int) (l : List T3) (b : T3) : boots part (l ++ [b]) = bootStep part (boots part l) b := by simp [boots]
def rowOf (part : Int) (v : EvD) : RowD :=
  let x := boots part v.booted
  if v.part = part then ⟨v.tick, x.1, true, x.2.1, x.2.2, v.sent, v.pc, v.stack, v.mem, v.ticks, v.fault⟩ else ⟨v.tick, x.1, false, x.2.1, x.2.2, [], 0, [], [], 0, 0⟩
def viewL (part : Int) (l : List EvD) : List RowD := (l.map (rowOf part)).filter fun r => r.booted || r.ran
theorem viewL_snoc (part : Int) (l : List EvD) (v : EvD) : viewL part (l ++ [v]) = viewL part l ++ if (rowOf part v).booted || (rowOf part v).ran then [rowOf part v] else [] := by
  unfold viewL
  rw [List.map_append, List.filter_append, List.map_cons, List.map_nil, List.filter_cons, List.filter_nil]
theorem viewL_joins (part : Int) (a b : List EvD) : viewL part (a ++ b) = viewL part a ++ viewL part b := by
  unfold viewL
  rw [List.map_append, List.filter_append]
theorem viewL_len (part : Int) (l : List EvD) : (viewL part l).length ≤ l.length := by
  unfold viewL
  exact Nat.le_trans (List.length_filter_le _ _) (by simp)
/-- the law's last line, over data -/
theorem last_line (part : Int) (a b : List EvD) :
    (decide (viewL part (a ++ b) = viewL part a ++ viewL part b) && (decide ((viewL part (a ++ b)).length = (viewL part a).length + (viewL part b).length) &&
      (decide (viewL part a = viewL part b) == (decide ((viewL part a).length = (viewL part b).length) && decide (viewL part b = viewL part a))))) = true := by
  rw [viewL_joins]
  by_cases h : viewL part a = viewL part b
  · simp [h]
  · have h2 : ¬ viewL part b = viewL part a := fun e => h e.symm
    simp [h, h2]
end Go.Proofs.Ytooagoikiafgcaa.joins
