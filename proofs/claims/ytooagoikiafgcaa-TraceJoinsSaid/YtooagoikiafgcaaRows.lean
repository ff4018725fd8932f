/-
  No cell of these rows narrows 'for every input' (looked for: loops, veiled, ifaces, maps, wideKeys, modest, calm, conditions, laid).
  DERIVED. THE GIVEN ROWS OF THIS SEAT. 10 by the template 'for every input the law returns true; each argument reads behind the call as it read before'; 0 by the template 'total and deterministic' (their statements: YtooagoikiafgcaaTotals.lean).
  GIVEN WITH THE SEED: the statements are not yours to turn. If you find one false, say at which input.
  Laid BY PROGRAM, IN A SANDBOX (cutbox-rows.mjs): the forced cells as the released guide's own fill.sh prints them over the translation 11619e420f39db9c… (all of the seat's roots in one cut). By AI agents, Wed Nov 11 2026. No macro, syntax, notation, axiom, sorry.
-/
import Derived.Test.YtooagoikiafgcaaChecked
import GoSem.Claim
import GoSem.ClaimJoined
import GoSem.ClaimMapViews
import Derived.JoinedTies
import Derived.KernelRfl
namespace Go.Proofs.Ytooagoikiafgcaa
/- THE CELL 'sum', in the pinned program and in every row, IS THE sha256 OF THE DUMP (.gsa) THAT YtooagoikiafgcaaProg.lean LOADS. Nothing in Lean hashes anything: it is a label: what it is worth is what the hold of that sum in a sandbox is worth. -/
noncomputable def Try.pinned : Pinned := { name := "ytooagoikiafgcaa", sum := "11619e420f39db9c42017e7066ad0103cca9315abe157f694ee67905e64a12dd", checked := Try.checked }
namespace Rows
def none {H : Type} : Left H := { results := [], args := [] }

/-- 'longeronlaw18.TimerOrder': WHATEVER THE INPUT: true; the input reads as it did. -/
def timerOrderSpec : ChangeSpec := { name := "timerOrder", fn := fun _ => fun
  | [d1, d2] => { results := [.lit (.bool true)], args := [d1, d2] }
  | _ => none }
def timerOrderRow : OpenClaim := { program := "ytooagoikiafgcaa", sum := "11619e420f39db9c42017e7066ad0103cca9315abe157f694ee67905e64a12dd", func := "longeron/longeronlaw18.TimerOrder", spec := "timerOrder", unfollowed := true, recurses := true, apart := false }
def TimerOrderSaid : Prop := timerOrderRow.holds Try.pinned (OpenSpec.ofChange timerOrderSpec)

/-- ITS FALSE NEIGHBOUR: 'it returns false'. Refute it at one input. -/
def timerOrderWrong : ChangeSpec := { name := "timerOrder", fn := fun _ => fun
  | [d1, d2] => { results := [.lit (.bool false)], args := [d1, d2] }
  | _ => none }
def TimerOrderWrongFalsely : Prop := timerOrderRow.holds Try.pinned (OpenSpec.ofChange timerOrderWrong)

/-- 'longeronlaw26.TraceFree': WHATEVER THE INPUT: true; the input reads as it did. -/
def traceFreeSpec : ChangeSpec := { name := "traceFree", fn := fun _ => fun
  | [d1, d2, d3] => { results := [.lit (.bool true)], args := [d1, d2, d3] }
  | _ => none }
def traceFreeRow : OpenClaim := { program := "ytooagoikiafgcaa", sum := "11619e420f39db9c42017e7066ad0103cca9315abe157f694ee67905e64a12dd", func := "longeron/longeronlaw26.TraceFree", spec := "traceFree", unfollowed := true, recurses := true, apart := false }
def TraceFreeSaid : Prop := traceFreeRow.holds Try.pinned (OpenSpec.ofChange traceFreeSpec)

/-- ITS FALSE NEIGHBOUR: 'it returns false'. Refute it at one input. -/
def traceFreeWrong : ChangeSpec := { name := "traceFree", fn := fun _ => fun
  | [d1, d2, d3] => { results := [.lit (.bool false)], args := [d1, d2, d3] }
  | _ => none }
def TraceFreeWrongFalsely : Prop := traceFreeRow.holds Try.pinned (OpenSpec.ofChange traceFreeWrong)

/-- 'longeronlaw18.TimerStops': WHATEVER THE INPUT: true; the input reads as it did. -/
def timerStopsSpec : ChangeSpec := { name := "timerStops", fn := fun _ => fun
  | [d1, d2] => { results := [.lit (.bool true)], args := [d1, d2] }
  | _ => none }
def timerStopsRow : OpenClaim := { program := "ytooagoikiafgcaa", sum := "11619e420f39db9c42017e7066ad0103cca9315abe157f694ee67905e64a12dd", func := "longeron/longeronlaw18.TimerStops", spec := "timerStops", unfollowed := true, recurses := true, apart := false }
def TimerStopsSaid : Prop := timerStopsRow.holds Try.pinned (OpenSpec.ofChange timerStopsSpec)

/-- ITS FALSE NEIGHBOUR: 'it returns false'. Refute it at one input. -/
def timerStopsWrong : ChangeSpec := { name := "timerStops", fn := fun _ => fun
  | [d1, d2] => { results := [.lit (.bool false)], args := [d1, d2] }
  | _ => none }
def TimerStopsWrongFalsely : Prop := timerStopsRow.holds Try.pinned (OpenSpec.ofChange timerStopsWrong)

/-- 'longeronlaw18.TimerActs': WHATEVER THE INPUT: true; the input reads as it did. -/
def timerActsSpec : ChangeSpec := { name := "timerActs", fn := fun _ => fun
  | [d] => { results := [.lit (.bool true)], args := [d] }
  | _ => none }
def timerActsRow : OpenClaim := { program := "ytooagoikiafgcaa", sum := "11619e420f39db9c42017e7066ad0103cca9315abe157f694ee67905e64a12dd", func := "longeron/longeronlaw18.TimerActs", spec := "timerActs", unfollowed := true, recurses := true, apart := false }
def TimerActsSaid : Prop := timerActsRow.holds Try.pinned (OpenSpec.ofChange timerActsSpec)

/-- ITS FALSE NEIGHBOUR: 'it returns false'. Refute it at one input. -/
def timerActsWrong : ChangeSpec := { name := "timerActs", fn := fun _ => fun
  | [d] => { results := [.lit (.bool false)], args := [d] }
  | _ => none }
def TimerActsWrongFalsely : Prop := timerActsRow.holds Try.pinned (OpenSpec.ofChange timerActsWrong)

/-- 'longeronlaw18.TimerNil': WHATEVER THE INPUT: true; the input reads as it did. -/
def timerNilSpec : ChangeSpec := { name := "timerNil", fn := fun _ => fun
  | [d1, d2] => { results := [.lit (.bool true)], args := [d1, d2] }
  | _ => none }
def timerNilRow : OpenClaim := { program := "ytooagoikiafgcaa", sum := "11619e420f39db9c42017e7066ad0103cca9315abe157f694ee67905e64a12dd", func := "longeron/longeronlaw18.TimerNil", spec := "timerNil", unfollowed := true, recurses := true, apart := false }
def TimerNilSaid : Prop := timerNilRow.holds Try.pinned (OpenSpec.ofChange timerNilSpec)

/-- ITS FALSE NEIGHBOUR: 'it returns false'. Refute it at one input. -/
def timerNilWrong : ChangeSpec := { name := "timerNil", fn := fun _ => fun
  | [d1, d2] => { results := [.lit (.bool false)], args := [d1, d2] }
  | _ => none }
def TimerNilWrongFalsely : Prop := timerNilRow.holds Try.pinned (OpenSpec.ofChange timerNilWrong)

/-- 'longeronlaw26.TraceJoins': WHATEVER THE INPUT: true; the input reads as it did. -/
def traceJoinsSpec : ChangeSpec := { name := "traceJoins", fn := fun _ => fun
  | [d1, d2, d3] => { results := [.lit (.bool true)], args := [d1, d2, d3] }
  | _ => none }
def traceJoinsRow : OpenClaim := { program := "ytooagoikiafgcaa", sum := "11619e420f39db9c42017e7066ad0103cca9315abe157f694ee67905e64a12dd", func := "longeron/longeronlaw26.TraceJoins", spec := "traceJoins", unfollowed := true, recurses := true, apart := false }
def TraceJoinsSaid : Prop := traceJoinsRow.holds Try.pinned (OpenSpec.ofChange traceJoinsSpec)

/-- ITS FALSE NEIGHBOUR: 'it returns false'. Refute it at one input. -/
def traceJoinsWrong : ChangeSpec := { name := "traceJoins", fn := fun _ => fun
  | [d1, d2, d3] => { results := [.lit (.bool false)], args := [d1, d2, d3] }
  | _ => none }
def TraceJoinsWrongFalsely : Prop := traceJoinsRow.holds Try.pinned (OpenSpec.ofChange traceJoinsWrong)

/-- 'longeronlaw11.StageOrder': WHATEVER THE INPUT: true; the input reads as it did. -/
def stageOrderSpec : ChangeSpec := { name := "stageOrder", fn := fun _ => fun
  | [d1, d2] => { results := [.lit (.bool true)], args := [d1, d2] }
  | _ => none }
def stageOrderRow : OpenClaim := { program := "ytooagoikiafgcaa", sum := "11619e420f39db9c42017e7066ad0103cca9315abe157f694ee67905e64a12dd", func := "longeron/longeronlaw11.StageOrder", spec := "stageOrder", unfollowed := true, recurses := true, apart := false }
def StageOrderSaid : Prop := stageOrderRow.holds Try.pinned (OpenSpec.ofChange stageOrderSpec)

/-- ITS FALSE NEIGHBOUR: 'it returns false'. Refute it at one input. -/
def stageOrderWrong : ChangeSpec := { name := "stageOrder", fn := fun _ => fun
  | [d1, d2] => { results := [.lit (.bool false)], args := [d1, d2] }
  | _ => none }
def StageOrderWrongFalsely : Prop := stageOrderRow.holds Try.pinned (OpenSpec.ofChange stageOrderWrong)

/-- 'longeronlaw11.StageApart': WHATEVER THE INPUT: true; the input reads as it did. -/
def stageApartSpec : ChangeSpec := { name := "stageApart", fn := fun _ => fun
  | [d1, d2] => { results := [.lit (.bool true)], args := [d1, d2] }
  | _ => none }
def stageApartRow : OpenClaim := { program := "ytooagoikiafgcaa", sum := "11619e420f39db9c42017e7066ad0103cca9315abe157f694ee67905e64a12dd", func := "longeron/longeronlaw11.StageApart", spec := "stageApart", unfollowed := true, recurses := true, apart := false }
def StageApartSaid : Prop := stageApartRow.holds Try.pinned (OpenSpec.ofChange stageApartSpec)

/-- ITS FALSE NEIGHBOUR: 'it returns false'. Refute it at one input. -/
def stageApartWrong : ChangeSpec := { name := "stageApart", fn := fun _ => fun
  | [d1, d2] => { results := [.lit (.bool false)], args := [d1, d2] }
  | _ => none }
def StageApartWrongFalsely : Prop := stageApartRow.holds Try.pinned (OpenSpec.ofChange stageApartWrong)

/-- 'longeronlaw11.StageOpens': WHATEVER THE INPUT: true; the input reads as it did. -/
def stageOpensSpec : ChangeSpec := { name := "stageOpens", fn := fun _ => fun
  | [d1, d2, d3] => { results := [.lit (.bool true)], args := [d1, d2, d3] }
  | _ => none }
def stageOpensRow : OpenClaim := { program := "ytooagoikiafgcaa", sum := "11619e420f39db9c42017e7066ad0103cca9315abe157f694ee67905e64a12dd", func := "longeron/longeronlaw11.StageOpens", spec := "stageOpens", unfollowed := true, recurses := true, apart := false }
def StageOpensSaid : Prop := stageOpensRow.holds Try.pinned (OpenSpec.ofChange stageOpensSpec)

/-- ITS FALSE NEIGHBOUR: 'it returns false'. Refute it at one input. -/
def stageOpensWrong : ChangeSpec := { name := "stageOpens", fn := fun _ => fun
  | [d1, d2, d3] => { results := [.lit (.bool false)], args := [d1, d2, d3] }
  | _ => none }
def StageOpensWrongFalsely : Prop := stageOpensRow.holds Try.pinned (OpenSpec.ofChange stageOpensWrong)

/-- 'longeronlaw11.StageActs': WHATEVER THE INPUT: true; the input reads as it did. -/
def stageActsSpec : ChangeSpec := { name := "stageActs", fn := fun _ => fun
  | [d1, d2] => { results := [.lit (.bool true)], args := [d1, d2] }
  | _ => none }
def stageActsRow : OpenClaim := { program := "ytooagoikiafgcaa", sum := "11619e420f39db9c42017e7066ad0103cca9315abe157f694ee67905e64a12dd", func := "longeron/longeronlaw11.StageActs", spec := "stageActs", unfollowed := true, recurses := true, apart := false }
def StageActsSaid : Prop := stageActsRow.holds Try.pinned (OpenSpec.ofChange stageActsSpec)

/-- ITS FALSE NEIGHBOUR: 'it returns false'. Refute it at one input. -/
def stageActsWrong : ChangeSpec := { name := "stageActs", fn := fun _ => fun
  | [d1, d2] => { results := [.lit (.bool false)], args := [d1, d2] }
  | _ => none }
def StageActsWrongFalsely : Prop := stageActsRow.holds Try.pinned (OpenSpec.ofChange stageActsWrong)

/- THE SECOND FORM. 'bulk': how many values and letters a reading holds, each counted each time it is reached (what is shared counts as often as it is met; a slice's spare places count too). A statement '..UptoSaid' is the law's where the arguments, and the package variables that the reading takes, are together of bulk at most 1048576: NARROWER than '..Said'. Prove '..Said' where nothing that the law and all that it calls make is longer than what came in: it says more and counts as full. Else prove '..UptoSaid'. A law counts once. -/
mutual
def uptoBulk {H : Type} : DataW H → Nat
  | .lit (.string bytes) => bytes.length + 1
  | .lit _ => 1
  | .nil => 1
  | .ptr d => uptoBulk d + 1
  | .slice elems spare => uptoBulkAll elems + uptoBulkAll spare + 1
  | .agg parts => uptoBulkAll parts + 1
  | .iface _ d => uptoBulk d + 1
  | .map entries => uptoBulkEntries entries + 1
  | .held _ => 1
def uptoBulkAll {H : Type} : List (DataW H) → Nat
  | [] => 0
  | d :: r => uptoBulk d + uptoBulkAll r
def uptoBulkEntries {H : Type} : List (Lit × DataW H) → Nat
  | [] => 0
  | x :: r => uptoBulkEntry x + uptoBulkEntries r
def uptoBulkEntry {H : Type} : Lit × DataW H → Nat
  | (.string bytes, d) => bytes.length + uptoBulk d + 1
  | (_, d) => uptoBulk d + 1
 end
def uptoSmall : (H : Type) → List (DataW H) → Bool := fun _ ds => decide (uptoBulkAll ds ≤ 1048576)
def OpenSpec.upto (s : _root_.Go.ChangeSpec) : _root_.Go.OpenSpec := { _root_.Go.OpenSpec.ofChange s with cond := some uptoSmall }

/-- 'longeronlaw18.TimerOrder', WHERE WHAT IT READS IS OF BULK AT MOST 1048576: true; the input reads as it did. -/
def timerOrderUptoRow : OpenClaim := { program := "ytooagoikiafgcaa", sum := "11619e420f39db9c42017e7066ad0103cca9315abe157f694ee67905e64a12dd", func := "longeron/longeronlaw18.TimerOrder", spec := "timerOrder", unfollowed := true, recurses := true, apart := false, narrowed := true }
def TimerOrderUptoSaid : Prop := timerOrderUptoRow.holds Try.pinned (OpenSpec.upto timerOrderSpec)

/-- 'longeronlaw26.TraceFree', WHERE WHAT IT READS IS OF BULK AT MOST 1048576: true; the input reads as it did. -/
def traceFreeUptoRow : OpenClaim := { program := "ytooagoikiafgcaa", sum := "11619e420f39db9c42017e7066ad0103cca9315abe157f694ee67905e64a12dd", func := "longeron/longeronlaw26.TraceFree", spec := "traceFree", unfollowed := true, recurses := true, apart := false, narrowed := true }
def TraceFreeUptoSaid : Prop := traceFreeUptoRow.holds Try.pinned (OpenSpec.upto traceFreeSpec)

/-- 'longeronlaw18.TimerStops', WHERE WHAT IT READS IS OF BULK AT MOST 1048576: true; the input reads as it did. -/
def timerStopsUptoRow : OpenClaim := { program := "ytooagoikiafgcaa", sum := "11619e420f39db9c42017e7066ad0103cca9315abe157f694ee67905e64a12dd", func := "longeron/longeronlaw18.TimerStops", spec := "timerStops", unfollowed := true, recurses := true, apart := false, narrowed := true }
def TimerStopsUptoSaid : Prop := timerStopsUptoRow.holds Try.pinned (OpenSpec.upto timerStopsSpec)

/-- 'longeronlaw18.TimerActs', WHERE WHAT IT READS IS OF BULK AT MOST 1048576: true; the input reads as it did. -/
def timerActsUptoRow : OpenClaim := { program := "ytooagoikiafgcaa", sum := "11619e420f39db9c42017e7066ad0103cca9315abe157f694ee67905e64a12dd", func := "longeron/longeronlaw18.TimerActs", spec := "timerActs", unfollowed := true, recurses := true, apart := false, narrowed := true }
def TimerActsUptoSaid : Prop := timerActsUptoRow.holds Try.pinned (OpenSpec.upto timerActsSpec)

/-- 'longeronlaw18.TimerNil', WHERE WHAT IT READS IS OF BULK AT MOST 1048576: true; the input reads as it did. -/
def timerNilUptoRow : OpenClaim := { program := "ytooagoikiafgcaa", sum := "11619e420f39db9c42017e7066ad0103cca9315abe157f694ee67905e64a12dd", func := "longeron/longeronlaw18.TimerNil", spec := "timerNil", unfollowed := true, recurses := true, apart := false, narrowed := true }
def TimerNilUptoSaid : Prop := timerNilUptoRow.holds Try.pinned (OpenSpec.upto timerNilSpec)

/-- 'longeronlaw26.TraceJoins', WHERE WHAT IT READS IS OF BULK AT MOST 1048576: true; the input reads as it did. -/
def traceJoinsUptoRow : OpenClaim := { program := "ytooagoikiafgcaa", sum := "11619e420f39db9c42017e7066ad0103cca9315abe157f694ee67905e64a12dd", func := "longeron/longeronlaw26.TraceJoins", spec := "traceJoins", unfollowed := true, recurses := true, apart := false, narrowed := true }
def TraceJoinsUptoSaid : Prop := traceJoinsUptoRow.holds Try.pinned (OpenSpec.upto traceJoinsSpec)

/-- 'longeronlaw11.StageOrder', WHERE WHAT IT READS IS OF BULK AT MOST 1048576: true; the input reads as it did. -/
def stageOrderUptoRow : OpenClaim := { program := "ytooagoikiafgcaa", sum := "11619e420f39db9c42017e7066ad0103cca9315abe157f694ee67905e64a12dd", func := "longeron/longeronlaw11.StageOrder", spec := "stageOrder", unfollowed := true, recurses := true, apart := false, narrowed := true }
def StageOrderUptoSaid : Prop := stageOrderUptoRow.holds Try.pinned (OpenSpec.upto stageOrderSpec)

/-- 'longeronlaw11.StageApart', WHERE WHAT IT READS IS OF BULK AT MOST 1048576: true; the input reads as it did. -/
def stageApartUptoRow : OpenClaim := { program := "ytooagoikiafgcaa", sum := "11619e420f39db9c42017e7066ad0103cca9315abe157f694ee67905e64a12dd", func := "longeron/longeronlaw11.StageApart", spec := "stageApart", unfollowed := true, recurses := true, apart := false, narrowed := true }
def StageApartUptoSaid : Prop := stageApartUptoRow.holds Try.pinned (OpenSpec.upto stageApartSpec)

/-- 'longeronlaw11.StageOpens', WHERE WHAT IT READS IS OF BULK AT MOST 1048576: true; the input reads as it did. -/
def stageOpensUptoRow : OpenClaim := { program := "ytooagoikiafgcaa", sum := "11619e420f39db9c42017e7066ad0103cca9315abe157f694ee67905e64a12dd", func := "longeron/longeronlaw11.StageOpens", spec := "stageOpens", unfollowed := true, recurses := true, apart := false, narrowed := true }
def StageOpensUptoSaid : Prop := stageOpensUptoRow.holds Try.pinned (OpenSpec.upto stageOpensSpec)

/-- 'longeronlaw11.StageActs', WHERE WHAT IT READS IS OF BULK AT MOST 1048576: true; the input reads as it did. -/
def stageActsUptoRow : OpenClaim := { program := "ytooagoikiafgcaa", sum := "11619e420f39db9c42017e7066ad0103cca9315abe157f694ee67905e64a12dd", func := "longeron/longeronlaw11.StageActs", spec := "stageActs", unfollowed := true, recurses := true, apart := false, narrowed := true }
def StageActsUptoSaid : Prop := stageActsUptoRow.holds Try.pinned (OpenSpec.upto stageActsSpec)

end Rows
end Go.Proofs.Ytooagoikiafgcaa
