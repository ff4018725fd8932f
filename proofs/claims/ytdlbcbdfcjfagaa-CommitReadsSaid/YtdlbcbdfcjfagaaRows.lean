/-
  No cell of these rows narrows 'for every input' (looked for: loops, veiled, ifaces, maps, wideKeys, modest, calm, conditions, laid).
  DERIVED. THE GIVEN ROWS OF THIS SEAT. 10 by the template 'for every input the law returns true; each argument reads behind the call as it read before'; 0 by the template 'total and deterministic' (their statements: YtdlbcbdfcjfagaaTotals.lean).
  GIVEN WITH THE SEED: the statements are not yours to turn. If you find one false, say at which input.
  Laid BY PROGRAM, IN A SANDBOX (cutbox-rows.mjs): the forced cells as the released guide's own fill.sh prints them over the translation 267debca1b6678d8… (all of the seat's roots in one cut). By AI agents, Wed Nov 11 2026. No macro, syntax, notation, axiom, sorry.
-/
import Derived.Test.YtdlbcbdfcjfagaaChecked
import GoSem.Claim
import GoSem.ClaimJoined
import GoSem.ClaimMapViews
import Derived.JoinedTies
import Derived.KernelRfl
namespace Go.Proofs.Ytdlbcbdfcjfagaa
/- THE CELL 'sum', in the pinned program and in every row, IS THE sha256 OF THE DUMP (.gsa) THAT YtdlbcbdfcjfagaaProg.lean LOADS. Nothing in Lean hashes anything: it is a label: what it is worth is what the hold of that sum in a sandbox is worth. -/
noncomputable def Try.pinned : Pinned := { name := "ytdlbcbdfcjfagaa", sum := "267debca1b6678d8037fc7b6ec169665486b0429ed71d09d117aa591f7fd6406", checked := Try.checked }
namespace Rows
def none {H : Type} : Left H := { results := [], args := [] }

/-- 'longeronlaw07.RecordPuts': WHATEVER THE INPUT: true; the input reads as it did. -/
def recordPutsSpec : ChangeSpec := { name := "recordPuts", fn := fun _ => fun
  | [d] => { results := [.lit (.bool true)], args := [d] }
  | _ => none }
def recordPutsRow : OpenClaim := { program := "ytdlbcbdfcjfagaa", sum := "267debca1b6678d8037fc7b6ec169665486b0429ed71d09d117aa591f7fd6406", func := "longeron/longeronlaw07.RecordPuts", spec := "recordPuts", unfollowed := true, recurses := true, apart := false }
def RecordPutsSaid : Prop := recordPutsRow.holds Try.pinned (OpenSpec.ofChange recordPutsSpec)

/-- ITS FALSE NEIGHBOUR: 'it returns false'. Refute it at one input. -/
def recordPutsWrong : ChangeSpec := { name := "recordPuts", fn := fun _ => fun
  | [d] => { results := [.lit (.bool false)], args := [d] }
  | _ => none }
def RecordPutsWrongFalsely : Prop := recordPutsRow.holds Try.pinned (OpenSpec.ofChange recordPutsWrong)

/-- 'longeronlaw07.RecordTurned': WHATEVER THE INPUT: true; the input reads as it did. -/
def recordTurnedSpec : ChangeSpec := { name := "recordTurned", fn := fun _ => fun
  | [d1, d2, d3] => { results := [.lit (.bool true)], args := [d1, d2, d3] }
  | _ => none }
def recordTurnedRow : OpenClaim := { program := "ytdlbcbdfcjfagaa", sum := "267debca1b6678d8037fc7b6ec169665486b0429ed71d09d117aa591f7fd6406", func := "longeron/longeronlaw07.RecordTurned", spec := "recordTurned", unfollowed := true, recurses := true, apart := false }
def RecordTurnedSaid : Prop := recordTurnedRow.holds Try.pinned (OpenSpec.ofChange recordTurnedSpec)

/-- ITS FALSE NEIGHBOUR: 'it returns false'. Refute it at one input. -/
def recordTurnedWrong : ChangeSpec := { name := "recordTurned", fn := fun _ => fun
  | [d1, d2, d3] => { results := [.lit (.bool false)], args := [d1, d2, d3] }
  | _ => none }
def RecordTurnedWrongFalsely : Prop := recordTurnedRow.holds Try.pinned (OpenSpec.ofChange recordTurnedWrong)

/-- 'longeronlaw07.RecordGets': WHATEVER THE INPUT: true; the input reads as it did. -/
def recordGetsSpec : ChangeSpec := { name := "recordGets", fn := fun _ => fun
  | [d] => { results := [.lit (.bool true)], args := [d] }
  | _ => none }
def recordGetsRow : OpenClaim := { program := "ytdlbcbdfcjfagaa", sum := "267debca1b6678d8037fc7b6ec169665486b0429ed71d09d117aa591f7fd6406", func := "longeron/longeronlaw07.RecordGets", spec := "recordGets", unfollowed := true, recurses := true, apart := false }
def RecordGetsSaid : Prop := recordGetsRow.holds Try.pinned (OpenSpec.ofChange recordGetsSpec)

/-- ITS FALSE NEIGHBOUR: 'it returns false'. Refute it at one input. -/
def recordGetsWrong : ChangeSpec := { name := "recordGets", fn := fun _ => fun
  | [d] => { results := [.lit (.bool false)], args := [d] }
  | _ => none }
def RecordGetsWrongFalsely : Prop := recordGetsRow.holds Try.pinned (OpenSpec.ofChange recordGetsWrong)

/-- 'longeronlaw07.RecordZeros': WHATEVER THE INPUT: true; the input reads as it did. -/
def recordZerosSpec : ChangeSpec := { name := "recordZeros", fn := fun _ => fun
  | [d1, d2] => { results := [.lit (.bool true)], args := [d1, d2] }
  | _ => none }
def recordZerosRow : OpenClaim := { program := "ytdlbcbdfcjfagaa", sum := "267debca1b6678d8037fc7b6ec169665486b0429ed71d09d117aa591f7fd6406", func := "longeron/longeronlaw07.RecordZeros", spec := "recordZeros", unfollowed := true, recurses := true, apart := false }
def RecordZerosSaid : Prop := recordZerosRow.holds Try.pinned (OpenSpec.ofChange recordZerosSpec)

/-- ITS FALSE NEIGHBOUR: 'it returns false'. Refute it at one input. -/
def recordZerosWrong : ChangeSpec := { name := "recordZeros", fn := fun _ => fun
  | [d1, d2] => { results := [.lit (.bool false)], args := [d1, d2] }
  | _ => none }
def RecordZerosWrongFalsely : Prop := recordZerosRow.holds Try.pinned (OpenSpec.ofChange recordZerosWrong)

/-- 'longeronlaw26.TraceJoins': WHATEVER THE INPUT: true; the input reads as it did. -/
def traceJoinsSpec : ChangeSpec := { name := "traceJoins", fn := fun _ => fun
  | [d1, d2, d3] => { results := [.lit (.bool true)], args := [d1, d2, d3] }
  | _ => none }
def traceJoinsRow : OpenClaim := { program := "ytdlbcbdfcjfagaa", sum := "267debca1b6678d8037fc7b6ec169665486b0429ed71d09d117aa591f7fd6406", func := "longeron/longeronlaw26.TraceJoins", spec := "traceJoins", unfollowed := true, recurses := true, apart := false }
def TraceJoinsSaid : Prop := traceJoinsRow.holds Try.pinned (OpenSpec.ofChange traceJoinsSpec)

/-- ITS FALSE NEIGHBOUR: 'it returns false'. Refute it at one input. -/
def traceJoinsWrong : ChangeSpec := { name := "traceJoins", fn := fun _ => fun
  | [d1, d2, d3] => { results := [.lit (.bool false)], args := [d1, d2, d3] }
  | _ => none }
def TraceJoinsWrongFalsely : Prop := traceJoinsRow.holds Try.pinned (OpenSpec.ofChange traceJoinsWrong)

/-- 'longeronlaw07.RecordStages': WHATEVER THE INPUT: true; the input reads as it did. -/
def recordStagesSpec : ChangeSpec := { name := "recordStages", fn := fun _ => fun
  | [d] => { results := [.lit (.bool true)], args := [d] }
  | _ => none }
def recordStagesRow : OpenClaim := { program := "ytdlbcbdfcjfagaa", sum := "267debca1b6678d8037fc7b6ec169665486b0429ed71d09d117aa591f7fd6406", func := "longeron/longeronlaw07.RecordStages", spec := "recordStages", unfollowed := true, recurses := true, apart := false }
def RecordStagesSaid : Prop := recordStagesRow.holds Try.pinned (OpenSpec.ofChange recordStagesSpec)

/-- ITS FALSE NEIGHBOUR: 'it returns false'. Refute it at one input. -/
def recordStagesWrong : ChangeSpec := { name := "recordStages", fn := fun _ => fun
  | [d] => { results := [.lit (.bool false)], args := [d] }
  | _ => none }
def RecordStagesWrongFalsely : Prop := recordStagesRow.holds Try.pinned (OpenSpec.ofChange recordStagesWrong)

/-- 'longeronlaw12.CommitReads': WHATEVER THE INPUT: true; the input reads as it did. -/
def commitReadsSpec : ChangeSpec := { name := "commitReads", fn := fun _ => fun
  | [d1, d2, d3] => { results := [.lit (.bool true)], args := [d1, d2, d3] }
  | _ => none }
def commitReadsRow : OpenClaim := { program := "ytdlbcbdfcjfagaa", sum := "267debca1b6678d8037fc7b6ec169665486b0429ed71d09d117aa591f7fd6406", func := "longeron/longeronlaw12.CommitReads", spec := "commitReads", unfollowed := true, recurses := true, apart := false }
def CommitReadsSaid : Prop := commitReadsRow.holds Try.pinned (OpenSpec.ofChange commitReadsSpec)

/-- ITS FALSE NEIGHBOUR: 'it returns false'. Refute it at one input. -/
def commitReadsWrong : ChangeSpec := { name := "commitReads", fn := fun _ => fun
  | [d1, d2, d3] => { results := [.lit (.bool false)], args := [d1, d2, d3] }
  | _ => none }
def CommitReadsWrongFalsely : Prop := commitReadsRow.holds Try.pinned (OpenSpec.ofChange commitReadsWrong)

/-- 'longeronlaw12.CommitOpens': WHATEVER THE INPUT: true; the input reads as it did. -/
def commitOpensSpec : ChangeSpec := { name := "commitOpens", fn := fun _ => fun
  | [d1, d2, d3] => { results := [.lit (.bool true)], args := [d1, d2, d3] }
  | _ => none }
def commitOpensRow : OpenClaim := { program := "ytdlbcbdfcjfagaa", sum := "267debca1b6678d8037fc7b6ec169665486b0429ed71d09d117aa591f7fd6406", func := "longeron/longeronlaw12.CommitOpens", spec := "commitOpens", unfollowed := true, recurses := true, apart := false }
def CommitOpensSaid : Prop := commitOpensRow.holds Try.pinned (OpenSpec.ofChange commitOpensSpec)

/-- ITS FALSE NEIGHBOUR: 'it returns false'. Refute it at one input. -/
def commitOpensWrong : ChangeSpec := { name := "commitOpens", fn := fun _ => fun
  | [d1, d2, d3] => { results := [.lit (.bool false)], args := [d1, d2, d3] }
  | _ => none }
def CommitOpensWrongFalsely : Prop := commitOpensRow.holds Try.pinned (OpenSpec.ofChange commitOpensWrong)

/-- 'longeronlaw12.CommitRises': WHATEVER THE INPUT: true; the input reads as it did. -/
def commitRisesSpec : ChangeSpec := { name := "commitRises", fn := fun _ => fun
  | [d1, d2] => { results := [.lit (.bool true)], args := [d1, d2] }
  | _ => none }
def commitRisesRow : OpenClaim := { program := "ytdlbcbdfcjfagaa", sum := "267debca1b6678d8037fc7b6ec169665486b0429ed71d09d117aa591f7fd6406", func := "longeron/longeronlaw12.CommitRises", spec := "commitRises", unfollowed := true, recurses := true, apart := false }
def CommitRisesSaid : Prop := commitRisesRow.holds Try.pinned (OpenSpec.ofChange commitRisesSpec)

/-- ITS FALSE NEIGHBOUR: 'it returns false'. Refute it at one input. -/
def commitRisesWrong : ChangeSpec := { name := "commitRises", fn := fun _ => fun
  | [d1, d2] => { results := [.lit (.bool false)], args := [d1, d2] }
  | _ => none }
def CommitRisesWrongFalsely : Prop := commitRisesRow.holds Try.pinned (OpenSpec.ofChange commitRisesWrong)

/-- 'longeronlaw12.CommitActs': WHATEVER THE INPUT: true; the input reads as it did. -/
def commitActsSpec : ChangeSpec := { name := "commitActs", fn := fun _ => fun
  | [d1, d2] => { results := [.lit (.bool true)], args := [d1, d2] }
  | _ => none }
def commitActsRow : OpenClaim := { program := "ytdlbcbdfcjfagaa", sum := "267debca1b6678d8037fc7b6ec169665486b0429ed71d09d117aa591f7fd6406", func := "longeron/longeronlaw12.CommitActs", spec := "commitActs", unfollowed := true, recurses := true, apart := false }
def CommitActsSaid : Prop := commitActsRow.holds Try.pinned (OpenSpec.ofChange commitActsSpec)

/-- ITS FALSE NEIGHBOUR: 'it returns false'. Refute it at one input. -/
def commitActsWrong : ChangeSpec := { name := "commitActs", fn := fun _ => fun
  | [d1, d2] => { results := [.lit (.bool false)], args := [d1, d2] }
  | _ => none }
def CommitActsWrongFalsely : Prop := commitActsRow.holds Try.pinned (OpenSpec.ofChange commitActsWrong)

/- THE SECOND FORM. 'bulk': how many values and letters a reading holds, each counted each time it is reached (what is shared counts as often as it is met; a slice's spare places count too). A statement '..UptoSaid' is the law's where the arguments, and the package variables that the reading takes, are together of bulk at most 1048576: NARROWER than '..Said'. Prove '..Said' where nothing that the law and all that it calls make is longer than what came in: it says more and counts as full. Else prove '..UptoSaid'. A law counts once. -/
mutual
def uptoBulk {H : Type} : DataW H → Nat
  | .lit (.string bytes) => bytes.length + 1
  | .lit _ => 1
  | .nil => 1
  | .ptr d => uptoBulk d + 1
  | .slice elems spare => uptoBulkAll elems + uptoBulkAll spare + 1
  | .agg parts => uptoBulkAll parts + 1
  | .iface _ d => uptoBulk d + 1
  | .map entries => uptoBulkEntries entries + 1
  | .held _ => 1
def uptoBulkAll {H : Type} : List (DataW H) → Nat
  | [] => 0
  | d :: r => uptoBulk d + uptoBulkAll r
def uptoBulkEntries {H : Type} : List (Lit × DataW H) → Nat
  | [] => 0
  | x :: r => uptoBulkEntry x + uptoBulkEntries r
def uptoBulkEntry {H : Type} : Lit × DataW H → Nat
  | (.string bytes, d) => bytes.length + uptoBulk d + 1
  | (_, d) => uptoBulk d + 1
 end
def uptoSmall : (H : Type) → List (DataW H) → Bool := fun _ ds => decide (uptoBulkAll ds ≤ 1048576)
def OpenSpec.upto (s : _root_.Go.ChangeSpec) : _root_.Go.OpenSpec := { _root_.Go.OpenSpec.ofChange s with cond := some uptoSmall }

/-- 'longeronlaw07.RecordPuts', WHERE WHAT IT READS IS OF BULK AT MOST 1048576: true; the input reads as it did. -/
def recordPutsUptoRow : OpenClaim := { program := "ytdlbcbdfcjfagaa", sum := "267debca1b6678d8037fc7b6ec169665486b0429ed71d09d117aa591f7fd6406", func := "longeron/longeronlaw07.RecordPuts", spec := "recordPuts", unfollowed := true, recurses := true, apart := false, narrowed := true }
def RecordPutsUptoSaid : Prop := recordPutsUptoRow.holds Try.pinned (OpenSpec.upto recordPutsSpec)

/-- 'longeronlaw07.RecordTurned', WHERE WHAT IT READS IS OF BULK AT MOST 1048576: true; the input reads as it did. -/
def recordTurnedUptoRow : OpenClaim := { program := "ytdlbcbdfcjfagaa", sum := "267debca1b6678d8037fc7b6ec169665486b0429ed71d09d117aa591f7fd6406", func := "longeron/longeronlaw07.RecordTurned", spec := "recordTurned", unfollowed := true, recurses := true, apart := false, narrowed := true }
def RecordTurnedUptoSaid : Prop := recordTurnedUptoRow.holds Try.pinned (OpenSpec.upto recordTurnedSpec)

/-- 'longeronlaw07.RecordGets', WHERE WHAT IT READS IS OF BULK AT MOST 1048576: true; the input reads as it did. -/
def recordGetsUptoRow : OpenClaim := { program := "ytdlbcbdfcjfagaa", sum := "267debca1b6678d8037fc7b6ec169665486b0429ed71d09d117aa591f7fd6406", func := "longeron/longeronlaw07.RecordGets", spec := "recordGets", unfollowed := true, recurses := true, apart := false, narrowed := true }
def RecordGetsUptoSaid : Prop := recordGetsUptoRow.holds Try.pinned (OpenSpec.upto recordGetsSpec)

/-- 'longeronlaw07.RecordZeros', WHERE WHAT IT READS IS OF BULK AT MOST 1048576: true; the input reads as it did. -/
def recordZerosUptoRow : OpenClaim := { program := "ytdlbcbdfcjfagaa", sum := "267debca1b6678d8037fc7b6ec169665486b0429ed71d09d117aa591f7fd6406", func := "longeron/longeronlaw07.RecordZeros", spec := "recordZeros", unfollowed := true, recurses := true, apart := false, narrowed := true }
def RecordZerosUptoSaid : Prop := recordZerosUptoRow.holds Try.pinned (OpenSpec.upto recordZerosSpec)

/-- 'longeronlaw26.TraceJoins', WHERE WHAT IT READS IS OF BULK AT MOST 1048576: true; the input reads as it did. -/
def traceJoinsUptoRow : OpenClaim := { program := "ytdlbcbdfcjfagaa", sum := "267debca1b6678d8037fc7b6ec169665486b0429ed71d09d117aa591f7fd6406", func := "longeron/longeronlaw26.TraceJoins", spec := "traceJoins", unfollowed := true, recurses := true, apart := false, narrowed := true }
def TraceJoinsUptoSaid : Prop := traceJoinsUptoRow.holds Try.pinned (OpenSpec.upto traceJoinsSpec)

/-- 'longeronlaw07.RecordStages', WHERE WHAT IT READS IS OF BULK AT MOST 1048576: true; the input reads as it did. -/
def recordStagesUptoRow : OpenClaim := { program := "ytdlbcbdfcjfagaa", sum := "267debca1b6678d8037fc7b6ec169665486b0429ed71d09d117aa591f7fd6406", func := "longeron/longeronlaw07.RecordStages", spec := "recordStages", unfollowed := true, recurses := true, apart := false, narrowed := true }
def RecordStagesUptoSaid : Prop := recordStagesUptoRow.holds Try.pinned (OpenSpec.upto recordStagesSpec)

/-- 'longeronlaw12.CommitReads', WHERE WHAT IT READS IS OF BULK AT MOST 1048576: true; the input reads as it did. -/
def commitReadsUptoRow : OpenClaim := { program := "ytdlbcbdfcjfagaa", sum := "267debca1b6678d8037fc7b6ec169665486b0429ed71d09d117aa591f7fd6406", func := "longeron/longeronlaw12.CommitReads", spec := "commitReads", unfollowed := true, recurses := true, apart := false, narrowed := true }
def CommitReadsUptoSaid : Prop := commitReadsUptoRow.holds Try.pinned (OpenSpec.upto commitReadsSpec)

/-- 'longeronlaw12.CommitOpens', WHERE WHAT IT READS IS OF BULK AT MOST 1048576: true; the input reads as it did. -/
def commitOpensUptoRow : OpenClaim := { program := "ytdlbcbdfcjfagaa", sum := "267debca1b6678d8037fc7b6ec169665486b0429ed71d09d117aa591f7fd6406", func := "longeron/longeronlaw12.CommitOpens", spec := "commitOpens", unfollowed := true, recurses := true, apart := false, narrowed := true }
def CommitOpensUptoSaid : Prop := commitOpensUptoRow.holds Try.pinned (OpenSpec.upto commitOpensSpec)

/-- 'longeronlaw12.CommitRises', WHERE WHAT IT READS IS OF BULK AT MOST 1048576: true; the input reads as it did. -/
def commitRisesUptoRow : OpenClaim := { program := "ytdlbcbdfcjfagaa", sum := "267debca1b6678d8037fc7b6ec169665486b0429ed71d09d117aa591f7fd6406", func := "longeron/longeronlaw12.CommitRises", spec := "commitRises", unfollowed := true, recurses := true, apart := false, narrowed := true }
def CommitRisesUptoSaid : Prop := commitRisesUptoRow.holds Try.pinned (OpenSpec.upto commitRisesSpec)

/-- 'longeronlaw12.CommitActs', WHERE WHAT IT READS IS OF BULK AT MOST 1048576: true; the input reads as it did. -/
def commitActsUptoRow : OpenClaim := { program := "ytdlbcbdfcjfagaa", sum := "267debca1b6678d8037fc7b6ec169665486b0429ed71d09d117aa591f7fd6406", func := "longeron/longeronlaw12.CommitActs", spec := "commitActs", unfollowed := true, recurses := true, apart := false, narrowed := true }
def CommitActsUptoSaid : Prop := commitActsUptoRow.holds Try.pinned (OpenSpec.upto commitActsSpec)

end Rows
end Go.Proofs.Ytdlbcbdfcjfagaa
