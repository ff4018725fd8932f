/-
  No cell of these rows narrows 'for every input' (looked for: loops, veiled, ifaces, maps, wideKeys, modest, calm, conditions, laid).
  DERIVED. THE GIVEN ROWS OF THIS SEAT. 12 by the template 'for every input the law returns true; each argument reads behind the call as it read before'; 0 by the template 'total and deterministic' (their statements: YtjncpincmkpdpaaTotals.lean).
  GIVEN WITH THE SEED: the statements are not yours to turn. If you find one false, say at which input.
  Laid BY PROGRAM, IN A SANDBOX (cutbox-rows.mjs): the forced cells as the released guide's own fill.sh prints them over the translation 5a3fe8861bdcf792… (all of the seat's roots in one cut). By AI agents, Wed Nov 11 2026. No macro, syntax, notation, axiom, sorry.
-/
import Derived.Test.YtjncpincmkpdpaaChecked
import GoSem.Claim
import GoSem.ClaimJoined
import GoSem.ClaimMapViews
import Derived.JoinedTies
import Derived.KernelRfl
namespace Go.Proofs.Ytjncpincmkpdpaa
/- THE CELL 'sum', in the pinned program and in every row, IS THE sha256 OF THE DUMP (.gsa) THAT YtjncpincmkpdpaaProg.lean LOADS. Nothing in Lean hashes anything: it is a label: what it is worth is what the hold of that sum in a sandbox is worth. -/
noncomputable def Try.pinned : Pinned := { name := "ytjncpincmkpdpaa", sum := "5a3fe8861bdcf792adfcd6b9c7bc0210305c0aafa4738b27f4e1acddf9de28ad", checked := Try.checked }
namespace Rows
def none {H : Type} : Left H := { results := [], args := [] }

/-- 'longeronlaw21.GroundOrder': WHATEVER THE INPUT: true; the input reads as it did. -/
def groundOrderSpec : ChangeSpec := { name := "groundOrder", fn := fun _ => fun
  | [d1, d2, d3] => { results := [.lit (.bool true)], args := [d1, d2, d3] }
  | _ => none }
def groundOrderRow : OpenClaim := { program := "ytjncpincmkpdpaa", sum := "5a3fe8861bdcf792adfcd6b9c7bc0210305c0aafa4738b27f4e1acddf9de28ad", func := "longeron/longeronlaw21.GroundOrder", spec := "groundOrder", unfollowed := true, recurses := true, apart := false }
def GroundOrderSaid : Prop := groundOrderRow.holds Try.pinned (OpenSpec.ofChange groundOrderSpec)

/-- ITS FALSE NEIGHBOUR: 'it returns false'. Refute it at one input. -/
def groundOrderWrong : ChangeSpec := { name := "groundOrder", fn := fun _ => fun
  | [d1, d2, d3] => { results := [.lit (.bool false)], args := [d1, d2, d3] }
  | _ => none }
def GroundOrderWrongFalsely : Prop := groundOrderRow.holds Try.pinned (OpenSpec.ofChange groundOrderWrong)

/-- 'longeronlaw21.GroundNil': WHATEVER THE INPUT: true; the input reads as it did. -/
def groundNilSpec : ChangeSpec := { name := "groundNil", fn := fun _ => fun
  | [d1, d2] => { results := [.lit (.bool true)], args := [d1, d2] }
  | _ => none }
def groundNilRow : OpenClaim := { program := "ytjncpincmkpdpaa", sum := "5a3fe8861bdcf792adfcd6b9c7bc0210305c0aafa4738b27f4e1acddf9de28ad", func := "longeron/longeronlaw21.GroundNil", spec := "groundNil", unfollowed := true, recurses := true, apart := false }
def GroundNilSaid : Prop := groundNilRow.holds Try.pinned (OpenSpec.ofChange groundNilSpec)

/-- ITS FALSE NEIGHBOUR: 'it returns false'. Refute it at one input. -/
def groundNilWrong : ChangeSpec := { name := "groundNil", fn := fun _ => fun
  | [d1, d2] => { results := [.lit (.bool false)], args := [d1, d2] }
  | _ => none }
def GroundNilWrongFalsely : Prop := groundNilRow.holds Try.pinned (OpenSpec.ofChange groundNilWrong)

/-- 'longeronlaw04.DiskLasts': WHATEVER THE INPUT: true; the input reads as it did. -/
def diskLastsSpec : ChangeSpec := { name := "diskLasts", fn := fun _ => fun
  | [d1, d2] => { results := [.lit (.bool true)], args := [d1, d2] }
  | _ => none }
def diskLastsRow : OpenClaim := { program := "ytjncpincmkpdpaa", sum := "5a3fe8861bdcf792adfcd6b9c7bc0210305c0aafa4738b27f4e1acddf9de28ad", func := "longeron/longeronlaw04.DiskLasts", spec := "diskLasts", unfollowed := true, recurses := true, apart := false }
def DiskLastsSaid : Prop := diskLastsRow.holds Try.pinned (OpenSpec.ofChange diskLastsSpec)

/-- ITS FALSE NEIGHBOUR: 'it returns false'. Refute it at one input. -/
def diskLastsWrong : ChangeSpec := { name := "diskLasts", fn := fun _ => fun
  | [d1, d2] => { results := [.lit (.bool false)], args := [d1, d2] }
  | _ => none }
def DiskLastsWrongFalsely : Prop := diskLastsRow.holds Try.pinned (OpenSpec.ofChange diskLastsWrong)

/-- 'longeronlaw04.DiskFuse': WHATEVER THE INPUT: true; the input reads as it did. -/
def diskFuseSpec : ChangeSpec := { name := "diskFuse", fn := fun _ => fun
  | [d1, d2] => { results := [.lit (.bool true)], args := [d1, d2] }
  | _ => none }
def diskFuseRow : OpenClaim := { program := "ytjncpincmkpdpaa", sum := "5a3fe8861bdcf792adfcd6b9c7bc0210305c0aafa4738b27f4e1acddf9de28ad", func := "longeron/longeronlaw04.DiskFuse", spec := "diskFuse", unfollowed := true, recurses := true, apart := false }
def DiskFuseSaid : Prop := diskFuseRow.holds Try.pinned (OpenSpec.ofChange diskFuseSpec)

/-- ITS FALSE NEIGHBOUR: 'it returns false'. Refute it at one input. -/
def diskFuseWrong : ChangeSpec := { name := "diskFuse", fn := fun _ => fun
  | [d1, d2] => { results := [.lit (.bool false)], args := [d1, d2] }
  | _ => none }
def DiskFuseWrongFalsely : Prop := diskFuseRow.holds Try.pinned (OpenSpec.ofChange diskFuseWrong)

/-- 'longeronlaw04.DiskAll': WHATEVER THE INPUT: true; the input reads as it did. -/
def diskAllSpec : ChangeSpec := { name := "diskAll", fn := fun _ => fun
  | [d] => { results := [.lit (.bool true)], args := [d] }
  | _ => none }
def diskAllRow : OpenClaim := { program := "ytjncpincmkpdpaa", sum := "5a3fe8861bdcf792adfcd6b9c7bc0210305c0aafa4738b27f4e1acddf9de28ad", func := "longeron/longeronlaw04.DiskAll", spec := "diskAll", unfollowed := true, recurses := true, apart := false }
def DiskAllSaid : Prop := diskAllRow.holds Try.pinned (OpenSpec.ofChange diskAllSpec)

/-- ITS FALSE NEIGHBOUR: 'it returns false'. Refute it at one input. -/
def diskAllWrong : ChangeSpec := { name := "diskAll", fn := fun _ => fun
  | [d] => { results := [.lit (.bool false)], args := [d] }
  | _ => none }
def DiskAllWrongFalsely : Prop := diskAllRow.holds Try.pinned (OpenSpec.ofChange diskAllWrong)

/-- 'longeronlaw04.DiskActs': WHATEVER THE INPUT: true; the input reads as it did. -/
def diskActsSpec : ChangeSpec := { name := "diskActs", fn := fun _ => fun
  | [d1, d2] => { results := [.lit (.bool true)], args := [d1, d2] }
  | _ => none }
def diskActsRow : OpenClaim := { program := "ytjncpincmkpdpaa", sum := "5a3fe8861bdcf792adfcd6b9c7bc0210305c0aafa4738b27f4e1acddf9de28ad", func := "longeron/longeronlaw04.DiskActs", spec := "diskActs", unfollowed := true, recurses := true, apart := false }
def DiskActsSaid : Prop := diskActsRow.holds Try.pinned (OpenSpec.ofChange diskActsSpec)

/-- ITS FALSE NEIGHBOUR: 'it returns false'. Refute it at one input. -/
def diskActsWrong : ChangeSpec := { name := "diskActs", fn := fun _ => fun
  | [d1, d2] => { results := [.lit (.bool false)], args := [d1, d2] }
  | _ => none }
def DiskActsWrongFalsely : Prop := diskActsRow.holds Try.pinned (OpenSpec.ofChange diskActsWrong)

/-- 'longeronlaw04.DiskNil': WHATEVER THE INPUT: true; the input reads as it did. -/
def diskNilSpec : ChangeSpec := { name := "diskNil", fn := fun _ => fun
  | [d1, d2] => { results := [.lit (.bool true)], args := [d1, d2] }
  | _ => none }
def diskNilRow : OpenClaim := { program := "ytjncpincmkpdpaa", sum := "5a3fe8861bdcf792adfcd6b9c7bc0210305c0aafa4738b27f4e1acddf9de28ad", func := "longeron/longeronlaw04.DiskNil", spec := "diskNil", unfollowed := true, recurses := true, apart := false }
def DiskNilSaid : Prop := diskNilRow.holds Try.pinned (OpenSpec.ofChange diskNilSpec)

/-- ITS FALSE NEIGHBOUR: 'it returns false'. Refute it at one input. -/
def diskNilWrong : ChangeSpec := { name := "diskNil", fn := fun _ => fun
  | [d1, d2] => { results := [.lit (.bool false)], args := [d1, d2] }
  | _ => none }
def DiskNilWrongFalsely : Prop := diskNilRow.holds Try.pinned (OpenSpec.ofChange diskNilWrong)

/-- 'longeronlaw18.TimerOrder': WHATEVER THE INPUT: true; the input reads as it did. -/
def timerOrderSpec : ChangeSpec := { name := "timerOrder", fn := fun _ => fun
  | [d1, d2] => { results := [.lit (.bool true)], args := [d1, d2] }
  | _ => none }
def timerOrderRow : OpenClaim := { program := "ytjncpincmkpdpaa", sum := "5a3fe8861bdcf792adfcd6b9c7bc0210305c0aafa4738b27f4e1acddf9de28ad", func := "longeron/longeronlaw18.TimerOrder", spec := "timerOrder", unfollowed := true, recurses := true, apart := false }
def TimerOrderSaid : Prop := timerOrderRow.holds Try.pinned (OpenSpec.ofChange timerOrderSpec)

/-- ITS FALSE NEIGHBOUR: 'it returns false'. Refute it at one input. -/
def timerOrderWrong : ChangeSpec := { name := "timerOrder", fn := fun _ => fun
  | [d1, d2] => { results := [.lit (.bool false)], args := [d1, d2] }
  | _ => none }
def TimerOrderWrongFalsely : Prop := timerOrderRow.holds Try.pinned (OpenSpec.ofChange timerOrderWrong)

/-- 'longeronlaw18.TimerStops': WHATEVER THE INPUT: true; the input reads as it did. -/
def timerStopsSpec : ChangeSpec := { name := "timerStops", fn := fun _ => fun
  | [d1, d2] => { results := [.lit (.bool true)], args := [d1, d2] }
  | _ => none }
def timerStopsRow : OpenClaim := { program := "ytjncpincmkpdpaa", sum := "5a3fe8861bdcf792adfcd6b9c7bc0210305c0aafa4738b27f4e1acddf9de28ad", func := "longeron/longeronlaw18.TimerStops", spec := "timerStops", unfollowed := true, recurses := true, apart := false }
def TimerStopsSaid : Prop := timerStopsRow.holds Try.pinned (OpenSpec.ofChange timerStopsSpec)

/-- ITS FALSE NEIGHBOUR: 'it returns false'. Refute it at one input. -/
def timerStopsWrong : ChangeSpec := { name := "timerStops", fn := fun _ => fun
  | [d1, d2] => { results := [.lit (.bool false)], args := [d1, d2] }
  | _ => none }
def TimerStopsWrongFalsely : Prop := timerStopsRow.holds Try.pinned (OpenSpec.ofChange timerStopsWrong)

/-- 'longeronlaw18.TimerActs': WHATEVER THE INPUT: true; the input reads as it did. -/
def timerActsSpec : ChangeSpec := { name := "timerActs", fn := fun _ => fun
  | [d] => { results := [.lit (.bool true)], args := [d] }
  | _ => none }
def timerActsRow : OpenClaim := { program := "ytjncpincmkpdpaa", sum := "5a3fe8861bdcf792adfcd6b9c7bc0210305c0aafa4738b27f4e1acddf9de28ad", func := "longeron/longeronlaw18.TimerActs", spec := "timerActs", unfollowed := true, recurses := true, apart := false }
def TimerActsSaid : Prop := timerActsRow.holds Try.pinned (OpenSpec.ofChange timerActsSpec)

/-- ITS FALSE NEIGHBOUR: 'it returns false'. Refute it at one input. -/
def timerActsWrong : ChangeSpec := { name := "timerActs", fn := fun _ => fun
  | [d] => { results := [.lit (.bool false)], args := [d] }
  | _ => none }
def TimerActsWrongFalsely : Prop := timerActsRow.holds Try.pinned (OpenSpec.ofChange timerActsWrong)

/-- 'longeronlaw18.TimerNil': WHATEVER THE INPUT: true; the input reads as it did. -/
def timerNilSpec : ChangeSpec := { name := "timerNil", fn := fun _ => fun
  | [d1, d2] => { results := [.lit (.bool true)], args := [d1, d2] }
  | _ => none }
def timerNilRow : OpenClaim := { program := "ytjncpincmkpdpaa", sum := "5a3fe8861bdcf792adfcd6b9c7bc0210305c0aafa4738b27f4e1acddf9de28ad", func := "longeron/longeronlaw18.TimerNil", spec := "timerNil", unfollowed := true, recurses := true, apart := false }
def TimerNilSaid : Prop := timerNilRow.holds Try.pinned (OpenSpec.ofChange timerNilSpec)

/-- ITS FALSE NEIGHBOUR: 'it returns false'. Refute it at one input. -/
def timerNilWrong : ChangeSpec := { name := "timerNil", fn := fun _ => fun
  | [d1, d2] => { results := [.lit (.bool false)], args := [d1, d2] }
  | _ => none }
def TimerNilWrongFalsely : Prop := timerNilRow.holds Try.pinned (OpenSpec.ofChange timerNilWrong)

/-- 'longeronlaw26.TraceFree': WHATEVER THE INPUT: true; the input reads as it did. -/
def traceFreeSpec : ChangeSpec := { name := "traceFree", fn := fun _ => fun
  | [d1, d2, d3] => { results := [.lit (.bool true)], args := [d1, d2, d3] }
  | _ => none }
def traceFreeRow : OpenClaim := { program := "ytjncpincmkpdpaa", sum := "5a3fe8861bdcf792adfcd6b9c7bc0210305c0aafa4738b27f4e1acddf9de28ad", func := "longeron/longeronlaw26.TraceFree", spec := "traceFree", unfollowed := true, recurses := true, apart := false }
def TraceFreeSaid : Prop := traceFreeRow.holds Try.pinned (OpenSpec.ofChange traceFreeSpec)

/-- ITS FALSE NEIGHBOUR: 'it returns false'. Refute it at one input. -/
def traceFreeWrong : ChangeSpec := { name := "traceFree", fn := fun _ => fun
  | [d1, d2, d3] => { results := [.lit (.bool false)], args := [d1, d2, d3] }
  | _ => none }
def TraceFreeWrongFalsely : Prop := traceFreeRow.holds Try.pinned (OpenSpec.ofChange traceFreeWrong)

/- THE SECOND FORM. 'bulk': how many values and letters a reading holds, each counted each time it is reached (what is shared counts as often as it is met; a slice's spare places count too). A statement '..UptoSaid' is the law's where the arguments, and the package variables that the reading takes, are together of bulk at most 1048576: NARROWER than '..Said'. Prove '..Said' where nothing that the law and all that it calls make is longer than what came in: it says more and counts as full. Else prove '..UptoSaid'. A law counts once. -/
mutual
def uptoBulk {H : Type} : DataW H → Nat
  | .lit (.string bytes) => bytes.length + 1
  | .lit _ => 1
  | .nil => 1
  | .ptr d => uptoBulk d + 1
  | .slice elems spare => uptoBulkAll elems + uptoBulkAll spare + 1
  | .agg parts => uptoBulkAll parts + 1
  | .iface _ d => uptoBulk d + 1
  | .map entries => uptoBulkEntries entries + 1
  | .held _ => 1
def uptoBulkAll {H : Type} : List (DataW H) → Nat
  | [] => 0
  | d :: r => uptoBulk d + uptoBulkAll r
def uptoBulkEntries {H : Type} : List (Lit × DataW H) → Nat
  | [] => 0
  | x :: r => uptoBulkEntry x + uptoBulkEntries r
def uptoBulkEntry {H : Type} : Lit × DataW H → Nat
  | (.string bytes, d) => bytes.length + uptoBulk d + 1
  | (_, d) => uptoBulk d + 1
 end
def uptoSmall : (H : Type) → List (DataW H) → Bool := fun _ ds => decide (uptoBulkAll ds ≤ 1048576)
def OpenSpec.upto (s : _root_.Go.ChangeSpec) : _root_.Go.OpenSpec := { _root_.Go.OpenSpec.ofChange s with cond := some uptoSmall }

/-- 'longeronlaw21.GroundOrder', WHERE WHAT IT READS IS OF BULK AT MOST 1048576: true; the input reads as it did. -/
def groundOrderUptoRow : OpenClaim := { program := "ytjncpincmkpdpaa", sum := "5a3fe8861bdcf792adfcd6b9c7bc0210305c0aafa4738b27f4e1acddf9de28ad", func := "longeron/longeronlaw21.GroundOrder", spec := "groundOrder", unfollowed := true, recurses := true, apart := false, narrowed := true }
def GroundOrderUptoSaid : Prop := groundOrderUptoRow.holds Try.pinned (OpenSpec.upto groundOrderSpec)

/-- 'longeronlaw21.GroundNil', WHERE WHAT IT READS IS OF BULK AT MOST 1048576: true; the input reads as it did. -/
def groundNilUptoRow : OpenClaim := { program := "ytjncpincmkpdpaa", sum := "5a3fe8861bdcf792adfcd6b9c7bc0210305c0aafa4738b27f4e1acddf9de28ad", func := "longeron/longeronlaw21.GroundNil", spec := "groundNil", unfollowed := true, recurses := true, apart := false, narrowed := true }
def GroundNilUptoSaid : Prop := groundNilUptoRow.holds Try.pinned (OpenSpec.upto groundNilSpec)

/-- 'longeronlaw04.DiskLasts', WHERE WHAT IT READS IS OF BULK AT MOST 1048576: true; the input reads as it did. -/
def diskLastsUptoRow : OpenClaim := { program := "ytjncpincmkpdpaa", sum := "5a3fe8861bdcf792adfcd6b9c7bc0210305c0aafa4738b27f4e1acddf9de28ad", func := "longeron/longeronlaw04.DiskLasts", spec := "diskLasts", unfollowed := true, recurses := true, apart := false, narrowed := true }
def DiskLastsUptoSaid : Prop := diskLastsUptoRow.holds Try.pinned (OpenSpec.upto diskLastsSpec)

/-- 'longeronlaw04.DiskFuse', WHERE WHAT IT READS IS OF BULK AT MOST 1048576: true; the input reads as it did. -/
def diskFuseUptoRow : OpenClaim := { program := "ytjncpincmkpdpaa", sum := "5a3fe8861bdcf792adfcd6b9c7bc0210305c0aafa4738b27f4e1acddf9de28ad", func := "longeron/longeronlaw04.DiskFuse", spec := "diskFuse", unfollowed := true, recurses := true, apart := false, narrowed := true }
def DiskFuseUptoSaid : Prop := diskFuseUptoRow.holds Try.pinned (OpenSpec.upto diskFuseSpec)

/-- 'longeronlaw04.DiskAll', WHERE WHAT IT READS IS OF BULK AT MOST 1048576: true; the input reads as it did. -/
def diskAllUptoRow : OpenClaim := { program := "ytjncpincmkpdpaa", sum := "5a3fe8861bdcf792adfcd6b9c7bc0210305c0aafa4738b27f4e1acddf9de28ad", func := "longeron/longeronlaw04.DiskAll", spec := "diskAll", unfollowed := true, recurses := true, apart := false, narrowed := true }
def DiskAllUptoSaid : Prop := diskAllUptoRow.holds Try.pinned (OpenSpec.upto diskAllSpec)

/-- 'longeronlaw04.DiskActs', WHERE WHAT IT READS IS OF BULK AT MOST 1048576: true; the input reads as it did. -/
def diskActsUptoRow : OpenClaim := { program := "ytjncpincmkpdpaa", sum := "5a3fe8861bdcf792adfcd6b9c7bc0210305c0aafa4738b27f4e1acddf9de28ad", func := "longeron/longeronlaw04.DiskActs", spec := "diskActs", unfollowed := true, recurses := true, apart := false, narrowed := true }
def DiskActsUptoSaid : Prop := diskActsUptoRow.holds Try.pinned (OpenSpec.upto diskActsSpec)

/-- 'longeronlaw04.DiskNil', WHERE WHAT IT READS IS OF BULK AT MOST 1048576: true; the input reads as it did. -/
def diskNilUptoRow : OpenClaim := { program := "ytjncpincmkpdpaa", sum := "5a3fe8861bdcf792adfcd6b9c7bc0210305c0aafa4738b27f4e1acddf9de28ad", func := "longeron/longeronlaw04.DiskNil", spec := "diskNil", unfollowed := true, recurses := true, apart := false, narrowed := true }
def DiskNilUptoSaid : Prop := diskNilUptoRow.holds Try.pinned (OpenSpec.upto diskNilSpec)

/-- 'longeronlaw18.TimerOrder', WHERE WHAT IT READS IS OF BULK AT MOST 1048576: true; the input reads as it did. -/
def timerOrderUptoRow : OpenClaim := { program := "ytjncpincmkpdpaa", sum := "5a3fe8861bdcf792adfcd6b9c7bc0210305c0aafa4738b27f4e1acddf9de28ad", func := "longeron/longeronlaw18.TimerOrder", spec := "timerOrder", unfollowed := true, recurses := true, apart := false, narrowed := true }
def TimerOrderUptoSaid : Prop := timerOrderUptoRow.holds Try.pinned (OpenSpec.upto timerOrderSpec)

/-- 'longeronlaw18.TimerStops', WHERE WHAT IT READS IS OF BULK AT MOST 1048576: true; the input reads as it did. -/
def timerStopsUptoRow : OpenClaim := { program := "ytjncpincmkpdpaa", sum := "5a3fe8861bdcf792adfcd6b9c7bc0210305c0aafa4738b27f4e1acddf9de28ad", func := "longeron/longeronlaw18.TimerStops", spec := "timerStops", unfollowed := true, recurses := true, apart := false, narrowed := true }
def TimerStopsUptoSaid : Prop := timerStopsUptoRow.holds Try.pinned (OpenSpec.upto timerStopsSpec)

/-- 'longeronlaw18.TimerActs', WHERE WHAT IT READS IS OF BULK AT MOST 1048576: true; the input reads as it did. -/
def timerActsUptoRow : OpenClaim := { program := "ytjncpincmkpdpaa", sum := "5a3fe8861bdcf792adfcd6b9c7bc0210305c0aafa4738b27f4e1acddf9de28ad", func := "longeron/longeronlaw18.TimerActs", spec := "timerActs", unfollowed := true, recurses := true, apart := false, narrowed := true }
def TimerActsUptoSaid : Prop := timerActsUptoRow.holds Try.pinned (OpenSpec.upto timerActsSpec)

/-- 'longeronlaw18.TimerNil', WHERE WHAT IT READS IS OF BULK AT MOST 1048576: true; the input reads as it did. -/
def timerNilUptoRow : OpenClaim := { program := "ytjncpincmkpdpaa", sum := "5a3fe8861bdcf792adfcd6b9c7bc0210305c0aafa4738b27f4e1acddf9de28ad", func := "longeron/longeronlaw18.TimerNil", spec := "timerNil", unfollowed := true, recurses := true, apart := false, narrowed := true }
def TimerNilUptoSaid : Prop := timerNilUptoRow.holds Try.pinned (OpenSpec.upto timerNilSpec)

/-- 'longeronlaw26.TraceFree', WHERE WHAT IT READS IS OF BULK AT MOST 1048576: true; the input reads as it did. -/
def traceFreeUptoRow : OpenClaim := { program := "ytjncpincmkpdpaa", sum := "5a3fe8861bdcf792adfcd6b9c7bc0210305c0aafa4738b27f4e1acddf9de28ad", func := "longeron/longeronlaw26.TraceFree", spec := "traceFree", unfollowed := true, recurses := true, apart := false, narrowed := true }
def TraceFreeUptoSaid : Prop := traceFreeUptoRow.holds Try.pinned (OpenSpec.upto traceFreeSpec)

end Rows
end Go.Proofs.Ytjncpincmkpdpaa
