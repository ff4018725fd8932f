/-
  No cell of these rows narrows 'for every input' (looked for: loops, veiled, ifaces, maps, wideKeys, modest, calm, conditions, laid).
  DERIVED. THE GIVEN ROWS OF THIS SEAT. 11 by the template 'for every input the law returns true; each argument reads behind the call as it read before'; 0 by the template 'total and deterministic' (their statements: YtbnnfknkmelhaaaTotals.lean).
  GIVEN WITH THE SEED: the statements are not yours to turn. If you find one false, say at which input.
  Laid BY PROGRAM, IN A SANDBOX (cutbox-rows.mjs): the forced cells as the released guide's own fill.sh prints them over the translation 1a94ae0f55d72a13… (all of the seat's roots in one cut). By AI agents, Wed Nov 11 2026. No macro, syntax, notation, axiom, sorry.
-/
import Derived.Test.YtbnnfknkmelhaaaChecked
import GoSem.Claim
import GoSem.ClaimJoined
import GoSem.ClaimMapViews
import Derived.JoinedTies
import Derived.KernelRfl
namespace Go.Proofs.Ytbnnfknkmelhaaa
/- THE CELL 'sum', in the pinned program and in every row, IS THE sha256 OF THE DUMP (.gsa) THAT YtbnnfknkmelhaaaProg.lean LOADS. Nothing in Lean hashes anything: it is a label: what it is worth is what the hold of that sum in a sandbox is worth. -/
noncomputable def Try.pinned : Pinned := { name := "ytbnnfknkmelhaaa", sum := "1a94ae0f55d72a138bd7e4af8e86403acccd5994c0655cf36b1ea94d7e9e2a97", checked := Try.checked }
namespace Rows
def none {H : Type} : Left H := { results := [], args := [] }

/-- 'longeronlaw09.PlaceBlocks': WHATEVER THE INPUT: true; the input reads as it did. -/
def placeBlocksSpec : ChangeSpec := { name := "placeBlocks", fn := fun _ => fun
  | [d] => { results := [.lit (.bool true)], args := [d] }
  | _ => none }
def placeBlocksRow : OpenClaim := { program := "ytbnnfknkmelhaaa", sum := "1a94ae0f55d72a138bd7e4af8e86403acccd5994c0655cf36b1ea94d7e9e2a97", func := "longeron/longeronlaw09.PlaceBlocks", spec := "placeBlocks", unfollowed := true, recurses := true, apart := false }
def PlaceBlocksSaid : Prop := placeBlocksRow.holds Try.pinned (OpenSpec.ofChange placeBlocksSpec)

/-- ITS FALSE NEIGHBOUR: 'it returns false'. Refute it at one input. -/
def placeBlocksWrong : ChangeSpec := { name := "placeBlocks", fn := fun _ => fun
  | [d] => { results := [.lit (.bool false)], args := [d] }
  | _ => none }
def PlaceBlocksWrongFalsely : Prop := placeBlocksRow.holds Try.pinned (OpenSpec.ofChange placeBlocksWrong)

/-- 'longeronlaw09.PlaceSays': WHATEVER THE INPUT: true; the input reads as it did. -/
def placeSaysSpec : ChangeSpec := { name := "placeSays", fn := fun _ => fun
  | [d1, d2, d3] => { results := [.lit (.bool true)], args := [d1, d2, d3] }
  | _ => none }
def placeSaysRow : OpenClaim := { program := "ytbnnfknkmelhaaa", sum := "1a94ae0f55d72a138bd7e4af8e86403acccd5994c0655cf36b1ea94d7e9e2a97", func := "longeron/longeronlaw09.PlaceSays", spec := "placeSays", unfollowed := true, recurses := true, apart := false }
def PlaceSaysSaid : Prop := placeSaysRow.holds Try.pinned (OpenSpec.ofChange placeSaysSpec)

/-- ITS FALSE NEIGHBOUR: 'it returns false'. Refute it at one input. -/
def placeSaysWrong : ChangeSpec := { name := "placeSays", fn := fun _ => fun
  | [d1, d2, d3] => { results := [.lit (.bool false)], args := [d1, d2, d3] }
  | _ => none }
def PlaceSaysWrongFalsely : Prop := placeSaysRow.holds Try.pinned (OpenSpec.ofChange placeSaysWrong)

/-- 'longeronlaw09.PlaceRows': WHATEVER THE INPUT: true; the input reads as it did. -/
def placeRowsSpec : ChangeSpec := { name := "placeRows", fn := fun _ => fun
  | [d1, d2, d3] => { results := [.lit (.bool true)], args := [d1, d2, d3] }
  | _ => none }
def placeRowsRow : OpenClaim := { program := "ytbnnfknkmelhaaa", sum := "1a94ae0f55d72a138bd7e4af8e86403acccd5994c0655cf36b1ea94d7e9e2a97", func := "longeron/longeronlaw09.PlaceRows", spec := "placeRows", unfollowed := true, recurses := true, apart := false }
def PlaceRowsSaid : Prop := placeRowsRow.holds Try.pinned (OpenSpec.ofChange placeRowsSpec)

/-- ITS FALSE NEIGHBOUR: 'it returns false'. Refute it at one input. -/
def placeRowsWrong : ChangeSpec := { name := "placeRows", fn := fun _ => fun
  | [d1, d2, d3] => { results := [.lit (.bool false)], args := [d1, d2, d3] }
  | _ => none }
def PlaceRowsWrongFalsely : Prop := placeRowsRow.holds Try.pinned (OpenSpec.ofChange placeRowsWrong)

/-- 'longeronlaw09.PlaceApart': WHATEVER THE INPUT: true; the input reads as it did. -/
def placeApartSpec : ChangeSpec := { name := "placeApart", fn := fun _ => fun
  | [d] => { results := [.lit (.bool true)], args := [d] }
  | _ => none }
def placeApartRow : OpenClaim := { program := "ytbnnfknkmelhaaa", sum := "1a94ae0f55d72a138bd7e4af8e86403acccd5994c0655cf36b1ea94d7e9e2a97", func := "longeron/longeronlaw09.PlaceApart", spec := "placeApart", unfollowed := true, recurses := true, apart := false }
def PlaceApartSaid : Prop := placeApartRow.holds Try.pinned (OpenSpec.ofChange placeApartSpec)

/-- ITS FALSE NEIGHBOUR: 'it returns false'. Refute it at one input. -/
def placeApartWrong : ChangeSpec := { name := "placeApart", fn := fun _ => fun
  | [d] => { results := [.lit (.bool false)], args := [d] }
  | _ => none }
def PlaceApartWrongFalsely : Prop := placeApartRow.holds Try.pinned (OpenSpec.ofChange placeApartWrong)

/-- 'longeronlaw10.BitsRuns': WHATEVER THE INPUT: true; the input reads as it did. -/
def bitsRunsSpec : ChangeSpec := { name := "bitsRuns", fn := fun _ => fun
  | [d1, d2] => { results := [.lit (.bool true)], args := [d1, d2] }
  | _ => none }
def bitsRunsRow : OpenClaim := { program := "ytbnnfknkmelhaaa", sum := "1a94ae0f55d72a138bd7e4af8e86403acccd5994c0655cf36b1ea94d7e9e2a97", func := "longeron/longeronlaw10.BitsRuns", spec := "bitsRuns", unfollowed := true, recurses := true, apart := false }
def BitsRunsSaid : Prop := bitsRunsRow.holds Try.pinned (OpenSpec.ofChange bitsRunsSpec)

/-- ITS FALSE NEIGHBOUR: 'it returns false'. Refute it at one input. -/
def bitsRunsWrong : ChangeSpec := { name := "bitsRuns", fn := fun _ => fun
  | [d1, d2] => { results := [.lit (.bool false)], args := [d1, d2] }
  | _ => none }
def BitsRunsWrongFalsely : Prop := bitsRunsRow.holds Try.pinned (OpenSpec.ofChange bitsRunsWrong)

/-- 'longeronlaw10.BitsJoin': WHATEVER THE INPUT: true; the input reads as it did. -/
def bitsJoinSpec : ChangeSpec := { name := "bitsJoin", fn := fun _ => fun
  | [d1, d2] => { results := [.lit (.bool true)], args := [d1, d2] }
  | _ => none }
def bitsJoinRow : OpenClaim := { program := "ytbnnfknkmelhaaa", sum := "1a94ae0f55d72a138bd7e4af8e86403acccd5994c0655cf36b1ea94d7e9e2a97", func := "longeron/longeronlaw10.BitsJoin", spec := "bitsJoin", unfollowed := true, recurses := true, apart := false }
def BitsJoinSaid : Prop := bitsJoinRow.holds Try.pinned (OpenSpec.ofChange bitsJoinSpec)

/-- ITS FALSE NEIGHBOUR: 'it returns false'. Refute it at one input. -/
def bitsJoinWrong : ChangeSpec := { name := "bitsJoin", fn := fun _ => fun
  | [d1, d2] => { results := [.lit (.bool false)], args := [d1, d2] }
  | _ => none }
def BitsJoinWrongFalsely : Prop := bitsJoinRow.holds Try.pinned (OpenSpec.ofChange bitsJoinWrong)

/-- 'longeronlaw10.BitsWith': WHATEVER THE INPUT: true; the input reads as it did. -/
def bitsWithSpec : ChangeSpec := { name := "bitsWith", fn := fun _ => fun
  | [d1, d2, d3] => { results := [.lit (.bool true)], args := [d1, d2, d3] }
  | _ => none }
def bitsWithRow : OpenClaim := { program := "ytbnnfknkmelhaaa", sum := "1a94ae0f55d72a138bd7e4af8e86403acccd5994c0655cf36b1ea94d7e9e2a97", func := "longeron/longeronlaw10.BitsWith", spec := "bitsWith", unfollowed := true, recurses := true, apart := false }
def BitsWithSaid : Prop := bitsWithRow.holds Try.pinned (OpenSpec.ofChange bitsWithSpec)

/-- ITS FALSE NEIGHBOUR: 'it returns false'. Refute it at one input. -/
def bitsWithWrong : ChangeSpec := { name := "bitsWith", fn := fun _ => fun
  | [d1, d2, d3] => { results := [.lit (.bool false)], args := [d1, d2, d3] }
  | _ => none }
def BitsWithWrongFalsely : Prop := bitsWithRow.holds Try.pinned (OpenSpec.ofChange bitsWithWrong)

/-- 'longeronlaw10.BitsAll': WHATEVER THE INPUT: true; the input reads as it did. -/
def bitsAllSpec : ChangeSpec := { name := "bitsAll", fn := fun _ => fun
  | [d1, d2] => { results := [.lit (.bool true)], args := [d1, d2] }
  | _ => none }
def bitsAllRow : OpenClaim := { program := "ytbnnfknkmelhaaa", sum := "1a94ae0f55d72a138bd7e4af8e86403acccd5994c0655cf36b1ea94d7e9e2a97", func := "longeron/longeronlaw10.BitsAll", spec := "bitsAll", unfollowed := true, recurses := true, apart := false }
def BitsAllSaid : Prop := bitsAllRow.holds Try.pinned (OpenSpec.ofChange bitsAllSpec)

/-- ITS FALSE NEIGHBOUR: 'it returns false'. Refute it at one input. -/
def bitsAllWrong : ChangeSpec := { name := "bitsAll", fn := fun _ => fun
  | [d1, d2] => { results := [.lit (.bool false)], args := [d1, d2] }
  | _ => none }
def BitsAllWrongFalsely : Prop := bitsAllRow.holds Try.pinned (OpenSpec.ofChange bitsAllWrong)

/-- 'longeronlaw15.OpSizes': WHATEVER THE INPUT: true; the input reads as it did. -/
def opSizesSpec : ChangeSpec := { name := "opSizes", fn := fun _ => fun
  | [d] => { results := [.lit (.bool true)], args := [d] }
  | _ => none }
def opSizesRow : OpenClaim := { program := "ytbnnfknkmelhaaa", sum := "1a94ae0f55d72a138bd7e4af8e86403acccd5994c0655cf36b1ea94d7e9e2a97", func := "longeron/longeronlaw15.OpSizes", spec := "opSizes", apart := false }
def OpSizesSaid : Prop := opSizesRow.holds Try.pinned (OpenSpec.ofChange opSizesSpec)

/-- ITS FALSE NEIGHBOUR: 'it returns false'. Refute it at one input. -/
def opSizesWrong : ChangeSpec := { name := "opSizes", fn := fun _ => fun
  | [d] => { results := [.lit (.bool false)], args := [d] }
  | _ => none }
def OpSizesWrongFalsely : Prop := opSizesRow.holds Try.pinned (OpenSpec.ofChange opSizesWrong)

/-- 'longeronlaw15.OpPuts': WHATEVER THE INPUT: true; the input reads as it did. -/
def opPutsSpec : ChangeSpec := { name := "opPuts", fn := fun _ => fun
  | [d] => { results := [.lit (.bool true)], args := [d] }
  | _ => none }
def opPutsRow : OpenClaim := { program := "ytbnnfknkmelhaaa", sum := "1a94ae0f55d72a138bd7e4af8e86403acccd5994c0655cf36b1ea94d7e9e2a97", func := "longeron/longeronlaw15.OpPuts", spec := "opPuts", apart := false }
def OpPutsSaid : Prop := opPutsRow.holds Try.pinned (OpenSpec.ofChange opPutsSpec)

/-- ITS FALSE NEIGHBOUR: 'it returns false'. Refute it at one input. -/
def opPutsWrong : ChangeSpec := { name := "opPuts", fn := fun _ => fun
  | [d] => { results := [.lit (.bool false)], args := [d] }
  | _ => none }
def OpPutsWrongFalsely : Prop := opPutsRow.holds Try.pinned (OpenSpec.ofChange opPutsWrong)

/-- 'longeronlaw15.OpAt': WHATEVER THE INPUT: true; the input reads as it did. -/
def opAtSpec : ChangeSpec := { name := "opAt", fn := fun _ => fun
  | [d1, d2] => { results := [.lit (.bool true)], args := [d1, d2] }
  | _ => none }
def opAtRow : OpenClaim := { program := "ytbnnfknkmelhaaa", sum := "1a94ae0f55d72a138bd7e4af8e86403acccd5994c0655cf36b1ea94d7e9e2a97", func := "longeron/longeronlaw15.OpAt", spec := "opAt", apart := false }
def OpAtSaid : Prop := opAtRow.holds Try.pinned (OpenSpec.ofChange opAtSpec)

/-- ITS FALSE NEIGHBOUR: 'it returns false'. Refute it at one input. -/
def opAtWrong : ChangeSpec := { name := "opAt", fn := fun _ => fun
  | [d1, d2] => { results := [.lit (.bool false)], args := [d1, d2] }
  | _ => none }
def OpAtWrongFalsely : Prop := opAtRow.holds Try.pinned (OpenSpec.ofChange opAtWrong)

/- THE SECOND FORM. 'bulk': how many values and letters a reading holds, each counted each time it is reached (what is shared counts as often as it is met; a slice's spare places count too). A statement '..UptoSaid' is the law's where the arguments, and the package variables that the reading takes, are together of bulk at most 1048576: NARROWER than '..Said'. Prove '..Said' where nothing that the law and all that it calls make is longer than what came in: it says more and counts as full. Else prove '..UptoSaid'. A law counts once. -/
mutual
def uptoBulk {H : Type} : DataW H → Nat
  | .lit (.string bytes) => bytes.length + 1
  | .lit _ => 1
  | .nil => 1
  | .ptr d => uptoBulk d + 1
  | .slice elems spare => uptoBulkAll elems + uptoBulkAll spare + 1
  | .agg parts => uptoBulkAll parts + 1
  | .iface _ d => uptoBulk d + 1
  | .map entries => uptoBulkEntries entries + 1
  | .held _ => 1
def uptoBulkAll {H : Type} : List (DataW H) → Nat
  | [] => 0
  | d :: r => uptoBulk d + uptoBulkAll r
def uptoBulkEntries {H : Type} : List (Lit × DataW H) → Nat
  | [] => 0
  | x :: r => uptoBulkEntry x + uptoBulkEntries r
def uptoBulkEntry {H : Type} : Lit × DataW H → Nat
  | (.string bytes, d) => bytes.length + uptoBulk d + 1
  | (_, d) => uptoBulk d + 1
 end
def uptoSmall : (H : Type) → List (DataW H) → Bool := fun _ ds => decide (uptoBulkAll ds ≤ 1048576)
def OpenSpec.upto (s : _root_.Go.ChangeSpec) : _root_.Go.OpenSpec := { _root_.Go.OpenSpec.ofChange s with cond := some uptoSmall }

/-- 'longeronlaw09.PlaceBlocks', WHERE WHAT IT READS IS OF BULK AT MOST 1048576: true; the input reads as it did. -/
def placeBlocksUptoRow : OpenClaim := { program := "ytbnnfknkmelhaaa", sum := "1a94ae0f55d72a138bd7e4af8e86403acccd5994c0655cf36b1ea94d7e9e2a97", func := "longeron/longeronlaw09.PlaceBlocks", spec := "placeBlocks", unfollowed := true, recurses := true, apart := false, narrowed := true }
def PlaceBlocksUptoSaid : Prop := placeBlocksUptoRow.holds Try.pinned (OpenSpec.upto placeBlocksSpec)

/-- 'longeronlaw09.PlaceSays', WHERE WHAT IT READS IS OF BULK AT MOST 1048576: true; the input reads as it did. -/
def placeSaysUptoRow : OpenClaim := { program := "ytbnnfknkmelhaaa", sum := "1a94ae0f55d72a138bd7e4af8e86403acccd5994c0655cf36b1ea94d7e9e2a97", func := "longeron/longeronlaw09.PlaceSays", spec := "placeSays", unfollowed := true, recurses := true, apart := false, narrowed := true }
def PlaceSaysUptoSaid : Prop := placeSaysUptoRow.holds Try.pinned (OpenSpec.upto placeSaysSpec)

/-- 'longeronlaw09.PlaceRows', WHERE WHAT IT READS IS OF BULK AT MOST 1048576: true; the input reads as it did. -/
def placeRowsUptoRow : OpenClaim := { program := "ytbnnfknkmelhaaa", sum := "1a94ae0f55d72a138bd7e4af8e86403acccd5994c0655cf36b1ea94d7e9e2a97", func := "longeron/longeronlaw09.PlaceRows", spec := "placeRows", unfollowed := true, recurses := true, apart := false, narrowed := true }
def PlaceRowsUptoSaid : Prop := placeRowsUptoRow.holds Try.pinned (OpenSpec.upto placeRowsSpec)

/-- 'longeronlaw09.PlaceApart', WHERE WHAT IT READS IS OF BULK AT MOST 1048576: true; the input reads as it did. -/
def placeApartUptoRow : OpenClaim := { program := "ytbnnfknkmelhaaa", sum := "1a94ae0f55d72a138bd7e4af8e86403acccd5994c0655cf36b1ea94d7e9e2a97", func := "longeron/longeronlaw09.PlaceApart", spec := "placeApart", unfollowed := true, recurses := true, apart := false, narrowed := true }
def PlaceApartUptoSaid : Prop := placeApartUptoRow.holds Try.pinned (OpenSpec.upto placeApartSpec)

/-- 'longeronlaw10.BitsRuns', WHERE WHAT IT READS IS OF BULK AT MOST 1048576: true; the input reads as it did. -/
def bitsRunsUptoRow : OpenClaim := { program := "ytbnnfknkmelhaaa", sum := "1a94ae0f55d72a138bd7e4af8e86403acccd5994c0655cf36b1ea94d7e9e2a97", func := "longeron/longeronlaw10.BitsRuns", spec := "bitsRuns", unfollowed := true, recurses := true, apart := false, narrowed := true }
def BitsRunsUptoSaid : Prop := bitsRunsUptoRow.holds Try.pinned (OpenSpec.upto bitsRunsSpec)

/-- 'longeronlaw10.BitsJoin', WHERE WHAT IT READS IS OF BULK AT MOST 1048576: true; the input reads as it did. -/
def bitsJoinUptoRow : OpenClaim := { program := "ytbnnfknkmelhaaa", sum := "1a94ae0f55d72a138bd7e4af8e86403acccd5994c0655cf36b1ea94d7e9e2a97", func := "longeron/longeronlaw10.BitsJoin", spec := "bitsJoin", unfollowed := true, recurses := true, apart := false, narrowed := true }
def BitsJoinUptoSaid : Prop := bitsJoinUptoRow.holds Try.pinned (OpenSpec.upto bitsJoinSpec)

/-- 'longeronlaw10.BitsWith', WHERE WHAT IT READS IS OF BULK AT MOST 1048576: true; the input reads as it did. -/
def bitsWithUptoRow : OpenClaim := { program := "ytbnnfknkmelhaaa", sum := "1a94ae0f55d72a138bd7e4af8e86403acccd5994c0655cf36b1ea94d7e9e2a97", func := "longeron/longeronlaw10.BitsWith", spec := "bitsWith", unfollowed := true, recurses := true, apart := false, narrowed := true }
def BitsWithUptoSaid : Prop := bitsWithUptoRow.holds Try.pinned (OpenSpec.upto bitsWithSpec)

/-- 'longeronlaw10.BitsAll', WHERE WHAT IT READS IS OF BULK AT MOST 1048576: true; the input reads as it did. -/
def bitsAllUptoRow : OpenClaim := { program := "ytbnnfknkmelhaaa", sum := "1a94ae0f55d72a138bd7e4af8e86403acccd5994c0655cf36b1ea94d7e9e2a97", func := "longeron/longeronlaw10.BitsAll", spec := "bitsAll", unfollowed := true, recurses := true, apart := false, narrowed := true }
def BitsAllUptoSaid : Prop := bitsAllUptoRow.holds Try.pinned (OpenSpec.upto bitsAllSpec)

/-- 'longeronlaw15.OpSizes', WHERE WHAT IT READS IS OF BULK AT MOST 1048576: true; the input reads as it did. -/
def opSizesUptoRow : OpenClaim := { program := "ytbnnfknkmelhaaa", sum := "1a94ae0f55d72a138bd7e4af8e86403acccd5994c0655cf36b1ea94d7e9e2a97", func := "longeron/longeronlaw15.OpSizes", spec := "opSizes", apart := false, narrowed := true }
def OpSizesUptoSaid : Prop := opSizesUptoRow.holds Try.pinned (OpenSpec.upto opSizesSpec)

/-- 'longeronlaw15.OpPuts', WHERE WHAT IT READS IS OF BULK AT MOST 1048576: true; the input reads as it did. -/
def opPutsUptoRow : OpenClaim := { program := "ytbnnfknkmelhaaa", sum := "1a94ae0f55d72a138bd7e4af8e86403acccd5994c0655cf36b1ea94d7e9e2a97", func := "longeron/longeronlaw15.OpPuts", spec := "opPuts", apart := false, narrowed := true }
def OpPutsUptoSaid : Prop := opPutsUptoRow.holds Try.pinned (OpenSpec.upto opPutsSpec)

/-- 'longeronlaw15.OpAt', WHERE WHAT IT READS IS OF BULK AT MOST 1048576: true; the input reads as it did. -/
def opAtUptoRow : OpenClaim := { program := "ytbnnfknkmelhaaa", sum := "1a94ae0f55d72a138bd7e4af8e86403acccd5994c0655cf36b1ea94d7e9e2a97", func := "longeron/longeronlaw15.OpAt", spec := "opAt", apart := false, narrowed := true }
def OpAtUptoSaid : Prop := opAtUptoRow.holds Try.pinned (OpenSpec.upto opAtSpec)

end Rows
end Go.Proofs.Ytbnnfknkmelhaaa
