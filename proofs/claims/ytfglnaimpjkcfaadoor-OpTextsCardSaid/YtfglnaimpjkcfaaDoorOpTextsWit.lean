/-
  PROVED HERE: what the row's list gives the walk; a world that holds all that the list names.
  CONDITIONS: none.
-/
import Derived.Test.YtfglnaimpjkcfaaDoorCards
import Derived.Test.YtfglnaimpjkcfaaDoorTie
import Derived.WalkKit
import Derived.ProofKit
import Derived.OpenShut
import Derived.Deep.DeepHandedRow
import Derived.Lib.LaidTab
import Derived.Test.YtfglnaimpjkcfaaDoorOpTexts
namespace Go.Proofs.YtfglnaimpjkcfaaDoor.opTexts
open Go.ChangeShapes Go.WideShapes Go.ChangeAt Go.RowKit

theorem own : ownKnob Tryd.prog.godebug = none := by kernel_rfl
theorem gTab : Tryd.prog.globalNamed "internal/strconv.uint64pow10" = some 1 := by kernel_rfl
theorem gTabType : (Tryd.prog.globals[1]?).map (·.type) = some 87 := by kernel_rfl
theorem cellsT : Tryd.prog.cellsOf 87 = 20 := by kernel_rfl
theorem cellsE : Tryd.prog.cellsOf 68 = 1 := by kernel_rfl
/-- what the row's list gives -/
theorem table {W : World} (h : laidMetH Tryd.prog Rows.opTextsRow.laid W) : Lib.TabIs Tryd.prog W "internal/strconv.uint64pow10" .u64 Lib.pow10Tab := by
  have h' : laidMet Tryd.prog Rows.opTextsRow.laid W := h
  obtain ⟨ps, ⟨_, _, _, _, _, _, _, _, _, _, ⟨_, _, _, _, _, _, _, _, _, _, ⟨g', t', cs, fuel, p, q, hg', ht', hvar, hd, _, _⟩, _⟩, _⟩, _⟩ := h'
  obtain rfl := Option.some.inj (gTab.symm.trans hg')
  obtain rfl := Option.some.inj (gTabType.symm.trans ht')
  unfold Lib.TabIs
  rw [hvar, ← Lib.cells_of_tab Tryd.underlying87 Tryd.underlying68 cellsE cellsT (zs := Lib.pow10Tab) (k := .u64) hd]

/-- a world for the witness -/
def layAt (h : Array Obj) (g : Nat) (cs : Array Value) : Array Obj := h.modify g fun
  | .cells _ t frozen => .cells cs t frozen
  | o => o
def litsOf : DataW Unit → List Value
  | .agg l => l.flatMap fun x => match x with
    | .lit (.int k z) => [Value.int k z]
    | .agg m => m.filterMap fun y => match y with
      | .lit (.int k z) => some (Value.int k z)
      | _ => none
    | _ => []
  | _ => []
noncomputable def low : Nat := (World.holding Tryd.prog default ⟨#[], #[], []⟩).heap.size
noncomputable def laidWorld (os : Os) : World :=
  let w0 := World.holding Tryd.prog os ⟨#[.cells #[.string ⟨#[118, 97, 108, 117, 101, 32, 111, 117, 116, 32, 111, 102, 32, 114, 97, 110, 103, 101]⟩] 111, .cells #[.string ⟨#[105, 110, 118, 97, 108, 105, 100, 32, 115, 121, 110, 116, 97, 120]⟩] 111], #[], []⟩
  { w0 with heap := layAt (layAt (layAt (layAt (layAt (layAt (layAt w0.heap 1 (litsOf Rows.laid_internal_strconv_uint64pow10).toArray) 6 (litsOf Rows.laid_math_bits_deBruijn32tab).toArray) 7 (litsOf Rows.laid_math_bits_deBruijn64tab).toArray) 4 (litsOf Rows.laid_unicode_utf8_first).toArray) 5 (litsOf Rows.laid_unicode_utf8_acceptRanges).toArray) 3 #[.iface 109 (.pointer (some ⟨low, 0, none⟩))]) 2 #[.iface 109 (.pointer (some ⟨low + 1, 0, none⟩))] }
theorem laid_met (os : Os) : laidMet Tryd.prog Rows.opTextsRow.laid ((laidWorld os).forCall (fun _ _ => 0) ⟨#[], #[.agg #[.int .i64 0, .int .i64 0], .string ⟨#[]⟩], []⟩).memory :=
  laidMet_of_run' 8 (by kernel_rfl) (by kernel_rfl)
end Go.Proofs.YtfglnaimpjkcfaaDoor.opTexts
