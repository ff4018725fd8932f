/-
  PROVED HERE: longeronlaw07.wakes returns true and leaves memory as it was.
  CONDITIONS: none.
-/
import Derived.Test.YtooagoikiafgcaaRecMath
import Derived.Test.YtooagoikiafgcaaSame
import Derived.Deep.RegionHeld3
namespace Go.Proofs.Ytooagoikiafgcaa.record
set_option linter.unusedVariables false
open Go.RowKit Go.Proofs.Ytooagoikiafgcaa.base Go.Proofs.Ytooagoikiafgcaa.obj Go.Proofs.Ytooagoikiafgcaa.mem Go.Proofs.Ytooagoikiafgcaa.crc Go.Proofs.Ytooagoikiafgcaa.num Go.Proofs.Ytooagoikiafgcaa.bytes Go.Proofs.Ytooagoikiafgcaa.plan Go.Proofs.Ytooagoikiafgcaa.same

def wkRec : Rec := ⟨0, 1, 0, 0, 0, 0⟩
set_option maxRecDepth 100000 in
theorem wk_rec : wkRec.right = true ∧ wkRec.bytes[0]? = some 76 ∧ wkRec.bytes[1]? = some 67 ∧ wkRec.bytes.drop 15 = List.replicate 49 0 := by
  refine ⟨by decide, by decide +kernel, by decide +kernel, by decide +kernel⟩
theorem make49 (w : World) : (Instr.makeSlice 76 (.int .i64 49) (.int .i64 49)).run Try.prog w = .ok (.slice (some ⟨w.heap.size, 0, none⟩) 49 49) (w.alloc (.cells (Array.replicate 49 (.int .u8 0)) 5)) := by
  have h := make_eq 49 (by decide) w
  rw [show ((49 : Nat) : Int) = 49 from rfl] at h
  rw [h]
  rfl

end Go.Proofs.Ytooagoikiafgcaa.record
