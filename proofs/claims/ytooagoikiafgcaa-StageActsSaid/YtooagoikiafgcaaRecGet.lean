/-
  PROVED HERE: the record of a sector, or the error that refuses it.
  CONDITIONS: the contract names its own.
-/
import Derived.Test.YtooagoikiafgcaaRecOpened
import Derived.Test.YtooagoikiafgcaaRes
namespace Go.Proofs.Ytooagoikiafgcaa.record
set_option linter.unusedVariables false
open Go.RowKit Go.Proofs.Ytooagoikiafgcaa.base Go.Proofs.Ytooagoikiafgcaa.obj Go.Proofs.Ytooagoikiafgcaa.mem Go.Proofs.Ytooagoikiafgcaa.crc Go.Proofs.Ytooagoikiafgcaa.num Go.Proofs.Ytooagoikiafgcaa.bytes Go.Proofs.Ytooagoikiafgcaa.plan

set_option maxHeartbeats 1000000 in
/-- bytes of another length -/
theorem opened_len (w : World) (A : Option Addr) (n c : Nat) (hn : n ≠ 64) (mark : Nat) (F : Value) : Calls Try.prog 109 #[.slice A n c, .int .i64 mark, F] w fun e w' => e = .returned (.int .i64 14) ∧ w' = w := by
  have e1 : ((n : Int) != 64) = true := by simp; omega
  have e2 : (n != 64) = true := by simpa using hn
  clear hn
  go_enter Try.func109, Try.ntmps109
  go_wp2_with (fail)
  go_ret
  exact ⟨rfl, rfl⟩

def Rec.zero : Rec := ⟨0, 0, 0, 0, 0, 0⟩
/-- the numbers of a sector, as a record -/
def gotRec (bs : List Int) : Rec := ⟨(got recWidths bs 0 : Nat), (got recWidths bs 1 : Nat), (got recWidths bs 2 : Nat), (got recWidths bs 3 : Nat), (got recWidths bs 4 : Nat), (got recWidths bs 5 : Nat)⟩
/-- the record of bytes, and the error -/
def getRec (bs : List Int) : Rec × Int :=
  if bs.length = 64 then (if openE 19523 11 bs = 0 then (if (gotRec bs).right then (gotRec bs, 0) else (Rec.zero, 3)) else (Rec.zero, openE 19523 11 bs)) else (Rec.zero, 14)
theorem gotRec_cells (bs : List Int) : (List.range 6).map (fun i => Value.int .i64 (got recWidths bs i : Nat)) = (gotRec bs).cells.toList := rfl
theorem rec_one (r : Rec) : ∀ v ∈ r.cells.toList, v.oneCell' = true := by
  intro v hv
  simp only [Rec.cells, List.mem_cons, List.not_mem_nil, or_false] at hv
  rcases hv with rfl | rfl | rfl | rfl | rfl | rfl <;> rfl

end Go.Proofs.Ytooagoikiafgcaa.record
