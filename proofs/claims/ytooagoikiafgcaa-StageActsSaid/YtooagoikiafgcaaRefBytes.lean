/-
  PROVED HERE: a record's sector, as the document tells it.
  CONDITIONS: the record is right.
-/
import Derived.Test.YtooagoikiafgcaaRefSeal
namespace Go.Proofs.Ytooagoikiafgcaa.refRec
set_option linter.unusedVariables false
open Go.RowKit Go.Proofs.Ytooagoikiafgcaa.base Go.Proofs.Ytooagoikiafgcaa.obj Go.Proofs.Ytooagoikiafgcaa.mem Go.Proofs.Ytooagoikiafgcaa.crc Go.Proofs.Ytooagoikiafgcaa.num Go.Proofs.Ytooagoikiafgcaa.bytes Go.Proofs.Ytooagoikiafgcaa.record Go.Proofs.Ytooagoikiafgcaa.refNum

theorem be_one (n : Nat) (h : n < 256) : be 1 n = [(n : Int)] := by
  simp [be, digit]
  omega
theorem rec_in {r : Rec} (h : r.right = true) : (0 ≤ r.part ∧ r.part ≤ 3) ∧ (1 ≤ r.seq ∧ r.seq ≤ 4294967295) ∧ (0 ≤ r.active ∧ r.active ≤ 1) ∧ (0 ≤ r.confirmed ∧ r.confirmed ≤ 1) ∧ (0 ≤ r.left ∧ r.left ≤ 7) ∧ (0 ≤ r.bad ∧ r.bad ≤ 3) := by
  simp [Rec.right] at h
  obtain ⟨⟨⟨⟨⟨⟨⟨h1, h2⟩, h3⟩, h4⟩, h5⟩, _⟩, h7⟩, _⟩ := h
  exact ⟨h1, h2, h3, h4, h5, h7⟩
theorem head_eq {r : Rec} (h : r.right = true) : r.head = [76, 67, r.part] ++ be 4 r.seq.toNat ++ [r.active, r.confirmed, r.left, r.bad] := by
  obtain ⟨⟨a1, a2⟩, ⟨b1, b2⟩, ⟨c1, c2⟩, ⟨d1, d2⟩, ⟨e1, e2⟩, ⟨f1, f2⟩⟩ := rec_in h
  unfold Rec.head pre
  simp only [List.range_succ, List.range_zero, List.nil_append, List.flatMap_append, List.flatMap_cons, List.flatMap_nil, List.append_nil, Rec.nums]
  simp only [List.getD_cons_zero, List.getD_cons_succ]
  rw [be_one _ (by omega), be_one _ (by omega), be_one _ (by omega), be_one _ (by omega), be_one _ (by omega), show be 2 19523 = [76, 67] by decide]
  simp
  omega

end Go.Proofs.Ytooagoikiafgcaa.refRec
