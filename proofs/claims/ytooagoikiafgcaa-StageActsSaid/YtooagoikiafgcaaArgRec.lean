/-
  PROVED HERE: how a record and a stage come in.
  CONDITIONS: none.
-/
import Derived.Test.YtooagoikiafgcaaRecWakes
import Derived.Test.YtooagoikiafgcaaLiftField
namespace Go.Proofs.Ytooagoikiafgcaa.record
set_option linter.unusedVariables false
open Go.RowKit Go.ChangeShapes Go.WideShapes Go.ChangeAt Go.Deep Go.Joins Go.Proofs.Ytooagoikiafgcaa.base Go.Proofs.Ytooagoikiafgcaa.obj Go.Proofs.Ytooagoikiafgcaa.mem

def InI (n : Int) : Prop := -9223372036854775808 ≤ n ∧ n ≤ 9223372036854775807
theorem inI_of {s : Int} (h : (Lit.int .i64 s).wf = true) : InI s := by
  have h1 : IntKind.i64.min = -9223372036854775808 := rfl
  have h2 : IntKind.i64.max = 9223372036854775807 := rfl
  simp only [Lit.wf, Bool.and_eq_true, decide_eq_true_eq] at h
  unfold InI
  omega
structure Rec.In (r : Rec) : Prop where
  part : InI r.part
  seq : InI r.seq
  active : InI r.active
  confirmed : InI r.confirmed
  left : InI r.left
  bad : InI r.bad
structure Stg.In (s : Stg) : Prop where
  session : InI s.session
  size : InI s.size
  have_ : InI s.have_
set_option maxRecDepth 100000 in
theorem arg_stg {H : Type} {enc : TypeId × Value → H} {W : World} {r : Reach} {b0 : Nat} {v : Value} {d : DataW H} {ps : List MemPlace} (hval : Value.okWide Try.prog W r b0 96 v)
    (h : DataW.Trod enc Try.prog W 0 (fun _ => true) true 96 v d ps) : ∃ s : Stg, v = s.val ∧ s.In := by
  obtain ⟨cs, rfl, hl⟩ := okWide_struct Try.underlying96 hval
  obtain ⟨fuel, hx⟩ := h
  have hl3 : cs.toList.length = 3 := by rw [Array.length_toList, hl]; kernel_rfl
  have hf := Go.Proofs.Ytooagoikiafgcaa.lift.row_fields Try.underlying96 (by kernel_rfl) (by rw [show (Value.agg cs).cells.toList = cs.toList from rfl]; exact hl3) hx
  obtain ⟨v0, k0, y0, g0, t0⟩ := hf 0 _ rfl
  obtain ⟨v1, k1, y1, g1, t1⟩ := hf 1 _ rfl
  obtain ⟨v2, k2, y2, g2, t2⟩ := hf 2 _ rfl
  obtain ⟨a0, h0, _, w0⟩ := DataW.trod_int Try.underlying3 t0
  obtain ⟨a1, h1, _, w1⟩ := DataW.trod_int Try.underlying3 t1
  obtain ⟨a2, h2, _, w2⟩ := DataW.trod_int Try.underlying3 t2
  simp at h0 h1 h2
  subst h0; subst h1; subst h2
  refine ⟨⟨a0, a1, a2⟩, ?_, ⟨inI_of w0, inI_of w1, inI_of w2⟩⟩
  obtain ⟨l⟩ := cs
  match hqi : l, hl3 with
  | [u0, u1, u2], _ =>
    simp [Value.cells] at g0 g1 g2
    rw [g0, g1, g2]
    rfl
/-- a record's cells -/
theorem Rec.read {w : World} {g : Nat} {t : TypeId} {r : Rec} (h : Row w g t r.cells.toList) : w.cell? ⟨g, 0, none⟩ = some (.int .i64 r.part) ∧ w.cell? ⟨g, 1, none⟩ = some (.int .i64 r.seq) ∧ w.cell? ⟨g, 2, none⟩ = some (.int .i64 r.active) ∧
    w.cell? ⟨g, 3, none⟩ = some (.int .i64 r.confirmed) ∧ w.cell? ⟨g, 4, none⟩ = some (.int .i64 r.left) ∧ w.cell? ⟨g, 5, none⟩ = some (.int .i64 r.bad) := ⟨h.cell 0, h.cell 1, h.cell 2, h.cell 3, h.cell 4, h.cell 5⟩
theorem Rec.val_eq (r : Rec) : r.val = .agg #[.int .i64 r.part, .int .i64 r.seq, .int .i64 r.active, .int .i64 r.confirmed, .int .i64 r.left, .int .i64 r.bad] := rfl
theorem Stg.read {w : World} {g : Nat} {t : TypeId} {s : Stg} (h : Row w g t s.cells.toList) : w.cell? ⟨g, 0, none⟩ = some (.int .i64 s.session) ∧ w.cell? ⟨g, 1, none⟩ = some (.int .i64 s.size) ∧ w.cell? ⟨g, 2, none⟩ = some (.int .i64 s.have_) := ⟨h.cell 0, h.cell 1, h.cell 2⟩
theorem Stg.val_eq (s : Stg) : s.val = .agg #[.int .i64 s.session, .int .i64 s.size, .int .i64 s.have_] := rfl
end Go.Proofs.Ytooagoikiafgcaa.record
