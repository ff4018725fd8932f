/-
  PROVED HERE: how bytes come in, with their room.
  CONDITIONS: none.
-/
import Derived.Test.YtooagoikiafgcaaLiftField
import Derived.Test.YtooagoikiafgcaaCrc
namespace Go.Proofs.Ytooagoikiafgcaa.lift
set_option linter.unusedVariables false
open Go.RowKit Go.ChangeShapes Go.WideShapes Go.Deep Go.Proofs.Ytooagoikiafgcaa.base

theorem wf_byt {zs : List Int} (h : ∀ z ∈ zs, (Lit.int .u8 z).wf = true) : Go.Proofs.Ytooagoikiafgcaa.crc.Byt zs := fun z hz => by
  have h1 : IntKind.u8.min = 0 := rfl
  have h2 : IntKind.u8.max = 255 := rfl
  have h := h z hz
  simp only [Lit.wf, Bool.and_eq_true, decide_eq_true_eq] at h
  omega
set_option maxRecDepth 100000 in
theorem arg_bytes {H : Type} {enc : TypeId × Value → H} {W : World} {r : Reach} {b0 : Nat} {v : Value} {d : DataW H} {ps : List MemPlace} (hval : Value.okWide Try.prog W r b0 76 v)
    (h : DataW.Trod enc Try.prog W 0 (fun _ => true) true 76 v d ps) : ∃ (A : Option Addr) (c : Nat) (zs : List Int), v = .slice A zs.length c ∧ zs.length ≤ maxLen ∧ zs.length ≤ c ∧ (A = none → c = 0) ∧ Sl W W.heap.size 1 A zs.length (zs.map (.int .u8)) ∧ Go.Proofs.Ytooagoikiafgcaa.crc.Byt zs := by
  obtain ⟨a0, len, cap, rfl⟩ := okWide_slice Try.underlying76 hval
  obtain ⟨fuel, hf⟩ := h
  have hf' : DataW.trod enc Try.prog W 0 (fun _ => true) true fuel 76 [.slice a0 len cap] = some (d, ps) := hf
  have key : a0 = none → cap = 0 := by
    rcases open_slice Try.underlying76 hf with ⟨hcs, _⟩ | ⟨a, len', cap', m, k, D, Pl, hcs, _, hl, hm, hmm, _, hx⟩
    · simp [Value.cells] at hcs
      exact fun _ => hcs.2.2
    · simp [Value.cells] at hcs
      intro e
      rw [hcs.1] at e
      cases e
  obtain ⟨A, c, zs, hv, hc, hm, hs, hw⟩ := field_ints Try.underlying76 Try.underlying5 (by kernel_rfl) hf'
  injection hv with e1 e2 e3
  subst e1; subst e2; subst e3
  exact ⟨_, _, zs, rfl, hm, hc, key, hs, wf_byt hw⟩
end Go.Proofs.Ytooagoikiafgcaa.lift
