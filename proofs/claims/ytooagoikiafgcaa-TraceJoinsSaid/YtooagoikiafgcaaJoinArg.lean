/-
  PROVED HERE: how a log comes in, its nil slice told; plain Lean on rows' lengths.
  CONDITIONS: none.
-/
import Derived.Test.YtooagoikiafgcaaSame2
namespace Go.Proofs.Ytooagoikiafgcaa.joins
set_option linter.unusedVariables false
open Go.RowKit Go.ChangeShapes Go.WideShapes Go.ChangeAt Go.Deep Go.Joins Go.Proofs.Ytooagoikiafgcaa.base Go.Proofs.Ytooagoikiafgcaa.obj Go.Proofs.Ytooagoikiafgcaa.mem Go.Proofs.Ytooagoikiafgcaa.tab

theorem arg_nil {H : Type} {enc : TypeId × Value → H} {P : Program} {W : World} {r : Reach} {b0 : Nat} {t e : TypeId} {v : Value} {d : DataW H} {ps : List MemPlace} (ht : P.underlying t = some (.slice e))
    (hval : Value.okWide P W r b0 t v) (h : DataW.Trod enc P W 0 (fun _ => true) true t v d ps) : ∀ (A : Option Addr) (n c : Nat), v = .slice A n c → A = none → c = 0 := by
  rintro A n c rfl rfl
  obtain ⟨fuel, hf⟩ := h
  rcases open_slice ht hf with ⟨hcs, _⟩ | ⟨a, len', cap', m, k, D, Pl, hcs, _⟩
  · simp [Value.cells] at hcs
    exact hcs.2
  · simp [Value.cells] at hcs
set_option maxRecDepth 100000 in
set_option maxHeartbeats 4000000 in
theorem arg_evs2 {H : Type} {enc : TypeId × Value → H} {W : World} {r : Reach} {b0 : Nat} {v : Value} {d : DataW H} {ps : List MemPlace} (hval : Value.okWide Try.prog W r b0 41 v)
    (h : DataW.Trod enc Try.prog W 0 (fun _ => true) true 41 v d ps) : ∃ (A : Option Addr) (c : Nat) (l : List EvC), v = .slice A l.length c ∧ l.length ≤ maxLen ∧ Sl W W.heap.size 11 A l.length (evc l) ∧ (∀ x ∈ l, x.In W W.heap.size) ∧ (A = none → c = 0) := by
  obtain ⟨A, c, l, hv, h1, h2, h3⟩ := arg_evs hval h
  exact ⟨A, c, l, hv, h1, h2, h3, arg_nil Try.underlying41 hval h A l.length c hv⟩
theorem evc_app (a b : List EvC) : evc (a ++ b) = evc a ++ evc b := by simp [evc]
theorem rwc_app (a b : List RowC) : rwc (a ++ b) = rwc a ++ rwc b := by simp [rwc]
theorem EvC.one (x : EvC) : ∀ u ∈ x.cells, u.oneCell' = true := by
  intro u hu
  simp only [EvC.cells, List.mem_cons, List.not_mem_nil, or_false] at hu
  rcases hu with rfl | rfl | rfl | rfl | rfl | rfl | rfl | rfl | rfl | rfl | rfl <;> rfl
theorem evc_one (l : List EvC) : ∀ u ∈ evc l, u.oneCell' = true := by
  intro u hu
  obtain ⟨x, _, h⟩ := List.mem_flatMap.1 hu
  exact x.one u h
theorem rwc_one (l : List RowC) : ∀ u ∈ rwc l, u.oneCell' = true := by
  intro u hu
  obtain ⟨x, _, h⟩ := List.mem_flatMap.1 hu
  exact x.one u h
theorem infoEv : (Try.prog.info? 49).map (fun i => (i.zero, i.size, i.bytes)) = some (some (.agg #[.int .i64 0, .slice none 0 0, .int .i64 0, .slice none 0 0, .bool false, .int .i64 0, .slice none 0 0, .slice none 0 0, .int .i64 0, .int .i64 0, .bool false]), 11, 152) := by kernel_rfl
theorem slEv : SlT Try.prog 41 49 11 152 := by
  obtain ⟨i0, hi, hz0, hz1, hz2⟩ := info_parts infoEv
  exact ⟨Try.underlying41, ⟨i0, _, hi, hz0, hz1, hz2, rfl⟩, by decide⟩
/-- an event whose slices are short -/
def EvC.Small (x : EvC) : Prop := x.d.booted.length ≤ 100000 ∧ x.d.sent.length ≤ 100000 ∧ x.d.stack.length ≤ 100000 ∧ x.d.mem.length ≤ 100000
theorem row_small {part : Int} {l : List EvC} (h : ∀ x ∈ l, x.Small) {rs : List RowC} (hr : rs.map RowC.d = viewL part (l.map EvC.d)) : ∀ x ∈ rs, x.d.sent.length ≤ 1000000 ∧ x.d.stack.length ≤ 1000000 ∧ x.d.mem.length ≤ 1000000 := by
  intro x hx
  have h1 : x.d ∈ viewL part (l.map EvC.d) := by rw [← hr]; exact List.mem_map.2 ⟨x, hx, rfl⟩
  unfold viewL at h1
  have h2 := (List.mem_filter.1 h1).1
  obtain ⟨v, hv, he⟩ := List.mem_map.1 h2
  obtain ⟨y, hy, rfl⟩ := List.mem_map.1 hv
  obtain ⟨_, s1, s2, s3⟩ := h y hy
  rw [← he]
  unfold rowOf
  dsimp only
  split
  · exact ⟨by dsimp only; omega, by dsimp only; omega, by dsimp only; omega⟩
  · exact ⟨by simp, by simp, by simp⟩
theorem view_len2 {part : Int} {l : List EvC} {rs : List RowC} (hr : rs.map RowC.d = viewL part (l.map EvC.d)) : rs.length ≤ l.length := by
  have h := congrArg List.length hr
  have h2 := viewL_len part (l.map EvC.d)
  rw [List.length_map] at h h2
  omega
end Go.Proofs.Ytooagoikiafgcaa.joins
