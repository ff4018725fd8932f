/-
  PROVED HERE: Go's clone of bytes as a row of the call's own.
  CONDITIONS: the bytes are the ones that lie in the slice.
-/
import Derived.Test.YtooagoikiafgcaaMem
namespace Go.Proofs.Ytooagoikiafgcaa.bytes
set_option linter.unusedVariables false
open Go.RowKit Go.Proofs.Ytooagoikiafgcaa.base Go.Proofs.Ytooagoikiafgcaa.obj Go.Proofs.Ytooagoikiafgcaa.mem

theorem infoB : (Try.prog.info? 5).map (fun i => (i.zero, i.size, i.bytes)) = some (some (.int .u8 0), 1, 1) := by kernel_rfl
theorem slB : SlT Try.prog 76 5 1 1 := by
  obtain ⟨i0, hi, hz0, hz1, hz2⟩ := info_parts infoB
  exact ⟨Try.underlying76, ⟨i0, _, hi, hz0, hz1, hz2, rfl⟩, by decide⟩
theorem map_one (bs : List Int) : ∀ v ∈ bs.map (Value.int .u8), v.oneCell' = true := by
  intro v hv
  obtain ⟨_, _, rfl⟩ := List.mem_map.1 hv
  rfl

set_option maxRecDepth 100000 in
set_option maxHeartbeats 2000000 in
/-- Go's clone of bytes -/
theorem clone_own (w : World) (A : Option Addr) (n c : Nat) (xs : List Value) (hs : Sl w w.heap.size 1 A n xs) (h1 : ∀ v ∈ xs, v.oneCell' = true) (hn : n ≤ 1000000) :
    Calls Try.prog 139 #[.slice A n c] w fun e w' => ∃ v, e = .returned v ∧ w'.ownsRow w.heap.size 5 1 v n xs ∧ Below w.heap.size w w' := by
  cases A with
  | none =>
    have hn0 : n = 0 := by
      rcases Nat.eq_zero_or_pos n with h | h
      · exact h
      · obtain ⟨b, o, e, _⟩ := hs.2 h
        cases e
    subst hn0
    have HS := Lib.hid hs.1
    clear hs h1 hn
    have he : ∀ w : World, (binOp BinOp.eql 76 (Value.slice none 0 c) (Value.slice none 0 0)).run Try.prog w = .ok (.bool true) w := fun w => by kernel_rfl
    go_enter Try.func139, Try.ntmps139
    go_wp2_with (fail)
    go_ret
    exact ⟨_, rfl, ⟨HS.out, .inl ⟨rfl, rfl⟩⟩, Below.refl _ _⟩
  | some a =>
    have HS := Lib.hid hs
    have H1 := Lib.hid h1
    clear hs h1
    have he : ∀ w : World, (binOp BinOp.eql 76 (Value.slice (some a) n c) (Value.slice none 0 0)).run Try.prog w = .ok (.bool false) w := fun w => by kernel_rfl
    have HB0 := Lib.hid ((Below.refl w.heap.size w).alloc (Nat.le_refl _) (.cells #[] 5))
    have HOW := Lib.hid ((Row.new w 5 #[]).own (base := w.heap.size) (size := 1) (n := 0) (cap := 0) (Nat.le_refl _) (Nat.le_refl _) (by decide) rfl)
    have HS0 := Lib.hid (HS.out.below HB0.out)
    go_enter Try.func139, Try.ntmps139
    go_wp2_with (refine app_sl slB rfl (.tmp 5) (.tmp 6) rfl HOW.out rfl rfl (by simp) HS0.out H1.out (by omega) (by unfold maxLen; omega) (by simp) ?_; intro v2 w2 ho hg; have HO2 := Lib.hid ho; have HB2 := Lib.hid (below_own HB0.out HOW.out hg (by simp)); clear ho hg)
    go_ret
    refine ⟨v2, rfl, ?_, HB2.out⟩
    have h := HO2.out
    simpa using h
end Go.Proofs.Ytooagoikiafgcaa.bytes
