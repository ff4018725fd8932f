/-
  PROVED HERE: slices.Clone of rows of api.Sent and of ints.
  CONDITIONS: none.
-/
import Derived.Test.YtooagoikiafgcaaArgEv
import Derived.Test.YtooagoikiafgcaaMemMore
namespace Go.Proofs.Ytooagoikiafgcaa.joins
set_option linter.unusedVariables false
open Go.RowKit Go.Proofs.Ytooagoikiafgcaa.base Go.Proofs.Ytooagoikiafgcaa.obj Go.Proofs.Ytooagoikiafgcaa.mem Go.Proofs.Ytooagoikiafgcaa.tab

theorem infoSent : (Try.prog.info? 152).map (fun i => (i.zero, i.size, i.bytes)) = some (some (.agg #[.int .i64 0, .int .i64 0]), 2, 16) := by kernel_rfl
theorem slSent : SlT Try.prog 44 152 2 16 := by
  obtain ⟨i0, hi, hz0, hz1, hz2⟩ := info_parts infoSent
  exact ⟨Try.underlying44, ⟨i0, _, hi, hz0, hz1, hz2, rfl⟩, by decide⟩
theorem infoI : (Try.prog.info? 3).map (fun i => (i.zero, i.size, i.bytes)) = some (some (.int .i64 0), 1, 8) := by kernel_rfl
theorem slI : SlT Try.prog 30 3 1 8 := by
  obtain ⟨i0, hi, hz0, hz1, hz2⟩ := info_parts infoI
  exact ⟨Try.underlying30, ⟨i0, _, hi, hz0, hz1, hz2, rfl⟩, by decide⟩

set_option maxRecDepth 100000 in
set_option maxHeartbeats 2000000 in
theorem clone_sent (w : World) (A : Option Addr) (n c : Nat) (xs : List Value) (hs : Sl w w.heap.size 2 A n xs) (h1 : ∀ v ∈ xs, v.oneCell' = true) (hn : n ≤ 100000) :
    Calls Try.prog 105 #[.slice A n c] w fun e w' => ∃ A' c', e = .returned (.slice A' n c') ∧ w'.ownsRow w.heap.size 152 2 (.slice A' n c') n xs ∧ Below w.heap.size w w' := by
  cases A with
  | none =>
    have hn0 : n = 0 := by
      rcases Nat.eq_zero_or_pos n with h | h
      · exact h
      · obtain ⟨b, o, e, _⟩ := hs.2 h
        cases e
    subst hn0
    have hx : xs = [] := List.eq_nil_of_length_eq_zero (by simpa using hs.1)
    subst hx
    clear hs h1 hn
    have he : ∀ w : World, (binOp BinOp.eql 44 (Value.slice none 0 c) (Value.slice none 0 0)).run Try.prog w = .ok (.bool true) w := fun w => by kernel_rfl
    go_enter Try.func105, Try.ntmps105
    go_wp2_with (fail)
    go_ret
    exact ⟨none, 0, rfl, World.ownsRow_nil _ _ _ _, Below.refl _ _⟩
  | some a =>
    have HS := Lib.hid hs
    have H1 := Lib.hid h1
    clear hs h1
    have he : ∀ w : World, (binOp BinOp.eql 44 (Value.slice (some a) n c) (Value.slice none 0 0)).run Try.prog w = .ok (.bool false) w := fun w => by kernel_rfl
    have HB0 := Lib.hid ((Below.refl w.heap.size w).alloc (Nat.le_refl _) (.cells #[] 152))
    have HOW := Lib.hid ((Row.new w 152 #[]).own (base := w.heap.size) (size := 2) (n := 0) (cap := 0) (Nat.le_refl _) (Nat.le_refl _) (by decide) rfl)
    have HS0 := Lib.hid (HS.out.below HB0.out)
    go_enter Try.func105, Try.ntmps105
    go_wp2_with (refine app_sl slSent rfl (.tmp 5) (.tmp 6) rfl HOW.out rfl rfl (by simp) HS0.out H1.out (by omega) (by unfold maxLen; omega) (by simp) ?_; intro v2 w2 ho hg; have HO2 := Lib.hid ho; have HB2 := Lib.hid (below_own HB0.out HOW.out hg (by simp)); obtain ⟨A2, c2, e2, hc2, _⟩ := own_form ho; subst e2; clear ho hg)
    go_ret
    refine ⟨A2, c2, by simp, ?_, HB2.out⟩
    have h := HO2.out
    simpa using h

set_option maxRecDepth 100000 in
set_option maxHeartbeats 2000000 in
theorem clone_ints (w : World) (A : Option Addr) (n c : Nat) (xs : List Value) (hs : Sl w w.heap.size 1 A n xs) (h1 : ∀ v ∈ xs, v.oneCell' = true) (hn : n ≤ 100000) :
    Calls Try.prog 106 #[.slice A n c] w fun e w' => ∃ A' c', e = .returned (.slice A' n c') ∧ w'.ownsRow w.heap.size 3 1 (.slice A' n c') n xs ∧ Below w.heap.size w w' := by
  cases A with
  | none =>
    have hn0 : n = 0 := by
      rcases Nat.eq_zero_or_pos n with h | h
      · exact h
      · obtain ⟨b, o, e, _⟩ := hs.2 h
        cases e
    subst hn0
    have hx : xs = [] := List.eq_nil_of_length_eq_zero (by simpa using hs.1)
    subst hx
    clear hs h1 hn
    have he : ∀ w : World, (binOp BinOp.eql 30 (Value.slice none 0 c) (Value.slice none 0 0)).run Try.prog w = .ok (.bool true) w := fun w => by kernel_rfl
    go_enter Try.func106, Try.ntmps106
    go_wp2_with (fail)
    go_ret
    exact ⟨none, 0, rfl, World.ownsRow_nil _ _ _ _, Below.refl _ _⟩
  | some a =>
    have HS := Lib.hid hs
    have H1 := Lib.hid h1
    clear hs h1
    have he : ∀ w : World, (binOp BinOp.eql 30 (Value.slice (some a) n c) (Value.slice none 0 0)).run Try.prog w = .ok (.bool false) w := fun w => by kernel_rfl
    have HB0 := Lib.hid ((Below.refl w.heap.size w).alloc (Nat.le_refl _) (.cells #[] 3))
    have HOW := Lib.hid ((Row.new w 3 #[]).own (base := w.heap.size) (size := 1) (n := 0) (cap := 0) (Nat.le_refl _) (Nat.le_refl _) (by decide) rfl)
    have HS0 := Lib.hid (HS.out.below HB0.out)
    go_enter Try.func106, Try.ntmps106
    go_wp2_with (refine app_sl slI rfl (.tmp 5) (.tmp 6) rfl HOW.out rfl rfl (by simp) HS0.out H1.out (by omega) (by unfold maxLen; omega) (by simp) ?_; intro v2 w2 ho hg; have HO2 := Lib.hid ho; have HB2 := Lib.hid (below_own HB0.out HOW.out hg (by simp)); obtain ⟨A2, c2, e2, hc2, _⟩ := own_form ho; subst e2; clear ho hg)
    go_ret
    refine ⟨A2, c2, by simp, ?_, HB2.out⟩
    have h := HO2.out
    simpa using h
end Go.Proofs.Ytooagoikiafgcaa.joins
