/-
  PROVED HERE: a ground station that is not there: its Next and its Hear.
  CONDITIONS: none.
-/
import Derived.Test.YtjncpincmkpdpaaGroundOn
namespace Go.Proofs.Ytjncpincmkpdpaa.ground
set_option linter.unusedVariables false
open Go.RowKit Go.Proofs.Ytjncpincmkpdpaa.base Go.Proofs.Ytjncpincmkpdpaa.obj Go.Proofs.Ytjncpincmkpdpaa.mem Go.Proofs.Ytjncpincmkpdpaa.plan

set_option maxRecDepth 100000 in
set_option maxHeartbeats 2000000 in
theorem next_nil (w : World) (tick : Int) :
    Calls Try.prog 17 #[.pointer none, .int .i64 tick] w fun e w' => e = .returned (.tuple #[pdu 0 0 0 0 0 0 0 0 (.slice none 0 0), .bool false]) ∧ Below w.heap.size w w' := by
  have HB0 := Lib.hid ((Below.refl w.heap.size w).alloc (Nat.le_refl _) (.cells z9 28))
  have HRP := Lib.hid (Row.new w 28 z9)
  go_enter Try.func17, Try.ntmps17
  go_wp2_with (fail)
  refine bodyPost_ret (results_cell_slot rfl _ _ w.heap.size _ _ _ _ _ rfl rfl HRP.out Try.underlying28 rfl (by kernel_rfl)) rfl ?_
  exact ⟨rfl, HB0.out⟩

set_option maxRecDepth 100000 in
set_option maxHeartbeats 2000000 in
theorem hear_nil (w : World) (kind ses part no size what code have_ : Int) (data : Value) :
    Calls Try.prog 18 #[.pointer none, pdu kind ses part no size what code have_ data] w fun e w' => e = .returned (.tuple #[]) ∧ Below w.heap.size w w' := by
  unfold pdu
  have HB0 := Lib.hid (fun cs => (Below.refl w.heap.size w).alloc (Nat.le_refl _) (.cells cs 28))
  go_enter Try.func18, Try.ntmps18
  go_wp2_with (fail)
  refine bodyPost_ret (results_none rfl _ _ _) rfl ?_
  exact ⟨rfl, HB0.out _⟩

theorem sl_base {w : World} {B B' : Nat} {e : TypeId} {size : Nat} {v : Value} {n : Nat} {xs : List Value} (h : w.ownsRow B e size v n xs) (hb : B' ≤ B) : w.ownsRow B' e size v n xs := by
  obtain ⟨h1, h2⟩ := h
  refine ⟨h1, ?_⟩
  rcases h2 with hz | ⟨g, cap, cur, rfl, hg, rest⟩
  · exact .inl hz
  · exact .inr ⟨g, cap, cur, rfl, Nat.le_trans hb hg, rest⟩

theorem infoB : (Try.prog.info? 5).map (fun i => (i.zero, i.size, i.bytes)) = some (some (.int .u8 0), 1, 1) := by kernel_rfl
theorem slB : SlT Try.prog 22 5 1 1 := by
  obtain ⟨i0, hi, hz0, hz1, hz2⟩ := info_parts infoB
  exact ⟨Try.underlying22, ⟨i0, _, hi, hz0, hz1, hz2, rfl⟩, by decide⟩
set_option maxRecDepth 100000 in
set_option maxHeartbeats 2000000 in
/-- Go's clone of bytes: empty and not nil, or a row of the call's own -/
theorem clone_any (w : World) (A : Option Addr) (n c : Nat) (xs : List Value) (hs : Sl w w.heap.size 1 A n xs) (h1 : ∀ v ∈ xs, v.oneCell' = true) (hn : n ≤ 100000) :
    Calls Try.prog 59 #[.slice A n c] w fun e w' => ∃ A' c', e = .returned (.slice A' n c') ∧ n ≤ c' ∧ Sl w' w'.heap.size 1 A' n xs ∧ Below w.heap.size w w' := by
  cases A with
  | none =>
    have hn0 : n = 0 := by
      rcases Nat.eq_zero_or_pos n with h | h
      · exact h
      · obtain ⟨b, o, e, _⟩ := hs.2 h
        cases e
    subst hn0
    have HS := Lib.hid hs
    clear hs h1 hn
    have he : ∀ w : World, (binOp BinOp.eql 22 (Value.slice none 0 c) (Value.slice none 0 0)).run Try.prog w = .ok (.bool true) w := fun w => by kernel_rfl
    go_enter Try.func59, Try.ntmps59
    go_wp2_with (fail)
    go_ret
    exact ⟨none, 0, rfl, Nat.le_refl _, HS.out, Below.refl _ _⟩
  | some a =>
    have HS := Lib.hid hs
    have H1 := Lib.hid h1
    clear hs h1
    have he : ∀ w : World, (binOp BinOp.eql 22 (Value.slice (some a) n c) (Value.slice none 0 0)).run Try.prog w = .ok (.bool false) w := fun w => by kernel_rfl
    have HB0 := Lib.hid ((Below.refl w.heap.size w).alloc (Nat.le_refl _) (.cells #[] 5))
    have HOW := Lib.hid ((Row.new w 5 #[]).own (base := w.heap.size) (size := 1) (n := 0) (cap := 0) (Nat.le_refl _) (Nat.le_refl _) (by decide) rfl)
    have HS0 := Lib.hid (HS.out.below HB0.out)
    go_enter Try.func59, Try.ntmps59
    go_wp2_with (refine app_sl slB rfl (.tmp 5) (.tmp 6) rfl HOW.out rfl rfl (by simp) HS0.out H1.out (by omega) (by unfold maxLen; omega) (by simp) ?_; intro v2 w2 ho hg; have HO2 := Lib.hid ho; have HB2 := Lib.hid (below_own HB0.out HOW.out hg (by simp)); obtain ⟨A2, c2, e2, hc2, _⟩ := own_form ho; subst e2; clear ho hg)
    go_ret
    refine ⟨A2, c2, rfl, by omega, ?_, HB2.out⟩
    have h := Sl.of_own HO2.out
    simpa using h

set_option maxRecDepth 100000 in
set_option maxHeartbeats 2000000 in
/-- a new station: its block is new, its bytes a copy -/
theorem new_any (w : World) (part ses : Int) (A : Option Addr) (n c : Nat) (xs : List Value) (hs : Sl w w.heap.size 1 A n xs) (h1 : ∀ v ∈ xs, v.oneCell' = true) (hn : n ≤ 100000) :
    Calls Try.prog 16 #[.int .i64 part, .int .i64 ses, .slice A n c] w fun e w' => ∃ g A' c', e = .returned (.pointer (some ⟨g, 0, none⟩)) ∧ w.heap.size ≤ g ∧ GAt w' g ⟨part, ses, .slice A' n c', 1, 0, 0, false, 0⟩ ∧ n ≤ c' ∧ Sl w' g 1 A' n xs ∧ Below w.heap.size w w' := by
  have HC := Lib.hid (clone_any w A n c xs hs h1 hn)
  clear hs h1 hn
  go_enter Try.func16, Try.ntmps16
  go_wp2_with (fail)
  refine HC.out.mono ?_; rintro e w1 ⟨A', c', rfl, hc, hs, hb⟩
  have HS := Lib.hid hs; have HB := Lib.hid hb; have HCC := Lib.hid hc
  clear hs hb hc
  go_wp2_with (fail)
  go_ret
  refine ⟨w1.heap.size, A', c', rfl, HB.out.size, heap_alloc_new _ _, HCC.out, HS.out.below ((Below.refl _ _).alloc (Nat.le_refl _) _), HB.out.alloc HB.out.size _⟩

end Go.Proofs.Ytjncpincmkpdpaa.ground
