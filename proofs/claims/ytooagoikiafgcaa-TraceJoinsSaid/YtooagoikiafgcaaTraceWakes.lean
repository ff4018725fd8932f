/-
  PROVED HERE: longeronlaw26.wakes returns true and leaves memory as it was.
  CONDITIONS: each lemma names its own.
-/
import Derived.Test.YtooagoikiafgcaaTabStarts
import Derived.Test.YtooagoikiafgcaaTimerWakes
namespace Go.Proofs.Ytooagoikiafgcaa.tab
set_option linter.unusedVariables false
open Go.RowKit Go.Proofs.Ytooagoikiafgcaa.base Go.Proofs.Ytooagoikiafgcaa.obj Go.Proofs.Ytooagoikiafgcaa.mem Go.Proofs.Ytooagoikiafgcaa.sep Go.Proofs.Ytooagoikiafgcaa.plan

def tabEx : Tab := ⟨4, [⟨1, 1, 0⟩, ⟨1, 1, 0⟩, ⟨1, 1, 0⟩], [⟨0, 0, 1⟩], [], 1⟩
theorem ex_right : tabEx.right = true := by decide +kernel
theorem ex_free : freeL tabEx 1 = [2] := by decide +kernel
theorem ex_bound : boundV tabEx 3 1 = 1560 := by decide +kernel
set_option maxRecDepth 100000 in
set_option maxHeartbeats 4000000 in
theorem example_at (w : World) : Calls Try.prog 58 #[] w fun e w' => ∃ AP cP AW cW, e = .returned (tabAgg 4 AP 3 cP AW 1 cW none 0 0 1) ∧ TabV w' w'.heap.size tabEx AP 3 cP AW 1 cW none 0 0 ∧ Below w.heap.size w w' := by
  go_enter Try.func58, Try.ntmps58
  go_upto_region 2 with fail
  go_wp2_with (fail)
  obtain ⟨wa, hwa⟩ : ∃ wa, wa = w.alloc (.cells #[.int .i64 4, .slice (some ⟨w.heap.size + 1 + 1, 0, none⟩) 3 3, .slice (some ⟨w.heap.size + 1 + 1 + 1, 0, none⟩) 1 1, .slice none 0 0, .int .i64 1] 39) := ⟨_, rfl⟩
  obtain ⟨wb, hwb⟩ : ∃ wb, wb = wa.alloc (.cells #[.int .i64 1, .int .i64 1, .int .i64 0] 134) := ⟨_, rfl⟩
  obtain ⟨wc, hwc⟩ : ∃ wc, wc = wb.alloc (.cells #[.int .i64 1, .int .i64 1, .int .i64 0, .int .i64 1, .int .i64 1, .int .i64 0, .int .i64 1, .int .i64 1, .int .i64 0] 134) := ⟨_, rfl⟩
  obtain ⟨wd, hwd⟩ : ∃ wd, wd = wc.alloc (.cells #[.int .i64 0, .int .i64 0, .int .i64 1] 137) := ⟨_, rfl⟩
  have HD := Lib.hid (show St w wd [row (w.heap.size + 1 + 1 + 1) 137 [.int .i64 0, .int .i64 0, .int .i64 1], row (w.heap.size + 1 + 1) 134 [.int .i64 1, .int .i64 1, .int .i64 0, .int .i64 1, .int .i64 1, .int .i64 0, .int .i64 1, .int .i64 1, .int .i64 0], row (w.heap.size + 1) 134 [.int .i64 1, .int .i64 1, .int .i64 0], row w.heap.size 39 [.int .i64 4, .slice (some ⟨w.heap.size + 1 + 1, 0, none⟩) 3 3, .slice (some ⟨w.heap.size + 1 + 1 + 1, 0, none⟩) 1 1, .slice none 0 0, .int .i64 1]] by
    rw [hwd, hwc, hwb, hwa]
    have h := ((((St.nil w).new 39 #[.int .i64 4, .slice (some ⟨w.heap.size + 1 + 1, 0, none⟩) 3 3, .slice (some ⟨w.heap.size + 1 + 1 + 1, 0, none⟩) 1 1, .slice none 0 0, .int .i64 1]).new 134 #[.int .i64 1, .int .i64 1, .int .i64 0]).new 134 #[.int .i64 1, .int .i64 1, .int .i64 0, .int .i64 1, .int .i64 1, .int .i64 0, .int .i64 1, .int .i64 1, .int .i64 0]).new 137 #[.int .i64 0, .int .i64 0, .int .i64 1]
    simp only [World.size_alloc] at h
    exact h)
  have e : (((w.alloc (.cells #[.int .i64 4, .slice (some ⟨w.heap.size + 1 + 1, 0, none⟩) 3 3, .slice (some ⟨w.heap.size + 1 + 1 + 1, 0, none⟩) 1 1, .slice none 0 0, .int .i64 1] 39)).alloc (.cells #[.int .i64 1, .int .i64 1, .int .i64 0] 134)).alloc (.cells #[.int .i64 1, .int .i64 1, .int .i64 0, .int .i64 1, .int .i64 1, .int .i64 0, .int .i64 1, .int .i64 1, .int .i64 0] 134)).alloc (.cells #[.int .i64 0, .int .i64 0, .int .i64 1] 137) = wd := by rw [hwd, hwc, hwb, hwa]
  rw [e]
  clear e hwa hwb hwc hwd
  refine bodyPost_ret (results_cell_row rfl _ _ w.heap.size _ _ _ _ rfl (HD.out.pick 3 rfl).row.1 Try.underlying39 rfl (by kernel_rfl)) rfl ?_
  refine ⟨_, _, _, _, rfl, ⟨?_, ?_, Sl.nil_ _ _ _, rfl, rfl, rfl, by unfold maxLen; omega, by unfold maxLen; omega, Nat.zero_le _⟩, HD.out.bel⟩
  · exact (HD.out.pick 1 rfl).row.1.sl (size := 3) (n := 3) (o := 0) (HD.out.pick 1 rfl).row.1.lt rfl rfl
  · exact HD.out.row.1.sl (size := 3) (n := 1) (o := 0) HD.out.row.1.lt rfl rfl
set_option maxRecDepth 100000 in
set_option maxHeartbeats 4000000 in
theorem wakes26 (w : World) : Calls Try.prog 18 #[] w fun e w' => e = .returned (.bool true) ∧ Below w.heap.size w w' := by
  go_enter Try.func18, Try.ntmps18
  go_wp2_with (fail)
  refine (example_at _).mono ?_
  rintro e w1 ⟨AP, cP, AW, cW, rfl, hv, hb⟩
  have HV1 := Lib.hid (hv.over ((Below.refl w1.heap.size w1).alloc (Nat.le_refl _) (.cells #[.int .i64 1] 3)))
  have HB1 := Lib.hid hb
  have HS1 := Lib.hid (show Sl (w1.alloc (.cells #[.int .i64 1] 3)) (w1.alloc (.cells #[.int .i64 1] 3)).heap.size 1 (some ⟨w1.heap.size, 0, none⟩) 1 [.int .i64 1] from by
    have h : Sl (w1.alloc (.cells #[.int .i64 1] 3)) (w1.heap.size + 1) 1 (some ⟨w1.heap.size, 0, none⟩) 1 [.int .i64 1] := sl_new (n := 1) rfl
    simpa using h)
  clear hv hb
  go_wp2_with (fail)
  refine (free_at HV1.out (some ⟨w1.heap.size, 0, none⟩) 1 (fun h => by cases h) 1 HS1.out).mono ?_
  rintro e w2 ⟨v, rfl, ho, hb⟩
  rw [ex_free] at ho
  obtain ⟨A2, c2, hv2, _⟩ := own_form ho
  subst hv2
  have HB2 := Lib.hid (show Below w.heap.size w w2 from (HB1.out.alloc HB1.out.size _).trans (hb.mono (by have := HB1.out.size; simp; omega)))
  have HSA := Lib.hid (show Sl (w2.alloc (.cells #[.int .i64 2] 3)) (w2.alloc (.cells #[.int .i64 2] 3)).heap.size 1 A2 1 (([2] : List Int).map (.int .i64)) from ((Sl.of_own ho).below ((Below.refl _ _).alloc (Nat.le_refl _) _)).more (by simp))
  have HSB := Lib.hid (show Sl (w2.alloc (.cells #[.int .i64 2] 3)) (w2.alloc (.cells #[.int .i64 2] 3)).heap.size 1 (some ⟨w2.heap.size, 0, none⟩) 1 (([2] : List Int).map (.int .i64)) from (sl_new (n := 1) rfl).more (by simp))
  clear ho hb
  go_wp2_with (fail)
  refine (Go.Proofs.Ytooagoikiafgcaa.timer.sameInts_at [2] [2] _ _ 1 1 _ _ _ rfl rfl (by omega) (by omega) HSA.out HSB.out).mono ?_
  rintro e w3 ⟨rfl, hb⟩
  have HB3 := Lib.hid (show Below w.heap.size w w3 from (HB2.out.alloc HB2.out.size _).trans (hb.mono (by have := HB2.out.size; simp; omega)))
  rw [show decide (([2] : List Int) = [2]) = true from rfl]
  clear hb
  go_wp2_with (fail)
  refine (example_at _).mono ?_
  rintro e w4 ⟨AP', cP', AW', cW', rfl, hv, hb⟩
  have HV4 := Lib.hid hv
  have HB4 := Lib.hid (show Below w.heap.size w w4 from HB3.out.trans (hb.mono HB3.out.size))
  clear hv hb
  go_wp2_with (fail)
  refine (bound_at HV4.out 3 1).mono ?_
  rintro e w5 ⟨rfl, hb⟩
  rw [ex_bound]
  have HB5 := Lib.hid (show Below w.heap.size w w5 from HB4.out.trans (hb.mono HB4.out.size))
  clear hb
  go_wp2_with (fail)
  go_ret
  exact ⟨rfl, HB5.out⟩
end Go.Proofs.Ytooagoikiafgcaa.tab
