/-
  PROVED HERE: longeronlaw15's wakes returns true and leaves memory as it was.
  CONDITIONS: none.
-/
import Derived.Test.YtfglnaimpjkcfaaDoorOp
import Derived.Test.YtfglnaimpjkcfaaDoorSame
namespace Go.Proofs.YtfglnaimpjkcfaaDoor.opWakes
set_option linter.unusedVariables false
open Go.RowKit Go.Proofs.YtfglnaimpjkcfaaDoor.base Go.Proofs.YtfglnaimpjkcfaaDoor.op Go.Proofs.YtfglnaimpjkcfaaDoor.same

set_option maxHeartbeats 1000000 in
theorem wakes (w : World) : Calls Tryd.prog 4 #[] w fun e w' => e = .returned (.bool true) ∧ Below w.heap.size w w' := by
  have hs1 : Sl (w.alloc (.cells #[.int .i64 1, .int .i64 5, .int .i64 14, .int .i64 1] 23)) (w.heap.size + 1) 2 (some ⟨w.heap.size, 0, none⟩) 2 (insCells [(1, 5), (14, 1)]) := sl_new (by rfl)
  have HS := Lib.hid hs1
  clear hs1
  go_enter Tryd.func4, Tryd.ntmps4
  go_wp2_with (fail)
  refine (put_any [(1, 5), (14, 1)] _ _ _ _ rfl (by simp) (by simpa using HS.out)).mono ?_
  rintro e w1 ⟨h1 | ⟨⟨p, hp, hr⟩, _⟩, hb1⟩
  · obtain ⟨_, v, rfl, hown⟩ := h1
    obtain ⟨A, c, rfl, hsl⟩ := own_sl hown
    have HL := Lib.hid hsl
    have HB1 : Hid (Below w.heap.size w w1) := Lib.hid (((Below.refl _ w).alloc (Nat.le_refl _) _).trans (hb1.mono (by simp)))
    have hz := hb1.size
    clear hown hsl hb1
    go_wp2_with (fail)
    refine (same_any [1, 5, 14, 1] [1, 5, 14, 1] _ _ _ _ _ _ _ rfl rfl (by simp) (by simp) (((HL.out).keep fun p hp => World.cell?_alloc_lt _ _ _ hp).more (by simp)) (by simpa using sl_new (w := w1) (e := 5) (n := 4) (size := 1) (cs := #[.int .u8 1, .int .u8 5, .int .u8 14, .int .u8 1]) (by rfl))).mono ?_
    rintro e w2 ⟨rfl, hb2⟩
    have HB2 : Hid (Below w.heap.size w w2) := Lib.hid ((HB1.out.alloc (by have := HB1.out.size; omega) _).trans (hb2.mono (by have := HB1.out.size; simp; omega)))
    clear hb2
    go_wp2_with (fail)
    go_ret
    exact ⟨rfl, HB2.out⟩
  · exfalso
    simp at hp
    rcases hp with rfl | rfl <;> simp [right, hasArg] at hr

end Go.Proofs.YtfglnaimpjkcfaaDoor.opWakes
