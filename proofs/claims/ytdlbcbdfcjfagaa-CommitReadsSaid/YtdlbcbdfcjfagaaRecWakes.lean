/-
  PROVED HERE: longeronlaw07.wakes returns true and leaves memory as it was.
  CONDITIONS: none.
-/
import Derived.Test.YtdlbcbdfcjfagaaRecMath
import Derived.Test.YtdlbcbdfcjfagaaSame
import Derived.Deep.RegionHeld3
namespace Go.Proofs.Ytdlbcbdfcjfagaa.record
set_option linter.unusedVariables false
open Go.RowKit Go.Proofs.Ytdlbcbdfcjfagaa.base Go.Proofs.Ytdlbcbdfcjfagaa.obj Go.Proofs.Ytdlbcbdfcjfagaa.mem Go.Proofs.Ytdlbcbdfcjfagaa.crc Go.Proofs.Ytdlbcbdfcjfagaa.num Go.Proofs.Ytdlbcbdfcjfagaa.bytes Go.Proofs.Ytdlbcbdfcjfagaa.plan Go.Proofs.Ytdlbcbdfcjfagaa.same

def wkRec : Rec := ⟨0, 1, 0, 0, 0, 0⟩
set_option maxRecDepth 100000 in
theorem wk_rec : wkRec.right = true ∧ wkRec.bytes[0]? = some 76 ∧ wkRec.bytes[1]? = some 67 ∧ wkRec.bytes.drop 15 = List.replicate 49 0 := by
  refine ⟨by decide, by decide +kernel, by decide +kernel, by decide +kernel⟩
theorem make49 (w : World) : (Instr.makeSlice 25 (.int .i64 49) (.int .i64 49)).run Try.prog w = .ok (.slice (some ⟨w.heap.size, 0, none⟩) 49 49) (w.alloc (.cells (Array.replicate 49 (.int .u8 0)) 5)) := by
  have h := make_eq 49 (by decide) w
  rw [show ((49 : Nat) : Int) = 49 from rfl] at h
  rw [h]
  rfl

set_option maxRecDepth 100000 in
set_option maxHeartbeats 4000000 in
theorem wakes (w : World) : Calls Try.prog 13 #[] w fun e w' => e = .returned (.bool true) ∧ Below w.heap.size w w' := by
  have hmk := make49
  obtain ⟨k0, k1, k2, k3⟩ := wk_rec
  have HP := Lib.hid (put_rec wkRec w k0)
  have HBL := Lib.hid (wkRec.bytes_length)
  generalize wkRec.bytes = bs at *
  have K := Lib.hid (And.intro k1 (And.intro k2 k3))
  clear k0 k1 k2 k3
  go_enter Try.func13, Try.ntmps13
  go_wp2_with (fail)
  refine HP.out.mono ?_
  rintro e w1 ⟨v, rfl, ho, hb⟩
  obtain ⟨g, cap, e1, h1, h2⟩ := ho.form (by decide)
  subst e1
  have hcap : 64 ≤ cap := by
    obtain ⟨A, c, e2, hc, _⟩ := own_form ho
    injection e2 with _ _ e3
    omega
  have c0 : w1.cell? ⟨g, 0, none⟩ = some (.int .u8 76) := ho.cells (g := g) rfl 0 _ (by simp [K.out.1])
  have c1 : w1.cell? ⟨g, 1, none⟩ = some (.int .u8 67) := ho.cells (g := g) rfl 1 _ (by simp [K.out.2.1])
  have HO := Lib.hid ho; have HB := Lib.hid hb
  have HS := Lib.hid (show Sl w1 w1.heap.size 1 (some ⟨g, 15, none⟩) 49 ((bs.drop 15).map (.int .u8)) from ⟨by simp [HBL.out], fun _ => ⟨g, 15, rfl, h2, fun k u hu => by
    have := ho.cells (g := g) rfl (15 + k) u (by rw [List.map_drop, List.getElem?_drop] at hu; exact hu)
    rwa [Addr.add_mid, Nat.zero_add] at this⟩⟩)
  rw [K.out.2.2] at HS
  clear ho hb
  go_wp2_with (fail)
  have HB1 := Lib.hid (show Below w1.heap.size w1 ((w1.alloc (.cells (Array.replicate 49 (Value.int .u8 0)) 5)).drew) from ((Below.refl _ _).alloc (Nat.le_refl _) _).drew)
  have HZ := Lib.hid (show Row ((w1.alloc (.cells (Array.replicate 49 (Value.int .u8 0)) 5)).drew) w1.heap.size 5 ((List.replicate 49 (0 : Int)).map (.int .u8)) from (zero_row w1 49).drew)
  have hne : g ≠ w1.heap.size := by omega
  have hc15 : ¬ cap = 15 := by omega
  have n0 := World.new_ne w1 ⟨g, 0, none⟩ c0
  have n1 := World.new_ne w1 ⟨g, 1, none⟩ c1
  go_region_held3 (fun w' => w'.cell? ⟨g, 0, none⟩ = some (.int .u8 76) ∧ w'.cell? ⟨g, 1, none⟩ = some (.int .u8 67)) (first | go_keep | (refine ⟨?_, ?_⟩ <;> (refine cell_below HB5.out ?_; go_simp))) (((with_reducible refine (same_any (List.replicate 49 0) (List.replicate 49 0) _ _ 49 49 _ _ _ (by simp) (by simp) (by omega) (by omega) ((HS.out.below HB1.out).more HB1.out.size) (byte_sl HZ.out (by simp))).mono ?_); rintro e w5 ⟨rfl, hb5⟩; have HB5 := Lib.hid hb5; clear hb5))
  go_wp2_with (fail)
  go_ret
  exact ⟨by simp, HB.out.trans ((HB1.out.mono HB.out.size).trans (HB5.out.mono (Nat.le_trans HB.out.size HB1.out.size)))⟩
end Go.Proofs.Ytdlbcbdfcjfagaa.record
