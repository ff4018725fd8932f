/-
  PROVED HERE: the document's texts of instructions: decimal, Names, Text.
  CONDITIONS: each lemma names its own.
-/
import Derived.Test.YtfglnaimpjkcfaaDoorOp
import Derived.Test.YtfglnaimpjkcfaaDoorSep
import Derived.Test.YtfglnaimpjkcfaaDoorSegs
import Derived.Test.YtfglnaimpjkcfaaDoorMemMore
import Derived.Lib.ItoaNum
import Derived.Deep.RegionHeld3
import Derived.Deep.RegionLaw
import Derived.Deep.DeepCutAuto
import Derived.Deep.CutBlock
import Derived.IntWalk
namespace Go.Proofs.YtfglnaimpjkcfaaDoor.text
set_option linter.unusedVariables false
open Go.RowKit Go.Proofs.YtfglnaimpjkcfaaDoor.base Go.Proofs.YtfglnaimpjkcfaaDoor.obj Go.Proofs.YtfglnaimpjkcfaaDoor.mem Go.Proofs.YtfglnaimpjkcfaaDoor.sep Go.Proofs.YtfglnaimpjkcfaaDoor.plan Go.Proofs.YtfglnaimpjkcfaaDoor.op

/-- the names -/
def nms : List ByteArray := [⟨#[121, 105, 101, 108, 100]⟩, ⟨#[112, 117, 115, 104]⟩, ⟨#[100, 114, 111, 112]⟩, ⟨#[100, 117, 112]⟩, ⟨#[115, 119, 97, 112]⟩, ⟨#[97, 100, 100]⟩, ⟨#[115, 117, 98]⟩, ⟨#[109, 117, 108]⟩, ⟨#[108, 101, 115, 115]⟩, ⟨#[115, 97, 109, 101]⟩, ⟨#[108, 111, 97, 100]⟩, ⟨#[115, 116, 111, 114, 101]⟩, ⟨#[106, 117, 109, 112]⟩, ⟨#[122, 101, 114, 111]⟩, ⟨#[115, 101, 110, 100]⟩, ⟨#[103, 101, 116]⟩, ⟨#[99, 111, 110, 102, 105, 114, 109]⟩, ⟨#[104, 97, 108, 116]⟩, ⟨#[110, 111, 119]⟩]
def nmB (k : Nat) : ByteArray := nms.getD k ⟨#[]⟩
def digB : ByteArray := ⟨#[48, 49, 50, 51, 52, 53, 54, 55, 56, 57]⟩
def dg (j : Nat) : ByteArray := digB.extract j (j + 1)
def decB (n : Nat) : ByteArray := if n < 10 then dg (n % 10) else if n < 100 then dg (n / 10 % 10) ++ dg (n % 10) else dg (n / 100) ++ (dg (n / 10 % 10) ++ dg (n % 10))
theorem dg_size (j : Nat) (h : j < 10) : (dg j).size = 1 := by
  rcases (by omega : j = 0 ∨ j = 1 ∨ j = 2 ∨ j = 3 ∨ j = 4 ∨ j = 5 ∨ j = 6 ∨ j = 7 ∨ j = 8 ∨ j = 9) with rfl | rfl | rfl | rfl | rfl | rfl | rfl | rfl | rfl | rfl <;> rfl
theorem slice_dg (j : Nat) (h : j < 10) (w : World) : (Instr.slice 9 (.string ⟨#[48, 49, 50, 51, 52, 53, 54, 55, 56, 57]⟩) (some (.int .i64 (j : Int))) (some (.int .i64 ((j : Int) + 1))) none).run Tryd.prog w = .ok (.string (dg j)) w := by
  rcases (by omega : j = 0 ∨ j = 1 ∨ j = 2 ∨ j = 3 ∨ j = 4 ∨ j = 5 ∨ j = 6 ∨ j = 7 ∨ j = 8 ∨ j = 9) with rfl | rfl | rfl | rfl | rfl | rfl | rfl | rfl | rfl | rfl <;> kernel_rfl

set_option maxRecDepth 100000 in
set_option maxHeartbeats 4000000 in
theorem decimal_at (n : Nat) (h : n < 256) (w : World) : Calls Tryd.prog 17 #[.int .i64 n] w fun e w' => e = .returned (.string (decB n)) ∧ w = w' := by
  obtain ⟨j, hj⟩ : ∃ j, j = n % 10 := ⟨_, rfl⟩
  obtain ⟨k, hk⟩ : ∃ k, k = n / 10 % 10 := ⟨_, rfl⟩
  obtain ⟨l, hl⟩ : ∃ l, l = n / 100 := ⟨_, rfl⟩
  have HD := Lib.hid (show decB n = if n < 10 then dg j else if n < 100 then dg k ++ dg j else dg l ++ (dg k ++ dg j) by rw [hj, hk, hl]; rfl)
  have ej : (n : Int) % 10 = (j : Int) := by omega
  have ek : (n : Int) / 10 % 10 = (k : Int) := by omega
  have el : (n : Int) / 100 = (l : Int) := by omega
  have sj := fun w => slice_dg j (by omega) w
  have sk := fun w => slice_dg k (by omega) w
  have sl := fun w => slice_dg l (by omega) w
  have zj := dg_size j (by omega)
  have zk := dg_size k (by omega)
  have zl := dg_size l (by omega)
  have zkj : (dg k ++ dg j).size = 2 := by rw [ByteArray.size_append, zk, zj]
  have j9 : j < 10 := by omega
  have k9 : k < 10 := by omega
  have l9 : l < 10 := by omega
  clear hj hk hl
  by_cases h1 : n < 10
  · have i1 : ¬ (n : Int) ≥ 10 := by omega
    have i2 : ¬ (n : Int) ≥ 100 := by omega
    go_enter Tryd.func17, Tryd.ntmps17
    go_wp2_with (fail)
    go_ret
    exact ⟨by rw [HD.out, if_pos h1]; rfl, rfl⟩
  · by_cases h2 : n < 100
    · have i1 : (n : Int) ≥ 10 := by omega
      have i2 : ¬ (n : Int) ≥ 100 := by omega
      go_enter Tryd.func17, Tryd.ntmps17
      go_wp2_with (fail)
      go_ret
      exact ⟨by rw [HD.out, if_neg h1, if_pos h2]; rfl, rfl⟩
    · have i1 : (n : Int) ≥ 10 := by omega
      have i2 : (n : Int) ≥ 100 := by omega
      go_enter Tryd.func17, Tryd.ntmps17
      go_wp2_with (fail)
      go_ret
      exact ⟨by rw [HD.out, if_neg h1, if_neg h2]; rfl, rfl⟩

theorem infoStr : (Tryd.prog.info? 9).map (fun i => (i.zero, i.size, i.bytes)) = some (some (.string ⟨#[]⟩), 1, 16) := by kernel_rfl
theorem slStr : SlT Tryd.prog 46 9 1 16 := by
  obtain ⟨i0, hi, hz0, hz1, hz2⟩ := info_parts infoStr
  exact ⟨Tryd.underlying46, ⟨i0, _, hi, hz0, hz1, hz2, rfl⟩, by decide⟩
def nms1 : List Value := (nms.take 10).map .string
def nms2 : List Value := (nms.drop 10).map .string
theorem nms_one : (∀ u ∈ nms1, u.oneCell' = true) ∧ ∀ u ∈ nms2, u.oneCell' = true := by
  constructor <;> (intro u hu; obtain ⟨i, _, rfl⟩ := List.mem_map.1 hu; rfl)
set_option maxRecDepth 100000 in
set_option maxHeartbeats 4000000 in
theorem names_at (w : World) : Calls Tryd.prog 16 #[] w fun e w' => ∃ A c, e = .returned (.slice A 19 c) ∧ Sl w' w'.heap.size 1 A 19 (nms.map .string) ∧ Below w.heap.size w w' := by
  have HO := Lib.hid (World.ownsRow_nil (w.alloc (.cells nms1.toArray 9)) w.heap.size 9 1)
  have HB1 := Lib.hid ((Below.refl w.heap.size w).alloc (Nat.le_refl _) (.cells nms1.toArray 9))
  have HS1 := Lib.hid (sl_new (w := w) (e := 9) (n := 10) (size := 1) (cs := nms1.toArray) rfl)
  go_enter Tryd.func16, Tryd.ntmps16
  go_wp2_with (first | (at_builtin; refine app_sl slStr rfl (.tmp 2) (.tmp 3) rfl HO.out rfl rfl (by simp) HS1.out nms_one.1 (by omega) (by unfold maxLen; omega) (by simp) ?_; intro v2 w2 ho hg; have HO2 := Lib.hid ho; have HB2 := Lib.hid (below_own HB1.out HO.out hg (by simp)); obtain ⟨A2, c2, e2, hc2, _⟩ := own_form ho; subst e2; clear ho hg; have HS2 := Lib.hid (sl_new (w := w2) (e := 9) (n := 9) (size := 1) (cs := nms2.toArray) rfl); have HO2a := Lib.hid (HO2.out.alloc (.cells nms2.toArray 9)); have HB2a := Lib.hid (HB2.out.alloc HB2.out.size (.cells nms2.toArray 9))) | (at_builtin; refine app_sl slStr rfl (.tmp 5) (.tmp 6) rfl HO2a.out rfl rfl (by simp) HS2.out nms_one.2 (by omega) (by unfold maxLen; omega) HB2a.out.size ?_; intro v3 w3 ho hg; have HO3 := Lib.hid ho; have HB3 := Lib.hid (below_own HB2a.out HO2a.out hg HB2a.out.size); obtain ⟨A3, c3, e3, hc3, _⟩ := own_form ho; subst e3; clear ho hg))
  go_ret
  exact ⟨A3, ⟨c3, rfl⟩, Sl.of_own HO3.out, HB3.out⟩

/-- an instruction's text -/
def txtB (o a : Int) : ByteArray := if hasArg o = true then nmB o.toNat ++ ⟨#[32]⟩ ++ decB a.toNat else nmB o.toNat
theorem nmB_size (k : Nat) (h : k < 19) : (nmB k).size ≤ 7 := by
  rcases (by omega : k = 0 ∨ k = 1 ∨ k = 2 ∨ k = 3 ∨ k = 4 ∨ k = 5 ∨ k = 6 ∨ k = 7 ∨ k = 8 ∨ k = 9 ∨ k = 10 ∨ k = 11 ∨ k = 12 ∨ k = 13 ∨ k = 14 ∨ k = 15 ∨ k = 16 ∨ k = 17 ∨ k = 18) with rfl | rfl | rfl | rfl | rfl | rfl | rfl | rfl | rfl | rfl | rfl | rfl | rfl | rfl | rfl | rfl | rfl | rfl | rfl <;> decide
theorem dec_size (n : Nat) (h : n < 256) : (decB n).size ≤ 3 := by
  have z1 := dg_size (n % 10) (by omega)
  have z2 := dg_size (n / 10 % 10) (by omega)
  have z3 := dg_size (n / 100) (by omega)
  unfold decB
  split
  · omega
  · split
    · rw [ByteArray.size_append]; omega
    · rw [ByteArray.size_append, ByteArray.size_append]; omega
theorem nms_get (k : Nat) (h : k < 19) : (nms.map Value.string)[k]? = some (.string (nmB k)) := by
  rw [List.getElem?_map, nmB, List.getD_eq_getElem?_getD, List.getElem?_eq_getElem (show k < nms.length from h)]
  rfl
set_option maxRecDepth 100000 in
set_option maxHeartbeats 4000000 in
theorem rtext_at (o a : Int) (hr : right o a = true) (w : World) : Calls Tryd.prog 7 #[.agg #[.int .i64 o, .int .i64 a]] w fun e w' => e = .returned (.string (txtB o a)) ∧ Below w.heap.size w w' := by
  obtain ⟨o0, o1, a0, a1⟩ := right_yes hr
  obtain ⟨k, rfl⟩ := Int.eq_ofNat_of_zero_le o0
  obtain ⟨b, rfl⟩ := Int.eq_ofNat_of_zero_le a0
  have hk : k < 19 := by omega
  have HT := Lib.hid (show txtB (k : Int) (b : Int) = if hasArg (k : Int) = true then nmB k ++ ⟨#[32]⟩ ++ decB b else nmB k by unfold txtB; simp)
  have HNG := Lib.hid (nms_get k hk)
  have z1 := nmB_size k hk
  have z2 := dec_size b (by omega)
  have HB0 := Lib.hid ((Below.refl w.heap.size w).alloc (Nat.le_refl _) (.cells #[.int .i64 k, .int .i64 b] 23))
  have HDEC := Lib.hid (fun w2 => decimal_at b (by omega) w2)
  have HNM := Lib.hid (fun w2 => names_at w2)
  have HAR := Lib.hid (fun w2 => arg_any (k : Int) w2)
  clear hr a1 o1
  obtain ⟨ha, hha⟩ : ∃ ha, ha = hasArg (k : Int) := ⟨_, rfl⟩
  rw [← hha] at HT HAR
  clear hha
  go_enter Tryd.func7, Tryd.ntmps7
  go_wp2_with (fail)
  refine (HAR.out _).mono ?_
  rintro e w2 ⟨rfl, rfl⟩
  cases ha with
  | true =>
    have n1 : ¬ 9223372036854775807 < (nmB k).size + 1 := by omega
    have n2 : ¬ 9223372036854775807 < (nmB k).size + 1 + (decB b).size := by omega
    have z3 : (nmB k ++ ⟨#[32]⟩).size ≤ 8 := by rw [ByteArray.size_append]; have : (⟨#[32]⟩ : ByteArray).size = 1 := rfl; omega
    obtain ⟨w1, hw1⟩ : ∃ w1, w1 = w.alloc (.cells #[.int .i64 k, .int .i64 b] 23) := ⟨_, rfl⟩
    obtain ⟨X, hX⟩ : ∃ X, X = w.heap.size := ⟨_, rfl⟩
    have p1 : w1.cell? ⟨X, 0, none⟩ = some (.int .i64 k) := by rw [hw1, hX]; exact (Row.new w 23 #[.int .i64 k, .int .i64 b]).cell 0
    have p2 : w1.cell? ⟨X, 1, none⟩ = some (.int .i64 b) := by rw [hw1, hX]; exact (Row.new w 23 #[.int .i64 k, .int .i64 b]).cell 1
    have HB1 := Lib.hid (show Below w.heap.size w w1.drew by rw [hw1]; exact HB0.out.drew)
    have i0 : (0 : Int) ≤ (k : Int) := by omega
    have i1 : (k : Int) < 19 := by omega
    have lx : X < w1.heap.size := by rw [hw1, hX]; simp
    have HW1 := Lib.hid hw1; have HX := Lib.hid hX
    clear hw1 hX
    go_upto_region 2 with fail
    rw [← HW1.out, ← HX.out]
    go_region_law (first | (go_simp; (with_reducible refine (HNM.out _).mono ?_); rintro e w5 ⟨A, c, rfl, hs, hb⟩; obtain ⟨b5, off5, rfl, hb5, hc5⟩ := hs.2 (by omega); have q5 : w5.cell? ⟨b5, off5 + k, none⟩ = some (.string (nmB k)) := hc5 k _ HNG.out; have HB5 := Lib.hid (HB1.out.trans (hb.mono HB1.out.size)); have q1 : w5.cell? ⟨X, 0, none⟩ = some (.int .i64 k) := cell_below hb p1; have q2 : w5.cell? ⟨X, 1, none⟩ = some (.int .i64 b) := cell_below hb p2; clear hs hb hc5; dsimp only) | (go_simp; (with_reducible refine (HDEC.out _).mono ?_); rintro e w6 ⟨rfl, rfl⟩; dsimp only))
    all_goals
      go_wp2_with (fail)
      go_ret
      exact ⟨by rw [HT.out]; first | rfl | simp, HB5.out⟩
  | false =>
    obtain ⟨w1, hw1⟩ : ∃ w1, w1 = w.alloc (.cells #[.int .i64 k, .int .i64 b] 23) := ⟨_, rfl⟩
    obtain ⟨X, hX⟩ : ∃ X, X = w.heap.size := ⟨_, rfl⟩
    have p1 : w1.cell? ⟨X, 0, none⟩ = some (.int .i64 k) := by rw [hw1, hX]; exact (Row.new w 23 #[.int .i64 k, .int .i64 b]).cell 0
    have HB1 := Lib.hid (show Below w.heap.size w w1.drew by rw [hw1]; exact HB0.out.drew)
    have i0 : (0 : Int) ≤ (k : Int) := by omega
    have i1 : (k : Int) < 19 := by omega
    have lx : X < w1.heap.size := by rw [hw1, hX]; simp
    have HW1 := Lib.hid hw1; have HX := Lib.hid hX
    clear hw1 hX
    go_upto_region 3 with fail
    rw [← HW1.out, ← HX.out]
    go_region_law (go_simp; (with_reducible refine (HNM.out _).mono ?_); rintro e w5 ⟨A, c, rfl, hs, hb⟩; obtain ⟨b5, off5, rfl, hb5, hc5⟩ := hs.2 (by omega); have q5 : w5.cell? ⟨b5, off5 + k, none⟩ = some (.string (nmB k)) := hc5 k _ HNG.out; have HB5 := Lib.hid (HB1.out.trans (hb.mono HB1.out.size)); have q1 : w5.cell? ⟨X, 0, none⟩ = some (.int .i64 k) := cell_below hb p1; clear hs hb hc5; dsimp only)
    all_goals
      go_wp2_with (fail)
      go_ret
      exact ⟨by rw [HT.out]; first | rfl | simp, HB5.out⟩
end Go.Proofs.YtfglnaimpjkcfaaDoor.text
