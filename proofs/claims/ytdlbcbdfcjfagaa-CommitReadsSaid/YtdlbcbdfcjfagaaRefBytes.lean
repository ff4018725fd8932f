/-
  PROVED HERE: a record's sector, as the document tells it.
  CONDITIONS: the record is right.
-/
import Derived.Test.YtdlbcbdfcjfagaaRefSeal
namespace Go.Proofs.Ytdlbcbdfcjfagaa.refRec
set_option linter.unusedVariables false
open Go.RowKit Go.Proofs.Ytdlbcbdfcjfagaa.base Go.Proofs.Ytdlbcbdfcjfagaa.obj Go.Proofs.Ytdlbcbdfcjfagaa.mem Go.Proofs.Ytdlbcbdfcjfagaa.crc Go.Proofs.Ytdlbcbdfcjfagaa.num Go.Proofs.Ytdlbcbdfcjfagaa.bytes Go.Proofs.Ytdlbcbdfcjfagaa.record Go.Proofs.Ytdlbcbdfcjfagaa.refNum

theorem be_one (n : Nat) (h : n < 256) : be 1 n = [(n : Int)] := by
  simp [be, digit]
  omega
theorem rec_in {r : Rec} (h : r.right = true) : (0 ≤ r.part ∧ r.part ≤ 3) ∧ (1 ≤ r.seq ∧ r.seq ≤ 4294967295) ∧ (0 ≤ r.active ∧ r.active ≤ 1) ∧ (0 ≤ r.confirmed ∧ r.confirmed ≤ 1) ∧ (0 ≤ r.left ∧ r.left ≤ 7) ∧ (0 ≤ r.bad ∧ r.bad ≤ 3) := by
  simp [Rec.right] at h
  obtain ⟨⟨⟨⟨⟨⟨⟨h1, h2⟩, h3⟩, h4⟩, h5⟩, _⟩, h7⟩, _⟩ := h
  exact ⟨h1, h2, h3, h4, h5, h7⟩
theorem head_eq {r : Rec} (h : r.right = true) : r.head = [76, 67, r.part] ++ be 4 r.seq.toNat ++ [r.active, r.confirmed, r.left, r.bad] := by
  obtain ⟨⟨a1, a2⟩, ⟨b1, b2⟩, ⟨c1, c2⟩, ⟨d1, d2⟩, ⟨e1, e2⟩, ⟨f1, f2⟩⟩ := rec_in h
  unfold Rec.head pre
  simp only [List.range_succ, List.range_zero, List.nil_append, List.flatMap_append, List.flatMap_cons, List.flatMap_nil, List.append_nil, Rec.nums]
  simp only [List.getD_cons_zero, List.getD_cons_succ]
  rw [be_one _ (by omega), be_one _ (by omega), be_one _ (by omega), be_one _ (by omega), be_one _ (by omega), show be 2 19523 = [76, 67] by decide]
  simp
  omega

set_option maxRecDepth 100000 in
set_option maxHeartbeats 4000000 in
theorem bytes_at (r : Rec) (w : World) (h : r.right = true) : Calls Try.prog 19 #[r.val] w fun e w' => ∃ g, e = .returned (.slice (some ⟨g, 0, none⟩) 64 64) ∧ w.heap.size ≤ g ∧ Row w' g 5 (r.bytes.map (.int .u8)) ∧ Below w.heap.size w w' := by
  have HH := Lib.hid (head_eq h)
  have HL := Lib.hid r.head_length
  have HBY := Lib.hid (show Byt r.head from pre_byt _ _ _ _)
  have HRB := Lib.hid (show r.bytes = sealB r.head from rfl)
  obtain ⟨⟨a1, a2⟩, ⟨b1, b2⟩, ⟨c1, c2⟩, ⟨d1, d2⟩, ⟨e1, e2⟩, ⟨f1, f2⟩⟩ := rec_in h
  clear h
  unfold Rec.val Rec.cells
  generalize r.bytes = rb at *
  generalize r.head = hd at *
  obtain ⟨part, seq, active, confirmed, left, bad⟩ := r
  simp only at *
  obtain ⟨w1, hw1⟩ : ∃ w1, w1 = w.alloc (.cells #[.int .i64 part, .int .i64 seq, .int .i64 active, .int .i64 confirmed, .int .i64 left, .int .i64 bad] 23) := ⟨_, rfl⟩
  obtain ⟨w2, hw2⟩ : ∃ w2, w2 = w1.alloc (.cells #[.int .u8 76, .int .u8 67, .int .u8 part] 5) := ⟨_, rfl⟩
  have HR1 := Lib.hid (show Row w2 w.heap.size 23 [.int .i64 part, .int .i64 seq, .int .i64 active, .int .i64 confirmed, .int .i64 left, .int .i64 bad] by rw [hw2, hw1]; exact (Row.new w _ _).alloc _)
  have HB2 := Lib.hid (show Below w.heap.size w w2 by rw [hw2, hw1]; exact ((Below.refl w.heap.size w).alloc (Nat.le_refl _) _).alloc (by simp) _)
  have HO2 := Lib.hid (show w2.ownsRow w.heap.size 5 1 (.slice (some ⟨w.heap.size + 1, 0, none⟩) 3 3) 3 [.int .u8 76, .int .u8 67, .int .u8 part] by
    have h := Row.new w1 5 #[.int .u8 76, .int .u8 67, .int .u8 part]
    rw [← hw2, show w1.heap.size = w.heap.size + 1 by rw [hw1]; simp] at h
    exact h.own (size := 1) (n := 3) (cap := 3) (by omega) (Nat.le_refl _) (by decide) rfl)
  rw [hw1] at hw2
  have HW := Lib.hid hw2
  clear hw1 hw2
  go_enter Try.func19, Try.ntmps19
  go_wp2_with (fail)
  rw [← HW.out]
  refine (refNum.put_at _ seq (by omega) 4 (by omega) (by omega)).mono ?_
  rintro e w3 ⟨g3, rfl, hg3, hrow3, hb3⟩
  have HR3 := Lib.hid (show Row w3 g3 5 ((be 4 seq.toNat).map (.int .u8)) by
    rw [show heldN 4 seq = seq.toNat by unfold heldN; rw [if_neg (by omega), if_neg (by omega)]] at hrow3; exact hrow3)
  have HRec := Lib.hid (HR1.out.below hb3 HR1.out.lt)
  have HB3 := Lib.hid (HB2.out.trans (hb3.mono HB2.out.size))
  have HO3 := Lib.hid (own_below HO2.out hb3)
  clear hrow3 hb3
  go_wp2_with (first
    | (at_builtin; refine app_sl slB rfl (.tmp 8) (.tmp 11) rfl HO3.out rfl rfl (by simp) (byte_sl HR3.out (be_length _ _)) (map_one _) (by omega) (by unfold maxLen; omega) HB3.out.size ?_; intro v4 w4 ho4 hg4; have HRec4 := HRec.out.grown hg4 (by simp [Value.ownBlock]); have c2' := HRec4.cell 2; have c3' := HRec4.cell 3; have c4' := HRec4.cell 4; have c5' := HRec4.cell 5; have HB4 := Lib.hid (below_own HB3.out HO3.out hg4 HB3.out.size); have l4 := HRec4.lt; obtain ⟨A4, c4, e4, _, _⟩ := own_form ho4; subst e4; have HO4 := Lib.hid ho4; clear ho4 hg4 HRec4; have HN := Lib.hid (show Row (w4.alloc (.cells #[.int .u8 active, .int .u8 confirmed, .int .u8 left, .int .u8 bad] 5)) w4.heap.size 5 ([active, confirmed, left, bad].map (.int .u8)) from Row.new w4 _ _); have HB5 := Lib.hid (HB4.out.alloc HB4.out.size (.cells #[.int .u8 active, .int .u8 confirmed, .int .u8 left, .int .u8 bad] 5)))
    | (at_builtin; refine app_sl slB rfl (.tmp 13) (.tmp 26) rfl (HO4.out.alloc _) rfl rfl (by simp) (byte_sl HN.out rfl) (map_one _) (by omega) (by unfold maxLen; omega) HB5.out.size ?_; intro v5 w5 ho5 hg5; have HB6 := Lib.hid (below_own HB5.out (HO4.out.alloc _) hg5 HB5.out.size); have HO5 := Lib.hid ho5; obtain ⟨A5, c5, e5, _, _⟩ := own_form ho5; subst e5; clear ho5 hg5))
  have HS5 := Lib.hid (show Sl w5 w5.heap.size 1 A5 11 (hd.map (.int .u8)) by
    have h := Sl.of_own HO5.out
    rw [HH.out]
    simpa using h)
  refine (sealed_at _ A5 11 c5 hd HL.out (by omega) HBY.out HS5.out).mono ?_
  rintro e w6 ⟨g6, rfl, hg6, hrow6, hb6⟩
  have HB7 := Lib.hid (HB6.out.trans (hb6.mono HB6.out.size))
  have HSZ := Lib.hid HB6.out.size
  have HG6 := Lib.hid hg6
  rw [← HRB.out] at hrow6
  have HR6 := Lib.hid hrow6
  clear hrow6 hb6 hg6
  go_wp2_with (fail)
  go_ret
  exact ⟨g6, rfl, Nat.le_trans HSZ.out HG6.out, HR6.out, HB7.out⟩
end Go.Proofs.Ytdlbcbdfcjfagaa.refRec
