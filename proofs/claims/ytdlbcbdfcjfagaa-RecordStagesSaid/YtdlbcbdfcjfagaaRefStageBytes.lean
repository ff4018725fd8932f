/-
  PROVED HERE: a stage's sector, as the document tells it.
  CONDITIONS: the stage is right.
-/
import Derived.Test.YtdlbcbdfcjfagaaRefStage
import Derived.Test.YtdlbcbdfcjfagaaRecStagePut
namespace Go.Proofs.Ytdlbcbdfcjfagaa.refRec
set_option linter.unusedVariables false
open Go.RowKit Go.Proofs.Ytdlbcbdfcjfagaa.base Go.Proofs.Ytdlbcbdfcjfagaa.obj Go.Proofs.Ytdlbcbdfcjfagaa.mem Go.Proofs.Ytdlbcbdfcjfagaa.crc Go.Proofs.Ytdlbcbdfcjfagaa.num Go.Proofs.Ytdlbcbdfcjfagaa.bytes Go.Proofs.Ytdlbcbdfcjfagaa.record Go.Proofs.Ytdlbcbdfcjfagaa.refNum

theorem stg_head_eq {s : Stg} : s.head = [76, 83] ++ be 2 s.session.toNat ++ be 2 s.size.toNat ++ be 2 s.have_.toNat := by
  unfold Stg.head pre
  simp only [List.range_succ, List.range_zero, List.nil_append, List.flatMap_append, List.flatMap_cons, List.flatMap_nil, List.append_nil, Stg.nums]
  simp only [List.getD_cons_zero, List.getD_cons_succ]
  rw [show be 2 19539 = [76, 83] by decide]
  simp
theorem held_nat {k : Nat} {z : Int} (h0 : 0 ≤ z) (h1 : z.toNat < 256 ^ k) : heldN k z = z.toNat := by
  unfold heldN
  rw [if_neg (by omega), if_neg (by omega)]

set_option maxRecDepth 100000 in
set_option maxHeartbeats 8000000 in
theorem stageBytes_at (s : Stg) (w : World) (h : s.right = true) : Calls Try.prog 32 #[s.val] w fun e w' => ∃ g, e = .returned (.slice (some ⟨g, 0, none⟩) 64 64) ∧ w.heap.size ≤ g ∧ Row w' g 5 (s.bytes.map (.int .u8)) ∧ Below w.heap.size w w' := by
  have HH := Lib.hid (stg_head_eq (s := s))
  have HL := Lib.hid s.head_length
  have HBY := Lib.hid (show Byt s.head from pre_byt _ _ _ _)
  have HRB := Lib.hid (show s.bytes = sealB s.head from rfl)
  obtain ⟨⟨a1, a2⟩, ⟨b1, b2⟩, c1, c2⟩ := stg_in h
  clear h
  unfold Stg.val Stg.cells
  generalize s.bytes = rb at *
  generalize s.head = hd at *
  obtain ⟨session, size, have_⟩ := s
  simp only at *
  have HE1 := Lib.hid (held_nat (k := 2) (z := session) (by omega) (by omega))
  have HE2 := Lib.hid (held_nat (k := 2) (z := size) (by omega) (by omega))
  have HE3 := Lib.hid (held_nat (k := 2) (z := have_) (by omega) (by omega))
  obtain ⟨w1, hw1⟩ : ∃ w1, w1 = w.alloc (.cells #[.int .i64 session, .int .i64 size, .int .i64 have_] 40) := ⟨_, rfl⟩
  obtain ⟨w2, hw2⟩ : ∃ w2, w2 = w1.alloc (.cells #[.int .u8 76, .int .u8 83] 5) := ⟨_, rfl⟩
  have HR1 := Lib.hid (show Row w2 w.heap.size 40 [.int .i64 session, .int .i64 size, .int .i64 have_] by rw [hw2, hw1]; exact (Row.new w _ _).alloc _)
  have HB2 := Lib.hid (show Below w.heap.size w w2 by rw [hw2, hw1]; exact ((Below.refl w.heap.size w).alloc (Nat.le_refl _) _).alloc (by simp) _)
  have HO2 := Lib.hid (show w2.ownsRow w.heap.size 5 1 (.slice (some ⟨w.heap.size + 1, 0, none⟩) 2 2) 2 [.int .u8 76, .int .u8 83] by
    have h := Row.new w1 5 #[.int .u8 76, .int .u8 83]
    rw [← hw2, show w1.heap.size = w.heap.size + 1 by rw [hw1]; simp] at h
    exact h.own (size := 1) (n := 2) (cap := 2) (by omega) (Nat.le_refl _) (by decide) rfl)
  rw [hw1] at hw2
  have HW := Lib.hid hw2
  clear hw1 hw2
  go_enter Try.func32, Try.ntmps32
  go_wp2_with (fail)
  rw [← HW.out]
  refine (refNum.put_at _ session (by omega) 2 (by omega) (by omega)).mono ?_
  rintro e w3 ⟨g3, rfl, hg3, hrow3, hb3⟩
  rw [HE1.out] at hrow3
  have HR3 := Lib.hid hrow3
  have HRec := Lib.hid (HR1.out.below hb3 HR1.out.lt)
  have HB3 := Lib.hid (HB2.out.trans (hb3.mono HB2.out.size))
  have HO3 := Lib.hid (own_below HO2.out hb3)
  clear hrow3 hb3
  go_wp2_with (at_builtin; refine app_sl slB rfl (.tmp 5) (.tmp 8) rfl HO3.out rfl rfl (by simp) (byte_sl HR3.out (be_length _ _)) (map_one _) (by omega) (by unfold maxLen; omega) HB3.out.size ?_; intro v4 w4 ho4 hg4; have HRec4 := HRec.out.grown hg4 (own_ne HO3.out HRec.out (by decide)); have c1' := HRec4.cell 1; have c2' := HRec4.cell 2; have HB4 := Lib.hid (below_own HB3.out HO3.out hg4 HB3.out.size); have l4 := HRec4.lt; obtain ⟨A4, c4, e4, _, _⟩ := own_form ho4; subst e4; have HO4 := Lib.hid ho4; have HRC4 := Lib.hid HRec4; have HG4 := Lib.hid hg4; clear ho4 hg4 HRec4)
  refine (refNum.put_at _ size (by omega) 2 (by omega) (by omega)).mono ?_
  rintro e w5 ⟨g5, rfl, hg5, hrow5, hb5⟩
  rw [HE2.out] at hrow5
  have HR5 := Lib.hid hrow5
  have HRec5 := Lib.hid (HRC4.out.below hb5 HRC4.out.lt)
  have HB5 := Lib.hid (HB4.out.trans (hb5.mono HB4.out.size))
  have HO5 := Lib.hid (own_below HO4.out hb5)
  clear hrow5 hb5 c1' c2'
  go_wp2_with (at_builtin; refine app_sl slB rfl (.tmp 10) (.tmp 13) rfl HO5.out rfl rfl (by simp) (byte_sl HR5.out (be_length _ _)) (map_one _) (by omega) (by unfold maxLen; omega) HB5.out.size ?_; intro v6 w6 ho6 hg6; have HRec6 := HRec5.out.grown hg6 (own_ne HO5.out HRec5.out (by decide)); have c2' := HRec6.cell 2; have HB6 := Lib.hid (below_own HB5.out HO5.out hg6 HB5.out.size); have l6 := HRec6.lt; obtain ⟨A6, c6, e6, _, _⟩ := own_form ho6; subst e6; have HO6 := Lib.hid ho6; clear ho6 hg6 HRec6)
  refine (refNum.put_at _ have_ (by omega) 2 (by omega) (by omega)).mono ?_
  rintro e w7 ⟨g7, rfl, hg7, hrow7, hb7⟩
  rw [HE3.out] at hrow7
  have HR7 := Lib.hid hrow7
  have HB7 := Lib.hid (HB6.out.trans (hb7.mono HB6.out.size))
  have HO7 := Lib.hid (own_below HO6.out hb7)
  clear hrow7 hb7 c2'
  go_wp2_with (at_builtin; refine app_sl slB rfl (.tmp 15) (.tmp 18) rfl HO7.out rfl rfl (by simp) (byte_sl HR7.out (be_length _ _)) (map_one _) (by omega) (by unfold maxLen; omega) HB7.out.size ?_; intro v8 w8 ho8 hg8; have HB8 := Lib.hid (below_own HB7.out HO7.out hg8 HB7.out.size); obtain ⟨A8, c8, e8, _, _⟩ := own_form ho8; subst e8; have HO8 := Lib.hid ho8; clear ho8 hg8)
  have HS8 := Lib.hid (show Sl w8 w8.heap.size 1 A8 8 (hd.map (.int .u8)) by
    have h := Sl.of_own HO8.out
    rw [HH.out]
    simpa using h)
  refine (sealed_at _ A8 8 c8 hd HL.out (by omega) HBY.out HS8.out).mono ?_
  rintro e w9 ⟨g9, rfl, hg9, hrow9, hb9⟩
  have HB9 := Lib.hid (HB8.out.trans (hb9.mono HB8.out.size))
  have HSZ := Lib.hid HB8.out.size
  have HG9 := Lib.hid hg9
  rw [← HRB.out] at hrow9
  have HR9 := Lib.hid hrow9
  clear hrow9 hb9 hg9
  go_wp2_with (fail)
  go_ret
  exact ⟨g9, rfl, Nat.le_trans HSZ.out HG9.out, HR9.out, HB9.out⟩
end Go.Proofs.Ytdlbcbdfcjfagaa.refRec
