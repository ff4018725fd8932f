/-
  PROVED HERE: longeronlaw12.wakes returns true and leaves memory as it was; contracts of the document's Latest and Next.
  CONDITIONS: each contract names its own.
-/
import Derived.Test.YtdlbcbdfcjfagaaCommitMath
import Derived.Test.YtdlbcbdfcjfagaaRefGet
namespace Go.Proofs.Ytdlbcbdfcjfagaa.commit
set_option linter.unusedVariables false
open Go.RowKit Go.Proofs.Ytdlbcbdfcjfagaa.base Go.Proofs.Ytdlbcbdfcjfagaa.obj Go.Proofs.Ytdlbcbdfcjfagaa.mem Go.Proofs.Ytdlbcbdfcjfagaa.crc Go.Proofs.Ytdlbcbdfcjfagaa.disk Go.Proofs.Ytdlbcbdfcjfagaa.record Go.Proofs.Ytdlbcbdfcjfagaa.sep Go.Proofs.Ytdlbcbdfcjfagaa.plan

theorem up_save {m : DS} {p : Int} {s : LogS} (h : LogOk m p s) (hu : m.Up) {r nx : Rec} (hr : refNext s.now r = (nx, 0)) :
    ∃ m', saveM m p s r = (0, m', ⟨1 - s.held, nx⟩) ∧ LogOk m' p ⟨1 - s.held, nx⟩ ∧ m'.Up ∧ m'.waits = [] ∧ m'.secs.length = m.secs.length ∧ nx = nextRec p s.now r ∧ m'.now (p * 10 + s.held).toNat = m.now (p * 10 + s.held).toNat ∧ m'.now (p * 10 + (1 - s.held)).toNat = nx.bytes ∧ nx.right = true := by
  rcases saved m p s r h.part with ⟨c, hc, h1, h2⟩ | ⟨nx', h1, hn, hr', h2⟩
  · rw [hr] at h1
    injection h1 with _ h1
    omega
  · rw [hr] at h1
    injection h1 with h1 _
    subst h1
    obtain ⟨a0, a1⟩ := h.at_in
    obtain ⟨u1, u2⟩ := wf_up a0 a1 (Rec.bytes_length nx) hu
    have hw : (wf m (p * 10 + (1 - s.held)) nx.bytes).1 = 0 := by rw [u1]
    rw [if_pos hw] at h2
    obtain ⟨l1, l2, l3, l4⟩ := h.save hn hr' hw
    exact ⟨_, h2, l1, u2, l3, wf_slen _ _ _, hn, l2, by rw [(wf_ok h.good a0 a1 (Rec.bytes_length _) hw).2.2, if_pos rfl], hr'⟩
def wkR : Rec := ⟨0, 0, 1, 0, 2, 0⟩
def wkN : Rec := ⟨0, 2, 1, 0, 2, 0⟩
theorem wk_next : refNext (firstRec 0) wkR = (wkN, 0) := by
  unfold refNext
  rw [if_neg (by decide), if_pos (by decide)]
  rfl

set_option maxRecDepth 100000 in
set_option maxHeartbeats 4000000 in
theorem wakes (w : World) : Calls Try.prog 33 #[] w fun e w' => e = .returned (.bool true) ∧ Below w.heap.size w w' := by
  obtain ⟨f1, f2, f3, f4, f5, f6⟩ := format_up (m := DS.new 10) (DS.new_good (by decide) (by decide)) (DS.new_bts 10) (DS.new_up 10) (p := 0) (by decide)
  obtain ⟨m', s1, s2, s3, s4, s5, s6, s7, s8, s9⟩ := up_save f2 f3 wk_next
  have HO := Lib.hid s2.open_
  have HR := Lib.hid s2.roomFor
  have HF := Lib.hid (fun (w1 : World) (d : Nat) (h1 : St w w1 [dsk d (DS.new 10)]) => format_at h1 0 (by decide) (by decide))
  have HS := Lib.hid (fun (w1 : World) (g d : Nat) (h1 : St w w1 [log g d 0 0 (firstRec 0), dsk d (formatM (DS.new 10) 0).2]) => by
    have h := save_at (s := ⟨0, firstRec 0⟩) h1 (.inl rfl) (by decide) (by rw [f4]; decide) wkR
    rw [s1] at h
    exact h)
  have HP := Lib.hid (fun (w1 : World) (d : Nat) (l : List Asn) (h1 : St w w1 (dsk d m' :: l)) => open_at h1 0 s2.roomFor s3.1 (by rw [s4]; decide) (fun i => s2.bts.now i) (fun i hi => s2.good.now_len hi))
  go_enter Try.func33, Try.ntmps33
  go_wp2_with (fail)
  refine (dsk_new (St.nil w) 10).mono ?_
  rintro e w1 ⟨d, rfl, h1⟩
  have H1 := Lib.hid h1
  clear h1
  go_wp2_with (fail)
  refine (HF.out _ _ H1.out).mono ?_
  rintro e w2 hb
  obtain ⟨l, rfl, h2⟩ := hb.1 f1
  have H2 := Lib.hid h2
  clear hb h2
  clear f1 f2 f3 f4 f5 f6 s1 s2 s3 s4 s5 s6 s7 s8 s9
  have HV := Lib.hid (Rec.val_eq wkR)
  unfold wkR at HV
  go_wp2_with (fail)
  rw [← HV.out]
  refine (HS.out _ _ _ H2.out).mono ?_
  rintro e w3 ⟨rfl, h3⟩
  have H3 := Lib.hid h3
  clear h3
  go_wp2_with (fail)
  refine (HP.out _ _ _ H3.out.swap).mono ?_
  rintro e w4 hb
  have hb := hb.2 (by rw [HO.out]; decide)
  rw [HO.out] at hb
  obtain ⟨g, rfl, h4⟩ := hb
  have H4 := Lib.hid h4
  clear h4
  go_wp2_with (fail)
  refine (latest_at H4.out).mono ?_
  rintro e w5 ⟨rfl, hb⟩
  have H5 := Lib.hid (H4.out.below hb).bel
  clear hb
  rw [Rec.val_eq]
  unfold wkN
  go_wp2_with (fail)
  go_ret
  exact ⟨rfl, H5.out⟩

/-- the record of bytes, if it is this partition's -/
def fitRec (part : Int) (bs : List Int) : Rec := if (getRec bs).2 = 0 ∧ (getRec bs).1.part = part then (getRec bs).1 else Rec.zero
/-- the document's Latest -/
def refLatest (a b : List Int) (part : Int) : Rec := if (fitRec part b).seq > (fitRec part a).seq then fitRec part b else fitRec part a

theorem row_set6 {w0 w : World} {l : List Asn} {g : Nat} {t : TypeId} {x : Rec} (h : St w0 w (row g t x.cells.toList :: l)) (r : Rec) :
    St w0 ((((((w.setCell ⟨g, 0, none⟩ (.int .i64 r.part)).setCell ⟨g, 1, none⟩ (.int .i64 r.seq)).setCell ⟨g, 2, none⟩ (.int .i64 r.active)).setCell ⟨g, 3, none⟩ (.int .i64 r.confirmed)).setCell ⟨g, 4, none⟩ (.int .i64 r.left)).setCell ⟨g, 5, none⟩ (.int .i64 r.bad)) (row g t r.cells.toList :: l) :=
  (((((h.set 0 _).set 1 _).set 2 _).set 3 _).set 4 _).set 5 _
theorem row_zero6 {w0 w : World} {l : List Asn} {g : Nat} {t : TypeId} {x : Rec} (h : St w0 w (row g t x.cells.toList :: l)) :
    St w0 ((((((w.setCell ⟨g, 0, none⟩ (.int .i64 0)).setCell ⟨g, 1, none⟩ (.int .i64 0)).setCell ⟨g, 2, none⟩ (.int .i64 0)).setCell ⟨g, 3, none⟩ (.int .i64 0)).setCell ⟨g, 4, none⟩ (.int .i64 0)).setCell ⟨g, 5, none⟩ (.int .i64 0)) (row g t Rec.zero.cells.toList :: l) :=
  row_set6 h Rec.zero

set_option maxRecDepth 100000 in
set_option maxHeartbeats 16000000 in
theorem latest_ref (w : World) (A A' : Option Addr) (n n' c c' : Nat) (a b : List Int) (part : Int) (ha : a.length = n) (hb : b.length = n') (hc : n ≤ c) (hc' : n' ≤ c') (hya : Byt a) (hyb : Byt b) (hs : Sl w w.heap.size 1 A n (a.map (.int .u8))) (hs' : Sl w w.heap.size 1 A' n' (b.map (.int .u8))) :
    Calls Try.prog 37 #[.slice A n c, .slice A' n' c', .int .i64 part] w fun e w' => e = .returned (refLatest a b part).val ∧ Below w.heap.size w w' := by
  have HA := Lib.hid ha; have HB := Lib.hid hb; have HYA := Lib.hid hya; have HYB := Lib.hid hyb; have HS := Lib.hid hs; have HS' := Lib.hid hs'
  obtain ⟨ga, hga⟩ : ∃ ga, ga = getRec a := ⟨_, rfl⟩
  obtain ⟨gb, hgb⟩ : ∃ gb, gb = getRec b := ⟨_, rfl⟩
  have HGA := Lib.hid hga; have HGB := Lib.hid hgb
  obtain ⟨fa, hfa⟩ : ∃ fa, fa = fitRec part a := ⟨_, rfl⟩
  obtain ⟨fb, hfb⟩ : ∃ fb, fb = fitRec part b := ⟨_, rfl⟩
  have HFA := Lib.hid (show fa = if ga.2 = 0 ∧ ga.1.part = part then ga.1 else Rec.zero by rw [hfa, hga]; rfl)
  have HFB := Lib.hid (show fb = if gb.2 = 0 ∧ gb.1.part = part then gb.1 else Rec.zero by rw [hfb, hgb]; rfl)
  have HL := Lib.hid (show refLatest a b part = if fb.seq > fa.seq then fb else fa by rw [hfa, hfb]; rfl)
  obtain ⟨ga, ea⟩ := ga
  obtain ⟨gb, eb⟩ := gb
  simp only at HFA HFB
  have H1 := Lib.hid ((St.nil w).new 23 Rec.zero.cells)
  clear ha hb hya hyb hs hs' hga hgb hfa hfb
  go_enter Try.func37, Try.ntmps37
  go_wp2_with (fail)
  refine (Go.Proofs.Ytdlbcbdfcjfagaa.refRec.get_at _ A n c a HA.out hc HYA.out (((HS.out.below H1.out.bel)).more H1.out.bel.size)).mono ?_
  rintro e w2 ⟨rfl, hb⟩
  rw [← HGA.out]
  have H2 := Lib.hid ((H1.out.below hb).new 23 ga.cells)
  clear hb
  dsimp only
  rw [Rec.val_eq]
  obtain ⟨X, hX⟩ : ∃ X, X = w2.heap.size := ⟨_, rfl⟩
  obtain ⟨w3, hw3⟩ : ∃ w3, w3 = w2.alloc (.cells #[.int .i64 ga.part, .int .i64 ga.seq, .int .i64 ga.active, .int .i64 ga.confirmed, .int .i64 ga.left, .int .i64 ga.bad] 23) := ⟨_, rfl⟩
  unfold Rec.cells at H2
  rw [← hw3, ← hX] at H2
  have HW3 := Lib.hid hw3; have HX := Lib.hid hX
  clear hw3 hX
  go_wp2_with (fail)
  rw [← HW3.out, ← HX.out]
  have H3 := Lib.hid H2.out
  refine (Go.Proofs.Ytdlbcbdfcjfagaa.refRec.get_at _ A' n' c' b HB.out hc' HYB.out (((HS'.out.below H3.out.bel)).more H3.out.bel.size)).mono ?_
  rintro e w4 ⟨rfl, hb⟩
  rw [← HGB.out]
  have H4 := Lib.hid ((H3.out.below hb).new 23 gb.cells)
  clear hb
  dsimp only
  rw [Rec.val_eq]
  obtain ⟨Y, hY⟩ : ∃ Y, Y = w4.heap.size := ⟨_, rfl⟩
  obtain ⟨w5, hw5⟩ : ∃ w5, w5 = w4.alloc (.cells #[.int .i64 gb.part, .int .i64 gb.seq, .int .i64 gb.active, .int .i64 gb.confirmed, .int .i64 gb.left, .int .i64 gb.bad] 23) := ⟨_, rfl⟩
  unfold Rec.cells at H4
  rw [← hw5, ← hY] at H4
  have HW5 := Lib.hid hw5; have HY := Lib.hid hY
  clear hw5 hY
  go_upto_region 3 with fail
  rw [← HW5.out, ← HY.out]
  have H5 := Lib.hid (show St w w5 [row Y 23 gb.cells.toList, row X 23 ga.cells.toList, row w.heap.size 23 Rec.zero.cells.toList] from H4.out)
  have MS := Lib.hid (fun r : Rec => show (Try.prog.info? 23).map (·.size) = some r.cells.size from by kernel_rfl)
  have ML := Lib.hid (fun r s : Rec => show 0 + r.cells.size ≤ s.cells.toList.length from Nat.le_refl 6)
  have MO := Lib.hid (fun r : Rec => rec_one r)
  have MR := Lib.hid (fun r s : Rec => show s.cells.toList.take 0 ++ r.cells.toList ++ s.cells.toList.drop (0 + r.cells.size) = r.cells.toList by simp [Rec.cells])
  have H5 := Lib.hid (H5.out.pick 1 rfl)
  have CX : ∃ v : Bool, (((ea != 0) = true ∧ v = true) ∨ ((ea != 0) = false ∧ (ga.part != part) = true ∧ v = true) ∨ ((ea != 0) = false ∧ (ga.part != part) = false ∧ v = false)) ∧ (v = true → fa = Rec.zero) ∧ (v = false → fa = ga) := by
    have h := HFA.out
    by_cases h1 : ea = 0
    · by_cases h2 : ga.part = part
      · exact ⟨false, .inr (.inr ⟨by simpa using h1, by simpa using h2, rfl⟩), fun h => absurd h (by decide), fun _ => by rw [h, if_pos ⟨h1, h2⟩]⟩
      · exact ⟨true, .inr (.inl ⟨by simpa using h1, by simpa using h2, rfl⟩), fun _ => by rw [h, if_neg fun x => h2 x.2], fun h => absurd h (by decide)⟩
    · exact ⟨true, .inl ⟨by simpa using h1, rfl⟩, fun _ => by rw [h, if_neg fun x => h1 x.1], fun h => absurd h (by decide)⟩
  obtain ⟨vX, cX, zX⟩ := CX
  have HCX := Lib.hid cX; have HZX := Lib.hid zX
  clear cX zX
  have cx : w5.cell? ⟨X, 0, none⟩ = some (.int .i64 ga.part) := H5.out.row.1.cell 0
  have lcx := H5.out.row.1.lt
  go_upto_region 3 with fail
  go_cut [28] (fun s wc => s = .bool vX ∧ wc = w5)
  case first =>
    rcases HCX.out with ⟨t1, e1⟩ | ⟨t1, t2, e1⟩ | ⟨t1, t2, e1⟩
    all_goals
      subst e1
      go_wp2_with (fail)
      go_meet
      exact ⟨rfl, rfl⟩
  case rest =>
  obtain ⟨rfl, rfl⟩ := hcut
  go_upto_if 28 with fail
  go_cut [] (fun wc => St w wc [row X 23 fa.cells.toList, row Y 23 gb.cells.toList, row w.heap.size 23 Rec.zero.cells.toList])
  case first =>
    cases vX with
    | true =>
      have HE := Lib.hid (HZX.out.1 rfl)
      have HS := Lib.hid (H5.out.setRow Rec.zero.cells.toList)
      go_wp2_with (refine wpList_putR rfl 23 (.tmp 7) (.tmp 29) rfl X 0 Rec.zero.cells rfl rfl H5.out.row.1 (MS.out _) (ML.out _ _) (MO.out _) Rec.zero.cells.toList (MR.out _ _) ?_)
      go_meet
      rw [HE.out]
      exact HS.out
    | false =>
      have HE := Lib.hid (HZX.out.2 rfl)
      go_wp2_with (fail)
      go_meet
      rw [HE.out]
      exact H5.out
  case rest =>
  clear cx lcx
  obtain ⟨w6, hw⟩ : ∃ x, x = wc := ⟨_, rfl⟩
  subst hw
  have H6 := Lib.hid hcut
  clear hcut
  have H6 := Lib.hid (H6.out.pick 1 rfl)
  have CY : ∃ v : Bool, (((eb != 0) = true ∧ v = true) ∨ ((eb != 0) = false ∧ (gb.part != part) = true ∧ v = true) ∨ ((eb != 0) = false ∧ (gb.part != part) = false ∧ v = false)) ∧ (v = true → fb = Rec.zero) ∧ (v = false → fb = gb) := by
    have h := HFB.out
    by_cases h1 : eb = 0
    · by_cases h2 : gb.part = part
      · exact ⟨false, .inr (.inr ⟨by simpa using h1, by simpa using h2, rfl⟩), fun h => absurd h (by decide), fun _ => by rw [h, if_pos ⟨h1, h2⟩]⟩
      · exact ⟨true, .inr (.inl ⟨by simpa using h1, by simpa using h2, rfl⟩), fun _ => by rw [h, if_neg fun x => h2 x.2], fun h => absurd h (by decide)⟩
    · exact ⟨true, .inl ⟨by simpa using h1, rfl⟩, fun _ => by rw [h, if_neg fun x => h1 x.1], fun h => absurd h (by decide)⟩
  obtain ⟨vY, cY, zY⟩ := CY
  have HCY := Lib.hid cY; have HZY := Lib.hid zY
  clear cY zY
  have cy : w6.cell? ⟨Y, 0, none⟩ = some (.int .i64 gb.part) := H6.out.row.1.cell 0
  have lcy := H6.out.row.1.lt
  go_upto_region 5 with fail
  go_cut [37] (fun s wc => s = .bool vY ∧ wc = w6)
  case first =>
    rcases HCY.out with ⟨t1, e1⟩ | ⟨t1, t2, e1⟩ | ⟨t1, t2, e1⟩
    all_goals
      subst e1
      go_wp2_with (fail)
      go_meet
      exact ⟨rfl, rfl⟩
  case rest =>
  obtain ⟨rfl, rfl⟩ := hcut
  go_upto_if 37 with fail
  go_cut [] (fun wc => St w wc [row Y 23 fb.cells.toList, row X 23 fa.cells.toList, row w.heap.size 23 Rec.zero.cells.toList])
  case first =>
    cases vY with
    | true =>
      have HE := Lib.hid (HZY.out.1 rfl)
      have HS := Lib.hid (H6.out.setRow Rec.zero.cells.toList)
      go_wp2_with (refine wpList_putR rfl 23 (.tmp 9) (.tmp 38) rfl Y 0 Rec.zero.cells rfl rfl H6.out.row.1 (MS.out _) (ML.out _ _) (MO.out _) Rec.zero.cells.toList (MR.out _ _) ?_)
      go_meet
      rw [HE.out]
      exact HS.out
    | false =>
      have HE := Lib.hid (HZY.out.2 rfl)
      go_wp2_with (fail)
      go_meet
      rw [HE.out]
      exact H6.out
  case rest =>
  clear cy lcy
  obtain ⟨w7, hw⟩ : ∃ x, x = wc := ⟨_, rfl⟩
  subst hw
  have H7 := Lib.hid hcut
  clear hcut
  obtain ⟨y0, y1, y2, y3, y4, y5⟩ := Rec.read H7.out.row.1
  obtain ⟨x0, x1, x2, x3, x4, x5⟩ := Rec.read (H7.out.pick 1 rfl).row.1
  have lx := (H7.out.pick 1 rfl).row.1.lt
  have ly := H7.out.row.1.lt
  by_cases hq : fb.seq > fa.seq
  · have HQ := Lib.hid (HL.out.trans (if_pos hq))
    go_wp2_with (refine wpList_putR rfl 23 (.tmp 6) (.tmp 44) rfl w.heap.size 0 fb.cells rfl rfl (H7.out.pick 2 rfl).row.1 (MS.out _) (ML.out _ _) (MO.out _) fb.cells.toList (MR.out _ _) ?_)
    refine bodyPost_ret (results_cell_row rfl _ _ w.heap.size _ _ _ _ rfl ((H7.out.pick 2 rfl).setRow fb.cells.toList).row.1 Try.underlying23 rfl (by kernel_rfl)) rfl ?_
    exact ⟨by rw [HQ.out]; rfl, ((H7.out.pick 2 rfl).setRow fb.cells.toList).bel⟩
  · have HQ := Lib.hid (HL.out.trans (if_neg hq))
    go_wp2_with (refine wpList_putR rfl 23 (.tmp 6) (.tmp 45) rfl w.heap.size 0 fa.cells rfl rfl (H7.out.pick 2 rfl).row.1 (MS.out _) (ML.out _ _) (MO.out _) fa.cells.toList (MR.out _ _) ?_)
    refine bodyPost_ret (results_cell_row rfl _ _ w.heap.size _ _ _ _ rfl ((H7.out.pick 2 rfl).setRow fa.cells.toList).row.1 Try.underlying23 rfl (by kernel_rfl)) rfl ?_
    exact ⟨by rw [HQ.out]; rfl, ((H7.out.pick 2 rfl).setRow fa.cells.toList).bel⟩
end Go.Proofs.Ytdlbcbdfcjfagaa.commit
