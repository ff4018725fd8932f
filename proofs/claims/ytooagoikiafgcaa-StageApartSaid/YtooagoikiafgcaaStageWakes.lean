/-
  PROVED HERE: longeronlaw11.wakes returns true and leaves memory as it was.
  CONDITIONS: none.
-/
import Derived.Test.YtooagoikiafgcaaStageBytes
import Derived.Test.YtooagoikiafgcaaSame
namespace Go.Proofs.Ytooagoikiafgcaa.stage
set_option linter.unusedVariables false
open Go.RowKit Go.ChangeShapes Go.WideShapes Go.ChangeAt Go.Deep Go.Joins Go.Proofs.Ytooagoikiafgcaa.base Go.Proofs.Ytooagoikiafgcaa.obj Go.Proofs.Ytooagoikiafgcaa.mem Go.Proofs.Ytooagoikiafgcaa.crc Go.Proofs.Ytooagoikiafgcaa.disk Go.Proofs.Ytooagoikiafgcaa.record Go.Proofs.Ytooagoikiafgcaa.bits Go.Proofs.Ytooagoikiafgcaa.sep Go.Proofs.Ytooagoikiafgcaa.plan Go.Proofs.Ytooagoikiafgcaa.bytes Go.Proofs.Ytooagoikiafgcaa.same

theorem SI.right {m : DS} {p k : Int} {s : SlS} {R : RS} {might : Option RS} (h : SI m p k s R might) : s.has = true → s.st.right = true := h.mem.right
/-- Begin on a disk without a fuse -/
theorem SI.beginU {m : DS} {p k : Int} {s : SlS} {R : RS} (h : SI m p k s R Option.none) (hu : m.Up) (se sz : Int) : (beginM m p k s se sz).1 = (beginR R se sz).1 ∧ SI (beginM m p k s se sz).2.1 p k (beginM m p k s se sz).2.2 (beginR R se sz).2 Option.none ∧ (beginM m p k s se sz).2.1.Up := by
  have hup := begin_up h.pl hu s se sz
  exact ⟨((h.begin se sz).up hup).1, ((h.begin se sz).up hup).2, hup⟩
theorem SI.putU {m : DS} {p k : Int} {s : SlS} {R : RS} (h : SI m p k s R Option.none) (hu : m.Up) (se no : Int) {data : List Int} (hb : Byt data) : (putM m p k s se no data).1 = (putR R se no data).1 ∧ SI (putM m p k s se no data).2.1 p k (putM m p k s se no data).2.2 (putR R se no data).2 Option.none ∧ (putM m p k s se no data).2.1.Up := by
  have hup := put_up h.pl hu h.right se no hb
  exact ⟨((h.put se no hb).up hup).1, ((h.put se no hb).up hup).2, hup⟩
theorem SI.bytesU {m : DS} {p k : Int} {s : SlS} {R : RS} (h : SI m p k s R Option.none) (hu : m.down = false) : bytesM m p k s = bytesR R := bytes_eq h.pl h.mem (h.up hu).2.2.1 hu
/-- a slot and its disk, as one: what it tells is the document's -/
structure Live (w0 w : World) (g d : Nat) (p k : Int) (m : DS) (s : SlS) (R : RS) (l : List Asn) : Prop where
  st : St w0 w (slt g d p k s :: dsk d m :: l)
  si : SI m p k s R Option.none
  up : m.Up
theorem live_begin {w0 w : World} {g d : Nat} {p k : Int} {m : DS} {s : SlS} {R : RS} {l : List Asn} (h : Live w0 w g d p k m s R l) (se sz : Int) :
    Calls Try.prog 38 #[.pointer (some ⟨g, 0, none⟩), .int .i64 se, .int .i64 sz] w fun e w' => e = .returned (.int .i64 (beginR R se sz).1) ∧ ∃ m' s', Live w0 w' g d p k m' s' (beginR R se sz).2 l ∧ m'.secs.length = m.secs.length := by
  obtain ⟨h1, h2, h3⟩ := h.si.beginU h.up se sz
  refine (begin_at h.st h.si.pl.pk (by have := h.si.few; omega) se sz).mono fun e w' ⟨e1, e2⟩ => ⟨by rw [e1, h1], _, _, ⟨e2, h2, h3⟩, ?_⟩
  unfold beginM
  split
  · split <;> exact wf_slen _ _ _
  · rfl
theorem wf2_slen (m : DS) (i : Int) (bs : List Int) (j : Int) (cs : List Int) : (wf2 m i bs j cs).2.secs.length = m.secs.length := by
  unfold wf2
  split
  · rw [wf_slen, wf_slen]
  · exact wf_slen _ _ _
theorem putM_slen (m : DS) (p k : Int) (s : SlS) (se no : Int) (data : List Int) : (putM m p k s se no data).2.1.secs.length = m.secs.length := by
  unfold putM
  split
  · rfl
  · split
    · rfl
    · split
      · rfl
      · split <;> exact wf2_slen _ _ _ _ _
theorem live_put {w0 w : World} {g d : Nat} {p k : Int} {m : DS} {s : SlS} {R : RS} {l : List Asn} {B : Asn} {A : Option Addr} {n c : Nat} {data : List Int} (h : Live w0 w g d p k m s R (B :: l)) (hg : Gives w0 B A n data) (hb : Byt data) (se no : Int) :
    Calls Try.prog 39 #[.pointer (some ⟨g, 0, none⟩), .int .i64 se, .int .i64 no, .slice A n c] w fun e w' => e = .returned (.int .i64 (putR R se no data).1) ∧ ∃ m' s', Live w0 w' g d p k m' s' (putR R se no data).2 (B :: l) ∧ m'.secs.length = m.secs.length := by
  obtain ⟨h1, h2, h3⟩ := h.si.putU h.up se no hb
  exact (put_at h.st h.si.pl h.si.right (by have := h.si.few; omega) se no A n c data hg.1 (fun w' m' h' => hg.2 _ _ (h'.pick 2 rfl))).mono fun e w' ⟨e1, e2⟩ => ⟨by rw [e1, h1], _, _, ⟨e2, h2, h3⟩, putM_slen _ _ _ _ _ _ _⟩
theorem live_bytes {w0 w : World} {g d : Nat} {p k : Int} {m : DS} {s : SlS} {R : RS} {l : List Asn} (h : Live w0 w g d p k m s R l) :
    Calls Try.prog 41 #[.pointer (some ⟨g, 0, none⟩)] w fun e w' => ∃ A n B, e = .returned (.tuple #[.slice A n n, .int .i64 (bytesR R).2]) ∧ Gives w0 B A n (bytesR R).1 ∧ Live w0 w' g d p k m s R (B :: l) := by
  rw [← h.si.bytesU h.up.1]
  exact (bytes_st h.st h.si.pl h.si.right h.up.1 (by have := h.si.few; omega)).mono fun e w' ⟨A, n, B, h1, h2, h3⟩ => ⟨A, n, B, h1, h2, (h3.pick 2 rfl).pick 2 rfl, h.si, h.up⟩
theorem live_open {w0 w : World} {d n : Nat} {l : List Asn} (h : St w0 w (dsk d (DS.new n) :: l)) (h0 : 1 ≤ n) (h1 : n ≤ 128) {p k : Int} (hr : hasRoom p k n = true) :
    Calls Try.prog 36 #[.pointer (some ⟨d, 0, none⟩), .int .i64 p, .int .i64 k] w fun e w' => ∃ g, e = .returned (.tuple #[.pointer (some ⟨g, 0, none⟩), .int .i64 0]) ∧ Live w0 w' g d p k (DS.new n) SlS.none RS.none l := by
  obtain ⟨hs, ho⟩ := blank_si h0 h1 hr
  have hl : (DS.new n).secs.length = n := by simp [DS.new]
  refine (open_at h p k (by rw [hl]; exact hr) rfl (by simp [DS.new]) (DS.new_bts n)).mono fun e w' ⟨g, h1, h2⟩ => ⟨g, h1, ?_, hs, DS.new_up n⟩
  rw [ho] at h2
  exact h2

def wkD1 : List Int := fillL 1 16
def wkD2 : List Int := fillL 9 16
def wkR1 : RS := ⟨true, ⟨1, 20, 0⟩, [[], []]⟩
def wkR2 : RS := ⟨true, ⟨1, 20, 1⟩, [wkD1, []]⟩
def wkR3 : RS := ⟨true, ⟨1, 20, 3⟩, [wkD1, wkD2]⟩
theorem wk_1 : beginR RS.none 1 20 = (0, wkR1) := by decide
theorem wk_2 : putR wkR1 1 0 wkD1 = (0, wkR2) := by decide
theorem wk_3 : putR wkR2 1 1 wkD2 = (0, wkR3) := by decide
theorem wk_4 : bytesR wkR3 = (wkD1 ++ wkD2.take 4, 0) := by decide
set_option maxRecDepth 100000 in
set_option maxHeartbeats 4000000 in
theorem wakes (w : World) : Calls Try.prog 35 #[] w fun e w' => e = .returned (.bool true) ∧ Below w.heap.size w w' := by
  go_enter Try.func35, Try.ntmps35
  go_wp2_with (fail)
  refine (dsk_new (St.nil w) 10).mono ?_
  rintro e w1 ⟨d, rfl, h1⟩
  have H1 := Lib.hid (show St w w1 [dsk d (DS.new 10)] from h1)
  clear h1
  go_wp2_with (fail)
  refine (live_open H1.out (by omega) (by omega) (p := 0) (k := 1) (by decide)).mono ?_
  rintro e w2 ⟨g, rfl, h2⟩
  have H2 := Lib.hid h2
  clear h2
  go_wp2_with (fail)
  refine (live_begin H2.out 1 20).mono ?_
  rintro e w3 ⟨he, m3, s3, h3, _⟩
  rw [wk_1] at he h3
  subst he
  have H3 := Lib.hid (show Live w w3 g d 0 1 m3 s3 wkR1 [] from h3)
  clear h3
  go_wp2_with (fail)
  refine (fill_st H3.out.st 1 (by omega) (by omega) false).mono ?_
  rintro e w4 ⟨g4, c4, x4, rfl, hl4, hc4, ht4, hg4, h4⟩
  have H4 := Lib.hid (show Live w w4 g d 0 1 m3 s3 wkR1 [row g4 5 x4] from ⟨(h4.pick 2 rfl).pick 2 rfl, H3.out.si, H3.out.up⟩)
  have HG4 := Lib.hid (show Gives w (row g4 5 x4) (some ⟨g4, 0, none⟩) 16 wkD1 from hg4)
  clear h4 hl4 hc4 ht4 hg4
  unfold fillN
  go_wp2_with (fail)
  refine (live_put H4.out HG4.out (fillL_byt _ _) 1 0).mono ?_
  rintro e w5 ⟨he, m5, s5, h5, _⟩
  rw [wk_2] at he h5
  subst he
  have H5 := Lib.hid (show Live w w5 g d 0 1 m5 s5 wkR2 [row g4 5 x4] from h5)
  clear h5
  go_wp2_with (fail)
  refine (fill_st H5.out.st 9 (by omega) (by omega) false).mono ?_
  rintro e w6 ⟨g6, c6, x6, rfl, hl6, hc6, ht6, hg6, h6⟩
  have H6 := Lib.hid (show Live w w6 g d 0 1 m5 s5 wkR2 [row g6 5 x6, row g4 5 x4] from ⟨(h6.pick 2 rfl).pick 2 rfl, H5.out.si, H5.out.up⟩)
  have HG6 := Lib.hid (show Gives w (row g6 5 x6) (some ⟨g6, 0, none⟩) 16 wkD2 from hg6)
  clear h6 hl6 hc6 ht6 hg6
  unfold fillN
  go_wp2_with (fail)
  refine (live_put H6.out HG6.out (fillL_byt _ _) 1 1).mono ?_
  rintro e w7 ⟨he, m7, s7, h7, _⟩
  rw [wk_3] at he h7
  subst he
  have H7 := Lib.hid (show Live w w7 g d 0 1 m7 s7 wkR3 [row g6 5 x6, row g4 5 x4] from h7)
  clear h7
  go_wp2_with (fail)
  refine (live_bytes H7.out).mono ?_
  rintro e w8 ⟨A, n, B, he, hg8, h8⟩
  rw [wk_4] at he hg8
  subst he
  have H8 := Lib.hid h8; have HG8 := Lib.hid hg8
  clear h8 hg8
  go_wp2_with (fail)
  refine (fill_st H8.out.st 1 (by omega) (by omega) false).mono ?_
  rintro e w9 ⟨g9, c9, x9, rfl, hl9, hc9, ht9, hg9, h9⟩
  have H9 := Lib.hid h9; have HX9 := Lib.hid (show x9.length = c9 ∧ (16 ≤ c9 ∧ c9 ≤ maxLen) ∧ x9.take 16 = wkD1.map (.int .u8) from ⟨hl9, hc9, ht9⟩)
  clear h9 hl9 hc9 ht9 hg9
  unfold fillN
  go_wp2_with (fail)
  refine (fill_st H9.out 9 (by omega) (by omega) false).mono ?_
  rintro e w10 ⟨g10, c10, x10, rfl, hl10, hc10, ht10, hg10, h10⟩
  have H10 := Lib.hid h10
  have HS := Lib.hid (show Sl w10 w10.heap.size 1 (some ⟨g10, 0, none⟩) 4 ((wkD2.take 4).map (.int .u8)) from h10.row.1.sl (o := 0) h10.row.1.lt (by rw [List.drop_zero, List.map_take, ← show x10.take 16 = wkD2.map (.int .u8) from ht10, List.take_take]; rfl) rfl)
  have hc10' : 16 ≤ c10 := hc10.1
  clear h10 hl10 hc10 ht10 hg10
  have HO := Lib.hid (show St w w10 (sep.own 5 1 (.slice (some ⟨g9, 0, none⟩) 16 c9) 16 (wkD1.map (.int .u8)) :: row g10 5 x10 :: B :: []) by
    obtain ⟨q1, q2, q3⟩ := HX9.out
    have h := (H10.out.pick 1 rfl).new_row_own (size := 1) (n := 16) (cap := c9) q2.1 q2.2 (by rw [q1, Nat.mul_one])
    rw [Nat.mul_one, q3] at h
    exact (((h.pick 3 rfl).drop).pick 2 rfl).drop.take 3)
  unfold fillN
  go_wp2_with (refine app_rowW slB rfl (.tmp 38) (.tmp 40) rfl HO.out.own rfl rfl HS.out (u8s_one (wkD2.take 4)) (by omega) (by omega) (by unfold maxLen; omega) (HO.out.bel.size) ?_; intro g2 cap w11 ho hg hor hlt4; have H11 := Lib.hid (HO.out.grown hg ho (fun x hx => by injection hx with hx; rw [← hx]; exact hor)); clear ho hg hor)
  have HSA := Lib.hid (HG8.out.2 _ _ (H11.out.pick 2 rfl))
  have HSB := Lib.hid (Sl.of_own H11.out.own)
  rw [← List.map_append] at HSB
  have HN := Lib.hid HG8.out.1
  refine (same_any (wkD1 ++ wkD2.take 4) (wkD1 ++ wkD2.take 4) A (some ⟨g2, 0, none⟩) n 20 n cap _ HN.out.symm rfl (by have := HN.out; rw [← this]; decide) (by omega) HSA.out HSB.out).mono ?_
  rintro e w12 ⟨rfl, hb⟩
  have H12 := Lib.hid (H11.out.below hb).bel
  clear hb
  go_wp2_with (fail)
  go_ret
  exact ⟨by simp, H12.out⟩
end Go.Proofs.Ytooagoikiafgcaa.stage
