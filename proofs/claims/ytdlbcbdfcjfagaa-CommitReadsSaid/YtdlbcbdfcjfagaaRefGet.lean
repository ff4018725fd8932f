/-
  PROVED HERE: the record, and the stage, of a sector, as the document tells it.
  CONDITIONS: each contract names its own.
-/
import Derived.Test.YtdlbcbdfcjfagaaRefOpen
import Derived.Test.YtdlbcbdfcjfagaaRefReader
import Derived.Test.YtdlbcbdfcjfagaaRefStage
import Derived.Test.YtdlbcbdfcjfagaaRes
import Derived.Test.YtdlbcbdfcjfagaaArgRec
namespace Go.Proofs.Ytdlbcbdfcjfagaa.refRec
set_option linter.unusedVariables false
open Go.RowKit Go.Proofs.Ytdlbcbdfcjfagaa.base Go.Proofs.Ytdlbcbdfcjfagaa.obj Go.Proofs.Ytdlbcbdfcjfagaa.mem Go.Proofs.Ytdlbcbdfcjfagaa.crc Go.Proofs.Ytdlbcbdfcjfagaa.num Go.Proofs.Ytdlbcbdfcjfagaa.bytes Go.Proofs.Ytdlbcbdfcjfagaa.record Go.Proofs.Ytdlbcbdfcjfagaa.refNum Go.Proofs.Ytdlbcbdfcjfagaa.same

/-- behind k numbers: the reader in block R, what is read behind it -/
structure RSt (w : World) (R : Nat) (T : TypeId) (ks : List Nat) (c0 : List Value) (bs : List Int) (k : Nat) (wr : World) : Prop where
  rd : RRd wr R bs (offs ks k)
  row : Row wr (R + 1) T (gotCells ks bs k c0)
  res : Row wr w.heap.size T c0
  bel : Below w.heap.size w wr
  lo : w.heap.size < R
theorem RSt.step {w : World} {R : Nat} {T : TypeId} {ks : List Nat} {c0 : List Value} {bs : List Int} {k : Nat} {wr w2 : World} (h : RSt w R T ks c0 bs k wr) (hk : k < ks.length) (hc : c0.length = ks.length) (hr : RRd w2 R bs (offs ks k + ks.getD k 0)) (kp : Kept (fun i => i = R) wr w2) {x : Nat} (hx : x = got ks bs k) :
    RSt w R T ks c0 bs (k + 1) (w2.setCell ⟨R + 1, k, none⟩ (.int .i64 x)) ∧ (∃ v, w2.cell? ⟨R + 1, k, none⟩ = some v) ∧ w2.frozen? ⟨R + 1, k, none⟩ = false ∧ R + 1 < w2.heap.size ∧ Row w2 (R + 1) T (gotCells ks bs k c0) := by
  subst hx
  have hlo := h.lo
  have hrow := h.row.kept kp (fun e => by have : R + 1 = R := e; omega)
  have hres := h.res.kept kp (fun e => by have : w.heap.size = R := e; omega)
  have hbel : Below w.heap.size w w2 := h.bel.trans (kp.below h.bel.size (fun i hi e => by have : i = R := e; omega))
  obtain ⟨v, hv⟩ := gotCells_get ks bs k c0 (by omega)
  refine ⟨⟨?_, ?_, hres.setCell_other (p := ⟨R + 1, k, none⟩) (by show w.heap.size ≠ R + 1; omega) _, hbel.setCell (p := ⟨R + 1, k, none⟩) (by show w.heap.size ≤ R + 1; omega) _, hlo⟩, ⟨v, (hrow.cell k).trans hv⟩, hrow.frozen k, hrow.lt, hrow⟩
  · rw [offs_succ ks k hk]
    obtain ⟨A, c, e, h1, h2⟩ := hr.cell
    exact ⟨A, c, e.setCell_other (p := ⟨R + 1, k, none⟩) (by show R ≠ R + 1; omega) _, h1, h2.below ((Below.refl _ _).setCell (p := ⟨R + 1, k, none⟩) (by show R ≤ R + 1; omega) _)⟩
  · rw [← gotCells_set ks bs k c0 (by omega)]
    exact hrow.setCell k _
/-- at the first one -/
theorem RSt.start {w w1 : World} {T : TypeId} {ks : List Nat} {c0 : Array Value} {bs : List Int} {A : Option Addr} {c : Nat} (hres : Row w1 w.heap.size T c0.toList) (hb : Below w.heap.size w w1) (hc : bs.length ≤ c) (hs : Sl w1 w1.heap.size 1 A bs.length (bs.map (.int .u8))) :
    RSt w w1.heap.size T ks c0.toList bs 0 ((w1.alloc (.cells #[.slice A bs.length c, .int .i64 2, .int .i64 0] 100)).alloc (.cells c0 T)) := by
  have h1 := Row.new w1 100 #[.slice A bs.length c, .int .i64 2, .int .i64 0]
  have h2 := Row.new (w1.alloc (.cells #[.slice A bs.length c, .int .i64 2, .int .i64 0] 100)) T c0
  have hs2 : (w1.alloc (.cells #[.slice A bs.length c, .int .i64 2, .int .i64 0] 100)).heap.size = w1.heap.size + 1 := by simp
  rw [hs2] at h2
  have hb2 := ((Below.refl w1.heap.size w1).alloc (Nat.le_refl _) (.cells #[.slice A bs.length c, .int .i64 2, .int .i64 0] 100)).alloc (by simp) (.cells c0 T)
  exact ⟨⟨A, c, h1.alloc _, hc, hs.below hb2⟩, by simpa [gotCells] using h2, (hres.alloc _).alloc _, (hb.alloc hb.size _).alloc (by rw [hs2]; exact Nat.le_succ_of_le hb.size) _, hres.lt⟩

set_option maxRecDepth 100000 in
set_option maxHeartbeats 8000000 in
theorem get_at (w : World) (A : Option Addr) (n c : Nat) (bs : List Int) (hl : bs.length = n) (hc : n ≤ c) (hb : Byt bs) (hs : Sl w w.heap.size 1 A n (bs.map (.int .u8))) :
    Calls Try.prog 21 #[.slice A n c] w fun e w' => e = .returned (.tuple #[(getRec bs).1.val, .int .i64 (getRec bs).2]) ∧ Below w.heap.size w w' := by
  obtain ⟨w0, hw0⟩ : ∃ w0, w0 = w.alloc (.cells Rec.zero.cells 23) := ⟨_, rfl⟩
  have HB0 := Lib.hid (show Below w.heap.size w w0 by rw [hw0]; exact (Below.refl w.heap.size w).alloc (Nat.le_refl _) _)
  have HR0 := Lib.hid (show Row w0 w.heap.size 23 Rec.zero.cells.toList by rw [hw0]; exact Row.new w _ _)
  have HSZ := Lib.hid (show w0.heap.size = w.heap.size + 1 by rw [hw0]; simp)
  have MS := Lib.hid (fun r : Rec => show (Try.prog.info? 23).map (·.size) = some r.cells.size from by kernel_rfl)
  have ML := Lib.hid (fun r : Rec => show 0 + r.cells.size ≤ Rec.zero.cells.toList.length from Nat.le_refl 6)
  have MO := Lib.hid (fun r : Rec => rec_one r)
  have MR := Lib.hid (fun r : Rec => show Rec.zero.cells.toList.take 0 ++ r.cells.toList ++ Rec.zero.cells.toList.drop (0 + r.cells.size) = r.cells.toList by simp [Rec.zero, Rec.cells])
  have HW := Lib.hid hw0
  have HO := Lib.hid (open_at w0 A n c bs hl hc hb ((hs.below HB0.out).more HB0.out.size) 67 11 (by decide) (by decide))
  have HL := Lib.hid hl; have HY := Lib.hid hb; have HS := Lib.hid hs
  clear hl hb hs hw0
  unfold Rec.zero Rec.cells at HW
  obtain ⟨ev, hev⟩ : ∃ ev, ev = if n = 64 then openE (76 * 256 + 67) 11 bs else 14 := ⟨_, rfl⟩
  rw [← hev] at HO
  have HG := Lib.hid (show getRec bs = if n = 64 ∧ ev = 0 then (if (gotRec bs).right then (gotRec bs, 0) else (Rec.zero, 3)) else (Rec.zero, ev) by
    unfold getRec
    rw [HL.out]
    by_cases h : n = 64
    · rw [if_pos h] at hev
      have hev2 : ev = openE 19523 11 bs := hev
      simp only [h, true_and, if_true, ← hev2]
    · rw [if_neg h] at hev
      simp only [h, false_and, if_false, hev])
  by_cases he : ev = 0
  · have h64 : n = 64 := by
      by_cases h : n = 64
      · exact h
      · rw [if_neg h] at hev; omega
    subst he
    subst h64
    rw [if_pos ⟨rfl, rfl⟩] at HG
    clear hev
    have HA := Lib.hid (right_at (gotRec bs))
    have HGC := Lib.hid (show gotCells recWidths bs 6 Rec.zero.cells.toList = (gotRec bs).cells.toList from rfl)
    have X0 := Lib.hid (show val ((bs.drop 2).take 1) = got recWidths bs 0 from rfl)
    have X1 := Lib.hid (show val ((bs.drop 3).take 4) = got recWidths bs 1 from rfl)
    have X2 := Lib.hid (show val ((bs.drop 7).take 1) = got recWidths bs 2 from rfl)
    have X3 := Lib.hid (show val ((bs.drop 8).take 1) = got recWidths bs 3 from rfl)
    have X4 := Lib.hid (show val ((bs.drop 9).take 1) = got recWidths bs 4 from rfl)
    have X5 := Lib.hid (show val ((bs.drop 10).take 1) = got recWidths bs 5 from rfl)
    go_enter Try.func21, Try.ntmps21
    go_wp2_with (fail)
    rw [← HW.out]
    refine HO.out.mono ?_
    rintro e w1 ⟨rfl, hb⟩
    have HB1 := Lib.hid (HB0.out.trans (hb.mono HB0.out.size))
    have HR1 := Lib.hid (HR0.out.below hb HR0.out.lt)
    have HS1 := Lib.hid (show Sl w1 w1.heap.size 1 A bs.length (bs.map (.int .u8)) by rw [HL.out]; exact (HS.out.below HB1.out).more HB1.out.size)
    have HI0 := Lib.hid (RSt.start (ks := recWidths) (c := c) HR1.out HB1.out (by rw [HL.out]; exact hc) HS1.out)
    rw [HL.out] at HI0
    have HB64 := Lib.hid (show bs.length ≤ 100000 by rw [HL.out]; omega)
    clear hb
    obtain ⟨R, hR⟩ : ∃ R, R = w1.heap.size := ⟨_, rfl⟩
    obtain ⟨w2, hw2⟩ : ∃ w2, w2 = (w1.alloc (.cells #[.slice A 64 c, .int .i64 2, .int .i64 0] 100)).alloc (.cells #[.int .i64 0, .int .i64 0, .int .i64 0, .int .i64 0, .int .i64 0, .int .i64 0] 23) := ⟨_, rfl⟩
    have HI := Lib.hid (show RSt w R 23 recWidths Rec.zero.cells.toList bs 0 w2 by rw [hR, hw2]; exact HI0.out)
    have HW2 := Lib.hid hw2; have HRR := Lib.hid hR
    clear hR hw2 HI0
    go_wp2_with (fail)
    rw [← HW2.out, ← HRR.out]
    refine (refNum.num_at HI.out.rd 1 (by decide) (by decide) (by rw [HL.out]; decide) HB64.out HY.out).mono ?_
    rintro e w3 ⟨rfl, hr, hk⟩
    rw [show val ((bs.drop (offs recWidths 0)).take 1) = got recWidths bs 0 from rfl]
    have HK0 := Lib.hid (HI.out.step (by decide) rfl hr hk rfl)
    obtain ⟨v, hv⟩ := HK0.out.2.1
    have hf := HK0.out.2.2.1
    have hl := HK0.out.2.2.2.1
    have HI1 := Lib.hid HK0.out.1
    clear hr hk
    go_wp2_with (fail)
    clear hv hf hl
    refine (refNum.num_at HI1.out.rd 4 (by decide) (by decide) (by rw [HL.out]; decide) HB64.out HY.out).mono ?_
    rintro e w3 ⟨rfl, hr, hk⟩
    rw [show val ((bs.drop (offs recWidths 1)).take 4) = got recWidths bs 1 from rfl]
    have HK1 := Lib.hid (HI1.out.step (by decide) rfl hr hk rfl)
    obtain ⟨v, hv⟩ := HK1.out.2.1
    have hf := HK1.out.2.2.1
    have hl := HK1.out.2.2.2.1
    have HI2 := Lib.hid HK1.out.1
    clear hr hk
    go_wp2_with (fail)
    clear hv hf hl
    refine (refNum.num_at HI2.out.rd 1 (by decide) (by decide) (by rw [HL.out]; decide) HB64.out HY.out).mono ?_
    rintro e w3 ⟨rfl, hr, hk⟩
    rw [show val ((bs.drop (offs recWidths 2)).take 1) = got recWidths bs 2 from rfl]
    have HK2 := Lib.hid (HI2.out.step (by decide) rfl hr hk rfl)
    obtain ⟨v, hv⟩ := HK2.out.2.1
    have hf := HK2.out.2.2.1
    have hl := HK2.out.2.2.2.1
    have HI3 := Lib.hid HK2.out.1
    clear hr hk
    go_wp2_with (fail)
    clear hv hf hl
    refine (refNum.num_at HI3.out.rd 1 (by decide) (by decide) (by rw [HL.out]; decide) HB64.out HY.out).mono ?_
    rintro e w3 ⟨rfl, hr, hk⟩
    rw [show val ((bs.drop (offs recWidths 3)).take 1) = got recWidths bs 3 from rfl]
    have HK3 := Lib.hid (HI3.out.step (by decide) rfl hr hk rfl)
    obtain ⟨v, hv⟩ := HK3.out.2.1
    have hf := HK3.out.2.2.1
    have hl := HK3.out.2.2.2.1
    have HI4 := Lib.hid HK3.out.1
    clear hr hk
    go_wp2_with (fail)
    clear hv hf hl
    refine (refNum.num_at HI4.out.rd 1 (by decide) (by decide) (by rw [HL.out]; decide) HB64.out HY.out).mono ?_
    rintro e w3 ⟨rfl, hr, hk⟩
    rw [show val ((bs.drop (offs recWidths 4)).take 1) = got recWidths bs 4 from rfl]
    have HK4 := Lib.hid (HI4.out.step (by decide) rfl hr hk rfl)
    obtain ⟨v, hv⟩ := HK4.out.2.1
    have hf := HK4.out.2.2.1
    have hl := HK4.out.2.2.2.1
    have HI5 := Lib.hid HK4.out.1
    clear hr hk
    go_wp2_with (fail)
    clear hv hf hl
    refine (refNum.num_at HI5.out.rd 1 (by decide) (by decide) (by rw [HL.out]; decide) HB64.out HY.out).mono ?_
    rintro e w3 ⟨rfl, hr, hk⟩
    rw [show val ((bs.drop (offs recWidths 5)).take 1) = got recWidths bs 5 from rfl]
    have HK5 := Lib.hid (HI5.out.step (by decide) rfl hr hk rfl)
    obtain ⟨v, hv⟩ := HK5.out.2.1
    have hf := HK5.out.2.2.1
    have hl := HK5.out.2.2.2.1
    have HI6 := Lib.hid HK5.out.1
    have HRW := Lib.hid HK5.out.2.2.2.2
    have q0 : w3.cell? ⟨R + 1, 0, none⟩ = some (.int .i64 (got recWidths bs 0 : Nat)) := HRW.out.cell 0
    have q1 : w3.cell? ⟨R + 1, 1, none⟩ = some (.int .i64 (got recWidths bs 1 : Nat)) := HRW.out.cell 1
    have q2 : w3.cell? ⟨R + 1, 2, none⟩ = some (.int .i64 (got recWidths bs 2 : Nat)) := HRW.out.cell 2
    have q3 : w3.cell? ⟨R + 1, 3, none⟩ = some (.int .i64 (got recWidths bs 3 : Nat)) := HRW.out.cell 3
    have q4 : w3.cell? ⟨R + 1, 4, none⟩ = some (.int .i64 (got recWidths bs 4 : Nat)) := HRW.out.cell 4
    have HB6 := Lib.hid HI6.out.bel
    have HRES := Lib.hid HI6.out.res
    clear hr hk HK0 HK1 HK2 HK3 HK4 HK5 X0 X1 X2 X3 X4 X5
    go_wp2_with (fail)
    refine (right_at (gotRec bs) _).mono ?_
    rintro e w4 ⟨rfl, hb4⟩
    have HROW := Lib.hid (show Row (w3.setCell ⟨R + 1, 5, none⟩ (.int .i64 (got recWidths bs 5 : Nat))) (R + 1) 23 (gotRec bs).cells.toList from HI6.out.row)
    have HR4 := Lib.hid (HRES.out.below hb4 HRES.out.lt)
    have HB4 := Lib.hid (HB6.out.trans (hb4.mono HB6.out.size))
    have HX4 := Lib.hid (HROW.out.below hb4 HROW.out.lt)
    clear hb4 hv hf hl q0 q1 q2 q3 q4 HRES HB6 HI6 HROW
    generalize gotRec bs = gr at *
    obtain ⟨t0, t1, t2, t3, t4, t5⟩ := Rec.read HX4.out
    have l4 := HX4.out.lt
    cases hr : gr.right with
    | false =>
      have HGF := Lib.hid (show getRec bs = (Rec.zero, 3) by rw [HG.out, hr]; rfl)
      clear hr
      go_wp2_with (refine wpList_putR rfl 23 (.tmp 2) (.tmp 38) rfl w.heap.size 0 Rec.zero.cells rfl rfl HR4.out (MS.out Rec.zero) (ML.out Rec.zero) (MO.out Rec.zero) Rec.zero.cells.toList (MR.out Rec.zero) ?_)
      refine bodyPost_ret (res_cell_slot rfl _ _ w.heap.size _ _ _ _ _ rfl rfl (HR4.out.setRow _) Try.underlying23 rfl (by kernel_rfl)) rfl ?_
      exact ⟨by rw [HGF.out]; rfl, below_setRow' HB4.out (Nat.le_refl _) _⟩
    | true =>
      have HGF := Lib.hid (show getRec bs = (gr, 0) by rw [HG.out, hr]; rfl)
      clear hr
      go_wp2_with (refine wpList_putR rfl 23 (.tmp 2) (.tmp 39) rfl w.heap.size 0 gr.cells rfl rfl HR4.out (MS.out gr) (ML.out gr) (MO.out gr) gr.cells.toList (MR.out gr) ?_)
      refine bodyPost_ret (res_cell_slot rfl _ _ w.heap.size _ _ _ _ _ rfl rfl (HR4.out.setRow _) Try.underlying23 rfl (by kernel_rfl)) rfl ?_
      exact ⟨by rw [HGF.out]; rfl, below_setRow' HB4.out (Nat.le_refl _) _⟩
  · have b2 : (ev != 0) = true := by simpa using he
    have HGF := Lib.hid (show getRec bs = (Rec.zero, ev) by rw [HG.out, if_neg (fun x => he x.2)])
    clear he hev
    go_enter Try.func21, Try.ntmps21
    go_wp2_with (fail)
    rw [← HW.out]
    refine HO.out.mono ?_
    rintro e w1 ⟨rfl, hb⟩
    have HB1 := Lib.hid (HB0.out.trans (hb.mono HB0.out.size))
    have HR1 := Lib.hid (HR0.out.below hb HR0.out.lt)
    clear hb
    go_wp2_with (refine wpList_putR rfl 23 (.tmp 2) (.tmp 11) rfl w.heap.size 0 Rec.zero.cells rfl rfl HR1.out (MS.out Rec.zero) (ML.out Rec.zero) (MO.out Rec.zero) Rec.zero.cells.toList (MR.out Rec.zero) ?_)
    refine bodyPost_ret (res_cell_slot rfl _ _ w.heap.size _ _ _ _ _ rfl rfl (HR1.out.setRow _) Try.underlying23 rfl (by kernel_rfl)) rfl ?_
    exact ⟨by rw [HGF.out]; rfl, below_setRow' HB1.out (Nat.le_refl _) _⟩
end Go.Proofs.Ytdlbcbdfcjfagaa.refRec
