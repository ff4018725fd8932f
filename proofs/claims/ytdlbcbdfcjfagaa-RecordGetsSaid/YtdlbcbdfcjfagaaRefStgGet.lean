/-
  PROVED HERE: the stage of a sector, as the document tells it.
  CONDITIONS: each contract names its own.
-/
import Derived.Test.YtdlbcbdfcjfagaaRefGet
import Derived.Test.YtdlbcbdfcjfagaaRefReader
import Derived.Test.YtdlbcbdfcjfagaaRefStage
import Derived.Test.YtdlbcbdfcjfagaaRes
import Derived.Test.YtdlbcbdfcjfagaaArgRec
namespace Go.Proofs.Ytdlbcbdfcjfagaa.refRec
set_option linter.unusedVariables false
open Go.RowKit Go.Proofs.Ytdlbcbdfcjfagaa.base Go.Proofs.Ytdlbcbdfcjfagaa.obj Go.Proofs.Ytdlbcbdfcjfagaa.mem Go.Proofs.Ytdlbcbdfcjfagaa.crc Go.Proofs.Ytdlbcbdfcjfagaa.num Go.Proofs.Ytdlbcbdfcjfagaa.bytes Go.Proofs.Ytdlbcbdfcjfagaa.record Go.Proofs.Ytdlbcbdfcjfagaa.refNum Go.Proofs.Ytdlbcbdfcjfagaa.same

theorem gotStg_in (bs : List Int) : -9223372036854775808 ≤ (gotStg bs).size := by
  have : (0 : Int) ≤ (gotStg bs).size := Int.natCast_nonneg _
  omega

set_option maxRecDepth 100000 in
set_option maxHeartbeats 8000000 in
theorem getStage_at (w : World) (A : Option Addr) (n c : Nat) (bs : List Int) (hl : bs.length = n) (hc : n ≤ c) (hb : Byt bs) (hs : Sl w w.heap.size 1 A n (bs.map (.int .u8))) :
    Calls Try.prog 23 #[.slice A n c] w fun e w' => e = .returned (.tuple #[(getStg bs).1.val, .int .i64 (getStg bs).2]) ∧ Below w.heap.size w w' := by
  obtain ⟨w0, hw0⟩ : ∃ w0, w0 = w.alloc (.cells Stg.zero.cells 40) := ⟨_, rfl⟩
  have HB0 := Lib.hid (show Below w.heap.size w w0 by rw [hw0]; exact (Below.refl w.heap.size w).alloc (Nat.le_refl _) _)
  have HR0 := Lib.hid (show Row w0 w.heap.size 40 Stg.zero.cells.toList by rw [hw0]; exact Row.new w _ _)
  have HSZ := Lib.hid (show w0.heap.size = w.heap.size + 1 by rw [hw0]; simp)
  have MS := Lib.hid (fun r : Stg => show (Try.prog.info? 40).map (·.size) = some r.cells.size from by kernel_rfl)
  have ML := Lib.hid (fun r : Stg => show 0 + r.cells.size ≤ Stg.zero.cells.toList.length from Nat.le_refl 3)
  have MO := Lib.hid (fun r : Stg => stg_one r)
  have MR := Lib.hid (fun r : Stg => show Stg.zero.cells.toList.take 0 ++ r.cells.toList ++ Stg.zero.cells.toList.drop (0 + r.cells.size) = r.cells.toList by simp [Stg.zero, Stg.cells])
  have HW := Lib.hid hw0
  have HO := Lib.hid (open_at w0 A n c bs hl hc hb ((hs.below HB0.out).more HB0.out.size) 83 8 (by decide) (by decide))
  have HL := Lib.hid hl; have HY := Lib.hid hb; have HS := Lib.hid hs
  clear hl hb hs hw0
  unfold Stg.zero Stg.cells at HW
  obtain ⟨ev, hev⟩ : ∃ ev, ev = if n = 64 then openE (76 * 256 + 83) 8 bs else 14 := ⟨_, rfl⟩
  rw [← hev] at HO
  have HG := Lib.hid (show getStg bs = if n = 64 ∧ ev = 0 then (if (gotStg bs).right then (gotStg bs, 0) else (Stg.zero, 3)) else (Stg.zero, ev) by
    unfold getStg
    rw [HL.out]
    by_cases h : n = 64
    · rw [if_pos h] at hev
      have hev2 : ev = openE 19539 8 bs := hev
      simp only [h, true_and, if_true, ← hev2]
    · rw [if_neg h] at hev
      simp only [h, false_and, if_false, hev])
  by_cases he : ev = 0
  · have h64 : n = 64 := by
      by_cases h : n = 64
      · exact h
      · rw [if_neg h] at hev; omega
    subst he
    subst h64
    rw [if_pos ⟨rfl, rfl⟩] at HG
    clear hev
    have HIN := Lib.hid (gotStg_in bs)
    have HGC := Lib.hid (show gotCells stgWidths bs 3 Stg.zero.cells.toList = (gotStg bs).cells.toList from rfl)
    go_enter Try.func23, Try.ntmps23
    go_wp2_with (fail)
    rw [← HW.out]
    refine HO.out.mono ?_
    rintro e w1 ⟨rfl, hb⟩
    have HB1 := Lib.hid (HB0.out.trans (hb.mono HB0.out.size))
    have HR1 := Lib.hid (HR0.out.below hb HR0.out.lt)
    have HS1 := Lib.hid (show Sl w1 w1.heap.size 1 A bs.length (bs.map (.int .u8)) by rw [HL.out]; exact (HS.out.below HB1.out).more HB1.out.size)
    have HI0 := Lib.hid (RSt.start (ks := stgWidths) (c := c) HR1.out HB1.out (by rw [HL.out]; exact hc) HS1.out)
    rw [HL.out] at HI0
    have HB64 := Lib.hid (show bs.length ≤ 100000 by rw [HL.out]; omega)
    clear hb
    obtain ⟨R, hR⟩ : ∃ R, R = w1.heap.size := ⟨_, rfl⟩
    obtain ⟨w2, hw2⟩ : ∃ w2, w2 = (w1.alloc (.cells #[.slice A 64 c, .int .i64 2, .int .i64 0] 100)).alloc (.cells #[.int .i64 0, .int .i64 0, .int .i64 0] 40) := ⟨_, rfl⟩
    have HI := Lib.hid (show RSt w R 40 stgWidths Stg.zero.cells.toList bs 0 w2 by rw [hR, hw2]; exact HI0.out)
    have HW2 := Lib.hid hw2; have HRR := Lib.hid hR
    clear hR hw2 HI0
    go_wp2_with (fail)
    rw [← HW2.out, ← HRR.out]
    refine (refNum.num_at HI.out.rd 2 (by decide) (by decide) (by rw [HL.out]; decide) HB64.out HY.out).mono ?_
    rintro e w3 ⟨rfl, hr, hk⟩
    rw [show val ((bs.drop (offs stgWidths 0)).take 2) = got stgWidths bs 0 from rfl]
    have HK0 := Lib.hid (HI.out.step (by decide) rfl hr hk rfl)
    obtain ⟨v, hv⟩ := HK0.out.2.1
    have hf := HK0.out.2.2.1
    have hl := HK0.out.2.2.2.1
    have HI1 := Lib.hid HK0.out.1
    clear hr hk
    go_wp2_with (fail)
    clear hv hf hl
    refine (refNum.num_at HI1.out.rd 2 (by decide) (by decide) (by rw [HL.out]; decide) HB64.out HY.out).mono ?_
    rintro e w3 ⟨rfl, hr, hk⟩
    rw [show val ((bs.drop (offs stgWidths 1)).take 2) = got stgWidths bs 1 from rfl]
    have HK1 := Lib.hid (HI1.out.step (by decide) rfl hr hk rfl)
    obtain ⟨v, hv⟩ := HK1.out.2.1
    have hf := HK1.out.2.2.1
    have hl := HK1.out.2.2.2.1
    have HI2 := Lib.hid HK1.out.1
    clear hr hk
    go_wp2_with (fail)
    clear hv hf hl
    refine (refNum.num_at HI2.out.rd 2 (by decide) (by decide) (by rw [HL.out]; decide) HB64.out HY.out).mono ?_
    rintro e w3 ⟨rfl, hr, hk⟩
    rw [show val ((bs.drop (offs stgWidths 2)).take 2) = got stgWidths bs 2 from rfl]
    have HK2 := Lib.hid (HI2.out.step (by decide) rfl hr hk rfl)
    obtain ⟨v, hv⟩ := HK2.out.2.1
    have hf := HK2.out.2.2.1
    have hl := HK2.out.2.2.2.1
    have HI6 := Lib.hid HK2.out.1
    have HRW := Lib.hid HK2.out.2.2.2.2
    have q0 : w3.cell? ⟨R + 1, 0, none⟩ = some (.int .i64 (got stgWidths bs 0 : Nat)) := HRW.out.cell 0
    have q1 : w3.cell? ⟨R + 1, 1, none⟩ = some (.int .i64 (got stgWidths bs 1 : Nat)) := HRW.out.cell 1
    have HB6 := Lib.hid HI6.out.bel
    have HRES := Lib.hid HI6.out.res
    clear hr hk HK0 HK1 HK2
    go_wp2_with (fail)
    refine (rightStage_at (gotStg bs) _ HIN.out).mono ?_
    rintro e w4 ⟨rfl, hb4⟩
    have HROW := Lib.hid (show Row (w3.setCell ⟨R + 1, 2, none⟩ (.int .i64 (got stgWidths bs 2 : Nat))) (R + 1) 40 (gotStg bs).cells.toList from HI6.out.row)
    have HR4 := Lib.hid (HRES.out.below hb4 HRES.out.lt)
    have HB4 := Lib.hid (HB6.out.trans (hb4.mono HB6.out.size))
    have HX4 := Lib.hid (HROW.out.below hb4 HROW.out.lt)
    clear hb4 hv hf hl q0 q1 HRES HB6 HI6 HROW
    generalize gotStg bs = gr at *
    obtain ⟨t0, t1, t2⟩ := Stg.read HX4.out
    have l4 := HX4.out.lt
    cases hr : gr.right with
    | false =>
      have HGF := Lib.hid (show getStg bs = (Stg.zero, 3) by rw [HG.out, hr]; rfl)
      clear hr
      go_wp2_with (refine wpList_putR rfl 40 (.tmp 2) (.tmp 29) rfl w.heap.size 0 Stg.zero.cells rfl rfl HR4.out (MS.out Stg.zero) (ML.out Stg.zero) (MO.out Stg.zero) Stg.zero.cells.toList (MR.out Stg.zero) ?_)
      refine bodyPost_ret (res_cell_slot rfl _ _ w.heap.size _ _ _ _ _ rfl rfl (HR4.out.setRow _) Try.underlying40 rfl (by kernel_rfl)) rfl ?_
      exact ⟨by rw [HGF.out]; rfl, below_setRow' HB4.out (Nat.le_refl _) _⟩
    | true =>
      have HGF := Lib.hid (show getStg bs = (gr, 0) by rw [HG.out, hr]; rfl)
      clear hr
      go_wp2_with (refine wpList_putR rfl 40 (.tmp 2) (.tmp 30) rfl w.heap.size 0 gr.cells rfl rfl HR4.out (MS.out gr) (ML.out gr) (MO.out gr) gr.cells.toList (MR.out gr) ?_)
      refine bodyPost_ret (res_cell_slot rfl _ _ w.heap.size _ _ _ _ _ rfl rfl (HR4.out.setRow _) Try.underlying40 rfl (by kernel_rfl)) rfl ?_
      exact ⟨by rw [HGF.out]; rfl, below_setRow' HB4.out (Nat.le_refl _) _⟩
  · have b2 : (ev != 0) = true := by simpa using he
    have HGF := Lib.hid (show getStg bs = (Stg.zero, ev) by rw [HG.out, if_neg (fun x => he x.2)])
    clear he hev
    go_enter Try.func23, Try.ntmps23
    go_wp2_with (fail)
    rw [← HW.out]
    refine HO.out.mono ?_
    rintro e w1 ⟨rfl, hb⟩
    have HB1 := Lib.hid (HB0.out.trans (hb.mono HB0.out.size))
    have HR1 := Lib.hid (HR0.out.below hb HR0.out.lt)
    clear hb
    go_wp2_with (refine wpList_putR rfl 40 (.tmp 2) (.tmp 11) rfl w.heap.size 0 Stg.zero.cells rfl rfl HR1.out (MS.out Stg.zero) (ML.out Stg.zero) (MO.out Stg.zero) Stg.zero.cells.toList (MR.out Stg.zero) ?_)
    refine bodyPost_ret (res_cell_slot rfl _ _ w.heap.size _ _ _ _ _ rfl rfl (HR1.out.setRow _) Try.underlying40 rfl (by kernel_rfl)) rfl ?_
    exact ⟨by rw [HGF.out]; rfl, below_setRow' HB1.out (Nat.le_refl _) _⟩
end Go.Proofs.Ytdlbcbdfcjfagaa.refRec
