/-
  PROVED HERE: the contract of the document's Next.
  CONDITIONS: the first record's Seq is no less than 0.
-/
import Derived.Test.YtdlbcbdfcjfagaaCommitWakes
namespace Go.Proofs.Ytdlbcbdfcjfagaa.commit
set_option linter.unusedVariables false
open Go.RowKit Go.Proofs.Ytdlbcbdfcjfagaa.base Go.Proofs.Ytdlbcbdfcjfagaa.obj Go.Proofs.Ytdlbcbdfcjfagaa.mem Go.Proofs.Ytdlbcbdfcjfagaa.crc Go.Proofs.Ytdlbcbdfcjfagaa.disk Go.Proofs.Ytdlbcbdfcjfagaa.record Go.Proofs.Ytdlbcbdfcjfagaa.sep Go.Proofs.Ytdlbcbdfcjfagaa.plan

set_option maxRecDepth 100000 in
set_option maxHeartbeats 8000000 in
theorem next_ref (w : World) (now r : Rec) (h0 : 0 ≤ now.seq) :
    Calls Try.prog 40 #[now.val, r.val] w fun e w' => e = .returned (.tuple #[(refNext now r).1.val, .int .i64 (refNext now r).2]) ∧ Below w.heap.size w w' := by
  have MS := Lib.hid (fun r : Rec => show (Try.prog.info? 23).map (·.size) = some r.cells.size from by kernel_rfl)
  have ML := Lib.hid (fun r s : Rec => show 0 + r.cells.size ≤ s.cells.toList.length from Nat.le_refl 6)
  have MO := Lib.hid (fun r : Rec => rec_one r)
  have MR := Lib.hid (fun r s : Rec => show s.cells.toList.take 0 ++ r.cells.toList ++ s.cells.toList.drop (0 + r.cells.size) = r.cells.toList by simp [Rec.cells])
  obtain ⟨nx, hnx⟩ : ∃ nx, nx = nextRec now.part now r := ⟨_, rfl⟩
  have HQ := Lib.hid (show refNext now r = if 4294967295 ≤ now.seq then (now, 4) else if nx.right then (nx, 0) else (now, 3) by rw [hnx]; rfl)
  have HNX := Lib.hid hnx
  have HV := Lib.hid (Rec.val_eq nx)
  clear hnx
  obtain ⟨w1, hw1⟩ : ∃ w1, w1 = ((w.alloc (.cells #[.int .i64 now.part, .int .i64 now.seq, .int .i64 now.active, .int .i64 now.confirmed, .int .i64 now.left, .int .i64 now.bad] 23)).alloc (.cells #[.int .i64 r.part, .int .i64 r.seq, .int .i64 r.active, .int .i64 r.confirmed, .int .i64 r.left, .int .i64 r.bad] 23)).alloc (.cells #[.int .i64 0, .int .i64 0, .int .i64 0, .int .i64 0, .int .i64 0, .int .i64 0] 23) := ⟨_, rfl⟩
  have H1 := Lib.hid (show St w w1 [row (w.heap.size + 1 + 1) 23 Rec.zero.cells.toList, row (w.heap.size + 1) 23 r.cells.toList, row w.heap.size 23 now.cells.toList] by
    rw [hw1]
    have h := (((St.nil w).new 23 now.cells).new 23 r.cells).new 23 Rec.zero.cells
    rw [show ((w.alloc (.cells now.cells 23)).alloc (.cells r.cells 23)).heap.size = w.heap.size + 1 + 1 by simp, show (w.alloc (.cells now.cells 23)).heap.size = w.heap.size + 1 by simp] at h
    exact h)
  have HW1 := Lib.hid hw1
  clear hw1
  rw [Rec.val_eq now, Rec.val_eq r]
  obtain ⟨n0, n1, n2, n3, n4, n5⟩ := Rec.read (H1.out.pick 2 rfl).row.1
  have ln := (H1.out.pick 2 rfl).row.1.lt
  have f0 := (H1.out.pick 1 rfl).row.1.frozen 0
  have f1 := (H1.out.pick 1 rfl).row.1.frozen 1
  obtain ⟨r0, r1, r2, r3, r4, r5⟩ := Rec.read (H1.out.pick 1 rfl).row.1
  have lr := (H1.out.pick 1 rfl).row.1.lt
  by_cases hf : 4294967295 ≤ now.seq
  · have HQ2 := Lib.hid (HQ.out.trans (if_pos hf))
    have hf' : now.seq ≥ 4294967295 := hf
    go_enter Try.func40, Try.ntmps40
    go_upto_region 1 with fail
    rw [← HW1.out]
    go_wp2_with (refine wpList_putR rfl 23 (.tmp 4) (.tmp 9) rfl (w.heap.size + 1 + 1) 0 now.cells rfl rfl H1.out.row.1 (MS.out _) (ML.out _ _) (MO.out _) now.cells.toList (MR.out _ _) ?_)
    refine bodyPost_ret (res_cell_slot rfl _ _ (w.heap.size + 1 + 1) _ _ _ _ _ rfl rfl (H1.out.setRow now.cells.toList).row.1 Try.underlying23 rfl (by kernel_rfl)) rfl ?_
    exact ⟨by rw [HQ2.out]; rfl, (H1.out.setRow now.cells.toList).bel⟩
  · have hf' : ¬ now.seq ≥ 4294967295 := by omega
    have hs1 : now.seq ≤ 4294967294 := by omega
    have HQ2 := Lib.hid (HQ.out.trans (if_neg hf))
    have hwr : IntKind.i64.wrap (now.seq + 1) = now.seq + 1 := IntWalk.i64_in _ (by omega)
    clear hf
    have H2 := Lib.hid (show St w _ [row (w.heap.size + 1) 23 nx.cells.toList, row (w.heap.size + 1 + 1) 23 Rec.zero.cells.toList, row w.heap.size 23 now.cells.toList] by
      have h := (((H1.out.pick 1 rfl).set 0 (.int .i64 now.part)).set 1 (.int .i64 (now.seq + 1)))
      rw [HNX.out]; exact h)
    obtain ⟨w2, hw2⟩ : ∃ w2, w2 = (w1.setCell ⟨w.heap.size + 1, 0, none⟩ (.int .i64 now.part)).setCell ⟨w.heap.size + 1, 1, none⟩ (.int .i64 (now.seq + 1)) := ⟨_, rfl⟩
    rw [← hw2] at H2
    have HW2 := Lib.hid hw2
    clear hw2
    go_enter Try.func40, Try.ntmps40
    go_upto_region 1 with fail
    rw [← HW1.out]
    go_upto_region 5 with fail
    rw [← HW2.out]
    clear n0 n1 n2 n3 n4 n5 ln f0 f1 r0 r1 r2 r3 r4 r5 lr
    obtain ⟨r0, r1, r2, r3, r4, r5⟩ := Rec.read H2.out.row.1
    have lr := H2.out.row.1.lt
    go_wp2_with (fail)
    rw [← HV.out]
    refine (Go.Proofs.Ytdlbcbdfcjfagaa.refRec.right_at nx _).mono ?_
    rintro e w3 ⟨rfl, hb⟩
    have H3 := Lib.hid (H2.out.below hb)
    clear hb r0 r1 r2 r3 r4 r5 lr
    cases hg : nx.right with
    | true =>
      have HQ3 := Lib.hid (HQ2.out.trans (if_pos hg))
      clear hg
      obtain ⟨r0, r1, r2, r3, r4, r5⟩ := Rec.read H3.out.row.1
      have lr := H3.out.row.1.lt
      go_wp2_with (refine wpList_putR rfl 23 (.tmp 4) (.tmp 21) rfl (w.heap.size + 1 + 1) 0 nx.cells rfl rfl (H3.out.pick 1 rfl).row.1 (MS.out _) (ML.out _ _) (MO.out _) nx.cells.toList (MR.out _ _) ?_)
      refine bodyPost_ret (res_cell_slot rfl _ _ (w.heap.size + 1 + 1) _ _ _ _ _ rfl rfl ((H3.out.pick 1 rfl).setRow nx.cells.toList).row.1 Try.underlying23 rfl (by kernel_rfl)) rfl ?_
      exact ⟨by rw [HQ3.out]; rfl, ((H3.out.pick 1 rfl).setRow nx.cells.toList).bel⟩
    | false =>
      have HQ3 := Lib.hid (HQ2.out.trans (if_neg (by rw [hg]; decide)))
      clear hg
      obtain ⟨r0, r1, r2, r3, r4, r5⟩ := Rec.read (H3.out.pick 2 rfl).row.1
      have lr := (H3.out.pick 2 rfl).row.1.lt
      go_wp2_with (refine wpList_putR rfl 23 (.tmp 4) (.tmp 20) rfl (w.heap.size + 1 + 1) 0 now.cells rfl rfl (H3.out.pick 1 rfl).row.1 (MS.out _) (ML.out _ _) (MO.out _) now.cells.toList (MR.out _ _) ?_)
      refine bodyPost_ret (res_cell_slot rfl _ _ (w.heap.size + 1 + 1) _ _ _ _ _ rfl rfl ((H3.out.pick 1 rfl).setRow now.cells.toList).row.1 Try.underlying23 rfl (by kernel_rfl)) rfl ?_
      exact ⟨by rw [HQ3.out]; rfl, ((H3.out.pick 1 rfl).setRow now.cells.toList).bel⟩
end Go.Proofs.Ytdlbcbdfcjfagaa.commit
