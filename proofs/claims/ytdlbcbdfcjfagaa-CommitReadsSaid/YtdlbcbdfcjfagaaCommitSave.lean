/-
  PROVED HERE: a partition's log in memory: Format, Save.
  CONDITIONS: each contract names its own.
-/
import Derived.Test.YtdlbcbdfcjfagaaCommitLog
import Derived.Test.YtdlbcbdfcjfagaaRecMath
import Derived.Deep.DeepCutAuto
import Derived.Deep.CutBlock
import Derived.IntWalk
namespace Go.Proofs.Ytdlbcbdfcjfagaa.commit
set_option linter.unusedVariables false
open Go.RowKit Go.Proofs.Ytdlbcbdfcjfagaa.base Go.Proofs.Ytdlbcbdfcjfagaa.obj Go.Proofs.Ytdlbcbdfcjfagaa.mem Go.Proofs.Ytdlbcbdfcjfagaa.crc Go.Proofs.Ytdlbcbdfcjfagaa.disk Go.Proofs.Ytdlbcbdfcjfagaa.record Go.Proofs.Ytdlbcbdfcjfagaa.sep Go.Proofs.Ytdlbcbdfcjfagaa.plan Go.Proofs.Ytdlbcbdfcjfagaa.bytes

def firstRec (part : Int) : Rec := ⟨part, 1, 0, 0, 0, 0⟩
theorem firstRec_right {part : Int} (h0 : 0 ≤ part) (h1 : part < 4) : (firstRec part).right = true := by
  have hp : part = 0 ∨ part = 1 ∨ part = 2 ∨ part = 3 := by omega
  rcases hp with rfl | rfl | rfl | rfl <;> decide
/-- what Format makes of a disk -/
def formatM (m : DS) (part : Int) : Int × DS := if (wf m (part * 10 + 1) zeroSec).1 = 0 then wf (wf m (part * 10 + 1) zeroSec).2 (part * 10) (firstRec part).bytes else wf m (part * 10 + 1) zeroSec
def Formatted (w0 : World) (l : List Asn) (d : Nat) (m : DS) (part : Int) (e : Ending) (w' : World) : Prop :=
  ((formatM m part).1 = 0 → ∃ g, e = .returned (.tuple #[.pointer (some ⟨g, 0, none⟩), .int .i64 0]) ∧ St w0 w' (log g d part 0 (firstRec part) :: dsk d (formatM m part).2 :: l)) ∧
  ((formatM m part).1 ≠ 0 → e = .returned (.tuple #[.pointer none, .int .i64 (formatM m part).1]) ∧ St w0 w' (dsk d (formatM m part).2 :: l))

set_option maxHeartbeats 1000000 in
theorem format_nil (w : World) (part : Int) : Calls Try.prog 43 #[.pointer none, .int .i64 part] w fun e w' => e = .returned (.tuple #[.pointer none, .int .i64 7]) ∧ w' = w := by
  go_enter Try.func43, Try.ntmps43
  go_wp2_with (fail)
  refine (begin_nil _ part).mono ?_
  rintro e w1 ⟨rfl, rfl⟩
  go_wp2_with (fail)
  go_ret2
  exact ⟨rfl, rfl⟩
set_option maxHeartbeats 1000000 in
theorem format_no {w0 w : World} {l : List Asn} {d : Nat} {m : DS} (h : St w0 w (dsk d m :: l)) (part : Int) (hr : roomFor part m.secs.length = false) :
    Calls Try.prog 43 #[.pointer (some ⟨d, 0, none⟩), .int .i64 part] w fun e w' => e = .returned (.tuple #[.pointer none, .int .i64 3]) ∧ St w0 w' (dsk d m :: l) := by
  have H := Lib.hid (begin_at h part)
  have HR := Lib.hid hr
  clear h hr
  go_enter Try.func43, Try.ntmps43
  go_wp2_with (fail)
  refine H.out.mono ?_
  rintro e w1 hb
  obtain ⟨rfl, h1⟩ := hb.2 HR.out
  have H1 := Lib.hid h1
  clear hb h1
  go_wp2_with (fail)
  go_ret2
  exact ⟨rfl, H1.out⟩
theorem wf_waits (m : DS) (i : Int) (bs : List Int) : (wf m i bs).2.waits.length ≤ m.waits.length + 1 := by
  have h := write_waits m i bs
  unfold wf
  split
  · unfold DS.flush
    split
    · exact Nat.zero_le _
    · rw [DS.burnt_waits]; exact h
  · exact h
theorem make64 (w : World) : (Instr.makeSlice 25 (.int .i64 64) (.int .i64 64)).run Try.prog w = .ok (.slice (some ⟨w.heap.size, 0, none⟩) 64 64) (w.alloc (.cells (Array.replicate 64 (.int .u8 0)) 5)) := by
  have h := make_eq 64 (by decide) w
  rw [show ((64 : Nat) : Int) = 64 from rfl] at h
  rw [h]
  rfl

set_option maxRecDepth 100000 in
set_option maxHeartbeats 8000000 in
theorem format_at {w0 w : World} {l : List Asn} {d : Nat} {m : DS} (h : St w0 w (dsk d m :: l)) (part : Int) (hr : roomFor part m.secs.length = true) (hwl : m.waits.length ≤ 900) :
    Calls Try.prog 43 #[.pointer (some ⟨d, 0, none⟩), .int .i64 part] w (Formatted w0 l d m part) := by
  have H := Lib.hid (begin_at h part)
  have HR := Lib.hid hr
  obtain ⟨hp0, hp4, hroom⟩ := room_of hr
  have hmk := make64
  have HFR := Lib.hid (firstRec_right hp0 hp4)
  have HW1 := Lib.hid (wf_waits m (part * 10 + 1) zeroSec)
  have HQ := Lib.hid (show formatM m part = if (wf m (part * 10 + 1) zeroSec).1 = 0 then wf (wf m (part * 10 + 1) zeroSec).2 (part * 10) (firstRec part).bytes else wf m (part * 10 + 1) zeroSec from rfl)
  obtain ⟨x, hx⟩ : ∃ x, x = wf m (part * 10 + 1) zeroSec := ⟨_, rfl⟩
  rw [← hx] at HQ HW1
  obtain ⟨y, hy⟩ : ∃ y, y = wf x.2 (part * 10) (firstRec part).bytes := ⟨_, rfl⟩
  rw [← hy] at HQ
  have HX := Lib.hid hx; have HYY := Lib.hid hy
  clear h hr hx hy
  obtain ⟨ex, mx⟩ := x
  obtain ⟨ey, my⟩ := y
  simp only at HQ HW1 HX HYY
  go_enter Try.func43, Try.ntmps43
  go_wp2_with (fail)
  refine H.out.mono ?_
  rintro e w1 hb
  obtain ⟨g, rfl, h1⟩ := hb.1 HR.out
  have H1 := Lib.hid h1
  clear hb h1
  obtain ⟨w2, hw2⟩ : ∃ w2, w2 = w1.alloc (.cells #[.int .i64 part, .int .i64 1, .int .i64 0, .int .i64 0, .int .i64 0, .int .i64 0] 23) := ⟨_, rfl⟩
  have H2 := Lib.hid (show St w0 w2 (row w1.heap.size 23 (firstRec part).cells.toList :: _) by rw [hw2]; exact H1.out.new _ _)
  have HW2 := Lib.hid hw2
  clear hw2
  go_wp2_with (fail)
  rw [← HW2.out]
  refine (put_rec (firstRec part) _ HFR.out).mono ?_
  rintro e w3 ⟨v, rfl, ho, hb⟩
  have H3 := Lib.hid ((H2.out.addOwn hb ho).pick 2 rfl)
  obtain ⟨A, c, e2, hc, _⟩ := own_form ho
  subst e2
  clear ho hb
  have HZ := Lib.hid (H3.out.new 5 (Array.replicate 64 (.int .u8 0)))
  have HP := Lib.hid (write_at ((HZ.out.pick 4 rfl).pick 2 rfl) 1 (part * 10 + 1) (.inr ⟨rfl, rfl⟩) (some ⟨w3.heap.size, 0, none⟩) 64 64 zeroSec rfl (byte_sl HZ.out.row.1 rfl) (by omega))
  rw [← HX.out] at HP
  go_wp2_with (fail)
  refine HP.out.mono ?_
  rintro e w4 ⟨rfl, h4⟩
  have H4 := Lib.hid h4
  clear h4
  by_cases he : ex = 0
  · subst he
    have HQ2 := Lib.hid (HQ.out.trans (if_pos rfl))
    have HOW := Lib.hid (Sl.of_own (H4.out.pick 3 rfl).own)
    have HP2 := Lib.hid (write_at H4.out 0 (part * 10) (.inl ⟨rfl, rfl⟩) A 64 c (firstRec part).bytes (Rec.bytes_length _) HOW.out (by have := HW1.out; omega))
    rw [← HYY.out] at HP2
    go_wp2_with (fail)
    refine HP2.out.mono ?_
    rintro e w5 ⟨rfl, h5⟩
    have H5 := Lib.hid h5
    clear h5
    by_cases he : ey = 0
    · subst he
      have HQ3 := Lib.hid (HQ2.out)
      have HS := Lib.hid (H5.out.set 4 (.int .i64 0)).drew
      obtain ⟨q0, q1, q2, q3, q4, q5⟩ := Rec.read (r := firstRec part) (H5.out.pick 4 rfl).row.1
      obtain ⟨s0, s1, s2, s3, s4, s5⟩ := Rec.read (r := firstRec part) ((H5.out.set 4 (.int .i64 0)).pick 4 rfl).row.1
      have f4 := H5.out.row.1.frozen 4
      have c4 : w5.cell? ⟨g, 4, none⟩ = some (.int .i64 (-1)) := H5.out.row.1.cell 4
      have MS := Lib.hid (show (Try.prog.info? 23).map (·.size) = some (firstRec part).cells.size from by kernel_rfl)
      have HE := Lib.hid (show 5 + (firstRec part).cells.size ≤ ((logCells d part (part * 10) (part * 10 + 1) (-1) Rec.zero).set 4 (.int .i64 0)).length from Nat.le_refl 11)
      have HO := Lib.hid (rec_one (firstRec part))
      obtain ⟨cs, hcs⟩ : ∃ cs, cs = logCells d part (part * 10) (part * 10 + 1) 0 (firstRec part) := ⟨_, rfl⟩
      have HCS := Lib.hid (show ((logCells d part (part * 10) (part * 10 + 1) (-1) Rec.zero).set 4 (.int .i64 0)).take 5 ++ (firstRec part).cells.toList ++ ((logCells d part (part * 10) (part * 10 + 1) (-1) Rec.zero).set 4 (.int .i64 0)).drop (5 + (firstRec part).cells.size) = cs by rw [hcs]; rfl)
      have H7 := Lib.hid (show St w0 _ (log g d part 0 (firstRec part) :: _) by have h := HS.out.setRow cs; rw [hcs] at h; exact h)
      rw [← hcs] at H7
      clear hcs
      go_wp2_with (fail)
      refine wp_region_plan [0, 1, 3, 4] [[2, 5, 6, 7, 8], [5, 2, 6, 7, 8]] (by kernel_rfl) (by kernel_rfl) (fun _ _ _ _ _ h => h) ?_
      simp only [forks, pick, List.getElem?_cons_succ, List.getElem?_cons_zero, Option.getD_some]
      iterate 4 still_step
      refine wpStill_nil ?_
      refine ⟨?_, ?_⟩
      all_goals
        go_wp2_with (refine wpList_putR rfl 23 (.tmp 47) (.tmp 43) rfl g 5 (firstRec part).cells rfl rfl HS.out.row.1 MS.out HE.out HO.out cs HCS.out ?_)
        go_ret2
        refine ⟨fun _ => ⟨g, rfl, ?_⟩, fun h => absurd (by rw [HQ3.out]) h⟩
        rw [HQ3.out]
        exact ((((H7.out.pick 2 rfl).drop.pick 2 rfl).drop).pick 2 rfl).drop
    · have b1 : (ey != 0) = true := by simpa using he
      have HE := Lib.hid he
      clear he
      go_wp2_with (fail)
      go_ret2
      refine ⟨fun h => absurd (by rw [HQ2.out] at h; exact h) HE.out, fun _ => ?_⟩
      rw [HQ2.out]
      exact ⟨rfl, ((((H5.out.drop.pick 1 rfl).drop.pick 1 rfl).drop).pick 1 rfl).drop⟩
  · have b1 : (ex != 0) = true := by simpa using he
    have HE := Lib.hid he
    have HQ2 := Lib.hid (HQ.out.trans (if_neg he))
    clear he
    go_wp2_with (fail)
    go_ret2
    refine ⟨fun h => absurd (by rw [HQ2.out] at h; exact h) HE.out, fun _ => ?_⟩
    rw [HQ2.out]
    exact ⟨rfl, ((((H4.out.drop.pick 1 rfl).drop.pick 1 rfl).drop).pick 1 rfl).drop⟩

/-! ### Save -/
/-- the record that Save makes of another one -/
def nextRec (part : Int) (now r : Rec) : Rec := ⟨part, now.seq + 1, r.active, r.confirmed, r.left, r.bad⟩
structure LogS where
  held : Int
  now : Rec
/-- what Save does to the disk and the log -/
def saveM (m : DS) (part : Int) (s : LogS) (r : Rec) : Int × DS × LogS :=
  if 4294967295 ≤ s.now.seq then (4, m, s) else
  if (nextRec part s.now r).right then
    (if (wf m (part * 10 + (1 - s.held)) (nextRec part s.now r).bytes).1 = 0 then (0, (wf m (part * 10 + (1 - s.held)) (nextRec part s.now r).bytes).2, ⟨1 - s.held, nextRec part s.now r⟩)
      else ((wf m (part * 10 + (1 - s.held)) (nextRec part s.now r).bytes).1, (wf m (part * 10 + (1 - s.held)) (nextRec part s.now r).bytes).2, s))
  else (3, m, s)

set_option maxRecDepth 100000 in
set_option maxHeartbeats 8000000 in
theorem save_at {w0 w : World} {l : List Asn} {g d : Nat} {m : DS} {part : Int} {s : LogS} (h : St w0 w (log g d part s.held s.now :: dsk d m :: l)) (hh : s.held = 0 ∨ s.held = 1) (hq : 0 ≤ s.now.seq) (hwl : m.waits.length ≤ 900) (r : Rec) :
    Calls Try.prog 41 #[.pointer (some ⟨g, 0, none⟩), r.val] w fun e w' => e = .returned (.int .i64 (saveM m part s r).1) ∧ St w0 w' (log g d part (saveM m part s r).2.2.held (saveM m part s r).2.2.now :: dsk d (saveM m part s r).2.1 :: l) := by
  obtain ⟨held, now⟩ := s
  simp only at h hh hq
  have HQ := Lib.hid (show saveM m part ⟨held, now⟩ r = if 4294967295 ≤ now.seq then (4, m, ⟨held, now⟩) else if (nextRec part now r).right then
    (if (wf m (part * 10 + (1 - held)) (nextRec part now r).bytes).1 = 0 then (0, (wf m (part * 10 + (1 - held)) (nextRec part now r).bytes).2, ⟨1 - held, nextRec part now r⟩)
      else ((wf m (part * 10 + (1 - held)) (nextRec part now r).bytes).1, (wf m (part * 10 + (1 - held)) (nextRec part now r).bytes).2, ⟨held, now⟩))
    else (3, m, ⟨held, now⟩) from rfl)
  obtain ⟨x, hx⟩ : ∃ x, x = wf m (part * 10 + (1 - held)) (nextRec part now r).bytes := ⟨_, rfl⟩
  obtain ⟨nx, hnx⟩ : ∃ nx, nx = nextRec part now r := ⟨_, rfl⟩
  obtain ⟨z, hz⟩ : ∃ z, z = saveM m part ⟨held, now⟩ r := ⟨_, rfl⟩
  rw [← hx, ← hnx, ← hz] at HQ
  rw [← hnx] at hx
  rw [← hz]
  have HX := Lib.hid hx; have HNX := Lib.hid hnx; have HZ := Lib.hid hz
  have HHH := Lib.hid hh
  obtain ⟨w1, hw1⟩ : ∃ w1, w1 = w.alloc (.cells #[.int .i64 r.part, .int .i64 r.seq, .int .i64 r.active, .int .i64 r.confirmed, .int .i64 r.left, .int .i64 r.bad] 23) := ⟨_, rfl⟩
  have H1 := Lib.hid (show St w0 w1 (log g d part held now :: row w.heap.size 23 r.cells.toList :: dsk d m :: l) by rw [hw1]; exact (h.new _ _).pick 1 rfl)
  have HW1 := Lib.hid hw1
  clear hx hnx hz hw1 h hh
  obtain ⟨ex, mx⟩ := x
  simp only at HQ HX
  rw [Rec.val_eq]
  obtain ⟨c0, c1, c2, c3, c4, lg⟩ := log_read H1.out
  obtain ⟨t0, t1, t2, t3, t4, t5⟩ := log_rec H1.out
  obtain ⟨q0, q1, q2, q3, q4, q5⟩ := Rec.read (H1.out.pick 1 rfl).row.1
  have lr := (H1.out.pick 1 rfl).row.1.lt
  by_cases hf : 4294967295 ≤ now.seq
  · have HQ2 := Lib.hid (HQ.out.trans (if_pos hf))
    have hf' : now.seq ≥ 4294967295 := hf
    go_enter Try.func41, Try.ntmps41
    go_upto_block 0 with (fail)
    rw [← HW1.out]
    go_wp2_with (fail)
    go_ret
    rw [HQ2.out]
    exact ⟨rfl, (H1.out.pick 1 rfl).drop⟩
  · have hf' : ¬ now.seq ≥ 4294967295 := by omega
    have hs0 : 0 ≤ now.seq + 1 := by omega
    have hs1 : now.seq ≤ 4294967294 := by omega
    have HQ2 := Lib.hid (HQ.out.trans (if_neg hf))
    clear hf
    have H2 := Lib.hid (show St w0 _ (row w.heap.size 23 nx.cells.toList :: log g d part held now :: dsk d m :: l) by
      have h := (((H1.out.pick 1 rfl).set 0 (.int .i64 part)).set 1 (.int .i64 (now.seq + 1))).drew
      rw [HNX.out]; exact h)
    have hne : g ≠ w.heap.size := H1.out.ne
    have hwr : IntKind.i64.wrap (now.seq + 1) = now.seq + 1 := IntWalk.i64_in _ (by omega)
    have hne1 : w.heap.size ≠ (⟨g, 1, none⟩ : Addr).block := hne.symm
    have hne6 : w.heap.size ≠ (⟨g, 6, none⟩ : Addr).block := hne.symm
    have hne' : w.heap.size ≠ g := hne.symm
    have fr0 := (H1.out.pick 1 rfl).row.1.frozen 0
    have fr1 := (H1.out.pick 1 rfl).row.1.frozen 1
    go_enter Try.func41, Try.ntmps41
    go_upto_block 0 with (fail)
    rw [← HW1.out]
    go_wp2_with (fail)
    go_region_held3 (fun w' => w'.cell? ⟨g, 1, none⟩ = some (.int .i64 part) ∧ w'.cell? ⟨g, 6, none⟩ = some (.int .i64 now.seq)) (go_keep) (fail)
    obtain ⟨w2, hw2⟩ : ∃ w2, w2 = ((w1.setCell ⟨w.heap.size, 0, none⟩ (.int .i64 part)).setCell ⟨w.heap.size, 1, none⟩ (.int .i64 (now.seq + 1))).drew := ⟨_, rfl⟩
    rw [← hw2] at H2 ⊢
    clear hw2 c0 c1 c2 c3 c4 lg t0 t1 t2 t3 t4 t5 q0 q1 q2 q3 q4 q5 lr fr0 fr1 hwr hne hne1 hne6 hne'
    obtain ⟨q0, q1, q2, q3, q4, q5⟩ := Rec.read H2.out.row.1
    have lr := H2.out.row.1.lt
    have HV := Lib.hid (Rec.val_eq nx)
    cases hg : nx.right with
    | false =>
      have HG := Lib.hid hg
      have HQ3 := Lib.hid (HQ2.out.trans (if_neg (by rw [hg]; decide)))
      clear hg
      go_wp2_with (fail)
      rw [← HV.out]
      refine (put_bad nx _ HG.out).mono ?_
      rintro e w3 ⟨rfl, hb⟩
      have H3 := Lib.hid (H2.out.below hb)
      clear hb
      go_wp2_with (fail)
      go_ret
      rw [HQ3.out]
      exact ⟨rfl, H3.out.drop⟩
    | true =>
      have HG := Lib.hid hg
      have HQ3 := Lib.hid (HQ2.out.trans (if_pos (by rw [hg])))
      clear hg
      go_wp2_with (fail)
      rw [← HV.out]
      refine (put_rec nx _ HG.out).mono ?_
      rintro e w3 ⟨v, rfl, ho, hb⟩
      have H3 := Lib.hid (((H2.out.addOwn hb ho).pick 3 rfl).pick 3 rfl)
      obtain ⟨A, c, e2, hc, _⟩ := own_form ho
      subst e2
      clear ho hb
      have HOW := Lib.hid (Sl.of_own (H3.out.pick 2 rfl).own)
      obtain ⟨c0, c1, c2, c3, c4, lg⟩ := log_read H3.out
      have HH := HHH.out
      clear q0 q1 q2 q3 q4 q5 lr
      have HP : ∃ (c' i : Int), c' = 1 - held ∧ (c' = 0 ∧ i = part * 10 ∨ c' = 1 ∧ i = part * 10 + 1) ∧ part * 10 + (1 - held) = i := by
        rcases HH with rfl | rfl
        · exact ⟨1, part * 10 + 1, by omega, .inr ⟨rfl, rfl⟩, by omega⟩
        · exact ⟨0, part * 10, by omega, .inl ⟨rfl, rfl⟩, by omega⟩
      obtain ⟨c', i, hc', hci, hi⟩ := HP
      rw [hi] at HX
      have hb0 : -1 ≤ held := by omega
      have hb1 : held ≤ 1 := by omega
      have HPW := Lib.hid (write_at H3.out c' i hci A 64 c nx.bytes (Rec.bytes_length _) HOW.out (by omega))
      rw [← HX.out, hc'] at HPW
      have HC' := Lib.hid hc'
      clear hi hci HH hc'
      go_wp2_with (fail)
      refine HPW.out.mono ?_
      rintro e w5 ⟨rfl, h5⟩
      have H5 := Lib.hid h5
      clear h5 c0 c1 c2 c3 c4 lg
      by_cases he : ex = 0
      · subst he
        have HQ4 := Lib.hid (HQ3.out.trans (if_pos rfl))
        have HS := Lib.hid (H5.out.set 4 (.int .i64 (1 - held))).drew
        obtain ⟨q0, q1, q2, q3, q4, q5⟩ := Rec.read (r := nx) (H5.out.pick 3 rfl).row.1
        obtain ⟨s0, s1, s2, s3, s4, s5⟩ := Rec.read (r := nx) ((H5.out.set 4 (.int .i64 (1 - held))).pick 3 rfl).row.1
        have f4 := H5.out.row.1.frozen 4
        have c4 : w5.cell? ⟨g, 4, none⟩ = some (.int .i64 held) := H5.out.row.1.cell 4
        have MS := Lib.hid (show (Try.prog.info? 23).map (·.size) = some nx.cells.size from by kernel_rfl)
        have HE := Lib.hid (show 5 + nx.cells.size ≤ ((logCells d part (part * 10) (part * 10 + 1) held now).set 4 (.int .i64 (1 - held))).length from Nat.le_refl 11)
        have HO := Lib.hid (rec_one nx)
        obtain ⟨cs, hcs⟩ : ∃ cs, cs = logCells d part (part * 10) (part * 10 + 1) (1 - held) nx := ⟨_, rfl⟩
        have HCS := Lib.hid (show ((logCells d part (part * 10) (part * 10 + 1) held now).set 4 (.int .i64 (1 - held))).take 5 ++ nx.cells.toList ++ ((logCells d part (part * 10) (part * 10 + 1) held now).set 4 (.int .i64 (1 - held))).drop (5 + nx.cells.size) = cs by rw [hcs]; rfl)
        have H7 := Lib.hid (show St w0 _ (log g d part (1 - held) nx :: _) by have h := HS.out.setRow cs; rw [hcs] at h; exact h)
        rw [← hcs] at H7
        clear hcs
        go_wp2_with (fail)
        refine wp_region_plan [0, 1, 2, 4, 5] [[3, 6, 7, 8, 9], [6, 3, 7, 8, 9]] (by kernel_rfl) (by kernel_rfl) (fun _ _ _ _ _ h => h) ?_
        simp only [forks, pick, List.getElem?_cons_succ, List.getElem?_cons_zero, Option.getD_some]
        iterate 5 still_step
        refine wpStill_nil ?_
        refine ⟨?_, ?_⟩
        all_goals
          go_wp2_with (refine wpList_putR rfl 23 (.tmp 58) (.tmp 54) rfl g 5 nx.cells rfl rfl HS.out.row.1 MS.out HE.out HO.out cs HCS.out ?_)
          go_ret
          rw [HQ4.out]
          exact ⟨rfl, ((H7.out.pick 2 rfl).drop.pick 2 rfl).drop⟩
      · have b1 : (ex != 0) = true := by simpa using he
        have HQ4 := Lib.hid (HQ3.out.trans (if_neg he))
        clear he
        go_wp2_with (fail)
        go_ret
        rw [HQ4.out]
        exact ⟨rfl, ((H5.out.pick 2 rfl).drop.pick 2 rfl).drop⟩
set_option maxHeartbeats 1000000 in
theorem save_nil (w : World) (r : Rec) : Calls Try.prog 41 #[.pointer none, r.val] w fun e w' => e = .returned (.int .i64 7) ∧ Below w.heap.size w w' := by
  rw [Rec.val_eq]
  go_enter Try.func41, Try.ntmps41
  go_wp2_with (fail)
  go_ret
  exact ⟨rfl, (Below.refl _ _).alloc (Nat.le_refl _) _⟩
end Go.Proofs.Ytdlbcbdfcjfagaa.commit
