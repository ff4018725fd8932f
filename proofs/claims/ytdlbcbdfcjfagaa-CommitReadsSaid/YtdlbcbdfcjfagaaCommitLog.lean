/-
  PROVED HERE: a partition's log in memory: Open, Format, Latest, Save.
  CONDITIONS: each contract names its own.
-/
import Derived.Test.YtdlbcbdfcjfagaaCommit
import Derived.BigQuiet
import Derived.Deep.QuietTactic
import Derived.Deep.RegionHeld3
namespace Go.Proofs.Ytdlbcbdfcjfagaa.commit
set_option linter.unusedVariables false
open Go.RowKit Go.Proofs.Ytdlbcbdfcjfagaa.base Go.Proofs.Ytdlbcbdfcjfagaa.obj Go.Proofs.Ytdlbcbdfcjfagaa.mem Go.Proofs.Ytdlbcbdfcjfagaa.crc Go.Proofs.Ytdlbcbdfcjfagaa.disk Go.Proofs.Ytdlbcbdfcjfagaa.record Go.Proofs.Ytdlbcbdfcjfagaa.sep Go.Proofs.Ytdlbcbdfcjfagaa.plan

/-- what one more copy makes of the record that is held -/
def pickRec (part c : Int) (bs : List Int) (x : Rec × Int) : Rec × Int := if (getRec bs).2 = 0 ∧ (getRec bs).1.part = part ∧ x.1.seq < (getRec bs).1.seq then ((getRec bs).1, c) else x
/-- the record that the first k copies tell, and which one holds it -/
def openTo (m : DS) (part : Int) : Nat → Rec × Int
  | 0 => (Rec.zero, -1)
  | k + 1 => pickRec part k (m.now (part * 10 + k).toNat) (openTo m part k)
def Opened (w0 : World) (l : List Asn) (d : Nat) (m : DS) (part : Int) (e : Ending) (w' : World) : Prop :=
  ((openTo m part 2).2 < 0 → e = .returned (.tuple #[.pointer none, .int .i64 5]) ∧ St w0 w' (dsk d m :: l)) ∧
  (¬ (openTo m part 2).2 < 0 → ∃ g, e = .returned (.tuple #[.pointer (some ⟨g, 0, none⟩), .int .i64 0]) ∧ St w0 w' (log g d part (openTo m part 2).2 (openTo m part 2).1 :: dsk d m :: l))

theorem room_of {part : Int} {n : Nat} (h : roomFor part n = true) : 0 ≤ part ∧ part < 4 ∧ part * 10 + 1 < (n : Int) := by
  unfold roomFor at h
  simpa using h

theorem idx0 (a b : Int) (w : World) : (Instr.index 132 (.agg #[.int .i64 a, .int .i64 b]) (.int .i64 0)).run Try.prog w = .ok (.int .i64 a) w := by kernel_rfl
theorem idx1 (a b : Int) (w : World) : (Instr.index 132 (.agg #[.int .i64 a, .int .i64 b]) (.int .i64 1)).run Try.prog w = .ok (.int .i64 b) w := by kernel_rfl
set_option maxHeartbeats 1000000 in
theorem open_nil (w : World) (part : Int) : Calls Try.prog 38 #[.pointer none, .int .i64 part] w fun e w' => e = .returned (.tuple #[.pointer none, .int .i64 7]) ∧ w' = w := by
  go_enter Try.func38, Try.ntmps38
  go_wp2_with (fail)
  refine (begin_nil _ part).mono ?_
  rintro e w1 ⟨rfl, rfl⟩
  go_wp2_with (fail)
  go_ret2
  exact ⟨rfl, rfl⟩
set_option maxHeartbeats 1000000 in
theorem open_no {w0 w : World} {l : List Asn} {d : Nat} {m : DS} (h : St w0 w (dsk d m :: l)) (part : Int) (hr : roomFor part m.secs.length = false) :
    Calls Try.prog 38 #[.pointer (some ⟨d, 0, none⟩), .int .i64 part] w fun e w' => e = .returned (.tuple #[.pointer none, .int .i64 3]) ∧ St w0 w' (dsk d m :: l) := by
  have H := Lib.hid (begin_at h part)
  have HR := Lib.hid hr
  clear h hr
  go_enter Try.func38, Try.ntmps38
  go_wp2_with (fail)
  refine H.out.mono ?_
  rintro e w1 hb
  obtain ⟨rfl, h1⟩ := hb.2 HR.out
  have H1 := Lib.hid h1
  clear hb h1
  go_wp2_with (fail)
  go_ret2
  exact ⟨rfl, H1.out⟩

set_option maxRecDepth 100000 in
set_option maxHeartbeats 4000000 in
theorem open_down {w0 w : World} {l : List Asn} {d : Nat} {m : DS} (h : St w0 w (dsk d m :: l)) (part : Int) (hr : roomFor part m.secs.length = true) (hd : m.down = true) (hwl : m.waits.length ≤ 1000) :
    Calls Try.prog 38 #[.pointer (some ⟨d, 0, none⟩), .int .i64 part] w fun e w' => e = .returned (.tuple #[.pointer none, .int .i64 8]) ∧ St w0 w' (dsk d m :: l) := by
  have H := Lib.hid (begin_at h part)
  have HR := Lib.hid hr
  have HD := Lib.hid hd
  have i0 := idx0
  clear h hr hd
  go_enter Try.func38, Try.ntmps38
  go_wp2_with (fail)
  refine H.out.mono ?_
  rintro e w1 hb
  obtain ⟨g, rfl, h1⟩ := hb.1 HR.out
  obtain ⟨c0, c1, c2, c3, c4, lg⟩ := log_read h1
  have H1 := Lib.hid h1
  clear hb h1
  go_wp2_with (fail)
  go_loopw [27] (fun i wr => i = .int .i64 0 ∧ St w0 wr (log g d part (-1) Rec.zero :: dsk d m :: l)) (fun i _ => 0)
  case atStart => exact ⟨rfl, H1.out⟩
  case round =>
    obtain ⟨rfl, hi⟩ := hrel
    have HI := Lib.hid hi
    clear hi
    have HN := Lib.hid (show ¬ (part * 10 < 0 ∨ (m.secs.length : Int) ≤ part * 10) by have := room_of HR.out; omega)
    go_wp2_with (fail)
    refine (dsk_read_no HI.out.swap (part * 10) (.inr HD.out) (by omega)).mono ?_
    rintro e w2 ⟨rfl, h2⟩
    rw [if_neg HN.out]
    have H2 := Lib.hid h2
    clear h2
    go_wp2_with (fail)
    go_ret2
    exact ⟨rfl, H2.out.swap.drop⟩

theorem log_put {w0 w : World} {l : List Asn} {g d : Nat} {part at0 at1 held c : Int} {r x : Rec} (h : St w0 w (row g 134 (logCells d part at0 at1 held r) :: l)) :
    St w0 ((w.setRow g (logCells d part at0 at1 held x).toArray).setCell ⟨g, 4, none⟩ (.int .i64 c)) (row g 134 (logCells d part at0 at1 c x) :: l) :=
  (h.setRow _).set 4 (.int .i64 c)
theorem log_put' {w0 w : World} {l : List Asn} {g d : Nat} {part at0 at1 held c : Int} {r x : Rec} (h : St w0 w (row g 134 (logCells d part at0 at1 held r) :: l)) :
    St w0 ((w.setCell ⟨g, 4, none⟩ (.int .i64 c)).setRow g (logCells d part at0 at1 c x).toArray) (row g 134 (logCells d part at0 at1 c x) :: l) :=
  (h.set 4 (.int .i64 c)).setRow _

set_option maxRecDepth 100000 in
set_option maxHeartbeats 8000000 in
theorem open_at {w0 w : World} {l : List Asn} {d : Nat} {m : DS} (h : St w0 w (dsk d m :: l)) (part : Int) (hr : roomFor part m.secs.length = true) (hd : m.down = false) (hwl : m.waits.length ≤ 1000) (hby : ∀ i, Byt (m.now i)) (hlen : ∀ i, i < m.secs.length → (m.now i).length = 64) :
    Calls Try.prog 38 #[.pointer (some ⟨d, 0, none⟩), .int .i64 part] w (Opened w0 l d m part) := by
  have H := Lib.hid (begin_at h part)
  have HR := Lib.hid hr
  have HD := Lib.hid hd
  have HY := Lib.hid hby; have HLE := Lib.hid hlen
  obtain ⟨hp0, hp4, hroom⟩ := room_of hr
  have i0 := idx0
  have i1 := idx1
  clear h hr hd hby hlen
  go_enter Try.func38, Try.ntmps38
  go_wp2_with (fail)
  refine H.out.mono ?_
  rintro e w1 hb
  obtain ⟨g, rfl, h1⟩ := hb.1 HR.out
  obtain ⟨c0, c1, c2, c3, c4, lg⟩ := log_read h1
  have H1 := Lib.hid h1
  clear hb h1
  go_wp2_with (fail)
  go_loopw [27] (fun i wr => ∃ k : Nat, k ≤ 2 ∧ i = .int .i64 k ∧ St w0 wr (log g d part (openTo m part k).2 (openTo m part k).1 :: dsk d m :: l)) (fun i _ => 2 - (intOf i).toNat)
  case atStart => exact ⟨0, by omega, rfl, H1.out⟩
  case round =>
    obtain ⟨k, hk, rfl, hi⟩ := hrel
    have HI := Lib.hid hi
    clear hi
    obtain ⟨x, hx⟩ : ∃ x, x = openTo m part k := ⟨_, rfl⟩
    have HX := Lib.hid hx
    rw [← hx] at HI
    clear hx
    by_cases hlt : k < 2
    · have hlt' : (k : Int) < 2 := by omega
      have ik : ∀ w : World, (Instr.index 132 (.agg #[.int .i64 (part * 10), .int .i64 (part * 10 + 1)]) (.int .i64 (k : Int))).run Try.prog w = .ok (.int .i64 (part * 10 + k)) w := by
        have hk2 : k = 0 ∨ k = 1 := by omega
        intro w
        rcases hk2 with rfl | rfl
        · rw [show ((0 : Nat) : Int) = 0 from rfl, Int.add_zero]; exact i0 _ _ w
        · exact i1 _ _ w
      have hk0 : (0 : Int) ≤ (k : Int) := by omega
      obtain ⟨n, hn⟩ : ∃ n : Nat, n = (part * 10 + k).toNat := ⟨_, rfl⟩
      obtain ⟨bs, hbs⟩ : ∃ bs, bs = m.now n := ⟨_, rfl⟩
      obtain ⟨gr, hgr⟩ : ∃ gr, gr = getRec bs := ⟨_, rfl⟩
      have HNX := Lib.hid (show openTo m part (k + 1) = if gr.2 = 0 ∧ gr.1.part = part ∧ x.1.seq < gr.1.seq then (gr.1, (k : Int)) else x by
        rw [hgr, hbs, hn, HX.out]; rfl)
      have HRD := Lib.hid (dsk_read HI.out.swap (part * 10 + k) n (by omega) (by omega) HD.out (by omega))
      rw [← hbs] at HRD
      have HBL := Lib.hid (show bs.length = 64 by rw [hbs]; exact HLE.out n (by omega))
      have HBY := Lib.hid (show Byt bs by rw [hbs]; exact HY.out n)
      have HGR := Lib.hid hgr
      clear hbs hgr hn i0 i1 c0 c1 c2 c3 c4 lg
      go_wp2_with (fail)
      refine HRD.out.mono ?_
      rintro e w2 ⟨b, rfl, h2⟩
      have H2 := Lib.hid h2
      have HS2 := Lib.hid (byte_sl h2.row.1 HBL.out)
      clear h2
      go_wp2_with (fail)
      refine (record.get_at _ _ 64 64 bs HBL.out (by omega) HBY.out HS2.out).mono ?_
      rintro e w3 ⟨rfl, hb⟩
      rw [← HGR.out]
      have H3 := Lib.hid ((H2.out.below hb).pick 2 rfl)
      clear hb
      obtain ⟨gr, re⟩ := gr
      dsimp only
      rw [Rec.val_eq]
      obtain ⟨w4, hw4⟩ : ∃ w4, w4 = w3.alloc (.cells #[.int .i64 gr.part, .int .i64 gr.seq, .int .i64 gr.active, .int .i64 gr.confirmed, .int .i64 gr.left, .int .i64 gr.bad] 23) := ⟨_, rfl⟩
      have H4 := Lib.hid (show St w0 w4 _ by rw [hw4]; exact H3.out.below ((Below.refl _ _).alloc (Nat.le_refl _) (.cells #[.int .i64 gr.part, .int .i64 gr.seq, .int .i64 gr.active, .int .i64 gr.confirmed, .int .i64 gr.left, .int .i64 gr.bad] 23)))
      have HR4 := Lib.hid (show Row w4 w3.heap.size 23 gr.cells.toList by rw [hw4]; exact Row.new w3 _ _)
      have HW4 := Lib.hid hw4
      clear hw4
      go_wp2_with (fail)
      rw [← HW4.out]
      obtain ⟨q0, q1, q2, q3, q4, q5⟩ := Rec.read HR4.out
      obtain ⟨t0, t1, t2, t3, t4, t5⟩ := log_rec H4.out
      have l3 := HR4.out.lt
      have l4 := H4.out.row.1.lt
      by_cases he : re = 0
      · subst he
        by_cases hp : gr.part = part
        · have hp' : (gr.part == part) = true := by simpa using hp
          by_cases hsq : x.1.seq < gr.seq
          · have hsq' : decide (x.1.seq < gr.seq) = true := by simpa using hsq
            have HN2 := Lib.hid (HNX.out.trans (if_pos ⟨rfl, hp, hsq⟩))
            clear hp hsq
            go_quiet (fail)
            have H5 := Lib.hid (H4.out.drewN nq)
            obtain ⟨cs, hcs⟩ : ∃ cs, cs = logCells d part (part * 10) (part * 10 + 1) x.2 gr := ⟨_, rfl⟩
            have H6 := Lib.hid (H5.out.setRow cs)
            have f4 := H6.out.row.1.frozen 4
            have c4 := H6.out.row.1.cell 4
            have hc4 : cs[4]? = some (.int .i64 x.2) := by rw [hcs]; rfl
            rw [hc4] at c4
            have HCS := Lib.hid (show (logCells d part (part * 10) (part * 10 + 1) x.2 x.1).take 5 ++ gr.cells.toList ++ (logCells d part (part * 10) (part * 10 + 1) x.2 x.1).drop (5 + gr.cells.size) = cs by rw [hcs]; rfl)
            have H7 := Lib.hid (show St w0 _ (log g d part k gr :: _) by rw [hcs] at H6; exact H6.out.set 4 (.int .i64 (k : Int)))
            have MS := Lib.hid (show (Try.prog.info? 23).map (·.size) = some gr.cells.size from by kernel_rfl)
            have HE := Lib.hid (show 5 + gr.cells.size ≤ (logCells d part (part * 10) (part * 10 + 1) x.2 x.1).length from Nat.le_refl 11)
            have HO := Lib.hid (rec_one gr)
            rw [← hcs] at H7
            clear hcs hc4
            go_wp2_with (refine wpList_putR rfl 23 (.tmp 68) (.tmp 65) rfl g 5 gr.cells rfl rfl H5.out.row.1 MS.out HE.out HO.out cs HCS.out ?_)
            go_roundw
            case rel => exact ⟨k + 1, by omega, by go_num, by rw [HN2.out]; exact (H7.out.pick 1 rfl).drop⟩
            case measure => simp [intOf] <;> omega
          · have hsq' : decide (x.1.seq < gr.seq) = false := by simpa using hsq
            have HN2 := Lib.hid (HNX.out.trans (if_neg fun h => hsq h.2.2))
            clear hp hsq
            go_quiet (fail)
            have H5 := Lib.hid (H4.out.drewN nq)
            go_wp2_with (fail)
            go_roundw
            case rel => exact ⟨k + 1, by omega, by go_num, by rw [HN2.out]; exact (H5.out.pick 1 rfl).drop⟩
            case measure => simp [intOf] <;> omega
        · have hp' : (gr.part == part) = false := by simpa using hp
          have HN2 := Lib.hid (HNX.out.trans (if_neg fun h => hp h.2.1))
          clear hp
          go_quiet (fail)
          have H5 := Lib.hid (H4.out.drewN nq)
          go_wp2_with (fail)
          go_roundw
          case rel => exact ⟨k + 1, by omega, by go_num, by rw [HN2.out]; exact (H5.out.pick 1 rfl).drop⟩
          case measure => simp [intOf] <;> omega
      · have he' : (re == 0) = false := by simpa using he
        have HN2 := Lib.hid (HNX.out.trans (if_neg fun h => he h.1))
        clear he
        go_quiet (fail)
        have H5 := Lib.hid (H4.out.drewN nq)
        go_wp2_with (fail)
        go_roundw
        case rel => exact ⟨k + 1, by omega, by go_num, by rw [HN2.out]; exact (H5.out.pick 1 rfl).drop⟩
        case measure => simp [intOf] <;> omega
    · obtain rfl : k = 2 := by omega
      obtain ⟨t0, t1, t2, t3, t4, l4⟩ := log_read HI.out
      clear i0 i1 c0 c1 c2 c3 c4 lg hk
      by_cases hh : x.2 < 0
      · go_wp2_with (fail)
        go_ret2
        rw [HX.out] at hh
        exact ⟨fun _ => ⟨rfl, HI.out.drop⟩, fun h => absurd hh h⟩
      · go_wp2_with (fail)
        go_ret2
        rw [HX.out] at hh
        exact ⟨fun h => absurd h (by omega), fun _ => ⟨_, rfl, by rw [← HX.out]; exact HI.out⟩⟩

/-! ### Latest -/
set_option maxHeartbeats 1000000 in
theorem latest_nil (w : World) : Calls Try.prog 39 #[.pointer none] w fun e w' => e = .returned Rec.zero.val ∧ Below w.heap.size w w' := by
  go_enter Try.func39, Try.ntmps39
  go_wp2_with (fail)
  refine bodyPost_ret (results_cell_row rfl _ _ w.heap.size _ _ _ _ rfl (heap_alloc_new _ _) Try.underlying23 rfl (by kernel_rfl)) rfl ?_
  exact ⟨rfl, (Below.refl _ _).alloc (Nat.le_refl _) _⟩
set_option maxHeartbeats 1000000 in
theorem latest_at {w0 w : World} {l : List Asn} {g d : Nat} {part held : Int} {r : Rec} (h : St w0 w (log g d part held r :: l)) :
    Calls Try.prog 39 #[.pointer (some ⟨g, 0, none⟩)] w fun e w' => e = .returned r.val ∧ Below w.heap.size w w' := by
  obtain ⟨t0, t1, t2, t3, t4, t5⟩ := log_rec h
  have lg := h.row.1.lt
  clear h
  go_enter Try.func39, Try.ntmps39
  go_wp2_with (fail)
  refine bodyPost_ret (results_cell_row rfl _ _ w.heap.size _ _ _ _ rfl (heap_alloc_new _ _) Try.underlying23 rfl (by kernel_rfl)) rfl ?_
  exact ⟨rfl, (Below.refl _ _).alloc (Nat.le_refl _) _⟩
end Go.Proofs.Ytdlbcbdfcjfagaa.commit
