/-
  PROVED HERE: a partition's log in memory: begin, write.
  CONDITIONS: each contract names its own.
-/
import Derived.Test.YtdlbcbdfcjfagaaDiskSep
import Derived.Test.YtdlbcbdfcjfagaaPlace
import Derived.Test.YtdlbcbdfcjfagaaWfMath
import Derived.Test.YtdlbcbdfcjfagaaPlan
import Derived.Test.YtdlbcbdfcjfagaaArgRec
namespace Go.Proofs.Ytdlbcbdfcjfagaa.commit
set_option linter.unusedVariables false
open Go.RowKit Go.Proofs.Ytdlbcbdfcjfagaa.base Go.Proofs.Ytdlbcbdfcjfagaa.obj Go.Proofs.Ytdlbcbdfcjfagaa.mem Go.Proofs.Ytdlbcbdfcjfagaa.crc Go.Proofs.Ytdlbcbdfcjfagaa.disk Go.Proofs.Ytdlbcbdfcjfagaa.record Go.Proofs.Ytdlbcbdfcjfagaa.sep Go.Proofs.Ytdlbcbdfcjfagaa.plan

/-- a log's cells -/
def logCells (d : Nat) (part at0 at1 held : Int) (r : Rec) : List Value := [.pointer (some ⟨d, 0, none⟩), .int .i64 part, .int .i64 at0, .int .i64 at1, .int .i64 held] ++ r.cells.toList
def log (g d : Nat) (part : Int) (held : Int) (r : Rec) : Asn := row g 134 (logCells d part (part * 10) (part * 10 + 1) held r)
theorem log_read {w0 w : World} {l : List Asn} {g d : Nat} {part at0 at1 held : Int} {r : Rec} (h : St w0 w (row g 134 (logCells d part at0 at1 held r) :: l)) :
    w.cell? ⟨g, 0, none⟩ = some (.pointer (some ⟨d, 0, none⟩)) ∧ w.cell? ⟨g, 1, none⟩ = some (.int .i64 part) ∧ w.cell? ⟨g, 2, none⟩ = some (.int .i64 at0) ∧ w.cell? ⟨g, 3, none⟩ = some (.int .i64 at1) ∧ w.cell? ⟨g, 4, none⟩ = some (.int .i64 held) ∧ g < w.heap.size := by
  have h1 := h.row.1
  exact ⟨h1.cell 0, h1.cell 1, h1.cell 2, h1.cell 3, h1.cell 4, h1.lt⟩
theorem log_rec {w0 w : World} {l : List Asn} {g d : Nat} {part at0 at1 held : Int} {r : Rec} (h : St w0 w (row g 134 (logCells d part at0 at1 held r) :: l)) :
    w.cell? ⟨g, 5, none⟩ = some (.int .i64 r.part) ∧ w.cell? ⟨g, 6, none⟩ = some (.int .i64 r.seq) ∧ w.cell? ⟨g, 7, none⟩ = some (.int .i64 r.active) ∧ w.cell? ⟨g, 8, none⟩ = some (.int .i64 r.confirmed) ∧ w.cell? ⟨g, 9, none⟩ = some (.int .i64 r.left) ∧ w.cell? ⟨g, 10, none⟩ = some (.int .i64 r.bad) := by
  have h1 := h.row.1
  exact ⟨h1.cell 5, h1.cell 6, h1.cell 7, h1.cell 8, h1.cell 9, h1.cell 10⟩

set_option maxHeartbeats 1000000 in
theorem begin_nil (w : World) (part : Int) : Calls Try.prog 70 #[.pointer none, .int .i64 part] w fun e w' => e = .returned (.tuple #[.pointer none, .int .i64 7]) ∧ w' = w := by
  go_enter Try.func70, Try.ntmps70
  go_wp2_with (fail)
  go_ret2
  exact ⟨rfl, rfl⟩

/-- what place tells of a copy -/
def placeOk (part : Int) : Bool := decide (0 ≤ part ∧ part < 4)

/-- is there room for both copies? -/
def roomFor (part : Int) (len : Nat) : Bool := decide (0 ≤ part ∧ part < 4 ∧ part * 10 + 1 < (len : Int))
theorem commit_place (p c : Int) (w : World) (hc : 0 ≤ c ∧ c < 2) : Calls Try.prog 92 #[.int .i64 p, .int .i64 c] w fun e w' => (∃ a b, e = .returned (.tuple #[.int .i64 a, .bool b]) ∧ b = placeOk p ∧ (b = true → a = p * 10 + c)) ∧ Below w.heap.size w w' := by
  by_cases h : 0 ≤ p ∧ p < 4
  · exact (place.commit_in p c w h.1 h.2 hc.1 hc.2).mono fun e w' ⟨h1, h2⟩ => ⟨⟨_, _, h1, by simp [placeOk, h], fun _ => rfl⟩, h2⟩
  · exact (place.commit_out p c w (by omega)).mono fun e w' ⟨h1, h2⟩ => ⟨⟨_, _, h1, by simp [placeOk, h], fun h => by simp at h⟩, h2⟩

/-- what comes of begin -/
def Begun (w0 : World) (l : List Asn) (d : Nat) (m : DS) (part : Int) (n : Nat) (e : Ending) (w' : World) : Prop :=
  (roomFor part n = true → ∃ g, e = .returned (.tuple #[.pointer (some ⟨g, 0, none⟩), .int .i64 0]) ∧ St w0 w' (log g d part (-1) Rec.zero :: dsk d m :: l)) ∧
  (roomFor part n = false → e = .returned (.tuple #[.pointer none, .int .i64 3]) ∧ St w0 w' (dsk d m :: l))

set_option maxRecDepth 100000 in
set_option maxHeartbeats 4000000 in
theorem begin_at {w0 w : World} {l : List Asn} {d : Nat} {m : DS} (h : St w0 w (dsk d m :: l)) (part : Int) :
    Calls Try.prog 70 #[.pointer (some ⟨d, 0, none⟩), .int .i64 part] w (Begun w0 l d m part m.secs.length) := by
  obtain ⟨w1, hw1⟩ : ∃ w1, w1 = w.alloc (.cells #[.pointer (some ⟨d, 0, none⟩), .int .i64 part, .int .i64 0, .int .i64 0, .int .i64 (-1), .int .i64 0, .int .i64 0, .int .i64 0, .int .i64 0, .int .i64 0, .int .i64 0] 134) := ⟨_, rfl⟩
  have H1 := Lib.hid (show St w0 w1 (row w.heap.size 134 (logCells d part 0 0 (-1) Rec.zero) :: dsk d m :: l) by rw [hw1]; exact h.new _ _)
  have HW := Lib.hid hw1
  have HG := Lib.hid (h.good.n1)
  clear hw1 h
  obtain ⟨L, hL⟩ : ∃ L, L = m.secs.length := ⟨_, rfl⟩
  have HL := Lib.hid hL
  rw [← hL] at HG ⊢
  clear hL
  go_enter Try.func70, Try.ntmps70
  go_wp2_with (fail)
  rw [← HW.out]
  go_loopw [16] (fun i wr => ∃ k : Nat, k ≤ 2 ∧ i = .int .i64 k ∧ (0 < k → placeOk part = true ∧ part * 10 + ((k - 1 : Nat) : Int) < (L : Int)) ∧ St w0 wr (row w.heap.size 134 (logCells d part (if 0 < k then part * 10 else 0) (if 1 < k then part * 10 + 1 else 0) (-1) Rec.zero) :: dsk d m :: l)) (fun i _ => 2 - (intOf i).toNat)
  case atStart => exact ⟨0, by omega, rfl, fun h => absurd h (by omega), H1.out⟩
  case round =>
    obtain ⟨k, hk, rfl, hp, hi⟩ := hrel
    have HI := Lib.hid hi; have HP := Lib.hid hp
    clear hi hp
    by_cases hlt : k < 2
    · have hlt' : (k : Int) < 2 := by omega
      go_wp2_with (fail)
      refine (commit_place part k _ ⟨by omega, by omega⟩).mono ?_
      rintro e w3 ⟨⟨a, b, rfl, hb, ha⟩, hbel⟩
      have HI3 := Lib.hid (HI.out.below hbel)
      have HA := Lib.hid ha; have HBB := Lib.hid hb
      clear hbel ha hb
      cases b with
      | false =>
        have HR := Lib.hid (show roomFor part L = false by
          have h := HBB.out
          unfold roomFor; unfold placeOk at h
          simp at h ⊢
          omega)
        go_wp2_with (fail)
        go_ret2
        exact ⟨fun h => absurd (h.symm.trans HR.out) (by decide), fun _ => ⟨rfl, HI3.out.drop⟩⟩
      | true =>
        have ha := HA.out rfl
        subst ha
        have HLEN := Lib.hid (dsk_len HI3.out.swap)
        rw [← HL.out] at HLEN
        go_wp2_with (fail)
        refine HLEN.out.mono ?_
        rintro e w4 ⟨rfl, rfl⟩
        obtain ⟨c0, c1, c2, c3, c4, lg⟩ := log_read HI3.out
        have f2 := HI3.out.row.1.frozen 2
        have f3 := HI3.out.row.1.frozen 3
        by_cases hr : part * 10 + (k : Int) ≥ (L : Int)
        · have HR := Lib.hid (show roomFor part L = false by unfold roomFor; simp; omega)
          go_wp2_with (fail)
          go_ret2
          exact ⟨fun h => absurd (h.symm.trans HR.out) (by decide), fun _ => ⟨rfl, HI3.out.drop⟩⟩
        · have hr' : part * 10 + (k : Int) < (L : Int) := by omega
          clear hr
          have hr : ¬ part * 10 + (k : Int) ≥ (L : Int) := by omega
          have hk2 : k = 0 ∨ k = 1 := by omega
          rcases hk2 with rfl | rfl
          · have HS := Lib.hid (HI3.out.set 2 (.int .i64 (part * 10)))
            have HF := Lib.hid (fun h : 0 < 1 => (⟨HBB.out.symm, by simpa using hr'⟩ : placeOk part = true ∧ part * 10 + ((1 - 1 : Nat) : Int) < (L : Int)))
            go_wp2_with (fail)
            go_roundw
            case rel => exact ⟨1, by omega, rfl, HF.out, HS.out⟩
            case measure => simp [intOf] <;> omega
          · have HS := Lib.hid (HI3.out.set 3 (.int .i64 (part * 10 + 1)))
            have HF := Lib.hid (fun h : 0 < 2 => (⟨HBB.out.symm, by simpa using hr'⟩ : placeOk part = true ∧ part * 10 + ((2 - 1 : Nat) : Int) < (L : Int)))
            go_wp2_with (fail)
            go_roundw
            case rel => exact ⟨2, by omega, rfl, HF.out, HS.out⟩
            case measure => simp [intOf] <;> omega
    · obtain rfl : k = 2 := by omega
      have HR := Lib.hid (show roomFor part L = true by
        obtain ⟨h1, h2⟩ := HP.out (by omega)
        unfold placeOk at h1
        unfold roomFor
        simp at h1 h2 ⊢
        omega)
      go_wp2_with (fail)
      go_ret2
      exact ⟨fun _ => ⟨_, rfl, HI.out⟩, fun h => absurd (h.symm.trans HR.out) (by decide)⟩

theorem write_waits (m : DS) (i : Int) (bs : List Int) : (m.write i bs).2.waits.length ≤ m.waits.length + 1 := by
  unfold DS.write
  split
  · exact Nat.le_succ _
  · split
    · exact Nat.le_succ _
    · split
      · simp [DS.put, DS.burnt_waits]
      · show m.burnt.waits.length ≤ _
        rw [DS.burnt_waits]; exact Nat.le_succ _

set_option maxRecDepth 100000 in
set_option maxHeartbeats 4000000 in
theorem write_at {w0 w : World} {l : List Asn} {g d : Nat} {m : DS} {part held : Int} {r : Rec} (h : St w0 w (log g d part held r :: dsk d m :: l)) (c i : Int) (hc : c = 0 ∧ i = part * 10 ∨ c = 1 ∧ i = part * 10 + 1)
    (A : Option Addr) (n k : Nat) (bs : List Int) (hn : bs.length = n) (hs : Sl w w.heap.size 1 A n (bs.map (.int .u8))) (hwl : m.waits.length ≤ 1000) :
    Calls Try.prog 71 #[.pointer (some ⟨g, 0, none⟩), .int .i64 c, .slice A n k] w fun e w' => e = .returned (.int .i64 (wf m i bs).1) ∧ St w0 w' (log g d part held r :: dsk d (wf m i bs).2 :: l) := by
  obtain ⟨c0, c1, c2, c3, c4, lg⟩ := log_read h
  have HW := Lib.hid (dsk_write h.drew.swap i A n k bs hn (hs.below (Below.refl _ _).drew) (by omega))
  clear hn
  have HL := Lib.hid (show (m.write i bs).2.waits.length ≤ 1000000 by have := write_waits m i bs; omega)
  clear h hs
  obtain ⟨x, hx⟩ : ∃ x, x = m.write i bs := ⟨_, rfl⟩
  have HX := Lib.hid (show wf m i bs = if x.1 = 0 then x.2.flush else x by rw [hx]; rfl)
  rw [← hx] at HW HL
  clear hx
  obtain ⟨ev, m1⟩ := x
  simp only at HX HW HL
  rcases hc with ⟨rfl, hi⟩ | ⟨rfl, hi⟩
  all_goals
    subst hi
    go_enter Try.func71, Try.ntmps71
    go_wp2_with (fail)
    refine wp_region_plan [0, 1, 2, 4, 5, 6, 7, 8, 10, 3, 9] [[11, 12]] (by kernel_rfl) (by kernel_rfl) (fun _ _ _ _ _ h => h) ?_
    simp only [forks, pick, List.getElem?_cons_succ, List.getElem?_cons_zero, Option.getD_some]
    iterate 11 still_step
    refine wpStill_nil ?_
    go_wp2_with (fail)
    refine HW.out.mono ?_
    rintro e w2 ⟨rfl, h2⟩
    obtain ⟨c0, c1, c2, c3, c4, lg⟩ := log_read h2.swap
    by_cases he : ev = 0
    · subst he
      have HF := Lib.hid (dsk_flush h2 HL.out)
      have HX2 := Lib.hid (HX.out.trans (if_pos rfl))
      clear h2
      go_wp2_with (fail)
      refine HF.out.mono ?_
      rintro e w3 ⟨rfl, h3⟩
      have H3 := Lib.hid h3.swap
      clear h3
      go_wp2_with (fail)
      go_ret
      rw [HX2.out]
      exact ⟨rfl, H3.out⟩
    · have b1 : (ev != 0) = true := by simpa using he
      have HX2 := Lib.hid (HX.out.trans (if_neg he))
      have H2 := Lib.hid h2.swap
      clear h2 he
      go_wp2_with (fail)
      go_ret
      rw [HX2.out]
      exact ⟨rfl, H2.out⟩
end Go.Proofs.Ytdlbcbdfcjfagaa.commit
