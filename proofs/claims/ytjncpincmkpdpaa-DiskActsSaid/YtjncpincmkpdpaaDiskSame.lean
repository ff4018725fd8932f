/-
  PROVED HERE: longeronlaw04.same of a disk and the reference's disk of one model returns true.
  CONDITIONS: no more than a million writes wait.
-/
import Derived.Test.YtjncpincmkpdpaaRefNow
import Derived.Test.YtjncpincmkpdpaaDiskOwn
import Derived.Deep.QuietTactic
import Derived.BigQuiet
namespace Go.Proofs.Ytjncpincmkpdpaa.refDisk
set_option linter.unusedVariables false
open Go.RowKit Go.Proofs.Ytjncpincmkpdpaa.base Go.Proofs.Ytjncpincmkpdpaa.obj Go.Proofs.Ytjncpincmkpdpaa.mem Go.Proofs.Ytjncpincmkpdpaa.plan Go.Proofs.Ytjncpincmkpdpaa.disk Go.Proofs.Ytjncpincmkpdpaa.same

theorem below_dn (w : World) (n : Nat) : Below w.heap.size w (w.drewN n) := ⟨rfl, rfl, rfl, Nat.le_refl _, fun _ _ => rfl⟩
theorem q_waits {w : World} {B g : Nat} {m : DS} (h : DiskOwn w B g m) (n : Nat) : Calls Try.prog 30 #[.pointer (some ⟨g, 0, none⟩)] (w.drewN n) fun e w'' => e = .returned (.int .i64 m.waits.length) ∧ ∃ k, w'' = w.drewN k :=
  (own_waits (h.below (below_dn w n))).mono fun e w' ⟨h1, h2⟩ => ⟨h1, n, h2.symm⟩
theorem q_down {w : World} {B g : Nat} {m : DS} (h : DiskOwn w B g m) (n : Nat) : Calls Try.prog 32 #[.pointer (some ⟨g, 0, none⟩)] (w.drewN n) fun e w'' => e = .returned (.bool m.down) ∧ ∃ k, w'' = w.drewN k :=
  (own_down (h.below (below_dn w n))).mono fun e w' ⟨h1, h2⟩ => ⟨h1, n, h2.symm⟩
theorem q_len {w : World} {B g : Nat} {m : DS} (h : DiskOwn w B g m) (n : Nat) : Calls Try.prog 38 #[.pointer (some ⟨g, 0, none⟩)] (w.drewN n) fun e w'' => e = .returned (.int .i64 m.secs.length) ∧ ∃ k, w'' = w.drewN k :=
  (own_len (h.below (below_dn w n))).mono fun e w' ⟨h1, h2⟩ => ⟨h1, n, h2.symm⟩
theorem own_read_down {w : World} {B g : Nat} {m : DS} (h : DiskOwn w B g m) (i : Int) (hi : 0 ≤ i ∧ i < m.secs.length) (hd : m.down = true) (hwl : m.waits.length ≤ 1000000) :
    Calls Try.prog 28 #[.pointer (some ⟨g, 0, none⟩), .int .i64 i] w fun e w' => e = .returned (.tuple #[.slice none 0 0, .int .i64 8]) ∧ Below w.heap.size w w' := by
  obtain ⟨F, ⟨L, wv, h⟩, hF⟩ := h
  refine (read_at h i hwl).mono fun e w' ⟨h1, h2⟩ => ⟨?_, h2⟩
  rw [if_neg (by omega), hd] at h1
  simpa using h1
theorem own_read_out {w : World} {B g : Nat} {m : DS} (h : DiskOwn w B g m) (i : Int) (hi : i < 0 ∨ m.secs.length ≤ i) (hwl : m.waits.length ≤ 1000000) :
    Calls Try.prog 28 #[.pointer (some ⟨g, 0, none⟩), .int .i64 i] w fun e w' => e = .returned (.tuple #[.slice none 0 0, .int .i64 3]) ∧ Below w.heap.size w w' := by
  obtain ⟨F, ⟨L, wv, h⟩, hF⟩ := h
  refine (read_at h i hwl).mono fun e w' ⟨h1, h2⟩ => ⟨?_, h2⟩
  rw [if_pos hi] at h1
  exact h1
structure Pair (w : World) (B g x : Nat) (m : DS) : Prop where
  d : DiskOwn w B g m
  r : RefOwn w B x m
theorem Pair.below {w w' : World} {B g x : Nat} {m : DS} (h : Pair w B g x m) (k : Below w.heap.size w w') : Pair w' B g x m := ⟨h.d.below k, h.r.below k⟩
theorem now_len {m : DS} (h : m.Good) {n : Nat} (hn : n < m.secs.length) : (m.now n).length = 64 := by
  have e : m.secs.getD n [] = m.secs[n] := by simp [hn]
  exact nowTo_len (fun p hp => (h.waits p hp).2) (by rw [e]; exact h.secs _ (List.getElem_mem _)) _ (Nat.le_refl _)

set_option maxRecDepth 100000 in
set_option maxHeartbeats 4000000 in
theorem same_at {w : World} {B g x : Nat} {m : DS} (h : Pair w B g x m) (hwl : m.waits.length ≤ 1000000) :
    Calls Try.prog 37 #[.pointer (some ⟨g, 0, none⟩), .pointer (some ⟨x, 0, none⟩)] w fun e w' => e = .returned (.bool true) ∧ Below w.heap.size w w' := by
  obtain ⟨vS, vA, vB, hS, hB, hr⟩ := h.r
  obtain ⟨c0, c1, c2, c3, c4⟩ := hr.read
  obtain ⟨AS, cS, eS, _⟩ := own_form hr.own1
  obtain ⟨AA, cA, eA, _⟩ := own_form hr.own2
  rw [eS] at c0
  rw [eA] at c1
  have H := Lib.hid h
  have HG := Lib.hid hr.good
  have hxl := hr.blk.lt
  have hn1 := hr.good.n1
  clear h hr eS eA c2 c3
  go_enter Try.func37, Try.ntmps37
  go_wp2_with (fail)
  go_quiet ((first
    | (go_at_call 30; exact q_waits H.out.d _)
    | (go_at_call 32; exact q_down H.out.d _)
    | (go_at_call 38; exact q_len H.out.d _)))
  go_wp2_with (fail)
  have HB0 := Lib.hid (below_dn w nq)
  go_loopw [40] (fun i wr => ∃ k : Nat, k ≤ m.secs.length ∧ i = .int .i64 k ∧ Below w.heap.size w wr) (fun i _ => m.secs.length - (intOf i).toNat)
  case atStart => exact ⟨0, by omega, rfl, HB0.out⟩
  case round =>
    obtain ⟨k, hk, rfl, hb⟩ := hrel
    have HB := Lib.hid hb
    have HP := Lib.hid (H.out.below hb)
    clear hb
    by_cases hlt : k < m.secs.length
    · cases hd : m.down
      · have HD := Lib.hid hd
        rw [hd] at c4
        have HL := Lib.hid (now_len HG.out hlt)
        clear hd
        go_wp2_with (fail)
        refine (own_read HP.out.d k k rfl hlt HD.out hwl).mono ?_; rintro e w1 ⟨b1, rfl, hr, hdd, hb⟩
        have HR1 := Lib.hid hr; have HP1 := Lib.hid (HP.out.below hb); have HB1 := Lib.hid (HB.out.trans (hb.mono HB.out.size))
        have d4 : w1.cell? ⟨x, 4, none⟩ = some (.bool false) := (HB1.out.cell (p := ⟨x, 4, none⟩) hxl).trans c4
        clear hr hdd hb
        go_wp2_with (fail)
        refine (now_at HP1.out.r k hlt hwl).mono ?_; rintro e w2 ⟨b2, cc2, rfl, hhd, rfl⟩
        obtain ⟨b2', c2', e2, hsl⟩ := Hd.sl hhd HL.out
        injection e2 with q1 q2 q3
        injection q1 with q1
        injection q1 with q1
        subst q1
        have HS2 := Lib.hid hsl
        clear hhd hsl q3 q2
        go_wp2_with (fail)
        refine (same_yes (xs := m.now k) (n := 64) HL.out (by omega) (row_sl HR1.out HL.out) HS2.out).mono ?_; rintro e w3 ⟨rfl, hb⟩
        have HB3 := Lib.hid (HB1.out.trans (hb.mono HB1.out.size))
        clear hb
        go_wp2_with (fail)
        go_roundw
        case rel => exact ⟨k + 1, by omega, by go_num, HB3.out⟩
        case measure => simp [intOf]; omega
      · have HD := Lib.hid hd
        rw [hd] at c4
        clear hd
        go_wp2_with (fail)
        refine (own_read_down HP.out.d k (by omega) HD.out hwl).mono ?_; rintro e w1 ⟨rfl, hb⟩
        have HB1 := Lib.hid (HB.out.trans (hb.mono HB.out.size))
        have d4 : w1.cell? ⟨x, 4, none⟩ = some (.bool true) := (HB1.out.cell (p := ⟨x, 4, none⟩) hxl).trans c4
        clear hb
        go_wp2_with (fail)
        go_roundw
        case rel => exact ⟨k + 1, by omega, by go_num, HB1.out⟩
        case measure => simp [intOf]; omega
    · go_wp2_with (fail)
      go_ret
      exact ⟨rfl, HB.out⟩

end Go.Proofs.Ytjncpincmkpdpaa.refDisk
