/-
  PROVED HERE: longeronlaw18.wakes returns true and leaves memory as it was; SameInts.
  CONDITIONS: each lemma names its own.
-/
import Derived.Test.YtooagoikiafgcaaTimerDue
namespace Go.Proofs.Ytooagoikiafgcaa.timer
set_option linter.unusedVariables false
open Go.RowKit Go.WideShapes Go.Maps Go.Proofs.Ytooagoikiafgcaa.base Go.Proofs.Ytooagoikiafgcaa.obj Go.Proofs.Ytooagoikiafgcaa.mem Go.Proofs.Ytooagoikiafgcaa.sep Go.Proofs.Ytooagoikiafgcaa.plan

theorem take_eq_succ' {xs ys : List Int} {k : Nat} (hx : k < xs.length) (hy : k < ys.length) (h : xs.take k = ys.take k) (e : xs[k] = ys[k]) : xs.take (k + 1) = ys.take (k + 1) := by
  rw [List.take_succ_eq_append_getElem hx, List.take_succ_eq_append_getElem hy, h, e]

set_option maxHeartbeats 1000000 in
/-- SameInts -/
theorem sameInts_at (xs ys : List Int) (A A' : Option Addr) (n m c c' : Nat) (w : World) (hn : n = xs.length) (hm : m = ys.length) (hn2 : n ≤ 1000000) (hm2 : m ≤ 1000000)
    (hs : Sl w w.heap.size 1 A n (xs.map (Value.int .i64))) (ht : Sl w w.heap.size 1 A' m (ys.map (Value.int .i64))) :
    Calls Try.prog 24 #[.slice A n c, .slice A' m c'] w fun e w' => e = .returned (.bool (decide (xs = ys))) ∧ Below w.heap.size w w' := by
  by_cases hl : n = m
  · subst hl
    have HN := Lib.hid hn; have HM := Lib.hid hm; have HS := Lib.hid hs; have HT := Lib.hid ht
    clear hn hm hs ht
    go_enter Try.func24, Try.ntmps24
    go_wp2_with (fail)
    go_loopw [5] (fun i wr => ∃ k : Nat, k ≤ n ∧ i = .int .i64 k ∧ xs.take k = ys.take k ∧ Below w.heap.size w wr) (fun i _ => n - (intOf i).toNat)
    case atStart => exact ⟨0, by omega, rfl, by simp, Below.refl _ _⟩
    case round =>
      obtain ⟨k, hk, rfl, heq, hb⟩ := hrel
      have HE := Lib.hid heq; have HB := Lib.hid hb
      clear heq hb
      by_cases hlt : k < n
      · have hx : k < xs.length := by rw [← HN.out]; exact hlt
        have hy : k < ys.length := by rw [← HM.out]; exact hlt
        obtain ⟨b, off, rfl, hbl, hc⟩ := HS.out.2 (by omega)
        obtain ⟨b', off', rfl, hbl', hc'⟩ := HT.out.2 (by omega)
        have c1 : wr.cell? ⟨b, off + k, none⟩ = some (.int .i64 xs[k]) := (HB.out.cell (p := ⟨b, off + k, none⟩) hbl).trans (hc k _ (by simp [hx]))
        have c2 : wr.cell? ⟨b', off' + k, none⟩ = some (.int .i64 ys[k]) := (HB.out.cell (p := ⟨b', off' + k, none⟩) hbl').trans (hc' k _ (by simp [hy]))
        have HX := Lib.hid hx; have HY := Lib.hid hy
        have i0 : (0 : Int) ≤ (k : Int) := by omega
        have i1 : (k : Int) < (n : Int) := by omega
        clear hc hc'
        generalize hex : xs[k] = x at *
        generalize hey : ys[k] = y at *
        have HEX := Lib.hid hex; have HEY := Lib.hid hey
        clear hex hey
        by_cases hxy : x = y
        · have b1 : (x != y) = false := by simp [hxy]
          have HXY := Lib.hid hxy
          clear hxy
          go_wp2_with (fail)
          go_quiet (fail)
          go_wp2_with (fail)
          go_roundw
          case rel => exact ⟨k + 1, by omega, by go_num, take_eq_succ' HX.out HY.out HE.out (HEX.out.trans (HXY.out.trans HEY.out.symm)), below_drewN HB.out _⟩
          case measure => simp [intOf]; omega
        · have b1 : (x != y) = true := by simp [hxy]
          have hf : decide (xs = ys) = false := by
            simp only [decide_eq_false_iff_not]
            intro h; subst h
            exact hxy (HEX.out.symm.trans HEY.out)
          have HF := Lib.hid hf
          clear hxy hf
          go_wp2_with (fail)
          go_quiet (fail)
          go_wp2_with (fail)
          go_ret
          exact ⟨ret_bool HF.out.symm, below_drewN HB.out _⟩
      · have hf : decide (xs = ys) = true := by
          have := HE.out
          rw [List.take_of_length_le (by rw [← HN.out]; omega), List.take_of_length_le (by rw [← HM.out]; omega)] at this
          simpa using this
        have HF := Lib.hid hf
        clear hf
        go_wp2_with (fail)
        go_ret
        exact ⟨ret_bool HF.out.symm, HB.out⟩
  · have hf : decide (xs = ys) = false := by
      simp only [decide_eq_false_iff_not]
      intro h; subst h; omega
    have HF := Lib.hid hf
    have b1 : ((n : Int) != (m : Int)) = true := by simp; omega
    clear hf hn hm hs ht
    go_enter Try.func24, Try.ntmps24
    go_wp2_with (fail)
    go_ret
    exact ⟨ret_bool HF.out.symm, Below.refl _ _⟩


theorem i64s_one (l : List Int) : ∀ u ∈ l.map (Value.int .i64), u.oneCell' = true := by
  intro u hu
  obtain ⟨_, _, rfl⟩ := List.mem_map.1 hu
  rfl
theorem wk_min : IsMin [(2, 3), (1, 5)] (2, 3) := by
  refine ⟨by simp, fun x hx => ?_⟩
  simp only [List.mem_cons, List.not_mem_nil, or_false] at hx
  rcases hx with rfl | rfl <;> decide
theorem wk_due {out : List Int} {M' : List (Int × Int)} (h : DueR 4 [(2, 3), (1, 5)] out M') : out = [2] ∧ M' = [(1, 5)] := by
  cases h with
  | stop _ h => exact absurd (h _ wk_min) (by decide)
  | step o _ out _ ho hle r =>
    have e := ho.uniq wk_min
    subst e
    rw [show stopM [(2, 3), (1, 5)] (2, 3).1 = [(1, 5)] from rfl] at r
    cases r with
    | stop => exact ⟨rfl, rfl⟩
    | step o2 _ out2 _ ho2 hle2 r2 =>
      have := List.mem_singleton.1 ho2.1
      subst this
      exact absurd hle2 (by decide)
set_option maxRecDepth 100000 in
set_option maxHeartbeats 4000000 in
theorem wakes (w : World) : Calls Try.prog 13 #[] w fun e w' => e = .returned (.bool true) ∧ Below w.heap.size w w' := by
  go_enter Try.func13, Try.ntmps13
  go_wp2_with (fail)
  refine (tnew_at (St.nil w)).mono ?_
  rintro e w1 ⟨T, rfl, h1⟩
  have H1 := Lib.hid h1
  clear h1
  go_wp2_with (fail)
  refine (tset_at H1.out (by omega) 1 5 (by decide)).mono ?_
  rintro e w2 ⟨rfl, h2⟩
  have H2 := Lib.hid h2
  clear h2
  go_wp2_with (fail)
  refine (tset_at H2.out (by omega) 2 3 (by decide)).mono ?_
  rintro e w3 ⟨rfl, h3⟩
  have H3 := Lib.hid (show TS w w3 T 2 [(2, 3), (1, 5)] [] from h3)
  clear h3
  go_wp2_with (fail)
  refine (tdue_at H3.out (by omega) 4).mono ?_
  rintro e w4 ⟨A, c, names, M', rfl, hd, hs⟩
  obtain ⟨e1, e2⟩ := wk_due hd
  subst e1; subst e2
  have H4 := Lib.hid (show TS w w4 T 2 [(1, 5)] [own 3 1 (.slice A 1 c) 1 [.int .i64 2]] from hs)
  have HB4 := Lib.hid (hs.beside)
  clear hd hs
  have HSA := Lib.hid (show Sl (w4.alloc (.cells #[.int .i64 2] 3)) (w4.alloc (.cells #[.int .i64 2] 3)).heap.size 1 A 1 (([2] : List Int).map (.int .i64)) from ((Sl.of_own (show w4.ownsRow w.heap.size 3 1 (.slice A 1 c) 1 [.int .i64 2] from HB4.out.own)).below ((Below.refl _ _).alloc (Nat.le_refl _) _)).more (by simp))
  have HSB := Lib.hid (show Sl (w4.alloc (.cells #[.int .i64 2] 3)) (w4.alloc (.cells #[.int .i64 2] 3)).heap.size 1 (some ⟨w4.heap.size, 0, none⟩) 1 (([2] : List Int).map (.int .i64)) from (sl_new (n := 1) rfl).more (by simp))
  go_wp2_with (fail)
  refine (sameInts_at [2] [2] _ _ 1 1 _ _ _ rfl rfl (by omega) (by omega) HSA.out HSB.out).mono ?_
  rintro e w5 ⟨rfl, hb⟩
  have H5 := Lib.hid (H4.out.below (((Below.refl w4.heap.size w4).alloc (Nat.le_refl _) (.cells #[.int .i64 2] 3)).trans (hb.mono (by simp))))
  clear hb
  go_wp2_with (fail)
  refine (tlen_at H5.out).mono ?_
  rintro e w6 ⟨rfl, rfl⟩
  go_wp2_with (fail)
  go_ret
  exact ⟨by simp, H5.out.bel⟩
end Go.Proofs.Ytooagoikiafgcaa.timer
