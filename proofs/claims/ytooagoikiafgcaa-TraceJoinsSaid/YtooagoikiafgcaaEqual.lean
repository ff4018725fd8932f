/-
  PROVED HERE: slices.Equal of ints and of rows of api.Sent.
  CONDITIONS: each lemma names its own.
-/
import Derived.Test.YtooagoikiafgcaaView
import Derived.Test.YtooagoikiafgcaaTimerWakes
namespace Go.Proofs.Ytooagoikiafgcaa.joins
set_option linter.unusedVariables false
open Go.RowKit Go.WideShapes Go.Maps Go.Proofs.Ytooagoikiafgcaa.base Go.Proofs.Ytooagoikiafgcaa.obj Go.Proofs.Ytooagoikiafgcaa.mem Go.Proofs.Ytooagoikiafgcaa.tab Go.Proofs.Ytooagoikiafgcaa.sep Go.Proofs.Ytooagoikiafgcaa.plan

theorem take_succ_eq {α : Type} {xs ys : List α} {k : Nat} (hx : k < xs.length) (hy : k < ys.length) (h : xs.take k = ys.take k) (e : xs[k] = ys[k]) : xs.take (k + 1) = ys.take (k + 1) := by
  rw [List.take_succ_eq_append_getElem hx, List.take_succ_eq_append_getElem hy, h, e]

set_option maxRecDepth 100000 in
set_option maxHeartbeats 4000000 in
theorem eq_ints (xs ys : List Int) (A A' : Option Addr) (n m c c' : Nat) (w : World) (hn : n = xs.length) (hm : m = ys.length) (hn2 : n ≤ 1000000) (hm2 : m ≤ 1000000)
    (hs : Sl w w.heap.size 1 A n (xs.map (Value.int .i64))) (ht : Sl w w.heap.size 1 A' m (ys.map (Value.int .i64))) :
    Calls Try.prog 72 #[.slice A n c, .slice A' m c'] w fun e w' => e = .returned (.bool (decide (xs = ys))) ∧ Below w.heap.size w w' := by
  by_cases hl : n = m
  · subst hl
    have HN := Lib.hid hn; have HM := Lib.hid hm; have HS := Lib.hid hs; have HT := Lib.hid ht
    clear hn hm hs ht
    go_enter Try.func72, Try.ntmps72
    go_wp2_with (fail)
    go_loopw [13] (fun i wr => ∃ k : Nat, k ≤ n ∧ i = .int .i64 k ∧ xs.take k = ys.take k ∧ Below w.heap.size w wr) (fun i _ => n - (intOf i).toNat)
    case atStart => exact ⟨0, by omega, rfl, by simp, Below.refl _ _⟩
    case round =>
      obtain ⟨k, hk, rfl, heq, hb⟩ := hrel
      have HE := Lib.hid heq; have HB := Lib.hid hb
      clear heq hb
      by_cases hlt : k < n
      · have hx : k < xs.length := by rw [← HN.out]; exact hlt
        have hy : k < ys.length := by rw [← HM.out]; exact hlt
        obtain ⟨b, off, rfl, hbl, hc⟩ := HS.out.2 (by omega)
        obtain ⟨b', off', rfl, hbl', hc'⟩ := HT.out.2 (by omega)
        have c1 : wr.cell? ⟨b, off + k, none⟩ = some (.int .i64 xs[k]) := (HB.out.cell (p := ⟨b, off + k, none⟩) hbl).trans (hc k _ (by simp [hx]))
        have c2 : wr.cell? ⟨b', off' + k, none⟩ = some (.int .i64 ys[k]) := (HB.out.cell (p := ⟨b', off' + k, none⟩) hbl').trans (hc' k _ (by simp [hy]))
        have HX := Lib.hid hx; have HY := Lib.hid hy
        have i0 : (0 : Int) ≤ (k : Int) := by omega
        have i1 : (k : Int) < (n : Int) := by omega
        clear hc hc'
        generalize hex : xs[k] = x at *
        generalize hey : ys[k] = y at *
        have HEX := Lib.hid hex; have HEY := Lib.hid hey
        clear hex hey
        by_cases hxy : x = y
        · have b1 : (x != y) = false := by simp [hxy]
          have HXY := Lib.hid hxy
          clear hxy
          go_wp2_with (fail)
          go_quiet (fail)
          go_wp2_with (fail)
          go_roundw
          case rel => exact ⟨k + 1, by omega, by go_num, take_succ_eq HX.out HY.out HE.out (HEX.out.trans (HXY.out.trans HEY.out.symm)), below_drewN HB.out _⟩
          case measure => simp [intOf]; omega
        · have b1 : (x != y) = true := by simp [hxy]
          have hf : decide (xs = ys) = false := by
            simp only [decide_eq_false_iff_not]
            intro h; subst h
            exact hxy (HEX.out.symm.trans HEY.out)
          have HF := Lib.hid hf
          clear hxy hf
          go_wp2_with (fail)
          go_quiet (fail)
          go_wp2_with (fail)
          go_ret
          exact ⟨ret_bool HF.out.symm, below_drewN HB.out _⟩
      · have hf : decide (xs = ys) = true := by
          have := HE.out
          rw [List.take_of_length_le (by rw [← HN.out]; omega), List.take_of_length_le (by rw [← HM.out]; omega)] at this
          simpa using this
        have HF := Lib.hid hf
        clear hf
        go_wp2_with (fail)
        go_ret
        exact ⟨ret_bool HF.out.symm, HB.out⟩
  · have hf : decide (xs = ys) = false := by
      simp only [decide_eq_false_iff_not]
      intro h; subst h
      exact hl (hn.trans hm.symm)
    have HF := Lib.hid hf
    clear hn hm hs ht hf
    have b1 : ((n : Int) != (m : Int)) = true := by simp; omega
    go_enter Try.func72, Try.ntmps72
    go_wp2_with (fail)
    go_ret
    exact ⟨ret_bool HF.out.symm, Below.refl _ _⟩

set_option maxRecDepth 100000 in
set_option maxHeartbeats 4000000 in
theorem eq_sents (xs ys : List (Int × Int)) (A A' : Option Addr) (n m c c' : Nat) (w : World) (hn : n = xs.length) (hm : m = ys.length) (hn2 : n ≤ 1000000) (hm2 : m ≤ 1000000)
    (hs : Sl w w.heap.size 2 A n (t2s xs)) (ht : Sl w w.heap.size 2 A' m (t2s ys)) :
    Calls Try.prog 71 #[.slice A n c, .slice A' m c'] w fun e w' => e = .returned (.bool (decide (xs = ys))) ∧ Below w.heap.size w w' := by
  by_cases hl : n = m
  · subst hl
    have HN := Lib.hid hn; have HM := Lib.hid hm; have HS := Lib.hid hs; have HT := Lib.hid ht
    clear hn hm hs ht
    go_enter Try.func71, Try.ntmps71
    go_wp2_with (fail)
    go_loopw [13] (fun i wr => ∃ k : Nat, k ≤ n ∧ i = .int .i64 k ∧ xs.take k = ys.take k ∧ Below w.heap.size w wr) (fun i _ => n - (intOf i).toNat)
    case atStart => exact ⟨0, by omega, rfl, by simp, Below.refl _ _⟩
    case round =>
      obtain ⟨k, hk, rfl, heq, hb⟩ := hrel
      have HE := Lib.hid heq; have HB := Lib.hid hb
      clear heq hb
      by_cases hlt : k < n
      · have hx : k < xs.length := by rw [← HN.out]; exact hlt
        have hy : k < ys.length := by rw [← HM.out]; exact hlt
        obtain ⟨b, off, rfl, hbl, c1, c2⟩ := t2s_get (HS.out.below HB.out) HN.out hx
        obtain ⟨b', off', rfl, hbl', c3, c4⟩ := t2s_get (HT.out.below HB.out) HM.out hy
        have HX := Lib.hid hx; have HY := Lib.hid hy
        have i0 : (0 : Int) ≤ (k : Int) := by omega
        have i1 : (k : Int) < (n : Int) := by omega
        generalize hex : xs[k] = x at *
        generalize hey : ys[k] = y at *
        have HEX := Lib.hid hex; have HEY := Lib.hid hey
        clear hex hey
        obtain ⟨x1, x2⟩ := x
        obtain ⟨y1, y2⟩ := y
        dsimp only at c1 c2 c3 c4
        by_cases hxy : x1 = y1 ∧ x2 = y2
        · obtain ⟨rfl, rfl⟩ := hxy
          go_wp2_with (fail)
          go_region
          go_wp2_with (fail)
          go_roundw
          case rel => exact ⟨k + 1, by omega, by go_num, take_succ_eq HX.out HY.out HE.out (HEX.out.trans HEY.out.symm), below_drewN HB.out 1⟩
          case measure => simp [intOf]; omega
        · have hf : decide (xs = ys) = false := by
            simp only [decide_eq_false_iff_not]
            intro h; subst h
            have h2 := HEX.out.symm.trans HEY.out
            injection h2 with h3 h4
            exact hxy ⟨h3, h4⟩
          have HF := Lib.hid hf
          clear hf
          by_cases h1 : x1 = y1
          · subst h1
            have h2 : ¬ x2 = y2 := fun e => hxy ⟨rfl, e⟩
            clear hxy
            go_wp2_with (fail)
            go_region
            go_wp2_with (fail)
            go_ret
            exact ⟨ret_bool HF.out.symm, below_drewN HB.out 1⟩
          · clear hxy
            go_wp2_with (fail)
            go_region
            go_wp2_with (fail)
            go_ret
            exact ⟨ret_bool HF.out.symm, below_drewN HB.out 1⟩
      · have hf : decide (xs = ys) = true := by
          have := HE.out
          rw [List.take_of_length_le (by rw [← HN.out]; omega), List.take_of_length_le (by rw [← HM.out]; omega)] at this
          simpa using this
        have HF := Lib.hid hf
        clear hf
        go_wp2_with (fail)
        go_ret
        exact ⟨ret_bool HF.out.symm, HB.out⟩
  · have hf : decide (xs = ys) = false := by
      simp only [decide_eq_false_iff_not]
      intro h; subst h
      exact hl (hn.trans hm.symm)
    have HF := Lib.hid hf
    clear hn hm hs ht hf
    have b1 : ((n : Int) != (m : Int)) = true := by simp; omega
    go_enter Try.func71, Try.ntmps71
    go_wp2_with (fail)
    go_ret
    exact ⟨ret_bool HF.out.symm, Below.refl _ _⟩
end Go.Proofs.Ytooagoikiafgcaa.joins
