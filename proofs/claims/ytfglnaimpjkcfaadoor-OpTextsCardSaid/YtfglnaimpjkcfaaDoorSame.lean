/-
  PROVED HERE: contracts of longeronref01.Same: whether two byte slices hold the same bytes.
  CONDITIONS: each contract names its own.
-/
import Derived.Test.YtfglnaimpjkcfaaDoorBase
import Derived.Deep.QuietTactic
import Derived.BigQuiet
namespace Go.Proofs.YtfglnaimpjkcfaaDoor.same
set_option linter.unusedVariables false
open Go.RowKit Go.Proofs.YtfglnaimpjkcfaaDoor.base

theorem take_eq_succ {xs ys : List Int} {k : Nat} (hx : k < xs.length) (hy : k < ys.length) (h : xs.take k = ys.take k) (e : xs[k] = ys[k]) : xs.take (k + 1) = ys.take (k + 1) := by
  rw [List.take_succ_eq_append_getElem hx, List.take_succ_eq_append_getElem hy, h, e]

set_option maxHeartbeats 1000000 in
theorem same_any (xs ys : List Int) (A A' : Option Addr) (n m c c' : Nat) (w : World) (hn : n = xs.length) (hm : m = ys.length) (hn2 : n ≤ 1000000) (hm2 : m ≤ 1000000)
    (hs : Sl w w.heap.size 1 A n (xs.map (Value.int .u8))) (ht : Sl w w.heap.size 1 A' m (ys.map (Value.int .u8))) :
    Calls Tryd.prog 11 #[.slice A n c, .slice A' m c'] w fun e w' => e = .returned (.bool (decide (xs = ys))) ∧ Below w.heap.size w w' := by
  by_cases hl : n = m
  · subst hl
    have HN := Lib.hid hn; have HM := Lib.hid hm; have HS := Lib.hid hs; have HT := Lib.hid ht
    clear hn hm hs ht
    go_enter Tryd.func11, Tryd.ntmps11
    go_wp2_with (fail)
    go_loopw [5] (fun i wr => ∃ k : Nat, k ≤ n ∧ i = .int .i64 k ∧ xs.take k = ys.take k ∧ Below w.heap.size w wr) (fun i _ => n - (intOf i).toNat)
    case atStart => exact ⟨0, by omega, rfl, by simp, Below.refl _ _⟩
    case round =>
      obtain ⟨k, hk, rfl, heq, hb⟩ := hrel
      have HE := Lib.hid heq; have HB := Lib.hid hb
      clear heq hb
      by_cases hlt : k < n
      · have hx : k < xs.length := by rw [← HN.out]; exact hlt
        have hy : k < ys.length := by rw [← HM.out]; exact hlt
        obtain ⟨b, off, rfl, hbl, hc⟩ := HS.out.2 (by omega)
        obtain ⟨b', off', rfl, hbl', hc'⟩ := HT.out.2 (by omega)
        have c1 : wr.cell? ⟨b, off + k, none⟩ = some (.int .u8 xs[k]) := (HB.out.cell (p := ⟨b, off + k, none⟩) hbl).trans (hc k _ (by simp [hx]))
        have c2 : wr.cell? ⟨b', off' + k, none⟩ = some (.int .u8 ys[k]) := (HB.out.cell (p := ⟨b', off' + k, none⟩) hbl').trans (hc' k _ (by simp [hy]))
        have HX := Lib.hid hx; have HY := Lib.hid hy
        have i0 : (0 : Int) ≤ (k : Int) := by omega
        have i1 : (k : Int) < (n : Int) := by omega
        clear hc hc'
        generalize hex : xs[k] = x at *
        generalize hey : ys[k] = y at *
        have HEX := Lib.hid hex; have HEY := Lib.hid hey
        clear hex hey
        by_cases hxy : x = y
        · have b1 : (x != y) = false := by simp [hxy]
          have HXY := Lib.hid hxy
          clear hxy
          go_wp2_with (fail)
          go_quiet (fail)
          go_wp2_with (fail)
          go_roundw
          case rel => exact ⟨k + 1, by omega, by go_num, take_eq_succ HX.out HY.out HE.out (HEX.out.trans (HXY.out.trans HEY.out.symm)), below_drewN HB.out _⟩
          case measure => simp [intOf]; omega
        · have b1 : (x != y) = true := by simp [hxy]
          have hf : decide (xs = ys) = false := by
            simp only [decide_eq_false_iff_not]
            intro h; subst h
            exact hxy (HEX.out.symm.trans HEY.out)
          have HF := Lib.hid hf
          clear hxy hf
          go_wp2_with (fail)
          go_quiet (fail)
          go_wp2_with (fail)
          go_ret
          exact ⟨ret_bool HF.out.symm, below_drewN HB.out _⟩
      · have hf : decide (xs = ys) = true := by
          have := HE.out
          rw [List.take_of_length_le (by rw [← HN.out]; omega), List.take_of_length_le (by rw [← HM.out]; omega)] at this
          simpa using this
        have HF := Lib.hid hf
        clear hf
        go_wp2_with (fail)
        go_ret
        exact ⟨ret_bool HF.out.symm, HB.out⟩
  · have hf : decide (xs = ys) = false := by
      simp only [decide_eq_false_iff_not]
      intro h; subst h; omega
    have HF := Lib.hid hf
    have b1 : ((n : Int) != (m : Int)) = true := by simp; omega
    clear hf hn hm hs ht
    go_enter Tryd.func11, Tryd.ntmps11
    go_wp2_with (fail)
    go_ret
    exact ⟨ret_bool HF.out.symm, Below.refl _ _⟩

end Go.Proofs.YtfglnaimpjkcfaaDoor.same
