/-
  PROVED HERE: for every int sector, longeronlaw09.PlaceApart(sector) returns true and leaves memory as it was.
  CONDITIONS: none.
-/
import Derived.Test.YtbnnfknkmelhaaaPlace
namespace Go.Proofs.Ytbnnfknkmelhaaa.placeApart
set_option linter.unusedVariables false
open Go.Proofs.Ytbnnfknkmelhaaa.base Go.ChangeShapes Go.WideShapes Go.ChangeAt Go.RowKit Go.Proofs.Ytbnnfknkmelhaaa.place

/-- what What tells -/
def Wh (x pt wt : Int) : Prop :=
  (0 ≤ x ∧ x < 40 ∧ pt = x / 10 ∧ (x % 10 < 2 ∧ wt = 0 ∨ 2 ≤ x % 10 ∧ (x % 10 - 2) % 4 = 0 ∧ wt = 1 ∨ 2 ≤ x % 10 ∧ ¬ (x % 10 - 2) % 4 = 0 ∧ wt = 2)) ∨ ((x < 0 ∨ 40 ≤ x) ∧ pt = -1 ∧ wt = -1)
theorem what_any (n : Int) (w : World) : Calls Try.prog 28 #[.int .i64 n] w fun e w' => (∃ pt wt, e = .returned (.tuple #[.int .i64 pt, .int .i64 wt]) ∧ Wh n pt wt) ∧ w = w' := by
  by_cases h : n < 0 ∨ 40 ≤ n
  · exact (what_out n w h).mono fun e w' ⟨a, b⟩ => ⟨⟨_, _, a, .inr ⟨h, rfl, rfl⟩⟩, b⟩
  · by_cases h1 : n % 10 < 2
    · exact (what_commit n w (by omega) (by omega) h1).mono fun e w' ⟨a, b⟩ => ⟨⟨_, _, a, .inl ⟨by omega, by omega, rfl, .inl ⟨h1, rfl⟩⟩⟩, b⟩
    · by_cases h2 : (n % 10 - 2) % 4 = 0
      · exact (what_stage n w (by omega) (by omega) (by omega) h2).mono fun e w' ⟨a, b⟩ => ⟨⟨_, _, a, .inl ⟨by omega, by omega, rfl, .inr (.inl ⟨by omega, h2, rfl⟩)⟩⟩, b⟩
      · exact (what_data n w (by omega) (by omega) (by omega) h2).mono fun e w' ⟨a, b⟩ => ⟨⟨_, _, a, .inl ⟨by omega, by omega, rfl, .inr (.inr ⟨by omega, h2, rfl⟩)⟩⟩, b⟩

/-- which sectors were met ahead of a partition; of its slot s; of that one's i-th -/
def SeenP (x p : Int) : Prop := 0 ≤ x ∧ x < 10 * p
def SeenS (x p s : Int) : Prop := SeenP x p ∨ (1 ≤ s ∧ (x = 10 * p ∨ 10 * p + 2 ≤ x ∧ x < 10 * p + 6)) ∨ (2 ≤ s ∧ (x = 10 * p + 1 ∨ 10 * p + 6 ≤ x ∧ x < 10 * p + 10))
def SeenI (x p s i : Int) : Prop := SeenS x p s ∨ x = 10 * p + s ∨ x = 10 * p + 2 + 4 * s ∨ (10 * p + 3 + 4 * s ≤ x ∧ x < 10 * p + 3 + 4 * s + i)
def Cnt (n : Int) (S : Prop) : Prop := (n = 1 ∧ S) ∨ (n = 0 ∧ ¬ S)
def CntP (n x p : Int) : Prop := Cnt n (SeenP x p)
def CntS (n x p s : Int) : Prop := Cnt n (SeenS x p s)
def CntI (n x p s i : Int) : Prop := Cnt n (SeenI x p s i)

theorem cnt_bd {n : Int} {S : Prop} (h : Cnt n S) : 0 ≤ n ∧ n ≤ 1 := by rcases h with ⟨rfl, _⟩ | ⟨rfl, _⟩ <;> omega
theorem s_of_p {n x p : Int} (h : CntP n x p) : CntS n x p 0 := by
  unfold CntP CntS Cnt SeenS at *; unfold SeenP at *; omega
theorem p_of_s {n x p : Int} (h0 : 0 ≤ p) (h : CntS n x p 2) : CntP n x (p + 1) := by
  unfold CntP CntS Cnt SeenS at *; unfold SeenP at *; omega
theorem s_of_i {n x p s : Int} (hs : 0 ≤ s) (hs2 : s < 2) (h : CntI n x p s 3) : CntS n x p (s + 1) := by
  unfold CntI CntS Cnt SeenI at *; unfold SeenS at *; unfold SeenP at *; omega
theorem i_commit {n x p s : Int} (h0 : 0 ≤ p) (hs : 0 ≤ s) (hs2 : s < 2) (h : CntS n x p s) (e : p * 10 + s = x) : CntI (n + 1) x p s 0 := by
  unfold CntI CntS Cnt SeenI at *; unfold SeenS at *; unfold SeenP at *; omega
theorem i_stage {n x p s : Int} (h0 : 0 ≤ p) (hs : 0 ≤ s) (hs2 : s < 2) (h : CntS n x p s) (e : p * 10 + (2 + s * 4) = x) : CntI (n + 1) x p s 0 := by
  unfold CntI CntS Cnt SeenI at *; unfold SeenS at *; unfold SeenP at *; omega
theorem i_none {n x p s : Int} (h0 : 0 ≤ p) (hs : 0 ≤ s) (hs2 : s < 2) (h : CntS n x p s) (e : ¬ p * 10 + s = x) (e' : ¬ p * 10 + (2 + s * 4) = x) : CntI n x p s 0 := by
  unfold CntI CntS Cnt SeenI at *; unfold SeenS at *; unfold SeenP at *; omega
theorem i_data {n x p s i : Int} (h0 : 0 ≤ p) (hs : 0 ≤ s) (hs2 : s < 2) (hi : 0 ≤ i) (h : CntI n x p s i) (hi2 : i < 3) (e : p * 10 + (2 + s * 4 + 1 + i) = x) : CntI (n + 1) x p s (i + 1) := by
  unfold CntI Cnt SeenI at *; unfold SeenS at *; unfold SeenP at *; omega
theorem i_skip {n x p s i : Int} (h0 : 0 ≤ p) (hs : 0 ≤ s) (hs2 : s < 2) (hi : 0 ≤ i) (h : CntI n x p s i) (hi2 : i < 3) (e : ¬ p * 10 + (2 + s * 4 + 1 + i) = x) : CntI n x p s (i + 1) := by
  unfold CntI Cnt SeenI at *; unfold SeenS at *; unfold SeenP at *; omega

set_option maxHeartbeats 4000000 in
set_option maxRecDepth 100000 in
theorem walk (a0 : Int) (w0 : (Lit.int .i64 a0).wf = true) (w : World) :
    Calls Try.prog 6 #[.int .i64 a0] w fun e w' => e = .returned (.bool true) ∧ Below w.heap.size w w' := by
  go_enter Try.func6, Try.ntmps6
  go_wp2_with (fail)
  refine (wakes _).mono ?_; rintro e wa ⟨rfl, ga⟩
  have HA := Lib.hid ga; clear ga
  go_wp2_with (fail)
  refine (what_any _ _).mono ?_; rintro e wb ⟨⟨pt, wt, rfl, hw⟩, rfl⟩
  have HW := Lib.hid hw; clear hw
  go_wp2_with (fail)
  go_loopw [5, 22] (fun n p wr => ∃ (k : Nat) (m : Int), k ≤ 4 ∧ p = .int .i64 k ∧ n = .int .i64 m ∧ CntP m a0 k ∧ Below w.heap.size w wr) (fun _ p _ => 4 - (intOf p).toNat)
  case atStart => exact ⟨0, 0, by omega, rfl, rfl, .inr ⟨rfl, by unfold SeenP; omega⟩, HA.out⟩
  case round =>
    obtain ⟨k, m, hk, rfl, rfl, hm, hb⟩ := hrel
    have HB := Lib.hid hb; have HM := Lib.hid hm; clear hb hm HA
    by_cases hlt : k < 4
    · have hd : decide ((k : Int) < 4) = true := by simp; omega
      go_wp2_with (fail)
      obtain ⟨wo, rfl⟩ : ∃ wo : World, wo = wr := ⟨_, rfl⟩
      go_loopw [5, 25] (fun n s wr => ∃ (j : Nat) (m : Int), j ≤ 2 ∧ s = .int .i64 j ∧ n = .int .i64 m ∧ CntS m a0 k j ∧ Below w.heap.size w wr) (fun _ s _ => 2 - (intOf s).toNat)
      case atStart => exact ⟨0, m, by omega, rfl, rfl, s_of_p HM.out, HB.out⟩
      case round =>
        obtain ⟨j, m, hj, rfl, rfl, hm, hb⟩ := hrel
        clear HB HM
        have HB := Lib.hid hb; have HM := Lib.hid hm; clear hb hm
        have hm0 := (cnt_bd HM.out).1
        have hm1 := (cnt_bd HM.out).2
        by_cases hlj : j < 2
        · have hdj : decide ((j : Int) < 2) = true := by simp; omega
          go_wp2_with (fail)
          refine (commit_in _ _ _ (by omega) (by omega) (by omega) (by omega)).mono ?_; rintro e wc ⟨rfl, gc⟩
          have HC := Lib.hid (btrans HB.out gc); clear gc HB
          have hcase : (∃ m' : Int, CntI m' a0 k j 0 ∧ ((k : Int) * 10 + j = a0 ∧ m' = m + 1 ∨ (¬ (k : Int) * 10 + j = a0 ∧ (k : Int) * 10 + (2 + (j : Int) * 4) = a0 ∧ m' = m + 1) ∨ (¬ (k : Int) * 10 + j = a0 ∧ ¬ (k : Int) * 10 + (2 + (j : Int) * 4) = a0 ∧ m' = m))) := by
            by_cases e1 : (k : Int) * 10 + j = a0
            · exact ⟨_, i_commit (by omega) (by omega) (by omega) HM.out e1, .inl ⟨e1, rfl⟩⟩
            · by_cases e2 : (k : Int) * 10 + (2 + (j : Int) * 4) = a0
              · exact ⟨_, i_stage (by omega) (by omega) (by omega) HM.out e2, .inr (.inl ⟨e1, e2, rfl⟩)⟩
              · exact ⟨_, i_none (by omega) (by omega) (by omega) HM.out e1 e2, .inr (.inr ⟨e1, e2, rfl⟩)⟩
          obtain ⟨m', hi, hc⟩ := hcase
          have HI := Lib.hid hi; clear hi
          rcases hc with ⟨e1, rfl⟩ | ⟨e1, e2, rfl⟩ | ⟨e1, e2, rfl⟩
          · have b1 : (((k : Int) * 10 + j) == a0) = true := by simpa using e1
            have b2 : (pt != (k : Int)) = false := by have := HW.out; unfold Wh at this; simp; omega
            have b3 : (wt != 0) = false := by have := HW.out; unfold Wh at this; simp; omega
            have b4 : (((k : Int) * 10 + (2 + (j : Int) * 4)) == a0) = false := by simp; omega
            clear e1
            go_wp2_with (fail)
            refine (stage_in _ _ _ (by omega) (by omega) (by omega) (by omega)).mono ?_; rintro e wd ⟨rfl, gd⟩
            have HD := Lib.hid (btrans HC.out gd); clear gd HC
            go_wp2_with (fail)
            clear HM
            obtain ⟨wq, rfl⟩ : ∃ wq : World, wq = wd := ⟨_, rfl⟩
            go_loopw [5, 70] (fun n i wr => ∃ (q : Nat) (m : Int), q ≤ 3 ∧ i = .int .i64 q ∧ n = .int .i64 m ∧ CntI m a0 k j q ∧ Below w.heap.size w wr) (fun _ i _ => 3 - (intOf i).toNat)
            case atStart => exact ⟨0, _, by omega, rfl, rfl, HI.out, HD.out⟩
            case round =>
              obtain ⟨q, m, hq, rfl, rfl, hm, hb⟩ := hrel
              clear HI HD b1 b4
              have HB := Lib.hid hb; have HM := Lib.hid hm; clear hb hm
              have hm0 := (cnt_bd HM.out).1
              have hm1 := (cnt_bd HM.out).2
              by_cases hlq : q < 3
              · go_wp2_with (fail)
                refine (data_in _ _ _ _ (by omega) (by omega) (by omega) (by omega) (by omega) (by omega)).mono ?_; rintro e wf ⟨rfl, gf⟩
                have HF := Lib.hid (btrans HB.out gf); clear gf HB
                by_cases e1 : (k : Int) * 10 + (2 + (j : Int) * 4 + 1 + (q : Int)) = a0
                · have hi := i_data (by omega) (by omega) (by omega) (by omega) HM.out (by omega) e1
                  have HI := Lib.hid hi
                  have b1 : (((k : Int) * 10 + (2 + (j : Int) * 4 + 1 + (q : Int))) == a0) = true := by simpa using e1
                  have b5 : (pt != (k : Int)) = false := by have := HW.out; unfold Wh at this; simp; omega
                  have b6 : (wt != 2) = false := by have := HW.out; unfold Wh at this; simp; rcases (by omega : j = 0 ∨ j = 1) with h | h <;> subst h <;> omega
                  clear e1 hi HM
                  go_wp2_with (fail)
                  go_roundw
                  case rel => exact ⟨q + 1, m + 1, by omega, by go_num, rfl, HI.out, HF.out⟩
                  case measure => simp [intOf]; omega
                · have hi := i_skip (by omega) (by omega) (by omega) (by omega) HM.out (by omega) e1
                  have HI := Lib.hid hi
                  have b1 : (((k : Int) * 10 + (2 + (j : Int) * 4 + 1 + (q : Int))) == a0) = false := by simpa using e1
                  clear e1 hi HM
                  go_wp2_with (fail)
                  go_roundw
                  case rel => exact ⟨q + 1, m, by omega, by go_num, rfl, HI.out, HF.out⟩
                  case measure => simp [intOf]; omega
              · obtain rfl : q = 3 := by omega
                go_wp2_with (fail)
                go_roundw
                case rel => exact ⟨j + 1, m, by omega, by go_num, rfl, s_of_i (by omega) (by omega) HM.out, HB.out⟩
                case measure => simp [intOf]; omega
          · have b1 : (((k : Int) * 10 + j) == a0) = false := by simpa using e1
            have b2 : (pt != (k : Int)) = false := by have := HW.out; unfold Wh at this; simp; omega
            have b3 : (wt != 1) = false := by have := HW.out; unfold Wh at this; simp; omega
            have b4 : (((k : Int) * 10 + (2 + (j : Int) * 4)) == a0) = true := by simp; omega
            clear e1 e2
            go_wp2_with (fail)
            refine (stage_in _ _ _ (by omega) (by omega) (by omega) (by omega)).mono ?_; rintro e wd ⟨rfl, gd⟩
            have HD := Lib.hid (btrans HC.out gd); clear gd HC
            go_wp2_with (fail)
            clear HM
            obtain ⟨wq, rfl⟩ : ∃ wq : World, wq = wd := ⟨_, rfl⟩
            go_loopw [5, 70] (fun n i wr => ∃ (q : Nat) (m : Int), q ≤ 3 ∧ i = .int .i64 q ∧ n = .int .i64 m ∧ CntI m a0 k j q ∧ Below w.heap.size w wr) (fun _ i _ => 3 - (intOf i).toNat)
            case atStart => exact ⟨0, _, by omega, rfl, rfl, HI.out, HD.out⟩
            case round =>
              obtain ⟨q, m, hq, rfl, rfl, hm, hb⟩ := hrel
              clear HI HD b1 b4
              have HB := Lib.hid hb; have HM := Lib.hid hm; clear hb hm
              have hm0 := (cnt_bd HM.out).1
              have hm1 := (cnt_bd HM.out).2
              by_cases hlq : q < 3
              · go_wp2_with (fail)
                refine (data_in _ _ _ _ (by omega) (by omega) (by omega) (by omega) (by omega) (by omega)).mono ?_; rintro e wf ⟨rfl, gf⟩
                have HF := Lib.hid (btrans HB.out gf); clear gf HB
                by_cases e1 : (k : Int) * 10 + (2 + (j : Int) * 4 + 1 + (q : Int)) = a0
                · have hi := i_data (by omega) (by omega) (by omega) (by omega) HM.out (by omega) e1
                  have HI := Lib.hid hi
                  have b1 : (((k : Int) * 10 + (2 + (j : Int) * 4 + 1 + (q : Int))) == a0) = true := by simpa using e1
                  have b5 : (pt != (k : Int)) = false := by have := HW.out; unfold Wh at this; simp; omega
                  have b6 : (wt != 2) = false := by have := HW.out; unfold Wh at this; simp; rcases (by omega : j = 0 ∨ j = 1) with h | h <;> subst h <;> omega
                  clear e1 hi HM
                  go_wp2_with (fail)
                  go_roundw
                  case rel => exact ⟨q + 1, m + 1, by omega, by go_num, rfl, HI.out, HF.out⟩
                  case measure => simp [intOf]; omega
                · have hi := i_skip (by omega) (by omega) (by omega) (by omega) HM.out (by omega) e1
                  have HI := Lib.hid hi
                  have b1 : (((k : Int) * 10 + (2 + (j : Int) * 4 + 1 + (q : Int))) == a0) = false := by simpa using e1
                  clear e1 hi HM
                  go_wp2_with (fail)
                  go_roundw
                  case rel => exact ⟨q + 1, m, by omega, by go_num, rfl, HI.out, HF.out⟩
                  case measure => simp [intOf]; omega
              · obtain rfl : q = 3 := by omega
                go_wp2_with (fail)
                go_roundw
                case rel => exact ⟨j + 1, m, by omega, by go_num, rfl, s_of_i (by omega) (by omega) HM.out, HB.out⟩
                case measure => simp [intOf]; omega
          · have b1 : (((k : Int) * 10 + j) == a0) = false := by simpa using e1
            have b4 : (((k : Int) * 10 + (2 + (j : Int) * 4)) == a0) = false := by simp; omega
            clear e1 e2
            go_wp2_with (fail)
            refine (stage_in _ _ _ (by omega) (by omega) (by omega) (by omega)).mono ?_; rintro e wd ⟨rfl, gd⟩
            have HD := Lib.hid (btrans HC.out gd); clear gd HC
            go_wp2_with (fail)
            clear HM
            obtain ⟨wq, rfl⟩ : ∃ wq : World, wq = wd := ⟨_, rfl⟩
            go_loopw [5, 70] (fun n i wr => ∃ (q : Nat) (m : Int), q ≤ 3 ∧ i = .int .i64 q ∧ n = .int .i64 m ∧ CntI m a0 k j q ∧ Below w.heap.size w wr) (fun _ i _ => 3 - (intOf i).toNat)
            case atStart => exact ⟨0, _, by omega, rfl, rfl, HI.out, HD.out⟩
            case round =>
              obtain ⟨q, m, hq, rfl, rfl, hm, hb⟩ := hrel
              clear HI HD b1 b4
              have HB := Lib.hid hb; have HM := Lib.hid hm; clear hb hm
              have hm0 := (cnt_bd HM.out).1
              have hm1 := (cnt_bd HM.out).2
              by_cases hlq : q < 3
              · go_wp2_with (fail)
                refine (data_in _ _ _ _ (by omega) (by omega) (by omega) (by omega) (by omega) (by omega)).mono ?_; rintro e wf ⟨rfl, gf⟩
                have HF := Lib.hid (btrans HB.out gf); clear gf HB
                by_cases e1 : (k : Int) * 10 + (2 + (j : Int) * 4 + 1 + (q : Int)) = a0
                · have hi := i_data (by omega) (by omega) (by omega) (by omega) HM.out (by omega) e1
                  have HI := Lib.hid hi
                  have b1 : (((k : Int) * 10 + (2 + (j : Int) * 4 + 1 + (q : Int))) == a0) = true := by simpa using e1
                  have b5 : (pt != (k : Int)) = false := by have := HW.out; unfold Wh at this; simp; omega
                  have b6 : (wt != 2) = false := by have := HW.out; unfold Wh at this; simp; rcases (by omega : j = 0 ∨ j = 1) with h | h <;> subst h <;> omega
                  clear e1 hi HM
                  go_wp2_with (fail)
                  go_roundw
                  case rel => exact ⟨q + 1, m + 1, by omega, by go_num, rfl, HI.out, HF.out⟩
                  case measure => simp [intOf]; omega
                · have hi := i_skip (by omega) (by omega) (by omega) (by omega) HM.out (by omega) e1
                  have HI := Lib.hid hi
                  have b1 : (((k : Int) * 10 + (2 + (j : Int) * 4 + 1 + (q : Int))) == a0) = false := by simpa using e1
                  clear e1 hi HM
                  go_wp2_with (fail)
                  go_roundw
                  case rel => exact ⟨q + 1, m, by omega, by go_num, rfl, HI.out, HF.out⟩
                  case measure => simp [intOf]; omega
              · obtain rfl : q = 3 := by omega
                go_wp2_with (fail)
                go_roundw
                case rel => exact ⟨j + 1, m, by omega, by go_num, rfl, s_of_i (by omega) (by omega) HM.out, HB.out⟩
                case measure => simp [intOf]; omega
        · obtain rfl : j = 2 := by omega
          go_wp2_with (fail)
          go_roundw
          case rel => exact ⟨k + 1, m, by omega, by go_num, rfl, p_of_s (by omega) HM.out, HB.out⟩
          case measure => simp [intOf]; omega
    · obtain rfl : k = 4 := by omega
      have hm := HM.out
      have hw := HW.out
      unfold CntP Cnt SeenP at hm
      unfold Wh at hw
      by_cases ho : a0 < 0
      · obtain rfl : m = 0 := by omega
        obtain rfl : pt = -1 := by omega
        obtain rfl : wt = -1 := by omega
        clear hm hw HM HW
        go_wp2_with (fail)
        go_ret
        exact ⟨rfl, HB.out⟩
      · by_cases ho2 : 40 ≤ a0
        · obtain rfl : m = 0 := by omega
          obtain rfl : pt = -1 := by omega
          obtain rfl : wt = -1 := by omega
          clear hm hw HM HW
          go_wp2_with (fail)
          refine (sectors_in 4 _ (by omega) (by omega)).mono ?_; rintro e we ⟨rfl, rfl⟩
          go_wp2_with (fail)
          go_ret
          exact ⟨rfl, HB.out⟩
        · obtain rfl : m = 1 := by omega
          clear hm hw HM HW
          go_wp2_with (fail)
          refine (sectors_in 4 _ (by omega) (by omega)).mono ?_; rintro e we ⟨rfl, rfl⟩
          go_wp2_with (fail)
          go_ret
          exact ⟨rfl, HB.out⟩
theorem own : ownKnob Try.prog.godebug = none := by kernel_rfl

/-! ### THE ROW's STEP: WRITTEN OUT: LEAVE IT -/
set_option maxRecDepth 100000 in
theorem lifted (os : Os) (started : os.Started) (H : Type) (enc : TypeId × Value → H) :
    ReturnsInHanded {} Try.checked os 6 .any (Rows.placeApartSpec.pre6 enc Try.prog Try.f6 Rows.placeApartRow.domain false) (Rows.placeApartSpec.post enc Try.prog Try.f6 false true false false) := by
  refine returnsInHanded_of_change (C := Try.checked) own started (by kernel_rfl) Try.func6
    (ChangeSpec.witness6 (enc := enc) (C := Try.checked) false ⟨#[], #[.int .i64 0], []⟩ 8 (by kernel_rfl) (by kernel_rfl) (by kernel_rfl) (by kernel_rfl)) ?_
  intro W base args ds gs before hval0 hW hcnd _
  have hval : ∀ (j : Nat) t v, Try.f6.params[j]? = some t → args[j]? = some v → Value.okWide Try.prog W .any base t v := hval0
  have hW' := hW
  obtain ⟨p, q, hA0, hV, rfl, hfz, hnd⟩ := hW
  have hA : DataW.TrodAll enc Try.prog W 0 (fun _ => true) true Try.f6.params.toList args.toList ds p := hA0
  rw [Try.params6] at hA hval
  obtain ⟨v0, vs0, d0, ds0, p0, q0, hargs, rfl, rfl, h0, r0⟩ := trodAll_cons hA
  obtain ⟨rfl, rfl, rfl⟩ := trodAll_nil r0
  obtain rfl : args = #[v0] := by cases args; simp_all
  obtain ⟨rfl, rfl⟩ := trodVars_none hV
  obtain ⟨a0, rfl, rfl, rfl, w0⟩ := open_int Try.underlying3 (hval 0 3 v0 rfl rfl) h0
  clear hA0 hval0
  simp only [List.append_nil] at hW'
  refine (walk a0 w0 W).mono fun e W' ⟨he, hg⟩ => ?_
  subst he
  exact ⟨_, rfl, Go.Proofs.Ytbnnfknkmelhaaa.base.postBelow (pa := []) (pv := []) hW' (fun _ _ _ => (trodAll_cons_mk (shut_bool Try.underlying4 _) trodAll_mk0)) (fun sp _ => (trodAll_cons_mk (shut_int Try.underlying3 w0) trodAll_mk0)) (fun _ _ => rfl) rfl
    hg (ok_one (by kernel_rfl) rfl (okWide_bool_mk Try.underlying4 _))⟩

theorem over : Rows.placeApartRow.holds Try.pinned (OpenSpec.ofChange Rows.placeApartSpec) :=
  OpenClaim.holds_of_wide 6 Try.f6 rfl rfl rfl rfl rfl rfl rfl ⟨rfl, rfl, rfl, rfl, rfl⟩ rfl rfl rfl rfl rfl (by kernel_rfl) Try.func6 (by kernel_rfl)
    (of_decide_eq_true (by kernel_rfl)) (by unfold Func.isWrapper; first | (rw [if_pos (by decide +kernel)]; kernel_rfl) | (rw [if_neg (by decide +kernel)]; exact ⟨rfl, rfl⟩))
    (fun os started H enc _ => lifted os started H enc)

/-- ████ THE STATEMENT ████ -/
theorem proved : Rows.PlaceApartSaid :=
  over
#print axioms proved
end Go.Proofs.Ytbnnfknkmelhaaa.placeApart
