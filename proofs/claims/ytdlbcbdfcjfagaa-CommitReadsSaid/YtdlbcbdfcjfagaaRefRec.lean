/-
  PROVED HERE: which records are right, as the document tells it; a sector of some first bytes; a record's.
  CONDITIONS: each contract names its own.
-/
import Derived.Test.YtdlbcbdfcjfagaaRecOpen
import Derived.Test.YtdlbcbdfcjfagaaRefNum
import Derived.Test.YtdlbcbdfcjfagaaRefCrc
namespace Go.Proofs.Ytdlbcbdfcjfagaa.refRec
set_option linter.unusedVariables false
open Go.RowKit Go.Proofs.Ytdlbcbdfcjfagaa.base Go.Proofs.Ytdlbcbdfcjfagaa.obj Go.Proofs.Ytdlbcbdfcjfagaa.mem Go.Proofs.Ytdlbcbdfcjfagaa.crc Go.Proofs.Ytdlbcbdfcjfagaa.num Go.Proofs.Ytdlbcbdfcjfagaa.bytes Go.Proofs.Ytdlbcbdfcjfagaa.record Go.Proofs.Ytdlbcbdfcjfagaa.refNum

set_option maxHeartbeats 1000000 in
theorem bit_at (w : World) (n i : Nat) (hn : n ≤ 1000000) (hi : i ≤ 1000) : Calls Try.prog 49 #[.int .i64 n, .int .i64 i] w fun e w' => e = .returned (.bool (decide (n / 2 ^ i % 2 = 1))) ∧ w' = w := by
  go_enter Try.func49, Try.ntmps49
  go_wp2_with (fail)
  go_loopw [5, 0] (fun k s wr => ∃ j : Nat, j ≤ i ∧ k = .int .i64 j ∧ s = .int .i64 (n / 2 ^ j : Nat) ∧ wr = w) (fun k _ _ => i - (intOf k).toNat)
  case atStart => exact ⟨0, by omega, rfl, by simp, rfl⟩
  case round =>
    obtain ⟨j, hj, rfl, rfl, rfl⟩ := hrel
    have hq : n / 2 ^ j ≤ 1000000 := Nat.le_trans (Nat.div_le_self _ _) hn
    by_cases hlt : j < i
    · have hlt' : (j : Int) < (i : Int) := by omega
      have HD := Lib.hid (show n / 2 ^ (j + 1) = n / 2 ^ j / 2 by rw [Nat.pow_succ, Nat.div_div_eq_div_mul])
      generalize n / 2 ^ j = q at *
      go_wp2_with (fail)
      go_roundw
      case rel => exact ⟨j + 1, by omega, by go_num, by rw [HD.out]; go_num, trivial⟩
      case measure => simp [intOf] <;> omega
    · have hji : j = i := by omega
      have hlt' : ¬ (j : Int) < (i : Int) := by omega
      have HR := Lib.hid (show decide (n / 2 ^ i % 2 = 1) = (((((n / 2 ^ j : Nat) : Int) % 2) == 1)) by
        rw [hji, Bool.eq_iff_iff, decide_eq_true_iff, beq_iff_eq]; omega)
      clear hji
      generalize n / 2 ^ j = q at *
      go_wp2_with (fail)
      go_ret
      exact ⟨ret_bool (by rw [HR.out]), rfl⟩

theorem bit_int (w : World) (n i : Int) (h0 : 0 ≤ n) (h1 : n ≤ 3) (i0 : 0 ≤ i) (i1 : i ≤ 1) : Calls Try.prog 49 #[.int .i64 n, .int .i64 i] w fun e w' => e = .returned (.bool (!bitOff n i)) ∧ w' = w := by
  obtain ⟨n, rfl⟩ := Int.eq_ofNat_of_zero_le h0
  obtain ⟨i, rfl⟩ := Int.eq_ofNat_of_zero_le i0
  refine (bit_at w n i (by omega) (by omega)).mono ?_
  rintro e w' ⟨rfl, rfl⟩
  refine ⟨ret_bool ?_, rfl⟩
  have hi : i = 0 ∨ i = 1 := by omega
  unfold bitOff
  rcases hi with rfl | rfl <;> (rw [Bool.eq_iff_iff]; simp; omega)

set_option maxRecDepth 100000 in
set_option maxHeartbeats 8000000 in
theorem right_at (r : Rec) (w : World) : Calls Try.prog 15 #[r.val] w fun e w' => e = .returned (.bool r.right) ∧ Below w.heap.size w w' := by
  obtain ⟨part, seq, active, confirmed, left, bad⟩ := r
  unfold Rec.val Rec.cells
  have HB := Lib.hid (fun o => (Below.refl w.heap.size w).alloc (Nat.le_refl _) o)
  go_enter Try.func15, Try.ntmps15
  go_wp2_with (fail)
  all_goals first
    | (go_ret; refine ⟨ret_bool ?_, HB.out _⟩; simp [Rec.right] <;> omega)
    | (refine (bit_int _ _ _ (by omega) (by omega) (by omega) (by omega)).mono ?_
       rintro e w' ⟨rfl, rfl⟩
       obtain ⟨ba, hba⟩ : ∃ b, b = bitOff bad active := ⟨_, rfl⟩
       rw [← hba]
       have HBA := Lib.hid hba
       clear hba
       cases ba
       all_goals go_wp2_with (fail)
       · go_ret; refine ⟨ret_bool ?_, HB.out _⟩; simp [Rec.right, ← HBA.out] <;> omega
       · refine (bit_int _ _ _ (by omega) (by omega) (by omega) (by omega)).mono ?_
         rintro e w' ⟨rfl, rfl⟩
         obtain ⟨bc, hbc⟩ : ∃ b, b = bitOff bad confirmed := ⟨_, rfl⟩
         rw [← hbc]
         have HBC := Lib.hid hbc
         clear hbc
         go_wp2_with (fail)
         go_ret; refine ⟨ret_bool ?_, HB.out _⟩; cases bc <;> simp [Rec.right, ← HBA.out, ← HBC.out] <;> omega)
    | (have he : active = confirmed := by assumption
       refine (bit_int _ _ _ (by omega) (by omega) (by omega) (by omega)).mono ?_
       rintro e w' ⟨rfl, rfl⟩
       obtain ⟨ba, hba⟩ : ∃ b, b = bitOff bad confirmed := ⟨_, rfl⟩
       rw [← hba]
       have HBA := Lib.hid hba; have HE := Lib.hid he
       clear hba he
       cases ba
       all_goals go_wp2_with (fail)
       · go_ret; refine ⟨ret_bool ?_, HB.out _⟩; simp [Rec.right, HE.out, ← HBA.out] <;> omega
       · refine (bit_int _ _ _ (by omega) (by omega) (by omega) (by omega)).mono ?_
         rintro e w' ⟨rfl, rfl⟩
         rw [← HBA.out]
         go_wp2_with (fail)
         go_ret; refine ⟨ret_bool ?_, HB.out _⟩; simp [Rec.right, HE.out, ← HBA.out] <;> omega)
end Go.Proofs.Ytdlbcbdfcjfagaa.refRec
