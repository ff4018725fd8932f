/-
  PROVED HERE: the document's sum of 32 bits: a byte into the register, bytes, the sum.
  CONDITIONS: the bytes are the ones that lie in the slice.
-/
import Derived.Test.YtdlbcbdfcjfagaaCrc
namespace Go.Proofs.Ytdlbcbdfcjfagaa.refCrc
set_option linter.unusedVariables false
open Go.RowKit Go.Proofs.Ytdlbcbdfcjfagaa.base Go.Proofs.Ytdlbcbdfcjfagaa.obj Go.Proofs.Ytdlbcbdfcjfagaa.mem Go.Proofs.Ytdlbcbdfcjfagaa.crc

theorem odd_eq (z : Nat) (hz : z < 2 ^ 32) (h : z % 2 = 1) : Go.bits .xor .u32 ((z : Int) / 2) 3988292384 = ((dn z : Nat) : Int) := by
  rw [show (z : Int) / 2 = ((z / 2 : Nat) : Int) by omega, show (3988292384 : Int) = ((3988292384 : Nat) : Int) from rfl, xor32 _ _ (by omega) (by decide)]
  unfold dn
  rw [if_pos h]
theorem even_eq (z : Nat) (h : ¬ z % 2 = 1) : ((dn z : Nat) : Int) = (z : Int) / 2 := by
  unfold dn
  rw [if_neg h, Nat.xor_zero]
  omega

set_option maxHeartbeats 1000000 in
theorem feed1_at (w : World) (x c : Nat) (hx : x < 2 ^ 32) (hc : c < 256) : Calls Try.prog 101 #[.int .u32 x, .int .u8 c] w fun e w' => e = .returned (.int .u32 (feed x c : Nat)) ∧ w' = w := by
  have e0 := xor32 x c hx (by omega)
  have hy : x ^^^ c < 2 ^ 32 := Nat.xor_lt_two_pow hx (by omega)
  have HF := Lib.hid (show feed x c = it 8 (x ^^^ c) from rfl)
  generalize x ^^^ c = y at *
  have HY := Lib.hid hy
  go_enter Try.func101, Try.ntmps101
  go_wp2_with (fail)
  go_loopw [5, 0] (fun i s wr => ∃ j : Nat, j ≤ 8 ∧ i = .int .i64 j ∧ s = .int .u32 (it j y : Nat) ∧ wr = w) (fun i _ _ => 8 - (intOf i).toNat)
  case atStart => exact ⟨0, by omega, rfl, rfl, rfl⟩
  case round =>
    obtain ⟨j, hj, rfl, rfl, rfl⟩ := hrel
    by_cases hlt : j < 8
    · have hlt' : (j : Int) < 8 := by omega
      have hz := it_lt j HY.out
      have HN := Lib.hid (show it (j + 1) y = dn (it j y) from rfl)
      generalize it j y = z at *
      by_cases ho : z % 2 = 1
      · have b1 : (((z : Int) % 2) == 1) = true := by rw [beq_iff_eq]; omega
        have e1 := odd_eq z hz ho
        have HZ := Lib.hid hz; have HO := Lib.hid ho
        clear ho
        go_wp2_with (fail)
        go_roundw
        case rel => exact ⟨j + 1, by omega, by go_num, by rw [HN.out], trivial⟩
        case measure => simp [intOf]; omega
      · have b1 : (((z : Int) % 2) == 1) = false := by rw [beq_eq_false_iff_ne]; omega
        have HE := Lib.hid (even_eq z ho)
        clear ho
        go_wp2_with (fail)
        go_roundw
        case rel => exact ⟨j + 1, by omega, by go_num, by rw [HN.out, HE.out], trivial⟩
        case measure => simp [intOf]; omega
    · have hj8 : j = 8 := by omega
      have hlt' : ¬ (j : Int) < 8 := by omega
      have HJ := Lib.hid hj8
      clear hj8
      go_wp2_with (fail)
      go_ret
      exact ⟨ret_int (by rw [HF.out, HJ.out]), rfl⟩

set_option maxHeartbeats 2000000 in
theorem feed_at (w : World) (x : Nat) (hx : x < 2 ^ 32) (A : Option Addr) (n c : Nat) (bs : List Int) (hn : bs.length = n) (hm : n ≤ 1000000) (hb : Byt bs) (hs : Sl w w.heap.size 1 A n (bs.map (.int .u8))) :
    Calls Try.prog 83 #[.int .u32 x, .slice A n c] w fun e w' => e = .returned (.int .u32 (fold x bs : Nat)) ∧ w' = w := by
  have HN := Lib.hid hn; have HB := Lib.hid hb; have HS := Lib.hid hs; have HX := Lib.hid hx
  clear hn hb hs hx
  go_enter Try.func83, Try.ntmps83
  go_wp2_with (fail)
  go_loopw [5, 0] (fun i s wr => ∃ k : Nat, k ≤ n ∧ i = .int .i64 k ∧ s = .int .u32 (fold x (bs.take k) : Nat) ∧ wr = w) (fun i _ _ => n - (intOf i).toNat)
  case atStart => exact ⟨0, by omega, rfl, by rw [List.take_zero]; rfl, rfl⟩
  case round =>
    obtain ⟨k, hk, rfl, rfl, rfl⟩ := hrel
    by_cases hlt : k < n
    · have hkb : k < bs.length := by rw [HN.out]; exact hlt
      obtain ⟨b, off, rfl, hbl, hc⟩ := HS.out.2 (by omega)
      have hz := HB.out bs[k] (List.getElem_mem hkb)
      have c1 := hc k (.int .u8 bs[k]) (by simp [hkb])
      have hfk : fold x (bs.take k) < 2 ^ 32 := fold_lt HX.out fun y hy => HB.out y (List.mem_of_mem_take hy)
      have hnx := fold_take_succ x bs k hkb
      generalize hf : fold x (bs.take k) = f at *
      have hz2 : bs[k] = ((bs[k].toNat : Nat) : Int) := by omega
      rw [hz2] at c1
      generalize hzn : bs[k].toNat = z at *
      have HC := Lib.hid (feed1_at wr f z hfk (by omega))
      have HNX := Lib.hid hnx; have HF := Lib.hid hf
      have i0 : (0 : Int) ≤ (k : Int) := by omega
      have i1 : (k : Int) < (n : Int) := by omega
      clear hc hnx hf hz hz2 hzn hfk hkb
      go_wp2_with (fail)
      refine HC.out.mono ?_; rintro e w' ⟨rfl, rfl⟩
      go_wp2_with (fail)
      go_roundw
      case rel => exact ⟨k + 1, by omega, by go_num, by rw [HNX.out], trivial⟩
      case measure => simp [intOf]; omega
    · have hk2 : k = n := by omega
      have hlt' : ¬ (k : Int) < (n : Int) := by omega
      have HK := Lib.hid hk2
      clear hk2
      go_wp2_with (fail)
      go_ret
      exact ⟨ret_int (by rw [HK.out, ← HN.out, List.take_length]), rfl⟩

set_option maxHeartbeats 2000000 in
theorem sum_at (w : World) (A : Option Addr) (n c : Nat) (bs : List Int) (hn : bs.length = n) (hm : n ≤ 1000000) (hb : Byt bs) (hs : Sl w w.heap.size 1 A n (bs.map (.int .u8))) :
    Calls Try.prog 53 #[.slice A n c] w fun e w' => e = .returned (.int .u32 (sum bs : Nat)) ∧ w' = w := by
  have hf := fold_lt (bs := bs) (x := 4294967295) (by decide) hb
  have HC := Lib.hid (feed_at w 4294967295 (by decide) A n c bs hn hm hb hs)
  have HS := Lib.hid (show sum bs = 4294967295 - fold 4294967295 bs from rfl)
  generalize fold 4294967295 bs = f at *
  clear hn hb hs
  go_enter Try.func53, Try.ntmps53
  go_wp2_with (fail)
  refine HC.out.mono ?_; rintro e w' ⟨rfl, rfl⟩
  have hf' : (f : Int) ≤ 4294967295 := by omega
  go_wp2_with (fail)
  go_ret
  refine ⟨ret_int ?_, rfl⟩
  rw [HS.out]
  omega
end Go.Proofs.Ytdlbcbdfcjfagaa.refCrc
