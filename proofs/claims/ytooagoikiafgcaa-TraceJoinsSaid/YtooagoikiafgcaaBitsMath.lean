/-
  PROVED HERE: plain laws of bits of integers: whether a bit is on, a number with a bit, lists of blocks, runs. No program.
  CONDITIONS: each lemma names its own.
-/
import Derived.Test.YtooagoikiafgcaaBase
namespace Go.Proofs.Ytooagoikiafgcaa.bits
set_option linter.unusedVariables false
open Go.RowKit

/-- whether block i is in a set -/
def bitb (s : Int) (i : Nat) : Bool := decide (s / 2 ^ i % 2 = 1)
def InI64 (s : Int) : Prop := -9223372036854775808 ≤ s ∧ s ≤ 9223372036854775807

theorem and_one (x : Int) : Go.bits .and .i64 x 1 = x % 2 := by
  show IntKind.i64.wrap ((BitVec.ofInt 64 x &&& BitVec.ofInt 64 1).toNat : Int) = _
  rw [BitVec.toNat_and, show (BitVec.ofInt 64 1).toNat = 1 from rfl, Nat.and_one_is_mod, BitVec.toNat_ofInt, IntKind.wrap_i64]
  omega
theorem bit_ne (s : Int) (k : Nat) : (Go.bits .and .i64 (s / 2 ^ k) 1 != 0) = bitb s k := by
  rw [and_one, bitb]
  generalize s / 2 ^ k = x
  rw [Bool.eq_iff_iff]
  simp
  omega

theorem or_pow (n k : Nat) : n ||| 2 ^ k = if n / 2 ^ k % 2 = 1 then n else n + 2 ^ k := by
  have hp : 0 < 2 ^ k := Nat.two_pow_pos k
  have hd : n = 2 ^ k * (n / 2 ^ k) + n % 2 ^ k := (Nat.div_add_mod n (2 ^ k)).symm
  have hm : n % 2 ^ k < 2 ^ k := Nat.mod_lt _ hp
  generalize n / 2 ^ k = q at *
  generalize n % 2 ^ k = r at *
  subst hd
  have e1 : 2 ^ k * q + r = 2 ^ k * q ||| r := Nat.two_pow_add_eq_or_of_lt hm q
  split
  · rename_i h
    have e2 : 2 ^ k * q = 2 ^ (k + 1) * (q / 2) ||| 2 ^ k := by
      have := Nat.two_pow_add_eq_or_of_lt (i := k + 1) (b := 2 ^ k) (by rw [Nat.pow_succ]; omega) (q / 2)
      rw [← this, Nat.pow_succ]
      have hq : q = 2 * (q / 2) + 1 := by omega
      conv => lhs; rw [hq]
      rw [Nat.mul_add, Nat.mul_one, Nat.mul_assoc]
    rw [e1, e2, Nat.or_assoc, Nat.or_assoc, Nat.or_comm r, ← Nat.or_assoc (2 ^ k) (2 ^ k), Nat.or_self, Nat.or_assoc]
  · rename_i h
    have e2 : 2 ^ k * q = 2 ^ (k + 1) * (q / 2) := by
      rw [Nat.pow_succ]
      have hq : q = 2 * (q / 2) := by omega
      conv => lhs; rw [hq]
      rw [Nat.mul_assoc]
    have e3 : 2 ^ k + r = 2 ^ k ||| r := by
      have := Nat.two_pow_add_eq_or_of_lt hm 1
      simpa using this
    have e4 := Nat.two_pow_add_eq_or_of_lt (i := k + 1) (b := 2 ^ k + r) (by rw [Nat.pow_succ]; omega) (q / 2)
    rw [e1, e2, Nat.or_assoc, Nat.or_comm r, ← e3, ← e4, ← e2, ← e1]
    omega

/-- a set with a block -/
def withB (s : Int) (k : Nat) : Int := if bitb s k then s else s + 2 ^ k
theorem or_bit (s : Int) (k : Nat) (hk : k < 16) (h : InI64 s) : Go.bits .or .i64 s (2 ^ k) = withB s k := by
  show IntKind.i64.wrap ((BitVec.ofInt 64 s ||| BitVec.ofInt 64 (2 ^ k)).toNat : Int) = _
  obtain ⟨h1, h2⟩ := h
  have hpow : (BitVec.ofInt 64 (2 ^ k)).toNat = 2 ^ k := by
    rw [BitVec.toNat_ofInt]
    have : (2 : Int) ^ k = ((2 ^ k : Nat) : Int) := by simp
    rw [this]
    have hlt : 2 ^ k < 65536 := Nat.pow_lt_pow_right (m := k) (n := 16) (a := 2) (by omega) hk
    generalize 2 ^ k = m at hlt ⊢
    rw [show ((m : Int) % ((2 ^ 64 : Nat) : Int)) = (m : Int) from Int.emod_eq_of_lt (by omega) (by omega)]
    omega
  rw [BitVec.toNat_or, hpow, or_pow, BitVec.toNat_ofInt, IntKind.wrap_i64]
  unfold withB bitb
  rcases (by omega : k = 0 ∨ k = 1 ∨ k = 2 ∨ k = 3 ∨ k = 4 ∨ k = 5 ∨ k = 6 ∨ k = 7 ∨ k = 8 ∨ k = 9 ∨ k = 10 ∨ k = 11 ∨ k = 12 ∨ k = 13 ∨ k = 14 ∨ k = 15) with rfl | rfl | rfl | rfl | rfl | rfl | rfl | rfl | rfl | rfl | rfl | rfl | rfl | rfl | rfl | rfl <;>
  · simp only [Nat.reducePow, Int.reducePow, decide_eq_true_eq]
    split <;> split <;> omega
theorem withB_i64 (s : Int) (k : Nat) (hk : k < 16) (h : InI64 s) : InI64 (withB s k) := by
  obtain ⟨h1, h2⟩ := h
  unfold withB bitb InI64
  rcases (by omega : k = 0 ∨ k = 1 ∨ k = 2 ∨ k = 3 ∨ k = 4 ∨ k = 5 ∨ k = 6 ∨ k = 7 ∨ k = 8 ∨ k = 9 ∨ k = 10 ∨ k = 11 ∨ k = 12 ∨ k = 13 ∨ k = 14 ∨ k = 15) with rfl | rfl | rfl | rfl | rfl | rfl | rfl | rfl | rfl | rfl | rfl | rfl | rfl | rfl | rfl | rfl <;>
  · simp only [Int.reducePow, decide_eq_true_eq]
    split <;> omega
theorem bitb_withB (s : Int) (j k : Nat) : bitb (withB s k) j = (bitb s j || j == k) := by
  unfold withB
  cases h : bitb s k
  · simp only [Bool.false_eq_true, if_false]
    simp only [bitb, decide_eq_false_iff_not] at h
    unfold bitb
    rcases Nat.lt_trichotomy j k with hjk | rfl | hjk
    · have e : (2 : Int) ^ k = 2 ^ (k - j) * 2 ^ j := by rw [← Int.pow_add]; congr 1; omega
      have e2 : (2 : Int) ^ (k - j) = 2 * 2 ^ (k - j - 1) := by
        have : k - j = 1 + (k - j - 1) := by omega
        rw [this, Int.pow_add]; simp
      have hp : (2 : Int) ^ j ≠ 0 := by have := Int.pow_pos (n := 2) (m := j) (by omega); omega
      rw [e, Int.add_mul_ediv_right _ _ hp, e2]
      have : (j == k) = false := by simp; omega
      rw [this, Bool.or_false, Bool.eq_iff_iff]
      simp only [decide_eq_true_eq]
      generalize (2 : Int) ^ (k - j - 1) = y
      omega
    · have hp : (2 : Int) ^ j ≠ 0 := by have := Int.pow_pos (n := 2) (m := j) (by omega); omega
      rw [show s + 2 ^ j = s + 1 * 2 ^ j from by rw [Int.one_mul], Int.add_mul_ediv_right _ _ hp]
      simp
      omega
    · have hp : (0 : Int) < 2 ^ k := Int.pow_pos (by omega)
      have e : (2 : Int) ^ j = 2 ^ k * 2 * 2 ^ (j - k - 1) := by
        have h1 : j = k + 1 + (j - k - 1) := by omega
        conv => lhs; rw [h1]
        rw [Int.pow_add, Int.pow_add]; simp
      have : (j == k) = false := by simp; omega
      rw [this, Bool.or_false, e, Int.ediv_ediv_of_nonneg (by omega) |>.symm, ← Int.ediv_ediv_of_nonneg (x := s) (by omega)]
      have e3 : (s + 2 ^ k) / (2 ^ k * 2) = s / (2 ^ k * 2) := by
        rw [← Int.ediv_ediv_of_nonneg (by omega), ← Int.ediv_ediv_of_nonneg (x := s) (by omega)]
        rw [show s + 2 ^ k = s + 1 * 2 ^ k from by rw [Int.one_mul], Int.add_mul_ediv_right _ _ (by omega)]
        omega
      rw [e3]
  · simp only [if_true]
    by_cases e : j = k
    · subst e; simp [h]
    · simp [e]

end Go.Proofs.Ytooagoikiafgcaa.bits
