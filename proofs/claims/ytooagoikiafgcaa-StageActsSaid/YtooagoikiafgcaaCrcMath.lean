/-
  PROVED HERE: plain laws of a sum of 32 bits: a register bit by bit, and by a table of eight steps. No program.
  CONDITIONS: each lemma names its own.
-/
import Derived.Test.YtooagoikiafgcaaBase
namespace Go.Proofs.Ytooagoikiafgcaa.crc
set_option linter.unusedVariables false

abbrev poly : Nat := 3988292384
/-- a register that goes one bit down -/
def dn (x : Nat) : Nat := (x / 2) ^^^ (if x % 2 = 1 then poly else 0)
/-- k steps -/
def it : Nat → Nat → Nat
  | 0, x => x
  | k + 1, x => dn (it k x)

theorem tb_dn (x i : Nat) : (dn x).testBit i = ((x.testBit (i + 1)) ^^ (x.testBit 0 && poly.testBit i)) := by
  unfold dn
  rw [Nat.testBit_xor, Nat.testBit_div_two]
  congr 1
  rw [Nat.testBit_zero]
  by_cases h : x % 2 = 1
  · rw [if_pos h]; simp [h]
  · rw [if_neg h]; simp [h]

theorem dn_xor (x y : Nat) : dn (x ^^^ y) = dn x ^^^ dn y := by
  apply Nat.eq_of_testBit_eq
  intro i
  rw [Nat.testBit_xor, tb_dn, tb_dn, tb_dn, Nat.testBit_xor, Nat.testBit_xor]
  cases x.testBit (i + 1) <;> cases y.testBit (i + 1) <;> cases x.testBit 0 <;> cases y.testBit 0 <;> cases poly.testBit i <;> rfl

theorem it_xor (k x y : Nat) : it k (x ^^^ y) = it k x ^^^ it k y := by
  induction k with
  | zero => rfl
  | succ k ih => rw [it, ih, dn_xor]; rfl

theorem it_dn (k x : Nat) : it k (dn x) = dn (it k x) := by
  induction k with
  | zero => rfl
  | succ k ih => rw [it, ih]; rfl

theorem it_shift (k m : Nat) : it k (m * 2 ^ k) = m := by
  induction k with
  | zero => simp [it]
  | succ k ih =>
    rw [it, ← it_dn]
    have : dn (m * 2 ^ (k + 1)) = m * 2 ^ k := by
      unfold dn
      rw [Nat.pow_succ, ← Nat.mul_assoc, Nat.mul_mod_left, if_neg (by decide), Nat.mul_div_cancel _ (by decide)]
      exact Nat.xor_zero _
    rw [this, ih]

theorem split8 (x : Nat) : x = (x / 256 * 2 ^ 8) ^^^ (x % 256) := by
  apply Nat.eq_of_testBit_eq
  intro i
  rw [Nat.testBit_xor, Nat.testBit_mul_two_pow, show 256 = 2 ^ 8 from rfl, Nat.testBit_div_two_pow, Nat.testBit_mod_two_pow]
  by_cases h : 8 ≤ i
  · have h2 : ¬ i < 8 := by omega
    simp [h, h2, Nat.sub_add_cancel h]
  · have h2 : i < 8 := by omega
    simp [h, h2]

/-- a byte into the register, bit by bit; and by the table -/
def feed (x c : Nat) : Nat := it 8 (x ^^^ c)
theorem feed_table (x c : Nat) (hc : c < 256) : feed x c = (x / 256) ^^^ it 8 ((x % 256) ^^^ c) := by
  unfold feed
  conv => lhs; rw [split8 x]
  rw [Nat.xor_assoc, it_xor, it_shift]

theorem dn_lt {x : Nat} (h : x < 2 ^ 32) : dn x < 2 ^ 32 := by
  unfold dn
  refine Nat.xor_lt_two_pow (by omega) ?_
  split <;> decide
theorem it_lt {x : Nat} (k : Nat) (h : x < 2 ^ 32) : it k x < 2 ^ 32 := by
  induction k with
  | zero => exact h
  | succ k ih => exact dn_lt ih
theorem feed_lt {x c : Nat} (h : x < 2 ^ 32) (hc : c < 256) : feed x c < 2 ^ 32 := it_lt 8 (Nat.xor_lt_two_pow h (by omega))

/-- a register behind bytes -/
def fold (x : Nat) (bs : List Int) : Nat := bs.foldl (fun x z => feed x z.toNat) x
def Byt (bs : List Int) : Prop := ∀ z ∈ bs, 0 ≤ z ∧ z ≤ 255
theorem fold_lt {bs : List Int} : ∀ {x : Nat}, x < 2 ^ 32 → Byt bs → fold x bs < 2 ^ 32 := by
  induction bs with
  | nil => intro x h _; exact h
  | cons z bs ih =>
    intro x h hb
    have hz := hb z (by simp)
    exact ih (feed_lt h (by omega)) fun y hy => hb y (by simp [hy])
theorem fold_take_succ (x : Nat) (bs : List Int) (k : Nat) (hk : k < bs.length) : fold x (bs.take (k + 1)) = feed (fold x (bs.take k)) bs[k].toNat := by
  unfold fold
  rw [List.take_succ_eq_append_getElem hk, List.foldl_append]
  rfl
/-- the bytes' sum -/
def sum (bs : List Int) : Nat := 4294967295 - fold 4294967295 bs
theorem sum_lt {bs : List Int} : sum bs < 2 ^ 32 := by unfold sum; omega

end Go.Proofs.Ytooagoikiafgcaa.crc
