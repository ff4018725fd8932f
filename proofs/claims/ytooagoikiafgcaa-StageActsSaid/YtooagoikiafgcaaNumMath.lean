/-
  PROVED HERE: plain laws of numbers as bytes, the greatest first. No program.
  CONDITIONS: each lemma names its own.
-/
import Derived.Test.YtooagoikiafgcaaCrcMath
namespace Go.Proofs.Ytooagoikiafgcaa.num
set_option linter.unusedVariables false
open Go.Proofs.Ytooagoikiafgcaa.crc

/-- byte j of w bytes of a number -/
def digit (w : Nat) (n : Nat) (j : Nat) : Int := ((n / 256 ^ (w - 1 - j) % 256 : Nat) : Int)
/-- a number's bytes -/
def be (w n : Nat) : List Int := (List.range w).map (digit w n)
theorem be_length (w n : Nat) : (be w n).length = w := by simp [be]
theorem be_byt (w n : Nat) : Byt (be w n) := by
  intro z hz
  obtain ⟨j, _, rfl⟩ := List.mem_map.1 hz
  unfold digit
  omega
/-- bytes' number -/
def val (bs : List Int) : Nat := bs.foldl (fun n z => 256 * n + z.toNat) 0
theorem val_snoc (bs : List Int) (z : Int) : val (bs ++ [z]) = 256 * val bs + z.toNat := by simp [val]
theorem be_succ (w n : Nat) : be (w + 1) n = be w (n / 256) ++ [((n % 256 : Nat) : Int)] := by
  unfold be
  rw [List.range_succ, List.map_append]
  congr 1
  · apply List.map_congr_left
    intro j hj
    have hj' : j < w := List.mem_range.1 hj
    unfold digit
    rw [Nat.div_div_eq_div_mul, show w + 1 - 1 - j = (w - 1 - j) + 1 from by omega, Nat.pow_succ, Nat.mul_comm]
  · simp [digit]
theorem val_be (w : Nat) : ∀ n, n < 256 ^ w → val (be w n) = n := by
  induction w with
  | zero => intro n h; simp at h; subst h; rfl
  | succ w ih =>
    intro n h
    rw [be_succ, val_snoc, ih (n / 256) (by rw [Nat.pow_succ] at h; omega)]
    simp
    omega
theorem snoc_ind {p : List Int → Prop} (h0 : p []) (h1 : ∀ bs z, p bs → p (bs ++ [z])) (bs : List Int) : p bs := by
  rw [← List.reverse_reverse bs]
  induction bs.reverse with
  | nil => exact h0
  | cons z l ih => rw [List.reverse_cons]; exact h1 _ _ ih
theorem val_lt (bs : List Int) (h : Byt bs) : val bs < 256 ^ bs.length := by
  revert h
  induction bs using snoc_ind with
  | h0 => intro h; simp [val]
  | h1 bs z ih =>
    intro h
    rw [val_snoc, List.length_append, List.length_singleton, Nat.pow_succ]
    have h1 := ih fun y hy => h y (by simp [hy])
    have h2 := h z (by simp)
    omega
theorem be_val (bs : List Int) (h : Byt bs) : be bs.length (val bs) = bs := by
  revert h
  induction bs using snoc_ind with
  | h0 => intro h; rfl
  | h1 bs z ih =>
    intro h
    have h2 := h z (by simp)
    rw [List.length_append, List.length_singleton, be_succ, val_snoc, show (256 * val bs + z.toNat) / 256 = val bs from by omega, ih fun y hy => h y (by simp [hy])]
    congr 2
    omega
theorem val_take_succ (bs : List Int) (k : Nat) (hk : k < bs.length) : val (bs.take (k + 1)) = 256 * val (bs.take k) + bs[k].toNat := by
  rw [List.take_succ_eq_append_getElem hk, val_snoc]

/-- a number held within what w bytes hold -/
def heldN (w : Nat) (n : Int) : Nat := if n < 0 then 0 else if (256 ^ w : Nat) ≤ n.toNat then 256 ^ w - 1 else n.toNat
theorem heldN_in (w : Nat) (n : Nat) (h : n < 256 ^ w) : heldN w n = n := by
  unfold heldN
  rw [if_neg (by omega), if_neg (by rw [Int.toNat_natCast]; exact Nat.not_le.2 h), Int.toNat_natCast]

end Go.Proofs.Ytooagoikiafgcaa.num
