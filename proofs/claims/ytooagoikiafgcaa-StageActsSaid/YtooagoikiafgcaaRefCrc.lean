/-
  PROVED HERE: the document's sum of 32 bits: a byte into the register, bytes, the sum.
  CONDITIONS: the bytes are the ones that lie in the slice.
-/
import Derived.Test.YtooagoikiafgcaaCrc
namespace Go.Proofs.Ytooagoikiafgcaa.refCrc
set_option linter.unusedVariables false
open Go.RowKit Go.Proofs.Ytooagoikiafgcaa.base Go.Proofs.Ytooagoikiafgcaa.obj Go.Proofs.Ytooagoikiafgcaa.mem Go.Proofs.Ytooagoikiafgcaa.crc

theorem odd_eq (z : Nat) (hz : z < 2 ^ 32) (h : z % 2 = 1) : Go.bits .xor .u32 ((z : Int) / 2) 3988292384 = ((dn z : Nat) : Int) := by
  rw [show (z : Int) / 2 = ((z / 2 : Nat) : Int) by omega, show (3988292384 : Int) = ((3988292384 : Nat) : Int) from rfl, xor32 _ _ (by omega) (by decide)]
  unfold dn
  rw [if_pos h]
theorem even_eq (z : Nat) (h : ¬ z % 2 = 1) : ((dn z : Nat) : Int) = (z : Int) / 2 := by
  unfold dn
  rw [if_neg h, Nat.xor_zero]
  omega

end Go.Proofs.Ytooagoikiafgcaa.refCrc
