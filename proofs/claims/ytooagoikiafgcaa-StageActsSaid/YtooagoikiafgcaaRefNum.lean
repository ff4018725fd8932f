/-
  PROVED HERE: the document's bytes of a number.
  CONDITIONS: one to six bytes.
-/
import Derived.Test.YtooagoikiafgcaaNumMath
import Derived.Test.YtooagoikiafgcaaEqual
namespace Go.Proofs.Ytooagoikiafgcaa.refNum
set_option linter.unusedVariables false
open Go.RowKit Go.Proofs.Ytooagoikiafgcaa.base Go.Proofs.Ytooagoikiafgcaa.obj Go.Proofs.Ytooagoikiafgcaa.mem Go.Proofs.Ytooagoikiafgcaa.crc Go.Proofs.Ytooagoikiafgcaa.num Go.Proofs.Ytooagoikiafgcaa.bytes

/-- behind j digits from the last one -/
def putL (k m j : Nat) : List Int := List.replicate (k - j) 0 ++ (be k m).drop (k - j)
theorem putL_zero (k m : Nat) : putL k m 0 = List.replicate k 0 := by
  unfold putL
  rw [Nat.sub_zero, List.drop_of_length_le (by rw [be_length]; exact Nat.le_refl _), List.append_nil]
theorem putL_all (k m : Nat) : putL k m k = be k m := by simp [putL]
theorem putL_length (k m j : Nat) (h : j ≤ k) : (putL k m j).length = k := by simp [putL, be_length]
theorem putL_set (k m j : Nat) (h : j < k) : (putL k m j).set (k - 1 - j) (((m / 256 ^ j % 256 : Nat)) : Int) = putL k m (j + 1) := by
  unfold putL
  have e1 : k - j = (k - (j + 1)) + 1 := by omega
  have e2 : (List.replicate (k - j) (0 : Int)).set (k - 1 - j) (((m / 256 ^ j % 256 : Nat)) : Int) = List.replicate (k - (j + 1)) 0 ++ [(((m / 256 ^ j % 256 : Nat)) : Int)] := by
    rw [e1, List.replicate_succ', show k - 1 - j = k - (j + 1) by omega, List.set_append_right _ _ (by simp)]
    simp
  rw [List.set_append_left _ _ (by simp; omega), e2, List.append_assoc]
  congr 1
  have hl : k - (j + 1) < (be k m).length := by rw [be_length]; omega
  rw [List.drop_eq_getElem_cons hl, ← e1]
  simp only [be, List.getElem_map, List.getElem_range, digit, List.singleton_append]
  rw [show k - 1 - (k - (j + 1)) = j by omega]
/-- all of it at its greatest -/
theorem be_most (k : Nat) : be k (256 ^ k - 1) = List.replicate k 255 := by
  apply List.ext_getElem
  · simp [be]
  · intro i h1 h2
    have hi : i < k := by simpa [be] using h1
    simp only [be, List.getElem_map, List.getElem_range, List.getElem_replicate, digit]
    have h3 : 0 < 256 ^ (k - 1 - i) := Nat.pow_pos (by decide)
    have h4 : 256 ^ k = 256 ^ (k - 1 - i) * 256 ^ (i + 1) := by rw [← Nat.pow_add, show k - 1 - i + (i + 1) = k by omega]
    have h5 : (256 ^ k - 1) / 256 ^ (k - 1 - i) = 256 ^ (i + 1) - 1 := by
      rw [h4, Nat.mul_comm]
      generalize 256 ^ (k - 1 - i) = a at *
      generalize hb : 256 ^ (i + 1) = b at *
      have hb0 : 0 < b := by rw [← hb]; exact Nat.pow_pos (by decide)
      obtain ⟨b', rfl⟩ : ∃ b', b = b' + 1 := ⟨b - 1, by omega⟩
      rw [Nat.add_mul, Nat.one_mul, Nat.add_sub_assoc h3, Nat.mul_comm, Nat.mul_add_div h3, Nat.div_eq_of_lt (by omega)]
      simp
    rw [h5, Nat.pow_succ]
    have h6 : 0 < 256 ^ i := Nat.pow_pos (by decide)
    omega

theorem mapset (l : List Int) (i : Nat) (z : Int) : (l.map (Value.int .u8)).set i (.int .u8 z) = (l.set i z).map (.int .u8) := by rw [List.map_set]

end Go.Proofs.Ytooagoikiafgcaa.refNum
