/-
  PROVED HERE: plain Lean of texts of instructions: a text is one instruction's, or none's.
  CONDITIONS: each lemma names its own.
-/
import Derived.Test.YtfglnaimpjkcfaaDoorTextDig
namespace Go.Proofs.YtfglnaimpjkcfaaDoor.text
set_option linter.unusedVariables false
open Go.Proofs.YtfglnaimpjkcfaaDoor.op

/-- t is the text of the right instruction o, a -/
def IsT (t : ByteArray) (o a : Int) : Prop := right o a = true ∧ txtB o a = t
theorem nm_inj : ∀ j, j < 19 → ∀ k, k < 19 → nmB j = nmB k → j = k := by decide +kernel
theorem nm_no : ∀ k, k < 19 → (nmB k).data.toList.all (fun b => !(b == 32)) = true := by decide +kernel
theorem nm_no' (k : Nat) (h : k < 19) (j : Nat) : (nmB k).data.toList[j]? ≠ some 32 := by
  intro e
  have h1 := List.all_eq_true.1 (nm_no k h) 32 (List.mem_of_getElem? e)
  simp at h1
theorem data_len (t : ByteArray) : t.data.toList.length = t.size := Array.length_toList
theorem txt_list (k n : Nat) (h : hasArg (k : Int) = true) : (txtB (k : Int) (n : Int)).data.toList = (nmB k).data.toList ++ 32 :: (decB n).data.toList := by
  unfold txtB
  rw [if_pos h, Int.toNat_natCast, Int.toNat_natCast]
  simp
theorem bext {s t : ByteArray} (h : s.data.toList = t.data.toList) : s = t := ByteArray.ext (Array.toList_inj.1 h)
/-- the cut of an instruction's text -/
theorem cut_txt {t a b : ByteArray} {f : Bool} {k n : Nat} (hc : CutIs t a b f) (hk : k < 19) (h : hasArg (k : Int) = true) (ht : txtB (k : Int) (n : Int) = t) : a = nmB k ∧ b = decB n ∧ f = true := by
  have hl := txt_list k n h
  rw [ht] at hl
  rcases hc with ⟨_, _, _, h3⟩ | ⟨j, h1, h2, h3, h4, h5, h6⟩
  · exact absurd (by rw [hl]; simp) (h3 (nmB k).data.toList.length)
  · have hj : j = (nmB k).data.toList.length := by
      rcases Nat.lt_trichotomy j (nmB k).data.toList.length with h7 | h7 | h7
      · rw [hl, List.getElem?_append_left h7] at h3
        exact absurd h3 (nm_no' k hk j)
      · exact h7
      · exact absurd (by rw [hl]; simp) (h4 (nmB k).data.toList.length h7)
    refine ⟨?_, ?_, h1⟩
    · rw [h5]
      refine bext ?_
      rw [Go.Lib.extract_data, hl, List.drop_zero, Nat.sub_zero, hj]
      simp
    · rw [h6]
      refine bext ?_
      rw [Go.Lib.extract_data, hl, hj]
      rw [← List.drop_drop]
      simp
      rw [← data_len, hl]
      simp
      rw [show (nmB k).size + ((decB n).size + 1) - ((nmB k).size + 1) = (decB n).size by omega]
      exact List.take_of_length_le (by rw [data_len]; exact Nat.le_refl _)
theorem cut_nm {t a b : ByteArray} {f : Bool} {k : Nat} (hc : CutIs t a b f) (hk : k < 19) (ht : nmB k = t) : a = nmB k ∧ b = ⟨#[]⟩ ∧ f = false := by
  rcases hc with ⟨h1, h2, h3, _⟩ | ⟨j, h1, h2, h3, h4, h5, h6⟩
  · exact ⟨by rw [h2, ht], h3, h1⟩
  · rw [← ht] at h3
    exact absurd h3 (nm_no' k hk j)
/-- of what was cut at a space the text is made again -/
theorem cut_back {t a b : ByteArray} (hc : CutIs t a b true) : t = a ++ ⟨#[32]⟩ ++ b := by
  rcases hc with ⟨h1, _⟩ | ⟨j, h1, h2, h3, h4, h5, h6⟩
  · cases h1
  · refine bext ?_
    have hd : ((a ++ ⟨#[32]⟩ ++ b : ByteArray)).data.toList = a.data.toList ++ 32 :: b.data.toList := by simp
    rw [hd, h5, h6, Go.Lib.extract_data, Go.Lib.extract_data, List.drop_zero, Nat.sub_zero]
    have hj : j < t.data.toList.length := by rw [data_len]; exact h2
    have h7 : t.data.toList[j] = 32 := by
      have := h3
      rw [List.getElem?_eq_getElem hj] at this
      exact Option.some.inj this
    have h8 : (t.data.toList.drop (j + 1)).take (t.size - (j + 1)) = t.data.toList.drop (j + 1) := List.take_of_length_le (by rw [List.length_drop, data_len]; exact Nat.le_refl _)
    rw [h8, ← h7, ← List.drop_eq_getElem_cons hj, List.take_append_drop]
theorem cut_ex (t : ByteArray) : ∃ a b f, CutIs t a b f := by
  rcases idx_cases t with ⟨_, h2⟩ | ⟨k, _, h2, h3, h4⟩
  · exact ⟨_, _, _, .inl ⟨rfl, rfl, rfl, h2⟩⟩
  · exact ⟨_, _, _, .inr ⟨k, rfl, h2, h3, h4, rfl, rfl⟩⟩
/-- what is known of the cut of an instruction's text -/
theorem isT_cut {t a b : ByteArray} {f : Bool} {o x : Int} (h : IsT t o x) (hc : CutIs t a b f) : ∃ k n : Nat, o = k ∧ x = n ∧ k < 19 ∧ n < 256 ∧ a = nmB k ∧ f = hasArg (k : Int) ∧ (f = true → b = decB n) ∧ (f = false → n = 0) := by
  obtain ⟨hr, ht⟩ := h
  obtain ⟨o0, o1, a0, a1⟩ := right_yes hr
  obtain ⟨k, rfl⟩ := Int.eq_ofNat_of_zero_le o0
  obtain ⟨n, rfl⟩ := Int.eq_ofNat_of_zero_le a0
  refine ⟨k, n, rfl, rfl, by omega, by omega, ?_⟩
  cases hh : hasArg (k : Int) with
  | true =>
    obtain ⟨h1, h2, h3⟩ := cut_txt hc (by omega) hh ht
    exact ⟨h1, h3, fun _ => h2, fun h => absurd (h3.symm.trans h) (by decide)⟩
  | false =>
    have ht2 : nmB k = t := by
      rw [← ht]
      unfold txtB
      rw [hh, if_neg (by simp), Int.toNat_natCast]
    obtain ⟨h1, h2, h3⟩ := cut_nm hc (by omega) ht2
    refine ⟨h1, h3, fun h => absurd (h3.symm.trans h) (by decide), fun _ => ?_⟩
    unfold right at hr
    rw [hh] at hr
    simp at hr
    omega
theorem dec_inj {n m : Nat} (hn : n < 256) (hm : m < 256) (h : decB n = decB m) : n = m := by
  have h1 := (dec_num n (by omega)).2
  have h2 := (dec_num m (by omega)).2
  rw [h, h2] at h1
  have := Option.some.inj h1
  omega
theorem isT_one {t : ByteArray} {o a o' a' : Int} (h : IsT t o a) (h' : IsT t o' a') : o = o' ∧ a = a' := by
  obtain ⟨x, y, f, hc⟩ := cut_ex t
  obtain ⟨k, n, rfl, rfl, hk, hn, h1, h2, h3, h4⟩ := isT_cut h hc
  obtain ⟨k', n', rfl, rfl, hk', hn', h1', h2', h3', h4'⟩ := isT_cut h' hc
  have e1 : k = k' := nm_inj k hk k' hk' (h1.symm.trans h1')
  subst e1
  refine ⟨rfl, ?_⟩
  cases f with
  | true => rw [dec_inj hn hn' ((h3 rfl).symm.trans (h3' rfl))]
  | false => rw [h4 rfl, h4' rfl]
end Go.Proofs.YtfglnaimpjkcfaaDoor.text
