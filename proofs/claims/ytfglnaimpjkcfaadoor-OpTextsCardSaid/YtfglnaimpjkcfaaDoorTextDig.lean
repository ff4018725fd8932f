/-
  PROVED HERE: op.digits: the number of a text.
  CONDITIONS: each lemma names its own.
-/
import Derived.Test.YtfglnaimpjkcfaaDoorTextProg
namespace Go.Proofs.YtfglnaimpjkcfaaDoor.text
set_option linter.unusedVariables false
open Go.RowKit Go.Shelf Go.Proofs.YtfglnaimpjkcfaaDoor.base Go.Proofs.YtfglnaimpjkcfaaDoor.obj Go.Proofs.YtfglnaimpjkcfaaDoor.mem Go.Proofs.YtfglnaimpjkcfaaDoor.sep Go.Proofs.YtfglnaimpjkcfaaDoor.plan Go.Proofs.YtfglnaimpjkcfaaDoor.op

def digL : List UInt8 := [48, 49, 50, 51, 52, 53, 54, 55, 56, 57]
/-- a text of digits alone -/
def allDig (t : ByteArray) : Bool := t.data.toList.all (digL.contains ·)
/-- is it a number of a text: not empty, short, without a zero ahead, all digits -/
def isNum (t : ByteArray) : Bool := decide (t.size ≠ 0) && decide (t.size ≤ 3) && !(decide (t.size > 1) && (t.data.toList.head? == some 48)) && allDig t
theorem bnil (t : ByteArray) : t.toList = [] ↔ t = ⟨#[]⟩ := by
  rw [Lib.toList_data]
  constructor
  · intro h
    exact ByteArray.ext (Array.toList_inj.1 h)
  · rintro rfl
    rfl
theorem dw_nil (p : UInt8 → Bool) (l : List UInt8) : l.dropWhile p = [] ↔ ∀ x ∈ l, p x = true := by
  induction l with
  | nil => simp
  | cons a l ih =>
    rw [List.dropWhile_cons]
    cases h : p a with
    | true => simp [h, ih]
    | false => simp [h]
theorem mem_takeW (p : UInt8 → Bool) (l : List UInt8) : ∀ x ∈ l.takeWhile p, p x = true := by
  induction l with
  | nil => simp
  | cons a l ih =>
    rw [List.takeWhile_cons]
    cases h : p a with
    | true =>
      intro x hx
      rcases List.mem_cons.1 hx with rfl | hx
      · exact h
      · exact ih x hx
    | false => simp
theorem trimS_nil (l cs : List UInt8) : Lib.trimS l cs = [] ↔ l.all (cs.contains ·) = true := by
  unfold Lib.trimS Lib.trimLeftS Lib.trimRightS
  rw [dw_nil, List.all_eq_true]
  constructor
  · intro h x hx
    have h2 : x ∈ l.reverse := by simpa using hx
    rw [← List.takeWhile_append_dropWhile (p := (cs.contains ·)) (l := l.reverse)] at h2
    rcases List.mem_append.1 h2 with h3 | h3
    · exact mem_takeW _ _ x h3
    · exact h x (by simpa using h3)
  · intro h x hx
    have h3 : x ∈ l.reverse := (List.dropWhile_sublist _).subset (by simpa using hx)
    exact h x (by simpa using h3)
theorem trim_nil (t : ByteArray) : (⟨(Lib.trimS t.data.toList digL).toArray⟩ : ByteArray) = ⟨#[]⟩ ↔ allDig t = true := by
  unfold allDig
  rw [← trimS_nil]
  constructor
  · intro h
    have h2 := congrArg (fun x : ByteArray => x.data.toList) h
    simpa using h2
  · intro h
    rw [h]
theorem dig_of {b : UInt8} (h : digL.contains b = true) : ∃ d, d < 10 ∧ b = UInt8.ofNat (48 + d) := by
  simp only [digL, List.contains_cons, List.contains_nil, Bool.or_false, Bool.or_eq_true, beq_iff_eq] at h
  rcases h with h | h | h | h | h | h | h | h | h | h
  · exact ⟨0, by omega, h⟩
  · exact ⟨1, by omega, h⟩
  · exact ⟨2, by omega, h⟩
  · exact ⟨3, by omega, h⟩
  · exact ⟨4, by omega, h⟩
  · exact ⟨5, by omega, h⟩
  · exact ⟨6, by omega, h⟩
  · exact ⟨7, by omega, h⟩
  · exact ⟨8, by omega, h⟩
  · exact ⟨9, by omega, h⟩
theorem at1 : ∀ a, a < 10 → Lib.atoi [UInt8.ofNat (48 + a)] = some ((a : Nat) : Int) ∧ isNum ⟨#[UInt8.ofNat (48 + a)]⟩ = true := by decide +kernel
theorem at2 : ∀ a, a < 10 → ∀ b, b < 10 → a ≠ 0 → Lib.atoi [UInt8.ofNat (48 + a), UInt8.ofNat (48 + b)] = some ((10 * a + b : Nat) : Int) ∧ isNum ⟨#[UInt8.ofNat (48 + a), UInt8.ofNat (48 + b)]⟩ = true := by decide +kernel
theorem at3 : ∀ a, a < 10 → ∀ b, b < 10 → ∀ c, c < 10 → a ≠ 0 → Lib.atoi [UInt8.ofNat (48 + a), UInt8.ofNat (48 + b), UInt8.ofNat (48 + c)] = some ((100 * a + 10 * b + c : Nat) : Int) ∧ isNum ⟨#[UInt8.ofNat (48 + a), UInt8.ofNat (48 + b), UInt8.ofNat (48 + c)]⟩ = true := by decide +kernel
theorem dec1 (a : Nat) (ha : a < 10) : (⟨#[UInt8.ofNat (48 + a)]⟩ : ByteArray) = decB a := by
  unfold decB
  rw [if_pos ha, Nat.mod_eq_of_lt ha, dg_eq a ha]
theorem dec2 (a b : Nat) (ha : a < 10) (hb : b < 10) (h0 : a ≠ 0) : (⟨#[UInt8.ofNat (48 + a), UInt8.ofNat (48 + b)]⟩ : ByteArray) = decB (10 * a + b) := by
  unfold decB
  rw [if_neg (by omega), if_pos (by omega), show (10 * a + b) / 10 % 10 = a by omega, show (10 * a + b) % 10 = b by omega, dg_eq a ha, dg_eq b hb]
  apply ByteArray.ext
  simp
theorem dec3 (a b c : Nat) (ha : a < 10) (hb : b < 10) (hc : c < 10) (h0 : a ≠ 0) : (⟨#[UInt8.ofNat (48 + a), UInt8.ofNat (48 + b), UInt8.ofNat (48 + c)]⟩ : ByteArray) = decB (100 * a + 10 * b + c) := by
  unfold decB
  rw [if_neg (by omega), if_neg (by omega), show (100 * a + 10 * b + c) / 100 = a by omega, show (100 * a + 10 * b + c) / 10 % 10 = b by omega, show (100 * a + 10 * b + c) % 10 = c by omega, dg_eq a ha, dg_eq b hb, dg_eq c hc]
  apply ByteArray.ext
  simp
/-- a number of a text is a decimal, and the other way round -/
theorem num_dec (t : ByteArray) (h : isNum t = true) : ∃ n : Nat, n < 1000 ∧ Lib.atoi t.data.toList = some (n : Int) ∧ t = decB n := by
  obtain ⟨⟨l⟩⟩ := t
  simp only [isNum, allDig, Bool.and_eq_true, decide_eq_true_eq, Bool.not_eq_true', List.all_eq_true] at h
  obtain ⟨⟨⟨h0, h1⟩, h2⟩, h3⟩ := h
  have hs : (ByteArray.mk ⟨l⟩).size = l.length := rfl
  rw [hs] at h0 h1 h2
  match l, h0, h1, h2, h3 with
  | [], h0, _, _, _ => exact absurd rfl h0
  | [a], _, _, _, h3 =>
    obtain ⟨d, hd, rfl⟩ := dig_of (h3 a (by simp))
    exact ⟨d, by omega, (at1 d hd).1, dec1 d hd⟩
  | [a, b], _, _, h2, h3 =>
    obtain ⟨d, hd, rfl⟩ := dig_of (h3 a (by simp))
    obtain ⟨e, he, rfl⟩ := dig_of (h3 b (by simp))
    have hz : d ≠ 0 := by rintro rfl; simp at h2
    exact ⟨10 * d + e, by omega, (at2 d hd e he hz).1, dec2 d e hd he hz⟩
  | [a, b, c], _, _, h2, h3 =>
    obtain ⟨d, hd, rfl⟩ := dig_of (h3 a (by simp))
    obtain ⟨e, he, rfl⟩ := dig_of (h3 b (by simp))
    obtain ⟨f, hf, rfl⟩ := dig_of (h3 c (by simp))
    have hz : d ≠ 0 := by rintro rfl; simp at h2
    exact ⟨100 * d + 10 * e + f, by omega, (at3 d hd e he f hf hz).1, dec3 d e f hd he hf hz⟩
  | a :: b :: c :: d :: r, _, h1, _, _ => simp at h1
theorem dec_num (n : Nat) (hn : n < 1000) : isNum (decB n) = true ∧ Lib.atoi (decB n).data.toList = some (n : Int) := by
  by_cases h1 : n < 10
  · rw [← dec1 n h1]
    exact ⟨(at1 n h1).2, (at1 n h1).1⟩
  · by_cases h2 : n < 100
    · obtain ⟨a, b, ha, hb, h0, rfl⟩ : ∃ a b, a < 10 ∧ b < 10 ∧ a ≠ 0 ∧ n = 10 * a + b := ⟨n / 10, n % 10, by omega, by omega, by omega, by omega⟩
      rw [← dec2 a b ha hb h0]
      exact ⟨(at2 a ha b hb h0).2, (at2 a ha b hb h0).1⟩
    · obtain ⟨a, b, c, ha, hb, hc, h0, rfl⟩ : ∃ a b c, a < 10 ∧ b < 10 ∧ c < 10 ∧ a ≠ 0 ∧ n = 100 * a + 10 * b + c := ⟨n / 100, n / 10 % 10, n % 10, by omega, by omega, by omega, by omega, by omega⟩
      rw [← dec3 a b c ha hb hc h0]
      exact ⟨(at3 a ha b hb c hc h0).2, (at3 a ha b hb c hc h0).1⟩
theorem below_bytes (w : World) (ty : TypeId) (t : ByteArray) : Below w.heap.size w (Lib.bytesWorld w ty t) := by
  exact Go.Joins.below_bytesWorld _ w ty t (Nat.le_refl _)
/-- what op.digits answers -/
def DigIs (t : ByteArray) (r : Int) : Prop := (isNum t = false ∧ r = -1) ∨ (isNum t = true ∧ Lib.atoi t.data.toList = some r)
set_option maxRecDepth 100000 in
set_option maxHeartbeats 8000000 in
theorem digits_at (t : ByteArray) (ht : t.size ≤ 1000) (w : World) : Calls Tryd.prog 19 #[.string t] w fun e w' => ∃ r, e = .returned (.int .i64 r) ∧ DigIs t r ∧ Below w.heap.size w w' := by
  have HT := Lib.hid (show ∀ w, Calls Tryd.prog 24 #[.string t, .string ⟨#[48, 49, 50, 51, 52, 53, 54, 55, 56, 57]⟩] w fun e w' => e = .returned (.string ⟨(Lib.trimS t.data.toList digL).toArray⟩) ∧ Below w.heap.size w w' from fun w => Any.strings_Trim_laid Tryd.lays160 (by kernel_rfl) t ⟨#[48, 49, 50, 51, 52, 53, 54, 55, 56, 57]⟩ w (by omega) (by decide) (ascii_of_all (by decide)))
  by_cases c0 : t.size = 0
  · obtain rfl : t = ⟨#[]⟩ := ByteArray.ext (Array.eq_empty_of_size_eq_zero c0)
    have HN := Lib.hid (show DigIs ⟨#[]⟩ (-1) from .inl ⟨rfl, rfl⟩)
    clear HT c0
    go_enter Tryd.func19, Tryd.ntmps19
    go_wp2_with (fail)
    go_ret
    exact ⟨_, rfl, HN.out, Below.refl _ _⟩
  have e0 : t.toList.isEmpty = false := by
    rw [Bool.eq_false_iff]
    intro h
    rw [List.isEmpty_iff, bnil] at h
    subst h
    exact c0 rfl
  have e1 : ¬ t.toList = [] := by
    intro h
    rw [h] at e0
    cases e0
  by_cases c1 : (t.size : Int) > 3
  · have HN := Lib.hid (show DigIs t (-1) from .inl ⟨by unfold isNum; simp; omega, rfl⟩)
    clear HT
    go_enter Tryd.func19, Tryd.ntmps19
    go_wp2_with (fail)
    go_ret
    exact ⟨_, rfl, HN.out, Below.refl _ _⟩
  obtain ⟨tr, htr⟩ : ∃ tr, tr = (⟨(Lib.trimS t.data.toList digL).toArray⟩ : ByteArray) := ⟨_, rfl⟩
  rw [← htr] at HT
  have HTR := Lib.hid htr
  clear htr
  have c1' : t.size ≤ 3 := by omega
  by_cases c2 : (t.size : Int) > 1
  · have h0 : 0 < t.size := by omega
    have hh : t.data.toList.head? = some t[0] := by
      rw [List.head?_eq_getElem?, Array.getElem?_toList]
      exact Array.getElem?_eq_getElem _
    by_cases hz : t[0].toNat = 48
    · have HN := Lib.hid (show DigIs t (-1) from .inl ⟨by
        have h48 : t[0] = 48 := UInt8.toNat_inj.1 hz
        unfold isNum
        rw [hh, h48]
        simp
        omega, rfl⟩)
      have z1 : (t[0].toNat : Int) = 48 := by omega
      clear HT hh
      go_enter Tryd.func19, Tryd.ntmps19
      go_wp2_with (fail)
      go_ret
      exact ⟨_, rfl, HN.out, Below.refl _ _⟩
    · have HNUM := Lib.hid (show allDig t = true → isNum t = true from fun h => by
        have h48 : ¬ t[0] = 48 := fun e => hz (by rw [e]; rfl)
        unfold isNum
        rw [hh, h]
        simp [h48, c0, c1'])
      have z1 : ¬ (t[0].toNat : Int) = 48 := by omega
      clear hh hz
      go_enter Tryd.func19, Tryd.ntmps19
      go_wp2_with (fail)
      refine (HT.out _).mono ?_
      rintro e w2 ⟨rfl, hb2⟩
      have HB2 := Lib.hid hb2
      clear hb2
      by_cases hd : allDig t = true
      · have hn : isNum t = true := HNUM.out hd
        obtain ⟨n, n1, hat, -⟩ := num_dec t hn
        have HA := Lib.hid (fun w2 => Tryd.strconv_Atoi t (n : Int) (by omega) hat w2)
        have HN := Lib.hid (show DigIs t (n : Int) from .inr ⟨hn, hat⟩)
        obtain rfl : tr = ⟨#[]⟩ := by rw [HTR.out]; exact (trim_nil t).2 hd
        clear hd hn hat e0 e1
        go_wp2_with (fail)
        refine (HA.out _).mono ?_
        rintro e w3 ⟨rfl, tt, rfl⟩
        go_wp2_with (fail)
        go_ret
        exact ⟨_, rfl, HN.out, HB2.out.trans ((below_bytes _ _ _).mono HB2.out.size)⟩
      · have HN := Lib.hid (show DigIs t (-1) from .inl ⟨by unfold isNum; simp [hd], rfl⟩)
        have f1 : ¬ tr.toList = [] := by
          rw [bnil, HTR.out]
          exact fun h => hd ((trim_nil t).1 h)
        have f0 : tr.toList.isEmpty = false := by rw [Bool.eq_false_iff]; intro h; exact f1 (List.isEmpty_iff.1 h)
        clear hd
        go_wp2_with (fail)
        go_ret
        exact ⟨_, rfl, HN.out, HB2.out⟩
  · have HNUM := Lib.hid (show allDig t = true → isNum t = true from fun h => by
      unfold isNum
      rw [h]
      have h3 : ¬ t.size > 1 := by omega
      simp [h3, c0, c1'])
    go_enter Tryd.func19, Tryd.ntmps19
    go_wp2_with (fail)
    refine (HT.out _).mono ?_
    rintro e w2 ⟨rfl, hb2⟩
    have HB2 := Lib.hid hb2
    clear hb2
    by_cases hd : allDig t = true
    · have hn : isNum t = true := HNUM.out hd
      obtain ⟨n, n1, hat, -⟩ := num_dec t hn
      have HA := Lib.hid (fun w2 => Tryd.strconv_Atoi t (n : Int) (by omega) hat w2)
      have HN := Lib.hid (show DigIs t (n : Int) from .inr ⟨hn, hat⟩)
      obtain rfl : tr = ⟨#[]⟩ := by rw [HTR.out]; exact (trim_nil t).2 hd
      clear hd hn hat e0 e1
      go_wp2_with (fail)
      refine (HA.out _).mono ?_
      rintro e w3 ⟨rfl, tt, rfl⟩
      go_wp2_with (fail)
      go_ret
      exact ⟨_, rfl, HN.out, HB2.out.trans ((below_bytes _ _ _).mono HB2.out.size)⟩
    · have HN := Lib.hid (show DigIs t (-1) from .inl ⟨by unfold isNum; simp [hd], rfl⟩)
      have f1 : ¬ tr.toList = [] := by
        rw [bnil, HTR.out]
        exact fun h => hd ((trim_nil t).1 h)
      have f0 : tr.toList.isEmpty = false := by rw [Bool.eq_false_iff]; intro h; exact f1 (List.isEmpty_iff.1 h)
      clear hd
      go_wp2_with (fail)
      go_ret
      exact ⟨_, rfl, HN.out, HB2.out⟩
end Go.Proofs.YtfglnaimpjkcfaaDoor.text
