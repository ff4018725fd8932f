/-
  PROVED HERE: plain laws of sets of blocks: what is missing, runs, sets that are built block by block. No program is walked.
  CONDITIONS: each lemma names its own.
-/
import Derived.Test.YtooagoikiafgcaaBits
namespace Go.Proofs.Ytooagoikiafgcaa.bits
set_option linter.unusedVariables false
open Go.RowKit

theorem elems_succ (s : Int) (i : Nat) : elems s (i + 1) = elems s i ++ [((i : Int), bitb s i)] := by simp [elems, List.range_succ]

/-! ### runs -/
def Cond (s : Int) (M : Nat) (p : Int × Int) (e : Int) (first : Prop) : Prop :=
  1 ≤ p.2 ∧ e ≤ p.1 ∧ (¬ first → e < p.1) ∧ p.1 + p.2 ≤ M ∧ (∀ j : Nat, e ≤ j → (j : Int) < p.1 → bitb s j = false) ∧ (∀ j : Nat, p.1 ≤ j → (j : Int) < p.1 + p.2 → bitb s j = true)
def endR : List (Int × Int) → Int
  | [] => 0
  | p :: _ => p.1 + p.2
def sumR : List (Int × Int) → Int
  | [] => 0
  | p :: r => p.2 + sumR r
def GoodR (s : Int) (M : Nat) : List (Int × Int) → Prop
  | [] => True
  | p :: r => Cond s M p (endR r) (r = []) ∧ GoodR s M r
theorem goodR_suffix {s : Int} {M : Nat} : ∀ (x y : List (Int × Int)), GoodR s M (x ++ y) → GoodR s M y
  | [], y, h => h
  | p :: x, y, h => goodR_suffix x y h.2

def RunInv (s : Int) (M i : Nat) : Prop :=
  GoodR s M (runOut (elems s i)).reverse ∧ sumR (runOut (elems s i)).reverse + ((missP (elems s i)).length : Int) = i ∧
  ((∃ d a m, runSt (elems s i) = (d, some (a, m)) ∧ a + m = i) ∨
    (∃ d, runSt (elems s i) = (d, none) ∧ endR d.reverse ≤ i ∧ (d ≠ [] → endR d.reverse < i) ∧ ∀ j : Nat, endR d.reverse ≤ j → j < i → bitb s j = false))
theorem runInv (s : Int) (M : Nat) : ∀ i, i ≤ M → RunInv s M i
  | 0, _ => ⟨trivial, rfl, .inr ⟨[], rfl, by simp [endR], fun h => absurd rfl h, fun j _ h => absurd h (by omega)⟩⟩
  | i + 1, hi => by
    obtain ⟨h1, h2, h3⟩ := runInv s M i (by omega)
    unfold RunInv
    unfold runOut at h1 h2 ⊢
    rw [elems_succ, runSt_snoc]
    cases hb : bitb s i
    · rw [missP_hit]
      rcases h3 with ⟨d, a, m, hst, ham⟩ | ⟨d, hst, he, hd, hoff⟩
      · rw [hst] at h1 h2 ⊢
        simp only [runStep, Option.toList_some, Option.toList_none, List.append_nil] at h1 h2 ⊢
        refine ⟨h1, by simp at h2 ⊢; omega, .inr ⟨_, rfl, ?_, ?_, ?_⟩⟩
        · simp [endR]; omega
        · intro _; simp [endR]; omega
        · intro j hj hj2
          simp only [List.reverse_append, List.reverse_cons, List.reverse_nil, List.nil_append, List.cons_append, endR] at hj
          obtain rfl : j = i := by omega
          exact hb
      · rw [hst] at h1 h2 ⊢
        simp only [runStep, Option.toList_none, List.append_nil] at h1 h2 ⊢
        refine ⟨h1, by simp at h2 ⊢; omega, .inr ⟨_, rfl, by omega, fun h => by have := hd h; omega, ?_⟩⟩
        intro j hj hj2
        by_cases e : j = i
        · subst e; exact hb
        · exact hoff j hj (by omega)
    · rw [missP_miss]
      rcases h3 with ⟨d, a, m, hst, ham⟩ | ⟨d, hst, he, hd, hoff⟩
      · rw [hst] at h1 h2 ⊢
        simp only [runStep, Option.toList_some, List.reverse_append, List.reverse_cons, List.reverse_nil, List.nil_append, List.cons_append, GoodR, sumR] at h1 h2 ⊢
        obtain ⟨⟨c1, c2, c3, c4, c5, c6⟩, h1⟩ := h1
        refine ⟨⟨⟨by first | omega | (simp only at c1 ⊢; omega), c2, c3, by first | omega | (simp only; omega) | (simp; omega), c5, ?_⟩, h1⟩, by first | omega | (simp only at h2 ⊢; omega) | (simp at h2 ⊢; omega), .inl ⟨d, a, m + 1, rfl, by omega⟩⟩
        intro j hj hj2
        simp only at hj hj2
        by_cases e : j = i
        · subst e; exact hb
        · exact c6 j hj (by first | omega | (simp only; omega) | (simp; omega))
      · rw [hst] at h1 h2 ⊢
        simp only [runStep, Option.toList_some, Option.toList_none, List.append_nil, List.reverse_append, List.reverse_cons, List.reverse_nil, List.nil_append, List.cons_append, GoodR, sumR] at h1 h2 ⊢
        have hoff2 : ∀ j : Nat, endR d.reverse ≤ j → (j : Int) < ((i : Int), (1 : Int)).1 → bitb s j = false := fun j hj hj2 => hoff j hj (by simp only at hj2; omega)
        refine ⟨⟨⟨by simp, he, ?_, by first | omega | (simp only; omega) | (simp; omega), hoff2, ?_⟩, h1⟩, by first | omega | (simp only at h2 ⊢; omega) | (simp at h2 ⊢; omega), .inl ⟨d, i, 1, rfl, by omega⟩⟩
        · intro hne
          exact hd (by simpa using hne)
        · intro j hj hj2
          simp only at hj hj2
          obtain rfl : j = i := by omega
          exact hb

/-- what the runs of a set are -/
theorem runs_good (s n : Int) : GoodR s (heldN n) (runsL s n).reverse ∧ sumR (runsL s n).reverse + ((missL s n).length : Int) = heldN n := by
  obtain ⟨h1, h2, _⟩ := runInv s (heldN n) (heldN n) (Nat.le_refl _)
  exact ⟨h1, h2⟩
theorem take_rev {l : List (Int × Int)} {q : Nat} (h : q < l.length) : (l.take (q + 1)).reverse = l[q] :: (l.take q).reverse := by
  rw [List.take_succ_eq_append_getElem h, List.reverse_append]; rfl
theorem good_at {s : Int} {M : Nat} {l : List (Int × Int)} (h : GoodR s M l.reverse) (q : Nat) (hq : q < l.length) : Cond s M l[q] (endR (l.take q).reverse) (q = 0) := by
  have e : l.reverse = (l.drop (q + 1)).reverse ++ (l.take (q + 1)).reverse := by rw [← List.reverse_append, List.take_append_drop]
  rw [e] at h
  have := goodR_suffix _ _ h
  rw [take_rev hq] at this
  obtain ⟨⟨c1, c2, c3, c4, c5, c6⟩, _⟩ := this
  refine ⟨c1, c2, fun hne => c3 ?_, c4, c5, c6⟩
  intro he
  have h0 : (l.take q).length = 0 := by rw [← List.length_reverse, he]; rfl
  have h1 : (l.take q).length = q := by rw [List.length_take]; omega
  omega

/-! ### numbers of 16 bits -/
theorem bitb_nat (x j : Nat) : bitb (x : Int) j = x.testBit j := by
  rw [Nat.testBit_eq_decide_div_mod_eq]
  unfold bitb
  have : (x : Int) / 2 ^ j % 2 = ((x / 2 ^ j % 2 : Nat) : Int) := by simp
  rw [this]
  simp only [decide_eq_decide]
  omega
theorem bitb_ext {x y : Int} (hx : 0 ≤ x ∧ x < 65536) (hy : 0 ≤ y ∧ y < 65536) (h : ∀ j, j < 16 → bitb x j = bitb y j) : x = y := by
  obtain ⟨a, rfl⟩ := Int.eq_ofNat_of_zero_le hx.1
  obtain ⟨b, rfl⟩ := Int.eq_ofNat_of_zero_le hy.1
  congr 1
  apply Nat.eq_of_testBit_eq
  intro j
  by_cases hj : j < 16
  · have := h j hj
    rwa [bitb_nat, bitb_nat] at this
  · have hp : 2 ^ 16 ≤ 2 ^ j := Nat.pow_le_pow_right (by omega) (by omega)
    rw [Nat.testBit_lt_two_pow (by omega), Nat.testBit_lt_two_pow (by omega)]
theorem withB_u16 {s : Int} {k : Nat} (hk : k < 16) (h : 0 ≤ s ∧ s < 65536) : 0 ≤ withB s k ∧ withB s k < 65536 := by
  unfold withB bitb
  rcases (by omega : k = 0 ∨ k = 1 ∨ k = 2 ∨ k = 3 ∨ k = 4 ∨ k = 5 ∨ k = 6 ∨ k = 7 ∨ k = 8 ∨ k = 9 ∨ k = 10 ∨ k = 11 ∨ k = 12 ∨ k = 13 ∨ k = 14 ∨ k = 15) with rfl | rfl | rfl | rfl | rfl | rfl | rfl | rfl | rfl | rfl | rfl | rfl | rfl | rfl | rfl | rfl <;>
  · simp only [Int.reducePow, decide_eq_true_eq]
    split <;> omega
theorem bitb_zero (j : Nat) : bitb 0 j = false := by simp [bitb]
theorem bitb_all (k j : Nat) : bitb ((2 : Int) ^ k - 1) j = decide (j < k) := by
  have h1 : 1 ≤ 2 ^ k := Nat.one_le_two_pow
  have : (2 : Int) ^ k - 1 = ((2 ^ k - 1 : Nat) : Int) := by
    rw [Int.ofNat_sub h1]; simp
  rw [this, bitb_nat, Nat.testBit_two_pow_sub_one]

/-! ### sets that are built block by block -/
def fillB (s : Int) (l : List Nat) : Int := l.foldl withB s
theorem fillB_snoc (s : Int) (l : List Nat) (k : Nat) : fillB s (l ++ [k]) = withB (fillB s l) k := by simp [fillB]
theorem bitb_fillB (s : Int) (l : List Nat) (j : Nat) : bitb (fillB s l) j = (bitb s j || decide (j ∈ l)) := by
  induction l generalizing s with
  | nil => simp [fillB]
  | cons k l ih =>
    show bitb (fillB (withB s k) l) j = _
    rw [ih, bitb_withB]
    simp only [List.mem_cons, Bool.decide_or, Bool.or_assoc]
    congr 2
theorem fillB_u16 {s : Int} (h : 0 ≤ s ∧ s < 65536) (l : List Nat) (hl : ∀ k ∈ l, k < 16) : 0 ≤ fillB s l ∧ fillB s l < 65536 := by
  induction l generalizing s with
  | nil => exact h
  | cons k l ih => exact ih (withB_u16 (hl k (by simp)) h) (fun x hx => hl x (by simp [hx]))
theorem fillB_i64 {s : Int} (h : InI64 s) (l : List Nat) (hl : ∀ k ∈ l, k < 16) : InI64 (fillB s l) := by
  induction l generalizing s with
  | nil => exact h
  | cons k l ih => exact ih (withB_i64 s k (hl k (by simp)) h) (fun x hx => hl x (by simp [hx]))

/-! ### what is missing -/
theorem miss_mem (s n x : Int) : x ∈ missL s n ↔ ∃ k : Nat, x = k ∧ k < heldN n ∧ bitb s k = false := by
  simp only [missL, missP, elems, List.mem_map, List.mem_filter, List.mem_range]
  constructor
  · rintro ⟨p, ⟨⟨k, hk, rfl⟩, hb⟩, rfl⟩
    exact ⟨k, rfl, hk, by simpa using hb⟩
  · rintro ⟨k, rfl, hk, hb⟩
    exact ⟨((k : Int), bitb s k), ⟨⟨k, hk, rfl⟩, by simp [hb]⟩, rfl⟩
theorem miss_len (s n : Int) : (missL s n).length ≤ 16 := by
  have h1 := missP_len (elems s (heldN n))
  rw [elems_len] at h1
  have := heldN_le n
  unfold missL
  omega
theorem miss_nil {s n : Int} (h : ∀ j, j < heldN n → bitb s j = true) : missL s n = [] := by
  rcases hm : missL s n with _ | ⟨x, l⟩
  · rfl
  · have : x ∈ missL s n := by rw [hm]; simp
    obtain ⟨k, _, hk, hb⟩ := (miss_mem s n x).1 this
    rw [h k hk] at hb
    cases hb
/-- all are there: one run -/
theorem runSt_on (s : Int) : ∀ i, (∀ j, j < i → bitb s j = true) → runSt (elems s i) = ([], if i = 0 then none else some (0, (i : Int)))
  | 0, _ => rfl
  | i + 1, h => by
    rw [elems_succ, runSt_snoc, runSt_on s i (fun j hj => h j (by omega)), h i (by omega)]
    by_cases e : i = 0
    · subst e; rfl
    · simp [runStep, e]
theorem runs_on {s n : Int} (h : ∀ j, j < heldN n → bitb s j = true) (h0 : 0 < heldN n) : runsL s n = [(0, (heldN n : Int))] := by
  unfold runsL runOut
  rw [runSt_on s _ h]
  have : heldN n ≠ 0 := by omega
  simp [this]

end Go.Proofs.Ytooagoikiafgcaa.bits
