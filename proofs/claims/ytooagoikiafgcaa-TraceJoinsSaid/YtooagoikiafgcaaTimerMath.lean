/-
  PROVED HERE: the pile as numbers: what one exchange, up or down, leaves of a heap. No program.
  CONDITIONS: each lemma names its own.
-/
import Derived.Test.YtooagoikiafgcaaTimer
namespace Go.Proofs.Ytooagoikiafgcaa.timer
set_option linter.unusedVariables false

def par (c : Nat) : Nat := (c - 1) / 2
structure Weak (r : Nat → Nat → Bool) : Prop where
  asym : ∀ a b, r a b = true → r b a = false
  neg : ∀ a b c, r a b = false → r b c = false → r a c = false
theorem Weak.irr {r : Nat → Nat → Bool} (h : Weak r) (a : Nat) : r a a = false := by
  cases e : r a a with
  | false => rfl
  | true => exact (h.asym a a e).symm.trans e |>.symm ▸ rfl
def sw (a : Nat → Nat) (i k : Nat) : Nat → Nat := fun x => if x = i then a k else if x = k then a i else a x
theorem sw_1 (a : Nat → Nat) (i k : Nat) : sw a i k i = a k := by simp [sw]
theorem sw_2 (a : Nat → Nat) (i k : Nat) : sw a i k k = a i := by unfold sw; split <;> simp_all
theorem sw_3 (a : Nat → Nat) {i k x : Nat} (h1 : x ≠ i) (h2 : x ≠ k) : sw a i k x = a x := by simp [sw, h1, h2]
def Heap (r : Nat → Nat → Bool) (a : Nat → Nat) (n : Nat) : Prop := ∀ c, 0 < c → c < n → r (a c) (a (par c)) = false
structure UpI (r : Nat → Nat → Bool) (a : Nat → Nat) (n j : Nat) : Prop where
  ok : ∀ c, 0 < c → c < n → c ≠ j → r (a c) (a (par c)) = false
  gr : 0 < j → ∀ c, 0 < c → c < n → par c = j → r (a c) (a (par j)) = false
structure DnI (r : Nat → Nat → Bool) (a : Nat → Nat) (n i : Nat) (mv : Bool) : Prop where
  ok : ∀ c, 0 < c → c < n → par c ≠ i → (c = i → mv = true) → r (a c) (a (par c)) = false
  gr : 0 < i → ∀ c, 0 < c → c < n → par c = i → r (a c) (a (par i)) = false
theorem par_lt {c : Nat} (h : 0 < c) : par c < c := by unfold par; omega
theorem UpI.step {r : Nat → Nat → Bool} (hr : Weak r) {a : Nat → Nat} {n j : Nat} (h : UpI r a n j) (h0 : 0 < j) (hn : j < n) (hlt : r (a j) (a (par j)) = true) : UpI r (sw a (par j) j) n (par j) := by
  have hp := par_lt h0
  have has := hr.asym _ _ hlt
  constructor
  · intro c c0 cn hc
    by_cases e1 : c = j
    · subst e1
      rw [sw_2, sw_1]
      exact has
    · have hpc := par_lt c0
      rw [sw_3 _ hc e1]
      by_cases e2 : par c = j
      · rw [e2, sw_2]
        exact h.gr h0 c c0 cn e2
      · by_cases e3 : par c = par j
        · rw [e3, sw_1]
          have h1 := h.ok c c0 cn e1
          rw [e3] at h1
          exact hr.neg _ _ _ h1 has
        · rw [sw_3 _ e3 e2]
          exact h.ok c c0 cn e1
  · intro hp0 c c0 cn hc
    have hpp := par_lt hp0
    rw [sw_3 _ (show par (par j) ≠ par j by omega) (show par (par j) ≠ j by omega)]
    have h2 := h.ok (par j) hp0 (by omega) (by omega)
    by_cases e1 : c = j
    · rw [e1, sw_2]
      exact h2
    · rw [sw_3 _ (by have := par_lt c0; omega) e1]
      have h1 := h.ok c c0 cn e1
      rw [hc] at h1
      exact hr.neg _ _ _ h1 h2
theorem UpI.stop {r : Nat → Nat → Bool} {a : Nat → Nat} {n j : Nat} (h : UpI r a n j) (hs : j = 0 ∨ r (a j) (a (par j)) = false) : Heap r a n := by
  intro c c0 cn
  by_cases e : c = j
  · rcases hs with h0 | h1
    · omega
    · rw [e]; exact h1
  · exact h.ok c c0 cn e
theorem DnI.step {r : Nat → Nat → Bool} (hr : Weak r) {a : Nat → Nat} {n i j : Nat} {mv : Bool} (h : DnI r a n i mv) (h0 : 0 < j) (hn : j < n) (hp : par j = i) (hmin : ∀ c, 0 < c → c < n → par c = i → r (a c) (a j) = false) (hlt : r (a j) (a i) = true) : DnI r (sw a i j) n j true := by
  have has := hr.asym _ _ hlt
  have hij := par_lt h0
  rw [hp] at hij
  constructor
  · intro c c0 cn hc _
    by_cases e1 : c = j
    · subst e1
      rw [sw_2, hp, sw_1]
      exact has
    · by_cases e2 : par c = i
      · rw [e2, sw_1, sw_3 _ (by have := par_lt c0; omega) e1]
        exact hmin c c0 cn e2
      · by_cases e3 : c = i
        · subst e3
          rw [sw_1, sw_3 _ e2 hc, ← hp]
          rw [hp]
          exact h.gr c0 j h0 hn hp
        · rw [sw_3 _ e3 e1, sw_3 _ e2 hc]
          exact h.ok c c0 cn e2 (fun e => absurd e e3)
  · intro _ c c0 cn hc
    have := par_lt c0
    rw [hp, sw_1, sw_3 _ (by omega) (by omega)]
    have h1 := h.ok c c0 cn (by omega) (fun e => by omega)
    rw [hc] at h1
    exact h1
theorem DnI.stop {r : Nat → Nat → Bool} {a : Nat → Nat} {n i : Nat} {mv : Bool} (h : DnI r a n i mv) (hs : ∀ c, 0 < c → c < n → par c = i → r (a c) (a i) = false) : (mv = true → Heap r a n) ∧ UpI r a n i := by
  have key : ∀ c, 0 < c → c < n → (c = i → mv = true) → r (a c) (a (par c)) = false := by
    intro c c0 cn hm
    by_cases e : par c = i
    · rw [e]; exact hs c c0 cn e
    · exact h.ok c c0 cn e hm
  exact ⟨fun hm c c0 cn => key c c0 cn fun _ => hm, ⟨fun c c0 cn e => key c c0 cn fun e2 => absurd e2 e, h.gr⟩⟩
/-- a heap of which one's key has turned -/
theorem DnI.of_turned {r : Nat → Nat → Bool} {a : Nat → Nat} {n i : Nat} (h1 : ∀ c, 0 < c → c < n → c ≠ i → par c ≠ i → r (a c) (a (par c)) = false) (h2 : 0 < i → ∀ c, 0 < c → c < n → par c = i → r (a c) (a (par i)) = false) : DnI r a n i false :=
  ⟨fun c c0 cn hc hm => h1 c c0 cn (fun e => absurd (hm e) (by decide)) hc, h2⟩
theorem kids {i c : Nat} (h : 0 < c) (hp : par c = i) : c = 2 * i + 1 ∨ c = 2 * i + 2 := by unfold par at hp; omega
theorem Heap.min {r : Nat → Nat → Bool} (hr : Weak r) {a : Nat → Nat} {n : Nat} (h : Heap r a n) : ∀ c, c < n → r (a c) (a 0) = false := by
  intro c
  induction c using Nat.strongRecOn with
  | ind c ih =>
    intro cn
    by_cases e : c = 0
    · rw [e]; exact hr.irr _
    · have hp := par_lt (Nat.pos_of_ne_zero e)
      exact hr.neg _ _ _ (h c (Nat.pos_of_ne_zero e) cn) (ih (par c) hp (by omega))
end Go.Proofs.Ytooagoikiafgcaa.timer
