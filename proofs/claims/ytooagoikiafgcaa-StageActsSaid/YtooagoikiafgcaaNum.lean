/-
  PROVED HERE: a number put behind bytes; a reader of bytes: what it reads, and what is left.
  CONDITIONS: each contract names its own.
-/
import Derived.Test.YtooagoikiafgcaaNumMath
import Derived.Test.YtooagoikiafgcaaBytes
namespace Go.Proofs.Ytooagoikiafgcaa.num
set_option linter.unusedVariables false
open Go.RowKit Go.Proofs.Ytooagoikiafgcaa.base Go.Proofs.Ytooagoikiafgcaa.obj Go.Proofs.Ytooagoikiafgcaa.mem Go.Proofs.Ytooagoikiafgcaa.crc Go.Proofs.Ytooagoikiafgcaa.bytes

theorem held_at (w : World) (k : Nat) (h1 : 1 ≤ k) (h2 : k ≤ 6) : Calls Try.prog 140 #[.int .i64 k] w fun e w' => e = .returned (.int .i64 k) ∧ w' = w := by
  go_enter Try.func140, Try.ntmps140
  go_wp2_with (fail)
  go_ret
  exact ⟨rfl, rfl⟩

set_option maxRecDepth 100000 in
set_option maxHeartbeats 2000000 in
theorem put_at (w : World) (A : Option Addr) (n c : Nat) (xs : List Value) (hs : Sl w w.heap.size 1 A n xs) (h1 : ∀ v ∈ xs, v.oneCell' = true) (hn : n ≤ 100000) (m k : Nat) (hk1 : 1 ≤ k) (hk2 : k ≤ 6) (hm : m < 256 ^ k) :
    Calls Try.prog 132 #[.slice A n c, .int .i64 m, .int .i64 k] w fun e w' => ∃ v, e = .returned v ∧ w'.ownsRow w.heap.size 5 1 v (n + k) (xs ++ (be k m).map (.int .u8)) ∧ Below w.heap.size w w' := by
  have HC := Lib.hid (clone_own w A n c xs hs h1 (by omega))
  clear hs h1
  go_enter Try.func132, Try.ntmps132
  go_wp2_with (fail)
  refine (held_at _ k hk1 hk2).mono ?_; rintro e w' ⟨rfl, rfl⟩
  have hle : (m : Int) ≤ wrap64 (wrap64 (2 ^ (8 * k)) - 1) := by
    have h : (m : Int) ≤ 256 ^ k - 1 := by
      have e : ((256 ^ k : Nat) : Int) = (256 : Int) ^ k := by simp
      rw [← e]; omega
    have h6 : k = 1 ∨ k = 2 ∨ k = 3 ∨ k = 4 ∨ k = 5 ∨ k = 6 := by omega
    rcases h6 with rfl | rfl | rfl | rfl | rfl | rfl <;> exact Int.le_trans h (by decide +kernel)
  go_wp2_with (fail)
  refine HC.out.mono ?_; rintro e w1 ⟨v, rfl, ho, hb⟩
  have HI := Lib.hid (And.intro ho hb)
  clear ho hb HC hle
  have HM := Lib.hid hm
  clear hm
  go_wp2_with (fail)
  go_loopw [8, 7] (fun i v wr => ∃ r : Nat, r ≤ k ∧ i = .int .i64 r ∧ wr.ownsRow w'.heap.size 5 1 v (n + (k - r)) (xs ++ ((be k m).take (k - r)).map (.int .u8)) ∧ Below w'.heap.size w' wr) (fun i _ _ => (intOf i).toNat)
  case atStart => exact ⟨k, Nat.le_refl _, rfl, by rw [Nat.sub_self, List.take_zero, List.map_nil, List.append_nil]; exact HI.out.1, HI.out.2⟩
  case round =>
    obtain ⟨r, hr, rfl, ho, hb⟩ := hrel
    have HO := Lib.hid ho; have HB := Lib.hid hb
    clear ho hb
    by_cases h0 : 0 < r
    · have h0' : (0 : Int) < (r : Int) := by omega
      obtain ⟨d, hd⟩ : ∃ d, d = digit k m (k - r) := ⟨_, rfl⟩
      have heb : (m : Int) / 2 ^ (8 * (r - 1)) % 256 = d := by
        rw [hd]
        unfold digit
        rw [show k - 1 - (k - r) = r - 1 by omega, show (256 : Nat) = 2 ^ 8 from rfl, ← Nat.pow_mul]
        simp
      have hmore : (be k m).take (k - (r - 1)) = (be k m).take (k - r) ++ [d] := by
        rw [show k - (r - 1) = (k - r) + 1 by omega, List.take_succ_eq_append_getElem (by rw [be_length]; omega), hd]
        congr 2
        simp [be]
      have HD := Lib.hid hmore
      clear hd hmore
      obtain ⟨A2, c2, e2, hc2, _⟩ := own_form HO.out
      have HSZ := Lib.hid HB.out.size
      subst e2
      go_wp2_with (at_builtin; refine app_new slB rfl (.tmp 25) (.tmp 32) rfl HO.out rfl rfl rfl (by simp [Value.oneCell']) (by omega) (by unfold maxLen; omega) HSZ.out ?_; intro v2 w2 hown2 hg2; have HB2 := Lib.hid (below_own HB.out HO.out hg2 HSZ.out); have HO2 := Lib.hid hown2; clear hg2 hown2)
      go_roundw
      case rel =>
        refine ⟨r - 1, by omega, by congr 1; omega, ?_, HB2.out⟩
        have h := HO2.out
        rw [show n + (k - r) + 1 = n + (k - (r - 1)) by omega] at h
        rw [HD.out, List.map_append, ← List.append_assoc]
        exact h
      case measure => simp [intOf]; omega
    · have hr0 : r = 0 := by omega
      have h0' : ¬ (0 : Int) < (r : Int) := by omega
      have HR := Lib.hid hr0
      clear hr0
      go_wp2_with (fail)
      go_ret
      refine ⟨_, rfl, ?_, HB.out⟩
      have h := HO.out
      rw [HR.out, Nat.sub_zero, List.take_of_length_le (by rw [be_length]; exact Nat.le_refl _)] at h
      exact h
end Go.Proofs.Ytooagoikiafgcaa.num
