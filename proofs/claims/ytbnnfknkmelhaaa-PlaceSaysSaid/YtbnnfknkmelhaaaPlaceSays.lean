/-
  PROVED HERE: for all ints part, slot, i, longeronlaw09.PlaceSays(part, slot, i) returns true and leaves memory as it was.
  CONDITIONS: none.
-/
import Derived.Test.YtbnnfknkmelhaaaPlace
namespace Go.Proofs.Ytbnnfknkmelhaaa.placeSays
set_option linter.unusedVariables false
open Go.Proofs.Ytbnnfknkmelhaaa.base Go.ChangeShapes Go.WideShapes Go.ChangeAt Go.RowKit Go.Proofs.Ytbnnfknkmelhaaa.place

theorem told_in (s t : Int) (w : World) (h : s = t) (h0 : 0 ≤ s) : Calls Try.prog 19 #[.int .i64 s, .bool true, .int .i64 t] w fun e w' => e = .returned (.bool true) ∧ w = w' := by
  subst h
  go_enter Try.func19, Try.ntmps19
  go_wp2
  go_ret
  exact ⟨rfl, rfl⟩

theorem told_out (w : World) : Calls Try.prog 19 #[.int .i64 0, .bool false, .int .i64 (-1)] w fun e w' => e = .returned (.bool true) ∧ w = w' := by
  go_enter Try.func19, Try.ntmps19
  go_wp2
  go_ret
  exact ⟨rfl, rfl⟩

theorem find_in (p n : Int) (w : World) (h0 : 0 ≤ p) (h1 : p < 4) (h2 : 0 ≤ n) (h3 : n < 10) : Calls Try.prog 51 #[.int .i64 p, .int .i64 n] w fun e w' => (∃ r, r = 10 * p + n ∧ e = .returned (.int .i64 r)) ∧ w = w' := by
  have h4 : ¬ p < 0 := by omega
  have h5 : ¬ 3 < p := by omega
  go_enter Try.func51, Try.ntmps51
  go_wp2
  go_ret
  exact ⟨rfl, rfl⟩

theorem find_out (p n : Int) (w : World) (h : p < 0 ∨ 4 ≤ p) : Calls Try.prog 51 #[.int .i64 p, .int .i64 n] w fun e w' => e = .returned (.int .i64 (-1)) ∧ w = w' := by
  rcases h with h | h
  · go_enter Try.func51, Try.ntmps51
    go_wp2
    go_ret
    exact ⟨rfl, rfl⟩
  · have h4 : ¬ p < 0 := by omega
    have h5 : 3 < p := by omega
    go_enter Try.func51, Try.ntmps51
    go_wp2
    go_ret
    exact ⟨rfl, rfl⟩

theorem rcommit_in (p c : Int) (w : World) (h0 : 0 ≤ p) (h1 : p < 4) (h2 : 0 ≤ c) (h3 : c < 2) : Calls Try.prog 20 #[.int .i64 p, .int .i64 c] w fun e w' => (∃ r, r = 10 * p + c ∧ e = .returned (.int .i64 r)) ∧ w = w' := by
  rcases (by omega : c = 0 ∨ c = 1) with rfl | rfl <;>
  · go_enter Try.func20, Try.ntmps20
    go_wp2_with (go_at_call 51; refine (find_in _ _ _ h0 h1 (by omega) (by omega)).mono ?_; rintro e w' ⟨⟨r, hr, rfl⟩, rfl⟩; have HR := Lib.hid hr; clear hr)
    go_ret
    exact ⟨⟨_, HR.out, rfl⟩, rfl⟩

theorem rcommit_out (p c : Int) (w : World) (h : p < 0 ∨ 4 ≤ p ∨ c < 0 ∨ 2 ≤ c) : Calls Try.prog 20 #[.int .i64 p, .int .i64 c] w fun e w' => e = .returned (.int .i64 (-1)) ∧ w = w' := by
  by_cases h0 : c < 0 ∨ 2 ≤ c
  · have e0 : (c == 0) = false := by simp; omega
    have e1 : (c == 1) = false := by simp; omega
    clear h h0
    go_enter Try.func20, Try.ntmps20
    go_wp2
    go_ret
    exact ⟨rfl, rfl⟩
  · have hp : p < 0 ∨ 4 ≤ p := by omega
    rcases (by omega : c = 0 ∨ c = 1) with rfl | rfl <;>
    · clear h h0
      go_enter Try.func20, Try.ntmps20
      go_wp2_with (go_at_call 51; refine (find_out _ _ _ hp).mono ?_; rintro e w' ⟨rfl, rfl⟩)
      go_ret
      exact ⟨rfl, rfl⟩

theorem rstage_in (p s : Int) (w : World) (h0 : 0 ≤ p) (h1 : p < 4) (h2 : 0 ≤ s) (h3 : s < 2) : Calls Try.prog 21 #[.int .i64 p, .int .i64 s] w fun e w' => (∃ r, r = 10 * p + 2 + 4 * s ∧ e = .returned (.int .i64 r)) ∧ w = w' := by
  rcases (by omega : s = 0 ∨ s = 1) with rfl | rfl <;>
  · go_enter Try.func21, Try.ntmps21
    go_wp2_with (go_at_call 51; refine (find_in _ _ _ h0 h1 (by omega) (by omega)).mono ?_; rintro e w' ⟨⟨r, hr, rfl⟩, rfl⟩; have HR := Lib.hid hr; clear hr)
    go_ret
    have hr := HR.out
    exact ⟨⟨_, by omega, rfl⟩, rfl⟩

theorem rstage_out (p s : Int) (w : World) (h : p < 0 ∨ 4 ≤ p ∨ s < 0 ∨ 2 ≤ s) : Calls Try.prog 21 #[.int .i64 p, .int .i64 s] w fun e w' => e = .returned (.int .i64 (-1)) ∧ w = w' := by
  by_cases h0 : s < 0 ∨ 2 ≤ s
  · have e0 : (s == 0) = false := by simp; omega
    have e1 : (s == 1) = false := by simp; omega
    clear h h0
    go_enter Try.func21, Try.ntmps21
    go_wp2
    go_ret
    exact ⟨rfl, rfl⟩
  · have hp : p < 0 ∨ 4 ≤ p := by omega
    rcases (by omega : s = 0 ∨ s = 1) with rfl | rfl <;>
    · clear h h0
      go_enter Try.func21, Try.ntmps21
      go_wp2_with (go_at_call 51; refine (find_out _ _ _ hp).mono ?_; rintro e w' ⟨rfl, rfl⟩)
      go_ret
      exact ⟨rfl, rfl⟩

theorem rdata_in (p s i : Int) (w : World) (h0 : 0 ≤ p) (h1 : p < 4) (h2 : 0 ≤ s) (h3 : s < 2) (h4 : 0 ≤ i) (h5 : i < 3) : Calls Try.prog 22 #[.int .i64 p, .int .i64 s, .int .i64 i] w fun e w' => (∃ r, r = 10 * p + 3 + 4 * s + i ∧ e = .returned (.int .i64 r)) ∧ w = w' := by
  go_enter Try.func22, Try.ntmps22
  go_wp2_with (fail)
  refine (rstage_in _ _ _ h0 h1 h2 h3).mono ?_
  rintro e w' ⟨⟨r, hr, rfl⟩, rfl⟩
  have hr0 : 0 ≤ r := by omega
  have hr1 : r ≤ 100 := by omega
  have h6 : ¬ i < 0 := by omega
  have h7 : ¬ 2 < i := by omega
  have HR := Lib.hid hr
  clear hr
  go_wp2
  go_ret
  have hr := HR.out
  exact ⟨⟨_, by omega, rfl⟩, rfl⟩

theorem rdata_out (p s i : Int) (w : World) (h : p < 0 ∨ 4 ≤ p ∨ s < 0 ∨ 2 ≤ s ∨ i < 0 ∨ 3 ≤ i) : Calls Try.prog 22 #[.int .i64 p, .int .i64 s, .int .i64 i] w fun e w' => e = .returned (.int .i64 (-1)) ∧ w = w' := by
  by_cases h0 : p < 0 ∨ 4 ≤ p ∨ s < 0 ∨ 2 ≤ s
  · go_enter Try.func22, Try.ntmps22
    go_wp2_with (fail)
    refine (rstage_out _ _ _ h0).mono ?_
    rintro e w' ⟨rfl, rfl⟩
    clear h h0
    go_wp2
    go_ret
    exact ⟨rfl, rfl⟩
  · go_enter Try.func22, Try.ntmps22
    go_wp2_with (fail)
    refine (rstage_in _ _ _ (by omega) (by omega) (by omega) (by omega)).mono ?_
    rintro e w' ⟨⟨r, hr, rfl⟩, rfl⟩
    have hr0 : 0 ≤ r := by omega
    have h6 : i < 0 ∨ (¬ i < 0 ∧ 2 < i) := by omega
    clear hr h h0
    rcases h6 with h6 | ⟨h6, h7⟩ <;>
    · go_wp2
      go_ret
      exact ⟨rfl, rfl⟩

theorem rsectors (n : Int) (w : World) : Calls Try.prog 24 #[.int .i64 n] w fun e w' => (∃ r, e = .returned (.int .i64 r) ∧ (n < 1 ∧ r = 10 ∨ 4 < n ∧ r = 40 ∨ 1 ≤ n ∧ n ≤ 4 ∧ r = 10 * n)) ∧ w = w' := by
  by_cases h : n < 1
  · go_enter Try.func24, Try.ntmps24
    go_wp2
    go_ret
    exact ⟨⟨_, rfl, by omega⟩, rfl⟩
  · by_cases h' : 4 < n
    · have h2 : 1 ≤ n := by omega
      go_enter Try.func24, Try.ntmps24
      go_wp2
      go_ret
      exact ⟨⟨_, rfl, by omega⟩, rfl⟩
    · have h2 : 1 ≤ n := by omega
      have h3 : n ≤ 4 := by omega
      go_enter Try.func24, Try.ntmps24
      go_wp2
      go_ret
      exact ⟨⟨_, rfl, by omega⟩, rfl⟩

/-- one place, both ways, and whether they agree -/
def Agree (s : Int) (is : Bool) (t : Int) : Prop := (is = true ∧ s = t ∧ 0 ≤ s) ∨ (is = false ∧ s = 0 ∧ t = -1)
theorem told_any (s t : Int) (is : Bool) (w : World) (h : Agree s is t) : Calls Try.prog 19 #[.int .i64 s, .bool is, .int .i64 t] w fun e w' => e = .returned (.bool true) ∧ w = w' := by
  rcases h with ⟨rfl, h, h0⟩ | ⟨rfl, rfl, rfl⟩
  · exact told_in s t w h h0
  · exact told_out w

theorem commit_any (p c : Int) (w : World) : Calls Try.prog 16 #[.int .i64 p, .int .i64 c] w fun e w' => (∃ s is, e = .returned (.tuple #[.int .i64 s, .bool is]) ∧ (∀ t, (0 ≤ p ∧ p < 4 ∧ 0 ≤ c ∧ c < 2 → t = 10 * p + c) → (¬ (0 ≤ p ∧ p < 4 ∧ 0 ≤ c ∧ c < 2) → t = -1) → Agree s is t)) ∧ Below w.heap.size w w' := by
  by_cases h : 0 ≤ p ∧ p < 4 ∧ 0 ≤ c ∧ c < 2
  · exact (commit_in p c w (by omega) (by omega) (by omega) (by omega)).mono fun e w' ⟨a, b⟩ => ⟨⟨_, _, a, fun t ht _ => .inl ⟨rfl, by have := ht h; omega, by omega⟩⟩, b⟩
  · exact (commit_out p c w (by omega)).mono fun e w' ⟨a, b⟩ => ⟨⟨_, _, a, fun t _ ht => .inr ⟨rfl, rfl, ht h⟩⟩, b⟩
theorem stage_any (p s : Int) (w : World) : Calls Try.prog 17 #[.int .i64 p, .int .i64 s] w fun e w' => (∃ r is, e = .returned (.tuple #[.int .i64 r, .bool is]) ∧ (∀ t, (0 ≤ p ∧ p < 4 ∧ 0 ≤ s ∧ s < 2 → t = 10 * p + 2 + 4 * s) → (¬ (0 ≤ p ∧ p < 4 ∧ 0 ≤ s ∧ s < 2) → t = -1) → Agree r is t)) ∧ Below w.heap.size w w' := by
  by_cases h : 0 ≤ p ∧ p < 4 ∧ 0 ≤ s ∧ s < 2
  · exact (stage_in p s w (by omega) (by omega) (by omega) (by omega)).mono fun e w' ⟨a, b⟩ => ⟨⟨_, _, a, fun t ht _ => .inl ⟨rfl, by have := ht h; omega, by omega⟩⟩, b⟩
  · exact (stage_out p s w (by omega)).mono fun e w' ⟨a, b⟩ => ⟨⟨_, _, a, fun t _ ht => .inr ⟨rfl, rfl, ht h⟩⟩, b⟩
theorem data_any (p s i : Int) (w : World) : Calls Try.prog 18 #[.int .i64 p, .int .i64 s, .int .i64 i] w fun e w' => (∃ r is, e = .returned (.tuple #[.int .i64 r, .bool is]) ∧ (∀ t, (0 ≤ p ∧ p < 4 ∧ 0 ≤ s ∧ s < 2 ∧ 0 ≤ i ∧ i < 3 → t = 10 * p + 3 + 4 * s + i) → (¬ (0 ≤ p ∧ p < 4 ∧ 0 ≤ s ∧ s < 2 ∧ 0 ≤ i ∧ i < 3) → t = -1) → Agree r is t)) ∧ Below w.heap.size w w' := by
  by_cases h : 0 ≤ p ∧ p < 4 ∧ 0 ≤ s ∧ s < 2 ∧ 0 ≤ i ∧ i < 3
  · exact (data_in p s i w (by omega) (by omega) (by omega) (by omega) (by omega) (by omega)).mono fun e w' ⟨a, b⟩ => ⟨⟨_, _, a, fun t ht _ => .inl ⟨rfl, by have := ht h; omega, by omega⟩⟩, b⟩
  · exact (data_out p s i w (by omega)).mono fun e w' ⟨a, b⟩ => ⟨⟨_, _, a, fun t _ ht => .inr ⟨rfl, rfl, ht h⟩⟩, b⟩
theorem rcommit_any (p c : Int) (w : World) : Calls Try.prog 20 #[.int .i64 p, .int .i64 c] w fun e w' => (∃ t, e = .returned (.int .i64 t) ∧ (0 ≤ p ∧ p < 4 ∧ 0 ≤ c ∧ c < 2 → t = 10 * p + c) ∧ (¬ (0 ≤ p ∧ p < 4 ∧ 0 ≤ c ∧ c < 2) → t = -1)) ∧ w = w' := by
  by_cases h : 0 ≤ p ∧ p < 4 ∧ 0 ≤ c ∧ c < 2
  · exact (rcommit_in p c w (by omega) (by omega) (by omega) (by omega)).mono fun e w' ⟨⟨r, hr, a⟩, b⟩ => ⟨⟨_, a, fun _ => hr, fun k => (k h).elim⟩, b⟩
  · exact (rcommit_out p c w (by omega)).mono fun e w' ⟨a, b⟩ => ⟨⟨_, a, fun k => (h k).elim, fun _ => rfl⟩, b⟩
theorem rstage_any (p s : Int) (w : World) : Calls Try.prog 21 #[.int .i64 p, .int .i64 s] w fun e w' => (∃ t, e = .returned (.int .i64 t) ∧ (0 ≤ p ∧ p < 4 ∧ 0 ≤ s ∧ s < 2 → t = 10 * p + 2 + 4 * s) ∧ (¬ (0 ≤ p ∧ p < 4 ∧ 0 ≤ s ∧ s < 2) → t = -1)) ∧ w = w' := by
  by_cases h : 0 ≤ p ∧ p < 4 ∧ 0 ≤ s ∧ s < 2
  · exact (rstage_in p s w (by omega) (by omega) (by omega) (by omega)).mono fun e w' ⟨⟨r, hr, a⟩, b⟩ => ⟨⟨_, a, fun _ => hr, fun k => (k h).elim⟩, b⟩
  · exact (rstage_out p s w (by omega)).mono fun e w' ⟨a, b⟩ => ⟨⟨_, a, fun k => (h k).elim, fun _ => rfl⟩, b⟩
theorem rdata_any (p s i : Int) (w : World) : Calls Try.prog 22 #[.int .i64 p, .int .i64 s, .int .i64 i] w fun e w' => (∃ t, e = .returned (.int .i64 t) ∧ (0 ≤ p ∧ p < 4 ∧ 0 ≤ s ∧ s < 2 ∧ 0 ≤ i ∧ i < 3 → t = 10 * p + 3 + 4 * s + i) ∧ (¬ (0 ≤ p ∧ p < 4 ∧ 0 ≤ s ∧ s < 2 ∧ 0 ≤ i ∧ i < 3) → t = -1)) ∧ w = w' := by
  by_cases h : 0 ≤ p ∧ p < 4 ∧ 0 ≤ s ∧ s < 2 ∧ 0 ≤ i ∧ i < 3
  · exact (rdata_in p s i w (by omega) (by omega) (by omega) (by omega) (by omega) (by omega)).mono fun e w' ⟨⟨r, hr, a⟩, b⟩ => ⟨⟨_, a, fun _ => hr, fun k => (k h).elim⟩, b⟩
  · exact (rdata_out p s i w (by omega)).mono fun e w' ⟨a, b⟩ => ⟨⟨_, a, fun k => (h k).elim, fun _ => rfl⟩, b⟩

theorem walk (a0 a1 a2 : Int) (w0 : (Lit.int .i64 a0).wf = true) (w1 : (Lit.int .i64 a1).wf = true) (w2 : (Lit.int .i64 a2).wf = true) (w : World) :
    Calls Try.prog 4 #[.int .i64 a0, .int .i64 a1, .int .i64 a2] w fun e w' => e = .returned (.bool true) ∧ Below w.heap.size w w' := by
  go_enter Try.func4, Try.ntmps4
  go_wp2_with (fail)
  refine (wakes _).mono ?_; rintro e wa ⟨rfl, ga⟩
  go_wp2_with (fail)
  refine (commit_any _ _ _).mono ?_; rintro e wb ⟨⟨s, is, rfl, hs⟩, gb⟩
  go_wp2_with (fail)
  refine (stage_any _ _ _).mono ?_; rintro e wc ⟨⟨s2, is2, rfl, hs2⟩, gc⟩
  go_wp2_with (fail)
  refine (data_any _ _ _ _).mono ?_; rintro e wd ⟨⟨s3, is3, rfl, hs3⟩, gd⟩
  have G : Below w.heap.size w wd := btrans (btrans (btrans ga gb) gc) gd
  have HS := Lib.hid hs; have HS2 := Lib.hid hs2; have HS3 := Lib.hid hs3; have HG := Lib.hid G
  clear hs hs2 hs3 ga gb gc gd G
  go_wp2_with (fail)
  refine (rcommit_any _ _ _).mono ?_; rintro e we ⟨⟨t, rfl, h1, h2⟩, rfl⟩
  have A := Lib.hid (HS.out t h1 h2); clear h1 h2 HS
  go_wp2_with (fail)
  refine (told_any _ _ _ _ A.out).mono ?_; rintro e we ⟨rfl, rfl⟩
  clear A
  go_wp2_with (fail)
  refine (rstage_any _ _ _).mono ?_; rintro e we ⟨⟨t, rfl, h1, h2⟩, rfl⟩
  have A := Lib.hid (HS2.out t h1 h2); clear h1 h2 HS2
  go_wp2_with (fail)
  refine (told_any _ _ _ _ A.out).mono ?_; rintro e we ⟨rfl, rfl⟩
  clear A
  go_wp2_with (fail)
  refine (rdata_any _ _ _ _).mono ?_; rintro e we ⟨⟨t, rfl, h1, h2⟩, rfl⟩
  have A := Lib.hid (HS3.out t h1 h2); clear h1 h2 HS3
  go_wp2_with (fail)
  refine (told_any _ _ _ _ A.out).mono ?_; rintro e we ⟨rfl, rfl⟩
  clear A
  go_wp2_with (fail)
  refine (sectors _ _).mono ?_; rintro e we ⟨⟨r, rfl, hr⟩, rfl⟩
  have HR := Lib.hid hr; clear hr
  go_wp2_with (fail)
  refine (rsectors _ _).mono ?_; rintro e we ⟨⟨r', rfl, hr'⟩, rfl⟩
  obtain rfl : r' = r := by have := HR.out; omega
  clear hr' HR
  go_wp2_with (fail)
  go_ret
  exact ⟨rfl, HG.out⟩
theorem own : ownKnob Try.prog.godebug = none := by kernel_rfl

/-! ### THE ROW's STEP: WRITTEN OUT: LEAVE IT -/
set_option maxRecDepth 100000 in
theorem lifted (os : Os) (started : os.Started) (H : Type) (enc : TypeId × Value → H) :
    ReturnsInHanded {} Try.checked os 4 .any (Rows.placeSaysSpec.pre6 enc Try.prog Try.f4 Rows.placeSaysRow.domain false) (Rows.placeSaysSpec.post enc Try.prog Try.f4 false true false false) := by
  refine returnsInHanded_of_change (C := Try.checked) own started (by kernel_rfl) Try.func4
    (ChangeSpec.witness6 (enc := enc) (C := Try.checked) false ⟨#[], #[.int .i64 0, .int .i64 0, .int .i64 0], []⟩ 8 (by kernel_rfl) (by kernel_rfl) (by kernel_rfl) (by kernel_rfl)) ?_
  intro W base args ds gs before hval0 hW hcnd _
  have hval : ∀ (j : Nat) t v, Try.f4.params[j]? = some t → args[j]? = some v → Value.okWide Try.prog W .any base t v := hval0
  have hW' := hW
  obtain ⟨p, q, hA0, hV, rfl, hfz, hnd⟩ := hW
  have hA : DataW.TrodAll enc Try.prog W 0 (fun _ => true) true Try.f4.params.toList args.toList ds p := hA0
  rw [Try.params4] at hA hval
  obtain ⟨v0, vs0, d0, ds0, p0, q0, hargs, rfl, rfl, h0, r0⟩ := trodAll_cons hA
  obtain ⟨v1, vs1, d1, ds1, p1, q1, rfl, rfl, rfl, h1, r1⟩ := trodAll_cons r0
  obtain ⟨v2, vs2, d2, ds2, p2, q2, rfl, rfl, rfl, h2, r2⟩ := trodAll_cons r1
  obtain ⟨rfl, rfl, rfl⟩ := trodAll_nil r2
  obtain rfl : args = #[v0, v1, v2] := by cases args; simp_all
  obtain ⟨rfl, rfl⟩ := trodVars_none hV
  obtain ⟨a0, rfl, rfl, rfl, w0⟩ := open_int Try.underlying3 (hval 0 3 v0 rfl rfl) h0
  obtain ⟨a1, rfl, rfl, rfl, w1⟩ := open_int Try.underlying3 (hval 1 3 v1 rfl rfl) h1
  obtain ⟨a2, rfl, rfl, rfl, w2⟩ := open_int Try.underlying3 (hval 2 3 v2 rfl rfl) h2
  clear hA0 hval0
  simp only [List.append_nil] at hW'
  refine (walk a0 a1 a2 w0 w1 w2 W).mono fun e W' ⟨he, hg⟩ => ?_
  subst he
  exact ⟨_, rfl, Go.Proofs.Ytbnnfknkmelhaaa.base.postBelow (pa := []) (pv := []) hW' (fun _ _ _ => (trodAll_cons_mk (shut_bool Try.underlying4 _) trodAll_mk0)) (fun sp _ => (trodAll_cons_mk (shut_int Try.underlying3 w0) (trodAll_cons_mk (shut_int Try.underlying3 w1) (trodAll_cons_mk (shut_int Try.underlying3 w2) trodAll_mk0)))) (fun _ _ => rfl) rfl
    hg (ok_one (by kernel_rfl) rfl (okWide_bool_mk Try.underlying4 _))⟩

theorem over : Rows.placeSaysRow.holds Try.pinned (OpenSpec.ofChange Rows.placeSaysSpec) :=
  OpenClaim.holds_of_wide 4 Try.f4 rfl rfl rfl rfl rfl rfl rfl ⟨rfl, rfl, rfl, rfl, rfl⟩ rfl rfl rfl rfl rfl (by kernel_rfl) Try.func4 (by kernel_rfl)
    (of_decide_eq_true (by kernel_rfl)) (by unfold Func.isWrapper; first | (rw [if_pos (by decide +kernel)]; kernel_rfl) | (rw [if_neg (by decide +kernel)]; exact ⟨rfl, rfl⟩))
    (fun os started H enc _ => lifted os started H enc)

/-- ████ THE STATEMENT ████ -/
theorem proved : Rows.PlaceSaysSaid :=
  over
#print axioms proved
end Go.Proofs.Ytbnnfknkmelhaaa.placeSays
