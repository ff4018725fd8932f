/-
  PROVED HERE: for all ints part, slot, i, longeronlaw09.PlaceRows(part, slot, i) returns true and leaves memory as it was.
  CONDITIONS: none.
-/
import Derived.Test.YtbnnfknkmelhaaaPlace
namespace Go.Proofs.Ytbnnfknkmelhaaa.placeRows
set_option linter.unusedVariables false
open Go.Proofs.Ytbnnfknkmelhaaa.base Go.ChangeShapes Go.WideShapes Go.ChangeAt Go.RowKit Go.Proofs.Ytbnnfknkmelhaaa.place

/-- what each place is: none, or one behind the partition's first -/
def Pl (a0 s : Int) (is : Bool) : Prop := (is = false) ∨ (is = true ∧ 0 ≤ a0 ∧ a0 < 4 ∧ a0 * 10 ≤ s ∧ s < a0 * 10 + 10)

theorem c_any (p c : Int) (w : World) : Calls Try.prog 16 #[.int .i64 p, .int .i64 c] w fun e w' => (∃ s is, e = .returned (.tuple #[.int .i64 s, .bool is]) ∧ Pl p s is) ∧ Below w.heap.size w w' := by
  by_cases h : 0 ≤ p ∧ p < 4 ∧ 0 ≤ c ∧ c < 2
  · exact (commit_in p c w (by omega) (by omega) (by omega) (by omega)).mono fun e w' ⟨a, b⟩ => ⟨⟨_, _, a, .inr ⟨rfl, by omega, by omega, by omega, by omega⟩⟩, b⟩
  · exact (commit_out p c w (by omega)).mono fun e w' ⟨a, b⟩ => ⟨⟨_, _, a, .inl rfl⟩, b⟩
theorem s_any (p s : Int) (w : World) : Calls Try.prog 17 #[.int .i64 p, .int .i64 s] w fun e w' => (∃ r is, e = .returned (.tuple #[.int .i64 r, .bool is]) ∧ Pl p r is) ∧ Below w.heap.size w w' := by
  by_cases h : 0 ≤ p ∧ p < 4 ∧ 0 ≤ s ∧ s < 2
  · exact (stage_in p s w (by omega) (by omega) (by omega) (by omega)).mono fun e w' ⟨a, b⟩ => ⟨⟨_, _, a, .inr ⟨rfl, by omega, by omega, by omega, by omega⟩⟩, b⟩
  · exact (stage_out p s w (by omega)).mono fun e w' ⟨a, b⟩ => ⟨⟨_, _, a, .inl rfl⟩, b⟩
theorem d_any (p s i : Int) (w : World) : Calls Try.prog 18 #[.int .i64 p, .int .i64 s, .int .i64 i] w fun e w' => (∃ r is, e = .returned (.tuple #[.int .i64 r, .bool is]) ∧ Pl p r is) ∧ Below w.heap.size w w' := by
  by_cases h : 0 ≤ p ∧ p < 4 ∧ 0 ≤ s ∧ s < 2 ∧ 0 ≤ i ∧ i < 3
  · exact (data_in p s i w (by omega) (by omega) (by omega) (by omega) (by omega) (by omega)).mono fun e w' ⟨a, b⟩ => ⟨⟨_, _, a, .inr ⟨rfl, by omega, by omega, by omega, by omega⟩⟩, b⟩
  · exact (data_out p s i w (by omega)).mono fun e w' ⟨a, b⟩ => ⟨⟨_, _, a, .inl rfl⟩, b⟩

/-- one round's test: false -/
def Test (a0 s : Int) : Prop := (s / 10 == a0) = true
theorem sec_hi (p s : Int) (w : World) (h : p * 10 ≤ s) (h' : s < p * 10 + 10) (h0 : 0 ≤ p) (h4 : p < 4) : Calls Try.prog 23 #[.int .i64 (p + 1)] w fun e w' => (∃ r, e = .returned (.int .i64 r) ∧ decide (r ≤ s) = false) ∧ w = w' :=
  (sectors_in (p + 1) w (by omega) (by omega)).mono fun e w' ⟨a, b⟩ => ⟨⟨_, a, by simp; omega⟩, b⟩
theorem sec_lo (p s : Int) (w : World) (h : p * 10 ≤ s) (h' : s < p * 10 + 10) (h0 : 0 ≤ p) (h4 : p < 4) : Calls Try.prog 23 #[.int .i64 p] w fun e w' => (∃ r, e = .returned (.int .i64 r) ∧ (decide (0 < p) = false ∧ decide (s < r) = true ∨ decide (s < r) = false)) ∧ w = w' := by
  by_cases hp : p < 1
  · exact (sectors_low p w hp).mono fun e w' ⟨a, b⟩ => ⟨⟨_, a, .inl ⟨by simp; omega, by simp; omega⟩⟩, b⟩
  · exact (sectors_in p w (by omega) (by omega)).mono fun e w' ⟨a, b⟩ => ⟨⟨_, a, .inr (by simp; omega)⟩, b⟩

/-- the closures, as the slice has them -/
def fn1 (b : Nat) : Value := .func (.func 25) #[] #[.pointer (some ⟨b, 0, none⟩), .pointer (some ⟨b + 1, 0, none⟩)]
def fn2 (b : Nat) : Value := .func (.func 26) #[] #[.pointer (some ⟨b, 0, none⟩), .pointer (some ⟨b + 1, 0, none⟩)]
def fn3 (b : Nat) : Value := .func (.func 27) #[] #[.pointer (some ⟨b, 0, none⟩), .pointer (some ⟨b + 1, 0, none⟩), .pointer (some ⟨b + 1 + 1, 0, none⟩)]
structure Inv (w : World) (B : Nat) (a0 a1 a2 : Int) (wr : World) : Prop where
  c0 : wr.cell? ⟨w.heap.size, 0, none⟩ = some (.int .i64 a0)
  c1 : wr.cell? ⟨w.heap.size + 1, 0, none⟩ = some (.int .i64 a1)
  c2 : wr.cell? ⟨w.heap.size + 1 + 1, 0, none⟩ = some (.int .i64 a2)
  f1 : wr.cell? ⟨B, 0, none⟩ = some (fn1 w.heap.size)
  f2 : wr.cell? ⟨B, 1, none⟩ = some (fn2 w.heap.size)
  f3 : wr.cell? ⟨B, 2, none⟩ = some (fn3 w.heap.size)
  hB : w.heap.size + 1 + 1 < B
  hz : B < wr.heap.size
  b : Below w.heap.size w wr
theorem Inv.keep {w : World} {B : Nat} {a0 a1 a2 : Int} {wr wb : World} (h : Inv w B a0 a1 a2 wr) (hb : Below wr.heap.size wr wb) : Inv w B a0 a1 a2 wb := by
  have k := bcell hb
  have := hb.size
  have h1 := h.hz
  have h2 := h.hB
  exact ⟨(k.1 _ _ (by omega)).trans h.c0, (k.1 _ _ (by omega)).trans h.c1, (k.1 _ _ (by omega)).trans h.c2, (k.1 _ _ (by omega)).trans h.f1, (k.1 _ _ (by omega)).trans h.f2, (k.1 _ _ (by omega)).trans h.f3, h.hB, by omega, btrans h.b hb⟩

set_option maxHeartbeats 1000000 in
theorem walk (a0 a1 a2 : Int) (w0 : (Lit.int .i64 a0).wf = true) (w1 : (Lit.int .i64 a1).wf = true) (w2 : (Lit.int .i64 a2).wf = true) (w : World) :
    Calls Try.prog 5 #[.int .i64 a0, .int .i64 a1, .int .i64 a2] w fun e w' => e = .returned (.bool true) ∧ Below w.heap.size w w' := by
  go_enter Try.func5, Try.ntmps5
  go_wp2_with (fail)
  refine (wakes _).mono ?_; rintro e wa ⟨rfl, ga⟩
  have hz : w.heap.size + 1 + 1 < wa.heap.size := by have := ga.size; simp at this; omega
  have HA := Lib.hid ga; clear ga
  go_wp2_with (fail)
  go_loopw [18] (fun i wr => ∃ k : Nat, k ≤ 3 ∧ i = .int .i64 k ∧ Inv w wa.heap.size a0 a1 a2 wr) (fun i _ => 3 - (intOf i).toNat)
  case atStart =>
    have ga := HA.out
    obtain ⟨hc, hf⟩ := bcell ga
    refine ⟨0, by omega, rfl, ⟨?_, ?_, ?_, ?_, ?_, ?_, hz, by simp, ?_⟩⟩
    · rw [World.cell?_alloc_lt _ _ _ (by show w.heap.size < _; omega), hc _ _ (by simp; omega)]; go_simp
    · rw [World.cell?_alloc_lt _ _ _ (by show w.heap.size + 1 < _; omega), hc _ _ (by simp)]; go_simp
    · rw [World.cell?_alloc_lt _ _ _ (by show w.heap.size + 1 + 1 < _; omega), hc _ _ (by simp)]; go_simp
    · simp [fn1]
    · simp [fn2]
    · simp [fn3]
    · exact ((((((Below.refl _ w).alloc (Nat.le_refl _) _).alloc (by simp) _).alloc (by simp; omega) _)).trans (ga.mono (by simp; omega))).alloc (by omega) _
  case round =>
    obtain ⟨k, hk, rfl, hI⟩ := hrel
    have c0 := hI.c0
    have c1 := hI.c1
    have c2 := hI.c2
    have f1 := hI.f1
    have f2 := hI.f2
    have f3 := hI.f3
    unfold fn1 at f1
    unfold fn2 at f2
    unfold fn3 at f3
    have HI := Lib.hid hI; clear hI
    rcases (by omega : k = 0 ∨ k = 1 ∨ k = 2 ∨ k = 3) with rfl | rfl | rfl | rfl
    · go_wp2_with (go_at_call 25; go_in)
      refine (c_any _ _ _).mono ?_; rintro e wb ⟨⟨s, is, rfl, hs⟩, gb⟩
      have HJ := Lib.hid (HI.out.keep gb)
      have d0 := HJ.out.c0
      clear gb HI c0 c1 c2 f1 f2 f3
      rcases hs with rfl | ⟨rfl, h0, h4, hl, hh⟩
      · go_wp2_with (fail)
        go_roundw
        case rel => exact ⟨1, by omega, by go_num, HJ.out⟩
        case measure => simp [intOf]
      · have hq : (s / 10 != a0) = false := by simp; omega
        go_wp2_with (fail)
        refine (sec_lo _ s _ hl hh h0 h4).mono ?_; rintro e wc ⟨⟨r, rfl, hr⟩, rfl⟩
        rcases hr with ⟨hp, hr⟩ | hr
        all_goals
          go_wp2_with (fail)
          refine (sec_hi _ s _ hl hh h0 h4).mono ?_; rintro e wc ⟨⟨r', rfl, hr'⟩, rfl⟩
          go_wp2_with (fail)
          go_roundw
          case rel => exact ⟨1, by omega, by go_num, HJ.out⟩
          case measure => simp [intOf]
    · go_wp2_with (go_at_call 26; go_in)
      refine (s_any _ _ _).mono ?_; rintro e wb ⟨⟨s, is, rfl, hs⟩, gb⟩
      have HJ := Lib.hid (HI.out.keep gb)
      have d0 := HJ.out.c0
      clear gb HI c0 c1 c2 f1 f2 f3
      rcases hs with rfl | ⟨rfl, h0, h4, hl, hh⟩
      · go_wp2_with (fail)
        go_roundw
        case rel => exact ⟨2, by omega, by go_num, HJ.out⟩
        case measure => simp [intOf]
      · have hq : (s / 10 != a0) = false := by simp; omega
        go_wp2_with (fail)
        refine (sec_lo _ s _ hl hh h0 h4).mono ?_; rintro e wc ⟨⟨r, rfl, hr⟩, rfl⟩
        rcases hr with ⟨hp, hr⟩ | hr
        all_goals
          go_wp2_with (fail)
          refine (sec_hi _ s _ hl hh h0 h4).mono ?_; rintro e wc ⟨⟨r', rfl, hr'⟩, rfl⟩
          go_wp2_with (fail)
          go_roundw
          case rel => exact ⟨2, by omega, by go_num, HJ.out⟩
          case measure => simp [intOf]
    · go_wp2_with (go_at_call 27; go_in)
      refine (d_any _ _ _ _).mono ?_; rintro e wb ⟨⟨s, is, rfl, hs⟩, gb⟩
      have HJ := Lib.hid (HI.out.keep gb)
      have d0 := HJ.out.c0
      clear gb HI c0 c1 c2 f1 f2 f3
      rcases hs with rfl | ⟨rfl, h0, h4, hl, hh⟩
      · go_wp2_with (fail)
        go_roundw
        case rel => exact ⟨3, by omega, by go_num, HJ.out⟩
        case measure => simp [intOf]
      · have hq : (s / 10 != a0) = false := by simp; omega
        go_wp2_with (fail)
        refine (sec_lo _ s _ hl hh h0 h4).mono ?_; rintro e wc ⟨⟨r, rfl, hr⟩, rfl⟩
        rcases hr with ⟨hp, hr⟩ | hr
        all_goals
          go_wp2_with (fail)
          refine (sec_hi _ s _ hl hh h0 h4).mono ?_; rintro e wc ⟨⟨r', rfl, hr'⟩, rfl⟩
          go_wp2_with (fail)
          go_roundw
          case rel => exact ⟨3, by omega, by go_num, HJ.out⟩
          case measure => simp [intOf]
    · go_wp2_with (fail)
      go_ret
      exact ⟨rfl, HI.out.b⟩
theorem own : ownKnob Try.prog.godebug = none := by kernel_rfl

/-! ### THE ROW's STEP: WRITTEN OUT: LEAVE IT -/
set_option maxRecDepth 100000 in
theorem lifted (os : Os) (started : os.Started) (H : Type) (enc : TypeId × Value → H) :
    ReturnsInHanded {} Try.checked os 5 .any (Rows.placeRowsSpec.pre6 enc Try.prog Try.f5 Rows.placeRowsRow.domain false) (Rows.placeRowsSpec.post enc Try.prog Try.f5 false true false false) := by
  refine returnsInHanded_of_change (C := Try.checked) own started (by kernel_rfl) Try.func5
    (ChangeSpec.witness6 (enc := enc) (C := Try.checked) false ⟨#[], #[.int .i64 0, .int .i64 0, .int .i64 0], []⟩ 8 (by kernel_rfl) (by kernel_rfl) (by kernel_rfl) (by kernel_rfl)) ?_
  intro W base args ds gs before hval0 hW hcnd _
  have hval : ∀ (j : Nat) t v, Try.f5.params[j]? = some t → args[j]? = some v → Value.okWide Try.prog W .any base t v := hval0
  have hW' := hW
  obtain ⟨p, q, hA0, hV, rfl, hfz, hnd⟩ := hW
  have hA : DataW.TrodAll enc Try.prog W 0 (fun _ => true) true Try.f5.params.toList args.toList ds p := hA0
  rw [Try.params5] at hA hval
  obtain ⟨v0, vs0, d0, ds0, p0, q0, hargs, rfl, rfl, h0, r0⟩ := trodAll_cons hA
  obtain ⟨v1, vs1, d1, ds1, p1, q1, rfl, rfl, rfl, h1, r1⟩ := trodAll_cons r0
  obtain ⟨v2, vs2, d2, ds2, p2, q2, rfl, rfl, rfl, h2, r2⟩ := trodAll_cons r1
  obtain ⟨rfl, rfl, rfl⟩ := trodAll_nil r2
  obtain rfl : args = #[v0, v1, v2] := by cases args; simp_all
  obtain ⟨rfl, rfl⟩ := trodVars_none hV
  obtain ⟨a0, rfl, rfl, rfl, w0⟩ := open_int Try.underlying3 (hval 0 3 v0 rfl rfl) h0
  obtain ⟨a1, rfl, rfl, rfl, w1⟩ := open_int Try.underlying3 (hval 1 3 v1 rfl rfl) h1
  obtain ⟨a2, rfl, rfl, rfl, w2⟩ := open_int Try.underlying3 (hval 2 3 v2 rfl rfl) h2
  clear hA0 hval0
  simp only [List.append_nil] at hW'
  refine (walk a0 a1 a2 w0 w1 w2 W).mono fun e W' ⟨he, hg⟩ => ?_
  subst he
  exact ⟨_, rfl, Go.Proofs.Ytbnnfknkmelhaaa.base.postBelow (pa := []) (pv := []) hW' (fun _ _ _ => (trodAll_cons_mk (shut_bool Try.underlying4 _) trodAll_mk0)) (fun sp _ => (trodAll_cons_mk (shut_int Try.underlying3 w0) (trodAll_cons_mk (shut_int Try.underlying3 w1) (trodAll_cons_mk (shut_int Try.underlying3 w2) trodAll_mk0)))) (fun _ _ => rfl) rfl
    hg (ok_one (by kernel_rfl) rfl (okWide_bool_mk Try.underlying4 _))⟩

theorem over : Rows.placeRowsRow.holds Try.pinned (OpenSpec.ofChange Rows.placeRowsSpec) :=
  OpenClaim.holds_of_wide 5 Try.f5 rfl rfl rfl rfl rfl rfl rfl ⟨rfl, rfl, rfl, rfl, rfl⟩ rfl rfl rfl rfl rfl (by kernel_rfl) Try.func5 (by kernel_rfl)
    (of_decide_eq_true (by kernel_rfl)) (by unfold Func.isWrapper; first | (rw [if_pos (by decide +kernel)]; kernel_rfl) | (rw [if_neg (by decide +kernel)]; exact ⟨rfl, rfl⟩))
    (fun os started H enc _ => lifted os started H enc)

/-- ████ THE STATEMENT ████ -/
theorem proved : Rows.PlaceRowsSaid :=
  over
#print axioms proved
end Go.Proofs.Ytbnnfknkmelhaaa.placeRows
