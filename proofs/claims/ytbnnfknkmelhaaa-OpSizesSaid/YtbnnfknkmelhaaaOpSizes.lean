/-
  PROVED HERE: for every instruction i, longeronlaw15.OpSizes(i) returns true and leaves memory as it was.
  CONDITIONS: none.
-/
import Derived.Test.YtbnnfknkmelhaaaOp
import Derived.Test.YtbnnfknkmelhaaaSame
import Derived.Test.YtbnnfknkmelhaaaLift
namespace Go.Proofs.Ytbnnfknkmelhaaa.opSizes
set_option linter.unusedVariables false
open Go.RowKit Go.ChangeShapes Go.WideShapes Go.ChangeAt Go.Deep Go.Joins Go.Proofs.Ytbnnfknkmelhaaa.base Go.Proofs.Ytbnnfknkmelhaaa.op Go.Proofs.Ytbnnfknkmelhaaa.same

theorem ins_by_value {H : Type} {enc : TypeId × Value → H} {W : World} {r : Reach} {b0 : Nat} {v : Value} {d : DataW H} {ps : List MemPlace} (hval : Value.okWide Try.prog W r b0 48 v)
    (h : DataW.Trod enc Try.prog W 0 (fun _ => true) true 48 v d ps) : ∃ o a : Int, v = .agg #[.int .i64 o, .int .i64 a] ∧ (Lit.int .i64 o).wf = true ∧ (Lit.int .i64 a).wf = true := by
  obtain ⟨v0, v1, y0, y1, n, rfl, _, _, t0, t1⟩ := open_agg2 Try.underlying48 (by kernel_rfl) (by kernel_rfl) hval h
  obtain ⟨o, h0, _, w0⟩ := DataW.trod_int Try.underlying3 t0
  obtain ⟨a, h1, _, w1⟩ := DataW.trod_int Try.underlying3 t1
  simp at h0 h1
  exact ⟨o, a, by rw [h0, h1], w0, w1⟩

set_option maxHeartbeats 1000000 in
theorem wakes (w : World) : Calls Try.prog 39 #[] w fun e w' => e = .returned (.bool true) ∧ Below w.heap.size w w' := by
  have hs1 : Sl (w.alloc (.cells #[.int .i64 1, .int .i64 5, .int .i64 14, .int .i64 1] 48)) (w.heap.size + 1) 2 (some ⟨w.heap.size, 0, none⟩) 2 (insCells [(1, 5), (14, 1)]) := sl_new (by rfl)
  have HS := Lib.hid hs1
  clear hs1
  go_enter Try.func39, Try.ntmps39
  go_wp2_with (fail)
  refine (put_any [(1, 5), (14, 1)] _ _ _ _ rfl (by simp) (by simpa using HS.out)).mono ?_
  rintro e w1 ⟨h1 | ⟨⟨p, hp, hr⟩, _⟩, hb1⟩
  · obtain ⟨_, v, rfl, hown⟩ := h1
    obtain ⟨A, c, rfl, hsl⟩ := own_sl hown
    have HL := Lib.hid hsl
    have HB1 : Hid (Below w.heap.size w w1) := Lib.hid (((Below.refl _ w).alloc (Nat.le_refl _) _).trans (hb1.mono (by simp)))
    have hz := hb1.size
    clear hown hsl hb1
    go_wp2_with (fail)
    refine (same_any [1, 5, 14, 1] [1, 5, 14, 1] _ _ _ _ _ _ _ rfl rfl (by simp) (by simp) (((HL.out).keep fun p hp => World.cell?_alloc_lt _ _ _ hp).more (by simp)) (by simpa using sl_new (w := w1) (e := 5) (n := 4) (size := 1) (cs := #[.int .u8 1, .int .u8 5, .int .u8 14, .int .u8 1]) (by rfl))).mono ?_
    rintro e w2 ⟨rfl, hb2⟩
    have HB2 : Hid (Below w.heap.size w w2) := Lib.hid ((HB1.out.alloc (by have := HB1.out.size; omega) _).trans (hb2.mono (by have := HB1.out.size; simp; omega)))
    clear hb2
    go_wp2_with (fail)
    go_ret
    exact ⟨rfl, HB2.out⟩
  · exfalso
    simp at hp
    rcases hp with rfl | rfl <;> simp [right, hasArg] at hr

set_option maxHeartbeats 1000000 in
theorem walk (w : World) (o a : Int) (wo : (Lit.int .i64 o).wf = true) (wa : (Lit.int .i64 a).wf = true) :
    Calls Try.prog 11 #[.agg #[.int .i64 o, .int .i64 a]] w fun e w' => e = .returned (.bool true) ∧ Below w.heap.size w w' := by
  go_enter Try.func11, Try.ntmps11
  go_wp2_with (fail)
  refine (wakes _).mono ?_; rintro e w1 ⟨rfl, hb1⟩
  have q1 : w1.cell? ⟨w.heap.size, 0, none⟩ = some (.int .i64 o) := cell_below hb1 (by simp)
  have q2 : w1.cell? ⟨w.heap.size, 1, none⟩ = some (.int .i64 a) := cell_below hb1 (by simp)
  have HB1 : Hid (Below w.heap.size w w1) := Lib.hid (((Below.refl _ w).alloc (Nat.le_refl _) _).trans (hb1.mono (by simp)))
  have hz1 : w.heap.size < w1.heap.size := by have := hb1.size; simp at this; omega
  clear hb1
  go_wp2_with (fail)
  refine (put_any [(o, a)] _ _ _ _ rfl (by simp) (by simpa [insCells] using sl_new (w := w1) (e := 48) (n := 1) (size := 2) (cs := #[.int .i64 o, .int .i64 a]) (by rfl))).mono ?_
  rintro e w2 ⟨h2, hb2⟩
  have hb2' : Below w1.heap.size w1 w2 := ((Below.refl _ w1).alloc (Nat.le_refl _) _).trans (hb2.mono (by simp))
  have q3 := cell_below hb2' q1
  have q4 := cell_below hb2' q2
  have HB2 : Hid (Below w.heap.size w w2) := Lib.hid (HB1.out.trans (hb2'.mono (by omega)))
  have hz2 : w.heap.size < w2.heap.size := Nat.lt_of_lt_of_le hz1 hb2'.size
  clear q1 q2 hb2 hb2' HB1
  rcases h2 with ⟨hr, v, rfl, hown⟩ | ⟨⟨p, hp, hr⟩, rfl⟩
  · have hr := hr (o, a) (by simp)
    obtain ⟨A, c, rfl, hsl⟩ := own_sl hown
    obtain ⟨h1, h2, h3, h4⟩ := right_yes hr
    have HR := Lib.hid hr
    have HL := Lib.hid hsl
    have e1 : putB [(o, a)] = insBytes (o, a) := by simp [putB]
    rw [e1] at HL
    have hat : atM (insBytes (o, a)) 0 = some (o, a, (insBytes (o, a)).length) := by
      have hr' := HR.out
      simp only [right] at hr'
      unfold atM insBytes
      cases hh : hasArg o
      · simp [hh] at hr' ⊢
        exact ⟨by omega, by omega⟩
      · simp [hh]
        omega
    have HAT := Lib.hid hat
    have hbytes : Bytes (insBytes (o, a)) := by
      intro z hz
      unfold insBytes at hz
      split at hz <;> simp at hz <;> omega
    have HZ := Lib.hid hbytes
    have hlen := insBytes_len (o, a)
    have hpos : 0 < (insBytes (o, a)).length := by unfold insBytes; split <;> simp
    clear hr hown hsl hat hbytes
    rw [e1]
    clear e1
    cases hh : hasArg o
    · have hl : (insBytes (o, a)).length = 1 := by simp [insBytes, hh]
      rw [hl] at HL HAT ⊢
      have HH := Lib.hid hh
      have HLEN := Lib.hid hl
      clear hh hl hpos hlen
      go_wp2_with (go_at_call 42; refine (arg_no _ _ HH.out).mono ?_; rintro e w' ⟨rfl, rfl⟩)
      refine (at_in 0 _ _ _ _ _ HLEN.out.symm (by omega) (by omega) HZ.out HL.out).mono ?_
      rintro e w3 ⟨h3', hb3⟩
      have he := h3' _ HAT.out
      simp only at he
      subst he
      have q5 := cell_below hb3 q3
      have q6 := cell_below hb3 q4
      have HB3 : Hid (Below w.heap.size w w3) := Lib.hid (HB2.out.trans (hb3.mono (by omega)))
      have hz3 : w.heap.size < w3.heap.size := Nat.lt_of_lt_of_le hz2 hb3.size
      clear h3' hb3 q3 q4 HB2
      go_wp2_with (fail)
      go_ret
      exact ⟨rfl, HB3.out.alloc (by omega) _⟩
    · have hl : (insBytes (o, a)).length = 2 := by simp [insBytes, hh]
      rw [hl] at HL HAT ⊢
      have HH := Lib.hid hh
      have HLEN := Lib.hid hl
      clear hh hl hpos hlen
      go_wp2_with (go_at_call 42; refine (arg_yes _ _ HH.out).mono ?_; rintro e w' ⟨rfl, rfl⟩)
      refine (at_in 0 _ _ _ _ _ HLEN.out.symm (by omega) (by omega) HZ.out HL.out).mono ?_
      rintro e w3 ⟨h3', hb3⟩
      have he := h3' _ HAT.out
      simp only at he
      subst he
      have q5 := cell_below hb3 q3
      have q6 := cell_below hb3 q4
      have HB3 : Hid (Below w.heap.size w w3) := Lib.hid (HB2.out.trans (hb3.mono (by omega)))
      have hz3 : w.heap.size < w3.heap.size := Nat.lt_of_lt_of_le hz2 hb3.size
      clear h3' hb3 q3 q4 HB2
      go_wp2_with (fail)
      go_ret
      exact ⟨rfl, HB3.out.alloc (by omega) _⟩
  · have hrr : right o a = false := by simp at hp; subst hp; exact hr
    have HR := Lib.hid hrr
    clear hrr hr hp
    go_wp2_with (go_at_call 41; refine (right_any _ _ _).mono ?_; rintro e w3 ⟨rfl, hb3⟩; rw [HR.out])
    go_ret
    exact ⟨rfl, HB2.out.trans (hb3.mono (by omega))⟩

/-! ### the row: written by program -/
set_option maxRecDepth 100000 in
theorem lifted (os : Os) (started : os.Started) (H : Type) (enc : TypeId × Value → H) :
    ReturnsInHanded {} Try.checked os 11 .any (Rows.opSizesSpec.pre6 enc Try.prog Try.f11 Rows.opSizesRow.domain false) (Rows.opSizesSpec.post enc Try.prog Try.f11 false true false false) := by
  refine returnsInHanded_of_change (C := Try.checked) Go.Proofs.Ytbnnfknkmelhaaa.lift.own started (by kernel_rfl) Try.func11
    (ChangeSpec.witness6 (enc := enc) (C := Try.checked) false ⟨#[], #[.agg #[.int .i64 0, .int .i64 0]], []⟩ 8 (by kernel_rfl) (by kernel_rfl) (by kernel_rfl) (by kernel_rfl)) ?_
  intro W base args ds gs before hval0 hW hcnd _
  have hval : ∀ (j : Nat) t v, Try.f11.params[j]? = some t → args[j]? = some v → Value.okWide Try.prog W .any base t v := hval0
  have hW' := hW
  obtain ⟨p, q, hA0, hV, rfl, hfz, hnd⟩ := hW
  have hA : DataW.TrodAll enc Try.prog W 0 (fun _ => true) true Try.f11.params.toList args.toList ds p := hA0
  have hAk := hA
  rw [Try.params11] at hA hval
  obtain ⟨v0, vs0, d0, ds0, p0, q0, hargs, rfl, rfl, h0, r0⟩ := trodAll_cons hA
  obtain ⟨rfl, rfl, rfl⟩ := trodAll_nil r0
  obtain rfl : args = #[v0] := by cases args; simp_all
  obtain ⟨rfl, rfl⟩ := trodVars_none hV
  have hlt := hW'.lt
  obtain ⟨o0, a0, rfl, wo, wa⟩ := ins_by_value (hval 0 48 v0 rfl rfl) h0
  refine (walk W o0 a0 wo wa).mono fun e W' ⟨he, hg⟩ => ?_
  subst he
  exact ⟨_, rfl, Go.Proofs.Ytbnnfknkmelhaaa.base.postBelow (pv := []) hW' (fun _ _ _ => (trodAll_cons_mk (shut_bool Try.underlying4 _) trodAll_mk0)) (fun sp hsp => Go.Proofs.Ytbnnfknkmelhaaa.lift.args_stay Go.Proofs.Ytbnnfknkmelhaaa.lift.laidOut hg _ _ _ _ (by kernel_rfl) hAk (fun x hx => hlt x (by simpa using hx)) (fun x hx => hsp x (by simpa using hx))) (fun _ _ => rfl) (by simp)
    hg (ok_one (by kernel_rfl) rfl (okWide_bool_mk Try.underlying4 _))⟩

theorem over : Rows.opSizesRow.holds Try.pinned (OpenSpec.ofChange Rows.opSizesSpec) :=
  OpenClaim.holds_of_wide 11 Try.f11 rfl rfl rfl rfl rfl rfl rfl ⟨rfl, rfl, rfl, rfl, rfl⟩ rfl rfl rfl rfl rfl (by kernel_rfl) Try.func11 (by kernel_rfl)
    (of_decide_eq_true (by kernel_rfl)) (by unfold Func.isWrapper; first | (rw [if_pos (by decide +kernel)]; kernel_rfl) | (rw [if_neg (by decide +kernel)]; exact ⟨rfl, rfl⟩))
    (fun os started H enc _ => lifted os started H enc)

/-- THE STATEMENT -/
theorem proved : Rows.OpSizesSaid :=
  over
#print axioms proved
end Go.Proofs.Ytbnnfknkmelhaaa.opSizes
