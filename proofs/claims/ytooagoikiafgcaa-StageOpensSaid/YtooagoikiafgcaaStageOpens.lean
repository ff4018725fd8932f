/-
  PROVED HERE: for all ints, longeronlaw11.StageOpens(sectors, part, slot) returns true and leaves memory as it was.
  CONDITIONS: none.
-/
import Derived.Test.YtooagoikiafgcaaStageWakes
import Derived.Test.YtooagoikiafgcaaPlaceSays
namespace Go.Proofs.Ytooagoikiafgcaa.stageOpens
set_option linter.unusedVariables false
open Go.RowKit Go.ChangeShapes Go.WideShapes Go.ChangeAt Go.Deep Go.Joins Go.Proofs.Ytooagoikiafgcaa.base Go.Proofs.Ytooagoikiafgcaa.obj Go.Proofs.Ytooagoikiafgcaa.mem Go.Proofs.Ytooagoikiafgcaa.crc Go.Proofs.Ytooagoikiafgcaa.disk Go.Proofs.Ytooagoikiafgcaa.record Go.Proofs.Ytooagoikiafgcaa.bits Go.Proofs.Ytooagoikiafgcaa.sep Go.Proofs.Ytooagoikiafgcaa.plan Go.Proofs.Ytooagoikiafgcaa.bytes Go.Proofs.Ytooagoikiafgcaa.stage

set_option maxRecDepth 100000 in
set_option maxHeartbeats 8000000 in
theorem walk (w : World) (sectors : Int) (w0 : (Lit.int .i64 sectors).wf = true) (part : Int) (w1 : (Lit.int .i64 part).wf = true) (slot : Int) (w2 : (Lit.int .i64 slot).wf = true) :
    Calls Try.prog 11 #[.int .i64 sectors, .int .i64 part, .int .i64 slot] w fun e w' => e = .returned (.bool true) ∧ Below w.heap.size w w' := by
  clear w0 w1 w2
  obtain ⟨n, hn⟩ : ∃ n, n = clampN sectors := ⟨_, rfl⟩
  have HN := Lib.hid hn
  obtain ⟨n1, n2⟩ : 1 ≤ n ∧ n ≤ 128 := by rw [hn]; exact clampN_bd sectors
  clear hn
  go_enter Try.func11, Try.ntmps11
  go_wp2_with (fail)
  refine (stage.wakes _).mono ?_
  rintro e w1 ⟨rfl, hb⟩
  have H1 := Lib.hid ((St.nil w).below hb)
  clear hb
  go_wp2_with (fail)
  refine (stage_nil _).mono ?_
  rintro e w2 ⟨rfl, hb⟩
  rw [Stg.val_eq]
  unfold Stg.zero
  have H2 := Lib.hid ((H1.out.below hb).below ((Below.refl _ _).alloc (Nat.le_refl _) (.cells #[.int .i64 0, .int .i64 0, .int .i64 0] 96)))
  clear hb
  obtain ⟨w3, hw3⟩ : ∃ w3, w3 = w2.alloc (.cells #[.int .i64 0, .int .i64 0, .int .i64 0] 96) := ⟨_, rfl⟩
  rw [← hw3] at H2
  have HW3 := Lib.hid hw3
  clear hw3
  go_wp2_with (fail)
  rw [← HW3.out]
  refine (bytes_nil _).mono ?_
  rintro e w4 ⟨rfl, rfl⟩
  go_wp2_with (fail)
  refine (open_nil _ part slot).mono ?_
  rintro e w5 ⟨rfl, rfl⟩
  go_wp2_with (fail)
  refine (begin_nil _ 1 1).mono ?_
  rintro e w6 ⟨rfl, rfl⟩
  go_wp2_with (fail)
  refine (put_nil _ 1 0 _).mono ?_
  rintro e w7 ⟨rfl, rfl⟩
  go_wp2_with (fail)
  refine (clear_nil _).mono ?_
  rintro e w8 ⟨rfl, rfl⟩
  go_wp2_with (fail)
  refine (dsk_new H2.out sectors).mono ?_
  rintro e w9 ⟨d, rfl, h9⟩
  rw [← HN.out] at h9
  have H9 := Lib.hid h9
  clear h9
  have HL := Lib.hid (show (DS.new n).secs.length = n by simp [DS.new])
  cases hroom : hasRoom part slot n with
  | false =>
    have HR := Lib.hid hroom
    clear hroom
    go_wp2_with (fail)
    refine (open_no H9.out part slot (by rw [HL.out]; exact HR.out)).mono ?_
    rintro e w10 ⟨rfl, h10⟩
    have H10 := Lib.hid h10
    clear h10
    go_wp2_with (fail)
    refine (Go.Proofs.Ytooagoikiafgcaa.placeSays.rdata_any part slot 2 _).mono ?_
    rintro e w11 ⟨⟨t, rfl, ht1, ht2⟩, rfl⟩
    have HD := Lib.hid (dsk_len H10.out)
    rw [HL.out] at HD
    have HT := Lib.hid (show t < 0 ∨ (n : Int) ≤ t by
      have h := HR.out
      unfold hasRoom dAt at h
      simp only [decide_eq_false_iff_not] at h
      by_cases hp : 0 ≤ part ∧ part < 4 ∧ 0 ≤ slot ∧ slot < 2
      · have := ht1 (by omega)
        omega
      · have := ht2 (by omega)
        omega)
    clear ht1 ht2
    by_cases ht : t < 0
    · have ht' : decide (t < 0) = true := by simpa using ht
      clear ht
      go_wp2_with (fail)
      go_ret
      exact ⟨rfl, H10.out.bel⟩
    · have ht' : decide (t < 0) = false := by simpa using ht
      have hge : t ≥ (n : Int) := by have := HT.out; omega
      clear ht
      go_wp2_with (fail)
      refine HD.out.mono ?_
      rintro e w12 ⟨rfl, rfl⟩
      go_wp2_with (fail)
      go_ret
      exact ⟨rfl, H10.out.bel⟩
  | true =>
    have HR := Lib.hid hroom
    obtain ⟨hpk, hat⟩ := room_pk hroom
    unfold dAt at hat
    obtain ⟨p0, p1, k0, k1⟩ := hpk
    clear hroom
    go_wp2_with (fail)
    refine (live_open H9.out n1 n2 HR.out).mono ?_
    rintro e w10 ⟨g, rfl, h10⟩
    have H10 := Lib.hid h10.st
    clear h10
    go_wp2_with (fail)
    refine (Go.Proofs.Ytooagoikiafgcaa.placeSays.rdata_any part slot 2 _).mono ?_
    rintro e w11 ⟨⟨t, rfl, ht1, ht2⟩, rfl⟩
    have ht := ht1 (by omega)
    have ht' : decide (t < 0) = false := by simp; omega
    have hge : ¬ t ≥ (n : Int) := by omega
    have HD := Lib.hid (dsk_len H10.out.swap)
    rw [HL.out] at HD
    clear ht ht1 ht2
    go_wp2_with (fail)
    refine HD.out.mono ?_
    rintro e w12 ⟨rfl, rfl⟩
    go_wp2_with (fail)
    refine (stage_at H10.out.row.1).mono ?_
    rintro e w13 ⟨rfl, hb⟩
    have H13 := Lib.hid (H10.out.below hb).bel
    clear hb
    rw [show (told SlS.none).val = .agg #[.int .i64 0, .int .i64 0, .int .i64 0] from rfl, show SlS.none.has = false from rfl]
    have H14 := Lib.hid (H13.out.alloc (H13.out.size) (.cells #[.int .i64 0, .int .i64 0, .int .i64 0] 96))
    go_wp2_with (fail)
    go_ret
    exact ⟨rfl, H14.out⟩

/-! ### the row: written by program -/
set_option maxRecDepth 100000 in
theorem lifted (os : Os) (started : os.Started) (H : Type) (enc : TypeId × Value → H) :
    ReturnsInHanded {} Try.checked os 11 .any (Rows.stageOpensSpec.pre6 enc Try.prog Try.f11 Rows.stageOpensRow.domain false) (Rows.stageOpensSpec.post enc Try.prog Try.f11 false true false false) := by
  refine returnsInHanded_of_change (C := Try.checked) Go.Proofs.Ytooagoikiafgcaa.lift.own started (by kernel_rfl) Try.func11
    (ChangeSpec.witness6 (enc := enc) (C := Try.checked) false ⟨#[], #[.int .i64 0, .int .i64 0, .int .i64 0], []⟩ 8 (by kernel_rfl) (by kernel_rfl) (by kernel_rfl) (by kernel_rfl)) ?_
  intro W base args ds gs before hval0 hW hcnd _
  have hval : ∀ (j : Nat) t v, Try.f11.params[j]? = some t → args[j]? = some v → Value.okWide Try.prog W .any base t v := hval0
  have hW' := hW
  obtain ⟨p, q, hA0, hV, rfl, hfz, hnd⟩ := hW
  have hA : DataW.TrodAll enc Try.prog W 0 (fun _ => true) true Try.f11.params.toList args.toList ds p := hA0
  have hAk := hA
  rw [Try.params11] at hA hval
  obtain ⟨v0, vs0, d0, ds0, p0, q0, hargs, rfl, rfl, h0, r0⟩ := trodAll_cons hA
  obtain ⟨v1, vs1, d1, ds1, p1, q1, rfl, rfl, rfl, h1, r1⟩ := trodAll_cons r0
  obtain ⟨v2, vs2, d2, ds2, p2, q2, rfl, rfl, rfl, h2, r2⟩ := trodAll_cons r1
  obtain ⟨rfl, rfl, rfl⟩ := trodAll_nil r2
  obtain rfl : args = #[v0, v1, v2] := by cases args; simp_all
  obtain ⟨rfl, rfl⟩ := trodVars_none hV
  have hlt := hW'.lt
  obtain ⟨a0, rfl, _, _, w0⟩ := open_int Try.underlying3 (hval 0 3 v0 rfl rfl) h0
  obtain ⟨a1, rfl, _, _, w1⟩ := open_int Try.underlying3 (hval 1 3 v1 rfl rfl) h1
  obtain ⟨a2, rfl, _, _, w2⟩ := open_int Try.underlying3 (hval 2 3 v2 rfl rfl) h2
  refine (walk W a0 w0 a1 w1 a2 w2).mono fun e W' ⟨he, hg⟩ => ?_
  subst he
  exact ⟨_, rfl, Go.Proofs.Ytooagoikiafgcaa.base.postBelow (pv := []) hW' (fun _ _ _ => (trodAll_cons_mk (shut_bool Try.underlying4 _) trodAll_mk0)) (fun sp hsp => Go.Proofs.Ytooagoikiafgcaa.lift.args_stay Go.Proofs.Ytooagoikiafgcaa.lift.laidOut hg _ _ _ _ (by kernel_rfl) hAk (fun x hx => hlt x (by simpa using hx)) (fun x hx => hsp x (by simpa using hx))) (fun _ _ => rfl) (by simp)
    hg (ok_one (by kernel_rfl) rfl (okWide_bool_mk Try.underlying4 _))⟩

theorem over : Rows.stageOpensRow.holds Try.pinned (OpenSpec.ofChange Rows.stageOpensSpec) :=
  OpenClaim.holds_of_wide 11 Try.f11 rfl rfl rfl rfl rfl rfl rfl ⟨rfl, rfl, rfl, rfl, rfl⟩ rfl rfl rfl rfl rfl (by kernel_rfl) Try.func11 (by kernel_rfl)
    (of_decide_eq_true (by kernel_rfl)) (by unfold Func.isWrapper; first | (rw [if_pos (by decide +kernel)]; kernel_rfl) | (rw [if_neg (by decide +kernel)]; exact ⟨rfl, rfl⟩))
    (fun os started H enc _ => lifted os started H enc)

/-- THE STATEMENT -/
theorem proved : Rows.StageOpensSaid :=
  over
#print axioms proved
end Go.Proofs.Ytooagoikiafgcaa.stageOpens
