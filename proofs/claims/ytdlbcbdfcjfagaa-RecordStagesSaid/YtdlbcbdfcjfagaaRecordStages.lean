/-
  PROVED HERE: for every stage s, longeronlaw07.RecordStages(s) returns true and leaves memory as it was.
  CONDITIONS: none.
-/
import Derived.Test.YtdlbcbdfcjfagaaArgRec
import Derived.Test.YtdlbcbdfcjfagaaRefStageBytes
namespace Go.Proofs.Ytdlbcbdfcjfagaa.recordStages
set_option linter.unusedVariables false
open Go.RowKit Go.ChangeShapes Go.WideShapes Go.ChangeAt Go.Deep Go.Joins Go.Proofs.Ytdlbcbdfcjfagaa.base Go.Proofs.Ytdlbcbdfcjfagaa.obj Go.Proofs.Ytdlbcbdfcjfagaa.mem Go.Proofs.Ytdlbcbdfcjfagaa.crc Go.Proofs.Ytdlbcbdfcjfagaa.num Go.Proofs.Ytdlbcbdfcjfagaa.bytes Go.Proofs.Ytdlbcbdfcjfagaa.record Go.Proofs.Ytdlbcbdfcjfagaa.same

set_option maxRecDepth 100000 in
set_option maxHeartbeats 8000000 in
theorem walk (w : World) (s : Stg) (hs : s.In) : Calls Try.prog 8 #[s.val] w fun e w' => e = .returned (.bool true) ∧ Below w.heap.size w w' := by
  obtain ⟨w0, hw0⟩ : ∃ w0, w0 = w.alloc (.cells s.cells 40) := ⟨_, rfl⟩
  have HR0 := Lib.hid (show Row w0 w.heap.size 40 s.cells.toList by rw [hw0]; exact Row.new w _ _)
  have HB0 := Lib.hid (show Below w.heap.size w w0 by rw [hw0]; exact (Below.refl _ _).alloc (Nat.le_refl _) _)
  have HW := Lib.hid hw0
  clear hw0
  have HV := Lib.hid (show s.val = .agg #[.int .i64 s.session, .int .i64 s.size, .int .i64 s.have_] from rfl)
  have HI := Lib.hid hs.size
  rw [HV.out]
  unfold Stg.cells at HW
  clear hs
  go_enter Try.func8, Try.ntmps8
  go_wp2_with (fail)
  rw [← HW.out]
  refine (wakes _).mono ?_
  rintro e w1 ⟨rfl, hb⟩
  have HB1 := Lib.hid (HB0.out.trans (hb.mono HB0.out.size))
  have HR1 := Lib.hid (HR0.out.below hb HR0.out.lt)
  obtain ⟨q0, q1, q2⟩ := Stg.read HR1.out
  have l1 := HR1.out.lt
  clear hb
  by_cases hbig : s.size > 1000
  · have HG := Lib.hid (show s.right = false by unfold Stg.right; simp; omega)
    go_wp2_with (fail)
    rw [← HV.out]
    refine (rightStage_at s _).mono ?_
    rintro e w4 ⟨rfl, hb⟩
    rw [HG.out]
    have HB4 := Lib.hid (HB1.out.trans (hb.mono HB1.out.size))
    clear hb
    go_wp2_with (fail)
    go_ret
    exact ⟨rfl, HB4.out⟩
  · have hs1 : s.size ≤ 1000 := by omega
    have hs0 : -9223372036854775808 ≤ s.size := HI.out.1
    have HBA := Lib.hid (fun W => blocks_at W s.size hs0 (by omega))
    have HBR := Lib.hid (fun W => refRec.blocks_at W s.size hs1 hs0)
    have HS0 := Lib.hid hs0
    clear hbig hs0
    have hbig : ¬ s.size > 1000 := by omega
    generalize blocksN s.size = bn at *
    go_wp2_with (fail)
    rw [← HV.out]
    cases hg : s.right with
    | false =>
      have HG := Lib.hid hg
      clear hg
      refine (putStage_bad s _ HG.out).mono ?_
      rintro e w2 ⟨rfl, hb⟩
      rw [HV.out]
      have HB2 := Lib.hid (HB1.out.trans (hb.mono HB1.out.size))
      have HR2 := Lib.hid (HR1.out.below hb HR1.out.lt)
      clear hb q0 q1 q2 l1
      obtain ⟨q0, q1, q2⟩ := Stg.read HR2.out
      have l1 := HR2.out.lt
      have HD2 := Lib.hid (fun n => below_drewN HB2.out n)
      have HRD2 := Lib.hid (fun n => HR2.out.drewN n)
      go_wp2_with (fail)
      go_big_quiet (first | exact Calls.quiet_of_same (HBA.out _) | exact Calls.quiet_of_same (HBR.out _))
      go_wp2_with (fail)
      rw [← HV.out]
      refine (refRec.rightStage_at s _ HS0.out).mono ?_
      rintro e w3 ⟨rfl, hb⟩
      rw [HG.out, HV.out]
      have HB3 := Lib.hid ((HD2.out _).trans (hb.mono (HD2.out _).size))
      have HR3 := Lib.hid ((HRD2.out _).below hb (HRD2.out _).lt)
      clear hb q0 q1 q2 l1
      obtain ⟨q0, q1, q2⟩ := Stg.read HR3.out
      have l1 := HR3.out.lt
      go_wp2_with (fail)
      rw [← HV.out]
      refine (rightStage_at s _).mono ?_
      rintro e w4 ⟨rfl, hb⟩
      rw [HG.out]
      have HB4 := Lib.hid (HB3.out.trans (hb.mono HB3.out.size))
      clear hb
      go_wp2_with (fail)
      go_ret
      exact ⟨rfl, HB4.out⟩
    | true =>
      have HG := Lib.hid hg
      clear hg
      refine (putStage_at s _ HG.out).mono ?_
      rintro e w2 ⟨v, rfl, ho, hb⟩
      rw [HV.out]
      have HB2 := Lib.hid (HB1.out.trans (hb.mono HB1.out.size))
      have HR2 := Lib.hid (HR1.out.below hb HR1.out.lt)
      have HS2 := Lib.hid (own_base ho HB1.out.size)
      obtain ⟨A, c, e2, hc, _⟩ := own_form ho
      subst e2
      clear hb q0 q1 q2 l1 ho
      obtain ⟨q0, q1, q2⟩ := Stg.read HR2.out
      have l1 := HR2.out.lt
      have HD2 := Lib.hid (fun n => below_drewN HB2.out n)
      have HRD2 := Lib.hid (fun n => HR2.out.drewN n)
      have HSD2 := Lib.hid (fun n => own_below HS2.out (below_drewN (Below.refl w2.heap.size w2) n))
      go_wp2_with (fail)
      go_big_quiet (first | exact Calls.quiet_of_same (HBA.out _) | exact Calls.quiet_of_same (HBR.out _))
      go_wp2_with (fail)
      rw [← HV.out]
      refine (refRec.rightStage_at s _ HS0.out).mono ?_
      rintro e w3 ⟨rfl, hb⟩
      rw [HG.out, HV.out]
      have HB3 := Lib.hid ((HD2.out _).trans (hb.mono (HD2.out _).size))
      have HR3 := Lib.hid ((HRD2.out _).below hb (HRD2.out _).lt)
      have HS3 := Lib.hid (own_below (HSD2.out _) hb)
      clear hb q0 q1 q2 l1
      go_wp2_with (fail)
      refine (record.getStage_at _ A 64 c s.bytes s.bytes_length hc s.bytes_byt (Sl.of_own HS3.out)).mono ?_
      rintro e w4 ⟨rfl, hb⟩
      rw [getStg_bytes HG.out]
      have HB4 := Lib.hid (HB3.out.trans (hb.mono HB3.out.size))
      have HR4 := Lib.hid (HR3.out.below hb HR3.out.lt)
      have HS4 := Lib.hid (own_below HS3.out hb)
      clear hb
      dsimp only
      rw [HV.out]
      obtain ⟨w5, hw5⟩ : ∃ w5, w5 = w4.alloc (.cells #[.int .i64 s.session, .int .i64 s.size, .int .i64 s.have_] 40) := ⟨_, rfl⟩
      have HX5 := Lib.hid (show Row w5 w4.heap.size 40 s.cells.toList by rw [hw5]; exact Row.new w4 _ _)
      have HA5 := Lib.hid (show Below w4.heap.size w4 w5 by rw [hw5]; exact (Below.refl _ _).alloc (Nat.le_refl _) _)
      have HW5 := Lib.hid hw5
      clear hw5
      have HB5 := Lib.hid (HB4.out.trans (HA5.out.mono HB4.out.size))
      have HR5 := Lib.hid (HR4.out.below HA5.out HR4.out.lt)
      have HS5 := Lib.hid (own_below HS4.out HA5.out)
      go_wp2_with (fail)
      rw [← HW5.out]
      refine (record.get_at _ A 64 c s.bytes s.bytes_length hc s.bytes_byt (Sl.of_own HS5.out)).mono ?_
      rintro e w6 ⟨rfl, hb⟩
      rw [getRec_stg s]
      have HB6 := Lib.hid (HB5.out.trans (hb.mono HB5.out.size))
      have HR6 := Lib.hid (HR5.out.below hb HR5.out.lt)
      have HS6 := Lib.hid (own_below HS5.out hb)
      have HX6 := Lib.hid (HX5.out.below hb HX5.out.lt)
      clear hb
      dsimp only
      have HZV := Lib.hid (show Rec.zero.val = .agg #[.int .i64 0, .int .i64 0, .int .i64 0, .int .i64 0, .int .i64 0, .int .i64 0] from rfl)
      rw [HZV.out]
      obtain ⟨w7, hw7⟩ : ∃ w7, w7 = w6.alloc (.cells #[.int .i64 0, .int .i64 0, .int .i64 0, .int .i64 0, .int .i64 0, .int .i64 0] 23) := ⟨_, rfl⟩
      have HA7 := Lib.hid (show Below w6.heap.size w6 w7 by rw [hw7]; exact (Below.refl _ _).alloc (Nat.le_refl _) _)
      have HW7 := Lib.hid hw7
      clear hw7
      have HB7 := Lib.hid (HB6.out.trans (HA7.out.mono HB6.out.size))
      have HR7 := Lib.hid (HR6.out.below HA7.out HR6.out.lt)
      have HS7 := Lib.hid (own_below HS6.out HA7.out)
      have HX7 := Lib.hid (HX6.out.below HA7.out HX6.out.lt)
      obtain ⟨q0, q1, q2⟩ := Stg.read HR6.out
      have l1 := HR6.out.lt
      go_wp2_with (fail)
      rw [← HW7.out, ← HV.out]
      refine (rightStage_at s _).mono ?_
      rintro e w8 ⟨rfl, hb⟩
      rw [HG.out, HV.out]
      have HB8 := Lib.hid (HB7.out.trans (hb.mono HB7.out.size))
      have HR8 := Lib.hid (HR7.out.below hb HR7.out.lt)
      have HS8 := Lib.hid (own_below HS7.out hb)
      have HX8 := Lib.hid (HX7.out.below hb HX7.out.lt)
      clear hb q0 q1 q2 l1
      obtain ⟨q0, q1, q2⟩ := Stg.read HR8.out
      have l1 := HR8.out.lt
      go_wp2_with (fail)
      rw [← HV.out]
      refine (refRec.stageBytes_at s _ HG.out).mono ?_
      rintro e w9 ⟨g9, rfl, hg9, hrow9, hb⟩
      rw [HV.out]
      have HB9 := Lib.hid (HB8.out.trans (hb.mono HB8.out.size))
      have HR9 := Lib.hid (HR8.out.below hb HR8.out.lt)
      have HS9 := Lib.hid (own_below HS8.out hb)
      have HX9 := Lib.hid (HX8.out.below hb HX8.out.lt)
      have HQ9 := Lib.hid hrow9
      clear hb hrow9 hg9
      go_wp2_with (fail)
      refine (same_any s.bytes s.bytes A (some ⟨g9, 0, none⟩) 64 64 c 64 _ s.bytes_length.symm s.bytes_length.symm (by omega) (by omega) (Sl.of_own HS9.out) (byte_sl HQ9.out s.bytes_length)).mono ?_
      rintro e w10 ⟨rfl, hb⟩
      have HB10 := Lib.hid (HB9.out.trans (hb.mono HB9.out.size))
      have HR10 := Lib.hid (HR9.out.below hb HR9.out.lt)
      have HX10 := Lib.hid (HX9.out.below hb HX9.out.lt)
      clear hb q0 q1 q2 l1
      obtain ⟨q0, q1, q2⟩ := Stg.read HR10.out
      obtain ⟨t0, t1, t2⟩ := Stg.read HX10.out
      have l1 := HR10.out.lt
      have l2 := HX10.out.lt
      go_wp2_with (fail)
      go_ret
      exact ⟨by simp, HB10.out⟩

/-! ### the row: written by program -/
set_option maxRecDepth 100000 in
theorem lifted (os : Os) (started : os.Started) (H : Type) (enc : TypeId × Value → H) :
    ReturnsInHanded {} Try.checked os 8 .any (Rows.recordStagesSpec.pre6 enc Try.prog Try.f8 Rows.recordStagesRow.domain false) (Rows.recordStagesSpec.post enc Try.prog Try.f8 false true false false) := by
  refine returnsInHanded_of_change (C := Try.checked) Go.Proofs.Ytdlbcbdfcjfagaa.lift.own started (by kernel_rfl) Try.func8
    (ChangeSpec.witness6 (enc := enc) (C := Try.checked) false ⟨#[], #[.agg #[.int .i64 0, .int .i64 0, .int .i64 0]], []⟩ 8 (by kernel_rfl) (by kernel_rfl) (by kernel_rfl) (by kernel_rfl)) ?_
  intro W base args ds gs before hval0 hW hcnd _
  have hval : ∀ (j : Nat) t v, Try.f8.params[j]? = some t → args[j]? = some v → Value.okWide Try.prog W .any base t v := hval0
  have hW' := hW
  obtain ⟨p, q, hA0, hV, rfl, hfz, hnd⟩ := hW
  have hA : DataW.TrodAll enc Try.prog W 0 (fun _ => true) true Try.f8.params.toList args.toList ds p := hA0
  have hAk := hA
  rw [Try.params8] at hA hval
  obtain ⟨v0, vs0, d0, ds0, p0, q0, hargs, rfl, rfl, h0, r0⟩ := trodAll_cons hA
  obtain ⟨rfl, rfl, rfl⟩ := trodAll_nil r0
  obtain rfl : args = #[v0] := by cases args; simp_all
  obtain ⟨rfl, rfl⟩ := trodVars_none hV
  have hlt := hW'.lt
  obtain ⟨S0, rfl, HS0⟩ := arg_stg (hval 0 40 v0 rfl rfl) h0
  refine (walk W S0 HS0).mono fun e W' ⟨he, hg⟩ => ?_
  subst he
  exact ⟨_, rfl, Go.Proofs.Ytdlbcbdfcjfagaa.base.postBelow (pv := []) hW' (fun _ _ _ => (trodAll_cons_mk (shut_bool Try.underlying4 _) trodAll_mk0)) (fun sp hsp => Go.Proofs.Ytdlbcbdfcjfagaa.lift.args_stay Go.Proofs.Ytdlbcbdfcjfagaa.lift.laidOut hg _ _ _ _ (by kernel_rfl) hAk (fun x hx => hlt x (by simpa using hx)) (fun x hx => hsp x (by simpa using hx))) (fun _ _ => rfl) (by simp)
    hg (ok_one (by kernel_rfl) rfl (okWide_bool_mk Try.underlying4 _))⟩

theorem over : Rows.recordStagesRow.holds Try.pinned (OpenSpec.ofChange Rows.recordStagesSpec) :=
  OpenClaim.holds_of_wide 8 Try.f8 rfl rfl rfl rfl rfl rfl rfl ⟨rfl, rfl, rfl, rfl, rfl⟩ rfl rfl rfl rfl rfl (by kernel_rfl) Try.func8 (by kernel_rfl)
    (of_decide_eq_true (by kernel_rfl)) (by unfold Func.isWrapper; first | (rw [if_pos (by decide +kernel)]; kernel_rfl) | (rw [if_neg (by decide +kernel)]; exact ⟨rfl, rfl⟩))
    (fun os started H enc _ => lifted os started H enc)

/-- THE STATEMENT -/
theorem proved : Rows.RecordStagesSaid :=
  over
#print axioms proved
end Go.Proofs.Ytdlbcbdfcjfagaa.recordStages
