/-
  PROVED HERE: for every record r, longeronlaw07.RecordPuts(r) returns true and leaves memory as it was.
  CONDITIONS: none.
-/
import Derived.Test.YtdlbcbdfcjfagaaArgRec
namespace Go.Proofs.Ytdlbcbdfcjfagaa.recordPuts
set_option linter.unusedVariables false
open Go.RowKit Go.ChangeShapes Go.WideShapes Go.ChangeAt Go.Deep Go.Joins Go.Proofs.Ytdlbcbdfcjfagaa.base Go.Proofs.Ytdlbcbdfcjfagaa.obj Go.Proofs.Ytdlbcbdfcjfagaa.mem Go.Proofs.Ytdlbcbdfcjfagaa.crc Go.Proofs.Ytdlbcbdfcjfagaa.num Go.Proofs.Ytdlbcbdfcjfagaa.bytes Go.Proofs.Ytdlbcbdfcjfagaa.record Go.Proofs.Ytdlbcbdfcjfagaa.same

set_option maxRecDepth 100000 in
set_option maxHeartbeats 4000000 in
theorem walk (w : World) (r : Rec) (hr : r.In) : Calls Try.prog 3 #[r.val] w fun e w' => e = .returned (.bool true) ∧ Below w.heap.size w w' := by
  obtain ⟨w0, hw0⟩ : ∃ w0, w0 = w.alloc (.cells r.cells 23) := ⟨_, rfl⟩
  have HR0 := Lib.hid (show Row w0 w.heap.size 23 r.cells.toList by rw [hw0]; exact Row.new w _ _)
  have HB0 := Lib.hid (show Below w.heap.size w w0 by rw [hw0]; exact (Below.refl _ _).alloc (Nat.le_refl _) _)
  have HW := Lib.hid hw0
  clear hw0
  have HV := Lib.hid (show r.val = .agg #[.int .i64 r.part, .int .i64 r.seq, .int .i64 r.active, .int .i64 r.confirmed, .int .i64 r.left, .int .i64 r.bad] from rfl)
  rw [HV.out]
  unfold Rec.cells at HW
  go_enter Try.func3, Try.ntmps3
  go_wp2_with (fail)
  rw [← HW.out]
  refine (wakes _).mono ?_
  rintro e w1 ⟨rfl, hb⟩
  have HB1 := Lib.hid (HB0.out.trans (hb.mono HB0.out.size))
  have HR1 := Lib.hid (HR0.out.below hb HR0.out.lt)
  obtain ⟨q0, q1, q2, q3, q4, q5⟩ := Rec.read HR1.out
  have l1 := HR1.out.lt
  clear hb
  go_wp2_with (fail)
  rw [← HV.out]
  cases hg : r.right with
  | false =>
    have HG := Lib.hid hg
    clear hg
    refine (put_bad r _ HG.out).mono ?_
    rintro e w2 ⟨rfl, hb⟩
    have HB2 := Lib.hid (HB1.out.trans (hb.mono HB1.out.size))
    have HR2 := Lib.hid (HR1.out.below hb HR1.out.lt)
    clear hb q0 q1 q2 q3 q4 q5 l1
    obtain ⟨q0, q1, q2, q3, q4, q5⟩ := Rec.read HR2.out
    have l1 := HR2.out.lt
    go_wp2_with (fail)
    rw [← HV.out]
    refine (refRec.right_at r _).mono ?_
    rintro e w3 ⟨rfl, hb⟩
    rw [HG.out]
    have HB3 := Lib.hid (HB2.out.trans (hb.mono HB2.out.size))
    have HR3 := Lib.hid (HR2.out.below hb HR2.out.lt)
    clear hb q0 q1 q2 q3 q4 q5 l1
    obtain ⟨q0, q1, q2, q3, q4, q5⟩ := Rec.read HR3.out
    have l1 := HR3.out.lt
    go_wp2_with (fail)
    rw [← HV.out]
    refine (right_at r _).mono ?_
    rintro e w4 ⟨rfl, hb⟩
    rw [HG.out]
    have HB4 := Lib.hid (HB3.out.trans (hb.mono HB3.out.size))
    clear hb
    go_wp2_with (fail)
    go_ret
    exact ⟨rfl, HB4.out⟩
  | true =>
    have HG := Lib.hid hg
    clear hg
    refine (put_rec r _ HG.out).mono ?_
    rintro e w2 ⟨v, rfl, ho, hb⟩
    have HB2 := Lib.hid (HB1.out.trans (hb.mono HB1.out.size))
    have HR2 := Lib.hid (HR1.out.below hb HR1.out.lt)
    have HS2 := Lib.hid (own_base ho HB1.out.size)
    obtain ⟨A, c, e2, hc, _⟩ := own_form ho
    subst e2
    clear hb q0 q1 q2 q3 q4 q5 l1 ho
    obtain ⟨q0, q1, q2, q3, q4, q5⟩ := Rec.read HR2.out
    have l1 := HR2.out.lt
    go_wp2_with (fail)
    rw [← HV.out]
    refine (refRec.right_at r _).mono ?_
    rintro e w3 ⟨rfl, hb⟩
    rw [HG.out]
    have HB3 := Lib.hid (HB2.out.trans (hb.mono HB2.out.size))
    have HR3 := Lib.hid (HR2.out.below hb HR2.out.lt)
    have HS3 := Lib.hid (own_below HS2.out hb)
    clear hb q0 q1 q2 q3 q4 q5 l1
    go_wp2_with (fail)
    refine (record.get_at _ A 64 c r.bytes r.bytes_length hc r.bytes_byt (Sl.of_own HS3.out)).mono ?_
    rintro e w4 ⟨rfl, hb⟩
    rw [getRec_bytes HG.out]
    have HB4 := Lib.hid (HB3.out.trans (hb.mono HB3.out.size))
    have HR4 := Lib.hid (HR3.out.below hb HR3.out.lt)
    have HS4 := Lib.hid (own_below HS3.out hb)
    clear hb
    dsimp only
    rw [HV.out]
    obtain ⟨q0, q1, q2, q3, q4, q5⟩ := Rec.read HR4.out
    have l1 := HR4.out.lt
    go_wp2_with (fail)
    have HX5 := Lib.hid (show Row (w4.alloc (.cells #[.int .i64 r.part, .int .i64 r.seq, .int .i64 r.active, .int .i64 r.confirmed, .int .i64 r.left, .int .i64 r.bad] 23)) w4.heap.size 23 r.cells.toList from Row.new w4 _ _)
    have HA := Lib.hid (show Below w4.heap.size w4 (w4.alloc (.cells #[.int .i64 r.part, .int .i64 r.seq, .int .i64 r.active, .int .i64 r.confirmed, .int .i64 r.left, .int .i64 r.bad] 23)) from (Below.refl _ _).alloc (Nat.le_refl _) _)
    rw [← HV.out]
    refine (right_at r _).mono ?_
    rintro e w5 ⟨rfl, hb⟩
    rw [HG.out, HV.out]
    have HB5 := Lib.hid ((HB4.out.trans (HA.out.mono HB4.out.size)).trans (hb.mono (Nat.le_trans HB4.out.size HA.out.size)))
    have HR5 := Lib.hid ((HR4.out.below HA.out HR4.out.lt).below hb (HR4.out.below HA.out HR4.out.lt).lt)
    have HS5 := Lib.hid (own_below (own_below HS4.out HA.out) hb)
    have HX6 := Lib.hid (HX5.out.below hb HX5.out.lt)
    clear hb q0 q1 q2 q3 q4 q5 l1 HX5
    obtain ⟨q0, q1, q2, q3, q4, q5⟩ := Rec.read HR5.out
    have l1 := HR5.out.lt
    go_wp2_with (fail)
    rw [← HV.out]
    refine (refRec.bytes_at r _ HG.out).mono ?_
    rintro e w6 ⟨g6, rfl, hg6, hrow6, hb⟩
    rw [HV.out]
    have HB6 := Lib.hid (HB5.out.trans (hb.mono HB5.out.size))
    have HR6 := Lib.hid (HR5.out.below hb HR5.out.lt)
    have HS6 := Lib.hid (own_below HS5.out hb)
    have HX7 := Lib.hid (HX6.out.below hb HX6.out.lt)
    have HQ6 := Lib.hid hrow6
    clear hb hrow6 hg6
    go_wp2_with (fail)
    refine (same_any r.bytes r.bytes A (some ⟨g6, 0, none⟩) 64 64 c 64 _ r.bytes_length.symm r.bytes_length.symm (by omega) (by omega) (Sl.of_own HS6.out) (byte_sl HQ6.out r.bytes_length)).mono ?_
    rintro e w7 ⟨rfl, hb⟩
    have HB7 := Lib.hid (HB6.out.trans (hb.mono HB6.out.size))
    have HR7 := Lib.hid (HR6.out.below hb HR6.out.lt)
    have HX8 := Lib.hid (HX7.out.below hb HX7.out.lt)
    clear hb q0 q1 q2 q3 q4 q5 l1
    obtain ⟨q0, q1, q2, q3, q4, q5⟩ := Rec.read HR7.out
    obtain ⟨t0, t1, t2, t3, t4, t5⟩ := Rec.read HX8.out
    have l1 := HR7.out.lt
    have l2 := HX8.out.lt
    go_wp2_with (fail)
    go_ret
    exact ⟨by simp, HB7.out⟩

/-! ### the row: written by program -/
set_option maxRecDepth 100000 in
theorem lifted (os : Os) (started : os.Started) (H : Type) (enc : TypeId × Value → H) :
    ReturnsInHanded {} Try.checked os 3 .any (Rows.recordPutsSpec.pre6 enc Try.prog Try.f3 Rows.recordPutsRow.domain false) (Rows.recordPutsSpec.post enc Try.prog Try.f3 false true false false) := by
  refine returnsInHanded_of_change (C := Try.checked) Go.Proofs.Ytdlbcbdfcjfagaa.lift.own started (by kernel_rfl) Try.func3
    (ChangeSpec.witness6 (enc := enc) (C := Try.checked) false ⟨#[], #[.agg #[.int .i64 0, .int .i64 0, .int .i64 0, .int .i64 0, .int .i64 0, .int .i64 0]], []⟩ 8 (by kernel_rfl) (by kernel_rfl) (by kernel_rfl) (by kernel_rfl)) ?_
  intro W base args ds gs before hval0 hW hcnd _
  have hval : ∀ (j : Nat) t v, Try.f3.params[j]? = some t → args[j]? = some v → Value.okWide Try.prog W .any base t v := hval0
  have hW' := hW
  obtain ⟨p, q, hA0, hV, rfl, hfz, hnd⟩ := hW
  have hA : DataW.TrodAll enc Try.prog W 0 (fun _ => true) true Try.f3.params.toList args.toList ds p := hA0
  have hAk := hA
  rw [Try.params3] at hA hval
  obtain ⟨v0, vs0, d0, ds0, p0, q0, hargs, rfl, rfl, h0, r0⟩ := trodAll_cons hA
  obtain ⟨rfl, rfl, rfl⟩ := trodAll_nil r0
  obtain rfl : args = #[v0] := by cases args; simp_all
  obtain ⟨rfl, rfl⟩ := trodVars_none hV
  have hlt := hW'.lt
  obtain ⟨r0, rfl, hr0⟩ := arg_rec (hval 0 23 v0 rfl rfl) h0
  refine (walk W r0 hr0).mono fun e W' ⟨he, hg⟩ => ?_
  subst he
  exact ⟨_, rfl, Go.Proofs.Ytdlbcbdfcjfagaa.base.postBelow (pv := []) hW' (fun _ _ _ => (trodAll_cons_mk (shut_bool Try.underlying4 _) trodAll_mk0)) (fun sp hsp => Go.Proofs.Ytdlbcbdfcjfagaa.lift.args_stay Go.Proofs.Ytdlbcbdfcjfagaa.lift.laidOut hg _ _ _ _ (by kernel_rfl) hAk (fun x hx => hlt x (by simpa using hx)) (fun x hx => hsp x (by simpa using hx))) (fun _ _ => rfl) (by simp)
    hg (ok_one (by kernel_rfl) rfl (okWide_bool_mk Try.underlying4 _))⟩

theorem over : Rows.recordPutsRow.holds Try.pinned (OpenSpec.ofChange Rows.recordPutsSpec) :=
  OpenClaim.holds_of_wide 3 Try.f3 rfl rfl rfl rfl rfl rfl rfl ⟨rfl, rfl, rfl, rfl, rfl⟩ rfl rfl rfl rfl rfl (by kernel_rfl) Try.func3 (by kernel_rfl)
    (of_decide_eq_true (by kernel_rfl)) (by unfold Func.isWrapper; first | (rw [if_pos (by decide +kernel)]; kernel_rfl) | (rw [if_neg (by decide +kernel)]; exact ⟨rfl, rfl⟩))
    (fun os started H enc _ => lifted os started H enc)

/-- THE STATEMENT -/
theorem proved : Rows.RecordPutsSaid :=
  over
#print axioms proved
end Go.Proofs.Ytdlbcbdfcjfagaa.recordPuts
