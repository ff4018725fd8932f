/-
  PROVED HERE: longeronlaw21.GroundNil is true whatever the input: a station that is not there sends nothing.
  CONDITIONS: none beyond the row's own.
-/
import Derived.Test.YtjncpincmkpdpaaGroundPdu
import Derived.Test.YtjncpincmkpdpaaRows
namespace Go.Proofs.Ytjncpincmkpdpaa.groundNil
set_option linter.unusedVariables false
open Go.RowKit Go.ChangeShapes Go.WideShapes Go.Deep Go.Proofs.Ytjncpincmkpdpaa.base Go.Proofs.Ytjncpincmkpdpaa.obj Go.Proofs.Ytjncpincmkpdpaa.mem Go.Proofs.Ytjncpincmkpdpaa.plan Go.Proofs.Ytjncpincmkpdpaa.ground

set_option maxRecDepth 100000 in
set_option maxHeartbeats 2000000 in
theorem walk (w : World) (tick : Int) (ht : (Lit.int .i64 tick).wf = true) (x0 x1 x2 x3 x4 x5 x6 x7 : Int) (A : Option Addr) (c : Nat) (zs : List Int) (_ : zs.length ≤ c) (_ : zs.length ≤ maxLen) (_ : Sl w w.heap.size 1 A zs.length (zs.map (.int .u8))) : Calls Try.prog 4 #[.int .i64 tick, pdu x0 x1 x2 x3 x4 x5 x6 x7 (.slice A zs.length c)] w fun e w' => e = .returned (.bool true) ∧ Below w.heap.size w w' := by
  generalize zs.length = n
  unfold pdu
  have HB0 := Lib.hid ((Below.refl w.heap.size w).alloc (Nat.le_refl _) (.cells (pduC x0 x1 x2 x3 x4 x5 x6 x7 (.slice A n c)) 28))
  have HR0 := Lib.hid (Row.new w 28 (pduC x0 x1 x2 x3 x4 x5 x6 x7 (.slice A n c)))
  clear ht
  go_enter Try.func4, Try.ntmps4
  go_wp2_with (fail)
  refine (wakes_any _).mono ?_
  rintro e w1 ⟨rfl, hb⟩
  have HB1 := Lib.hid (HB0.out.trans (hb.mono (by simp)))
  have HR1 := Lib.hid (HR0.out.below hb (by simp))
  have hl1 := HR1.out.lt
  clear hb HB0 HR0
  have MS := Lib.hid (show (Try.prog.info? 28).map (·.size) = some (pduC x0 x1 x2 x3 x4 x5 x6 x7 (.slice A n c)).size from by kernel_rfl)
  go_wp2_with (refine wpList_load_row rfl 28 (.tmp 3) rfl w.heap.size rfl _ _ _ _ HR1.out Try.underlying28 rfl MS.out ?_)
  refine (hear_nil _ x0 x1 x2 x3 x4 x5 x6 x7 (.slice A n c)).mono ?_
  rintro e w2 ⟨rfl, hb⟩
  have HB2 := Lib.hid (HB1.out.trans (hb.mono HB1.out.size))
  clear hb
  go_wp2_with (fail)
  refine (next_nil _ tick).mono ?_
  rintro e w3 ⟨rfl, hb⟩
  have HB3 := Lib.hid (HB2.out.trans (hb.mono HB2.out.size))
  have HB3' := Lib.hid (HB3.out.alloc HB3.out.size (.cells z9 28))
  clear hb
  unfold pdu
  go_wp2_with (fail)
  refine (phase_nil _).mono ?_
  rintro e w4 ⟨rfl, rfl⟩
  go_wp2_with (fail)
  refine (code_nil _).mono ?_
  rintro e w4 ⟨rfl, rfl⟩
  go_wp2_with (fail)
  refine (block_nil _).mono ?_
  rintro e w4 ⟨rfl, rfl⟩
  go_wp2_with (fail)
  go_ret
  exact ⟨rfl, HB3'.out⟩

/-! ### the row: written by program -/
set_option maxRecDepth 100000 in
theorem lifted (os : Os) (started : os.Started) (H : Type) (enc : TypeId × Value → H) :
    ReturnsInHanded {} Try.checked os 4 .any (Rows.groundNilSpec.pre6 enc Try.prog Try.f4 Rows.groundNilRow.domain false) (Rows.groundNilSpec.post enc Try.prog Try.f4 false true false false) := by
  refine returnsInHanded_of_change (C := Try.checked) Go.Proofs.Ytjncpincmkpdpaa.lift.own started (by kernel_rfl) Try.func4
    (ChangeSpec.witness6 (enc := enc) (C := Try.checked) false ⟨#[], #[.int .i64 0, .agg #[.int .i64 0, .int .i64 0, .int .i64 0, .int .i64 0, .int .i64 0, .int .i64 0, .int .i64 0, .int .i64 0, .slice none 0 0]], []⟩ 8 (by kernel_rfl) (by kernel_rfl) (by kernel_rfl) (by kernel_rfl)) ?_
  intro W base args ds gs before hval0 hW hcnd _
  have hval : ∀ (j : Nat) t v, Try.f4.params[j]? = some t → args[j]? = some v → Value.okWide Try.prog W .any base t v := hval0
  have hW' := hW
  obtain ⟨p, q, hA0, hV, rfl, hfz, hnd⟩ := hW
  have hA : DataW.TrodAll enc Try.prog W 0 (fun _ => true) true Try.f4.params.toList args.toList ds p := hA0
  have hAk := hA
  rw [Try.params4] at hA hval
  obtain ⟨v0, vs0, d0, ds0, p0, q0, hargs, rfl, rfl, h0, r0⟩ := trodAll_cons hA
  obtain ⟨v1, vs1, d1, ds1, p1, q1, rfl, rfl, rfl, h1, r1⟩ := trodAll_cons r0
  obtain ⟨rfl, rfl, rfl⟩ := trodAll_nil r1
  obtain rfl : args = #[v0, v1] := by cases args; simp_all
  obtain ⟨rfl, rfl⟩ := trodVars_none hV
  have hlt := hW'.lt
  obtain ⟨a0, rfl, _, _, w0⟩ := open_int Try.underlying3 (hval 0 3 v0 rfl rfl) h0
  obtain ⟨x0, x1, x2, x3, x4, x5, x6, x7, A1, c1, zs1, rfl, hc1, hm1, hs1⟩ := arg_pdu (hval 1 28 v1 rfl rfl) h1
  refine (walk W a0 w0 x0 x1 x2 x3 x4 x5 x6 x7 A1 c1 zs1 hc1 hm1 hs1).mono fun e W' ⟨he, hg⟩ => ?_
  subst he
  exact ⟨_, rfl, Go.Proofs.Ytjncpincmkpdpaa.base.postBelow (pv := []) hW' (fun _ _ _ => (trodAll_cons_mk (shut_bool Try.underlying4 _) trodAll_mk0)) (fun sp hsp => Go.Proofs.Ytjncpincmkpdpaa.lift.args_stay Go.Proofs.Ytjncpincmkpdpaa.lift.laidOut hg _ _ _ _ (by kernel_rfl) hAk (fun x hx => hlt x (by simpa using hx)) (fun x hx => hsp x (by simpa using hx))) (fun _ _ => rfl) (by simp)
    hg (ok_one (by kernel_rfl) rfl (okWide_bool_mk Try.underlying4 _))⟩

theorem over : Rows.groundNilRow.holds Try.pinned (OpenSpec.ofChange Rows.groundNilSpec) :=
  OpenClaim.holds_of_wide 4 Try.f4 rfl rfl rfl rfl rfl rfl rfl ⟨rfl, rfl, rfl, rfl, rfl⟩ rfl rfl rfl rfl rfl (by kernel_rfl) Try.func4 (by kernel_rfl)
    (of_decide_eq_true (by kernel_rfl)) (by unfold Func.isWrapper; first | (rw [if_pos (by decide +kernel)]; kernel_rfl) | (rw [if_neg (by decide +kernel)]; exact ⟨rfl, rfl⟩))
    (fun os started H enc _ => lifted os started H enc)

/-- THE STATEMENT -/
theorem proved : Rows.GroundNilSaid :=
  over
#print axioms proved
end Go.Proofs.Ytjncpincmkpdpaa.groundNil
