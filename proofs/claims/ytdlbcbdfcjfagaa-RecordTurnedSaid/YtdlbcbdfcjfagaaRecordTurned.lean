/-
  PROVED HERE: for every record r, place and byte, longeronlaw07.RecordTurned(r, at, by) returns true and leaves memory as it was.
  CONDITIONS: none.
-/
import Derived.Test.YtdlbcbdfcjfagaaArgRec
namespace Go.Proofs.Ytdlbcbdfcjfagaa.recordTurned
set_option linter.unusedVariables false
open Go.RowKit Go.ChangeShapes Go.WideShapes Go.ChangeAt Go.Deep Go.Joins Go.Proofs.Ytdlbcbdfcjfagaa.base Go.Proofs.Ytdlbcbdfcjfagaa.obj Go.Proofs.Ytdlbcbdfcjfagaa.mem Go.Proofs.Ytdlbcbdfcjfagaa.crc Go.Proofs.Ytdlbcbdfcjfagaa.num Go.Proofs.Ytdlbcbdfcjfagaa.bytes Go.Proofs.Ytdlbcbdfcjfagaa.record Go.Proofs.Ytdlbcbdfcjfagaa.same

theorem u8_in {z : Int} (h : (Lit.int .u8 z).wf = true) : 0 ≤ z ∧ z ≤ 255 := by
  have h1 : IntKind.u8.min = 0 := rfl
  have h2 : IntKind.u8.max = 255 := rfl
  simp only [Lit.wf, Bool.and_eq_true, decide_eq_true_eq] at h
  omega
theorem xor8_ne {z b : Int} (hz : 0 ≤ z ∧ z ≤ 255) (hb : 0 ≤ b ∧ b ≤ 255) (h : ¬ b = 0) : (0 ≤ Go.bits .xor .u8 z b ∧ Go.bits .xor .u8 z b ≤ 255) ∧ Go.bits .xor .u8 z b ≠ z := by
  obtain ⟨z, rfl⟩ := Int.eq_ofNat_of_zero_le hz.1
  obtain ⟨b, rfl⟩ := Int.eq_ofNat_of_zero_le hb.1
  rw [xor8 z b (by omega) (by omega)]
  have h1 : z ^^^ b < 2 ^ 8 := Nat.xor_lt_two_pow (by omega) (by omega)
  refine ⟨by omega, fun e => ?_⟩
  have e1 : z ^^^ b = z := by omega
  have e2 := congrArg (z ^^^ ·) e1
  simp only [← Nat.xor_assoc, Nat.xor_self, Nat.zero_xor] at e2
  omega

set_option maxRecDepth 100000 in
set_option maxHeartbeats 4000000 in
theorem walk (w : World) (r : Rec) (hr : r.In) (at_ : Int) (ha : (Lit.int .u8 at_).wf = true) (by_ : Int) (hby : (Lit.int .u8 by_).wf = true) : Calls Try.prog 4 #[r.val, .int .u8 at_, .int .u8 by_] w fun e w' => e = .returned (.bool true) ∧ Below w.heap.size w w' := by
  obtain ⟨w0, hw0⟩ : ∃ w0, w0 = w.alloc (.cells r.cells 23) := ⟨_, rfl⟩
  have HR0 := Lib.hid (show Row w0 w.heap.size 23 r.cells.toList by rw [hw0]; exact Row.new w _ _)
  have HB0 := Lib.hid (show Below w.heap.size w w0 by rw [hw0]; exact (Below.refl _ _).alloc (Nat.le_refl _) _)
  have HW := Lib.hid hw0
  clear hw0
  have HV := Lib.hid (show r.val = .agg #[.int .i64 r.part, .int .i64 r.seq, .int .i64 r.active, .int .i64 r.confirmed, .int .i64 r.left, .int .i64 r.bad] from rfl)
  have a0 := (u8_in ha).1
  have a1 := (u8_in ha).2
  have b0 := (u8_in hby).1
  have b1 := (u8_in hby).2
  rw [HV.out]
  unfold Rec.cells at HW
  clear ha hby
  go_enter Try.func4, Try.ntmps4
  go_wp2_with (fail)
  rw [← HW.out]
  refine (wakes _).mono ?_
  rintro e w1 ⟨rfl, hb⟩
  have HB1 := Lib.hid (HB0.out.trans (hb.mono HB0.out.size))
  have HR1 := Lib.hid (HR0.out.below hb HR0.out.lt)
  obtain ⟨q0, q1, q2, q3, q4, q5⟩ := Rec.read HR1.out
  have l1 := HR1.out.lt
  clear hb
  go_wp2_with (fail)
  rw [← HV.out]
  cases hg : r.right with
  | false =>
    have HG := Lib.hid hg
    clear hg
    refine (put_bad r _ HG.out).mono ?_
    rintro e w2 ⟨rfl, hb⟩
    have HB2 := Lib.hid (HB1.out.trans (hb.mono HB1.out.size))
    clear hb
    go_wp2_with (fail)
    go_ret
    exact ⟨rfl, HB2.out⟩
  | true =>
    have HG := Lib.hid hg
    clear hg
    refine (put_rec r _ HG.out).mono ?_
    rintro e w2 ⟨v, rfl, ho, hb⟩
    have HB2 := Lib.hid (HB1.out.trans (hb.mono HB1.out.size))
    obtain ⟨g, cap, e1, h1, h2⟩ := ho.form (by decide)
    subst e1
    have hc : 64 ≤ cap := by
      obtain ⟨A, c, e2, hc, _⟩ := own_form ho
      injection e2 with _ _ e3
      omega
    have hbg : w.heap.size ≤ g := Nat.le_trans HB1.out.size h1
    by_cases hz : by_ = 0
    · subst hz
      clear hb
      go_wp2_with (fail)
      go_ret
      exact ⟨rfl, HB2.out⟩
    · have t1 : (by_ == 0) = false := by simpa using hz
      obtain ⟨i, hi⟩ : ∃ i : Nat, i = (at_ % 64).toNat := ⟨_, rfl⟩
      have hi64 : i < 64 := by omega
      have hat : at_ % 64 = (i : Int) := by omega
      obtain ⟨z, hzz⟩ : ∃ z, r.bytes[i]? = some z := ⟨_, List.getElem?_eq_getElem (by rw [r.bytes_length]; exact hi64)⟩
      have hzb := r.bytes_byt z (List.mem_of_getElem? hzz)
      have ci : w2.cell? ⟨g, i, none⟩ = some (.int .u8 z) := by
        have := ho.cells (g := g) rfl i (.int .u8 z) (by rw [List.getElem?_map, hzz]; rfl)
        rwa [addr_add, Nat.zero_add] at this
      have fi : w2.frozen? ⟨g, i, none⟩ = false := ho.frozenAt i
      obtain ⟨u, hu⟩ : ∃ u, u = Go.bits .xor .u8 z by_ := ⟨_, rfl⟩
      have HU := Lib.hid hu
      have HNE := Lib.hid (show (0 ≤ u ∧ u ≤ 255) ∧ u ≠ z by
        rw [hu]
        exact xor8_ne hzb ⟨b0, b1⟩ hz)
      have HZ := Lib.hid hzz; have HI := Lib.hid hat
      have HO2 := Lib.hid ho
      have i0 : (0 : Int) ≤ (i : Int) := by omega
      have i1 : (i : Int) < 64 := by omega
      have HOP := Lib.hid (show getRec (r.bytes.set i u) = (Rec.zero, openE 19523 11 (r.bytes.set i u)) ∧ openE 19523 11 (r.bytes.set i u) ≠ 0 by
        have h := open_turned 19523 r.head (pre_byt _ _ _ _) (pre_mark 19523 recWidths r.nums 6 (by decide)) (by rw [r.head_length]; decide) (by rw [r.head_length]; decide) i hi64 u HNE.out.1 (fun x hx => by
          have h1 : r.bytes[i]? = some x := hx
          rw [hzz] at h1
          injection h1 with h1
          rw [← h1]; exact HNE.out.2)
        rw [r.head_length] at h
        have h' : openE 19523 11 (r.bytes.set i u) ≠ 0 := h
        refine ⟨?_, h'⟩
        unfold getRec
        rw [if_pos (by rw [List.length_set]; exact r.bytes_length), if_neg h'])
      have hxu : Go.bits .xor .u8 z by_ = u := hu.symm
      clear hb hzz hu hz ho hi
      go_wp2_with (fail)
      have HO3 := Lib.hid (HO2.out.stored i (.int .u8 u)).1
      rw [refNum.mapset] at HO3
      have HB3 := Lib.hid (HB2.out.setCell (p := ⟨g, i, none⟩) hbg (.int .u8 u))
      have HBY := Lib.hid (show Byt (r.bytes.set i u) from fun x hx => by
        rcases List.mem_or_eq_of_mem_set hx with h | h
        · exact r.bytes_byt x h
        · rw [h]; exact HNE.out.1)
      refine (record.get_at _ (some ⟨g, 0, none⟩) 64 cap (r.bytes.set i u) (by rw [List.length_set]; exact r.bytes_length) hc HBY.out (Sl.of_own HO3.out)).mono ?_
      rintro e w4 ⟨rfl, hb⟩
      have HE := Lib.hid HOP.out.2
      rw [HOP.out.1]
      have HB4 := Lib.hid (HB3.out.trans (hb.mono HB3.out.size))
      clear hb q0 q1 q2 q3 q4 q5 l1 ci fi HOP
      dsimp only
      generalize openE 19523 11 (r.bytes.set i u) = ev at *
      have f1 : (ev != 0) = true := by simpa using HE.out
      have HZV := Lib.hid (show Rec.zero.val = .agg #[.int .i64 0, .int .i64 0, .int .i64 0, .int .i64 0, .int .i64 0, .int .i64 0] from rfl)
      rw [HZV.out]
      have HB5 := Lib.hid (fun o => HB4.out.alloc HB4.out.size o)
      go_wp2_with (fail)
      go_ret
      exact ⟨by simp, HB5.out _⟩

/-! ### the row: written by program -/
set_option maxRecDepth 100000 in
theorem lifted (os : Os) (started : os.Started) (H : Type) (enc : TypeId × Value → H) :
    ReturnsInHanded {} Try.checked os 4 .any (Rows.recordTurnedSpec.pre6 enc Try.prog Try.f4 Rows.recordTurnedRow.domain false) (Rows.recordTurnedSpec.post enc Try.prog Try.f4 false true false false) := by
  refine returnsInHanded_of_change (C := Try.checked) Go.Proofs.Ytdlbcbdfcjfagaa.lift.own started (by kernel_rfl) Try.func4
    (ChangeSpec.witness6 (enc := enc) (C := Try.checked) false ⟨#[], #[.agg #[.int .i64 0, .int .i64 0, .int .i64 0, .int .i64 0, .int .i64 0, .int .i64 0], .int .u8 0, .int .u8 0], []⟩ 8 (by kernel_rfl) (by kernel_rfl) (by kernel_rfl) (by kernel_rfl)) ?_
  intro W base args ds gs before hval0 hW hcnd _
  have hval : ∀ (j : Nat) t v, Try.f4.params[j]? = some t → args[j]? = some v → Value.okWide Try.prog W .any base t v := hval0
  have hW' := hW
  obtain ⟨p, q, hA0, hV, rfl, hfz, hnd⟩ := hW
  have hA : DataW.TrodAll enc Try.prog W 0 (fun _ => true) true Try.f4.params.toList args.toList ds p := hA0
  have hAk := hA
  rw [Try.params4] at hA hval
  obtain ⟨v0, vs0, d0, ds0, p0, q0, hargs, rfl, rfl, h0, r0⟩ := trodAll_cons hA
  obtain ⟨v1, vs1, d1, ds1, p1, q1, rfl, rfl, rfl, h1, r1⟩ := trodAll_cons r0
  obtain ⟨v2, vs2, d2, ds2, p2, q2, rfl, rfl, rfl, h2, r2⟩ := trodAll_cons r1
  obtain ⟨rfl, rfl, rfl⟩ := trodAll_nil r2
  obtain rfl : args = #[v0, v1, v2] := by cases args; simp_all
  obtain ⟨rfl, rfl⟩ := trodVars_none hV
  have hlt := hW'.lt
  obtain ⟨R0, rfl, HR0⟩ := arg_rec (hval 0 23 v0 rfl rfl) h0
  obtain ⟨a1, rfl, _, _, w1⟩ := open_int Try.underlying5 (hval 1 5 v1 rfl rfl) h1
  obtain ⟨a2, rfl, _, _, w2⟩ := open_int Try.underlying5 (hval 2 5 v2 rfl rfl) h2
  refine (walk W R0 HR0 a1 w1 a2 w2).mono fun e W' ⟨he, hg⟩ => ?_
  subst he
  exact ⟨_, rfl, Go.Proofs.Ytdlbcbdfcjfagaa.base.postBelow (pv := []) hW' (fun _ _ _ => (trodAll_cons_mk (shut_bool Try.underlying4 _) trodAll_mk0)) (fun sp hsp => Go.Proofs.Ytdlbcbdfcjfagaa.lift.args_stay Go.Proofs.Ytdlbcbdfcjfagaa.lift.laidOut hg _ _ _ _ (by kernel_rfl) hAk (fun x hx => hlt x (by simpa using hx)) (fun x hx => hsp x (by simpa using hx))) (fun _ _ => rfl) (by simp)
    hg (ok_one (by kernel_rfl) rfl (okWide_bool_mk Try.underlying4 _))⟩

theorem over : Rows.recordTurnedRow.holds Try.pinned (OpenSpec.ofChange Rows.recordTurnedSpec) :=
  OpenClaim.holds_of_wide 4 Try.f4 rfl rfl rfl rfl rfl rfl rfl ⟨rfl, rfl, rfl, rfl, rfl⟩ rfl rfl rfl rfl rfl (by kernel_rfl) Try.func4 (by kernel_rfl)
    (of_decide_eq_true (by kernel_rfl)) (by unfold Func.isWrapper; first | (rw [if_pos (by decide +kernel)]; kernel_rfl) | (rw [if_neg (by decide +kernel)]; exact ⟨rfl, rfl⟩))
    (fun os started H enc _ => lifted os started H enc)

/-- THE STATEMENT -/
theorem proved : Rows.RecordTurnedSaid :=
  over
#print axioms proved
end Go.Proofs.Ytdlbcbdfcjfagaa.recordTurned
