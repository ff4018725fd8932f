/-
  PROVED HERE: for all ints sectors, part and records r, longeronlaw12.CommitOpens(sectors, part, r) returns true and leaves memory as it was.
  CONDITIONS: none.
-/
import Derived.Test.YtdlbcbdfcjfagaaCommitNext
import Derived.Test.YtdlbcbdfcjfagaaPlaceSays
namespace Go.Proofs.Ytdlbcbdfcjfagaa.commitOpens
set_option linter.unusedVariables false
open Go.RowKit Go.ChangeShapes Go.WideShapes Go.ChangeAt Go.Deep Go.Joins Go.Proofs.Ytdlbcbdfcjfagaa.base Go.Proofs.Ytdlbcbdfcjfagaa.obj Go.Proofs.Ytdlbcbdfcjfagaa.mem Go.Proofs.Ytdlbcbdfcjfagaa.crc Go.Proofs.Ytdlbcbdfcjfagaa.disk Go.Proofs.Ytdlbcbdfcjfagaa.record Go.Proofs.Ytdlbcbdfcjfagaa.sep Go.Proofs.Ytdlbcbdfcjfagaa.plan Go.Proofs.Ytdlbcbdfcjfagaa.commit

theorem new_open {n : Nat} {p : Int} (h : roomFor p n = true) : openTo (DS.new n) p 2 = (Rec.zero, -1) := by
  obtain ⟨p0, p1, hr⟩ := room_of h
  have hz : ∀ r, getRec zeroSec = (r, 0) → r.part = p → r.seq ≤ (Rec.zero, (-1 : Int)).1.seq := fun r hr _ => absurd (by rw [hr]) getRec_zero
  show pickRec p 1 ((DS.new n).now (p * 10 + 1).toNat) (pickRec p 0 ((DS.new n).now (p * 10 + 0).toNat) (Rec.zero, -1)) = _
  rw [DS.new_now (by omega), DS.new_now (by omega), pick_leave hz, pick_leave hz]

set_option maxRecDepth 100000 in
set_option maxHeartbeats 8000000 in
theorem walk (w : World) (sectors : Int) (ws : (Lit.int .i64 sectors).wf = true) (part : Int) (wp : (Lit.int .i64 part).wf = true) (r : Rec) (hr : r.In) :
    Calls Try.prog 10 #[.int .i64 sectors, .int .i64 part, r.val] w fun e w' => e = .returned (.bool true) ∧ Below w.heap.size w w' := by
  obtain ⟨n, hn⟩ : ∃ n, n = clampN sectors := ⟨_, rfl⟩
  obtain ⟨n1, n2⟩ := clampN_bd sectors
  rw [← hn] at n1 n2
  have HN := Lib.hid hn
  obtain ⟨w0, hw0⟩ : ∃ w0, w0 = w.alloc (.cells #[.int .i64 r.part, .int .i64 r.seq, .int .i64 r.active, .int .i64 r.confirmed, .int .i64 r.left, .int .i64 r.bad] 23) := ⟨_, rfl⟩
  have H0 := Lib.hid (show St w w0 [row w.heap.size 23 r.cells.toList] by rw [hw0]; exact (St.nil w).new _ _)
  have HW := Lib.hid hw0
  have HV := Lib.hid (Rec.val_eq r)
  clear hn hw0 ws wp
  rw [HV.out]
  go_enter Try.func10, Try.ntmps10
  go_wp2_with (fail)
  rw [← HW.out]
  refine (commit.wakes _).mono ?_
  rintro e w1 ⟨rfl, hb⟩
  have H1 := Lib.hid (H0.out.below hb)
  clear hb
  go_wp2_with (fail)
  refine (open_nil _ part).mono ?_
  rintro e w1 ⟨rfl, rfl⟩
  go_wp2_with (fail)
  refine (format_nil _ part).mono ?_
  rintro e w1 ⟨rfl, rfl⟩
  go_wp2_with (fail)
  refine (latest_nil _).mono ?_
  rintro e w2 ⟨rfl, hb⟩
  have H2 := Lib.hid (H1.out.below hb)
  clear hb
  obtain ⟨r0, r1, r2, r3, r4, r5⟩ := Rec.read H2.out.row.1
  have lr := H2.out.row.1.lt
  rw [Rec.val_eq]
  unfold Rec.zero
  go_wp2_with (fail)
  rw [← HV.out]
  refine (save_nil _ r).mono ?_
  rintro e w3 ⟨rfl, hb⟩
  have H3 := Lib.hid (H2.out.below hb).drop
  clear hb r0 r1 r2 r3 r4 r5 lr
  go_wp2_with (fail)
  refine (dsk_new H3.out sectors).mono ?_
  rintro e w4 ⟨d, rfl, h4⟩
  rw [← HN.out] at h4
  have H4 := Lib.hid h4
  clear h4
  have HL := Lib.hid (show (DS.new n).secs.length = n by simp [DS.new])
  obtain ⟨m, hm⟩ : ∃ m, m = DS.new n := ⟨_, rfl⟩
  rw [← hm] at H4 HL
  have HM := Lib.hid hm
  clear hm
  cases hroom : roomFor part n with
  | false =>
    have HR := Lib.hid hroom
    clear hroom
    go_wp2_with (fail)
    refine (open_no H4.out part (by rw [HL.out]; exact HR.out)).mono ?_
    rintro e w5 ⟨rfl, h5⟩
    have H5 := Lib.hid h5
    clear h5
    go_wp2_with (fail)
    refine (Go.Proofs.Ytdlbcbdfcjfagaa.placeSays.rcommit_any part 1 _).mono ?_
    rintro e w6 ⟨⟨t, rfl, ht1, ht2⟩, rfl⟩
    have HD := Lib.hid (dsk_len H5.out)
    rw [HL.out] at HD
    have HT := Lib.hid (show t < 0 ∨ (n : Int) ≤ t by
      have h := HR.out
      unfold roomFor at h
      simp at h
      by_cases hp : 0 ≤ part ∧ part < 4
      · have := ht1 (by omega)
        omega
      · have := ht2 (by omega)
        omega)
    clear ht1 ht2
    by_cases ht : t < 0
    · have ht' : decide (t < 0) = true := by simpa using ht
      clear ht
      go_wp2_with (fail)
      refine (format_no H5.out part (by rw [HL.out]; exact HR.out)).mono ?_
      rintro e w5 ⟨rfl, h5⟩
      have H6 := Lib.hid h5.bel
      clear h5
      go_wp2_with (fail)
      go_ret
      exact ⟨rfl, H6.out⟩
    · have ht' : decide (t < 0) = false := by simpa using ht
      have hge : t ≥ (n : Int) := by have := HT.out; omega
      clear ht
      go_wp2_with (fail)
      refine HD.out.mono ?_
      rintro e w7 ⟨rfl, rfl⟩
      go_wp2_with (fail)
      refine (format_no H5.out part (by rw [HL.out]; exact HR.out)).mono ?_
      rintro e w5 ⟨rfl, h5⟩
      have H6 := Lib.hid h5.bel
      clear h5
      go_wp2_with (fail)
      go_ret
      exact ⟨rfl, H6.out⟩
  | true =>
    have HR := Lib.hid hroom
    obtain ⟨p0, p1, hlt⟩ := room_of hroom
    have hrm : roomFor part m.secs.length = true := by rw [HL.out]; exact hroom
    have hgd : m.Good := by rw [HM.out]; exact DS.new_good n1 n2
    have hbt : m.Bts := by rw [HM.out]; exact DS.new_bts n
    have hup : m.Up := by rw [HM.out]; exact DS.new_up n
    have hwt : m.waits.length ≤ 900 := by rw [HM.out]; simp [DS.new]
    have HOP := Lib.hid (open_at H4.out part hrm hup.1 (by omega) (fun i => hbt.now i) (fun i hi => hgd.now_len hi))
    have HOT := Lib.hid (show openTo m part 2 = (Rec.zero, -1) by rw [HM.out]; exact new_open HR.out)
    obtain ⟨f1, f2, f3, f4, f5, f6⟩ := format_up hgd hbt hup hrm
    have HF := Lib.hid (fun (w1 : World) (l : List Asn) (h1 : St w w1 (dsk d m :: l)) => format_at h1 part hrm hwt)
    have HF1 := Lib.hid f1
    have HFR := Lib.hid (firstRec_right p0 p1)
    clear hroom hrm hgd hbt hup hwt f1 f2 f3 f4 f5 f6
    go_wp2_with (fail)
    refine HOP.out.mono ?_
    rintro e w5 hb
    obtain ⟨rfl, h5⟩ := hb.1 (by rw [HOT.out]; decide)
    have H5 := Lib.hid h5
    clear hb h5
    go_wp2_with (fail)
    refine (Go.Proofs.Ytdlbcbdfcjfagaa.placeSays.rcommit_any part 1 _).mono ?_
    rintro e w6 ⟨⟨t, rfl, ht1, ht2⟩, rfl⟩
    have ht := ht1 (by omega)
    have ht' : decide (t < 0) = false := by simp; omega
    have hge : ¬ t ≥ (n : Int) := by omega
    have HD := Lib.hid (dsk_len H5.out)
    rw [HL.out] at HD
    clear ht ht1 ht2
    go_wp2_with (fail)
    refine HD.out.mono ?_
    rintro e w7 ⟨rfl, rfl⟩
    go_wp2_with (fail)
    refine (HF.out _ _ H5.out).mono ?_
    rintro e w8 hb
    obtain ⟨g, rfl, h8⟩ := hb.1 HF1.out
    have H8 := Lib.hid h8
    clear hb h8
    have HVF := Lib.hid (Rec.val_eq (firstRec part))
    go_wp2_with (fail)
    refine (latest_at H8.out).mono ?_
    rintro e w9 ⟨rfl, hb⟩
    have H9 := Lib.hid (H8.out.below hb)
    clear hb
    rw [HVF.out]
    unfold firstRec
    go_wp2_with (fail)
    refine (latest_at H9.out).mono ?_
    rintro e w10 ⟨rfl, hb⟩
    have H10 := Lib.hid (H9.out.below hb)
    clear hb
    go_wp2_with (fail)
    refine (Go.Proofs.Ytdlbcbdfcjfagaa.refRec.right_at (firstRec part) _).mono ?_
    rintro e w11 ⟨rfl, hb⟩
    rw [HFR.out]
    have H11 := Lib.hid (H10.out.below hb).bel
    clear hb
    go_wp2_with (fail)
    go_ret
    exact ⟨rfl, H11.out⟩

/-! ### the row: written by program -/
set_option maxRecDepth 100000 in
theorem lifted (os : Os) (started : os.Started) (H : Type) (enc : TypeId × Value → H) :
    ReturnsInHanded {} Try.checked os 10 .any (Rows.commitOpensSpec.pre6 enc Try.prog Try.f10 Rows.commitOpensRow.domain false) (Rows.commitOpensSpec.post enc Try.prog Try.f10 false true false false) := by
  refine returnsInHanded_of_change (C := Try.checked) Go.Proofs.Ytdlbcbdfcjfagaa.lift.own started (by kernel_rfl) Try.func10
    (ChangeSpec.witness6 (enc := enc) (C := Try.checked) false ⟨#[], #[.int .i64 0, .int .i64 0, .agg #[.int .i64 0, .int .i64 0, .int .i64 0, .int .i64 0, .int .i64 0, .int .i64 0]], []⟩ 8 (by kernel_rfl) (by kernel_rfl) (by kernel_rfl) (by kernel_rfl)) ?_
  intro W base args ds gs before hval0 hW hcnd _
  have hval : ∀ (j : Nat) t v, Try.f10.params[j]? = some t → args[j]? = some v → Value.okWide Try.prog W .any base t v := hval0
  have hW' := hW
  obtain ⟨p, q, hA0, hV, rfl, hfz, hnd⟩ := hW
  have hA : DataW.TrodAll enc Try.prog W 0 (fun _ => true) true Try.f10.params.toList args.toList ds p := hA0
  have hAk := hA
  rw [Try.params10] at hA hval
  obtain ⟨v0, vs0, d0, ds0, p0, q0, hargs, rfl, rfl, h0, r0⟩ := trodAll_cons hA
  obtain ⟨v1, vs1, d1, ds1, p1, q1, rfl, rfl, rfl, h1, r1⟩ := trodAll_cons r0
  obtain ⟨v2, vs2, d2, ds2, p2, q2, rfl, rfl, rfl, h2, r2⟩ := trodAll_cons r1
  obtain ⟨rfl, rfl, rfl⟩ := trodAll_nil r2
  obtain rfl : args = #[v0, v1, v2] := by cases args; simp_all
  obtain ⟨rfl, rfl⟩ := trodVars_none hV
  have hlt := hW'.lt
  obtain ⟨a0, rfl, _, _, w0⟩ := open_int Try.underlying3 (hval 0 3 v0 rfl rfl) h0
  obtain ⟨a1, rfl, _, _, w1⟩ := open_int Try.underlying3 (hval 1 3 v1 rfl rfl) h1
  obtain ⟨R0, rfl, HR0⟩ := arg_rec (hval 2 23 v2 rfl rfl) h2
  refine (walk W a0 w0 a1 w1 R0 HR0).mono fun e W' ⟨he, hg⟩ => ?_
  subst he
  exact ⟨_, rfl, Go.Proofs.Ytdlbcbdfcjfagaa.base.postBelow (pv := []) hW' (fun _ _ _ => (trodAll_cons_mk (shut_bool Try.underlying4 _) trodAll_mk0)) (fun sp hsp => Go.Proofs.Ytdlbcbdfcjfagaa.lift.args_stay Go.Proofs.Ytdlbcbdfcjfagaa.lift.laidOut hg _ _ _ _ (by kernel_rfl) hAk (fun x hx => hlt x (by simpa using hx)) (fun x hx => hsp x (by simpa using hx))) (fun _ _ => rfl) (by simp)
    hg (ok_one (by kernel_rfl) rfl (okWide_bool_mk Try.underlying4 _))⟩

theorem over : Rows.commitOpensRow.holds Try.pinned (OpenSpec.ofChange Rows.commitOpensSpec) :=
  OpenClaim.holds_of_wide 10 Try.f10 rfl rfl rfl rfl rfl rfl rfl ⟨rfl, rfl, rfl, rfl, rfl⟩ rfl rfl rfl rfl rfl (by kernel_rfl) Try.func10 (by kernel_rfl)
    (of_decide_eq_true (by kernel_rfl)) (by unfold Func.isWrapper; first | (rw [if_pos (by decide +kernel)]; kernel_rfl) | (rw [if_neg (by decide +kernel)]; exact ⟨rfl, rfl⟩))
    (fun os started H enc _ => lifted os started H enc)

/-- THE STATEMENT -/
theorem proved : Rows.CommitOpensSaid :=
  over
#print axioms proved
end Go.Proofs.Ytdlbcbdfcjfagaa.commitOpens
