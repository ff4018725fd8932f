/-
  PROVED HERE: what table.Right answers.
  CONDITIONS: each lemma names its own.
-/
import Derived.Test.YtooagoikiafgcaaTabFunc
namespace Go.Proofs.Ytooagoikiafgcaa.tab
set_option linter.unusedVariables false
open Go.RowKit Go.Proofs.Ytooagoikiafgcaa.base Go.Proofs.Ytooagoikiafgcaa.obj Go.Proofs.Ytooagoikiafgcaa.mem Go.Proofs.Ytooagoikiafgcaa.sep Go.Proofs.Ytooagoikiafgcaa.plan

def chanOk (n : Nat) (x : T3) : Bool := okr x.a 0 ((n : Int) - 1) && (okr x.b 0 ((n : Int) - 1) && (!(x.a == x.b) && okr x.c 0 4))
def Tab.right (t : Tab) : Bool := okr t.frame 1 64 && (okr t.trial 1 7 && (okr t.parts.length 2 4 && (!(t.parts.any fun x => !x.part) && (t.winsR && (decide (t.chans.length ≤ 4) && !(t.chans.any fun x => !chanOk t.parts.length x))))))
theorem hcf_bad (w : World) (x : T3) : (callFunc 96 (#[x.agg] ++ #[])).run Try.prog w = .ok (.enter 96 (#[x.agg] ++ #[])) w := by kernel_rfl
theorem hcf_chan (T : Nat) (w : World) (x : T3) : (callFunc 99 (#[x.agg] ++ #[.pointer (some ⟨T, 0, none⟩)])).run Try.prog w = .ok (.enter 99 (#[x.agg] ++ #[.pointer (some ⟨T, 0, none⟩)])) w := by kernel_rfl
section
variable {w : World} {t : Tab} {AP AW AC : Option Addr} {nP cP nW cW nC cC : Nat}
set_option maxHeartbeats 4000000 in
theorem chan_at (h : TabV w w.heap.size t AP nP cP AW nW cW AC nC cC) {T : Nat} (hr : Row w T 39 (tabRow t.frame AP nP cP AW nW cW AC nC cC t.trial)) (x : T3) :
    Calls Try.prog 99 #[x.agg, .pointer (some ⟨T, 0, none⟩)] w fun e w' => e = .returned (.bool (!chanOk t.parts.length x)) ∧ Below w.heap.size w w' := by
  obtain ⟨xa, xb, xc⟩ := x
  have HK := Lib.hid (show chanOk t.parts.length ⟨xa, xb, xc⟩ = (okr xa 0 ((t.parts.length : Int) - 1) && (okr xb 0 ((t.parts.length : Int) - 1) && (!(xa == xb) && okr xc 0 4))) from rfl)
  obtain ⟨Z, hZ⟩ : ∃ Z, Z = w.heap.size := ⟨_, rfl⟩
  obtain ⟨w1, hw1⟩ : ∃ w1, w1 = w.alloc (.cells #[.int .i64 xa, .int .i64 xb, .int .i64 xc] 139) := ⟨_, rfl⟩
  have H1 := Lib.hid (show St w w1 [row Z 139 [.int .i64 xa, .int .i64 xb, .int .i64 xc]] by rw [hw1, hZ]; exact (St.nil w).new _ _)
  have HR := Lib.hid (fun (w' : World) (hb : Below w.heap.size w w') => hr.below hb hr.lt)
  have HHAS := Lib.hid (fun (w' : World) (hb : Below w.heap.size w w') (p : Int) => has_at (h.over hb) p)
  obtain ⟨fr, hfr⟩ : ∃ fr, fr = t.frame := ⟨_, rfl⟩
  obtain ⟨tr, htr⟩ : ∃ tr, tr = t.trial := ⟨_, rfl⟩
  rw [← hfr, ← htr] at HHAS HR
  have HZ := Lib.hid hZ; have HW1 := Lib.hid hw1
  have lT := Lib.hid hr.lt
  clear h hr hZ hw1 hfr htr
  go_enter Try.func99, Try.ntmps99
  go_upto_region 1 with fail
  rw [← HW1.out, ← HZ.out]
  have rows : ∀ w', Below w.heap.size w w' → w'.cell? ⟨T, 0, none⟩ = some (.int .i64 fr) ∧ w'.cell? ⟨T, 1, none⟩ = some (.slice AP nP cP) ∧ w'.cell? ⟨T, 2, none⟩ = some (.slice AW nW cW) ∧ w'.cell? ⟨T, 3, none⟩ = some (.slice AC nC cC) ∧ w'.cell? ⟨T, 4, none⟩ = some (.int .i64 tr) :=
    fun w' hb => ⟨(HR.out w' hb).cell 0, (HR.out w' hb).cell 1, (HR.out w' hb).cell 2, (HR.out w' hb).cell 3, (HR.out w' hb).cell 4⟩
  obtain ⟨t0, t1, t2, t3, t4⟩ := rows w1 H1.out.bel
  have lt : T < w1.heap.size := (HR.out w1 H1.out.bel).lt
  have HROWS := Lib.hid rows
  clear rows
  have z0 : w1.cell? ⟨Z, 0, none⟩ = some (.int .i64 xa) := H1.out.row.1.cell 0
  have lz : Z < w1.heap.size := H1.out.row.1.lt
  go_wp2_with (fail)
  refine (HHAS.out w1 H1.out.bel xa).mono ?_
  rintro e w2 ⟨rfl, hb⟩
  have H2 := Lib.hid (H1.out.below hb)
  clear hb t0 t1 t2 t3 t4 lt z0 lz H1
  obtain ⟨t0, t1, t2, t3, t4⟩ := HROWS.out w2 H2.out.bel
  have lt : T < w2.heap.size := (HR.out w2 H2.out.bel).lt
  have z0 : w2.cell? ⟨Z, 0, none⟩ = some (.int .i64 xa) := H2.out.row.1.cell 0
  have z1 : w2.cell? ⟨Z, 1, none⟩ = some (.int .i64 xb) := H2.out.row.1.cell 1
  have lz : Z < w2.heap.size := H2.out.row.1.lt
  cases h1 : okr xa 0 ((t.parts.length : Int) - 1)
  · have HQ := Lib.hid (show (!chanOk t.parts.length ⟨xa, xb, xc⟩) = true by rw [HK.out, h1]; rfl)
    go_wp2_with (fail)
    go_ret
    exact ⟨ret_bool HQ.out.symm, H2.out.bel⟩
  · rw [h1, Bool.true_and] at HK
    go_wp2_with (fail)
    refine (HHAS.out w2 H2.out.bel xb).mono ?_
    rintro e w3 ⟨rfl, hb⟩
    have H3 := Lib.hid (H2.out.below hb)
    clear hb t0 t1 t2 t3 t4 lt z0 z1 lz H2
    have z0 : w3.cell? ⟨Z, 0, none⟩ = some (.int .i64 xa) := H3.out.row.1.cell 0
    have z1 : w3.cell? ⟨Z, 1, none⟩ = some (.int .i64 xb) := H3.out.row.1.cell 1
    have z2 : w3.cell? ⟨Z, 2, none⟩ = some (.int .i64 xc) := H3.out.row.1.cell 2
    have lz : Z < w3.heap.size := H3.out.row.1.lt
    cases h2 : okr xb 0 ((t.parts.length : Int) - 1)
    · have HQ := Lib.hid (show (!chanOk t.parts.length ⟨xa, xb, xc⟩) = true by rw [HK.out, h2]; rfl)
      go_wp2_with (fail)
      go_ret
      exact ⟨ret_bool HQ.out.symm, H3.out.bel⟩
    · rw [h2, Bool.true_and] at HK
      cases h3 : (xa == xb)
      · rw [h3, Bool.not_false, Bool.true_and] at HK
        have HQ := Lib.hid (show (!chanOk t.parts.length ⟨xa, xb, xc⟩) = !okr xc 0 4 by rw [HK.out])
        go_wp2_with (fail)
        refine (in_at _ _ _ _).mono ?_
        rintro e w4 ⟨rfl, rfl⟩
        go_wp2_with (fail)
        go_ret
        exact ⟨ret_bool HQ.out.symm, H3.out.bel⟩
      · have HQ := Lib.hid (show (!chanOk t.parts.length ⟨xa, xb, xc⟩) = true by rw [HK.out, h3]; rfl)
        go_wp2_with (fail)
        go_ret
        exact ⟨ret_bool HQ.out.symm, H3.out.bel⟩
set_option maxRecDepth 100000 in
set_option maxHeartbeats 8000000 in
theorem right_at (h : TabV w w.heap.size t AP nP cP AW nW cW AC nC cC) : Calls Try.prog 59 #[tabAgg t.frame AP nP cP AW nW cW AC nC cC t.trial] w fun e w' => e = .returned (.bool t.right) ∧ Below w.heap.size w w' := by
  have HV := Lib.hid h
  have HK := Lib.hid (show t.right = (okr t.frame 1 64 && (okr t.trial 1 7 && (okr t.parts.length 2 4 && (!(t.parts.any fun x => !x.part) && (t.winsR && (decide (t.chans.length ≤ 4) && !(t.chans.any fun x => !chanOk t.parts.length x))))))) from rfl)
  rw [← h.lp, ← h.lc] at HK
  obtain ⟨T, hT⟩ : ∃ T, T = w.heap.size := ⟨_, rfl⟩
  obtain ⟨w1, hw1⟩ : ∃ w1, w1 = w.alloc (.cells #[.int .i64 t.frame, .slice AP nP cP, .slice AW nW cW, .slice AC nC cC, .int .i64 t.trial] 39) := ⟨_, rfl⟩
  have H1 := Lib.hid (show St w w1 [row T 39 (tabRow t.frame AP nP cP AW nW cW AC nC cC t.trial)] by rw [hw1, hT]; exact (St.nil w).new _ _)
  have HCH := Lib.hid (fun (w' : World) (hs : St w w' [row T 39 (tabRow t.frame AP nP cP AW nW cW AC nC cC t.trial)]) (x : T3) => chan_at (h.over hs.bel) hs.row.1 x)
  have HWI := Lib.hid (fun (w' : World) (hb : Below w.heap.size w w') (hf : okr t.frame 1 64 = true) => windows_at (h.over hb) hf)
  obtain ⟨fr, hfr⟩ : ∃ fr, fr = t.frame := ⟨_, rfl⟩
  obtain ⟨tr, htr⟩ : ∃ tr, tr = t.trial := ⟨_, rfl⟩
  rw [← hfr, ← htr] at HCH H1 HK HWI hw1 ⊢
  have HW1 := Lib.hid hw1; have HT := Lib.hid hT
  clear h hw1 hT hfr htr
  go_enter Try.func59, Try.ntmps59
  go_upto_region 1 with fail
  rw [← HW1.out, ← HT.out]
  have t0 : w1.cell? ⟨T, 0, none⟩ = some (.int .i64 fr) := H1.out.row.1.cell 0
  have t1 : w1.cell? ⟨T, 1, none⟩ = some (.slice AP nP cP) := H1.out.row.1.cell 1
  have t2 : w1.cell? ⟨T, 2, none⟩ = some (.slice AW nW cW) := H1.out.row.1.cell 2
  have t3 : w1.cell? ⟨T, 3, none⟩ = some (.slice AC nC cC) := H1.out.row.1.cell 3
  have t4 : w1.cell? ⟨T, 4, none⟩ = some (.int .i64 tr) := H1.out.row.1.cell 4
  have lT := H1.out.row.1.lt
  cases h1 : okr fr 1 64
  · have HQ := Lib.hid (show t.right = false by rw [HK.out, h1]; rfl)
    go_wp2_with (go_at_call 94; refine (in_at _ _ _ _).mono ?_; rintro e w' ⟨rfl, rfl⟩)
    go_ret
    exact ⟨ret_bool HQ.out.symm, H1.out.bel⟩
  rw [h1, Bool.true_and] at HK
  cases h2 : okr tr 1 7
  · have HQ := Lib.hid (show t.right = false by rw [HK.out, h2]; rfl)
    go_wp2_with (go_at_call 94; refine (in_at _ _ _ _).mono ?_; rintro e w' ⟨rfl, rfl⟩)
    go_ret
    exact ⟨ret_bool HQ.out.symm, H1.out.bel⟩
  rw [h2, Bool.true_and] at HK
  cases h3 : okr nP 2 4
  · have HQ := Lib.hid (show t.right = false by rw [HK.out, h3]; rfl)
    go_wp2_with (go_at_call 94; refine (in_at _ _ _ _).mono ?_; rintro e w' ⟨rfl, rfl⟩)
    go_ret
    exact ⟨ret_bool HQ.out.symm, H1.out.bel⟩
  rw [h3, Bool.true_and] at HK
  have HWI2 := Lib.hid (fun (w' : World) (hb : Below w.heap.size w w') => HWI.out w' hb h1)
  go_upto_region 3 with (go_at_call 94; refine (in_at _ _ _ _).mono ?_; rintro e w' ⟨rfl, rfl⟩)
  clear h1 h2 h3
  go_wp2_with (fail)
  refine (contains_part w' AP nP cP t.parts HV.out.lp HV.out.mp (HV.out.over H1.out.bel).ps 96 #[] (fun x => !x.part) hcf_bad (fun w2 x _ => bad_at w2 x)).mono ?_
  rintro e w2 ⟨rfl, hb2⟩
  have H2 := Lib.hid (H1.out.below hb2)
  clear hb2 t0 t1 t2 t3 t4 lT
  by_cases h4 : (t.parts.any fun x => !x.part) = true
  · have HQ := Lib.hid (show t.right = false by rw [HK.out, h4]; rfl)
    rw [h4]
    clear h4
    go_wp2_with (fail)
    go_ret
    exact ⟨ret_bool HQ.out.symm, H2.out.bel⟩
  rw [Bool.not_eq_true] at h4
  rw [h4]
  rw [h4, Bool.not_false, Bool.true_and] at HK
  clear h4
  have t0 : w2.cell? ⟨T, 0, none⟩ = some (.int .i64 fr) := H2.out.row.1.cell 0
  have t1 : w2.cell? ⟨T, 1, none⟩ = some (.slice AP nP cP) := H2.out.row.1.cell 1
  have t2 : w2.cell? ⟨T, 2, none⟩ = some (.slice AW nW cW) := H2.out.row.1.cell 2
  have t3 : w2.cell? ⟨T, 3, none⟩ = some (.slice AC nC cC) := H2.out.row.1.cell 3
  have t4 : w2.cell? ⟨T, 4, none⟩ = some (.int .i64 tr) := H2.out.row.1.cell 4
  have lT := H2.out.row.1.lt
  go_wp2_with (fail)
  refine (HWI2.out w2 H2.out.bel).mono ?_
  rintro e w3 ⟨rfl, hb3⟩
  have H3 := Lib.hid (H2.out.below hb3)
  clear hb3 t0 t1 t2 t3 t4 lT
  cases h5 : t.winsR
  · have HQ := Lib.hid (show t.right = false by rw [HK.out, h5]; rfl)
    clear h5
    go_wp2_with (fail)
    go_ret
    exact ⟨ret_bool HQ.out.symm, H3.out.bel⟩
  rw [h5, Bool.true_and] at HK
  clear h5
  have t3 : w3.cell? ⟨T, 3, none⟩ = some (.slice AC nC cC) := H3.out.row.1.cell 3
  have lT := H3.out.row.1.lt
  by_cases h6 : nC ≤ 4
  · have h6' : ¬ (nC : Int) > 4 := by omega
    rw [decide_eq_true h6, Bool.true_and] at HK
    go_wp2_with (fail)
    refine (contains_chan w3 AC nC cC t.chans HV.out.lc HV.out.mc (HV.out.over H3.out.bel).cs 99 #[.pointer (some ⟨T, 0, none⟩)] (fun x => !chanOk t.parts.length x) (hcf_chan T) (fun w4 x hb => HCH.out w4 (H3.out.below hb) x)).mono ?_
    rintro e w4 ⟨rfl, hb4⟩
    have H4 := Lib.hid (H3.out.below hb4)
    clear hb4 t3 lT
    go_wp2_with (fail)
    go_ret
    exact ⟨ret_bool (by rw [HK.out, HV.out.lp]), H4.out.bel⟩
  · have h6' : (nC : Int) > 4 := by omega
    have HQ := Lib.hid (show t.right = false by rw [HK.out, decide_eq_false h6]; rfl)
    go_wp2_with (fail)
    go_ret
    exact ⟨ret_bool HQ.out.symm, H3.out.bel⟩
end
end Go.Proofs.Ytooagoikiafgcaa.tab
