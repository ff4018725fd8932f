/-
  PROVED HERE: what table.Window, the document's Window, Pos and Path answer, and slices.Contains of numbers.
  CONDITIONS: each lemma names its own.
-/
import Derived.Test.YtooagoikiafgcaaTabReach
import Derived.Test.YtooagoikiafgcaaSegs
namespace Go.Proofs.Ytooagoikiafgcaa.tab
set_option linter.unusedVariables false
open Go.RowKit Go.Proofs.Ytooagoikiafgcaa.base Go.Proofs.Ytooagoikiafgcaa.obj Go.Proofs.Ytooagoikiafgcaa.mem Go.Proofs.Ytooagoikiafgcaa.sep Go.Proofs.Ytooagoikiafgcaa.plan

def winP (pos : Int) (x : T3) : Bool := decide (x.b ≤ pos) && decide (pos < wrap64 (x.b + x.c))
theorem hcf_win (T : Nat) (w : World) (x : T3) : (callFunc 138 (#[x.agg] ++ #[.pointer (some ⟨T, 0, none⟩)])).run Try.prog w = .ok (.enter 138 (#[x.agg] ++ #[.pointer (some ⟨T, 0, none⟩)])) w := by kernel_rfl
set_option maxHeartbeats 2000000 in
theorem winP_at (w : World) (T : Nat) (pos : Int) (hr : w.cell? ⟨T, 0, none⟩ = some (.int .i64 pos)) (hl : T < w.heap.size) (x : T3) :
    Calls Try.prog 138 #[x.agg, .pointer (some ⟨T, 0, none⟩)] w fun e w' => e = .returned (.bool (winP pos x)) ∧ Below w.heap.size w w' := by
  obtain ⟨xa, xb, xc⟩ := x
  have HK := Lib.hid (show winP pos ⟨xa, xb, xc⟩ = (decide (xb ≤ pos) && decide (pos < wrap64 (xb + xc))) from rfl)
  have HB := Lib.hid ((Below.refl w.heap.size w).alloc (Nat.le_refl _) (.cells #[.int .i64 xa, .int .i64 xb, .int .i64 xc] 137))
  go_enter Try.func138, Try.ntmps138
  by_cases h1 : pos ≥ xb
  · have HR := Lib.hid (show winP pos ⟨xa, xb, xc⟩ = decide (pos < wrap64 (xb + xc)) by rw [HK.out, decide_eq_true (show xb ≤ pos by omega)]; rfl)
    go_wp2_with (fail)
    go_ret
    exact ⟨ret_bool HR.out.symm, HB.out⟩
  · have HR := Lib.hid (show winP pos ⟨xa, xb, xc⟩ = false by rw [HK.out, decide_eq_false (show ¬ xb ≤ pos by omega)]; rfl)
    go_wp2_with (fail)
    go_ret
    exact ⟨ret_bool HR.out.symm, HB.out⟩
section
variable {w : World} {t : Tab} {AP AW AC : Option Addr} {nP cP nW cW nC cC : Nat}
def winAt (t : Tab) (pos : Int) : Int := if t.right then findI (winP pos) t.wins else -1
set_option maxRecDepth 100000 in
set_option maxHeartbeats 4000000 in
theorem window_at (h : TabV w w.heap.size t AP nP cP AW nW cW AC nC cC) (pos : Int) : Calls Try.prog 122 #[tabAgg t.frame AP nP cP AW nW cW AC nC cC t.trial, .int .i64 pos] w fun e w' => e = .returned (.int .i64 (winAt t pos)) ∧ Below w.heap.size w w' := by
  have HV := Lib.hid h
  obtain ⟨T, hT⟩ : ∃ T, T = w.heap.size := ⟨_, rfl⟩
  obtain ⟨V, hV⟩ : ∃ V, V = w.heap.size + 1 := ⟨_, rfl⟩
  obtain ⟨w1, hw1⟩ : ∃ w1, w1 = (w.alloc (.cells #[.int .i64 t.frame, .slice AP nP cP, .slice AW nW cW, .slice AC nC cC, .int .i64 t.trial] 39)).alloc (.cells #[.int .i64 pos] 3) := ⟨_, rfl⟩
  have H1 := Lib.hid (show St w w1 [row V 3 [.int .i64 pos], row T 39 (tabRow t.frame AP nP cP AW nW cW AC nC cC t.trial)] by
    rw [hw1, hT, hV]
    have h := ((St.nil w).new 39 #[.int .i64 t.frame, .slice AP nP cP, .slice AW nW cW, .slice AC nC cC, .int .i64 t.trial]).new 3 #[.int .i64 pos]
    simp only [World.size_alloc] at h
    exact h)
  have HRT := Lib.hid (fun (w' : World) (hb : Below w.heap.size w w') => right_at (h.over hb))
  obtain ⟨fr, hfr⟩ : ∃ fr, fr = t.frame := ⟨_, rfl⟩
  obtain ⟨tr, htr⟩ : ∃ tr, tr = t.trial := ⟨_, rfl⟩
  rw [← hfr, ← htr] at H1 HRT hw1 ⊢
  have HW1 := Lib.hid hw1; have HT := Lib.hid hT; have HVV := Lib.hid hV
  clear h hw1 hT hV hfr htr
  go_enter Try.func122, Try.ntmps122
  go_upto_region 1 with fail
  rw [← HW1.out, ← HVV.out, ← HT.out]
  have t0 : w1.cell? ⟨T, 0, none⟩ = some (.int .i64 fr) := (H1.out.pick 1 rfl).row.1.cell 0
  have t1 : w1.cell? ⟨T, 1, none⟩ = some (.slice AP nP cP) := (H1.out.pick 1 rfl).row.1.cell 1
  have t2 : w1.cell? ⟨T, 2, none⟩ = some (.slice AW nW cW) := (H1.out.pick 1 rfl).row.1.cell 2
  have t3 : w1.cell? ⟨T, 3, none⟩ = some (.slice AC nC cC) := (H1.out.pick 1 rfl).row.1.cell 3
  have t4 : w1.cell? ⟨T, 4, none⟩ = some (.int .i64 tr) := (H1.out.pick 1 rfl).row.1.cell 4
  have lT : T < w1.heap.size := (H1.out.pick 1 rfl).row.1.lt
  go_wp2_with (fail)
  refine (HRT.out w1 H1.out.bel).mono ?_
  rintro e w2 ⟨rfl, hb2⟩
  have H2 := Lib.hid (H1.out.below hb2)
  clear hb2 t0 t1 t2 t3 t4 lT
  cases hr : t.right
  · have HL := Lib.hid (show winAt t pos = -1 by unfold winAt; rw [hr]; rfl)
    clear hr
    go_wp2_with (fail)
    go_ret
    exact ⟨ret_int HL.out.symm, H2.out.bel⟩
  have HL := Lib.hid (show winAt t pos = findI (winP pos) t.wins by unfold winAt; rw [hr]; rfl)
  have t2 : w2.cell? ⟨T, 2, none⟩ = some (.slice AW nW cW) := (H2.out.pick 1 rfl).row.1.cell 2
  have lT : T < w2.heap.size := (H2.out.pick 1 rfl).row.1.lt
  clear hr
  go_wp2_with (fail)
  refine (index_win w2 AW nW cW t.wins HV.out.lw HV.out.mw (HV.out.over H2.out.bel).ws 138 #[.pointer (some ⟨V, 0, none⟩)] (winP pos) (hcf_win V) (fun w4 x hb => winP_at w4 V pos ((H2.out.below hb).row.1.cell 0) (H2.out.below hb).row.1.lt x)).mono ?_
  rintro e w3 ⟨rfl, hb3⟩
  have H3 := Lib.hid (H2.out.below hb3)
  clear hb3 t2 lT
  go_wp2_with (fail)
  go_ret
  exact ⟨ret_int HL.out.symm, H3.out.bel⟩
/-- a right table's windows -/
theorem winsOk_each {n : Nat} {fr : Int} : ∀ {l : List T3} {e : Int}, 0 ≤ e → winsOk n fr e l = true → ∀ x ∈ l, 0 ≤ x.b ∧ 1 ≤ x.c ∧ x.b + x.c ≤ fr ∧ (okr x.a 0 ((n : Int) - 1) = true)
  | [], _, _, _, x, hx => absurd hx (by simp)
  | y :: l, e, he, h, x, hx => by
    rw [winsOk, Bool.and_eq_true] at h
    obtain ⟨g1, g2, g3, g4, g5⟩ := winOk_true h.1
    rcases List.mem_cons.1 hx with rfl | hx
    · exact ⟨by omega, g4, by omega, g1⟩
    · exact winsOk_each (by omega) h.2 x hx
theorem right_wins {t : Tab} (h : t.right = true) : ∀ x ∈ t.wins, 0 ≤ x.b ∧ 1 ≤ x.c ∧ x.b + x.c ≤ t.frame ∧ okr x.a 0 ((t.parts.length : Int) - 1) = true := by
  simp [Tab.right, Tab.winsR] at h
  exact winsOk_each (Int.le_refl 0) h.2.2.2.2.1.1
theorem right_frame {t : Tab} (h : t.right = true) : 1 ≤ t.frame ∧ t.frame ≤ 64 ∧ 1 ≤ t.trial ∧ t.trial ≤ 7 ∧ 2 ≤ t.parts.length ∧ t.parts.length ≤ 4 ∧ t.wins.length ≤ 8 ∧ t.chans.length ≤ 4 := by
  simp [Tab.right, Tab.winsR, okr] at h
  omega
set_option maxRecDepth 100000 in
set_option maxHeartbeats 4000000 in
theorem rwin_at (h : TabV w w.heap.size t AP nP cP AW nW cW AC nC cC) (hr : t.right = true) (pos : Int) : Calls Try.prog 65 #[tabAgg t.frame AP nP cP AW nW cW AC nC cC t.trial, .int .i64 pos] w fun e w' => e = .returned (.int .i64 (winAt t pos)) ∧ Below w.heap.size w w' := by
  have HV := Lib.hid h
  have HL := Lib.hid (show winAt t pos = findI (winP pos) t.wins by unfold winAt; rw [hr]; rfl)
  have HWS := Lib.hid (right_wins hr)
  obtain ⟨q1, q2, q3, q4, q5, q6, q7, q8⟩ := right_frame hr
  rw [← h.lw] at q7
  obtain ⟨T, hT⟩ : ∃ T, T = w.heap.size := ⟨_, rfl⟩
  obtain ⟨w1, hw1⟩ : ∃ w1, w1 = w.alloc (.cells #[.int .i64 t.frame, .slice AP nP cP, .slice AW nW cW, .slice AC nC cC, .int .i64 t.trial] 39) := ⟨_, rfl⟩
  have H1 := Lib.hid (show St w w1 [row T 39 (tabRow t.frame AP nP cP AW nW cW AC nC cC t.trial)] by rw [hw1, hT]; exact (St.nil w).new _ _)
  obtain ⟨fr, hfr⟩ : ∃ fr, fr = t.frame := ⟨_, rfl⟩
  obtain ⟨tr, htr⟩ : ∃ tr, tr = t.trial := ⟨_, rfl⟩
  rw [← hfr] at q1 q2 HWS
  rw [← hfr, ← htr] at H1 hw1 ⊢
  have HW1 := Lib.hid hw1; have HT := Lib.hid hT
  clear h hw1 hT hfr htr hr q3 q4 q5 q6 q8
  go_enter Try.func65, Try.ntmps65
  go_upto_region 1 with fail
  rw [← HW1.out, ← HT.out]
  go_wp2_with (fail)
  go_loopw [5] (fun i wr => ∃ k : Nat, k ≤ nW ∧ i = .int .i64 k ∧ ((t.wins.take k).any (winP pos)) = false ∧ St w wr [row T 39 (tabRow fr AP nP cP AW nW cW AC nC cC tr)]) (fun i _ => nW - (intOf i).toNat)
  case atStart => exact ⟨0, by omega, rfl, by simp, H1.out⟩
  case round =>
    obtain ⟨k, hk, rfl, hno, hst⟩ := hrel
    have HST := Lib.hid hst; have HNO := Lib.hid hno
    clear hst hno H1
    have t2 : wr.cell? ⟨T, 2, none⟩ = some (.slice AW nW cW) := HST.out.row.1.cell 2
    have lT : T < wr.heap.size := HST.out.row.1.lt
    by_cases hlt : k < nW
    · have hlt' : (k : Int) < (nW : Int) := by omega
      have hk0 : (0 : Int) ≤ (k : Int) := by omega
      have hkl : k < t.wins.length := by rw [← HV.out.lw]; exact hlt
      obtain ⟨b, off, rfl, lb, c0, c1, c2⟩ := t3s_get (HV.out.over HST.out.bel).ws HV.out.lw hkl
      have HY := Lib.hid (fun h => findI_hit HNO.out hkl h)
      have HZ := Lib.hid (fun h => find_next HNO.out hkl h)
      obtain ⟨x1, x2, x3, _⟩ := HWS.out _ (List.getElem_mem hkl)
      generalize t.wins[k] = x at c0 c1 c2 HY HZ x1 x2 x3
      obtain ⟨xa, xb, xc⟩ := x
      dsimp only at c0 c1 c2 x1 x2 x3
      have HP := Lib.hid (show winP pos ⟨xa, xb, xc⟩ = decide (xb ≤ pos ∧ pos < xb + xc) by
        unfold winP
        dsimp only
        rw [IntWalk.wrap64_in (xb + xc) (by omega)]
        simp)
      obtain ⟨L, hL⟩ : ∃ L : Nat, (L : Int) = xc := ⟨xc.toNat, by omega⟩
      have hL64 : L ≤ 64 := by omega
      rw [← hL] at c2
      have hb64 : xb ≤ 64 := by omega
      have HLL := Lib.hid hL
      clear hL
      go_upto_region 5 with fail
      go_loopw [6] (fun i wx => ∃ j : Nat, j ≤ L ∧ i = .int .i64 j ∧ wx = wr ∧ ¬ (xb ≤ pos ∧ pos < xb + j)) (fun i _ => L - (intOf i).toNat)
      case atStart => exact ⟨0, by omega, rfl, rfl, by omega⟩
      case round =>
        obtain ⟨j, hj, rfl, hw, hnot⟩ := hrel
        rw [hw]
        clear hw
        by_cases hjl : j < L
        · have hjl' : (j : Int) < (L : Int) := by omega
          have HNT := Lib.hid hnot
          clear hnot
          by_cases hp : xb + (j : Int) = pos
          · have b1 : (xb + (j : Int) == pos) = true := by simpa using hp
            have HQ := Lib.hid (HY.out (by rw [HP.out, ← HLL.out]; simp; omega))
            clear hp HY HZ
            go_wp2_with (fail)
            go_ret
            exact ⟨ret_int (by rw [HL.out, HQ.out]), HST.out.bel⟩
          · have b1 : (xb + (j : Int) == pos) = false := by simpa using hp
            have HN2 := Lib.hid (show ¬ (xb ≤ pos ∧ pos < xb + ((j + 1 : Nat) : Int)) by have := HNT.out; omega)
            clear hp
            go_wp2_with (fail)
            go_roundw
            case rel => exact ⟨j + 1, by omega, by go_num, by trivial, HN2.out⟩
            case measure => simp [intOf] <;> omega
        · have hjL : j = L := by omega
          have hjl' : ¬ (j : Int) < (L : Int) := by omega
          have HQ := Lib.hid (HZ.out (by rw [HP.out, ← HLL.out, ← hjL]; simpa using hnot))
          clear hjL hnot
          go_wp2_with (fail)
          go_roundw
          case rel => exact ⟨k + 1, by omega, by go_num, HQ.out, HST.out⟩
          case measure => simp [intOf] <;> omega
    · have hkn : k = nW := by omega
      have hlt' : ¬ (k : Int) < (nW : Int) := by omega
      have HQ := Lib.hid (show winAt t pos = -1 by
        have h := HNO.out
        rw [List.take_of_length_le (by rw [← HV.out.lw]; omega)] at h
        rw [HL.out, findI_none h])
      clear hkn
      go_wp2_with (fail)
      go_ret
      exact ⟨ret_int HQ.out.symm, HST.out.bel⟩
set_option maxRecDepth 100000 in
set_option maxHeartbeats 4000000 in
theorem pos_at (h : TabV w w.heap.size t AP nP cP AW nW cW AC nC cC) (hr : t.right = true) (tick : Int) (h0 : 0 ≤ tick) (h1 : tick ≤ 9223372036854775807) : Calls Try.prog 64 #[tabAgg t.frame AP nP cP AW nW cW AC nC cC t.trial, .int .i64 tick] w fun e w' => e = .returned (.int .i64 (tick % t.frame)) ∧ Below w.heap.size w w' := by
  obtain ⟨q1, q2, _⟩ := right_frame hr
  obtain ⟨T, hT⟩ : ∃ T, T = w.heap.size := ⟨_, rfl⟩
  obtain ⟨w1, hw1⟩ : ∃ w1, w1 = w.alloc (.cells #[.int .i64 t.frame, .slice AP nP cP, .slice AW nW cW, .slice AC nC cC, .int .i64 t.trial] 39) := ⟨_, rfl⟩
  have H1 := Lib.hid (show St w w1 [row T 39 (tabRow t.frame AP nP cP AW nW cW AC nC cC t.trial)] by rw [hw1, hT]; exact (St.nil w).new _ _)
  obtain ⟨fr, hfr⟩ : ∃ fr, fr = t.frame := ⟨_, rfl⟩
  obtain ⟨tr, htr⟩ : ∃ tr, tr = t.trial := ⟨_, rfl⟩
  rw [← hfr] at q1 q2
  rw [← hfr, ← htr] at H1 hw1 ⊢
  have HW1 := Lib.hid hw1; have HT := Lib.hid hT
  obtain ⟨q, hq⟩ : ∃ q, q = tick / fr := ⟨_, rfl⟩
  have hdm : fr * q + tick % fr = tick := by rw [hq]; exact Int.mul_ediv_add_emod tick fr
  have hm0 : 0 ≤ tick % fr := Int.emod_nonneg _ (by omega)
  have hq0 : 0 ≤ q := by rw [hq]; exact Int.ediv_nonneg h0 (by omega)
  have hmc : q * fr = fr * q := Int.mul_comm _ _
  have htd : tick.tdiv fr = q := by rw [hq]; exact Int.tdiv_eq_ediv_of_nonneg h0
  have HSUB := Lib.hid (show tick - q * fr = tick % fr by omega)
  have hqf0 : 0 ≤ q * fr := Int.mul_nonneg hq0 (by omega)
  have hqf1 : q * fr ≤ tick := by omega
  have hqt : q ≤ tick := by
    have : q * 1 ≤ q * fr := Int.mul_le_mul_of_nonneg_left q1 hq0
    omega
  clear h hw1 hT hfr htr hr hq hdm hm0 hmc
  have t0 : w1.cell? ⟨T, 0, none⟩ = some (.int .i64 fr) := H1.out.row.1.cell 0
  have lT : T < w1.heap.size := H1.out.row.1.lt
  go_enter Try.func64, Try.ntmps64
  go_upto_region 1 with fail
  rw [← HW1.out, ← HT.out]
  refine wp_region_plan [0, 1, 2, 5, 3] [[4, 6, 7, 8, 9], [6, 4, 7, 8, 9]] (by kernel_rfl) (by kernel_rfl) (fun _ _ _ _ _ h => h) ?_
  simp only [forks, pick, List.getElem?_cons_succ, List.getElem?_cons_zero, Option.getD_some]
  iterate 5 still_step
  refine wpStill_nil ?_
  refine ⟨?_, ?_⟩
  all_goals
    go_wp2_with (fail)
    go_ret
    exact ⟨ret_int HSUB.out, H1.out.bel.drew⟩
set_option maxRecDepth 100000 in
set_option maxHeartbeats 8000000 in
theorem path_at {AP AW AC : Option Addr} {nP cP nW cW nC cC : Nat} {t : Tab} (b : Int) : ∀ (k : Nat), k ≤ 1000 → ∀ (a : Int) (w : World), TabV w w.heap.size t AP nP cP AW nW cW AC nC cC →
    Calls Try.prog 63 #[tabAgg t.frame AP nP cP AW nW cW AC nC cC t.trial, .int .i64 a, .int .i64 b, .int .i64 k] w fun e w' => e = .returned (.bool (pathB t.chans k a b)) ∧ Below w.heap.size w w' := by
  intro k
  induction k with
  | zero =>
    intro _ a w h
    have HV := Lib.hid h
    have mc := h.mc
    obtain ⟨T, hT⟩ : ∃ T, T = w.heap.size := ⟨_, rfl⟩
    obtain ⟨w1, hw1⟩ : ∃ w1, w1 = w.alloc (.cells #[.int .i64 t.frame, .slice AP nP cP, .slice AW nW cW, .slice AC nC cC, .int .i64 t.trial] 39) := ⟨_, rfl⟩
    have H1 := Lib.hid (show St w w1 [row T 39 (tabRow t.frame AP nP cP AW nW cW AC nC cC t.trial)] by rw [hw1, hT]; exact (St.nil w).new _ _)
    obtain ⟨fr, hfr⟩ : ∃ fr, fr = t.frame := ⟨_, rfl⟩
    obtain ⟨tr, htr⟩ : ∃ tr, tr = t.trial := ⟨_, rfl⟩
    rw [← hfr, ← htr] at H1 hw1 ⊢
    have HW1 := Lib.hid hw1; have HT := Lib.hid hT
    have HPB := Lib.hid (show pathB t.chans 0 a b = (a == b) from rfl)
    obtain ⟨m, hm⟩ : ∃ m : Nat, m = 0 := ⟨_, rfl⟩
    rw [← hm] at HPB ⊢
    have hm0 : ¬ 0 < m := by omega
    have hm0' : decide ((m : Int) > 0) = false := by simpa using hm
    clear h hw1 hT hfr htr hm
    go_enter Try.func63, Try.ntmps63
    go_upto_region 1 with fail
    rw [← HW1.out, ← HT.out]
    by_cases hab : a = b
    · have b1 : (a == b) = true := by simpa using hab
      have HQ := Lib.hid (show pathB t.chans m a b = true by rw [HPB.out, b1])
      clear hab
      go_wp2_with (fail)
      go_ret
      exact ⟨ret_bool HQ.out.symm, H1.out.bel⟩
    have b1 : (a == b) = false := by simpa using hab
    rw [b1] at HPB
    clear hab
    go_wp2_with (fail)
    go_loopw [9] (fun i wr => ∃ z : Nat, z ≤ nC ∧ i = .int .i64 z ∧ St w wr [row T 39 (tabRow fr AP nP cP AW nW cW AC nC cC tr)]) (fun i _ => nC - (intOf i).toNat)
    case atStart => exact ⟨0, by omega, rfl, H1.out⟩
    case round =>
      obtain ⟨z, hz, rfl, hst⟩ := hrel
      have HST := Lib.hid hst
      clear hst H1
      have t3 : wr.cell? ⟨T, 3, none⟩ = some (.slice AC nC cC) := HST.out.row.1.cell 3
      have lT : T < wr.heap.size := HST.out.row.1.lt
      have hc9 : nC ≤ 9223372036854775807 := by unfold maxLen at mc; omega
      by_cases hlt : z < nC
      · have hlt' : (z : Int) < (nC : Int) := by omega
        go_upto_region 6 with fail
        go_quiet (fail)
        go_wp2_with (fail)
        go_roundw
        case rel => exact ⟨z + 1, by omega, by go_num, HST.out.drewN _⟩
        case measure => simp [intOf] <;> omega
      · have hlt' : ¬ (z : Int) < (nC : Int) := by omega
        go_wp2_with (fail)
        go_ret
        exact ⟨ret_bool HPB.out.symm, HST.out.bel⟩
  | succ k ih =>
    intro hk a w h
    have HV := Lib.hid h
    have mc := h.mc
    have HIH := Lib.hid (fun (w' : World) (hb : Below w.heap.size w w') (a : Int) => ih (by omega) a w' (h.over hb))
    obtain ⟨T, hT⟩ : ∃ T, T = w.heap.size := ⟨_, rfl⟩
    obtain ⟨w1, hw1⟩ : ∃ w1, w1 = w.alloc (.cells #[.int .i64 t.frame, .slice AP nP cP, .slice AW nW cW, .slice AC nC cC, .int .i64 t.trial] 39) := ⟨_, rfl⟩
    have H1 := Lib.hid (show St w w1 [row T 39 (tabRow t.frame AP nP cP AW nW cW AC nC cC t.trial)] by rw [hw1, hT]; exact (St.nil w).new _ _)
    obtain ⟨fr, hfr⟩ : ∃ fr, fr = t.frame := ⟨_, rfl⟩
    obtain ⟨tr, htr⟩ : ∃ tr, tr = t.trial := ⟨_, rfl⟩
    rw [← hfr, ← htr] at H1 hw1 HIH ⊢
    have HW1 := Lib.hid hw1; have HT := Lib.hid hT
    have HPB := Lib.hid (show pathB t.chans (k + 1) a b = ((a == b) || t.chans.any fun x => (x.a == a) && pathB t.chans k x.b b) from rfl)
    obtain ⟨m, hm⟩ : ∃ m : Nat, m = k + 1 := ⟨_, rfl⟩
    rw [← hm] at HPB ⊢
    have hmk : IntKind.i64.wrap ((m : Int) - 1) = (k : Int) := by rw [IntKind.wrap_i64]; omega
    have hm0 : 0 < m := by omega
    have hm0' : decide ((m : Int) > 0) = true := by simpa using hm0
    have hm1 : m ≤ 1000 := by omega
    clear h hw1 hT hfr htr ih hm
    go_enter Try.func63, Try.ntmps63
    go_upto_region 1 with fail
    rw [← HW1.out, ← HT.out]
    by_cases hab : a = b
    · have b1 : (a == b) = true := by simpa using hab
      have HQ := Lib.hid (show pathB t.chans m a b = true by rw [HPB.out, b1]; rfl)
      clear hab
      go_wp2_with (fail)
      go_ret
      exact ⟨ret_bool HQ.out.symm, H1.out.bel⟩
    have b1 : (a == b) = false := by simpa using hab
    rw [b1, Bool.false_or] at HPB
    clear hab
    go_wp2_with (fail)
    go_loopw [9] (fun i wr => ∃ z : Nat, z ≤ nC ∧ i = .int .i64 z ∧ ((t.chans.take z).any fun x => (x.a == a) && pathB t.chans k x.b b) = false ∧ St w wr [row T 39 (tabRow fr AP nP cP AW nW cW AC nC cC tr)]) (fun i _ => nC - (intOf i).toNat)
    case atStart => exact ⟨0, by omega, rfl, by simp, H1.out⟩
    case round =>
      obtain ⟨z, hz, rfl, hno, hst⟩ := hrel
      have HST := Lib.hid hst; have HNO := Lib.hid hno
      clear hst hno H1
      have t0 : wr.cell? ⟨T, 0, none⟩ = some (.int .i64 fr) := HST.out.row.1.cell 0
      have t1 : wr.cell? ⟨T, 1, none⟩ = some (.slice AP nP cP) := HST.out.row.1.cell 1
      have t2 : wr.cell? ⟨T, 2, none⟩ = some (.slice AW nW cW) := HST.out.row.1.cell 2
      have t3 : wr.cell? ⟨T, 3, none⟩ = some (.slice AC nC cC) := HST.out.row.1.cell 3
      have t4 : wr.cell? ⟨T, 4, none⟩ = some (.int .i64 tr) := HST.out.row.1.cell 4
      have lT : T < wr.heap.size := HST.out.row.1.lt
      have hc9 : nC ≤ 9223372036854775807 := by unfold maxLen at mc; omega
      by_cases hlt : z < nC
      · have hlt' : (z : Int) < (nC : Int) := by omega
        have hz0 : (0 : Int) ≤ (z : Int) := by omega
        have hzl : z < t.chans.length := by rw [← HV.out.lc]; exact hlt
        obtain ⟨b', off, rfl, lb, c0, c1, c2⟩ := t3s_get (HV.out.over HST.out.bel).cs HV.out.lc hzl
        have HY := Lib.hid (fun (h : ((t.chans[z].a == a) && pathB t.chans k t.chans[z].b b) = true) => show (t.chans.any fun x => (x.a == a) && pathB t.chans k x.b b) = true from List.any_eq_true.2 ⟨t.chans[z], List.getElem_mem hzl, h⟩)
        have HZ := Lib.hid (fun h => find_next HNO.out hzl h)
        generalize t.chans[z] = x at c0 c1 c2 HY HZ
        obtain ⟨xa, xb, xc⟩ := x
        dsimp only at c0 c1 c2
        by_cases hxa : xa = a
        · have b2 : (xa == a) = true := by simpa using hxa
          clear hxa
          have HC := Lib.hid (HIH.out wr.drew HST.out.bel.drew xb)
          cases hp : pathB t.chans k xb b
          · rw [hp] at HC
            have HQ := Lib.hid (HZ.out (by dsimp only; rw [hp, Bool.and_false]))
            clear hp HY HZ
            go_upto_region 6 with fail
            refine segs_start (by kernel_rfl) ?_
            refine segs_take [0] (by kernel_rfl) (fun _ _ _ _ _ h => h) ?_
            simp only [pick, List.getElem?_cons_zero, Option.getD_some]
            iterate 1 still_step
            refine wpStill_nil ?_
            refine segs_one 1 (by kernel_rfl) (by rfl) ?_
            try simp only [List.getElem?_cons_succ, List.getElem?_cons_zero, Option.getD_some]
            go_simp
            try dsimp only
            try simp only [Act.put, List.setIfInBounds_toArray, List.set_cons_zero, List.set_cons_succ]
            refine segs_take [2, 3, 4, 5, 6, 7, 8, 9] (by kernel_rfl) (fun _ _ _ _ _ h => h) ?_
            simp only [pick, List.getElem?_cons_succ, List.getElem?_cons_zero, Option.getD_some]
            iterate 8 still_step
            refine wpStill_nil ?_
            refine segs_one 10 (by kernel_rfl) (by rfl) ?_
            try simp only [List.getElem?_cons_succ, List.getElem?_cons_zero, Option.getD_some]
            go_simp
            try dsimp only
            try simp only [Act.put, List.setIfInBounds_toArray, List.set_cons_zero, List.set_cons_succ]
            refine segs_take [11, 12, 20, 21] (by kernel_rfl) (fun _ _ _ _ _ h => h) ?_
            simp only [pick, List.getElem?_cons_succ, List.getElem?_cons_zero, Option.getD_some]
            iterate 4 still_step
            refine wpStill_nil ?_
            refine segs_pure 22 (.int .i64 (k : Int)) (by kernel_rfl) (fun _ _ _ _ _ h => h) (by rfl) ?_ ?_
            · intro w2
              try simp only [List.getElem?_cons_succ, List.getElem?_cons_zero, Option.getD_some]
              go_simp
            try simp only [List.getElem?_cons_succ, List.getElem?_cons_zero, Option.getD_some, Act.put, List.setIfInBounds_toArray, List.set_cons_zero, List.set_cons_succ]
            refine segs_take [13, 14, 15, 16, 17, 18, 19] (by kernel_rfl) (fun _ _ _ _ _ h => h) ?_
            simp only [pick, List.getElem?_cons_succ, List.getElem?_cons_zero, Option.getD_some]
            iterate 7 still_step
            refine wpStill_nil ?_
            refine segs_one 23 (by kernel_rfl) (by rfl) ?_
            try simp only [List.getElem?_cons_succ, List.getElem?_cons_zero, Option.getD_some]
            go_simp
            (with_reducible refine HC.out.mono ?_)
            rintro e w2 ⟨rfl, hb2⟩
            have H2 := Lib.hid (HST.out.drew.below hb2)
            clear hb2
            try dsimp only
            try simp only [Act.put, List.setIfInBounds_toArray, List.set_cons_zero, List.set_cons_succ]
            refine segs_take [24] (by kernel_rfl) (fun _ _ _ _ _ h => h) ?_
            simp only [pick, List.getElem?_cons_succ, List.getElem?_cons_zero, Option.getD_some]
            iterate 1 still_step
            refine wpStill_nil ?_
            refine segs_end (by kernel_rfl) ?_
            go_wp2_with (fail)
            go_roundw
            case rel => exact ⟨z + 1, by omega, by go_num, HQ.out, H2.out⟩
            case measure => simp [intOf] <;> omega
          · rw [hp] at HC
            have HQ := Lib.hid (show pathB t.chans m a b = true by rw [HPB.out]; exact HY.out (by dsimp only; rw [hp, b2]; rfl))
            clear hp HY HZ
            go_upto_region 6 with fail
            refine segs_start (by kernel_rfl) ?_
            refine segs_take [0] (by kernel_rfl) (fun _ _ _ _ _ h => h) ?_
            simp only [pick, List.getElem?_cons_zero, Option.getD_some]
            iterate 1 still_step
            refine wpStill_nil ?_
            refine segs_one 1 (by kernel_rfl) (by rfl) ?_
            try simp only [List.getElem?_cons_succ, List.getElem?_cons_zero, Option.getD_some]
            go_simp
            try dsimp only
            try simp only [Act.put, List.setIfInBounds_toArray, List.set_cons_zero, List.set_cons_succ]
            refine segs_take [2, 3, 4, 5, 6, 7, 8, 9] (by kernel_rfl) (fun _ _ _ _ _ h => h) ?_
            simp only [pick, List.getElem?_cons_succ, List.getElem?_cons_zero, Option.getD_some]
            iterate 8 still_step
            refine wpStill_nil ?_
            refine segs_one 10 (by kernel_rfl) (by rfl) ?_
            try simp only [List.getElem?_cons_succ, List.getElem?_cons_zero, Option.getD_some]
            go_simp
            try dsimp only
            try simp only [Act.put, List.setIfInBounds_toArray, List.set_cons_zero, List.set_cons_succ]
            refine segs_take [11, 12, 20, 21] (by kernel_rfl) (fun _ _ _ _ _ h => h) ?_
            simp only [pick, List.getElem?_cons_succ, List.getElem?_cons_zero, Option.getD_some]
            iterate 4 still_step
            refine wpStill_nil ?_
            refine segs_pure 22 (.int .i64 (k : Int)) (by kernel_rfl) (fun _ _ _ _ _ h => h) (by rfl) ?_ ?_
            · intro w2
              try simp only [List.getElem?_cons_succ, List.getElem?_cons_zero, Option.getD_some]
              go_simp
            try simp only [List.getElem?_cons_succ, List.getElem?_cons_zero, Option.getD_some, Act.put, List.setIfInBounds_toArray, List.set_cons_zero, List.set_cons_succ]
            refine segs_take [13, 14, 15, 16, 17, 18, 19] (by kernel_rfl) (fun _ _ _ _ _ h => h) ?_
            simp only [pick, List.getElem?_cons_succ, List.getElem?_cons_zero, Option.getD_some]
            iterate 7 still_step
            refine wpStill_nil ?_
            refine segs_one 23 (by kernel_rfl) (by rfl) ?_
            try simp only [List.getElem?_cons_succ, List.getElem?_cons_zero, Option.getD_some]
            go_simp
            (with_reducible refine HC.out.mono ?_)
            rintro e w2 ⟨rfl, hb2⟩
            have H2 := Lib.hid (HST.out.drew.below hb2)
            clear hb2
            try dsimp only
            try simp only [Act.put, List.setIfInBounds_toArray, List.set_cons_zero, List.set_cons_succ]
            refine segs_take [24] (by kernel_rfl) (fun _ _ _ _ _ h => h) ?_
            simp only [pick, List.getElem?_cons_succ, List.getElem?_cons_zero, Option.getD_some]
            iterate 1 still_step
            refine wpStill_nil ?_
            refine segs_end (by kernel_rfl) ?_
            go_wp2_with (fail)
            go_ret
            exact ⟨ret_bool HQ.out.symm, H2.out.bel⟩
        · have b2 : (xa == a) = false := by simpa using hxa
          have HQ := Lib.hid (HZ.out (by dsimp only; rw [b2, Bool.false_and]))
          clear hxa HY HZ
          go_upto_region 6 with fail
          go_quiet (fail)
          go_wp2_with (fail)
          go_roundw
          case rel => exact ⟨z + 1, by omega, by go_num, HQ.out, HST.out.drewN _⟩
          case measure => simp [intOf] <;> omega
      · have hzn : z = nC := by omega
        have hlt' : ¬ (z : Int) < (nC : Int) := by omega
        have HQ := Lib.hid (show pathB t.chans m a b = false by
          have h := HNO.out
          rw [List.take_of_length_le (by rw [← HV.out.lc]; omega)] at h
          rw [HPB.out, h])
        clear hzn
        go_wp2_with (fail)
        go_ret
        exact ⟨ret_bool HQ.out.symm, HST.out.bel⟩
end
end Go.Proofs.Ytooagoikiafgcaa.tab
