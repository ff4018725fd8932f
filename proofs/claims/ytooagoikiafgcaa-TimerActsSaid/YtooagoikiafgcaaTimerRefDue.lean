/-
  PROVED HERE: the document's timers: what Due answers.
  CONDITIONS: each lemma names its own.
-/
import Derived.Test.YtooagoikiafgcaaTimerRef
import Derived.OwnWalk
namespace Go.Proofs.Ytooagoikiafgcaa.timer
set_option linter.unusedVariables false
open Go.RowKit Go.WideShapes Go.Proofs.Ytooagoikiafgcaa.base Go.Proofs.Ytooagoikiafgcaa.obj Go.Proofs.Ytooagoikiafgcaa.mem Go.Proofs.Ytooagoikiafgcaa.sep Go.Proofs.Ytooagoikiafgcaa.plan

def cLen (w : World) (G : Nat) : Nat := sLen ((w.cell? ⟨G, 1, none⟩).getD undef)
inductive RDueOut (w0 : World) (l : List Asn) (tick : Int) (L : List (Int × Int)) (e : Ending) (w' : World) : Prop
  | mk (vN vL : Value) (names : List Int) (L' : List (Int × Int)) (he : e = .returned (.agg #[vN, vL])) (hd : DueR tick L names L') (hs : St w0 w' (own 3 1 vN names.length (names.map (.int .i64)) :: own 68 2 vL L'.length (pcs L') :: l))
section
variable {w0 w : World} {l : List Asn}
set_option maxRecDepth 100000 in
set_option maxHeartbeats 8000000 in
theorem rdue_at {A : Option Addr} {n c : Nat} {L : List (Int × Int)} (h : St w0 w (own 68 2 (.slice A n c) n (pcs L) :: l)) (hn : n = L.length) (hsz : n ≤ 1000000) (tick : Int) :
    Calls Try.prog 30 #[.slice A n c, .int .i64 tick] w (RDueOut w0 l tick L) := by
  have HN := Lib.hid hn
  have H := Lib.hid h
  clear h hn
  go_enter Try.func30, Try.ntmps30
  go_upto_region 2 with fail
  obtain ⟨w2, hw2⟩ : ∃ w2, w2 = (w.alloc (.cells #[.slice none 0 0, .slice none 0 0] 64)).alloc (.cells #[.slice none 0 0, .slice A n c] 64) := ⟨_, rfl⟩
  obtain ⟨R, hR⟩ : ∃ R, R = w.heap.size := ⟨_, rfl⟩
  obtain ⟨G, hG⟩ : ∃ G, G = w.heap.size + 1 := ⟨_, rfl⟩
  have HI := Lib.hid (show St w0 w2 (row G 64 [.slice none 0 0, .slice A L.length c] :: own 3 1 (.slice none 0 0) ([] : List Int).length (([] : List Int).map (.int .i64)) :: own 68 2 (.slice A L.length c) L.length (pcs L) :: row R 64 [.slice none 0 0, .slice none 0 0] :: l) by
    rw [hw2, hG, hR]
    have h1 := (H.out.new 64 #[.slice none 0 0, .slice none 0 0]).new 64 #[.slice none 0 0, .slice A n c]
    have h2 := h1.addOwn (Below.refl _ _) (World.ownsRow_nil _ _ 3 1)
    rw [HN.out] at h2 ⊢
    have h3 := (h2.pick 3 rfl).pick 2 rfl
    have h4 := (h3.pick 3 rfl).pick 2 rfl
    have h5 := (((h2.pick 2 rfl).pick 3 rfl).pick 2 rfl).pick 3 rfl
    simpa using h5)
  have HW2 := Lib.hid hw2; have HR := Lib.hid hR; have HG := Lib.hid hG
  clear hw2 hR hG
  rw [← HW2.out, ← HG.out, ← HR.out]
  have cg1 : w2.cell? ⟨G, 1, none⟩ = some (.slice A n c) := by rw [HN.out]; exact HI.out.row.1.cell 1
  have lg : G < w2.heap.size := HI.out.row.1.lt
  have HSL := Lib.hid (show Sl w2 w2.heap.size 2 A n (pcs L) by rw [HN.out]; exact Sl.of_own (HI.out.pick 2 rfl).own)
  go_wp2_with (fail)
  refine (rfirst_at _ A n c L HN.out hsz HSL.out).mono ?_
  rintro e w3 ⟨⟨i, rfl, hfr⟩, hb⟩
  have HI3 := Lib.hid (HI.out.below hb)
  have HFR := Lib.hid hfr
  clear hfr hb cg1 lg HSL HI HW2 H
  go_wp2_with (fail)
  go_loopw [6] (fun s6 wr => ∃ (M1 : List (Int × Int)) (names : List Int) (AN : Option Addr) (cN : Nat) (A1 : Option Addr) (c1 : Nat) (i : Int), s6 = .int .i64 i ∧ FR M1 i ∧ (∀ out M', DueR tick M1 out M' → DueR tick L (names ++ out) M') ∧ names.length + M1.length ≤ n ∧
      St w0 wr (row G 64 [.slice AN names.length cN, .slice A1 M1.length c1] :: own 3 1 (.slice AN names.length cN) names.length (names.map (.int .i64)) :: own 68 2 (.slice A1 M1.length c1) M1.length (pcs M1) :: row R 64 [.slice none 0 0, .slice none 0 0] :: l)) (fun _ wr => cLen wr G)
  case atStart => exact ⟨L, [], none, 0, A, c, i, rfl, HFR.out, fun _ _ h => h, by rw [HN.out]; simp, HI3.out⟩
  case round =>
    obtain ⟨M1, names, AN, cN, A1, c1, i, rfl, hfr, hgo, hlen, hst⟩ := hrel
    have HGO := Lib.hid hgo; have HST := Lib.hid hst
    clear hgo hst HI3 HFR
    obtain ⟨k, hk⟩ : ∃ k, k = names.length := ⟨_, rfl⟩
    obtain ⟨m, hm⟩ : ∃ m, m = M1.length := ⟨_, rfl⟩
    rw [← hk, ← hm] at HST hlen
    have HK := Lib.hid hk; have HM := Lib.hid hm
    have g0 : wr.cell? ⟨G, 0, none⟩ = some (.slice AN k cN) := HST.out.row.1.cell 0
    have g1 : wr.cell? ⟨G, 1, none⟩ = some (.slice A1 m c1) := HST.out.row.1.cell 1
    have f0 := HST.out.row.1.frozen 0
    have f1 := HST.out.row.1.frozen 1
    have lg : G < wr.heap.size := HST.out.row.1.lt
    clear hk hm
    cases hfr with
    | none h0 =>
      have HD := Lib.hid (show DueR tick L names M1 by
        have := HGO.out [] M1 (.stop M1 fun o ho => by rw [h0] at ho; exact absurd ho.1 (by simp))
        rwa [List.append_nil] at this)
      clear h0
      have HR3 := Lib.hid (HST.out.pick 3 rfl).row.1
      have HF := Lib.hid ((HST.out.pick 3 rfl).setRow [.slice AN k cN, .slice A1 m c1])
      have MS := Lib.hid (show (Try.prog.info? 64).map (·.size) = some (#[Value.slice AN k cN, .slice A1 m c1] : Array Value).size from by kernel_rfl)
      go_upto_region 7 with fail
      go_wp2_with (with_reducible refine wpList_putR rfl 64 (.tmp 4) (.tmp 48) rfl R 0 #[.slice AN k cN, .slice A1 m c1] rfl rfl HR3.out MS.out (Nat.le_refl _) (by simp [Value.oneCell']) [.slice AN k cN, .slice A1 m c1] rfl ?_)
      refine bodyPost_ret (results_cell_row rfl _ _ R _ _ _ _ rfl HF.out.row.1 Try.underlying64 rfl (by kernel_rfl)) rfl ?_
      refine .mk _ _ names M1 rfl HD.out ?_
      rw [← HK.out, ← HM.out]
      exact (HF.out.drop).drop
    | some j hj hmin =>
      have hj0 : (0 : Int) ≤ (j : Int) := by omega
      have hjm : j < m := by rw [HM.out]; exact hj
      have hj1 : (j : Int) < (m : Int) := by omega
      have hj2 : decide ((j : Int) ≥ 0) = true := by simp
      obtain ⟨b, off, hA, lb, k0, k1⟩ := pcs_get (Sl.of_own (HST.out.pick 2 rfl).own) HM.out hj
      subst hA
      have HMI := Lib.hid hmin
      by_cases hle : M1[j].2 ≤ tick
      · have HGO2 := Lib.hid (fun out M' (hd : DueR tick (stopM M1 M1[j].1) out M') => HGO.out _ _ (.step M1[j] M1 out M' HMI.out hle hd))
        have HLT := Lib.hid (show (stopM M1 M1[j].1).length < m by
          have h1 : (stopM M1 M1[j].1).length ≤ M1.length := stopM_len _ _
          rcases Nat.lt_or_ge (stopM M1 M1[j].1).length M1.length with h2 | h2
          · rw [HM.out]; exact h2
          · have h3 : stopM M1 M1[j].1 = M1 := List.filter_eq_self.2 (by
              have := List.length_filter_eq_length_iff.1 (show (List.filter (fun x => decide (x.1 ≠ M1[j].1)) M1).length = M1.length by unfold stopM at h1 h2; omega)
              exact this)
            have h4 : M1[j] ∈ stopM M1 M1[j].1 := by
              have h5 := HMI.out.1
              generalize M1[j] = o at h3 h5 ⊢
              rw [h3]; exact h5
            exact absurd rfl (stopM_mem.1 h4).2)
        generalize hoj : M1[j] = o at k0 k1 hle HGO2 HLT
        obtain ⟨on, ot⟩ := o
        dsimp only at k0 k1 hle HGO2 HLT
        have HOJ := Lib.hid hoj
        clear hmin HMI hoj
        go_upto_region 5 with fail
        have HSL := Lib.hid (fun W : World => show Sl (W.alloc (.cells #[.int .i64 on] 3)) (W.heap.size + 1) 1 (some ⟨W.heap.size, 0, none⟩) 1 [.int .i64 on] from sl_new (n := 1) rfl)
        have HO0 := Lib.hid (show St w0 (wr.drew.alloc (.cells #[.int .i64 on] 3)) (own 3 1 (.slice AN k cN) k (names.map (.int .i64)) :: row G 64 [.slice AN k cN, .slice (some ⟨b, off, none⟩) m c1] :: own 68 2 (.slice (some ⟨b, off, none⟩) m c1) m (pcs M1) :: row R 64 [.slice none 0 0, .slice none 0 0] :: l) from (((HST.out.drew.new 3 #[.int .i64 on]).drop).pick 1 rfl))
        refine wp_region_plan [0, 2, 4, 3, 5, 6, 7] [[1, 8, 9, 10, 11], [8, 1, 9, 10, 11]] (by kernel_rfl) (by kernel_rfl) (fun _ _ _ _ _ h => h) ?_
        simp only [forks, pick, List.getElem?_cons_succ, List.getElem?_cons_zero, Option.getD_some]
        iterate 7 still_step
        refine wpStill_nil ?_
        refine ⟨?_, ?_⟩
        all_goals
          go_wp2_with (at_builtin; refine app_row slI rfl (.tmp 28) (.tmp 35) rfl HO0.out.own rfl rfl (HSL.out _) (by simp [Value.oneCell']) (by omega) (by omega) (by unfold maxLen; omega) HO0.out.bel.size ?_; intro g5 cap5 w5 ho5 hg5 hor5 hlt5; have H5 := Lib.hid (HO0.out.grown hg5 ho5 (fun x hx => by injection hx with hx; rw [← hx]; exact hor5)); clear ho5 hg5 hor5 hlt5 g0 g1 f0 f1 lg k0 k1 lb HSL; have g0 : w5.cell? ⟨G, 0, none⟩ = some (.slice AN k cN) := (H5.out.pick 1 rfl).row.1.cell 0; have f0 := (H5.out.pick 1 rfl).row.1.frozen 0; have lg : G < w5.heap.size := (H5.out.pick 1 rfl).row.1.lt)
          go_upto_region 6 with fail
          obtain ⟨w6, hw6⟩ : ∃ w6, w6 = w5.setCell ⟨G, 0, none⟩ (.slice (some ⟨g5, 0, none⟩) (k + 1) cap5) := ⟨_, rfl⟩
          have H6 := Lib.hid (show St w0 w6 (row G 64 [.slice (some ⟨g5, 0, none⟩) (k + 1) cap5, .slice (some ⟨b, off, none⟩) m c1] :: own 3 1 (.slice (some ⟨g5, 0, none⟩) (k + 1) cap5) (k + 1) ((names ++ [on]).map (.int .i64)) :: own 68 2 (.slice (some ⟨b, off, none⟩) m c1) m (pcs M1) :: row R 64 [.slice none 0 0, .slice none 0 0] :: l) by
            rw [hw6, List.map_append, List.map_singleton]
            exact (H5.out.pick 1 rfl).set 0 _)
          have HW6 := Lib.hid hw6
          clear hw6 g0 f0 lg H5 HO0
          rw [← HW6.out]
          have g1 : w6.cell? ⟨G, 1, none⟩ = some (.slice (some ⟨b, off, none⟩) m c1) := H6.out.row.1.cell 1
          have lg : G < w6.heap.size := H6.out.row.1.lt
          obtain ⟨b', off', hA2, lb, k0, _⟩ := pcs_get (Sl.of_own (H6.out.pick 2 rfl).own) HM.out hj
          injection hA2 with hA2
          injection hA2 with e1 e2
          subst e1; subst e2
          rw [HOJ.out] at k0
          dsimp only at k0
          have HSP := Lib.hid (rstop_at w6.drew (some ⟨b, off, none⟩) m c1 M1 HM.out (by omega) (Sl.of_own (H6.out.pick 2 rfl).own.drew) on)
          refine wp_region_plan [0, 2, 4, 1, 3, 5, 6, 7] [[8, 9, 10]] (by kernel_rfl) (by kernel_rfl) (fun _ _ _ _ _ h => h) ?_
          simp only [forks, pick, List.getElem?_cons_succ, List.getElem?_cons_zero, Option.getD_some]
          iterate 8 still_step
          refine wpStill_nil ?_
          go_wp2_with (fail)
          refine HSP.out.mono ?_
          rintro e w7 ⟨v7, rfl, ho7, hb7⟩
          obtain ⟨A7, c7, hv7, _⟩ := own_form ho7
          subst hv7
          obtain ⟨M2, hM2⟩ : ∃ M2, M2 = stopM M1 on := ⟨_, rfl⟩
          rw [← hM2] at ho7 HLT HGO2 ⊢
          clear hM2
          have H7 := Lib.hid ((H6.out.drew.addOwn hb7 ho7).pick 1 rfl)
          clear hb7 ho7 g1 lg lb k0
          obtain ⟨m2, hm2⟩ : ∃ m2, m2 = M2.length := ⟨_, rfl⟩
          rw [← hm2] at H7 HLT ⊢
          have HM2 := Lib.hid hm2
          have hm2m : m2 < m := HLT.out
          clear hm2
          have g1 : w7.cell? ⟨G, 1, none⟩ = some (.slice (some ⟨b, off, none⟩) m c1) := H7.out.row.1.cell 1
          have f1 := H7.out.row.1.frozen 1
          have lg : G < w7.heap.size := H7.out.row.1.lt
          go_upto_region 4 with fail
          obtain ⟨w8, hw8⟩ : ∃ w8, w8 = w7.setCell ⟨G, 1, none⟩ (.slice A7 m2 c7) := ⟨_, rfl⟩
          have H8 := Lib.hid (show St w0 w8 (row G 64 [.slice (some ⟨g5, 0, none⟩) (k + 1) cap5, .slice A7 m2 c7] :: own 3 1 (.slice (some ⟨g5, 0, none⟩) (k + 1) cap5) (k + 1) ((names ++ [on]).map (.int .i64)) :: own 68 2 (.slice A7 m2 c7) m2 (pcs M2) :: row R 64 [.slice none 0 0, .slice none 0 0] :: l) by
            rw [hw8]
            have h := H7.out.set 1 (.slice A7 m2 c7)
            exact ((h.pick 3 rfl).drop.pick 2 rfl).pick 1 rfl)
          have HW8 := Lib.hid hw8
          clear hw8 g1 f1 lg H7 H6
          rw [← HW8.out]
          have g1 : w8.cell? ⟨G, 1, none⟩ = some (.slice A7 m2 c7) := H8.out.row.1.cell 1
          have lg : G < w8.heap.size := H8.out.row.1.lt
          have HFS := Lib.hid (rfirst_at w8 A7 m2 c7 M2 HM2.out (by omega) (Sl.of_own (H8.out.pick 2 rfl).own))
          go_wp2_with (fail)
          refine HFS.out.mono ?_
          rintro e w9 ⟨⟨i9, rfl, hfr⟩, hb⟩
          have H9 := Lib.hid (H8.out.below hb)
          have HFR := Lib.hid hfr
          clear hfr hb g1 lg HFS H8
          go_wp2_with (fail)
          go_roundw
          case rel => exact ⟨M2, names ++ [on], some ⟨g5, 0, none⟩, cap5, A7, c7, i9, rfl, HFR.out, fun out M' hd => by rw [List.append_assoc]; exact HGO2.out out M' hd, by rw [List.length_append, ← HK.out, ← HM2.out, List.length_singleton]; omega, by rw [List.length_append, ← HK.out, ← HM2.out, List.length_singleton]; exact H9.out⟩
          case measure =>
            have e1 : cLen w9 G = m2 := by unfold cLen; rw [H9.out.row.1.cell 1]; rfl
            have e2 : cLen wr G = m := by unfold cLen; rw [HST.out.row.1.cell 1]; rfl
            rw [e1, e2]; exact hm2m
      · have HD := Lib.hid (show DueR tick L names M1 by
          have := HGO.out [] M1 (.stop M1 fun o ho => by rw [ho.uniq HMI.out]; omega)
          rwa [List.append_nil] at this)
        generalize M1[j] = o at k0 k1 hle
        obtain ⟨on, ot⟩ := o
        dsimp only at k0 k1 hle
        clear hmin HMI HGO
        have HR3 := Lib.hid (HST.out.pick 3 rfl).row.1
        have HF := Lib.hid ((HST.out.pick 3 rfl).setRow [.slice AN k cN, .slice (some ⟨b, off, none⟩) m c1])
        have MS := Lib.hid (show (Try.prog.info? 64).map (·.size) = some (#[Value.slice AN k cN, .slice (some ⟨b, off, none⟩) m c1] : Array Value).size from by kernel_rfl)
        go_upto_region 7 with fail
        go_wp2_with (with_reducible refine wpList_putR rfl 64 (.tmp 4) (.tmp 48) rfl R 0 #[.slice AN k cN, .slice (some ⟨b, off, none⟩) m c1] rfl rfl HR3.out MS.out (Nat.le_refl _) (by simp [Value.oneCell']) [.slice AN k cN, .slice (some ⟨b, off, none⟩) m c1] rfl ?_)
        refine bodyPost_ret (results_cell_row rfl _ _ R _ _ _ _ rfl HF.out.row.1 Try.underlying64 rfl (by kernel_rfl)) rfl ?_
        refine .mk _ _ names M1 rfl HD.out ?_
        rw [← HK.out, ← HM.out]
        exact (HF.out.drop).drop
end
end Go.Proofs.Ytooagoikiafgcaa.timer
