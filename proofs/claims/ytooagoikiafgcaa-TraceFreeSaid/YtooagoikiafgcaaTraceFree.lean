/-
  PROVED HERE: for every table t, int part and all uint16 ticks, longeronlaw26.TraceFree(t, part, ticks) returns true and leaves memory as it was.
  CONDITIONS: none.
-/
import Derived.Test.YtooagoikiafgcaaTraceWakes
import Derived.Test.YtooagoikiafgcaaArgTab
namespace Go.Proofs.Ytooagoikiafgcaa.traceFree
set_option linter.unusedVariables false
open Go.RowKit Go.ChangeShapes Go.WideShapes Go.ChangeAt Go.Deep Go.Joins Go.Proofs.Ytooagoikiafgcaa.base Go.Proofs.Ytooagoikiafgcaa.obj Go.Proofs.Ytooagoikiafgcaa.mem Go.Proofs.Ytooagoikiafgcaa.sep Go.Proofs.Ytooagoikiafgcaa.plan Go.Proofs.Ytooagoikiafgcaa.tab

def restZ : List Value := [.slice none 0 0, .int .i64 0, .slice none 0 0, .bool false, .int .i64 0, .slice none 0 0, .slice none 0 0, .int .i64 0, .int .i64 0, .bool false]
def mkEv (z : Int) : Ev := ⟨z, restZ⟩
theorem mkEv_ok {z : Int} (h : z ≤ 65535) : (mkEv z).Ok := ⟨rfl, by simp [mkEv, restZ, Value.oneCell'], by simp only [mkEv]; omega⟩
theorem infoEv : (Try.prog.info? 49).map (fun i => (i.zero, i.size, i.bytes)) = some (some (.agg evZero), 11, 152) := by kernel_rfl
theorem slEv : SlT Try.prog 41 49 11 152 := by
  obtain ⟨i0, hi, hz0, hz1, hz2⟩ := info_parts infoEv
  exact ⟨Try.underlying41, ⟨i0, _, hi, hz0, hz1, hz2, rfl⟩, by decide⟩
theorem evs_snoc (l : List Ev) (e : Ev) : evs (l ++ [e]) = evs l ++ e.cells := by simp [evs]
theorem free_mem {t : Tab} (hr : t.right = true) (part : Int) {p : Nat} (hp : p < t.parts.length) : (!((metL t part 2).any fun x => (p : Int) == x)) = tab.freeB t p part := by
  have hf := right_frame hr
  have key : ∀ a : Int, ((reachL t a).any fun x => (p : Int) == x) = (okr a 0 ((t.parts.length : Int) - 1) && pathB t.chans 4 a p) := by
    intro a
    unfold reachL
    rw [hr, Bool.true_and]
    split
    · rename_i ho
      rw [ho, Bool.true_and]
      rw [Bool.eq_iff_iff, List.any_eq_true]
      constructor
      · rintro ⟨x, hx, e⟩
        obtain ⟨k, hk, rfl⟩ := List.mem_map.1 hx
        have : p = k := by
          have e2 : (p : Int) = (k : Int) := by simpa using e
          omega
        subst this
        exact (List.mem_filter.1 hk).2
      · intro h
        exact ⟨p, List.mem_map.2 ⟨p, List.mem_filter.2 ⟨List.mem_range.2 (by omega), h⟩, rfl⟩, by simp⟩
    · rename_i ho
      simp at ho
      rw [ho]
      simp
  have h0 : okr 0 0 ((t.parts.length : Int) - 1) = true := by unfold okr; simp; omega
  unfold tab.freeB
  rw [show metL t part 2 = 0 :: (reachL t 0 ++ (part :: (reachL t part ++ []))) by simp [metL], List.any_cons, List.any_append, List.any_cons, List.any_append, key, key, h0]
  cases ((p : Int) == 0) <;> cases ((p : Int) == part) <;> cases pathB t.chans 4 0 p <;> cases okr part 0 ((t.parts.length : Int) - 1) <;> cases pathB t.chans 4 part p <;> simp

set_option maxRecDepth 100000 in
set_option maxHeartbeats 16000000 in
theorem walk (w : World) (t : Tab) (AP : Option Addr) (nP cP : Nat) (AW : Option Addr) (nW cW : Nat) (AC : Option Addr) (nC cC : Nat) (h : TabV w w.heap.size t AP nP cP AW nW cW AC nC cC) (part : Int) (wp : (Lit.int .i64 part).wf = true)
    (A : Option Addr) (c : Nat) (zs : List Int) (hm : zs.length ≤ maxLen) (hs : Sl w w.heap.size 1 A zs.length (zs.map (.int .u16))) (hz : ∀ z ∈ zs, (Lit.int .u16 z).wf = true) :
    Calls Try.prog 4 #[tabAgg t.frame AP nP cP AW nW cW AC nC cC t.trial, .int .i64 part, .slice A zs.length c] w fun e w' => e = .returned (.bool true) ∧ Below w.heap.size w w' := by
  have hz2 : ∀ z ∈ zs, 0 ≤ z ∧ z ≤ 65535 := fun z hzz => by
    have h1 : IntKind.u16.min = 0 := rfl
    have h2 : IntKind.u16.max = 65535 := rfl
    have h3 := hz z hzz
    simp only [Lit.wf, Bool.and_eq_true, decide_eq_true_eq] at h3
    omega
  have HV := Lib.hid h; have HS := Lib.hid hs; have HZ2 := Lib.hid hz2
  obtain ⟨n, hn⟩ : ∃ n, n = zs.length := ⟨_, rfl⟩
  rw [← hn] at HS ⊢
  have HN := Lib.hid hn
  obtain ⟨fr, hfr⟩ : ∃ fr, fr = t.frame := ⟨_, rfl⟩
  obtain ⟨tr, htr⟩ : ∃ tr, tr = t.trial := ⟨_, rfl⟩
  rw [← hfr, ← htr]
  have HF := Lib.hid hfr; have HTR := Lib.hid htr
  obtain ⟨T, hT⟩ : ∃ T, T = w.heap.size := ⟨_, rfl⟩
  obtain ⟨w1, hw1⟩ : ∃ w1, w1 = w.alloc (.cells #[.int .i64 fr, .slice AP nP cP, .slice AW nW cW, .slice AC nC cC, .int .i64 tr] 39) := ⟨_, rfl⟩
  have H1 := Lib.hid (show St w w1 [row T 39 (tabRow fr AP nP cP AW nW cW AC nC cC tr)] by rw [hw1, hT]; exact (St.nil w).new _ _)
  have HW1 := Lib.hid hw1; have HT := Lib.hid hT
  clear wp hm hs hz hz2 hn h hfr htr hT hw1
  go_enter Try.func4, Try.ntmps4
  go_upto_region 1 with fail
  rw [← HW1.out, ← HT.out]
  go_wp2_with (fail)
  refine (wakes26 w1).mono ?_
  rintro e w2 ⟨rfl, hb2⟩
  have H2 := Lib.hid (H1.out.below hb2)
  clear hb2 H1
  have t1 : w2.cell? ⟨T, 1, none⟩ = some (.slice AP nP cP) := H2.out.row.1.cell 1
  have t2 : w2.cell? ⟨T, 2, none⟩ = some (.slice AW nW cW) := H2.out.row.1.cell 2
  have t3 : w2.cell? ⟨T, 3, none⟩ = some (.slice AC nC cC) := H2.out.row.1.cell 3
  have lT : T < w2.heap.size := H2.out.row.1.lt
  by_cases q0 : (nP : Int) > 20
  · go_wp2_with (fail)
    go_ret
    exact ⟨rfl, H2.out.bel⟩
  by_cases q1 : (nW : Int) > 40
  · go_wp2_with (fail)
    go_ret
    exact ⟨rfl, H2.out.bel⟩
  by_cases q2 : (nC : Int) > 20
  · go_wp2_with (fail)
    go_ret
    exact ⟨rfl, H2.out.bel⟩
  by_cases q3 : (n : Int) > 50
  · go_wp2_with (fail)
    go_ret
    exact ⟨rfl, H2.out.bel⟩
  have H3 := Lib.hid (show St w w2 [own 49 11 (.slice none 0 0) 0 [], row T 39 (tabRow fr AP nP cP AW nW cW AC nC cC tr)] from H2.out.addOwn (Below.refl _ _) (World.ownsRow_nil _ _ 49 11))
  go_upto_region 7 with fail
  clear t1 t2 t3 lT
  go_loopw [7, 40] (fun s7 i wr => ∃ (k : Nat) (A : Option Addr) (c : Nat), k ≤ n ∧ i = .int .i64 k ∧ s7 = .slice A k c ∧ St w wr [own 49 11 (.slice A k c) k (evs ((zs.take k).map mkEv)), row T 39 (tabRow fr AP nP cP AW nW cW AC nC cC tr)]) (fun _ i _ => n - (intOf i).toNat)
  case atStart => exact ⟨0, none, 0, by omega, rfl, rfl, H3.out⟩
  case round =>
    obtain ⟨k, A2, c2, hk, rfl, rfl, hst⟩ := hrel
    have HST := Lib.hid hst
    clear hst H3 H2
    by_cases hlt : k < n
    · have hlt' : (k : Int) < (n : Int) := by omega
      have hk0 : (0 : Int) ≤ (k : Int) := by omega
      have hkl : k < zs.length := by rw [← HN.out]; exact hlt
      obtain ⟨b, off, rfl, lb0, hcs⟩ := HS.out.2 (by omega)
      have ck : wr.cell? ⟨b, off + k, none⟩ = some (.int .u16 zs[k]) := (HST.out.bel.cell (p := ⟨b, off + k, none⟩) lb0).trans (hcs k _ (by rw [List.getElem?_map, List.getElem?_eq_getElem hkl]; rfl))
      have lb : b < wr.heap.size := Nat.lt_of_lt_of_le lb0 HST.out.bel.size
      obtain ⟨z0, z1⟩ := HZ2.out _ (List.getElem_mem hkl)
      have HTK := Lib.hid (show (zs.take (k + 1)).map mkEv = (zs.take k).map mkEv ++ [mkEv zs[k]] by rw [List.take_succ_eq_append_getElem hkl, List.map_append]; rfl)
      generalize zs[k] = z at ck z0 z1 HTK
      clear hcs lb0
      have HEC := Lib.hid (show (mkEv z).cells = [.int .i64 z, .slice none 0 0, .int .i64 0, .slice none 0 0, .bool false, .int .i64 0, .slice none 0 0, .slice none 0 0, .int .i64 0, .int .i64 0, .bool false] from rfl)
      have H9 := Lib.hid ((HST.out.new 49 #[.int .i64 z, .slice none 0 0, .int .i64 0, .slice none 0 0, .bool false, .int .i64 0, .slice none 0 0, .slice none 0 0, .int .i64 0, .int .i64 0, .bool false]).pick 1 rfl)
      have HSL9 := Lib.hid (show Sl (wr.alloc (.cells #[.int .i64 z, .slice none 0 0, .int .i64 0, .slice none 0 0, .bool false, .int .i64 0, .slice none 0 0, .slice none 0 0, .int .i64 0, .int .i64 0, .bool false] 49)) (wr.heap.size + 1) 11 (some ⟨wr.heap.size, 0, none⟩) 1 [.int .i64 z, .slice none 0 0, .int .i64 0, .slice none 0 0, .bool false, .int .i64 0, .slice none 0 0, .slice none 0 0, .int .i64 0, .int .i64 0, .bool false] from sl_new (n := 1) rfl)
      go_wp2_with (at_builtin; refine app_row slEv rfl (.tmp 44) (.tmp 48) rfl H9.out.own rfl rfl HSL9.out (by simp [Value.oneCell']) (by omega) (by omega) (by unfold maxLen; omega) (H9.out.bel.size) ?_; intro g2 cap w9 ho hg hor hlt4; have H10 := Lib.hid (H9.out.grown hg ho (fun x hx => by injection hx with hx; rw [← hx]; exact hor)); clear ho hg hor hlt4)
      go_roundw
      case rel => exact ⟨k + 1, some ⟨g2, 0, none⟩, cap, by omega, by go_num, rfl, by
        rw [HTK.out, evs_snoc, HEC.out]
        exact ((H10.out.pick 1 rfl).drop)⟩
      case measure => simp [intOf] <;> omega
    · have hkn : k = n := by omega
      have hlt' : ¬ (k : Int) < (n : Int) := by omega
      have HEV := Lib.hid (show evs ((zs.take k).map mkEv) = evs (zs.map mkEv) by rw [List.take_of_length_le (by rw [← HN.out]; omega)])
      rw [HEV.out] at HST
      obtain ⟨L, hL⟩ : ∃ L, L = zs.map mkEv := ⟨_, rfl⟩
      rw [← hL] at HST
      have HLN := Lib.hid (show n = L.length by rw [hL, List.length_map, ← HN.out])
      have HLO := Lib.hid (show ∀ e ∈ L, e.Ok from fun e he => by
        rw [hL] at he
        obtain ⟨z, hz, rfl⟩ := List.mem_map.1 he
        exact mkEv_ok (HZ2.out z hz).2)
      rw [hkn] at HST ⊢
      clear hL hkn HEV
      have HS0 := Lib.hid (Sl.of_own HST.out.own)
      have HB0 := Lib.hid (Below.refl wr.heap.size wr)
      have HVW := Lib.hid (fun (W : World) (hb : Below wr.heap.size wr W) => HV.out.over (HST.out.bel.trans (hb.mono HST.out.bel.size)))
      have HFREE := Lib.hid (fun (W : World) (hb : Below wr.heap.size wr W) (g : Nat) (hc : W.cell? ⟨g, 0, none⟩ = some (.int .i64 part)) =>
        show Calls Try.prog 19 #[tabAgg fr AP nP cP AW nW cW AC nC cC tr, .slice (some ⟨g, 0, none⟩) 1 1] W fun e w' => ∃ Af cf, e = .returned (.slice Af (freeL t part).length cf) ∧ Sl w' w'.heap.size 1 Af (freeL t part).length ((freeL t part).map (.int .i64)) ∧ Below wr.heap.size wr w' ∧ Below W.heap.size W w' from by
          rw [HF.out, HTR.out]
          refine (free_at (HVW.out W hb) (some ⟨g, 0, none⟩) 1 (fun h => by cases h) part ⟨rfl, fun _ => ⟨g, 0, rfl, World.block_lt_of_cell? W _ hc, fun k u hu => ?_⟩⟩).mono ?_
          · match k, hu with
            | 0, hu => simp at hu; rw [← hu]; exact hc
          · rintro e w' ⟨v, rfl, ho, hb2⟩
            obtain ⟨Af, cf, hv, _⟩ := own_form ho
            subst hv
            exact ⟨Af, cf, rfl, Sl.of_own ho, hb.trans (hb2.mono hb.size), hb2⟩)
      have HSTS := Lib.hid (fun (W : World) (hb : Below wr.heap.size wr W) =>
        show Calls Try.prog 20 #[tabAgg fr AP nP cP AW nW cW AC nC cC tr, .slice A2 n c2, .int .i64 part] W fun e w' => ∃ As cs, e = .returned (.slice As (startsL t part L).length cs) ∧ Sl w' w'.heap.size 1 As (startsL t part L).length ((startsL t part L).map (.int .i64)) ∧ Below wr.heap.size wr w' ∧ Below W.heap.size W w' from by
          rw [HF.out, HTR.out]
          refine (starts_at (HVW.out W hb) A2 n c2 L HLN.out (by omega) ((HS0.out.below hb).more hb.size) HLO.out part).mono ?_
          rintro e w' ⟨v, rfl, ho, hb2⟩
          obtain ⟨As, cs, hv, _⟩ := own_form ho
          subst hv
          exact ⟨As, cs, rfl, Sl.of_own ho, hb.trans (hb2.mono hb.size), hb2⟩)
      have HROWS := Lib.hid (fun (W : World) (hb : Below wr.heap.size wr W) => show W.cell? ⟨T, 0, none⟩ = some (.int .i64 fr) ∧ W.cell? ⟨T, 1, none⟩ = some (.slice AP nP cP) ∧ W.cell? ⟨T, 2, none⟩ = some (.slice AW nW cW) ∧ W.cell? ⟨T, 3, none⟩ = some (.slice AC nC cC) ∧ W.cell? ⟨T, 4, none⟩ = some (.int .i64 tr) ∧ T < W.heap.size from by
        have hr := ((HST.out.below hb).pick 1 rfl).row.1
        exact ⟨hr.cell 0, hr.cell 1, hr.cell 2, hr.cell 3, hr.cell 4, hr.lt⟩)
      obtain ⟨t0, t1, t2, t3, t4, lT⟩ := HROWS.out wr HB0.out
      have hq3 : n ≤ 50 := by omega
      have hq0 : nP ≤ 20 := by omega
      clear q0 q1 q2 q3 hlt hlt' hk
      go_upto_region 11 with fail
      go_cut [10, 11] (fun s10 s11 wc => ∃ Af cf As cs, s10 = .slice Af (freeL t part).length cf ∧ s11 = .slice As (startsL t part L).length cs ∧ Below wr.heap.size wr wc ∧ Sl wc wc.heap.size 1 Af (freeL t part).length ((freeL t part).map (.int .i64)) ∧ Sl wc wc.heap.size 1 As (startsL t part L).length ((startsL t part L).map (.int .i64)))
      case first =>
        go_region_law (go_simp; first
          | ((with_reducible refine (HFREE.out _ (by first | exact HBs.out | exact HBs.out.alloc HBs.out.size _ | exact (HB0.out.alloc (Nat.le_refl _) _).drew | exact HB0.out.alloc (Nat.le_refl _) _) _ (by simp)).mono ?_); rintro e wf ⟨Af, cf, rfl, hsf, hbf, hbf2⟩; have HSf := Lib.hid hsf; have HBf := Lib.hid hbf; have HBf2 := Lib.hid hbf2; obtain ⟨f0, f1, f2, f3, f4, lF⟩ := HROWS.out wf hbf; clear hsf hbf hbf2; dsimp only)
          | ((with_reducible refine (HSTS.out _ (by first | exact HBf.out | exact (HB0.out.alloc (Nat.le_refl _) _).drew | exact HB0.out.drew | exact HB0.out.alloc (Nat.le_refl _) _)).mono ?_); rintro e ws ⟨As, cs, rfl, hss, hbs, hbs2⟩; have HSs := Lib.hid hss; have HBs := Lib.hid hbs; have HBs2 := Lib.hid hbs2; obtain ⟨s0, s1, s2, s3, s4, lS⟩ := HROWS.out ws hbs; clear hss hbs hbs2; dsimp only))
        all_goals
          go_wp2_with (fail)
          go_meet
          exact ⟨Af, cf, As, cs, rfl, rfl, HBs.out, (HSf.out.below HBs2.out).more HBs2.out.size, HSs.out⟩
      case rest =>
        obtain ⟨Af, cf, As, cs, rfl, rfl, hb, hsf, hss⟩ := hcut
        have HB := Lib.hid hb
        have hfl20 : (freeL t part).length ≤ 20 := by
          unfold freeL
          split
          · have h1 := outF_len t part t.parts.length
            have h2 := HV.out.lp
            unfold outF at h1
            omega
          · simp
        have hsl50 : (startsL t part L).length ≤ 50 := by
          have h1 := startsL_len t part L L.length
          have h2 := HLN.out
          rw [List.take_length] at h1
          omega
        obtain ⟨fl, hfl⟩ : ∃ fl, fl = (freeL t part).length := ⟨_, rfl⟩
        obtain ⟨sl, hsl⟩ : ∃ sl, sl = (startsL t part L).length := ⟨_, rfl⟩
        rw [← hfl] at hsf hfl20 ⊢
        rw [← hsl] at hss hsl50 ⊢
        have HFL := Lib.hid hfl; have HSL := Lib.hid hsl; have HSF := Lib.hid hsf; have HSS := Lib.hid hss
        obtain ⟨d0, d1, d2, d3, d4, lC⟩ := HROWS.out wc hb
        clear hfl hsl hsf hss hb t0 t1 t2 t3 t4 lT HFREE HSTS
        have HRT := Lib.hid (fun (W : World) (hb : Below wr.heap.size wr W) =>
          show Calls Try.prog 21 #[tabAgg fr AP nP cP AW nW cW AC nC cC tr] W fun e w' => e = .returned (.bool t.right) ∧ Below wr.heap.size wr w' ∧ Below W.heap.size W w' from by
            rw [HF.out, HTR.out]
            exact (rright_at (HVW.out W hb)).mono fun e w' h => ⟨h.1, hb.trans (h.2.mono hb.size), h.2⟩)
        have HBD := Lib.hid (fun (W : World) (hb : Below wr.heap.size wr W) (q : Int) =>
          show Calls Try.prog 22 #[tabAgg fr AP nP cP AW nW cW AC nC cC tr, .int .i64 part, .int .i64 q] W fun e w' => e = .returned (.int .i64 (boundV t part q)) ∧ Below wr.heap.size wr w' ∧ Below W.heap.size W w' from by
            rw [HF.out, HTR.out]
            exact (bound_at (HVW.out W hb) part q).mono fun e w' h => ⟨h.1, hb.trans (h.2.mono hb.size), h.2⟩)
        go_wp2_with (fail)
        refine (HRT.out wc HB.out).mono ?_
        rintro e w3 ⟨rfl, hb3, hbc⟩
        have HB3 := Lib.hid hb3; have HBC := Lib.hid hbc
        clear d0 d1 d2 d3 d4 lC hb3 hbc
        obtain ⟨d0, d1, d2, d3, d4, lC⟩ := HROWS.out w3 HB3.out
        cases hr : t.right
        · have e1 : fl = 0 := by rw [HFL.out]; unfold freeL; rw [hr]; rfl
          have e2 : sl = 0 := by rw [HSL.out]; unfold startsL startB; rw [hr]; simp
          have HQ := Lib.hid (show boundV t part 1 = 0 by unfold boundV; rw [hr]; rfl)
          rw [e1, e2]
          clear hr e1 e2
          go_wp2_with (fail)
          refine (HBD.out w3 HB3.out 1).mono ?_
          rintro e w4 ⟨rfl, hb4, _⟩
          rw [HQ.out]
          have HB4 := Lib.hid hb4
          clear hb4 d0 d1 d2 d3 d4 lC
          go_wp2_with (fail)
          go_ret
          exact ⟨rfl, HST.out.bel.trans (HB4.out.mono HST.out.bel.size)⟩
        · obtain ⟨f1, f2, _⟩ := right_frame hr
          rw [← HF.out] at f1 f2
          have HFO := Lib.hid (show freeL t part = outF t part nP by rw [HV.out.lp]; unfold freeL; rw [hr]; rfl)
          have HFM := Lib.hid (fun (p : Nat) (hp : p < nP) => free_mem hr part (show p < t.parts.length by rw [← HV.out.lp]; exact hp))
          have HQ := Lib.hid (show boundV t part 2 = 3 * (clampK part + 2) * (36 * fr + 12) by unfold boundV; rw [hr, HF.out]; rfl)
          have HRF := Lib.hid (fun (W : World) (hb : Below wr.heap.size wr W) (q : Int) =>
            show Calls Try.prog 23 #[tabAgg fr AP nP cP AW nW cW AC nC cC tr, .int .i64 q, .int .i64 part] W fun e w' => e = .returned (.bool (tab.freeB t q part)) ∧ Below W.heap.size W w' from by
              rw [HF.out, HTR.out]
              exact rfree_at (HVW.out W hb) q part)
          have HRS := Lib.hid (fun (W : World) (hb : Below wr.heap.size wr W) =>
            show Calls Try.prog 25 #[tabAgg fr AP nP cP AW nW cW AC nC cC tr, .slice A2 n c2, .int .i64 part] W fun e w' => ∃ Bs ds, e = .returned (.slice Bs sl ds) ∧ Sl w' w'.heap.size 1 Bs sl ((startsL t part L).map (.int .i64)) ∧ Below wr.heap.size wr w' ∧ Below W.heap.size W w' from by
              rw [HF.out, HTR.out, HSL.out]
              refine (rstarts_at (HVW.out W hb) hr A2 n c2 L HLN.out (by omega) ((HS0.out.below hb).more hb.size) HLO.out part).mono ?_
              rintro e w' ⟨v, rfl, ho, hb2⟩
              obtain ⟨Bs, ds, hv, _⟩ := own_form ho
              subst hv
              exact ⟨Bs, ds, rfl, Sl.of_own ho, hb.trans (hb2.mono hb.size), hb2⟩)
          clear hr
          have H5 := Lib.hid (show St w3 w3 [own 3 1 (.slice none 0 0) 0 []] from (St.nil w3).addOwn (Below.refl _ _) (World.ownsRow_nil _ _ 3 1))
          go_upto_region 16 with fail
          clear d0 d1 d2 d3 d4 lC
          go_loopw [12, 79] (fun s12 i wl => ∃ (k : Nat) (A : Option Addr) (c : Nat), k ≤ nP ∧ i = .int .i64 k ∧ s12 = .slice A (outF t part k).length c ∧ St w3 wl [own 3 1 (.slice A (outF t part k).length c) (outF t part k).length ((outF t part k).map (.int .i64))]) (fun _ i _ => nP - (intOf i).toNat)
          case atStart => exact ⟨0, none, 0, by omega, rfl, rfl, H5.out⟩
          case round =>
            obtain ⟨k, A', c', hk, rfl, rfl, hst⟩ := hrel
            have HL := Lib.hid hst
            have HLN2 := Lib.hid (outF_len t part k)
            obtain ⟨y, hy⟩ : ∃ y, y = (outF t part k).length := ⟨_, rfl⟩
            rw [← hy] at HL HLN2 ⊢
            have HY := Lib.hid hy
            have hyk : y ≤ k := HLN2.out
            clear hst H5 hy
            have HBL := Lib.hid (HB3.out.trans (HL.out.bel.mono HB3.out.size))
            obtain ⟨d0, d1, d2, d3, d4, lC⟩ := HROWS.out wr HBL.out
            by_cases hlt : k < nP
            · have hlt' : (k : Int) < (nP : Int) := by omega
              have HSU := Lib.hid (outF_succ t part k)
              have HM := Lib.hid (HFM.out k hlt)
              go_wp2_with (fail)
              refine (HRF.out wr HBL.out (k : Int)).mono ?_
              rintro e w8 ⟨rfl, hb8⟩
              have H8 := Lib.hid (HL.out.below hb8)
              rw [← HM.out]
              clear hb8 d0 d1 d2 d3 d4 lC
              cases hq : (metL t part 2).any fun x => (k : Int) == x
              · rw [hq] at HSU
                have HSE := Lib.hid (show outF t part (k + 1) = outF t part k ++ [(k : Int)] from HSU.out.trans (if_neg (by decide)))
                clear hq HSU HM
                simp only [Bool.not_false]
                have H9 := Lib.hid ((H8.out.new 3 #[.int .i64 (k : Int)]).pick 1 rfl)
                have HSL9 := Lib.hid (show Sl (w8.alloc (.cells #[.int .i64 (k : Int)] 3)) (w8.heap.size + 1) 1 (some ⟨w8.heap.size, 0, none⟩) 1 [.int .i64 (k : Int)] from sl_new (n := 1) rfl)
                go_wp2_with (at_builtin; refine app_row slInt rfl (.tmp 86) (.tmp 88) rfl H9.out.own rfl rfl HSL9.out (by simp [Value.oneCell']) (by omega) (by omega) (by unfold maxLen; omega) (H9.out.bel.size) ?_; intro g2 cap w9 ho hg hor hlt4; have H10 := Lib.hid (H9.out.grown hg ho (fun x hx => by injection hx with hx; rw [← hx]; exact hor)); clear ho hg hor hlt4)
                have hlen : (outF t part (k + 1)).length = y + 1 := by rw [HSE.out, List.length_append, ← HY.out]; rfl
                have HLEN := Lib.hid hlen
                clear hlen
                go_roundw
                case rel => exact ⟨k + 1, some ⟨g2, 0, none⟩, cap, by omega, by go_num, by rw [HLEN.out], by
                  rw [HLEN.out, HSE.out, List.map_append]
                  exact ((H10.out.pick 1 rfl).drop)⟩
                case measure => simp [intOf] <;> omega
              · rw [hq] at HSU
                have HSE := Lib.hid (show outF t part (k + 1) = outF t part k from HSU.out.trans (if_pos rfl))
                clear hq HSU HM
                simp only [Bool.not_true]
                go_wp2_with (fail)
                go_roundw
                case rel => exact ⟨k + 1, A', c', by omega, by go_num, by rw [HSE.out, ← HY.out], by
                  rw [HSE.out, ← HY.out]
                  exact H8.out⟩
                case measure => simp [intOf] <;> omega
            · have hkn : k = nP := by omega
              have hlt' : ¬ (k : Int) < (nP : Int) := by omega
              have HE := Lib.hid (show outF t part k = freeL t part by rw [HFO.out, hkn])
              have HYF := Lib.hid (show y = (freeL t part).length by rw [← HE.out]; exact HY.out)
              rw [HE.out] at HL
              clear hkn
              go_upto_region 22 with fail
              have hp := clampK_in part
              obtain ⟨p, hpp⟩ : ∃ p, p = clampK part := ⟨_, rfl⟩
              rw [show (if 1000 < if part < 0 then 0 else part then 1000 else if part < 0 then 0 else part) = p from hpp.symm]
              rw [← hpp] at HQ hp
              obtain ⟨p0, p1⟩ := hp
              obtain ⟨m0, m1⟩ := mul_in (show 0 ≤ (3 : Int) by omega) (show (3 : Int) ≤ 3 by omega) (show 0 ≤ p + 2 by omega) (show p + 2 ≤ 1002 by omega)
              obtain ⟨n0, n1⟩ := mul_in m0 m1 (show 0 ≤ 36 * fr + 12 by omega) (show 36 * fr + 12 ≤ 2316 by omega)
              clear hpp
              have HS1 := Lib.hid (show Calls Try.prog 24 #[.slice Af fl cf, .slice A' y c'] wr.drew fun e w' => e = .returned (.bool true) ∧ Below wr.drew.heap.size wr.drew w' from
                (timer.sameInts_at (freeL t part) (freeL t part) Af A' fl y cf c' wr.drew HFL.out HYF.out (by omega) (by omega) ((HSF.out.below (HBC.out.trans (HL.out.bel.drew.mono HBC.out.size))).more (HBC.out.trans (HL.out.bel.drew.mono HBC.out.size)).size) ((Sl.of_own HL.out.own).below (Below.refl _ _).drew)).mono fun e w' h => ⟨by rw [h.1]; simp, h.2⟩)
              refine segs_start (by kernel_rfl) ?_
              refine segs_take [0, 1] (by kernel_rfl) (fun _ _ _ _ _ h => h) ?_
              simp only [pick, List.getElem?_cons_succ, List.getElem?_cons_zero, Option.getD_some]
              iterate 2 still_step
              refine wpStill_nil ?_
              refine segs_one 2 (by kernel_rfl) (by rfl) ?_
              try simp only [List.getElem?_cons_succ, List.getElem?_cons_zero, Option.getD_some]
              go_simp
              (with_reducible refine HS1.out.mono ?_)
              rintro e w4 ⟨rfl, hb4⟩
              have HB4 := Lib.hid (HBL.out.drew.trans (hb4.mono HBL.out.drew.size))
              have HC4 := Lib.hid ((HBC.out.trans (HL.out.bel.drew.mono HBC.out.size)).trans (hb4.mono (HBC.out.trans (HL.out.bel.drew.mono HBC.out.size)).size))
              clear hb4
              obtain ⟨e0, e1, e2, e3, e4, lE⟩ := HROWS.out w4 HB4.out
              try dsimp only
              try simp only [Act.put, List.setIfInBounds_toArray, List.set_cons_zero, List.set_cons_succ]
              refine segs_take [3, 4, 5, 6, 7] (by kernel_rfl) (fun _ _ _ _ _ h => h) ?_
              simp only [pick, List.getElem?_cons_succ, List.getElem?_cons_zero, Option.getD_some]
              iterate 5 still_step
              refine wpStill_nil ?_
              refine segs_one 8 (by kernel_rfl) (by rfl) ?_
              try simp only [List.getElem?_cons_succ, List.getElem?_cons_zero, Option.getD_some]
              go_simp
              (with_reducible refine (HRS.out w4 HB4.out).mono ?_)
              rintro e w5 ⟨Bs, ds, rfl, hs5, hb5, hb5'⟩
              have HB5 := Lib.hid hb5
              have HC5 := Lib.hid (HC4.out.trans (hb5'.mono HC4.out.size))
              have HSB := Lib.hid hs5
              clear hb5 hb5' hs5 e0 e1 e2 e3 e4 lE
              have HS2 := Lib.hid (show Calls Try.prog 24 #[.slice As sl cs, .slice Bs sl ds] w5 fun e w' => e = .returned (.bool true) ∧ Below w5.heap.size w5 w' from
                (timer.sameInts_at (startsL t part L) (startsL t part L) As Bs sl sl cs ds w5 HSL.out HSL.out (by omega) (by omega) ((HSS.out.below HC5.out).more HC5.out.size) HSB.out).mono fun e w' h => ⟨by rw [h.1]; simp, h.2⟩)
              try dsimp only
              try simp only [Act.put, List.setIfInBounds_toArray, List.set_cons_zero, List.set_cons_succ]
              refine segs_one 9 (by kernel_rfl) (by rfl) ?_
              try simp only [List.getElem?_cons_succ, List.getElem?_cons_zero, Option.getD_some]
              go_simp
              (with_reducible refine HS2.out.mono ?_)
              rintro e w6 ⟨rfl, hb6⟩
              have HB6 := Lib.hid (HB5.out.trans (hb6.mono HB5.out.size))
              clear hb6
              obtain ⟨e0, e1, e2, e3, e4, lE⟩ := HROWS.out w6 HB6.out
              try dsimp only
              try simp only [Act.put, List.setIfInBounds_toArray, List.set_cons_zero, List.set_cons_succ]
              refine segs_take [10, 11, 13, 15, 18] (by kernel_rfl) (fun _ _ _ _ _ h => h) ?_
              simp only [pick, List.getElem?_cons_succ, List.getElem?_cons_zero, Option.getD_some]
              iterate 5 still_step
              refine wpStill_nil ?_
              refine segs_pure 16 (.int .i64 (p + 2)) (by kernel_rfl) (fun _ _ _ _ _ h => h) (by rfl) ?_ ?_
              · intro w2
                try simp only [List.getElem?_cons_succ, List.getElem?_cons_zero, Option.getD_some]
                go_simp
                exact IntWalk.i64_in _ ⟨by omega, by omega⟩
              try simp only [List.getElem?_cons_succ, List.getElem?_cons_zero, Option.getD_some, Act.put, List.setIfInBounds_toArray, List.set_cons_zero, List.set_cons_succ]
              refine segs_pure 17 (.int .i64 (3 * (p + 2))) (by kernel_rfl) (fun _ _ _ _ _ h => h) (by rfl) ?_ ?_
              · intro w2
                try simp only [List.getElem?_cons_succ, List.getElem?_cons_zero, Option.getD_some]
                go_simp
                exact IntWalk.i64_in _ ⟨by omega, by omega⟩
              try simp only [List.getElem?_cons_succ, List.getElem?_cons_zero, Option.getD_some, Act.put, List.setIfInBounds_toArray, List.set_cons_zero, List.set_cons_succ]
              refine segs_two 12 19 (by kernel_rfl) (by rfl) (by rfl) ?_ ?_
              · try simp only [List.getElem?_cons_succ, List.getElem?_cons_zero, Option.getD_some]
                go_simp
                try dsimp only
                try simp only [Act.put, List.setIfInBounds_toArray, List.set_cons_zero, List.set_cons_succ]
                refine segs_two 14 19 (by kernel_rfl) (by rfl) (by rfl) ?_ ?_
                · try simp only [List.getElem?_cons_succ, List.getElem?_cons_zero, Option.getD_some]
                  go_simp
                  (with_reducible refine (HBD.out w6 HB6.out 2).mono ?_)
                  rintro e w7 ⟨rfl, hb7, hb7'⟩
                  have HB7 := Lib.hid hb7
                  rw [HQ.out]
                  have u0 : w7.cell? ⟨T, 0, none⟩ = some (.int .i64 fr) := (HROWS.out w7 hb7).1
                  have uL : T < w7.heap.size := (HROWS.out w7 hb7).2.2.2.2.2
                  clear hb7 hb7'
                  try dsimp only
                  try simp only [Act.put, List.setIfInBounds_toArray, List.set_cons_zero, List.set_cons_succ]
                  refine segs_one 19 (by kernel_rfl) (by rfl) ?_
                  try simp only [List.getElem?_cons_succ, List.getElem?_cons_zero, Option.getD_some]
                  go_simp
                  try dsimp only
                  try simp only [Act.put, List.setIfInBounds_toArray, List.set_cons_zero, List.set_cons_succ]
                  refine segs_pure 20 (.int .i64 (36 * fr)) (by kernel_rfl) (fun _ _ _ _ _ h => h) (by rfl) ?_ ?_
                  · intro w2
                    try simp only [List.getElem?_cons_succ, List.getElem?_cons_zero, Option.getD_some]
                    go_simp
                    exact IntWalk.i64_in _ ⟨by omega, by omega⟩
                  try simp only [List.getElem?_cons_succ, List.getElem?_cons_zero, Option.getD_some, Act.put, List.setIfInBounds_toArray, List.set_cons_zero, List.set_cons_succ]
                  refine segs_pure 21 (.int .i64 (36 * fr + 12)) (by kernel_rfl) (fun _ _ _ _ _ h => h) (by rfl) ?_ ?_
                  · intro w2
                    try simp only [List.getElem?_cons_succ, List.getElem?_cons_zero, Option.getD_some]
                    go_simp
                    exact IntWalk.i64_in _ ⟨by omega, by omega⟩
                  try simp only [List.getElem?_cons_succ, List.getElem?_cons_zero, Option.getD_some, Act.put, List.setIfInBounds_toArray, List.set_cons_zero, List.set_cons_succ]
                  refine segs_pure 22 (.int .i64 (3 * (p + 2) * (36 * fr + 12))) (by kernel_rfl) (fun _ _ _ _ _ h => h) (by rfl) ?_ ?_
                  · intro w2
                    try simp only [List.getElem?_cons_succ, List.getElem?_cons_zero, Option.getD_some]
                    go_simp
                    exact IntWalk.i64_in _ ⟨by omega, by omega⟩
                  try simp only [List.getElem?_cons_succ, List.getElem?_cons_zero, Option.getD_some, Act.put, List.setIfInBounds_toArray, List.set_cons_zero, List.set_cons_succ]
                  refine segs_one 23 (by kernel_rfl) (by rfl) ?_
                  try simp only [List.getElem?_cons_succ, List.getElem?_cons_zero, Option.getD_some]
                  go_simp
                  try dsimp only
                  try simp only [Act.put, List.setIfInBounds_toArray, List.set_cons_zero, List.set_cons_succ]
                  refine segs_take [24, 25] (by kernel_rfl) (fun _ _ _ _ _ h => h) ?_
                  simp only [pick, List.getElem?_cons_succ, List.getElem?_cons_zero, Option.getD_some]
                  iterate 2 still_step
                  refine wpStill_nil ?_
                  refine segs_end (by kernel_rfl) ?_
                  go_wp2_with (fail)
                  all_goals
                    go_ret
                    exact ⟨rfl, HST.out.bel.trans (HB7.out.mono HST.out.bel.size)⟩
                · try simp only [List.getElem?_cons_succ, List.getElem?_cons_zero, Option.getD_some]
                  go_simp
                  try dsimp only
                  try simp only [Act.put, List.setIfInBounds_toArray, List.set_cons_zero, List.set_cons_succ]
                  refine segs_pure 20 (.int .i64 (36 * fr)) (by kernel_rfl) (fun _ _ _ _ _ h => h) (by rfl) ?_ ?_
                  · intro w2
                    try simp only [List.getElem?_cons_succ, List.getElem?_cons_zero, Option.getD_some]
                    go_simp
                    exact IntWalk.i64_in _ ⟨by omega, by omega⟩
                  try simp only [List.getElem?_cons_succ, List.getElem?_cons_zero, Option.getD_some, Act.put, List.setIfInBounds_toArray, List.set_cons_zero, List.set_cons_succ]
                  refine segs_pure 21 (.int .i64 (36 * fr + 12)) (by kernel_rfl) (fun _ _ _ _ _ h => h) (by rfl) ?_ ?_
                  · intro w2
                    try simp only [List.getElem?_cons_succ, List.getElem?_cons_zero, Option.getD_some]
                    go_simp
                    exact IntWalk.i64_in _ ⟨by omega, by omega⟩
                  try simp only [List.getElem?_cons_succ, List.getElem?_cons_zero, Option.getD_some, Act.put, List.setIfInBounds_toArray, List.set_cons_zero, List.set_cons_succ]
                  refine segs_pure 22 (.int .i64 (3 * (p + 2) * (36 * fr + 12))) (by kernel_rfl) (fun _ _ _ _ _ h => h) (by rfl) ?_ ?_
                  · intro w2
                    try simp only [List.getElem?_cons_succ, List.getElem?_cons_zero, Option.getD_some]
                    go_simp
                    exact IntWalk.i64_in _ ⟨by omega, by omega⟩
                  try simp only [List.getElem?_cons_succ, List.getElem?_cons_zero, Option.getD_some, Act.put, List.setIfInBounds_toArray, List.set_cons_zero, List.set_cons_succ]
                  refine segs_one 14 (by kernel_rfl) (by rfl) ?_
                  try simp only [List.getElem?_cons_succ, List.getElem?_cons_zero, Option.getD_some]
                  go_simp
                  (with_reducible refine (HBD.out w6 HB6.out 2).mono ?_)
                  rintro e w7 ⟨rfl, hb7, hb7'⟩
                  have HB7 := Lib.hid hb7
                  rw [HQ.out]
                  have u0 : w7.cell? ⟨T, 0, none⟩ = some (.int .i64 fr) := (HROWS.out w7 hb7).1
                  have uL : T < w7.heap.size := (HROWS.out w7 hb7).2.2.2.2.2
                  clear hb7 hb7'
                  try dsimp only
                  try simp only [Act.put, List.setIfInBounds_toArray, List.set_cons_zero, List.set_cons_succ]
                  refine segs_one 23 (by kernel_rfl) (by rfl) ?_
                  try simp only [List.getElem?_cons_succ, List.getElem?_cons_zero, Option.getD_some]
                  go_simp
                  try dsimp only
                  try simp only [Act.put, List.setIfInBounds_toArray, List.set_cons_zero, List.set_cons_succ]
                  refine segs_take [24, 25] (by kernel_rfl) (fun _ _ _ _ _ h => h) ?_
                  simp only [pick, List.getElem?_cons_succ, List.getElem?_cons_zero, Option.getD_some]
                  iterate 2 still_step
                  refine wpStill_nil ?_
                  refine segs_end (by kernel_rfl) ?_
                  go_wp2_with (fail)
                  all_goals
                    go_ret
                    exact ⟨rfl, HST.out.bel.trans (HB7.out.mono HST.out.bel.size)⟩
              · try simp only [List.getElem?_cons_succ, List.getElem?_cons_zero, Option.getD_some]
                go_simp
                try dsimp only
                try simp only [Act.put, List.setIfInBounds_toArray, List.set_cons_zero, List.set_cons_succ]
                refine segs_pure 20 (.int .i64 (36 * fr)) (by kernel_rfl) (fun _ _ _ _ _ h => h) (by rfl) ?_ ?_
                · intro w2
                  try simp only [List.getElem?_cons_succ, List.getElem?_cons_zero, Option.getD_some]
                  go_simp
                  exact IntWalk.i64_in _ ⟨by omega, by omega⟩
                try simp only [List.getElem?_cons_succ, List.getElem?_cons_zero, Option.getD_some, Act.put, List.setIfInBounds_toArray, List.set_cons_zero, List.set_cons_succ]
                refine segs_pure 21 (.int .i64 (36 * fr + 12)) (by kernel_rfl) (fun _ _ _ _ _ h => h) (by rfl) ?_ ?_
                · intro w2
                  try simp only [List.getElem?_cons_succ, List.getElem?_cons_zero, Option.getD_some]
                  go_simp
                  exact IntWalk.i64_in _ ⟨by omega, by omega⟩
                try simp only [List.getElem?_cons_succ, List.getElem?_cons_zero, Option.getD_some, Act.put, List.setIfInBounds_toArray, List.set_cons_zero, List.set_cons_succ]
                refine segs_pure 22 (.int .i64 (3 * (p + 2) * (36 * fr + 12))) (by kernel_rfl) (fun _ _ _ _ _ h => h) (by rfl) ?_ ?_
                · intro w2
                  try simp only [List.getElem?_cons_succ, List.getElem?_cons_zero, Option.getD_some]
                  go_simp
                  exact IntWalk.i64_in _ ⟨by omega, by omega⟩
                try simp only [List.getElem?_cons_succ, List.getElem?_cons_zero, Option.getD_some, Act.put, List.setIfInBounds_toArray, List.set_cons_zero, List.set_cons_succ]
                refine segs_one 12 (by kernel_rfl) (by rfl) ?_
                try simp only [List.getElem?_cons_succ, List.getElem?_cons_zero, Option.getD_some]
                go_simp
                try dsimp only
                try simp only [Act.put, List.setIfInBounds_toArray, List.set_cons_zero, List.set_cons_succ]
                refine segs_one 14 (by kernel_rfl) (by rfl) ?_
                try simp only [List.getElem?_cons_succ, List.getElem?_cons_zero, Option.getD_some]
                go_simp
                (with_reducible refine (HBD.out w6 HB6.out 2).mono ?_)
                rintro e w7 ⟨rfl, hb7, hb7'⟩
                have HB7 := Lib.hid hb7
                rw [HQ.out]
                have u0 : w7.cell? ⟨T, 0, none⟩ = some (.int .i64 fr) := (HROWS.out w7 hb7).1
                have uL : T < w7.heap.size := (HROWS.out w7 hb7).2.2.2.2.2
                clear hb7 hb7'
                try dsimp only
                try simp only [Act.put, List.setIfInBounds_toArray, List.set_cons_zero, List.set_cons_succ]
                refine segs_one 23 (by kernel_rfl) (by rfl) ?_
                try simp only [List.getElem?_cons_succ, List.getElem?_cons_zero, Option.getD_some]
                go_simp
                try dsimp only
                try simp only [Act.put, List.setIfInBounds_toArray, List.set_cons_zero, List.set_cons_succ]
                refine segs_take [24, 25] (by kernel_rfl) (fun _ _ _ _ _ h => h) ?_
                simp only [pick, List.getElem?_cons_succ, List.getElem?_cons_zero, Option.getD_some]
                iterate 2 still_step
                refine wpStill_nil ?_
                refine segs_end (by kernel_rfl) ?_
                go_wp2_with (fail)
                all_goals
                  go_ret
                  exact ⟨rfl, HST.out.bel.trans (HB7.out.mono HST.out.bel.size)⟩

/-! ### the row: written by program -/
set_option maxRecDepth 100000 in
theorem lifted (os : Os) (started : os.Started) (H : Type) (enc : TypeId × Value → H) :
    ReturnsInHanded {} Try.checked os 4 .any (Rows.traceFreeSpec.pre6 enc Try.prog Try.f4 Rows.traceFreeRow.domain false) (Rows.traceFreeSpec.post enc Try.prog Try.f4 false true false false) := by
  refine returnsInHanded_of_change (C := Try.checked) Go.Proofs.Ytooagoikiafgcaa.lift.own started (by kernel_rfl) Try.func4
    (ChangeSpec.witness6 (enc := enc) (C := Try.checked) false ⟨#[], #[.agg #[.int .i64 0, .slice none 0 0, .slice none 0 0, .slice none 0 0, .int .i64 0], .int .i64 0, .slice none 0 0], []⟩ 8 (by kernel_rfl) (by kernel_rfl) (by kernel_rfl) (by kernel_rfl)) ?_
  intro W base args ds gs before hval0 hW hcnd _
  have hval : ∀ (j : Nat) t v, Try.f4.params[j]? = some t → args[j]? = some v → Value.okWide Try.prog W .any base t v := hval0
  have hW' := hW
  obtain ⟨p, q, hA0, hV, rfl, hfz, hnd⟩ := hW
  have hA : DataW.TrodAll enc Try.prog W 0 (fun _ => true) true Try.f4.params.toList args.toList ds p := hA0
  have hAk := hA
  rw [Try.params4] at hA hval
  obtain ⟨v0, vs0, d0, ds0, p0, q0, hargs, rfl, rfl, h0, r0⟩ := trodAll_cons hA
  obtain ⟨v1, vs1, d1, ds1, p1, q1, rfl, rfl, rfl, h1, r1⟩ := trodAll_cons r0
  obtain ⟨v2, vs2, d2, ds2, p2, q2, rfl, rfl, rfl, h2, r2⟩ := trodAll_cons r1
  obtain ⟨rfl, rfl, rfl⟩ := trodAll_nil r2
  obtain rfl : args = #[v0, v1, v2] := by cases args; simp_all
  obtain ⟨rfl, rfl⟩ := trodVars_none hV
  have hlt := hW'.lt
  obtain ⟨t0, AP0, nP0, cP0, AW0, nW0, cW0, AC0, nC0, cC0, rfl, hv0⟩ := tab.arg_tab (hval 0 39 v0 rfl rfl) h0
  obtain ⟨a1, rfl, _, _, w1⟩ := open_int Try.underlying3 (hval 1 3 v1 rfl rfl) h1
  obtain ⟨A2, c2, z2, rfl, hm2, hs2, hz2⟩ := Go.Proofs.Ytooagoikiafgcaa.lift.arg_ints Try.underlying40 Try.underlying42 (by kernel_rfl) (hval 2 40 v2 rfl rfl) h2
  refine (walk W t0 AP0 nP0 cP0 AW0 nW0 cW0 AC0 nC0 cC0 hv0 a1 w1 A2 c2 z2 hm2 hs2 hz2).mono fun e W' ⟨he, hg⟩ => ?_
  subst he
  exact ⟨_, rfl, Go.Proofs.Ytooagoikiafgcaa.base.postBelow (pv := []) hW' (fun _ _ _ => (trodAll_cons_mk (shut_bool Try.underlying4 _) trodAll_mk0)) (fun sp hsp => Go.Proofs.Ytooagoikiafgcaa.lift.args_stay Go.Proofs.Ytooagoikiafgcaa.lift.laidOut hg _ _ _ _ (by kernel_rfl) hAk (fun x hx => hlt x (by simpa using hx)) (fun x hx => hsp x (by simpa using hx))) (fun _ _ => rfl) (by simp)
    hg (ok_one (by kernel_rfl) rfl (okWide_bool_mk Try.underlying4 _))⟩

theorem over : Rows.traceFreeRow.holds Try.pinned (OpenSpec.ofChange Rows.traceFreeSpec) :=
  OpenClaim.holds_of_wide 4 Try.f4 rfl rfl rfl rfl rfl rfl rfl ⟨rfl, rfl, rfl, rfl, rfl⟩ rfl rfl rfl rfl rfl (by kernel_rfl) Try.func4 (by kernel_rfl)
    (of_decide_eq_true (by kernel_rfl)) (by unfold Func.isWrapper; first | (rw [if_pos (by decide +kernel)]; kernel_rfl) | (rw [if_neg (by decide +kernel)]; exact ⟨rfl, rfl⟩))
    (fun os started H enc _ => lifted os started H enc)

/-- THE STATEMENT -/
theorem proved : Rows.TraceFreeSaid :=
  over
#print axioms proved
end Go.Proofs.Ytooagoikiafgcaa.traceFree
