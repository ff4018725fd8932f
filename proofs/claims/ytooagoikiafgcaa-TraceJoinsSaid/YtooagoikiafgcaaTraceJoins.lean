/-
  PROVED HERE: for all logs a and b and every int part, longeronlaw26.TraceJoins(a, b, part) returns true and leaves memory as it was.
  CONDITIONS: none.
-/
import Derived.Test.YtooagoikiafgcaaJoinArg
import Derived.Test.YtooagoikiafgcaaTraceWakes
namespace Go.Proofs.Ytooagoikiafgcaa.traceJoins
set_option linter.unusedVariables false
open Go.RowKit Go.ChangeShapes Go.WideShapes Go.ChangeAt Go.Deep Go.Joins Go.Proofs.Ytooagoikiafgcaa.base Go.Proofs.Ytooagoikiafgcaa.obj Go.Proofs.Ytooagoikiafgcaa.mem Go.Proofs.Ytooagoikiafgcaa.sep Go.Proofs.Ytooagoikiafgcaa.plan Go.Proofs.Ytooagoikiafgcaa.tab Go.Proofs.Ytooagoikiafgcaa.joins

/-- logs' slices at a later world -/
theorem evs_over {w w' : World} {A : Option Addr} {n : Nat} {l : List EvC} (hs : Sl w w.heap.size 11 A n (evc l)) (hi : ∀ x ∈ l, x.In w w.heap.size) (hb : Below w.heap.size w w') : Sl w' w'.heap.size 11 A n (evc l) ∧ ∀ x ∈ l, x.In w' w'.heap.size :=
  ⟨(hs.below hb).more hb.size, fun x hx => (hi x hx).over hb⟩

theorem own_nil {w : World} {B e size n c : Nat} {A : Option Addr} {xs : List Value} (h : w.ownsRow B e size (.slice A n c) n xs) : A = none → c = 0 := by
  rintro rfl
  rcases h.2 with ⟨h1, _⟩ | ⟨g, cap, cur, h1, _⟩
  · injection h1
  · injection h1 with h1 h2 h3
    cases h1
/-- rows as they are known at a later world -/
structure Rws (w : World) (A : Option Addr) (rs : List RowC) : Prop where
  sl : Sl w w.heap.size 11 A rs.length (rwc rs)
  ins : ∀ x ∈ rs, x.In w 0
theorem Rws.of {w w' : World} {A : Option Addr} {rs : List RowC} {B B' c : Nat} (h : w.ownsRow B 145 11 (.slice A rs.length c) rs.length (rwc rs)) (hi : ∀ x ∈ rs, x.In w B') (hb : Below w.heap.size w w') : Rws w' A rs :=
  ⟨sl_own h hb, fun x hx => ((hi x hx).over hb).mono (Nat.zero_le _)⟩
theorem Rws.over {w w' : World} {A : Option Addr} {rs : List RowC} (h : Rws w A rs) (hb : Below w.heap.size w w') : Rws w' A rs := ⟨(h.sl.below hb).more hb.size, fun x hx => (h.ins x hx).over hb⟩

set_option maxRecDepth 100000 in
set_option maxHeartbeats 16000000 in
theorem walk (w : World) (A : Option Addr) (c : Nat) (la : List EvC) (hm : la.length ≤ maxLen) (hs : Sl w w.heap.size 11 A la.length (evc la)) (hi : ∀ x ∈ la, x.In w w.heap.size) (hz : A = none → c = 0)
    (A' : Option Addr) (c' : Nat) (lb : List EvC) (hm' : lb.length ≤ maxLen) (hs' : Sl w w.heap.size 11 A' lb.length (evc lb)) (hi' : ∀ x ∈ lb, x.In w w.heap.size) (hz' : A' = none → c' = 0)
    (part : Int) (wp : (Lit.int .i64 part).wf = true) :
    Calls Try.prog 8 #[.slice A la.length c, .slice A' lb.length c', .int .i64 part] w fun e w' => e = .returned (.bool true) ∧ Below w.heap.size w w' := by
  have HS := Lib.hid hs; have HI := Lib.hid hi; have HZ := Lib.hid hz; have HS' := Lib.hid hs'; have HI' := Lib.hid hi'; have HZ' := Lib.hid hz'
  obtain ⟨n, hn⟩ : ∃ n, n = la.length := ⟨_, rfl⟩
  obtain ⟨m, hm2⟩ : ∃ m, m = lb.length := ⟨_, rfl⟩
  rw [← hn] at HS ⊢
  rw [← hm2] at HS' ⊢
  have HN := Lib.hid hn; have HM := Lib.hid hm2
  clear hm hs hi hz hm' hs' hi' hz' wp hn hm2
  go_enter Try.func8, Try.ntmps8
  go_wp2_with (fail)
  refine (wakes26 w).mono ?_
  rintro e w1 ⟨rfl, hb1⟩
  have HB1 := Lib.hid hb1
  clear hb1
  by_cases q0 : (n : Int) > 30
  · go_wp2_with (fail)
    go_ret
    exact ⟨rfl, HB1.out⟩
  by_cases q1 : (m : Int) > 30
  · go_wp2_with (fail)
    go_ret
    exact ⟨rfl, HB1.out⟩
  have n30 : n ≤ 30 := by omega
  have m30 : m ≤ 30 := by omega
  have HOA := Lib.hid (evs_over HS.out HI.out HB1.out)
  have HOB := Lib.hid (evs_over HS'.out HI'.out HB1.out)
  have HB0 := Lib.hid ((Below.refl w1.heap.size w1).alloc (Nat.le_refl _) (.cells #[] 49))
  have HOW := Lib.hid ((Row.new w1 49 #[]).own (base := w1.heap.size) (size := 11) (n := 0) (cap := 0) (Nat.le_refl _) (Nat.le_refl _) (by decide) rfl)
  go_wp2_with (first | (at_builtin; refine app_sl slEv rfl (.tmp 22) (.tmp 23) rfl HOW.out rfl rfl HZ.out (HOA.out.1.below HB0.out) (evc_one la) (by omega) (by unfold maxLen; omega) (by simp) ?_; intro v2 w2 ho hg; replace ho : w2.ownsRow w1.heap.size 49 11 v2 n (evc la) := (by simpa using ho); have HO2 := Lib.hid ho; have HB2 := Lib.hid (below_own HB0.out HOW.out hg (by simp)); obtain ⟨A2, c2, e2, hc2, _⟩ := own_form ho; subst e2; clear ho hg; have HSB := Lib.hid (HOB.out.1.below HB2.out)) | (at_builtin; refine app_sl slEv rfl (.tmp 24) (.tmp 25) rfl HO2.out rfl rfl HZ'.out HSB.out (evc_one lb) (by omega) (by unfold maxLen; omega) HB2.out.size ?_; intro v3 w3 ho hg; rw [← evc_app] at ho; have HO3 := Lib.hid ho; have HB3 := Lib.hid (below_own HB2.out HO2.out hg HB2.out.size); obtain ⟨A3, c3, e3, hc3, _⟩ := own_form ho; subst e3; clear ho hg))
  have HL := Lib.hid (show n + m = (la ++ lb).length by rw [List.length_append, ← HN.out, ← HM.out])
  have HSL := Lib.hid (Sl.of_own HO3.out)
  have HIL := Lib.hid (show ∀ x ∈ la ++ lb, x.In w3 w3.heap.size from fun x hx => by
    rcases List.mem_append.1 hx with h | h
    · exact (HOA.out.2 x h).over HB3.out
    · exact (HOB.out.2 x h).over HB3.out)
  have HBW := Lib.hid (HB1.out.trans (HB3.out.mono HB1.out.size))
  obtain ⟨L, hL⟩ : ∃ L, L = la ++ lb := ⟨_, rfl⟩
  rw [← hL] at HL HSL HIL
  obtain ⟨q, hq⟩ : ∃ q, q = n + m := ⟨_, rfl⟩
  rw [← hq] at HL HSL ⊢
  have HLL := Lib.hid hL
  have q60 : q ≤ 60 := by omega
  have HQ := Lib.hid hq
  clear hL hq
  go_loopw [28] (fun i wr => ∃ k : Nat, k ≤ q ∧ i = .int .i64 k ∧ (∀ x ∈ L.take k, x.Small) ∧ Below w3.heap.size w3 wr) (fun i _ => q - (intOf i).toNat)
  case atStart => exact ⟨0, by omega, rfl, by intro x hx; simp at hx, Below.refl _ _⟩
  case round =>
    obtain ⟨k, hk, rfl, hsm, hb⟩ := hrel
    have HSMA := Lib.hid hsm; have HB := Lib.hid hb
    clear hsm hb
    by_cases hlt : k < q
    · have hk1 : (k : Int) < (n : Int) + (m : Int) := by have := HQ.out; omega
      have hkl : k < L.length := by rw [← HL.out]; exact hlt
      have hkq : k + 1 ≤ q := hlt
      obtain ⟨b, off, rfl, hbl, hc⟩ := evc_at HSL.out HL.out HB.out hkl
      obtain ⟨x, hx⟩ : ∃ x, x = L[k]'hkl := ⟨_, rfl⟩
      simp only [← hx] at hc
      have HT := Lib.hid (show L.take (k + 1) = L.take k ++ [x] by rw [hx, List.take_succ_eq_append_getElem hkl])
      clear hx hkl
      obtain ⟨⟨tick, booted, prt, sent, confirm, pc, stack, mem_, ticks, fault, answered⟩, AB, cB, AS, cS, AK, cK, AM, cM⟩ := x
      have e0 := hc 0 _ (by decide) rfl
      have e1 := hc 1 _ (by decide) rfl
      have e2 := hc 2 _ (by decide) rfl
      have e3 := hc 3 _ (by decide) rfl
      have e4 := hc 4 _ (by decide) rfl
      have e5 := hc 5 _ (by decide) rfl
      have e6 := hc 6 _ (by decide) rfl
      have e7 := hc 7 _ (by decide) rfl
      have e8 := hc 8 _ (by decide) rfl
      have e9 := hc 9 _ (by decide) rfl
      have e10 := hc 10 _ (by decide) rfl
      clear hc
      dsimp only at e0 e1 e2 e3 e4 e5 e6 e7 e8 e9 e10
      rw [Nat.add_zero] at e0
      have HB4 := Lib.hid (fun o => HB.out.alloc HB.out.size o)
      have HB5 := Lib.hid (fun o => HBW.out.trans ((HB4.out o).mono HBW.out.size))
      go_upto_region 8 with fail
      by_cases c0 : (booted.length : Int) > 20
      · go_wp2_with (fail)
        go_ret
        exact ⟨rfl, HB5.out _⟩
      by_cases c1 : (sent.length : Int) > 50
      · go_wp2_with (fail)
        go_ret
        exact ⟨rfl, HB5.out _⟩
      by_cases c2 : (stack.length : Int) > 50
      · go_wp2_with (fail)
        go_ret
        exact ⟨rfl, HB5.out _⟩
      by_cases c3 : (mem_.length : Int) > 50
      · go_wp2_with (fail)
        go_ret
        exact ⟨rfl, HB5.out _⟩
      go_wp2_with (fail)
      go_roundw
      case rel =>
        refine ⟨k + 1, hkq, by go_num, ?_, HB4.out _⟩
        rw [HT.out]
        intro y hy
        rcases List.mem_append.1 hy with h | h
        · exact HSMA.out y h
        · rw [List.mem_singleton.1 h]
          exact ⟨by dsimp only; omega, by dsimp only; omega, by dsimp only; omega, by dsimp only; omega⟩
      case measure => simp [intOf] <;> omega
    · have hk1 : ¬ (k : Int) < (n : Int) + (m : Int) := by have := HQ.out; omega
      have HSM := Lib.hid (show ∀ x ∈ L, x.Small from fun x hx => HSMA.out x (by rw [List.take_of_length_le (by rw [← HL.out]; omega)]; exact hx))
      have HSA := Lib.hid (show ∀ x ∈ la, x.Small from fun x hx => HSM.out x (by rw [HLL.out]; exact List.mem_append.2 (.inl hx)))
      have HSB2 := Lib.hid (show ∀ x ∈ lb, x.Small from fun x hx => HSM.out x (by rw [HLL.out]; exact List.mem_append.2 (.inr hx)))
      have HBR := Lib.hid (HB3.out.trans (HB.out.mono HB3.out.size))
      have HRA := Lib.hid (evs_over HOA.out.1 HOA.out.2 HBR.out)
      have HRB := Lib.hid (evs_over HOB.out.1 HOB.out.2 HBR.out)
      have HVA := Lib.hid (view_at wr part A n c la HN.out HRA.out.1 HRA.out.2 (by omega) HSA.out)
      go_wp2_with (fail)
      refine HVA.out.mono ?_
      rintro e w4 ⟨Ax, cx, rx, rfl, hdx, hox, hix, hb4⟩
      have HDX := Lib.hid hdx; have HOX := Lib.hid hox; have HIX := Lib.hid hix; have HB4 := Lib.hid hb4
      clear hdx hox hix hb4
      have HRB4 := Lib.hid (evs_over HRB.out.1 HRB.out.2 HB4.out)
      have HVB := Lib.hid (view_at w4 part A' m c' lb HM.out HRB4.out.1 HRB4.out.2 (by omega) HSB2.out)
      go_wp2_with (fail)
      refine HVB.out.mono ?_
      rintro e w5 ⟨Ay, cy, ry, rfl, hdy, hoy, hiy, hb5⟩
      have HDY := Lib.hid hdy; have HOY := Lib.hid hoy; have HIY := Lib.hid hiy; have HB5 := Lib.hid hb5
      clear hdy hoy hiy hb5
      have HBR5 := Lib.hid (HB4.out.trans (HB5.out.mono HB4.out.size))
      have HRA5 := Lib.hid (evs_over HRA.out.1 HRA.out.2 HBR5.out)
      have HRB5 := Lib.hid (evs_over HRB.out.1 HRB.out.2 HBR5.out)
      have HBZ := Lib.hid ((Below.refl w5.heap.size w5).alloc (Nat.le_refl _) (.cells #[] 49))
      have HOZ := Lib.hid ((Row.new w5 49 #[]).own (base := w5.heap.size) (size := 11) (n := 0) (cap := 0) (Nat.le_refl _) (Nat.le_refl _) (by decide) rfl)
      go_wp2_with (first | (at_builtin; refine app_sl slEv rfl (.tmp 63) (.tmp 64) rfl HOZ.out rfl rfl HZ.out (HRA5.out.1.below HBZ.out) (evc_one la) (by omega) (by unfold maxLen; omega) (by simp) ?_; intro v6 w6 ho hg; replace ho : w6.ownsRow w5.heap.size 49 11 v6 n (evc la) := (by simpa using ho); have HO6 := Lib.hid ho; have HB6 := Lib.hid (below_own HBZ.out HOZ.out hg (by simp)); obtain ⟨A6, c6, e6, hc6, _⟩ := own_form ho; subst e6; clear ho hg; have HS6 := Lib.hid (HRB5.out.1.below HB6.out)) | (at_builtin; refine app_sl slEv rfl (.tmp 65) (.tmp 66) rfl HO6.out rfl rfl HZ'.out HS6.out (evc_one lb) (by omega) (by unfold maxLen; omega) HB6.out.size ?_; intro v7 w7 ho hg; rw [← evc_app] at ho; have HO7 := Lib.hid ho; have HB7 := Lib.hid (below_own HB6.out HO6.out hg HB6.out.size); obtain ⟨A7, c7, e7, hc7, _⟩ := own_form ho; subst e7; clear ho hg))
      have HB57 := Lib.hid HB7.out
      have HIL7 := Lib.hid (show ∀ x ∈ la ++ lb, x.In w7 w7.heap.size from fun x hx => by
        rcases List.mem_append.1 hx with h | h
        · exact (HRA5.out.2 x h).over HB7.out
        · exact (HRB5.out.2 x h).over HB7.out)
      have HVL := Lib.hid (view_at w7 part A7 (n + m) c7 (la ++ lb) (by rw [List.length_append, ← HN.out, ← HM.out]) (Sl.of_own HO7.out) HIL7.out (by omega) (by rw [← HLL.out]; exact HSM.out))
      refine HVL.out.mono ?_
      rintro e w8 ⟨Az, cz, rz, rfl, hdz, hoz, hiz, hb8⟩
      have HDZ := Lib.hid hdz; have HOZZ := Lib.hid hoz; have HIZ := Lib.hid hiz
      have HB58 := Lib.hid (HB57.out.trans (hb8.mono HB57.out.size))
      clear hdz hoz hiz hb8
      have HX8 := Lib.hid (Rws.of HOX.out HIX.out (HB5.out.trans (HB58.out.mono HB5.out.size)))
      have HY8 := Lib.hid (Rws.of HOY.out HIY.out HB58.out)
      have HZ8 := Lib.hid (Rws.of HOZZ.out HIZ.out (Below.refl _ _))
      have HXN := Lib.hid (own_nil HOX.out)
      have HYN := Lib.hid (own_nil HOY.out)
      have HBA := Lib.hid ((HBW.out.trans (HB.out.mono HBW.out.size)).trans ((HBR5.out.trans (HB58.out.mono HBR5.out.size)).mono (HBW.out.trans (HB.out.mono HBW.out.size)).size))
      have HXS := Lib.hid (row_small HSA.out HDX.out)
      have HYS := Lib.hid (row_small HSB2.out HDY.out)
      have HZS := Lib.hid (row_small (l := la ++ lb) (by rw [← HLL.out]; exact HSM.out) HDZ.out)
      have lx : rx.length ≤ 30 := by have := view_len2 HDX.out; have := HN.out; omega
      have ly : ry.length ≤ 30 := by have := view_len2 HDY.out; have := HM.out; omega
      have HEQ := Lib.hid (show rz.map RowC.d = (rx ++ ry).map RowC.d by rw [HDZ.out, List.map_append, List.map_append, viewL_joins, HDX.out, HDY.out])
      have lz : rz.length = rx.length + ry.length := by
        have h := congrArg List.length HEQ.out
        simpa using h
      obtain ⟨zl, hzl⟩ : ∃ zl, zl = rz.length := ⟨_, rfl⟩
      obtain ⟨xl, hxl⟩ : ∃ xl, xl = rx.length := ⟨_, rfl⟩
      obtain ⟨yl, hyl⟩ : ∃ yl, yl = ry.length := ⟨_, rfl⟩
      have HZL := Lib.hid hzl; have HXL := Lib.hid hxl; have HYL := Lib.hid hyl
      rw [← hzl, ← hxl, ← hyl] at lz
      rw [← hxl] at lx
      rw [← hyl] at ly
      have hlen : ((zl : Int) == (xl : Int) + (yl : Int)) = true := by simp; omega
      have HBQ := Lib.hid ((Below.refl w8.heap.size w8).alloc (Nat.le_refl _) (.cells #[] 145))
      have HOQ := Lib.hid ((Row.new w8 145 #[]).own (base := w8.heap.size) (size := 11) (n := 0) (cap := 0) (Nat.le_refl _) (Nat.le_refl _) (by decide) rfl)
      have HXA := Lib.hid (show Sl (w8.alloc (.cells #[] 145)) w8.heap.size 11 Ax xl (rwc rx) by rw [hxl]; exact HX8.out.sl.below HBQ.out)
      have HYA := Lib.hid (show Sl w8 w8.heap.size 11 Ay yl (rwc ry) by rw [hyl]; exact HY8.out.sl)
      rw [← hxl, ← hyl, ← hzl]
      clear hzl hxl hyl
      have HLZ := Lib.hid lz
      go_wp2_with (first | (at_builtin; refine app_sl slRow rfl (.tmp 71) (.tmp 72) rfl HOQ.out rfl rfl HXN.out HXA.out (rwc_one rx) (by omega) (by unfold maxLen; omega) (by simp) ?_; intro v9 w9 ho hg; replace ho : w9.ownsRow w8.heap.size 145 11 v9 xl (rwc rx) := (by simpa using ho); have HO9 := Lib.hid ho; have HB9 := Lib.hid (below_own HBQ.out HOQ.out hg (by simp)); obtain ⟨A9, c9, e9, hc9, _⟩ := own_form ho; subst e9; clear ho hg; have HY9 := Lib.hid (HYA.out.below HB9.out)) | (at_builtin; refine app_sl slRow rfl (.tmp 73) (.tmp 74) rfl HO9.out rfl rfl HYN.out HY9.out (rwc_one ry) (by omega) (by unfold maxLen; omega) HB9.out.size ?_; intro v10 w10 ho hg; rw [← rwc_app] at ho; have HO10 := Lib.hid ho; have HB10 := Lib.hid (below_own HB9.out HO9.out hg HB9.out.size); obtain ⟨A10, c10, e10, hc10, _⟩ := own_form ho; subst e10; clear ho hg))
      have HX10 := Lib.hid (HX8.out.over HB10.out)
      have HY10 := Lib.hid (HY8.out.over HB10.out)
      have HZ10 := Lib.hid (HZ8.out.over HB10.out)
      have HLXY := Lib.hid (show xl + yl = (rx ++ ry).length by rw [List.length_append, ← HXL.out, ← HYL.out])
      have HLZZ := Lib.hid (show xl + yl = rz.length by rw [← HZL.out]; exact HLZ.out.symm)
      have HS1 := Lib.hid ((same_at rz (rx ++ ry) Az A10 (xl + yl) (xl + yl) cz c10 0 w10 HLZZ.out HLXY.out (by omega) (by omega) (by rw [HLZZ.out]; exact HZ10.out.sl) (Sl.of_own HO10.out) HZ10.out.ins (fun x hx => by
        rcases List.mem_append.1 hx with h | h
        · exact HX10.out.ins x h
        · exact HY10.out.ins x h) HZS.out (fun x hx => by
        rcases List.mem_append.1 hx with h | h
        · exact HXS.out x h
        · exact HYS.out x h)).mono fun e w' h => show e = .returned (.bool true) ∧ Below w10.heap.size w10 w' from ⟨by rw [h.1, HEQ.out]; simp, h.2⟩)
      refine HS1.out.mono ?_
      rintro e w11 ⟨rfl, hb11⟩
      have HX11 := Lib.hid (HX10.out.over hb11)
      have HY11 := Lib.hid (HY10.out.over hb11)
      have HB11 := Lib.hid (HBA.out.trans ((HB10.out.trans (hb11.mono HB10.out.size)).mono HBA.out.size))
      clear hb11
      obtain ⟨bv, hbv⟩ : ∃ bv, bv = decide (rx.map RowC.d = ry.map RowC.d) := ⟨_, rfl⟩
      have HS2 := Lib.hid (show Calls Try.prog 34 #[.slice Ax xl cx, .slice Ay yl cy] w11 fun e w' => e = .returned (.bool bv) ∧ Below w11.heap.size w11 w' from (same_at rx ry Ax Ay xl yl cx cy 0 w11 HXL.out HYL.out (by omega) (by omega) (by rw [HXL.out]; exact HX11.out.sl) (by rw [HYL.out]; exact HY11.out.sl) HX11.out.ins HY11.out.ins HXS.out HYS.out).mono fun e w' h => ⟨by rw [h.1, hbv], h.2⟩)
      have HS3 := Lib.hid (fun (w12 : World) (hb : Below w11.heap.size w11 w12) => (show Calls Try.prog 34 #[.slice Ay yl cy, .slice Ax xl cx] w12 fun e w' => e = .returned (.bool bv) ∧ Below w12.heap.size w12 w' from (same_at ry rx Ay Ax yl xl cy cx 0 w12 HYL.out HXL.out (by omega) (by omega) (by rw [HYL.out]; exact (HY11.out.over hb).sl) (by rw [HXL.out]; exact (HX11.out.over hb).sl) (HY11.out.over hb).ins (HX11.out.over hb).ins HYS.out HXS.out).mono fun e w' h => ⟨by rw [h.1, hbv]; congr 2; exact decide_eq_decide.2 ⟨fun h => h.symm, fun h => h.symm⟩, h.2⟩))
      have HBV := Lib.hid (show bv = true → xl = yl from fun h => by
        rw [hbv] at h
        have h2 := congrArg List.length (of_decide_eq_true h)
        rw [List.length_map, List.length_map, ← HXL.out, ← HYL.out] at h2
        exact h2)
      clear hbv
      go_wp2_with (fail)
      refine HS2.out.mono ?_
      rintro e w12 ⟨rfl, hb12⟩
      have HS4 := Lib.hid (HS3.out w12 hb12)
      have HB12 := Lib.hid (HB11.out.trans (hb12.mono HB11.out.size))
      clear hb12
      by_cases hxy : xl = yl
      · subst hxy
        go_wp2_with (fail)
        refine HS4.out.mono ?_
        rintro e w13 ⟨rfl, hb13⟩
        have HB13 := Lib.hid (HB12.out.trans (hb13.mono HB12.out.size))
        clear hb13
        cases bv <;>
        · go_wp2_with (fail)
          go_ret
          exact ⟨rfl, HB13.out⟩
      · have hxy2 : ((xl : Int) == (yl : Int)) = false := by simp; omega
        have hbf : bv = false := by
          cases bv
          · rfl
          · exact absurd (HBV.out rfl) hxy
        subst hbf
        go_wp2_with (fail)
        go_ret
        exact ⟨rfl, HB12.out⟩

/-! ### the row: written by program -/
set_option maxRecDepth 100000 in
theorem lifted (os : Os) (started : os.Started) (H : Type) (enc : TypeId × Value → H) :
    ReturnsInHanded {} Try.checked os 8 .any (Rows.traceJoinsSpec.pre6 enc Try.prog Try.f8 Rows.traceJoinsRow.domain false) (Rows.traceJoinsSpec.post enc Try.prog Try.f8 false true false false) := by
  refine returnsInHanded_of_change (C := Try.checked) Go.Proofs.Ytooagoikiafgcaa.lift.own started (by kernel_rfl) Try.func8
    (ChangeSpec.witness6 (enc := enc) (C := Try.checked) false ⟨#[], #[.slice none 0 0, .slice none 0 0, .int .i64 0], []⟩ 8 (by kernel_rfl) (by kernel_rfl) (by kernel_rfl) (by kernel_rfl)) ?_
  intro W base args ds gs before hval0 hW hcnd _
  have hval : ∀ (j : Nat) t v, Try.f8.params[j]? = some t → args[j]? = some v → Value.okWide Try.prog W .any base t v := hval0
  have hW' := hW
  obtain ⟨p, q, hA0, hV, rfl, hfz, hnd⟩ := hW
  have hA : DataW.TrodAll enc Try.prog W 0 (fun _ => true) true Try.f8.params.toList args.toList ds p := hA0
  have hAk := hA
  rw [Try.params8] at hA hval
  obtain ⟨v0, vs0, d0, ds0, p0, q0, hargs, rfl, rfl, h0, r0⟩ := trodAll_cons hA
  obtain ⟨v1, vs1, d1, ds1, p1, q1, rfl, rfl, rfl, h1, r1⟩ := trodAll_cons r0
  obtain ⟨v2, vs2, d2, ds2, p2, q2, rfl, rfl, rfl, h2, r2⟩ := trodAll_cons r1
  obtain ⟨rfl, rfl, rfl⟩ := trodAll_nil r2
  obtain rfl : args = #[v0, v1, v2] := by cases args; simp_all
  obtain ⟨rfl, rfl⟩ := trodVars_none hV
  have hlt := hW'.lt
  obtain ⟨A0, c0, l0, rfl, hm0, hs0, hi0, hz0⟩ := joins.arg_evs2 (hval 0 41 v0 rfl rfl) h0
  obtain ⟨A1, c1, l1, rfl, hm1, hs1, hi1, hz1⟩ := joins.arg_evs2 (hval 1 41 v1 rfl rfl) h1
  obtain ⟨a2, rfl, _, _, w2⟩ := open_int Try.underlying3 (hval 2 3 v2 rfl rfl) h2
  refine (walk W A0 c0 l0 hm0 hs0 hi0 hz0 A1 c1 l1 hm1 hs1 hi1 hz1 a2 w2).mono fun e W' ⟨he, hg⟩ => ?_
  subst he
  exact ⟨_, rfl, Go.Proofs.Ytooagoikiafgcaa.base.postBelow (pv := []) hW' (fun _ _ _ => (trodAll_cons_mk (shut_bool Try.underlying4 _) trodAll_mk0)) (fun sp hsp => Go.Proofs.Ytooagoikiafgcaa.lift.args_stay Go.Proofs.Ytooagoikiafgcaa.lift.laidOut hg _ _ _ _ (by kernel_rfl) hAk (fun x hx => hlt x (by simpa using hx)) (fun x hx => hsp x (by simpa using hx))) (fun _ _ => rfl) (by simp)
    hg (ok_one (by kernel_rfl) rfl (okWide_bool_mk Try.underlying4 _))⟩

theorem over : Rows.traceJoinsRow.holds Try.pinned (OpenSpec.ofChange Rows.traceJoinsSpec) :=
  OpenClaim.holds_of_wide 8 Try.f8 rfl rfl rfl rfl rfl rfl rfl ⟨rfl, rfl, rfl, rfl, rfl⟩ rfl rfl rfl rfl rfl (by kernel_rfl) Try.func8 (by kernel_rfl)
    (of_decide_eq_true (by kernel_rfl)) (by unfold Func.isWrapper; first | (rw [if_pos (by decide +kernel)]; kernel_rfl) | (rw [if_neg (by decide +kernel)]; exact ⟨rfl, rfl⟩))
    (fun os started H enc _ => lifted os started H enc)

/-- THE STATEMENT -/
theorem proved : Rows.TraceJoinsSaid :=
  over
#print axioms proved
end Go.Proofs.Ytooagoikiafgcaa.traceJoins
