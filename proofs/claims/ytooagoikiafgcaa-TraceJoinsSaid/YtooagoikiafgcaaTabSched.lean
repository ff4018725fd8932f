/-
  PROVED HERE: what sched.at and sched.At answer.
  CONDITIONS: each lemma names its own.
-/
import Derived.Test.YtooagoikiafgcaaTabFree
import Derived.Test.YtooagoikiafgcaaRes
import Derived.Deep.RegionLaw
namespace Go.Proofs.Ytooagoikiafgcaa.tab
set_option linter.unusedVariables false
open Go.RowKit Go.Proofs.Ytooagoikiafgcaa.base Go.Proofs.Ytooagoikiafgcaa.obj Go.Proofs.Ytooagoikiafgcaa.mem Go.Proofs.Ytooagoikiafgcaa.sep Go.Proofs.Ytooagoikiafgcaa.plan

def winGet (t : Tab) (i : Int) : T3 := t.wins.getD i.toNat ⟨-1, -1, -1⟩
def partAt (t : Tab) (tick : Int) : Int := if winAt t (tick % t.frame) ≥ 0 then (winGet t (winAt t (tick % t.frame))).a else -1
def startsAt (t : Tab) (tick : Int) : Bool := decide (winAt t (tick % t.frame) ≥ 0) && ((winGet t (winAt t (tick % t.frame))).b == tick % t.frame)
def whenV (t : Tab) (tick : Int) : Array Value := #[.int .i64 (tick / t.frame), .int .i64 (tick % t.frame), .int .i64 (winAt t (tick % t.frame)), .int .i64 (partAt t tick), .bool (tick % t.frame == 0), .bool (startsAt t tick)]
theorem findI_cases (p : T3 → Bool) (l : List T3) : findI p l = -1 ∨ ∃ k : Nat, ∃ hk : k < l.length, findI p l = k ∧ p l[k] = true := by
  unfold findI
  cases h : l.findIdx? p with
  | none => exact .inl rfl
  | some k =>
    rw [List.findIdx?_eq_some_iff_getElem] at h
    obtain ⟨hk, hp, _⟩ := h
    exact .inr ⟨k, hk, rfl, hp⟩
section
variable {w : World} {t : Tab} {AP AW AC : Option Addr} {nP cP nW cW nC cC : Nat}
set_option maxRecDepth 100000 in
set_option maxHeartbeats 8000000 in
theorem at_at (h : TabV w w.heap.size t AP nP cP AW nW cW AC nC cC) (hr : t.right = true) (tick : Int) (h0 : 0 ≤ tick) (h1 : tick ≤ 9223372036854775807) : Calls Try.prog 102 #[tabAgg t.frame AP nP cP AW nW cW AC nC cC t.trial, .int .i64 tick] w fun e w' => e = .returned (.agg (whenV t tick)) ∧ Below w.heap.size w w' := by
  have HV := Lib.hid h
  obtain ⟨f1, f2, _⟩ := right_frame hr
  have HWN := Lib.hid (fun (w' : World) (hb : Below w.heap.size w w') (pos : Int) => window_at (h.over hb) pos)
  have HPA := Lib.hid (show partAt t tick = if winAt t (tick % t.frame) ≥ 0 then (winGet t (winAt t (tick % t.frame))).a else -1 from rfl)
  have HSA := Lib.hid (show startsAt t tick = (decide (winAt t (tick % t.frame) ≥ 0) && ((winGet t (winAt t (tick % t.frame))).b == tick % t.frame)) from rfl)
  have HWH := Lib.hid (show whenV t tick = #[.int .i64 (tick / t.frame), .int .i64 (tick % t.frame), .int .i64 (winAt t (tick % t.frame)), .int .i64 (partAt t tick), .bool (tick % t.frame == 0), .bool (startsAt t tick)] from rfl)
  have HWC := Lib.hid (show winAt t (tick % t.frame) = -1 ∨ ∃ k : Nat, ∃ hk : k < t.wins.length, winAt t (tick % t.frame) = k ∧ winGet t (winAt t (tick % t.frame)) = t.wins[k] by
    have e : winAt t (tick % t.frame) = findI (winP (tick % t.frame)) t.wins := by unfold winAt; rw [hr]; rfl
    rcases findI_cases (winP (tick % t.frame)) t.wins with h | ⟨k, hk, h, _⟩
    · exact .inl (e.trans h)
    · refine .inr ⟨k, hk, e.trans h, ?_⟩
      rw [e, h]
      unfold winGet
      rw [Int.toNat_natCast, List.getD_eq_getElem?_getD, List.getElem?_eq_getElem hk]
      rfl)
  obtain ⟨fr, hfr⟩ : ∃ fr, fr = t.frame := ⟨_, rfl⟩
  obtain ⟨tr, htr⟩ : ∃ tr, tr = t.trial := ⟨_, rfl⟩
  rw [← hfr] at f1 f2 HPA HSA HWH HWC
  rw [← hfr, ← htr] at HWN ⊢
  obtain ⟨q, hq⟩ : ∃ q, q = tick / fr := ⟨_, rfl⟩
  obtain ⟨pos, hpos⟩ : ∃ pos, pos = tick % fr := ⟨_, rfl⟩
  rw [← hq] at HWH
  rw [← hpos] at HWH HPA HSA HWC
  have htd : tick.tdiv fr = q := by rw [hq]; exact Int.tdiv_eq_ediv_of_nonneg h0
  have htm : tick.tmod fr = pos := by rw [hpos]; exact Int.tmod_eq_emod_of_nonneg h0
  have hq0 : 0 ≤ q := by rw [hq]; exact Int.ediv_nonneg h0 (by omega)
  have hq1 : q ≤ tick := by rw [hq]; exact Int.ediv_le_self _ h0
  have hp0 : 0 ≤ pos := by rw [hpos]; exact Int.emod_nonneg _ (by omega)
  have hp1 : pos < 64 := by have := Int.emod_lt_of_pos tick (show 0 < fr by omega); omega
  have hfn : (fr == 0) = false := by simp; omega
  obtain ⟨T, hT⟩ : ∃ T, T = w.heap.size := ⟨_, rfl⟩
  obtain ⟨R, hR⟩ : ∃ R, R = w.heap.size + 1 := ⟨_, rfl⟩
  obtain ⟨w1, hw1⟩ : ∃ w1, w1 = (w.alloc (.cells #[.int .i64 fr, .slice AP nP cP, .slice AW nW cW, .slice AC nC cC, .int .i64 tr] 39)).alloc (.cells #[.int .i64 0, .int .i64 0, .int .i64 0, .int .i64 0, .bool false, .bool false] 130) := ⟨_, rfl⟩
  have H1 := Lib.hid (show St w w1 [row R 130 [.int .i64 0, .int .i64 0, .int .i64 0, .int .i64 0, .bool false, .bool false], row T 39 (tabRow fr AP nP cP AW nW cW AC nC cC tr)] by
    rw [hw1, hT, hR]
    have h := ((St.nil w).new 39 #[.int .i64 fr, .slice AP nP cP, .slice AW nW cW, .slice AC nC cC, .int .i64 tr]).new 130 #[.int .i64 0, .int .i64 0, .int .i64 0, .int .i64 0, .bool false, .bool false]
    simp only [World.size_alloc] at h
    exact h)
  have HW1 := Lib.hid hw1; have HT := Lib.hid hT; have HR := Lib.hid hR
  have t0 : w1.cell? ⟨T, 0, none⟩ = some (.int .i64 fr) := (H1.out.pick 1 rfl).row.1.cell 0
  have lT : T < w1.heap.size := (H1.out.pick 1 rfl).row.1.lt
  have HQ := Lib.hid hq; have HPP := Lib.hid hpos
  clear h hw1 hT hR hfr htr hr hq hpos
  go_enter Try.func102, Try.ntmps102
  go_upto_region 1 with fail
  rw [← HW1.out, ← HR.out, ← HT.out]
  go_region
  go_upto_region 2 with fail
  obtain ⟨V, hV⟩ : ∃ V, V = w1.heap.size := ⟨_, rfl⟩
  obtain ⟨w3, hw3⟩ : ∃ w3, w3 = (w1.alloc (.cells #[.int .i64 q, .int .i64 pos, .int .i64 0, .int .i64 (-1), .bool false, .bool false] 130)).drew := ⟨_, rfl⟩
  have H3 := Lib.hid (show St w w3 [row V 130 [.int .i64 q, .int .i64 pos, .int .i64 0, .int .i64 (-1), .bool false, .bool false], row R 130 [.int .i64 0, .int .i64 0, .int .i64 0, .int .i64 0, .bool false, .bool false], row T 39 (tabRow fr AP nP cP AW nW cW AC nC cC tr)] by
    rw [hw3, hV]
    exact (H1.out.new 130 #[.int .i64 q, .int .i64 pos, .int .i64 0, .int .i64 (-1), .bool false, .bool false]).drew)
  have HV3 := Lib.hid hV; have HW3 := Lib.hid hw3
  clear hV hw3 t0 lT htd htm hfn
  rw [← HW3.out, ← HV3.out]
  have t0 : w3.cell? ⟨T, 0, none⟩ = some (.int .i64 fr) := (H3.out.pick 2 rfl).row.1.cell 0
  have t1 : w3.cell? ⟨T, 1, none⟩ = some (.slice AP nP cP) := (H3.out.pick 2 rfl).row.1.cell 1
  have t2 : w3.cell? ⟨T, 2, none⟩ = some (.slice AW nW cW) := (H3.out.pick 2 rfl).row.1.cell 2
  have t3 : w3.cell? ⟨T, 3, none⟩ = some (.slice AC nC cC) := (H3.out.pick 2 rfl).row.1.cell 3
  have t4 : w3.cell? ⟨T, 4, none⟩ = some (.int .i64 tr) := (H3.out.pick 2 rfl).row.1.cell 4
  have lT : T < w3.heap.size := (H3.out.pick 2 rfl).row.1.lt
  have v1 : w3.cell? ⟨V, 1, none⟩ = some (.int .i64 pos) := H3.out.row.1.cell 1
  have lV : V < w3.heap.size := H3.out.row.1.lt
  have HCL := Lib.hid (HWN.out w3.drew H3.out.bel.drew pos)
  obtain ⟨wi, hwi⟩ : ∃ wi, wi = winAt t pos := ⟨_, rfl⟩
  rw [← hwi] at HCL HPA HSA HWC HWH
  have HWI := Lib.hid hwi
  clear hwi
  obtain ⟨bg, hbg⟩ : ∃ bg, bg = (pos == 0) := ⟨_, rfl⟩
  rw [← hbg] at HWH
  have HBG := Lib.hid hbg
  clear hbg
  go_cut [24] (fun _ wc => St w wc [row V 130 [.int .i64 q, .int .i64 pos, .int .i64 wi, .int .i64 (-1), .bool bg, .bool false], row R 130 [.int .i64 0, .int .i64 0, .int .i64 0, .int .i64 0, .bool false, .bool false], row T 39 (tabRow fr AP nP cP AW nW cW AC nC cC tr)])
  case first =>
    go_region_law (go_simp; (with_reducible refine HCL.out.mono ?_); rintro e w4 ⟨rfl, hb4⟩; have H4 := Lib.hid (H3.out.drew.below hb4); have x1 : w4.cell? ⟨V, 1, none⟩ = some (.int .i64 pos) := H4.out.row.1.cell 1; have x2 : w4.cell? ⟨V, 2, none⟩ = some (.int .i64 0) := H4.out.row.1.cell 2; have x4 : w4.cell? ⟨V, 4, none⟩ = some (.bool false) := H4.out.row.1.cell 4; have y2 := H4.out.row.1.frozen 2; have y4 := H4.out.row.1.frozen 4; have lx : V < w4.heap.size := H4.out.row.1.lt; clear hb4; dsimp only)
    all_goals
      go_wp2_with (fail)
      go_meet
      rw [← HBG.out]
      exact (H4.out.set 2 (.int .i64 wi)).set 4 (.bool bg)
  case rest =>
    have H5 := Lib.hid hcut
    clear hcut t0 t1 t2 t3 t4 lT v1 lV H3 H1
    have t2 : wc.cell? ⟨T, 2, none⟩ = some (.slice AW nW cW) := (H5.out.pick 2 rfl).row.1.cell 2
    have lT : T < wc.heap.size := (H5.out.pick 2 rfl).row.1.lt
    have v0 : wc.cell? ⟨V, 0, none⟩ = some (.int .i64 q) := H5.out.row.1.cell 0
    have v1 : wc.cell? ⟨V, 1, none⟩ = some (.int .i64 pos) := H5.out.row.1.cell 1
    have v2 : wc.cell? ⟨V, 2, none⟩ = some (.int .i64 wi) := H5.out.row.1.cell 2
    have v3 : wc.cell? ⟨V, 3, none⟩ = some (.int .i64 (-1)) := H5.out.row.1.cell 3
    have v4 : wc.cell? ⟨V, 4, none⟩ = some (.bool bg) := H5.out.row.1.cell 4
    have v5 : wc.cell? ⟨V, 5, none⟩ = some (.bool false) := H5.out.row.1.cell 5
    have lV : V < wc.heap.size := H5.out.row.1.lt
    have hcase := HWC.out
    rcases hcase with hno | ⟨k, hk, hwk, hget⟩
    · have HV5 := Lib.hid (show whenV t tick = #[.int .i64 q, .int .i64 pos, .int .i64 wi, .int .i64 (-1), .bool bg, .bool false] by
        have e1 : partAt t tick = -1 := by rw [HPA.out, hno]; rfl
        have e2 : startsAt t tick = false := by rw [HSA.out, hno]; rfl
        rw [HWH.out, e1, e2])
      have hlt : ¬ wi ≥ 0 := by omega
      have HR6 := Lib.hid (H5.out.pick 1 rfl).row.1
      have H6 := Lib.hid ((H5.out.pick 1 rfl).setRow [.int .i64 q, .int .i64 pos, .int .i64 wi, .int .i64 (-1), .bool bg, .bool false])
      have MS := Lib.hid (show (Try.prog.info? 130).map (·.size) = some (#[Value.int .i64 q, .int .i64 pos, .int .i64 wi, .int .i64 (-1), .bool bg, .bool false] : Array Value).size from by kernel_rfl)
      clear hno
      go_upto_region 6 with fail
      go_wp2_with (with_reducible refine wpList_putR rfl 130 (.tmp 4) (.tmp 43) rfl R 0 #[.int .i64 q, .int .i64 pos, .int .i64 wi, .int .i64 (-1), .bool bg, .bool false] rfl rfl HR6.out MS.out (Nat.le_refl _) (by simp [Value.oneCell']) [.int .i64 q, .int .i64 pos, .int .i64 wi, .int .i64 (-1), .bool bg, .bool false] rfl ?_)
      refine bodyPost_ret (results_cell_row rfl _ _ R _ _ _ _ rfl H6.out.row.1 Try.underlying130 rfl (by kernel_rfl)) rfl ?_
      rw [HV5.out]
      exact ⟨rfl, H6.out.bel⟩
    · subst hwk
      have hk0 : (0 : Int) ≤ (k : Int) := by omega
      have hknW : k < nW := by rw [HV.out.lw]; exact hk
      have hk1 : (k : Int) < (nW : Int) := by omega
      have hkge : (k : Int) ≥ 0 := by omega
      obtain ⟨b, off, rfl, lb, c0, c1, c2⟩ := t3s_get (HV.out.over H5.out.bel).ws HV.out.lw hk
      have HPA2 := Lib.hid (show partAt t tick = t.wins[k].a by rw [HPA.out, if_pos hkge, hget])
      have HSA2 := Lib.hid (show startsAt t tick = (t.wins[k].b == pos) by rw [HSA.out, decide_eq_true hkge, hget, Bool.true_and])
      generalize t.wins[k] = x at c0 c1 c2 HPA2 HSA2 hget
      obtain ⟨xa, xb, xc⟩ := x
      dsimp only at c0 c1 c2 HPA2 HSA2
      clear hget hk
      go_upto_region 5 with fail
      obtain ⟨O, hO⟩ : ∃ O, O = wc.heap.size := ⟨_, rfl⟩
      obtain ⟨w6, hw6⟩ : ∃ w6, w6 = wc.alloc (.cells #[.int .i64 xa, .int .i64 xb, .int .i64 xc] 137) := ⟨_, rfl⟩
      have H6 := Lib.hid (show St w w6 [row V 130 [.int .i64 q, .int .i64 pos, .int .i64 k, .int .i64 (-1), .bool bg, .bool false], row O 137 [.int .i64 xa, .int .i64 xb, .int .i64 xc], row R 130 [.int .i64 0, .int .i64 0, .int .i64 0, .int .i64 0, .bool false, .bool false], row T 39 (tabRow fr AP nP cP (some ⟨b, off, none⟩) nW cW AC nC cC tr)] by
        rw [hw6, hO]
        exact (H5.out.new 137 #[.int .i64 xa, .int .i64 xb, .int .i64 xc]).swap)
      have HO := Lib.hid hO; have HW6 := Lib.hid hw6
      clear hO hw6 t2 lT v0 v1 v2 v3 v4 v5 lV c0 c1 c2 lb H5
      rw [← HW6.out, ← HO.out]
      have o0 : w6.cell? ⟨O, 0, none⟩ = some (.int .i64 xa) := (H6.out.pick 1 rfl).row.1.cell 0
      have o1 : w6.cell? ⟨O, 1, none⟩ = some (.int .i64 xb) := (H6.out.pick 1 rfl).row.1.cell 1
      have lO : O < w6.heap.size := (H6.out.pick 1 rfl).row.1.lt
      have v1 : w6.cell? ⟨V, 1, none⟩ = some (.int .i64 pos) := H6.out.row.1.cell 1
      have v3 : w6.cell? ⟨V, 3, none⟩ = some (.int .i64 (-1)) := H6.out.row.1.cell 3
      have v5 : w6.cell? ⟨V, 5, none⟩ = some (.bool false) := H6.out.row.1.cell 5
      have y3 := H6.out.row.1.frozen 3
      have y5 := H6.out.row.1.frozen 5
      have lV : V < w6.heap.size := H6.out.row.1.lt
      obtain ⟨bs, hbs⟩ : ∃ bs, bs = (xb == pos) := ⟨_, rfl⟩
      rw [← hbs] at HSA2
      have HBS := Lib.hid hbs
      clear hbs
      have HV5 := Lib.hid (show whenV t tick = #[.int .i64 q, .int .i64 pos, .int .i64 k, .int .i64 xa, .bool bg, .bool bs] by rw [HWH.out, HPA2.out, HSA2.out])
      go_cut [42] (fun _ wc => St w wc [row V 130 [.int .i64 q, .int .i64 pos, .int .i64 k, .int .i64 xa, .bool bg, .bool bs], row R 130 [.int .i64 0, .int .i64 0, .int .i64 0, .int .i64 0, .bool false, .bool false]])
      case first =>
        have H7 := Lib.hid ((H6.out.drew.set 3 (.int .i64 xa)).set 5 (.bool bs))
        go_region
        all_goals
          go_wp2_with (fail)
          go_meet
          rw [← HBS.out]
          exact (((H7.out.pick 1 rfl).drop).take 2)
      case rest =>
        have H8 := Lib.hid hcut
        clear hcut o0 o1 lO v1 v3 v5 y3 y5 lV H6
        have v0 : wc.cell? ⟨V, 0, none⟩ = some (.int .i64 q) := H8.out.row.1.cell 0
        have v1 : wc.cell? ⟨V, 1, none⟩ = some (.int .i64 pos) := H8.out.row.1.cell 1
        have v2 : wc.cell? ⟨V, 2, none⟩ = some (.int .i64 k) := H8.out.row.1.cell 2
        have v3 : wc.cell? ⟨V, 3, none⟩ = some (.int .i64 xa) := H8.out.row.1.cell 3
        have v4 : wc.cell? ⟨V, 4, none⟩ = some (.bool bg) := H8.out.row.1.cell 4
        have v5 : wc.cell? ⟨V, 5, none⟩ = some (.bool bs) := H8.out.row.1.cell 5
        have lV : V < wc.heap.size := H8.out.row.1.lt
        have HR6 := Lib.hid (H8.out.pick 1 rfl).row.1
        have H9 := Lib.hid ((H8.out.pick 1 rfl).setRow [.int .i64 q, .int .i64 pos, .int .i64 k, .int .i64 xa, .bool bg, .bool bs])
        have MS := Lib.hid (show (Try.prog.info? 130).map (·.size) = some (#[Value.int .i64 q, .int .i64 pos, .int .i64 k, .int .i64 xa, .bool bg, .bool bs] : Array Value).size from by kernel_rfl)
        go_upto_region 6 with fail
        go_wp2_with (with_reducible refine wpList_putR rfl 130 (.tmp 4) (.tmp 43) rfl R 0 #[.int .i64 q, .int .i64 pos, .int .i64 k, .int .i64 xa, .bool bg, .bool bs] rfl rfl HR6.out MS.out (Nat.le_refl _) (by simp [Value.oneCell']) [.int .i64 q, .int .i64 pos, .int .i64 k, .int .i64 xa, .bool bg, .bool bs] rfl ?_)
        refine bodyPost_ret (results_cell_row rfl _ _ R _ _ _ _ rfl H9.out.row.1 Try.underlying130 rfl (by kernel_rfl)) rfl ?_
        rw [HV5.out]
        exact ⟨rfl, H9.out.bel⟩
def whenZ : Array Value := #[.int .i64 0, .int .i64 0, .int .i64 0, .int .i64 0, .bool false, .bool false]
/-- what sched.At answers -/
def atV (t : Tab) (tick : Int) : Array Value × Int := if t.right then if tick < 0 then (whenZ, 3) else (whenV t tick, 0) else (whenZ, 9)
theorem whenV_shape (t : Tab) (tick : Int) : ∃ a b c d e f, whenV t tick = #[.int .i64 a, .int .i64 b, .int .i64 c, .int .i64 d, .bool e, .bool f] := ⟨_, _, _, _, _, _, rfl⟩
set_option maxRecDepth 100000 in
set_option maxHeartbeats 8000000 in
theorem sAt_at (h : TabV w w.heap.size t AP nP cP AW nW cW AC nC cC) (tick : Int) (h1 : tick ≤ 9223372036854775807) : Calls Try.prog 62 #[tabAgg t.frame AP nP cP AW nW cW AC nC cC t.trial, .int .i64 tick] w fun e w' => e = .returned (.tuple #[.agg (atV t tick).1, .int .i64 (atV t tick).2]) ∧ Below w.heap.size w w' := by
  have HV := Lib.hid h
  have HRT := Lib.hid (fun (w' : World) (hb : Below w.heap.size w w') => right_at (h.over hb))
  have HAT := Lib.hid (fun (w' : World) (hb : Below w.heap.size w w') (hr : t.right = true) (h0 : 0 ≤ tick) => at_at (h.over hb) hr tick h0 h1)
  have HA := Lib.hid (show atV t tick = if t.right then if tick < 0 then (whenZ, 3) else (whenV t tick, 0) else (whenZ, 9) from rfl)
  obtain ⟨fr, hfr⟩ : ∃ fr, fr = t.frame := ⟨_, rfl⟩
  obtain ⟨tr, htr⟩ : ∃ tr, tr = t.trial := ⟨_, rfl⟩
  rw [← hfr, ← htr] at HRT HAT ⊢
  obtain ⟨T, hT⟩ : ∃ T, T = w.heap.size := ⟨_, rfl⟩
  obtain ⟨R, hR⟩ : ∃ R, R = w.heap.size + 1 := ⟨_, rfl⟩
  obtain ⟨w1, hw1⟩ : ∃ w1, w1 = (w.alloc (.cells #[.int .i64 fr, .slice AP nP cP, .slice AW nW cW, .slice AC nC cC, .int .i64 tr] 39)).alloc (.cells #[.int .i64 0, .int .i64 0, .int .i64 0, .int .i64 0, .bool false, .bool false] 130) := ⟨_, rfl⟩
  have H1 := Lib.hid (show St w w1 [row R 130 [.int .i64 0, .int .i64 0, .int .i64 0, .int .i64 0, .bool false, .bool false], row T 39 (tabRow fr AP nP cP AW nW cW AC nC cC tr)] by
    rw [hw1, hT, hR]
    have h := ((St.nil w).new 39 #[.int .i64 fr, .slice AP nP cP, .slice AW nW cW, .slice AC nC cC, .int .i64 tr]).new 130 #[.int .i64 0, .int .i64 0, .int .i64 0, .int .i64 0, .bool false, .bool false]
    simp only [World.size_alloc] at h
    exact h)
  have HW1 := Lib.hid hw1; have HT := Lib.hid hT; have HR := Lib.hid hR
  clear h hw1 hT hR hfr htr
  go_enter Try.func62, Try.ntmps62
  go_upto_region 1 with fail
  rw [← HW1.out, ← HR.out, ← HT.out]
  have t0 : w1.cell? ⟨T, 0, none⟩ = some (.int .i64 fr) := (H1.out.pick 1 rfl).row.1.cell 0
  have t1 : w1.cell? ⟨T, 1, none⟩ = some (.slice AP nP cP) := (H1.out.pick 1 rfl).row.1.cell 1
  have t2 : w1.cell? ⟨T, 2, none⟩ = some (.slice AW nW cW) := (H1.out.pick 1 rfl).row.1.cell 2
  have t3 : w1.cell? ⟨T, 3, none⟩ = some (.slice AC nC cC) := (H1.out.pick 1 rfl).row.1.cell 3
  have t4 : w1.cell? ⟨T, 4, none⟩ = some (.int .i64 tr) := (H1.out.pick 1 rfl).row.1.cell 4
  have lT : T < w1.heap.size := (H1.out.pick 1 rfl).row.1.lt
  go_wp2_with (fail)
  refine (HRT.out w1 H1.out.bel).mono ?_
  rintro e w2 ⟨rfl, hb2⟩
  have H2 := Lib.hid (H1.out.below hb2)
  clear hb2 t0 t1 t2 t3 t4 lT
  have HR2 := Lib.hid H2.out.row.1
  have HZ := Lib.hid (H2.out.setRow [.int .i64 0, .int .i64 0, .int .i64 0, .int .i64 0, .bool false, .bool false])
  have MS := Lib.hid (show (Try.prog.info? 130).map (·.size) = some (#[Value.int .i64 0, .int .i64 0, .int .i64 0, .int .i64 0, .bool false, .bool false] : Array Value).size from by kernel_rfl)
  cases hr : t.right
  · have HQ := Lib.hid (show atV t tick = (whenZ, 9) by rw [HA.out, hr]; rfl)
    clear hr
    go_upto_region 2 with fail
    go_wp2_with (with_reducible refine wpList_putR rfl 130 (.tmp 4) (.tmp 10) rfl R 0 #[.int .i64 0, .int .i64 0, .int .i64 0, .int .i64 0, .bool false, .bool false] rfl rfl HR2.out MS.out (Nat.le_refl _) (by simp [Value.oneCell']) [.int .i64 0, .int .i64 0, .int .i64 0, .int .i64 0, .bool false, .bool false] rfl ?_)
    refine bodyPost_ret (res_cell_slot rfl _ _ R _ _ _ _ _ rfl rfl HZ.out.row.1 Try.underlying130 rfl (by kernel_rfl)) rfl ?_
    rw [HQ.out]
    exact ⟨rfl, HZ.out.bel⟩
  have t0 : w2.cell? ⟨T, 0, none⟩ = some (.int .i64 fr) := (H2.out.pick 1 rfl).row.1.cell 0
  have t1 : w2.cell? ⟨T, 1, none⟩ = some (.slice AP nP cP) := (H2.out.pick 1 rfl).row.1.cell 1
  have t2 : w2.cell? ⟨T, 2, none⟩ = some (.slice AW nW cW) := (H2.out.pick 1 rfl).row.1.cell 2
  have t3 : w2.cell? ⟨T, 3, none⟩ = some (.slice AC nC cC) := (H2.out.pick 1 rfl).row.1.cell 3
  have t4 : w2.cell? ⟨T, 4, none⟩ = some (.int .i64 tr) := (H2.out.pick 1 rfl).row.1.cell 4
  have lT : T < w2.heap.size := (H2.out.pick 1 rfl).row.1.lt
  by_cases hn : tick < 0
  · have HQ := Lib.hid (show atV t tick = (whenZ, 3) by rw [HA.out, hr, if_pos hn]; rfl)
    clear hr
    go_upto_region 4 with fail
    go_wp2_with (with_reducible refine wpList_putR rfl 130 (.tmp 4) (.tmp 14) rfl R 0 #[.int .i64 0, .int .i64 0, .int .i64 0, .int .i64 0, .bool false, .bool false] rfl rfl HR2.out MS.out (Nat.le_refl _) (by simp [Value.oneCell']) [.int .i64 0, .int .i64 0, .int .i64 0, .int .i64 0, .bool false, .bool false] rfl ?_)
    refine bodyPost_ret (res_cell_slot rfl _ _ R _ _ _ _ _ rfl rfl HZ.out.row.1 Try.underlying130 rfl (by kernel_rfl)) rfl ?_
    rw [HQ.out]
    exact ⟨rfl, HZ.out.bel⟩
  · have HQ := Lib.hid (show atV t tick = (whenV t tick, 0) by rw [HA.out, hr, if_neg hn]; rfl)
    have HCL := Lib.hid (HAT.out w2 H2.out.bel hr (by omega))
    obtain ⟨a, b, c, d, e0, f, hv⟩ := whenV_shape t tick
    rw [hv] at HCL HQ
    clear hr hv
    go_upto_region 5 with fail
    go_wp2_with (fail)
    refine HCL.out.mono ?_
    rintro e w3 ⟨rfl, hb3⟩
    have H3 := Lib.hid (H2.out.below hb3)
    have HR3 := Lib.hid H3.out.row.1
    have HX := Lib.hid (H3.out.setRow [.int .i64 a, .int .i64 b, .int .i64 c, .int .i64 d, .bool e0, .bool f])
    have MS2 := Lib.hid (show (Try.prog.info? 130).map (·.size) = some (#[Value.int .i64 a, .int .i64 b, .int .i64 c, .int .i64 d, .bool e0, .bool f] : Array Value).size from by kernel_rfl)
    clear hb3 t0 t1 t2 t3 t4 lT
    go_wp2_with (with_reducible refine wpList_putR rfl 130 (.tmp 4) (.tmp 17) rfl R 0 #[.int .i64 a, .int .i64 b, .int .i64 c, .int .i64 d, .bool e0, .bool f] rfl rfl HR3.out MS2.out (Nat.le_refl _) (by simp [Value.oneCell']) [.int .i64 a, .int .i64 b, .int .i64 c, .int .i64 d, .bool e0, .bool f] rfl ?_)
    refine bodyPost_ret (res_cell_slot rfl _ _ R _ _ _ _ _ rfl rfl HX.out.row.1 Try.underlying130 rfl (by kernel_rfl)) rfl ?_
    rw [HQ.out]
    exact ⟨rfl, HX.out.bel⟩
end
end Go.Proofs.Ytooagoikiafgcaa.tab
