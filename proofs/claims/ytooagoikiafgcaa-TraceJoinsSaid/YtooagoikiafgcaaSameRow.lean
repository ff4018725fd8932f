/-
  PROVED HERE: what the closure of trace.Same answers.
  CONDITIONS: the theorem names its own.
-/
import Derived.Test.YtooagoikiafgcaaEqual
import Derived.Test.YtooagoikiafgcaaChain
namespace Go.Proofs.Ytooagoikiafgcaa.joins
set_option linter.unusedVariables false
open Go.RowKit Go.WideShapes Go.Maps Go.Proofs.Ytooagoikiafgcaa.base Go.Proofs.Ytooagoikiafgcaa.obj Go.Proofs.Ytooagoikiafgcaa.mem Go.Proofs.Ytooagoikiafgcaa.tab Go.Proofs.Ytooagoikiafgcaa.sep Go.Proofs.Ytooagoikiafgcaa.plan Go.Proofs.Ytooagoikiafgcaa.chain

theorem sl_own {w w' : World} {B e size n c : Nat} {A : Option Addr} {xs : List Value} (h : w.ownsRow B e size (.slice A n c) n xs) (hb : Below w.heap.size w w') : Sl w' w'.heap.size size A n xs :=
  ((Sl.of_own h).below hb).more hb.size

set_option maxRecDepth 100000 in
set_option maxHeartbeats 16000000 in
theorem same1_at (w : World) (B : Nat) (x y : RowC) (hx : x.In w B) (hy : y.In w B) (lx : x.d.sent.length ≤ 1000000 ∧ x.d.stack.length ≤ 1000000 ∧ x.d.mem.length ≤ 1000000) (ly : y.d.sent.length ≤ 1000000 ∧ y.d.stack.length ≤ 1000000 ∧ y.d.mem.length ≤ 1000000) :
    Calls Try.prog 70 #[.agg x.cells.toArray, .agg y.cells.toArray] w fun e w' => e = .returned (.bool (decide (x.d = y.d))) ∧ Below w.heap.size w w' := by
  obtain ⟨w1, hw1⟩ : ∃ w1, w1 = (w.alloc (.cells x.cells.toArray 145)).alloc (.cells y.cells.toArray 145) := ⟨_, rfl⟩
  obtain ⟨X, hX⟩ : ∃ X, X = w.heap.size := ⟨_, rfl⟩
  obtain ⟨Y, hY⟩ : ∃ Y, Y = w.heap.size + 1 := ⟨_, rfl⟩
  have H1 := Lib.hid (show St w w1 [row Y 145 y.cells, row X 145 x.cells] by
    rw [hw1, hX, hY]
    have h := ((St.nil w).new 145 x.cells.toArray).new 145 y.cells.toArray
    simp only [World.size_alloc] at h
    exact h)
  have HES := Lib.hid (fun (w2 : World) (h : Below w.heap.size w w2) => eq_sents x.d.sent y.d.sent x.AS y.AS _ _ x.cS y.cS w2 rfl rfl lx.1 ly.1 (sl_own hx.sent h) (sl_own hy.sent h))
  have HEK := Lib.hid (fun (w2 : World) (h : Below w.heap.size w w2) => eq_ints x.d.stack y.d.stack x.AK y.AK _ _ x.cK y.cK w2 rfl rfl lx.2.1 ly.2.1 (sl_own hx.stack h) (sl_own hy.stack h))
  have HEM := Lib.hid (fun (w2 : World) (h : Below w.heap.size w w2) => eq_ints x.d.mem y.d.mem x.AM y.AM _ _ x.cM y.cM w2 rfl rfl lx.2.2 ly.2.2 (sl_own hx.mem h) (sl_own hy.mem h))
  have HW1 := Lib.hid hw1; have HXX := Lib.hid hX; have HYY := Lib.hid hY
  obtain ⟨r, hr⟩ : ∃ r, r = decide (x.d = y.d) := ⟨_, rfl⟩
  rw [← hr]
  have HRR := Lib.hid hr
  clear hx hy lx ly hw1 hX hY hr
  obtain ⟨⟨xt, xb, xr, xv, xs, xe, xp, xk, xm, xi, xf⟩, xAS, xcS, xAK, xcK, xAM, xcM⟩ := x
  obtain ⟨⟨yt, yb, yr, yv, ys, ye, yp, yk, ym, yi, yf⟩, yAS, ycS, yAK, ycK, yAM, ycM⟩ := y
  dsimp only [RowC.cells] at HES HEK HEM HW1 ⊢
  go_enter Try.func70, Try.ntmps70
  go_upto_region 1 with fail
  rw [← HW1.out, ← HYY.out, ← HXX.out]
  refine wp_region_lit ?_
  have X0 : w1.cell? ⟨X, 0, none⟩ = some (.int .i64 xt) := (H1.out.pick 1 rfl).row.1.cell 0
  have Y0 : w1.cell? ⟨Y, 0, none⟩ = some (.int .i64 yt) := H1.out.row.1.cell 0
  have X1 : w1.cell? ⟨X, 1, none⟩ = some (.bool xb) := (H1.out.pick 1 rfl).row.1.cell 1
  have Y1 : w1.cell? ⟨Y, 1, none⟩ = some (.bool yb) := H1.out.row.1.cell 1
  have X2 : w1.cell? ⟨X, 2, none⟩ = some (.bool xr) := (H1.out.pick 1 rfl).row.1.cell 2
  have Y2 : w1.cell? ⟨Y, 2, none⟩ = some (.bool yr) := H1.out.row.1.cell 2
  have X3 : w1.cell? ⟨X, 3, none⟩ = some (.int .i64 xv) := (H1.out.pick 1 rfl).row.1.cell 3
  have Y3 : w1.cell? ⟨Y, 3, none⟩ = some (.int .i64 yv) := H1.out.row.1.cell 3
  have X4 : w1.cell? ⟨X, 4, none⟩ = some (.int .i64 xs) := (H1.out.pick 1 rfl).row.1.cell 4
  have Y4 : w1.cell? ⟨Y, 4, none⟩ = some (.int .i64 ys) := H1.out.row.1.cell 4
  have X5 : w1.cell? ⟨X, 5, none⟩ = some (.slice xAS xe.length xcS) := (H1.out.pick 1 rfl).row.1.cell 5
  have Y5 : w1.cell? ⟨Y, 5, none⟩ = some (.slice yAS ye.length ycS) := H1.out.row.1.cell 5
  have lX : X < w1.heap.size := (H1.out.pick 1 rfl).row.1.lt
  have lY : Y < w1.heap.size := H1.out.row.1.lt
  by_cases h : xt = yt
  case neg =>
    have hb : (xt == yt) = false := by simp [h]
    have HF := Lib.hid (show decide ((⟨xt, xb, xr, xv, xs, xe, xp, xk, xm, xi, xf⟩ : RowD) = ⟨yt, yb, yr, yv, ys, ye, yp, yk, ym, yi, yf⟩) = false by simp [h])
    clear h
    refine list_still [_, _, _, _, _] _ _ ?_
    iterate 5 still_step
    refine wpStill_nil ?_
    refine list_off 4 (.bool false) (by kernel_rfl) ?_
    intro a4 h4 hd
    go_wp2_with (fail)
    refine bodyPost_ret (v := .bool false) (by simp [results, Try.results70, go_sem, h4]) hd ?_
    exact ⟨ret_bool (HRR.out.trans HF.out).symm, H1.out.bel⟩
  subst h
  refine list_still [_, _, _, _, _, _] _ _ ?_
  iterate 6 still_step
  refine wpStill_nil ?_
  by_cases h : xb = yb
  case neg =>
    have hb : (xb == yb) = false := by simp [h]
    have HF := Lib.hid (show decide ((⟨xt, xb, xr, xv, xs, xe, xp, xk, xm, xi, xf⟩ : RowD) = ⟨xt, yb, yr, yv, ys, ye, yp, yk, ym, yi, yf⟩) = false by simp [h])
    clear h
    refine list_still [_, _, _, _, _] _ _ ?_
    iterate 5 still_step
    refine wpStill_nil ?_
    refine list_off 4 (.bool false) (by kernel_rfl) ?_
    intro a4 h4 hd
    go_wp2_with (fail)
    refine bodyPost_ret (v := .bool false) (by simp [results, Try.results70, go_sem, h4]) hd ?_
    exact ⟨ret_bool (HRR.out.trans HF.out).symm, H1.out.bel⟩
  subst h
  refine list_still [_, _, _, _, _, _, _] _ _ ?_
  iterate 7 still_step
  refine wpStill_nil ?_
  by_cases h : xr = yr
  case neg =>
    have hb : (xr == yr) = false := by simp [h]
    have HF := Lib.hid (show decide ((⟨xt, xb, xr, xv, xs, xe, xp, xk, xm, xi, xf⟩ : RowD) = ⟨xt, xb, yr, yv, ys, ye, yp, yk, ym, yi, yf⟩) = false by simp [h])
    clear h
    refine list_still [_, _, _, _, _] _ _ ?_
    iterate 5 still_step
    refine wpStill_nil ?_
    refine list_off 4 (.bool false) (by kernel_rfl) ?_
    intro a4 h4 hd
    go_wp2_with (fail)
    refine bodyPost_ret (v := .bool false) (by simp [results, Try.results70, go_sem, h4]) hd ?_
    exact ⟨ret_bool (HRR.out.trans HF.out).symm, H1.out.bel⟩
  subst h
  refine list_still [_, _, _, _, _, _, _] _ _ ?_
  iterate 7 still_step
  refine wpStill_nil ?_
  by_cases h : xv = yv
  case neg =>
    have hb : (xv == yv) = false := by simp [h]
    have HF := Lib.hid (show decide ((⟨xt, xb, xr, xv, xs, xe, xp, xk, xm, xi, xf⟩ : RowD) = ⟨xt, xb, xr, yv, ys, ye, yp, yk, ym, yi, yf⟩) = false by simp [h])
    clear h
    refine list_still [_, _, _, _, _] _ _ ?_
    iterate 5 still_step
    refine wpStill_nil ?_
    refine list_off 4 (.bool false) (by kernel_rfl) ?_
    intro a4 h4 hd
    go_wp2_with (fail)
    refine bodyPost_ret (v := .bool false) (by simp [results, Try.results70, go_sem, h4]) hd ?_
    exact ⟨ret_bool (HRR.out.trans HF.out).symm, H1.out.bel⟩
  subst h
  refine list_still [_, _, _, _, _, _, _] _ _ ?_
  iterate 7 still_step
  refine wpStill_nil ?_
  by_cases h : xs = ys
  case neg =>
    have hb : (xs == ys) = false := by simp [h]
    have HF := Lib.hid (show decide ((⟨xt, xb, xr, xv, xs, xe, xp, xk, xm, xi, xf⟩ : RowD) = ⟨xt, xb, xr, xv, ys, ye, yp, yk, ym, yi, yf⟩) = false by simp [h])
    clear h
    refine list_still [_, _, _, _, _] _ _ ?_
    iterate 5 still_step
    refine wpStill_nil ?_
    refine list_off 4 (.bool false) (by kernel_rfl) ?_
    intro a4 h4 hd
    go_wp2_with (fail)
    refine bodyPost_ret (v := .bool false) (by simp [results, Try.results70, go_sem, h4]) hd ?_
    exact ⟨ret_bool (HRR.out.trans HF.out).symm, H1.out.bel⟩
  subst h
  refine list_still [_, _, _, _, _, _, _] _ _ ?_
  iterate 7 still_step
  refine wpStill_nil ?_
  refine list_still [_, _, _, _] _ _ ?_
  iterate 4 still_step
  refine wpStill_nil ?_
  clear X0 Y0 X1 Y1 X2 Y2 X3 Y3 X4 Y4 X5 Y5 lX lY
  refine list_one (by rfl) ?_
  go_simp
  (with_reducible refine (HES.out w1 H1.out.bel).mono ?_)
  rintro e w2 ⟨rfl, hb⟩
  have H2 := Lib.hid (H1.out.below hb)
  clear hb
  by_cases h : xe = ye
  case neg =>
    have HF := Lib.hid (show decide ((⟨xt, xb, xr, xv, xs, xe, xp, xk, xm, xi, xf⟩ : RowD) = ⟨xt, xb, xr, xv, xs, ye, yp, yk, ym, yi, yf⟩) = false by simp [h])
    rw [decide_eq_false h]
    clear h
    try dsimp only
    try simp only [Act.put, List.setIfInBounds_toArray, List.set_cons_zero, List.set_cons_succ]
    refine list_off 4 (.bool false) (by kernel_rfl) ?_
    intro a4 h4 hd
    go_wp2_with (fail)
    refine bodyPost_ret (v := .bool false) (by simp [results, Try.results70, go_sem, h4]) hd ?_
    exact ⟨ret_bool (HRR.out.trans HF.out).symm, H2.out.bel⟩
  subst h
  rw [decide_eq_true rfl]
  try dsimp only
  try simp only [Act.put, List.setIfInBounds_toArray, List.set_cons_zero, List.set_cons_succ]
  have X6 : w2.cell? ⟨X, 6, none⟩ = some (.int .i64 xp) := (H2.out.pick 1 rfl).row.1.cell 6
  have Y6 : w2.cell? ⟨Y, 6, none⟩ = some (.int .i64 yp) := H2.out.row.1.cell 6
  have X9 : w2.cell? ⟨X, 9, none⟩ = some (.int .i64 xi) := (H2.out.pick 1 rfl).row.1.cell 9
  have Y9 : w2.cell? ⟨Y, 9, none⟩ = some (.int .i64 yi) := H2.out.row.1.cell 9
  have X10 : w2.cell? ⟨X, 10, none⟩ = some (.int .i64 xf) := (H2.out.pick 1 rfl).row.1.cell 10
  have Y10 : w2.cell? ⟨Y, 10, none⟩ = some (.int .i64 yf) := H2.out.row.1.cell 10
  have X7 : w2.cell? ⟨X, 7, none⟩ = some (.slice xAK xk.length xcK) := (H2.out.pick 1 rfl).row.1.cell 7
  have Y7 : w2.cell? ⟨Y, 7, none⟩ = some (.slice yAK yk.length ycK) := H2.out.row.1.cell 7
  have lX : X < w2.heap.size := (H2.out.pick 1 rfl).row.1.lt
  have lY : Y < w2.heap.size := H2.out.row.1.lt
  refine list_still [_, _] _ _ ?_
  iterate 2 still_step
  refine wpStill_nil ?_
  by_cases h : xp = yp
  case neg =>
    have hb : (xp == yp) = false := by simp [h]
    have HF := Lib.hid (show decide ((⟨xt, xb, xr, xv, xs, xe, xp, xk, xm, xi, xf⟩ : RowD) = ⟨xt, xb, xr, xv, xs, xe, yp, yk, ym, yi, yf⟩) = false by simp [h])
    clear h
    refine list_still [_, _, _, _, _, _, _] _ _ ?_
    iterate 7 still_step
    refine wpStill_nil ?_
    refine list_off 4 (.bool false) (by kernel_rfl) ?_
    intro a4 h4 hd
    go_wp2_with (fail)
    refine bodyPost_ret (v := .bool false) (by simp [results, Try.results70, go_sem, h4]) hd ?_
    exact ⟨ret_bool (HRR.out.trans HF.out).symm, H2.out.bel⟩
  subst h
  refine list_still [_, _, _, _, _, _, _, _, _] _ _ ?_
  iterate 9 still_step
  refine wpStill_nil ?_
  by_cases h : xi = yi
  case neg =>
    have hb : (xi == yi) = false := by simp [h]
    have HF := Lib.hid (show decide ((⟨xt, xb, xr, xv, xs, xe, xp, xk, xm, xi, xf⟩ : RowD) = ⟨xt, xb, xr, xv, xs, xe, xp, yk, ym, yi, yf⟩) = false by simp [h])
    clear h
    refine list_still [_, _, _, _, _, _, _] _ _ ?_
    iterate 7 still_step
    refine wpStill_nil ?_
    refine list_off 4 (.bool false) (by kernel_rfl) ?_
    intro a4 h4 hd
    go_wp2_with (fail)
    refine bodyPost_ret (v := .bool false) (by simp [results, Try.results70, go_sem, h4]) hd ?_
    exact ⟨ret_bool (HRR.out.trans HF.out).symm, H2.out.bel⟩
  subst h
  refine list_still [_, _, _, _, _, _, _, _, _] _ _ ?_
  iterate 9 still_step
  refine wpStill_nil ?_
  by_cases h : xf = yf
  case neg =>
    have hb : (xf == yf) = false := by simp [h]
    have HF := Lib.hid (show decide ((⟨xt, xb, xr, xv, xs, xe, xp, xk, xm, xi, xf⟩ : RowD) = ⟨xt, xb, xr, xv, xs, xe, xp, yk, ym, xi, yf⟩) = false by simp [h])
    clear h
    refine list_still [_, _, _, _, _, _, _] _ _ ?_
    iterate 7 still_step
    refine wpStill_nil ?_
    refine list_off 4 (.bool false) (by kernel_rfl) ?_
    intro a4 h4 hd
    go_wp2_with (fail)
    refine bodyPost_ret (v := .bool false) (by simp [results, Try.results70, go_sem, h4]) hd ?_
    exact ⟨ret_bool (HRR.out.trans HF.out).symm, H2.out.bel⟩
  subst h
  refine list_still [_, _, _, _, _, _, _, _, _] _ _ ?_
  iterate 9 still_step
  refine wpStill_nil ?_
  refine list_still [_, _, _, _, _, _] _ _ ?_
  iterate 6 still_step
  refine wpStill_nil ?_
  clear X6 Y6 X9 Y9 X10 Y10 X7 Y7 lX lY
  refine list_one (by rfl) ?_
  go_simp
  (with_reducible refine (HEK.out w2 H2.out.bel).mono ?_)
  rintro e w3 ⟨rfl, hb⟩
  have H3 := Lib.hid (H2.out.below hb)
  clear hb
  by_cases h : xk = yk
  case neg =>
    have HF := Lib.hid (show decide ((⟨xt, xb, xr, xv, xs, xe, xp, xk, xm, xi, xf⟩ : RowD) = ⟨xt, xb, xr, xv, xs, xe, xp, yk, ym, xi, xf⟩) = false by simp [h])
    rw [decide_eq_false h]
    clear h
    try dsimp only
    try simp only [Act.put, List.setIfInBounds_toArray, List.set_cons_zero, List.set_cons_succ]
    refine list_off 4 (.bool false) (by kernel_rfl) ?_
    intro a4 h4 hd
    go_wp2_with (fail)
    refine bodyPost_ret (v := .bool false) (by simp [results, Try.results70, go_sem, h4]) hd ?_
    exact ⟨ret_bool (HRR.out.trans HF.out).symm, H3.out.bel⟩
  subst h
  rw [decide_eq_true rfl]
  try dsimp only
  try simp only [Act.put, List.setIfInBounds_toArray, List.set_cons_zero, List.set_cons_succ]
  have X8 : w3.cell? ⟨X, 8, none⟩ = some (.slice xAM xm.length xcM) := (H3.out.pick 1 rfl).row.1.cell 8
  have Y8 : w3.cell? ⟨Y, 8, none⟩ = some (.slice yAM ym.length ycM) := H3.out.row.1.cell 8
  have lX : X < w3.heap.size := (H3.out.pick 1 rfl).row.1.lt
  have lY : Y < w3.heap.size := H3.out.row.1.lt
  refine list_still [_, _] _ _ ?_
  iterate 2 still_step
  refine wpStill_nil ?_
  refine list_still [_, _, _, _, _, _] _ _ ?_
  iterate 6 still_step
  refine wpStill_nil ?_
  clear X8 Y8 lX lY
  refine list_one (by rfl) ?_
  go_simp
  (with_reducible refine (HEM.out w3 H3.out.bel).mono ?_)
  rintro e w4 ⟨rfl, hb⟩
  have H4 := Lib.hid (H3.out.below hb)
  clear hb
  by_cases h : xm = ym
  case neg =>
    have HF := Lib.hid (show decide ((⟨xt, xb, xr, xv, xs, xe, xp, xk, xm, xi, xf⟩ : RowD) = ⟨xt, xb, xr, xv, xs, xe, xp, xk, ym, xi, xf⟩) = false by simp [h])
    rw [decide_eq_false h]
    clear h
    try dsimp only
    try simp only [Act.put, List.setIfInBounds_toArray, List.set_cons_zero, List.set_cons_succ]
    refine list_off 4 (.bool false) (by kernel_rfl) ?_
    intro a4 h4 hd
    go_wp2_with (fail)
    refine bodyPost_ret (v := .bool false) (by simp [results, Try.results70, go_sem, h4]) hd ?_
    exact ⟨ret_bool (HRR.out.trans HF.out).symm, H4.out.bel⟩
  subst h
  rw [decide_eq_true rfl]
  try dsimp only
  try simp only [Act.put, List.setIfInBounds_toArray, List.set_cons_zero, List.set_cons_succ]
  have HF := Lib.hid (show decide ((⟨xt, xb, xr, xv, xs, xe, xp, xk, xm, xi, xf⟩ : RowD) = ⟨xt, xb, xr, xv, xs, xe, xp, xk, xm, xi, xf⟩) = true by simp)
  refine list_off 4 (.bool true) (by kernel_rfl) ?_
  intro a4 h4 hd
  go_wp2_with (fail)
  refine bodyPost_ret (v := .bool true) (by simp [results, Try.results70, go_sem, h4]) hd ?_
  exact ⟨ret_bool (HRR.out.trans HF.out).symm, H4.out.bel⟩
end Go.Proofs.Ytooagoikiafgcaa.joins
