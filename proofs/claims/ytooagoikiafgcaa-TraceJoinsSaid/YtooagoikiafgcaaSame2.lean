/-
  PROVED HERE: trace.Same's answer.
  CONDITIONS: the theorem names its own.
-/
import Derived.Test.YtooagoikiafgcaaSameRow
namespace Go.Proofs.Ytooagoikiafgcaa.joins
set_option linter.unusedVariables false
open Go.RowKit Go.WideShapes Go.Maps Go.Proofs.Ytooagoikiafgcaa.base Go.Proofs.Ytooagoikiafgcaa.obj Go.Proofs.Ytooagoikiafgcaa.mem Go.Proofs.Ytooagoikiafgcaa.tab Go.Proofs.Ytooagoikiafgcaa.sep Go.Proofs.Ytooagoikiafgcaa.plan

theorem RowC.clen (x : RowC) : x.cells.length = 11 := rfl
/-- the cells of row number k -/
theorem rwc_at {w w' : World} {A : Option Addr} {n : Nat} {l : List RowC} (h : Sl w w.heap.size 11 A n (rwc l)) (hn : n = l.length) (hb : Below w.heap.size w w') {k : Nat} (hk : k < l.length) : ∃ b off, A = some ⟨b, off, none⟩ ∧ b < w'.heap.size ∧
    ∀ j u, j < 11 → l[k].cells[j]? = some u → w'.cell? ⟨b, off + k * 11 + j, none⟩ = some u := by
  obtain ⟨b, off, rfl, hbl, hc⟩ := h.2 (by omega)
  have h9 : ∀ x ∈ l.map RowC.cells, x.length = 11 := by
    intro x hx
    obtain ⟨a, _, rfl⟩ := List.mem_map.1 hx
    rfl
  have e := flat_elem h9 (i := k) (by simpa using hk)
  have g : ∀ j, j < 11 → (rwc l)[k * 11 + j]? = l[k].cells[j]? := by
    intro j hj
    have e2 : (((l.map RowC.cells).flatten.drop (k * 11)).take 11)[j]? = (l.map RowC.cells).flatten[k * 11 + j]? := by
      rw [List.getElem?_take, if_pos hj, List.getElem?_drop]
    rw [e] at e2
    rw [rwc, List.flatMap_def, ← e2]
    simp
  refine ⟨b, off, rfl, Nat.lt_of_lt_of_le hbl hb.size, fun j u hj hu => ?_⟩
  rw [hb.cell (p := ⟨b, off + k * 11 + j, none⟩) hbl, Nat.add_assoc]
  exact hc _ _ ((g j hj).trans hu)
theorem RowC.In.over {w w' : World} {B : Nat} {x : RowC} (h : x.In w B) (hb : Below w.heap.size w w') : x.In w' B := ⟨own_below h.sent hb, own_below h.stack hb, own_below h.mem hb⟩
theorem RowC.In.mono {w : World} {B B' : Nat} {x : RowC} (h : x.In w B) (hb : B' ≤ B) : x.In w B' := ⟨h.sent.mono hb, h.stack.mono hb, h.mem.mono hb⟩

set_option maxRecDepth 100000 in
set_option maxHeartbeats 8000000 in
theorem same_at (xs ys : List RowC) (A A' : Option Addr) (n m c c' B : Nat) (w : World) (hn : n = xs.length) (hm : m = ys.length) (hn2 : n ≤ 1000000) (hm2 : m ≤ 1000000)
    (hs : Sl w w.heap.size 11 A n (rwc xs)) (ht : Sl w w.heap.size 11 A' m (rwc ys)) (hx : ∀ x ∈ xs, x.In w B) (hy : ∀ y ∈ ys, y.In w B)
    (lx : ∀ x ∈ xs, x.d.sent.length ≤ 1000000 ∧ x.d.stack.length ≤ 1000000 ∧ x.d.mem.length ≤ 1000000) (ly : ∀ x ∈ ys, x.d.sent.length ≤ 1000000 ∧ x.d.stack.length ≤ 1000000 ∧ x.d.mem.length ≤ 1000000) :
    Calls Try.prog 34 #[.slice A n c, .slice A' m c'] w fun e w' => e = .returned (.bool (decide (xs.map RowC.d = ys.map RowC.d))) ∧ Below w.heap.size w w' := by
  by_cases hl : n = m
  · subst hl
    have HN := Lib.hid hn; have HM := Lib.hid hm; have HS := Lib.hid hs; have HT := Lib.hid ht
    have HSM := Lib.hid (fun (k : Nat) (h : k < xs.length) (h' : k < ys.length) (w2 : World) (hb : Below w.heap.size w w2) => same1_at w2 B xs[k] ys[k] ((hx _ (List.getElem_mem h)).over hb) ((hy _ (List.getElem_mem h')).over hb) (lx _ (List.getElem_mem h)) (ly _ (List.getElem_mem h')))
    clear hn hm hs ht hx hy lx ly
    go_enter Try.func34, Try.ntmps34
    go_wp2_with (go_in)
    go_loopw [17] (fun i wr => ∃ k : Nat, k ≤ n ∧ i = .int .i64 k ∧ (xs.take k).map RowC.d = (ys.take k).map RowC.d ∧ Below w.heap.size w wr) (fun i _ => n - (intOf i).toNat)
    case atStart => exact ⟨0, by omega, rfl, by simp, Below.refl _ _⟩
    case round =>
      obtain ⟨k, hk, rfl, heq, hb⟩ := hrel
      have HE := Lib.hid heq; have HB := Lib.hid hb
      clear heq hb
      by_cases hlt : k < n
      · have hx : k < xs.length := by rw [← HN.out]; exact hlt
        have hy : k < ys.length := by rw [← HM.out]; exact hlt
        obtain ⟨b, off, rfl, hbl, hc⟩ := rwc_at HS.out HN.out HB.out hx
        obtain ⟨b', off', rfl, hbl', hc'⟩ := rwc_at HT.out HM.out HB.out hy
        have HX := Lib.hid hx; have HY := Lib.hid hy
        have HC := Lib.hid (fun (w2 : World) (hb : Below wr.heap.size wr w2) => HSM.out k hx hy w2 (HB.out.trans (hb.mono HB.out.size)))
        obtain ⟨x, hxx⟩ : ∃ x, x = xs[k]'hx := ⟨_, rfl⟩
        obtain ⟨y, hyy⟩ : ∃ y, y = ys[k]'hy := ⟨_, rfl⟩
        simp only [← hxx] at hc
        simp only [← hyy] at hc'
        have HC := Lib.hid (show ∀ (w2 : World) (hb : Below wr.heap.size wr w2), Calls Try.prog 70 #[.agg x.cells.toArray, .agg y.cells.toArray] w2 fun e w' => e = .returned (.bool (decide (x.d = y.d))) ∧ Below w2.heap.size w2 w' by rw [hxx, hyy]; exact HC.out)
        have HSTEP := Lib.hid (show x.d = y.d → (xs.take (k + 1)).map RowC.d = (ys.take (k + 1)).map RowC.d by
          intro h
          rw [List.take_succ_eq_append_getElem hx, List.take_succ_eq_append_getElem hy, List.map_append, List.map_append, HE.out, ← hxx, ← hyy]
          simp [h])
        have HNOT := Lib.hid (show ¬ x.d = y.d → decide (xs.map RowC.d = ys.map RowC.d) = false by
          intro h
          simp only [decide_eq_false_iff_not]
          intro h2
          have h3 := congrArg (fun l => l[k]?) h2
          simp only [List.getElem?_map, List.getElem?_eq_getElem hx, List.getElem?_eq_getElem hy, Option.map_some, Option.some.injEq] at h3
          rw [← hxx, ← hyy] at h3
          exact h h3)
        clear hxx hyy
        obtain ⟨bd, hbd⟩ : ∃ bd, bd = decide (x.d = y.d) := ⟨_, rfl⟩
        rw [← hbd] at HC
        have HBD := Lib.hid hbd
        clear hbd
        obtain ⟨⟨xt, xb, xr, xv, xs_, xe, xp, xk, xm, xi, xf⟩, xAS, xcS, xAK, xcK, xAM, xcM⟩ := x
        obtain ⟨⟨yt, yb, yr, yv, ys_, ye, yp, yk, ym, yi, yf⟩, yAS, ycS, yAK, ycK, yAM, ycM⟩ := y
        have e0 := hc 0 _ (by decide) rfl
        have e1 := hc 1 _ (by decide) rfl
        have e2 := hc 2 _ (by decide) rfl
        have e3 := hc 3 _ (by decide) rfl
        have e4 := hc 4 _ (by decide) rfl
        have e5 := hc 5 _ (by decide) rfl
        have e6 := hc 6 _ (by decide) rfl
        have e7 := hc 7 _ (by decide) rfl
        have e8 := hc 8 _ (by decide) rfl
        have e9 := hc 9 _ (by decide) rfl
        have e10 := hc 10 _ (by decide) rfl
        have d0 := hc' 0 _ (by decide) rfl
        have d1 := hc' 1 _ (by decide) rfl
        have d2 := hc' 2 _ (by decide) rfl
        have d3 := hc' 3 _ (by decide) rfl
        have d4 := hc' 4 _ (by decide) rfl
        have d5 := hc' 5 _ (by decide) rfl
        have d6 := hc' 6 _ (by decide) rfl
        have d7 := hc' 7 _ (by decide) rfl
        have d8 := hc' 8 _ (by decide) rfl
        have d9 := hc' 9 _ (by decide) rfl
        have d10 := hc' 10 _ (by decide) rfl
        clear hc hc'
        dsimp only at e0 e1 e2 e3 e4 e5 e6 e7 e8 e9 e10 d0 d1 d2 d3 d4 d5 d6 d7 d8 d9 d10
        rw [Nat.add_zero] at e0 d0
        have i0 : (0 : Int) ≤ (k : Int) := by omega
        have i1 : (k : Int) < (n : Int) := by omega
        cases bd
        · have HF := Lib.hid (HNOT.out (by have := HBD.out; simpa using this.symm))
          go_wp2_with (go_at_call 70; refine (HC.out _ (((Below.refl _ _).alloc (Nat.le_refl _) _).alloc (by simp) _)).mono ?_; rintro e w3 ⟨rfl, hb3⟩; have HB3 := Lib.hid (HB.out.trans (((((Below.refl _ _).alloc (Nat.le_refl _) _).alloc (by simp) _).trans (hb3.mono (by simp only [World.size_alloc]; omega))).mono HB.out.size)); clear hb3)
          go_ret
          exact ⟨ret_bool HF.out.symm, HB3.out⟩
        · have HF := Lib.hid (HSTEP.out (by have := HBD.out; simpa using this.symm))
          go_wp2_with (go_at_call 70; refine (HC.out _ (((Below.refl _ _).alloc (Nat.le_refl _) _).alloc (by simp) _)).mono ?_; rintro e w3 ⟨rfl, hb3⟩; have HB3 := Lib.hid (HB.out.trans (((((Below.refl _ _).alloc (Nat.le_refl _) _).alloc (by simp) _).trans (hb3.mono (by simp only [World.size_alloc]; omega))).mono HB.out.size)); clear hb3)
          go_roundw
          case rel => exact ⟨k + 1, by omega, by go_num, HF.out, HB3.out⟩
          case measure => simp [intOf]; omega
      · have hf : decide (xs.map RowC.d = ys.map RowC.d) = true := by
          have := HE.out
          rw [List.take_of_length_le (by rw [← HN.out]; omega), List.take_of_length_le (by rw [← HM.out]; omega)] at this
          simpa using this
        have HF := Lib.hid hf
        clear hf
        go_wp2_with (fail)
        go_ret
        exact ⟨ret_bool HF.out.symm, HB.out⟩
  · have hf : decide (xs.map RowC.d = ys.map RowC.d) = false := by
      simp only [decide_eq_false_iff_not]
      intro h
      have h2 := congrArg List.length h
      rw [List.length_map, List.length_map, ← hn, ← hm] at h2
      exact hl h2
    have HF := Lib.hid hf
    clear hn hm hs ht hf hx hy lx ly
    have b1 : ((n : Int) != (m : Int)) = true := by simp; omega
    go_enter Try.func34, Try.ntmps34
    go_wp2_with (go_in)
    all_goals
      go_ret
      exact ⟨ret_bool HF.out.symm, Below.refl _ _⟩
end Go.Proofs.Ytooagoikiafgcaa.joins
