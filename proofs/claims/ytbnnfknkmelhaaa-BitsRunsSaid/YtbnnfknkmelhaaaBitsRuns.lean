/-
  PROVED HERE: for all ints set, n, longeronlaw10.BitsRuns(set, n) returns true and leaves memory as it was.
  CONDITIONS: none.
-/
import Derived.Test.YtbnnfknkmelhaaaBitsWakes
namespace Go.Proofs.Ytbnnfknkmelhaaa.bitsRuns
set_option linter.unusedVariables false
open Go.RowKit Go.ChangeShapes Go.WideShapes Go.ChangeAt Go.Proofs.Ytbnnfknkmelhaaa.base Go.Proofs.Ytbnnfknkmelhaaa.bits

set_option maxRecDepth 100000 in
set_option maxHeartbeats 4000000 in
theorem walk (w : World) (s : Int) (ws : (Lit.int .i64 s).wf = true) (n : Int) (wn : (Lit.int .i64 n).wf = true) :
    Calls Try.prog 7 #[.int .i64 s, .int .i64 n] w fun e w' => e = .returned (.bool true) ∧ Below w.heap.size w w' := by
  have his := i64_of ws
  have HS := Lib.hid his
  obtain ⟨hgood, hsum⟩ := runs_good s n
  have HG := Lib.hid hgood
  have HSUM := Lib.hid hsum
  have hm := heldN_le n
  have hll := runs_len s n
  have hml := miss_len s n
  clear ws wn his hgood hsum
  go_enter Try.func7, Try.ntmps7
  go_wp2_with (fail)
  refine (wakes _).mono ?_; rintro e w0 ⟨rfl, hb0⟩
  have HB0 := Lib.hid hb0; clear hb0
  go_wp2_with (fail)
  refine (runs_any _ _ _).mono ?_
  rintro e w1 ⟨v, rfl, hown, hb⟩
  obtain ⟨A, c, rfl, hsl⟩ := own_sl hown
  have HB1 := Lib.hid (btrans HB0.out hb)
  have HSL := Lib.hid hsl
  clear hb hown hsl HB0
  go_wp2_with (fail)
  go_loopw [5, 6, 17] (fun nx mn k wr => ∃ q : Nat, q ≤ (runsL s n).length ∧ k = .int .i64 q ∧ nx = .int .i64 (endR ((runsL s n).take q).reverse) ∧ mn = .int .i64 (sumR ((runsL s n).take q).reverse) ∧ Below w1.heap.size w1 wr) (fun _ _ k _ => (runsL s n).length - (intOf k).toNat)
  case atStart => exact ⟨0, by omega, rfl, rfl, rfl, Below.refl _ _⟩
  case round =>
    obtain ⟨q, hq, rfl, rfl, rfl, hb⟩ := hrel
    have hz := hb.size
    have HB := Lib.hid hb
    have HBW := Lib.hid (HB1.out.trans (hb.mono HB1.out.size))
    have hzw := HB1.out.size
    obtain ⟨g1, g2, g3⟩ := good_bd (good_take HG.out q)
    clear hb
    by_cases hlt : q < (runsL s n).length
    · obtain ⟨b, off, rfl, hbl, hc⟩ := HSL.out.2 (by omega)
      have hgt := prCells_get (runsL s n) q hlt
      have hcond := good_at HG.out q hlt
      have hrev := take_rev hlt
      generalize hp : (runsL s n)[q] = p at *
      obtain ⟨a, m⟩ := p
      obtain ⟨k1, k2, k3, k4, k5, k6⟩ := hcond
      simp only at k1 k2 k3 k4 k5 k6
      have c1 := (HB.out.cell (p := ⟨b, off + q * 2, none⟩) hbl).trans (hc _ _ hgt.1)
      have c2 : wr.cell? ⟨b, off + q * 2 + 1, none⟩ = some (.int .i64 m) := by rw [Nat.add_assoc]; exact (HB.out.cell (p := ⟨b, off + (q * 2 + 1), none⟩) hbl).trans (hc _ _ hgt.2)
      have he1 : endR ((runsL s n).take (q + 1)).reverse = a + m := by rw [hrev]; rfl
      have he2 : sumR ((runsL s n).take (q + 1)).reverse = m + sumR ((runsL s n).take q).reverse := by rw [hrev]; rfl
      have HE1 := Lib.hid he1; have HE2 := Lib.hid he2; have K5 := Lib.hid k5; have K6 := Lib.hid k6; have K3 := Lib.hid k3
      clear hgt hc hrev hp he1 he2 k5 k6 k3
      generalize endR ((runsL s n).take q).reverse = nx at *
      generalize sumR ((runsL s n).take q).reverse = sm at *
      have n1 : ¬ m < 1 := by omega
      have n2 : ¬ a < nx := by omega
      have hcase : (decide (0 < q) = false ∨ (0 < q ∧ (a == nx) = false)) := by
        rcases Nat.eq_zero_or_pos q with h | h
        · left; simp; omega
        · right
          have := K3.out (by omega)
          exact ⟨by omega, by simp; omega⟩
      rcases hcase with hd | ⟨hd, hne⟩
      · go_wp2_with (fail)
        obtain ⟨wo, rfl⟩ : ∃ wo : World, wo = wr := ⟨_, rfl⟩
        go_loopw [9] (fun i wr => ∃ j : Nat, nx ≤ (j : Int) ∧ (j : Int) ≤ a ∧ i = .int .i64 j ∧ Below wo.heap.size (wo.alloc (.cells #[.int .i64 a, .int .i64 m] 40)) wr ∧ wr.cell? ⟨wo.heap.size, 0, none⟩ = some (.int .i64 a) ∧ wr.cell? ⟨wo.heap.size, 1, none⟩ = some (.int .i64 m)) (fun i _ => (a - intOf i).toNat)
        case atStart =>
          obtain ⟨j, hj⟩ := Int.eq_ofNat_of_zero_le (show 0 ≤ nx by omega)
          exact ⟨j, by omega, by omega, by rw [hj], Below.refl _ _, by simp, by simp⟩
        case round =>
          obtain ⟨j, hj1, hj2, rfl, hb2, d1, d2⟩ := hrel
          have HB2 := Lib.hid hb2
          clear hb2
          by_cases hja : (j : Int) < a
          · have hoff := K5.out j hj1 hja
            have HOFF := Lib.hid hoff
            clear hoff
            go_wp2_with (go_at_call 31; refine (rhas_in s j _ (by omega) HS.out).mono ?_; rintro e w' ⟨rfl, rfl⟩; rw [HOFF.out])
            go_roundw
            case rel => exact ⟨j + 1, by omega, by omega, by go_num, HB2.out, d1, d2⟩
            case measure => simp only [intOf]; omega
          · obtain rfl : a = (j : Int) := by omega
            go_wp2_with (fail)
            obtain ⟨wp, rfl⟩ : ∃ wp : World, wp = wr := ⟨_, rfl⟩
            go_loopw [10] (fun i wr => ∃ u : Nat, (j : Int) ≤ (u : Int) ∧ (u : Int) ≤ (j : Int) + m ∧ i = .int .i64 u ∧ Below wo.heap.size (wo.alloc (.cells #[.int .i64 j, .int .i64 m] 40)) wr ∧ wr.cell? ⟨wo.heap.size, 0, none⟩ = some (.int .i64 j) ∧ wr.cell? ⟨wo.heap.size, 1, none⟩ = some (.int .i64 m)) (fun i _ => ((j : Int) + m - intOf i).toNat)
            case atStart => exact ⟨j, by omega, by omega, rfl, HB2.out, d1, d2⟩
            case round =>
              obtain ⟨u, hu1, hu2, rfl, hb3, d1, d2⟩ := hrel
              have HB3 := Lib.hid hb3
              clear hb3 HB2
              by_cases hum : (u : Int) < (j : Int) + m
              · have hon := K6.out u hu1 hum
                have HON := Lib.hid hon
                have hun : ¬ n ≤ (u : Int) := by
                  have hh : (u : Int) < heldN n := by omega
                  unfold heldN at hh
                  omega
                clear hon
                go_wp2_with (go_at_call 31; refine (rhas_in s u _ (by omega) HS.out).mono ?_; rintro e w' ⟨rfl, rfl⟩; rw [HON.out])
                go_roundw
                case rel => exact ⟨u + 1, by omega, by omega, by go_num, HB3.out, d1, d2⟩
                case measure => simp only [intOf]; omega
              · go_wp2_with (fail)
                go_roundw
                case rel => exact ⟨q + 1, by omega, by go_num, by rw [HE1.out], by rw [HE2.out, Int.add_comm], HB.out.trans ((((Below.refl _ _).alloc (Nat.le_refl _) _).trans HB3.out).mono hz)⟩
                case measure => simp only [intOf]; omega
      · go_wp2_with (fail)
        obtain ⟨wo, rfl⟩ : ∃ wo : World, wo = wr := ⟨_, rfl⟩
        go_loopw [9] (fun i wr => ∃ j : Nat, nx ≤ (j : Int) ∧ (j : Int) ≤ a ∧ i = .int .i64 j ∧ Below wo.heap.size (wo.alloc (.cells #[.int .i64 a, .int .i64 m] 40)) wr ∧ wr.cell? ⟨wo.heap.size, 0, none⟩ = some (.int .i64 a) ∧ wr.cell? ⟨wo.heap.size, 1, none⟩ = some (.int .i64 m)) (fun i _ => (a - intOf i).toNat)
        case atStart =>
          obtain ⟨j, hj⟩ := Int.eq_ofNat_of_zero_le (show 0 ≤ nx by omega)
          exact ⟨j, by omega, by omega, by rw [hj], Below.refl _ _, by simp, by simp⟩
        case round =>
          obtain ⟨j, hj1, hj2, rfl, hb2, d1, d2⟩ := hrel
          have HB2 := Lib.hid hb2
          clear hb2
          by_cases hja : (j : Int) < a
          · have hoff := K5.out j hj1 hja
            have HOFF := Lib.hid hoff
            clear hoff
            go_wp2_with (go_at_call 31; refine (rhas_in s j _ (by omega) HS.out).mono ?_; rintro e w' ⟨rfl, rfl⟩; rw [HOFF.out])
            go_roundw
            case rel => exact ⟨j + 1, by omega, by omega, by go_num, HB2.out, d1, d2⟩
            case measure => simp only [intOf]; omega
          · obtain rfl : a = (j : Int) := by omega
            go_wp2_with (fail)
            obtain ⟨wp, rfl⟩ : ∃ wp : World, wp = wr := ⟨_, rfl⟩
            go_loopw [10] (fun i wr => ∃ u : Nat, (j : Int) ≤ (u : Int) ∧ (u : Int) ≤ (j : Int) + m ∧ i = .int .i64 u ∧ Below wo.heap.size (wo.alloc (.cells #[.int .i64 j, .int .i64 m] 40)) wr ∧ wr.cell? ⟨wo.heap.size, 0, none⟩ = some (.int .i64 j) ∧ wr.cell? ⟨wo.heap.size, 1, none⟩ = some (.int .i64 m)) (fun i _ => ((j : Int) + m - intOf i).toNat)
            case atStart => exact ⟨j, by omega, by omega, rfl, HB2.out, d1, d2⟩
            case round =>
              obtain ⟨u, hu1, hu2, rfl, hb3, d1, d2⟩ := hrel
              have HB3 := Lib.hid hb3
              clear hb3 HB2
              by_cases hum : (u : Int) < (j : Int) + m
              · have hon := K6.out u hu1 hum
                have HON := Lib.hid hon
                have hun : ¬ n ≤ (u : Int) := by
                  have hh : (u : Int) < heldN n := by omega
                  unfold heldN at hh
                  omega
                clear hon
                go_wp2_with (go_at_call 31; refine (rhas_in s u _ (by omega) HS.out).mono ?_; rintro e w' ⟨rfl, rfl⟩; rw [HON.out])
                go_roundw
                case rel => exact ⟨u + 1, by omega, by omega, by go_num, HB3.out, d1, d2⟩
                case measure => simp only [intOf]; omega
              · go_wp2_with (fail)
                go_roundw
                case rel => exact ⟨q + 1, by omega, by go_num, by rw [HE1.out], by rw [HE2.out, Int.add_comm], HB.out.trans ((((Below.refl _ _).alloc (Nat.le_refl _) _).trans HB3.out).mono hz)⟩
                case measure => simp only [intOf]; omega
    · obtain rfl : q = (runsL s n).length := by omega
      rw [List.take_length] at g1 g2 g3 ⊢
      have hs2 := HSUM.out
      have HS2 := Lib.hid hs2
      generalize sumR (runsL s n).reverse = sm at *
      have hsz := HBW.out.size
      clear hs2 HSUM HG
      have hcase : n < 0 ∨ (¬ n < 0 ∧ n ≤ 16) ∨ (¬ n < 0 ∧ 16 < n) := by omega
      rcases hcase with h0 | ⟨h0, h1⟩ | ⟨h0, h1⟩
      all_goals
        go_wp2_with (fail)
        refine (rmissing_any s n _ HS.out).mono ?_
        rintro e w3 ⟨⟨v3, rfl, hown3⟩, hb3⟩
        obtain ⟨A3, c3, rfl, hsl3⟩ := own_sl hown3
        have HB3 := Lib.hid (HBW.out.trans (hb3.mono hsz))
        clear hown3 hsl3 hb3
        go_wp2_with (fail)
        go_ret
        have hs2 := HS2.out
        unfold heldN at hs2
        exact ⟨ret_bool (by simp; omega), HB3.out⟩

/-! ### the row: written by program -/
set_option maxRecDepth 100000 in
theorem lifted (os : Os) (started : os.Started) (H : Type) (enc : TypeId × Value → H) :
    ReturnsInHanded {} Try.checked os 7 .any (Rows.bitsRunsSpec.pre6 enc Try.prog Try.f7 Rows.bitsRunsRow.domain false) (Rows.bitsRunsSpec.post enc Try.prog Try.f7 false true false false) := by
  refine returnsInHanded_of_change (C := Try.checked) Go.Proofs.Ytbnnfknkmelhaaa.lift.own started (by kernel_rfl) Try.func7
    (ChangeSpec.witness6 (enc := enc) (C := Try.checked) false ⟨#[], #[.int .i64 0, .int .i64 0], []⟩ 8 (by kernel_rfl) (by kernel_rfl) (by kernel_rfl) (by kernel_rfl)) ?_
  intro W base args ds gs before hval0 hW hcnd _
  have hval : ∀ (j : Nat) t v, Try.f7.params[j]? = some t → args[j]? = some v → Value.okWide Try.prog W .any base t v := hval0
  have hW' := hW
  obtain ⟨p, q, hA0, hV, rfl, hfz, hnd⟩ := hW
  have hA : DataW.TrodAll enc Try.prog W 0 (fun _ => true) true Try.f7.params.toList args.toList ds p := hA0
  have hAk := hA
  rw [Try.params7] at hA hval
  obtain ⟨v0, vs0, d0, ds0, p0, q0, hargs, rfl, rfl, h0, r0⟩ := trodAll_cons hA
  obtain ⟨v1, vs1, d1, ds1, p1, q1, rfl, rfl, rfl, h1, r1⟩ := trodAll_cons r0
  obtain ⟨rfl, rfl, rfl⟩ := trodAll_nil r1
  obtain rfl : args = #[v0, v1] := by cases args; simp_all
  obtain ⟨rfl, rfl⟩ := trodVars_none hV
  have hlt := hW'.lt
  obtain ⟨a0, rfl, _, _, w0⟩ := open_int Try.underlying3 (hval 0 3 v0 rfl rfl) h0
  obtain ⟨a1, rfl, _, _, w1⟩ := open_int Try.underlying3 (hval 1 3 v1 rfl rfl) h1
  refine (walk W a0 w0 a1 w1).mono fun e W' ⟨he, hg⟩ => ?_
  subst he
  exact ⟨_, rfl, Go.Proofs.Ytbnnfknkmelhaaa.base.postBelow (pv := []) hW' (fun _ _ _ => (trodAll_cons_mk (shut_bool Try.underlying4 _) trodAll_mk0)) (fun sp hsp => Go.Proofs.Ytbnnfknkmelhaaa.lift.args_stay Go.Proofs.Ytbnnfknkmelhaaa.lift.laidOut hg _ _ _ _ (by kernel_rfl) hAk (fun x hx => hlt x (by simpa using hx)) (fun x hx => hsp x (by simpa using hx))) (fun _ _ => rfl) (by simp)
    hg (ok_one (by kernel_rfl) rfl (okWide_bool_mk Try.underlying4 _))⟩

theorem over : Rows.bitsRunsRow.holds Try.pinned (OpenSpec.ofChange Rows.bitsRunsSpec) :=
  OpenClaim.holds_of_wide 7 Try.f7 rfl rfl rfl rfl rfl rfl rfl ⟨rfl, rfl, rfl, rfl, rfl⟩ rfl rfl rfl rfl rfl (by kernel_rfl) Try.func7 (by kernel_rfl)
    (of_decide_eq_true (by kernel_rfl)) (by unfold Func.isWrapper; first | (rw [if_pos (by decide +kernel)]; kernel_rfl) | (rw [if_neg (by decide +kernel)]; exact ⟨rfl, rfl⟩))
    (fun os started H enc _ => lifted os started H enc)

/-- THE STATEMENT -/
theorem proved : Rows.BitsRunsSaid :=
  over
#print axioms proved
end Go.Proofs.Ytbnnfknkmelhaaa.bitsRuns
