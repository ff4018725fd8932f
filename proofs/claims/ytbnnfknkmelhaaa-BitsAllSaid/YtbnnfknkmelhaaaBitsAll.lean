/-
  PROVED HERE: for all bytes n, i, longeronlaw10.BitsAll(n, i) returns true and leaves memory as it was.
  CONDITIONS: none.
-/
import Derived.Test.YtbnnfknkmelhaaaBitsWakes
import Derived.Test.YtbnnfknkmelhaaaBitsMany
namespace Go.Proofs.Ytbnnfknkmelhaaa.bitsAll
set_option linter.unusedVariables false
open Go.RowKit Go.ChangeShapes Go.WideShapes Go.ChangeAt Go.Proofs.Ytbnnfknkmelhaaa.base Go.Proofs.Ytbnnfknkmelhaaa.bits

theorem u8_bd {z : Int} (h : (Lit.int .u8 z).wf = true) : 0 ≤ z ∧ z ≤ 255 := by
  have h1 : IntKind.u8.min = 0 := rfl
  have h2 : IntKind.u8.max = 255 := rfl
  simp only [Lit.wf, Bool.and_eq_true, decide_eq_true_eq] at h
  omega
/-- the first j blocks but one -/
def but (oo j : Nat) : List Nat := (List.range j).filter fun k => k != oo
theorem but_lt {oo j : Nat} (hj : j ≤ 16) : ∀ k ∈ but oo j, k < 16 := by
  intro k hk
  have := List.mem_range.1 (List.mem_filter.1 hk).1
  omega
theorem but_succ (oo j : Nat) : but oo (j + 1) = if j = oo then but oo j else but oo j ++ [j] := by
  unfold but
  rw [List.range_succ, List.filter_append]
  split
  · rename_i h; simp [h]
  · rename_i h; simp [h]
theorem but_mem {oo j k : Nat} : k ∈ but oo j ↔ k < j ∧ k ≠ oo := by simp [but]
theorem heldN_of {k : Nat} (h : k ≤ 16) : heldN (k : Int) = k := by unfold heldN; omega
theorem with_last {oo kk : Nat} (hk : kk ≤ 16) (ho : oo < kk) : withB (fillB 0 (but oo kk)) oo = 2 ^ kk - 1 := by
  have hb := pow_bd kk hk
  refine bitb_ext (withB_u16 (by omega) (fillB_u16 (by omega) _ (but_lt hk))) (by omega) fun j hj => ?_
  rw [bitb_withB, bitb_fillB, bitb_all, bitb_zero]
  simp only [Bool.false_or, but_mem]
  rw [Bool.eq_iff_iff]
  simp
  omega

set_option maxRecDepth 100000 in
set_option maxHeartbeats 4000000 in
theorem walk (w : World) (n : Int) (wn : (Lit.int .u8 n).wf = true) (i : Int) (wi : (Lit.int .u8 i).wf = true) :
    Calls Try.prog 10 #[.int .u8 n, .int .u8 i] w fun e w' => e = .returned (.bool true) ∧ Below w.heap.size w w' := by
  obtain ⟨n0, n1⟩ := u8_bd wn
  obtain ⟨i0, i1⟩ := u8_bd wi
  clear wn wi
  obtain ⟨kk, hkk⟩ := Int.eq_ofNat_of_zero_le (show 0 ≤ 1 + n % 16 by omega)
  have k1 : 1 ≤ kk := by omega
  have k16 : kk ≤ 16 := by omega
  have hmod := Int.emod_lt_of_pos i (show (0 : Int) < (kk : Int) by omega)
  have hmod0 := Int.emod_nonneg i (show (kk : Int) ≠ 0 by omega)
  obtain ⟨oo, hoo⟩ := Int.eq_ofNat_of_zero_le hmod0
  have ok : oo < kk := by omega
  have HKK := Lib.hid hkk; have HOO := Lib.hid hoo
  have kpos : (0 : Int) < (kk : Int) := by omega
  clear hkk hoo hmod hmod0
  have hp := pow_bd kk k16
  have p0 := hp.1
  have p1 := hp.2
  clear hp
  go_enter Try.func10, Try.ntmps10
  go_wp2_with (fail)
  refine (wakes _).mono ?_; rintro e w1 ⟨rfl, hb1⟩
  have HB1 := Lib.hid hb1; clear hb1
  go_wp2_with (fail)
  rw [HKK.out]
  refine (all_any _ _).mono ?_; rintro e w' ⟨rfl, rfl⟩
  rw [heldN_of k16]
  go_wp2_with (fail)
  rw [HOO.out]
  go_loopw [8, 26] (fun st b wr => ∃ j : Nat, j ≤ kk ∧ b = .int .i64 j ∧ st = .int .i64 (fillB 0 (but oo j)) ∧ Below w.heap.size w wr) (fun _ b _ => kk - (intOf b).toNat)
  case atStart => exact ⟨0, by omega, rfl, rfl, HB1.out⟩
  case round =>
    obtain ⟨j, hj, rfl, rfl, hb⟩ := hrel
    have HB := Lib.hid hb
    clear hb HB1
    by_cases hlt : j < kk
    · have hbs := but_succ oo j
      have hii : InI64 (fillB 0 (but oo j)) := fillB_i64 (by unfold InI64; omega) _ (but_lt (by omega))
      by_cases hjo : j = oo
      · rw [if_pos hjo] at hbs
        have HBS := Lib.hid hbs
        have b1 : ((j : Int) != (oo : Int)) = false := by simp; omega
        have b2 : (j != oo) = false := by simp; omega
        clear hbs hii hjo
        generalize but oo j = bo at *
        go_wp2_with (fail)
        go_roundw
        case rel => exact ⟨j + 1, by omega, by go_num, by rw [HBS.out], HB.out⟩
        case measure => simp only [intOf]; omega
      · rw [if_neg hjo] at hbs
        have HBS := Lib.hid (show fillB 0 (but oo (j + 1)) = withB (fillB 0 (but oo j)) j by rw [hbs, fillB_snoc])
        have HI := Lib.hid hii
        have b1 : ((j : Int) != (oo : Int)) = true := by simp; omega
        have b2 : (j != oo) = true := by simp; omega
        clear hbs hii hjo
        generalize fillB 0 (but oo j) = fs at *
        go_wp2_with (fail)
        refine (with_in fs j _ (by omega) HI.out).mono ?_; rintro e w' ⟨rfl, rfl⟩
        go_wp2_with (fail)
        go_roundw
        case rel => exact ⟨j + 1, by omega, by go_num, by rw [HBS.out], HB.out⟩
        case measure => simp only [intOf]; omega
    · obtain rfl : j = kk := by omega
      have hii : InI64 (fillB 0 (but oo j)) := fillB_i64 (by unfold InI64; omega) _ (but_lt k16)
      have HI := Lib.hid hii
      have HW := Lib.hid (with_last k16 ok)
      have hbits : ∀ x, bitb (fillB 0 (but oo j)) x = decide (x < j ∧ x ≠ oo) := by
        intro x
        rw [bitb_fillB, bitb_zero, Bool.false_or]
        simp only [but_mem]
      have HBITS := Lib.hid hbits
      have hon : ∀ x, x < heldN (j : Int) → bitb ((2 : Int) ^ j - 1) x = true := by
        intro x hx
        rw [heldN_of k16] at hx
        rw [bitb_all]
        simpa using hx
      have hruns := runs_on hon (by rw [heldN_of k16]; omega)
      rw [heldN_of k16] at hruns
      have hmiss := miss_nil hon
      have HRUNS := Lib.hid hruns; have HMISS := Lib.hid hmiss
      have hsz := HB.out.size
      clear hii hbits hon hruns hmiss
      generalize fillB 0 (but oo j) = fs at *
      go_wp2_with (fail)
      refine (first_any fs j _).mono ?_
      rintro e w2 ⟨⟨x, hx, hoff, _, rfl⟩ | ⟨hall, rfl⟩, hb2⟩
      · rw [heldN_of k16] at hx
        have hxo : x = oo := by
          have := HBITS.out x
          rw [hoff] at this
          simp at this
          omega
        subst hxo
        have HB2 := Lib.hid (HB.out.trans (hb2.mono hsz))
        have hsz2 := HB2.out.size
        clear hb2 hoff
        go_wp2_with (fail)
        refine (runs_any _ _ _).mono ?_
        rintro e w3 ⟨v, rfl, hown, hb3⟩
        rw [HRUNS.out] at hown
        have hown2 : w3.ownsRow w2.heap.size 40 2 v (0 + 1) (prCells [(0, (j : Int))]) := hown
        obtain ⟨g, cap, rfl⟩ := ownsRow_succ hown2
        have c0 : w3.cell? ⟨g, 0, none⟩ = some (.int .i64 0) := hown2.cellAt 0 (by omega)
        have c1 : w3.cell? ⟨g, 1, none⟩ = some (.int .i64 j) := hown2.cellAt 1 (by omega)
        have HB3 := Lib.hid (HB2.out.trans (hb3.mono hsz2))
        have hsz3 := HB3.out.size
        clear hown hown2 hb3
        go_wp2_with (fail)
        refine (many_all j _ k16).mono ?_
        rintro e w4 ⟨rfl, hb4⟩
        have d0 := cell_below hb4 c0
        have d1 := cell_below hb4 c1
        have HB4 := Lib.hid (HB3.out.trans (hb4.mono hsz3))
        have hsz4 := HB4.out.size
        clear hb4 c0 c1
        go_wp2_with (fail)
        refine (missing_any _ _ _).mono ?_
        rintro e w5 ⟨v5, rfl, hown5, hb5⟩
        rw [HMISS.out] at hown5
        obtain ⟨A5, c5, rfl, _⟩ := own_sl hown5
        have e0 := cell_below hb5 d0
        have e1 := cell_below hb5 d1
        have HB5 := Lib.hid (HB4.out.trans (hb5.mono hsz4))
        have hq := eq_pr 0 j
        clear hb5 d0 d1 hown5
        go_wp2_with (go_at_call 33; refine (with_in fs x _ (by omega) HI.out).mono ?_; rintro e w' ⟨rfl, rfl⟩; rw [HW.out])
        go_ret
        exact ⟨rfl, HB5.out⟩
      · exfalso
        have := hall oo (by rw [heldN_of k16]; exact ok)
        rw [HBITS.out oo] at this
        simp at this

/-! ### the row: written by program -/
set_option maxRecDepth 100000 in
theorem lifted (os : Os) (started : os.Started) (H : Type) (enc : TypeId × Value → H) :
    ReturnsInHanded {} Try.checked os 10 .any (Rows.bitsAllSpec.pre6 enc Try.prog Try.f10 Rows.bitsAllRow.domain false) (Rows.bitsAllSpec.post enc Try.prog Try.f10 false true false false) := by
  refine returnsInHanded_of_change (C := Try.checked) Go.Proofs.Ytbnnfknkmelhaaa.lift.own started (by kernel_rfl) Try.func10
    (ChangeSpec.witness6 (enc := enc) (C := Try.checked) false ⟨#[], #[.int .u8 0, .int .u8 0], []⟩ 8 (by kernel_rfl) (by kernel_rfl) (by kernel_rfl) (by kernel_rfl)) ?_
  intro W base args ds gs before hval0 hW hcnd _
  have hval : ∀ (j : Nat) t v, Try.f10.params[j]? = some t → args[j]? = some v → Value.okWide Try.prog W .any base t v := hval0
  have hW' := hW
  obtain ⟨p, q, hA0, hV, rfl, hfz, hnd⟩ := hW
  have hA : DataW.TrodAll enc Try.prog W 0 (fun _ => true) true Try.f10.params.toList args.toList ds p := hA0
  have hAk := hA
  rw [Try.params10] at hA hval
  obtain ⟨v0, vs0, d0, ds0, p0, q0, hargs, rfl, rfl, h0, r0⟩ := trodAll_cons hA
  obtain ⟨v1, vs1, d1, ds1, p1, q1, rfl, rfl, rfl, h1, r1⟩ := trodAll_cons r0
  obtain ⟨rfl, rfl, rfl⟩ := trodAll_nil r1
  obtain rfl : args = #[v0, v1] := by cases args; simp_all
  obtain ⟨rfl, rfl⟩ := trodVars_none hV
  have hlt := hW'.lt
  obtain ⟨a0, rfl, _, _, w0⟩ := open_int Try.underlying5 (hval 0 5 v0 rfl rfl) h0
  obtain ⟨a1, rfl, _, _, w1⟩ := open_int Try.underlying5 (hval 1 5 v1 rfl rfl) h1
  refine (walk W a0 w0 a1 w1).mono fun e W' ⟨he, hg⟩ => ?_
  subst he
  exact ⟨_, rfl, Go.Proofs.Ytbnnfknkmelhaaa.base.postBelow (pv := []) hW' (fun _ _ _ => (trodAll_cons_mk (shut_bool Try.underlying4 _) trodAll_mk0)) (fun sp hsp => Go.Proofs.Ytbnnfknkmelhaaa.lift.args_stay Go.Proofs.Ytbnnfknkmelhaaa.lift.laidOut hg _ _ _ _ (by kernel_rfl) hAk (fun x hx => hlt x (by simpa using hx)) (fun x hx => hsp x (by simpa using hx))) (fun _ _ => rfl) (by simp)
    hg (ok_one (by kernel_rfl) rfl (okWide_bool_mk Try.underlying4 _))⟩

theorem over : Rows.bitsAllRow.holds Try.pinned (OpenSpec.ofChange Rows.bitsAllSpec) :=
  OpenClaim.holds_of_wide 10 Try.f10 rfl rfl rfl rfl rfl rfl rfl ⟨rfl, rfl, rfl, rfl, rfl⟩ rfl rfl rfl rfl rfl (by kernel_rfl) Try.func10 (by kernel_rfl)
    (of_decide_eq_true (by kernel_rfl)) (by unfold Func.isWrapper; first | (rw [if_pos (by decide +kernel)]; kernel_rfl) | (rw [if_neg (by decide +kernel)]; exact ⟨rfl, rfl⟩))
    (fun os started H enc _ => lifted os started H enc)

/-- THE STATEMENT -/
theorem proved : Rows.BitsAllSaid :=
  over
#print axioms proved
end Go.Proofs.Ytbnnfknkmelhaaa.bitsAll
