/-
  PROVED HERE: for all ints set, n, i, longeronlaw10.BitsWith(set, n, i) returns true and leaves memory as it was.
  CONDITIONS: none.
-/
import Derived.Test.YtbnnfknkmelhaaaBitsWakes
import Derived.Deep.RegionWith
namespace Go.Proofs.Ytbnnfknkmelhaaa.bitsWith
set_option linter.unusedVariables false
open Go.RowKit Go.ChangeShapes Go.WideShapes Go.ChangeAt Go.Proofs.Ytbnnfknkmelhaaa.base Go.Proofs.Ytbnnfknkmelhaaa.bits

/-- a set with any number's block -/
def withAny (s i : Int) : Int := if 0 ≤ i ∧ i < 16 then withB s i.toNat else s
theorem with_any (s i : Int) (w : World) (hs : InI64 s) : Calls Try.prog 33 #[.int .i64 s, .int .i64 i] w fun e w' => e = .returned (.int .i64 (withAny s i)) ∧ w = w' := by
  by_cases h : 0 ≤ i ∧ i < 16
  · obtain ⟨k, rfl⟩ := Int.eq_ofNat_of_zero_le h.1
    have e : withAny s (k : Int) = withB s k := by unfold withAny; rw [if_pos h]; simp
    rw [e]
    exact with_in s k w (by omega) hs
  · have e : withAny s i = s := by unfold withAny; rw [if_neg h]
    rw [e]
    exact with_out s i w (by omega)
theorem withAny_i64 {s i : Int} (h : InI64 s) : InI64 (withAny s i) := by
  unfold withAny
  split
  · exact withB_i64 s _ (by omega) h
  · exact h
theorem bitb_withAny (s i : Int) (j : Nat) (hj : j < 16) : bitb (withAny s i) j = (bitb s j || (j : Int) == i) := by
  unfold withAny
  split
  · rename_i h
    rw [bitb_withB]
    congr 1
    rw [Bool.eq_iff_iff]
    simp
    omega
  · rename_i h
    have : ((j : Int) == i) = false := by simp; omega
    rw [this, Bool.or_false]
/-- with the first ones that are missing -/
theorem miss_nat (s n : Int) : missL s n = ((List.range (heldN n)).filter fun k => !bitb s k).map fun k : Nat => (k : Int) := by
  unfold missL missP elems
  rw [List.filter_map, List.map_map]
  rfl
def missN (s n : Int) : List Nat := (List.range (heldN n)).filter fun k => !bitb s k
theorem missN_map (s n : Int) : missL s n = (missN s n).map fun k : Nat => (k : Int) := miss_nat s n
theorem missN_lt (s n : Int) : ∀ k ∈ missN s n, k < 16 := by
  intro k hk
  have := List.mem_range.1 (List.mem_filter.1 hk).1
  have := heldN_le n
  omega
theorem fill_missing (s n : Int) (j : Nat) (hj : j < heldN n) : bitb (fillB s (missN s n)) j = true := by
  rw [bitb_fillB]
  cases h : bitb s j
  · simp [missN, h, hj]
  · simp

set_option maxRecDepth 100000 in
set_option maxHeartbeats 4000000 in
theorem walk (w : World) (s : Int) (ws : (Lit.int .i64 s).wf = true) (n : Int) (wn : (Lit.int .i64 n).wf = true) (i : Int) (wi : (Lit.int .i64 i).wf = true) :
    Calls Try.prog 9 #[.int .i64 s, .int .i64 n, .int .i64 i] w fun e w' => e = .returned (.bool true) ∧ Below w.heap.size w w' := by
  have his := i64_of ws
  have HS := Lib.hid his
  have HW := Lib.hid (withAny_i64 (i := i) his)
  clear ws wn wi his
  have hml := miss_len s n
  go_enter Try.func9, Try.ntmps9
  go_wp2_with (fail)
  refine (wakes _).mono ?_; rintro e w1 ⟨rfl, hb1⟩
  have HB1 := Lib.hid hb1; clear hb1
  go_wp2_with (fail)
  refine (with_any s i _ HS.out).mono ?_; rintro e w' ⟨rfl, rfl⟩
  go_wp2_with (fail)
  go_loopw [18] (fun k wr => ∃ j : Nat, j ≤ 16 ∧ k = .int .i64 j ∧ Below w.heap.size w wr) (fun k _ => 16 - (intOf k).toNat)
  case atStart => exact ⟨0, by omega, rfl, HB1.out⟩
  case round =>
    obtain ⟨j, hj, rfl, hb⟩ := hrel
    have HB := Lib.hid hb
    clear hb HB1
    by_cases hlt : j < 16
    · have hbit := bitb_withAny s i j hlt
      cases hsj : bitb s j
      all_goals
        rw [hsj] at hbit
        simp only [Bool.false_or, Bool.true_or] at hbit
        have HBIT := Lib.hid hbit
        have HSJ := Lib.hid hsj
        clear hbit hsj
        go_wp2_with (first
          | (go_at_call 35; refine (has_in _ j _ hlt).mono ?_; rintro e w' ⟨rfl, rfl⟩; rw [HBIT.out])
          | (go_at_call 31; refine (rhas_in s j _ hlt HS.out).mono ?_; rintro e w' ⟨rfl, rfl⟩; rw [HSJ.out]))
        go_roundw
        case rel => exact ⟨j + 1, by omega, by go_num, HB.out⟩
        case measure => simp only [intOf]; omega
    · have h16 : ¬ (j : Int) < 16 := by omega
      have hsz := HB.out.size
      go_wp2_with (fail)
      refine (missing_any s n _).mono ?_
      rintro e w2 ⟨v, rfl, hown, hb2⟩
      have hl : (missL s n).length = (missN s n).length := by rw [missN_map]; simp
      have hown' : w2.ownsRow wr.heap.size 3 1 v (missN s n).length ((missN s n).map fun k : Nat => Value.int .i64 (k : Int)) := by
        rw [hl, missN_map, List.map_map] at hown
        exact hown
      obtain ⟨A, c, rfl, hsl⟩ := own_sl hown'
      have HSL := Lib.hid hsl
      have HB2 := Lib.hid (HB.out.trans (hb2.mono hsz))
      rw [hl] at hml
      clear hown hown' hsl hb2 hl HB
      go_wp2_with (fail)
      go_loopw [0, 38] (fun st q wr => ∃ m : Nat, m ≤ (missN s n).length ∧ q = .int .i64 m ∧ st = .int .i64 (fillB s ((missN s n).take m)) ∧ Below w2.heap.size w2 wr) (fun _ q _ => (missN s n).length - (intOf q).toNat)
      case atStart => exact ⟨0, by omega, rfl, rfl, Below.refl _ _⟩
      case round =>
        obtain ⟨m, hm, rfl, rfl, hb⟩ := hrel
        have HB3 := Lib.hid hb
        clear hb
        have hii : InI64 (fillB s ((missN s n).take m)) := fillB_i64 HS.out _ fun k hk => missN_lt s n k (List.mem_of_mem_take hk)
        by_cases hlm : m < (missN s n).length
        · obtain ⟨b, off, rfl, hbl, hc⟩ := HSL.out.2 (by omega)
          have ht : fillB s ((missN s n).take (m + 1)) = withB (fillB s ((missN s n).take m)) ((missN s n)[m]) := by
            rw [List.take_succ_eq_append_getElem hlm, fillB_snoc]
          have c1 : wr.cell? ⟨b, off + m, none⟩ = some (.int .i64 (((missN s n)[m] : Nat) : Int)) := (HB3.out.cell (p := ⟨b, off + m, none⟩) hbl).trans (hc m _ (by simp [hlm]))
          have hk16 := missN_lt s n _ (List.getElem_mem hlm)
          have HT := Lib.hid ht; have HI := Lib.hid hii
          clear ht hc hii
          generalize (missN s n)[m] = k at *
          generalize fillB s ((missN s n).take m) = fs at *
          go_wp2_with (fail)
          refine (with_in fs k _ hk16 HI.out).mono ?_; rintro e w' ⟨rfl, rfl⟩
          go_wp2_with (fail)
          go_roundw
          case rel => exact ⟨m + 1, by omega, by go_num, by rw [HT.out], HB3.out⟩
          case measure => simp only [intOf]; omega
        · obtain rfl : m = (missN s n).length := by omega
          have hall := fill_missing s n
          rw [List.take_length] at hii ⊢
          have HI := Lib.hid hii; have HALL := Lib.hid hall
          clear hii hall
          generalize fillB s (missN s n) = fs at *
          have hz3 := HB3.out.size
          have hz2 := HB2.out.size
          go_wp2_with (fail)
          refine (first_any fs n _).mono ?_
          rintro e w3 ⟨h3 | ⟨_, rfl⟩, hb3⟩
          · obtain ⟨k, hk, hoff, _⟩ := h3
            rw [HALL.out k hk] at hoff
            cases hoff
          · have HB4 := Lib.hid (HB2.out.trans ((HB3.out.trans (hb3.mono hz3)).mono hz2))
            clear hb3
            rcases (by omega : (0 ≤ i ∧ i < 16) ∨ (¬ 0 ≤ i) ∨ (0 ≤ i ∧ ¬ i < 16)) with ⟨i0, i1⟩ | i0 | ⟨i0, i1⟩
            · go_wp2_with (fail)
              go_ret
              exact ⟨rfl, HB4.out⟩
            · have e1 : withAny fs i = fs := by unfold withAny; rw [if_neg (by omega)]
              have E1 := Lib.hid e1
              clear e1
              go_wp2_with (go_at_call 33; refine (with_any fs i _ HI.out).mono ?_; rintro e w' ⟨rfl, rfl⟩; rw [E1.out])
              go_ret
              exact ⟨rfl, HB4.out⟩
            · have e1 : withAny fs i = fs := by unfold withAny; rw [if_neg (by omega)]
              have E1 := Lib.hid e1
              clear e1
              go_wp2_with (go_at_call 33; refine (with_any fs i _ HI.out).mono ?_; rintro e w' ⟨rfl, rfl⟩; rw [E1.out])
              go_ret
              exact ⟨rfl, HB4.out⟩

/-! ### the row: written by program -/
set_option maxRecDepth 100000 in
theorem lifted (os : Os) (started : os.Started) (H : Type) (enc : TypeId × Value → H) :
    ReturnsInHanded {} Try.checked os 9 .any (Rows.bitsWithSpec.pre6 enc Try.prog Try.f9 Rows.bitsWithRow.domain false) (Rows.bitsWithSpec.post enc Try.prog Try.f9 false true false false) := by
  refine returnsInHanded_of_change (C := Try.checked) Go.Proofs.Ytbnnfknkmelhaaa.lift.own started (by kernel_rfl) Try.func9
    (ChangeSpec.witness6 (enc := enc) (C := Try.checked) false ⟨#[], #[.int .i64 0, .int .i64 0, .int .i64 0], []⟩ 8 (by kernel_rfl) (by kernel_rfl) (by kernel_rfl) (by kernel_rfl)) ?_
  intro W base args ds gs before hval0 hW hcnd _
  have hval : ∀ (j : Nat) t v, Try.f9.params[j]? = some t → args[j]? = some v → Value.okWide Try.prog W .any base t v := hval0
  have hW' := hW
  obtain ⟨p, q, hA0, hV, rfl, hfz, hnd⟩ := hW
  have hA : DataW.TrodAll enc Try.prog W 0 (fun _ => true) true Try.f9.params.toList args.toList ds p := hA0
  have hAk := hA
  rw [Try.params9] at hA hval
  obtain ⟨v0, vs0, d0, ds0, p0, q0, hargs, rfl, rfl, h0, r0⟩ := trodAll_cons hA
  obtain ⟨v1, vs1, d1, ds1, p1, q1, rfl, rfl, rfl, h1, r1⟩ := trodAll_cons r0
  obtain ⟨v2, vs2, d2, ds2, p2, q2, rfl, rfl, rfl, h2, r2⟩ := trodAll_cons r1
  obtain ⟨rfl, rfl, rfl⟩ := trodAll_nil r2
  obtain rfl : args = #[v0, v1, v2] := by cases args; simp_all
  obtain ⟨rfl, rfl⟩ := trodVars_none hV
  have hlt := hW'.lt
  obtain ⟨a0, rfl, _, _, w0⟩ := open_int Try.underlying3 (hval 0 3 v0 rfl rfl) h0
  obtain ⟨a1, rfl, _, _, w1⟩ := open_int Try.underlying3 (hval 1 3 v1 rfl rfl) h1
  obtain ⟨a2, rfl, _, _, w2⟩ := open_int Try.underlying3 (hval 2 3 v2 rfl rfl) h2
  refine (walk W a0 w0 a1 w1 a2 w2).mono fun e W' ⟨he, hg⟩ => ?_
  subst he
  exact ⟨_, rfl, Go.Proofs.Ytbnnfknkmelhaaa.base.postBelow (pv := []) hW' (fun _ _ _ => (trodAll_cons_mk (shut_bool Try.underlying4 _) trodAll_mk0)) (fun sp hsp => Go.Proofs.Ytbnnfknkmelhaaa.lift.args_stay Go.Proofs.Ytbnnfknkmelhaaa.lift.laidOut hg _ _ _ _ (by kernel_rfl) hAk (fun x hx => hlt x (by simpa using hx)) (fun x hx => hsp x (by simpa using hx))) (fun _ _ => rfl) (by simp)
    hg (ok_one (by kernel_rfl) rfl (okWide_bool_mk Try.underlying4 _))⟩

theorem over : Rows.bitsWithRow.holds Try.pinned (OpenSpec.ofChange Rows.bitsWithSpec) :=
  OpenClaim.holds_of_wide 9 Try.f9 rfl rfl rfl rfl rfl rfl rfl ⟨rfl, rfl, rfl, rfl, rfl⟩ rfl rfl rfl rfl rfl (by kernel_rfl) Try.func9 (by kernel_rfl)
    (of_decide_eq_true (by kernel_rfl)) (by unfold Func.isWrapper; first | (rw [if_pos (by decide +kernel)]; kernel_rfl) | (rw [if_neg (by decide +kernel)]; exact ⟨rfl, rfl⟩))
    (fun os started H enc _ => lifted os started H enc)

/-- THE STATEMENT -/
theorem proved : Rows.BitsWithSaid :=
  over
#print axioms proved
end Go.Proofs.Ytbnnfknkmelhaaa.bitsWith
