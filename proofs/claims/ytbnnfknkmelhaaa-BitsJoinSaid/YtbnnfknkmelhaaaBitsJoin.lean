/-
  PROVED HERE: for every byte slice l and every byte n, longeronlaw10.BitsJoin(l, n) returns true and leaves memory as it was.
  CONDITIONS: none.
-/
import Derived.Test.YtbnnfknkmelhaaaBitsWakes
namespace Go.Proofs.Ytbnnfknkmelhaaa.bitsJoin
set_option linter.unusedVariables false
open Go.RowKit Go.ChangeShapes Go.WideShapes Go.ChangeAt Go.Proofs.Ytbnnfknkmelhaaa.base Go.Proofs.Ytbnnfknkmelhaaa.bits

theorem u8_bd {z : Int} (h : (Lit.int .u8 z).wf = true) : 0 ≤ z ∧ z ≤ 255 := by
  have h1 : IntKind.u8.min = 0 := rfl
  have h2 : IntKind.u8.max = 255 := rfl
  simp only [Lit.wf, Bool.and_eq_true, decide_eq_true_eq] at h
  omega
/-- the blocks that a byte tells -/
def blk (z : Int) : Nat := (z % 16).toNat
def blks (zs : List Int) : List Nat := zs.map blk
theorem blks_lt (zs : List Int) : ∀ k ∈ blks zs, k < 16 := by
  intro k hk
  obtain ⟨z, _, rfl⟩ := List.mem_map.1 hk
  unfold blk
  omega
theorem blk_cast (z : Int) : ((blk z : Nat) : Int) = z % 16 := by unfold blk; omega
theorem blks_take (zs : List Int) (k : Nat) (h : k < zs.length) : blks (zs.take (k + 1)) = blks (zs.take k) ++ [blk zs[k]] := by
  unfold blks; rw [List.take_succ_eq_append_getElem h, List.map_append]; rfl
theorem fill_perm (zs : List Int) : fillB 0 (blks zs) = fillB 0 (blks zs.reverse) := by
  refine bitb_ext (fillB_u16 (by omega) _ (blks_lt _)) (fillB_u16 (by omega) _ (blks_lt _)) fun j hj => ?_
  rw [bitb_fillB, bitb_fillB]
  congr 2
  simp [blks]
theorem heldN_of {k : Nat} (h : k ≤ 16) : heldN (k : Int) = k := by unfold heldN; omega

set_option maxRecDepth 100000 in
set_option maxHeartbeats 4000000 in
theorem walk (w : World) (A : Option Addr) (c : Nat) (zs : List Int) (hm : zs.length ≤ maxLen) (hs : Sl w w.heap.size 1 A zs.length (zs.map (Value.int .u8))) (hz : ∀ z ∈ zs, (Lit.int .u8 z).wf = true) (n : Int) (wn : (Lit.int .u8 n).wf = true) :
    Calls Try.prog 8 #[.slice A zs.length c, .int .u8 n] w fun e w' => e = .returned (.bool true) ∧ Below w.heap.size w w' := by
  have HS := Lib.hid hs
  have HZ := Lib.hid hz
  obtain ⟨n0, n1⟩ := u8_bd wn
  clear hs hz wn
  unfold maxLen at hm
  by_cases hlen : 50 < zs.length
  · have b1 : (50 : Int) < (zs.length : Int) := by omega
    go_enter Try.func8, Try.ntmps8
    go_wp2_with (go_at_call 29; refine (wakes _).mono ?_; rintro e w1 ⟨rfl, hb1⟩; have HB1 := Lib.hid hb1; clear hb1)
    go_ret
    exact ⟨rfl, HB1.out⟩
  · have hl50 : zs.length ≤ 50 := by omega
    have b1 : ¬ (50 : Int) < (zs.length : Int) := by omega
    obtain ⟨kk, hkk⟩ := Int.eq_ofNat_of_zero_le (show 0 ≤ n % 17 by omega)
    have hk16 : kk ≤ 16 := by omega
    have HKK := Lib.hid hkk
    clear hkk hm
    go_enter Try.func8, Try.ntmps8
    go_wp2_with (fail)
    refine (wakes _).mono ?_; rintro e w1 ⟨rfl, hb1⟩
    have HB1 := Lib.hid hb1; clear hb1
    go_wp2_with (fail)
    go_loopw [6, 7, 22] (fun a b i wr => ∃ k : Nat, k ≤ zs.length ∧ i = .int .i64 k ∧ a = .int .i64 (fillB 0 (blks (zs.take k))) ∧ b = .int .i64 (fillB 0 (blks (zs.reverse.take k))) ∧ Below w.heap.size w wr) (fun _ _ i _ => zs.length - (intOf i).toNat)
    case atStart => exact ⟨0, by omega, rfl, rfl, rfl, HB1.out⟩
    case round =>
      obtain ⟨k, hk, rfl, rfl, rfl, hb⟩ := hrel
      have HB := Lib.hid hb
      clear hb HB1
      by_cases hlt : k < zs.length
      · obtain ⟨b, off, rfl, hbl, hc⟩ := HS.out.2 (by omega)
        have hlr : k < zs.reverse.length := by simpa using hlt
        have hrev : zs.reverse[k] = zs[zs.length - 1 - k]'(by omega) := by simp
        have hx0 := u8_bd (HZ.out _ (List.getElem_mem hlt))
        have hy0 := u8_bd (HZ.out _ (List.getElem_mem (show zs.length - 1 - k < zs.length by omega)))
        have c1 : wr.cell? ⟨b, off + k, none⟩ = some (.int .u8 zs[k]) := (HB.out.cell (p := ⟨b, off + k, none⟩) hbl).trans (hc k _ (by simp [hlt]))
        have c2 : wr.cell? ⟨b, off + (zs.length - 1 - k), none⟩ = some (.int .u8 (zs[zs.length - 1 - k]'(by omega))) := (HB.out.cell (p := ⟨b, off + (zs.length - 1 - k), none⟩) hbl).trans (hc _ _ (by simp))
        have x0' : (0 : Int) ≤ (zs.length : Int) - 1 - (k : Int) := by omega
        have x1' : (zs.length : Int) - 1 - (k : Int) < (zs.length : Int) := by omega

        have ht1 := blks_take zs k hlt
        have ht2 := blks_take zs.reverse k hlr
        rw [hrev] at ht2
        have i1 : InI64 (fillB 0 (blks (zs.take k))) := fillB_i64 (by unfold InI64; omega) _ (blks_lt _)
        have i2 : InI64 (fillB 0 (blks (zs.reverse.take k))) := fillB_i64 (by unfold InI64; omega) _ (blks_lt _)
        generalize zs[k] = x at *
        generalize zs[zs.length - 1 - k]'(by omega) = y at *
        obtain ⟨x0, x1⟩ := hx0
        obtain ⟨y0, y1⟩ := hy0
        have HT1 := Lib.hid (show fillB 0 (blks (zs.take (k + 1))) = withB (fillB 0 (blks (zs.take k))) (blk x) by rw [ht1, fillB_snoc])
        have HT2 := Lib.hid (show fillB 0 (blks (zs.reverse.take (k + 1))) = withB (fillB 0 (blks (zs.reverse.take k))) (blk y) by rw [ht2, fillB_snoc])
        have I1 := Lib.hid i1; have I2 := Lib.hid i2
        have bx : blk x < 16 := by unfold blk; omega
        have bY : blk y < 16 := by unfold blk; omega
        clear ht1 ht2 i1 i2 hc hrev hlr
        generalize fillB 0 (blks (zs.take k)) = fa at *
        generalize fillB 0 (blks (zs.reverse.take k)) = fb at *
        go_wp2_with (fail)
        rw [← blk_cast x]
        refine (with_in fa (blk x) _ bx I1.out).mono ?_; rintro e w' ⟨rfl, rfl⟩
        go_wp2_with (fail)
        rw [← blk_cast y]
        refine (with_in fb (blk y) _ bY I2.out).mono ?_; rintro e w' ⟨rfl, rfl⟩
        go_wp2_with (fail)
        go_roundw
        case rel => exact ⟨k + 1, by omega, by go_num, by rw [HT1.out], by rw [HT2.out], HB.out⟩
        case measure => simp only [intOf]; omega
      · obtain rfl : k = zs.length := by omega
        have e1 : zs.take zs.length = zs := List.take_length
        have e2 : zs.reverse.take zs.length = zs.reverse := List.take_of_length_le (by simp)
        rw [e1, e2, ← fill_perm]
        have i1 : InI64 (fillB 0 (blks zs)) := fillB_i64 (by unfold InI64; omega) _ (blks_lt _)
        have I1 := Lib.hid i1
        clear e1 e2 i1
        generalize fillB 0 (blks zs) = fa at *
        obtain ⟨hgood, hsum⟩ := runs_good fa (kk : Int)
        rw [heldN_of hk16] at hgood hsum
        have HG := Lib.hid hgood
        have HSUM := Lib.hid hsum
        have hll := runs_len fa (kk : Int)
        have hml := miss_len fa (kk : Int)
        have hzw := HB.out.size
        clear hgood hsum
        go_wp2_with (fail)
        rw [HKK.out]
        refine (runs_any _ _ _).mono ?_
        rintro e w2 ⟨v, rfl, hown, hb⟩
        obtain ⟨A2, c2, rfl, hsl⟩ := own_sl hown
        have HB2 := Lib.hid (HB.out.trans (hb.mono hzw))
        have HSL := Lib.hid hsl
        clear hb hown hsl
        go_wp2_with (fail)
        go_loopw [9, 50] (fun t i wr => ∃ q : Nat, q ≤ (runsL fa kk).length ∧ i = .int .i64 q ∧ t = .int .i64 (sumR ((runsL fa kk).take q).reverse) ∧ Below w2.heap.size w2 wr) (fun _ i _ => (runsL fa kk).length - (intOf i).toNat)
        case atStart => exact ⟨0, by omega, rfl, rfl, Below.refl _ _⟩
        case round =>
          obtain ⟨q, hq, rfl, rfl, hb⟩ := hrel
          have HB3 := Lib.hid hb
          obtain ⟨g1, g2, g3⟩ := good_bd (good_take HG.out q)
          have hz3 := hb.size
          clear hb
          by_cases hlt : q < (runsL fa kk).length
          · obtain ⟨b, off, rfl, hbl, hc⟩ := HSL.out.2 (by omega)
            have hgt := prCells_get (runsL fa kk) q hlt
            obtain ⟨k1, k2, k3, k4, _, _⟩ := good_at HG.out q hlt
            have hrev := take_rev hlt
            generalize hp : (runsL fa kk)[q] = p at *
            obtain ⟨a, m⟩ := p
            simp only at k1 k2 k4
            have c1 := (HB3.out.cell (p := ⟨b, off + q * 2, none⟩) hbl).trans (hc _ _ hgt.1)
            have c2 : wr.cell? ⟨b, off + q * 2 + 1, none⟩ = some (.int .i64 m) := by rw [Nat.add_assoc]; exact (HB3.out.cell (p := ⟨b, off + (q * 2 + 1), none⟩) hbl).trans (hc _ _ hgt.2)
            have he2 : sumR ((runsL fa kk).take (q + 1)).reverse = m + sumR ((runsL fa kk).take q).reverse := by rw [hrev]; rfl
            have HE2 := Lib.hid he2
            clear hgt hc hrev hp he2 k3
            generalize endR ((runsL fa kk).take q).reverse = nx at *
            generalize sumR ((runsL fa kk).take q).reverse = sm at *
            go_wp2_with (fail)
            go_roundw
            case rel => exact ⟨q + 1, by omega, by go_num, by rw [HE2.out, Int.add_comm], HB3.out.alloc (by omega) _⟩
            case measure => simp only [intOf]; omega
          · obtain rfl : q = (runsL fa kk).length := by omega
            rw [List.take_length] at g1 g2 g3 ⊢
            have HS2 := Lib.hid HSUM.out
            generalize sumR (runsL fa kk).reverse = sm at *
            have hsz := HB2.out.size
            clear HSUM HG
            go_wp2_with (fail)
            refine (missing_any fa kk _).mono ?_
            rintro e w3 ⟨v3, rfl, hown3, hb3⟩
            obtain ⟨A3, c3, rfl, hsl3⟩ := own_sl hown3
            have HB4 := Lib.hid (HB2.out.trans ((HB3.out.trans (hb3.mono hz3)).mono hsz))
            clear hown3 hsl3 hb3
            go_wp2_with (fail)
            go_ret
            exact ⟨ret_bool (by have := HS2.out; simp; omega), HB4.out⟩

/-! ### the row: written by program -/
set_option maxRecDepth 100000 in
theorem lifted (os : Os) (started : os.Started) (H : Type) (enc : TypeId × Value → H) :
    ReturnsInHanded {} Try.checked os 8 .any (Rows.bitsJoinSpec.pre6 enc Try.prog Try.f8 Rows.bitsJoinRow.domain false) (Rows.bitsJoinSpec.post enc Try.prog Try.f8 false true false false) := by
  refine returnsInHanded_of_change (C := Try.checked) Go.Proofs.Ytbnnfknkmelhaaa.lift.own started (by kernel_rfl) Try.func8
    (ChangeSpec.witness6 (enc := enc) (C := Try.checked) false ⟨#[], #[.slice none 0 0, .int .u8 0], []⟩ 8 (by kernel_rfl) (by kernel_rfl) (by kernel_rfl) (by kernel_rfl)) ?_
  intro W base args ds gs before hval0 hW hcnd _
  have hval : ∀ (j : Nat) t v, Try.f8.params[j]? = some t → args[j]? = some v → Value.okWide Try.prog W .any base t v := hval0
  have hW' := hW
  obtain ⟨p, q, hA0, hV, rfl, hfz, hnd⟩ := hW
  have hA : DataW.TrodAll enc Try.prog W 0 (fun _ => true) true Try.f8.params.toList args.toList ds p := hA0
  have hAk := hA
  rw [Try.params8] at hA hval
  obtain ⟨v0, vs0, d0, ds0, p0, q0, hargs, rfl, rfl, h0, r0⟩ := trodAll_cons hA
  obtain ⟨v1, vs1, d1, ds1, p1, q1, rfl, rfl, rfl, h1, r1⟩ := trodAll_cons r0
  obtain ⟨rfl, rfl, rfl⟩ := trodAll_nil r1
  obtain rfl : args = #[v0, v1] := by cases args; simp_all
  obtain ⟨rfl, rfl⟩ := trodVars_none hV
  have hlt := hW'.lt
  obtain ⟨A0, c0, z0, rfl, hm0, hs0, hz0⟩ := Go.Proofs.Ytbnnfknkmelhaaa.lift.arg_ints Try.underlying44 Try.underlying5 (by kernel_rfl) (hval 0 44 v0 rfl rfl) h0
  obtain ⟨a1, rfl, _, _, w1⟩ := open_int Try.underlying5 (hval 1 5 v1 rfl rfl) h1
  refine (walk W A0 c0 z0 hm0 hs0 hz0 a1 w1).mono fun e W' ⟨he, hg⟩ => ?_
  subst he
  exact ⟨_, rfl, Go.Proofs.Ytbnnfknkmelhaaa.base.postBelow (pv := []) hW' (fun _ _ _ => (trodAll_cons_mk (shut_bool Try.underlying4 _) trodAll_mk0)) (fun sp hsp => Go.Proofs.Ytbnnfknkmelhaaa.lift.args_stay Go.Proofs.Ytbnnfknkmelhaaa.lift.laidOut hg _ _ _ _ (by kernel_rfl) hAk (fun x hx => hlt x (by simpa using hx)) (fun x hx => hsp x (by simpa using hx))) (fun _ _ => rfl) (by simp)
    hg (ok_one (by kernel_rfl) rfl (okWide_bool_mk Try.underlying4 _))⟩

theorem over : Rows.bitsJoinRow.holds Try.pinned (OpenSpec.ofChange Rows.bitsJoinSpec) :=
  OpenClaim.holds_of_wide 8 Try.f8 rfl rfl rfl rfl rfl rfl rfl ⟨rfl, rfl, rfl, rfl, rfl⟩ rfl rfl rfl rfl rfl (by kernel_rfl) Try.func8 (by kernel_rfl)
    (of_decide_eq_true (by kernel_rfl)) (by unfold Func.isWrapper; first | (rw [if_pos (by decide +kernel)]; kernel_rfl) | (rw [if_neg (by decide +kernel)]; exact ⟨rfl, rfl⟩))
    (fun os started H enc _ => lifted os started H enc)

/-- THE STATEMENT -/
theorem proved : Rows.BitsJoinSaid :=
  over
#print axioms proved
end Go.Proofs.Ytbnnfknkmelhaaa.bitsJoin
