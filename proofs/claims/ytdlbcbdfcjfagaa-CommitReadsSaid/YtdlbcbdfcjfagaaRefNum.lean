/-
  PROVED HERE: the document's bytes of a number.
  CONDITIONS: one to six bytes.
-/
import Derived.Test.YtdlbcbdfcjfagaaNumMath
import Derived.Test.YtdlbcbdfcjfagaaEqual
namespace Go.Proofs.Ytdlbcbdfcjfagaa.refNum
set_option linter.unusedVariables false
open Go.RowKit Go.Proofs.Ytdlbcbdfcjfagaa.base Go.Proofs.Ytdlbcbdfcjfagaa.obj Go.Proofs.Ytdlbcbdfcjfagaa.mem Go.Proofs.Ytdlbcbdfcjfagaa.crc Go.Proofs.Ytdlbcbdfcjfagaa.num Go.Proofs.Ytdlbcbdfcjfagaa.bytes

theorem width_at (w : World) (k : Nat) (h1 : 1 ≤ k) (h2 : k ≤ 6) : Calls Try.prog 82 #[.int .i64 k] w fun e w' => e = .returned (.int .i64 k) ∧ w' = w := by
  have a : ¬ (k : Int) < 1 := by omega
  have b : ¬ (k : Int) > 6 := by omega
  go_enter Try.func82, Try.ntmps82
  go_wp2_with (fail)
  go_ret
  exact ⟨rfl, rfl⟩

/-- behind j digits from the last one -/
def putL (k m j : Nat) : List Int := List.replicate (k - j) 0 ++ (be k m).drop (k - j)
theorem putL_zero (k m : Nat) : putL k m 0 = List.replicate k 0 := by
  unfold putL
  rw [Nat.sub_zero, List.drop_of_length_le (by rw [be_length]; exact Nat.le_refl _), List.append_nil]
theorem putL_all (k m : Nat) : putL k m k = be k m := by simp [putL]
theorem putL_length (k m j : Nat) (h : j ≤ k) : (putL k m j).length = k := by simp [putL, be_length]
theorem putL_set (k m j : Nat) (h : j < k) : (putL k m j).set (k - 1 - j) (((m / 256 ^ j % 256 : Nat)) : Int) = putL k m (j + 1) := by
  unfold putL
  have e1 : k - j = (k - (j + 1)) + 1 := by omega
  have e2 : (List.replicate (k - j) (0 : Int)).set (k - 1 - j) (((m / 256 ^ j % 256 : Nat)) : Int) = List.replicate (k - (j + 1)) 0 ++ [(((m / 256 ^ j % 256 : Nat)) : Int)] := by
    rw [e1, List.replicate_succ', show k - 1 - j = k - (j + 1) by omega, List.set_append_right _ _ (by simp)]
    simp
  rw [List.set_append_left _ _ (by simp; omega), e2, List.append_assoc]
  congr 1
  have hl : k - (j + 1) < (be k m).length := by rw [be_length]; omega
  rw [List.drop_eq_getElem_cons hl, ← e1]
  simp only [be, List.getElem_map, List.getElem_range, digit, List.singleton_append]
  rw [show k - 1 - (k - (j + 1)) = j by omega]
/-- all of it at its greatest -/
theorem be_most (k : Nat) : be k (256 ^ k - 1) = List.replicate k 255 := by
  apply List.ext_getElem
  · simp [be]
  · intro i h1 h2
    have hi : i < k := by simpa [be] using h1
    simp only [be, List.getElem_map, List.getElem_range, List.getElem_replicate, digit]
    have h3 : 0 < 256 ^ (k - 1 - i) := Nat.pow_pos (by decide)
    have h4 : 256 ^ k = 256 ^ (k - 1 - i) * 256 ^ (i + 1) := by rw [← Nat.pow_add, show k - 1 - i + (i + 1) = k by omega]
    have h5 : (256 ^ k - 1) / 256 ^ (k - 1 - i) = 256 ^ (i + 1) - 1 := by
      rw [h4, Nat.mul_comm]
      generalize 256 ^ (k - 1 - i) = a at *
      generalize hb : 256 ^ (i + 1) = b at *
      have hb0 : 0 < b := by rw [← hb]; exact Nat.pow_pos (by decide)
      obtain ⟨b', rfl⟩ : ∃ b', b = b' + 1 := ⟨b - 1, by omega⟩
      rw [Nat.add_mul, Nat.one_mul, Nat.add_sub_assoc h3, Nat.mul_comm, Nat.mul_add_div h3, Nat.div_eq_of_lt (by omega)]
      simp
    rw [h5, Nat.pow_succ]
    have h6 : 0 < 256 ^ i := Nat.pow_pos (by decide)
    omega

theorem mapset (l : List Int) (i : Nat) (z : Int) : (l.map (Value.int .u8)).set i (.int .u8 z) = (l.set i z).map (.int .u8) := by rw [List.map_set]

set_option maxRecDepth 100000 in
set_option maxHeartbeats 2000000 in
theorem put_at (w : World) (n : Int) (hn : n ≤ 9223372036854775807) (k : Nat) (hk1 : 1 ≤ k) (hk2 : k ≤ 6) :
    Calls Try.prog 52 #[.int .i64 n, .int .i64 k] w fun e w' => ∃ g, e = .returned (.slice (some ⟨g, 0, none⟩) k k) ∧ w.heap.size ≤ g ∧ Row w' g 5 ((be k (heldN k n)).map (.int .u8)) ∧ Below w.heap.size w w' := by
  have hmk := make_eq k (by omega)
  have HR0 := Lib.hid (show Row (w.alloc (.cells (List.replicate k (Value.int .u8 0)).toArray 5)) w.heap.size 5 ((List.replicate k (0 : Int)).map (.int .u8)) by
    have h := Row.new w 5 (List.replicate k (Value.int .u8 0)).toArray
    rwa [show (List.replicate k (Value.int .u8 0)).toArray.toList = (List.replicate k (0 : Int)).map (.int .u8) by simp] at h)
  have HB0 := Lib.hid ((Below.refl w.heap.size w).alloc (Nat.le_refl _) (.cells (List.replicate k (Value.int .u8 0)).toArray 5))
  by_cases h0 : n < 0
  · have HE := Lib.hid (show be k (heldN k n) = List.replicate k 0 by
      unfold heldN
      rw [if_pos h0]
      apply List.ext_getElem <;> simp [be, digit])
    go_enter Try.func52, Try.ntmps52
    go_wp2_with (fail)
    refine (width_at _ k hk1 hk2).mono ?_; rintro e w' ⟨rfl, rfl⟩
    go_wp2_with (fail)
    go_ret
    exact ⟨w'.heap.size, rfl, Nat.le_refl _, by rw [HE.out]; simpa using HR0.out, by simpa using HB0.out⟩
  · obtain ⟨m, rfl⟩ := Int.eq_ofNat_of_zero_le (show 0 ≤ n by omega)
    have HM := Lib.hid hn
    clear hn h0
    have h0 : ¬ (m : Int) < 0 := by omega
    go_enter Try.func52, Try.ntmps52
    go_wp2_with (fail)
    refine (width_at _ k hk1 hk2).mono ?_; rintro e w' ⟨rfl, rfl⟩
    go_wp2_with (fail)
    go_loopw [6, 0] (fun i s wr => ∃ j : Nat, j ≤ k ∧ i = .int .i64 ((k : Int) - 1 - j) ∧ s = .int .i64 (m / 256 ^ j : Nat) ∧ Row wr w'.heap.size 5 ((putL k m j).map (.int .u8)) ∧ Below w'.heap.size w' wr) (fun i _ _ => (intOf i + 1).toNat)
    case atStart => exact ⟨0, by omega, by simp, by simp, by rw [putL_zero]; simpa using HR0.out, by simpa using HB0.out⟩
    case round =>
      obtain ⟨j, hj, rfl, rfl, hr, hb⟩ := hrel
      have HR := Lib.hid hr; have HB := Lib.hid hb
      clear hr hb
      have hq : m / 256 ^ j ≤ 9223372036854775807 := Nat.le_trans (Nat.div_le_self _ _) (by have := HM.out; omega)
      have HD := Lib.hid (show m / 256 ^ (j + 1) = m / 256 ^ j / 256 by rw [Nat.pow_succ, Nat.div_div_eq_div_mul])
      by_cases hlt : j < k
      · have HS := Lib.hid (putL_set k m j hlt)
        generalize hqq : m / 256 ^ j = q at *
        have HQ := Lib.hid hqq
        clear hqq
        have hg : (k : Int) - 1 - j = ((k - 1 - j : Nat) : Int) := by omega
        rw [hg]
        obtain ⟨v0, hv0⟩ : ∃ v, ((putL k m j).map (Value.int .u8))[k - 1 - j]? = some v := ⟨_, List.getElem?_eq_getElem (by simp [putL_length k m j hj]; omega)⟩
        have hc := (HR.out.cell (k - 1 - j)).trans hv0
        clear hv0
        have hf := HR.out.frozen (k - 1 - j)
        have hl := HR.out.lt
        have ht : ((k - 1 - j : Nat) : Int) < (k : Int) := by omega
        have ht0 : (0 : Int) ≤ ((k - 1 - j : Nat) : Int) := by omega
        have HG := Lib.hid hg
        generalize k - 1 - j = t at *
        clear hg
        go_wp2_with (fail)
        go_roundw
        case rel => refine ⟨j + 1, by omega, by rw [show (t : Int) - 1 = (k : Int) - 1 - (j + 1 : Nat) by have := HG.out; omega], by rw [HD.out]; go_num, by rw [← HS.out, ← mapset]; exact HR.out.setCell t _, HB.out.setCell (p := ⟨w'.heap.size, t, none⟩) (Nat.le_refl _) _⟩
        case measure => simp [intOf] <;> omega
      · have hjk : j = k := by omega
        have hlt' : ¬ (k : Int) - 1 - j ≥ 0 := by omega
        have HJ := Lib.hid hjk
        by_cases hbig : 256 ^ k ≤ m
        · have hq1 : 0 < m / 256 ^ j := by rw [hjk]; exact Nat.div_pos hbig (Nat.pow_pos (by decide))
          have HE := Lib.hid (show be k (heldN k (m : Int)) = List.replicate k 255 by
            unfold heldN
            rw [if_neg (by omega), if_pos (by simpa using hbig), be_most])
          have hq1' : (0 : Int) < ((m / 256 ^ j : Nat) : Int) := by omega
          have HRR := Lib.hid (show Row wr w'.heap.size 5 ((List.replicate 0 (255 : Int) ++ (be k m)).map (.int .u8)) by
            have h := HR.out
            rw [HJ.out, putL_all] at h
            exact h)
          generalize m / 256 ^ j = q at *
          clear hjk hbig hq1
          go_wp2_with (fail)
          go_loopw [7] (fun i wx => ∃ t : Nat, t ≤ k ∧ i = .int .i64 t ∧ Row wx w'.heap.size 5 ((List.replicate t (255 : Int) ++ (be k m).drop t).map (.int .u8)) ∧ Below w'.heap.size w' wx) (fun i _ => k - (intOf i).toNat)
          case atStart => exact ⟨0, by omega, rfl, HRR.out, HB.out⟩
          case round =>
            obtain ⟨t, ht, rfl, hr, hb⟩ := hrel
            have HR2 := Lib.hid hr; have HB2 := Lib.hid hb
            clear hr hb
            by_cases htk : t < k
            · obtain ⟨v0, hv0⟩ : ∃ v, ((List.replicate t (255 : Int) ++ (be k m).drop t).map (Value.int .u8))[t]? = some v := ⟨_, List.getElem?_eq_getElem (by simp [be_length]; omega)⟩
              have hc := (HR2.out.cell t).trans hv0
              clear hv0
              have hf := HR2.out.frozen t
              have hl := HR2.out.lt
              have ht1 : (t : Int) < (k : Int) := by omega
              have ht0 : (0 : Int) ≤ (t : Int) := by omega
              have HS := Lib.hid (show (List.replicate t (255 : Int) ++ (be k m).drop t).set t 255 = List.replicate (t + 1) 255 ++ (be k m).drop (t + 1) by
                rw [List.set_append_right _ _ (by simp), List.drop_eq_getElem_cons (l := be k m) (i := t) (by rw [be_length]; exact htk), List.replicate_succ', List.append_assoc]
                simp only [List.length_replicate, Nat.sub_self, List.set_cons_zero, List.singleton_append])
              go_wp2_with (fail)
              go_roundw
              case rel => exact ⟨t + 1, by omega, by go_num, by rw [← HS.out, ← mapset]; exact HR2.out.setCell t _, HB2.out.setCell (p := ⟨w'.heap.size, t, none⟩) (Nat.le_refl _) _⟩
              case measure => simp [intOf] <;> omega
            · have htk2 : t = k := by omega
              have htk' : ¬ (t : Int) < (k : Int) := by omega
              have HT := Lib.hid htk2
              clear htk2
              go_wp2_with (fail)
              go_ret
              refine ⟨w'.heap.size, rfl, Nat.le_refl _, ?_, HB2.out⟩
              have h := HR2.out
              rw [HT.out, List.drop_of_length_le (by rw [be_length]; exact Nat.le_refl _), List.append_nil] at h
              rw [HE.out]
              exact h
        · have hq0 : m / 256 ^ j = 0 := by rw [hjk]; exact Nat.div_eq_of_lt (by omega)
          have HE := Lib.hid (show be k (heldN k (m : Int)) = putL k m j by rw [heldN_in k m (by omega), hjk, putL_all])
          rw [hq0]
          clear hjk hbig hq0
          go_wp2_with (fail)
          go_ret
          exact ⟨w'.heap.size, rfl, Nat.le_refl _, by rw [HE.out]; exact HR.out, HB.out⟩
end Go.Proofs.Ytdlbcbdfcjfagaa.refNum
