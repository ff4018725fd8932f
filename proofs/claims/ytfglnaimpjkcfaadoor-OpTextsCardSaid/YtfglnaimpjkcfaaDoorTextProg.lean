/-
  PROVED HERE: the program's texts of instructions: op.kinds, op.Text; strings.Cut at a space; op.digits.
  CONDITIONS: each lemma names its own.
-/
import Derived.Test.YtfglnaimpjkcfaaDoorTextRef
import Derived.Test.YtfglnaimpjkcfaaDoorTextKinds
import Derived.Lib.SmallJoins
import Derived.Lib.IndexLaws
import Derived.Lib.Bytealg
import Derived.Test.YtfglnaimpjkcfaaDoorShelf
import Derived.Shelf.Strings.SlTrimAscii
namespace Go.Proofs.YtfglnaimpjkcfaaDoor.text
set_option linter.unusedVariables false
open Go.RowKit Go.Proofs.YtfglnaimpjkcfaaDoor.base Go.Proofs.YtfglnaimpjkcfaaDoor.obj Go.Proofs.YtfglnaimpjkcfaaDoor.mem Go.Proofs.YtfglnaimpjkcfaaDoor.sep Go.Proofs.YtfglnaimpjkcfaaDoor.plan Go.Proofs.YtfglnaimpjkcfaaDoor.op

theorem idx_cases (t : ByteArray) : (Lib.indexByte t.data.toList 32 = -1 ∧ ∀ j : Nat, t.data.toList[j]? ≠ some 32) ∨ ∃ k : Nat, Lib.indexByte t.data.toList 32 = (k : Int) ∧ k < t.size ∧ t.data.toList[k]? = some 32 ∧ ∀ j : Nat, j < k → t.data.toList[j]? ≠ some 32 := by
  have h := Lib.indexByte_ge t.data.toList 32
  by_cases h1 : Lib.indexByte t.data.toList 32 = -1
  · exact .inl ⟨h1, Lib.indexByte_none h1⟩
  · obtain ⟨k, hk⟩ := Int.eq_ofNat_of_zero_le (show 0 ≤ Lib.indexByte t.data.toList 32 by omega)
    obtain ⟨h2, h3⟩ := Lib.indexByte_some hk
    refine .inr ⟨k, hk, ?_, h2, h3⟩
    have h4 := (List.getElem?_eq_some_iff.1 h2).1
    have h5 : t.data.toList.length = t.size := Array.length_toList
    omega
/-- what strings.Cut(t, " ") answers -/
def CutIs (t a b : ByteArray) (f : Bool) : Prop := (f = false ∧ a = t ∧ b = ⟨#[]⟩ ∧ ∀ j : Nat, t.data.toList[j]? ≠ some 32) ∨ ∃ k : Nat, f = true ∧ k < t.size ∧ t.data.toList[k]? = some 32 ∧ (∀ j : Nat, j < k → t.data.toList[j]? ≠ some 32) ∧ a = t.extract 0 k ∧ b = t.extract (k + 1) t.size
set_option maxRecDepth 100000 in
set_option maxHeartbeats 4000000 in
theorem cut_at (t : ByteArray) (ht : t.size ≤ 1000) (w : World) : Calls Tryd.prog 18 #[.string t, .string ⟨#[32]⟩] w fun e w' => ∃ a b f, e = .returned (.tuple #[.string a, .string b, .bool f]) ∧ CutIs t a b f ∧ Below w.heap.size w w' := by
  rcases idx_cases t with ⟨h1, h2⟩ | ⟨k, h1, h2, h3, h4⟩
  · have HI := Lib.hid (show ∀ w, Calls Tryd.prog 27 #[.string t, .string ⟨#[32]⟩] w fun e w' => e = .returned (.int .i64 (-1)) ∧ w' = w from fun w => by rw [← h1]; exact Tryd.stringslite_Index_one t 32 w)
    have H2 := Lib.hid h2
    clear h1 h2
    go_enter Tryd.func18, Tryd.ntmps18
    go_wp2_with (first | (go_at_call 27; refine (HI.out _).mono ?_; rintro e w' ⟨rfl, rfl⟩) | go_in)
    refine bodyPost_ret (v := .tuple #[.string t, .string ⟨#[]⟩, .bool false]) (by simp [results, Tryd.results18, go_sem]) rfl ?_
    exact ⟨_, _, _, rfl, .inl ⟨rfl, rfl, rfl, H2.out⟩, Below.refl _ _⟩
  · have HI := Lib.hid (show ∀ w, Calls Tryd.prog 27 #[.string t, .string ⟨#[32]⟩] w fun e w' => e = .returned (.int .i64 (k : Int)) ∧ w' = w from fun w => by rw [← h1]; exact Tryd.stringslite_Index_one t 32 w)
    have HC := Lib.hid (show CutIs t (t.extract 0 k) (t.extract (k + 1) t.size) true from .inr ⟨k, rfl, h2, h3, h4, rfl, rfl⟩)
    have i0 : (0 : Int) ≤ (k : Int) := by omega
    have i1 : (k : Int) ≤ (t.size : Int) := by omega
    have i2 : (k : Int) + 1 ≤ (t.size : Int) := by omega
    have i3 : (0 : Int) ≤ (k : Int) + 1 := by omega
    have i4 : (k : Int) ≥ 0 := by omega
    clear h1 h3 h4
    go_enter Tryd.func18, Tryd.ntmps18
    go_wp2_with (first | (go_at_call 27; refine (HI.out _).mono ?_; rintro e w' ⟨rfl, rfl⟩) | go_in)
    go_region
    all_goals
      go_wp2_with (fail)
      refine bodyPost_ret (v := .tuple #[.string (t.extract 0 k), .string (t.extract (k + 1) t.size), .bool true]) (by simp [results, Tryd.results18, go_sem]) rfl ?_
      exact ⟨_, _, _, rfl, HC.out, (Below.refl _ _).drew⟩

/-! ### op.Text -/
set_option maxRecDepth 100000 in
set_option maxHeartbeats 4000000 in
theorem text_no (o a : Int) (hr : right o a = false) (w : World) : Calls Tryd.prog 5 #[.agg #[.int .i64 o, .int .i64 a]] w fun e w' => e = .returned (.tuple #[.string ⟨#[]⟩, .bool false]) ∧ Below w.heap.size w w' := by
  have HR := Lib.hid (show ∀ w, Calls Tryd.prog 12 #[.agg #[.int .i64 o, .int .i64 a]] w fun e w' => e = .returned (.bool false) ∧ Below w.heap.size w w' from fun w => by rw [← hr]; exact right_any o a w)
  have HB0 := Lib.hid ((Below.refl w.heap.size w).alloc (Nat.le_refl _) (.cells #[.int .i64 o, .int .i64 a] 23))
  clear hr
  go_enter Tryd.func5, Tryd.ntmps5
  go_wp2_with (fail)
  refine (HR.out _).mono ?_
  rintro e w2 ⟨rfl, hb⟩
  have HB2 := Lib.hid (HB0.out.trans (hb.mono HB0.out.size))
  clear hb
  go_wp2_with (fail)
  refine bodyPost_ret (v := .tuple #[.string ⟨#[]⟩, .bool false]) (by simp [results, Tryd.results5, go_sem]) rfl ?_
  exact ⟨rfl, HB2.out⟩

theorem below_grow (w : World) (k : Nat) (os : Array Obj) : Below w.heap.size w (Go.Sort.grow (w.drewN k) os) :=
  ⟨rfl, rfl, rfl, by simp [Go.Sort.grow], fun i hi => by simp [Go.Sort.grow, Array.getElem?_append_left hi]⟩
theorem dg_eq (j : Nat) (h : j < 10) : dg j = ⟨#[UInt8.ofNat (48 + j)]⟩ := by
  rcases (by omega : j = 0 ∨ j = 1 ∨ j = 2 ∨ j = 3 ∨ j = 4 ∨ j = 5 ∨ j = 6 ∨ j = 7 ∨ j = 8 ∨ j = 9) with rfl | rfl | rfl | rfl | rfl | rfl | rfl | rfl | rfl | rfl <;> rfl
theorem itoa_dec : ∀ n : Nat, n < 256 → (⟨(Lib.itoa (n : Int)).toArray⟩ : ByteArray) = decB n := by
  intro n hn
  have h0 : Lib.itoa (n : Int) = Lib.decDigits n := by
    unfold Lib.itoa
    rw [if_neg (by omega), Int.toNat_natCast]
  rw [h0]
  unfold decB
  by_cases h1 : n < 10
  · rw [if_pos h1, dg_eq _ (by omega), Lib.decDigits, dif_pos h1, Nat.mod_eq_of_lt h1]
  · by_cases h2 : n < 100
    · rw [if_neg h1, if_pos h2, dg_eq _ (by omega), dg_eq _ (by omega), Lib.decDigits, dif_neg h1, Lib.decDigits, dif_pos (by omega), Nat.mod_eq_of_lt (show n / 10 < 10 by omega)]
      apply ByteArray.ext
      simp
    · rw [if_neg h1, if_neg h2, dg_eq _ (by omega), dg_eq _ (by omega), dg_eq _ (by omega), Lib.decDigits, dif_neg h1, Lib.decDigits, dif_neg (by omega), Lib.decDigits, dif_pos (by omega), show n / 10 / 10 = n / 100 by omega]
      apply ByteArray.ext
      simp
theorem tab_over {w w' : World} (h : Lib.TabIs Tryd.prog w "internal/strconv.uint64pow10" .u64 Lib.pow10Tab) (hb : Below w.heap.size w w') : Lib.TabIs Tryd.prog w' "internal/strconv.uint64pow10" .u64 Lib.pow10Tab :=
  Go.Joins.tab_stays (show Tryd.prog.globalNamed "internal/strconv.uint64pow10" = some 1 by kernel_rfl) h hb (Nat.le_refl _)
set_option maxRecDepth 100000 in
set_option maxHeartbeats 8000000 in
theorem text_yes (o a : Int) (hr : right o a = true) (w : World) (htab : Lib.TabIs Tryd.prog w "internal/strconv.uint64pow10" .u64 Lib.pow10Tab) : Calls Tryd.prog 5 #[.agg #[.int .i64 o, .int .i64 a]] w fun e w' => e = .returned (.tuple #[.string (txtB o a), .bool true]) ∧ Below w.heap.size w w' := by
  have HR := Lib.hid (show ∀ w, Calls Tryd.prog 12 #[.agg #[.int .i64 o, .int .i64 a]] w fun e w' => e = .returned (.bool true) ∧ Below w.heap.size w w' from fun w => by rw [← hr]; exact right_any o a w)
  obtain ⟨o0, o1, a0, a1⟩ := right_yes hr
  obtain ⟨k, rfl⟩ := Int.eq_ofNat_of_zero_le o0
  obtain ⟨b, rfl⟩ := Int.eq_ofNat_of_zero_le a0
  have hk : k < 19 := by omega
  have HT := Lib.hid (show txtB (k : Int) (b : Int) = if hasArg (k : Int) = true then nmB k ++ ⟨#[32]⟩ ++ decB b else nmB k by unfold txtB; simp)
  have z1 := nmB_size k hk
  have z2 := dec_size b (by omega)
  have n1 : ¬ 9223372036854775807 < (nmB k).size + 1 := by omega
  have n2 : ¬ 9223372036854775807 < (nmB k).size + 1 + (decB b).size := by omega
  have HTAB := Lib.hid htab
  have HIT := Lib.hid (show ∀ w2, Below w.heap.size w w2 → Calls Tryd.prog 14 #[.int .i64 (b : Int)] w2 fun e w' => e = .returned (.string (decB b)) ∧ Below w2.heap.size w2 w' from fun w2 hb => (Tryd.strconv_Itoa (b : Int) (by omega) (by omega) w2 (tab_over htab hb)).mono fun e w' h => ⟨by rw [h.1, itoa_dec b (by omega)], by obtain ⟨_, kk, os, rfl⟩ := h; exact below_grow _ _ _⟩)
  have HKN := Lib.hid (fun w2 => kinds_at w2)
  have hix := fun w2 => knds_at k hk w2
  have HB0 := Lib.hid ((Below.refl w.heap.size w).alloc (Nat.le_refl _) (.cells #[.int .i64 k, .int .i64 b] 23))
  have H0 := Lib.hid ((St.nil w).new 23 #[.int .i64 k, .int .i64 b])
  clear hr htab o1 a1
  obtain ⟨ha, hha⟩ : ∃ ha, ha = hasArg (k : Int) := ⟨_, rfl⟩
  rw [← hha] at HT hix
  clear hha
  go_enter Tryd.func5, Tryd.ntmps5
  go_wp2_with (fail)
  refine (HR.out _).mono ?_
  rintro e w2 ⟨rfl, hb⟩
  have H2 := Lib.hid (H0.out.below hb)
  obtain ⟨X, hX⟩ : ∃ X, X = w.heap.size := ⟨_, rfl⟩
  rw [← hX] at H2
  have HX := Lib.hid hX
  clear hb hX
  have p1 : w2.cell? ⟨X, 0, none⟩ = some (.int .i64 k) := H2.out.row.1.cell 0
  have lx : X < w2.heap.size := H2.out.row.1.lt
  go_upto_region 3 with fail
  rw [← HX.out]
  go_cut [4] (fun s wc => ∃ B, s = .pointer (some ⟨B, 0, none⟩) ∧ St w wc [row B 41 [.string (nmB k), .bool ha], row X 23 [.int .i64 k, .int .i64 b]])
  case first =>
    go_region_law (go_simp; (with_reducible refine (HKN.out _).mono ?_); rintro e w5 ⟨rfl, hb⟩; have HB5 := Lib.hid hb; have q1 : w5.cell? ⟨X, 0, none⟩ = some (.int .i64 k) := (by refine cell_below hb ?_; first | exact p1 | go_simp); have lx5 : X < w5.heap.size := World.block_lt_of_cell? w5 _ q1; (try (have q5 : Row w5 w2.heap.size 41 [.string ⟨#[]⟩, .bool false] := Row.below (Row.drew (Row.new w2 41 #[.string ⟨#[]⟩, .bool false])) hb (by simp); have q3 : w5.cell? ⟨w2.heap.size, 0, none⟩ = some (.string ⟨#[]⟩) := q5.cell 0; have q4 : w5.cell? ⟨w2.heap.size, 1, none⟩ = some (.bool false) := q5.cell 1; have f3 := q5.frozen 0; have f4 := q5.frozen 1; have l5 := q5.lt; have HQ5 := Lib.hid q5; clear q5)); (first | (have H5 := Lib.hid (((H2.out.new 41 #[.string ⟨#[]⟩, .bool false]).drew).below hb)) | (have H5 := Lib.hid (H2.out.drew.below hb))); clear hb; dsimp only)
    all_goals
      go_wp2_with (fail)
      go_meet
      first
        | exact ⟨_, rfl, H5.out.new 41 #[.string (nmB k), .bool ha]⟩
        | exact ⟨_, rfl, (H5.out.set 0 (.string (nmB k))).set 1 (.bool ha)⟩
  case rest =>
    obtain ⟨B, rfl, hst⟩ := hcut
    have H6 := Lib.hid hst
    clear hst p1 lx
    have b0 : wc.cell? ⟨B, 0, none⟩ = some (.string (nmB k)) := H6.out.row.1.cell 0
    have b1 : wc.cell? ⟨B, 1, none⟩ = some (.bool ha) := H6.out.row.1.cell 1
    have lB : B < wc.heap.size := H6.out.row.1.lt
    have x1 : wc.cell? ⟨X, 1, none⟩ = some (.int .i64 b) := (H6.out.pick 1 rfl).row.1.cell 1
    have lX : X < wc.heap.size := (H6.out.pick 1 rfl).row.1.lt
    cases ha with
    | false =>
      go_wp2_with (fail)
      refine bodyPost_ret (v := .tuple #[.string (nmB k), .bool true]) (by simp [results, Tryd.results5, go_sem]) rfl ?_
      exact ⟨by rw [HT.out]; first | rfl | simp, H6.out.bel⟩
    | true =>
      go_upto_region 6 with fail
      go_region_law (go_simp; (with_reducible refine (HIT.out _ (by first | exact H6.out.bel.drew | exact H6.out.bel)).mono ?_); rintro e w7 ⟨rfl, hb⟩; have H7 := Lib.hid ((by first | exact H6.out.drew.below hb | exact H6.out.below hb : St w w7 [row B 41 [.string (nmB k), .bool true], row X 23 [.int .i64 k, .int .i64 b]])); have c0 : w7.cell? ⟨B, 0, none⟩ = some (.string (nmB k)) := H7.out.row.1.cell 0; have lB7 : B < w7.heap.size := H7.out.row.1.lt; clear hb; dsimp only)
      all_goals
        go_wp2_with (fail)
        refine bodyPost_ret (v := .tuple #[.string (nmB k ++ ⟨#[32]⟩ ++ decB b), .bool true]) (by simp [results, Tryd.results5, go_sem]) rfl ?_
        exact ⟨by rw [HT.out]; first | rfl | simp, H7.out.bel⟩
end Go.Proofs.YtfglnaimpjkcfaaDoor.text
