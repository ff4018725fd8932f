/-
  PROVED HERE: for every byte and number n, longeronlaw07.RecordZeros(by, n) returns true and leaves memory as it was.
  CONDITIONS: none.
-/
import Derived.Test.YtdlbcbdfcjfagaaArgRec
namespace Go.Proofs.Ytdlbcbdfcjfagaa.recordZeros
set_option linter.unusedVariables false
open Go.RowKit Go.ChangeShapes Go.WideShapes Go.ChangeAt Go.Deep Go.Joins Go.Proofs.Ytdlbcbdfcjfagaa.base Go.Proofs.Ytdlbcbdfcjfagaa.obj Go.Proofs.Ytdlbcbdfcjfagaa.mem Go.Proofs.Ytdlbcbdfcjfagaa.crc Go.Proofs.Ytdlbcbdfcjfagaa.num Go.Proofs.Ytdlbcbdfcjfagaa.bytes Go.Proofs.Ytdlbcbdfcjfagaa.record Go.Proofs.Ytdlbcbdfcjfagaa.same

theorem u8_in {z : Int} (h : (Lit.int .u8 z).wf = true) : 0 ≤ z ∧ z ≤ 255 := by
  have h1 : IntKind.u8.min = 0 := rfl
  have h2 : IntKind.u8.max = 255 := rfl
  simp only [Lit.wf, Bool.and_eq_true, decide_eq_true_eq] at h
  omega
/-- k bytes of z, then zeros -/
def part (z : Int) (n k : Nat) : List Int := List.replicate k z ++ List.replicate (n - k) 0
theorem part_length (z : Int) (n k : Nat) (h : k ≤ n) : (part z n k).length = n := by simp [part]; omega
theorem part_set (z : Int) (n k : Nat) (h : k < n) : (part z n k).set k z = part z n (k + 1) := by
  unfold part
  rw [List.set_append_right _ _ (by simp), List.length_replicate, Nat.sub_self, show n - k = (n - (k + 1)) + 1 by omega, List.replicate_succ, List.set_cons_zero, List.replicate_succ', List.append_assoc]
  rfl
/-- what is told of them -/
def want (n : Nat) : Int := if n = 64 then 2 else 14
theorem get_same (z : Int) (n : Nat) (hz : 0 ≤ z ∧ z ≤ 255) : getRec (List.replicate n z) = (Rec.zero, want n) ∧ getStg (List.replicate n z) = (Stg.zero, want n) := by
  unfold getRec getStg want
  rw [List.length_replicate]
  by_cases h : n = 64
  · subst h
    rw [if_pos rfl, if_pos rfl, if_pos rfl, open_same 19523 11 z hz (.inl rfl), open_same 19539 8 z hz (.inr rfl)]
    exact ⟨rfl, rfl⟩
  · rw [if_neg h, if_neg h, if_neg h]
    exact ⟨rfl, rfl⟩

set_option maxRecDepth 100000 in
set_option maxHeartbeats 4000000 in
theorem walk (w : World) (by_ : Int) (hby : (Lit.int .u8 by_).wf = true) (n : Int) (hn : (Lit.int .u8 n).wf = true) : Calls Try.prog 6 #[.int .u8 by_, .int .u8 n] w fun e w' => e = .returned (.bool true) ∧ Below w.heap.size w w' := by
  have b0 := (u8_in hby).1
  have b1 := (u8_in hby).2
  have n0 := (u8_in hn).1
  have n1 := (u8_in hn).2
  clear hby hn
  obtain ⟨n, rfl⟩ := Int.eq_ofNat_of_zero_le n0
  have hmk := make_eq n (by omega)
  have HG := Lib.hid (get_same by_ n ⟨b0, b1⟩)
  have HBT := Lib.hid (show Byt (List.replicate n by_) from fun x hx => by rw [List.eq_of_mem_replicate hx]; exact ⟨b0, b1⟩)
  go_enter Try.func6, Try.ntmps6
  go_wp2_with (fail)
  refine (wakes _).mono ?_
  rintro e w1 ⟨rfl, hb⟩
  have HB1 := Lib.hid hb
  have HR2 := Lib.hid (show Row (w1.alloc (.cells (List.replicate n (Value.int .u8 0)).toArray 5)) w1.heap.size 5 ((part by_ n 0).map (.int .u8)) by
    have h := Row.new w1 5 (List.replicate n (Value.int .u8 0)).toArray
    rwa [show (List.replicate n (Value.int .u8 0)).toArray.toList = (part by_ n 0).map (.int .u8) by simp [part]] at h)
  have HB2 := Lib.hid (HB1.out.alloc HB1.out.size (.cells (List.replicate n (Value.int .u8 0)).toArray 5))
  have HLE := Lib.hid HB1.out.size
  clear hb
  go_wp2_with (fail)
  go_loopw [19] (fun i wr => ∃ k : Nat, k ≤ n ∧ i = .int .i64 k ∧ Row wr w1.heap.size 5 ((part by_ n k).map (.int .u8)) ∧ Below w.heap.size w wr) (fun i _ => n - (intOf i).toNat)
  case atStart => exact ⟨0, by omega, rfl, by simpa using HR2.out, by simpa using HB2.out⟩
  case round =>
    obtain ⟨k, hk, rfl, hr, hb⟩ := hrel
    have HR := Lib.hid hr; have HB := Lib.hid hb
    clear hr hb
    by_cases hlt : k < n
    · obtain ⟨v0, hv0⟩ : ∃ v, ((part by_ n k).map (Value.int .u8))[k]? = some v := ⟨_, List.getElem?_eq_getElem (by rw [List.length_map, part_length by_ n k hk]; exact hlt)⟩
      have hc := (HR.out.cell k).trans hv0
      have hf := HR.out.frozen k
      have hl := HR.out.lt
      have hlt' : (k : Int) < (n : Int) := by omega
      have hk0 : (0 : Int) ≤ (k : Int) := by omega
      clear hv0
      go_wp2_with (fail)
      go_roundw
      case rel => exact ⟨k + 1, by omega, by go_num, by rw [← part_set by_ n k hlt, ← refNum.mapset]; exact HR.out.setCell k _, HB.out.setCell (p := ⟨w1.heap.size, k, none⟩) HLE.out _⟩
      case measure => simp [intOf] <;> omega
    · have hkn : k = n := by omega
      have hlt' : ¬ (k : Int) < (n : Int) := by omega
      have HRN := Lib.hid (show Row wr w1.heap.size 5 ((List.replicate n by_).map (.int .u8)) by
        have h := HR.out
        rw [hkn] at h
        simpa [part] using h)
      clear hkn
      have HZV := Lib.hid (show Rec.zero.val = .agg #[.int .i64 0, .int .i64 0, .int .i64 0, .int .i64 0, .int .i64 0, .int .i64 0] from rfl)
      have HSV := Lib.hid (show Stg.zero.val = .agg #[.int .i64 0, .int .i64 0, .int .i64 0] from rfl)
      go_wp2_with (fail)
      refine (record.get_at _ (some ⟨w1.heap.size, 0, none⟩) n n (List.replicate n by_) (by simp) (Nat.le_refl _) HBT.out (byte_sl HRN.out (by simp))).mono ?_
      rintro e w4 ⟨rfl, hb⟩
      rw [HG.out.1]
      have HB4 := Lib.hid (HB.out.trans (hb.mono HB.out.size))
      have HR4 := Lib.hid (HRN.out.below hb HRN.out.lt)
      clear hb
      dsimp only
      rw [HZV.out]
      obtain ⟨w5, hw5⟩ : ∃ w5, w5 = w4.alloc (.cells #[.int .i64 0, .int .i64 0, .int .i64 0, .int .i64 0, .int .i64 0, .int .i64 0] 23) := ⟨_, rfl⟩
      have HX5 := Lib.hid (show Row w5 w4.heap.size 23 Rec.zero.cells.toList by rw [hw5]; exact Row.new w4 _ _)
      have HB5 := Lib.hid (show Below w.heap.size w w5 by rw [hw5]; exact HB4.out.alloc HB4.out.size _)
      have HR5 := Lib.hid (show Row w5 w1.heap.size 5 ((List.replicate n by_).map (.int .u8)) by rw [hw5]; exact HR4.out.alloc _)
      have HW := Lib.hid hw5
      clear hw5
      go_wp2_with (fail)
      rw [← HW.out]
      refine (record.getStage_at _ (some ⟨w1.heap.size, 0, none⟩) n n (List.replicate n by_) (by simp) (Nat.le_refl _) HBT.out (byte_sl HR5.out (by simp))).mono ?_
      rintro e w6 ⟨rfl, hb⟩
      rw [HG.out.2]
      have HB6 := Lib.hid (HB5.out.trans (hb.mono HB5.out.size))
      have HX6 := Lib.hid (HX5.out.below hb HX5.out.lt)
      obtain ⟨q0, q1, q2, q3, q4, q5⟩ := Rec.read HX6.out
      have l1 := HX6.out.lt
      clear hb
      dsimp only
      rw [HSV.out]
      have hwant : want n = if n = 64 then 2 else 14 := rfl
      by_cases h64 : n = 64
      · rw [if_pos h64] at hwant
        rw [hwant]
        have e1 : ((n : Int) != 64) = false := by simp; omega
        have e2 : (n != 64) = false := by simp [h64]
        clear h64 hwant
        go_wp2_with (fail)
        go_ret
        exact ⟨by simp, HB6.out.alloc HB6.out.size _⟩
      · rw [if_neg h64] at hwant
        rw [hwant]
        have e1 : ((n : Int) != 64) = true := by simp; omega
        have e2 : (n != 64) = true := by simp [h64]
        clear h64 hwant
        go_wp2_with (fail)
        go_ret
        exact ⟨by simp, HB6.out.alloc HB6.out.size _⟩

/-! ### the row: written by program -/
set_option maxRecDepth 100000 in
theorem lifted (os : Os) (started : os.Started) (H : Type) (enc : TypeId × Value → H) :
    ReturnsInHanded {} Try.checked os 6 .any (Rows.recordZerosSpec.pre6 enc Try.prog Try.f6 Rows.recordZerosRow.domain false) (Rows.recordZerosSpec.post enc Try.prog Try.f6 false true false false) := by
  refine returnsInHanded_of_change (C := Try.checked) Go.Proofs.Ytdlbcbdfcjfagaa.lift.own started (by kernel_rfl) Try.func6
    (ChangeSpec.witness6 (enc := enc) (C := Try.checked) false ⟨#[], #[.int .u8 0, .int .u8 0], []⟩ 8 (by kernel_rfl) (by kernel_rfl) (by kernel_rfl) (by kernel_rfl)) ?_
  intro W base args ds gs before hval0 hW hcnd _
  have hval : ∀ (j : Nat) t v, Try.f6.params[j]? = some t → args[j]? = some v → Value.okWide Try.prog W .any base t v := hval0
  have hW' := hW
  obtain ⟨p, q, hA0, hV, rfl, hfz, hnd⟩ := hW
  have hA : DataW.TrodAll enc Try.prog W 0 (fun _ => true) true Try.f6.params.toList args.toList ds p := hA0
  have hAk := hA
  rw [Try.params6] at hA hval
  obtain ⟨v0, vs0, d0, ds0, p0, q0, hargs, rfl, rfl, h0, r0⟩ := trodAll_cons hA
  obtain ⟨v1, vs1, d1, ds1, p1, q1, rfl, rfl, rfl, h1, r1⟩ := trodAll_cons r0
  obtain ⟨rfl, rfl, rfl⟩ := trodAll_nil r1
  obtain rfl : args = #[v0, v1] := by cases args; simp_all
  obtain ⟨rfl, rfl⟩ := trodVars_none hV
  have hlt := hW'.lt
  obtain ⟨a0, rfl, _, _, w0⟩ := open_int Try.underlying5 (hval 0 5 v0 rfl rfl) h0
  obtain ⟨a1, rfl, _, _, w1⟩ := open_int Try.underlying5 (hval 1 5 v1 rfl rfl) h1
  refine (walk W a0 w0 a1 w1).mono fun e W' ⟨he, hg⟩ => ?_
  subst he
  exact ⟨_, rfl, Go.Proofs.Ytdlbcbdfcjfagaa.base.postBelow (pv := []) hW' (fun _ _ _ => (trodAll_cons_mk (shut_bool Try.underlying4 _) trodAll_mk0)) (fun sp hsp => Go.Proofs.Ytdlbcbdfcjfagaa.lift.args_stay Go.Proofs.Ytdlbcbdfcjfagaa.lift.laidOut hg _ _ _ _ (by kernel_rfl) hAk (fun x hx => hlt x (by simpa using hx)) (fun x hx => hsp x (by simpa using hx))) (fun _ _ => rfl) (by simp)
    hg (ok_one (by kernel_rfl) rfl (okWide_bool_mk Try.underlying4 _))⟩

theorem over : Rows.recordZerosRow.holds Try.pinned (OpenSpec.ofChange Rows.recordZerosSpec) :=
  OpenClaim.holds_of_wide 6 Try.f6 rfl rfl rfl rfl rfl rfl rfl ⟨rfl, rfl, rfl, rfl, rfl⟩ rfl rfl rfl rfl rfl (by kernel_rfl) Try.func6 (by kernel_rfl)
    (of_decide_eq_true (by kernel_rfl)) (by unfold Func.isWrapper; first | (rw [if_pos (by decide +kernel)]; kernel_rfl) | (rw [if_neg (by decide +kernel)]; exact ⟨rfl, rfl⟩))
    (fun os started H enc _ => lifted os started H enc)

/-- THE STATEMENT -/
theorem proved : Rows.RecordZerosSaid :=
  over
#print axioms proved
end Go.Proofs.Ytdlbcbdfcjfagaa.recordZeros
