/-
  PROVED HERE: what op.Parse answers.
  CONDITIONS: the theorem names its own.
-/
import Derived.Test.YtfglnaimpjkcfaaDoorTextLaw
namespace Go.Proofs.YtfglnaimpjkcfaaDoor.text
set_option linter.unusedVariables false
open Go.RowKit Go.Shelf Go.Proofs.YtfglnaimpjkcfaaDoor.base Go.Proofs.YtfglnaimpjkcfaaDoor.obj Go.Proofs.YtfglnaimpjkcfaaDoor.mem Go.Proofs.YtfglnaimpjkcfaaDoor.sep Go.Proofs.YtfglnaimpjkcfaaDoor.plan Go.Proofs.YtfglnaimpjkcfaaDoor.op

/-- what a text is parsed to -/
def ParIs (t : ByteArray) (o a : Int) (is : Bool) : Prop := (is = true ∧ IsT t o a) ∨ (is = false ∧ o = 0 ∧ a = 0 ∧ ∀ o a, ¬ IsT t o a)
/-- the kind that fits, and its argument -/
theorem fits_yes {t a b : ByteArray} {f : Bool} {k : Nat} (hc : CutIs t a b f) (hn : nmB k = a) (hf : hasArg (k : Int) = f) {r : Int} (hd : f = true → DigIs b r) (hd0 : f = false → r = 0) (hr : right (k : Int) r = true) : IsT t (k : Int) r := by
  refine ⟨hr, ?_⟩
  cases f with
  | true =>
    rcases hd rfl with ⟨_, rfl⟩ | ⟨h1, h2⟩
    · have := right_yes hr
      omega
    · obtain ⟨n, hn1, h3, h4⟩ := num_dec b h1
      rw [h2] at h3
      obtain rfl := Option.some.inj h3
      unfold txtB
      rw [if_pos hf, Int.toNat_natCast, Int.toNat_natCast, hn, ← h4]
      exact (cut_back hc).symm
  | false =>
    obtain rfl := hd0 rfl
    unfold txtB
    rw [hf, if_neg (by simp), Int.toNat_natCast, hn]
    rcases hc with ⟨_, h2, _⟩ | ⟨_, h1, _⟩
    · exact h2
    · cases h1
theorem fits_no {t a b : ByteArray} {f : Bool} {k : Nat} (hc : CutIs t a b f) {r : Int} (hd : f = true → DigIs b r) (hd0 : f = false → r = 0) (hr : right (k : Int) r = false) : ∀ x, ¬ IsT t (k : Int) x := by
  intro x h
  obtain ⟨k', n, e1, rfl, hk, hn, h1, h2, h3, h4⟩ := isT_cut h hc
  have h5 : (n : Int) = r := by
    cases f with
    | true =>
      have hb := h3 rfl
      obtain ⟨g1, g2⟩ := dec_num n (by omega)
      rw [← hb] at g1 g2
      rcases hd rfl with ⟨g3, _⟩ | ⟨_, g3⟩
      · rw [g1] at g3; cases g3
      · rw [g2] at g3; exact Option.some.inj g3
    | false => rw [hd0 rfl, h4 rfl]; rfl
  rw [← h5, h.1] at hr
  cases hr
theorem miss {t a b : ByteArray} {f : Bool} {k : Nat} (hc : CutIs t a b f) (h : ¬ (nmB k = a ∧ hasArg (k : Int) = f)) : ∀ x, ¬ IsT t (k : Int) x := by
  intro x hx
  obtain ⟨k', n, e1, rfl, hk, hn, h1, h2, h3, h4⟩ := isT_cut hx hc
  have : k = k' := by omega
  subst this
  exact h ⟨h1.symm, h2.symm⟩

theorem cut_size {t a b : ByteArray} {f : Bool} (hc : CutIs t a b f) (ht : t.size ≤ 1000) : b.size ≤ 1000 := by
  rcases hc with ⟨_, _, rfl, _⟩ | ⟨j, h1, h2, h3, h4, h5, rfl⟩
  · exact Nat.zero_le _
  · rw [ByteArray.size_extract]
    omega
set_option maxRecDepth 100000 in
set_option maxHeartbeats 8000000 in
theorem parse_at (t : ByteArray) (ht : t.size ≤ 1000) (w : World) : Calls Tryd.prog 8 #[.string t] w fun e w' => ∃ o a is, e = .returned (.tuple #[.agg #[.int .i64 o, .int .i64 a], .bool is]) ∧ ParIs t o a is ∧ Below w.heap.size w w' := by
  have HCUT := Lib.hid (fun w2 => cut_at t ht w2)
  have HKN := Lib.hid (fun w2 => kinds_at w2)
  have HRT := Lib.hid (fun o a w2 => right_any o a w2)
  obtain ⟨O, hO⟩ : ∃ O, O = w.heap.size := ⟨_, rfl⟩
  have H0 := Lib.hid (show St w (w.alloc (.cells #[.int .i64 0, .int .i64 0] 23)) [row O 23 [.int .i64 0, .int .i64 0]] by rw [hO]; exact (St.nil w).new _ _)
  have HO := Lib.hid hO
  clear hO
  go_enter Tryd.func8, Tryd.ntmps8
  go_wp2_with (fail)
  rw [← HO.out]
  refine (HCUT.out _).mono ?_
  rintro e w2 ⟨a, b, f, rfl, hc, hb⟩
  have H2 := Lib.hid (H0.out.below hb)
  have HC := Lib.hid hc
  clear hb hc
  go_wp2_with (fail)
  refine (HKN.out _).mono ?_
  rintro e w3 ⟨rfl, hb⟩
  have H3 := Lib.hid (H2.out.below hb)
  clear hb
  go_wp2_with (fail)
  go_loopw [17] (fun i wr => ∃ k : Nat, k ≤ 19 ∧ i = .int .i64 k ∧ (∀ o x, IsT t o x → (k : Int) ≤ o) ∧ St w wr [row O 23 [.int .i64 0, .int .i64 0]]) (fun i _ => 19 - (intOf i).toNat)
  case atStart => exact ⟨0, by omega, rfl, fun o x h => (right_yes h.1).1, H3.out⟩
  case round =>
    obtain ⟨k, hk, rfl, hno, hst⟩ := hrel
    have HNO := Lib.hid hno; have HST := Lib.hid hst
    clear hno hst
    by_cases hlt : k < 19
    · have hix := fun w2 => knds_at k hlt w2
      have hNEXT := Lib.hid (show (∀ x, ¬ IsT t (k : Int) x) → ∀ o x, IsT t o x → ((k + 1 : Nat) : Int) ≤ o from fun h o x hx => by
        have h1 := HNO.out o x hx
        rcases Int.lt_or_eq_of_le h1 with h2 | rfl
        · omega
        · exact absurd hx (h x))
      have hk1 : (k : Int) < 19 := by omega
      have hk2 : (k : Int) + 1 ≤ 19 := by omega
      have hkn : k + 1 ≤ 19 := hlt
      obtain ⟨ha, hha⟩ : ∃ ha, ha = hasArg (k : Int) := ⟨_, rfl⟩
      rw [← hha] at hix
      have HHA := Lib.hid hha
      by_cases hm : nmB k = a ∧ ha = f
      · rw [hha] at hm
        have HF := Lib.hid (fun (r : Int) (hd : f = true → DigIs b r) (hd0 : f = false → r = 0) (hr : right (k : Int) r = true) => fits_yes HC.out hm.1 hm.2 hd hd0 hr)
        have HG := Lib.hid (fun (r : Int) (hd : f = true → DigIs b r) (hd0 : f = false → r = 0) (hr : right (k : Int) r = false) => fits_no HC.out hd hd0 hr)
        obtain ⟨rfl, hf⟩ := hm
        rw [← hha] at hf
        subst hf
        clear hha
        have HDG := Lib.hid (fun w2 => digits_at b (cut_size HC.out ht) w2)
        cases ha with
        | true =>
          go_wp2_with (fail)
          obtain ⟨I, hI⟩ : ∃ I, I = (wr.alloc (.cells #[.string (nmB k), .bool true] 41)).heap.size := ⟨_, rfl⟩
          have H4 := Lib.hid (((HST.out.new 41 #[.string (nmB k), .bool true]).drop).new 23 #[.int .i64 k, .int .i64 0])
          rw [← hI] at H4
          have HI := Lib.hid hI
          clear hI
          refine (HDG.out _).mono ?_
          rintro e w5 ⟨r, rfl, hdig, hb⟩
          have HD := Lib.hid hdig
          have H5 := Lib.hid (H4.out.below hb)
          clear hb hdig
          have c0 : w5.cell? ⟨I, 0, none⟩ = some (.int .i64 k) := H5.out.row.1.cell 0
          have c1 : w5.cell? ⟨I, 1, none⟩ = some (.int .i64 0) := H5.out.row.1.cell 1
          have fi1 := H5.out.row.1.frozen 1
          have lI : I < w5.heap.size := H5.out.row.1.lt
          have H6 := Lib.hid (H5.out.set 1 (.int .i64 r))
          have eI : wr.heap.size + 1 = I := by rw [HI.out]; simp
          rw [eI]
          go_wp2_with (fail)
          obtain ⟨rr, hrr⟩ : ∃ rr, rr = right (k : Int) r := ⟨_, rfl⟩
          refine (HRT.out (k : Int) r _).mono ?_
          rw [← hrr]
          rintro e w6 ⟨rfl, hb⟩
          have H7 := Lib.hid (H6.out.below hb)
          clear hb
          have g0 : w6.cell? ⟨I, 0, none⟩ = some (.int .i64 k) := H7.out.row.1.cell 0
          have g1 : w6.cell? ⟨I, 1, none⟩ = some (.int .i64 r) := H7.out.row.1.cell 1
          have lI6 : I < w6.heap.size := H7.out.row.1.lt
          cases rr with
          | true =>
            have HYES := Lib.hid (HF.out r (fun _ => HD.out) (fun h => by cases h) hrr.symm)
            clear hrr
            have o0 : w6.cell? ⟨O, 0, none⟩ = some (.int .i64 0) := (H7.out.pick 1 rfl).row.1.cell 0
            have o1 : w6.cell? ⟨O, 1, none⟩ = some (.int .i64 0) := (H7.out.pick 1 rfl).row.1.cell 1
            have fo0 := (H7.out.pick 1 rfl).row.1.frozen 0
            have fo1 := (H7.out.pick 1 rfl).row.1.frozen 1
            have lO : O < w6.heap.size := (H7.out.pick 1 rfl).row.1.lt
            have H9 := Lib.hid (((H7.out.pick 1 rfl).set 0 (.int .i64 k)).set 1 (.int .i64 r))
            go_wp2_with (fail)
            refine bodyPost_ret (res_cell_slot rfl _ _ O _ _ _ _ _ rfl rfl H9.out.row.1 Tryd.underlying23 rfl (by kernel_rfl)) rfl ?_
            exact ⟨_, _, _, rfl, .inl ⟨rfl, HYES.out⟩, H9.out.bel⟩
          | false =>
            have HMISS := Lib.hid (hNEXT.out (HG.out r (fun _ => HD.out) (fun h => by cases h) hrr.symm))
            clear hrr
            go_wp2_with (fail)
            go_roundw
            case rel => exact ⟨k + 1, hkn, by go_num, HMISS.out, H7.out.drop⟩
            case measure => simp [intOf]; omega
        | false =>
          go_wp2_with (fail)
          obtain ⟨I, hI⟩ : ∃ I, I = (wr.alloc (.cells #[.string (nmB k), .bool false] 41)).heap.size := ⟨_, rfl⟩
          have H6 := Lib.hid (((HST.out.new 41 #[.string (nmB k), .bool false]).drop).new 23 #[.int .i64 k, .int .i64 0])
          rw [← hI] at H6
          have HI := Lib.hid hI
          clear hI
          have eI : wr.heap.size + 1 = I := by rw [HI.out]; simp
          rw [eI]
          obtain ⟨rr, hrr⟩ : ∃ rr, rr = right (k : Int) 0 := ⟨_, rfl⟩
          refine (HRT.out (k : Int) 0 _).mono ?_
          rw [← hrr]
          rintro e w6 ⟨rfl, hb⟩
          have H7 := Lib.hid (H6.out.below hb)
          clear hb
          have g0 : w6.cell? ⟨I, 0, none⟩ = some (.int .i64 k) := H7.out.row.1.cell 0
          have g1 : w6.cell? ⟨I, 1, none⟩ = some (.int .i64 0) := H7.out.row.1.cell 1
          have lI6 : I < w6.heap.size := H7.out.row.1.lt
          cases rr with
          | true =>
            have HYES := Lib.hid (HF.out 0 (fun h => by cases h) (fun _ => rfl) hrr.symm)
            clear hrr
            have o0 : w6.cell? ⟨O, 0, none⟩ = some (.int .i64 0) := (H7.out.pick 1 rfl).row.1.cell 0
            have o1 : w6.cell? ⟨O, 1, none⟩ = some (.int .i64 0) := (H7.out.pick 1 rfl).row.1.cell 1
            have fo0 := (H7.out.pick 1 rfl).row.1.frozen 0
            have fo1 := (H7.out.pick 1 rfl).row.1.frozen 1
            have lO : O < w6.heap.size := (H7.out.pick 1 rfl).row.1.lt
            have H9 := Lib.hid (((H7.out.pick 1 rfl).set 0 (.int .i64 k)).set 1 (.int .i64 0))
            go_wp2_with (fail)
            refine bodyPost_ret (res_cell_slot rfl _ _ O _ _ _ _ _ rfl rfl H9.out.row.1 Tryd.underlying23 rfl (by kernel_rfl)) rfl ?_
            exact ⟨_, _, _, rfl, .inl ⟨rfl, HYES.out⟩, H9.out.bel⟩
          | false =>
            have HMISS := Lib.hid (hNEXT.out (HG.out 0 (fun h => by cases h) (fun _ => rfl) hrr.symm))
            clear hrr
            go_wp2_with (fail)
            go_roundw
            case rel => exact ⟨k + 1, hkn, by go_num, HMISS.out, H7.out.drop⟩
            case measure => simp [intOf]; omega
      · have HMISS := Lib.hid (hNEXT.out (miss HC.out (by rw [← hha]; exact hm)))
        clear hha
        have HST2 := Lib.hid ((HST.out.new 41 #[.string (nmB k), .bool ha]).drop)
        by_cases hn : nmB k = a
        · have hb1 : (ha == f) = false := by
            rw [Bool.eq_false_iff]
            intro h
            exact hm ⟨hn, by simpa using h⟩
          have hb2 : (ha != f) = true := by rw [bne, hb1]; rfl
          have hq : (nmB k).toList = a.toList := by rw [hn]
          clear hm hn
          go_wp2_with (fail)
          go_roundw
          case rel => exact ⟨k + 1, hkn, by go_num, HMISS.out, HST2.out⟩
          case measure => simp [intOf]; omega
        · have hq : ¬ (nmB k).toList = a.toList := by
            rw [Lib.toList_data, Lib.toList_data]
            exact fun h => hn (bext h)
          clear hm hn
          go_wp2_with (fail)
          go_roundw
          case rel => exact ⟨k + 1, hkn, by go_num, HMISS.out, HST2.out⟩
          case measure => simp [intOf]; omega
    · obtain rfl : k = 19 := by omega
      have HNONE := Lib.hid (show ∀ o x, ¬ IsT t o x from fun o x h => by
        have h1 := HNO.out o x h
        have h2 := right_yes h.1
        omega)
      have o0 : wr.cell? ⟨O, 0, none⟩ = some (.int .i64 0) := HST.out.row.1.cell 0
      have o1 : wr.cell? ⟨O, 1, none⟩ = some (.int .i64 0) := HST.out.row.1.cell 1
      have fo0 := HST.out.row.1.frozen 0
      have fo1 := HST.out.row.1.frozen 1
      have lO : O < wr.heap.size := HST.out.row.1.lt
      have H9 := Lib.hid ((HST.out.set 0 (.int .i64 0)).set 1 (.int .i64 0))
      go_wp2_with (fail)
      refine bodyPost_ret (res_cell_slot rfl _ _ O _ _ _ _ _ rfl rfl H9.out.row.1 Tryd.underlying23 rfl (by kernel_rfl)) rfl ?_
      exact ⟨_, _, _, rfl, .inr ⟨rfl, rfl, rfl, HNONE.out⟩, H9.out.bel⟩
end Go.Proofs.YtfglnaimpjkcfaaDoor.text
