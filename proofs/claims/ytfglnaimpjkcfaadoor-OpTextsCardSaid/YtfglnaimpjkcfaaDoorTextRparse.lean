/-
  PROVED HERE: what the document's Parse answers.
  CONDITIONS: the theorem names its own.
-/
import Derived.Test.YtfglnaimpjkcfaaDoorTextParse
namespace Go.Proofs.YtfglnaimpjkcfaaDoor.text
set_option linter.unusedVariables false
open Go.RowKit Go.Shelf Go.Proofs.YtfglnaimpjkcfaaDoor.base Go.Proofs.YtfglnaimpjkcfaaDoor.obj Go.Proofs.YtfglnaimpjkcfaaDoor.mem Go.Proofs.YtfglnaimpjkcfaaDoor.sep Go.Proofs.YtfglnaimpjkcfaaDoor.plan Go.Proofs.YtfglnaimpjkcfaaDoor.op

set_option maxRecDepth 100000 in
set_option maxHeartbeats 8000000 in
theorem rparse_at (t : ByteArray) (w : World) : Calls Tryd.prog 9 #[.string t] w fun e w' => ∃ o a is, e = .returned (.agg #[.int .i64 o, .int .i64 a, .int .i64 0, .bool is]) ∧ ParIs t o a is ∧ Below w.heap.size w w' := by
  have HRT := Lib.hid (fun o a w2 => rright_any o a w2)
  have HTX := Lib.hid (fun o a h w2 => rtext_at o a h w2)
  obtain ⟨O, hO⟩ : ∃ O, O = w.heap.size := ⟨_, rfl⟩
  have H0 := Lib.hid (show St w (w.alloc (.cells #[.int .i64 0, .int .i64 0, .int .i64 0, .bool false] 32)) [row O 32 [.int .i64 0, .int .i64 0, .int .i64 0, .bool false]] by rw [hO]; exact (St.nil w).new _ _)
  have HO := Lib.hid hO
  clear hO
  go_enter Tryd.func9, Tryd.ntmps9
  go_wp2_with (fail)
  rw [← HO.out]
  go_loopw [3] (fun i wr => ∃ k : Nat, k ≤ 19 ∧ i = .int .i64 k ∧ (∀ o x, IsT t o x → (k : Int) ≤ o) ∧ St w wr [row O 32 [.int .i64 0, .int .i64 0, .int .i64 0, .bool false]]) (fun i _ => 19 - (intOf i).toNat)
  case atStart => exact ⟨0, by omega, rfl, fun o x h => (right_yes h.1).1, H0.out⟩
  case round =>
    obtain ⟨k, hk, rfl, hno, hst⟩ := hrel
    have HNO := Lib.hid hno; have HST := Lib.hid hst
    clear hno hst
    by_cases hlt : k < 19
    · have hk1 : (k : Int) ≤ 18 := by omega
      have hk2 : (k : Int) + 1 ≤ 19 := by omega
      have hkn : k + 1 ≤ 19 := hlt
      go_wp2_with (fail)
      go_loopw [4] (fun i wi => ∃ n : Nat, n ≤ 256 ∧ i = .int .i64 n ∧ (∀ o x, IsT t o x → (k : Int) < o ∨ (o = k ∧ (n : Int) ≤ x)) ∧ St w wi [row O 32 [.int .i64 0, .int .i64 0, .int .i64 0, .bool false]]) (fun i _ => 256 - (intOf i).toNat)
      case atStart =>
        refine ⟨0, by omega, rfl, fun o x h => ?_, HST.out⟩
        have h1 := HNO.out o x h
        have h2 := right_yes h.1
        omega
      case round =>
        obtain ⟨n, hn, rfl, hni, hsi⟩ := hrel
        have HNI := Lib.hid hni; have HSI := Lib.hid hsi
        clear hni hsi
        by_cases hnl : n < 256
        · have hn1 : (n : Int) ≤ 255 := by omega
          have hn2 : (n : Int) + 1 ≤ 256 := by omega
          have hnn : n + 1 ≤ 256 := hnl
          have hNEXT := Lib.hid (show (¬ IsT t (k : Int) (n : Int)) → ∀ o x, IsT t o x → (k : Int) < o ∨ (o = k ∧ ((n + 1 : Nat) : Int) ≤ x) from fun h o x hx => by
            rcases HNI.out o x hx with h1 | ⟨rfl, h2⟩
            · exact .inl h1
            · rcases Int.lt_or_eq_of_le h2 with h3 | rfl
              · exact .inr ⟨rfl, by omega⟩
              · exact absurd hx h)
          obtain ⟨I, hI⟩ : ∃ I, I = wr.heap.size := ⟨_, rfl⟩
          have H4 := Lib.hid (HSI.out.new 23 #[.int .i64 k, .int .i64 n])
          rw [← hI] at H4
          have HI := Lib.hid hI
          clear hI
          go_wp2_with (fail)
          rw [← HI.out]
          obtain ⟨rr, hrr⟩ : ∃ rr, rr = right (k : Int) (n : Int) := ⟨_, rfl⟩
          refine (HRT.out (k : Int) (n : Int) _).mono ?_
          rw [← hrr]
          rintro e w6 ⟨rfl, hb⟩
          have H7 := Lib.hid (H4.out.below hb)
          clear hb
          cases rr with
          | false =>
            have HMISS := Lib.hid (hNEXT.out (fun h => by have := h.1; rw [← hrr] at this; cases this))
            clear hrr
            go_wp2_with (fail)
            go_roundw
            case rel => exact ⟨n + 1, hnn, by go_num, HMISS.out, H7.out.drop⟩
            case measure => simp [intOf]; omega
          | true =>
            have g0 : w6.cell? ⟨I, 0, none⟩ = some (.int .i64 k) := H7.out.row.1.cell 0
            have g1 : w6.cell? ⟨I, 1, none⟩ = some (.int .i64 n) := H7.out.row.1.cell 1
            have lI6 : I < w6.heap.size := H7.out.row.1.lt
            have HTT := Lib.hid (HTX.out (k : Int) (n : Int) hrr.symm)
            have HRR := Lib.hid hrr
            obtain ⟨tx, htx⟩ : ∃ tx, tx = txtB (k : Int) (n : Int) := ⟨_, rfl⟩
            rw [← htx] at HTT
            have HXX := Lib.hid htx
            clear hrr htx
            go_wp2_with (fail)
            refine (HTT.out _).mono ?_
            rintro e w8 ⟨rfl, hb⟩
            have H8 := Lib.hid (H7.out.below hb)
            clear hb
            have p0 : w8.cell? ⟨I, 0, none⟩ = some (.int .i64 k) := H8.out.row.1.cell 0
            have p1 : w8.cell? ⟨I, 1, none⟩ = some (.int .i64 n) := H8.out.row.1.cell 1
            have lI8 : I < w8.heap.size := H8.out.row.1.lt
            by_cases hq : tx = t
            · subst hq
              have HYES := Lib.hid (show IsT tx (k : Int) (n : Int) from ⟨HRR.out.symm, HXX.out.symm⟩)
              have o0 : w8.cell? ⟨O, 0, none⟩ = some (.int .i64 0) := (H8.out.pick 1 rfl).row.1.cell 0
              have o1 : w8.cell? ⟨O, 1, none⟩ = some (.int .i64 0) := (H8.out.pick 1 rfl).row.1.cell 1
              have o2 : w8.cell? ⟨O, 2, none⟩ = some (.int .i64 0) := (H8.out.pick 1 rfl).row.1.cell 2
              have o3 : w8.cell? ⟨O, 3, none⟩ = some (.bool false) := (H8.out.pick 1 rfl).row.1.cell 3
              have fo0 := (H8.out.pick 1 rfl).row.1.frozen 0
              have fo1 := (H8.out.pick 1 rfl).row.1.frozen 1
              have fo2 := (H8.out.pick 1 rfl).row.1.frozen 2
              have fo3 := (H8.out.pick 1 rfl).row.1.frozen 3
              have lO : O < w8.heap.size := (H8.out.pick 1 rfl).row.1.lt
              have H9 := Lib.hid (((((H8.out.pick 1 rfl).set 0 (.int .i64 k)).set 1 (.int .i64 n)).set 2 (.int .i64 0)).set 3 (.bool true))
              go_wp2_with (fail)
              refine bodyPost_ret (results_cell_row rfl _ _ O _ _ _ _ rfl H9.out.row.1 Tryd.underlying32 rfl (by kernel_rfl)) rfl ?_
              exact ⟨_, _, _, rfl, .inl ⟨rfl, HYES.out⟩, H9.out.bel⟩
            · have HMISS := Lib.hid (hNEXT.out (fun h => hq (by rw [HXX.out]; exact h.2)))
              have hq2 : ¬ tx.toList = t.toList := by
                rw [Lib.toList_data, Lib.toList_data]
                exact fun h => hq (bext h)
              have hq3 : (tx.toList == t.toList) = false := by
                rw [Bool.eq_false_iff]
                intro h
                exact hq2 (by simpa using h)
              clear hq
              go_wp2_with (fail)
              go_roundw
              case rel => exact ⟨n + 1, hnn, by go_num, HMISS.out, H8.out.drop⟩
              case measure => simp [intOf]; omega
        · have hn9 : ¬ (n : Int) ≤ 255 := by omega
          have HUP := Lib.hid (show ∀ o x, IsT t o x → ((k + 1 : Nat) : Int) ≤ o from fun o x h => by
            have h1 := HNI.out o x h
            have h2 := right_yes h.1
            omega)
          go_wp2_with (fail)
          go_roundw
          case rel => exact ⟨k + 1, hkn, by go_num, HUP.out, HSI.out⟩
          case measure => simp [intOf]; omega
    · obtain rfl : k = 19 := by omega
      have HNONE := Lib.hid (show ∀ o x, ¬ IsT t o x from fun o x h => by
        have h1 := HNO.out o x h
        have h2 := right_yes h.1
        omega)
      have o0 : wr.cell? ⟨O, 0, none⟩ = some (.int .i64 0) := HST.out.row.1.cell 0
      have o1 : wr.cell? ⟨O, 1, none⟩ = some (.int .i64 0) := HST.out.row.1.cell 1
      have o2 : wr.cell? ⟨O, 2, none⟩ = some (.int .i64 0) := HST.out.row.1.cell 2
      have o3 : wr.cell? ⟨O, 3, none⟩ = some (.bool false) := HST.out.row.1.cell 3
      have fo0 := HST.out.row.1.frozen 0
      have fo1 := HST.out.row.1.frozen 1
      have fo2 := HST.out.row.1.frozen 2
      have fo3 := HST.out.row.1.frozen 3
      have lO : O < wr.heap.size := HST.out.row.1.lt
      have H9 := Lib.hid ((((HST.out.set 0 (.int .i64 0)).set 1 (.int .i64 0)).set 2 (.int .i64 0)).set 3 (.bool false))
      go_wp2_with (fail)
      refine bodyPost_ret (results_cell_row rfl _ _ O _ _ _ _ rfl H9.out.row.1 Tryd.underlying32 rfl (by kernel_rfl)) rfl ?_
      exact ⟨_, _, _, rfl, .inr ⟨rfl, rfl, rfl, HNONE.out⟩, H9.out.bel⟩
end Go.Proofs.YtfglnaimpjkcfaaDoor.text
