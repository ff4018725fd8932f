/-
  PROVED HERE: the contract of the reference disk's Now.
  CONDITIONS: the disk is the given one; no more than a million writes wait.
-/
import Derived.Test.YtjncpincmkpdpaaRefDisk
namespace Go.Proofs.Ytjncpincmkpdpaa.refDisk
set_option linter.unusedVariables false
open Go.RowKit Go.Proofs.Ytjncpincmkpdpaa.base Go.Proofs.Ytjncpincmkpdpaa.obj Go.Proofs.Ytjncpincmkpdpaa.mem Go.Proofs.Ytjncpincmkpdpaa.plan Go.Proofs.Ytjncpincmkpdpaa.disk

/-- element j of a row of the call's own -/
theorem own_cell {w : World} {base : Nat} {e : TypeId} {v : Value} {n : Nat} {xs : List Value} (h : w.ownsRow base e 1 v n xs) {j : Nat} (hj : j < n) : ∃ g c, v = .slice (some ⟨g, 0, none⟩) n c ∧ w.cell? ⟨g, j, none⟩ = xs[j]? ∧ w.frozen? ⟨g, j, none⟩ = false := by
  rcases h.2 with ⟨_, h0⟩ | ⟨g, cap, cur, rfl, hb, hg, hrest⟩
  · omega
  · exact ⟨g, cap, rfl, h.cellAt j (by omega), h.frozenAt j⟩
theorem ats_get {m : DS} {j : Nat} (hj : j < m.waits.length) : (ats m)[j]? = some (.int .i64 m.waits[j].1) := by
  unfold ats
  rw [List.getElem?_map, List.getElem?_eq_getElem hj]
  rfl

set_option maxRecDepth 100000 in
set_option maxHeartbeats 2000000 in
theorem now_at {w : World} {B x : Nat} {m : DS} (h : RefOwn w B x m) (n : Nat) (hn : n < m.secs.length) (hwl : m.waits.length ≤ 1000000) :
    Calls Try.prog 69 #[.pointer (some ⟨x, 0, none⟩), .int .i64 n] w fun e w' => ∃ b c, e = .returned (.slice (some ⟨b, 0, none⟩) 64 c) ∧ Hd w (.slice (some ⟨b, 0, none⟩) 64 c) (m.now n) ∧ w = w' := by
  obtain ⟨vS, vA, vB, hS, hB, h⟩ := h
  obtain ⟨c0, c1, c2, c3, c4⟩ := h.read
  obtain ⟨gS, cS, eS, dS, _⟩ := own_cell h.own1 hn
  obtain ⟨hs, hs1, hs2⟩ := h.hdS.get hn
  rw [hs1] at dS
  rw [eS] at c0
  obtain ⟨bs0, cs0, curs0, es0, _, _⟩ := id hs2
  have e0 : m.secs.getD n [] = m.secs[n] := by simp [hn]
  have HS0 := Lib.hid (show Hd w (.slice (some ⟨bs0, 0, none⟩) 64 cs0) (m.secs.getD n []) by rw [e0, ← es0]; exact hs2)
  rw [es0] at dS
  obtain ⟨AA, cA, eA, _⟩ := own_form h.own2
  have c1' := c1
  rw [eA] at c1
  have H := Lib.hid h
  have EA := Lib.hid eA
  clear h c3 c4 hs1 hs2 es0 e0 eS eA c1'
  go_enter Try.func69, Try.ntmps69
  go_wp2_with (fail)
  go_loop [5] (fun i => ∃ j : Nat, j ≤ m.waits.length ∧ i = .int .i64 ((j : Int) - 1) ∧ m.now n = nowTo m.waits (m.secs.getD n []) n j) (fun i => ((intOf i) + 1).toNat)
  case atStart => exact ⟨m.waits.length, Nat.le_refl _, rfl, rfl⟩
  case round =>
    obtain ⟨j, hj, rfl, hnow⟩ := hrel
    have HN := Lib.hid hnow
    clear hnow
    cases j with
    | zero =>
      go_wp2_with (fail)
      go_ret
      refine ⟨bs0, cs0, rfl, ?_, rfl⟩
      rw [HN.out]
      exact HS0.out
    | succ j =>
      obtain ⟨z, hz⟩ : ∃ z : Int, z = ((j + 1 : Nat) : Int) - 1 := ⟨_, rfl⟩
      rw [← hz]
      obtain rfl : z = (j : Int) := by omega
      clear hz
      obtain ⟨gA, cA2, eA2, dA, _⟩ := own_cell H.out.own2 (show j < m.waits.length by omega)
      rw [ats_get (by omega)] at dA
      rw [EA.out] at eA2
      injection eA2 with q1 q2 q3
      subst q1; subst q3
      obtain ⟨gB, cB, eB, dB, _⟩ := own_cell H.out.own3 (show j < m.waits.length by omega)
      obtain ⟨hv, hv1, hv2⟩ := H.out.hdB.get (i := j) (by simp; omega)
      rw [hv1] at dB
      rw [eB] at c2
      obtain ⟨b1, cc1, cur1, ev, _, _⟩ := id hv2
      rw [ev] at dB
      have e1 : (m.waits.map (·.2))[j]'(by simp; omega) = m.waits[j].2 := by simp
      rw [e1] at hv2
      have HV := Lib.hid (show Hd w (.slice (some ⟨b1, 0, none⟩) 64 cc1) m.waits[j].2 by rw [← ev]; exact hv2)
      clear hv1 hv2 ev e1 eB q2
      have i0 : (0 : Int) ≤ (j : Int) := by omega
      have i1 : (j : Int) < (m.waits.length : Int) := by omega
      by_cases hat : m.waits[j].1 = n
      · have hb : ((m.waits[j].1 : Int) == (n : Int)) = true := by simp [hat]
        have HE := Lib.hid (HN.out.trans (nowTo_hit (by omega) hat))
        generalize hq : m.waits[j] = q at *
        clear hat hq
        go_wp2_with (fail)
        go_ret
        refine ⟨b1, cc1, rfl, ?_, rfl⟩
        rw [HE.out]
        exact HV.out
      · have hb : ((m.waits[j].1 : Int) == (n : Int)) = false := by simp; omega
        have HE := Lib.hid (HN.out.trans (nowTo_miss (by omega) hat))
        generalize hq : m.waits[j] = q at *
        clear hat hq
        go_wp2_with (fail)
        go_round
        case rel => exact ⟨j, by omega, rfl, HE.out⟩
        case measure => simp [intOf]

end Go.Proofs.Ytjncpincmkpdpaa.refDisk
