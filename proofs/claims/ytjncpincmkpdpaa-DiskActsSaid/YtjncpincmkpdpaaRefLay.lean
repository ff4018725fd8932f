/-
  PROVED HERE: the contracts of the reference disk's Lay and Flush.
  CONDITIONS: the disk is the given one; no more than a million writes wait.
-/
import Derived.Test.YtjncpincmkpdpaaRefNow
import Derived.Test.YtjncpincmkpdpaaRefWrite
namespace Go.Proofs.Ytjncpincmkpdpaa.refDisk
set_option linter.unusedVariables false
open Go.RowKit Go.Proofs.Ytjncpincmkpdpaa.base Go.Proofs.Ytjncpincmkpdpaa.obj Go.Proofs.Ytjncpincmkpdpaa.mem Go.Proofs.Ytjncpincmkpdpaa.plan Go.Proofs.Ytjncpincmkpdpaa.disk

structure LayR (w : World) (B x : Nat) (vS vA vB : Value) (hB : List Value) (m : DS) (p : Nat → Bool) (k : Nat) (wr : World) : Prop where
  ref : ∃ hS, RefIn wr B x vS vA vB hS hB (m.laid p k)
  bel : Below B w wr
  kept : RKept w wr
theorem LayR.read {w wr : World} {B x : Nat} {vS vA vB : Value} {hB : List Value} {m : DS} {p : Nat → Bool} {k : Nat} (h : LayR w B x vS vA vB hB m p k wr) : wr.cell? ⟨x, 0, none⟩ = some vS ∧ wr.cell? ⟨x, 1, none⟩ = some vA ∧ wr.cell? ⟨x, 2, none⟩ = some vB := by
  obtain ⟨hS, hr⟩ := h.ref
  obtain ⟨c0, c1, c2, _, _⟩ := hr.read
  exact ⟨c0, c1, c2⟩
theorem layr_no {w wr : World} {B x : Nat} {vS vA vB : Value} {hB : List Value} {m : DS} {p : Nat → Bool} {k : Nat} (h : LayR w B x vS vA vB hB m p k wr) (hk : k < m.waits.length) (hp : p k = false) : LayR w B x vS vA vB hB m p (k + 1) wr := by
  obtain ⟨hS, hr⟩ := h.ref
  exact ⟨⟨hS, by rw [laid_no hk hp]; exact hr⟩, h.bel, h.kept⟩
theorem layr_cells {w wr : World} {B x : Nat} {vS vA vB : Value} {hB : List Value} {m : DS} {p : Nat → Bool} {k : Nat} (h : LayR w B x vS vA vB hB m p k wr) (hk : k < m.waits.length) :
    ∃ gS cS gA cA gB cB b1 c1 u, vS = .slice (some ⟨gS, 0, none⟩) m.secs.length cS ∧ vA = .slice (some ⟨gA, 0, none⟩) m.waits.length cA ∧ vB = .slice (some ⟨gB, 0, none⟩) m.waits.length cB ∧
      wr.cell? ⟨gA, k, none⟩ = some (.int .i64 m.waits[k].1) ∧ wr.cell? ⟨gB, k, none⟩ = some (.slice (some ⟨b1, 0, none⟩) 64 c1) ∧ Hd wr (.slice (some ⟨b1, 0, none⟩) 64 c1) m.waits[k].2 ∧
      wr.cell? ⟨gS, m.waits[k].1, none⟩ = some u ∧ wr.frozen? ⟨gS, m.waits[k].1, none⟩ = false ∧ m.waits[k].1 < m.secs.length := by
  obtain ⟨hS, hr⟩ := h.ref
  have hsl : (m.laid p k).secs.length = m.secs.length := layTo_len p m.waits m.secs k
  have hlt := (hr.good.waits _ (List.getElem_mem (show k < (m.laid p k).waits.length from hk))).1
  rw [hsl] at hlt
  have hlt' : m.waits[k].1 < m.secs.length := hlt
  have o1 := hr.own1
  rw [hsl] at o1
  obtain ⟨gS, cS, eS, dS, fS⟩ := own_cell o1 hlt'
  obtain ⟨gA, cA, eA, dA, _⟩ := own_cell hr.own2 (show k < (m.laid p k).waits.length from hk)
  have dA' : wr.cell? ⟨gA, k, none⟩ = some (.int .i64 m.waits[k].1) := dA.trans (ats_get (m := m) hk)
  obtain ⟨gB, cB, eB, dB, _⟩ := own_cell hr.own3 (show k < (m.laid p k).waits.length from hk)
  obtain ⟨hv, hv1, hv2⟩ := hr.hdB.get (i := k) (by simpa [DS.laid] using hk)
  rw [hv1] at dB
  obtain ⟨b1, cc1, cur1, ev, _, _⟩ := id hv2
  subst ev
  have e1 : ((m.laid p k).waits.map (·.2))[k]'(by simpa [DS.laid] using hk) = m.waits[k].2 := by simp [DS.laid]
  rw [e1] at hv2
  have hSl : m.waits[k].1 < hS.length := by rw [hr.hdS.1, hsl]; exact hlt'
  rw [List.getElem?_eq_getElem hSl] at dS
  exact ⟨gS, cS, gA, cA, gB, cB, b1, cc1, _, eS, eA, eB, dA', dB, hv2, dS, fS, hlt'⟩
theorem layr_yes {w wr w2 : World} {B x : Nat} {vA vB : Value} {hB : List Value} {m : DS} {p : Nat → Bool} {k gS cS : Nat} (hm : m.Good) (h : LayR w B x (.slice (some ⟨gS, 0, none⟩) m.secs.length cS) vA vB hB m p k wr) (hk : k < m.waits.length) (hp : p k = true)
    {hv : Value} (hh : Hd wr hv m.waits[k].2) (hw2 : Below wr.heap.size wr w2) : LayR w B x (.slice (some ⟨gS, 0, none⟩) m.secs.length cS) vA vB hB m p (k + 1) (w2.setCell ⟨gS, m.waits[k].1, none⟩ hv) := by
  obtain ⟨hS, hr0⟩ := h.ref
  have hr := hr0.below hw2
  have hh2 := hh.row fun b cur hr => hr.below hw2 hr.lt
  have hsl : (m.laid p k).secs.length = m.secs.length := layTo_len p m.waits m.secs k
  have hsl1 : (m.laid p (k + 1)).secs.length = m.secs.length := layTo_len p m.waits m.secs (k + 1)
  obtain ⟨hgB, curS, hrS⟩ := own_is hr.own1 (k := gS) rfl
  have o : ∀ {t : TypeId} {b : Nat} {cur : List Value}, Row w2 b t cur → t ≠ 22 → Row (w2.setCell ⟨gS, m.waits[k].1, none⟩ hv) b t cur := fun hq ht => hq.setCell_other (p := ⟨gS, m.waits[k].1, none⟩) (hq.ne hrS ht) hv
  have e0 : rCells (.slice (some ⟨gS, 0, none⟩) m.secs.length cS) vA vB (m.laid p (k + 1)) = rCells (.slice (some ⟨gS, 0, none⟩) m.secs.length cS) vA vB (m.laid p k) := rfl
  have b2 : Below B w w2 := h.bel.trans (hw2.mono (Nat.le_trans hgB (Nat.le_of_lt (by
    have := hr0.own1
    obtain ⟨_, cur, hq⟩ := own_is this (k := gS) rfl
    exact hq.lt))))
  refine ⟨⟨hS.set m.waits[k].1 hv, laid_good hm p (k + 1), ?_, hr.low, ?_, ?_, ?_, hr.apart, ?_, ?_⟩, b2.setCell (p := ⟨gS, m.waits[k].1, none⟩) hgB hv, ?_⟩
  · rw [e0]; exact o hr.blk (by decide)
  · rw [hsl1]
    have o1 := hr.own1
    rw [hsl] at o1
    exact (o1.stored m.waits[k].1 hv).1
  · exact own_rows hr.own2 fun b cur hq => o hq (by decide)
  · refine ownsRow_setCell_other hr.own3 (a := ⟨gS, m.waits[k].1, none⟩) (fun e => ?_) hv
    exact hr.apart gS rfl e
  · rw [laid_yes hk hp]
    exact (hr.hdS.set hh2 m.waits[k].1).row fun b cur hq => o hq (by decide)
  · exact hr.hdB.row fun b cur hq => o hq (by decide)
  · intro i t xs hq t1 t2 t3
    have hq1 := h.kept i t xs hq t1 t2 t3
    exact o (hq1.below hw2 hq1.lt) t2

theorem layr_end {w wr : World} {B x : Nat} {vS vA vB : Value} {hS hB : List Value} {m : DS} {p : Nat → Bool} (hm : m.Good) (h : RefIn wr B x vS vA vB hS hB (m.laid p m.waits.length)) (hb : Below B w wr) (hk : RKept w wr) :
    RefOwn ((wr.setCell ⟨x, 1, none⟩ (.slice none 0 0)).setCell ⟨x, 2, none⟩ (.slice none 0 0)) B x (m.lay p) ∧ Below B w ((wr.setCell ⟨x, 1, none⟩ (.slice none 0 0)).setCell ⟨x, 2, none⟩ (.slice none 0 0)) ∧ RKept w ((wr.setCell ⟨x, 1, none⟩ (.slice none 0 0)).setCell ⟨x, 2, none⟩ (.slice none 0 0)) := by
  have x1 := h.blk.setCell 1 (.slice none 0 0)
  have o : ∀ {t : TypeId} {b : Nat} {cur : List Value}, Row wr b t cur → t ≠ 60 → Row ((wr.setCell ⟨x, 1, none⟩ (.slice none 0 0)).setCell ⟨x, 2, none⟩ (.slice none 0 0)) b t cur := fun hq ht =>
    (hq.setCell_other (p := ⟨x, 1, none⟩) (hq.ne h.blk ht) _).setCell_other (p := ⟨x, 2, none⟩) (hq.ne h.blk ht) _
  refine ⟨⟨vS, .slice none 0 0, .slice none 0 0, hS, [], DS.lay_good hm p, x1.setCell 2 _, h.low, ?_, World.ownsRow_nil _ _ _ _, World.ownsRow_nil _ _ _ _, fun k _ e => by simp [Value.ownBlock] at e, ?_, Hds.nil _⟩, (hb.setCell (p := ⟨x, 1, none⟩) h.low _).setCell (p := ⟨x, 2, none⟩) h.low _, ?_⟩
  · exact own_rows h.own1 fun b cur hq => o hq (by decide)
  · exact h.hdS.row fun b cur hq => o hq (by decide)
  · intro i t xs hq t1 t2 t3
    exact o (hk i t xs hq t1 t2 t3) t1
theorem half (keep : Int) (k : Nat) (h0 : 0 ≤ keep) : keep / 2 ^ k / 2 = keep / 2 ^ (k + 1) := by
  rw [Int.pow_succ, ← Int.ediv_ediv_of_nonneg (Int.le_of_lt (Int.pow_pos (by decide)))]

set_option maxRecDepth 100000 in
set_option maxHeartbeats 2000000 in
theorem lay_at {w : World} {B x : Nat} {m : DS} (h : RefOwn w B x m) (hB0 : B ≤ w.heap.size) (keep : Int) (all : Bool) (hk0 : 0 ≤ keep) (hk1 : keep ≤ 18446744073709551615) (hwl : m.waits.length ≤ 1000000) :
    Calls Try.prog 36 #[.pointer (some ⟨x, 0, none⟩), .int .u64 keep, .bool all] w fun e w' => e = .returned (.tuple #[]) ∧ RefOwn w' B x (m.lay fun i => keeps keep i || all) ∧ Below B w w' ∧ RKept w w' := by
  obtain ⟨vS, vA, vB, hS, hB, h⟩ := h
  have HG := Lib.hid h.good
  have HL0 := Lib.hid (LayR.mk (w := w) (p := fun i => keeps keep i || all) (k := 0) ⟨hS, h⟩ (Below.refl B w) (RKept.refl w))
  obtain ⟨AA, cA0, eA0, _⟩ := own_form h.own2
  have EA := Lib.hid eA0
  clear eA0 h
  go_enter Try.func36, Try.ntmps36
  go_wp2_with (fail)
  go_loopw [1, 6] (fun q i wr => ∃ k : Nat, k ≤ m.waits.length ∧ i = .int .i64 k ∧ q = .int .u64 (keep / 2 ^ (min k 64)) ∧ LayR w B x vS vA vB hB m (fun i => keeps keep i || all) k wr) (fun _ i _ => m.waits.length - (intOf i).toNat)
  case atStart => exact ⟨0, by omega, rfl, by simp, HL0.out⟩
  case round =>
    obtain ⟨k, hk, rfl, rfl, hr⟩ := hrel
    have HR := Lib.hid hr
    obtain ⟨c0, c1, c2⟩ := hr.read
    rw [EA.out] at c1
    clear hr
    have kp0 : 0 ≤ keep / 2 ^ (min k 64) := Int.ediv_nonneg hk0 (Int.le_of_lt (Int.pow_pos (by decide)))
    have kp1 : keep / 2 ^ (min k 64) ≤ keep := Int.ediv_le_self _ hk0
    have HKQ := Lib.hid (show k < 64 → keep / 2 ^ (min k 64) / 2 = keep / 2 ^ (min (k + 1) 64) from fun h => by
      rw [Nat.min_eq_left (by omega), Nat.min_eq_left (by omega)]
      exact half keep k hk0)
    have HKR := Lib.hid (show k < 64 → keeps keep k = (keep / 2 ^ (min k 64) % 2 == 1) from fun h => by
      rw [Nat.min_eq_left (by omega)]; simp [keeps, h])
    have HKN := Lib.hid (show ¬ k < 64 → keeps keep k = false ∧ keep / 2 ^ (min k 64) = keep / 2 ^ (min (k + 1) 64) from fun h => by
      rw [Nat.min_eq_right (by omega), Nat.min_eq_right (by omega)]
      exact ⟨by simp [keeps, h], rfl⟩)
    generalize hqq : keep / 2 ^ (min k 64) = q at *
    have HQQ := Lib.hid hqq
    clear hqq
    by_cases hlt : k < m.waits.length
    · obtain ⟨gS, cS, gA, cA, gB, cB, b1, cc1, u, eS, eA, eB, dA, dB, hdv, dS, fS, hat⟩ := layr_cells HR.out hlt
      subst eS; subst eA; subst eB
      rw [show AA = some ⟨gA, 0, none⟩ by have := EA.out; injection this with q1 q2 q3; exact q1.symm] at c1
      have RN := Lib.hid (layr_no HR.out hlt)
      have RY := Lib.hid (fun w2 => layr_yes (w2 := w2) HG.out HR.out hlt)
      have HDV := Lib.hid hdv
      have i0 : (0 : Int) ≤ (m.waits[k].1 : Int) := by omega
      have i1 : (m.waits[k].1 : Int) < (m.secs.length : Int) := by omega
      generalize hww : m.waits[k] = ww at *
      have HWW := Lib.hid hww
      clear hww hdv hat
      have k0 : (0 : Int) ≤ (k : Int) := by omega
      have k1 : (k : Int) < (m.waits.length : Int) := by omega
      have PK := Lib.hid (show (fun i => keeps keep i || all) k = (keeps keep k || all) from rfl)
      cases all
      · by_cases h64 : k < 64
        · have h64' : (k : Int) < 64 := by omega
          have HE := Lib.hid (HKR.out h64)
          have HQ := Lib.hid (HKQ.out h64)
          cases hr : (q % 2 == 1)
          · have HEE := Lib.hid (HE.out.trans hr)
            have HPK := Lib.hid (show (fun i => keeps keep i || false) k = false by show (keeps keep k || false) = _; rw [HEE.out]; rfl)
            go_wp2_with (fail)
            go_roundw
            case rel => exact ⟨k + 1, by omega, by go_num, by rw [← HQ.out], RN.out HPK.out⟩
            case measure => simp [intOf]; omega
          · have HEE := Lib.hid (HE.out.trans hr)
            have HPK := Lib.hid (show (fun i => keeps keep i || false) k = true by show (keeps keep k || false) = _; rw [HEE.out]; rfl)
            go_wp2_with (fail)
            refine wp_region_plan [0, 1, 2, 4, 5, 6, 8, 11, 12, 13, 15, 3, 7, 9, 10, 14, 16, 17, 18] [[19]] (by kernel_rfl) (by kernel_rfl) (fun _ _ _ _ _ h => h) ?_
            simp only [forks, pick, List.getElem?_cons_succ, List.getElem?_cons_zero, Option.getD_some]
            iterate 19 still_step
            refine wpStill_nil ?_
            go_wp2_with (fail)
            go_roundw
            case rel => exact ⟨k + 1, by omega, by go_num, by rw [← HQ.out], RY.out _ HPK.out HDV.out (Below.refl _ _).drew⟩
            case measure => simp [intOf]; omega
        · have h64' : ¬ (k : Int) < 64 := by omega
          have HE := Lib.hid (HKN.out h64)
          have HPK := Lib.hid (show (fun i => keeps keep i || false) k = false by show (keeps keep k || false) = _; rw [HE.out.1]; rfl)
          go_wp2_with (fail)
          go_roundw
          case rel => exact ⟨k + 1, by omega, by go_num, by rw [← HE.out.2], RN.out HPK.out⟩
          case measure => simp [intOf]; omega
      · by_cases h64 : k < 64
        · have h64' : (k : Int) < 64 := by omega
          have HE := Lib.hid (HKR.out h64)
          have HQ := Lib.hid (HKQ.out h64)
          cases hr : (q % 2 == 1)
          · have HEE := Lib.hid (HE.out.trans hr)
            have HPK := Lib.hid (show (fun i => keeps keep i || true) k = true by show (keeps keep k || true) = _; rw [HEE.out]; rfl)
            go_wp2_with (fail)
            refine wp_region_plan [0, 1, 2, 4, 5, 6, 8, 11, 12, 13, 15, 3, 7, 9, 10, 14, 16, 17, 18] [[19]] (by kernel_rfl) (by kernel_rfl) (fun _ _ _ _ _ h => h) ?_
            simp only [forks, pick, List.getElem?_cons_succ, List.getElem?_cons_zero, Option.getD_some]
            iterate 19 still_step
            refine wpStill_nil ?_
            go_wp2_with (fail)
            go_roundw
            case rel => exact ⟨k + 1, by omega, by go_num, by rw [← HQ.out], RY.out _ HPK.out HDV.out (Below.refl _ _).drew⟩
            case measure => simp [intOf]; omega
          · have HEE := Lib.hid (HE.out.trans hr)
            have HPK := Lib.hid (show (fun i => keeps keep i || true) k = true by show (keeps keep k || true) = _; rw [HEE.out]; rfl)
            go_wp2_with (fail)
            refine wp_region_plan [0, 1, 2, 4, 5, 6, 8, 11, 12, 13, 15, 3, 7, 9, 10, 14, 16, 17, 18] [[19]] (by kernel_rfl) (by kernel_rfl) (fun _ _ _ _ _ h => h) ?_
            simp only [forks, pick, List.getElem?_cons_succ, List.getElem?_cons_zero, Option.getD_some]
            iterate 19 still_step
            refine wpStill_nil ?_
            go_wp2_with (fail)
            go_roundw
            case rel => exact ⟨k + 1, by omega, by go_num, by rw [← HQ.out], RY.out _ HPK.out HDV.out (Below.refl _ _).drew⟩
            case measure => simp [intOf]; omega
        · have h64' : ¬ (k : Int) < 64 := by omega
          have HE := Lib.hid (HKN.out h64)
          have HPK := Lib.hid (show (fun i => keeps keep i || true) k = true by show (keeps keep k || true) = _; rw [HE.out.1]; rfl)
          go_wp2_with (fail)
          refine wp_region_plan [0, 1, 2, 4, 5, 6, 8, 11, 12, 13, 15, 3, 7, 9, 10, 14, 16, 17, 18] [[19]] (by kernel_rfl) (by kernel_rfl) (fun _ _ _ _ _ h => h) ?_
          simp only [forks, pick, List.getElem?_cons_succ, List.getElem?_cons_zero, Option.getD_some]
          iterate 19 still_step
          refine wpStill_nil ?_
          go_wp2_with (fail)
          go_roundw
          case rel => exact ⟨k + 1, by omega, by go_num, by rw [← HE.out.2], RY.out _ HPK.out HDV.out (Below.refl _ _).drew⟩
          case measure => simp [intOf]; omega
    · obtain rfl : k = m.waits.length := by omega
      obtain ⟨hS', href⟩ := HR.out.ref
      have HREF := Lib.hid href
      have fr1 := href.blk.frozen 1
      have fr2 := href.blk.frozen 2
      have hxl := href.blk.lt
      clear href
      go_wp2_with (fail)
      go_end0
      exact ⟨rfl, layr_end HG.out HREF.out HR.out.bel HR.out.kept⟩

set_option maxHeartbeats 1000000 in
theorem flush_at {w : World} {B x : Nat} {m : DS} (h : RefOwn w B x m) (hB0 : B ≤ w.heap.size) (hwl : m.waits.length ≤ 1000000) :
    Calls Try.prog 35 #[.pointer (some ⟨x, 0, none⟩)] w fun e w' => e = .returned (.int .i64 m.flush.1) ∧ RefOwn w' B x m.flush.2 ∧ Below B w w' ∧ RKept w w' := by
  obtain ⟨vS, vA, vB, hS, hB, h⟩ := h
  have HB := Lib.hid (goes_at h)
  cases hg : m.goes
  · have e : m.flush = (8, m.burnt) := by simp [DS.flush, hg]
    rw [e]
    rw [hg] at HB
    clear e hg h
    go_enter Try.func35, Try.ntmps35
    go_wp2_with (fail)
    refine HB.out.mono ?_; rintro e w' ⟨rfl, hd, hb, hk⟩
    have HD := Lib.hid hd; have HBB := Lib.hid hb; have HK := Lib.hid hk; clear hd hb hk
    go_wp2_with (fail)
    go_ret
    exact ⟨rfl, ⟨vS, vA, vB, hS, hB, HD.out⟩, HBB.out, HK.out⟩
  · have e : m.flush = (0, m.burnt.lay fun i => keeps 0 i || true) := by simp [DS.flush, hg]
    rw [e]
    rw [hg] at HB
    clear e hg h
    go_enter Try.func35, Try.ntmps35
    go_wp2_with (fail)
    refine HB.out.mono ?_; rintro e w' ⟨rfl, hd, hb, hk⟩
    have HD := Lib.hid hd; have HBB := Lib.hid hb; have HK := Lib.hid hk; clear hd hb hk
    go_wp2_with (fail)
    refine (lay_at ⟨vS, vA, vB, hS, hB, HD.out⟩ (Nat.le_trans hB0 HBB.out.size) 0 true (by omega) (by omega) (by rw [DS.burnt_waits]; exact hwl)).mono ?_; rintro e w2 ⟨rfl, hd, hb, hk⟩
    have HD2 := Lib.hid hd; have HB2 := Lib.hid hb; have HK2 := Lib.hid hk; clear hd hb hk
    go_wp2_with (fail)
    go_ret
    exact ⟨rfl, HD2.out, HBB.out.trans HB2.out, HK.out.trans HK2.out⟩

end Go.Proofs.Ytjncpincmkpdpaa.refDisk
