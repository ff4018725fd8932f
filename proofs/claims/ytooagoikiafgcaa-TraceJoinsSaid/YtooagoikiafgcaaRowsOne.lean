/-
  PROVED HERE: rows of a log as they lie, and what the closure of trace.rows hands on, one by one.
  CONDITIONS: each lemma names its own.
-/
import Derived.Test.YtooagoikiafgcaaRowClone
import Derived.Test.YtooagoikiafgcaaSep
import Derived.Test.YtooagoikiafgcaaRound
import Derived.Test.YtooagoikiafgcaaSegs
import Derived.Test.YtooagoikiafgcaaTabSched
import Derived.RangeFuncNested
import Derived.RangeFuncBound
import Derived.RangeFuncCalls
import Derived.RangeFuncLeaves
import Derived.Shelf.Abstract
import Derived.Shelf.RegionOpen
import Derived.OwnWalkIn
import Derived.TacticsInMore
import Derived.LoopNIn
import Derived.LoopIn
import Derived.Maps.AppendAt
namespace Go.Proofs.Ytooagoikiafgcaa.joins
set_option linter.unusedVariables false
open Go.RowKit Go.Shelf Go.Proofs.Ytooagoikiafgcaa.base Go.Proofs.Ytooagoikiafgcaa.obj Go.Proofs.Ytooagoikiafgcaa.mem Go.Proofs.Ytooagoikiafgcaa.tab Go.Proofs.Ytooagoikiafgcaa.sep Go.Proofs.Ytooagoikiafgcaa.plan

/-- a row as it lies: its data, and where its slices lie -/
structure RowC where
  d : RowD
  AS : Option Addr
  cS : Nat
  AK : Option Addr
  cK : Nat
  AM : Option Addr
  cM : Nat
def RowC.cells (x : RowC) : List Value := [.int .i64 x.d.tick, .bool x.d.booted, .bool x.d.ran, .int .i64 x.d.version, .int .i64 x.d.slot, .slice x.AS x.d.sent.length x.cS, .int .i64 x.d.pc, .slice x.AK x.d.stack.length x.cK, .slice x.AM x.d.mem.length x.cM, .int .i64 x.d.ticks, .int .i64 x.d.fault]
structure RowC.In (w : World) (B : Nat) (x : RowC) : Prop where
  sent : w.ownsRow B 152 2 (.slice x.AS x.d.sent.length x.cS) x.d.sent.length (t2s x.d.sent)
  stack : w.ownsRow B 3 1 (.slice x.AK x.d.stack.length x.cK) x.d.stack.length (x.d.stack.map (.int .i64))
  mem : w.ownsRow B 3 1 (.slice x.AM x.d.mem.length x.cM) x.d.mem.length (x.d.mem.map (.int .i64))
theorem ints_one (l : List Int) : ∀ u ∈ l.map (Value.int .i64), u.oneCell' = true := by
  intro u hu
  obtain ⟨i, _, rfl⟩ := List.mem_map.1 hu
  rfl
/-- the row that is being filled -/
def rowSt (tick : Int) (x : Bool × Int × Int) : List Value := [.int .i64 tick, .bool x.1, .bool false, .int .i64 x.2.1, .int .i64 x.2.2, .slice none 0 0, .int .i64 0, .slice none 0 0, .slice none 0 0, .int .i64 0, .int .i64 0]

set_option maxRecDepth 100000 in
set_option maxHeartbeats 8000000 in
theorem rows1_in (w0 : World) (n0 Bl Bp l : Nat) (part : Int) (A : Option Addr) (n c : Nat) (evs : List EvC) (hn : n = evs.length) (hs : Sl w0 w0.heap.size 11 A n (evc evs)) (hin : ∀ x ∈ evs, x.In w0 w0.heap.size) (hm : n ≤ maxLen)
    (hlen : ∀ x ∈ evs, x.d.booted.length ≤ 100000 ∧ x.d.sent.length ≤ 100000 ∧ x.d.stack.length ≤ 100000 ∧ x.d.mem.length ≤ 100000)
    (hn0 : w0.heap.size ≤ n0) (hBl : Bl < n0) (hBp : Bp < n0) (J Jx : List RowC → World → Prop)
    (hY : ∀ pre x W, J pre W → x.In W n0 → pre.length < n → YieldAt Fence.wide 8 Try.prog l #[.agg x.cells.toArray] W fun e W' =>
      (e = .returned (.bool true) ∧ J (pre ++ [x]) W' ∧ Below n0 W W') ∨ (e = .returned (.bool false) ∧ Jx (pre ++ [x]) W'))
    (hJ : ∀ s W W', J s W → Below W.heap.size W W' → J s W')
    (W : World) (hW : Below w0.heap.size w0 W) (hWn : n0 ≤ W.heap.size) (cl : W.cell? ⟨Bl, 0, none⟩ = some (.slice A n c)) (cp : W.cell? ⟨Bp, 0, none⟩ = some (.int .i64 part)) (h0 : J [] W) :
    CallsIn Fence.wide 9 Try.prog 104 #[.func (.yield l) #[] #[], .pointer (some ⟨Bl, 0, none⟩), .pointer (some ⟨Bp, 0, none⟩)] W fun e W' => (∃ v, e = .returned v) ∧
      ((∃ ys, ys.map RowC.d = viewL part (evs.map EvC.d) ∧ J ys W') ∨ (∃ pre, Jx pre W')) := by
  refine callsIn_wide.2 ?_
  have HS := Lib.hid hs; have HIN := Lib.hid hin; have HLEN := Lib.hid hlen; have HY := Lib.hid hY; have HJ := Lib.hid hJ; have HW := Lib.hid hW; have HN := Lib.hid hn
  have HM := Lib.hid (show n ≤ 9223372036854775807 from by unfold maxLen at hm; omega)
  clear hs hin hlen hY hJ hn hm
  go_enter Try.func104, Try.ntmps104
  go_wp2_with (fail)
  go_loopw [11] (fun i wr => ∃ (k : Nat) (ys : List RowC), k ≤ n ∧ i = .int .i64 k ∧ ys.map RowC.d = viewL part ((evs.take k).map EvC.d) ∧ J ys wr ∧ Below n0 W wr ∧ n0 ≤ wr.heap.size) (fun i _ => n - (intOf i).toNat)
  case atStart => exact ⟨0, [], by omega, rfl, rfl, h0, Below.refl _ _, hWn⟩
  case round =>
    obtain ⟨k, ys, hk, rfl, hd, hJ, hb, hnr⟩ := hrel
    obtain ⟨wo, hwo⟩ : ∃ wo, wo = wr := ⟨_, rfl⟩
    subst hwo
    have HD := Lib.hid hd; have HJ0 := Lib.hid hJ; have HB := Lib.hid hb
    have HB0 := Lib.hid (HW.out.trans (hb.mono hn0))
    have cpr : wo.cell? ⟨Bp, 0, none⟩ = some (.int .i64 part) := (hb.cell (p := ⟨Bp, 0, none⟩) hBp).trans cp
    clear hd hJ hb cl cp
    by_cases hlt : k < n
    · obtain ⟨x, hx⟩ : ∃ x, x = evs[k]'(by rw [← HN.out]; exact hlt) := ⟨_, rfl⟩
      obtain ⟨b, off, rfl, lb, hc⟩ := evc_at HS.out HN.out HB0.out (k := k) (by rw [← HN.out]; exact hlt)
      rw [← hx] at hc
      have HX := Lib.hid hx
      have HXIN := Lib.hid (EvC.In.over (HIN.out x (by rw [hx]; exact List.getElem_mem _)) HB0.out)
      have HXL := Lib.hid (HLEN.out x (by rw [hx]; exact List.getElem_mem _))
      clear hx
      obtain ⟨⟨tick, booted, prt, sent, confirm, pc, stack, mem_, ticks, fault, answered⟩, AB, cB, AS, cS, AK, cK, AM, cM⟩ := x
      have e0 := hc 0 _ (by decide) rfl
      have e1 := hc 1 _ (by decide) rfl
      have e2 := hc 2 _ (by decide) rfl
      have e3 := hc 3 _ (by decide) rfl
      have e4 := hc 4 _ (by decide) rfl
      have e5 := hc 5 _ (by decide) rfl
      have e6 := hc 6 _ (by decide) rfl
      have e7 := hc 7 _ (by decide) rfl
      have e8 := hc 8 _ (by decide) rfl
      have e9 := hc 9 _ (by decide) rfl
      have e10 := hc 10 _ (by decide) rfl
      clear hc
      dsimp only at e0 e1 e2 e3 e4 e5 e6 e7 e8 e9 e10
      rw [Nat.add_zero] at e0
      obtain ⟨Bv, hBv⟩ : ∃ B, B = wo.heap.size := ⟨_, rfl⟩
      obtain ⟨Br, hBr⟩ : ∃ B, B = wo.heap.size + 1 := ⟨_, rfl⟩
      obtain ⟨w1, hw1⟩ : ∃ w1, w1 = (wo.alloc (.cells #[.int .i64 tick, .slice AB booted.length cB, .int .i64 prt, .slice AS sent.length cS, .bool confirm, .int .i64 pc, .slice AK stack.length cK, .slice AM mem_.length cM, .int .i64 ticks, .int .i64 fault, .bool answered] 49)).alloc (.cells #[.int .i64 tick, .bool false, .bool false, .int .i64 0, .int .i64 0, .slice none 0 0, .int .i64 0, .slice none 0 0, .slice none 0 0, .int .i64 0, .int .i64 0] 145) := ⟨_, rfl⟩
      have H1 := Lib.hid (show St wo w1 [row Br 145 (rowSt tick (boots part (booted.take 0))), row Bv 49 [.int .i64 tick, .slice AB booted.length cB, .int .i64 prt, .slice AS sent.length cS, .bool confirm, .int .i64 pc, .slice AK stack.length cK, .slice AM mem_.length cM, .int .i64 ticks, .int .i64 fault, .bool answered]] by
        rw [hw1, hBv, hBr]
        have h := ((St.nil wo).new 49 #[.int .i64 tick, .slice AB booted.length cB, .int .i64 prt, .slice AS sent.length cS, .bool confirm, .int .i64 pc, .slice AK stack.length cK, .slice AM mem_.length cM, .int .i64 ticks, .int .i64 fault, .bool answered]).new 145 #[.int .i64 tick, .bool false, .bool false, .int .i64 0, .int .i64 0, .slice none 0 0, .int .i64 0, .slice none 0 0, .slice none 0 0, .int .i64 0, .int .i64 0]
        simp only [World.size_alloc] at h
        exact h)
      have HW1 := Lib.hid hw1; have HBv := Lib.hid hBv; have HBr := Lib.hid hBr
      clear hw1 hBv hBr
      go_wp2_with (fail)
      rw [← HW1.out, ← HBr.out, ← HBv.out]
      have HNB := Lib.hid (show booted.length ≤ 9223372036854775807 from by have := HXL.out.1; (try dsimp only at this); omega)
      clear e0 e1 e2 e3 e4 e5 e6 e7 e8 e9 e10
      go_loopw [21] (fun i wi => ∃ j : Nat, j ≤ booted.length ∧ i = .int .i64 j ∧ St wo wi [row Br 145 (rowSt tick (boots part (booted.take j))), row Bv 49 [.int .i64 tick, .slice AB booted.length cB, .int .i64 prt, .slice AS sent.length cS, .bool confirm, .int .i64 pc, .slice AK stack.length cK, .slice AM mem_.length cM, .int .i64 ticks, .int .i64 fault, .bool answered]]) (fun i _ => booted.length - (intOf i).toNat)
      case atStart => exact ⟨0, by omega, rfl, H1.out⟩
      case round =>
        obtain ⟨j, hj, rfl, hst⟩ := hrel
        have H2 := Lib.hid hst
        clear hst
        by_cases hjl : j < booted.length
        · obtain ⟨bb, ob, hAB, lbb, c0, c1, c2⟩ := t3s_get ((HXIN.out.booted.below H2.out.bel).more H2.out.bel.size) rfl hjl
          obtain ⟨y, hy⟩ : ∃ y, y = booted[j] := ⟨_, rfl⟩
          rw [← hy] at c0 c1 c2
          have HY2 := Lib.hid hy
          clear hy
          obtain ⟨ya, yb, yc⟩ := y
          dsimp only at hAB c0 c1 c2
          subst hAB
          have cpi : wr.cell? ⟨Bp, 0, none⟩ = some (.int .i64 part) := cell_below H2.out.bel cpr
          have lp : Bp < wr.heap.size := World.block_lt_of_cell? wr _ cpi
          have hjn : j + 1 ≤ booted.length := hjl
          have hnb := HNB.out
          obtain ⟨w3, hw3⟩ : ∃ w3, w3 = wr.alloc (.cells #[.int .i64 ya, .int .i64 yb, .int .i64 yc] 196) := ⟨_, rfl⟩
          obtain ⟨Bb, hBb⟩ : ∃ B, B = wr.heap.size := ⟨_, rfl⟩
          have H3 := Lib.hid ((H2.out.new 196 #[.int .i64 ya, .int .i64 yb, .int .i64 yc]).pick 1 rfl)
          rw [← hw3, ← hBb] at H3
          have HST := Lib.hid (boots_snoc part (booted.take j) ⟨ya, yb, yc⟩)
          rw [HY2.out, List.take_append_getElem hjl] at HST
          have HW3 := Lib.hid hw3; have HBb := Lib.hid hBb
          clear hw3 hBb
          obtain ⟨q, hq⟩ : ∃ q, q = boots part (booted.take j) := ⟨_, rfl⟩
          rw [← hq] at H3 HST
          have HQ := Lib.hid hq
          clear hq
          obtain ⟨q0, q1, q2⟩ := q
          by_cases hyp : ya = part
          · subst hyp
            have HE := Lib.hid (show boots ya (booted.take (j + 1)) = (true, yb, yc) by rw [HST.out, ← HY2.out]; simp [bootStep])
            go_upto_region 8 with fail
            rw [← HW3.out, ← HBb.out]
            have c1 : w3.cell? ⟨Bb, 1, none⟩ = some (.int .i64 yb) := (H3.out.pick 1 rfl).row.1.cell 1
            have c2 : w3.cell? ⟨Bb, 2, none⟩ = some (.int .i64 yc) := (H3.out.pick 1 rfl).row.1.cell 2
            have lb : Bb < w3.heap.size := (H3.out.pick 1 rfl).row.1.lt
            have lr : Br < w3.heap.size := H3.out.row.1.lt
            have r1 : w3.cell? ⟨Br, 1, none⟩ = some (.bool q0) := H3.out.row.1.cell 1
            have r3 : w3.cell? ⟨Br, 3, none⟩ = some (.int .i64 q1) := H3.out.row.1.cell 3
            have r4 : w3.cell? ⟨Br, 4, none⟩ = some (.int .i64 q2) := H3.out.row.1.cell 4
            have hne : ¬ Br = Bb := H3.out.ne
            have hne2 : ¬ Bb = Br := fun e => hne e.symm
            have f1 := H3.out.row.1.frozen 1
            have f3 := H3.out.row.1.frozen 3
            have f4 := H3.out.row.1.frozen 4
            go_region
            go_wp2_with (fail)
            go_roundw
            case rel =>
              refine ⟨j + 1, hjn, by go_num, ?_⟩
              rw [HE.out]
              exact ((((H3.out.set 1 (.bool true)).set 3 (.int .i64 yb)).set 4 (.int .i64 yc)).drew).swap.drop
            case measure => simp only [intOf]; omega
          · have hyb : (ya == part) = false := by simp [hyp]
            have HE := Lib.hid (show boots part (booted.take (j + 1)) = (q0, q1, q2) by rw [HST.out, ← HY2.out]; simp [bootStep, hyp])
            clear hyp
            go_wp2_with (fail)
            rw [← HW3.out]
            go_roundw
            case rel =>
              refine ⟨j + 1, hjn, by go_num, ?_⟩
              rw [HE.out]
              exact H3.out.swap.drop
            case measure => simp only [intOf]; omega
        · obtain rfl : j = booted.length := by omega
          obtain ⟨q, hq⟩ : ∃ q, q = boots part booted := ⟨_, rfl⟩
          rw [List.take_length, ← hq] at H2
          have HQ := Lib.hid hq
          clear hq
          obtain ⟨q0, q1, q2⟩ := q
          have cpi : wr.cell? ⟨Bp, 0, none⟩ = some (.int .i64 part) := cell_below H2.out.bel cpr
          have lp : Bp < wr.heap.size := World.block_lt_of_cell? wr _ cpi
          have v2 : wr.cell? ⟨Bv, 2, none⟩ = some (.int .i64 prt) := (H2.out.pick 1 rfl).row.1.cell 2
          have lv : Bv < wr.heap.size := (H2.out.pick 1 rfl).row.1.lt
          have lr : Br < wr.heap.size := H2.out.row.1.lt
          have r2 : wr.cell? ⟨Br, 2, none⟩ = some (.bool false) := H2.out.row.1.cell 2
          have f2 := H2.out.row.1.frozen 2
          have hne : ¬ Br = Bv := H2.out.ne
          have hne2 : ¬ Bv = Br := fun e => hne e.symm
          obtain ⟨w4, hw4⟩ : ∃ w4, w4 = wr.setCell ⟨Br, 2, none⟩ (.bool (prt == part)) := ⟨_, rfl⟩
          have H4 := Lib.hid (H2.out.set 2 (.bool (prt == part)))
          rw [← hw4] at H4
          have HW4 := Lib.hid hw4
          clear hw4
          have HRO := Lib.hid (show rowOf part ⟨tick, booted, prt, sent, confirm, pc, stack, mem_, ticks, fault, answered⟩ = if prt = part then ⟨tick, q0, true, q1, q2, sent, pc, stack, mem_, ticks, fault⟩ else ⟨tick, q0, false, q1, q2, [], 0, [], [], 0, 0⟩ by
            unfold rowOf
            dsimp only
            rw [← HQ.out])
          go_upto_if 43 with (fail)
          rw [← HW4.out]
          go_cut [] (fun wc => ∃ X : RowC, Row wc Br 145 X.cells ∧ Below wo.heap.size wo wc ∧ X.In wc wo.heap.size ∧ X.d = rowOf part ⟨tick, booted, prt, sent, confirm, pc, stack, mem_, ticks, fault, answered⟩)
          case first =>
            clear r2 f2 v2 lv lr
            by_cases hyp : prt = part
            · have hyb : (prt == part) = true := by simp [hyp]
              rw [hyb] at H4
              go_upto_region 12 with fail
              have v3 : w4.cell? ⟨Bv, 3, none⟩ = some (.slice AS sent.length cS) := (H4.out.pick 1 rfl).row.1.cell 3
              have lv : Bv < w4.heap.size := (H4.out.pick 1 rfl).row.1.lt
              have HSS := Lib.hid ((HXIN.out.sent.below H4.out.bel).more H4.out.bel.size)
              have HCS := Lib.hid (clone_sent w4.drew AS sent.length cS (t2s sent) HSS.out (t2s_one _) HXL.out.2.1)
              go_cut [] (fun wc => ∃ AS' cS', St wo wc [own 152 2 (.slice AS' sent.length cS') sent.length (t2s sent), row Br 145 [.int .i64 tick, .bool q0, .bool true, .int .i64 q1, .int .i64 q2, .slice AS' sent.length cS', .int .i64 pc, .slice AK stack.length cK, .slice AM mem_.length cM, .int .i64 ticks, .int .i64 fault], row Bv 49 [.int .i64 tick, .slice AB booted.length cB, .int .i64 prt, .slice AS sent.length cS, .bool confirm, .int .i64 pc, .slice AK stack.length cK, .slice AM mem_.length cM, .int .i64 ticks, .int .i64 fault, .bool answered]])
              case first =>
                refine segs_start (by kernel_rfl) ?_
                refine segs_take [0, 3, 1] (by kernel_rfl) (fun _ _ _ _ _ h => h) ?_
                simp only [pick, List.getElem?_cons_succ, List.getElem?_cons_zero, Option.getD_some]
                iterate 3 still_step
                refine wpStill_nil ?_
                refine segs_two 2 4 (by kernel_rfl) (by rfl) (by rfl) ?_ ?_
                · try simp only [List.getElem?_cons_succ, List.getElem?_cons_zero, Option.getD_some]
                  go_simp
                  (with_reducible refine HCS.out.mono ?_)
                  rintro e w5 ⟨A1, c1, rfl, ho5, hb5⟩
                  have H5 := Lib.hid (H4.out.drew.addOwn hb5 ho5)
                  clear ho5 hb5
                  have v5 : w5.cell? ⟨Bv, 5, none⟩ = some (.int .i64 pc) := (H5.out.pick 2 rfl).row.1.cell 5
                  have v6 : w5.cell? ⟨Bv, 6, none⟩ = some (.slice AK stack.length cK) := (H5.out.pick 2 rfl).row.1.cell 6
                  have v7 : w5.cell? ⟨Bv, 7, none⟩ = some (.slice AM mem_.length cM) := (H5.out.pick 2 rfl).row.1.cell 7
                  have v8 : w5.cell? ⟨Bv, 8, none⟩ = some (.int .i64 ticks) := (H5.out.pick 2 rfl).row.1.cell 8
                  have v9 : w5.cell? ⟨Bv, 9, none⟩ = some (.int .i64 fault) := (H5.out.pick 2 rfl).row.1.cell 9
                  have lr : Br < w5.heap.size := (H5.out.pick 1 rfl).row.1.lt
                  have r5 : w5.cell? ⟨Br, 5, none⟩ = some (.slice none 0 0) := (H5.out.pick 1 rfl).row.1.cell 5
                  have r6 : w5.cell? ⟨Br, 6, none⟩ = some (.int .i64 0) := (H5.out.pick 1 rfl).row.1.cell 6
                  have r7 : w5.cell? ⟨Br, 7, none⟩ = some (.slice none 0 0) := (H5.out.pick 1 rfl).row.1.cell 7
                  have r8 : w5.cell? ⟨Br, 8, none⟩ = some (.slice none 0 0) := (H5.out.pick 1 rfl).row.1.cell 8
                  have r9 : w5.cell? ⟨Br, 9, none⟩ = some (.int .i64 0) := (H5.out.pick 1 rfl).row.1.cell 9
                  have r10 : w5.cell? ⟨Br, 10, none⟩ = some (.int .i64 0) := (H5.out.pick 1 rfl).row.1.cell 10
                  have f5 := (H5.out.pick 1 rfl).row.1.frozen 5
                  have f6 := (H5.out.pick 1 rfl).row.1.frozen 6
                  have f7 := (H5.out.pick 1 rfl).row.1.frozen 7
                  have f8 := (H5.out.pick 1 rfl).row.1.frozen 8
                  have f9 := (H5.out.pick 1 rfl).row.1.frozen 9
                  have f10 := (H5.out.pick 1 rfl).row.1.frozen 10
                  try dsimp only
                  try simp only [Act.put, List.setIfInBounds_toArray, List.set_cons_zero, List.set_cons_succ]
                  refine segs_take [5] (by kernel_rfl) (fun _ _ _ _ _ h => h) ?_
                  simp only [pick, List.getElem?_cons_succ, List.getElem?_cons_zero, Option.getD_some]
                  iterate 1 still_step
                  refine wpStill_nil ?_
                  refine segs_two 4 6 (by kernel_rfl) (by rfl) (by rfl) ?_ ?_
                  · try simp only [List.getElem?_cons_succ, List.getElem?_cons_zero, Option.getD_some]
                    go_simp
                    try dsimp only
                    try simp only [Act.put, List.setIfInBounds_toArray, List.set_cons_zero, List.set_cons_succ]
                    refine segs_one 6 (by kernel_rfl) (by rfl) ?_
                    try simp only [List.getElem?_cons_succ, List.getElem?_cons_zero, Option.getD_some]
                    go_simp
                    try dsimp only
                    try simp only [Act.put, List.setIfInBounds_toArray, List.set_cons_zero, List.set_cons_succ]
                    refine segs_take [7] (by kernel_rfl) (fun _ _ _ _ _ h => h) ?_
                    simp only [pick, List.getElem?_cons_succ, List.getElem?_cons_zero, Option.getD_some]
                    iterate 1 still_step
                    refine wpStill_nil ?_
                    refine segs_one 8 (by kernel_rfl) (by rfl) ?_
                    try simp only [List.getElem?_cons_succ, List.getElem?_cons_zero, Option.getD_some]
                    go_simp
                    try dsimp only
                    try simp only [Act.put, List.setIfInBounds_toArray, List.set_cons_zero, List.set_cons_succ]
                    refine segs_end (by kernel_rfl) ?_
                    go_wp2_with (fail)
                    go_meet
                    exact ⟨A1, c1, ((((((H5.out.pick 1 rfl).set 5 (.slice A1 sent.length c1)).set 6 (.int .i64 pc)).set 7 (.slice AK stack.length cK)).set 8 (.slice AM mem_.length cM)).set 9 (.int .i64 ticks)).set 10 (.int .i64 fault) |>.swap⟩
                  · try simp only [List.getElem?_cons_succ, List.getElem?_cons_zero, Option.getD_some]
                    go_simp
                    try dsimp only
                    try simp only [Act.put, List.setIfInBounds_toArray, List.set_cons_zero, List.set_cons_succ]
                    refine segs_take [4, 7] (by kernel_rfl) (fun _ _ _ _ _ h => h) ?_
                    simp only [pick, List.getElem?_cons_succ, List.getElem?_cons_zero, Option.getD_some]
                    iterate 2 still_step
                    refine wpStill_nil ?_
                    refine segs_one 8 (by kernel_rfl) (by rfl) ?_
                    try simp only [List.getElem?_cons_succ, List.getElem?_cons_zero, Option.getD_some]
                    go_simp
                    try dsimp only
                    try simp only [Act.put, List.setIfInBounds_toArray, List.set_cons_zero, List.set_cons_succ]
                    refine segs_end (by kernel_rfl) ?_
                    go_wp2_with (fail)
                    go_meet
                    exact ⟨A1, c1, ((((((H5.out.pick 1 rfl).set 5 (.slice A1 sent.length c1)).set 6 (.int .i64 pc)).set 7 (.slice AK stack.length cK)).set 8 (.slice AM mem_.length cM)).set 9 (.int .i64 ticks)).set 10 (.int .i64 fault) |>.swap⟩
                · have v5 : w4.cell? ⟨Bv, 5, none⟩ = some (.int .i64 pc) := (H4.out.pick 1 rfl).row.1.cell 5
                  have v6 : w4.cell? ⟨Bv, 6, none⟩ = some (.slice AK stack.length cK) := (H4.out.pick 1 rfl).row.1.cell 6
                  have v7 : w4.cell? ⟨Bv, 7, none⟩ = some (.slice AM mem_.length cM) := (H4.out.pick 1 rfl).row.1.cell 7
                  have v8 : w4.cell? ⟨Bv, 8, none⟩ = some (.int .i64 ticks) := (H4.out.pick 1 rfl).row.1.cell 8
                  have v9 : w4.cell? ⟨Bv, 9, none⟩ = some (.int .i64 fault) := (H4.out.pick 1 rfl).row.1.cell 9
                  try simp only [List.getElem?_cons_succ, List.getElem?_cons_zero, Option.getD_some]
                  go_simp
                  try dsimp only
                  try simp only [Act.put, List.setIfInBounds_toArray, List.set_cons_zero, List.set_cons_succ]
                  refine segs_one 2 (by kernel_rfl) (by rfl) ?_
                  try simp only [List.getElem?_cons_succ, List.getElem?_cons_zero, Option.getD_some]
                  go_simp
                  (with_reducible refine HCS.out.mono ?_)
                  rintro e w5 ⟨A1, c1, rfl, ho5, hb5⟩
                  have H5 := Lib.hid (H4.out.drew.addOwn hb5 ho5)
                  clear ho5 hb5
                  have v5 : w5.cell? ⟨Bv, 5, none⟩ = some (.int .i64 pc) := (H5.out.pick 2 rfl).row.1.cell 5
                  have v6 : w5.cell? ⟨Bv, 6, none⟩ = some (.slice AK stack.length cK) := (H5.out.pick 2 rfl).row.1.cell 6
                  have v7 : w5.cell? ⟨Bv, 7, none⟩ = some (.slice AM mem_.length cM) := (H5.out.pick 2 rfl).row.1.cell 7
                  have v8 : w5.cell? ⟨Bv, 8, none⟩ = some (.int .i64 ticks) := (H5.out.pick 2 rfl).row.1.cell 8
                  have v9 : w5.cell? ⟨Bv, 9, none⟩ = some (.int .i64 fault) := (H5.out.pick 2 rfl).row.1.cell 9
                  have lr : Br < w5.heap.size := (H5.out.pick 1 rfl).row.1.lt
                  have r5 : w5.cell? ⟨Br, 5, none⟩ = some (.slice none 0 0) := (H5.out.pick 1 rfl).row.1.cell 5
                  have r6 : w5.cell? ⟨Br, 6, none⟩ = some (.int .i64 0) := (H5.out.pick 1 rfl).row.1.cell 6
                  have r7 : w5.cell? ⟨Br, 7, none⟩ = some (.slice none 0 0) := (H5.out.pick 1 rfl).row.1.cell 7
                  have r8 : w5.cell? ⟨Br, 8, none⟩ = some (.slice none 0 0) := (H5.out.pick 1 rfl).row.1.cell 8
                  have r9 : w5.cell? ⟨Br, 9, none⟩ = some (.int .i64 0) := (H5.out.pick 1 rfl).row.1.cell 9
                  have r10 : w5.cell? ⟨Br, 10, none⟩ = some (.int .i64 0) := (H5.out.pick 1 rfl).row.1.cell 10
                  have f5 := (H5.out.pick 1 rfl).row.1.frozen 5
                  have f6 := (H5.out.pick 1 rfl).row.1.frozen 6
                  have f7 := (H5.out.pick 1 rfl).row.1.frozen 7
                  have f8 := (H5.out.pick 1 rfl).row.1.frozen 8
                  have f9 := (H5.out.pick 1 rfl).row.1.frozen 9
                  have f10 := (H5.out.pick 1 rfl).row.1.frozen 10
                  try dsimp only
                  try simp only [Act.put, List.setIfInBounds_toArray, List.set_cons_zero, List.set_cons_succ]
                  refine segs_take [5] (by kernel_rfl) (fun _ _ _ _ _ h => h) ?_
                  simp only [pick, List.getElem?_cons_succ, List.getElem?_cons_zero, Option.getD_some]
                  iterate 1 still_step
                  refine wpStill_nil ?_
                  refine segs_one 6 (by kernel_rfl) (by rfl) ?_
                  try simp only [List.getElem?_cons_succ, List.getElem?_cons_zero, Option.getD_some]
                  go_simp
                  try dsimp only
                  try simp only [Act.put, List.setIfInBounds_toArray, List.set_cons_zero, List.set_cons_succ]
                  refine segs_take [7] (by kernel_rfl) (fun _ _ _ _ _ h => h) ?_
                  simp only [pick, List.getElem?_cons_succ, List.getElem?_cons_zero, Option.getD_some]
                  iterate 1 still_step
                  refine wpStill_nil ?_
                  refine segs_one 8 (by kernel_rfl) (by rfl) ?_
                  try simp only [List.getElem?_cons_succ, List.getElem?_cons_zero, Option.getD_some]
                  go_simp
                  try dsimp only
                  try simp only [Act.put, List.setIfInBounds_toArray, List.set_cons_zero, List.set_cons_succ]
                  refine segs_end (by kernel_rfl) ?_
                  go_wp2_with (fail)
                  go_meet
                  exact ⟨A1, c1, ((((((H5.out.pick 1 rfl).set 5 (.slice A1 sent.length c1)).set 6 (.int .i64 pc)).set 7 (.slice AK stack.length cK)).set 8 (.slice AM mem_.length cM)).set 9 (.int .i64 ticks)).set 10 (.int .i64 fault) |>.swap⟩
              case rest =>
                obtain ⟨A1, c1, hst⟩ := hcut
                have H6 := Lib.hid hst
                clear hst v3 lv
                have v6 : wc.cell? ⟨Bv, 6, none⟩ = some (.slice AK stack.length cK) := (H6.out.pick 2 rfl).row.1.cell 6
                have v7 : wc.cell? ⟨Bv, 7, none⟩ = some (.slice AM mem_.length cM) := (H6.out.pick 2 rfl).row.1.cell 7
                have lv : Bv < wc.heap.size := (H6.out.pick 2 rfl).row.1.lt
                have lr : Br < wc.heap.size := (H6.out.pick 1 rfl).row.1.lt
                have HSK := Lib.hid ((HXIN.out.stack.below H6.out.bel).more H6.out.bel.size)
                have HSM := Lib.hid ((HXIN.out.mem.below H6.out.bel).more H6.out.bel.size)
                have HCK := Lib.hid (clone_ints wc.drew AK stack.length cK (stack.map (.int .i64)) HSK.out (ints_one _) HXL.out.2.2.1)
                go_upto_region 13 with fail
                refine segs_start (by kernel_rfl) ?_
                refine segs_take [0, 1, 4, 5, 2] (by kernel_rfl) (fun _ _ _ _ _ h => h) ?_
                simp only [pick, List.getElem?_cons_succ, List.getElem?_cons_zero, Option.getD_some]
                iterate 5 still_step
                refine wpStill_nil ?_
                refine segs_two 3 6 (by kernel_rfl) (by rfl) (by rfl) ?_ ?_
                · try simp only [List.getElem?_cons_succ, List.getElem?_cons_zero, Option.getD_some]
                  go_simp
                  (with_reducible refine HCK.out.mono ?_)
                  rintro e w7 ⟨A2, c2, rfl, ho7, hb7⟩
                  have H7 := Lib.hid (H6.out.drew.addOwn hb7 ho7)
                  have HCM := Lib.hid (clone_ints w7 AM mem_.length cM (mem_.map (.int .i64)) ((Sl.below (w := wc.drew) HSM.out hb7).more hb7.size) (ints_one _) HXL.out.2.2.2)
                  clear ho7 hb7
                  have v7 : w7.cell? ⟨Bv, 7, none⟩ = some (.slice AM mem_.length cM) := (H7.out.pick 3 rfl).row.1.cell 7
                  have lv : Bv < w7.heap.size := (H7.out.pick 3 rfl).row.1.lt
                  try dsimp only
                  try simp only [Act.put, List.setIfInBounds_toArray, List.set_cons_zero, List.set_cons_succ]
                  refine segs_take [8, 9] (by kernel_rfl) (fun _ _ _ _ _ h => h) ?_
                  simp only [pick, List.getElem?_cons_succ, List.getElem?_cons_zero, Option.getD_some]
                  iterate 2 still_step
                  refine wpStill_nil ?_
                  refine segs_one 6 (by kernel_rfl) (by rfl) ?_
                  try simp only [List.getElem?_cons_succ, List.getElem?_cons_zero, Option.getD_some]
                  go_simp
                  try dsimp only
                  try simp only [Act.put, List.setIfInBounds_toArray, List.set_cons_zero, List.set_cons_succ]
                  refine segs_one 7 (by kernel_rfl) (by rfl) ?_
                  try simp only [List.getElem?_cons_succ, List.getElem?_cons_zero, Option.getD_some]
                  go_simp
                  (with_reducible refine HCM.out.mono ?_)
                  rintro e w8 ⟨A3, c3, rfl, ho8, hb8⟩
                  have H8 := Lib.hid (H7.out.addOwn hb8 ho8)
                  clear ho8 hb8
                  have lr : Br < w8.heap.size := (H8.out.pick 3 rfl).row.1.lt
                  have r7 : w8.cell? ⟨Br, 7, none⟩ = some (.slice AK stack.length cK) := (H8.out.pick 3 rfl).row.1.cell 7
                  have r8 : w8.cell? ⟨Br, 8, none⟩ = some (.slice AM mem_.length cM) := (H8.out.pick 3 rfl).row.1.cell 8
                  have f7 := (H8.out.pick 3 rfl).row.1.frozen 7
                  have f8 := (H8.out.pick 3 rfl).row.1.frozen 8
                  try dsimp only
                  try simp only [Act.put, List.setIfInBounds_toArray, List.set_cons_zero, List.set_cons_succ]
                  refine segs_one 10 (by kernel_rfl) (by rfl) ?_
                  try simp only [List.getElem?_cons_succ, List.getElem?_cons_zero, Option.getD_some]
                  go_simp
                  try dsimp only
                  try simp only [Act.put, List.setIfInBounds_toArray, List.set_cons_zero, List.set_cons_succ]
                  refine segs_take [11, 12] (by kernel_rfl) (fun _ _ _ _ _ h => h) ?_
                  simp only [pick, List.getElem?_cons_succ, List.getElem?_cons_zero, Option.getD_some]
                  iterate 2 still_step
                  refine wpStill_nil ?_
                  refine segs_one 13 (by kernel_rfl) (by rfl) ?_
                  try simp only [List.getElem?_cons_succ, List.getElem?_cons_zero, Option.getD_some]
                  go_simp
                  try dsimp only
                  try simp only [Act.put, List.setIfInBounds_toArray, List.set_cons_zero, List.set_cons_succ]
                  refine segs_end (by kernel_rfl) ?_
                  go_wp2_with (fail)
                  go_meet
                  have H9 := Lib.hid (((H8.out.pick 3 rfl).set 7 (.slice A2 stack.length c2)).set 8 (.slice A3 mem_.length c3))
                  refine ⟨⟨⟨tick, q0, true, q1, q2, sent, pc, stack, mem_, ticks, fault⟩, A1, c1, A2, c2, A3, c3⟩, H9.out.row.1, H9.out.bel, ⟨(H9.out.pick 3 rfl).own, (H9.out.pick 2 rfl).own, (H9.out.pick 1 rfl).own⟩, ?_⟩
                  rw [HRO.out, if_pos hyp]
                · try simp only [List.getElem?_cons_succ, List.getElem?_cons_zero, Option.getD_some]
                  go_simp
                  try dsimp only
                  try simp only [Act.put, List.setIfInBounds_toArray, List.set_cons_zero, List.set_cons_succ]
                  refine segs_one 3 (by kernel_rfl) (by rfl) ?_
                  try simp only [List.getElem?_cons_succ, List.getElem?_cons_zero, Option.getD_some]
                  go_simp
                  (with_reducible refine HCK.out.mono ?_)
                  rintro e w7 ⟨A2, c2, rfl, ho7, hb7⟩
                  have H7 := Lib.hid (H6.out.drew.addOwn hb7 ho7)
                  have HCM := Lib.hid (clone_ints w7 AM mem_.length cM (mem_.map (.int .i64)) ((Sl.below (w := wc.drew) HSM.out hb7).more hb7.size) (ints_one _) HXL.out.2.2.2)
                  clear ho7 hb7
                  have v7 : w7.cell? ⟨Bv, 7, none⟩ = some (.slice AM mem_.length cM) := (H7.out.pick 3 rfl).row.1.cell 7
                  have lv : Bv < w7.heap.size := (H7.out.pick 3 rfl).row.1.lt
                  try dsimp only
                  try simp only [Act.put, List.setIfInBounds_toArray, List.set_cons_zero, List.set_cons_succ]
                  refine segs_take [8, 9] (by kernel_rfl) (fun _ _ _ _ _ h => h) ?_
                  simp only [pick, List.getElem?_cons_succ, List.getElem?_cons_zero, Option.getD_some]
                  iterate 2 still_step
                  refine wpStill_nil ?_
                  refine segs_one 7 (by kernel_rfl) (by rfl) ?_
                  try simp only [List.getElem?_cons_succ, List.getElem?_cons_zero, Option.getD_some]
                  go_simp
                  (with_reducible refine HCM.out.mono ?_)
                  rintro e w8 ⟨A3, c3, rfl, ho8, hb8⟩
                  have H8 := Lib.hid (H7.out.addOwn hb8 ho8)
                  clear ho8 hb8
                  have lr : Br < w8.heap.size := (H8.out.pick 3 rfl).row.1.lt
                  have r7 : w8.cell? ⟨Br, 7, none⟩ = some (.slice AK stack.length cK) := (H8.out.pick 3 rfl).row.1.cell 7
                  have r8 : w8.cell? ⟨Br, 8, none⟩ = some (.slice AM mem_.length cM) := (H8.out.pick 3 rfl).row.1.cell 8
                  have f7 := (H8.out.pick 3 rfl).row.1.frozen 7
                  have f8 := (H8.out.pick 3 rfl).row.1.frozen 8
                  try dsimp only
                  try simp only [Act.put, List.setIfInBounds_toArray, List.set_cons_zero, List.set_cons_succ]
                  refine segs_one 10 (by kernel_rfl) (by rfl) ?_
                  try simp only [List.getElem?_cons_succ, List.getElem?_cons_zero, Option.getD_some]
                  go_simp
                  try dsimp only
                  try simp only [Act.put, List.setIfInBounds_toArray, List.set_cons_zero, List.set_cons_succ]
                  refine segs_take [11, 12] (by kernel_rfl) (fun _ _ _ _ _ h => h) ?_
                  simp only [pick, List.getElem?_cons_succ, List.getElem?_cons_zero, Option.getD_some]
                  iterate 2 still_step
                  refine wpStill_nil ?_
                  refine segs_one 13 (by kernel_rfl) (by rfl) ?_
                  try simp only [List.getElem?_cons_succ, List.getElem?_cons_zero, Option.getD_some]
                  go_simp
                  try dsimp only
                  try simp only [Act.put, List.setIfInBounds_toArray, List.set_cons_zero, List.set_cons_succ]
                  refine segs_end (by kernel_rfl) ?_
                  go_wp2_with (fail)
                  go_meet
                  have H9 := Lib.hid (((H8.out.pick 3 rfl).set 7 (.slice A2 stack.length c2)).set 8 (.slice A3 mem_.length c3))
                  refine ⟨⟨⟨tick, q0, true, q1, q2, sent, pc, stack, mem_, ticks, fault⟩, A1, c1, A2, c2, A3, c3⟩, H9.out.row.1, H9.out.bel, ⟨(H9.out.pick 3 rfl).own, (H9.out.pick 2 rfl).own, (H9.out.pick 1 rfl).own⟩, ?_⟩
                  rw [HRO.out, if_pos hyp]
            · have hyb : (prt == part) = false := by simp [hyp]
              rw [hyb] at H4
              go_wp2_with (fail)
              go_meet
              refine ⟨⟨⟨tick, q0, false, q1, q2, [], 0, [], [], 0, 0⟩, none, 0, none, 0, none, 0⟩, H4.out.row.1, H4.out.bel, ⟨World.ownsRow_nil _ _ _ _, World.ownsRow_nil _ _ _ _, World.ownsRow_nil _ _ _ _⟩, ?_⟩
              rw [HRO.out, if_neg hyp]
          case rest =>
            obtain ⟨X, hrow, hbel, hX, hXd⟩ := hcut
            have HROW := Lib.hid hrow; have HBEL := Lib.hid hbel; have HXI := Lib.hid hX; have HXD := Lib.hid hXd
            clear hrow hbel hX hXd r2 f2 v2 lv
            obtain ⟨⟨xt, xb, xr, xv, xs, xsent, xpc, xstack, xmem, xticks, xfault⟩, xAS, xcS, xAK, xcK, xAM, xcM⟩ := X
            have r0 : wc.cell? ⟨Br, 0, none⟩ = some (.int .i64 xt) := HROW.out.cell 0
            have r1 : wc.cell? ⟨Br, 1, none⟩ = some (.bool xb) := HROW.out.cell 1
            have r2 : wc.cell? ⟨Br, 2, none⟩ = some (.bool xr) := HROW.out.cell 2
            have r3 : wc.cell? ⟨Br, 3, none⟩ = some (.int .i64 xv) := HROW.out.cell 3
            have r4 : wc.cell? ⟨Br, 4, none⟩ = some (.int .i64 xs) := HROW.out.cell 4
            have r5 : wc.cell? ⟨Br, 5, none⟩ = some (.slice xAS xsent.length xcS) := HROW.out.cell 5
            have r6 : wc.cell? ⟨Br, 6, none⟩ = some (.int .i64 xpc) := HROW.out.cell 6
            have r7 : wc.cell? ⟨Br, 7, none⟩ = some (.slice xAK xstack.length xcK) := HROW.out.cell 7
            have r8 : wc.cell? ⟨Br, 8, none⟩ = some (.slice xAM xmem.length xcM) := HROW.out.cell 8
            have r9 : wc.cell? ⟨Br, 9, none⟩ = some (.int .i64 xticks) := HROW.out.cell 9
            have r10 : wc.cell? ⟨Br, 10, none⟩ = some (.int .i64 xfault) := HROW.out.cell 10
            have lr : Br < wc.heap.size := HROW.out.lt
            have hkl : k < evs.length := by rw [← HN.out]; exact hlt
            have HVS := Lib.hid (show viewL part ((evs.take (k + 1)).map EvC.d) = viewL part ((evs.take k).map EvC.d) ++ if (xb || xr) = true then [⟨xt, xb, xr, xv, xs, xsent, xpc, xstack, xmem, xticks, xfault⟩] else [] by
              have h := HXD.out
              dsimp only at h
              rw [← List.take_append_getElem hkl, List.map_append, List.map_cons, List.map_nil, ← HX.out, viewL_snoc]
              dsimp only
              rw [← h])
            have HYL := Lib.hid (show ys.length < n by
              have h := congrArg List.length HD.out
              rw [List.length_map] at h
              have h2 := viewL_len part ((evs.take k).map EvC.d)
              rw [List.length_map, List.length_take] at h2
              omega)
            have HB4 := Lib.hid (HB.out.trans (HBEL.out.mono hnr))
            have HJ4 := Lib.hid (HJ.out _ _ _ HJ0.out HBEL.out)
            have hwcn : n0 ≤ wc.heap.size := Nat.le_trans hnr HBEL.out.size
            have hkn : k + 1 ≤ n := hlt
            have hnm := HM.out
            clear HX HXIN HXL H1 HW1 H2 H4 HW4 HQ HRO HXD
            go_upto_region 14 with fail
            by_cases hany : (xb || xr) = true
            · refine (Go.wpIn_wide (n := 9)).1 ?_
              obtain ⟨fn, tmps, assign, body, hy, hR⟩ := HY.out ys ⟨⟨xt, xb, xr, xv, xs, xsent, xpc, xstack, xmem, xticks, xfault⟩, xAS, xcS, xAK, xcK, xAM, xcM⟩ wc HJ4.out ⟨HXI.out.sent.mono hnr, HXI.out.stack.mono hnr, HXI.out.mem.mono hnr⟩ HYL.out
              dsimp only [RowC.cells] at hy
              rw [if_pos hany] at HVS
              have hw : (xb = true) ∨ (xb = false ∧ xr = true) := by cases xb <;> simp_all
              clear hany
              rcases hw with rfl | ⟨rfl, rfl⟩
              all_goals
                gi_wp2
                refine hR.mono ?_
                rintro e W3 (⟨rfl, hJ3, hk3⟩ | ⟨rfl, hJx3⟩)
                · have HJ3 := Lib.hid hJ3; have HK3 := Lib.hid hk3
                  clear hJ3 hk3 hR hy r0 r1 r2 r3 r4 r5 r6 r7 r8 r9 r10
                  gi_wp2
                  go_wp2_with (fail)
                  go_roundw
                  case rel =>
                    refine ⟨k + 1, _, hkn, by go_num, ?_, HJ3.out, HB4.out.trans HK3.out, Nat.le_trans hwcn HK3.out.size⟩
                    rw [HVS.out, List.map_append, HD.out]
                    rfl
                  case measure => simp only [intOf]; omega
                · have HJX := Lib.hid hJx3
                  clear hJx3 hR hy r0 r1 r2 r3 r4 r5 r6 r7 r8 r9 r10
                  gi_wp2
                  go_wp2_with (fail)
                  refine bodyPost_ret (results_none rfl _ _ _) rfl ?_
                  exact ⟨⟨_, rfl⟩, .inr ⟨_, HJX.out⟩⟩
            · rw [if_neg hany] at HVS
              obtain ⟨rfl, rfl⟩ : xb = false ∧ xr = false := by cases xb <;> cases xr <;> simp_all
              clear hany
              go_wp2_with (fail)
              go_roundw
              case rel =>
                refine ⟨k + 1, ys, hkn, by go_num, ?_, HJ4.out, HB4.out, hwcn⟩
                rw [HVS.out, List.append_nil, HD.out]
              case measure => simp only [intOf]; omega
    · obtain rfl : k = n := by omega
      have HR := Lib.hid (show ys.map RowC.d = viewL part (evs.map EvC.d) by rw [HD.out, List.take_of_length_le (by rw [← HN.out]; exact Nat.le_refl _)])
      go_wp2_with (fail)
      go_end0
      exact ⟨⟨_, rfl⟩, .inl ⟨ys, HR.out, HJ0.out⟩⟩
end Go.Proofs.Ytooagoikiafgcaa.joins
