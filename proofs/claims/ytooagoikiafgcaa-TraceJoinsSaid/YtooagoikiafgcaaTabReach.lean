/-
  PROVED HERE: what table.Reach answers.
  CONDITIONS: each lemma names its own.
-/
import Derived.Test.YtooagoikiafgcaaTabPath
namespace Go.Proofs.Ytooagoikiafgcaa.tab
set_option linter.unusedVariables false
open Go.RowKit Go.Proofs.Ytooagoikiafgcaa.base Go.Proofs.Ytooagoikiafgcaa.obj Go.Proofs.Ytooagoikiafgcaa.mem Go.Proofs.Ytooagoikiafgcaa.sep Go.Proofs.Ytooagoikiafgcaa.plan

theorem infoI8 : (Try.prog.info? 3).map (fun i => (i.zero, i.size, i.bytes)) = some (some (.int .i64 0), 1, 8) := by kernel_rfl
theorem slInt : SlT Try.prog 30 3 1 8 := by
  obtain ⟨i0, hi, hz0, hz1, hz2⟩ := info_parts infoI8
  exact ⟨Try.underlying30, ⟨i0, _, hi, hz0, hz1, hz2, rfl⟩, by decide⟩
def b4 (m : List Bool) : Array Value := #[.bool (m.getD 0 false), .bool (m.getD 1 false), .bool (m.getD 2 false), .bool (m.getD 3 false)]
theorem b4_list {m : List Bool} (h : m.length = 4) : m.map Value.bool = (b4 m).toList := by
  match m, h with
  | [a, b, c, d], _ => rfl
def mAt (w : World) (G : Nat) : List Bool := (List.range 4).map fun k => match w.cell? ⟨G, k, none⟩ with
  | some (.bool b) => b
  | _ => false
theorem mAt_eq {w : World} {G : Nat} {m : List Bool} {t : TypeId} (h : Row w G t (m.map Value.bool)) (hl : m.length = 4) : mAt w G = m := by
  match m, hl with
  | [a, b, c, d], _ =>
    have c0 := h.cell 0
    have c1 := h.cell 1
    have c2 := h.cell 2
    have c3 := h.cell 3
    simp at c0 c1 c2 c3
    simp [mAt, List.range_succ, c0, c1, c2, c3]
theorem eq4 (m0 m1 m2 m3 u0 u1 u2 u3 : Bool) (w : World) : (Op.equalIn 10000 190 (.agg #[.bool m0, .bool m1, .bool m2, .bool m3]) (.agg #[.bool u0, .bool u1, .bool u2, .bool u3])).run Try.prog w = .ok (decide ([m0, m1, m2, m3] = [u0, u1, u2, u3])) w := by
  cases m0 <;> cases m1 <;> cases m2 <;> cases m3 <;> cases u0 <;> cases u1 <;> cases u2 <;> cases u3 <;> kernel_rfl
theorem idx4 (m0 m1 m2 m3 : Bool) (r : Nat) (h : r < 4) (w : World) : (Instr.index 190 (.agg #[.bool m0, .bool m1, .bool m2, .bool m3]) (.int .i64 (r : Int))).run Try.prog w = .ok (.bool ([m0, m1, m2, m3].getD r false)) w := by
  rcases (by omega : r = 0 ∨ r = 1 ∨ r = 2 ∨ r = 3) with rfl | rfl | rfl | rfl <;> kernel_rfl
def outM (m : List Bool) (r : Nat) : List Int := ((List.range r).filter fun k => m.getD k false).map fun k : Nat => (k : Int)
theorem outM_succ (m : List Bool) (r : Nat) : outM m (r + 1) = if m.getD r false = true then outM m r ++ [(r : Int)] else outM m r := by
  unfold outM
  rw [List.range_succ, List.filter_append]
  split <;> simp_all
theorem outM_len (m : List Bool) (r : Nat) : (outM m r).length ≤ r := by
  unfold outM
  rw [List.length_map]
  exact Nat.le_trans (List.length_filter_le _ _) (by simp)
section
variable {w : World} {t : Tab} {AP AW AC : Option Addr} {nP cP nW cW nC cC : Nat}
set_option maxRecDepth 100000 in
set_option maxHeartbeats 16000000 in
theorem reach_at (h : TabV w w.heap.size t AP nP cP AW nW cW AC nC cC) (a : Int) : Calls Try.prog 60 #[tabAgg t.frame AP nP cP AW nW cW AC nC cC t.trial, .int .i64 a] w fun e w' => ∃ v, e = .returned v ∧ w'.ownsRow w.heap.size 3 1 v (reachL t a).length ((reachL t a).map (.int .i64)) ∧ Below w.heap.size w w' := by
  have HV := Lib.hid h
  have mc := h.mc
  obtain ⟨T, hT⟩ : ∃ T, T = w.heap.size := ⟨_, rfl⟩
  obtain ⟨w1, hw1⟩ : ∃ w1, w1 = w.alloc (.cells #[.int .i64 t.frame, .slice AP nP cP, .slice AW nW cW, .slice AC nC cC, .int .i64 t.trial] 39) := ⟨_, rfl⟩
  have H1 := Lib.hid (show St w w1 [row T 39 (tabRow t.frame AP nP cP AW nW cW AC nC cC t.trial)] by rw [hw1, hT]; exact (St.nil w).new _ _)
  have HRT := Lib.hid (fun (w' : World) (hb : Below w.heap.size w w') => right_at (h.over hb))
  have HHAS := Lib.hid (fun (w' : World) (hb : Below w.heap.size w w') => has_at (h.over hb) a)
  obtain ⟨fr, hfr⟩ : ∃ fr, fr = t.frame := ⟨_, rfl⟩
  obtain ⟨tr, htr⟩ : ∃ tr, tr = t.trial := ⟨_, rfl⟩
  rw [← hfr, ← htr] at H1 HRT HHAS hw1 ⊢
  have HW1 := Lib.hid hw1; have HT := Lib.hid hT
  clear h hw1 hT hfr htr
  go_enter Try.func60, Try.ntmps60
  go_upto_region 1 with fail
  rw [← HW1.out, ← HT.out]
  have t0 : w1.cell? ⟨T, 0, none⟩ = some (.int .i64 fr) := H1.out.row.1.cell 0
  have t1 : w1.cell? ⟨T, 1, none⟩ = some (.slice AP nP cP) := H1.out.row.1.cell 1
  have t2 : w1.cell? ⟨T, 2, none⟩ = some (.slice AW nW cW) := H1.out.row.1.cell 2
  have t3 : w1.cell? ⟨T, 3, none⟩ = some (.slice AC nC cC) := H1.out.row.1.cell 3
  have t4 : w1.cell? ⟨T, 4, none⟩ = some (.int .i64 tr) := H1.out.row.1.cell 4
  have lT := H1.out.row.1.lt
  go_wp2_with (fail)
  refine (HRT.out w1 H1.out.bel).mono ?_
  rintro e w2 ⟨rfl, hb2⟩
  have H2 := Lib.hid (H1.out.below hb2)
  clear hb2 t0 t1 t2 t3 t4 lT
  cases hr : t.right
  · have HL := Lib.hid (show reachL t a = [] by unfold reachL; rw [hr]; rfl)
    clear hr
    go_wp2_with (fail)
    go_ret
    exact ⟨_, rfl, by rw [HL.out]; exact World.ownsRow_nil _ _ _ _, H2.out.bel⟩
  have t0 : w2.cell? ⟨T, 0, none⟩ = some (.int .i64 fr) := H2.out.row.1.cell 0
  have t1 : w2.cell? ⟨T, 1, none⟩ = some (.slice AP nP cP) := H2.out.row.1.cell 1
  have t2 : w2.cell? ⟨T, 2, none⟩ = some (.slice AW nW cW) := H2.out.row.1.cell 2
  have t3 : w2.cell? ⟨T, 3, none⟩ = some (.slice AC nC cC) := H2.out.row.1.cell 3
  have t4 : w2.cell? ⟨T, 4, none⟩ = some (.int .i64 tr) := H2.out.row.1.cell 4
  have lT := H2.out.row.1.lt
  have HRR := Lib.hid hr
  clear hr
  go_wp2_with (fail)
  refine (HHAS.out w2 H2.out.bel).mono ?_
  rintro e w3 ⟨rfl, hb3⟩
  have H3 := Lib.hid (H2.out.below hb3)
  clear hb3 t0 t1 t2 t3 t4 lT
  cases hk : okr a 0 ((t.parts.length : Int) - 1)
  · have HL := Lib.hid (show reachL t a = [] by unfold reachL; rw [HRR.out, hk]; rfl)
    clear hk
    go_wp2_with (fail)
    go_ret
    exact ⟨_, rfl, by rw [HL.out]; exact World.ownsRow_nil _ _ _ _, H3.out.bel⟩
  have HL := Lib.hid (show reachL t a = ((List.range 4).filter fun k : Nat => pathB t.chans 4 a k).map fun k : Nat => (k : Int) by unfold reachL; rw [HRR.out, hk]; rfl)
  have H4 := Lib.hid (right_in4 HRR.out)
  have hnc : nC ≤ 4 := by
    have h1 := HRR.out
    simp [Tab.right] at h1
    rw [HV.out.lc]
    exact h1.2.2.2.2.2.1
  obtain ⟨a0, a1⟩ : 0 ≤ a ∧ a < 4 := by
    have h1 := HRR.out
    simp [Tab.right] at h1
    have h2 := h1.2.2.1
    simp [okr] at h2 hk
    omega
  obtain ⟨A, hA⟩ : ∃ A : Nat, (A : Int) = a := ⟨a.toNat, by omega⟩
  have hA4 : (A : Int) < 4 := by omega
  have hA0 : (0 : Int) ≤ (A : Int) := by omega
  have HA := Lib.hid hA
  have HMI := Lib.hid (MI.start (cs := t.chans) ⟨a0, a1⟩)
  have hAn : A = a.toNat := by omega
  rw [← hAn] at HMI
  rw [← hA]
  clear hk a0 a1 hA hAn
  go_upto_region 4 with fail
  obtain ⟨G, hG⟩ : ∃ G, G = w3.heap.size := ⟨_, rfl⟩
  obtain ⟨V, hV⟩ : ∃ V, V = w3.heap.size + 1 := ⟨_, rfl⟩
  obtain ⟨w4, hw4⟩ : ∃ w4, w4 = (w3.alloc (.cells #[.bool false, .bool false, .bool false, .bool false] 190)).alloc (.cells #[.bool false, .bool false, .bool false, .bool false] 190) := ⟨_, rfl⟩
  have H5 := Lib.hid (show St w w4 [row G 190 ((List.replicate 4 false).map Value.bool), row V 190 ((List.replicate 4 false).map Value.bool), row T 39 (tabRow fr AP nP cP AW nW cW AC nC cC tr)] by
    rw [hw4, hG, hV]
    have h := (H3.out.new 190 #[.bool false, .bool false, .bool false, .bool false]).new 190 #[.bool false, .bool false, .bool false, .bool false]
    simp only [World.size_alloc] at h
    exact h.swap)
  have HG := Lib.hid hG; have HVV := Lib.hid hV; have HW4 := Lib.hid hw4
  clear hG hV hw4
  rw [← HW4.out, ← HVV.out, ← HG.out]
  have lG : G < w4.heap.size := H5.out.row.1.lt
  have hAN : A < 4 := by omega
  have gA : w4.cell? ⟨G, A, none⟩ = some (.bool false) := by
    have h1 : w4.cell? ⟨G, A, none⟩ = ((List.replicate 4 false).map Value.bool)[A]? := H5.out.row.1.cell A
    rw [h1, List.map_replicate, List.getElem?_replicate, if_pos hAN]
  have fA := H5.out.row.1.frozen A
  have HB := Lib.hid (show St w (w4.setCell ⟨G, A, none⟩ (.bool true)) (row G 190 (((List.replicate 4 false).set A true).map Value.bool) :: _) by rw [List.map_set]; exact H5.out.set A (.bool true))
  go_upto_region 5 with fail
  clear gA fA lG
  go_loopw [30] (fun _ wr => ∃ m u : List Bool, MI t.chans a m u ∧ St w wr [row G 190 (m.map Value.bool), row V 190 (u.map Value.bool), row T 39 (tabRow fr AP nP cP AW nW cW AC nC cC tr)]) (fun _ wr => mu (mAt wr G) (mAt wr V))
  case atStart => exact ⟨_, _, HMI.out, HB.out⟩
  case round =>
    obtain ⟨m, u, hmi, hst⟩ := hrel
    have HMU := Lib.hid hmi; have HST := Lib.hid hst
    obtain ⟨m0, m1, m2, m3, hm⟩ : ∃ m0 m1 m2 m3, m = [m0, m1, m2, m3] := by
      match m, hmi.lm with
      | [a, b, c, d], _ => exact ⟨_, _, _, _, rfl⟩
    obtain ⟨u0, u1, u2, u3, hu⟩ : ∃ u0 u1 u2 u3, u = [u0, u1, u2, u3] := by
      match u, hmi.lu with
      | [a, b, c, d], _ => exact ⟨_, _, _, _, rfl⟩
    clear hmi hst HB H5 HMI
    obtain ⟨g0, g1, g2, g3⟩ : wr.cell? ⟨G, 0, none⟩ = some (.bool m0) ∧ wr.cell? ⟨G, 1, none⟩ = some (.bool m1) ∧ wr.cell? ⟨G, 2, none⟩ = some (.bool m2) ∧ wr.cell? ⟨G, 3, none⟩ = some (.bool m3) := by
      have h := HST.out.row.1
      rw [hm] at h
      exact ⟨h.cell 0, h.cell 1, h.cell 2, h.cell 3⟩
    obtain ⟨v0, v1, v2, v3⟩ : wr.cell? ⟨V, 0, none⟩ = some (.bool u0) ∧ wr.cell? ⟨V, 1, none⟩ = some (.bool u1) ∧ wr.cell? ⟨V, 2, none⟩ = some (.bool u2) ∧ wr.cell? ⟨V, 3, none⟩ = some (.bool u3) := by
      have h := (HST.out.pick 1 rfl).row.1
      rw [hu] at h
      exact ⟨h.cell 0, h.cell 1, h.cell 2, h.cell 3⟩
    have lG : G < wr.heap.size := HST.out.row.1.lt
    have lV : V < wr.heap.size := (HST.out.pick 1 rfl).row.1.lt
    have HM := Lib.hid hm; have HU := Lib.hid hu
    clear hm hu
    have heq := eq4 m0 m1 m2 m3 u0 u1 u2 u3 wr
    rw [← HM.out, ← HU.out] at heq
    by_cases hmu : m = u
    · rw [decide_eq_true hmu] at heq
      go_upto_region 14 with fail
      have HDN := Lib.hid (show ∀ k : Nat, k < 4 → (m.getD k false = pathB t.chans 4 a k) from MI.done H4.out (by have h := HMU.out; rw [← hmu] at h; exact h))
      have H5 := Lib.hid (show St w wr [row G 190 (m.map Value.bool), own 3 1 (.slice none 0 0) ([] : List Int).length (([] : List Int).map (.int .i64))] from ((HST.out.take 1).addOwn (Below.refl _ _) (World.ownsRow_nil _ _ 3 1)).swap)
      clear heq g0 g1 g2 g3 v0 v1 v2 v3 lG lV hmu HST
      go_loopw [9, 49] (fun s9 i wr => ∃ (r : Nat) (A : Option Addr) (c : Nat), r ≤ 4 ∧ i = .int .i64 r ∧ s9 = .slice A (outM m r).length c ∧ St w wr [own 3 1 (.slice A (outM m r).length c) (outM m r).length ((outM m r).map (.int .i64))]) (fun _ i _ => 4 - (intOf i).toNat)
      case atStart => exact ⟨0, none, 0, by omega, rfl, rfl, (H5.out.pick 1 rfl).take 1⟩
      case round =>
        obtain ⟨r, A', c', hr4, rfl, rfl, hst⟩ := hrel
        have HS := Lib.hid hst
        have HLN := Lib.hid (outM_len m r)
        obtain ⟨z, hz⟩ : ∃ z, z = (outM m r).length := ⟨_, rfl⟩
        rw [← hz] at HS HLN ⊢
        have HZ := Lib.hid hz
        have hzr : z ≤ r := HLN.out
        clear hst H5 hz
        by_cases hlt : r < 4
        · have hlt' : (r : Int) < 4 := by omega
          have hr0 : (0 : Int) ≤ (r : Int) := by omega
          have hix := idx4 m0 m1 m2 m3 r hlt wr
          rw [← HM.out] at hix
          have HSU := Lib.hid (outM_succ m r)
          cases hb : m.getD r false
          · rw [hb] at hix HSU
            have HSE := Lib.hid (show outM m (r + 1) = outM m r from HSU.out.trans (if_neg (by decide)))
            clear hb
            go_wp2_with (fail)
            go_roundw
            case rel => exact ⟨r + 1, A', c', by omega, by go_num, by rw [HSE.out, HZ.out], by rw [HSE.out, ← HZ.out]; exact HS.out⟩
            case measure => simp [intOf] <;> omega
          · rw [hb] at hix HSU
            have HSE := Lib.hid (show outM m (r + 1) = outM m r ++ [(r : Int)] from HSU.out.trans (if_pos rfl))
            clear hb
            have HSL := Lib.hid (show Sl (wr.alloc (.cells #[.int .i64 (r : Int)] 3)) (wr.heap.size + 1) 1 (some ⟨wr.heap.size, 0, none⟩) 1 [.int .i64 (r : Int)] from sl_new (n := 1) rfl)
            have H6 := Lib.hid ((HS.out.new 3 #[.int .i64 (r : Int)]).pick 1 rfl)
            go_wp2_with (at_builtin; refine app_row slInt rfl (.tmp 54) (.tmp 56) rfl H6.out.own rfl rfl HSL.out (by simp [Value.oneCell']) (by omega) (by omega) (by unfold maxLen; omega) (H6.out.bel.size) ?_; intro g2 cap w8 ho hg hor hlt4; have H8 := Lib.hid (H6.out.grown hg ho (fun x hx => by injection hx with hx; rw [← hx]; exact hor)); clear ho hg hor)
            go_roundw
            case rel => exact ⟨r + 1, some ⟨g2, 0, none⟩, cap, by omega, by go_num, by rw [HSE.out, List.length_append, ← HZ.out]; rfl, by rw [HSE.out, List.length_append, ← HZ.out, List.map_append]; exact H8.out.take 1⟩
            case measure => simp [intOf] <;> omega
        · have hr4' : r = 4 := by omega
          have hlt' : ¬ (r : Int) < 4 := by omega
          have HE := Lib.hid (show outM m r = reachL t a by
            rw [HL.out, hr4']
            unfold outM
            rw [List.filter_congr fun k hk => HDN.out k (List.mem_range.1 hk)])
          clear hr4'
          go_wp2_with (fail)
          go_ret
          exact ⟨_, rfl, by rw [← HE.out, ← HZ.out]; exact HS.out.own, HS.out.bel⟩
    · rw [decide_eq_false hmu] at heq
      go_upto_region 6 with fail
      have HRV := Lib.hid (HST.out.pick 1 rfl).row.1
      have MS := Lib.hid (show (Try.prog.info? 190).map (·.size) = some (#[Value.bool m0, .bool m1, .bool m2, .bool m3] : Array Value).size from by kernel_rfl)
      have HLU := Lib.hid (show 0 + (#[Value.bool m0, .bool m1, .bool m2, .bool m3] : Array Value).size ≤ (u.map Value.bool).length by rw [List.length_map, HMU.out.lu]; exact Nat.le_refl _)
      have HRR2 := Lib.hid (show (u.map Value.bool).take 0 ++ (#[Value.bool m0, .bool m1, .bool m2, .bool m3] : Array Value).toList ++ (u.map Value.bool).drop (0 + (#[Value.bool m0, .bool m1, .bool m2, .bool m3] : Array Value).size) = m.map Value.bool by rw [HM.out, HU.out]; rfl)
      have H6 := Lib.hid (show St w (wr.setRow V (m.map Value.bool).toArray) [row G 190 (m.map Value.bool), row V 190 (m.map Value.bool), row T 39 (tabRow fr AP nP cP AW nW cW AC nC cC tr)] from ((HST.out.pick 1 rfl).setRow (m.map Value.bool)).swap)
      go_upto_region 7 with (with_reducible refine wpList_putR rfl 190 (.tmp 6) (.tmp 26) rfl V 0 #[.bool m0, .bool m1, .bool m2, .bool m3] rfl rfl HRV.out MS.out HLU.out (by simp [Value.oneCell']) (m.map Value.bool) HRR2.out ?_)
      obtain ⟨w6, hw6⟩ : ∃ w6, w6 = wr.setRow V (m.map Value.bool).toArray := ⟨_, rfl⟩
      rw [← hw6] at H6
      have HW6 := Lib.hid hw6
      have HOLD := Lib.hid (show mu (mAt wr G) (mAt wr V) = mu m u by rw [mAt_eq HST.out.row.1 HMU.out.lm, mAt_eq (HST.out.pick 1 rfl).row.1 HMU.out.lu])
      clear hw6 g0 g1 g2 g3 v0 v1 v2 v3 lG lV heq HRV MS HLU HRR2
      rw [← HW6.out]
      have t3 : w6.cell? ⟨T, 3, none⟩ = some (.slice AC nC cC) := (H6.out.pick 2 rfl).row.1.cell 3
      have lT : T < w6.heap.size := (H6.out.pick 2 rfl).row.1.lt
      go_wp2_with (fail)
      clear t3 lT
      go_loopw [30] (fun s wr => ∃ (k : Nat) (q : List Bool), k ≤ nC ∧ s = .int .i64 k ∧ MJ t.chans a q m k ∧ St w wr [row G 190 (q.map Value.bool), row V 190 (m.map Value.bool), row T 39 (tabRow fr AP nP cP AW nW cW AC nC cC tr)]) (fun s _ => nC - (intOf s).toNat)
      case atStart => exact ⟨0, m, by omega, rfl, HMU.out.go, H6.out⟩
      case round =>
        obtain ⟨k, q, hk, rfl, hmj, hst⟩ := hrel
        have HMJ := Lib.hid hmj; have HS := Lib.hid hst
        clear hmj hst H6
        by_cases hlt : k < nC
        · have hlt' : (k : Int) < (nC : Int) := by omega
          have hk0 : (0 : Int) ≤ (k : Int) := by omega
          have hkl : k < t.chans.length := by rw [← HV.out.lc]; exact hlt
          obtain ⟨b, off, rfl, lb, c0, c1, c2⟩ := t3s_get (HV.out.over HS.out.bel).cs HV.out.lc hkl
          have HSP := Lib.hid (HMJ.out.step H4.out hkl)
          obtain ⟨⟨x0, x1⟩, x2, x3⟩ := H4.out _ (List.getElem_mem hkl)
          generalize t.chans[k] = x at c0 c1 c2 HSP x0 x1 x2 x3
          obtain ⟨xa, xb, xc⟩ := x
          dsimp only at c0 c1 c2 x0 x1 x2 x3
          obtain ⟨a', ha'⟩ : ∃ a' : Nat, (a' : Int) = xa := ⟨xa.toNat, by omega⟩
          obtain ⟨b', hb'⟩ : ∃ b' : Nat, (b' : Int) = xb := ⟨xb.toNat, by omega⟩
          rw [← ha'] at c0
          rw [← hb'] at c1
          have HPS := Lib.hid (show pstep q ⟨xa, xb, xc⟩ = q.set b' (q.getD b' false || q.getD a' false) by unfold pstep; rw [show xb.toNat = b' by omega, show xa.toNat = a' by omega])
          have ha4 : (a' : Int) < 4 := by omega
          have hb4 : (b' : Int) < 4 := by omega
          have ha0 : (0 : Int) ≤ (a' : Int) := by omega
          have hb0 : (0 : Int) ≤ (b' : Int) := by omega
          have han : a' < 4 := by omega
          have hbn : b' < 4 := by omega
          clear ha' hb' x0 x1 x2 x3
          go_upto_region 10 with fail
          obtain ⟨Z, hZ⟩ : ∃ Z, Z = wr.heap.size := ⟨_, rfl⟩
          obtain ⟨w7, hw7⟩ : ∃ w7, w7 = wr.alloc (.cells #[.int .i64 a', .int .i64 b', .int .i64 xc] 139) := ⟨_, rfl⟩
          have H7 := Lib.hid (show St w w7 [row G 190 (q.map Value.bool), row Z 139 [.int .i64 a', .int .i64 b', .int .i64 xc], row V 190 (m.map Value.bool), row T 39 (tabRow fr AP nP cP AW nW cW (some ⟨b, off, none⟩) nC cC tr)] by rw [hw7, hZ]; exact (HS.out.new _ _).swap)
          have HW7 := Lib.hid hw7; have HZ := Lib.hid hZ
          clear hw7 hZ c0 c1 c2 lb
          rw [← HW7.out, ← HZ.out]
          have z0 : w7.cell? ⟨Z, 0, none⟩ = some (.int .i64 a') := (H7.out.pick 1 rfl).row.1.cell 0
          have z1 : w7.cell? ⟨Z, 1, none⟩ = some (.int .i64 b') := (H7.out.pick 1 rfl).row.1.cell 1
          have lZ : Z < w7.heap.size := (H7.out.pick 1 rfl).row.1.lt
          have qc : ∀ i, i < 4 → w7.cell? ⟨G, i, none⟩ = some (.bool (q.getD i false)) := fun i hi => by
            have h1 : w7.cell? ⟨G, i, none⟩ = (q.map Value.bool)[i]? := H7.out.row.1.cell i
            have hq : i < q.length := by rw [HMJ.out.lm]; exact hi
            rw [h1, List.getElem?_map, List.getD_eq_getElem?_getD, List.getElem?_eq_getElem hq]
            rfl
          have ga := qc a' han
          have gb := qc b' hbn
          have fb := H7.out.row.1.frozen b'
          have lG : G < w7.heap.size := H7.out.row.1.lt
          have HST2 := Lib.hid (fun v : Bool => show St w (w7.drew.setCell ⟨G, b', none⟩ (.bool v)) [row G 190 ((q.set b' v).map Value.bool), row V 190 (m.map Value.bool), row T 39 (tabRow fr AP nP cP AW nW cW (some ⟨b, off, none⟩) nC cC tr)] by
            rw [List.map_set]
            exact ((H7.out.drew.set b' (.bool v)).pick 1 rfl).drop)
          clear qc
          cases hqb : q.getD b' false
          · have HRES := Lib.hid (show pstep q ⟨xa, xb, xc⟩ = q.set b' (q.getD a' false) by rw [HPS.out, hqb, Bool.false_or])
            rw [hqb] at gb
            clear hqb
            generalize q.getD a' false = va at ga HRES
            refine wp_region_plan [0, 2, 1, 3, 4, 5, 6, 7, 8, 9, 10, 11, 12] [[13]] (by kernel_rfl) (by kernel_rfl) (fun _ _ _ _ _ h => h) ?_
            simp only [forks, pick, List.getElem?_cons_succ, List.getElem?_cons_zero, Option.getD_some]
            iterate 13 still_step
            refine wpStill_nil ?_
            go_wp2_with (fail)
            go_roundw
            case rel => exact ⟨k + 1, q.set b' va, by omega, by go_num, by rw [← HRES.out]; exact HSP.out, HST2.out va⟩
            case measure => simp [intOf] <;> omega
          · have HRES := Lib.hid (show pstep q ⟨xa, xb, xc⟩ = q.set b' true by rw [HPS.out, hqb, Bool.true_or])
            rw [hqb] at gb
            clear hqb
            refine wp_region_plan [0, 2, 1, 3, 4, 5, 6, 7, 8, 9, 10, 11, 12] [[13]] (by kernel_rfl) (by kernel_rfl) (fun _ _ _ _ _ h => h) ?_
            simp only [forks, pick, List.getElem?_cons_succ, List.getElem?_cons_zero, Option.getD_some]
            iterate 13 still_step
            refine wpStill_nil ?_
            go_wp2_with (fail)
            go_roundw
            case rel => exact ⟨k + 1, q.set b' true, by omega, by go_num, by rw [← HRES.out]; exact HSP.out, HST2.out true⟩
            case measure => simp [intOf] <;> omega
        · have hkn : k = nC := by omega
          have hlt' : ¬ (k : Int) < (nC : Int) := by omega
          have HNEW := Lib.hid (show MI t.chans a q m by
            have h := HMJ.out
            rw [hkn, HV.out.lc] at h
            exact h.end_ HMU.out)
          have HLT := Lib.hid (show mu (mAt wr G) (mAt wr V) < mu m u by
            rw [mAt_eq HS.out.row.1 HNEW.out.lm, mAt_eq (HS.out.pick 1 rfl).row.1 HMU.out.lm]
            exact mu_lt hmu HNEW.out)
          clear hkn hmu
          go_wp2_with (fail)
          go_roundw
          case rel => exact ⟨q, m, HNEW.out, HS.out⟩
          case measure => rw [HOLD.out]; exact HLT.out
end
end Go.Proofs.Ytooagoikiafgcaa.tab
