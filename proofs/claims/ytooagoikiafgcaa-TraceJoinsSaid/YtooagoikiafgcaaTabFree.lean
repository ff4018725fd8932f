/-
  PROVED HERE: what slices.Contains of numbers, trace.Free and the document's Free answer.
  CONDITIONS: each lemma names its own.
-/
import Derived.Test.YtooagoikiafgcaaTabWin
import Derived.Test.YtooagoikiafgcaaMemMore
namespace Go.Proofs.Ytooagoikiafgcaa.tab
set_option linter.unusedVariables false
open Go.RowKit Go.Proofs.Ytooagoikiafgcaa.base Go.Proofs.Ytooagoikiafgcaa.obj Go.Proofs.Ytooagoikiafgcaa.mem Go.Proofs.Ytooagoikiafgcaa.sep Go.Proofs.Ytooagoikiafgcaa.plan

def findZ (z : Int) (l : List Int) : Int := match l.findIdx? (fun x => z == x) with
  | some i => i
  | none => -1
set_option maxHeartbeats 4000000 in
theorem containsI_at (w : World) (A : Option Addr) (n c : Nat) (l : List Int) (z : Int) (hn : n = l.length) (hm : n ≤ maxLen) (hs : Sl w w.heap.size 1 A n (l.map (.int .i64))) :
    Calls Try.prog 61 #[.slice A n c, .int .i64 z] w fun e w' => e = .returned (.bool (l.any fun x => z == x)) ∧ Below w.heap.size w w' := by
  have HI : Calls Try.prog 101 #[.slice A n c, .int .i64 z] w fun e w' => (∃ i, e = .returned (.int .i64 i) ∧ decide (i ≥ 0) = (l.any fun x => z == x)) ∧ Below w.heap.size w w' := by
    have HN := Lib.hid hn; have HS := Lib.hid hs
    clear hn hs
    go_enter Try.func101, Try.ntmps101
    go_wp2_with (fail)
    go_loopw [8] (fun i wr => ∃ k : Nat, k ≤ n ∧ i = .int .i64 k ∧ ((l.take k).any fun x => z == x) = false ∧ Below w.heap.size w wr) (fun i _ => n - (intOf i).toNat)
    case atStart => exact ⟨0, by omega, rfl, by simp, Below.refl _ _⟩
    case round =>
      obtain ⟨k, hk, rfl, hno, hb⟩ := hrel
      have HNO := Lib.hid hno; have HB := Lib.hid hb
      clear hno hb
      by_cases hlt : k < n
      · have hlt' : (k : Int) < (n : Int) := by omega
        have hk0 : (0 : Int) ≤ (k : Int) := by omega
        have hkl : k < l.length := by rw [← HN.out]; exact hlt
        obtain ⟨b, off, rfl, lb, hc⟩ := HS.out.2 (by omega)
        have c0 : wr.cell? ⟨b, off + k, none⟩ = some (.int .i64 l[k]) := (HB.out.cell (p := ⟨b, off + k, none⟩) lb).trans (hc k _ (by rw [List.getElem?_map, List.getElem?_eq_getElem hkl]; rfl))
        have lb' : b < wr.heap.size := Nat.lt_of_lt_of_le lb HB.out.size
        have hc9 : n ≤ 9223372036854775807 := by unfold maxLen at hm; omega
        have HT := Lib.hid (show ((l.take (k + 1)).any fun x => z == x) = (z == l[k]) by rw [List.take_succ_eq_append_getElem hkl, List.any_append, HNO.out]; simp)
        have HY := Lib.hid (fun h : (z == l[k]) = true => show (l.any fun x => z == x) = true from List.any_eq_true.2 ⟨_, List.getElem_mem hkl, h⟩)
        generalize l[k] = x at c0 HT HY
        clear hc
        by_cases hx : z = x
        · have b1 : (z == x) = true := by simpa using hx
          have HQ := Lib.hid (HY.out b1)
          clear hx
          go_wp2_with (fail)
          go_ret
          exact ⟨⟨k, rfl, by rw [HQ.out]; simp⟩, HB.out⟩
        · have b1 : (z == x) = false := by simpa using hx
          have HQ := Lib.hid (HT.out.trans b1)
          clear hx
          go_wp2_with (fail)
          go_roundw
          case rel => exact ⟨k + 1, by omega, by go_num, HQ.out, HB.out⟩
          case measure => simp [intOf] <;> omega
      · have hkn : k = n := by omega
        have hlt' : ¬ (k : Int) < (n : Int) := by omega
        have HQ := Lib.hid (show (l.any fun x => z == x) = false by
          have h := HNO.out
          rw [List.take_of_length_le (by rw [← HN.out]; omega)] at h
          exact h)
        clear hkn
        go_wp2_with (fail)
        go_ret
        exact ⟨⟨-1, rfl, by rw [HQ.out]; rfl⟩, HB.out⟩
  have HH := Lib.hid HI
  clear HI hn hm hs
  go_enter Try.func61, Try.ntmps61
  go_wp2_with (fail)
  refine HH.out.mono ?_
  rintro e w1 ⟨⟨i, rfl, hi⟩, hb⟩
  have HB := Lib.hid hb; have HQ := Lib.hid hi
  clear hb hi
  go_wp2_with (fail)
  go_ret
  exact ⟨ret_bool HQ.out, HB.out⟩
/-- is p free of another one? -/
def freeB (t : Tab) (p of : Int) : Bool := !((p == 0) || ((p == of) || pathB t.chans 4 0 p)) && (!(okr of 0 ((t.parts.length : Int) - 1)) || !pathB t.chans 4 of p)
section
variable {w : World} {t : Tab} {AP AW AC : Option Addr} {nP cP nW cW nC cC : Nat}
set_option maxRecDepth 100000 in
set_option maxHeartbeats 8000000 in
theorem rfree_at (h : TabV w w.heap.size t AP nP cP AW nW cW AC nC cC) (p of : Int) : Calls Try.prog 23 #[tabAgg t.frame AP nP cP AW nW cW AC nC cC t.trial, .int .i64 p, .int .i64 of] w fun e w' => e = .returned (.bool (freeB t p of)) ∧ Below w.heap.size w w' := by
  have HV := Lib.hid h
  have HP := Lib.hid (fun (w' : World) (hb : Below w.heap.size w w') (a b : Int) => path_at b 4 (by omega) a w' (h.over hb))
  obtain ⟨T, hT⟩ : ∃ T, T = w.heap.size := ⟨_, rfl⟩
  obtain ⟨w1, hw1⟩ : ∃ w1, w1 = w.alloc (.cells #[.int .i64 t.frame, .slice AP nP cP, .slice AW nW cW, .slice AC nC cC, .int .i64 t.trial] 39) := ⟨_, rfl⟩
  have H1 := Lib.hid (show St w w1 [row T 39 (tabRow t.frame AP nP cP AW nW cW AC nC cC t.trial)] by rw [hw1, hT]; exact (St.nil w).new _ _)
  have HK := Lib.hid (show freeB t p of = (!((p == 0) || ((p == of) || pathB t.chans 4 0 p)) && (!(decide (0 ≤ of ∧ of < (nP : Int))) || !pathB t.chans 4 of p)) by
    unfold freeB okr
    rw [h.lp]
    congr 3
    simp only [decide_eq_decide]
    omega)
  obtain ⟨fr, hfr⟩ : ∃ fr, fr = t.frame := ⟨_, rfl⟩
  obtain ⟨tr, htr⟩ : ∃ tr, tr = t.trial := ⟨_, rfl⟩
  rw [← hfr, ← htr] at H1 hw1 HP ⊢
  have HW1 := Lib.hid hw1; have HT := Lib.hid hT
  clear h hw1 hT hfr htr
  have rows : ∀ w', St w w' [row T 39 (tabRow fr AP nP cP AW nW cW AC nC cC tr)] → w'.cell? ⟨T, 0, none⟩ = some (.int .i64 fr) ∧ w'.cell? ⟨T, 1, none⟩ = some (.slice AP nP cP) ∧ w'.cell? ⟨T, 2, none⟩ = some (.slice AW nW cW) ∧ w'.cell? ⟨T, 3, none⟩ = some (.slice AC nC cC) ∧ w'.cell? ⟨T, 4, none⟩ = some (.int .i64 tr) ∧ T < w'.heap.size :=
    fun w' hb => ⟨hb.row.1.cell 0, hb.row.1.cell 1, hb.row.1.cell 2, hb.row.1.cell 3, hb.row.1.cell 4, hb.row.1.lt⟩
  have HROWS := Lib.hid rows
  clear rows
  go_enter Try.func23, Try.ntmps23
  go_upto_region 1 with fail
  rw [← HW1.out, ← HT.out]
  by_cases h1 : p = 0
  · have b1 : (p == 0) = true := by simpa using h1
    have HQ := Lib.hid (show freeB t p of = false by rw [HK.out, b1]; rfl)
    clear h1
    go_wp2_with (fail)
    go_ret
    exact ⟨ret_bool HQ.out.symm, H1.out.bel⟩
  have b1 : (p == 0) = false := by simpa using h1
  rw [b1, Bool.false_or] at HK
  by_cases h2 : p = of
  · have b2 : (p == of) = true := by simpa using h2
    have HQ := Lib.hid (show freeB t p of = false by rw [HK.out, b2]; rfl)
    clear h1 h2
    go_wp2_with (fail)
    go_ret
    exact ⟨ret_bool HQ.out.symm, H1.out.bel⟩
  have b2 : (p == of) = false := by simpa using h2
  rw [b2, Bool.false_or] at HK
  clear h1 h2
  obtain ⟨t0, t1, t2, t3, t4, lT⟩ := HROWS.out w1 H1.out
  have HC := Lib.hid (HP.out w1 H1.out.bel 0 p)
  cases h3 : pathB t.chans 4 0 p
  · rw [h3] at HK HC
    rw [Bool.not_false, Bool.true_and] at HK
    go_wp2_with (fail)
    refine HC.out.mono ?_
    rintro e w2 ⟨rfl, hb2⟩
    have H2 := Lib.hid (H1.out.below hb2)
    clear hb2 t0 t1 t2 t3 t4 lT h3
    obtain ⟨t0, t1, t2, t3, t4, lT⟩ := HROWS.out w2 H2.out
    by_cases h4 : of < 0
    · have HQ := Lib.hid (show freeB t p of = true by rw [HK.out, decide_eq_false (by omega)]; rfl)
      go_wp2_with (fail)
      go_ret
      exact ⟨ret_bool HQ.out.symm, H2.out.bel⟩
    by_cases h5 : of ≥ (nP : Int)
    · have HQ := Lib.hid (show freeB t p of = true by rw [HK.out, decide_eq_false (by omega)]; rfl)
      go_wp2_with (fail)
      go_ret
      exact ⟨ret_bool HQ.out.symm, H2.out.bel⟩
    have HQ := Lib.hid (show freeB t p of = !pathB t.chans 4 of p by rw [HK.out, decide_eq_true (by omega)]; rfl)
    have HC2 := Lib.hid (HP.out w2 H2.out.bel of p)
    clear HC
    go_wp2_with (fail)
    refine HC2.out.mono ?_
    rintro e w3 ⟨rfl, hb3⟩
    have H3 := Lib.hid (H2.out.below hb3)
    clear hb3
    go_wp2_with (fail)
    go_ret
    exact ⟨ret_bool (by rw [HQ.out, decide_eq_false (by omega : ¬ of < 0), decide_eq_false (by omega : ¬ (nP : Int) ≤ of)]; rfl), H3.out.bel⟩
  · rw [h3] at HK HC
    have HQ := Lib.hid (show freeB t p of = false by rw [HK.out]; rfl)
    clear h3
    go_wp2_with (fail)
    refine HC.out.mono ?_
    rintro e w2 ⟨rfl, hb2⟩
    have H2 := Lib.hid (H1.out.below hb2)
    clear hb2
    go_wp2_with (fail)
    go_ret
    exact ⟨ret_bool HQ.out.symm, H2.out.bel⟩
/-- what is met from 0 and from another one -/
def metL (t : Tab) (part : Int) (k : Nat) : List Int := (([0, part] : List Int).take k).flatMap fun p => p :: reachL t p
def freeL (t : Tab) (part : Int) : List Int := if t.right then ((List.range t.parts.length).filter fun p : Nat => !((metL t part 2).any fun x => (p : Int) == x)).map fun p : Nat => (p : Int) else []
theorem reachL_len (t : Tab) (a : Int) : (reachL t a).length ≤ 4 := by
  unfold reachL
  split
  · rw [List.length_map]
    exact Nat.le_trans (List.length_filter_le _ _) (by simp)
  · simp
theorem metL_len (t : Tab) (part : Int) : ∀ k, k ≤ 2 → (metL t part k).length ≤ 5 * k := by
  intro k hk
  have h0 := reachL_len t 0
  have h1 := reachL_len t part
  rcases (by omega : k = 0 ∨ k = 1 ∨ k = 2) with rfl | rfl | rfl <;> simp [metL] <;> omega
theorem metL_succ (t : Tab) (part : Int) {k : Nat} (hk : k < 2) : metL t part (k + 1) = metL t part k ++ [([0, part] : List Int)[k]] ++ reachL t ([0, part] : List Int)[k] := by
  rcases (by omega : k = 0 ∨ k = 1) with rfl | rfl <;> simp [metL]
def outF (t : Tab) (part : Int) (r : Nat) : List Int := ((List.range r).filter fun p : Nat => !((metL t part 2).any fun x => (p : Int) == x)).map fun p : Nat => (p : Int)
theorem outF_succ (t : Tab) (part : Int) (r : Nat) : outF t part (r + 1) = if ((metL t part 2).any fun x => (r : Int) == x) = true then outF t part r else outF t part r ++ [(r : Int)] := by
  unfold outF
  rw [List.range_succ, List.filter_append, List.filter_cons, List.filter_nil]
  cases h : (metL t part 2).any fun x => (r : Int) == x
  · simp
  · simp
theorem outF_len (t : Tab) (part : Int) (r : Nat) : (outF t part r).length ≤ r := by
  unfold outF
  rw [List.length_map]
  exact Nat.le_trans (List.length_filter_le _ _) (by simp)
set_option maxRecDepth 100000 in
set_option maxHeartbeats 8000000 in
theorem free_at (h : TabV w w.heap.size t AP nP cP AW nW cW AC nC cC) (A : Option Addr) (c : Nat) (hc : A = none → c = 0) (part : Int) (hs : Sl w w.heap.size 1 A 1 [.int .i64 part]) : Calls Try.prog 19 #[tabAgg t.frame AP nP cP AW nW cW AC nC cC t.trial, .slice A 1 c] w fun e w' => ∃ v, e = .returned v ∧ w'.ownsRow w.heap.size 3 1 v (freeL t part).length ((freeL t part).map (.int .i64)) ∧ Below w.heap.size w w' := by
  have HV := Lib.hid h; have HS := Lib.hid hs; have HC := Lib.hid hc
  have HR := Lib.hid (fun (w' : World) (hb : Below w.heap.size w w') => right_at (h.over hb))
  have HRC := Lib.hid (fun (w' : World) (hb : Below w.heap.size w w') (a : Int) => reach_at (h.over hb) a)
  obtain ⟨T, hT⟩ : ∃ T, T = w.heap.size := ⟨_, rfl⟩
  obtain ⟨w1, hw1⟩ : ∃ w1, w1 = w.alloc (.cells #[.int .i64 t.frame, .slice AP nP cP, .slice AW nW cW, .slice AC nC cC, .int .i64 t.trial] 39) := ⟨_, rfl⟩
  have H1 := Lib.hid (show St w w1 [row T 39 (tabRow t.frame AP nP cP AW nW cW AC nC cC t.trial)] by rw [hw1, hT]; exact (St.nil w).new _ _)
  obtain ⟨fr, hfr⟩ : ∃ fr, fr = t.frame := ⟨_, rfl⟩
  obtain ⟨tr, htr⟩ : ∃ tr, tr = t.trial := ⟨_, rfl⟩
  rw [← hfr, ← htr] at H1 hw1 HR HRC ⊢
  have HW1 := Lib.hid hw1; have HT := Lib.hid hT
  have mp := h.mp
  clear h hs hc hw1 hT hfr htr
  have rows : ∀ l w', St w w' (row T 39 (tabRow fr AP nP cP AW nW cW AC nC cC tr) :: l) → w'.cell? ⟨T, 0, none⟩ = some (.int .i64 fr) ∧ w'.cell? ⟨T, 1, none⟩ = some (.slice AP nP cP) ∧ w'.cell? ⟨T, 2, none⟩ = some (.slice AW nW cW) ∧ w'.cell? ⟨T, 3, none⟩ = some (.slice AC nC cC) ∧ w'.cell? ⟨T, 4, none⟩ = some (.int .i64 tr) ∧ T < w'.heap.size :=
    fun l w' hb => ⟨hb.row.1.cell 0, hb.row.1.cell 1, hb.row.1.cell 2, hb.row.1.cell 3, hb.row.1.cell 4, hb.row.1.lt⟩
  have HROWS := Lib.hid rows
  clear rows
  go_enter Try.func19, Try.ntmps19
  go_upto_region 1 with fail
  rw [← HW1.out, ← HT.out]
  obtain ⟨t0, t1, t2, t3, t4, lT⟩ := HROWS.out _ w1 H1.out
  go_wp2_with (fail)
  refine (HR.out w1 H1.out.bel).mono ?_
  rintro e w2 ⟨rfl, hb2⟩
  have H2 := Lib.hid (H1.out.below hb2)
  clear hb2 t0 t1 t2 t3 t4 lT
  cases hr : t.right
  · have HL := Lib.hid (show freeL t part = [] by unfold freeL; rw [hr]; rfl)
    clear hr
    go_wp2_with (fail)
    go_ret
    exact ⟨_, rfl, by rw [HL.out]; exact World.ownsRow_nil _ _ _ _, H2.out.bel⟩
  have HL := Lib.hid (show freeL t part = outF t part t.parts.length by unfold freeL; rw [hr]; rfl)
  have hnp : nP ≤ 4 := by rw [HV.out.lp]; exact (right_frame hr).2.2.2.2.2.1
  clear hr
  obtain ⟨G, hG⟩ : ∃ G, G = w2.heap.size := ⟨_, rfl⟩
  have HO0 := Lib.hid (show St w (w2.alloc (.cells #[.int .i64 0] 3)) [own 3 1 (.slice (some ⟨G, 0, none⟩) 1 1) 1 [.int .i64 0], row T 39 (tabRow fr AP nP cP AW nW cW AC nC cC tr)] by
    rw [hG]
    exact (H2.out.new 3 #[.int .i64 0]).new_row_own (size := 1) (n := 1) (cap := 1) (Nat.le_refl _) (by unfold maxLen; omega) rfl)
  have HGG := Lib.hid hG
  clear hG
  have HSL := Lib.hid (((HS.out.below H2.out.bel).more H2.out.bel.size).below ((Below.refl _ _).alloc (Nat.le_refl _) (.cells #[.int .i64 0] 3)))
  go_wp2_with (first
    | (at_builtin; rw [← HGG.out]; refine app_at slInt rfl (.tmp 13) (.tmp 14) rfl HO0.out.own rfl rfl HC.out HSL.out (by simp [Value.oneCell']) (by omega) (by unfold maxLen; omega) (by have := HO0.out.bel.size; exact this) ?_; intro v5 w5 ho5 hg5 hv5o; obtain ⟨A5, c5, hv5, hc5, _⟩ := own_form ho5; subst hv5; have H5 := Lib.hid (show St w w5 [own 3 1 (.slice A5 2 c5) 2 (([0, part] : List Int).map (.int .i64)), row T 39 (tabRow fr AP nP cP AW nW cW AC nC cC tr)] from HO0.out.grown hg5 ho5 hv5o); clear ho5 hg5 hv5o))
  have H6 := Lib.hid (H5.out.addOwn (Below.refl _ _) (World.ownsRow_nil _ _ 3 1))
  go_loopw [5, 17] (fun s5 i wr => ∃ (k : Nat) (A : Option Addr) (c : Nat), k ≤ 2 ∧ i = .int .i64 k ∧ s5 = .slice A (metL t part k).length c ∧ St w wr [own 3 1 (.slice A (metL t part k).length c) (metL t part k).length ((metL t part k).map (.int .i64)), own 3 1 (.slice A5 2 c5) 2 (([0, part] : List Int).map (.int .i64)), row T 39 (tabRow fr AP nP cP AW nW cW AC nC cC tr)]) (fun _ i _ => 2 - (intOf i).toNat)
  case atStart => exact ⟨0, none, 0, by omega, rfl, rfl, H6.out⟩
  case round =>
    obtain ⟨k, A', c', hk, rfl, rfl, hst⟩ := hrel
    have HST := Lib.hid hst
    have HLN := Lib.hid (metL_len t part k hk)
    obtain ⟨z, hz⟩ : ∃ z, z = (metL t part k).length := ⟨_, rfl⟩
    rw [← hz] at HST HLN ⊢
    have HZ := Lib.hid hz
    have hzk : z ≤ 10 := by have := HLN.out; omega
    clear hst H6 H5 hz
    by_cases hlt : k < 2
    · have hlt' : (k : Int) < 2 := by omega
      have hk0 : (0 : Int) ≤ (k : Int) := by omega
      have HSU := Lib.hid (metL_succ t part hlt)
      obtain ⟨b, off, rfl, lb, hcs⟩ := (Sl.of_own (HST.out.pick 1 rfl).own).2 (by omega)
      have ck : wr.cell? ⟨b, off + k, none⟩ = some (.int .i64 (([0, part] : List Int)[k])) := hcs k _ (by rw [List.getElem?_map, List.getElem?_eq_getElem hlt]; rfl)
      generalize ([0, part] : List Int)[k] = p at ck HSU
      have HLR := Lib.hid (reachL_len t p)
      clear hcs
      obtain ⟨g7, hg7⟩ : ∃ g7, g7 = wr.heap.size := ⟨_, rfl⟩
      have H6 := Lib.hid ((HST.out.new 3 #[.int .i64 p]).pick 1 rfl)
      have HSL7 := Lib.hid (show Sl (wr.alloc (.cells #[.int .i64 p] 3)) (wr.heap.size + 1) 1 (some ⟨wr.heap.size, 0, none⟩) 1 [.int .i64 p] from sl_new (n := 1) rfl)
      go_upto_region 8 with (at_builtin; refine app_row slInt rfl (.tmp 21) (.tmp 23) rfl H6.out.own rfl rfl HSL7.out (by simp [Value.oneCell']) (by omega) (by omega) (by unfold maxLen; omega) (H6.out.bel.size) ?_; intro g2 cap w8 ho hg hor hlt4; have H8 := Lib.hid (H6.out.grown hg ho (fun x hx => by injection hx with hx; rw [← hx]; exact hor)); clear ho hg hor hlt4)
      have H9 := Lib.hid (show St w w8 [row T 39 (tabRow fr AP nP cP AW nW cW AC nC cC tr), own 3 1 (.slice (some ⟨g2, 0, none⟩) (z + 1) cap) (z + 1) ((metL t part k ++ [p]).map (.int .i64)), own 3 1 (.slice (some ⟨b, off, none⟩) 2 c5) 2 (([0, part] : List Int).map (.int .i64))] by
        rw [List.map_append]
        exact (((H8.out.pick 1 rfl).drop).pick 2 rfl))
      obtain ⟨t0, t1, t2, t3, t4, lT⟩ := HROWS.out _ w8 H9.out
      have HRC2 := Lib.hid (HRC.out w8 H9.out.bel p)
      clear H8 H6 HSL7 ck lb hg7
      go_wp2_with (fail)
      refine HRC2.out.mono ?_
      rintro e w9 ⟨v9, rfl, ho9, hb9⟩
      obtain ⟨A9, c9, hv9, hc9, _⟩ := own_form ho9
      subst hv9
      have H10 := Lib.hid ((H9.out.addOwn hb9 ho9).pick 2 rfl)
      obtain ⟨x, hx⟩ : ∃ x, x = (reachL t p).length := ⟨_, rfl⟩
      have hx4 : x ≤ 4 := by rw [hx]; exact HLR.out
      have HCC := Lib.hid (own_cap (show w9.ownsRow w8.heap.size 3 1 (.slice A9 (reachL t p).length c9) (reachL t p).length ((reachL t p).map (.int .i64)) from ho9))
      have HSL9 := Lib.hid (Sl.of_own (show w9.ownsRow w8.heap.size 3 1 (.slice A9 (reachL t p).length c9) (reachL t p).length ((reachL t p).map (.int .i64)) from ho9))
      have HLS := Lib.hid hx
      rw [← hx] at H10 HSL9 ⊢
      clear hx ho9 hb9 t0 t1 t2 t3 t4 lT hc9
      go_wp2_with (at_builtin; refine app_at slInt rfl (.tmp 25) (.tmp 28) rfl H10.out.own rfl rfl HCC.out HSL9.out (by intro u hu; obtain ⟨_, _, rfl⟩ := List.mem_map.1 hu; rfl) (by omega) (by unfold maxLen; omega) (H10.out.bel.size) ?_; intro v11 w11 ho11 hg11 hv11o; obtain ⟨A11, c11, hv11, hc11, _⟩ := own_form ho11; subst hv11; have H11 := Lib.hid (H10.out.grown hg11 ho11 hv11o); clear ho11 hg11 hv11o)
      have hlen : (metL t part (k + 1)).length = z + 1 + x := by rw [HSU.out, List.length_append, List.length_append, ← HLS.out, ← HZ.out]; rfl
      have HLEN := Lib.hid hlen
      clear hlen
      go_roundw
      case rel => exact ⟨k + 1, A11, c11, by omega, by go_num, by rw [HLEN.out], by
        rw [HLEN.out, HSU.out, List.map_append]
        exact (((H11.out.pick 1 rfl).drop).pick 2 rfl).pick 1 rfl⟩
      case measure => simp [intOf] <;> omega
    · have hk2 : k = 2 := by omega
      have hlt' : ¬ (k : Int) < 2 := by omega
      rw [hk2] at HZ
      have HLE := Lib.hid hk2
      clear hk2
      rw [HLE.out] at HST
      have H7 := Lib.hid (show St w wr [own 3 1 (.slice none 0 0) 0 [], own 3 1 (.slice A' z c') z ((metL t part 2).map (.int .i64)), row T 39 (tabRow fr AP nP cP AW nW cW AC nC cC tr)] from (((HST.out.pick 1 rfl).drop).addOwn (Below.refl _ _) (World.ownsRow_nil _ _ 3 1)))
      have t1 : wr.cell? ⟨T, 1, none⟩ = some (.slice AP nP cP) := (H7.out.pick 2 rfl).row.1.cell 1
      have lT : T < wr.heap.size := (H7.out.pick 2 rfl).row.1.lt
      clear HST
      go_upto_region 12 with fail
      clear t1 lT
      go_loopw [8, 34] (fun s8 i wr => ∃ (r : Nat) (A : Option Addr) (c : Nat), r ≤ nP ∧ i = .int .i64 r ∧ s8 = .slice A (outF t part r).length c ∧ St w wr [own 3 1 (.slice A (outF t part r).length c) (outF t part r).length ((outF t part r).map (.int .i64)), own 3 1 (.slice A' z c') z ((metL t part 2).map (.int .i64)), row T 39 (tabRow fr AP nP cP AW nW cW AC nC cC tr)]) (fun _ i _ => nP - (intOf i).toNat)
      case atStart => exact ⟨0, none, 0, by omega, rfl, rfl, H7.out⟩
      case round =>
        obtain ⟨r, A2, c2, hr4, rfl, rfl, hst⟩ := hrel
        have HS2 := Lib.hid hst
        have HLN2 := Lib.hid (outF_len t part r)
        obtain ⟨y, hy⟩ : ∃ y, y = (outF t part r).length := ⟨_, rfl⟩
        rw [← hy] at HS2 HLN2 ⊢
        have HY := Lib.hid hy
        have hyr : y ≤ r := HLN2.out
        clear hst H7 hy
        clear hlt hlt'
        by_cases hlt : r < nP
        · have hlt' : (r : Int) < (nP : Int) := by omega
          have HCT := Lib.hid (containsI_at wr A' z c' (metL t part 2) r HZ.out (by unfold maxLen; omega) (Sl.of_own (HS2.out.pick 1 rfl).own))
          have HSU := Lib.hid (outF_succ t part r)
          go_wp2_with (fail)
          refine HCT.out.mono ?_
          rintro e w8 ⟨rfl, hb8⟩
          have H8 := Lib.hid (HS2.out.below hb8)
          clear hb8 HCT
          cases hq : (metL t part 2).any fun x => (r : Int) == x
          · rw [hq] at HSU
            have HSE := Lib.hid (show outF t part (r + 1) = outF t part r ++ [(r : Int)] from HSU.out.trans (if_neg (by decide)))
            clear hq HSU
            have H9 := Lib.hid ((H8.out.new 3 #[.int .i64 (r : Int)]).pick 1 rfl)
            have HSL9 := Lib.hid (show Sl (w8.alloc (.cells #[.int .i64 (r : Int)] 3)) (w8.heap.size + 1) 1 (some ⟨w8.heap.size, 0, none⟩) 1 [.int .i64 (r : Int)] from sl_new (n := 1) rfl)
            go_wp2_with (at_builtin; refine app_row slInt rfl (.tmp 41) (.tmp 43) rfl H9.out.own rfl rfl HSL9.out (by simp [Value.oneCell']) (by omega) (by omega) (by unfold maxLen; omega) (H9.out.bel.size) ?_; intro g2 cap w9 ho hg hor hlt4; have H10 := Lib.hid (H9.out.grown hg ho (fun x hx => by injection hx with hx; rw [← hx]; exact hor)); clear ho hg hor hlt4)
            have hlen : (outF t part (r + 1)).length = y + 1 := by rw [HSE.out, List.length_append, ← HY.out]; rfl
            have HLEN := Lib.hid hlen
            clear hlen
            go_roundw
            case rel => exact ⟨r + 1, some ⟨g2, 0, none⟩, cap, by omega, by go_num, by rw [HLEN.out], by
              rw [HLEN.out, HSE.out, List.map_append]
              exact ((H10.out.pick 1 rfl).drop)⟩
            case measure => simp [intOf] <;> omega
          · rw [hq] at HSU
            have HSE := Lib.hid (show outF t part (r + 1) = outF t part r from HSU.out.trans (if_pos rfl))
            clear hq HSU
            go_wp2_with (fail)
            go_roundw
            case rel => exact ⟨r + 1, A2, c2, by omega, by go_num, by rw [HSE.out, ← HY.out], by
              rw [HSE.out, ← HY.out]
              exact H8.out⟩
            case measure => simp [intOf] <;> omega
        · have hrn : r = nP := by omega
          have hlt' : ¬ (r : Int) < (nP : Int) := by omega
          have HE := Lib.hid (show outF t part r = freeL t part by rw [HL.out, ← HV.out.lp, hrn])
          clear hrn
          go_wp2_with (fail)
          go_ret
          exact ⟨_, rfl, by rw [← HE.out, ← HY.out]; exact HS2.out.own, HS2.out.bel⟩
end
end Go.Proofs.Ytooagoikiafgcaa.tab
