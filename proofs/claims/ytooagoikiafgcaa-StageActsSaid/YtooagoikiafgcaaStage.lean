/-
  PROVED HERE: a slot in memory: own, write, Open, Stage, wrong.
  CONDITIONS: each contract names its own.
-/
import Derived.Test.YtooagoikiafgcaaDiskSep
import Derived.Test.YtooagoikiafgcaaPlace
import Derived.Test.YtooagoikiafgcaaStageMath
import Derived.Test.YtooagoikiafgcaaPlan
import Derived.Test.YtooagoikiafgcaaEqual
import Derived.Test.YtooagoikiafgcaaArgRec
import Derived.BigQuiet
import Derived.Deep.QuietTactic
import Derived.Deep.RegionHeld3
import Derived.Deep.RegionLaw
import Derived.Deep.DeepCutAuto
import Derived.Deep.CutBlock
namespace Go.Proofs.Ytooagoikiafgcaa.stage
set_option linter.unusedVariables false
open Go.RowKit Go.ChangeShapes Go.WideShapes Go.ChangeAt Go.Deep Go.Joins Go.Proofs.Ytooagoikiafgcaa.base Go.Proofs.Ytooagoikiafgcaa.obj Go.Proofs.Ytooagoikiafgcaa.mem Go.Proofs.Ytooagoikiafgcaa.crc Go.Proofs.Ytooagoikiafgcaa.disk Go.Proofs.Ytooagoikiafgcaa.record Go.Proofs.Ytooagoikiafgcaa.bits Go.Proofs.Ytooagoikiafgcaa.sep Go.Proofs.Ytooagoikiafgcaa.plan Go.Proofs.Ytooagoikiafgcaa.bytes

/-- a slot's cells -/
def sltCells (d : Nat) (p k : Int) (s : SlS) : List Value := [.pointer (some ⟨d, 0, none⟩), .int .i64 p, .int .i64 k, .bool s.has] ++ s.st.cells.toList
def slt (g d : Nat) (p k : Int) (s : SlS) : Asn := row g 157 (sltCells d p k s)
theorem slt_read {w : World} {g d : Nat} {p k : Int} {s : SlS} (h : Row w g 157 (sltCells d p k s)) :
    w.cell? ⟨g, 0, none⟩ = some (.pointer (some ⟨d, 0, none⟩)) ∧ w.cell? ⟨g, 1, none⟩ = some (.int .i64 p) ∧ w.cell? ⟨g, 2, none⟩ = some (.int .i64 k) ∧ w.cell? ⟨g, 3, none⟩ = some (.bool s.has) ∧
    w.cell? ⟨g, 4, none⟩ = some (.int .i64 s.st.session) ∧ w.cell? ⟨g, 5, none⟩ = some (.int .i64 s.st.size) ∧ w.cell? ⟨g, 6, none⟩ = some (.int .i64 s.st.have_) ∧ g < w.heap.size :=
  ⟨h.cell 0, h.cell 1, h.cell 2, h.cell 3, h.cell 4, h.cell 5, h.cell 6, h.lt⟩
/-- which slots there are -/
structure PK (p k : Int) : Prop where
  p0 : 0 ≤ p
  p1 : p < 4
  k0 : 0 ≤ k
  k1 : k < 2
theorem Pl.pk {m : DS} {p k : Int} (h : Pl m p k) : PK p k := ⟨h.p0, h.p1, h.k0, h.k1⟩

set_option maxRecDepth 100000 in
set_option maxHeartbeats 4000000 in
theorem own_at {w : World} {g d : Nat} {p k : Int} {s : SlS} (h : Row w g 157 (sltCells d p k s)) (hp : PK p k) :
    Calls Try.prog 78 #[.pointer (some ⟨g, 0, none⟩)] w fun e w' => e = .returned (.int .i64 (sAt p k)) ∧ Below w.heap.size w w' := by
  obtain ⟨c0, c1, c2, c3, c4, c5, c6, lg⟩ := slt_read h.drew
  have HC := Lib.hid (place.stage_in p k w.drew hp.p0 hp.p1 hp.k0 hp.k1)
  clear h hp
  go_enter Try.func78, Try.ntmps78
  go_wp2_with (fail)
  go_region_law (first | (go_simp; (with_reducible refine HC.out.mono ?_); rintro e w2 ⟨rfl, hb⟩; have HB := Lib.hid hb; clear hb; dsimp only))
  all_goals
    go_wp2_with (fail)
    go_ret
    exact ⟨rfl, ⟨HB.out.os, HB.out.tape, HB.out.output, HB.out.size, HB.out.block⟩⟩

/-! ### write -/
/-- sectors, each written and flushed ahead of the next one -/
def wfs : DS → List (Int × List Int) → Int × DS
  | m, [] => (0, m)
  | m, x :: l => if (wf m x.1 x.2).1 = 0 then wfs (wf m x.1 x.2).2 l else wf m x.1 x.2
theorem wr_few (m : DS) (i : Int) (bs : List Int) : (m.write i bs).2.waits.length ≤ m.waits.length + 1 := by
  unfold DS.write
  split
  · exact Nat.le_succ _
  · split
    · exact Nat.le_succ _
    · split
      · simp [DS.put, DS.burnt_waits]
      · show m.burnt.waits.length ≤ _
        rw [DS.burnt_waits]; exact Nat.le_succ _
theorem wf_few (m : DS) (i : Int) (bs : List Int) : (wf m i bs).2.waits.length ≤ m.waits.length + 1 := by
  have h := wr_few m i bs
  unfold wf
  split
  · unfold DS.flush
    split
    · exact Nat.zero_le _
    · rw [DS.burnt_waits]; exact h
  · exact h
def stepCells (L : List (Int × List Int)) (V : Nat → Option Addr × Nat) : List Value := (List.range L.length).flatMap fun j => [.int .i64 (L.getD j (0, [])).1, .slice (V j).1 64 (V j).2]
theorem stepCells_get {L : List (Int × List Int)} (V : Nat → Option Addr × Nat) {j : Nat} (hj : j < L.length) : (stepCells L V)[j * 2]? = some (.int .i64 L[j].1) ∧ (stepCells L V)[j * 2 + 1]? = some (.slice (V j).1 64 (V j).2) := by
  have h := Go.Proofs.Ytooagoikiafgcaa.lift.flat_get (fun i => [Value.int .i64 (L.getD i (0, [])).1, .slice (V i).1 64 (V i).2]) 2 (by decide) L.length (fun i _ => rfl)
  have e : L.getD j (0, []) = L[j] := by rw [List.getD_eq_getElem?_getD, List.getElem?_eq_getElem hj]; rfl
  have h0 := h.2 j 0 hj (by decide)
  rw [e] at h0
  exact ⟨h0, h.2 j 1 hj (by decide)⟩

set_option maxRecDepth 100000 in
set_option maxHeartbeats 8000000 in
theorem write_at {w0 w : World} {l : List Asn} {g d : Nat} {m : DS} {p k : Int} {s : SlS} (h : St w0 w (slt g d p k s :: dsk d m :: l)) (A : Option Addr) (n c : Nat) (L : List (Int × List Int)) (V : Nat → Option Addr × Nat) (hn : L.length = n) (hn9 : n ≤ 50) (hwl : m.waits.length ≤ 900)
    (hA : ∀ w' m', St w0 w' (slt g d p k s :: dsk d m' :: l) → Sl w' w'.heap.size 2 A n (stepCells L V) ∧ ∀ j (hj : j < L.length), L[j].2.length = 64 ∧ Sl w' w'.heap.size 1 (V j).1 64 (L[j].2.map (.int .u8))) :
    Calls Try.prog 77 #[.pointer (some ⟨g, 0, none⟩), .slice A n c] w fun e w' => e = .returned (.int .i64 (wfs m L).1) ∧ St w0 w' (slt g d p k s :: dsk d (wfs m L).2 :: l) := by
  have H := Lib.hid h; have HN := Lib.hid hn; have HA := Lib.hid hA
  clear h hn hA
  go_enter Try.func77, Try.ntmps77
  go_wp2_with (fail)
  go_loopw [11] (fun i wr => ∃ (q : Nat) (m' : DS), q ≤ n ∧ i = .int .i64 q ∧ St w0 wr (slt g d p k s :: dsk d m' :: l) ∧ m'.waits.length ≤ 900 + q ∧ wfs m L = wfs m' (L.drop q)) (fun i _ => n - (intOf i).toNat)
  case atStart => exact ⟨0, m, by omega, rfl, H.out, hwl, rfl⟩
  case round =>
    obtain ⟨q, m1, hq, rfl, hi, hw1, hwf⟩ := hrel
    have HI := Lib.hid hi; have HWF := Lib.hid hwf
    clear hi hwf
    by_cases hlt : q < n
    · have hlt' : (q : Int) < (n : Int) := by omega
      have hql : q < L.length := by rw [HN.out]; exact hlt
      obtain ⟨hsl, hall⟩ := HA.out _ _ HI.out
      obtain ⟨b, off, rfl, lb, hcs⟩ := hsl.2 (by omega)
      obtain ⟨s0, s1⟩ := stepCells_get V hql
      have a0 : wr.cell? ⟨b, off + q * 2, none⟩ = _ := hcs _ _ s0
      have a1 : wr.cell? ⟨b, off + (q * 2 + 1), none⟩ = _ := hcs _ _ s1
      rw [← Nat.add_assoc] at a1
      obtain ⟨h64, hsq⟩ := hall q hql
      have HD := Lib.hid (show L.drop q = L[q] :: L.drop (q + 1) from List.drop_eq_getElem_cons hql)
      generalize L[q] = x at a0 h64 hsq HD s0
      obtain ⟨at_, bs⟩ := x
      simp only at a0 h64 hsq
      generalize V q = v at a1 hsq s1
      obtain ⟨B, cB⟩ := v
      simp only at a1 hsq
      rw [HD.out] at HWF
      have HX := Lib.hid (show wfs m1 ((at_, bs) :: L.drop (q + 1)) = if (wf m1 at_ bs).1 = 0 then wfs (wf m1 at_ bs).2 (L.drop (q + 1)) else wf m1 at_ bs from rfl)
      have HFW := Lib.hid (wf_few m1 at_ bs)
      obtain ⟨x, hx⟩ : ∃ x, x = m1.write at_ bs := ⟨_, rfl⟩
      have HWQ := Lib.hid (show wf m1 at_ bs = if x.1 = 0 then x.2.flush else x by rw [hx]; rfl)
      have HL := Lib.hid (show x.2.waits.length ≤ 1000000 by have := wr_few m1 at_ bs; rw [hx]; omega)
      obtain ⟨w2, hw2⟩ : ∃ w2, w2 = wr.alloc (.cells #[.int .i64 at_, .slice B 64 cB] 167) := ⟨_, rfl⟩
      have H2 := Lib.hid (show St w0 w2 (row wr.heap.size 167 [.int .i64 at_, .slice B 64 cB] :: slt g d p k s :: dsk d m1 :: l) by rw [hw2]; exact HI.out.new _ _)
      have HSQ := Lib.hid (show Sl w2 w2.heap.size 1 B 64 (bs.map (.int .u8)) by
        have hb : Below wr.heap.size wr w2 := by rw [hw2]; exact (Below.refl _ _).alloc (Nat.le_refl _) _
        exact (hsq.below hb).more hb.size)
      have HW := Lib.hid (dsk_write (H2.out.drew.pick 2 rfl) at_ B 64 cB bs h64 (HSQ.out.below (Below.refl _ _).drew) (by omega))
      rw [← hx] at HW
      have HW2 := Lib.hid hw2
      clear hx hw2 hcs hsl hall s0 s1 hsq h64
      obtain ⟨ev, m2⟩ := x
      simp only at HWQ HW HL
      go_upto_region 4 with fail
      rw [← HW2.out]
      obtain ⟨y0, y1⟩ : w2.cell? ⟨wr.heap.size, 0, none⟩ = some (.int .i64 at_) ∧ w2.cell? ⟨wr.heap.size, 1, none⟩ = some (.slice B 64 cB) := ⟨H2.out.row.1.cell 0, H2.out.row.1.cell 1⟩
      have ly := H2.out.row.1.lt
      obtain ⟨c0, c1, c2, c3, c4, c5, c6, lg⟩ := slt_read (H2.out.pick 1 rfl).row.1
      clear a0 a1 lb
      go_wp2_with (fail)
      refine wp_region_plan [0, 1, 2, 4, 6, 3, 5, 7] [[8, 9]] (by kernel_rfl) (by kernel_rfl) (fun _ _ _ _ _ h => h) ?_
      simp only [forks, pick, List.getElem?_cons_succ, List.getElem?_cons_zero, Option.getD_some]
      iterate 8 still_step
      refine wpStill_nil ?_
      go_wp2_with (fail)
      refine HW.out.mono ?_
      rintro e w3 ⟨rfl, h3⟩
      have H3 := Lib.hid ((h3.pick 1 rfl).drop.pick 1 rfl)
      clear h3 c0 c1 c2 c3 c4 c5 c6 lg y0 y1 ly
      obtain ⟨c0, c1, c2, c3, c4, c5, c6, lg⟩ := slt_read H3.out.row.1
      by_cases he : ev = 0
      · subst he
        have HF := Lib.hid (dsk_flush H3.out.swap HL.out)
        have HQ2 := Lib.hid (HWQ.out.trans (if_pos rfl))
        obtain ⟨y, hy⟩ : ∃ y, y = m2.flush := ⟨_, rfl⟩
        rw [← hy] at HF HQ2
        rw [HQ2.out] at HX HFW
        clear hy
        obtain ⟨ef, m3⟩ := y
        simp only at HF HX HFW
        go_wp2_with (fail)
        refine HF.out.mono ?_
        rintro e w4 ⟨rfl, h4⟩
        have H4 := Lib.hid h4.swap
        clear h4 c0 c1 c2 c3 c4 c5 c6 lg
        by_cases hf : ef = 0
        · subst hf
          have HX2 := Lib.hid (HWF.out.trans (HX.out.trans (if_pos rfl)))
          go_wp2_with (fail)
          go_roundw
          case rel => exact ⟨q + 1, m3, by omega, by go_num, H4.out, by have := HFW.out; omega, HX2.out⟩
          case measure => simp [intOf] <;> omega
        · have b1 : (ef != 0) = true := by simpa using hf
          have HX2 := Lib.hid (HWF.out.trans (HX.out.trans (if_neg hf)))
          clear hf
          go_wp2_with (fail)
          go_ret
          rw [HX2.out]
          exact ⟨rfl, H4.out⟩
      · have b1 : (ev != 0) = true := by simpa using he
        have HQ2 := Lib.hid (HWQ.out.trans (if_neg he))
        rw [HQ2.out] at HX
        have HX2 := Lib.hid (HWF.out.trans (HX.out.trans (if_neg he)))
        clear he
        go_wp2_with (fail)
        go_ret
        rw [HX2.out]
        exact ⟨rfl, H3.out⟩
    · obtain rfl : q = n := by omega
      have HX2 := Lib.hid (HWF.out.trans (show wfs m1 (L.drop q) = (0, m1) by rw [← HN.out, List.drop_length]; rfl))
      have hlt' : ¬ (q : Int) < (q : Int) := by omega
      go_wp2_with (fail)
      go_ret
      rw [HX2.out]
      exact ⟨rfl, HI.out⟩

/-! ### Stage -/
set_option maxHeartbeats 1000000 in
theorem stage_nil (w : World) : Calls Try.prog 44 #[.pointer none] w fun e w' => e = .returned (.tuple #[Stg.zero.val, .bool false]) ∧ Below w.heap.size w w' := by
  go_enter Try.func44, Try.ntmps44
  go_wp2_with (fail)
  refine bodyPost_ret (res_cell_slot rfl _ _ w.heap.size _ _ _ _ _ rfl rfl (heap_alloc_new _ _) Try.underlying96 rfl (by kernel_rfl)) rfl ?_
  exact ⟨rfl, (Below.refl _ _).alloc (Nat.le_refl _) _⟩
/-- what Stage tells -/
def told (s : SlS) : Stg := if s.has then s.st else Stg.zero
set_option maxHeartbeats 1000000 in
theorem stage_at {w : World} {g d : Nat} {p k : Int} {s : SlS} (h : Row w g 157 (sltCells d p k s)) :
    Calls Try.prog 44 #[.pointer (some ⟨g, 0, none⟩)] w fun e w' => e = .returned (.tuple #[(told s).val, .bool s.has]) ∧ Below w.heap.size w w' := by
  obtain ⟨c0, c1, c2, c3, c4, c5, c6, lg⟩ := slt_read h
  obtain ⟨has, st⟩ := s
  simp only at c3 c4 c5 c6
  clear h
  cases has with
  | false =>
    go_enter Try.func44, Try.ntmps44
    go_wp2_with (fail)
    refine bodyPost_ret (res_cell_slot rfl _ _ w.heap.size _ _ _ _ _ rfl rfl (heap_alloc_new _ _) Try.underlying96 rfl (by kernel_rfl)) rfl ?_
    exact ⟨rfl, (Below.refl _ _).alloc (Nat.le_refl _) _⟩
  | true =>
    go_enter Try.func44, Try.ntmps44
    go_wp2_with (fail)
    refine bodyPost_ret (res_cell_slot rfl _ _ w.heap.size _ _ _ _ _ rfl rfl (heap_alloc_new _ _) Try.underlying96 rfl (by kernel_rfl)) rfl ?_
    exact ⟨rfl, (Below.refl _ _).alloc (Nat.le_refl _) _⟩

/-! ### wrong -/
set_option maxHeartbeats 1000000 in
theorem wrong_nil (w : World) (se no : Int) (v : Value) : Calls Try.prog 79 #[.pointer none, .int .i64 se, .int .i64 no, v] w fun e w' => e = .returned (.int .i64 7) ∧ w' = w := by
  go_enter Try.func79, Try.ntmps79
  go_wp2_with (fail)
  go_ret
  exact ⟨rfl, rfl⟩
set_option maxRecDepth 100000 in
set_option maxHeartbeats 4000000 in
theorem wrong_at {w : World} {g d : Nat} {p k : Int} {s : SlS} (h : Row w g 157 (sltCells d p k s)) (hr : s.has = true → s.st.right = true) (se no : Int) (A : Option Addr) (n c : Nat) :
    Calls Try.prog 79 #[.pointer (some ⟨g, 0, none⟩), .int .i64 se, .int .i64 no, .slice A n c] w fun e w' => e = .returned (.int .i64 (wrongE s se no n)) ∧ w' = w := by
  obtain ⟨c0, c1, c2, c3, c4, c5, c6, lg⟩ := slt_read h
  obtain ⟨has, st⟩ := s
  simp only at c3 c4 c5 c6 hr
  clear h
  have HW := Lib.hid (show wrongE ⟨has, st⟩ se no n = if has = false then 16 else if se ≠ st.session then 17 else if no < 0 ∨ (blocksN st.size : Int) ≤ no then 3 else if n ≠ 16 then 14 else 0 from rfl)
  cases has with
  | false =>
    rw [if_pos rfl] at HW
    go_enter Try.func79, Try.ntmps79
    go_wp2_with (fail)
    go_ret
    exact ⟨ret_int HW.out.symm, rfl⟩
  | true =>
    rw [if_neg (show ¬ (true = false) by decide)] at HW
    have hin := (stg_in (hr rfl)).2.1
    obtain ⟨z0, z1⟩ := hin
    clear hr
    by_cases hse : se = st.session
    · subst hse
      rw [if_neg (fun h => h rfl)] at HW
      have hb : (st.session != st.session) = false := by simp
      by_cases hno : no < 0
      · rw [if_pos (.inl hno)] at HW
        go_enter Try.func79, Try.ntmps79
        go_wp2_with (fail)
        go_ret
        exact ⟨ret_int HW.out.symm, rfl⟩
      · have HBL := Lib.hid (fun w => record.blocks_at w st.size (by omega) (by omega))
        obtain ⟨b, hbl⟩ : ∃ b, b = blocksN st.size := ⟨_, rfl⟩
        rw [← hbl] at HW HBL
        clear hbl
        by_cases hge : (b : Int) ≤ no
        · rw [if_pos (.inr hge)] at HW
          go_enter Try.func79, Try.ntmps79
          go_wp2_with (fail)
          refine (HBL.out _).mono ?_
          rintro e w1 ⟨rfl, rfl⟩
          go_wp2_with (fail)
          go_ret
          exact ⟨ret_int HW.out.symm, rfl⟩
        · rw [if_neg (by omega)] at HW
          by_cases h16 : n = 16
          · subst h16
            rw [if_neg (fun h => h rfl)] at HW
            go_enter Try.func79, Try.ntmps79
            go_wp2_with (fail)
            refine (HBL.out _).mono ?_
            rintro e w1 ⟨rfl, rfl⟩
            go_wp2_with (fail)
            go_ret
            exact ⟨ret_int HW.out.symm, rfl⟩
          · rw [if_pos h16] at HW
            have h1 : ((n : Int) != 16) = true := by simp; omega
            have h2 : (n != 16) = true := by simpa using h16
            clear h16
            go_enter Try.func79, Try.ntmps79
            go_wp2_with (fail)
            refine (HBL.out _).mono ?_
            rintro e w1 ⟨rfl, rfl⟩
            go_wp2_with (fail)
            go_ret
            exact ⟨ret_int HW.out.symm, rfl⟩
    · rw [if_pos hse] at HW
      have hb : (se != st.session) = true := by simpa using hse
      clear hse
      go_enter Try.func79, Try.ntmps79
      go_wp2_with (fail)
      go_ret
      exact ⟨ret_int HW.out.symm, rfl⟩
end Go.Proofs.Ytooagoikiafgcaa.stage
