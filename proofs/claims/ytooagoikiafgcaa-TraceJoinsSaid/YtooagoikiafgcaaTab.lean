/-
  PROVED HERE: frame tables as values, and what the program's tests of their parts answer.
  CONDITIONS: each lemma names its own.
-/
import Derived.Test.YtooagoikiafgcaaPlan
import Derived.Test.YtooagoikiafgcaaSep
import Derived.BigQuiet
import Derived.Deep.RegionWith
import Derived.IntWalk
import Derived.Deep.DeepCutAuto
import Derived.Deep.CutBlock
import Derived.OwnWalk
namespace Go.Proofs.Ytooagoikiafgcaa.tab
set_option linter.unusedVariables false
open Go.RowKit Go.Proofs.Ytooagoikiafgcaa.base Go.Proofs.Ytooagoikiafgcaa.obj Go.Proofs.Ytooagoikiafgcaa.mem Go.Proofs.Ytooagoikiafgcaa.sep Go.Proofs.Ytooagoikiafgcaa.plan

/-- three numbers: a partition (memory, instructions, hardware), a window (whose, from, how long), a channel (from, to, depth) -/
structure T3 where
  a : Int
  b : Int
  c : Int
deriving DecidableEq
instance : Inhabited T3 := ⟨⟨0, 0, 0⟩⟩
def T3.cells (x : T3) : List Value := [.int .i64 x.a, .int .i64 x.b, .int .i64 x.c]
abbrev T3.agg (x : T3) : Value := .agg #[.int .i64 x.a, .int .i64 x.b, .int .i64 x.c]
def t3s (l : List T3) : List Value := (l.map T3.cells).flatten
theorem t3s_snoc (l : List T3) (x : T3) : t3s (l ++ [x]) = t3s l ++ x.cells := by simp [t3s]
theorem t3s_one (l : List T3) : ∀ u ∈ t3s l, u.oneCell' = true := by
  intro u hu
  simp only [t3s, List.mem_flatten, List.mem_map] at hu
  obtain ⟨_, ⟨x, _, rfl⟩, h⟩ := hu
  simp only [T3.cells, List.mem_cons, List.not_mem_nil, or_false] at h
  rcases h with rfl | rfl | rfl <;> rfl
theorem t3s_get {w : World} {B n : Nat} {A : Option Addr} {l : List T3} (h : Sl w B 3 A n (t3s l)) (hn : n = l.length) {k : Nat} (hk : k < l.length) :
    ∃ b off, A = some ⟨b, off, none⟩ ∧ b < B ∧ w.cell? ⟨b, off + k * 3, none⟩ = some (.int .i64 l[k].a) ∧ w.cell? ⟨b, off + k * 3 + 1, none⟩ = some (.int .i64 l[k].b) ∧ w.cell? ⟨b, off + k * 3 + 2, none⟩ = some (.int .i64 l[k].c) := by
  obtain ⟨b, off, rfl, hbl, hc⟩ := h.2 (by omega)
  have h9 : ∀ x ∈ l.map T3.cells, x.length = 3 := by
    intro x hx
    obtain ⟨a, _, rfl⟩ := List.mem_map.1 hx
    rfl
  have e := flat_elem h9 (i := k) (by simpa using hk)
  have g : ∀ j, j < 3 → (t3s l)[k * 3 + j]? = (T3.cells l[k])[j]? := by
    intro j hj
    have e2 : (((l.map T3.cells).flatten.drop (k * 3)).take 3)[j]? = (l.map T3.cells).flatten[k * 3 + j]? := by
      rw [List.getElem?_take, if_pos hj, List.getElem?_drop]
    rw [e] at e2
    rw [t3s, ← e2]
    simp
  refine ⟨b, off, rfl, hbl, ?_, ?_, ?_⟩
  · exact hc (k * 3) _ ((g 0 (by omega)).trans rfl)
  · rw [Nat.add_assoc]; exact hc (k * 3 + 1) _ ((g 1 (by omega)).trans rfl)
  · rw [Nat.add_assoc]; exact hc (k * 3 + 2) _ ((g 2 (by omega)).trans rfl)

structure Tab where
  frame : Int
  parts : List T3
  wins : List T3
  chans : List T3
  trial : Int
/-- a table's value, its rows below a block -/
structure TabV (w : World) (B : Nat) (t : Tab) (AP : Option Addr) (nP cP : Nat) (AW : Option Addr) (nW cW : Nat) (AC : Option Addr) (nC cC : Nat) : Prop where
  ps : Sl w B 3 AP nP (t3s t.parts)
  ws : Sl w B 3 AW nW (t3s t.wins)
  cs : Sl w B 3 AC nC (t3s t.chans)
  lp : nP = t.parts.length
  lw : nW = t.wins.length
  lc : nC = t.chans.length
  mp : nP ≤ maxLen
  mw : nW ≤ maxLen
  mc : nC ≤ maxLen
abbrev tabAgg (f : Int) (AP : Option Addr) (nP cP : Nat) (AW : Option Addr) (nW cW : Nat) (AC : Option Addr) (nC cC : Nat) (tr : Int) : Value :=
  .agg #[.int .i64 f, .slice AP nP cP, .slice AW nW cW, .slice AC nC cC, .int .i64 tr]
theorem TabV.below {w w' : World} {B : Nat} {t : Tab} {AP AW AC : Option Addr} {nP cP nW cW nC cC : Nat} (h : TabV w B t AP nP cP AW nW cW AC nC cC) (k : Below B w w') : TabV w' B t AP nP cP AW nW cW AC nC cC :=
  ⟨h.ps.below k, h.ws.below k, h.cs.below k, h.lp, h.lw, h.lc, h.mp, h.mw, h.mc⟩
theorem TabV.more {w : World} {B B' : Nat} {t : Tab} {AP AW AC : Option Addr} {nP cP nW cW nC cC : Nat} (h : TabV w B t AP nP cP AW nW cW AC nC cC) (k : B ≤ B') : TabV w B' t AP nP cP AW nW cW AC nC cC :=
  ⟨h.ps.more k, h.ws.more k, h.cs.more k, h.lp, h.lw, h.lc, h.mp, h.mw, h.mc⟩
/-- over a call that leaves what was there -/
theorem TabV.over {w w' : World} {t : Tab} {AP AW AC : Option Addr} {nP cP nW cW nC cC : Nat} (h : TabV w w.heap.size t AP nP cP AW nW cW AC nC cC) (k : Below w.heap.size w w') : TabV w' w'.heap.size t AP nP cP AW nW cW AC nC cC :=
  (h.below k).more k.size
/-- between two numbers -/
def okr (n a b : Int) : Bool := decide (a ≤ n ∧ n ≤ b)
theorem in_at (w : World) (n a b : Int) : Calls Try.prog 94 #[.int .i64 n, .int .i64 a, .int .i64 b] w fun e w' => e = .returned (.bool (okr n a b)) ∧ w' = w := by
  have HK := Lib.hid (show okr n a b = decide (a ≤ n ∧ n ≤ b) from rfl)
  go_enter Try.func94, Try.ntmps94
  by_cases h1 : n ≥ a
  · by_cases h2 : n ≤ b
    · go_wp2_with (fail)
      go_ret
      exact ⟨ret_bool (by rw [HK.out, decide_eq_true ⟨h1, h2⟩]), rfl⟩
    · go_wp2_with (fail)
      go_ret
      exact ⟨ret_bool (by rw [HK.out, decide_eq_false (by omega)]), rfl⟩
  · go_wp2_with (fail)
    go_ret
    exact ⟨ret_bool (by rw [HK.out, decide_eq_false (by omega)]), rfl⟩
def T3.part (x : T3) : Bool := okr x.a 1 16 && (okr x.b 1 32 && okr x.c 0 65535)
set_option maxHeartbeats 1000000 in
theorem bad_at (w : World) (x : T3) : Calls Try.prog 96 #[x.agg] w fun e w' => e = .returned (.bool (!x.part)) ∧ Below w.heap.size w w' := by
  obtain ⟨a, b, c⟩ := x
  have HK := Lib.hid (show T3.part ⟨a, b, c⟩ = (okr a 1 16 && (okr b 1 32 && okr c 0 65535)) from rfl)
  have HB := Lib.hid ((Below.refl w.heap.size w).alloc (Nat.le_refl _) (.cells #[.int .i64 a, .int .i64 b, .int .i64 c] 134))
  cases h1 : okr a 1 16
  · have HR := Lib.hid (show (!T3.part ⟨a, b, c⟩) = true by rw [HK.out, h1]; rfl)
    go_enter Try.func96, Try.ntmps96
    go_wp2_with (go_at_call 94; refine (in_at _ _ _ _).mono ?_; rintro e w' ⟨rfl, rfl⟩)
    go_ret
    exact ⟨ret_bool HR.out.symm, HB.out⟩
  · cases h2 : okr b 1 32
    · have HR := Lib.hid (show (!T3.part ⟨a, b, c⟩) = true by rw [HK.out, h1, h2]; rfl)
      go_enter Try.func96, Try.ntmps96
      go_wp2_with (go_at_call 94; refine (in_at _ _ _ _).mono ?_; rintro e w' ⟨rfl, rfl⟩)
      go_ret
      exact ⟨ret_bool HR.out.symm, HB.out⟩
    · have HR := Lib.hid (show (!T3.part ⟨a, b, c⟩) = !okr c 0 65535 by rw [HK.out, h1, h2]; rfl)
      go_enter Try.func96, Try.ntmps96
      go_wp2_with (go_at_call 94; refine (in_at _ _ _ _).mono ?_; rintro e w' ⟨rfl, rfl⟩)
      go_ret
      exact ⟨ret_bool HR.out.symm, HB.out⟩
section
variable {w : World} {t : Tab} {AP AW AC : Option Addr} {nP cP nW cW nC cC : Nat}
set_option maxHeartbeats 1000000 in
theorem has_at (h : TabV w w.heap.size t AP nP cP AW nW cW AC nC cC) (p : Int) : Calls Try.prog 100 #[tabAgg t.frame AP nP cP AW nW cW AC nC cC t.trial, .int .i64 p] w fun e w' => e = .returned (.bool (okr p 0 (t.parts.length - 1))) ∧ Below w.heap.size w w' := by
  have hm := h.mp
  have HL := Lib.hid h.lp
  have hw : wrap64 ((nP : Int) - 1) = (nP : Int) - 1 := by
    unfold maxLen at hm
    exact IntWalk.wrap64_in _ (by omega)
  clear h
  have HB := Lib.hid ((Below.refl w.heap.size w).alloc (Nat.le_refl _) (.cells #[.int .i64 t.frame, .slice AP nP cP, .slice AW nW cW, .slice AC nC cC, .int .i64 t.trial] 39))
  go_enter Try.func100, Try.ntmps100
  go_wp2_with (fail)
  refine (in_at _ _ _ _).mono ?_
  rintro e w' ⟨rfl, rfl⟩
  rw [hw]
  go_wp2_with (fail)
  go_ret
  exact ⟨ret_bool (by rw [HL.out]), HB.out⟩
abbrev tabRow (f : Int) (AP : Option Addr) (nP cP : Nat) (AW : Option Addr) (nW cW : Nat) (AC : Option Addr) (nC cC : Nat) (tr : Int) : List Value :=
  [.int .i64 f, .slice AP nP cP, .slice AW nW cW, .slice AC nC cC, .int .i64 tr]
def winOk (n : Nat) (fr e : Int) (x : T3) : Bool := okr x.a 0 ((n : Int) - 1) && (decide (e ≤ x.b) && (decide (x.b ≤ fr) && (decide (1 ≤ x.c) && decide (x.c ≤ fr - x.b))))
def winsOk (n : Nat) (fr : Int) : Int → List T3 → Bool
  | _, [] => true
  | e, x :: l => winOk n fr e x && winsOk n fr (x.b + x.c) l
def Tab.winsR (t : Tab) : Bool := winsOk t.parts.length t.frame 0 t.wins && ((t.wins.any fun x => x.a == 0) && decide (t.wins.length ≤ 8))
/-- behind k windows -/
structure WI (t : Tab) (k : Nat) (e : Int) (care : Bool) : Prop where
  ok : winsOk t.parts.length t.frame 0 t.wins = winsOk t.parts.length t.frame e (t.wins.drop k)
  care : care = (t.wins.take k).any fun x => x.a == 0
  e0 : 0 ≤ e
  e1 : e ≤ 64
theorem WI.start (t : Tab) : WI t 0 0 false := ⟨by simp, by simp, by omega, by omega⟩
theorem WI.bad {t : Tab} {k : Nat} {e : Int} {care : Bool} (h : WI t k e care) (hk : k < t.wins.length) (hb : winOk t.parts.length t.frame e t.wins[k] = false) : t.winsR = false := by
  unfold Tab.winsR
  rw [h.ok, List.drop_eq_getElem_cons hk]
  simp [winsOk, hb]
theorem winOk_true {n : Nat} {fr e : Int} {x : T3} (h : winOk n fr e x = true) : okr x.a 0 ((n : Int) - 1) = true ∧ e ≤ x.b ∧ x.b ≤ fr ∧ 1 ≤ x.c ∧ x.c ≤ fr - x.b := by
  simpa [winOk] using h
theorem WI.go {t : Tab} {k : Nat} {e : Int} {care : Bool} (h : WI t k e care) (hk : k < t.wins.length) (hb : winOk t.parts.length t.frame e t.wins[k] = true) (hf : t.frame ≤ 64) : WI t (k + 1) (t.wins[k].b + t.wins[k].c) (care || (t.wins[k].a == 0)) := by
  obtain ⟨_, h2, h3, h4, h5⟩ := winOk_true hb
  have := h.e0
  refine ⟨?_, ?_, by omega, by omega⟩
  · rw [h.ok, List.drop_eq_getElem_cons hk]
    simp [winsOk, hb]
  · rw [List.take_succ_eq_append_getElem hk, List.any_append, ← h.care]
    simp
theorem WI.end_ {t : Tab} {e : Int} {care : Bool} (h : WI t t.wins.length e care) : t.winsR = (care && decide (t.wins.length ≤ 8)) := by
  have hc := h.care
  rw [List.take_length] at hc
  unfold Tab.winsR
  rw [h.ok, hc]
  simp [winsOk]
set_option maxRecDepth 100000 in
set_option maxHeartbeats 8000000 in
theorem windows_at (h : TabV w w.heap.size t AP nP cP AW nW cW AC nC cC) (hf : okr t.frame 1 64 = true) : Calls Try.prog 97 #[tabAgg t.frame AP nP cP AW nW cW AC nC cC t.trial] w fun e w' => e = .returned (.bool t.winsR) ∧ Below w.heap.size w w' := by
  have HV := Lib.hid h
  have hm := h.mw
  obtain ⟨f1, f2⟩ : 1 ≤ t.frame ∧ t.frame ≤ 64 := by simpa [okr] using hf
  obtain ⟨fr, hfr⟩ : ∃ fr, fr = t.frame := ⟨_, rfl⟩
  obtain ⟨tr, htr⟩ : ∃ tr, tr = t.trial := ⟨_, rfl⟩
  have HHAS := Lib.hid (fun (w' : World) (hb : Below w.heap.size w w') (p : Int) => by have h1 := has_at (h.over hb) p; rw [← hfr, ← htr] at h1; exact h1)
  rw [← hfr, ← htr]
  rw [← hfr] at f1 f2
  have HF := Lib.hid hfr
  clear h hf hfr htr
  go_enter Try.func97, Try.ntmps97
  go_upto_region 2 with fail
  obtain ⟨T, hT⟩ : ∃ T, T = w.heap.size := ⟨_, rfl⟩
  obtain ⟨w1, hw1⟩ : ∃ w1, w1 = w.alloc (.cells #[.int .i64 fr, .slice AP nP cP, .slice AW nW cW, .slice AC nC cC, .int .i64 tr] 39) := ⟨_, rfl⟩
  have H1 := Lib.hid (show St w w1 [row T 39 (tabRow fr AP nP cP AW nW cW AC nC cC tr)] by rw [hw1, hT]; exact (St.nil w).new _ _)
  have HW1 := Lib.hid hw1; have HT := Lib.hid hT
  clear hw1 hT
  rw [← HW1.out, ← HT.out]
  have k2 : w1.cell? ⟨T, 2, none⟩ = some (.slice AW nW cW) := H1.out.row.1.cell 2
  have lT := H1.out.row.1.lt
  go_wp2_with (fail)
  clear k2 lT
  go_loopw [3, 4, 10] (fun s3 s4 i wr => ∃ (k : Nat) (e : Int) (care : Bool), k ≤ nW ∧ i = .int .i64 k ∧ s3 = .int .i64 e ∧ s4 = .bool care ∧ WI t k e care ∧ St w wr [row T 39 (tabRow fr AP nP cP AW nW cW AC nC cC tr)]) (fun _ _ i _ => nW - (intOf i).toNat)
  case atStart => exact ⟨0, 0, false, by omega, rfl, rfl, rfl, WI.start t, H1.out⟩
  case round =>
    obtain ⟨k, e, care, hk, rfl, rfl, rfl, hwi, hst⟩ := hrel
    have HWI := Lib.hid hwi; have HST := Lib.hid hst
    have he0 := hwi.e0
    have he1 := hwi.e1
    clear hwi hst H1
    have t0 : wr.cell? ⟨T, 0, none⟩ = some (.int .i64 fr) := HST.out.row.1.cell 0
    have t1 : wr.cell? ⟨T, 1, none⟩ = some (.slice AP nP cP) := HST.out.row.1.cell 1
    have t2 : wr.cell? ⟨T, 2, none⟩ = some (.slice AW nW cW) := HST.out.row.1.cell 2
    have t3 : wr.cell? ⟨T, 3, none⟩ = some (.slice AC nC cC) := HST.out.row.1.cell 3
    have t4 : wr.cell? ⟨T, 4, none⟩ = some (.int .i64 tr) := HST.out.row.1.cell 4
    have lT := HST.out.row.1.lt
    by_cases hlt : k < nW
    · have hlt' : (k : Int) < (nW : Int) := by omega
      have hk0 : (0 : Int) ≤ (k : Int) := by omega
      have hkl : k < t.wins.length := by rw [← HV.out.lw]; exact hlt
      obtain ⟨b, off, rfl, lb, c0, c1, c2⟩ := t3s_get (HV.out.over HST.out.bel).ws HV.out.lw hkl
      have HBAD := Lib.hid (HWI.out.bad hkl)
      have HGO := Lib.hid (fun hb => HWI.out.go hkl hb (by rw [← HF.out]; exact f2))
      have HOK := Lib.hid (show winOk t.parts.length t.frame e t.wins[k] = _ from rfl)
      generalize t.wins[k] = x at c0 c1 c2 HBAD HGO HOK
      obtain ⟨xa, xb, xc⟩ := x
      dsimp only at c0 c1 c2
      go_upto_region 5 with fail
      obtain ⟨Z, hZ⟩ : ∃ Z, Z = wr.heap.size := ⟨_, rfl⟩
      obtain ⟨w2, hw2⟩ : ∃ w2, w2 = wr.alloc (.cells #[.int .i64 xa, .int .i64 xb, .int .i64 xc] 137) := ⟨_, rfl⟩
      have H2 := Lib.hid (show St w w2 [row Z 137 [.int .i64 xa, .int .i64 xb, .int .i64 xc], row T 39 (tabRow fr AP nP cP (some ⟨b, off, none⟩) nW cW AC nC cC tr)] by rw [hw2, hZ]; exact HST.out.new _ _)
      have HW2 := Lib.hid hw2; have HZ := Lib.hid hZ
      clear hw2 hZ c0 c1 c2 lb t0 t1 t2 t3 t4 lT
      rw [← HW2.out, ← HZ.out]
      go_cut [46] (fun s wc => s = .bool (!winOk t.parts.length t.frame e ⟨xa, xb, xc⟩) ∧ St w wc [row Z 137 [.int .i64 xa, .int .i64 xb, .int .i64 xc], row T 39 (tabRow fr AP nP cP (some ⟨b, off, none⟩) nW cW AC nC cC tr)])
      case first =>
        have t0 : w2.cell? ⟨T, 0, none⟩ = some (.int .i64 fr) := (H2.out.pick 1 rfl).row.1.cell 0
        have t1 : w2.cell? ⟨T, 1, none⟩ = some (.slice AP nP cP) := (H2.out.pick 1 rfl).row.1.cell 1
        have t2 : w2.cell? ⟨T, 2, none⟩ = some (.slice (some ⟨b, off, none⟩) nW cW) := (H2.out.pick 1 rfl).row.1.cell 2
        have t3 : w2.cell? ⟨T, 3, none⟩ = some (.slice AC nC cC) := (H2.out.pick 1 rfl).row.1.cell 3
        have t4 : w2.cell? ⟨T, 4, none⟩ = some (.int .i64 tr) := (H2.out.pick 1 rfl).row.1.cell 4
        have lT : T < w2.heap.size := (H2.out.pick 1 rfl).row.1.lt
        have z0 : w2.cell? ⟨Z, 0, none⟩ = some (.int .i64 xa) := H2.out.row.1.cell 0
        have lz : Z < w2.heap.size := H2.out.row.1.lt
        go_wp2_with (fail)
        refine (HHAS.out w2 H2.out.bel xa).mono ?_
        rintro e' w3 ⟨rfl, hb3⟩
        have H3 := Lib.hid (H2.out.below hb3)
        clear hb3 t0 t1 t2 t3 t4 lT z0 lz
        have t0 : w3.cell? ⟨T, 0, none⟩ = some (.int .i64 fr) := (H3.out.pick 1 rfl).row.1.cell 0
        have lT : T < w3.heap.size := (H3.out.pick 1 rfl).row.1.lt
        have z0 : w3.cell? ⟨Z, 0, none⟩ = some (.int .i64 xa) := H3.out.row.1.cell 0
        have z1 : w3.cell? ⟨Z, 1, none⟩ = some (.int .i64 xb) := H3.out.row.1.cell 1
        have z2 : w3.cell? ⟨Z, 2, none⟩ = some (.int .i64 xc) := H3.out.row.1.cell 2
        have lz : Z < w3.heap.size := H3.out.row.1.lt
        have HW := Lib.hid (show winOk t.parts.length t.frame e ⟨xa, xb, xc⟩ = (okr xa 0 (t.parts.length - 1) && (decide (e ≤ xb) && (decide (xb ≤ fr) && (decide (1 ≤ xc) && decide (xc ≤ fr - xb))))) by rw [HF.out]; rfl)
        clear HOK HBAD HGO HWI
        cases h1 : okr xa 0 ((t.parts.length : Int) - 1)
        · have HR := Lib.hid (show winOk t.parts.length t.frame e ⟨xa, xb, xc⟩ = false by rw [HW.out, h1]; rfl)
          go_wp2_with (fail)
          go_meet
          exact ⟨by rw [HR.out]; rfl, H3.out⟩
        · rw [h1, Bool.true_and] at HW
          by_cases h2 : xb < e
          · have HR := Lib.hid (show winOk t.parts.length t.frame e ⟨xa, xb, xc⟩ = false by rw [HW.out, decide_eq_false (by omega : ¬ e ≤ xb)]; rfl)
            go_wp2_with (fail)
            go_meet
            exact ⟨by rw [HR.out]; rfl, H3.out⟩
          · rw [decide_eq_true (by omega : e ≤ xb), Bool.true_and] at HW
            by_cases h3 : xb > fr
            · have HR := Lib.hid (show winOk t.parts.length t.frame e ⟨xa, xb, xc⟩ = false by rw [HW.out, decide_eq_false (by omega : ¬ xb ≤ fr)]; rfl)
              go_wp2_with (fail)
              go_meet
              exact ⟨by rw [HR.out]; rfl, H3.out⟩
            · rw [decide_eq_true (by omega : xb ≤ fr), Bool.true_and] at HW
              by_cases h4 : xc < 1
              · have HR := Lib.hid (show winOk t.parts.length t.frame e ⟨xa, xb, xc⟩ = false by rw [HW.out, decide_eq_false (by omega : ¬ 1 ≤ xc)]; rfl)
                go_wp2_with (fail)
                go_meet
                exact ⟨by rw [HR.out]; rfl, H3.out⟩
              · rw [decide_eq_true (by omega : 1 ≤ xc), Bool.true_and] at HW
                have hsub : wrap64 (fr - xb) = fr - xb := IntWalk.wrap64_in _ (by omega)
                by_cases h5 : xc > fr - xb
                · have HR := Lib.hid (show winOk t.parts.length t.frame e ⟨xa, xb, xc⟩ = false by rw [HW.out, decide_eq_false (by omega : ¬ xc ≤ fr - xb)])
                  go_wp2_with (fail)
                  go_meet
                  exact ⟨by rw [HR.out]; rfl, H3.out⟩
                · have HR := Lib.hid (show winOk t.parts.length t.frame e ⟨xa, xb, xc⟩ = true by rw [HW.out, decide_eq_true (by omega : xc ≤ fr - xb)])
                  go_wp2_with (fail)
                  go_meet
                  exact ⟨by rw [HR.out]; simp; omega, H3.out⟩
      case rest =>
        obtain ⟨rfl, hst⟩ := hcut
        have H3 := Lib.hid hst
        clear hst H2 HW2 HZ
        cases hw : winOk t.parts.length t.frame e ⟨xa, xb, xc⟩
        · have HR := Lib.hid (HBAD.out hw)
          clear HBAD HGO HOK hw
          go_wp2_with (fail)
          go_ret
          exact ⟨ret_bool HR.out.symm, H3.out.bel⟩
        · obtain ⟨g1, g2, g3, g4, g5⟩ := winOk_true hw
          rw [← HF.out] at g3 g5
          have HR := Lib.hid (HGO.out hw)
          have HADD := Lib.hid (show wrap64 (xb + xc) = xb + xc from IntWalk.wrap64_in _ (by dsimp only at g2 g3 g4 g5; omega))
          clear HBAD HGO HOK hw g1 g2 g3 g4 g5
          have z0 : wc.cell? ⟨Z, 0, none⟩ = some (.int .i64 xa) := H3.out.row.1.cell 0
          have z1 : wc.cell? ⟨Z, 1, none⟩ = some (.int .i64 xb) := H3.out.row.1.cell 1
          have z2 : wc.cell? ⟨Z, 2, none⟩ = some (.int .i64 xc) := H3.out.row.1.cell 2
          have lz : Z < wc.heap.size := H3.out.row.1.lt
          have H4 := Lib.hid H3.out.drop
          have hb9 : k + 1 ≤ 9223372036854775807 := by unfold maxLen at hm; omega
          cases care
          · cases hxa : (xa == 0)
            · have HR2 := Lib.hid (show WI t (k + 1) (xb + xc) false by have h := HR.out; simp only [hxa] at h; exact h)
              go_wp2_with (fail)
              go_roundw
              case rel => exact ⟨k + 1, xb + xc, false, by omega, by go_num, by rw [HADD.out], rfl, HR2.out, H4.out⟩
              case measure => simp [intOf] <;> omega
            · have HR2 := Lib.hid (show WI t (k + 1) (xb + xc) true by have h := HR.out; simp only [hxa] at h; exact h)
              go_wp2_with (fail)
              go_roundw
              case rel => exact ⟨k + 1, xb + xc, true, by omega, by go_num, by rw [HADD.out], rfl, HR2.out, H4.out⟩
              case measure => simp [intOf] <;> omega
          · have HR2 := Lib.hid (show WI t (k + 1) (xb + xc) true by have h := HR.out; simp only [Bool.true_or] at h; exact h)
            go_wp2_with (fail)
            go_roundw
            case rel => exact ⟨k + 1, xb + xc, true, by omega, by go_num, by rw [HADD.out], rfl, HR2.out, H4.out⟩
            case measure => simp [intOf] <;> omega
    · have hkn : k = nW := by omega
      have hlt' : ¬ (k : Int) < (nW : Int) := by omega
      have HE := Lib.hid (show t.winsR = (care && decide (nW ≤ 8)) by
        have h := HWI.out
        rw [hkn, HV.out.lw] at h
        rw [h.end_, ← HV.out.lw])
      clear hkn HWI
      cases care
      · have HR := Lib.hid (show t.winsR = false by rw [HE.out]; rfl)
        go_wp2_with (fail)
        go_ret
        exact ⟨ret_bool HR.out.symm, HST.out.bel⟩
      · have HR := Lib.hid (show t.winsR = decide (nW ≤ 8) by rw [HE.out]; rfl)
        by_cases h8 : nW ≤ 8
        · have h8' : (nW : Int) ≤ 8 := by omega
          have HR2 := Lib.hid (show t.winsR = true by rw [HR.out, decide_eq_true h8])
          go_wp2_with (fail)
          go_ret
          exact ⟨ret_bool HR2.out.symm, HST.out.bel⟩
        · have h8' : ¬ (nW : Int) ≤ 8 := by omega
          have HR2 := Lib.hid (show t.winsR = false by rw [HR.out, decide_eq_false h8])
          go_wp2_with (fail)
          go_ret
          exact ⟨ret_bool HR2.out.symm, HST.out.bel⟩
end
end Go.Proofs.Ytooagoikiafgcaa.tab
