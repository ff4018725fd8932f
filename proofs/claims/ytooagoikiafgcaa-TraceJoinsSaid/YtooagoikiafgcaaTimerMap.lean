/-
  PROVED HERE: the map from names to timers in memory; timers as a list of names and ticks; New, Len, Next, At.
  CONDITIONS: each lemma names its own.
-/
import Derived.Test.YtooagoikiafgcaaTimerFix
import Derived.Maps.OwnSet
import Derived.Maps.Views
namespace Go.Proofs.Ytooagoikiafgcaa.timer
set_option linter.unusedVariables false
open Go.RowKit Go.WideShapes Go.Maps Go.Proofs.Ytooagoikiafgcaa.base Go.Proofs.Ytooagoikiafgcaa.obj Go.Proofs.Ytooagoikiafgcaa.mem Go.Proofs.Ytooagoikiafgcaa.sep Go.Proofs.Ytooagoikiafgcaa.plan

/-- how a pointer to a timer reads: its block's number -/
def pR : Value → Option (DataW Unit × List MemPlace)
  | .pointer none => some (.lit (.int .i64 0), [])
  | .pointer (some ⟨g, 0, none⟩) => some (.lit (.int .i64 ((g : Int) + 1)), [])
  | _ => none
theorem pR_ptr (g : Nat) : pR (ptr g) = some (.lit (.int .i64 ((g : Int) + 1)), []) := rfl
theorem pR_inv {v : Value} {g : Nat} {ps : List MemPlace} (h : pR v = some (.lit (.int .i64 ((g : Int) + 1)), ps)) : v = ptr g := by
  unfold pR at h
  split at h
  · simp at h; omega
  · rename_i g'
    simp at h
    obtain ⟨h1, _⟩ := h
    have : g' = g := by omega
    rw [this]
  · exact absurd h (by simp)
theorem intKey : Keyed Try.prog 3 := int_keyed Try.underlying3
def mapA (B k : Nat) (D : DataW Unit) : Asn where
  on w F := w.ownsMap Try.prog 3 pR B k D ∧ ∀ i, F i ↔ i = B
  dom := fun ⟨⟨es, clock, h, _⟩, k⟩ i hi => by
    rw [(k i).1 hi]
    exact (Array.getElem?_eq_some_iff.1 h).1
  loc := fun ⟨⟨es, clock, h, r⟩, k⟩ e => ⟨⟨es, clock, (e _ ((k _).2 rfl)).trans h, r⟩, k⟩
theorem mapA_own {w0 w : World} {l : List Asn} {B k : Nat} {D : DataW Unit} (h : St w0 w (mapA B k D :: l)) : w.ownsMap Try.prog 3 pR B k D := by
  obtain ⟨F, ⟨F1, F2, h1, h2, h3, h4⟩, k⟩ := h.sat
  exact h1.1
theorem mapA_turn {w0 w w' : World} {l : List Asn} {B k k' : Nat} {D D' : DataW Unit} (h : St w0 w (mapA B k D :: l)) (ht : w.mapTurned w' B) (ho : w'.ownsMap Try.prog 3 pR B k' D') : St w0 w' (mapA B k' D' :: l) := by
  obtain ⟨F, h1, h2, h3⟩ := h.frame
  exact h3 _ _ F (Kept.of_grown ht.grown F fun i hi => by injection hi with hi; exact (h1.2 i).2 hi.symm) ⟨ho, h1.2⟩ fun i hi => .inl hi
abbrev key (nm : Int) : Lit := .int .i64 nm
/-- what the map says -/
structure MR (gs : List Nat) (f : Nat → One) (D : DataW Unit) : Prop where
  has : ∀ nm, Maps.has D (key nm) = true ↔ ∃ g ∈ gs, (f g).name = nm
  val : ∀ g ∈ gs, D.atKey (key (f g).name) (.lit (.int .i64 0)) = .lit (.int .i64 ((g : Int) + 1))
theorem MR.alk {gs gs' : List Nat} {f f' : Nat → One} {D : DataW Unit} (h : MR gs f D) (hp : ∀ g, g ∈ gs' ↔ g ∈ gs) (hn : ∀ g ∈ gs, (f' g).name = (f g).name) : MR gs' f' D := by
  refine ⟨fun nm => (h.has nm).trans ⟨fun ⟨g, h1, h2⟩ => ⟨g, (hp g).2 h1, (hn g h1).trans h2⟩, fun ⟨g, h1, h2⟩ => ⟨g, (hp g).1 h1, (hn g ((hp g).1 h1)).symm.trans h2⟩⟩, fun g hg => ?_⟩
  rw [hn g ((hp g).1 hg)]
  exact h.val g ((hp g).1 hg)
theorem key_ne {a b : Int} (h : a ≠ b) : key a ≠ key b := fun e => h (by injection e)
theorem MR.put {gs : List Nat} {f : Nat → One} {D : DataW Unit} (h : MR gs f D) (hD : IsMap D) {g : Nat} (hnew : ∀ x ∈ gs, (f x).name ≠ (f g).name) : MR (g :: gs) f (D.put (key (f g).name) (.lit (.int .i64 ((g : Int) + 1)))) := by
  refine ⟨fun nm => ?_, fun x hx => ?_⟩
  · by_cases e : nm = (f g).name
    · rw [e]
      exact ⟨fun _ => ⟨g, by simp, rfl⟩, fun _ => Maps.has_put_same hD (show WideAt.IsKeyLit (key _) from trivial) _⟩
    · rw [Maps.has_put_other (key_ne e), h.has]
      exact ⟨fun ⟨x, h1, h2⟩ => ⟨x, List.mem_cons_of_mem _ h1, h2⟩, fun ⟨x, h1, h2⟩ => by
        rcases List.mem_cons.1 h1 with h1 | h1
        · rw [h1] at h2; exact absurd h2.symm e
        · exact ⟨x, h1, h2⟩⟩
  · rcases List.mem_cons.1 hx with h1 | h1
    · rw [h1]
      exact Maps.atKey_put_same hD (show WideAt.IsKeyLit (key _) from trivial) _ _
    · rw [Maps.atKey_put_other (key_ne (hnew x h1))]
      exact h.val x h1
theorem MR.del {gs : List Nat} {f : Nat → One} {D : DataW Unit} {g : Nat} (h : MR (g :: gs) f D) (hd : ∀ x ∈ gs, (f x).name ≠ (f g).name) : MR gs f (D.del (key (f g).name)) := by
  refine ⟨fun nm => ?_, fun x hx => ?_⟩
  · by_cases e : nm = (f g).name
    · rw [e, Maps.has_del_same]
      exact ⟨fun h => absurd h (by decide), fun ⟨x, h1, h2⟩ => absurd h2 (hd x h1)⟩
    · rw [Maps.has_del_other (key_ne e), h.has]
      exact ⟨fun ⟨x, h1, h2⟩ => by
        rcases List.mem_cons.1 h1 with h1 | h1
        · rw [h1] at h2; exact absurd h2.symm e
        · exact ⟨x, h1, h2⟩, fun ⟨x, h1, h2⟩ => ⟨x, List.mem_cons_of_mem _ h1, h2⟩⟩
  · rw [Maps.atKey_del_other (key_ne (hd x hx))]
    exact h.val x (List.mem_cons_of_mem _ hx)

/-! ### timers as a list of names and ticks, in any order -/
def kv (f : Nat → One) (g : Nat) : Int × Int := ((f g).name, (f g).tick)
structure TX (w0 w : World) (T q : Nat) (M : List (Int × Int)) (l : List Asn) (v : Value) (gs : List Nat) (f : Nat → One) (B : Nat) (D : DataW Unit) : Prop where
  ps : PS w0 w T (.map (some B)) v gs f (mapA B q D :: l)
  hp : Heap (rk f) (ix gs) gs.length
  few : gs.length ≤ q
  mr : MR gs f D
  dist : ∀ g ∈ gs, ∀ g' ∈ gs, (f g).name = (f g').name → g = g'
  wf : ∀ g ∈ gs, (Lit.int .i64 (f g).name).wf = true
  mod : M.Perm (gs.map (kv f))
def TS (w0 w : World) (T q : Nat) (M : List (Int × Int)) (l : List Asn) : Prop := ∃ v gs f B D, TX w0 w T q M l v gs f B D
section
variable {w0 w : World} {T q : Nat} {M : List (Int × Int)} {l : List Asn}
theorem TS.perm (h : TS w0 w T q M l) {M' : List (Int × Int)} (p : M.Perm M') : TS w0 w T q M' l := by
  obtain ⟨v, gs, f, B, D, h⟩ := h
  exact ⟨v, gs, f, B, D, h.ps, h.hp, h.few, h.mr, h.dist, h.wf, p.symm.trans h.mod⟩
theorem TS.bel (h : TS w0 w T q M l) : Below w0.heap.size w0 w := by
  obtain ⟨v, gs, f, B, D, h⟩ := h
  exact h.ps.st.bel
theorem TS.below (h : TS w0 w T q M l) {w' : World} (k : Below w.heap.size w w') : TS w0 w' T q M l := by
  obtain ⟨v, gs, f, B, D, h⟩ := h
  exact ⟨v, gs, f, B, D, ⟨h.ps.st.below k, h.ps.nd, h.ps.at_⟩, h.hp, h.few, h.mr, h.dist, h.wf, h.mod⟩
/-- what lies beside -/
theorem TS.beside (h : TS w0 w T q M l) : St w0 w l := by
  obtain ⟨v, gs, f, B, D, h⟩ := h
  exact h.ps.st.drop.drop.drop.drop
theorem TS.side (h : TS w0 w T q M l) {w' : World} {l' : List Asn} (k : ∀ L, St w0 w (L ++ l) → St w0 w' (L ++ l')) : TS w0 w' T q M l' := by
  obtain ⟨v, gs, f, B, D, h⟩ := h
  exact ⟨v, gs, f, B, D, ⟨k [row T 117 [v, .map (some B)], pil v gs, ones gs f, mapA B q D] h.ps.st, h.ps.nd, h.ps.at_⟩, h.hp, h.few, h.mr, h.dist, h.wf, h.mod⟩
theorem TS.addRow (h : TS w0 w T q M l) {w' : World} (k : Below w.heap.size w w') {g : Nat} {t : TypeId} {xs : List Value} (hr : Row w' g t xs) (hg : w.heap.size ≤ g) : TS w0 w' T q M (row g t xs :: l) :=
  h.side fun L hs => (hs.addRow k hr hg).perm List.perm_middle.symm
set_option maxRecDepth 100000 in
set_option maxHeartbeats 8000000 in
theorem tnew_at (h : St w0 w l) : Calls Try.prog 14 #[] w fun e w' => ∃ T, e = .returned (ptr T) ∧ TS w0 w' T 0 [] l := by
  have hmm := @run_makeMap Try.prog
  have H := Lib.hid h
  clear h
  go_enter Try.func14, Try.ntmps14
  go_wp2_with (fail)
  go_ret
  refine ⟨_, rfl, .slice none 0 0, [], fun _ => ⟨0, 0, 0⟩, w.heap.size, .map [], ?_, fun c c0 cn => absurd cn (by simp), Nat.le_refl _, ⟨fun nm => ?_, fun g hg => absurd hg (by simp)⟩, fun g hg => absurd hg (by simp), fun g hg => absurd hg (by simp), List.Perm.refl _⟩
  · refine ⟨?_, List.nodup_nil, fun i hi => absurd hi (by simp)⟩
    have h1 : St w0 (w.alloc (.map #[] 0)) (mapA w.heap.size 0 (.map []) :: l) :=
      H.out.add ((Below.refl _ _).alloc (Nat.le_refl _) _) (F := fun i => i = w.heap.size) ⟨World.ownsMap_made _ _ _ _, fun i => Iff.rfl⟩ fun i hi => by rw [hi]; exact Nat.le_refl _
    have h2 := h1.new 117 #[.slice none 0 0, .map (some w.heap.size)]
    have h3 := (St.tolst (L := []) h2).addOwn (Below.refl _ _) (World.ownsRow_nil _ _ 118 1)
    rw [show (w.alloc (.map #[] 0)).heap.size = w.heap.size + 1 by simp] at h3
    exact h3.pick 2 rfl
  · simp [Maps.has_eq]
def lessP (a b : Int × Int) : Bool := if a.2 ≠ b.2 then decide (a.2 < b.2) else decide (a.1 < b.1)
def IsMin (M : List (Int × Int)) (o : Int × Int) : Prop := o ∈ M ∧ ∀ x ∈ M, lessP x o = false
theorem IsMin.perm {M M' : List (Int × Int)} {o : Int × Int} (h : IsMin M o) (p : M.Perm M') : IsMin M' o := ⟨p.mem_iff.1 h.1, fun x hx => h.2 x (p.mem_iff.2 hx)⟩
theorem TX.first {v : Value} {gs : List Nat} {f : Nat → One} {B : Nat} {D : DataW Unit} (h : TX w0 w T q M l v gs f B D) (h0 : 0 < gs.length) : IsMin M (kv f (ix gs 0)) := by
  refine IsMin.perm ?_ h.mod.symm
  refine ⟨List.mem_map.2 ⟨ix gs 0, by rw [ix_get h0]; exact List.getElem_mem _, rfl⟩, fun x hx => ?_⟩
  obtain ⟨g, hg, rfl⟩ := List.mem_map.1 hx
  obtain ⟨i, hi, e⟩ := List.getElem_of_mem hg
  have := h.hp.min (rk_weak f) i hi
  rw [ix_get hi, e] at this
  exact this
set_option maxRecDepth 100000 in
set_option maxHeartbeats 8000000 in
theorem tlen_at (h : TS w0 w T q M l) : Calls Try.prog 17 #[ptr T] w fun e w' => e = .returned (.int .i64 M.length) ∧ w' = w := by
  obtain ⟨v, gs, f, B, D, h⟩ := h
  obtain ⟨A, c, rfl⟩ := h.ps.form
  have ct := h.ps.cell
  have HL := Lib.hid (show M.length = gs.length by rw [h.mod.length_eq, List.length_map])
  clear h
  go_enter Try.func17, Try.ntmps17
  go_wp2_with (fail)
  go_ret
  exact ⟨ret_int (by rw [HL.out]), rfl⟩
set_option maxRecDepth 100000 in
set_option maxHeartbeats 8000000 in
theorem tnext_at (h : TS w0 w T q M l) : Calls Try.prog 27 #[ptr T] w fun e w' => ((M = [] ∧ e = .returned (.tuple #[.int .i64 0, .bool false])) ∨ ∃ o, IsMin M o ∧ e = .returned (.tuple #[.int .i64 o.2, .bool true])) ∧ w' = w := by
  obtain ⟨v, gs, f, B, D, h⟩ := h
  obtain ⟨A, c, rfl⟩ := h.ps.form
  have ct := h.ps.cell
  by_cases h0 : gs.length = 0
  · have HM := Lib.hid (show M = [] by
      have := h.mod.length_eq
      rw [List.length_map, h0] at this
      exact List.eq_nil_of_length_eq_zero this)
    rw [h0] at ct
    clear h h0
    go_enter Try.func27, Try.ntmps27
    go_wp2_with (fail)
    go_ret2
    exact ⟨.inl ⟨HM.out, rfl⟩, rfl⟩
  · have hg0 : 0 < gs.length := by omega
    have HF := Lib.hid (h.first hg0)
    obtain ⟨t, rfl, _, lt, _, hc⟩ := pil_cell (h.ps.st.pick 1 rfl) hg0
    have c0 := hc 0 hg0
    rw [← ix_get hg0] at c0
    have hr := ones_get (h.ps.st.pick 2 rfl) (show ix gs 0 ∈ gs by rw [ix_get hg0]; exact List.getElem_mem _)
    have c1 : w.cell? ⟨ix gs 0, 1, none⟩ = some (.int .i64 (f (ix gs 0)).tick) := hr.cell 1
    have b0 : ((gs.length : Int) == 0) = false := by rw [beq_eq_false_iff_ne]; omega
    have b1 : (0 : Int) < (gs.length : Int) := by omega
    clear h hc hr h0
    go_enter Try.func27, Try.ntmps27
    go_wp2_with (fail)
    go_ret2
    exact ⟨.inr ⟨_, _, HF.out, rfl⟩, rfl⟩
theorem zeroPt (w : World) : (zeroValue 118).run Try.prog w = .ok (.pointer none) w := by kernel_rfl
/-- a name is looked up -/
theorem TX.look {v : Value} {gs : List Nat} {f : Nat → One} {B : Nat} {D : DataW Unit} (h : TX w0 w T q M l v gs f B D) {nm : Int} (hw : (Lit.int .i64 nm).wf = true) :
    (∃ g ∈ gs, (f g).name = nm ∧ (Instr.lookup 113 (.map (some B)) (.int .i64 nm) true).run Try.prog w = .ok (.tuple #[ptr g, .bool true]) w) ∨
    ((∀ g ∈ gs, (f g).name ≠ nm) ∧ ∃ u, (Instr.lookup 113 (.map (some B)) (.int .i64 nm) true).run Try.prog w = .ok (.tuple #[u, .bool false]) w) := by
  have hown := mapA_own (h.ps.st.pick 3 rfl)
  obtain ⟨u, ps, hrun, hu⟩ := hown.look_ok intKey Try.underlying113 (zeroPt w) (show pR (.pointer none) = some (.lit (.int .i64 0), []) from rfl) (keyOf_int_mk Try.underlying3 hw)
  cases hb : Maps.has D (key nm) with
  | true =>
    obtain ⟨g, hg, rfl⟩ := (h.mr.has nm).1 hb
    rw [show (Lit.int .i64 (f g).name) = key (f g).name from rfl, hb] at hrun
    rw [h.mr.val g hg] at hu
    rw [pR_inv hu] at hrun
    exact .inl ⟨g, hg, rfl, hrun⟩
  | false =>
    rw [show (Lit.int .i64 nm) = key nm from rfl, hb] at hrun
    exact .inr ⟨fun g hg e => by rw [(h.mr.has nm).2 ⟨g, hg, e⟩] at hb; exact absurd hb (by decide), u, hrun⟩
set_option maxRecDepth 100000 in
set_option maxHeartbeats 8000000 in
theorem tat_at (h : TS w0 w T q M l) {nm : Int} (hw : (Lit.int .i64 nm).wf = true) : Calls Try.prog 32 #[ptr T, .int .i64 nm] w fun e w' => (((∀ x ∈ M, x.1 ≠ nm) ∧ e = .returned (.tuple #[.int .i64 0, .bool false])) ∨ ∃ tk, (nm, tk) ∈ M ∧ e = .returned (.tuple #[.int .i64 tk, .bool true])) ∧ w' = w := by
  obtain ⟨v, gs, f, B, D, h⟩ := h
  have c1 : w.cell? ⟨T, 1, none⟩ = some (.map (some B)) := h.ps.st.row.1.cell 1
  rcases h.look hw with ⟨g, hg, hn, hrun⟩ | ⟨hno, u, hrun⟩
  · have HM := Lib.hid (show (nm, (f g).tick) ∈ M from h.mod.mem_iff.2 (List.mem_map.2 ⟨g, hg, by unfold kv; rw [hn]⟩))
    have hr := ones_get (h.ps.st.pick 2 rfl) hg
    have c2 : w.cell? ⟨g, 1, none⟩ = some (.int .i64 (f g).tick) := hr.cell 1
    clear h hg hn hr hw
    go_enter Try.func32, Try.ntmps32
    go_wp2_with (fail)
    go_ret2
    exact ⟨.inr ⟨_, HM.out, rfl⟩, rfl⟩
  · have HM := Lib.hid (show ∀ x ∈ M, x.1 ≠ nm from fun x hx => by
      obtain ⟨g, hg, rfl⟩ := List.mem_map.1 (h.mod.mem_iff.1 hx)
      exact hno g hg)
    clear h hno hw
    go_enter Try.func32, Try.ntmps32
    go_wp2_with (fail)
    go_ret2
    exact ⟨.inl ⟨HM.out, rfl⟩, rfl⟩
end
end Go.Proofs.Ytooagoikiafgcaa.timer
