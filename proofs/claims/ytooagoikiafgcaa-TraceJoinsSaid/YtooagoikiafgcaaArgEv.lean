/-
  PROVED HERE: how a log (api.Event with its nested slices) comes in.
  CONDITIONS: none.
-/
import Derived.Test.YtooagoikiafgcaaJoinLaw
import Derived.Test.YtooagoikiafgcaaRowTwo
namespace Go.Proofs.Ytooagoikiafgcaa.joins
set_option linter.unusedVariables false
open Go.RowKit Go.ChangeShapes Go.WideShapes Go.ChangeAt Go.Deep Go.Joins Go.Proofs.Ytooagoikiafgcaa.base Go.Proofs.Ytooagoikiafgcaa.obj Go.Proofs.Ytooagoikiafgcaa.mem Go.Proofs.Ytooagoikiafgcaa.tab

theorem row_parts11 {H : Type} {enc : TypeId × Value → H} {P : Program} {W : World} {e : TypeId} {fs : Array Field} {cs : List Value} {m : Nat} {x : DataW H × List MemPlace} (he : P.underlying e = some (.struct fs))
    (h : DataW.trod enc P W 0 (fun _ => true) true m e cs = some x) : ∀ (j : Nat) (f : Field) (n : Nat), fs[j]? = some f → P.cellsOf f.type = n → ∃ (k : Nat) (y : DataW H × List MemPlace), DataW.trod enc P W 0 (fun _ => true) true k f.type ((cs.drop f.offset).take n) = some y := by
  obtain ⟨ys, n', hn', hy, hlen, hyl, hf⟩ := DataW.trod_struct he h
  intro j f n hj hn
  subst hn
  have hjl : j < fs.size := (Array.getElem?_eq_some_iff.1 hj).1
  have hys : ys[j]? = some (ys[j]'(by rw [hyl]; exact hjl)) := List.getElem?_eq_getElem _
  exact ⟨n', _, (hf j f hj).trans hys⟩
set_option maxRecDepth 100000 in
/-- an event as it lies: its data, and where its slices lie -/
structure EvC where
  d : EvD
  AB : Option Addr
  cB : Nat
  AS : Option Addr
  cS : Nat
  AK : Option Addr
  cK : Nat
  AM : Option Addr
  cM : Nat
instance : Inhabited EvC := ⟨⟨⟨0, [], 0, [], false, 0, [], [], 0, 0, false⟩, none, 0, none, 0, none, 0, none, 0⟩⟩
def EvC.cells (x : EvC) : List Value := [.int .i64 x.d.tick, .slice x.AB x.d.booted.length x.cB, .int .i64 x.d.part, .slice x.AS x.d.sent.length x.cS, .bool x.d.confirm, .int .i64 x.d.pc, .slice x.AK x.d.stack.length x.cK, .slice x.AM x.d.mem.length x.cM, .int .i64 x.d.ticks, .int .i64 x.d.fault, .bool x.d.answered]
structure EvC.In (w : World) (B : Nat) (x : EvC) : Prop where
  booted : Sl w B 3 x.AB x.d.booted.length (t3s x.d.booted)
  sent : Sl w B 2 x.AS x.d.sent.length (t2s x.d.sent)
  stack : Sl w B 1 x.AK x.d.stack.length (x.d.stack.map (.int .i64))
  mem : Sl w B 1 x.AM x.d.mem.length (x.d.mem.map (.int .i64))
  lb : x.d.booted.length ≤ maxLen
  ls : x.d.sent.length ≤ maxLen
  lk : x.d.stack.length ≤ maxLen
  lm : x.d.mem.length ≤ maxLen
def evc (l : List EvC) : List Value := l.flatMap EvC.cells
theorem evc_snoc (l : List EvC) (x : EvC) : evc (l ++ [x]) = evc l ++ x.cells := by simp [evc]
set_option maxRecDepth 100000 in
set_option maxHeartbeats 4000000 in
theorem arg_evs {H : Type} {enc : TypeId × Value → H} {W : World} {r : Reach} {b0 : Nat} {v : Value} {d : DataW H} {ps : List MemPlace} (hval : Value.okWide Try.prog W r b0 41 v)
    (h : DataW.Trod enc Try.prog W 0 (fun _ => true) true 41 v d ps) : ∃ (A : Option Addr) (c : Nat) (l : List EvC), v = .slice A l.length c ∧ l.length ≤ maxLen ∧ Sl W W.heap.size 11 A l.length (evc l) ∧ ∀ x ∈ l, x.In W W.heap.size := by
  obtain ⟨A, n, c, q, rfl, hn, hs, hq⟩ := Go.Proofs.Ytooagoikiafgcaa.lift.arg_row Try.underlying41 (s := 11) (by kernel_rfl) (by decide) hval h
  have each : ∀ i, i < n → ∃ p : EvC, q i = p.cells ∧ p.In W W.heap.size := by
    intro i hi
    obtain ⟨hl, m, x, hx⟩ := hq i hi
    obtain ⟨u0, u1, u2, u3, u4, u5, u6, u7, u8, u9, u10, hqi⟩ : ∃ u0 u1 u2 u3 u4 u5 u6 u7 u8 u9 u10, q i = [u0, u1, u2, u3, u4, u5, u6, u7, u8, u9, u10] := by
      match hqi : q i, hl with
      | [u0, u1, u2, u3, u4, u5, u6, u7, u8, u9, u10], _ => exact ⟨_, _, _, _, _, _, _, _, _, _, _, rfl⟩
    rw [hqi] at hx ⊢
    have hf := row_parts11 Try.underlying49 hx
    obtain ⟨k0, y0, t0⟩ := hf 0 _ 1 rfl (by kernel_rfl)
    obtain ⟨k1, y1, t1⟩ := hf 1 _ 1 rfl (by kernel_rfl)
    obtain ⟨k2, y2, t2⟩ := hf 2 _ 1 rfl (by kernel_rfl)
    obtain ⟨k3, y3, t3⟩ := hf 3 _ 1 rfl (by kernel_rfl)
    obtain ⟨k4, y4, t4⟩ := hf 4 _ 1 rfl (by kernel_rfl)
    obtain ⟨k5, y5, t5⟩ := hf 5 _ 5 rfl (by kernel_rfl)
    obtain ⟨k6, y6, t6⟩ := hf 6 _ 1 rfl (by kernel_rfl)
    have hg := row_parts11 Try.underlying47 t5
    obtain ⟨j0, z0, r0⟩ := hg 0 _ 1 rfl (by kernel_rfl)
    obtain ⟨j1, z1, r1⟩ := hg 1 _ 1 rfl (by kernel_rfl)
    obtain ⟨j2, z2, r2⟩ := hg 2 _ 1 rfl (by kernel_rfl)
    obtain ⟨j3, z3, r3⟩ := hg 3 _ 1 rfl (by kernel_rfl)
    obtain ⟨j4, z4, r4⟩ := hg 4 _ 1 rfl (by kernel_rfl)
    obtain ⟨a0, h0, _, w0⟩ := DataW.trod_int Try.underlying3 t0
    obtain ⟨a2, h2, _, w2⟩ := DataW.trod_int Try.underlying3 t2
    obtain ⟨a4, h4, _⟩ := DataW.trod_bool Try.underlying4 t4
    obtain ⟨a6, h6, _⟩ := DataW.trod_bool Try.underlying4 t6
    obtain ⟨b0', g0, _, x0⟩ := DataW.trod_int Try.underlying3 r0
    obtain ⟨b3, g3, _, x3⟩ := DataW.trod_int Try.underlying3 r3
    obtain ⟨b4, g4, _, x4⟩ := DataW.trod_int Try.underlying45 r4
    obtain ⟨AB, nB, cB, lB, e1, n1, m1, s1⟩ := t3_in (v := u1) Try.underlying43 (by kernel_rfl) (t3_of Try.underlying196 (by kernel_rfl) rfl rfl rfl) t1
    obtain ⟨AS, nS, cS, lS, e3, n3, m3, s3⟩ := t2_in (v := u3) Try.underlying44 (by kernel_rfl) (t2_of Try.underlying152 (by kernel_rfl) rfl rfl) t3
    obtain ⟨AK, cK, lK, e6, _, m6, s6, _⟩ := Go.Proofs.Ytooagoikiafgcaa.lift.field_ints (v := u6) Try.underlying30 Try.underlying3 (by kernel_rfl) r1
    obtain ⟨AM, cM, lM, e7, _, m7, s7, _⟩ := Go.Proofs.Ytooagoikiafgcaa.lift.field_ints (v := u7) Try.underlying30 Try.underlying3 (by kernel_rfl) r2
    simp at h0 h2 h4 h6 g0 g3 g4
    subst h0; subst h2; subst h4; subst h6; subst g0; subst g3; subst g4; subst e1; subst e3; subst e6; subst e7
    subst n1; subst n3
    exact ⟨⟨⟨a0, lB, a2, lS, a4, b0', lK, lM, b3, b4, a6⟩, AB, cB, AS, cS, AK, cK, AM, cM⟩, rfl, s1, s3, s6, s7, m1, m3, m6, m7⟩
  obtain ⟨z, hz⟩ := choose_lt each
  have e1 : ∀ m, m ≤ n → (List.range m).flatMap q = evc ((List.range m).map z) := by
    intro m
    induction m with
    | zero => intro _; simp [evc]
    | succ m ih =>
      intro hm
      rw [List.range_succ, List.flatMap_append, List.map_append, ih (by omega), List.map_cons, List.map_nil, evc_snoc]
      simp [(hz m (by omega)).1]
  rw [e1 n (Nat.le_refl _)] at hs
  have hl : ((List.range n).map z).length = n := by simp
  refine ⟨A, c, (List.range n).map z, by rw [hl], by rw [hl]; exact hn, by rw [hl]; exact hs, fun y hy => ?_⟩
  obtain ⟨i, hi, rfl⟩ := List.mem_map.1 hy
  exact (hz i (List.mem_range.1 hi)).2
theorem EvC.In.over {w w' : World} {x : EvC} (h : x.In w w.heap.size) (hb : Below w.heap.size w w') : x.In w' w'.heap.size :=
  ⟨(h.booted.below hb).more hb.size, (h.sent.below hb).more hb.size, (h.stack.below hb).more hb.size, (h.mem.below hb).more hb.size, h.lb, h.ls, h.lk, h.lm⟩
theorem EvC.clen (x : EvC) : x.cells.length = 11 := rfl
/-- the cells of event number k -/
theorem evc_at {w w' : World} {A : Option Addr} {n : Nat} {l : List EvC} (h : Sl w w.heap.size 11 A n (evc l)) (hn : n = l.length) (hb : Below w.heap.size w w') {k : Nat} (hk : k < l.length) : ∃ b off, A = some ⟨b, off, none⟩ ∧ b < w'.heap.size ∧
    ∀ j u, j < 11 → l[k].cells[j]? = some u → w'.cell? ⟨b, off + k * 11 + j, none⟩ = some u := by
  obtain ⟨b, off, rfl, hbl, hc⟩ := h.2 (by omega)
  have h9 : ∀ x ∈ l.map EvC.cells, x.length = 11 := by
    intro x hx
    obtain ⟨a, _, rfl⟩ := List.mem_map.1 hx
    rfl
  have e := flat_elem h9 (i := k) (by simpa using hk)
  have g : ∀ j, j < 11 → (evc l)[k * 11 + j]? = l[k].cells[j]? := by
    intro j hj
    have e2 : (((l.map EvC.cells).flatten.drop (k * 11)).take 11)[j]? = (l.map EvC.cells).flatten[k * 11 + j]? := by
      rw [List.getElem?_take, if_pos hj, List.getElem?_drop]
    rw [e] at e2
    rw [evc, List.flatMap_def, ← e2]
    simp
  refine ⟨b, off, rfl, Nat.lt_of_lt_of_le hbl hb.size, fun j u hj hu => ?_⟩
  rw [hb.cell (p := ⟨b, off + k * 11 + j, none⟩) hbl, Nat.add_assoc]
  exact hc _ _ ((g j hj).trans hu)
end Go.Proofs.Ytooagoikiafgcaa.joins
