/-
  PROVED HERE: results of which one is a struct in a cell; a row laid anew.
  CONDITIONS: each lemma names its own.
-/
import Derived.Test.YtfglnaimpjkcfaaDoorMem
import Derived.Laws.Rows
import Derived.Deep.RegionLaw
namespace Go.Proofs.YtfglnaimpjkcfaaDoor.mem
set_option linter.unusedVariables false
open Go.RowKit Go.Proofs.YtfglnaimpjkcfaaDoor.base Go.Proofs.YtfglnaimpjkcfaaDoor.obj

/-- two results, the first by a cell -/
theorem res_cell_slot {P : Program} {fn : Func} {p q : Tmp} {ty : TypeId} (h : fn.results = #[.cell p ty, .tmp q]) (tmps : Array Value) (w : World) (g : Nat) (t : TypeId) (cs : Array Value) (fr : Nat × Nat) (d : TypeDesc) (v : Value)
    (hp : tmps.getD p undef = .pointer (some ⟨g, 0, none⟩)) (hq : tmps.getD q undef = v) (hg : w.heap[g]? = some (.cells cs t fr))
    (hu : P.underlying ty = some d) (hd : (match d with | .struct _ | .array _ _ => true | _ => false) = true) (hi : (P.info? ty).map (·.size) = some cs.size) :
    (results fn tmps).run P w = .ok (.tuple #[.agg cs, v]) w := by
  have hp' : tmps[p]?.getD undef = .pointer (some ⟨g, 0, none⟩) := by simpa using hp
  have hq' : tmps[q]?.getD undef = v := by simpa using hq
  simp [results, h, hp', hq', asAddr, run_loadVar_row w g t ty cs fr d hg hu hd hi]
theorem below_setRow' {B : Nat} {a w : World} (h : Below B a w) {g : Nat} (hg : B ≤ g) (cs : Array Value) : Below B a (w.setRow g cs) :=
  ⟨h.os, h.tape, h.output, by have := h.size; simpa using this, fun k hk => (Go.setRow_other w g k cs (by omega)).trans (h.block k hk)⟩
/-- append, as one step of a region that draws its order -/
theorem step_app' {P : Program} {t e size bytes : Nat} (T : SlT P t e size bytes) {ops : Array Oper} {o : Oper} {a : Act} {K : Act → World → Prop} {Q : Exit → Act → World → Prop} {E : Prop} {w : World} (hgd : o.guard = none) (s x : Operand)
    (ho : o.op = .call { callee := .builtin .append, args := #[s, x], argTypes := #[t, t] })
    {base : Nat} {v : Value} {n : Nat} {xs : List Value} (hown : w.ownsRow base e size v n xs) (hs : a.eval s = v) {B m c : Nat} {A : Option Addr} {ys : List Value} (hx : a.eval x = .slice A m c)
    (hr : Sl w B size A m ys) (h1 : ∀ u ∈ ys, u.oneCell' = true) (hm : 0 < m) (hb : (n + m) * bytes ≤ 140737488355328) (h63 : n + m ≤ maxLen) (hbase : base ≤ w.heap.size)
    (h : ∀ g cap w', w'.ownsRow base e size (.slice (some ⟨g, 0, none⟩) (n + m) cap) (n + m) (xs ++ ys) → w.grownBy w' v.ownBlock → (v.ownBlock = some g ∨ w.heap.size ≤ g) → g < w'.heap.size → K (a.put o.dst (.slice (some ⟨g, 0, none⟩) (n + m) cap)) w') :
    if Region.wanted o (yielded ops a.tmps) = true then Oper.wp P o a w K Q else E := by
  have hw : Region.wanted o (yielded ops a.tmps) = true := by simp [Region.wanted, hgd]
  rw [if_pos hw]
  obtain ⟨i, z, hi, hz, h2, h3, h4⟩ := T.hi
  obtain ⟨b, off, rfl, _, hc⟩ := hr.2 hm
  refine wp_append_lies w s x t ho base e i z size bytes T.ht hi hz h2 h3 h4 T.hs v n xs hs hown ⟨b, off, none⟩ m c ys hx hr.1 (fun j u hu => ?_) h1 hm h63 hb hbase w.heap.size rfl ?_
  · rw [Addr.add_mid]
    exact hc j u hu
  · intro g cap w' ho' hg' hor hlt
    exact h g cap w' ho' hg' (hor.imp id fun e => by omega) hlt
end Go.Proofs.YtfglnaimpjkcfaaDoor.mem
