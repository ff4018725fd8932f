/-
  PROVED HERE: how a list of a disk's acts comes in, and the cells of each.
  CONDITIONS: none.
-/
import Derived.Test.YtjncpincmkpdpaaDiskOwn
import Derived.Test.YtjncpincmkpdpaaLift
import Derived.Laws.BitsAllLaws
import Derived.Laws.BitsLemmas
namespace Go.Proofs.Ytjncpincmkpdpaa.disk
set_option linter.unusedVariables false
open Go.RowKit Go.ChangeShapes Go.WideShapes Go.ChangeAt Go.Deep Go.Joins Go.Proofs.Ytjncpincmkpdpaa.base Go.Proofs.Ytjncpincmkpdpaa.obj Go.Proofs.Ytjncpincmkpdpaa.mem

def InI64 (n : Int) : Prop := -9223372036854775808 ≤ n ∧ n ≤ 9223372036854775807
structure ActD where
  kind : Int
  at_ : Int
  by_ : Int
  long : Bool
  keep : Int
instance : Inhabited ActD := ⟨⟨0, 0, 0, false, 0⟩⟩
structure ActD.Ok (a : ActD) : Prop where
  kind : InI64 a.kind
  at_ : InI64 a.at_
  by0 : 0 ≤ a.by_
  by1 : a.by_ ≤ 255
  keep0 : 0 ≤ a.keep
  keep1 : a.keep ≤ 18446744073709551615
def ActD.cells (a : ActD) : List Value := [.int .i64 a.kind, .int .i64 a.at_, .int .u8 a.by_, .bool a.long, .int .u64 a.keep]
def actsCells (l : List ActD) : List Value := (l.map ActD.cells).flatten
theorem actsCells_snoc (l : List ActD) (a : ActD) : actsCells (l ++ [a]) = actsCells l ++ a.cells := by simp [actsCells]

theorem i64_of {s : Int} (h : (Lit.int .i64 s).wf = true) : InI64 s := by
  have h1 : IntKind.i64.min = -9223372036854775808 := rfl
  have h2 : IntKind.i64.max = 9223372036854775807 := rfl
  simp only [Lit.wf, Bool.and_eq_true, decide_eq_true_eq] at h
  unfold InI64
  omega
theorem u8_of {z : Int} (h : (Lit.int .u8 z).wf = true) : 0 ≤ z ∧ z ≤ 255 := by
  have h1 : IntKind.u8.min = 0 := rfl
  have h2 : IntKind.u8.max = 255 := rfl
  simp only [Lit.wf, Bool.and_eq_true, decide_eq_true_eq] at h
  omega
theorem u64_of {z : Int} (h : (Lit.int .u64 z).wf = true) : 0 ≤ z ∧ z ≤ 18446744073709551615 := by
  have h1 : IntKind.u64.min = 0 := rfl
  have h2 : IntKind.u64.max = 18446744073709551615 := rfl
  simp only [Lit.wf, Bool.and_eq_true, decide_eq_true_eq] at h
  omega

set_option maxRecDepth 100000 in
theorem arg_acts {H : Type} {enc : TypeId × Value → H} {W : World} {r : Reach} {b0 : Nat} {v : Value} {d : DataW H} {ps : List MemPlace} (hval : Value.okWide Try.prog W r b0 35 v)
    (h : DataW.Trod enc Try.prog W 0 (fun _ => true) true 35 v d ps) : ∃ (A : Option Addr) (c : Nat) (l : List ActD), v = .slice A l.length c ∧ l.length ≤ maxLen ∧ Sl W W.heap.size 5 A l.length (actsCells l) ∧ ∀ a ∈ l, a.Ok := by
  obtain ⟨A, n, c, q, rfl, hn, hs, hq⟩ := Go.Proofs.Ytjncpincmkpdpaa.lift.arg_row Try.underlying35 (s := 5) (by kernel_rfl) (by decide) hval h
  have each : ∀ i, i < n → ∃ p : ActD, q i = p.cells ∧ p.Ok := by
    intro i hi
    obtain ⟨hl, m, x, hx⟩ := hq i hi
    have hf := Go.Proofs.Ytjncpincmkpdpaa.lift.row_fields Try.underlying42 (by kernel_rfl) (by simpa using hl) hx
    obtain ⟨v0, k0, y0, g0, t0⟩ := hf 0 _ rfl
    obtain ⟨v1, k1, y1, g1, t1⟩ := hf 1 _ rfl
    obtain ⟨v2, k2, y2, g2, t2⟩ := hf 2 _ rfl
    obtain ⟨v3, k3, y3, g3, t3⟩ := hf 3 _ rfl
    obtain ⟨v4, k4, y4, g4, t4⟩ := hf 4 _ rfl
    obtain ⟨a0, h0, _, w0⟩ := DataW.trod_int Try.underlying3 t0
    obtain ⟨a1, h1, _, w1⟩ := DataW.trod_int Try.underlying3 t1
    obtain ⟨a2, h2, _, w2⟩ := DataW.trod_int Try.underlying5 t2
    obtain ⟨a3, h3, _⟩ := DataW.trod_bool Try.underlying4 t3
    obtain ⟨a4, h4, _, w4⟩ := DataW.trod_int Try.underlying36 t4
    simp at h0 h1 h2 h3 h4
    subst h0; subst h1; subst h2; subst h3; subst h4
    refine ⟨⟨a0, a1, a2, a3, a4⟩, ?_, i64_of w0, i64_of w1, (u8_of w2).1, (u8_of w2).2, (u64_of w4).1, (u64_of w4).2⟩
    match hqi : q i, hl with
    | [u0, u1, u2, u3, u4], _ =>
      rw [hqi] at g0 g1 g2 g3 g4
      simp at g0 g1 g2 g3 g4
      rw [g0, g1, g2, g3, g4]
      rfl
  obtain ⟨z, hz⟩ := choose_lt each
  have e1 : ∀ m, m ≤ n → (List.range m).flatMap q = actsCells ((List.range m).map z) := by
    intro m
    induction m with
    | zero => intro _; simp [actsCells]
    | succ m ih =>
      intro hm
      rw [List.range_succ, List.flatMap_append, List.map_append, ih (by omega), List.map_cons, List.map_nil, actsCells_snoc]
      simp [(hz m (by omega)).1]
  rw [e1 n (Nat.le_refl _)] at hs
  have hl : ((List.range n).map z).length = n := by simp
  refine ⟨A, c, (List.range n).map z, by rw [hl], by rw [hl]; exact hn, by rw [hl]; exact hs, fun a ha => ?_⟩
  obtain ⟨i, hi, rfl⟩ := List.mem_map.1 ha
  exact (hz i (List.mem_range.1 hi)).2

/-- the cells of act number k -/
theorem act_at {w w' : World} {A : Option Addr} {l : List ActD} (h : Sl w w.heap.size 5 A l.length (actsCells l)) (hb : Below w.heap.size w w') {k : Nat} (hk : k < l.length) : ∃ b off, A = some ⟨b, off, none⟩ ∧
    w'.cell? ⟨b, off + k * 5, none⟩ = some (.int .i64 l[k].kind) ∧ w'.cell? ⟨b, off + k * 5 + 1, none⟩ = some (.int .i64 l[k].at_) ∧ w'.cell? ⟨b, off + k * 5 + 2, none⟩ = some (.int .u8 l[k].by_) ∧
    w'.cell? ⟨b, off + k * 5 + 3, none⟩ = some (.bool l[k].long) ∧ w'.cell? ⟨b, off + k * 5 + 4, none⟩ = some (.int .u64 l[k].keep) := by
  obtain ⟨b, off, rfl, hbl, hc⟩ := h.2 (by omega)
  have h5 : ∀ x ∈ l.map ActD.cells, x.length = 5 := by
    intro x hx
    obtain ⟨a, _, rfl⟩ := List.mem_map.1 hx
    rfl
  have e := flat_elem h5 (i := k) (by simpa using hk)
  have g : ∀ j, j < 5 → (actsCells l)[k * 5 + j]? = l[k].cells[j]? := by
    intro j hj
    have e2 : (((l.map ActD.cells).flatten.drop (k * 5)).take 5)[j]? = (l.map ActD.cells).flatten[k * 5 + j]? := by
      rw [List.getElem?_take, if_pos hj, List.getElem?_drop]
    rw [e] at e2
    rw [actsCells, ← e2]
    simp
  have c : ∀ j u, j < 5 → l[k].cells[j]? = some u → w'.cell? ⟨b, off + k * 5 + j, none⟩ = some u := by
    intro j u hj hu
    rw [hb.cell (p := ⟨b, off + k * 5 + j, none⟩) hbl, Nat.add_assoc]
    exact hc _ _ ((g j hj).trans hu)
  exact ⟨b, off, rfl, c 0 _ (by omega) rfl, c 1 _ (by omega) rfl, c 2 _ (by omega) rfl, c 3 _ (by omega) rfl, c 4 _ (by omega) rfl⟩

/-- 'x & (2^k - 1)' -/
theorem and_low (x : Int) (k : Nat) (hk : k < 60) : bits .and .i64 x (((2 ^ k - 1 : Nat) : Int)) = x % ((2 ^ k : Nat) : Int) := by
  have h2 : 2 ^ k < 2 ^ 60 := Nat.pow_lt_pow_right (by decide) hk
  have hp : 0 < 2 ^ k := Nat.two_pow_pos k
  have e1 : (BitVec.ofInt 64 (((2 ^ k - 1 : Nat) : Int))).toNat = 2 ^ k - 1 := by
    rw [BitVec.ofInt_natCast, BitVec.toNat_ofNat]
    exact Nat.mod_eq_of_lt (by omega)
  have e2 : ((BitVec.ofInt 64 x).toNat : Int) = x % 18446744073709551616 := by
    rw [BitVec.toNat_ofInt]
    have : (0 : Int) ≤ x % ((2 ^ 64 : Nat) : Int) := Int.emod_nonneg _ (by decide)
    rw [Int.toNat_of_nonneg this]
    rfl
  show IntKind.i64.wrap ((BitVec.ofInt 64 x &&& BitVec.ofInt 64 (((2 ^ k - 1 : Nat) : Int))).toNat : Int) = _
  rw [BitVec.toNat_and, e1, Nat.and_two_pow_sub_one_eq_mod, IntKind.wrap_i64]
  have e3 : (((BitVec.ofInt 64 x).toNat % 2 ^ k : Nat) : Int) = x % ((2 ^ k : Nat) : Int) := by
    rw [Int.natCast_emod, e2]
    refine Int.emod_emod_of_dvd _ ?_
    refine ⟨((2 ^ (64 - k) : Nat) : Int), ?_⟩
    rw [← Int.natCast_mul, ← Nat.pow_add, show k + (64 - k) = 64 by omega]
    rfl
  have h4 : (BitVec.ofInt 64 x).toNat % 2 ^ k < 2 ^ k := Nat.mod_lt _ hp
  rw [← e3]
  have h5 : (2 : Nat) ^ 60 = 1152921504606846976 := by decide
  omega
theorem and3 (x : Int) : bits .and .i64 x 3 = x % 4 := and_low x 2 (by decide)
theorem and7 (x : Int) : bits .and .i64 x 7 = x % 8 := and_low x 3 (by decide)

end Go.Proofs.Ytjncpincmkpdpaa.disk
