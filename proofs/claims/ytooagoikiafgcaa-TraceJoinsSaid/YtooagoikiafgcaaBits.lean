/-
  PROVED HERE: contracts of the functions of package bits (held, Has, With, All, each, Missing, First, Runs).
  CONDITIONS: each contract names its own.
-/
import Derived.Test.YtooagoikiafgcaaBitsMath
import Derived.RangeFuncNested
import Derived.RangeFuncBound
import Derived.RangeFuncCalls
import Derived.RangeFuncLeaves
import Derived.Shelf.Abstract
import Derived.Shelf.RegionOpen
import Derived.OwnWalkIn
import Derived.TacticsInMore
import Derived.LoopNIn
import Derived.LoopIn
import Derived.Maps.AppendAt
import Derived.Test.YtooagoikiafgcaaRound
namespace Go.Proofs.Ytooagoikiafgcaa.bits
set_option linter.unusedVariables false
open Go.RowKit Go.Shelf Go.Proofs.Ytooagoikiafgcaa.base
attribute [local go_sem] Oper.semAt_some

def heldN (n : Int) : Nat := (min (max n 0) 16).toNat
theorem heldN_le (n : Int) : heldN n ≤ 16 := by unfold heldN; omega
theorem held_any (n : Int) (w : World) : Calls Try.prog 136 #[.int .i64 n] w fun e w' => e = .returned (.int .i64 (heldN n)) ∧ w = w' := by
  by_cases h0 : n < 0
  · have e : heldN n = 0 := by unfold heldN; omega
    rw [e]
    clear e
    go_enter Try.func136, Try.ntmps136
    go_wp2
    go_ret
    exact ⟨rfl, rfl⟩
  · by_cases h1 : n ≤ 16
    · obtain ⟨k, rfl⟩ := Int.eq_ofNat_of_zero_le (show 0 ≤ n by omega)
      have e : heldN (k : Int) = k := by unfold heldN; omega
      rw [e]
      clear e h0
      go_enter Try.func136, Try.ntmps136
      go_wp2
      go_ret
      exact ⟨rfl, rfl⟩
    · have e : heldN n = 16 := by unfold heldN; omega
      rw [e]
      clear e
      have h2 : 0 ≤ n := by omega
      go_enter Try.func136, Try.ntmps136
      go_wp2
      go_ret
      exact ⟨rfl, rfl⟩

def hasB (s i : Int) : Bool := decide (0 ≤ i) && decide (i < 16) && bitb s i.toNat
theorem has_in (s : Int) (k : Nat) (w : World) (hk : k < 16) : Calls Try.prog 80 #[.int .i64 s, .int .i64 k] w fun e w' => e = .returned (.bool (bitb s k)) ∧ w = w' := by
  have i0 : (0 : Int) ≤ k := by omega
  have i1 : (k : Int) < 16 := by omega
  have HB := Lib.hid (bit_ne s k)
  go_enter Try.func80, Try.ntmps80
  go_wp2
  go_ret
  exact ⟨ret_bool HB.out, rfl⟩
theorem has_any (s i : Int) (w : World) : Calls Try.prog 80 #[.int .i64 s, .int .i64 i] w fun e w' => e = .returned (.bool (hasB s i)) ∧ w = w' := by
  by_cases h0 : 0 ≤ i
  · by_cases h1 : i < 16
    · obtain ⟨k, rfl⟩ := Int.eq_ofNat_of_zero_le h0
      have e : hasB s (k : Int) = bitb s k := by simp [hasB]; omega
      rw [e]
      exact has_in s k w (by omega)
    · have e : hasB s i = false := by simp [hasB, h1]
      rw [e]
      clear e
      go_enter Try.func80, Try.ntmps80
      go_wp2
      go_ret
      exact ⟨rfl, rfl⟩
  · have e : hasB s i = false := by simp [hasB, h0]
    rw [e]
    clear e
    go_enter Try.func80, Try.ntmps80
    go_wp2
    go_ret
    exact ⟨rfl, rfl⟩

theorem wrap_pow (k : Nat) (hk : k < 16) : wrap64 (2 ^ k) = 2 ^ k := by
  have h1 : (0 : Int) < 2 ^ k := Int.pow_pos (by omega)
  have h2 : (2 : Int) ^ k ≤ 2 ^ 16 := by
    have : 2 ^ k ≤ 2 ^ 16 := Nat.pow_le_pow_right (by omega) (by omega)
    exact_mod_cast this
  exact IntWalk.wrap64_in _ ⟨by omega, by omega⟩
theorem with_in (s : Int) (k : Nat) (w : World) (hk : k < 16) (hs : InI64 s) : Calls Try.prog 82 #[.int .i64 s, .int .i64 k] w fun e w' => e = .returned (.int .i64 (withB s k)) ∧ w = w' := by
  have i0 : ¬ (k : Int) < 0 := by omega
  have i1 : ¬ (16 : Int) ≤ k := by omega
  have HB := Lib.hid (show Go.bits .or .i64 s (wrap64 (2 ^ k)) = withB s k by rw [wrap_pow k hk]; exact or_bit s k hk hs)
  go_enter Try.func82, Try.ntmps82
  go_wp2
  go_ret
  exact ⟨ret_int HB.out, rfl⟩
theorem with_out (s i : Int) (w : World) (h : i < 0 ∨ 16 ≤ i) : Calls Try.prog 82 #[.int .i64 s, .int .i64 i] w fun e w' => e = .returned (.int .i64 s) ∧ w = w' := by
  rcases (by omega : i < 0 ∨ (¬ i < 0 ∧ 16 ≤ i)) with h | ⟨h, h1⟩ <;>
  · go_enter Try.func82, Try.ntmps82
    go_wp2
    go_ret
    exact ⟨rfl, rfl⟩

/-! ### each -/
def elems (s : Int) (m : Nat) : List (Int × Bool) := (List.range m).map fun i : Nat => ((i : Int), bitb s i)
theorem elems_len (s : Int) (m : Nat) : (elems s m).length = m := by simp [elems]
theorem elems_take (s : Int) (m k : Nat) (h : k < m) : (elems s m).take (k + 1) = (elems s m).take k ++ [((k : Int), bitb s k)] := by
  rw [List.take_succ_eq_append_getElem (by simpa [elems] using h)]
  simp [elems]

/-- what a round must leave: two blocks -/
def Kp2 (a b : Nat) (W W' : World) : Prop := W'.heap[a]? = W.heap[a]? ∧ W'.heap[b]? = W.heap[b]?
theorem Kp2.t {a b : Nat} {A B C : World} (h : Kp2 a b A B) (k : Kp2 a b B C) : Kp2 a b A C := ⟨k.1.trans h.1, k.2.trans h.2⟩
theorem Kp2.b {a b : Nat} {w : World} (ha : a < w.heap.size) (hb : b < w.heap.size) (W : World) (l : Nat) (o o' : Obj) (hl : w.heap.size ≤ l) (h : W.heap[l]? = some o) (_ : o.isCells = false) (_ : o.isWalk = false) : Kp2 a b W (W.putObj l o') :=
  ⟨World.putObj_heap_other (by omega), World.putObj_heap_other (by omega)⟩
theorem Kp2.cell1 {a b : Nat} {W W' : World} (h : Kp2 a b W W') {v : Value} (hc : W.cell? ⟨a, 0, none⟩ = some v) : W'.cell? ⟨a, 0, none⟩ = some v := (World.cell?_of_block (a := ⟨a, 0, none⟩) h.1).trans hc
theorem Kp2.of_below {a b n₀ : Nat} {W W' : World} (h : Below n₀ W W') (ha : a < n₀) (hb : b < n₀) : Kp2 a b W W' := ⟨h.block a ha, h.block b hb⟩

theorem each_in (s n : Int) (w : World) : CallsIn Fence.wide 9 Try.prog 115 #[.int .i64 s, .int .i64 n] w fun e w' =>
    e = .returned (.func (.func 135) #[] #[.pointer (some ⟨w.heap.size + 1, 0, none⟩), .pointer (some ⟨w.heap.size, 0, none⟩)]) ∧ (w.alloc (.cells #[.int .i64 s] 3)).alloc (.cells #[.int .i64 n] 3) = w' := by
  refine callsIn_wide.2 ?_
  go_enter Try.func115, Try.ntmps115
  go_wp2
  go_ret
  exact ⟨rfl, rfl⟩

set_option maxRecDepth 100000 in
set_option maxHeartbeats 1000000 in
theorem each1_in (l Bs Bn : Nat) (s n : Int) (J Jx : List (Int × Bool) → World → Prop)
    (hY : ∀ pre x W, J pre W → pre.length < heldN n → YieldAt Fence.wide 8 Try.prog l #[.int .i64 x.1, .bool x.2] W fun e W' =>
      (e = .returned (.bool true) ∧ J (pre ++ [x]) W' ∧ Kp2 Bs Bn W W') ∨ (e = .returned (.bool false) ∧ Jx (pre ++ [x]) W'))
    (W : World) (cs : W.cell? ⟨Bs, 0, none⟩ = some (.int .i64 s)) (cn : W.cell? ⟨Bn, 0, none⟩ = some (.int .i64 n)) (h0 : J [] W) :
    CallsIn Fence.wide 9 Try.prog 135 #[.func (.yield l) #[] #[], .pointer (some ⟨Bn, 0, none⟩), .pointer (some ⟨Bs, 0, none⟩)] W fun e W' => (∃ v, e = .returned v) ∧
      ((∃ ys, ys = elems s (heldN n) ∧ J ys W') ∨ (∃ pre, pre <+: elems s (heldN n) ∧ Jx pre W')) := by
  have hm := heldN_le n
  refine callsIn_of_wp Try.func135 rfl trivial ?_ rfl
  simp only [Try.ntmps135, List.size_toArray, List.length_cons, List.length_nil, Nat.reduceAdd, Nat.reduceSub, Array.replicate_succ, Array.replicate_zero, List.push_toArray, List.append_toArray, List.nil_append, List.cons_append]
  gi_wp2_with (refine ⟨trivial, ?_⟩; gi_at_call 136; refine (callsIn_wide.2 (held_any _ _)).mono ?_; rintro e w' ⟨rfl, rfl⟩)
  gi_loopw [7] (fun i wr => ∃ k : Nat, k ≤ heldN n ∧ i = .int .i64 k ∧ J ((elems s (heldN n)).take k) wr ∧ wr.cell? ⟨Bs, 0, none⟩ = some (.int .i64 s)) (fun i _ => heldN n - (intOf i).toNat)
  case atStart => exact ⟨0, by omega, rfl, h0, cs⟩
  case round =>
    obtain ⟨k, hk, rfl, hJ, c1⟩ := hrel
    by_cases hlt : k < heldN n
    · obtain ⟨fn, tmps, assign, body, hy, hR⟩ := hY _ ((k : Int), bitb s k) wr hJ (by simp [elems]; omega)
      dsimp only at hy
      have hk16 : k < 16 := by omega
      gi_wp2_with (refine ⟨trivial, ?_⟩; gi_at_call 80; refine (callsIn_wide.2 (has_in _ _ _ hk16)).mono ?_; rintro e w' ⟨rfl, rfl⟩)
      refine hR.mono ?_
      rintro e W3 (⟨rfl, hJ3, hk3⟩ | ⟨rfl, hJx3⟩)
      · have c3 := hk3.cell1 c1
        gi_wp2
        go_roundw
        case rel => exact ⟨k + 1, by omega, by go_num, by rw [elems_take _ _ _ hlt]; exact hJ3, c3⟩
        case measure => simp [intOf]; omega
      · gi_wp2
        refine bodyPost_ret (results_none rfl _ _ _) rfl ?_
        exact ⟨⟨_, rfl⟩, .inr ⟨(elems s (heldN n)).take (k + 1), List.take_prefix _ _, by rw [elems_take _ _ _ hlt]; exact hJx3⟩⟩
    · have hJ' : J (elems s (heldN n)) wr := by rwa [List.take_of_length_le (by rw [elems_len]; omega)] at hJ
      have HJ := Lib.hid hJ'
      gi_wp2
      go_end0
      exact ⟨⟨_, rfl⟩, .inl ⟨_, rfl, HJ.out⟩⟩

theorem each_stops (s n : Int) (Bs Bn : Nat) (w : World) (hBs : Bs < w.heap.size) (hBn : Bn < w.heap.size) (cs : w.cell? ⟨Bs, 0, none⟩ = some (.int .i64 s)) (cn : w.cell? ⟨Bn, 0, none⟩ = some (.int .i64 n)) :
    SeqStopsK Fence.wide 9 Try.prog 135 #[.pointer (some ⟨Bn, 0, none⟩), .pointer (some ⟨Bs, 0, none⟩)] (fun x : Int × Bool => #[Value.int .i64 x.1, Value.bool x.2]) (Kp2 Bs Bn) (fun ys => ys = elems s (heldN n)) (fun pre => pre <+: elems s (heldN n)) (heldN n) w := fun l J Jx W hW _ _ hY h0 =>
  each1_in l Bs Bn s n J Jx hY W ((hW.cell (p := ⟨Bs, 0, none⟩) hBs).trans cs) ((hW.cell (p := ⟨Bn, 0, none⟩) hBn).trans cn) h0

/-! ### Missing -/
def missP (l : List (Int × Bool)) : List Int := (l.filter fun x => !x.2).map (·.1)
def missL (s n : Int) : List Int := missP (elems s (heldN n))
theorem missP_hit (pre : List (Int × Bool)) (i : Int) : missP (pre ++ [(i, false)]) = missP pre ++ [i] := by simp [missP]
theorem missP_miss (pre : List (Int × Bool)) (i : Int) : missP (pre ++ [(i, true)]) = missP pre := by simp [missP]
theorem missP_len (pre : List (Int × Bool)) : (missP pre).length ≤ pre.length := by simp only [missP, List.length_map]; exact List.length_filter_le _ _
theorem infoInt : (Try.prog.info? 3).map (fun i => (i.zero, i.size, i.bytes)) = some (some (.int .i64 0), 1, 8) := by kernel_rfl

/-! ### First -/
theorem boxed_keep {W W' : World} {row : Option Nat} {B : Nat} {t : TypeId} {v : Value} (h : Boxed W B t v) (hg : W.grownBy W' row) (hr : ∀ r, row = some r → ∃ o : Obj, W.heap[r]? = some o ∧ o.isCells = false) : Boxed W' B t v :=
  h.kept hg fun e => by
    obtain ⟨o, ho, hc⟩ := hr B e.symm
    have h' : W.heap[B]? = _ := h
    rw [h'] at ho
    cases ho
    cases hc
theorem boxed_set {W : World} {B B' : Nat} {t : TypeId} {v u : Value} (h : Boxed W B t v) (hne : B ≠ B') : Boxed (W.setCell ⟨B', 0, none⟩ u) B t v := (Below.heap_setCell _ _ _ _ hne).trans h
def FirstPost (s n : Int) (w : World) (e : Ending) (w' : World) : Prop :=
  ((∃ (k : Nat), k < heldN n ∧ bitb s k = false ∧ (∀ j, j < k → bitb s j = true) ∧ e = .returned (.tuple #[.int .i64 k, .bool true])) ∨
    ((∀ j, j < heldN n → bitb s j = true) ∧ e = .returned (.tuple #[.int .i64 0, .bool false]))) ∧ Below w.heap.size w w'
def AllOn (l : List (Int × Bool)) : Prop := ∀ x ∈ l, x.2 = true
theorem allOn_elems (s : Int) (m : Nat) (h : AllOn (elems s m)) : ∀ j, j < m → bitb s j = true := by
  intro j hj
  exact h ((j : Int), bitb s j) (by simp only [elems, List.mem_map, List.mem_range]; exact ⟨j, hj, rfl⟩)
theorem first_of (s : Int) (m : Nat) (pre : List (Int × Bool)) (i : Int) (h : pre ++ [(i, false)] <+: elems s m) (ha : AllOn pre) : ∃ k : Nat, k < m ∧ i = k ∧ bitb s k = false ∧ ∀ j, j < k → bitb s j = true := by
  obtain ⟨t, ht⟩ := h
  have hlen : pre.length < m := by have := congrArg List.length ht; simp [elems_len] at this; omega
  have g : ∀ j : Nat, (elems s m)[j]? = (pre ++ [(i, false)] ++ t)[j]? := fun j => by rw [ht]
  have gk := g pre.length
  simp [elems, hlen] at gk
  refine ⟨pre.length, hlen, gk.1.symm, gk.2, fun j hj => ?_⟩
  have gj := g j
  have hjm : j < m := by omega
  simp only [elems, List.append_assoc] at gj
  rw [List.getElem?_append_left hj] at gj
  simp [hjm] at gj
  have := ha pre[j] (List.getElem_mem hj)
  rw [List.getElem?_eq_getElem hj] at gj
  injection gj with gj
  rw [← gj] at this
  exact this

set_option maxRecDepth 100000 in
set_option maxHeartbeats 2000000 in
theorem first_in (s n : Int) (w : World) :
    CallsIn Fence.wide 10 Try.prog 83 #[.int .i64 s, .int .i64 n] w (FirstPost s n w) := by
  have hm := heldN_le n
  refine callsIn_of_wp_marks Try.func83 rfl trivial ?_ rfl
  simp only [Try.ntmps83, List.size_toArray, List.length_cons, List.length_nil, Nat.reduceAdd, Nat.reduceSub, Array.replicate_succ, Array.replicate_zero, List.push_toArray, List.append_toArray, List.nil_append, List.cons_append]
  gi_wp2_with (refine ⟨trivial, ?_⟩; gi_at_call 115; refine (each_in _ _ _).mono ?_; rintro e w' ⟨rfl, rfl⟩)
  obtain ⟨W0, hW0⟩ : ∃ W0 : World, (((w.alloc (.cells #[.int .i64 0] 3)).alloc (.cells #[.bool false] 4)).alloc (.cells #[.int .i64 s] 3)).alloc (.cells #[.int .i64 n] 3) = W0 := ⟨_, rfl⟩
  have hsz : W0.heap.size = w.heap.size + 4 := by rw [← hW0]; simp
  have b0 := Boxed.new w 3 (.int .i64 0)
  have b1 := Boxed.new (w.alloc (.cells #[.int .i64 0] 3)) 4 (.bool false)
  have b2 := Boxed.new ((w.alloc (.cells #[.int .i64 0] 3)).alloc (.cells #[.bool false] 4)) 3 (.int .i64 s)
  have b3 := Boxed.new (((w.alloc (.cells #[.int .i64 0] 3)).alloc (.cells #[.bool false] 4)).alloc (.cells #[.int .i64 s] 3)) 3 (.int .i64 n)
  simp only [World.size_alloc] at b1 b2 b3
  have bA : Boxed W0 w.heap.size 3 (.int .i64 0) := by rw [← hW0]; exact ((b0.alloc _).alloc _).alloc _
  have bB : Boxed W0 (w.heap.size + 1) 4 (.bool false) := by rw [← hW0]; exact (b1.alloc _).alloc _
  have cs : W0.cell? ⟨w.heap.size + 1 + 1, 0, none⟩ = some (.int .i64 s) := by rw [← hW0]; exact (b2.alloc _).cell
  have cn : W0.cell? ⟨w.heap.size + 1 + 1 + 1, 0, none⟩ = some (.int .i64 n) := by rw [← hW0]; exact b3.cell
  have hB0 : Below w.heap.size w W0 := by rw [← hW0]; exact ((((Below.refl _ w).alloc (Nat.le_refl _) _).alloc (by simp) _).alloc (by simp; omega) _).alloc (by simp; omega) _
  rw [hW0]
  refine wpIn_rangeFunc_ownG rfl (by omega) (gf := 135) (lb := #[.pointer (some ⟨w.heap.size + 1 + 1 + 1, 0, none⟩), .pointer (some ⟨w.heap.size + 1 + 1, 0, none⟩)]) rfl trivial (enters_of Try.func135 (by kernel_rfl) rfl)
    (each_stops s n (w.heap.size + 1 + 1) (w.heap.size + 1 + 1 + 1) W0 (by omega) (by omega) cs cn) Kp2.t (Kp2.b (by omega) (by omega)) (Below.refl _ _) (fun _ => rfl)
    (fun pre W => (Boxed W w.heap.size 3 (.int .i64 0) ∧ Boxed W (w.heap.size + 1) 4 (.bool false)) ∧ Below w.heap.size w W ∧ AllOn pre)
    (fun c pre W => (∃ q i, c = .ret ∧ pre = q ++ [(i, false)] ∧ AllOn q ∧ Boxed W w.heap.size 3 (.int .i64 i) ∧ Boxed W (w.heap.size + 1) 4 (.bool true)) ∧ Below w.heap.size w W)
    (OwnFrom.and (Own.from (fun s A B row hs hg hr => ⟨boxed_keep hs.1 hg hr, boxed_keep hs.2 hg hr⟩) _) (OwnFrom.and (ownFrom_below (Nat.le_refl _) (by omega)) (fun _ _ _ _ hs _ _ => hs)))
    (fun c => OwnFrom.and (Own.from (fun s A B row hs hg hr => by obtain ⟨q, i, h1, h2, h3, h4, h5⟩ := hs; exact ⟨q, i, h1, h2, h3, boxed_keep h4 hg hr, boxed_keep h5 hg hr⟩) _) (ownFrom_below (Nat.le_refl _) (by omega)))
    ⟨⟨bA, bB⟩, hB0, by intro x hx; cases hx⟩
    (fun x => { tmps := #[.int .i64 s, .int .i64 n, undef, undef, .pointer (some ⟨w.heap.size, 0, none⟩), .pointer (some ⟨w.heap.size + 1, 0, none⟩), .int .i64 x.1, .bool x.2, .int .i64 s, .int .i64 n, .func (.func 135) #[] #[.pointer (some ⟨w.heap.size + 1 + 1 + 1, 0, none⟩), .pointer (some ⟨w.heap.size + 1 + 1, 0, none⟩)], .int .i64 x.1, .bool x.2, undef, undef, undef], defers := [] }) ?assign ?body ?done ?stop
  case assign =>
    intro l x W K hK
    gi_wp2
    exact hK
  case body =>
    rintro l pre ⟨i, b⟩ W ⟨⟨hA, hBb⟩, hB, hall⟩ hlt
    have HALL := Lib.hid hall
    have cA := hA.cell
    have fA := hA.frozen
    have cB := hBb.cell
    have fB := hBb.frozen
    clear hall
    cases b
    · gi_wp2
      refine ⟨((KeepsOthers.setCell _ _ _).trans (KeepsOthers.setCell _ _ _)).from _, ⟨pre, i, rfl, rfl, HALL.out, boxed_set (hA.set _) (by omega), (boxed_set hBb (by omega)).set _⟩, ?_⟩
      exact (hB.setCell (p := ⟨w.heap.size, 0, none⟩) (Nat.le_refl _) _).setCell (p := ⟨w.heap.size + 1, 0, none⟩) (by simp) _
    · gi_wp2
      exact ⟨KeepsFrom.refl _ _, ⟨rfl, rfl⟩, ⟨hA, hBb⟩, hB, by intro x hx; rcases List.mem_append.1 hx with h | h; exact HALL.out x h; simp at h; subst h; rfl⟩
  case done =>
    rintro D ys W hD rfl ⟨⟨hA, hBb⟩, hB, hall⟩ hK
    have HALL := Lib.hid hall
    have cA := hA.cell
    have fA := hA.frozen
    have cB := hBb.cell
    have fB := hBb.frozen
    clear hall
    gi_wp2
    have hK2 : ((W.setCell ⟨w.heap.size, 0, none⟩ (.int .i64 0)).setCell ⟨w.heap.size + 1, 0, none⟩ (.bool false)).heap[D]? = some (.deferred (some [])) := by
      rw [Below.heap_setCell _ _ _ _ (by show D ≠ w.heap.size + 1; omega), Below.heap_setCell _ _ _ _ (by show D ≠ w.heap.size; omega)]; exact hK
    have hB2 : Below w.heap.size w ((W.setCell ⟨w.heap.size, 0, none⟩ (.int .i64 0)).setCell ⟨w.heap.size + 1, 0, none⟩ (.bool false)) := (hB.setCell (p := ⟨w.heap.size, 0, none⟩) (Nat.le_refl _) _).setCell (p := ⟨w.heap.size + 1, 0, none⟩) (by simp) _
    have hA2 := boxed_set (B' := w.heap.size + 1) (u := .bool false) (hA.set (.int .i64 0)) (by omega)
    have hBb2 := (boxed_set (B' := w.heap.size) (u := .int .i64 0) hBb (by omega)).set (.bool false)
    generalize (W.setCell ⟨w.heap.size, 0, none⟩ (.int .i64 0)).setCell ⟨w.heap.size + 1, 0, none⟩ (.bool false) = W2 at *
    refine ⟨by simp, .inl ⟨_, _, rfl, run_takeDeferred hK2, ?_⟩⟩
    have g1 : (W2.putObj D (.deferred none)).cell? ⟨w.heap.size, 0, none⟩ = some (.int .i64 0) := (World.cell?_of_block (a := ⟨w.heap.size, 0, none⟩) (World.putObj_heap_other (by show w.heap.size ≠ D; omega))).trans hA2.cell
    have g2 : (W2.putObj D (.deferred none)).cell? ⟨w.heap.size + 1, 0, none⟩ = some (.bool false) := (World.cell?_of_block (a := ⟨w.heap.size + 1, 0, none⟩) (World.putObj_heap_other (by show w.heap.size + 1 ≠ D; omega))).trans hBb2.cell
    refine ⟨.tuple #[.int .i64 0, .bool false], by simp [results, Try.results83, go_sem, g1, g2], .inr ⟨allOn_elems _ _ HALL.out, rfl⟩, hB2.trans (belowK_b (w := w) (Nat.le_refl _) W2 D _ _ (by omega) hK2 rfl rfl)⟩
  case stop =>
    rintro D c pre W hD hpre ⟨⟨q, i, rfl, rfl, hall, hA, hBb⟩, hB⟩ hK
    obtain ⟨k, hk, rfl, hb, hj⟩ := first_of s (heldN n) q i hpre hall
    have HB := Lib.hid hb; have HJ := Lib.hid hj
    have cA := hA.cell
    have cB := hBb.cell
    clear hall hb hj
    gi_wp2
    refine ⟨by simp, .inl ⟨_, _, rfl, run_takeDeferred hK, ?_⟩⟩
    have g1 : (W.putObj D (.deferred none)).cell? ⟨w.heap.size, 0, none⟩ = some (.int .i64 k) := (World.cell?_of_block (a := ⟨w.heap.size, 0, none⟩) (World.putObj_heap_other (by show w.heap.size ≠ D; omega))).trans cA
    have g2 : (W.putObj D (.deferred none)).cell? ⟨w.heap.size + 1, 0, none⟩ = some (.bool true) := (World.cell?_of_block (a := ⟨w.heap.size + 1, 0, none⟩) (World.putObj_heap_other (by show w.heap.size + 1 ≠ D; omega))).trans cB
    refine ⟨.tuple #[.int .i64 k, .bool true], by simp [results, Try.results83, go_sem, g1, g2], .inl ⟨k, hk, HB.out, HJ.out, rfl⟩, hB.trans (belowK_b (w := w) (Nat.le_refl _) W D _ _ (by omega) hK rfl rfl)⟩

theorem first_any (s n : Int) (w : World) : Calls Try.prog 83 #[.int .i64 s, .int .i64 n] w (FirstPost s n w) := callsIn_wide.1 (first_in s n w)

theorem heap_set (W : World) (b j : Nat) (u : Value) (h : j ≠ b) : (W.setCell ⟨b, 0, none⟩ u).heap[j]? = W.heap[j]? := Below.heap_setCell _ _ _ _ (by exact h)
theorem cells_new (w : World) (cs : Array Value) (t : TypeId) : ∀ j u, cs.toList[j]? = some u → (w.alloc (.cells cs t)).cell? ((⟨w.heap.size, 0, none⟩ : Addr).add j) = some u := by
  intro j u hu
  rw [addr_add, Nat.zero_add, World.cell?_alloc_new]
  simpa using hu
/-- a boxed slice that was appended to, and stored back -/
theorem box_append {W w1 : World} {base B : Nat} {t e : TypeId} {size : Nat} {v v' : Value} {k m : Nat} {xs ys : List Value} {tmp : Obj}
    (hv : Boxed W B t v) (hte : t ≠ e) (hB : B < base) (hrow : W.ownsRow base e size v k xs) (hsz : base ≤ W.heap.size) (hown' : w1.ownsRow base e size v' m ys) (hg : (W.alloc tmp).grownBy w1 v.ownBlock) :
    Boxed w1 B t v ∧ Boxed (w1.setCell ⟨B, 0, none⟩ v') B t v' ∧ (w1.setCell ⟨B, 0, none⟩ v').ownsRow base e size v' m ys ∧ KeepsOthers W (w1.setCell ⟨B, 0, none⟩ v') ∧
      (∀ j, j < base → j ≠ B → (w1.setCell ⟨B, 0, none⟩ v').heap[j]? = W.heap[j]?) ∧ Below B W (w1.setCell ⟨B, 0, none⟩ v') := by
  obtain ⟨h1, h2, h3, h4, h5⟩ := hv.appended hte (hrow.mono (base' := B) (by omega)) (by omega) (Nat.le_refl _) (hown'.mono (base' := B) (by omega)) hg
  refine ⟨h1, h2, hown'.kept (grownBy_setCell' w1 B v') (.inr (h1.not_row hte hown').symm), h4, fun j hj hne => ?_, h5⟩
  have hno : some j ≠ v.ownBlock := fun he => by have := (hrow.lt j he.symm).1; omega
  exact (Below.heap_setCell _ _ _ _ (by exact hne)).trans ((hg.block j (by simp; omega) hno).trans (Below.heap_alloc _ _ _ (by omega)))

/-! ### Runs -/
def prCells (l : List (Int × Int)) : List Value := l.flatMap fun p => [.int .i64 p.1, .int .i64 p.2]
theorem prCells_len (l : List (Int × Int)) : (prCells l).length = l.length * 2 := by
  induction l with
  | nil => rfl
  | cons p l ih => simp only [prCells, List.flatMap_cons, List.length_append, List.length_cons, List.length_nil] at ih ⊢; omega
theorem prCells_append (l m : List (Int × Int)) : prCells (l ++ m) = prCells l ++ prCells m := by simp [prCells]
/-- the runs that are closed, and the one that is open -/
def runStep (st : List (Int × Int) × Option (Int × Int)) (x : Int × Bool) : List (Int × Int) × Option (Int × Int) :=
  match x.2, st.2 with
  | true, some (a, m) => (st.1, some (a, m + 1))
  | true, none => (st.1, some (x.1, 1))
  | false, c => (st.1 ++ c.toList, none)
def runSt (pre : List (Int × Bool)) : List (Int × Int) × Option (Int × Int) := pre.foldl runStep ([], none)
theorem runSt_snoc (pre : List (Int × Bool)) (x : Int × Bool) : runSt (pre ++ [x]) = runStep (runSt pre) x := by simp [runSt]
def runOut (pre : List (Int × Bool)) : List (Int × Int) := (runSt pre).1 ++ (runSt pre).2.toList
def runsL (s n : Int) : List (Int × Int) := runOut (elems s (heldN n))
/-- how many there are, and how long the open one is, at most -/
def RunBd (pre : List (Int × Bool)) : Prop := (runOut pre).length ≤ pre.length ∧ ∀ a m, (runSt pre).2 = some (a, m) → 0 ≤ m ∧ m ≤ pre.length
theorem runBd_nil : RunBd [] := ⟨by simp [runOut, runSt], by intro a m h; simp [runSt] at h⟩
theorem runBd_snoc {pre : List (Int × Bool)} (h : RunBd pre) (x : Int × Bool) : RunBd (pre ++ [x]) := by
  obtain ⟨h1, h2⟩ := h
  unfold RunBd runOut
  unfold runOut at h1
  rw [runSt_snoc]
  generalize runSt pre = st at *
  obtain ⟨d, c⟩ := st
  obtain ⟨i, b⟩ := x
  cases b
  · cases c with
    | none => simp [runStep] at h1 ⊢; omega
    | some p => simp [runStep] at h1 ⊢; omega
  · cases c with
    | none =>
      simp [runStep] at h1 ⊢
      omega
    | some p =>
      obtain ⟨a, m⟩ := p
      have := h2 a m rfl
      simp [runStep] at h1 ⊢
      omega
theorem prCells_bump (d : List (Int × Int)) (a m m' : Int) : (prCells (d ++ [(a, m)])).set (d.length * 2 + 1) (.int .i64 m') = prCells (d ++ [(a, m')]) := by
  rw [prCells_append, prCells_append, List.set_append_right _ _ (by rw [prCells_len]; omega), prCells_len]
  congr 1
  have : d.length * 2 + 1 - d.length * 2 = 1 := by omega
  rw [this]
  rfl

end Go.Proofs.Ytooagoikiafgcaa.bits
