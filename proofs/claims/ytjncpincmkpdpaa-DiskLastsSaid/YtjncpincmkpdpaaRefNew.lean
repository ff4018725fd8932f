/-
  PROVED HERE: the contract of longeronref04.New.
  CONDITIONS: none.
-/
import Derived.Test.YtjncpincmkpdpaaRefWrite
import Derived.Deep.RegionLaw
namespace Go.Proofs.Ytjncpincmkpdpaa.refDisk
set_option linter.unusedVariables false
open Go.RowKit Go.Proofs.Ytjncpincmkpdpaa.base Go.Proofs.Ytjncpincmkpdpaa.obj Go.Proofs.Ytjncpincmkpdpaa.mem Go.Proofs.Ytjncpincmkpdpaa.plan Go.Proofs.Ytjncpincmkpdpaa.disk

/-- append, as one step of a region that draws its order -/
theorem step_app {P : Program} {t e size bytes : Nat} (T : SlT P t e size bytes) {ops : Array Oper} {o : Oper} {a : Act} {K : Act → World → Prop} {Q : Exit → Act → World → Prop} {E : Prop} {w : World} (hgd : o.guard = none) (s x : Operand)
    (ho : o.op = .call { callee := .builtin .append, args := #[s, x], argTypes := #[t, t] })
    {base : Nat} {v : Value} {n : Nat} {xs : List Value} (hown : w.ownsRow base e size v n xs) (hs : a.eval s = v) {B m c : Nat} {A : Option Addr} {ys : List Value} (hx : a.eval x = .slice A m c)
    (hr : Sl w B size A m ys) (h1 : ∀ u ∈ ys, u.oneCell' = true) (hm : 0 < m) (hb : (n + m) * bytes ≤ 140737488355328) (h63 : n + m ≤ maxLen) (hbase : base ≤ w.heap.size)
    (h : ∀ g cap w', w'.ownsRow base e size (.slice (some ⟨g, 0, none⟩) (n + m) cap) (n + m) (xs ++ ys) → w.grownBy w' v.ownBlock → (v.ownBlock = some g ∨ w.heap.size ≤ g) → g < w'.heap.size → K (a.put o.dst (.slice (some ⟨g, 0, none⟩) (n + m) cap)) w') :
    if Region.wanted o (yielded ops a.tmps) = true then Oper.wp P o a w K Q else E := by
  have hw : Region.wanted o (yielded ops a.tmps) = true := by simp [Region.wanted, hgd]
  rw [if_pos hw]
  obtain ⟨i, z, hi, hz, h2, h3, h4⟩ := T.hi
  obtain ⟨b, off, rfl, _, hc⟩ := hr.2 hm
  refine wp_append_lies w s x t ho base e i z size bytes T.ht hi hz h2 h3 h4 T.hs v n xs hs hown ⟨b, off, none⟩ m c ys hx hr.1 (fun j u hu => ?_) h1 hm h63 hb hbase w.heap.size rfl ?_
  · rw [Addr.add_mid]
    exact hc j u hu
  · intro g cap w' ho' hg' hor hlt
    exact h g cap w' ho' hg' (hor.imp id fun e => by omega) hlt

structure NewR (w : World) (k : Nat) (vS : Value) (hS : List Value) (wr : World) : Prop where
  blk : Row wr w.heap.size 60 [vS, .slice none 0 0, .slice none 0 0, .int .i64 (-1), .bool false]
  own : wr.ownsRow w.heap.size 22 1 vS k hS
  hd : Hds wr hS (List.replicate k zeroSec)
  bel : Below w.heap.size w wr
theorem newr_start (w : World) : NewR w 0 (.slice none 0 0) [] (w.alloc (.cells #[.slice none 0 0, .slice none 0 0, .slice none 0 0, .int .i64 (-1), .bool false] 60)) :=
  ⟨Row.new w 60 _, World.ownsRow_nil _ _ _ _, Hds.nil _, (Below.refl _ _).alloc (Nat.le_refl _) _⟩
/-- one sector more -/
theorem newr_step {w wr w3 : World} {k : Nat} {vS : Value} {hS : List Value} (h : NewR w k vS hS wr) {X : World} (hX : X = ((wr.alloc (.cells zSec 5)).alloc (.cells #[.slice (some ⟨wr.heap.size, 0, none⟩) 64 64] 22)).drew)
    (g3 : X.grownBy w3 vS.ownBlock) {g2 cap : Nat} (o3 : w3.ownsRow w.heap.size 22 1 (.slice (some ⟨g2, 0, none⟩) (k + 1) cap) (k + 1) (hS ++ [.slice (some ⟨wr.heap.size, 0, none⟩) 64 64])) :
    NewR w (k + 1) (.slice (some ⟨g2, 0, none⟩) (k + 1) cap) (hS ++ [.slice (some ⟨wr.heap.size, 0, none⟩) 64 64]) (w3.setCell ⟨w.heap.size, 0, none⟩ (.slice (some ⟨g2, 0, none⟩) (k + 1) cap)) := by
  subst hX
  have A1 : ∀ {t : TypeId} {b : Nat} {cur : List Value}, Row wr b t cur → Row ((wr.alloc (.cells zSec 5)).alloc (.cells #[.slice (some ⟨wr.heap.size, 0, none⟩) 64 64] 22)).drew b t cur := fun hr => ((hr.alloc _).alloc _).drew
  have oS := own_rows h.own fun b cur hr => A1 hr
  have A2 : ∀ {t : TypeId} {b : Nat} {cur : List Value}, Row ((wr.alloc (.cells zSec 5)).alloc (.cells #[.slice (some ⟨wr.heap.size, 0, none⟩) 64 64] 22)).drew b t cur → t ≠ 22 → Row w3 b t cur := fun hr ht => grown_row g3 hr (own_ne oS hr ht)
  have x3 := A2 (A1 h.blk) (by decide)
  have A3 : ∀ {t : TypeId} {b : Nat} {cur : List Value}, Row w3 b t cur → t ≠ 60 → Row (w3.setCell ⟨w.heap.size, 0, none⟩ (.slice (some ⟨g2, 0, none⟩) (k + 1) cap)) b t cur := fun hr ht => hr.setCell_other (p := ⟨w.heap.size, 0, none⟩) (hr.ne x3 ht) _
  have hz : Row ((wr.alloc (.cells zSec 5)).alloc (.cells #[.slice (some ⟨wr.heap.size, 0, none⟩) 64 64] 22)).drew wr.heap.size 5 (zeroSec.map (.int .u8)) := ((zero_row wr).alloc _).drew
  refine ⟨x3.setCell 0 _, own_rows o3 fun b cur hr => A3 hr (by decide), ?_, ?_⟩
  · rw [List.replicate_succ']
    refine Hds.snoc (h.hd.row fun b cur hr => A3 (A2 (A1 hr) (by decide)) (by decide)) ⟨wr.heap.size, 64, _, rfl, A3 (A2 hz (by decide)) (by decide), ?_⟩
    exact List.take_of_length_le (by simp [zeroSec])
  · have k1 : Below w.heap.size w ((wr.alloc (.cells zSec 5)).alloc (.cells #[.slice (some ⟨wr.heap.size, 0, none⟩) 64 64] 22)).drew := ((h.bel.alloc h.bel.size _).alloc (by have := h.bel.size; simp; omega) _).drew
    exact (k1.grown g3 k1.size fun k hk => (own_is oS hk).1).setCell (p := ⟨w.heap.size, 0, none⟩) (Nat.le_refl _) _
theorem newr_end {w wr : World} {n : Nat} {vS : Value} {hS : List Value} (h : NewR w n vS hS wr) (h0 : 1 ≤ n) (h1 : n ≤ 128) : RefOwn wr w.heap.size w.heap.size (DS.new n) := by
  refine ⟨vS, .slice none 0 0, .slice none 0 0, hS, [], DS.new_good h0 h1, h.blk, Nat.le_refl _, ?_, World.ownsRow_nil _ _ _ _, World.ownsRow_nil _ _ _ _, fun k _ e => by simp [Value.ownBlock] at e, h.hd, Hds.nil _⟩
  simpa [DS.new] using h.own
theorem newr_read {w wr : World} {k : Nat} {vS : Value} {hS : List Value} (h : NewR w k vS hS wr) : wr.cell? ⟨w.heap.size, 0, none⟩ = some vS ∧ wr.frozen? ⟨w.heap.size, 0, none⟩ = false ∧ w.heap.size < wr.heap.size := ⟨h.blk.cell 0, h.blk.frozen 0, h.blk.lt⟩
theorem newr_own {w wr : World} {k : Nat} {vS : Value} {hS : List Value} (h : NewR w k vS hS wr) (a b : Obj) : ((wr.alloc a).alloc b).drew.ownsRow w.heap.size 22 1 vS k hS := own_rows h.own fun b cur hr => ((hr.alloc _).alloc _).drew
theorem sl_new1 (wr : World) (a : Obj) (hv : Value) : Sl ((wr.alloc a).alloc (.cells #[hv] 22)).drew (wr.heap.size + 2) 1 (some ⟨wr.heap.size + 1, 0, none⟩) 1 [hv] := by
  have := sl_new (w := wr.alloc a) (e := 22) (n := 1) (size := 1) (cs := #[hv]) rfl
  simp at this
  exact this
theorem newr_base {w wr : World} {k : Nat} {vS : Value} {hS : List Value} (h : NewR w k vS hS wr) (a b : Obj) : w.heap.size ≤ ((wr.alloc a).alloc b).drew.heap.size := by
  have := h.bel.size
  simp [heap_drew]; omega
theorem newr_keep {w wr w3 : World} {k : Nat} {vS : Value} {hS : List Value} (h : NewR w k vS hS wr) {X : World} (hX : X = ((wr.alloc (.cells zSec 5)).alloc (.cells #[.slice (some ⟨wr.heap.size, 0, none⟩) 64 64] 22)).drew) (g3 : X.grownBy w3 vS.ownBlock) :
    w3.cell? ⟨w.heap.size, 0, none⟩ = some vS ∧ w3.frozen? ⟨w.heap.size, 0, none⟩ = false := by
  subst hX
  have x1 : Row ((wr.alloc (.cells zSec 5)).alloc (.cells #[.slice (some ⟨wr.heap.size, 0, none⟩) 64 64] 22)).drew w.heap.size 60 [vS, .slice none 0 0, .slice none 0 0, .int .i64 (-1), .bool false] := ((h.blk.alloc _).alloc _).drew
  have oS : ((wr.alloc (.cells zSec 5)).alloc (.cells #[.slice (some ⟨wr.heap.size, 0, none⟩) 64 64] 22)).drew.ownsRow w.heap.size 22 1 vS k hS := own_rows h.own fun b cur hr => ((hr.alloc _).alloc _).drew
  have x3 := grown_row g3 x1 (own_ne oS x1 (by decide))
  exact ⟨x3.cell 0, x3.frozen 0⟩

set_option maxRecDepth 100000 in
set_option maxHeartbeats 2000000 in
theorem new_any (n : Int) (w : World) : Calls Try.prog 33 #[.int .i64 n] w fun e w' => e = .returned (.pointer (some ⟨w.heap.size, 0, none⟩)) ∧ RefOwn w' w.heap.size w.heap.size (DS.new (clampN n)) ∧ Below w.heap.size w w' := by
  have hmk := make64
  have HST := Lib.hid (newr_start w)
  by_cases h0 : n < 1
  · have e : clampN n = 1 := by simp [clampN, h0]
    rw [e]
    clear e
    go_enter Try.func33, Try.ntmps33
    go_wp2_with (fail)
    go_loopw [4] (fun i wr => ∃ (k : Nat) (vS : Value) (hS : List Value), k ≤ 1 ∧ i = .int .i64 k ∧ NewR w k vS hS wr) (fun i _ => 1 - (intOf i).toNat)
    case atStart => exact ⟨0, _, _, by omega, rfl, HST.out⟩
    case round =>
      obtain ⟨k, vS, hS, hk, rfl, hr⟩ := hrel
      have HR := Lib.hid hr
      obtain ⟨c0, f0, hx⟩ := newr_read hr
      clear hr
      by_cases hlt : k < 1
      · have k128 : k ≤ 128 := by omega
        have k0 : (k : Int) < 1 := by omega
        have hx2 : w.heap.size ≤ wr.heap.size := by omega
        go_wp2_with (fail)
        go_region_law (first
          | (refine step_app slSl rfl (.tmp 20) (.tmp 22) rfl (newr_own HR.out _ _) rfl rfl (sl_new1 _ _ _) (slice_one _) (by omega) (by omega) (by unfold maxLen; omega) (newr_base HR.out _ _) ?_; intro g2 cap w3 ho hg hor hlt2; have HO := Lib.hid ho; have HGR := Lib.hid hg; clear ho hg hor hlt2; have q1 := (newr_keep HR.out rfl HGR.out).1; have q2 := (newr_keep HR.out rfl HGR.out).2)
          | (go_at_call 99999; skip))
        all_goals
          clear q1 q2
          go_wp2_with (fail)
          go_roundw
          case rel => exact ⟨k + 1, _, _, by omega, by go_num, newr_step HR.out rfl HGR.out HO.out⟩
          case measure => simp [intOf]; omega
      · have k0 : ¬ (k : Int) < 1 := by omega
        obtain rfl : k = 1 := by omega
        go_wp2_with (fail)
        go_ret
        exact ⟨rfl, newr_end HR.out (by omega) (by omega), HR.out.bel⟩
  · by_cases h1 : 128 < n
    · have e : clampN n = 128 := by simp [clampN, h0, h1]
      rw [e]
      clear e
      go_enter Try.func33, Try.ntmps33
      go_wp2_with (fail)
      go_loopw [4] (fun i wr => ∃ (k : Nat) (vS : Value) (hS : List Value), k ≤ 128 ∧ i = .int .i64 k ∧ NewR w k vS hS wr) (fun i _ => 128 - (intOf i).toNat)
      case atStart => exact ⟨0, _, _, by omega, rfl, HST.out⟩
      case round =>
        obtain ⟨k, vS, hS, hk, rfl, hr⟩ := hrel
        have HR := Lib.hid hr
        obtain ⟨c0, f0, hx⟩ := newr_read hr
        clear hr
        by_cases hlt : k < 128
        · have k128 : k ≤ 128 := by omega
          have k0 : (k : Int) < 128 := by omega
          have hx2 : w.heap.size ≤ wr.heap.size := by omega
          go_wp2_with (fail)
          go_region_law (first
            | (refine step_app slSl rfl (.tmp 20) (.tmp 22) rfl (newr_own HR.out _ _) rfl rfl (sl_new1 _ _ _) (slice_one _) (by omega) (by omega) (by unfold maxLen; omega) (newr_base HR.out _ _) ?_; intro g2 cap w3 ho hg hor hlt2; have HO := Lib.hid ho; have HGR := Lib.hid hg; clear ho hg hor hlt2; have q1 := (newr_keep HR.out rfl HGR.out).1; have q2 := (newr_keep HR.out rfl HGR.out).2)
            | (go_at_call 99999; skip))
          all_goals
            clear q1 q2
            go_wp2_with (fail)
            go_roundw
            case rel => exact ⟨k + 1, _, _, by omega, by go_num, newr_step HR.out rfl HGR.out HO.out⟩
            case measure => simp [intOf]; omega
        · have k0 : ¬ (k : Int) < 128 := by omega
          obtain rfl : k = 128 := by omega
          go_wp2_with (fail)
          go_ret
          exact ⟨rfl, newr_end HR.out (by omega) (by omega), HR.out.bel⟩
    · obtain ⟨N, rfl⟩ := Int.eq_ofNat_of_zero_le (show 0 ≤ n by omega)
      have e : clampN (N : Int) = N := by simp [clampN, h0, h1]
      rw [e]
      clear e
      go_enter Try.func33, Try.ntmps33
      go_wp2_with (fail)
      go_loopw [4] (fun i wr => ∃ (k : Nat) (vS : Value) (hS : List Value), k ≤ N ∧ i = .int .i64 k ∧ NewR w k vS hS wr) (fun i _ => N - (intOf i).toNat)
      case atStart => exact ⟨0, _, _, by omega, rfl, HST.out⟩
      case round =>
        obtain ⟨k, vS, hS, hk, rfl, hr⟩ := hrel
        have HR := Lib.hid hr
        obtain ⟨c0, f0, hx⟩ := newr_read hr
        clear hr
        by_cases hlt : k < N
        · have k128 : k ≤ 128 := by omega
          have k0 : (k : Int) < (N : Int) := by omega
          have hx2 : w.heap.size ≤ wr.heap.size := by omega
          go_wp2_with (fail)
          go_region_law (first
            | (refine step_app slSl rfl (.tmp 20) (.tmp 22) rfl (newr_own HR.out _ _) rfl rfl (sl_new1 _ _ _) (slice_one _) (by omega) (by omega) (by unfold maxLen; omega) (newr_base HR.out _ _) ?_; intro g2 cap w3 ho hg hor hlt2; have HO := Lib.hid ho; have HGR := Lib.hid hg; clear ho hg hor hlt2; have q1 := (newr_keep HR.out rfl HGR.out).1; have q2 := (newr_keep HR.out rfl HGR.out).2)
            | (go_at_call 99999; skip))
          all_goals
            clear q1 q2
            go_wp2_with (fail)
            go_roundw
            case rel => exact ⟨k + 1, _, _, by omega, by go_num, newr_step HR.out rfl HGR.out HO.out⟩
            case measure => simp [intOf]; omega
        · have k0 : ¬ (k : Int) < (N : Int) := by omega
          obtain rfl : k = N := by omega
          go_wp2_with (fail)
          go_ret
          exact ⟨rfl, newr_end HR.out (by omega) (by omega), HR.out.bel⟩

end Go.Proofs.Ytjncpincmkpdpaa.refDisk
