/-
  PROVED HERE: for every list of acts l and keep, longeronlaw04.DiskLasts(l, keep) returns true and leaves memory as it was.
  CONDITIONS: none.
-/
import Derived.Test.YtjncpincmkpdpaaDiskLine
import Derived.Deep.RegionLaw
import Derived.Deep.RegionHeld3
namespace Go.Proofs.Ytjncpincmkpdpaa.diskLasts
set_option linter.unusedVariables false
open Go.Proofs.Ytjncpincmkpdpaa.same Go.RowKit Go.ChangeShapes Go.WideShapes Go.ChangeAt Go.Deep Go.Joins Go.Proofs.Ytjncpincmkpdpaa.base Go.Proofs.Ytjncpincmkpdpaa.obj Go.Proofs.Ytjncpincmkpdpaa.mem Go.Proofs.Ytjncpincmkpdpaa.disk Go.Proofs.Ytjncpincmkpdpaa.refDisk Go.Proofs.Ytjncpincmkpdpaa.line

theorem u64_of {z : Int} (h : (Lit.int .u64 z).wf = true) : 0 ≤ z ∧ z ≤ 18446744073709551615 := by
  have h1 : IntKind.u64.min = 0 := rfl
  have h2 : IntKind.u64.max = 18446744073709551615 := rfl
  simp only [Lit.wf, Bool.and_eq_true, decide_eq_true_eq] at h
  omega
theorem own_other {w w' : World} {B g : Nat} {m : DS} (h : DiskOwn w B g m) (hk : ∀ k t xs, Row w k t xs → t = 117 ∨ t = 121 ∨ t = 123 → Row w' k t xs) (hs : w.heap.size ≤ w'.heap.size) : DiskOwn w' B g m := by
  obtain ⟨F, ⟨L, wv, h⟩, hF⟩ := h
  exact ⟨F, ⟨L, wv, h.good, hk _ _ _ h.blk (by simp), hk _ _ _ h.laid (by simp), own_rows h.own fun i c hq => hk _ _ _ hq (by simp), h.fg, h.fl, h.fw⟩, fun i hi => by have := hF i hi; omega⟩
theorem dt {t : TypeId} (h : t = 117 ∨ t = 121 ∨ t = 123) : t ≠ 40 ∧ t ≠ 22 := by
  rcases h with rfl | rfl | rfl <;> decide
theorem own_may {w : World} {B g gm i : Nat} {m : DS} {vs : List Value} (h : DiskOwn w B g m) (hr : Row w gm 40 vs) (v : Value) : DiskOwn (w.setCell ⟨gm, i, none⟩ v) B g m :=
  own_other h (fun k t xs hk ht => hk.setCell_other (p := ⟨gm, i, none⟩) (hk.ne hr (dt ht).1) v) (by simp [World.setCell])

structure LI (w : World) (g gm : Nat) (m : DS) (vs : List Value) (ls : Nat → List (List Int)) (wr : World) : Prop where
  d : DiskOwn wr w.heap.size g m
  may : MayIn wr w.heap.size gm vs ls
  bel : Below w.heap.size w wr
theorem LI.below {w wr w' : World} {g gm : Nat} {m : DS} {vs : List Value} {ls : Nat → List (List Int)} (h : LI w g gm m vs ls wr) (hb : Below wr.heap.size wr w') : LI w g gm m vs ls w' := ⟨h.d.below hb, h.may.below hb, h.bel.trans (hb.mono h.bel.size)⟩
theorem LI.alloc {w wr : World} {g gm : Nat} {m : DS} {vs : List Value} {ls : Nat → List (List Int)} (h : LI w g gm m vs ls wr) (o : Obj) : LI w g gm m vs ls (wr.alloc o) := h.below ((Below.refl _ _).alloc (Nat.le_refl _) _)
theorem LI.congr {w wr : World} {g gm : Nat} {m : DS} {vs : List Value} {ls ls' : Nat → List (List Int)} (h : LI w g gm m vs ls wr) (e : ∀ i, i < 8 → ls' i = ls i) : LI w g gm m vs ls' wr := ⟨h.d, h.may.congr e, h.bel⟩

structure LP (k : Nat) (m : DS) : Prop where
  good : m.Good
  fuse : m.fuse = -1
  up : m.down = false
  eight : m.secs.length = 8
  few : m.waits.length ≤ k
theorem lp_start : LP 0 (DS.new 8) := ⟨DS.new_good (by omega) (by omega), rfl, rfl, rfl, by simp [DS.new]⟩
theorem lp_goes {k : Nat} {m : DS} (h : LP k m) : m.goes = true ∧ m.burnt = m := by
  unfold DS.goes DS.burnt
  rw [h.up, h.fuse]
  refine ⟨rfl, ?_⟩
  have h1 := h.fuse
  have h2 := h.up
  obtain ⟨s, wa, f, d⟩ := m
  simp only at h1 h2
  subst h1; subst h2
  rfl
theorem lp_write {k : Nat} {m : DS} (h : LP k m) (at_ by_ : Int) : m.write (at_ % 8) (fillL by_ 64) = (0, m.put (at_ % 8).toNat (fillL by_ 64)) ∧ LP (k + 1) (m.put (at_ % 8).toNat (fillL by_ 64)) := by
  refine ⟨?_, DS.put_good h.good (by rw [h.eight]; omega) (fillL_len _ _), h.fuse, h.up, h.eight, by have := h.few; simp [DS.put]; omega⟩
  unfold DS.write
  rw [if_neg (by rw [h.eight]; omega), if_neg (by simp [fillL_len]), (lp_goes h).1, (lp_goes h).2]
  rfl
theorem lp_flush {k : Nat} {m : DS} (h : LP k m) : m.flush = (0, m.lay fun _ => true) ∧ LP (k + 1) (m.lay fun _ => true) := by
  refine ⟨?_, DS.lay_good h.good _, h.fuse, h.up, ?_, by simp [DS.lay]⟩
  · unfold DS.flush
    rw [(lp_goes h).1, (lp_goes h).2]
    rfl
  · show (layTo _ _ _ _).length = 8
    rw [layTo_len]; exact h.eight

/-- the lines are made, the first j of eight -/
def half (j : Nat) (f f' : Nat → List (List Int)) : Nat → List (List Int) := fun i => if i < j then f i else f' i
theorem half_step {j : Nat} {f f' : Nat → List (List Int)} : ∀ i, i < 8 → half (j + 1) f f' i = upd (half j f f') j (f j) i := by
  intro i _
  simp only [half, upd]
  by_cases h : i = j
  · subst h; simp
  · by_cases h2 : i < j
    · rw [if_pos (by omega), if_neg h, if_pos h2]
    · rw [if_neg (by omega), if_neg h, if_neg h2]
theorem half_all {f f' : Nat → List (List Int)} : ∀ i, i < 8 → f i = half 8 f f' i := fun i h => by simp only [half]; rw [if_pos h]
theorem half_none {f f' : Nat → List (List Int)} : ∀ i, i < 8 → half 0 f f' i = f' i := fun i h => by simp only [half]; rw [if_neg (by omega)]
def nilL : Nat → List (List Int) := fun _ => []
theorem li_start {w wr : World} {g : Nat} {m : DS} (h : DiskOwn wr w.heap.size g m) (hb : Below w.heap.size w wr) : LI w g wr.heap.size m (List.replicate 8 (.slice none 0 0)) (half 0 (lineOf m) nilL) (wr.alloc (.cells #[.slice none 0 0, .slice none 0 0, .slice none 0 0, .slice none 0 0, .slice none 0 0, .slice none 0 0, .slice none 0 0, .slice none 0 0] 40)) := by
  have k : Below wr.heap.size wr (wr.alloc (.cells #[.slice none 0 0, .slice none 0 0, .slice none 0 0, .slice none 0 0, .slice none 0 0, .slice none 0 0, .slice none 0 0, .slice none 0 0] 40)) := (Below.refl _ _).alloc (Nat.le_refl _) _
  refine ⟨h.below k, ⟨Row.new wr 40 _, hb.size, rfl, fun i v hv => .inl ⟨?_, by simp [half, nilL]⟩, fun i j v u b _ hv _ e => ?_⟩, hb.trans (k.mono hb.size)⟩
  · exact (List.mem_replicate.1 (List.mem_of_getElem? hv)).2
  · rw [(List.mem_replicate.1 (List.mem_of_getElem? hv)).2] at e
    cases e
theorem line_new8 {j : Nat} (hj : j < 8) : lineOf (DS.new 8) j = [zeroSec] := by
  have e : (List.replicate 8 zeroSec).getD j [] = zeroSec := by
    rw [List.getD_eq_getElem?_getD, List.getElem?_replicate, if_pos hj]; rfl
  unfold lineOf upTo
  rw [show (DS.new 8).secs = List.replicate 8 zeroSec from rfl, e]
  rfl
theorem li_new {w wr : World} {g gm j : Nat} {vs : List Value} (h : LI w g gm (DS.new 8) vs (half j (lineOf (DS.new 8)) nilL) wr) (hj : j < 8) :
    LI w g gm (DS.new 8) (vs.set j (.slice (some ⟨wr.heap.size + 1, 0, none⟩) 1 1)) (half (j + 1) (lineOf (DS.new 8)) nilL) (((wr.setCell ⟨gm, j, none⟩ (.slice (some ⟨wr.heap.size + 1, 0, none⟩) 1 1)).alloc (.cells zSec 5)).alloc (.cells #[.slice (some ⟨wr.heap.size, 0, none⟩) 64 64] 22)) := by
  have hlt := h.may.blk.lt
  rw [← World.setCell_alloc_past _ _ _ _ hlt, ← World.setCell_alloc_past _ _ _ _ (by simp; omega)]
  have k : Below wr.heap.size wr ((wr.alloc (.cells zSec 5)).alloc (.cells #[.slice (some ⟨wr.heap.size, 0, none⟩) 64 64] 22)) := ((Below.refl _ _).alloc (Nat.le_refl _) _).alloc (by simp) _
  have hz : Row ((wr.alloc (.cells zSec 5)).alloc (.cells #[.slice (some ⟨wr.heap.size, 0, none⟩) 64 64] 22)) wr.heap.size 5 (zeroSec.map (.int .u8)) := (zero_row wr).alloc _
  have hr : Row ((wr.alloc (.cells zSec 5)).alloc (.cells #[.slice (some ⟨wr.heap.size, 0, none⟩) 64 64] 22)) (wr.heap.size + 1) 22 [.slice (some ⟨wr.heap.size, 0, none⟩) 64 64] := by
    have := Row.new (wr.alloc (.cells zSec 5)) 22 #[.slice (some ⟨wr.heap.size, 0, none⟩) 64 64]
    simpa using this
  have hm := h.may.new (i := j) (s := zeroSec) k (by omega) h.bel.size hr ⟨wr.heap.size, 64, _, rfl, hz, List.take_of_length_le (by simp [zeroSec])⟩
  refine ⟨own_may (h.d.below k) (h.may.blk.below k h.may.blk.lt) _, hm.congr fun i hi => ?_, (h.bel.trans (k.mono h.bel.size)).setCell (p := ⟨gm, j, none⟩) h.may.low _⟩
  rw [half_step i hi, line_new8 hj]
theorem half_len {j : Nat} {f f' : Nat → List (List Int)} (hj : j < 8) : half j f f' j = f' j := by simp only [half]; rw [if_neg (by omega)]
theorem line_few {m : DS} {k j : Nat} (h : m.waits.length ≤ k) (hk : k ≤ 100) : (lineOf m j).length ≤ 101 := by
  unfold lineOf upTo
  rw [List.length_cons, List.length_map]
  have := List.length_filter_le (fun p => p.1 == j) m.waits
  omega
theorem line_form {w : World} {B : Nat} {v : Value} {l l' : List (List Int)} (h : Line w B v l) (e : l = l') (hl : 0 < l'.length) : ∃ b off cap, v = .slice (some ⟨b, off, none⟩) l'.length cap ∧ l'.length ≤ cap ∧ cap ≤ maxLen := by
  subst e
  obtain ⟨b, off, cap, cur, hs, h1, h2, h3, _⟩ := h.open hl
  exact ⟨b, off, cap, h1, h2, h3⟩
theorem li_cut {w wr : World} {g gm j b off cap q : Nat} {m m5 : DS} {vs : List Value} (h : LI w g gm m5 vs (half j (lineOf m5) (lineOf m)) wr) (hj : j < 8) (he : (lineOf m j).drop ((lineOf m j).length - 1) = lineOf m5 j) (hv : vs[j]? = some (.slice (some ⟨b, off, none⟩) (q + 1) cap)) (hq : (lineOf m j).length = q + 1) :
    ∀ v', v' = .slice (some ⟨b, off + q, none⟩) 1 (cap - q) → LI w g gm m5 (vs.set j v') (half (j + 1) (lineOf m5) (lineOf m)) (wr.setCell ⟨gm, j, none⟩ v') := by
  intro v' hv'
  have e0 : half j (lineOf m5) (lineOf m) j = lineOf m j := half_len hj
  have hc := h.may.cut (i := j) (by rw [e0, hq]; exact hv) (by rw [e0, hq]; omega) (v' := v') (by rw [e0, hq, hv']; rfl)
  rw [e0, he] at hc
  exact ⟨own_may h.d h.may.blk _, hc.congr half_step, h.bel.setCell (p := ⟨gm, j, none⟩) h.may.low _⟩
/-- a line's headers -/
theorem li_line {w wr : World} {g gm i b off cap n : Nat} {m : DS} {vs : List Value} {ls : Nat → List (List Int)} (h : LI w g gm m vs ls wr) (hv : vs[i]? = some (.slice (some ⟨b, off, none⟩) n cap)) (hl : (ls i).length = n) (hn : 0 < n) :
    ∃ cur hs, Row wr b 22 cur ∧ off + cap ≤ cur.length ∧ (cur.drop off).take n = hs ∧ Hds wr hs (ls i) ∧ w.heap.size ≤ b ∧ n ≤ cap ∧ cap ≤ maxLen := by
  obtain ⟨b', off', cap', cur, hs, e, a1, a2, a3, a4, a5, a6, a7⟩ := (h.may.line i _ hv).open (by omega)
  injection e with e1 e2 e3
  injection e1 with e1
  injection e1 with e1 e4 e5
  subst e1; subst e4; subst e3
  rw [hl] at a1 a6
  exact ⟨cur, hs, a4, a5, a6, a7, a3, a1, a2⟩
theorem step_more {ops : Array Oper} {o : Oper} {a : Act} {K : Act → World → Prop} {Q : Exit → Act → World → Prop} {E : Prop} {w w6 : World} {g gm i b off cap n gb gc : Nat} {m : DS} {vs : List Value} {ls : Nat → List (List Int)} {l : List Int}
    (h : LI w g gm m vs ls w6) (hv : vs[i]? = some (.slice (some ⟨b, off, none⟩) n cap)) (hl : (ls i).length = n) (hn0 : 0 < n) (hn : n + 1 ≤ 1000) (hi : i < 8) (hhd : Hd w6 (.slice (some ⟨gb, 0, none⟩) 64 gc) l)
    (hgd : o.guard = none) (s x : Operand) (ho : o.op = Op.call { callee := Callee.builtin Builtin.append, args := #[s, x], argTypes := #[39, 39] })
    (he : a.eval s = .slice (some ⟨b, off, none⟩) n cap) (hx : a.eval x = .slice (some ⟨w6.heap.size, 0, none⟩) 1 1)
    (hK : ∀ v' w7, (∃ b' o' c', v' = .slice (some ⟨b', o', none⟩) (n + 1) c') → (∃ u, w7.cell? ⟨gm, i, none⟩ = some u) → w7.frozen? ⟨gm, i, none⟩ = false → LI w g gm m (vs.set i v') (upd ls i (ls i ++ [l])) (w7.setCell ⟨gm, i, none⟩ v') → K (a.put o.dst v') w7) :
    if Region.wanted o (yielded ops a.tmps) = true then Oper.wp Try.prog o a (w6.alloc (.cells #[.slice (some ⟨gb, 0, none⟩) 64 gc] 22)) K Q else E := by
  have h2 := h.alloc (.cells #[.slice (some ⟨gb, 0, none⟩) 64 gc] 22)
  obtain ⟨cur, hs, r1, r2, r3, r4, r5, r6, r7⟩ := li_line h2 hv hl hn0
  have hc : (w6.alloc (.cells #[.slice (some ⟨gb, 0, none⟩) 64 gc] 22)).cell? ⟨w6.heap.size, 0, none⟩ = some (.slice (some ⟨gb, 0, none⟩) 64 gc) := (Row.new w6 22 #[.slice (some ⟨gb, 0, none⟩) 64 gc]).cell 0
  refine step_line hgd s x ho he hn r7 r1 r2 r6 r3 hx hc rfl fun v' w7 ha => ?_
  have k : ∀ {t : TypeId} {k : Nat} {xs : List Value}, Row (w6.alloc (.cells #[.slice (some ⟨gb, 0, none⟩) 64 gc] 22)) k t xs → t ≠ 22 → Row w7 k t xs := fun hr ht => ha.kept _ _ _ hr (hr.ne r1 ht)
  have hb := k h2.may.blk (by decide)
  obtain ⟨u, hu, hcu, _⟩ := h2.may.get hi
  have hm := h2.may.more hv ha ⟨cur, r1⟩ r4 (by rw [r4.1, hl]) r5 h2.bel.size (hhd.row fun b cur hr => hr.alloc _)
  refine hK v' w7 (by obtain ⟨b', o', c', _, e, _⟩ := ha.row; exact ⟨b', o', c', e⟩) ⟨u, by rw [hb.cell]; exact hu⟩ (hb.frozen i) ⟨?_, hm, (ha.bel h2.bel r5).setCell (p := ⟨gm, i, none⟩) h.may.low _⟩
  exact own_may (own_other h2.d (fun k' t xs hk ht => k hk (dt ht).2) (ha.bel (Below.refl 0 _) (Nat.zero_le _)).size) hb v'
theorem fill_hd (by_ : Int) (w : World) (h0 : 0 ≤ by_) (h1 : by_ ≤ 255) : Calls Try.prog 26 #[.int .u8 by_, .bool false] w fun e w' =>
    ∃ g cap, e = .returned (.slice (some ⟨g, 0, none⟩) 64 cap) ∧ Hd w' (.slice (some ⟨g, 0, none⟩) 64 cap) (fillL by_ 64) ∧ Below w.heap.size w w' := by
  refine (fill_any by_ false w h0 h1).mono fun e w' ⟨g, cap, e1, e2, e3⟩ => ⟨g, cap, e1, ?_, e3⟩
  obtain ⟨a1, a2⟩ := e2
  rcases a2 with ⟨a2, _⟩ | ⟨g', cap', cur, e, b1, b2, b3, b4, b5, b6⟩
  · cases a2
  · injection e with e4 e5 e6
    injection e4 with e4
    injection e4 with e4 e7 e8
    subst e4; subst e6
    exact ⟨g, cap, cur.toList, rfl, b2, by simpa [longN] using b6⟩
theorem upd_put {m : DS} {i : Nat} {b : List Int} : ∀ j, j < 8 → lineOf (m.put i b) j = upd (lineOf m) i (lineOf m i ++ [b]) j := by
  intro j _
  rw [line_write]
  simp only [upd]
  by_cases h : j = i
  · subst h; simp
  · simp [h]
theorem mem_step {nw : List Int} {l : List (List Int)} {p : Nat} (hp : p < l.length) : decide (nw ∈ l.take (p + 1)) = (decide (nw ∈ l.take p) || decide (nw = l[p])) := by
  rw [← Bool.decide_or, decide_eq_decide, List.take_succ_eq_append_getElem hp]
  exact List.mem_append.trans (or_congr Iff.rfl List.mem_singleton)

set_option maxRecDepth 100000 in
set_option maxHeartbeats 8000000 in
theorem walk (w : World) (A : Option Addr) (c : Nat) (l : List ActD) (hm : l.length ≤ maxLen) (hs : Sl w w.heap.size 5 A l.length (actsCells l)) (hok : ∀ a ∈ l, a.Ok) (keep : Int) (wk : (Lit.int .u64 keep).wf = true) :
    Calls Try.prog 5 #[.slice A l.length c, .int .u64 keep] w fun e w' => e = .returned (.bool true) ∧ Below w.heap.size w w' := by
  obtain ⟨kp0, kp1⟩ := u64_of wk
  have HKP := Lib.hid (And.intro kp0 kp1)
  have HS := Lib.hid hs
  have HOK := Lib.hid hok
  clear wk hs hok kp0 kp1
  unfold maxLen at hm
  have hmk := make64
  by_cases hlen : 100 < l.length
  · have b1 : (100 : Int) < (l.length : Int) := by omega
    go_enter Try.func5, Try.ntmps5
    go_wp2_with (fail)
    refine (wakes _).mono ?_; rintro e w1 ⟨rfl, hb1⟩; have HB1 := Lib.hid hb1; clear hb1
    go_wp2_with (fail)
    go_ret
    exact ⟨rfl, HB1.out⟩
  · have hn2 : l.length ≤ 100 := by omega
    have b1 : ¬ (100 : Int) < (l.length : Int) := by omega
    go_enter Try.func5, Try.ntmps5
    go_wp2_with (fail)
    refine (wakes _).mono ?_; rintro e w1 ⟨rfl, hb1⟩; have HB1 := Lib.hid hb1; clear hb1
    go_wp2_with (fail)
    refine (own_new 8 w1 w.heap.size HB1.out.size).mono ?_; rintro e w2 ⟨g, rfl, hd, hb⟩
    have HI := Lib.hid (li_start hd (HB1.out.trans (hb.mono HB1.out.size))); clear hd hb
    go_wp2_with (fail)
    go_loopw [24] (fun i wr => ∃ (k : Nat) (vs : List Value), k ≤ 8 ∧ i = .int .i64 k ∧ LI w g w2.heap.size (DS.new 8) vs (half k (lineOf (DS.new 8)) nilL) wr) (fun i _ => 8 - (intOf i).toNat)
    case atStart => exact ⟨0, _, by omega, rfl, HI.out⟩
    case round =>
      obtain ⟨k, vs, hk, rfl, hi⟩ := hrel
      have HI := Lib.hid hi
      clear hi
      generalize hgm : w2.heap.size = gm at *
      by_cases hlt : k < 8
      · obtain ⟨v0, hv0, cv0, fv0, hx0⟩ := HI.out.may.get hlt
        have k1 : (k : Int) < 8 := by omega
        have k0 : (0 : Int) ≤ k := by omega
        go_wp2_with (fail)
        go_roundw
        case rel => exact ⟨k + 1, _, by omega, by go_num, li_new HI.out hlt⟩
        case measure => simp [intOf]; omega
      · have HJ := Lib.hid (show LI w g gm (DS.new 8) vs (lineOf (DS.new 8)) wr from by
          have e : k = 8 := by omega
          have h := HI.out
          rw [e] at h
          exact h.congr half_all)
        have k1 : ¬ (k : Int) < 8 := by omega
        have HPS := Lib.hid lp_start
        clear hmk
        go_wp2_with (fail)
        go_loopw [34] (fun i wr => ∃ (k : Nat) (m : DS) (vs : List Value), k ≤ l.length ∧ i = .int .i64 k ∧ LI w g gm m vs (lineOf m) wr ∧ LP k m) (fun i _ => l.length - (intOf i).toNat)
        case atStart => exact ⟨0, _, _, by omega, rfl, HJ.out, HPS.out⟩
        case round =>
          clear HI HJ HPS
          obtain ⟨k, m, vs, hk, rfl, hi, hp⟩ := hrel
          have HI := Lib.hid hi
          have HP := Lib.hid hp
          clear hi hp
          by_cases hlt : k < l.length
          · obtain ⟨b, off, rfl, a0, a1, a2, a3, a4⟩ := act_at HS.out HI.out.bel hlt
            have HO := Lib.hid (HOK.out _ (List.getElem_mem hlt))
            generalize hact : l[k] = a at *
            obtain ⟨kind, at_, by_, long, keep2⟩ := a
            simp only at a0 a1 a2 a3 a4
            clear hact
            have HROW := Lib.hid ((Row.new wr 42 #[.int .i64 kind, .int .i64 at_, .int .u8 by_, .bool long, .int .u64 keep2]))
            have HI2 := Lib.hid (fun o => HI.out.alloc o)
            have k6 : m.waits.length ≤ 1000000 := by have := HP.out.few; omega
            by_cases hkind : kind = 1
            · have bk : (kind == 1) = true := by simpa using hkind
              clear hkind
              have FL := Lib.hid (lp_flush HP.out)
              go_wp2_with (fail)
              refine (own_flush (HI2.out _).d (HI2.out _).bel.size k6).mono ?_
              rw [FL.out.1]
              rintro e w5 ⟨rfl, hd, hb, ht⟩
              have HI5 := Lib.hid (LI.mk hd ((HI2.out _).may.tkept ht) ((HI2.out _).bel.trans hb))
              have HI6 := Lib.hid (HI5.out.congr (half_none (f := lineOf (m.lay fun _ => true))))
              clear hd hb ht HI5
              have HP5 := Lib.hid FL.out.2
              have HM := Lib.hid HP.out
              generalize hm5 : (m.lay fun _ => true) = m5 at *
              have HM5 := Lib.hid hm5
              clear hm5 FL
              have HEQ := Lib.hid (fun j (hj : j < 8) => show (lineOf m j).drop ((lineOf m j).length - 1) = lineOf m5 j from by rw [← HM5.out]; exact line_flush (by rw [HM.out.eight]; exact hj))
              clear HM5
              go_wp2_with (fail)
              go_loopw [46] (fun i wr => ∃ (j : Nat) (vs : List Value), j ≤ 8 ∧ i = .int .i64 j ∧ LI w g gm m5 vs (half j (lineOf m5) (lineOf m)) wr) (fun i _ => 8 - (intOf i).toNat)
              case atStart => exact ⟨0, _, by omega, rfl, HI6.out⟩
              case round =>
                clear HI6
                obtain ⟨j, vsj, hj, rfl, hi⟩ := hrel
                have HIJ := Lib.hid hi
                clear hi
                by_cases hjl : j < 8
                · obtain ⟨vj, hvj, cvj, fvj, hxj⟩ := HIJ.out.may.get hjl
                  obtain ⟨bj, offj, capj, hvj2, hcap, hcapm⟩ := line_form (HIJ.out.may.line j vj hvj) (half_len hjl) (line_pos m j)
                  have hq : (lineOf m j).length ≤ 101 := line_few HM.out.few (by omega)
                  obtain ⟨q, hq2⟩ : ∃ q, (lineOf m j).length = q + 1 := ⟨(lineOf m j).length - 1, by have := line_pos m j; omega⟩
                  rw [hq2] at hvj2 hcap hq
                  subst hvj2
                  have HCUT := Lib.hid (li_cut HIJ.out hjl (HEQ.out j hjl) hvj hq2)
                  have HQ2 := Lib.hid hq2
                  have HVJ := Lib.hid hvj
                  clear hvj hq2
                  have j1 : (j : Int) < 8 := by omega
                  have j0 : (0 : Int) ≤ j := by omega
                  go_wp2_with (fail)
                  go_region
                  have HI8 := Lib.hid ((HCUT.out _ rfl).below (Below.refl _ _).drew)
                  go_wp2_with (fail)
                  go_roundw
                  case rel => exact ⟨j + 1, _, by omega, by go_num, HI8.out⟩
                  case measure => simp [intOf]; omega
                · have HI7 := Lib.hid (show LI w g gm m5 vsj (lineOf m5) wr from by
                    have e : j = 8 := by omega
                    have h := HIJ.out
                    rw [e] at h
                    exact h.congr half_all)
                  have j1 : ¬ (j : Int) < 8 := by omega
                  go_wp2_with (fail)
                  go_roundw
                  case rel => exact ⟨k + 1, m5, vsj, by omega, by go_num, HI7.out, HP5.out⟩
                  case measure => simp [intOf]; omega
            · have bk : (kind == 1) = false := by simpa using hkind
              clear hkind
              obtain ⟨i, hat, hi8⟩ : ∃ i : Nat, bits .and .i64 at_ 7 = (i : Int) ∧ i < 8 := ⟨(at_ % 8).toNat, by rw [and7]; omega, by omega⟩
              have HAT := Lib.hid (show (i : Int) = at_ % 8 from by rw [← hat, and7])
              have WR := Lib.hid (show m.write (i : Int) (fillL by_ 64) = (0, m.put i (fillL by_ 64)) ∧ LP (k + 1) (m.put i (fillL by_ 64)) from by
                have h := lp_write HP.out at_ by_
                rw [HAT.out]
                have e : (at_ % 8).toNat = i := by have := HAT.out; omega
                rw [e] at h
                exact h)
              obtain ⟨vj, hvj, cvj, fvj, hxj⟩ := HI.out.may.get hi8
              obtain ⟨bj, offj, capj, hvj2, hcap, hcapm⟩ := line_form (HI.out.may.line i vj hvj) rfl (line_pos m i)
              have hq : (lineOf m i).length ≤ 101 := line_few HP.out.few (by omega)
              obtain ⟨q, hq2⟩ : ∃ q, (lineOf m i).length = q := ⟨_, rfl⟩
              have hq0 : 0 < q := by rw [← hq2]; exact line_pos m i
              rw [hq2] at hvj2 hcap hq
              subst hvj2
              have HQ2 := Lib.hid hq2
              have HVJ := Lib.hid hvj
              clear hvj hq2 cvj fvj hxj
              have i1 : (i : Int) < 8 := by omega
              have i0 : (0 : Int) ≤ i := by omega
              have hwr : wr.heap.size ≠ gm := by have := HI.out.may.blk.lt; omega
              go_wp2_with (fail)
              refine (fill_hd by_ _ HO.out.by0 HO.out.by1).mono ?_; rintro e w4 ⟨gb, cap, rfl, hh, hb⟩
              have HI4 := Lib.hid ((HI2.out _).below hb); have HH4 := Lib.hid hh; have HW4 := Lib.hid (HROW.out.below hb HROW.out.lt); clear hh hb
              go_wp2_with (fail)
              obtain ⟨b', c', e', hsl⟩ := HH4.out.sl (fillL_len _ _)
              have hsl4 : Sl w4 w4.heap.size 1 (some ⟨gb, 0, none⟩) 64 ((fillL by_ 64).map (.int .u8)) := by
                injection e' with e1 e2 e3
                rw [e1]
                exact hsl
              refine (own_write HI4.out.d HI4.out.bel.size i _ 64 cap (fillL by_ 64) (fillL_len _ _) hsl4 k6).mono ?_
              rw [WR.out.1]
              rintro e w5 ⟨rfl, hd, hb, ht⟩
              have hi5 := LI.mk hd (HI4.out.may.tkept ht) (HI4.out.bel.trans hb)
              have HW5 := Lib.hid (ht _ _ _ HW4.out (by decide) (by decide) (by decide))
              obtain ⟨vj, hvj, cvj, fvj, hxj⟩ := hi5.may.get hi8
              have evj := hvj.symm.trans HVJ.out
              injection evj with evj
              subst evj
              have HI5 := Lib.hid (hi5.below (Below.refl _ _).drew)
              have HW5d := Lib.hid HW5.out.drew
              have cby : w5.cell? ⟨wr.heap.size, 2, none⟩ = some (.int .u8 by_) := HW5.out.cell 2
              clear hi5 hd hb ht hvj hsl4 hsl e'
              go_wp2_with (fail)
              go_region_law (first
                | (refine step_more HI6.out HVJ.out HQ2.out hq0 (by omega) hi8 HH6.out rfl (.tmp 71) (.tmp 75) rfl rfl rfl ?_; intro v7 w7 he7 hu7 fu7 hl7; obtain ⟨b7, o7, c7, rfl⟩ := he7; obtain ⟨u7, cu7⟩ := hu7; have HI7 := Lib.hid hl7; clear hl7)
                | (go_simp; refine (fill_hd by_ _ HO.out.by0 HO.out.by1).mono ?_; rintro e w6 ⟨gb6, cap6, rfl, hh, hb⟩; have HI6 := Lib.hid (HI5.out.below hb); have HH6 := Lib.hid hh; have hx6 : gm < w6.heap.size := HI6.out.may.blk.lt; have q1 : w6.cell? ⟨gm, i, none⟩ = some (.slice (some ⟨bj, offj, none⟩) q capj) := cell_below hb (by go_simp); clear hh hb; dsimp only))
              all_goals
                clear q1 cu7 fu7 hx6 fvj hxj cvj cby
                go_wp2_with (fail)
                go_roundw
                case rel => exact ⟨k + 1, m.put i (fillL by_ 64), _, by omega, by go_num, HI7.out.congr upd_put, WR.out.2⟩
                case measure => simp [intOf]; omega
          · have k6 : m.waits.length ≤ 1000000 := by have := HP.out.few; omega
            go_wp2_with (fail)
            refine (own_power HI.out.d HI.out.bel.size keep HKP.out.1 HKP.out.2 k6).mono ?_; rintro e w4 ⟨rfl, hd, hb, ht⟩
            have HI4 := Lib.hid (LI.mk hd (HI.out.may.tkept ht) (HI.out.bel.trans hb)); clear hd hb ht
            have HPI := Lib.hid (power_in m keep)
            have H8 := Lib.hid (show (m.power keep).secs.length = 8 from by
              show (layTo _ _ _ _).length = 8
              rw [layTo_len]; exact HP.out.eight)
            have HDN := Lib.hid (show (m.power keep).down = false from rfl)
            have HWT := Lib.hid (show (m.power keep).waits = [] from rfl)
            have HLN := Lib.hid (fun j (hj : j < 8) => line_64 HP.out.good (i := j) (by rw [HP.out.eight]; exact hj))
            have HFEW := Lib.hid HP.out.few
            clear k1
            generalize m.power keep = mp at *
            go_wp2_with (fail)
            go_loopw [82] (fun i wr => ∃ (j : Nat), j ≤ 8 ∧ i = .int .i64 j ∧ LI w g gm mp vs (lineOf m) wr) (fun i _ => 8 - (intOf i).toNat)
            case atStart => exact ⟨0, by omega, rfl, HI4.out⟩
            case round =>
              clear HI4 HI
              obtain ⟨j, hj, rfl, hi⟩ := hrel
              have HI := Lib.hid hi
              clear hi
              by_cases hjl : j < 8
              · have j1 : (j : Int) < 8 := by omega
                have j0 : (0 : Int) ≤ j := by omega
                go_wp2_with (fail)
                refine (own_read HI.out.d j j rfl (by rw [H8.out]; exact hjl) HDN.out (by rw [HWT.out]; decide)).mono ?_; rintro e w6 ⟨b6, rfl, hr, hd, hb⟩
                have HI6 := Lib.hid (HI.out.below hb); have HR6 := Lib.hid hr; clear hd hb hr
                obtain ⟨vj, hvj, cvj, fvj, hxj⟩ := HI6.out.may.get hjl
                obtain ⟨bj, offj, capj, hvj2, hcap, hcapm⟩ := line_form (HI6.out.may.line j vj hvj) rfl (line_pos m j)
                have hq : (lineOf m j).length ≤ 101 := line_few HFEW.out (by omega)
                have HIN := Lib.hid (HPI.out j)
                have HL64 := Lib.hid (HLN.out j hjl)
                obtain ⟨q, hq2⟩ : ∃ q, (lineOf m j).length = q := ⟨_, rfl⟩
                have hq0 : 0 < q := by rw [← hq2]; exact line_pos m j
                rw [hq2] at hvj2 hcap hq
                subst hvj2
                have HQ2 := Lib.hid hq2
                have HVJ := Lib.hid hvj
                have HNL := Lib.hid (HL64.out _ HIN.out)
                generalize hnow : mp.now j = nw at *
                clear hvj hq2 fvj hnow
                go_wp2_with (fail)
                go_loopw [95, 15] (fun i met wr => ∃ (p : Nat), p ≤ q ∧ i = .int .i64 p ∧ met = .bool (decide (nw ∈ (lineOf m j).take p)) ∧ LI w g gm mp vs (lineOf m) wr ∧ Row wr b6 5 (nw.map (.int .u8))) (fun i _ _ => q - (intOf i).toNat)
                case atStart => exact ⟨0, by omega, rfl, by simp, HI6.out, HR6.out⟩
                case round =>
                  obtain ⟨p, hp, rfl, rfl, hi, hr⟩ := hrel
                  have HI7 := Lib.hid hi
                  have HR7 := Lib.hid hr
                  clear hi hr HI6 HR6 cvj
                  by_cases hpl : p < q
                  · obtain ⟨cur, hs, r1, r2, r3, r4, r5, r6, r7⟩ := li_line HI7.out HVJ.out HQ2.out hq0
                    have hpl2 : p < (lineOf m j).length := by rw [HQ2.out]; exact hpl
                    obtain ⟨hv, e1, e2⟩ := r4.get hpl2
                    obtain ⟨bh, ch, rfl, hsl⟩ := e2.sl (HL64.out _ (List.getElem_mem _))
                    have hcell : wr.cell? ⟨bj, offj + p, none⟩ = some (.slice (some ⟨bh, 0, none⟩) 64 ch) := by
                      rw [r1.cell]
                      rw [← r3, List.getElem?_take_of_lt hpl, List.getElem?_drop] at e1
                      exact e1
                    have HSL := Lib.hid hsl
                    have HL := Lib.hid (HL64.out _ (List.getElem_mem hpl2))
                    have HST := Lib.hid (mem_step (nw := nw) hpl2)
                    have p1 : (p : Int) < (q : Int) := by omega
                    have p0 : (0 : Int) ≤ p := by omega
                    clear r1 r2 r3 r4 r5 r6 r7 e1 e2 hsl
                    generalize hd : decide (nw ∈ (lineOf m j).take p) = mt at *
                    generalize hsp : (lineOf m j)[p] = sp at *
                    clear hd hsp
                    cases mt with
                    | true =>
                      go_wp2_with (fail)
                      go_roundw
                      case rel => exact ⟨p + 1, by omega, by go_num, by rw [HST.out]; rfl, HI7.out, HR7.out⟩
                      case measure => simp [intOf]; omega
                    | false =>
                      go_wp2_with (fail)
                      refine (same_any nw sp _ _ 64 64 _ _ _ HNL.out.symm HL.out.symm (by omega) (by omega) (row_sl HR7.out HNL.out) HSL.out).mono ?_; rintro e w8 ⟨rfl, hb⟩
                      have HI8 := Lib.hid (HI7.out.below hb); have HR8 := Lib.hid (HR7.out.below hb HR7.out.lt); clear hb
                      go_wp2_with (fail)
                      go_roundw
                      case rel => exact ⟨p + 1, by omega, by go_num, by rw [HST.out]; simp, HI8.out, HR8.out⟩
                      case measure => simp [intOf]; omega
                  · have p1 : ¬ (p : Int) < (q : Int) := by omega
                    have hmt : decide (nw ∈ (lineOf m j).take p) = true := by
                      rw [List.take_of_length_le (by rw [HQ2.out]; omega)]
                      exact decide_eq_true HIN.out
                    have HMT := Lib.hid hmt
                    generalize decide (nw ∈ (lineOf m j).take p) = mt at *
                    clear hmt
                    obtain rfl := HMT.out
                    go_wp2_with (fail)
                    go_roundw
                    case rel => exact ⟨j + 1, by omega, by go_num, HI7.out⟩
                    case measure => simp [intOf]; omega
              · have j1 : ¬ (j : Int) < 8 := by omega
                go_wp2_with (fail)
                have w1' := own_waits HI.out.d
                rw [HWT.out] at w1'
                refine w1'.mono ?_; rintro e w' ⟨rfl, rfl⟩
                go_wp2_with (fail)
                go_ret
                exact ⟨rfl, HI.out.bel⟩

/-! ### the row: written by program -/
set_option maxRecDepth 100000 in
theorem lifted (os : Os) (started : os.Started) (H : Type) (enc : TypeId × Value → H) :
    ReturnsInHanded {} Try.checked os 5 .any (Rows.diskLastsSpec.pre6 enc Try.prog Try.f5 Rows.diskLastsRow.domain false) (Rows.diskLastsSpec.post enc Try.prog Try.f5 false true false false) := by
  refine returnsInHanded_of_change (C := Try.checked) Go.Proofs.Ytjncpincmkpdpaa.lift.own started (by kernel_rfl) Try.func5
    (ChangeSpec.witness6 (enc := enc) (C := Try.checked) false ⟨#[], #[.slice none 0 0, .int .u64 0], []⟩ 8 (by kernel_rfl) (by kernel_rfl) (by kernel_rfl) (by kernel_rfl)) ?_
  intro W base args ds gs before hval0 hW hcnd _
  have hval : ∀ (j : Nat) t v, Try.f5.params[j]? = some t → args[j]? = some v → Value.okWide Try.prog W .any base t v := hval0
  have hW' := hW
  obtain ⟨p, q, hA0, hV, rfl, hfz, hnd⟩ := hW
  have hA : DataW.TrodAll enc Try.prog W 0 (fun _ => true) true Try.f5.params.toList args.toList ds p := hA0
  have hAk := hA
  rw [Try.params5] at hA hval
  obtain ⟨v0, vs0, d0, ds0, p0, q0, hargs, rfl, rfl, h0, r0⟩ := trodAll_cons hA
  obtain ⟨v1, vs1, d1, ds1, p1, q1, rfl, rfl, rfl, h1, r1⟩ := trodAll_cons r0
  obtain ⟨rfl, rfl, rfl⟩ := trodAll_nil r1
  obtain rfl : args = #[v0, v1] := by cases args; simp_all
  obtain ⟨rfl, rfl⟩ := trodVars_none hV
  have hlt := hW'.lt
  obtain ⟨A1, c1, l1, rfl, hm1, hs1, ho1⟩ := arg_acts (hval 0 35 v0 rfl rfl) h0
  obtain ⟨a1, rfl, _, _, w1⟩ := open_int Try.underlying36 (hval 1 36 v1 rfl rfl) h1
  refine (walk W A1 c1 l1 hm1 hs1 ho1 a1 w1).mono fun e W' ⟨he, hg⟩ => ?_
  subst he
  exact ⟨_, rfl, Go.Proofs.Ytjncpincmkpdpaa.base.postBelow (pv := []) hW' (fun _ _ _ => (trodAll_cons_mk (shut_bool Try.underlying4 _) trodAll_mk0)) (fun sp hsp => Go.Proofs.Ytjncpincmkpdpaa.lift.args_stay Go.Proofs.Ytjncpincmkpdpaa.lift.laidOut hg _ _ _ _ (by kernel_rfl) hAk (fun x hx => hlt x (by simpa using hx)) (fun x hx => hsp x (by simpa using hx))) (fun _ _ => rfl) (by simp)
    hg (ok_one (by kernel_rfl) rfl (okWide_bool_mk Try.underlying4 _))⟩

theorem over : Rows.diskLastsRow.holds Try.pinned (OpenSpec.ofChange Rows.diskLastsSpec) :=
  OpenClaim.holds_of_wide 5 Try.f5 rfl rfl rfl rfl rfl rfl rfl ⟨rfl, rfl, rfl, rfl, rfl⟩ rfl rfl rfl rfl rfl (by kernel_rfl) Try.func5 (by kernel_rfl)
    (of_decide_eq_true (by kernel_rfl)) (by unfold Func.isWrapper; first | (rw [if_pos (by decide +kernel)]; kernel_rfl) | (rw [if_neg (by decide +kernel)]; exact ⟨rfl, rfl⟩))
    (fun os started H enc _ => lifted os started H enc)

/-- THE STATEMENT -/
theorem proved : Rows.DiskLastsSaid :=
  over
#print axioms proved
end Go.Proofs.Ytjncpincmkpdpaa.diskLasts
