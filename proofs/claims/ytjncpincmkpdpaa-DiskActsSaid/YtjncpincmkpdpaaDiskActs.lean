/-
  PROVED HERE: for every int n and acts l, longeronlaw04.DiskActs(n, l) returns true and leaves memory as it was.
  CONDITIONS: none.
-/
import Derived.Test.YtjncpincmkpdpaaDiskAct
import Derived.Test.YtjncpincmkpdpaaDiskSame
import Derived.Test.YtjncpincmkpdpaaRefLay
import Derived.Test.YtjncpincmkpdpaaRefNew
namespace Go.Proofs.Ytjncpincmkpdpaa.diskActs
set_option linter.unusedVariables false
open Go.RowKit Go.ChangeShapes Go.WideShapes Go.ChangeAt Go.Deep Go.Joins Go.Proofs.Ytjncpincmkpdpaa.base Go.Proofs.Ytjncpincmkpdpaa.obj Go.Proofs.Ytjncpincmkpdpaa.mem Go.Proofs.Ytjncpincmkpdpaa.disk Go.Proofs.Ytjncpincmkpdpaa.refDisk

theorem own_base {w : World} {base base' : Nat} {e : TypeId} {size : Nat} {v : Value} {n : Nat} {xs : List Value} (h : w.ownsRow base e size v n xs) (hb : base' ≤ base) : w.ownsRow base' e size v n xs := by
  obtain ⟨h1, h2⟩ := h
  refine ⟨h1, ?_⟩
  rcases h2 with hz | ⟨g, cap, cur, rfl, hg, rest⟩
  · exact .inl hz
  · exact .inr ⟨g, cap, cur, rfl, Nat.le_trans hb hg, rest⟩
theorem ref_base {w : World} {B B' x : Nat} {m : DS} (h : RefOwn w B x m) (hb : B' ≤ B) : RefOwn w B' x m := by
  obtain ⟨vS, vA, vB, hS, hB, h⟩ := h
  exact ⟨vS, vA, vB, hS, hB, h.good, h.blk, Nat.le_trans hb h.low, own_base h.own1 hb, own_base h.own2 hb, own_base h.own3 hb, h.apart, h.hdS, h.hdB⟩
/-- bytes of another block laid anew -/
theorem own_u8 {w : World} {B g : Nat} {m : DS} (h : DiskOwn w B g m) {b : Nat} {cur : List Value} (hr : Row w b 5 cur) (k : Nat) (v : Value) : DiskOwn (w.setCell ⟨b, k, none⟩ v) B g m := by
  obtain ⟨F, ⟨L, wv, h⟩, hF⟩ := h
  have o : ∀ {t : TypeId} {i : Nat} {c : List Value}, Row w i t c → t ≠ 5 → Row (w.setCell ⟨b, k, none⟩ v) i t c := fun hq ht => hq.setCell_other (p := ⟨b, k, none⟩) (hq.ne hr ht) v
  exact ⟨F, ⟨L, wv, h.good, o h.blk (by decide), o h.laid (by decide), own_rows h.own fun i c hq => o hq (by decide), h.fg, h.fl, h.fw⟩, fun i hi => by simpa [World.setCell] using hF i hi⟩
theorem hds_u8 {w : World} {hs : List Value} {l : List (List Int)} (k : Hds w hs l) {b : Nat} (hav : ∀ h ∈ hs, h.ownBlock ≠ some b) (j : Nat) (v : Value) : Hds (w.setCell ⟨b, j, none⟩ v) hs l := by
  refine ⟨k.1, fun i h s h1 h2 => ?_⟩
  obtain ⟨b', c, cur, e, hr, hc⟩ := k.2 i h s h1 h2
  refine ⟨b', c, cur, e, hr.setCell_other (p := ⟨b, j, none⟩) (fun e2 => ?_) v, hc⟩
  refine hav h (List.mem_of_getElem? h1) ?_
  rw [e]
  simp only [Value.ownBlock]
  rw [show b' = b from e2]
theorem ref_u8 {w : World} {B x : Nat} {m : DS} {b : Nat} (h : RefAv w B x m (fun i => i = b)) {cur : List Value} (hr : Row w b 5 cur) (k : Nat) (v : Value) : RefOwn (w.setCell ⟨b, k, none⟩ v) B x m := by
  obtain ⟨vS, vA, vB, hS, hB, h, hav⟩ := h
  have o : ∀ {t : TypeId} {i : Nat} {c : List Value}, Row w i t c → t ≠ 5 → Row (w.setCell ⟨b, k, none⟩ v) i t c := fun hq ht => hq.setCell_other (p := ⟨b, k, none⟩) (hq.ne hr ht) v
  exact ⟨vS, vA, vB, hS, hB, h.good, o h.blk (by decide), h.low, own_rows h.own1 fun i c hq => o hq (by decide), own_rows h.own2 fun i c hq => o hq (by decide), own_rows h.own3 fun i c hq => o hq (by decide), h.apart,
    hds_u8 h.hdS (fun v hv e => hav v (List.mem_append.2 (.inl hv)) b e rfl) k v, hds_u8 h.hdB (fun v hv e => hav v (List.mem_append.2 (.inr hv)) b e rfl) k v⟩
theorem av_tkept {w w' : World} {B x : Nat} {m : DS} {N : Nat → Prop} (h : RefAv w B x m N) (k : TKept w w') : RefAv w' B x m N := by
  obtain ⟨vS, vA, vB, hS, hB, h, hav⟩ := h
  exact ⟨vS, vA, vB, hS, hB, h.rows (fun b cur hr => k _ _ _ hr (by decide) (by decide) (by decide)) (fun b cur hr => k _ _ _ hr (by decide) (by decide) (by decide)) (fun b cur hr => k _ _ _ hr (by decide) (by decide) (by decide)) (fun b cur hr => k _ _ _ hr (by decide) (by decide) (by decide)), hav⟩
theorem av_below {w w' : World} {B x : Nat} {m : DS} {N : Nat → Prop} (h : RefAv w B x m N) (k : Below w.heap.size w w') : RefAv w' B x m N := av_tkept h (TKept.below k)

structure Inv (w : World) (g x k : Nat) (m : DS) (wr : World) : Prop where
  pair : Pair wr w.heap.size g x m
  bel : Below w.heap.size w wr
  few : m.waits.length ≤ k
theorem Inv.below {w wr w' : World} {g x k : Nat} {m : DS} (h : Inv w g x k m wr) (hb : Below wr.heap.size wr w') : Inv w g x k m w' := ⟨h.pair.below hb, h.bel.trans (hb.mono h.bel.size), h.few⟩
theorem Inv.more {w wr : World} {g x k : Nat} {m : DS} (h : Inv w g x k m wr) : Inv w g x (k + 1) m wr := ⟨h.pair, h.bel, by have := h.few; omega⟩

/-- behind fill: its block is apart -/
structure Mid0 (w : World) (g x k gb cap : Nat) (by_ : Int) (long : Bool) (m : DS) (wr : World) : Prop where
  d : DiskOwn wr w.heap.size g m
  r : RefAv wr w.heap.size x m (fun i => i = gb)
  bel : Below w.heap.size w wr
  few : m.waits.length ≤ k
  low : w.heap.size ≤ gb
  b : wr.ownsRow w.heap.size 5 1 (.slice (some ⟨gb, 0, none⟩) (longN long) cap) (longN long) ((fillL by_ (longN long)).map (.int .u8))
theorem mid_fill {w wr : World} {g x k : Nat} {m : DS} (h : Inv w g x k m wr) (by_ : Int) (long : Bool) (h0 : 0 ≤ by_) (h1 : by_ ≤ 255) : Calls Try.prog 26 #[.int .u8 by_, .bool long] wr fun e w' =>
    ∃ gb cap, e = .returned (.slice (some ⟨gb, 0, none⟩) (longN long) cap) ∧ Mid0 w g x k gb cap by_ long m w' ∧ Below wr.heap.size wr w' := by
  refine (fill_any by_ long wr h0 h1).mono fun e w' ⟨gb, cap, h1, h2, h3⟩ => ⟨gb, cap, h1, ⟨h.pair.d.below h3, ?_, h.bel.trans (h3.mono h.bel.size), h.few, ?_, own_base h2 h.bel.size⟩, h3⟩
  · exact av_below (h.pair.r.av.mono fun i hi => by rw [hi]; exact (own_is h2 rfl).1) h3
  · exact Nat.le_trans h.bel.size (own_is h2 rfl).1
structure Mid1 (w : World) (g x k gb cap : Nat) (by_ : Int) (long : Bool) (m m' : DS) (wr : World) : Prop where
  d : DiskOwn wr w.heap.size g m'
  r : RefAv wr w.heap.size x m (fun i => i = gb)
  bel : Below w.heap.size w wr
  low : w.heap.size ≤ gb
  b : wr.ownsRow w.heap.size 5 1 (.slice (some ⟨gb, 0, none⟩) (longN long) cap) (longN long) ((fillL by_ (longN long)).map (.int .u8))
theorem mid_dwrite {w wr : World} {g x k gb cap : Nat} {by_ : Int} {long : Bool} {m : DS} (h : Mid0 w g x k gb cap by_ long m wr) (hk : k ≤ 1000000) (at_ : Int) :
    Calls Try.prog 25 #[.pointer (some ⟨g, 0, none⟩), .int .i64 at_, .slice (some ⟨gb, 0, none⟩) (longN long) cap] wr fun e w' => e = .returned (.int .i64 (m.write at_ (fillL by_ (longN long))).1) ∧
      Mid1 w g x k gb cap by_ long m (m.write at_ (fillL by_ (longN long))).2 w' ∧ TKept wr w' := by
  refine (own_write h.d h.bel.size at_ _ (longN long) cap (fillL by_ (longN long)) (fillL_len _ _) (Sl.of_own h.b) (by have := h.few; omega)).mono ?_
  rintro e w' ⟨h1, h2, h3, h4⟩
  exact ⟨h1, ⟨h2, av_tkept h.r h4, h.bel.trans h3, h.low, own_rows h.b fun b cur hr => h4 _ _ _ hr (by decide) (by decide) (by decide)⟩, h4⟩
structure Mid2 (w : World) (g x gb cap : Nat) (by_ : Int) (long : Bool) (m' : DS) (wr : World) : Prop where
  d : DiskOwn wr w.heap.size g m'
  r : RefAv wr w.heap.size x m' (fun i => i = gb)
  bel : Below w.heap.size w wr
  low : w.heap.size ≤ gb
  b : wr.ownsRow w.heap.size 5 1 (.slice (some ⟨gb, 0, none⟩) (longN long) cap) (longN long) ((fillL by_ (longN long)).map (.int .u8))
theorem mid_xwrite {w wr : World} {g x k gb cap : Nat} {by_ at_ : Int} {long : Bool} {m : DS} (hm : m.waits.length ≤ 1000000) (h : Mid1 w g x k gb cap by_ long m (m.write at_ (fillL by_ (longN long))).2 wr) :
    Calls Try.prog 34 #[.pointer (some ⟨x, 0, none⟩), .int .i64 at_, .slice (some ⟨gb, 0, none⟩) (longN long) cap] wr fun e w' => e = .returned (.int .i64 (m.write at_ (fillL by_ (longN long))).1) ∧
      Mid2 w g x gb cap by_ long (m.write at_ (fillL by_ (longN long))).2 w' ∧ RKept wr w' := by
  obtain ⟨hlo, cur, hr⟩ := own_is h.b (k := gb) rfl
  refine (refDisk.write_at h.r (fun i hi => by rw [hi]; exact hr.lt) h.bel.size at_ _ cap (longN long) (fillL by_ (longN long)) (fillL_len _ _) (Sl.of_own h.b) (fun b off e => ?_) hm).mono ?_
  · injection e with e
    injection e with e1 e2
    subst e1
    exact ⟨cur, hr⟩
  · rintro e w' ⟨h1, h2, h3, h4⟩
    exact ⟨h1, ⟨own_rkept h.d h4 h3.size, h2, h.bel.trans h3, h.low, own_rows h.b fun b cur hr => h4 _ _ _ hr (by decide) (by decide) (by decide)⟩, h4⟩
theorem mid_end {w wr : World} {g x k gb cap : Nat} {by_ : Int} {long : Bool} {m' : DS} (h : Mid2 w g x gb cap by_ long m' wr) (hk : m'.waits.length ≤ k) (v : Value) : Inv w g x k m' (wr.setCell ⟨gb, 0, none⟩ v) := by
  obtain ⟨hlo, cur, hr⟩ := own_is h.b (k := gb) rfl
  exact ⟨⟨own_u8 h.d hr 0 v, ref_u8 h.r hr 0 v⟩, h.bel.setCell (p := ⟨gb, 0, none⟩) h.low v, hk⟩
theorem mid_cell {w wr : World} {g x gb cap : Nat} {by_ : Int} {long : Bool} {m' : DS} (h : Mid2 w g x gb cap by_ long m' wr) : wr.cell? ⟨gb, 0, none⟩ = some (.int .u8 (by_ % 256)) ∧ wr.frozen? ⟨gb, 0, none⟩ = false ∧ (0 : Int) < (longN long : Int) := by
  have hl : 0 < longN long := by cases long <;> decide
  refine ⟨?_, h.b.frozenAt 0, by omega⟩
  rw [h.b.cellAt 0 (by omega)]
  rw [List.getElem?_map]
  have : (fillL by_ (longN long))[0]? = some (by_ % 256) := by
    unfold fillL
    rw [List.getElem?_map, List.getElem?_range hl]
    simp
  rw [this]
  rfl
theorem write_few {m : DS} {k : Nat} (h : m.waits.length ≤ k) (i : Int) (bs : List Int) : (m.write i bs).2.waits.length ≤ k + 1 := by
  unfold DS.write
  split
  · simp only; omega
  · split
    · simp only; omega
    · split
      · simp [DS.put, DS.burnt_waits]; omega
      · simp [DS.burnt_waits]; omega
theorem flush_few {m : DS} {k : Nat} (h : m.waits.length ≤ k) : m.flush.2.waits.length ≤ k := by
  unfold DS.flush
  split
  · simp [DS.lay]
  · simp [DS.burnt_waits]; omega

theorem i_dflush {w wr : World} {g x k : Nat} {m : DS} (h : Inv w g x k m wr) (hk : k ≤ 1000000) :
    Calls Try.prog 24 #[.pointer (some ⟨g, 0, none⟩)] wr fun e w' => e = .returned (.int .i64 m.flush.1) ∧ (DiskOwn w' w.heap.size g m.flush.2 ∧ RefOwn w' w.heap.size x m ∧ Below w.heap.size w w') := by
  refine (own_flush h.pair.d h.bel.size (by have := h.few; omega)).mono ?_
  rintro e w' ⟨h1, h2, h3, h4⟩
  exact ⟨h1, h2, h.pair.r.tkept h4, h.bel.trans h3⟩
theorem i_xflush {w wr : World} {g x k : Nat} {m : DS} (h : DiskOwn wr w.heap.size g m.flush.2 ∧ RefOwn wr w.heap.size x m ∧ Below w.heap.size w wr) (hm : m.waits.length ≤ k) (hk : k ≤ 1000000) :
    Calls Try.prog 35 #[.pointer (some ⟨x, 0, none⟩)] wr fun e w' => e = .returned (.int .i64 m.flush.1) ∧ Inv w g x k m.flush.2 w' := by
  obtain ⟨hd, hr, hb⟩ := h
  refine (refDisk.flush_at hr hb.size (by omega)).mono ?_
  rintro e w' ⟨h1, h2, h3, h4⟩
  exact ⟨h1, ⟨own_rkept hd h4 h3.size, h2⟩, hb.trans h3, flush_few hm⟩
theorem i_dpower {w wr : World} {g x k : Nat} {m : DS} (h : Inv w g x k m wr) (hk : k ≤ 1000000) (keep : Int) (hk0 : 0 ≤ keep) (hk1 : keep ≤ 18446744073709551615) :
    Calls Try.prog 27 #[.pointer (some ⟨g, 0, none⟩), .int .u64 keep] wr fun e w' => e = .returned (.tuple #[]) ∧ (DiskOwn w' w.heap.size g (m.power keep) ∧ RefOwn w' w.heap.size x m ∧ Below w.heap.size w w') ∧ TKept wr w' := by
  refine (own_power h.pair.d h.bel.size keep hk0 hk1 (by have := h.few; omega)).mono ?_
  rintro e w' ⟨h1, h2, h3, h4⟩
  exact ⟨h1, ⟨h2, h.pair.r.tkept h4, h.bel.trans h3⟩, h4⟩
theorem i_xlay {w wr : World} {g x k : Nat} {m : DS} {keep : Int} (h : DiskOwn wr w.heap.size g (m.power keep) ∧ RefOwn wr w.heap.size x m ∧ Below w.heap.size w wr) (hm : m.waits.length ≤ k) (hk : k ≤ 1000000) (hk0 : 0 ≤ keep) (hk1 : keep ≤ 18446744073709551615) :
    Calls Try.prog 36 #[.pointer (some ⟨x, 0, none⟩), .int .u64 keep, .bool false] wr fun e w' => e = .returned (.tuple #[]) ∧ (DiskOwn w' w.heap.size g (m.power keep) ∧ RefOwn w' w.heap.size x (m.lay (keeps keep)) ∧ Below w.heap.size w w') := by
  obtain ⟨hd, hr, hb⟩ := h
  refine (refDisk.lay_at hr hb.size keep false hk0 hk1 (by omega)).mono ?_
  rintro e w' ⟨h1, h2, h3, h4⟩
  have e1 : (fun i => keeps keep i || false) = keeps keep := by funext i; simp
  rw [e1] at h2
  exact ⟨h1, own_rkept hd h4 h3.size, h2, hb.trans h3⟩
/-- the reference's fuse and state laid anew -/
theorem ref_set {w : World} {B x : Nat} {m : DS} (h : RefOwn w B x m) (f : Int) (d : Bool) (hf : -1 ≤ f ∧ f ≤ 9223372036854775807) :
    RefOwn ((w.setCell ⟨x, 4, none⟩ (.bool d)).setCell ⟨x, 3, none⟩ (.int .i64 f)) B x { m with fuse := f, down := d } ∧ RKept w ((w.setCell ⟨x, 4, none⟩ (.bool d)).setCell ⟨x, 3, none⟩ (.int .i64 f)) := by
  obtain ⟨vS, vA, vB, hS, hB, h⟩ := h
  have s1 := h.set (m' := { m with down := d }) 4 (.bool d) rfl ⟨h.good.secs, h.good.waits, h.good.fuse0, h.good.fuse1, h.good.n0, h.good.n1⟩ rfl rfl
  have s2 := s1.set (m' := { m with fuse := f, down := d }) 3 (.int .i64 f) rfl ⟨h.good.secs, h.good.waits, hf.1, hf.2, h.good.n0, h.good.n1⟩ rfl rfl
  exact ⟨⟨vS, vA, vB, hS, hB, s2⟩, (rkept_set h 4 _).trans (rkept_set s1 3 _)⟩
theorem ref_setf {w : World} {B x : Nat} {m : DS} (h : RefOwn w B x m) (f : Int) (hf : -1 ≤ f ∧ f ≤ 9223372036854775807) :
    RefOwn (w.setCell ⟨x, 3, none⟩ (.int .i64 f)) B x { m with fuse := f } ∧ RKept w (w.setCell ⟨x, 3, none⟩ (.int .i64 f)) := by
  obtain ⟨vS, vA, vB, hS, hB, h⟩ := h
  have s1 := h.set (m' := { m with fuse := f }) 3 (.int .i64 f) rfl ⟨h.good.secs, h.good.waits, hf.1, hf.2, h.good.n0, h.good.n1⟩ rfl rfl
  exact ⟨⟨vS, vA, vB, hS, hB, s1⟩, rkept_set h 3 _⟩
theorem ref_cells {w : World} {B x : Nat} {m : DS} (h : RefOwn w B x m) : w.cell? ⟨x, 3, none⟩ = some (.int .i64 m.fuse) ∧ w.cell? ⟨x, 4, none⟩ = some (.bool m.down) ∧ w.frozen? ⟨x, 3, none⟩ = false ∧ w.frozen? ⟨x, 4, none⟩ = false ∧ B ≤ x ∧ x < w.heap.size := by
  obtain ⟨vS, vA, vB, hS, hB, h⟩ := h
  obtain ⟨_, _, _, c3, c4⟩ := h.read
  exact ⟨c3, c4, h.blk.frozen 3, h.blk.frozen 4, h.low, h.blk.lt⟩
theorem ref_len {w : World} {B x : Nat} {m : DS} (h : RefOwn w B x m) : ∃ A c, w.cell? ⟨x, 0, none⟩ = some (.slice A m.secs.length c) := by
  obtain ⟨vS, vA, vB, hS, hB, h⟩ := h
  obtain ⟨A, c, e, _⟩ := own_form h.own1
  refine ⟨A, c, ?_⟩
  rw [← e]
  exact h.blk.cell 0
theorem i_dfuse {w wr : World} {g x k : Nat} {m : DS} (h : Inv w g x k m wr) (n : Int) (hn : n ≤ 9223372036854775807) :
    Calls Try.prog 31 #[.pointer (some ⟨g, 0, none⟩), .int .i64 n] wr fun e w' => e = .returned (.tuple #[]) ∧ (DiskOwn w' w.heap.size g (m.setFuse n) ∧ RefOwn w' w.heap.size x m ∧ Below w.heap.size w w') ∧ TKept wr w' := by
  refine (own_fuse h.pair.d h.bel.size n hn).mono ?_
  rintro e w' ⟨h1, h2, h3, h4⟩
  exact ⟨h1, ⟨h2, h.pair.r.tkept h4, h.bel.trans h3⟩, h4⟩
theorem setFuse_few {m : DS} {k : Nat} (h : m.waits.length ≤ k) (n : Int) : (m.setFuse n).waits.length ≤ k := by
  unfold DS.setFuse; split <;> exact h

set_option maxRecDepth 100000 in
set_option maxHeartbeats 8000000 in
theorem walk (w : World) (n : Int) (wn : (Lit.int .i64 n).wf = true) (A : Option Addr) (c : Nat) (l : List ActD) (hm : l.length ≤ maxLen) (hs : Sl w w.heap.size 5 A l.length (actsCells l)) (hok : ∀ a ∈ l, a.Ok) :
    Calls Try.prog 8 #[.int .i64 n, .slice A l.length c] w fun e w' => e = .returned (.bool true) ∧ Below w.heap.size w w' := by
  have HS := Lib.hid hs
  have HOK := Lib.hid hok
  clear wn hs hok
  unfold maxLen at hm
  by_cases hlen : 100 < l.length
  · have b1 : (100 : Int) < (l.length : Int) := by omega
    go_enter Try.func8, Try.ntmps8
    go_wp2_with (fail)
    refine (wakes _).mono ?_; rintro e w1 ⟨rfl, hb1⟩; have HB1 := Lib.hid hb1; clear hb1
    go_wp2_with (fail)
    go_ret
    exact ⟨rfl, HB1.out⟩
  · have hn2 : l.length ≤ 100 := by omega
    have b1 : ¬ (100 : Int) < (l.length : Int) := by omega
    by_cases hmid : 10 < n ∧ n ≤ 128
    · obtain ⟨m1, m2⟩ := hmid
      go_enter Try.func8, Try.ntmps8
      go_wp2_with (fail)
      refine (wakes _).mono ?_; rintro e w1 ⟨rfl, hb1⟩; have HB1 := Lib.hid hb1; clear hb1
      go_wp2_with (fail)
      go_ret
      exact ⟨rfl, HB1.out⟩
    · have hcd : n ≤ 10 ∨ 128 < n := by omega
      clear hmid
      have hcl := clampN_bd n
      have HCL := Lib.hid hcl
      clear hcl
      rcases hcd with hcd | hcd
      all_goals
        go_enter Try.func8, Try.ntmps8
        go_wp2_with (fail)
        refine (wakes _).mono ?_; rintro e w1 ⟨rfl, hb1⟩; have HB1 := Lib.hid hb1; clear hb1
        go_wp2_with (fail)
        refine (own_new n w1 w.heap.size HB1.out.size).mono ?_; rintro e w2 ⟨g, rfl, hd, hb⟩
        have HD2 := Lib.hid hd; have HB2 := Lib.hid (HB1.out.trans (hb.mono HB1.out.size)); clear hd hb
        go_wp2_with (fail)
        refine (refDisk.new_any n w2).mono ?_; rintro e w3 ⟨rfl, hr, hb⟩
        have HI := Lib.hid (Inv.mk (k := 0) ⟨HD2.out.below hb, ref_base hr HB2.out.size⟩ (HB2.out.trans (hb.mono HB2.out.size)) (by simp [DS.new])); clear hr hb
        generalize w2.heap.size = x at *
        generalize DS.new (clampN n) = m0 at *
        clear HD2 HB2
        go_wp2_with (fail)
        go_loopw [31] (fun i wr => ∃ (k : Nat) (m : DS), k ≤ l.length ∧ i = .int .i64 k ∧ Inv w g x k m wr) (fun i _ => l.length - (intOf i).toNat)
        case atStart => exact ⟨0, _, by omega, rfl, HI.out⟩
        case round =>
          obtain ⟨k, m, hk, rfl, hi⟩ := hrel
          have HI := Lib.hid hi
          clear hi
          by_cases hlt : k < l.length
          · obtain ⟨b, off, rfl, a0, a1, a2, a3, a4⟩ := act_at HS.out HI.out.bel hlt
            have HO := Lib.hid (HOK.out _ (List.getElem_mem hlt))
            generalize hact : l[k] = a at *
            obtain ⟨kind, at_, by_, long, keep⟩ := a
            simp only at a0 a1 a2 a3 a4
            clear hact
            have HROW := Lib.hid (Row.new wr 42 #[.int .i64 kind, .int .i64 at_, .int .u8 by_, .bool long, .int .u64 keep])
            have HI3 := Lib.hid (fun o => HI.out.below ((Below.refl _ wr).alloc (Nat.le_refl _) o))
            have k6 : k ≤ 1000000 := by omega
            by_cases k0 : kind = 0
            · subst k0
              go_wp2_with (fail)
              refine (mid_fill (HI3.out _) by_ long HO.out.by0 HO.out.by1).mono ?_; rintro e w4 ⟨gb, cap, rfl, hm0, hb⟩
              have HM0 := Lib.hid hm0
              have HW4 := Lib.hid (HROW.out.below hb HROW.out.lt)
              have q1 : w4.cell? ⟨wr.heap.size, 1, none⟩ = some (.int .i64 at_) := HW4.out.cell 1
              clear hm0 hb
              have HM0d := Lib.hid (show Mid0 w g x k gb cap by_ long m w4.drew from ⟨HM0.out.d.below (Below.refl _ _).drew, av_below HM0.out.r (Below.refl _ _).drew, HM0.out.bel.drew, HM0.out.few, HM0.out.low, HM0.out.b⟩)
              have HFEW := Lib.hid (show m.waits.length ≤ 1000000 by have := HM0.out.few; omega)
              have HWF := Lib.hid (write_few HM0.out.few at_ (fillL by_ (longN long)))
              go_wp2_with (fail)
              go_region_held3 (fun w' => w'.cell? ⟨wr.heap.size, 1, none⟩ = some (.int .i64 at_)) (first | exact q1 | exact q2 | exact q3 | go_keep) (first
                | (go_at_call 25; refine (mid_dwrite HM0d.out k6 at_).mono ?_; rintro e w5 ⟨rfl, hi, ht⟩; have HM1 := Lib.hid hi; have HW5 := Lib.hid (ht _ _ _ HW4.out.drew (by decide) (by decide) (by decide)); have q2 : w5.cell? ⟨wr.heap.size, 1, none⟩ = some (.int .i64 at_) := HW5.out.cell 1; clear hi ht)
                | (go_at_call 34; refine (mid_xwrite HFEW.out HM1.out).mono ?_; rintro e w6 ⟨rfl, hi, ht⟩; have HM2 := Lib.hid hi; have HW6 := Lib.hid (ht _ _ _ HW5.out (by decide) (by decide) (by decide)); have q3 : w6.cell? ⟨wr.heap.size, 1, none⟩ = some (.int .i64 at_) := HW6.out.cell 1; clear hi ht))
              obtain ⟨e1, e2, e3⟩ := mid_cell HM2.out
              clear q1 q2 q3
              have IV0 := Lib.hid (fun v => mid_end (k := k + 1) HM2.out HWF.out v)
              go_wp2_with (fail)
              refine (same_at (IV0.out _).pair (by have := (IV0.out .nilIface).few; omega)).mono ?_; rintro e w9 ⟨rfl, hb⟩
              have HI9 := Lib.hid ((IV0.out _).below hb); clear hb
              go_wp2_with (fail)
              go_roundw
              case rel => exact ⟨k + 1, _, by omega, by go_num, HI9.out⟩
              case measure => simp [intOf]; omega
            · have b0 : (kind == 0) = false := by simpa using k0
              by_cases k1 : kind = 1
              · subst k1
                clear k0 b0
                go_wp2_with (fail)
                refine (i_dflush (HI3.out _) k6).mono ?_; rintro e w4 ⟨rfl, hh⟩
                have HH := Lib.hid hh; clear hh
                go_wp2_with (fail)
                refine (i_xflush HH.out HI.out.few k6).mono ?_; rintro e w5 ⟨rfl, hh⟩
                have IV := Lib.hid hh.more; clear hh
                go_wp2_with (fail)
                refine (same_at IV.out.pair (by have := IV.out.few; omega)).mono ?_; rintro e w9 ⟨rfl, hb⟩
                have HI9 := Lib.hid (IV.out.below hb); clear hb
                go_wp2_with (fail)
                go_roundw
                case rel => exact ⟨k + 1, _, by omega, by go_num, HI9.out⟩
                case measure => simp [intOf]; omega
              · have b1' : (kind == 1) = false := by simpa using k1
                by_cases k2 : kind = 2
                · subst k2
                  clear k0 b0 k1 b1'
                  go_wp2_with (fail)
                  refine (i_dfuse (HI3.out _) at_ HO.out.at_.2).mono ?_; rintro e w4 ⟨rfl, hh, ht⟩
                  have HH := Lib.hid hh
                  have HW4 := Lib.hid (ht _ _ _ HROW.out (by decide) (by decide) (by decide))
                  have q1 : w4.cell? ⟨wr.heap.size, 1, none⟩ = some (.int .i64 at_) := HW4.out.cell 1
                  obtain ⟨r3, r4, f3, f4, rlo, rlt⟩ := ref_cells hh.2.1
                  clear hh ht
                  cases hdn : m.down
                  · rw [hdn] at r4
                    have RS := Lib.hid (ref_setf HH.out.2.1 (max at_ (-1)) (by have h1 : at_ ≤ 9223372036854775807 := HO.out.at_.2; omega))
                    have IV := Lib.hid (show Inv w g x (k + 1) (m.setFuse at_) (w4.setCell ⟨x, 3, none⟩ (.int .i64 (max at_ (-1)))) by
                      have e1 : m.setFuse at_ = { m with fuse := max at_ (-1) } := by simp [DS.setFuse, hdn]
                      refine ⟨⟨own_rkept HH.out.1 RS.out.2 (by simp), ?_⟩, HH.out.2.2.setCell (p := ⟨x, 3, none⟩) rlo _, setFuse_few (by have := HI.out.few; omega) _⟩
                      rw [e1]; exact RS.out.1)
                    clear hdn
                    go_wp2_with (fail)
                    refine (same_at IV.out.pair (by have := IV.out.few; omega)).mono ?_; rintro e w9 ⟨rfl, hb⟩
                    have HI9 := Lib.hid (IV.out.below hb); clear hb
                    go_wp2_with (fail)
                    go_roundw
                    case rel => exact ⟨k + 1, _, by omega, by go_num, HI9.out⟩
                    case measure => simp [intOf]; omega
                  · rw [hdn] at r4
                    have IV := Lib.hid (show Inv w g x (k + 1) (m.setFuse at_) w4 by
                      have e1 : m.setFuse at_ = m := by simp [DS.setFuse, hdn]
                      refine ⟨⟨HH.out.1, ?_⟩, HH.out.2.2, setFuse_few (by have := HI.out.few; omega) _⟩
                      rw [e1]; exact HH.out.2.1)
                    clear hdn
                    go_wp2_with (fail)
                    refine (same_at IV.out.pair (by have := IV.out.few; omega)).mono ?_; rintro e w9 ⟨rfl, hb⟩
                    have HI9 := Lib.hid (IV.out.below hb); clear hb
                    go_wp2_with (fail)
                    go_roundw
                    case rel => exact ⟨k + 1, _, by omega, by go_num, HI9.out⟩
                    case measure => simp [intOf]; omega
                · have b2' : (kind == 2) = false := by simpa using k2
                  by_cases k3 : kind = 3
                  · subst k3
                    clear k0 b0 k1 b1' k2 b2'
                    go_wp2_with (fail)
                    refine (i_dpower (HI3.out _) k6 keep HO.out.keep0 HO.out.keep1).mono ?_; rintro e w4 ⟨rfl, hh, ht⟩
                    have HH := Lib.hid hh
                    have HW4 := Lib.hid (ht _ _ _ HROW.out (by decide) (by decide) (by decide))
                    have q1 : w4.cell? ⟨wr.heap.size, 4, none⟩ = some (.int .u64 keep) := HW4.out.cell 4
                    clear hh ht
                    go_wp2_with (fail)
                    refine (i_xlay HH.out HI.out.few k6 HO.out.keep0 HO.out.keep1).mono ?_; rintro e w5 ⟨rfl, hh⟩
                    have HH5 := Lib.hid hh
                    obtain ⟨r3, r4, f3, f4, rlo, rlt⟩ := ref_cells hh.2.1
                    have RS := Lib.hid (ref_set HH5.out.2.1 (-1) false (by omega))
                    have IV := Lib.hid (show Inv w g x (k + 1) (m.power keep) ((w5.setCell ⟨x, 4, none⟩ (.bool false)).setCell ⟨x, 3, none⟩ (.int .i64 (-1))) from
                      ⟨⟨own_rkept HH5.out.1 RS.out.2 (by simp), RS.out.1⟩, (HH5.out.2.2.setCell (p := ⟨x, 4, none⟩) rlo _).setCell (p := ⟨x, 3, none⟩) rlo _, by simp [DS.power, DS.lay]⟩)
                    clear hh
                    go_wp2_with (fail)
                    refine (same_at IV.out.pair (by have := IV.out.few; omega)).mono ?_; rintro e w9 ⟨rfl, hb⟩
                    have HI9 := Lib.hid (IV.out.below hb); clear hb
                    go_wp2_with (fail)
                    go_roundw
                    case rel => exact ⟨k + 1, _, by omega, by go_num, HI9.out⟩
                    case measure => simp [intOf]; omega
                  · have b3' : (kind == 3) = false := by simpa using k3
                    have IV := Lib.hid (fun o => (HI3.out o).more)
                    clear k0 k1 k2 k3
                    go_wp2_with (fail)
                    refine (same_at (IV.out _).pair (by have := HI.out.few; omega)).mono ?_; rintro e w9 ⟨rfl, hb⟩
                    have HI9 := Lib.hid ((IV.out _).below hb); clear hb
                    go_wp2_with (fail)
                    go_roundw
                    case rel => exact ⟨k + 1, _, by omega, by go_num, HI9.out⟩
                    case measure => simp [intOf]; omega
          · obtain ⟨AR, cR, r0⟩ := ref_len HI.out.pair.r
            have hxl := (ref_cells HI.out.pair.r).2.2.2.2.2
            go_wp2_with (fail)
            refine (own_read_out HI.out.pair.d _ (.inr (Int.le_refl _)) (by have := HI.out.few; omega)).mono ?_; rintro e w4 ⟨rfl, hb⟩
            have HB4 := Lib.hid (HI.out.bel.trans (hb.mono HI.out.bel.size)); clear hb
            go_wp2_with (fail)
            go_ret
            exact ⟨rfl, HB4.out⟩

/-! ### the row: written by program -/
set_option maxRecDepth 100000 in
theorem lifted (os : Os) (started : os.Started) (H : Type) (enc : TypeId × Value → H) :
    ReturnsInHanded {} Try.checked os 8 .any (Rows.diskActsSpec.pre6 enc Try.prog Try.f8 Rows.diskActsRow.domain false) (Rows.diskActsSpec.post enc Try.prog Try.f8 false true false false) := by
  refine returnsInHanded_of_change (C := Try.checked) Go.Proofs.Ytjncpincmkpdpaa.lift.own started (by kernel_rfl) Try.func8
    (ChangeSpec.witness6 (enc := enc) (C := Try.checked) false ⟨#[], #[.int .i64 0, .slice none 0 0], []⟩ 8 (by kernel_rfl) (by kernel_rfl) (by kernel_rfl) (by kernel_rfl)) ?_
  intro W base args ds gs before hval0 hW hcnd _
  have hval : ∀ (j : Nat) t v, Try.f8.params[j]? = some t → args[j]? = some v → Value.okWide Try.prog W .any base t v := hval0
  have hW' := hW
  obtain ⟨p, q, hA0, hV, rfl, hfz, hnd⟩ := hW
  have hA : DataW.TrodAll enc Try.prog W 0 (fun _ => true) true Try.f8.params.toList args.toList ds p := hA0
  have hAk := hA
  rw [Try.params8] at hA hval
  obtain ⟨v0, vs0, d0, ds0, p0, q0, hargs, rfl, rfl, h0, r0⟩ := trodAll_cons hA
  obtain ⟨v1, vs1, d1, ds1, p1, q1, rfl, rfl, rfl, h1, r1⟩ := trodAll_cons r0
  obtain ⟨rfl, rfl, rfl⟩ := trodAll_nil r1
  obtain rfl : args = #[v0, v1] := by cases args; simp_all
  obtain ⟨rfl, rfl⟩ := trodVars_none hV
  have hlt := hW'.lt
  obtain ⟨a0, rfl, _, _, w0⟩ := open_int Try.underlying3 (hval 0 3 v0 rfl rfl) h0
  obtain ⟨A1, c1, l1, rfl, hm1, hs1, ho1⟩ := arg_acts (hval 1 35 v1 rfl rfl) h1
  refine (walk W a0 w0 A1 c1 l1 hm1 hs1 ho1).mono fun e W' ⟨he, hg⟩ => ?_
  subst he
  exact ⟨_, rfl, Go.Proofs.Ytjncpincmkpdpaa.base.postBelow (pv := []) hW' (fun _ _ _ => (trodAll_cons_mk (shut_bool Try.underlying4 _) trodAll_mk0)) (fun sp hsp => Go.Proofs.Ytjncpincmkpdpaa.lift.args_stay Go.Proofs.Ytjncpincmkpdpaa.lift.laidOut hg _ _ _ _ (by kernel_rfl) hAk (fun x hx => hlt x (by simpa using hx)) (fun x hx => hsp x (by simpa using hx))) (fun _ _ => rfl) (by simp)
    hg (ok_one (by kernel_rfl) rfl (okWide_bool_mk Try.underlying4 _))⟩

theorem over : Rows.diskActsRow.holds Try.pinned (OpenSpec.ofChange Rows.diskActsSpec) :=
  OpenClaim.holds_of_wide 8 Try.f8 rfl rfl rfl rfl rfl rfl rfl ⟨rfl, rfl, rfl, rfl, rfl⟩ rfl rfl rfl rfl rfl (by kernel_rfl) Try.func8 (by kernel_rfl)
    (of_decide_eq_true (by kernel_rfl)) (by unfold Func.isWrapper; first | (rw [if_pos (by decide +kernel)]; kernel_rfl) | (rw [if_neg (by decide +kernel)]; exact ⟨rfl, rfl⟩))
    (fun os started H enc _ => lifted os started H enc)

/-- THE STATEMENT -/
theorem proved : Rows.DiskActsSaid :=
  over
#print axioms proved
end Go.Proofs.Ytjncpincmkpdpaa.diskActs
