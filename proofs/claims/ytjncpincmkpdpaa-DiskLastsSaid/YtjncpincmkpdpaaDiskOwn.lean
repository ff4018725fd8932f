/-
  PROVED HERE: a disk among a call's own blocks, its calls; longeronlaw04.wakes returns true and leaves memory as it was.
  CONDITIONS: no more than a million writes wait.
-/
import Derived.Test.YtjncpincmkpdpaaDiskFill
namespace Go.Proofs.Ytjncpincmkpdpaa.disk
set_option linter.unusedVariables false
open Go.RowKit Go.Proofs.Ytjncpincmkpdpaa.base Go.Proofs.Ytjncpincmkpdpaa.obj Go.Proofs.Ytjncpincmkpdpaa.mem Go.Proofs.Ytjncpincmkpdpaa.plan Go.Proofs.Ytjncpincmkpdpaa.same

/-- block g is the disk m, all of whose blocks are from B on -/
def DiskOwn (w : World) (B g : Nat) (m : DS) : Prop := ∃ F : Nat → Prop, DiskAt w F g m ∧ ∀ i, F i → B ≤ i ∧ i < w.heap.size
theorem DiskOwn.below {w w' : World} {B g : Nat} {m : DS} (h : DiskOwn w B g m) (k : Below w.heap.size w w') : DiskOwn w' B g m := by
  obtain ⟨F, h, hF⟩ := h
  exact ⟨F, h.below k, fun i hi => ⟨(hF i hi).1, by have := k.size; have := (hF i hi).2; omega⟩⟩
theorem own_step {w w' : World} {B g : Nat} {m : DS} {F : Nat → Prop} (hF : ∀ i, F i → B ≤ i ∧ i < w.heap.size) (hB : B ≤ w.heap.size) (h : DiskAt w' (More F w w') g m) (k : Kept F w w') : DiskOwn w' B g m ∧ Below B w w' := by
  refine ⟨⟨_, h, fun i hi => ?_⟩, k.below hB (fun i hi hh => by have := (hF i hh).1; omega)⟩
  have := k.size
  rcases hi with hi | hi
  · have := hF i hi; omega
  · omega
/-- blocks of other types than a disk's stay as they were -/
def TKept (w w' : World) : Prop := ∀ k t xs, Row w k t xs → t ≠ 117 → t ≠ 121 → t ≠ 123 → Row w' k t xs
theorem TKept.refl (w : World) : TKept w w := fun k t xs h _ _ _ => h
theorem TKept.trans {a b c : World} (h : TKept a b) (k : TKept b c) : TKept a c := fun i t xs hr h1 h2 h3 => k i t xs (h i t xs hr h1 h2 h3) h1 h2 h3
theorem TKept.below {w w' : World} (h : Below w.heap.size w w') : TKept w w' := fun k t xs hr _ _ _ => hr.below h hr.lt
theorem own_min {w : World} {F : Nat → Prop} {g : Nat} {m : DS} (h : DiskAt w F g m) : ∃ F0 : Nat → Prop, DiskAt w F0 g m ∧ (∀ i, F0 i → F i) ∧ ∀ k t xs, Row w k t xs → t ≠ 117 → t ≠ 121 → t ≠ 123 → ¬ F0 k := by
  obtain ⟨L, wv, h⟩ := h
  refine ⟨fun i => i = g ∨ i = L ∨ wv.ownBlock = some i, ⟨L, wv, h.good, h.blk, h.laid, h.own, .inl rfl, .inr (.inl rfl), fun k hk => .inr (.inr hk)⟩, ?_, ?_⟩
  · rintro i (rfl | rfl | hi)
    · exact h.fg
    · exact h.fl
    · exact h.fw i hi
  · rintro k t xs hr h1 h2 h3 (rfl | rfl | hi)
    · exact h1 (hr.uniq h.blk).1
    · exact h2 (hr.uniq h.laid).1
    · rcases h.own.2 with ⟨rfl, _⟩ | ⟨g', cap, cur, rfl, _, hg, _⟩
      · simp [Value.ownBlock] at hi
      · simp only [Value.ownBlock, Option.some.injEq] at hi
        subst hi
        unfold Row at hr
        rw [hg] at hr
        injection hr with hr
        injection hr with _ h4
        exact h3 h4.symm
theorem own_t {w w' : World} {F : Nat → Prop} (k : Kept F w w') (h : ∀ k t xs, Row w k t xs → t ≠ 117 → t ≠ 121 → t ≠ 123 → ¬ F k) : TKept w w' :=
  fun i t xs hr h1 h2 h3 => hr.kept k (h i t xs hr h1 h2 h3)
theorem own_new (n : Int) (w : World) (B : Nat) (hB : B ≤ w.heap.size) : Calls Try.prog 23 #[.int .i64 n] w fun e w' => ∃ g, e = .returned (.pointer (some ⟨g, 0, none⟩)) ∧ DiskOwn w' B g (DS.new (clampN n)) ∧ Below w.heap.size w w' :=
  (new_any n w).mono fun e w' ⟨g, h1, h2, h3, h4⟩ => ⟨g, h1, ⟨_, h3, fun i hi => by
    rcases hi with hi | hi
    · exact hi.elim
    · exact ⟨by omega, hi.2⟩⟩, h4⟩
theorem own_write {w : World} {B g : Nat} {m : DS} (h : DiskOwn w B g m) (hB : B ≤ w.heap.size) (i : Int) (A : Option Addr) (n c : Nat) (bs : List Int) (hn : bs.length = n) (hs : Sl w w.heap.size 1 A n (bs.map (.int .u8))) (hwl : m.waits.length ≤ 1000000) :
    Calls Try.prog 25 #[.pointer (some ⟨g, 0, none⟩), .int .i64 i, .slice A n c] w fun e w' => e = .returned (.int .i64 (m.write i bs).1) ∧ DiskOwn w' B g (m.write i bs).2 ∧ Below B w w' ∧ TKept w w' := by
  obtain ⟨F, h, hF⟩ := h
  obtain ⟨F0, ⟨L, wv, h⟩, hm, ht⟩ := own_min h
  subst hn
  exact (write_at h i A c bs hs hwl).mono fun e w' ⟨h1, h2, h3⟩ => ⟨h1, (own_step (fun i hi => hF i (hm i hi)) hB h2 h3).1, (own_step (fun i hi => hF i (hm i hi)) hB h2 h3).2, own_t h3 ht⟩
theorem own_flush {w : World} {B g : Nat} {m : DS} (h : DiskOwn w B g m) (hB : B ≤ w.heap.size) (hwl : m.waits.length ≤ 1000000) :
    Calls Try.prog 24 #[.pointer (some ⟨g, 0, none⟩)] w fun e w' => e = .returned (.int .i64 m.flush.1) ∧ DiskOwn w' B g m.flush.2 ∧ Below B w w' ∧ TKept w w' := by
  obtain ⟨F, h, hF⟩ := h
  obtain ⟨F0, h, hm, ht⟩ := own_min h
  exact (flush_at h hwl).mono fun e w' ⟨h1, h2, h3⟩ => ⟨h1, (own_step (fun i hi => hF i (hm i hi)) hB (h2.more more_self) h3).1, (own_step (fun i hi => hF i (hm i hi)) hB (h2.more more_self) h3).2, own_t h3 ht⟩
theorem own_power {w : World} {B g : Nat} {m : DS} (h : DiskOwn w B g m) (hB : B ≤ w.heap.size) (keep : Int) (hk0 : 0 ≤ keep) (hk1 : keep ≤ 18446744073709551615) (hwl : m.waits.length ≤ 1000000) :
    Calls Try.prog 27 #[.pointer (some ⟨g, 0, none⟩), .int .u64 keep] w fun e w' => e = .returned (.tuple #[]) ∧ DiskOwn w' B g (m.power keep) ∧ Below B w w' ∧ TKept w w' := by
  obtain ⟨F, h, hF⟩ := h
  obtain ⟨F0, h, hm, ht⟩ := own_min h
  exact (power_at h keep (fun i hi => (hF i (hm i hi)).2) hk0 hk1 hwl).mono fun e w' ⟨h1, h2, h3⟩ => ⟨h1, (own_step (fun i hi => hF i (hm i hi)) hB (h2.more more_self) h3).1, (own_step (fun i hi => hF i (hm i hi)) hB (h2.more more_self) h3).2, own_t h3 ht⟩
theorem own_fuse {w : World} {B g : Nat} {m : DS} (h : DiskOwn w B g m) (hB : B ≤ w.heap.size) (n : Int) (hn : n ≤ 9223372036854775807) :
    Calls Try.prog 31 #[.pointer (some ⟨g, 0, none⟩), .int .i64 n] w fun e w' => e = .returned (.tuple #[]) ∧ DiskOwn w' B g (m.setFuse n) ∧ Below B w w' ∧ TKept w w' := by
  obtain ⟨F, h, hF⟩ := h
  obtain ⟨F0, ⟨L, wv, h⟩, hm, ht⟩ := own_min h
  exact (fuse_at h n hn).mono fun e w' ⟨h1, h2, h3⟩ => ⟨h1, (own_step (fun i hi => hF i (hm i hi)) hB (DiskAt.more ⟨L, wv, h2⟩ more_self) (kept_of_one h3 h.fg)).1, (own_step (fun i hi => hF i (hm i hi)) hB (DiskAt.more ⟨L, wv, h2⟩ more_self) (kept_of_one h3 h.fg)).2, own_t (kept_of_one h3 h.fg) ht⟩
theorem own_read {w : World} {B g : Nat} {m : DS} (h : DiskOwn w B g m) (i : Int) (n : Nat) (hi : i = n) (hn : n < m.secs.length) (hd : m.down = false) (hwl : m.waits.length ≤ 1000000) :
    Calls Try.prog 28 #[.pointer (some ⟨g, 0, none⟩), .int .i64 i] w fun e w' => ∃ b, e = .returned (.tuple #[.slice (some ⟨b, 0, none⟩) 64 64, .int .i64 0]) ∧ Row w' b 5 ((m.now n).map (.int .u8)) ∧ DiskOwn w' B g m ∧ Below w.heap.size w w' := by
  have hh := h
  obtain ⟨F, ⟨L, wv, h⟩, hF⟩ := h
  subst hi
  exact (read_yes h n hn hd hwl).mono fun e w' ⟨b, h1, h2, h3, h4⟩ => ⟨b, h1, h3, hh.below h4, h4⟩
theorem own_good {w : World} {B g : Nat} {m : DS} (h : DiskOwn w B g m) : m.Good := by
  obtain ⟨F, ⟨L, wv, h⟩, hF⟩ := h
  exact h.good
theorem own_down {w : World} {B g : Nat} {m : DS} (h : DiskOwn w B g m) : Calls Try.prog 32 #[.pointer (some ⟨g, 0, none⟩)] w fun e w' => e = .returned (.bool m.down) ∧ w = w' := by
  obtain ⟨F, ⟨L, wv, h⟩, hF⟩ := h
  exact down_at h
theorem own_waits {w : World} {B g : Nat} {m : DS} (h : DiskOwn w B g m) : Calls Try.prog 30 #[.pointer (some ⟨g, 0, none⟩)] w fun e w' => e = .returned (.int .i64 m.waits.length) ∧ w = w' := by
  obtain ⟨F, ⟨L, wv, h⟩, hF⟩ := h
  exact waits_at h
theorem own_len {w : World} {B g : Nat} {m : DS} (h : DiskOwn w B g m) : Calls Try.prog 38 #[.pointer (some ⟨g, 0, none⟩)] w fun e w' => e = .returned (.int .i64 m.secs.length) ∧ w = w' := by
  obtain ⟨F, ⟨L, wv, h⟩, hF⟩ := h
  exact len_at h
/-- a slice over a block that is known whole -/
theorem row_sl {w : World} {b n : Nat} {t : TypeId} {l : List Int} (h : Row w b t (l.map (.int .u8))) (hl : l.length = n) : Sl w w.heap.size 1 (some ⟨b, 0, none⟩) n (l.map (.int .u8)) :=
  h.sl h.lt (by rw [Nat.mul_one, List.drop_zero, List.take_of_length_le (by simp [hl])]) (by simp [hl])
/-- fill, as others want it -/
theorem fill_short (b : Int) (w : World) (h0 : 0 ≤ b) (h1 : b ≤ 255) : Calls Try.prog 26 #[.int .u8 b, .bool false] w fun e w' =>
    ∃ g cap, e = .returned (.slice (some ⟨g, 0, none⟩) 64 cap) ∧ Sl w' w'.heap.size 1 (some ⟨g, 0, none⟩) 64 ((fillL b 64).map (.int .u8)) ∧ Below w.heap.size w w' :=
  (fill_any b false w h0 h1).mono fun e w' ⟨g, cap, h1, h2, h3⟩ => ⟨g, cap, h1, Sl.of_own h2, h3⟩

/-- two like slices are the same -/
theorem same_yes {xs : List Int} {A A' : Option Addr} {n c c' : Nat} {w : World} (hn : xs.length = n) (hn2 : n ≤ 1000000) (hs : Sl w w.heap.size 1 A n (xs.map (Value.int .u8))) (ht : Sl w w.heap.size 1 A' n (xs.map (Value.int .u8))) :
    Calls Try.prog 29 #[.slice A n c, .slice A' n c'] w fun e w' => e = .returned (.bool true) ∧ Below w.heap.size w w' :=
  (same_any xs xs A A' n n c c' w hn.symm hn.symm hn2 hn2 hs ht).mono fun e w' ⟨h1, h2⟩ => ⟨by rw [h1]; simp, h2⟩

def wk0 : DS := DS.new 2
def wk1 : DS := (wk0.write 1 (fillL 7 64)).2
def wk2 : DS := wk1.power 0
def wk3 : DS := (wk2.write 1 (fillL 7 64)).2
def wk4 : DS := wk3.power 1
set_option maxRecDepth 100000 in
theorem wk_facts : (wk1.waits.length ≤ 1000000 ∧ wk3.waits.length ≤ 1000000) ∧ (wk2.down = false ∧ wk4.down = false) ∧ (1 < wk2.secs.length ∧ 1 < wk4.secs.length) ∧ wk2.now 1 = zeroSec ∧ wk4.now 1 = fillL 7 64 ∧ wk2.waits.length ≤ 1000000 ∧ wk4.waits.length ≤ 1000000 := by
  decide +kernel
theorem zero_row (w : World) : Row (w.alloc (.cells zSec 5)) w.heap.size 5 (zeroSec.map (.int .u8)) := Row.new w 5 zSec

set_option maxRecDepth 100000 in
set_option maxHeartbeats 4000000 in
theorem wakes (w : World) : Calls Try.prog 22 #[] w fun e w' => e = .returned (.bool true) ∧ Below w.heap.size w w' := by
  have hmk := make64
  obtain ⟨⟨l1, l3⟩, ⟨d2, d4⟩, ⟨s2, s4⟩, n2, n4, l2, l4⟩ := wk_facts
  have HF := Lib.hid (show _ ∧ _ ∧ _ ∧ _ ∧ _ from ⟨d2, d4, n2, n4, trivial⟩)
  clear d2 d4 n2 n4
  go_enter Try.func22, Try.ntmps22
  go_wp2_with (fail)
  refine (own_new 2 w w.heap.size (Nat.le_refl _)).mono ?_; rintro e w1 ⟨g, rfl, hd, hb⟩
  have hd0 : DiskOwn w1 w.heap.size g wk0 := hd
  have HD := Lib.hid hd0; have HB := Lib.hid hb; clear hd hb hd0
  go_wp2_with (fail)
  refine (fill_short 7 w1 (by omega) (by omega)).mono ?_; rintro e w2 ⟨gb, cap, rfl, hs, hb⟩
  have HD2 := Lib.hid (HD.out.below hb); have HS := Lib.hid hs; have HB2 := Lib.hid (btrans HB.out hb); clear hs hb
  go_wp2_with (fail)
  refine (own_write HD2.out HB2.out.size 1 _ 64 _ (fillL 7 64) (fillL_len _ _) HS.out (by decide)).mono ?_; rintro e w3 ⟨rfl, hd, hb, _⟩
  have hd1 : DiskOwn w3 w.heap.size g wk1 := hd
  have HD3 := Lib.hid hd1; have HB3 := Lib.hid (HB2.out.trans hb); clear hd hb hd1
  go_wp2_with (fail)
  refine (own_power HD3.out HB3.out.size 0 (by omega) (by omega) l1).mono ?_; rintro e w4 ⟨rfl, hd, hb, _⟩
  have hd1 : DiskOwn w4 w.heap.size g wk2 := hd
  have HD4 := Lib.hid hd1; have HB4 := Lib.hid (HB3.out.trans hb); clear hd hb hd1
  go_wp2_with (fail)
  refine (own_read HD4.out 1 1 rfl s2 HF.out.1 l2).mono ?_; rintro e w5 ⟨b5, rfl, hr, hd, hb⟩
  rw [HF.out.2.2.1] at hr
  have HR5 := Lib.hid hr; have HD5 := Lib.hid hd; have HB5 := Lib.hid (HB4.out.trans (hb.mono HB4.out.size)); clear hr hd hb
  go_wp2_with (fail)
  refine (fill_short 7 w5 (by omega) (by omega)).mono ?_; rintro e w6 ⟨gb2, cap2, rfl, hs, hb⟩
  have HD6 := Lib.hid (HD5.out.below hb); have HS6 := Lib.hid hs; have HR6 := Lib.hid (HR5.out.below hb HR5.out.lt); have HB6 := Lib.hid (HB5.out.trans (hb.mono HB5.out.size)); clear hs hb
  go_wp2_with (fail)
  refine (own_write HD6.out HB6.out.size 1 _ 64 _ (fillL 7 64) (fillL_len _ _) HS6.out l2).mono ?_; rintro e w7 ⟨rfl, hd, hb, ht⟩
  have hd1 : DiskOwn w7 w.heap.size g wk3 := hd
  have HD7 := Lib.hid hd1; have HB7 := Lib.hid (HB6.out.trans hb); have HR7 := Lib.hid (ht _ _ _ HR6.out (by decide) (by decide) (by decide)); clear hd hb hd1 ht
  go_wp2_with (fail)
  refine (own_power HD7.out HB7.out.size 1 (by omega) (by omega) l3).mono ?_; rintro e w8 ⟨rfl, hd, hb, ht⟩
  have hd1 : DiskOwn w8 w.heap.size g wk4 := hd
  have HD8 := Lib.hid hd1; have HB8 := Lib.hid (HB7.out.trans hb); have HR8 := Lib.hid (ht _ _ _ HR7.out (by decide) (by decide) (by decide)); clear hd hb hd1 ht
  go_wp2_with (fail)
  refine (own_read HD8.out 1 1 rfl s4 HF.out.2.1 l4).mono ?_; rintro e w9 ⟨b9, rfl, hr, hd, hb⟩
  rw [HF.out.2.2.2.1] at hr
  have HS9 := Lib.hid hr; have HR9 := Lib.hid (HR8.out.below hb HR8.out.lt); have HB9 := Lib.hid (HB8.out.trans (hb.mono HB8.out.size)); clear hr hd hb
  go_wp2_with (fail)
  have z0 := zero_row w9
  have HZ := Lib.hid z0
  clear z0
  refine (same_yes (xs := zeroSec) (n := 64) rfl (by omega) (row_sl (HR9.out.alloc _) rfl) (row_sl HZ.out rfl)).mono ?_; rintro e w10 ⟨rfl, hb⟩
  have B1 : Below w.heap.size w (w9.alloc (.cells zSec 5)) := HB9.out.alloc HB9.out.size _
  have HB10 := Lib.hid (B1.trans (hb.mono B1.size)); have HS10 := Lib.hid ((HS9.out.alloc (.cells zSec 5)).below hb (HS9.out.alloc (.cells zSec 5)).lt); clear hb B1
  go_wp2_with (fail)
  refine (fill_short 7 w10 (by omega) (by omega)).mono ?_; rintro e w11 ⟨gb3, cap3, rfl, hs, hb⟩
  have HS11 := Lib.hid hs; have HR11 := Lib.hid (HS10.out.below hb HS10.out.lt); have HB11 := Lib.hid (HB10.out.trans (hb.mono HB10.out.size)); clear hs hb
  go_wp2_with (fail)
  refine (same_yes (xs := fillL 7 64) (n := 64) (fillL_len _ _) (by omega) (row_sl HR11.out (fillL_len _ _)) HS11.out).mono ?_; rintro e w12 ⟨rfl, hb⟩
  have HB12 := Lib.hid (HB11.out.trans (hb.mono HB11.out.size)); clear hb
  go_wp2_with (fail)
  go_ret
  exact ⟨rfl, HB12.out⟩

end Go.Proofs.Ytjncpincmkpdpaa.disk
