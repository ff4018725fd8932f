/-
  PROVED HERE: for every acts l, longeronlaw04.DiskAll(l) returns true and leaves memory as it was.
  CONDITIONS: none.
-/
import Derived.Test.YtjncpincmkpdpaaDiskAct
namespace Go.Proofs.Ytjncpincmkpdpaa.diskAll
set_option linter.unusedVariables false
open Go.RowKit Go.ChangeShapes Go.WideShapes Go.ChangeAt Go.Deep Go.Joins Go.Proofs.Ytjncpincmkpdpaa.base Go.Proofs.Ytjncpincmkpdpaa.obj Go.Proofs.Ytjncpincmkpdpaa.mem Go.Proofs.Ytjncpincmkpdpaa.disk

/-- two disks among a call's own blocks, apart -/
def Two (w : World) (B g1 : Nat) (m1 : DS) (g2 : Nat) (m2 : DS) : Prop :=
  ∃ F1 F2 : Nat → Prop, DiskAt w F1 g1 m1 ∧ DiskAt w F2 g2 m2 ∧ (∀ i, F1 i → ¬ F2 i) ∧ (∀ i, F1 i → B ≤ i ∧ i < w.heap.size) ∧ (∀ i, F2 i → B ≤ i ∧ i < w.heap.size)
theorem Two.swap {w : World} {B g1 g2 : Nat} {m1 m2 : DS} (h : Two w B g1 m1 g2 m2) : Two w B g2 m2 g1 m1 := by
  obtain ⟨F1, F2, h1, h2, h3, h4, h5⟩ := h
  exact ⟨F2, F1, h2, h1, fun i a b => h3 i b a, h5, h4⟩
theorem Two.below {w w' : World} {B g1 g2 : Nat} {m1 m2 : DS} (h : Two w B g1 m1 g2 m2) (k : Below w.heap.size w w') : Two w' B g1 m1 g2 m2 := by
  obtain ⟨F1, F2, h1, h2, h3, h4, h5⟩ := h
  have := k.size
  exact ⟨F1, F2, h1.below k, h2.below k, h3, fun i hi => ⟨(h4 i hi).1, by have := (h4 i hi).2; omega⟩, fun i hi => ⟨(h5 i hi).1, by have := (h5 i hi).2; omega⟩⟩
theorem Two.own1 {w : World} {B g1 g2 : Nat} {m1 m2 : DS} (h : Two w B g1 m1 g2 m2) : DiskOwn w B g1 m1 := by
  obtain ⟨F1, F2, h1, h2, h3, h4, h5⟩ := h
  exact ⟨F1, h1, h4⟩
theorem two_step {w w' : World} {B g1 g2 : Nat} {m1 m2 : DS} {F1 F2 : Nat → Prop} (h1 : DiskAt w' (More F1 w w') g1 m1) (hk : Kept F1 w w') (h2 : DiskAt w F2 g2 m2) (h3 : ∀ i, F1 i → ¬ F2 i) (h4 : ∀ i, F1 i → B ≤ i ∧ i < w.heap.size) (h5 : ∀ i, F2 i → B ≤ i ∧ i < w.heap.size) (hB : B ≤ w.heap.size) :
    Two w' B g1 m1 g2 m2 ∧ Below B w w' := by
  have hs := hk.size
  refine ⟨⟨_, F2, h1, h2.kept hk (fun i a b => h3 i b a), fun i hi hj => ?_, fun i hi => ?_, fun i hi => ?_⟩, hk.below hB (fun i hi hh => by have := (h4 i hh).1; omega)⟩
  · rcases hi with hi | hi
    · exact h3 i hi hj
    · have := (h5 i hj).2; omega
  · rcases hi with hi | hi
    · have := h4 i hi; omega
    · omega
  · have := h5 i hi; omega
theorem two_write {w : World} {B g1 g2 : Nat} {m1 m2 : DS} (h : Two w B g1 m1 g2 m2) (hB : B ≤ w.heap.size) (i : Int) (A : Option Addr) (n c : Nat) (bs : List Int) (hn : bs.length = n) (hs : Sl w w.heap.size 1 A n (bs.map (.int .u8))) (hwl : m1.waits.length ≤ 1000000) :
    Calls Try.prog 25 #[.pointer (some ⟨g1, 0, none⟩), .int .i64 i, .slice A n c] w fun e w' => e = .returned (.int .i64 (m1.write i bs).1) ∧ Two w' B g1 (m1.write i bs).2 g2 m2 ∧ Below B w w' ∧ TKept w w' := by
  obtain ⟨F1, F2, h1, h2, h3, h4, h5⟩ := h
  obtain ⟨F0, ⟨L, wv, h1⟩, hm, ht⟩ := own_min h1
  subst hn
  refine (write_at h1 i A c bs hs hwl).mono fun e w' ⟨e1, e2, e3⟩ => ?_
  obtain ⟨t1, t2⟩ := two_step e2 e3 h2 (fun i hi => h3 i (hm i hi)) (fun i hi => h4 i (hm i hi)) h5 hB
  exact ⟨e1, t1, t2, own_t e3 ht⟩
theorem two_flush {w : World} {B g1 g2 : Nat} {m1 m2 : DS} (h : Two w B g1 m1 g2 m2) (hB : B ≤ w.heap.size) (hwl : m1.waits.length ≤ 1000000) :
    Calls Try.prog 24 #[.pointer (some ⟨g1, 0, none⟩)] w fun e w' => e = .returned (.int .i64 m1.flush.1) ∧ Two w' B g1 m1.flush.2 g2 m2 ∧ Below B w w' := by
  obtain ⟨F1, F2, h1, h2, h3, h4, h5⟩ := h
  refine (flush_at h1 hwl).mono fun e w' ⟨e1, e2, e3⟩ => ?_
  obtain ⟨t1, t2⟩ := two_step (e2.more more_self) e3 h2 h3 h4 h5 hB
  exact ⟨e1, t1, t2⟩
theorem two_power {w : World} {B g1 g2 : Nat} {m1 m2 : DS} (h : Two w B g1 m1 g2 m2) (hB : B ≤ w.heap.size) (keep : Int) (hk0 : 0 ≤ keep) (hk1 : keep ≤ 18446744073709551615) (hwl : m1.waits.length ≤ 1000000) :
    Calls Try.prog 27 #[.pointer (some ⟨g1, 0, none⟩), .int .u64 keep] w fun e w' => e = .returned (.tuple #[]) ∧ Two w' B g1 (m1.power keep) g2 m2 ∧ Below B w w' := by
  obtain ⟨F1, F2, h1, h2, h3, h4, h5⟩ := h
  refine (power_at h1 keep (fun i hi => (h4 i hi).2) hk0 hk1 hwl).mono fun e w' ⟨e1, e2, e3⟩ => ?_
  obtain ⟨t1, t2⟩ := two_step (e2.more more_self) e3 h2 h3 h4 h5 hB
  exact ⟨e1, t1, t2⟩
theorem two_read {w : World} {B g1 g2 : Nat} {m1 m2 : DS} (h : Two w B g1 m1 g2 m2) (i : Int) (n : Nat) (hi : i = n) (hn : n < m1.secs.length) (hd : m1.down = false) (hwl : m1.waits.length ≤ 1000000) :
    Calls Try.prog 28 #[.pointer (some ⟨g1, 0, none⟩), .int .i64 i] w fun e w' => ∃ b, e = .returned (.tuple #[.slice (some ⟨b, 0, none⟩) 64 64, .int .i64 0]) ∧ Row w' b 5 ((m1.now n).map (.int .u8)) ∧ Two w' B g1 m1 g2 m2 ∧ Below w.heap.size w w' :=
  (own_read h.own1 i n hi hn hd hwl).mono fun e w' ⟨b, e1, e2, _, e4⟩ => ⟨b, e1, e2, h.below e4, e4⟩
theorem two_new {w : World} {B g1 : Nat} {m1 : DS} (h : DiskOwn w B g1 m1) (hB : B ≤ w.heap.size) (n : Int) : Calls Try.prog 23 #[.int .i64 n] w fun e w' => ∃ g, e = .returned (.pointer (some ⟨g, 0, none⟩)) ∧ Two w' B g1 m1 g (DS.new (clampN n)) ∧ Below w.heap.size w w' := by
  obtain ⟨F, h, hF⟩ := h
  refine (new_any n w).mono fun e w' ⟨g, h1, h2, h3, h4⟩ => ⟨g, h1, ⟨F, _, h.below h4, h3, fun i hi hj => ?_, fun i hi => ?_, fun i hi => ?_⟩, h4⟩
  · rcases hj with hj | hj
    · exact hj
    · have := (hF i hi).2; omega
  · have := h4.size; have := hF i hi; omega
  · rcases hi with hi | hi
    · exact hi.elim
    · omega

/-- what both are behind k writes -/
structure AP (k : Nat) (m : DS) : Prop where
  good : m.Good
  fuse : m.fuse = -1
  up : m.down = false
  four : m.secs.length = 4
  few : m.waits.length = k
theorem ap_start : AP 0 (DS.new 4) := ⟨DS.new_good (by omega) (by omega), rfl, rfl, rfl, rfl⟩
theorem ap_goes {k : Nat} {m : DS} (h : AP k m) : m.goes = true ∧ m.burnt = m := by
  unfold DS.goes DS.burnt
  rw [h.up, h.fuse]
  refine ⟨rfl, ?_⟩
  have h1 := h.fuse
  have h2 := h.up
  obtain ⟨s, wa, f, d⟩ := m
  simp only at h1 h2
  subst h1; subst h2
  rfl
theorem ap_write {k : Nat} {m : DS} (h : AP k m) (at_ by_ : Int) : AP (k + 1) (m.write (bits .and .i64 at_ 3) (fillL by_ 64)).2 := by
  rw [and3]
  have hw : m.write (at_ % 4) (fillL by_ 64) = (0, m.put (at_ % 4).toNat (fillL by_ 64)) := by
    unfold DS.write
    rw [if_neg (by rw [h.four]; omega), if_neg (by simp [fillL_len]), (ap_goes h).1, (ap_goes h).2]
    rfl
  rw [hw]
  exact ⟨DS.put_good h.good (by rw [h.four]; omega) (fillL_len _ _), h.fuse, h.up, h.four, by simp [DS.put, h.few]⟩
theorem layTo_congr {p q : Nat → Bool} {ws : List (Nat × List Int)} {s : List (List Int)} : ∀ k, (∀ i, i < k → p i = q i) → layTo p ws s k = layTo q ws s k
  | 0, _ => rfl
  | k + 1, h => by
    rw [layTo, layTo, layTo_congr k (fun i hi => h i (by omega)), h k (by omega)]
theorem keeps_all {i : Nat} (h : i < 64) : keeps 18446744073709551615 i = true := by
  have : ∀ j : Fin 64, keeps 18446744073709551615 j.val = true := by decide +kernel
  exact this ⟨i, h⟩
theorem ap_end {k : Nat} {m : DS} (h : AP k m) (hk : k ≤ 64) : m.flush.1 = 0 ∧ (m.power 18446744073709551615).secs = m.flush.2.secs ∧ m.flush.2.down = false ∧ m.flush.2.secs.length = 4 ∧ m.flush.2.waits = [] := by
  unfold DS.flush
  rw [(ap_goes h).1, (ap_goes h).2]
  refine ⟨rfl, ?_, h.up, ?_, rfl⟩
  · show layTo _ m.waits m.secs m.waits.length = layTo _ m.waits m.secs m.waits.length
    exact layTo_congr _ fun i hi => keeps_all (by rw [h.few] at hi; omega)
  · show (layTo _ _ _ _).length = 4
    rw [layTo_len]; exact h.four

structure AInv (w : World) (g1 g2 k : Nat) (m : DS) (wr : World) : Prop where
  two : Two wr w.heap.size g1 m g2 m
  bel : Below w.heap.size w wr
  ap : AP k m
theorem AInv.alloc {w wr : World} {g1 g2 k : Nat} {m : DS} (h : AInv w g1 g2 k m wr) (o : Obj) : AInv w g1 g2 k m (wr.alloc o).drew :=
  ⟨h.two.below ((Below.refl _ _).alloc (Nat.le_refl _) _).drew, (h.bel.alloc h.bel.size _).drew, h.ap⟩
structure AMid (w : World) (g1 g2 k : Nat) (m m' : DS) (wr : World) : Prop where
  two : Two wr w.heap.size g1 m' g2 m
  bel : Below w.heap.size w wr
theorem AMid.below {w wr w' : World} {g1 g2 k : Nat} {m m' : DS} (h : AMid w g1 g2 k m m' wr) (hb : Below wr.heap.size wr w') : AMid w g1 g2 k m m' w' := ⟨h.two.below hb, h.bel.trans (hb.mono h.bel.size)⟩
theorem AInv.below {w wr w' : World} {g1 g2 k : Nat} {m : DS} (h : AInv w g1 g2 k m wr) (hb : Below wr.heap.size wr w') : AInv w g1 g2 k m w' := ⟨h.two.below hb, h.bel.trans (hb.mono h.bel.size), h.ap⟩

theorem a_write1 {w wr : World} {g1 g2 k : Nat} {m : DS} (h : AInv w g1 g2 k m wr) (hk : k ≤ 64) (at_ : Int) (A : Option Addr) (c : Nat) (by_ : Int) (hs : Sl wr wr.heap.size 1 A 64 ((fillL by_ 64).map (.int .u8))) :
    Calls Try.prog 25 #[.pointer (some ⟨g1, 0, none⟩), .int .i64 (bits .and .i64 at_ 3), .slice A 64 c] wr fun e w' => (∃ r, e = .returned (.int .i64 r)) ∧ AMid w g1 g2 k m (m.write (bits .and .i64 at_ 3) (fillL by_ 64)).2 w' ∧ TKept wr w' := by
  refine (two_write h.two h.bel.size _ A 64 c _ (fillL_len _ _) hs (by rw [h.ap.few]; omega)).mono ?_
  rintro e w' ⟨h1, h2, h3, h4⟩
  exact ⟨⟨_, h1⟩, ⟨h2, h.bel.trans h3⟩, h4⟩
theorem a_write2 {w wr : World} {g1 g2 k : Nat} {m : DS} {at_ by_ : Int} (ap : AP k m) (h : AMid w g1 g2 k m (m.write (bits .and .i64 at_ 3) (fillL by_ 64)).2 wr) (hk : k ≤ 64) (A : Option Addr) (c : Nat) (hs : Sl wr wr.heap.size 1 A 64 ((fillL by_ 64).map (.int .u8))) :
    Calls Try.prog 25 #[.pointer (some ⟨g2, 0, none⟩), .int .i64 (bits .and .i64 at_ 3), .slice A 64 c] wr fun e w' => (∃ r, e = .returned (.int .i64 r)) ∧ AInv w g1 g2 (k + 1) (m.write (bits .and .i64 at_ 3) (fillL by_ 64)).2 w' ∧ TKept wr w' := by
  refine (two_write h.two.swap h.bel.size _ A 64 c _ (fillL_len _ _) hs (by rw [ap.few]; omega)).mono ?_
  rintro e w' ⟨h1, h2, h3, h4⟩
  exact ⟨⟨_, h1⟩, ⟨h2.swap, h.bel.trans h3, ap_write ap at_ by_⟩, h4⟩

set_option maxRecDepth 100000 in
set_option maxHeartbeats 4000000 in
theorem walk (w : World) (A : Option Addr) (c : Nat) (l : List ActD) (hm : l.length ≤ maxLen) (hs : Sl w w.heap.size 5 A l.length (actsCells l)) (hok : ∀ a ∈ l, a.Ok) :
    Calls Try.prog 7 #[.slice A l.length c] w fun e w' => e = .returned (.bool true) ∧ Below w.heap.size w w' := by
  have HS := Lib.hid hs
  have HOK := Lib.hid hok
  clear hs hok
  unfold maxLen at hm
  by_cases hlen : 64 < l.length
  · have b1 : (64 : Int) < (l.length : Int) := by omega
    go_enter Try.func7, Try.ntmps7
    go_wp2_with (fail)
    refine (wakes _).mono ?_; rintro e w1 ⟨rfl, hb1⟩; have HB1 := Lib.hid hb1; clear hb1
    go_wp2_with (fail)
    go_ret
    exact ⟨rfl, HB1.out⟩
  · have hn2 : l.length ≤ 64 := by omega
    have b1 : ¬ (64 : Int) < (l.length : Int) := by omega
    go_enter Try.func7, Try.ntmps7
    go_wp2_with (fail)
    refine (wakes _).mono ?_; rintro e w1 ⟨rfl, hb1⟩; have HB1 := Lib.hid hb1; clear hb1
    go_wp2_with (fail)
    refine (own_new 4 w1 w.heap.size HB1.out.size).mono ?_; rintro e w2 ⟨g1, rfl, hd, hb⟩
    have HD2 := Lib.hid hd; have HB2 := Lib.hid (HB1.out.trans (hb.mono HB1.out.size)); clear hd hb
    go_wp2_with (fail)
    refine (two_new HD2.out HB2.out.size 4).mono ?_; rintro e w3 ⟨g2, rfl, hd, hb⟩
    have HI := Lib.hid (AInv.mk hd (HB2.out.trans (hb.mono HB2.out.size)) ap_start); clear hd hb
    go_wp2_with (fail)
    go_loopw [21] (fun i wr => ∃ (k : Nat) (m : DS), k ≤ l.length ∧ i = .int .i64 k ∧ AInv w g1 g2 k m wr) (fun i _ => l.length - (intOf i).toNat)
    case atStart => exact ⟨0, _, by omega, rfl, HI.out⟩
    case round =>
      obtain ⟨k, m, hk, rfl, hi⟩ := hrel
      have HI := Lib.hid hi
      clear hi
      by_cases hlt : k < l.length
      · obtain ⟨b, off, rfl, a0, a1, a2, a3, a4⟩ := act_at HS.out HI.out.bel hlt
        have HO := Lib.hid (HOK.out _ (List.getElem_mem hlt))
        generalize hact : l[k] = a at *
        obtain ⟨kind, at_, by_, long, keep⟩ := a
        simp only at a0 a1 a2 a3 a4
        clear hact
        have HROW := Lib.hid ((Row.new wr 42 #[.int .i64 kind, .int .i64 at_, .int .u8 by_, .bool long, .int .u64 keep]).drew)
        have HI2 := Lib.hid (fun o => HI.out.alloc o)
        have k6 : k ≤ 64 := by omega
        go_wp2_with (fail)
        go_region_held3 (fun w' => w'.cell? ⟨wr.heap.size, 1, none⟩ = some (.int .i64 at_) ∧ w'.cell? ⟨wr.heap.size, 2, none⟩ = some (.int .u8 by_)) (first | exact ⟨q1, q2⟩ | go_keep) (first
          | (go_at_call 26; refine (fill_short by_ _ HO.out.by0 HO.out.by1).mono ?_; rintro e w4 ⟨gb, cap, rfl, hs, hb⟩; have q1 : w4.cell? ⟨wr.heap.size, 1, none⟩ = some (.int .i64 at_) := cell_below hb (by go_simp); have q2 : w4.cell? ⟨wr.heap.size, 2, none⟩ = some (.int .u8 by_) := cell_below hb (by go_simp); have HI4 := Lib.hid ((HI2.out _).below hb); have HS4 := Lib.hid hs; have HW4 := Lib.hid (HROW.out.below hb HROW.out.lt); clear hs hb)
          | (go_at_call 25; refine (a_write1 HI4.out k6 at_ _ _ by_ HS4.out).mono ?_; rintro e w5 ⟨⟨r5, rfl⟩, hi, ht⟩; have HI5 := Lib.hid hi; have hw5 := ht _ _ _ HW4.out (by decide) (by decide) (by decide); have HW5 := Lib.hid hw5; have q1 : w5.cell? ⟨wr.heap.size, 1, none⟩ = some (.int .i64 at_) := hw5.cell 1; have q2 : w5.cell? ⟨wr.heap.size, 2, none⟩ = some (.int .u8 by_) := hw5.cell 2; clear hi ht hw5))
        go_wp2_with (fail)
        have HI5d := Lib.hid (HI5.out.below (Below.refl _ _).drew)
        have HW5d := Lib.hid HW5.out.drew
        go_region_held3 (fun w' => w'.cell? ⟨wr.heap.size, 1, none⟩ = some (.int .i64 at_) ∧ w'.cell? ⟨wr.heap.size, 2, none⟩ = some (.int .u8 by_)) (first | exact ⟨p1, p2⟩ | go_keep) (first
          | (go_at_call 26; refine (fill_short by_ _ HO.out.by0 HO.out.by1).mono ?_; rintro e w6 ⟨gb, cap, rfl, hs, hb⟩; have p1 : w6.cell? ⟨wr.heap.size, 1, none⟩ = some (.int .i64 at_) := cell_below hb (by go_simp); have p2 : w6.cell? ⟨wr.heap.size, 2, none⟩ = some (.int .u8 by_) := cell_below hb (by go_simp); have HI6 := Lib.hid (HI5d.out.below hb); have HS6 := Lib.hid hs; have HW6 := Lib.hid (HW5d.out.below hb HW5d.out.lt); clear hs hb)
          | (go_at_call 25; refine (a_write2 HI4.out.ap HI6.out k6 _ _ HS6.out).mono ?_; rintro e w7 ⟨⟨r7, rfl⟩, hi, ht⟩; have HI7 := Lib.hid hi; have hw7 := ht _ _ _ HW6.out (by decide) (by decide) (by decide); have p1 : w7.cell? ⟨wr.heap.size, 1, none⟩ = some (.int .i64 at_) := hw7.cell 1; have p2 : w7.cell? ⟨wr.heap.size, 2, none⟩ = some (.int .u8 by_) := hw7.cell 2; clear hi ht hw7))
        clear p1 p2 q1 q2
        go_wp2_with (fail)
        go_roundw
        case rel => exact ⟨k + 1, _, by omega, by go_num, HI7.out⟩
        case measure => simp [intOf]; omega
      · have k6 : k ≤ 64 := by omega
        have HAP := Lib.hid (ap_end HI.out.ap k6)
        have kl : m.waits.length ≤ 1000000 := by rw [HI.out.ap.few]; omega
        go_wp2_with (fail)
        refine (two_power HI.out.two HI.out.bel.size 18446744073709551615 (by omega) (by omega) kl).mono ?_; rintro e w4 ⟨rfl, hd, hb⟩
        have HD4 := Lib.hid hd; have HB4 := Lib.hid (HI.out.bel.trans hb); clear hd hb
        go_wp2_with (fail)
        refine (two_flush HD4.out.swap HB4.out.size kl).mono ?_; rintro e w5 ⟨rfl, hd, hb⟩
        have HD5 := Lib.hid hd.swap; have HB5 := Lib.hid (HB4.out.trans hb); clear hd hb
        have E1 := Lib.hid (show (m.power 18446744073709551615).down = false from rfl)
        have E2 := Lib.hid (show (m.power 18446744073709551615).waits = [] from rfl)
        generalize m.power 18446744073709551615 = ma at *
        generalize m.flush.1 = fc at *
        generalize m.flush.2 = mb at *
        obtain ⟨hfc, hsec, hdn, h4, hw⟩ := HAP.out
        have HSEC := Lib.hid hsec; have HDN := Lib.hid hdn; have H4 := Lib.hid h4; have HW := Lib.hid hw
        clear hfc hsec hdn h4 hw HAP
        go_wp2_with (fail)
        go_loopw [46] (fun i wr => ∃ (k : Nat), k ≤ 4 ∧ i = .int .i64 k ∧ Two wr w.heap.size g1 ma g2 mb ∧ Below w.heap.size w wr) (fun i _ => 4 - (intOf i).toNat)
        case atStart => exact ⟨0, by omega, rfl, HD5.out, HB5.out⟩
        case round =>
          obtain ⟨j, hj, rfl, ht, hb⟩ := hrel
          have HT := Lib.hid ht; have HB := Lib.hid hb
          clear ht hb
          by_cases hjl : j < 4
          · have hnow : ma.now j = mb.now j := by
              unfold DS.now
              rw [E2.out, HW.out, HSEC.out]
            have HNOW := Lib.hid hnow
            have hgm := own_good HT.out.own1
            have hlen : (ma.now j).length = 64 := by
              unfold DS.now
              rw [E2.out]
              show (ma.secs.getD j []).length = 64
              have hjl2 : j < ma.secs.length := by rw [HSEC.out, H4.out]; exact hjl
              have e : ma.secs.getD j [] = ma.secs[j] := by simp [hjl2]
              rw [e]
              exact hgm.secs _ (List.getElem_mem _)
            have HLEN := Lib.hid hlen
            clear hnow hgm hlen
            go_wp2_with (fail)
            refine (two_read HT.out j j rfl (by rw [HSEC.out, H4.out]; exact hjl) E1.out (by rw [E2.out]; decide)).mono ?_; rintro e w6 ⟨b6, rfl, hr, ht, hb⟩
            have HT6 := Lib.hid ht; have HB6 := Lib.hid (HB.out.trans (hb.mono HB.out.size)); have HR6 := Lib.hid hr; clear ht hb hr
            go_wp2_with (fail)
            refine (two_read HT6.out.swap j j rfl (by rw [H4.out]; exact hjl) HDN.out (by rw [HW.out]; decide)).mono ?_; rintro e w7 ⟨b7, rfl, hr, ht, hb⟩
            rw [← HNOW.out] at hr
            have HT7 := Lib.hid ht.swap; have HB7 := Lib.hid (HB6.out.trans (hb.mono HB6.out.size)); have HR7 := Lib.hid hr; have HR67 := Lib.hid (HR6.out.below hb HR6.out.lt); clear ht hb hr
            go_wp2_with (fail)
            refine (same_yes (xs := ma.now j) (n := 64) HLEN.out (by omega) (row_sl HR67.out HLEN.out) (row_sl HR7.out HLEN.out)).mono ?_; rintro e w8 ⟨rfl, hb⟩
            have HT8 := Lib.hid (HT7.out.below hb); have HB8 := Lib.hid (HB7.out.trans (hb.mono HB7.out.size)); clear hb
            go_wp2_with (fail)
            go_roundw
            case rel => exact ⟨j + 1, by omega, by go_num, HT8.out, HB8.out⟩
            case measure => simp [intOf]; omega
          · have w1' := own_waits HT.out.own1
            have w2' := own_waits HT.out.swap.own1
            rw [E2.out] at w1'
            rw [HW.out] at w2'
            have WA := Lib.hid w1'; have WB := Lib.hid w2'
            clear w1' w2'
            go_wp2_with (fail)
            refine WA.out.mono ?_; rintro e w' ⟨rfl, rfl⟩
            go_wp2_with (fail)
            refine WB.out.mono ?_; rintro e w' ⟨rfl, rfl⟩
            go_wp2_with (fail)
            go_ret
            exact ⟨rfl, HB.out⟩

/-! ### the row: written by program -/
set_option maxRecDepth 100000 in
theorem lifted (os : Os) (started : os.Started) (H : Type) (enc : TypeId × Value → H) :
    ReturnsInHanded {} Try.checked os 7 .any (Rows.diskAllSpec.pre6 enc Try.prog Try.f7 Rows.diskAllRow.domain false) (Rows.diskAllSpec.post enc Try.prog Try.f7 false true false false) := by
  refine returnsInHanded_of_change (C := Try.checked) Go.Proofs.Ytjncpincmkpdpaa.lift.own started (by kernel_rfl) Try.func7
    (ChangeSpec.witness6 (enc := enc) (C := Try.checked) false ⟨#[], #[.slice none 0 0], []⟩ 8 (by kernel_rfl) (by kernel_rfl) (by kernel_rfl) (by kernel_rfl)) ?_
  intro W base args ds gs before hval0 hW hcnd _
  have hval : ∀ (j : Nat) t v, Try.f7.params[j]? = some t → args[j]? = some v → Value.okWide Try.prog W .any base t v := hval0
  have hW' := hW
  obtain ⟨p, q, hA0, hV, rfl, hfz, hnd⟩ := hW
  have hA : DataW.TrodAll enc Try.prog W 0 (fun _ => true) true Try.f7.params.toList args.toList ds p := hA0
  have hAk := hA
  rw [Try.params7] at hA hval
  obtain ⟨v0, vs0, d0, ds0, p0, q0, hargs, rfl, rfl, h0, r0⟩ := trodAll_cons hA
  obtain ⟨rfl, rfl, rfl⟩ := trodAll_nil r0
  obtain rfl : args = #[v0] := by cases args; simp_all
  obtain ⟨rfl, rfl⟩ := trodVars_none hV
  have hlt := hW'.lt
  obtain ⟨A1, c1, l1, rfl, hm1, hs1, ho1⟩ := arg_acts (hval 0 35 v0 rfl rfl) h0
  refine (walk W A1 c1 l1 hm1 hs1 ho1).mono fun e W' ⟨he, hg⟩ => ?_
  subst he
  exact ⟨_, rfl, Go.Proofs.Ytjncpincmkpdpaa.base.postBelow (pv := []) hW' (fun _ _ _ => (trodAll_cons_mk (shut_bool Try.underlying4 _) trodAll_mk0)) (fun sp hsp => Go.Proofs.Ytjncpincmkpdpaa.lift.args_stay Go.Proofs.Ytjncpincmkpdpaa.lift.laidOut hg _ _ _ _ (by kernel_rfl) hAk (fun x hx => hlt x (by simpa using hx)) (fun x hx => hsp x (by simpa using hx))) (fun _ _ => rfl) (by simp)
    hg (ok_one (by kernel_rfl) rfl (okWide_bool_mk Try.underlying4 _))⟩

theorem over : Rows.diskAllRow.holds Try.pinned (OpenSpec.ofChange Rows.diskAllSpec) :=
  OpenClaim.holds_of_wide 7 Try.f7 rfl rfl rfl rfl rfl rfl rfl ⟨rfl, rfl, rfl, rfl, rfl⟩ rfl rfl rfl rfl rfl (by kernel_rfl) Try.func7 (by kernel_rfl)
    (of_decide_eq_true (by kernel_rfl)) (by unfold Func.isWrapper; first | (rw [if_pos (by decide +kernel)]; kernel_rfl) | (rw [if_neg (by decide +kernel)]; exact ⟨rfl, rfl⟩))
    (fun os started H enc _ => lifted os started H enc)

/-- THE STATEMENT -/
theorem proved : Rows.DiskAllSaid :=
  over
#print axioms proved
end Go.Proofs.Ytjncpincmkpdpaa.diskAll
