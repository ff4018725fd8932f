/-
  PROVED HERE: a disk in memory, and contracts of its small functions (New, burn, wrong, Down, Waits, Len, Fuse).
  CONDITIONS: the disk is the given one.
-/
import Derived.Test.YtooagoikiafgcaaDiskMath
import Derived.Lib.MinMax
namespace Go.Proofs.Ytooagoikiafgcaa.disk
set_option linter.unusedVariables false
open Go.RowKit Go.Proofs.Ytooagoikiafgcaa.base Go.Proofs.Ytooagoikiafgcaa.obj Go.Proofs.Ytooagoikiafgcaa.mem

/-- a set of blocks, and all that was made between two worlds -/
def More (F : Nat → Prop) (w w' : World) : Nat → Prop := fun i => F i ∨ (w.heap.size ≤ i ∧ i < w'.heap.size)

def dCells (L : Nat) (wv : Value) (m : DS) : List Value := [.slice (some ⟨L, 0, none⟩) m.secs.length m.secs.length, wv, .int .i64 m.fuse, .bool m.down]

/-- block g is the disk m; all its blocks are in F -/
structure DiskIn (w : World) (F : Nat → Prop) (g L : Nat) (wv : Value) (m : DS) : Prop where
  good : m.Good
  blk : Row w g 163 (dCells L wv m)
  laid : Row w L 177 (m.secs.map secCells).flatten
  own : w.ownsRow 0 179 65 wv m.waits.length (m.waits.map waitCells).flatten
  fg : F g
  fl : F L
  fw : ∀ k, wv.ownBlock = some k → F k

def DiskAt (w : World) (F : Nat → Prop) (g : Nat) (m : DS) : Prop := ∃ L wv, DiskIn w F g L wv m

section
variable {w w' : World} {F F' : Nat → Prop} {g L : Nat} {wv : Value} {m : DS}
theorem DiskIn.more (h : DiskIn w F g L wv m) (hF : ∀ i, F i → F' i) : DiskIn w F' g L wv m :=
  ⟨h.good, h.blk, h.laid, h.own, hF _ h.fg, hF _ h.fl, fun k hk => hF _ (h.fw k hk)⟩
theorem DiskAt.more (h : DiskAt w F g m) (hF : ∀ i, F i → F' i) : DiskAt w F' g m := by
  obtain ⟨L, wv, h⟩ := h
  exact ⟨L, wv, h.more hF⟩
theorem DiskIn.kept (h : DiskIn w F g L wv m) {S : Nat → Prop} (k : Kept S w w') (hS : ∀ i, F i → ¬ S i) : DiskIn w' F g L wv m :=
  ⟨h.good, h.blk.kept k (hS _ h.fg), h.laid.kept k (hS _ h.fl), k.own h.own (fun i hi => hS _ (h.fw i hi)), h.fg, h.fl, h.fw⟩
theorem DiskAt.kept (h : DiskAt w F g m) {S : Nat → Prop} (k : Kept S w w') (hS : ∀ i, F i → ¬ S i) : DiskAt w' F g m := by
  obtain ⟨L, wv, h⟩ := h
  exact ⟨L, wv, h.kept k hS⟩
theorem DiskAt.below (h : DiskAt w F g m) (k : Below w.heap.size w w') : DiskAt w' F g m := h.kept (Kept.of_below k (fun _ => False)) (fun _ _ h => h)
theorem DiskIn.read (h : DiskIn w F g L wv m) : w.cell? ⟨g, 0, none⟩ = some (.slice (some ⟨L, 0, none⟩) m.secs.length m.secs.length) ∧ w.cell? ⟨g, 1, none⟩ = some wv ∧ w.cell? ⟨g, 2, none⟩ = some (.int .i64 m.fuse) ∧ w.cell? ⟨g, 3, none⟩ = some (.bool m.down) :=
  ⟨h.blk.cell 0, h.blk.cell 1, h.blk.cell 2, h.blk.cell 3⟩
theorem DiskIn.gl (h : DiskIn w F g L wv m) : g ≠ L := h.blk.ne h.laid (by decide)
theorem DiskIn.gw (h : DiskIn w F g L wv m) : wv.ownBlock ≠ some g := by
  intro e
  rcases h.own.2 with ⟨rfl, _⟩ | ⟨k, cap, cur, rfl, _, hk, _⟩
  · simp [Value.ownBlock] at e
  · simp only [Value.ownBlock, Option.some.injEq] at e
    subst e
    have := h.blk
    unfold Row at this
    rw [hk] at this
    injection this with this
    injection this with _ h2
    exact absurd h2 (by decide)
theorem DiskIn.lw (h : DiskIn w F g L wv m) : wv.ownBlock ≠ some L := by
  intro e
  rcases h.own.2 with ⟨rfl, _⟩ | ⟨k, cap, cur, rfl, _, hk, _⟩
  · simp [Value.ownBlock] at e
  · simp only [Value.ownBlock, Option.some.injEq] at e
    subst e
    have := h.laid
    unfold Row at this
    rw [hk] at this
    injection this with this
    injection this with _ h2
    exact absurd h2 (by decide)
/-- the disk's own block laid anew -/
theorem DiskIn.set (h : DiskIn w F g L wv m) {m' : DS} (k : Nat) (v : Value) (e : (dCells L wv m).set k v = dCells L wv m') (hg : m'.Good) (hs : m'.secs = m.secs) (hw : m'.waits = m.waits) : DiskIn (w.setCell ⟨g, k, none⟩ v) F g L wv m' := by
  refine ⟨hg, ?_, ?_, ?_, h.fg, h.fl, h.fw⟩
  · rw [← e]; exact h.blk.setCell k v
  · rw [hs]; exact h.laid.setCell_other (p := ⟨g, k, none⟩) (Ne.symm h.gl) v
  · rw [hw]; exact ownsRow_setCell_other h.own (a := ⟨g, k, none⟩) h.gw v
end

abbrev One (g : Nat) : Nat → Prop := fun i => i = g

set_option maxHeartbeats 1000000 in
theorem down_at {w : World} {F : Nat → Prop} {g L : Nat} {wv : Value} {m : DS} (h : DiskIn w F g L wv m) : Calls Try.prog 52 #[.pointer (some ⟨g, 0, none⟩)] w fun e w' => e = .returned (.bool m.down) ∧ w = w' := by
  obtain ⟨c0, c1, c2, c3⟩ := h.read
  go_enter Try.func52, Try.ntmps52
  go_wp2_with (fail)
  go_ret
  exact ⟨rfl, rfl⟩
set_option maxHeartbeats 1000000 in
theorem len_at {w : World} {F : Nat → Prop} {g L : Nat} {wv : Value} {m : DS} (h : DiskIn w F g L wv m) : Calls Try.prog 46 #[.pointer (some ⟨g, 0, none⟩)] w fun e w' => e = .returned (.int .i64 m.secs.length) ∧ w = w' := by
  obtain ⟨c0, c1, c2, c3⟩ := h.read
  go_enter Try.func46, Try.ntmps46
  go_wp2_with (fail)
  go_ret
  exact ⟨rfl, rfl⟩
set_option maxHeartbeats 1000000 in
theorem down_nil (w : World) : Calls Try.prog 52 #[.pointer none] w fun e w' => e = .returned (.bool true) ∧ w = w' := by
  go_enter Try.func52, Try.ntmps52
  go_wp2_with (fail)
  go_ret
  exact ⟨rfl, rfl⟩
set_option maxHeartbeats 1000000 in
theorem len_nil (w : World) : Calls Try.prog 46 #[.pointer none] w fun e w' => e = .returned (.int .i64 0) ∧ w = w' := by
  go_enter Try.func46, Try.ntmps46
  go_wp2_with (fail)
  go_ret
  exact ⟨rfl, rfl⟩
set_option maxHeartbeats 1000000 in
theorem wrong_nil (w : World) (i : Int) : Calls Try.prog 91 #[.pointer none, .int .i64 i] w fun e w' => e = .returned (.int .i64 7) ∧ w = w' := by
  go_enter Try.func91, Try.ntmps91
  go_wp2_with (fail)
  go_ret
  exact ⟨rfl, rfl⟩
set_option maxHeartbeats 1000000 in
theorem wrong_at {w : World} {F : Nat → Prop} {g L : Nat} {wv : Value} {m : DS} (h : DiskIn w F g L wv m) (i : Int) : Calls Try.prog 91 #[.pointer (some ⟨g, 0, none⟩), .int .i64 i] w fun e w' => e = .returned (.int .i64 (if i < 0 ∨ m.secs.length ≤ i then 3 else 0)) ∧ w = w' := by
  obtain ⟨c0, c1, c2, c3⟩ := h.read
  by_cases h0 : i < 0
  · rw [if_pos (.inl h0)]
    go_enter Try.func91, Try.ntmps91
    go_wp2_with (fail)
    go_ret
    exact ⟨rfl, rfl⟩
  · by_cases h1 : (m.secs.length : Int) ≤ i
    · rw [if_pos (.inr h1)]
      go_enter Try.func91, Try.ntmps91
      go_wp2_with (fail)
      go_ret
      exact ⟨rfl, rfl⟩
    · rw [if_neg (by omega)]
      go_enter Try.func91, Try.ntmps91
      go_wp2_with (fail)
      go_ret
      exact ⟨rfl, rfl⟩

theorem kput {g : Nat} {a w : World} (h : Kept (One g) a w) (k : Nat) (v : Value) : Kept (One g) a (w.setCell ⟨g, k, none⟩ v) := h.setCell (p := ⟨g, k, none⟩) (Or.inl rfl) v

set_option maxHeartbeats 1000000 in
theorem burn_at {w : World} {F : Nat → Prop} {g L : Nat} {wv : Value} {m : DS} (h : DiskIn w F g L wv m) : Calls Try.prog 133 #[.pointer (some ⟨g, 0, none⟩)] w fun e w' => e = .returned (.bool m.goes) ∧ DiskIn w' F g L wv m.burnt ∧ Kept (One g) w w' := by
  obtain ⟨c0, c1, c2, c3⟩ := h.read
  have f2 := h.blk.frozen 2
  have f3 := h.blk.frozen 3
  have g0 := h.good.fuse0
  have g1 := h.good.fuse1
  have H := Lib.hid h
  have HG := Lib.hid (DS.burnt_good h.good)
  clear h
  by_cases hz : m.fuse = 0
  · have hb : m.burnt = { m with down := true } := by simp [DS.burnt, hz]
    have hgo : m.goes = false := by simp [DS.goes, hz]
    have HB := Lib.hid hb
    rw [hgo]
    have hz' : (m.fuse == 0) = true := by simpa using hz
    clear hb hgo hz g0 g1
    go_enter Try.func133, Try.ntmps133
    go_wp2_with (fail)
    go_ret
    refine ⟨rfl, ?_, kput (Kept.refl _ _) 3 _⟩
    rw [HB.out]
    rw [HB.out] at HG
    exact H.out.set 3 _ rfl HG.out rfl rfl
  · have hz' : (m.fuse == 0) = false := by simpa using hz
    cases hd : m.down
    · have hb : m.burnt = { m with fuse := max (m.fuse - 1) (-1) } := by simp [DS.burnt, hz, hd]
      have hgo : m.goes = true := by simp [DS.goes, hz, hd]
      have HB := Lib.hid hb
      rw [hgo]
      rw [hd] at c3
      clear hb hgo hz hd
      go_enter Try.func133, Try.ntmps133
      go_wp2_with (fail)
      go_ret
      refine ⟨rfl, ?_, kput (Kept.refl _ _) 2 _⟩
      rw [HB.out]
      rw [HB.out] at HG
      exact H.out.set 2 _ rfl HG.out rfl rfl
    · have hb : m.burnt = m := by
        simp only [DS.burnt, hd, Bool.true_or, if_true]
        rw [← hd]
      have hgo : m.goes = false := by simp [DS.goes, hd]
      have HB := Lib.hid hb
      rw [hgo]
      rw [hd] at c3
      clear hb hgo hz hd g0 g1
      go_enter Try.func133, Try.ntmps133
      go_wp2_with (fail)
      go_ret
      refine ⟨rfl, ?_, Kept.refl _ _⟩
      rw [HB.out]
      exact H.out

set_option maxHeartbeats 1000000 in
theorem fuse_nil (w : World) (n : Int) : Calls Try.prog 49 #[.pointer none, .int .i64 n] w fun e w' => e = .returned (.tuple #[]) ∧ w = w' := by
  go_enter Try.func49, Try.ntmps49
  go_wp2_with (fail)
  go_end0
  exact ⟨rfl, rfl⟩
set_option maxHeartbeats 1000000 in
theorem fuse_at {w : World} {F : Nat → Prop} {g L : Nat} {wv : Value} {m : DS} (h : DiskIn w F g L wv m) (n : Int) (hn : n ≤ 9223372036854775807) : Calls Try.prog 49 #[.pointer (some ⟨g, 0, none⟩), .int .i64 n] w fun e w' => e = .returned (.tuple #[]) ∧ DiskIn w' F g L wv (m.setFuse n) ∧ Kept (One g) w w' := by
  obtain ⟨c0, c1, c2, c3⟩ := h.read
  have f2 := h.blk.frozen 2
  have H := Lib.hid h
  have HG := Lib.hid (DS.setFuse_good h.good hn)
  clear h hn
  cases hd : m.down
  · have hb : m.setFuse n = { m with fuse := max n (-1) } := by simp [DS.setFuse, hd]
    have HB := Lib.hid hb
    rw [hd] at c3
    clear hb hd
    go_enter Try.func49, Try.ntmps49
    go_wp2_with (fail)
    go_end0
    refine ⟨rfl, ?_, kput (Kept.refl _ _) 2 _⟩
    rw [HB.out]
    rw [HB.out] at HG
    exact H.out.set 2 _ rfl HG.out rfl rfl
  · have hb : m.setFuse n = m := by simp [DS.setFuse, hd]
    have HB := Lib.hid hb
    rw [hd] at c3
    clear hb hd
    go_enter Try.func49, Try.ntmps49
    go_wp2_with (fail)
    go_end0
    refine ⟨rfl, ?_, Kept.refl _ _⟩
    rw [HB.out]
    exact H.out

end Go.Proofs.Ytooagoikiafgcaa.disk
