/-
  PROVED HERE: the reference's disk in memory, and contracts of its goes, Write, Now.
  CONDITIONS: the disk is the given one; no more than a million writes wait.
-/
import Derived.Test.YtjncpincmkpdpaaDiskOwn
namespace Go.Proofs.Ytjncpincmkpdpaa.refDisk
set_option linter.unusedVariables false
open Go.RowKit Go.Proofs.Ytjncpincmkpdpaa.base Go.Proofs.Ytjncpincmkpdpaa.obj Go.Proofs.Ytjncpincmkpdpaa.mem Go.Proofs.Ytjncpincmkpdpaa.plan Go.Proofs.Ytjncpincmkpdpaa.disk

theorem infoSl : (Try.prog.info? 22).map (fun i => (i.zero, i.size, i.bytes)) = some (some (.slice none 0 0), 1, 24) := by kernel_rfl
theorem slSl : SlT Try.prog 39 22 1 24 := by
  obtain ⟨i0, hi, hz0, hz1, hz2⟩ := info_parts infoSl
  exact ⟨Try.underlying39, ⟨i0, _, hi, hz0, hz1, hz2, rfl⟩, by decide⟩
theorem infoInt : (Try.prog.info? 3).map (fun i => (i.zero, i.size, i.bytes)) = some (some (.int .i64 0), 1, 8) := by kernel_rfl
theorem slInt : SlT Try.prog 58 3 1 8 := by
  obtain ⟨i0, hi, hz0, hz1, hz2⟩ := info_parts infoInt
  exact ⟨Try.underlying58, ⟨i0, _, hi, hz0, hz1, hz2, rfl⟩, by decide⟩

/-- a header of 64 bytes -/
def Hd (w : World) (h : Value) (s : List Int) : Prop := ∃ b c cur, h = .slice (some ⟨b, 0, none⟩) 64 c ∧ Row w b 5 cur ∧ cur.take 64 = s.map (.int .u8)
theorem Hd.row {w w' : World} {h : Value} {s : List Int} (k : Hd w h s) (hk : ∀ b cur, Row w b 5 cur → Row w' b 5 cur) : Hd w' h s := by
  obtain ⟨b, c, cur, h1, h2, h3⟩ := k
  exact ⟨b, c, cur, h1, hk _ _ h2, h3⟩
theorem Hd.sl {w : World} {h : Value} {s : List Int} (k : Hd w h s) (hs : s.length = 64) : ∃ b c, h = .slice (some ⟨b, 0, none⟩) 64 c ∧ Sl w w.heap.size 1 (some ⟨b, 0, none⟩) 64 (s.map (.int .u8)) := by
  obtain ⟨b, c, cur, h1, h2, h3⟩ := k
  exact ⟨b, c, h1, h2.sl h2.lt (by rw [Nat.mul_one, List.drop_zero, h3]) (by simp [hs])⟩
def Hds (w : World) (hs : List Value) (l : List (List Int)) : Prop := hs.length = l.length ∧ ∀ (i : Nat) (h : Value) (s : List Int), hs[i]? = some h → l[i]? = some s → Hd w h s
theorem Hds.row {w w' : World} {hs : List Value} {l : List (List Int)} (k : Hds w hs l) (hk : ∀ b cur, Row w b 5 cur → Row w' b 5 cur) : Hds w' hs l := ⟨k.1, fun i h s h1 h2 => (k.2 i h s h1 h2).row hk⟩
theorem Hds.get {w : World} {hs : List Value} {l : List (List Int)} (k : Hds w hs l) {i : Nat} (hi : i < l.length) : ∃ h, hs[i]? = some h ∧ Hd w h l[i] := by
  have h1 : i < hs.length := by rw [k.1]; exact hi
  exact ⟨hs[i], List.getElem?_eq_getElem h1, k.2 i _ _ (List.getElem?_eq_getElem h1) (List.getElem?_eq_getElem hi)⟩
theorem Hds.snoc {w : World} {hs : List Value} {l : List (List Int)} (k : Hds w hs l) {h : Value} {s : List Int} (hh : Hd w h s) : Hds w (hs ++ [h]) (l ++ [s]) := by
  refine ⟨by simp [k.1], fun i h' s' h1 h2 => ?_⟩
  by_cases hi : i < hs.length
  · rw [List.getElem?_append_left hi] at h1
    rw [List.getElem?_append_left (by rw [← k.1]; exact hi)] at h2
    exact k.2 i h' s' h1 h2
  · have hi2 : i = hs.length := by
      have := (List.getElem?_eq_some_iff.1 h1).1
      simp at this; omega
    subst hi2
    rw [List.getElem?_append_right (Nat.le_refl _)] at h1
    rw [List.getElem?_append_right (by rw [k.1]; exact Nat.le_refl _), ← k.1] at h2
    simp at h1 h2
    subst h1; subst h2
    exact hh
theorem Hds.set {w : World} {hs : List Value} {l : List (List Int)} (k : Hds w hs l) {h : Value} {s : List Int} (hh : Hd w h s) (n : Nat) : Hds w (hs.set n h) (l.set n s) := by
  refine ⟨by simp [k.1], fun i h' s' h1 h2 => ?_⟩
  by_cases hi : n = i
  · subst hi
    rw [List.getElem?_set_self (by have := (List.getElem?_eq_some_iff.1 h1).1; simpa using this)] at h1
    rw [List.getElem?_set_self (by have := (List.getElem?_eq_some_iff.1 h2).1; simpa using this)] at h2
    injection h1 with h1; injection h2 with h2
    subst h1; subst h2
    exact hh
  · rw [List.getElem?_set_ne hi] at h1 h2
    exact k.2 i h' s' h1 h2
theorem Hds.nil (w : World) : Hds w [] [] := ⟨rfl, fun i h s h1 => by simp at h1⟩

def rCells (vS vA vB : Value) (m : DS) : List Value := [vS, vA, vB, .int .i64 m.fuse, .bool m.down]
def ats (m : DS) : List Value := m.waits.map fun p => .int .i64 p.1

/-- block x is the reference's disk m; its rows lie from B on -/
structure RefIn (w : World) (B x : Nat) (vS vA vB : Value) (hS hB : List Value) (m : DS) : Prop where
  good : m.Good
  blk : Row w x 60 (rCells vS vA vB m)
  low : B ≤ x
  own1 : w.ownsRow B 22 1 vS m.secs.length hS
  own2 : w.ownsRow B 3 1 vA m.waits.length (ats m)
  own3 : w.ownsRow B 22 1 vB m.waits.length hB
  apart : ∀ k, vS.ownBlock = some k → vB.ownBlock ≠ some k
  hdS : Hds w hS m.secs
  hdB : Hds w hB (m.waits.map (·.2))
def RefOwn (w : World) (B x : Nat) (m : DS) : Prop := ∃ vS vA vB hS hB, RefIn w B x vS vA vB hS hB m

/-- blocks of other types than a reference disk's stay as they were -/
def RKept (w w' : World) : Prop := ∀ k t xs, Row w k t xs → t ≠ 60 → t ≠ 22 → t ≠ 3 → Row w' k t xs
theorem RKept.refl (w : World) : RKept w w := fun k t xs h _ _ _ => h
theorem RKept.trans {a b c : World} (h : RKept a b) (k : RKept b c) : RKept a c := fun i t xs hr h1 h2 h3 => k i t xs (h i t xs hr h1 h2 h3) h1 h2 h3
theorem RKept.below {w w' : World} (h : Below w.heap.size w w') : RKept w w' := fun k t xs hr _ _ _ => hr.below h hr.lt
theorem own_rows {w w' : World} {base : Nat} {e : TypeId} {size : Nat} {v : Value} {n : Nat} {xs : List Value} (h : w.ownsRow base e size v n xs) (k : ∀ b cur, Row w b e cur → Row w' b e cur) : w'.ownsRow base e size v n xs := by
  obtain ⟨h1, h2⟩ := h
  refine ⟨h1, ?_⟩
  rcases h2 with hz | ⟨g, cap, cur, rfl, hb, hg, rest⟩
  · exact .inl hz
  · refine .inr ⟨g, cap, cur, rfl, hb, ?_, rest⟩
    have := k g cur.toList (by unfold Row; simpa using hg)
    unfold Row at this
    simpa using this
theorem RefIn.rows {w w' : World} {B x : Nat} {vS vA vB : Value} {hS hB : List Value} {m : DS} (h : RefIn w B x vS vA vB hS hB m) (k1 : ∀ b cur, Row w b 60 cur → Row w' b 60 cur)
    (k2 : ∀ b cur, Row w b 22 cur → Row w' b 22 cur) (k3 : ∀ b cur, Row w b 3 cur → Row w' b 3 cur) (k4 : ∀ b cur, Row w b 5 cur → Row w' b 5 cur) : RefIn w' B x vS vA vB hS hB m :=
  ⟨h.good, k1 _ _ h.blk, h.low, own_rows h.own1 k2, own_rows h.own2 k3, own_rows h.own3 k2, h.apart, h.hdS.row k4, h.hdB.row k4⟩
theorem RefOwn.below {w w' : World} {B x : Nat} {m : DS} (h : RefOwn w B x m) (k : Below w.heap.size w w') : RefOwn w' B x m := by
  obtain ⟨vS, vA, vB, hS, hB, h⟩ := h
  exact ⟨vS, vA, vB, hS, hB, h.rows (fun b cur hr => hr.below k hr.lt) (fun b cur hr => hr.below k hr.lt) (fun b cur hr => hr.below k hr.lt) (fun b cur hr => hr.below k hr.lt)⟩
theorem RefOwn.tkept {w w' : World} {B x : Nat} {m : DS} (h : RefOwn w B x m) (k : TKept w w') : RefOwn w' B x m := by
  obtain ⟨vS, vA, vB, hS, hB, h⟩ := h
  exact ⟨vS, vA, vB, hS, hB, h.rows (fun b cur hr => k _ _ _ hr (by decide) (by decide) (by decide)) (fun b cur hr => k _ _ _ hr (by decide) (by decide) (by decide)) (fun b cur hr => k _ _ _ hr (by decide) (by decide) (by decide)) (fun b cur hr => k _ _ _ hr (by decide) (by decide) (by decide))⟩
theorem own_rkept {w w' : World} {B g : Nat} {m : DS} (h : DiskOwn w B g m) (k : RKept w w') (hs : w.heap.size ≤ w'.heap.size) : DiskOwn w' B g m := by
  obtain ⟨F, ⟨L, wv, h⟩, hF⟩ := h
  refine ⟨F, ⟨L, wv, h.good, k _ _ _ h.blk (by decide) (by decide) (by decide), k _ _ _ h.laid (by decide) (by decide) (by decide), own_rows h.own fun b cur hr => k _ _ _ hr (by decide) (by decide) (by decide), h.fg, h.fl, h.fw⟩, fun i hi => ?_⟩
  have := hF i hi; omega

section
variable {w : World} {B x : Nat} {vS vA vB : Value} {hS hB : List Value} {m : DS}
theorem RefIn.read (h : RefIn w B x vS vA vB hS hB m) : w.cell? ⟨x, 0, none⟩ = some vS ∧ w.cell? ⟨x, 1, none⟩ = some vA ∧ w.cell? ⟨x, 2, none⟩ = some vB ∧ w.cell? ⟨x, 3, none⟩ = some (.int .i64 m.fuse) ∧ w.cell? ⟨x, 4, none⟩ = some (.bool m.down) :=
  ⟨h.blk.cell 0, h.blk.cell 1, h.blk.cell 2, h.blk.cell 3, h.blk.cell 4⟩
/-- a block that is the row of a slice has its type -/
theorem own_ne {base : Nat} {e : TypeId} {size : Nat} {v : Value} {n : Nat} {xs : List Value} (h : w.ownsRow base e size v n xs) {k : Nat} {t : TypeId} {ys : List Value} (hr : Row w k t ys) (ht : t ≠ e) : v.ownBlock ≠ some k := by
  intro e'
  rcases h.2 with ⟨rfl, _⟩ | ⟨g, cap, cur, rfl, _, hg, _⟩
  · simp [Value.ownBlock] at e'
  · simp only [Value.ownBlock, Option.some.injEq] at e'
    subst e'
    unfold Row at hr
    rw [hg] at hr
    injection hr with hr
    injection hr with _ h4
    exact ht h4.symm
/-- a cell of the disk's own block laid anew -/
theorem RefIn.set (h : RefIn w B x vS vA vB hS hB m) {m' : DS} (k : Nat) (v : Value) (e : (rCells vS vA vB m).set k v = rCells vS vA vB m') (hg : m'.Good) (hs : m'.secs = m.secs) (hw : m'.waits = m.waits) : RefIn (w.setCell ⟨x, k, none⟩ v) B x vS vA vB hS hB m' := by
  have o : ∀ {t : TypeId} {b : Nat} {cur : List Value}, Row w b t cur → t ≠ 60 → Row (w.setCell ⟨x, k, none⟩ v) b t cur := fun hr ht => hr.setCell_other (p := ⟨x, k, none⟩) (hr.ne h.blk ht) v
  refine ⟨hg, ?_, h.low, ?_, ?_, ?_, h.apart, ?_, ?_⟩
  · rw [← e]; exact h.blk.setCell k v
  · rw [hs]; exact own_rows h.own1 fun b cur hr => o hr (by decide)
  · unfold ats; rw [hw]; exact own_rows h.own2 fun b cur hr => o hr (by decide)
  · rw [hw]; exact own_rows h.own3 fun b cur hr => o hr (by decide)
  · rw [hs]; exact h.hdS.row fun b cur hr => o hr (by decide)
  · rw [hw]; exact h.hdB.row fun b cur hr => o hr (by decide)
theorem rkept_set (h : RefIn w B x vS vA vB hS hB m) (k : Nat) (v : Value) : RKept w (w.setCell ⟨x, k, none⟩ v) := fun i t xs hr h1 _ _ => hr.setCell_other (p := ⟨x, k, none⟩) (hr.ne h.blk h1) v
end

set_option maxHeartbeats 1000000 in
theorem goes_at {w : World} {B x : Nat} {vS vA vB : Value} {hS hB : List Value} {m : DS} (h : RefIn w B x vS vA vB hS hB m) : Calls Try.prog 68 #[.pointer (some ⟨x, 0, none⟩)] w fun e w' => e = .returned (.bool m.goes) ∧ RefIn w' B x vS vA vB hS hB m.burnt ∧ Below B w w' ∧ RKept w w' := by
  obtain ⟨c0, c1, c2, c3, c4⟩ := h.read
  have f3 := h.blk.frozen 3
  have f4 := h.blk.frozen 4
  have g0 := h.good.fuse0
  have g1 := h.good.fuse1
  have H := Lib.hid h
  have HG := Lib.hid (DS.burnt_good h.good)
  have HB3 := Lib.hid (fun v => (Below.refl B w).setCell (p := ⟨x, 3, none⟩) h.low v)
  have HB4 := Lib.hid (fun v => (Below.refl B w).setCell (p := ⟨x, 4, none⟩) h.low v)
  have HK := Lib.hid (fun k v => rkept_set h k v)
  clear h c0 c1 c2
  by_cases hz : m.fuse = 0
  · have hb : m.burnt = { m with down := true } := by simp [DS.burnt, hz]
    have hgo : m.goes = false := by simp [DS.goes, hz]
    have HBU := Lib.hid hb
    rw [hgo]
    rw [hz] at c3
    clear hb hgo hz g0 g1
    go_enter Try.func68, Try.ntmps68
    go_wp2_with (fail)
    go_ret
    refine ⟨rfl, ?_, HB4.out _, HK.out 4 _⟩
    rw [HBU.out]
    rw [HBU.out] at HG
    exact H.out.set 4 _ rfl HG.out rfl rfl
  · have hz' : (m.fuse == 0) = false := by simpa using hz
    cases hd : m.down
    · by_cases hp : 0 < m.fuse
      · have hb : m.burnt = { m with fuse := m.fuse - 1 } := by
          have e : max (m.fuse - 1) (-1) = m.fuse - 1 := by omega
          simp [DS.burnt, hz, hd, e]
        have hgo : m.goes = true := by simp [DS.goes, hz, hd]
        have HBU := Lib.hid hb
        rw [hgo]
        rw [hd] at c4
        clear hb hgo hz hd
        go_enter Try.func68, Try.ntmps68
        go_wp2_with (fail)
        go_ret
        refine ⟨rfl, ?_, HB3.out _, HK.out 3 _⟩
        rw [HBU.out]
        rw [HBU.out] at HG
        exact H.out.set 3 _ rfl HG.out rfl rfl
      · have hb : m.burnt = m := by
          have e : m.fuse = -1 := by omega
          unfold DS.burnt
          rw [hd, e]
          obtain ⟨s, wa, f, d⟩ := m
          simp only at e hd
          subst e; subst hd
          rfl
        have hgo : m.goes = true := by simp [DS.goes, hz, hd]
        have HBU := Lib.hid hb
        rw [hgo]
        rw [hd] at c4
        clear hb hgo hz hd
        go_enter Try.func68, Try.ntmps68
        go_wp2_with (fail)
        go_ret
        refine ⟨rfl, ?_, Below.refl _ _, RKept.refl _⟩
        rw [HBU.out]
        exact H.out
    · have hb : m.burnt = m := by
        simp only [DS.burnt, hd, Bool.true_or, if_true]
        rw [← hd]
      have hgo : m.goes = false := by simp [DS.goes, hd]
      have HBU := Lib.hid hb
      rw [hgo]
      rw [hd] at c4
      clear hb hgo hz hd
      by_cases hp : 0 < m.fuse
      all_goals
        go_enter Try.func68, Try.ntmps68
        go_wp2_with (fail)
        go_ret
        refine ⟨rfl, ?_, Below.refl _ _, RKept.refl _⟩
        rw [HBU.out]
        exact H.out

end Go.Proofs.Ytjncpincmkpdpaa.refDisk
