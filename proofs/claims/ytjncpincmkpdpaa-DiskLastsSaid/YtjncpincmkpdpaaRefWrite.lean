/-
  PROVED HERE: the contract of the reference disk's Write.
  CONDITIONS: the disk is the given one; no more than a million writes wait.
-/
import Derived.Test.YtjncpincmkpdpaaRefDisk
namespace Go.Proofs.Ytjncpincmkpdpaa.refDisk
set_option linter.unusedVariables false
open Go.RowKit Go.Proofs.Ytjncpincmkpdpaa.base Go.Proofs.Ytjncpincmkpdpaa.obj Go.Proofs.Ytjncpincmkpdpaa.mem Go.Proofs.Ytjncpincmkpdpaa.plan Go.Proofs.Ytjncpincmkpdpaa.disk

theorem grown_row {w w' : World} {v : Value} {k : Nat} {t : TypeId} {xs : List Value} (g : w.grownBy w' v.ownBlock) (h : Row w k t xs) (hk : v.ownBlock ≠ some k) : Row w' k t xs := (g.block k h.lt (fun e => hk e.symm)).trans h
theorem own_grown {w w' : World} {v u : Value} {base : Nat} {e : TypeId} {size n : Nat} {xs : List Value} (g : w.grownBy w' v.ownBlock) (h : w.ownsRow base e size u n xs) (hk : ∀ k, u.ownBlock = some k → v.ownBlock ≠ some k) : w'.ownsRow base e size u n xs := by
  obtain ⟨h1, h2⟩ := h
  refine ⟨h1, ?_⟩
  rcases h2 with hz | ⟨b, cap, cur, rfl, hb, hg, rest⟩
  · exact .inl hz
  · exact .inr ⟨b, cap, cur, rfl, hb, (g.block b (Array.getElem?_eq_some_iff.1 hg).1 (fun e => hk b rfl e.symm)).trans hg, rest⟩
theorem own_is {w : World} {base : Nat} {e : TypeId} {size : Nat} {v : Value} {n : Nat} {xs : List Value} (h : w.ownsRow base e size v n xs) {k : Nat} (hk : v.ownBlock = some k) : base ≤ k ∧ ∃ cur, Row w k e cur := by
  rcases h.2 with ⟨rfl, _⟩ | ⟨g, cap, cur, rfl, hb, hg, _⟩
  · simp [Value.ownBlock] at hk
  · simp only [Value.ownBlock, Option.some.injEq] at hk
    subst hk
    exact ⟨hb, cur.toList, by unfold Row; simpa using hg⟩
/-- two rows of unlike types lie apart -/
theorem own_own {w : World} {base base' : Nat} {e e' : TypeId} {size size' : Nat} {v v' : Value} {n n' : Nat} {xs xs' : List Value} (h : w.ownsRow base e size v n xs) (h' : w.ownsRow base' e' size' v' n' xs') (ht : e ≠ e') : ∀ k, v.ownBlock = some k → v'.ownBlock ≠ some k := by
  intro k hk
  obtain ⟨_, cur, hr⟩ := own_is h hk
  exact own_ne h' hr ht

/-- a reference's disk whose sectors lie outside the blocks N -/
def RefAv (w : World) (B x : Nat) (m : DS) (N : Nat → Prop) : Prop := ∃ vS vA vB hS hB, RefIn w B x vS vA vB hS hB m ∧ ∀ h ∈ hS ++ hB, ∀ b, h.ownBlock = some b → ¬ N b
theorem RefAv.own {w : World} {B x : Nat} {m : DS} {N : Nat → Prop} (h : RefAv w B x m N) : RefOwn w B x m := by
  obtain ⟨vS, vA, vB, hS, hB, h, _⟩ := h
  exact ⟨vS, vA, vB, hS, hB, h⟩
theorem Hds.lt {w : World} {hs : List Value} {l : List (List Int)} (k : Hds w hs l) : ∀ h ∈ hs, ∀ b, h.ownBlock = some b → b < w.heap.size := by
  intro h hh b hb
  obtain ⟨i, hi, rfl⟩ := List.mem_iff_getElem.1 hh
  obtain ⟨b', c, cur, e, hr, _⟩ := k.2 i _ _ (List.getElem?_eq_getElem hi) (List.getElem?_eq_getElem (by rw [← k.1]; exact hi))
  rw [e] at hb
  simp only [Value.ownBlock, Option.some.injEq] at hb
  subst hb
  exact hr.lt
theorem RefOwn.av {w : World} {B x : Nat} {m : DS} (h : RefOwn w B x m) : RefAv w B x m (fun i => w.heap.size ≤ i) := by
  obtain ⟨vS, vA, vB, hS, hB, h⟩ := h
  refine ⟨vS, vA, vB, hS, hB, h, fun v hv b hb hN => ?_⟩
  rcases List.mem_append.1 hv with hv | hv
  · have := h.hdS.lt v hv b hb; omega
  · have := h.hdB.lt v hv b hb; omega
theorem RefAv.mono {w : World} {B x : Nat} {m : DS} {N N' : Nat → Prop} (h : RefAv w B x m N) (hN : ∀ i, N' i → N i) : RefAv w B x m N' := by
  obtain ⟨vS, vA, vB, hS, hB, h, k⟩ := h
  exact ⟨vS, vA, vB, hS, hB, h, fun v hv b hb hn => k v hv b hb (hN b hn)⟩
theorem ref_write_end {w1 w2 w3 w4 : World} {B x : Nat} {vS vA vB vA' : Value} {hS hB : List Value} {m : DS} (h : RefIn w1 B x vS vA vB hS hB m) (hB0 : B ≤ w1.heap.size) {n : Nat} (hn : n < m.secs.length) {bs : List Int} (hl : bs.length = 64)
    (b2 : Below w1.heap.size w1 w2) {hv : Value} (hd : Hd w2 hv bs) {R4 : Obj}
    (g3 : w2.grownBy w3 vA.ownBlock) (o3 : w3.ownsRow B 3 1 vA' (m.waits.length + 1) (ats m ++ [.int .i64 n]))
    (g4 : ((w3.setCell ⟨x, 1, none⟩ vA').alloc R4).grownBy w4 vB.ownBlock) {gb cap : Nat} (o4 : w4.ownsRow B 22 1 (.slice (some ⟨gb, 0, none⟩) (m.waits.length + 1) cap) (m.waits.length + 1) (hB ++ [hv]))
    (loc : vB.ownBlock = some gb ∨ ((w3.setCell ⟨x, 1, none⟩ vA').alloc R4).heap.size ≤ gb) :
    RefIn (w4.setCell ⟨x, 2, none⟩ (.slice (some ⟨gb, 0, none⟩) (m.waits.length + 1) cap)) B x vS vA' (.slice (some ⟨gb, 0, none⟩) (m.waits.length + 1) cap) hS (hB ++ [hv]) (m.put n bs) ∧ Below B w1 (w4.setCell ⟨x, 2, none⟩ (.slice (some ⟨gb, 0, none⟩) (m.waits.length + 1) cap)) ∧ RKept w1 (w4.setCell ⟨x, 2, none⟩ (.slice (some ⟨gb, 0, none⟩) (m.waits.length + 1) cap)) := by
  have s2 := b2.size
  -- rows of other types than the three go on
  have A1 : ∀ {t : TypeId} {b : Nat} {cur : List Value}, Row w1 b t cur → Row w2 b t cur := fun hr => hr.below b2 hr.lt
  have A1' : ∀ {t : TypeId} {b : Nat} {cur : List Value}, Row w2 b t cur → Row w2 b t cur := fun hr => hr
  have oA : w2.ownsRow B 3 1 vA m.waits.length (ats m) := own_rows h.own2 fun b cur hr => A1 hr
  have oB : w2.ownsRow B 22 1 vB m.waits.length hB := own_rows h.own3 fun b cur hr => A1 hr
  have oS : w2.ownsRow B 22 1 vS m.secs.length hS := own_rows h.own1 fun b cur hr => A1 hr
  have A2 : ∀ {t : TypeId} {b : Nat} {cur : List Value}, Row w2 b t cur → t ≠ 3 → Row w3 b t cur := fun hr ht => grown_row g3 hr (own_ne oA hr ht)
  have x3 : Row w3 x 60 (rCells vS vA vB m) := A2 (A1 h.blk) (by decide)
  have oB3 : w3.ownsRow B 22 1 vB m.waits.length hB := own_rows oB fun b cur hr => A2 hr (by decide)
  have oS3 : w3.ownsRow B 22 1 vS m.secs.length hS := own_rows oS fun b cur hr => A2 hr (by decide)
  have A3 : ∀ {t : TypeId} {b : Nat} {cur : List Value}, Row w3 b t cur → t ≠ 60 → Row ((w3.setCell ⟨x, 1, none⟩ vA').alloc R4) b t cur := fun hr ht => (hr.setCell_other (p := ⟨x, 1, none⟩) (hr.ne x3 ht) vA').alloc R4
  have x4 : Row ((w3.setCell ⟨x, 1, none⟩ vA').alloc R4) x 60 (rCells vS vA' vB m) := (x3.setCell 1 vA').alloc R4
  have oB4 : ((w3.setCell ⟨x, 1, none⟩ vA').alloc R4).ownsRow B 22 1 vB m.waits.length hB := own_rows oB3 fun b cur hr => A3 hr (by decide)
  have oS4 : ((w3.setCell ⟨x, 1, none⟩ vA').alloc R4).ownsRow B 22 1 vS m.secs.length hS := own_rows oS3 fun b cur hr => A3 hr (by decide)
  have oA4 : ((w3.setCell ⟨x, 1, none⟩ vA').alloc R4).ownsRow B 3 1 vA' (m.waits.length + 1) (ats m ++ [.int .i64 n]) := own_rows o3 fun b cur hr => A3 hr (by decide)
  have A4 : ∀ {t : TypeId} {b : Nat} {cur : List Value}, Row ((w3.setCell ⟨x, 1, none⟩ vA').alloc R4) b t cur → t ≠ 22 → Row w4 b t cur := fun hr ht => grown_row g4 hr (own_ne oB4 hr ht)
  have x5 : Row w4 x 60 (rCells vS vA' vB m) := A4 x4 (by decide)
  have oS5 : w4.ownsRow B 22 1 vS m.secs.length hS := own_grown g4 oS4 h.apart
  have oA5 : w4.ownsRow B 3 1 vA' (m.waits.length + 1) (ats m ++ [.int .i64 n]) := own_rows oA4 fun b cur hr => A4 hr (by decide)
  have A5 : ∀ {t : TypeId} {b : Nat} {cur : List Value}, Row w4 b t cur → t ≠ 60 → Row (w4.setCell ⟨x, 2, none⟩ (.slice (some ⟨gb, 0, none⟩) (m.waits.length + 1) cap)) b t cur := fun hr ht => hr.setCell_other (p := ⟨x, 2, none⟩) (hr.ne x5 ht) _
  have A25 : ∀ {b : Nat} {cur : List Value}, Row w2 b 5 cur → Row (w4.setCell ⟨x, 2, none⟩ (.slice (some ⟨gb, 0, none⟩) (m.waits.length + 1) cap)) b 5 cur := fun hr => A5 (A4 (A3 (A2 (A1' hr) (by decide)) (by decide)) (by decide)) (by decide)
  have s4 := g4.size
  have s3 := g3.size
  have sz : w1.heap.size ≤ ((w3.setCell ⟨x, 1, none⟩ vA').alloc R4).heap.size := by simp at s3 ⊢; omega
  refine ⟨⟨DS.put_good h.good hn hl, ?_, h.low, ?_, ?_, ?_, ?_, ?_, ?_⟩, ?_, ?_⟩
  · exact x5.setCell 2 _
  · exact own_rows oS5 fun b cur hr => A5 hr (by decide)
  · have e1 : ats (m.put n bs) = ats m ++ [.int .i64 n] := by simp [ats, DS.put]
    have e2 : (m.put n bs).waits.length = m.waits.length + 1 := by simp [DS.put]
    rw [e1, e2]
    exact own_rows oA5 fun b cur hr => A5 hr (by decide)
  · have e2 : (m.put n bs).waits.length = m.waits.length + 1 := by simp [DS.put]
    rw [e2]
    exact own_rows o4 fun b cur hr => A5 hr (by decide)
  · intro k hk e
    simp only [Value.ownBlock, Option.some.injEq] at e
    subst e
    rcases loc with e | e
    · exact h.apart _ hk e
    · obtain ⟨_, cur, hr⟩ := own_is oS4 hk
      have := hr.lt; omega
  · exact h.hdS.row fun b cur hr => A25 (hr.below b2 hr.lt)
  · have e1 : (m.put n bs).waits.map (·.2) = m.waits.map (·.2) ++ [bs] := by simp [DS.put]
    rw [e1]
    exact ((h.hdB.row fun b cur hr => hr.below b2 hr.lt).snoc hd).row fun b cur hr => A25 hr
  · have k1 : Below B w1 w2 := b2.mono hB0
    have k2 : Below B w1 w3 := k1.grown g3 (by have := k1.size; omega) fun k hk => (own_is oA hk).1
    have k3 : Below B w1 ((w3.setCell ⟨x, 1, none⟩ vA').alloc R4) := (k2.setCell (p := ⟨x, 1, none⟩) h.low vA').alloc (by have := k2.size; simp; omega) R4
    have k4 : Below B w1 w4 := k3.grown g4 (by have := k3.size; omega) fun k hk => (own_is oB4 hk).1
    exact k4.setCell (p := ⟨x, 2, none⟩) h.low _
  · intro k t xs hr t1 t2 t3
    exact A5 (A4 (A3 (A2 (A1 hr) t3) t1) t2) t1

theorem RefIn.below {w w' : World} {B x : Nat} {vS vA vB : Value} {hS hB : List Value} {m : DS} (h : RefIn w B x vS vA vB hS hB m) (k : Below w.heap.size w w') : RefIn w' B x vS vA vB hS hB m :=
  h.rows (fun b cur hr => hr.below k hr.lt) (fun b cur hr => hr.below k hr.lt) (fun b cur hr => hr.below k hr.lt) (fun b cur hr => hr.below k hr.lt)
theorem w3_read {w2 w3 : World} {B x : Nat} {vS vA vB : Value} {hS hB : List Value} {m : DS} (h : RefIn w2 B x vS vA vB hS hB m) (g3 : w2.grownBy w3 vA.ownBlock) :
    w3.cell? ⟨x, 1, none⟩ = some vA ∧ w3.cell? ⟨x, 2, none⟩ = some vB ∧ w3.frozen? ⟨x, 1, none⟩ = false ∧ x < w3.heap.size ∧ w3.ownsRow B 22 1 vB m.waits.length hB ∧ Row w3 x 60 (rCells vS vA vB m) := by
  have oA : w2.ownsRow B 3 1 vA m.waits.length (ats m) := h.own2
  have oB : w2.ownsRow B 22 1 vB m.waits.length hB := h.own3
  have x3 : Row w3 x 60 (rCells vS vA vB m) := grown_row g3 h.blk (own_ne oA h.blk (by decide))
  exact ⟨x3.cell 1, x3.cell 2, x3.frozen 1, x3.lt, own_rows oB fun b cur hr => grown_row g3 hr (own_ne oA hr (by decide)), x3⟩
theorem w4_read {w3 w4 : World} {B x : Nat} {vS vA vB vA' : Value} {hB : List Value} {m : DS} (x3 : Row w3 x 60 (rCells vS vA vB m)) (oB : w3.ownsRow B 22 1 vB m.waits.length hB) {R4 : Obj} (g4 : ((w3.setCell ⟨x, 1, none⟩ vA').alloc R4).grownBy w4 vB.ownBlock) :
    w4.cell? ⟨x, 2, none⟩ = some vB ∧ w4.frozen? ⟨x, 2, none⟩ = false := by
  have x4 : Row ((w3.setCell ⟨x, 1, none⟩ vA').alloc R4) x 60 (rCells vS vA' vB m) := (x3.setCell 1 vA').alloc R4
  have oB4 : ((w3.setCell ⟨x, 1, none⟩ vA').alloc R4).ownsRow B 22 1 vB m.waits.length hB := own_rows oB fun b cur hr => (hr.setCell_other (p := ⟨x, 1, none⟩) (hr.ne x3 (by decide)) vA').alloc R4
  have x5 := grown_row g4 x4 (own_ne oB4 x4 (by decide))
  exact ⟨x5.cell 2, x5.frozen 2⟩
theorem oB_set {w3 : World} {B x : Nat} {vS vA vB vA' : Value} {hB : List Value} {m : DS} (x3 : Row w3 x 60 (rCells vS vA vB m)) (oB : w3.ownsRow B 22 1 vB m.waits.length hB) (R4 : Obj) : ((w3.setCell ⟨x, 1, none⟩ vA').alloc R4).ownsRow B 22 1 vB m.waits.length hB :=
  own_rows oB fun b cur hr => (hr.setCell_other (p := ⟨x, 1, none⟩) (hr.ne x3 (by decide)) vA').alloc R4
theorem sl_hv (w3 : World) (a : Addr) (u hv : Value) : Sl ((w3.setCell a u).alloc (.cells #[hv] 22)) (w3.heap.size + 1) 1 (some ⟨w3.heap.size, 0, none⟩) 1 [hv] := by
  have := sl_new (w := w3.setCell a u) (e := 22) (n := 1) (size := 1) (cs := #[hv]) rfl
  simpa using this
theorem hd_own {w : World} {B : Nat} {v : Value} {bs : List Int} {g c : Nat} (h : w.ownsRow B 5 1 (.slice (some ⟨g, 0, none⟩) (0 + 64) c) (0 + 64) ([] ++ bs.map (.int .u8))) : Hd w (.slice (some ⟨g, 0, none⟩) 64 c) bs := by
  obtain ⟨W, c', cur, hv, hr, hc⟩ := own_row h (by omega)
  injection hv with h1 h2 h3
  injection h1 with h1
  injection h1 with h1
  subst h1
  exact ⟨_, c, cur, rfl, hr, by simpa using hc⟩

theorem int_one (i : Int) : ∀ u ∈ (#[Value.int .i64 i]).toList, u.oneCell' = true := by
  intro u hu
  simp at hu
  subst hu
  rfl
theorem slice_one (A : Option Addr) {n c : Nat} : ∀ u ∈ [Value.slice A n c], u.oneCell' = true := by
  intro u hu
  simp at hu
  subst hu
  rfl
theorem HB34 {w2 w3 : World} {B : Nat} {R4 : Obj} {a : Addr} {u : Value} (h : w2.heap.size ≤ w3.heap.size) (hB : B ≤ w2.heap.size) : B ≤ ((w3.setCell a u).alloc R4).heap.size := by
  simp at h ⊢; omega
theorem below_of_grown {w w' : World} (h : w.grownBy w' none) : Below w.heap.size w w' := ⟨h.os, h.tape, h.output, h.size, fun i hi => h.block i hi (by simp)⟩

set_option maxRecDepth 100000 in
set_option maxHeartbeats 2000000 in
theorem write_at {w : World} {B x : Nat} {m : DS} {N : Nat → Prop} (h : RefAv w B x m N) (hNl : ∀ i, N i → i < w.heap.size) (hB0 : B ≤ w.heap.size) (i : Int) (A : Option Addr) (c : Nat) (k : Nat) (bs : List Int) (hk : bs.length = k) (hs : Sl w w.heap.size 1 A k (bs.map (.int .u8))) (hsw : ∀ b off, A = some ⟨b, off, none⟩ → ∃ cur, Row w b 5 cur) (hwl : m.waits.length ≤ 1000000) :
    Calls Try.prog 34 #[.pointer (some ⟨x, 0, none⟩), .int .i64 i, .slice A k c] w fun e w' => e = .returned (.int .i64 (m.write i bs).1) ∧ RefAv w' B x (m.write i bs).2 N ∧ Below B w w' ∧ RKept w w' := by
  obtain ⟨vS, vA, vB, hS, hB, h, hav⟩ := h
  have HAV := Lib.hid hav
  have HNL := Lib.hid hNl
  clear hav hNl
  obtain ⟨c0, c1, c2, c3, c4⟩ := h.read
  obtain ⟨AS, cS, eS, _⟩ := own_form h.own1
  rw [eS] at c0
  have H := Lib.hid h
  by_cases hi : i < 0 ∨ m.secs.length ≤ i
  · have e1 : m.write i bs = (3, m) := by rw [DS.write, if_pos hi]
    rw [e1]
    clear e1 h c1 c2 c3 c4 eS hs hk hsw
    by_cases h0 : i < 0
    · clear hi
      go_enter Try.func34, Try.ntmps34
      go_wp2_with (fail)
      go_ret
      exact ⟨rfl, ⟨vS, vA, vB, hS, hB, H.out, HAV.out⟩, Below.refl _ _, RKept.refl _⟩
    · have h1 : (m.secs.length : Int) ≤ i := by omega
      clear hi
      go_enter Try.func34, Try.ntmps34
      go_wp2_with (fail)
      go_ret
      exact ⟨rfl, ⟨vS, vA, vB, hS, hB, H.out, HAV.out⟩, Below.refl _ _, RKept.refl _⟩
  · have i0 : ¬ i < 0 := by omega
    have i1 : ¬ (m.secs.length : Int) ≤ i := by omega
    by_cases hl : bs.length = 64
    · have e2 : m.write i bs = if m.goes then (0, m.burnt.put i.toNat bs) else (8, m.burnt) := by rw [DS.write, if_neg hi, if_neg (by simpa using hl)]
      have HG := Lib.hid (goes_at h)
      have HL := Lib.hid hl
      have hk64 : k = 64 := by omega
      subst hk64
      cases hg : m.goes
      · rw [hg] at e2 HG
        simp only [Bool.false_eq_true, if_false] at e2
        rw [e2]
        clear e2 hg hl hi h hk c1 c2 c3 c4 eS hs hsw
        go_enter Try.func34, Try.ntmps34
        go_wp2_with (fail)
        refine HG.out.mono ?_; rintro e w' ⟨rfl, hd, hb, ht⟩
        have HD := Lib.hid hd; have HB := Lib.hid hb; have HT := Lib.hid ht; clear hd hb ht
        go_wp2_with (fail)
        go_ret
        exact ⟨rfl, ⟨vS, vA, vB, hS, hB, HD.out, HAV.out⟩, HB.out, HT.out⟩
      · rw [hg] at e2 HG
        simp only [if_true] at e2
        rw [e2]
        obtain ⟨n, rfl⟩ := Int.eq_ofNat_of_zero_le (show 0 ≤ i by omega)
        have hin : n < m.burnt.secs.length := by rw [DS.burnt_secs]; omega
        have HIN := Lib.hid hin
        have HS := Lib.hid hs
        have HSW := Lib.hid hsw
        have hwl' : m.burnt.waits.length ≤ 1000000 := by rw [DS.burnt_waits]; exact hwl
        clear e2 hg hl hi h hk c1 c2 c3 c4 eS hs hsw hin hwl
        go_enter Try.func34, Try.ntmps34
        go_wp2_with (fail)
        refine HG.out.mono ?_; rintro e w1 ⟨rfl, hd, hb, ht⟩
        have HD := Lib.hid hd; have HB := Lib.hid hb; have HT := Lib.hid ht
        obtain ⟨b0, off0, eA, hsl1⟩ : ∃ b off, A = some ⟨b, off, none⟩ ∧ Sl w1 w.heap.size 1 A 64 (bs.map (.int .u8)) := by
          obtain ⟨b, off, e, hbl, hc⟩ := HS.out.2 (by omega)
          obtain ⟨cur, hr⟩ := HSW.out b off e
          have hr1 := ht _ _ _ hr (by decide) (by decide) (by decide)
          refine ⟨b, off, e, HS.out.1, fun _ => ⟨b, off, e, hbl, fun j u hu => ?_⟩⟩
          have := hc j u hu
          rw [hr.cell] at this
          rw [hr1.cell]
          exact this
        have HSL := Lib.hid hsl1
        have ON := Lib.hid (World.ownsRow_nil w1 w1.heap.size 5 1)
        subst eA
        clear hd hb ht hsl1
        go_wp2_with (first
          | (refine app_row slU8 rfl (.tmp 25) (.tmp 26) rfl ON.out rfl rfl HSL.out (u8s_one _) (by omega) (by omega) (by unfold maxLen; omega) (Nat.le_refl _) ?_; intro gd cd w2 ho hg hor hlt; have HO2 := Lib.hid (hd_own (v := .nilIface) ho); have HG2 := Lib.hid (below_of_grown hg); have HGD := Lib.hid (show w1.heap.size ≤ gd from hor.resolve_left (by simp [Value.ownBlock])); have hd2 := HD.out.below HG2.out; obtain ⟨d0, d1, d2, d3, d4⟩ := hd2.read; have hx2 := hd2.blk.lt; have HD2 := Lib.hid hd2; have HB2 := Lib.hid (show B ≤ w2.heap.size from Nat.le_trans hB0 (Nat.le_trans HB.out.size HG2.out.size)); clear ho hg hor hlt hd2 d0 d3 d4)
          | (refine app_new slInt rfl (.tmp 32) (.tmp 34) rfl HD2.out.own2 rfl rfl rfl (int_one _) (by omega) (by unfold maxLen; omega) HB2.out ?_; intro vA' w3 ho hg; obtain ⟨gA, cA, curA, rfl, _, _⟩ := own_row ho (by omega); have HO3 := Lib.hid ho; have HG3 := Lib.hid hg; clear ho hg; have r1 := (w3_read HD2.out HG3.out).1; have r2 := (w3_read HD2.out HG3.out).2.1; have fr1 := (w3_read HD2.out HG3.out).2.2.1; have hx3 := (w3_read HD2.out HG3.out).2.2.2.1; have OB3 := Lib.hid (w3_read HD2.out HG3.out).2.2.2.2.1; have HX3 := Lib.hid (w3_read HD2.out HG3.out).2.2.2.2.2; have hsz3 := Lib.hid HG3.out.size; clear d1 d2)
          | (refine app_row slSl rfl (.tmp 42) (.tmp 44) rfl (oB_set HX3.out OB3.out _) rfl rfl (sl_hv _ _ _ _) (slice_one _) (by omega) (by omega) (by unfold maxLen; omega) (HB34 hsz3.out HB2.out) ?_; intro gb cb w4 ho hg hor hlt; have HO4 := Lib.hid ho; have HG4 := Lib.hid hg; have HOR4 := Lib.hid hor; clear ho hg hor hlt; have s2 := (w4_read HX3.out OB3.out HG4.out).1; have fs2 := (w4_read HX3.out OB3.out HG4.out).2; clear r1 r2 fr1))
        go_ret
        have hh := ref_write_end HD.out (Nat.le_trans hB0 HB.out.size) HIN.out HL.out HG2.out HO2.out HG3.out HO3.out HG4.out HO4.out HOR4.out
        refine ⟨rfl, ⟨_, _, _, _, _, hh.1, fun v hv b hb hN => ?_⟩, HB.out.trans hh.2.1, HT.out.trans hh.2.2⟩
        rw [← List.append_assoc] at hv
        rcases List.mem_append.1 hv with hv | hv
        · exact HAV.out v hv b hb hN
        · simp only [List.mem_singleton] at hv
          subst hv
          simp only [Value.ownBlock, Option.some.injEq] at hb
          have h1 := HNL.out b hN
          have h2 := HB.out.size
          have h3 := HGD.out
          omega
    · have e1 : m.write i bs = (14, m) := by rw [DS.write, if_neg hi, if_pos (by simpa using hl)]
      rw [e1]
      have hl' : ((k : Int) != 64) = true := by simp; omega
      have hl2 : ((k : Int) == 64) = false := by simp; omega
      clear e1 h c1 c2 c3 c4 eS hs hk hi hl hsw
      go_enter Try.func34, Try.ntmps34
      go_wp2_with (fail)
      go_ret
      exact ⟨rfl, ⟨vS, vA, vB, hS, hB, H.out, HAV.out⟩, Below.refl _ _, RKept.refl _⟩

end Go.Proofs.Ytjncpincmkpdpaa.refDisk
