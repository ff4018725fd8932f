/-
  PROVED HERE: eight lines of sectors, each a slice of headers at any place of its block (what DiskLasts keeps); what a store, a reslicing and an append make of them; what a disk's flush and its power make of the lines.
  CONDITIONS: each lemma names its own.
-/
import Derived.Test.YtjncpincmkpdpaaDiskAct
import Derived.Test.YtjncpincmkpdpaaRefNew
import Derived.ArgAppend
namespace Go.Proofs.Ytjncpincmkpdpaa.line
set_option linter.unusedVariables false
open Go.RowKit Go.Proofs.Ytjncpincmkpdpaa.base Go.Proofs.Ytjncpincmkpdpaa.obj Go.Proofs.Ytjncpincmkpdpaa.mem Go.Proofs.Ytjncpincmkpdpaa.plan Go.Proofs.Ytjncpincmkpdpaa.disk Go.Proofs.Ytjncpincmkpdpaa.refDisk

/-! ### the plain law -/
/-- what sector i may be: as it was flushed, or as a write behind made it -/
def upTo (ws : List (Nat × List Int)) (s : List Int) (i : Nat) : List (List Int) := s :: (ws.filter fun p => p.1 == i).map (·.2)
def lineOf (m : DS) (i : Nat) : List (List Int) := upTo m.waits (m.secs.getD i []) i
theorem upTo_snoc (ws : List (Nat × List Int)) (s : List Int) (i : Nat) (p : Nat × List Int) : upTo (ws ++ [p]) s i = if p.1 = i then upTo ws s i ++ [p.2] else upTo ws s i := by
  unfold upTo
  rw [List.filter_append]
  by_cases h : p.1 = i
  · simp [h]
  · simp [h]
theorem getD_self {l : List (List Int)} {i : Nat} (h : i < l.length) (x : List Int) : (l.set i x).getD i [] = x := by
  rw [List.getD_eq_getElem?_getD, List.getElem?_set_self h]; rfl
theorem getD_ne {l : List (List Int)} {i j : Nat} (h : j ≠ i) (x : List Int) : (l.set j x).getD i [] = l.getD i [] := by
  rw [List.getD_eq_getElem?_getD, List.getElem?_set_ne h, ← List.getD_eq_getElem?_getD]
theorem lay_in (p : Nat → Bool) (ws : List (Nat × List Int)) (s : List (List Int)) (i : Nat) : ∀ k, k ≤ ws.length → (layTo p ws s k).getD i [] ∈ upTo (ws.take k) (s.getD i []) i
  | 0, _ => by simp [layTo, upTo]
  | k + 1, h => by
    have ih := lay_in p ws s i k (by omega)
    have hk : k < ws.length := by omega
    rw [List.take_succ_eq_append_getElem hk, upTo_snoc]
    have hin : ∀ x, x ∈ upTo (ws.take k) (s.getD i []) i → x ∈ (if ws[k].1 = i then upTo (ws.take k) (s.getD i []) i ++ [ws[k].2] else upTo (ws.take k) (s.getD i []) i) := by
      intro x hx
      split
      · exact List.mem_append_left _ hx
      · exact hx
    by_cases hp : p k = true
    · rw [layTo_yes hk hp]
      by_cases e : ws[k].1 = i
      · by_cases hl : i < (layTo p ws s k).length
        · rw [if_pos e, e, getD_self hl]
          exact List.mem_append_right _ (by simp)
        · rw [List.set_eq_of_length_le (by omega)]
          exact hin _ ih
      · rw [getD_ne e]
        exact hin _ ih
    · rw [layTo_no hk (by simpa using hp)]
      exact hin _ ih
theorem lay_last (ws : List (Nat × List Int)) (s : List (List Int)) (i : Nat) (hi : i < s.length) : ∀ k, k ≤ ws.length → (upTo (ws.take k) (s.getD i []) i).getLast? = some ((layTo (fun _ => true) ws s k).getD i [])
  | 0, _ => by simp [layTo, upTo]
  | k + 1, h => by
    have ih := lay_last ws s i hi k (by omega)
    have hk : k < ws.length := by omega
    rw [List.take_succ_eq_append_getElem hk, upTo_snoc, layTo_yes hk rfl]
    by_cases e : ws[k].1 = i
    · rw [if_pos e, List.getLast?_append]
      rw [e, getD_self (by rw [layTo_len]; exact hi)]
      rfl
    · rw [if_neg e, ih, getD_ne e]
theorem line_write {m : DS} {i j : Nat} {b : List Int} : lineOf (m.put j b) i = if i = j then lineOf m i ++ [b] else lineOf m i := by
  unfold lineOf DS.put
  rw [upTo_snoc]
  by_cases h : j = i
  · simp [h]
  · rw [if_neg h, if_neg (fun e => h e.symm)]
theorem line_pos (m : DS) (i : Nat) : 0 < (lineOf m i).length := by simp [lineOf, upTo]
theorem line_flush {m : DS} {i : Nat} (hi : i < m.secs.length) : (lineOf m i).drop ((lineOf m i).length - 1) = lineOf (m.lay fun _ => true) i := by
  have h := lay_last m.waits m.secs i hi m.waits.length (Nat.le_refl _)
  rw [List.take_length] at h
  have hp := line_pos m i
  unfold lineOf at *
  have e : upTo ((m.lay fun _ => true).waits) ((m.lay fun _ => true).secs.getD i []) i = [(layTo (fun _ => true) m.waits m.secs m.waits.length).getD i []] := rfl
  rw [e]
  generalize upTo m.waits (m.secs.getD i []) i = l at *
  rw [List.getLast?_eq_getElem?] at h
  obtain ⟨h1, h2⟩ := List.getElem?_eq_some_iff.1 h
  rw [List.drop_eq_getElem_cons h1, h2, List.drop_of_length_le (by omega)]
theorem power_in (m : DS) (keep : Int) (i : Nat) : (m.power keep).now i ∈ lineOf m i := by
  have h := lay_in (keeps keep) m.waits m.secs i m.waits.length (Nat.le_refl _)
  rw [List.take_length] at h
  exact h
theorem line_64 {m : DS} (h : m.Good) {i : Nat} (hi : i < m.secs.length) : ∀ s ∈ lineOf m i, s.length = 64 := by
  intro s hs
  unfold lineOf upTo at hs
  rcases List.mem_cons.1 hs with rfl | hs
  · rw [List.getD_eq_getElem?_getD, List.getElem?_eq_getElem hi]
    exact h.secs _ (List.getElem_mem _)
  · obtain ⟨p, hp, rfl⟩ := List.mem_map.1 hs
    exact (h.waits p (List.mem_filter.1 hp).1).2

/-! ### the lines in memory -/
def Line (w : World) (B : Nat) (v : Value) (l : List (List Int)) : Prop :=
  (v = .slice none 0 0 ∧ l = []) ∨ ∃ b off cap cur hs, v = .slice (some ⟨b, off, none⟩) l.length cap ∧ l.length ≤ cap ∧ cap ≤ maxLen ∧ B ≤ b ∧ Row w b 22 cur ∧ off + cap ≤ cur.length ∧ (cur.drop off).take l.length = hs ∧ Hds w hs l
theorem Line.rows {w w' : World} {B : Nat} {v : Value} {l : List (List Int)} (h : Line w B v l) (h1 : ∀ b cur, v.ownBlock = some b → Row w b 22 cur → Row w' b 22 cur) (h2 : ∀ b cur, Row w b 5 cur → Row w' b 5 cur) : Line w' B v l := by
  rcases h with h | ⟨b, off, cap, cur, hs, rfl, a1, a2, a3, a4, a5, a6, a7⟩
  · exact .inl h
  · exact .inr ⟨b, off, cap, cur, hs, rfl, a1, a2, a3, h1 b cur rfl a4, a5, a6, a7.row h2⟩
structure MayIn (w : World) (B gm : Nat) (vs : List Value) (ls : Nat → List (List Int)) : Prop where
  blk : Row w gm 40 vs
  low : B ≤ gm
  len : vs.length = 8
  line : ∀ i v, vs[i]? = some v → Line w B v (ls i)
  apart : ∀ (i j : Nat) (v u : Value) (b : Nat), i ≠ j → vs[i]? = some v → vs[j]? = some u → v.ownBlock = some b → u.ownBlock ≠ some b
theorem MayIn.rows {w w' : World} {B gm : Nat} {vs : List Value} {ls : Nat → List (List Int)} (h : MayIn w B gm vs ls) (hk : ∀ k t xs, Row w k t xs → t = 5 ∨ t = 22 ∨ t = 40 → Row w' k t xs) : MayIn w' B gm vs ls :=
  ⟨hk _ _ _ h.blk (by simp), h.low, h.len, fun i v hv => (h.line i v hv).rows (fun b cur _ hr => hk _ _ _ hr (by simp)) (fun b cur hr => hk _ _ _ hr (by simp)), h.apart⟩
theorem MayIn.tkept {w w' : World} {B gm : Nat} {vs : List Value} {ls : Nat → List (List Int)} (h : MayIn w B gm vs ls) (k : TKept w w') : MayIn w' B gm vs ls :=
  h.rows fun i t xs hr ht => k i t xs hr (by rcases ht with rfl | rfl | rfl <;> decide) (by rcases ht with rfl | rfl | rfl <;> decide) (by rcases ht with rfl | rfl | rfl <;> decide)
theorem MayIn.below {w w' : World} {B gm : Nat} {vs : List Value} {ls : Nat → List (List Int)} (h : MayIn w B gm vs ls) (k : Below w.heap.size w w') : MayIn w' B gm vs ls := h.tkept (TKept.below k)
theorem MayIn.congr {w : World} {B gm : Nat} {vs : List Value} {ls ls' : Nat → List (List Int)} (h : MayIn w B gm vs ls) (e : ∀ i, i < 8 → ls' i = ls i) : MayIn w B gm vs ls' :=
  ⟨h.blk, h.low, h.len, fun i v hv => by
    have : i < 8 := by have := (List.getElem?_eq_some_iff.1 hv).1; have := h.len; omega
    rw [e i this]; exact h.line i v hv, h.apart⟩
def upd (ls : Nat → List (List Int)) (i : Nat) (l : List (List Int)) : Nat → List (List Int) := fun j => if j = i then l else ls j
theorem MayIn.get {w : World} {B gm : Nat} {vs : List Value} {ls : Nat → List (List Int)} (h : MayIn w B gm vs ls) {i : Nat} (hi : i < 8) : ∃ v, vs[i]? = some v ∧ w.cell? ⟨gm, i, none⟩ = some v ∧ w.frozen? ⟨gm, i, none⟩ = false ∧ gm < w.heap.size := by
  have : i < vs.length := by rw [h.len]; exact hi
  exact ⟨vs[i], List.getElem?_eq_getElem this, by rw [h.blk.cell, List.getElem?_eq_getElem this], h.blk.frozen i, h.blk.lt⟩
/-- another line laid in place i, behind changes that keep all other lines -/
theorem MayIn.set {w w' : World} {B gm : Nat} {vs : List Value} {ls : Nat → List (List Int)} (h : MayIn w B gm vs ls) {i : Nat} {v : Value} {l : List (List Int)} (hl : Line w' B v l)
    (hb : Row w' gm 40 vs) (h2 : ∀ b cur, Row w b 5 cur → Row w' b 5 cur) (h1 : ∀ j u b cur, j ≠ i → vs[j]? = some u → u.ownBlock = some b → Row w b 22 cur → Row w' b 22 cur)
    (hap : ∀ j u b, j ≠ i → vs[j]? = some u → v.ownBlock = some b → u.ownBlock ≠ some b) : MayIn (w'.setCell ⟨gm, i, none⟩ v) B gm (vs.set i v) (upd ls i l) := by
  have o : ∀ {t : TypeId} {k : Nat} {c : List Value}, Row w' k t c → t ≠ 40 → Row (w'.setCell ⟨gm, i, none⟩ v) k t c := fun hq ht => hq.setCell_other (p := ⟨gm, i, none⟩) (hq.ne hb ht) v
  refine ⟨hb.setCell i v, h.low, by rw [List.length_set]; exact h.len, fun j u hu => ?_, fun j k u x b hjk hu hx hub => ?_⟩
  · by_cases e : i = j
    · subst e
      have hj : i < vs.length := by have := (List.getElem?_eq_some_iff.1 hu).1; simpa using this
      rw [List.getElem?_set_self hj] at hu
      injection hu with hu
      subst hu
      rw [show upd ls i l i = l from if_pos rfl]
      exact hl.rows (fun b cur _ hr => o hr (by decide)) (fun b cur hr => o hr (by decide))
    · rw [List.getElem?_set_ne e] at hu
      rw [show upd ls i l j = ls j from if_neg fun x => e x.symm]
      exact (h.line j u hu).rows (fun b cur hb' hr => o (h1 j u b cur (fun x => e x.symm) hu hb' hr) (by decide)) (fun b cur hr => o (h2 b cur hr) (by decide))
  · by_cases e : i = j
    · subst e
      have hj : i < vs.length := by have := (List.getElem?_eq_some_iff.1 hu).1; simpa using this
      rw [List.getElem?_set_self hj] at hu
      injection hu with hu
      subst hu
      rw [List.getElem?_set_ne hjk] at hx
      exact hap k x b (fun e => hjk e.symm) hx hub
    · rw [List.getElem?_set_ne e] at hu
      by_cases e2 : i = k
      · subst e2
        have hj : i < vs.length := by have := (List.getElem?_eq_some_iff.1 hx).1; simpa using this
        rw [List.getElem?_set_self hj] at hx
        injection hx with hx
        subst hx
        intro hx2
        exact hap j u b hjk hu hx2 hub
      · rw [List.getElem?_set_ne e2] at hx
        exact h.apart j k u x b hjk hu hx hub
/-- a line that is there -/
theorem Line.open {w : World} {B : Nat} {v : Value} {l : List (List Int)} (h : Line w B v l) (hl : 0 < l.length) : ∃ b off cap cur hs, v = .slice (some ⟨b, off, none⟩) l.length cap ∧ l.length ≤ cap ∧ cap ≤ maxLen ∧ B ≤ b ∧ Row w b 22 cur ∧ off + cap ≤ cur.length ∧ (cur.drop off).take l.length = hs ∧ Hds w hs l := by
  rcases h with ⟨rfl, rfl⟩ | h
  · exact absurd hl (by simp)
  · exact h
/-- the last one alone -/
theorem MayIn.cut {w : World} {B gm : Nat} {vs : List Value} {ls : Nat → List (List Int)} (h : MayIn w B gm vs ls) {i b off cap : Nat} (hi : vs[i]? = some (.slice (some ⟨b, off, none⟩) (ls i).length cap)) (hl : 0 < (ls i).length) {v' : Value}
    (hv : v' = .slice (some ⟨b, off + ((ls i).length - 1), none⟩) 1 (cap - ((ls i).length - 1))) : MayIn (w.setCell ⟨gm, i, none⟩ v') B gm (vs.set i v') (upd ls i ((ls i).drop ((ls i).length - 1))) := by
  obtain ⟨b', off', cap', cur, hs, e, a1, a2, a3, a4, a5, a6, a7⟩ := (h.line i _ hi).open hl
  injection e with e1 e2 e3
  injection e1 with e1
  injection e1 with e1 e4 e5
  subst e1; subst e4; subst e3
  subst hv
  refine h.set ?_ h.blk (fun b cur hr => hr) (fun j u b cur _ _ _ hr => hr) (fun j u c hj hu hc => h.apart i j _ u c (fun e => hj e.symm) hi hu hc)
  have hd : ((ls i).drop ((ls i).length - 1)).length = 1 := by rw [List.length_drop]; omega
  refine .inr ⟨b, off + ((ls i).length - 1), cap - ((ls i).length - 1), cur, hs.drop ((ls i).length - 1), by rw [hd], by rw [hd]; omega, by omega, a3, a4, by omega, ?_, ?_, ?_⟩
  · rw [hd, ← a6, List.drop_take, List.drop_drop]
    congr 1
    omega
  · rw [List.length_drop, List.length_drop, a7.1]
  · intro k x s hx hs'
    rw [List.getElem?_drop] at hx hs'
    exact a7.2 _ x s hx hs'

/-- what append makes -/
structure App (w w' : World) (b : Nat) (v' : Value) (n : Nat) (hs : List Value) : Prop where
  row : ∃ b' off cap cur, v' = .slice (some ⟨b', off, none⟩) n cap ∧ n ≤ cap ∧ cap ≤ maxLen ∧ (b' = b ∨ w.heap.size ≤ b') ∧ Row w' b' 22 cur ∧ off + cap ≤ cur.length ∧ (cur.drop off).take n = hs
  kept : ∀ k t xs, Row w k t xs → k ≠ b → Row w' k t xs
  bel : ∀ {B : Nat} {w0 : World}, Below B w0 w → B ≤ b → Below B w0 w'

theorem app_room {w : World} {b off cap n : Nat} {cur hs : List Value} {hv : Value} (hr : Row w b 22 cur) (hf : off + cap ≤ cur.length) (hh : (cur.drop off).take n = hs) (hn : n + 1 ≤ cap) (hcm : cap ≤ maxLen) :
    App w (w.setCell ⟨b, off + n, none⟩ hv) b (.slice (some ⟨b, off, none⟩) (n + 1) cap) (n + 1) (hs ++ [hv]) := by
  refine ⟨⟨b, off, cap, _, rfl, hn, hcm, .inl rfl, hr.setCell _ _, by rw [List.length_set]; exact hf, ?_⟩, fun k t xs hk hne => hk.setCell_other (p := ⟨b, off + n, none⟩) hne _, fun hB hb => hB.setCell (p := ⟨b, off + n, none⟩) hb _⟩
  subst hh
  apply List.ext_getElem?
  intro i
  by_cases h1 : i < n
  · rw [List.getElem?_take_of_lt (by omega), List.getElem?_drop, List.getElem?_set_ne (by omega), List.getElem?_append_left (by rw [List.length_take, List.length_drop]; omega), List.getElem?_take_of_lt h1, List.getElem?_drop]
  · by_cases h2 : i = n
    · subst h2
      rw [List.getElem?_take_of_lt (by omega), List.getElem?_drop, List.getElem?_set_self (by omega), List.getElem?_append_right (by rw [List.length_take, List.length_drop]; omega)]
      have : i - ((cur.drop off).take i).length = 0 := by rw [List.length_take, List.length_drop]; omega
      rw [this]
      rfl
    · rw [List.getElem?_eq_none (by rw [List.length_take]; omega), List.getElem?_eq_none (by simp; omega)]
theorem app_grow {w w' : World} {b n : Nat} {hs : List Value} {v' : Value} (ho : w'.ownsRow w.heap.size 22 1 v' (n + 1) hs) (hg : w.grownBy w' none) (hb : b < w.heap.size) : App w w' b v' (n + 1) hs := by
  obtain ⟨h1, h2⟩ := ho
  have hk : Below w.heap.size w w' := ⟨hg.os, hg.tape, hg.output, hg.size, fun i hi => hg.block i hi (by simp)⟩
  rcases h2 with h2 | ⟨g, cap, cur, rfl, hg1, hg2, h3, h4, h5, h6⟩
  · omega
  · refine ⟨⟨g, 0, cap, cur.toList, rfl, h3, h4, .inr hg1, hg2, by simp [h5], ?_⟩, fun k t xs hr _ => hr.below hk hr.lt, fun hB hl => hB.trans (hk.mono (by omega))⟩
    simpa using h6
theorem step_line {ops : Array Oper} {o : Oper} {a : Act} {w : World} {K : Act → World → Prop} {Q : Exit → Act → World → Prop} {E : Prop}
    (hgd : o.guard = none) (s x : Operand) (ho : o.op = Op.call { callee := Callee.builtin Builtin.append, args := #[s, x], argTypes := #[39, 39] })
    {b off cap n : Nat} {cur hs : List Value} (he : a.eval s = .slice (some ⟨b, off, none⟩) n cap) (hn : n + 1 ≤ 1000) (hcm : cap ≤ maxLen) (hr : Row w b 22 cur) (hf : off + cap ≤ cur.length) (hc : n ≤ cap) (hh : (cur.drop off).take n = hs)
    {g c : Nat} {hv : Value} (hx : a.eval x = .slice (some ⟨g, 0, none⟩) 1 c) (hg : w.cell? ⟨g, 0, none⟩ = some hv) (h1 : hv.oneCell' = true)
    (h : ∀ v' w', App w w' b v' (n + 1) (hs ++ [hv]) → K (a.put o.dst v') w') :
    if Region.wanted o (yielded ops a.tmps) = true then Oper.wp Try.prog o a w K Q else E := by
  have hw : Region.wanted o (yielded ops a.tmps) = true := by simp [Region.wanted, hgd]
  rw [if_pos hw]
  obtain ⟨i, z, hi, hz, h2, h3, h4⟩ := slSl.hi
  have hcell : ∀ j u, [hv][j]? = some u → w.cell? ((⟨g, 0, none⟩ : Addr).add j) = some u := by
    intro j u hj
    have : j = 0 := by have := (List.getElem?_eq_some_iff.1 hj).1; simpa using this
    subst this
    simp at hj
    subst hj
    exact hg
  have hlen : hs.length = n := by rw [← hh, List.length_take, List.length_drop]; omega
  by_cases hroom : n + 1 ≤ cap
  · have hrun := run_append_room_cells (P := Try.prog) w 39 o.type _ i slSl.ht hi b off n cap ⟨g, 0, none⟩ 1 c [hv] (by simp [h2]) hcell (by simpa using h1) hroom
      (fun j hj => by
        have : j = 0 := by simpa using hj
        subst this
        rw [h2, hr.cell, List.getElem?_eq_getElem (by omega)]; rfl)
      (fun j hj => by
        have : j = 0 := by simpa using hj
        subst this
        exact hr.frozen _)
    unfold Oper.wp
    simp [execOp, ho, resolve, invoke, builtin, he, hx, hrun, Result.andThen]
    rw [h2, Nat.mul_one]
    exact h _ _ (app_room hr hf hh hroom hcm)
  · obtain ⟨v', w', hrun, r1, r2⟩ := run_append_arg_grows (P := Try.prog) w 39 o.type _ i z 1 24 slSl.ht hi hz h2 h3 h4 (by omega) ⟨b, off, none⟩ n cap hs (by omega)
      (fun j u hj => by
        subst hh
        rw [Addr.add_lit, hr.cell]
        rw [List.getElem?_take] at hj
        split at hj
        · rwa [List.getElem?_drop] at hj
        · cases hj) ⟨g, 0, none⟩ 1 c [hv] (by simp) hcell (by omega) (by unfold maxLen; omega) (by omega)
    unfold Oper.wp
    simp [execOp, ho, resolve, invoke, builtin, he, hx, hrun, Result.andThen]
    exact h _ _ (app_grow r1 r2 hr.lt)
/-- a line longer by one, laid in its place -/
theorem MayIn.more {w w' : World} {B gm : Nat} {vs : List Value} {ls : Nat → List (List Int)} (h : MayIn w B gm vs ls) {i b off cap n : Nat} (hi : vs[i]? = some (.slice (some ⟨b, off, none⟩) n cap)) {v' hv : Value} {hs : List Value} {s : List Int} (ha : App w w' b v' (n + 1) (hs ++ [hv]))
    (hb : ∃ cur, Row w b 22 cur) (hhs : Hds w hs (ls i)) (hn : hs.length = n) (hl : B ≤ b) (hB : B ≤ w.heap.size) (hhv : Hd w hv s) : MayIn (w'.setCell ⟨gm, i, none⟩ v') B gm (vs.set i v') (upd ls i (ls i ++ [s])) := by
  obtain ⟨cur0, hr0⟩ := hb
  obtain ⟨b', off', cap', cur, rfl, a1, a2, a3, a4, a5, a6⟩ := ha.row
  have k : ∀ {t : TypeId} {k : Nat} {xs : List Value}, Row w k t xs → t ≠ 22 → Row w' k t xs := fun hr ht => ha.kept _ _ _ hr (hr.ne hr0 ht)
  have hlen : (ls i ++ [s]).length = n + 1 := by rw [List.length_append, ← hhs.1, hn]; rfl
  refine h.set ?_ (k h.blk (by decide)) (fun b cur hr => k hr (by decide)) (fun j u b2 cur hj hu hub hr => ha.kept _ _ _ hr ?_) (fun j u c hj hu hc => ?_)
  · refine .inr ⟨b', off', cap', cur, hs ++ [hv], by rw [hlen], by rw [hlen]; exact a1, a2, ?_, a4, a5, by rw [hlen]; exact a6, (hhs.snoc hhv).row fun b cur hr => k hr (by decide)⟩
    rcases a3 with rfl | a3
    · exact hl
    · omega
  · intro e
    subst e
    exact h.apart i j _ u b2 (fun e => hj e.symm) hi hu rfl hub
  · intro hub
    simp only [Value.ownBlock] at hc
    injection hc with hc
    rcases a3 with e | a3
    · have e2 : c = b := hc.symm.trans e
      subst e2
      exact h.apart i j _ u c (fun e => hj e.symm) hi hu rfl hub
    · rcases h.line j u hu with ⟨rfl, _⟩ | ⟨b3, o3, c3, cur3, hs3, rfl, _, _, _, q4, _⟩
      · cases hub
      · simp only [Value.ownBlock] at hub
        injection hub with hub
        have hub2 : b3 = c := hub
        have hc2 : b' = c := hc
        have := q4.lt
        omega
/-- a new line of one -/
theorem MayIn.new {w w' : World} {B gm : Nat} {vs : List Value} {ls : Nat → List (List Int)} (h : MayIn w B gm vs ls) {i b : Nat} {hv : Value} {s : List Int} (hk : Below w.heap.size w w') (hb : w.heap.size ≤ b) (hB : B ≤ w.heap.size) (hr : Row w' b 22 [hv]) (hhv : Hd w' hv s) :
    MayIn (w'.setCell ⟨gm, i, none⟩ (.slice (some ⟨b, 0, none⟩) 1 1)) B gm (vs.set i (.slice (some ⟨b, 0, none⟩) 1 1)) (upd ls i [s]) := by
  refine h.set ?_ (h.blk.below hk h.blk.lt) (fun b cur hr => hr.below hk hr.lt) (fun j u b2 cur hj hu hub hr => hr.below hk hr.lt) (fun j u c hj hu hc => ?_)
  · exact .inr ⟨b, 0, 1, [hv], [hv], rfl, Nat.le_refl _, by unfold maxLen; omega, by omega, hr, Nat.le_refl _, rfl, (Hds.nil w').snoc hhv⟩
  · intro hub
    simp only [Value.ownBlock] at hc
    injection hc with hc
    rcases h.line j u hu with ⟨rfl, _⟩ | ⟨b3, o3, c3, cur3, hs3, rfl, _, _, _, q4, _⟩
    · cases hub
    · simp only [Value.ownBlock] at hub
      injection hub with hub
      have hub2 : b3 = c := hub
      have hc2 : b = c := hc
      have := q4.lt
      omega

end Go.Proofs.Ytjncpincmkpdpaa.line
