/-
  PROVED HERE: plain laws of a disk: what a sector reads as behind a write, a flush, a failure of power; a sector that is written and flushed ('wf'). No program.
  CONDITIONS: each lemma names its own.
-/
import Derived.Test.YtooagoikiafgcaaDiskMath
import Derived.Test.YtooagoikiafgcaaCrc
namespace Go.Proofs.Ytooagoikiafgcaa.disk
set_option linter.unusedVariables false
open Go.Proofs.Ytooagoikiafgcaa.crc

/-- a sector that is written, and flushed -/
def wf (m : DS) (i : Int) (bs : List Int) : Int × DS := if (m.write i bs).1 = 0 then (m.write i bs).2.flush else m.write i bs

/-- all bytes are -/
structure DS.Bts (m : DS) : Prop where
  secs : ∀ s ∈ m.secs, Byt s
  waits : ∀ p ∈ m.waits, Byt p.2
theorem byt_nil : Byt [] := fun z hz => absurd hz (by simp)
theorem byt_zero : Byt zeroSec := fun z hz => by rw [(List.mem_replicate.1 hz).2]; omega
theorem getD_byt {s : List (List Int)} (h : ∀ x ∈ s, Byt x) (i : Nat) : Byt (s.getD i []) := by
  rw [List.getD_eq_getElem?_getD]
  cases hq : s[i]? with
  | none => exact byt_nil
  | some x => exact h x (List.mem_of_getElem? hq)
theorem nowTo_byt {ws : List (Nat × List Int)} {s : List Int} {i : Nat} (hw : ∀ p ∈ ws, Byt p.2) (hs : Byt s) : ∀ k, Byt (nowTo ws s i k)
  | 0 => hs
  | k + 1 => by
    have ih := nowTo_byt (i := i) hw hs k
    rw [nowTo]
    split
    · rename_i p hp
      split
      · exact hw p (List.mem_of_getElem? hp)
      · exact ih
    · exact ih
theorem DS.Bts.now {m : DS} (h : m.Bts) (i : Nat) : Byt (m.now i) := nowTo_byt h.waits (getD_byt h.secs i) _
theorem DS.Good.now_len {m : DS} (h : m.Good) {i : Nat} (hi : i < m.secs.length) : (m.now i).length = 64 := by
  unfold DS.now
  refine nowTo_len (fun p hp => (h.waits p hp).2) ?_ _ (Nat.le_refl _)
  rw [List.getD_eq_getElem?_getD, List.getElem?_eq_getElem hi]
  exact h.secs _ (List.getElem_mem _)
theorem DS.new_bts (n : Nat) : (DS.new n).Bts := ⟨fun s hs => by rw [(List.mem_replicate.1 hs).2]; exact byt_zero, fun p hp => absurd hp (by simp [DS.new])⟩
theorem DS.Bts.burnt {m : DS} (h : m.Bts) : m.burnt.Bts := ⟨by rw [DS.burnt_secs]; exact h.secs, by rw [DS.burnt_waits]; exact h.waits⟩
theorem DS.Bts.write {m : DS} (h : m.Bts) (i : Int) {bs : List Int} (hb : Byt bs) : (m.write i bs).2.Bts := by
  unfold DS.write
  split
  · exact h
  · split
    · exact h
    · split
      · refine ⟨h.burnt.secs, fun p hp => ?_⟩
        rcases List.mem_append.1 hp with hp | hp
        · exact h.burnt.waits p hp
        · rw [List.mem_singleton.1 hp]; exact hb
      · exact h.burnt
theorem layTo_byt {p : Nat → Bool} {ws : List (Nat × List Int)} {s : List (List Int)} (hw : ∀ q ∈ ws, Byt q.2) (hs : ∀ q ∈ s, Byt q) : ∀ k, ∀ q ∈ layTo p ws s k, Byt q
  | 0 => hs
  | k + 1 => by
    have ih := layTo_byt (p := p) hw hs k
    intro q hq
    rw [layTo] at hq
    split at hq
    · rename_i w hw'
      split at hq
      · rcases List.mem_or_eq_of_mem_set hq with h | h
        · exact ih q h
        · subst h
          exact hw w (List.mem_of_getElem? hw')
      · exact ih q hq
    · exact ih q hq
theorem DS.Bts.lay {m : DS} (h : m.Bts) (p : Nat → Bool) : (m.lay p).Bts := ⟨layTo_byt h.waits h.secs _, fun q hq => absurd hq (by simp [DS.lay])⟩
theorem DS.Bts.flush {m : DS} (h : m.Bts) : m.flush.2.Bts := by
  unfold DS.flush
  split
  · exact h.burnt.lay _
  · exact h.burnt
theorem DS.Bts.power {m : DS} (h : m.Bts) (k : Int) : (m.power k).Bts := ⟨(h.lay (keeps k)).secs, (h.lay (keeps k)).waits⟩
theorem DS.Bts.setFuse {m : DS} (h : m.Bts) (k : Int) : (m.setFuse k).Bts := by
  unfold DS.setFuse
  split
  · exact h
  · exact ⟨h.secs, h.waits⟩
theorem DS.Bts.wf {m : DS} (h : m.Bts) (i : Int) {bs : List Int} (hb : Byt bs) : (wf m i bs).2.Bts := by
  unfold Go.Proofs.Ytooagoikiafgcaa.disk.wf
  split
  · exact (h.write i hb).flush
  · exact h.write i hb
theorem DS.Good.write {m : DS} (h : m.Good) (i : Int) {bs : List Int} : (m.write i bs).2.Good := by
  unfold DS.write
  split
  · exact h
  · split
    · exact h
    · split
      · exact DS.put_good (DS.burnt_good h) (by rw [DS.burnt_secs]; omega) (by omega)
      · exact DS.burnt_good h
theorem DS.Good.flush {m : DS} (h : m.Good) : m.flush.2.Good := by
  unfold DS.flush
  split
  · exact DS.lay_good (DS.burnt_good h) _
  · exact DS.burnt_good h
theorem DS.Good.wf {m : DS} (h : m.Good) (i : Int) (bs : List Int) : (wf m i bs).2.Good := by
  unfold Go.Proofs.Ytooagoikiafgcaa.disk.wf
  split
  · exact (h.write i).flush
  · exact h.write i
theorem DS.write_secs (m : DS) (i : Int) (bs : List Int) : (m.write i bs).2.secs = m.secs := by
  unfold DS.write
  split
  · rfl
  · split
    · rfl
    · split
      · exact DS.burnt_secs m
      · exact DS.burnt_secs m
theorem DS.lay_slen (m : DS) (p : Nat → Bool) : (m.lay p).secs.length = m.secs.length := layTo_len _ _ _ _
theorem DS.flush_slen (m : DS) : m.flush.2.secs.length = m.secs.length := by
  unfold DS.flush
  split
  · rw [DS.lay_slen, DS.burnt_secs]
  · rw [DS.burnt_secs]
theorem wf_slen (m : DS) (i : Int) (bs : List Int) : (wf m i bs).2.secs.length = m.secs.length := by
  unfold wf
  split
  · rw [DS.flush_slen, DS.write_secs]
  · rw [DS.write_secs]
theorem DS.power_slen (m : DS) (k : Int) : (m.power k).secs.length = m.secs.length := DS.lay_slen m _

theorem nowTo_snoc (ws : List (Nat × List Int)) (x : Nat × List Int) (s : List Int) (i : Nat) : ∀ k, k ≤ ws.length → nowTo (ws ++ [x]) s i k = nowTo ws s i k
  | 0, _ => rfl
  | k + 1, h => by
    rw [nowTo, nowTo, nowTo_snoc ws x s i k (by omega), List.getElem?_append_left (by omega)]
theorem DS.put_now (m : DS) (i : Nat) (bs : List Int) (j : Nat) : (m.put i bs).now j = if j = i then bs else m.now j := by
  unfold DS.now DS.put
  simp only [List.length_append, List.length_singleton]
  rw [nowTo, List.getElem?_append_right (Nat.le_refl _)]
  simp only [Nat.sub_self, List.getElem?_cons_zero]
  rw [nowTo_snoc _ _ _ _ _ (Nat.le_refl _)]
  by_cases h : i = j
  · rw [if_pos h, if_pos h.symm]
  · rw [if_neg h, if_neg fun e => h e.symm]
theorem DS.burnt_now (m : DS) (j : Nat) : m.burnt.now j = m.now j := by unfold DS.now; rw [DS.burnt_waits, DS.burnt_secs]
theorem getD_set (l : List (List Int)) (i j : Nat) (x : List Int) : (l.set i x).getD j [] = if j = i ∧ i < l.length then x else l.getD j [] := by
  rw [List.getD_eq_getElem?_getD, List.getElem?_set, List.getD_eq_getElem?_getD]
  by_cases h : i = j
  · subst h
    by_cases hl : i < l.length
    · simp [hl]
    · simp [hl]
  · have h' : ¬ j = i := fun e => h e.symm
    simp [h, h']
theorem lay_nowTo (ws : List (Nat × List Int)) (s : List (List Int)) (j : Nat) (hw : ∀ p ∈ ws, p.1 < s.length) : ∀ k, k ≤ ws.length → (layTo (fun _ => true) ws s k).getD j [] = nowTo ws (s.getD j []) j k
  | 0, _ => rfl
  | k + 1, h => by
    have ih := lay_nowTo ws s j hw k (by omega)
    rw [layTo_yes (by omega) rfl, getD_set, layTo_len]
    have hl := hw _ (List.getElem_mem (show k < ws.length by omega))
    by_cases e : (ws[k]'(by omega)).1 = j
    · rw [if_pos ⟨e.symm, hl⟩, nowTo_hit (by omega) e]
    · rw [if_neg fun x => e x.1.symm, nowTo_miss (by omega) e, ih]
theorem DS.lay_now {m : DS} (h : m.Good) (j : Nat) : (m.lay fun _ => true).now j = m.now j := lay_nowTo m.waits m.secs j (fun p hp => (h.waits p hp).1) _ (Nat.le_refl _)
theorem DS.flush_now {m : DS} (h : m.Good) (j : Nat) : m.flush.2.now j = m.now j := by
  unfold DS.flush
  split
  · rw [DS.lay_now (DS.burnt_good h), DS.burnt_now]
  · rw [DS.burnt_now]
theorem DS.now_nil {m : DS} (h : m.waits = []) (j : Nat) : m.now j = m.secs.getD j [] := by unfold DS.now; rw [h]; rfl
theorem DS.new_now {n j : Nat} (h : j < n) : (DS.new n).now j = zeroSec := by
  rw [DS.now_nil rfl]
  simp [DS.new, List.getD_eq_getElem?_getD, h]

theorem write_in {m : DS} {i : Int} {bs : List Int} (h0 : 0 ≤ i) (h1 : i < m.secs.length) (hb : bs.length = 64) : m.write i bs = if m.goes then (0, m.burnt.put i.toNat bs) else (8, m.burnt) := by
  unfold DS.write
  rw [if_neg (by omega), if_neg (by omega)]
theorem burnt_go {m : DS} (h : m.goes = true) : m.burnt.down = false := by
  unfold DS.goes at h
  unfold DS.burnt
  simp at h
  simp [h]
theorem burnt_no {m : DS} (h : m.goes = false) : m.burnt.down = true := by
  unfold DS.goes at h
  unfold DS.burnt
  have h' : (m.down || m.fuse == 0) = true := by cases hq : (m.down || m.fuse == 0) <;> simp [hq] at h ⊢
  rw [if_pos h']
/-- what goes on -/
theorem wf_ok {m : DS} (hg : m.Good) {i : Int} {bs : List Int} (h0 : 0 ≤ i) (h1 : i < m.secs.length) (hb : bs.length = 64) (h : (wf m i bs).1 = 0) :
    (wf m i bs).2.waits = [] ∧ (wf m i bs).2.down = false ∧ ∀ j, (wf m i bs).2.now j = if j = i.toNat then bs else m.now j := by
  unfold wf at *
  have hw := write_in h0 h1 hb
  by_cases hgo : m.goes = true
  · rw [if_pos hgo] at hw
    have hgd : (m.burnt.put i.toNat bs).Good := DS.put_good (DS.burnt_good hg) (by rw [DS.burnt_secs]; omega) hb
    rw [hw] at h ⊢
    simp only [if_true] at h ⊢
    by_cases hf : (m.burnt.put i.toNat bs).goes = true
    · have e : (m.burnt.put i.toNat bs).flush = (0, (m.burnt.put i.toNat bs).burnt.lay fun _ => true) := by unfold DS.flush; rw [if_pos hf]
      have hn := fun j => DS.flush_now hgd j
      rw [e] at hn ⊢
      refine ⟨rfl, burnt_go hf, fun j => ?_⟩
      rw [hn j, DS.put_now, DS.burnt_now]
    · have e : (m.burnt.put i.toNat bs).flush.1 = 8 := by unfold DS.flush; rw [if_neg hf]
      rw [e] at h
      exact absurd h (by decide)
  · rw [if_neg hgo] at hw
    rw [hw] at h
    exact absurd (show (8 : Int) = 0 from h) (by decide)
/-- what fails -/
theorem wf_err {m : DS} {i : Int} {bs : List Int} (h0 : 0 ≤ i) (h1 : i < m.secs.length) (hb : bs.length = 64) (h : (wf m i bs).1 ≠ 0) :
    (wf m i bs).1 = 8 ∧ (wf m i bs).2.down = true ∧ (wf m i bs).2.secs = m.secs ∧ ((wf m i bs).2.waits = m.waits ∨ (wf m i bs).2.waits = m.waits ++ [(i.toNat, bs)]) := by
  unfold wf at *
  have hw := write_in h0 h1 hb
  by_cases hgo : m.goes = true
  · rw [if_pos hgo] at hw
    rw [hw] at h ⊢
    simp only [if_true] at h ⊢
    by_cases hf : (m.burnt.put i.toNat bs).goes = true
    · have e : (m.burnt.put i.toNat bs).flush.1 = 0 := by unfold DS.flush; rw [if_pos hf]
      exact absurd e h
    · have e : (m.burnt.put i.toNat bs).flush = (8, (m.burnt.put i.toNat bs).burnt) := by unfold DS.flush; rw [if_neg hf]
      rw [e]
      refine ⟨rfl, burnt_no (by simpa using hf), ?_, .inr ?_⟩
      · show (m.burnt.put i.toNat bs).burnt.secs = m.secs
        rw [DS.burnt_secs]; exact DS.burnt_secs m
      · show (m.burnt.put i.toNat bs).burnt.waits = m.waits ++ [(i.toNat, bs)]
        rw [DS.burnt_waits]
        show m.burnt.waits ++ [(i.toNat, bs)] = _
        rw [DS.burnt_waits]
  · rw [if_neg hgo] at hw
    rw [hw]
    exact ⟨rfl, burnt_no (by simpa using hgo), DS.burnt_secs m, .inl (DS.burnt_waits m)⟩
theorem burnt_down {m : DS} (h : m.down = true) : m.burnt = m := by
  unfold DS.burnt
  rw [h]
  simp only [Bool.true_or, if_true]
  rw [← h]
theorem wf_down {m : DS} {i : Int} {bs : List Int} (h0 : 0 ≤ i) (h1 : i < m.secs.length) (hb : bs.length = 64) (h : m.down = true) : wf m i bs = (8, m) := by
  have hg : m.goes = false := by unfold DS.goes; rw [h]; rfl
  have e : m.write i bs = (8, m) := by rw [write_in h0 h1 hb, hg, burnt_down h]; rfl
  unfold wf
  rw [e]
  rfl
/-- a disk whose fuse isn't lit -/
def DS.Up (m : DS) : Prop := m.down = false ∧ m.fuse = -1
theorem DS.Up.goes {m : DS} (h : m.Up) : m.goes = true := by unfold DS.goes; rw [h.1, h.2]; rfl
theorem DS.Up.burnt {m : DS} (h : m.Up) : m.burnt = m := by
  unfold DS.burnt
  rw [h.1, h.2]
  have h1 := h.1; have h2 := h.2
  obtain ⟨a, b, c, d⟩ := m
  simp only at h1 h2
  subst h1; subst h2
  rfl
theorem wf_up {m : DS} {i : Int} {bs : List Int} (h0 : 0 ≤ i) (h1 : i < m.secs.length) (hb : bs.length = 64) (h : m.Up) : wf m i bs = (0, (m.put i.toNat bs).lay fun _ => true) ∧ (wf m i bs).2.Up := by
  have e : m.write i bs = (0, m.put i.toNat bs) := by rw [write_in h0 h1 hb, if_pos h.goes, h.burnt]
  have hp : (m.put i.toNat bs).Up := h
  have e2 : wf m i bs = (0, (m.put i.toNat bs).lay fun _ => true) := by
    unfold wf
    rw [e]
    simp only [if_true]
    unfold DS.flush
    rw [if_pos hp.goes, hp.burnt]
  exact ⟨e2, by rw [e2]; exact hp⟩
theorem DS.new_up (n : Nat) : (DS.new n).Up := ⟨rfl, rfl⟩
theorem DS.power_up (m : DS) (k : Int) : (m.power k).Up := ⟨rfl, rfl⟩
theorem DS.power_waits (m : DS) (k : Int) : (m.power k).waits = [] := rfl
/-- a failure of power where at most one write waits -/
theorem power_one {m : DS} {i : Nat} {bs : List Int} (h : m.waits = [] ∨ m.waits = [(i, bs)]) (k : Int) : (m.power k).secs = m.secs ∨ (m.waits = [(i, bs)] ∧ (m.power k).secs = m.secs.set i bs) := by
  show layTo (keeps k) m.waits m.secs m.waits.length = _ ∨ (_ ∧ layTo (keeps k) m.waits m.secs m.waits.length = _)
  rcases h with h | h
  · rw [h]; exact .inl rfl
  · rw [h]
    by_cases hk : keeps k 0 = true
    · refine .inr ⟨rfl, ?_⟩
      rw [show [(i, bs)].length = 0 + 1 from rfl, layTo_yes (by simp) hk]
      rfl
    · refine .inl ?_
      rw [show [(i, bs)].length = 0 + 1 from rfl, layTo_no (by simp) (by simpa using hk)]
      rfl
end Go.Proofs.Ytooagoikiafgcaa.disk
