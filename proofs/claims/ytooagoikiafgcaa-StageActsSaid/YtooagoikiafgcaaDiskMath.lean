/-
  PROVED HERE: a disk as plain lists: sectors, what waits, the fuse; what its calls make of it.
  CONDITIONS: none.
-/
import Derived.Test.YtooagoikiafgcaaMem
namespace Go.Proofs.Ytooagoikiafgcaa.disk
set_option linter.unusedVariables false

structure DS where
  secs : List (List Int)
  waits : List (Nat × List Int)
  fuse : Int
  down : Bool

def secCells (s : List Int) : List Value := s.map (.int .u8)
def waitCells (p : Nat × List Int) : List Value := .int .i64 p.1 :: p.2.map (.int .u8)

/-- a disk of the right sizes -/
structure DS.Good (m : DS) : Prop where
  secs : ∀ s ∈ m.secs, s.length = 64
  waits : ∀ p ∈ m.waits, p.1 < m.secs.length ∧ p.2.length = 64
  fuse0 : -1 ≤ m.fuse
  fuse1 : m.fuse ≤ 9223372036854775807
  n0 : 1 ≤ m.secs.length
  n1 : m.secs.length ≤ 128

def clampN (n : Int) : Nat := if n < 1 then 1 else if 128 < n then 128 else n.toNat
theorem clampN_bd (n : Int) : 1 ≤ clampN n ∧ clampN n ≤ 128 := by unfold clampN; split <;> (try split) <;> omega
def zeroSec : List Int := List.replicate 64 0
def DS.new (n : Nat) : DS := ⟨List.replicate n zeroSec, [], -1, false⟩
theorem DS.new_good {n : Nat} (h0 : 1 ≤ n) (h1 : n ≤ 128) : (DS.new n).Good := by
  refine ⟨fun s hs => ?_, fun p hp => absurd hp (by simp [DS.new]), by simp [DS.new], by simp [DS.new], by simpa [DS.new] using h0, by simpa [DS.new] using h1⟩
  rw [(List.mem_replicate.1 hs).2]
  rfl

/-- does a call go on? -/
def DS.goes (m : DS) : Bool := !(m.down || m.fuse == 0)
def DS.burnt (m : DS) : DS := if m.down || m.fuse == 0 then { m with down := true } else { m with fuse := max (m.fuse - 1) (-1) }
theorem DS.burnt_good {m : DS} (h : m.Good) : m.burnt.Good := by
  have h0 := h.fuse0
  have h1 := h.fuse1
  unfold DS.burnt
  split
  · exact ⟨h.secs, h.waits, h0, h1, h.n0, h.n1⟩
  · exact ⟨h.secs, h.waits, by simp only; omega, by simp only; omega, h.n0, h.n1⟩
theorem DS.burnt_secs (m : DS) : m.burnt.secs = m.secs := by unfold DS.burnt; split <;> rfl
theorem DS.burnt_waits (m : DS) : m.burnt.waits = m.waits := by unfold DS.burnt; split <;> rfl

/-- a write behind a burn -/
def DS.put (m : DS) (at_ : Nat) (b : List Int) : DS := { m with waits := m.waits ++ [(at_, b)] }
theorem DS.put_good {m : DS} (h : m.Good) {at_ : Nat} {b : List Int} (h0 : at_ < m.secs.length) (h1 : b.length = 64) : (m.put at_ b).Good := by
  refine ⟨h.secs, fun p hp => ?_, h.fuse0, h.fuse1, h.n0, h.n1⟩
  simp only [DS.put, List.mem_append, List.mem_singleton] at hp
  rcases hp with hp | rfl
  · exact h.waits p hp
  · exact ⟨h0, h1⟩
def DS.write (m : DS) (at_ : Int) (b : List Int) : Int × DS :=
  if at_ < 0 ∨ m.secs.length ≤ at_ then (3, m) else if b.length ≠ 64 then (14, m) else if m.goes then (0, m.burnt.put at_.toNat b) else (8, m.burnt)

/-- the last of the first k writes at a sector -/
def nowTo (ws : List (Nat × List Int)) (s : List Int) (at_ : Nat) : Nat → List Int
  | 0 => s
  | k + 1 => match ws[k]? with
    | some w => if w.1 = at_ then w.2 else nowTo ws s at_ k
    | none => nowTo ws s at_ k
theorem nowTo_hit {ws : List (Nat × List Int)} {s : List Int} {at_ k : Nat} (h : k < ws.length) (e : ws[k].1 = at_) : nowTo ws s at_ (k + 1) = ws[k].2 := by
  simp [nowTo, List.getElem?_eq_getElem h, e]
theorem nowTo_miss {ws : List (Nat × List Int)} {s : List Int} {at_ k : Nat} (h : k < ws.length) (e : ws[k].1 ≠ at_) : nowTo ws s at_ (k + 1) = nowTo ws s at_ k := by
  simp [nowTo, List.getElem?_eq_getElem h, e]
theorem nowTo_len {ws : List (Nat × List Int)} {s : List Int} {at_ : Nat} (hw : ∀ p ∈ ws, p.2.length = 64) (hs : s.length = 64) : ∀ k, k ≤ ws.length → (nowTo ws s at_ k).length = 64
  | 0, _ => hs
  | k + 1, h => by
    have ih := nowTo_len (at_ := at_) hw hs k (by omega)
    by_cases e : (ws[k]'(by omega)).1 = at_
    · rw [nowTo_hit (by omega) e]
      exact hw _ (List.getElem_mem _)
    · rw [nowTo_miss (by omega) e]
      exact ih
def DS.now (m : DS) (at_ : Nat) : List Int := nowTo m.waits (m.secs.getD at_ []) at_ m.waits.length

/-- what the first k of the writes that wait make of the sectors, where p tells which are kept -/
def layTo (p : Nat → Bool) (ws : List (Nat × List Int)) (s : List (List Int)) : Nat → List (List Int)
  | 0 => s
  | k + 1 => match ws[k]? with
    | some w => if p k then (layTo p ws s k).set w.1 w.2 else layTo p ws s k
    | none => layTo p ws s k
theorem layTo_yes {p : Nat → Bool} {ws : List (Nat × List Int)} {s : List (List Int)} {k : Nat} (h : k < ws.length) (e : p k = true) : layTo p ws s (k + 1) = (layTo p ws s k).set ws[k].1 ws[k].2 := by
  simp [layTo, List.getElem?_eq_getElem h, e]
theorem layTo_no {p : Nat → Bool} {ws : List (Nat × List Int)} {s : List (List Int)} {k : Nat} (h : k < ws.length) (e : p k = false) : layTo p ws s (k + 1) = layTo p ws s k := by
  simp [layTo, List.getElem?_eq_getElem h, e]
theorem layTo_len (p : Nat → Bool) (ws : List (Nat × List Int)) (s : List (List Int)) : ∀ k, (layTo p ws s k).length = s.length
  | 0 => rfl
  | k + 1 => by
    have ih := layTo_len p ws s k
    rw [layTo]
    split
    · split
      · rw [List.length_set, ih]
      · exact ih
    · exact ih
theorem layTo_64 {p : Nat → Bool} {ws : List (Nat × List Int)} {s : List (List Int)} (hw : ∀ q ∈ ws, q.2.length = 64) (hs : ∀ q ∈ s, q.length = 64) : ∀ k, ∀ q ∈ layTo p ws s k, q.length = 64
  | 0 => hs
  | k + 1 => by
    have ih := layTo_64 (p := p) hw hs k
    intro q hq
    rw [layTo] at hq
    split at hq
    · rename_i w hw'
      split at hq
      · rcases List.mem_or_eq_of_mem_set hq with h | h
        · exact ih q h
        · subst h
          exact hw w (List.mem_of_getElem? hw')
      · exact ih q hq
    · exact ih q hq
def DS.lay (m : DS) (p : Nat → Bool) : DS := { m with secs := layTo p m.waits m.secs m.waits.length, waits := [] }
theorem DS.lay_good {m : DS} (h : m.Good) (p : Nat → Bool) : (m.lay p).Good := by
  refine ⟨layTo_64 (fun q hq => (h.waits q hq).2) h.secs _, fun q hq => absurd hq (by simp [DS.lay]), h.fuse0, h.fuse1, ?_, ?_⟩
  · show 1 ≤ (layTo _ _ _ _).length
    rw [layTo_len]; exact h.n0
  · show (layTo _ _ _ _).length ≤ 128
    rw [layTo_len]; exact h.n1
def DS.flush (m : DS) : Int × DS := if m.goes then (0, m.burnt.lay fun _ => true) else (8, m.burnt)
def keeps (keep : Int) (i : Nat) : Bool := decide (i < 64) && (keep / 2 ^ i % 2 == 1)
def DS.power (m : DS) (keep : Int) : DS := { m.lay (keeps keep) with fuse := -1, down := false }
theorem DS.power_good {m : DS} (h : m.Good) (keep : Int) : (m.power keep).Good := by
  have g := DS.lay_good h (keeps keep)
  exact ⟨g.secs, g.waits, by simp [DS.power], by simp [DS.power], g.n0, g.n1⟩
def DS.setFuse (m : DS) (n : Int) : DS := if m.down then m else { m with fuse := max n (-1) }
theorem DS.setFuse_good {m : DS} (h : m.Good) {n : Int} (hn : n ≤ 9223372036854775807) : (m.setFuse n).Good := by
  unfold DS.setFuse
  split
  · exact h
  · exact ⟨h.secs, h.waits, by simp only; omega, by simp only; omega, h.n0, h.n1⟩

end Go.Proofs.Ytooagoikiafgcaa.disk
