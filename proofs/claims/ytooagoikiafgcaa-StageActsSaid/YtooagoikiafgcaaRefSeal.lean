/-
  PROVED HERE: a sector of some first bytes, as the document tells it; a record's sector.
  CONDITIONS: each contract names its own.
-/
import Derived.Test.YtooagoikiafgcaaRefRec
namespace Go.Proofs.Ytooagoikiafgcaa.refRec
set_option linter.unusedVariables false
open Go.RowKit Go.Proofs.Ytooagoikiafgcaa.base Go.Proofs.Ytooagoikiafgcaa.obj Go.Proofs.Ytooagoikiafgcaa.mem Go.Proofs.Ytooagoikiafgcaa.crc Go.Proofs.Ytooagoikiafgcaa.num Go.Proofs.Ytooagoikiafgcaa.bytes Go.Proofs.Ytooagoikiafgcaa.record Go.Proofs.Ytooagoikiafgcaa.refNum

theorem _root_.Go.Proofs.Ytooagoikiafgcaa.mem.Row.grown {w w' : World} {g : Nat} {t : TypeId} {xs : List Value} {row : Option Nat} (h : Row w g t xs) (k : w.grownBy w' row) (hn : row ≠ some g) : Row w' g t xs := (k.block g h.lt (fun e => hn e.symm)).trans h
/-- a row of the call's own is not a block of another type -/
theorem own_ne {w : World} {base g : Nat} {e t : TypeId} {size : Nat} {v : Value} {n : Nat} {xs ys : List Value} (ho : w.ownsRow base e size v n xs) (hr : Row w g t ys) (ht : t ≠ e) : v.ownBlock ≠ some g := by
  intro h
  rcases ho.2 with ⟨rfl, _⟩ | ⟨k, cap, cur, rfl, _, hk, _⟩
  · simp [Value.ownBlock] at h
  · simp only [Value.ownBlock, Option.some.injEq] at h
    subst h
    unfold Row at hr
    rw [hk] at hr
    injection hr with hr
    injection hr with _ h2
    exact ht h2.symm
/-- the first j of q, and zeros -/
def fillZ (q : List Int) (N j : Nat) : List Int := q.take j ++ List.replicate (N - j) 0
theorem fillZ_length (q : List Int) (N j : Nat) (h : j ≤ q.length) (hN : j ≤ N) : (fillZ q N j).length = N := by simp [fillZ]; omega
theorem fillZ_set (q : List Int) (N j : Nat) (h : j < q.length) (hN : j < N) : (fillZ q N j).set j q[j] = fillZ q N (j + 1) := by
  unfold fillZ
  rw [List.set_append_right _ _ (by simp; omega), List.take_succ_eq_append_getElem h, show N - j = (N - (j + 1)) + 1 by omega, List.replicate_succ]
  rw [List.length_take, Nat.min_eq_left (by omega), Nat.sub_self, List.set_cons_zero, List.append_assoc]
  rfl
def z64 : Array Value := Array.replicate 64 (.int .u8 0)
theorem make64 (w : World) : (Instr.makeSlice 76 (.int .i64 64) (.int .i64 64)).run Try.prog w = .ok (.slice (some ⟨w.heap.size, 0, none⟩) 64 64) (w.alloc (.cells z64 5)) := by
  have h := make_eq 64 (by decide) w
  rw [show ((64 : Nat) : Int) = 64 from rfl] at h
  rw [h]
  rfl
theorem z64_row (w : World) (q : List Int) : Row (w.alloc (.cells z64 5)) w.heap.size 5 ((fillZ q 64 0).map (.int .u8)) := by
  have h := zero_row w 64
  unfold fillZ
  rw [List.take_zero, List.nil_append]
  exact h
theorem fillZ_seal (p : List Int) (h : p.length ≤ 60) : fillZ (p ++ be 4 (sum p)) 64 (p.length + 4) = sealB p := by
  unfold fillZ sealB
  rw [List.take_of_length_le (by simp [be_length]), show 64 - (p.length + 4) = 60 - p.length by omega]

end Go.Proofs.Ytooagoikiafgcaa.refRec
