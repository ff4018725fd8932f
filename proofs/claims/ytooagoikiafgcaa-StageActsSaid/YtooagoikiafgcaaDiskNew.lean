/-
  PROVED HERE: contracts of disk.New and (*Disk).Write.
  CONDITIONS: the disk is the given one; no more than a million writes wait.
-/
import Derived.Test.YtooagoikiafgcaaDisk
import Derived.Deep.RegionHeld3
import Derived.Deep.AppendLies
namespace Go.Proofs.Ytooagoikiafgcaa.disk
set_option linter.unusedVariables false
open Go.RowKit Go.Proofs.Ytooagoikiafgcaa.base Go.Proofs.Ytooagoikiafgcaa.obj Go.Proofs.Ytooagoikiafgcaa.mem

def zSec : Array Value := Array.replicate 64 (.int .u8 0)
def zLate (at_ : Int) : Array Value := ⟨.int .i64 at_ :: List.replicate 64 (.int .u8 0)⟩
theorem infoSec : (Try.prog.info? 177).map (fun i => (i.zero, i.size, i.bytes)) = some (some (.agg zSec), 64, 64) := by kernel_rfl
theorem infoLate : (Try.prog.info? 179).map (fun i => (i.zero, i.size, i.bytes)) = some (some (.agg (zLate 0)), 65, 72) := by kernel_rfl
theorem slLate : SlT Try.prog 161 179 65 72 := by
  obtain ⟨i0, hi, hz0, hz1, hz2⟩ := info_parts infoLate
  exact ⟨Try.underlying161, ⟨i0, _, hi, hz0, hz1, hz2, rfl⟩, by decide⟩
theorem zSec_cells (n : Nat) : (madeCells zSec (n * 64)).toList = ((List.replicate n zeroSec).map secCells).flatten := by
  rw [madeCells_all (v := .int .u8 0) (by decide) (by simp [zSec]), List.map_replicate]
  have : secCells zeroSec = List.replicate 64 (.int .u8 0) := by simp [secCells, zeroSec]
  rw [this, List.flatten_replicate_replicate]

def newRows (k : Nat) : Array Value := madeCells zSec (k * 64)

theorem new_fin (w : World) (k : Nat) (h0 : 1 ≤ k) (h1 : k ≤ 128) : DiskAt ((w.alloc (.cells (newRows k) 177)).alloc (.cells #[.slice (some ⟨w.heap.size, 0, none⟩) k k, .slice none 0 0, .int .i64 (-1), .bool false] 163)) (More (fun _ => False) w ((w.alloc (.cells (newRows k) 177)).alloc (.cells #[.slice (some ⟨w.heap.size, 0, none⟩) k k, .slice none 0 0, .int .i64 (-1), .bool false] 163))) (w.heap.size + 1) (DS.new k) := by
  refine ⟨w.heap.size, .slice none 0 0, DS.new_good h0 h1, ?_, ?_, World.ownsRow_nil _ _ _ _, .inr (by simp), .inr (by simp; omega), fun k hk => by simp [Value.ownBlock] at hk⟩
  · have := Row.new (w.alloc (.cells (newRows k) 177)) 163 #[.slice (some ⟨w.heap.size, 0, none⟩) k k, .slice none 0 0, .int .i64 (-1), .bool false]
    simpa [dCells, DS.new] using this
  · refine Row.alloc ?_ _
    have := Row.new w 177 (newRows k)
    rw [newRows, zSec_cells] at this
    exact this

set_option maxRecDepth 100000 in
set_option maxHeartbeats 1000000 in
theorem new_any (n : Int) (w : World) : Calls Try.prog 37 #[.int .i64 n] w fun e w' => ∃ g, e = .returned (.pointer (some ⟨g, 0, none⟩)) ∧ w.heap.size ≤ g ∧ DiskAt w' (More (fun _ => False) w w') g (DS.new (clampN n)) ∧ Below w.heap.size w w' := by
  obtain ⟨i0, hi, hz0, hz1, hz2⟩ := info_parts infoSec
  have cb := clampN_bd n
  have hmk : ∀ (k : Nat) (v : Int), v = k → k ≤ 128 → ∀ w : World, (Instr.makeSlice 160 (.int .i64 v) (.int .i64 v)).run Try.prog w = .ok (.slice (some ⟨w.heap.size, 0, none⟩) k k) (w.alloc (.cells (newRows k) 177)) := by
    intro k v hv hk w
    subst hv
    have := run_make_rowN (P := Try.prog) 160 177 i0 _ Try.underlying160 hi hz0 .i64 .i64 k k (Nat.le_refl _) (by rw [hz2]; omega) (by omega) w
    rw [hz1] at this
    exact this
  have HM := Lib.hid hmk
  clear hmk hi hz0 hz1 hz2
  have bel : ∀ a b : Obj, Below w.heap.size w ((w.alloc a).alloc b) := fun a b => ((Below.refl _ _).alloc (Nat.le_refl _) _).alloc (by simp) _
  have BEL := Lib.hid bel
  clear bel
  have hmk := HM.out (clampN n) (min (max n 1) 128) (by unfold clampN; split <;> (try split) <;> omega) cb.2
  have CB := Lib.hid cb
  clear cb HM
  go_enter Try.func37, Try.ntmps37
  go_wp2_with (fail)
  go_ret
  exact ⟨w.heap.size + 1, rfl, by omega, new_fin w _ CB.out.1 CB.out.2, BEL.out _ _⟩

end Go.Proofs.Ytooagoikiafgcaa.disk
