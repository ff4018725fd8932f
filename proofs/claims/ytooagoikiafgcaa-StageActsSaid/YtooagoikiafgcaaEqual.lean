/-
  PROVED HERE: bytes.Equal of bytes that are there; make of bytes.
  CONDITIONS: both slices have a byte.
-/
import Derived.Test.YtooagoikiafgcaaBytes
import Derived.Test.YtooagoikiafgcaaCrcMath
import Derived.Laws.BytesArg
import Derived.Deep.OwnRows
import Derived.Lib.Bytes
namespace Go.Proofs.Ytooagoikiafgcaa.bytes
set_option linter.unusedVariables false
open Go.RowKit Go.Deep Go.Proofs.Ytooagoikiafgcaa.base Go.Proofs.Ytooagoikiafgcaa.obj Go.Proofs.Ytooagoikiafgcaa.mem Go.Proofs.Ytooagoikiafgcaa.crc

theorem str_inj (xs ys : List Int) (hx : Byt xs) (hy : Byt ys) : ((strOfNums xs).toList == (strOfNums ys).toList) = decide (xs = ys) := by
  rw [Bool.eq_iff_iff, decide_eq_true_iff, beq_iff_eq, Lib.strOfNums_toList, Lib.strOfNums_toList]
  constructor
  · intro h
    have e : xs.map (fun n => UInt8.ofNat n.toNat) = ys.map (fun n => UInt8.ofNat n.toNat) := h
    have back : ∀ zs : List Int, Byt zs → (zs.map (fun n => UInt8.ofNat n.toNat)).map (fun u => ((u.toNat : Nat) : Int)) = zs := by
      intro zs hz
      rw [List.map_map]
      conv => rhs; rw [← List.map_id zs]
      apply List.map_congr_left
      intro z h
      have := hz z h
      simp [UInt8.toNat_ofNat']
      omega
    rw [← back xs hx, ← back ys hy, e]
  · intro h; rw [h]

theorem conv_str (w : World) (A : Option Addr) (n c : Nat) (xs : List Int) (hl : xs.length = n) (h0 : 0 < n) (hs : Sl w w.heap.size 1 A n (xs.map (.int .u8))) : (convert 76 9 (.slice A n c)).run Try.prog w = .ok (.string (strOfNums xs)) w := by
  obtain ⟨b, o, rfl, _, hc⟩ := hs.2 h0
  refine run_convert_bytes_arg w 76 5 Try.underlying76 Try.underlying5 b o n c xs hl (fun i hi => ?_) 9 Try.underlying9
  refine hc i _ ?_
  have hi2 : i < xs.length := by omega
  simp [hi2]

set_option maxRecDepth 100000 in
set_option maxHeartbeats 2000000 in
theorem equal_at (w : World) (A A' : Option Addr) (n m c c' : Nat) (xs ys : List Int) (hn : xs.length = n) (hm : ys.length = m) (h0 : 0 < n) (h1 : 0 < m) (hx : Byt xs) (hy : Byt ys) (hs : Sl w w.heap.size 1 A n (xs.map (.int .u8))) (ht : Sl w w.heap.size 1 A' m (ys.map (.int .u8))) :
    Calls Try.prog 126 #[.slice A n c, .slice A' m c'] w fun e w' => e = .returned (.bool (decide (xs = ys))) ∧ w' = w := by
  have e1 := conv_str w A n c xs hn h0 hs
  have e2 := conv_str w A' m c' ys hm h1 ht
  have e3 := Lib.hid (str_inj xs ys hx hy)
  clear hs ht hx hy
  go_enter Try.func126, Try.ntmps126
  go_wp2_with (fail)
  go_ret
  exact ⟨ret_bool e3.out, rfl⟩

theorem make_eq (k : Nat) (hk : k ≤ 1000000) (w : World) : (Instr.makeSlice 76 (.int .i64 (k : Int)) (.int .i64 (k : Int))).run Try.prog w = .ok (.slice (some ⟨w.heap.size, 0, none⟩) k k) (w.alloc (.cells (List.replicate k (Value.int .u8 0)).toArray 5)) := by
  rw [run_make_row' (P := Try.prog) 76 5 (.int .u8 0) 1 Try.underlying76 infoB rfl .i64 .i64 k (by omega) (by omega) w]
  congr 2
  congr 1
  apply Array.ext
  · simp [madeCells]
  · intro i h1 h2
    simp [madeCells, Nat.mod_one]
end Go.Proofs.Ytooagoikiafgcaa.bytes
