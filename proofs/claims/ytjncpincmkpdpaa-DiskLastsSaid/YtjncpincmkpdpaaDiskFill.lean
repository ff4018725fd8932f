/-
  PROVED HERE: the contract of longeronlaw04.fill; wakes returns true and leaves memory as it was.
  CONDITIONS: none.
-/
import Derived.Test.YtjncpincmkpdpaaDiskPower
import Derived.Test.YtjncpincmkpdpaaSame
namespace Go.Proofs.Ytjncpincmkpdpaa.disk
set_option linter.unusedVariables false
open Go.RowKit Go.Proofs.Ytjncpincmkpdpaa.base Go.Proofs.Ytjncpincmkpdpaa.obj Go.Proofs.Ytjncpincmkpdpaa.mem Go.Proofs.Ytjncpincmkpdpaa.plan

def fillL (b : Int) (n : Nat) : List Int := (List.range n).map fun (i : Nat) => (b + (i : Int)) % 256
theorem fillL_len (b : Int) (n : Nat) : (fillL b n).length = n := by simp [fillL]
/-- the first k laid, of n -/
def fillTo (b : Int) (n k : Nat) : List Value := (fillL b k ++ List.replicate (n - k) 0).map (.int .u8)
theorem fillTo_len {b : Int} {n k : Nat} (h : k ≤ n) : (fillTo b n k).length = n := by simp [fillTo, fillL_len]; omega
theorem fillTo_get {b : Int} {n k : Nat} (h : k < n) : (fillTo b n k)[k]? = some (.int .u8 0) := by
  unfold fillTo
  rw [List.getElem?_map, List.getElem?_append_right (by rw [fillL_len]; omega), fillL_len, Nat.sub_self, List.getElem?_replicate]
  simp; omega
theorem fillTo_set {b : Int} {n k : Nat} (h : k < n) : (fillTo b n k).set k (.int .u8 ((b + (k : Int)) % 256)) = fillTo b n (k + 1) := by
  unfold fillTo
  obtain ⟨r, hr⟩ : ∃ r, n - k = r + 1 := ⟨n - k - 1, by omega⟩
  have h2 : n - (k + 1) = r := by omega
  rw [hr, h2, List.replicate_succ, List.map_append, List.map_cons, List.set_append_right _ _ (by simp [fillL_len])]
  simp [fillL, List.range_succ]
theorem fillTo_zero (b : Int) (n : Nat) : fillTo b n 0 = List.replicate n (.int .u8 0) := by simp [fillTo, fillL]
theorem fillTo_all (b : Int) (n : Nat) : fillTo b n n = (fillL b n).map (.int .u8) := by simp [fillTo]

theorem infoU8 : (Try.prog.info? 5).map (fun i => (i.zero, i.size, i.bytes)) = some (some (.int .u8 0), 1, 1) := by kernel_rfl
theorem slU8 : SlT Try.prog 22 5 1 1 := by
  obtain ⟨i0, hi, hz0, hz1, hz2⟩ := info_parts infoU8
  exact ⟨Try.underlying22, ⟨i0, _, hi, hz0, hz1, hz2, rfl⟩, by decide⟩
theorem make64 (w : World) : (Instr.makeSlice 22 (.int .i64 64) (.int .i64 64)).run Try.prog w = .ok (.slice (some ⟨w.heap.size, 0, none⟩) 64 64) (w.alloc (.cells zSec 5)) := by kernel_rfl

theorem fill_step {w wr : World} {B b : Int} {g n k cap : Nat} {x : Int} (hx : x = (b + (k : Int)) % 256) (h : k < n) (ho : wr.ownsRow w.heap.size 5 1 (.slice (some ⟨g, 0, none⟩) n cap) n (fillTo b n k)) (hb : Below w.heap.size w wr) :
    (wr.setCell ⟨g, k, none⟩ (.int .u8 x)).ownsRow w.heap.size 5 1 (.slice (some ⟨g, 0, none⟩) n cap) n (fillTo b n (k + 1)) ∧ Below w.heap.size w (wr.setCell ⟨g, k, none⟩ (.int .u8 x)) := by
  subst hx
  refine ⟨?_, hb.setCell (p := ⟨g, k, none⟩) (ho.lt g rfl).1 _⟩
  rw [← fillTo_set h]
  exact (ho.stored k _).1

theorem fill_more {w1 : World} {B : Nat} {b : Int} {v : Value} (ho : w1.ownsRow B 5 1 v (64 + 1) (fillTo b 64 0 ++ [.int .u8 0])) : w1.ownsRow B 5 1 v 65 (fillTo b 65 0) := by
  rw [fillTo_zero] at ho ⊢
  rw [show List.replicate 65 (Value.int .u8 0) = List.replicate 64 (Value.int .u8 0) ++ [.int .u8 0] from List.replicate_succ']
  exact ho

/-- what is left of the loop of 'fill' -/
def longN (long : Bool) : Nat := if long then 65 else 64

set_option maxRecDepth 100000 in
set_option maxHeartbeats 2000000 in
theorem fill_any (b : Int) (long : Bool) (w : World) (h0 : 0 ≤ b) (h1 : b ≤ 255) : Calls Try.prog 26 #[.int .u8 b, .bool long] w fun e w' =>
    ∃ g cap, e = .returned (.slice (some ⟨g, 0, none⟩) (longN long) cap) ∧ w'.ownsRow w.heap.size 5 1 (.slice (some ⟨g, 0, none⟩) (longN long) cap) (longN long) ((fillL b (longN long)).map (.int .u8)) ∧ Below w.heap.size w w' := by
  have hmk := make64
  have o0 : (w.alloc (.cells zSec 5)).ownsRow w.heap.size 5 1 (.slice (some ⟨w.heap.size, 0, none⟩) 64 64) 64 (fillTo b 64 0) := by
    have := (Row.new w 5 zSec).own (base := w.heap.size) (size := 1) (n := 64) (cap := 64) (Nat.le_refl _) (Nat.le_refl _) (by decide) (by decide)
    rw [fillTo_zero]
    exact this
  have O0 := Lib.hid o0
  have B0 := Lib.hid (show Below w.heap.size w (w.alloc (.cells zSec 5)) from (Below.refl _ _).alloc (Nat.le_refl _) _)
  clear o0
  cases long
  · go_enter Try.func26, Try.ntmps26
    go_wp2_with (fail)
    go_loopw [14] (fun i wr => ∃ k : Nat, k ≤ 64 ∧ i = .int .i64 k ∧ wr.ownsRow w.heap.size 5 1 (.slice (some ⟨w.heap.size, 0, none⟩) 64 64) 64 (fillTo b 64 k) ∧ Below w.heap.size w wr) (fun i _ => 64 - (intOf i).toNat)
    case atStart => exact ⟨0, by omega, rfl, O0.out, B0.out⟩
    case round =>
      obtain ⟨k, hk, rfl, ho, hb⟩ := hrel
      have HO := Lib.hid ho; have HB := Lib.hid hb
      clear ho hb
      by_cases hlt : k < 64
      · have c : wr.cell? ⟨w.heap.size, k, none⟩ = some (.int .u8 0) := by rw [HO.out.cellAt k (by omega)]; exact fillTo_get hlt
        have f := HO.out.frozenAt k
        go_wp2_with (fail)
        go_roundw
        case rel => exact ⟨k + 1, by omega, by go_num, fill_step (B := 0) rfl hlt HO.out HB.out⟩
        case measure => simp [intOf]; omega
      · obtain rfl : k = 64 := by omega
        go_wp2_with (fail)
        go_ret
        refine ⟨w.heap.size, 64, rfl, ?_, HB.out⟩
        have := HO.out
        rw [fillTo_all] at this
        exact this
  · go_enter Try.func26, Try.ntmps26
    go_wp2_with (refine app_new slU8 rfl (.tmp 9) (.tmp 10) rfl O0.out rfl rfl rfl (u8s_one [0]) (by omega) (by unfold maxLen; omega) (by simp) ?_; intro v' w1 ho hg; obtain ⟨g, cap, cur, rfl, hr, hcur⟩ := own_row ho (by omega); have HO := Lib.hid (fill_more ho); have HB := Lib.hid (below_own B0.out O0.out hg (by simp)); clear ho hg hr hcur)
    go_loopw [14] (fun i wr => ∃ k : Nat, k ≤ 65 ∧ i = .int .i64 k ∧ wr.ownsRow w.heap.size 5 1 (.slice (some ⟨g, 0, none⟩) 65 cap) 65 (fillTo b 65 k) ∧ Below w.heap.size w wr) (fun i _ => 65 - (intOf i).toNat)
    case atStart => exact ⟨0, by omega, rfl, HO.out, HB.out⟩
    case round =>
      obtain ⟨k, hk, rfl, ho, hb⟩ := hrel
      have HO := Lib.hid ho; have HB := Lib.hid hb
      clear ho hb
      by_cases hlt : k < 65
      · have c : wr.cell? ⟨g, k, none⟩ = some (.int .u8 0) := by rw [HO.out.cellAt k (by omega)]; exact fillTo_get hlt
        have f := HO.out.frozenAt k
        go_wp2_with (fail)
        go_roundw
        case rel => exact ⟨k + 1, by omega, by go_num, fill_step (B := 0) rfl hlt HO.out HB.out⟩
        case measure => simp [intOf]; omega
      · obtain rfl : k = 65 := by omega
        go_wp2_with (fail)
        go_ret
        refine ⟨g, cap, rfl, ?_, HB.out⟩
        have := HO.out
        rw [fillTo_all] at this
        exact this

end Go.Proofs.Ytjncpincmkpdpaa.disk
