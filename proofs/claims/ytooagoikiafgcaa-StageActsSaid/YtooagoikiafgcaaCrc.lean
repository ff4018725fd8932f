/-
  PROVED HERE: the program's sums of 32 bits: the table, a register behind bytes, the sum.
  CONDITIONS: the bytes are the ones that lie in the slice.
-/
import Derived.Test.YtooagoikiafgcaaCrcMath
import Derived.Test.YtooagoikiafgcaaMem
namespace Go.Proofs.Ytooagoikiafgcaa.crc
set_option linter.unusedVariables false
open Go.RowKit Go.Proofs.Ytooagoikiafgcaa.base Go.Proofs.Ytooagoikiafgcaa.obj Go.Proofs.Ytooagoikiafgcaa.mem

theorem xor32 (a b : Nat) (ha : a < 2 ^ 32) (hb : b < 2 ^ 32) : Go.bits .xor .u32 (a : Int) (b : Int) = ((a ^^^ b : Nat) : Int) := by
  show IntKind.u32.wrap ((BitVec.ofInt 32 (a : Int) ^^^ BitVec.ofInt 32 (b : Int)).toNat : Int) = _
  have hx : a ^^^ b < 2 ^ 32 := Nat.xor_lt_two_pow ha hb
  rw [BitVec.toNat_xor, BitVec.toNat_ofInt, BitVec.toNat_ofInt, show ((a : Int) % ((2 ^ 32 : Nat) : Int)).toNat = a by omega, show ((b : Int) % ((2 ^ 32 : Nat) : Int)).toNat = b by omega, IntKind.wrap_u32]
  omega
theorem and32_one (a : Nat) (ha : a < 2 ^ 32) : Go.bits .and .u32 (a : Int) 1 = ((a % 2 : Nat) : Int) := by
  show IntKind.u32.wrap ((BitVec.ofInt 32 (a : Int) &&& BitVec.ofInt 32 1).toNat : Int) = _
  rw [BitVec.toNat_and, show (BitVec.ofInt 32 1).toNat = 1 from rfl, Nat.and_one_is_mod, BitVec.toNat_ofInt, show ((a : Int) % ((2 ^ 32 : Nat) : Int)).toNat = a by omega, IntKind.wrap_u32]
  omega
theorem down_eq (x : Nat) (hx : x < 2 ^ 32) : Go.bits .xor .u32 ((x : Int) / 2) (3988292384 * Go.bits .and .u32 (x : Int) 1 % 4294967296) = ((dn x : Nat) : Int) := by
  have e : (3988292384 * Go.bits .and .u32 (x : Int) 1 % 4294967296) = (((if x % 2 = 1 then poly else 0 : Nat)) : Int) := by
    rw [and32_one x hx]
    split
    · rename_i h; rw [h]; rfl
    · rename_i h; rw [show x % 2 = 0 by omega]; rfl
  rw [e, show (x : Int) / 2 = ((x / 2 : Nat) : Int) by omega, xor32 _ _ (by omega) (by split <;> decide)]
  rfl

set_option maxHeartbeats 1000000 in
theorem down_at (w : World) (x : Nat) (hx : x < 2 ^ 32) : Calls Try.prog 143 #[.int .u32 x] w fun e w' => e = .returned (.int .u32 (dn x : Nat)) ∧ w' = w := by
  go_enter Try.func143, Try.ntmps143
  go_wp2_with (fail)
  go_ret
  exact ⟨by rw [down_eq x hx]; rfl, rfl⟩

/-- the table's cells -/
def tabCells (k : Nat) : List Value := (List.range k).map (fun i => Value.int .u32 (it 8 i : Nat)) ++ List.replicate (256 - k) (.int .u32 0)
theorem tabCells_length (k : Nat) (hk : k ≤ 256) : (tabCells k).length = 256 := by simp [tabCells]; omega
theorem tabCells_set (k : Nat) (hk : k < 256) : (tabCells k).set k (.int .u32 (it 8 k : Nat)) = tabCells (k + 1) := by
  unfold tabCells
  rw [List.set_append_right _ _ (by simp), List.range_succ, List.map_append, List.append_assoc]
  congr 1
  simp only [List.length_map, List.length_range, Nat.sub_self]
  rw [show 256 - k = (256 - (k + 1)) + 1 by omega, List.replicate_succ]
  rfl
theorem tabCells_get (i : Nat) (hi : i < 256) : (tabCells 256)[i]? = some (.int .u32 (it 8 i : Nat)) := by
  simp [tabCells, hi]

def zTab : Array Value := (tabCells 0).toArray
theorem zTab_zero : (Try.prog.info? 235).map (·.zero) = some (some (.agg zTab)) := by kernel_rfl

set_option maxRecDepth 100000 in
set_option maxHeartbeats 2000000 in
theorem make_at (w : World) : Calls Try.prog 129 #[] w fun e w' => ∃ g, e = .returned (.pointer (some ⟨g, 0, none⟩)) ∧ w.heap.size ≤ g ∧ Row w' g 235 (tabCells 256) ∧ Below w.heap.size w w' := by
  have Z := Lib.hid zTab_zero
  have HR0 := Lib.hid (show Row (w.alloc (.cells zTab 235)) w.heap.size 235 (tabCells 0) from Row.new w _ _)
  have HB0 := Lib.hid ((Below.refl w.heap.size w).alloc (Nat.le_refl _) (.cells zTab 235))
  go_enter Try.func129, Try.ntmps129
  go_wp2_with (with_reducible refine wpList_alloc rfl 235 rfl (.agg zTab) Z.out ?_)
  go_loopw [4] (fun i wr => ∃ (k : Nat), k ≤ 256 ∧ i = .int .i64 k ∧ Row wr w.heap.size 235 (tabCells k) ∧ Below w.heap.size w wr) (fun i _ => 256 - (intOf i).toNat)
  case atStart => exact ⟨0, by omega, rfl, HR0.out, HB0.out⟩
  case round =>
    obtain ⟨k, hk, rfl, hr, hb⟩ := hrel
    have HR := Lib.hid hr; have HB := Lib.hid hb
    clear hr hb
    by_cases hlt : k < 256
    · have hlt' : (k : Int) < 256 := by omega
      go_wp2_with (fail)
      go_loopw [9, 3] (fun i x wx => ∃ (j : Nat), j ≤ 8 ∧ i = .int .i64 j ∧ x = .int .u32 (it j k : Nat) ∧ wx = wr) (fun i _ _ => 8 - (intOf i).toNat)
      case atStart => exact ⟨0, by omega, rfl, by go_num, rfl⟩
      case round =>
        obtain ⟨j, hj, rfl, rfl, rfl⟩ := hrel
        by_cases hlj : j < 8
        · have hlj' : (j : Int) < 8 := by omega
          go_wp2_with (fail)
          refine (down_at _ (it j k) (it_lt j (by omega))).mono ?_; rintro e w' ⟨rfl, rfl⟩
          go_wp2_with (fail)
          go_roundw
          case rel => exact ⟨j + 1, by omega, by go_num, rfl, trivial⟩
          case measure => simp [intOf]; omega
        · have hlj' : ¬ (j : Int) < 8 := by omega
          have hj8 : j = 8 := by omega
          have HJ := Lib.hid hj8
          have hc := (HR.out.cell k).trans (List.getElem?_eq_getElem (by rw [tabCells_length k hk]; exact hlt))
          have hf := HR.out.frozen k
          have hl := HR.out.lt
          clear hj8
          go_wp2_with (fail)
          go_roundw
          case rel => exact ⟨k + 1, by omega, by go_num, by rw [HJ.out, ← tabCells_set k hlt]; exact HR.out.setCell k _, HB.out.setCell (p := ⟨w.heap.size, k, none⟩) (Nat.le_refl _) _⟩
          case measure => simp [intOf]; omega
    · have hlt' : ¬ (k : Int) < 256 := by omega
      have hk8 : k = 256 := by omega
      have HK := Lib.hid hk8
      clear hk8
      go_wp2_with (fail)
      go_ret
      refine ⟨w.heap.size, rfl, Nat.le_refl _, ?_, HB.out⟩
      rw [← HK.out]
      exact HR.out

theorem xor8 (a b : Nat) (ha : a < 256) (hb : b < 256) : Go.bits .xor .u8 (a : Int) (b : Int) = ((a ^^^ b : Nat) : Int) := by
  show IntKind.u8.wrap ((BitVec.ofInt 8 (a : Int) ^^^ BitVec.ofInt 8 (b : Int)).toNat : Int) = _
  have hx : a ^^^ b < 2 ^ 8 := Nat.xor_lt_two_pow (by omega) (by omega)
  rw [BitVec.toNat_xor, BitVec.toNat_ofInt, BitVec.toNat_ofInt, show ((a : Int) % ((2 ^ 8 : Nat) : Int)).toNat = a by omega, show ((b : Int) % ((2 ^ 8 : Nat) : Int)).toNat = b by omega, IntKind.wrap_u8]
  omega

set_option maxRecDepth 100000 in
set_option maxHeartbeats 2000000 in
theorem feed_at (w : World) (g : Nat) (hg : Row w g 235 (tabCells 256)) (x : Nat) (hx : x < 2 ^ 32) (A : Option Addr) (n c : Nat) (bs : List Int) (hn : bs.length = n) (hm : n ≤ 1000000) (hb : Byt bs) (hs : Sl w w.heap.size 1 A n (bs.map (.int .u8))) :
    Calls Try.prog 145 #[.pointer (some ⟨g, 0, none⟩), .int .u32 x, .slice A n c] w fun e w' => e = .returned (.int .u32 (fold x bs : Nat)) ∧ w' = w := by
  have HG := Lib.hid hg; have HN := Lib.hid hn; have HB := Lib.hid hb; have HS := Lib.hid hs; have HX := Lib.hid hx
  clear hg hn hb hs hx
  go_enter Try.func145, Try.ntmps145
  go_wp2_with (fail)
  go_loopw [14, 1] (fun i s wr => ∃ k : Nat, k ≤ n ∧ i = .int .i64 k ∧ s = .int .u32 (fold x (bs.take k) : Nat) ∧ wr = w) (fun i _ _ => n - (intOf i).toNat)
  case atStart => exact ⟨0, by omega, rfl, by rw [List.take_zero]; rfl, rfl⟩
  case round =>
    obtain ⟨k, hk, rfl, rfl, rfl⟩ := hrel
    by_cases hlt : k < n
    · have hkb : k < bs.length := by rw [HN.out]; exact hlt
      obtain ⟨b, off, rfl, hbl, hc⟩ := HS.out.2 (by omega)
      have hz := HB.out bs[k] (List.getElem_mem hkb)
      have c1 := hc k (.int .u8 bs[k]) (by simp [hkb])
      have hfk : fold x (bs.take k) < 2 ^ 32 := fold_lt HX.out fun y hy => HB.out y (List.mem_of_mem_take hy)
      have hnx := fold_take_succ x bs k hkb
      generalize hf : fold x (bs.take k) = f at *
      have hz2 : bs[k] = ((bs[k].toNat : Nat) : Int) := by omega
      rw [hz2] at c1
      generalize hzn : bs[k].toNat = z at *
      have hzl : z < 256 := by omega
      have ei : Go.bits .xor .u8 ((f : Int) % 256) (z : Int) = (((f % 256) ^^^ z : Nat) : Int) := by
        rw [show (f : Int) % 256 = ((f % 256 : Nat) : Int) by omega, xor8 _ _ (by omega) hzl]
      have hil : (f % 256) ^^^ z < 256 := Nat.xor_lt_two_pow (n := 8) (by omega) (by omega)
      have ct := (HG.out.cell ((f % 256) ^^^ z)).trans (tabCells_get _ hil)
      have hft := feed_table f z hzl
      have ht32 : it 8 ((f % 256) ^^^ z) < 2 ^ 32 := it_lt 8 (by omega)
      generalize (f % 256) ^^^ z = i at *
      generalize it 8 i = t at *
      have ex : Go.bits .xor .u32 ((f : Int) / 256) (t : Int) = ((feed f z : Nat) : Int) := by
        rw [show (f : Int) / 256 = ((f / 256 : Nat) : Int) by omega, xor32 _ _ (by omega) ht32, hft]
      have i0 : (0 : Int) ≤ (k : Int) := by omega
      have i1 : (k : Int) < (n : Int) := by omega
      have j1 : (i : Int) < 256 := by omega
      have HNX := Lib.hid hnx; have HF := Lib.hid hf
      clear hc hnx hft ht32 hf hz hz2 hzn hzl hil hfk hkb
      go_wp2_with (fail)
      go_roundw
      case rel => exact ⟨k + 1, by omega, by go_num, by rw [HNX.out], trivial⟩
      case measure => simp [intOf]; omega
    · have hk2 : k = n := by omega
      have hlt' : ¬ (k : Int) < (n : Int) := by omega
      have HK := Lib.hid hk2
      clear hk2
      go_wp2_with (fail)
      go_ret
      refine ⟨?_, rfl⟩
      have e : fold x (bs.take k) = fold x bs := by rw [HK.out, ← HN.out, List.take_length]
      rw [e]
      rfl

theorem begin_at (w : World) : Calls Try.prog 147 #[] w fun e w' => e = .returned (.int .u32 (4294967295 : Nat)) ∧ w' = w := by
  go_enter Try.func147, Try.ntmps147
  go_wp2_with (fail)
  go_ret
  exact ⟨rfl, rfl⟩
theorem xor_all (x : Nat) (hx : x < 2 ^ 32) : 4294967295 ^^^ x = 4294967295 - x := by
  apply Nat.eq_of_testBit_eq
  intro i
  rw [Nat.testBit_xor, show 4294967295 - x = 2 ^ 32 - (x + 1) by omega, Nat.testBit_two_pow_sub_succ hx, show 4294967295 = 2 ^ 32 - 1 by rfl, Nat.testBit_two_pow_sub_one]
  by_cases h : i < 32
  · simp [h]
  · have : x.testBit i = false := Nat.testBit_lt_two_pow (Nat.lt_of_lt_of_le hx (Nat.pow_le_pow_right (by decide) (by omega)))
    simp [h, this]
theorem end_at (w : World) (x : Nat) (hx : x < 2 ^ 32) : Calls Try.prog 146 #[.int .u32 x] w fun e w' => e = .returned (.int .u32 (4294967295 - x : Nat)) ∧ w' = w := by
  go_enter Try.func146, Try.ntmps146
  go_wp2_with (fail)
  have e : bits BinOp.xor IntKind.u32 IntKind.u32.max (x : Int) = ((4294967295 - x : Nat) : Int) := by
    rw [show IntKind.u32.max = ((4294967295 : Nat) : Int) from rfl, xor32 _ _ (by decide) hx, xor_all x hx]
  go_ret
  exact ⟨by rw [e]; rfl, rfl⟩

set_option maxRecDepth 100000 in
set_option maxHeartbeats 2000000 in
theorem whole_at (w : World) (g : Nat) (hg : Row w g 235 (tabCells 256)) (A : Option Addr) (n c : Nat) (bs : List Int) (hn : bs.length = n) (hm : n ≤ 1000000) (hb : Byt bs) (hs : Sl w w.heap.size 1 A n (bs.map (.int .u8))) :
    Calls Try.prog 144 #[.func (Fn.func 145) #[.pointer (some ⟨g, 0, none⟩)] #[], .slice A n c] w fun e w' => e = .returned (.int .u32 (sum bs : Nat)) ∧ w' = w := by
  have HF := Lib.hid (feed_at w g hg 4294967295 (by decide) A n c bs hn hm hb hs)
  have HL := Lib.hid (fold_lt (bs := bs) (x := 4294967295) (by decide) hb)
  clear hg hn hb hs
  go_enter Try.func144, Try.ntmps144
  go_wp2_with (fail)
  refine (begin_at _).mono ?_; rintro e w' ⟨rfl, rfl⟩
  go_wp2_with (fail)
  refine HF.out.mono ?_; rintro e w' ⟨rfl, rfl⟩
  go_wp2_with (fail)
  refine (end_at _ _ HL.out).mono ?_; rintro e w' ⟨rfl, rfl⟩
  go_wp2_with (fail)
  go_ret
  exact ⟨rfl, rfl⟩
set_option maxRecDepth 100000 in
set_option maxHeartbeats 2000000 in
theorem sum_at (w : World) (g : Nat) (hg : Row w g 235 (tabCells 256)) (A : Option Addr) (n c : Nat) (bs : List Int) (hn : bs.length = n) (hm : n ≤ 1000000) (hb : Byt bs) (hs : Sl w w.heap.size 1 A n (bs.map (.int .u8))) :
    Calls Try.prog 130 #[.pointer (some ⟨g, 0, none⟩), .slice A n c] w fun e w' => e = .returned (.int .u32 (sum bs : Nat)) ∧ w' = w := by
  have HF := Lib.hid (whole_at w g hg A n c bs hn hm hb hs)
  clear hg hn hb hs
  go_enter Try.func130, Try.ntmps130
  go_wp2_with (fail)
  refine HF.out.mono ?_; rintro e w' ⟨rfl, rfl⟩
  go_wp2_with (fail)
  go_ret
  exact ⟨rfl, rfl⟩
end Go.Proofs.Ytooagoikiafgcaa.crc
