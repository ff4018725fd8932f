/-
  PROVED HERE: a reader of bytes: what it reads, and what is left.
  CONDITIONS: each contract names its own.
-/
import Derived.Test.YtooagoikiafgcaaNum
import Derived.Below
namespace Go.Proofs.Ytooagoikiafgcaa.num
set_option linter.unusedVariables false
open Go.RowKit Go.Proofs.Ytooagoikiafgcaa.base Go.Proofs.Ytooagoikiafgcaa.obj Go.Proofs.Ytooagoikiafgcaa.mem Go.Proofs.Ytooagoikiafgcaa.crc Go.Proofs.Ytooagoikiafgcaa.bytes

/-- block R is a reader of bs that has not failed; its bytes lie in blocks from B on, ahead of R -/
structure Rd (w : World) (B R : Nat) (bs : List Int) : Prop where
  cell : ∃ A c, w.heap[R]? = some (.cells #[.slice A bs.length c, .int .i64 0] 231 (0, 0)) ∧ bs.length ≤ c ∧ (0 < bs.length → ∃ g o, A = some ⟨g, o, none⟩ ∧ B ≤ g ∧ g < R ∧ ∀ k u, (bs.map (Value.int .u8))[k]? = some u → w.cell? ⟨g, o + k, none⟩ = some u)
  base : B ≤ R
theorem Rd.lt {w : World} {B R : Nat} {bs : List Int} (h : Rd w B R bs) : R < w.heap.size := by
  obtain ⟨A, c, e, _⟩ := h.cell
  exact (Array.getElem?_eq_some_iff.1 e).1
theorem Rd.keep {w w' : World} {B R : Nat} {bs : List Int} (h : Rd w B R bs) (hk : ∀ i, B ≤ i → i ≤ R → w'.heap[i]? = w.heap[i]?) : Rd w' B R bs := by
  obtain ⟨⟨A, c, e, hc, hs⟩, hb⟩ := h
  refine ⟨⟨A, c, (hk R hb (Nat.le_refl _)).trans e, hc, fun hp => ?_⟩, hb⟩
  obtain ⟨g, o, ha, h1, h2, h3⟩ := hs hp
  exact ⟨g, o, ha, h1, h2, fun k u hu => (World.cell?_of_block (a := ⟨g, o + k, none⟩) (hk g h1 (Nat.le_of_lt h2))).trans (h3 k u hu)⟩
theorem Rd.below {w w' : World} {B R : Nat} {bs : List Int} (h : Rd w B R bs) (k : Below w.heap.size w w') : Rd w' B R bs := h.keep fun i _ hi => k.block i (Nat.lt_of_le_of_lt hi h.lt)
theorem Rd.kept {w w' : World} {B R : Nat} {bs : List Int} {S : Nat → Prop} (h : Rd w B R bs) (k : Kept S w w') (hS : ∀ i, B ≤ i → i ≤ R → ¬ S i) : Rd w' B R bs := h.keep fun i h1 h2 => k.block i (Nat.lt_of_le_of_lt h2 h.lt) (hS i h1 h2)
theorem Rd.sl {w : World} {B R : Nat} {bs : List Int} {A : Option Addr} {n c : Nat} (h : Rd w B R bs) (e : w.heap[R]? = some (.cells #[.slice A n c, .int .i64 0] 231 (0, 0))) : n = bs.length ∧ bs.length ≤ c ∧ Sl w R 1 A bs.length (bs.map (.int .u8)) := by
  obtain ⟨A2, c2, e2, hc, hs⟩ := h.cell
  rw [e] at e2
  injection e2 with e2
  injection e2 with e2 _ _
  simp at e2
  obtain ⟨rfl, rfl, rfl⟩ := e2
  refine ⟨rfl, hc, by simp, fun hp => ?_⟩
  obtain ⟨g, o, ha, h1, h2, h3⟩ := hs hp
  exact ⟨g, o, ha, h2, h3⟩

set_option maxHeartbeats 2000000 in
theorem read_at (w : World) (A : Option Addr) (n c : Nat) (bs : List Int) (hl : bs.length = n) (hs : Sl w w.heap.size 1 A n (bs.map (.int .u8))) (hn : n ≤ 100000) :
    Calls Try.prog 124 #[.slice A n c] w fun e w' => ∃ R, e = .returned (.pointer (some ⟨R, 0, none⟩)) ∧ Rd w' w.heap.size R bs ∧ Below w.heap.size w w' := by
  have HC := Lib.hid (clone_own w A n c _ hs (map_one bs) (by omega))
  have HL := Lib.hid hl
  clear hs hl
  go_enter Try.func124, Try.ntmps124
  go_wp2_with (fail)
  refine HC.out.mono ?_; rintro e w1 ⟨v, rfl, ho, hb⟩
  have HO := Lib.hid ho; have HB := Lib.hid hb
  obtain ⟨A2, c2, e2, hc2, _⟩ := own_form ho
  subst e2
  clear ho hb
  go_wp2_with (fail)
  go_ret
  refine ⟨w1.heap.size, rfl, ⟨⟨A2, c2, ?_, by rw [HL.out]; exact hc2, fun hp => ?_⟩, HB.out.size⟩, HB.out.alloc HB.out.size _⟩
  · rw [HL.out]
    exact heap_alloc_new _ _
  · obtain ⟨g, cap, e, h1, h2⟩ := HO.out.form (by rw [← HL.out]; exact hp)
    have hsl := Sl.of_own HO.out
    obtain ⟨b, o, rfl, hb2, hcell⟩ := hsl.2 (by rw [← HL.out]; exact hp)
    injection e with e3 _ _
    injection e3 with e4
    injection e4 with e5 e6 _
    subst e5
    exact ⟨_, o, rfl, h1, hb2, fun k u hu => (World.cell?_alloc_lt _ _ _ hb2).trans (hcell k u hu)⟩

set_option maxHeartbeats 2000000 in
theorem well_at {w : World} {B R : Nat} {bs : List Int} (h : Rd w B R bs) : Calls Try.prog 141 #[.pointer (some ⟨R, 0, none⟩)] w fun e w' => e = .returned (.bool true) ∧ w' = w := by
  obtain ⟨A, c, e, _⟩ := h.cell
  have c1 : w.cell? ⟨R, 1, none⟩ = some (.int .i64 0) := by simp [World.cell?, e]
  clear h e
  go_enter Try.func141, Try.ntmps141
  go_wp2_with (fail)
  go_ret
  exact ⟨rfl, rfl⟩
set_option maxHeartbeats 2000000 in
theorem left_at {w : World} {B R : Nat} {bs : List Int} (h : Rd w B R bs) : Calls Try.prog 128 #[.pointer (some ⟨R, 0, none⟩)] w fun e w' => e = .returned (.int .i64 bs.length) ∧ w' = w := by
  have HW := Lib.hid (well_at h)
  obtain ⟨A, c, e, _⟩ := h.cell
  have c1 : w.cell? ⟨R, 0, none⟩ = some (.slice A bs.length c) := by simp [World.cell?, e]
  clear h e
  go_enter Try.func128, Try.ntmps128
  go_wp2_with (fail)
  refine HW.out.mono ?_; rintro e w' ⟨rfl, rfl⟩
  go_wp2_with (fail)
  go_ret
  exact ⟨rfl, rfl⟩

theorem rd_cut {w w1 : World} {B R g o o2 l n c c2 : Nat} {bs : List Int} (h : Rd w B R bs) (e : w.heap[R]? = some (.cells #[.slice (some ⟨g, o, none⟩) l c, .int .i64 0] 231 (0, 0))) (hb : Below w.heap.size w w1) (hl : bs.length = l) (hn : n ≤ l) (ho : l ≤ n ∨ o2 = o + n) (hc : l - n ≤ c2) :
    Rd (w1.setCell ⟨R, 0, none⟩ (.slice (some ⟨g, o2, none⟩) (l - n) c2)) B R (bs.drop n) ∧ Kept (fun i => i = R) w (w1.setCell ⟨R, 0, none⟩ (.slice (some ⟨g, o2, none⟩) (l - n) c2)) := by
  refine ⟨⟨⟨some ⟨g, o2, none⟩, c2, ?_, by simp; omega, fun hp => ?_⟩, h.base⟩, (Kept.of_below hb (fun i => i = R)).setCell (p := ⟨R, 0, none⟩) (.inl rfl) _⟩
  · have e1 := (hb.block R h.lt).trans e
    simp only [World.setCell, Array.getElem?_modify, if_true, e1, Option.map_some]
    simp [hl]
  · obtain ⟨A2, c3, e2, _, hs⟩ := h.cell
    rw [e] at e2
    injection e2 with e2
    injection e2 with e2 _ _
    simp at e2
    obtain ⟨rfl, _, rfl⟩ := e2
    simp at hp
    obtain ⟨g2, o3, ha, h1, h2, h3⟩ := hs (by omega)
    injection ha with ha
    injection ha with ha hb2 _
    subst ha; subst hb2
    refine ⟨_, o2, rfl, h1, h2, fun k u hu => ?_⟩
    have hgl : g < w.heap.size := Nat.lt_trans h2 h.lt
    have ho2 : o2 = o + n := by rcases ho with h | h <;> omega
    rw [World.cell?_of_block (w := w) (w' := w1.setCell ⟨R, 0, none⟩ (.slice (some ⟨g, o2, none⟩) (l - n) c2)) (a := ⟨g, o2 + k, none⟩) ((Below.heap_setCell w1 ⟨R, 0, none⟩ _ g (show g ≠ R by omega)).trans (hb.block g hgl)), ho2, Nat.add_assoc]
    refine h3 (n + k) u ?_
    rw [List.getElem?_map, List.getElem?_drop] at hu
    rw [List.getElem?_map]
    exact hu

set_option maxRecDepth 100000 in
set_option maxHeartbeats 2000000 in
/-- the next n bytes; the rest is left -/
theorem bytes_at {w : World} {B R : Nat} {bs : List Int} (h : Rd w B R bs) (n : Nat) (h1 : 1 ≤ n) (hn : n ≤ bs.length) (hm : bs.length ≤ 100000) :
    Calls Try.prog 127 #[.pointer (some ⟨R, 0, none⟩), .int .i64 n] w fun e w' => ∃ v, e = .returned v ∧ w'.ownsRow w.heap.size 5 1 v n ((bs.map (.int .u8)).take n) ∧ Rd w' B R (bs.drop n) ∧ Kept (fun i => i = R) w w' := by
  have HW := Lib.hid (fun (w' : World) (k : Below w.heap.size w w') => well_at (h.below k))
  obtain ⟨A, c, e, hc, hs⟩ := h.cell
  obtain ⟨g, o, rfl, hBg, hgR, hcell⟩ := hs (by omega)
  have hsl : Sl w R 1 (some ⟨g, o, none⟩) n ((bs.map (.int .u8)).take n) := ⟨by simp; omega, fun _ => ⟨g, o, rfl, hgR, fun k u hu => hcell k u (by
    rw [List.getElem?_take] at hu
    split at hu
    · exact hu
    · simp at hu)⟩⟩
  have c0 : w.cell? ⟨R, 0, none⟩ = some (.slice (some ⟨g, o, none⟩) bs.length c) := by simp [World.cell?, e]
  have hR := h.lt
  have HC := Lib.hid (clone_own w (some ⟨g, o, none⟩) n c _ (hsl.more (Nat.le_of_lt hR)) (fun v hv => map_one bs v (List.mem_of_mem_take hv)) (by omega))
  have HH := Lib.hid h
  have HE := Lib.hid e
  have HCELL := Lib.hid hcell
  clear hsl h e hs hcell
  have i0 : ¬ (n : Int) ≤ 0 := by omega
  have i1 : ¬ (n : Int) > (bs.length : Int) := by omega
  have i2 : (0 : Int) ≤ (n : Int) := by omega
  have i3 : (n : Int) ≤ (bs.length : Int) := by omega
  have i4 : (bs.length : Int) ≤ (c : Int) := by omega
  have i5 : (n : Int) ≤ (c : Int) := by omega
  generalize hbl : bs.length = l at *
  have HBL := Lib.hid hbl
  clear hbl
  go_enter Try.func127, Try.ntmps127
  go_wp2_with (fail)
  refine (HW.out _ (Below.refl _ _)).mono ?_; rintro e w' ⟨rfl, rfl⟩
  go_wp2_with (fail)
  refine HC.out.mono ?_; rintro e w1 ⟨v, rfl, ho, hb⟩
  have HO := Lib.hid ho; have HB := Lib.hid hb
  have e1 := (hb.block R hR).trans HE.out
  have c1 : w1.cell? ⟨R, 0, none⟩ = some (.slice (some ⟨g, o, none⟩) l c) := by simp [World.cell?, e1]
  have f1 : w1.frozen? ⟨R, 0, none⟩ = false := by simp [World.frozen?, e1]
  have E1 := Lib.hid e1
  clear ho hb c0 e1
  go_wp2_with (fail)
  · go_ret
    refine ⟨v, rfl, ?_, ?_⟩
    · exact ownsRow_setCell_below HO.out (a := ⟨R, 0, none⟩) hR _
    · exact rd_cut HH.out HE.out HB.out HBL.out hn (.inl (by omega)) (by omega)
  · go_ret
    refine ⟨v, rfl, ?_, ?_⟩
    · exact ownsRow_setCell_below HO.out (a := ⟨R, 0, none⟩) hR _
    · exact rd_cut HH.out HE.out HB.out HBL.out hn (.inr rfl) (by omega)

theorem or_low (n z : Nat) (hn : n < 2 ^ 50) (hz : z < 256) : Go.bits .or .i64 ((n * 256 : Nat) : Int) (z : Int) = ((256 * n + z : Nat) : Int) := by
  show IntKind.i64.wrap ((BitVec.ofInt 64 ((n * 256 : Nat) : Int) ||| BitVec.ofInt 64 (z : Int)).toNat : Int) = _
  have e := Nat.two_pow_add_eq_or_of_lt (i := 8) (b := z) (by omega) n
  rw [BitVec.toNat_or, BitVec.toNat_ofInt, BitVec.toNat_ofInt, show (((n * 256 : Nat) : Int) % ((2 ^ 64 : Nat) : Int)).toNat = 2 ^ 8 * n by omega, show ((z : Int) % ((2 ^ 64 : Nat) : Int)).toNat = z by omega, ← e, IntKind.wrap_i64]
  omega

set_option maxRecDepth 100000 in
set_option maxHeartbeats 2000000 in
/-- the next number; the rest is left -/
theorem num_at {w : World} {B R : Nat} {bs : List Int} (h : Rd w B R bs) (k : Nat) (h1 : 1 ≤ k) (h6 : k ≤ 6) (hn : k ≤ bs.length) (hm : bs.length ≤ 100000) (hby : Byt bs) :
    Calls Try.prog 125 #[.pointer (some ⟨R, 0, none⟩), .int .i64 k] w fun e w' => e = .returned (.int .i64 (val (bs.take k) : Nat)) ∧ Rd w' B R (bs.drop k) ∧ Kept (fun i => i = R) w w' := by
  have HH := Lib.hid (bytes_at h k h1 hn hm)
  have HY := Lib.hid hby
  clear h hby
  go_enter Try.func125, Try.ntmps125
  go_wp2_with (fail)
  refine (held_at _ k h1 h6).mono ?_; rintro e w' ⟨rfl, rfl⟩
  go_wp2_with (fail)
  refine HH.out.mono ?_; rintro e w1 ⟨v, rfl, ho, hr, hk⟩
  obtain ⟨A, c, e2, hc, _⟩ := own_form ho
  subst e2
  have HS := Lib.hid (Sl.of_own ho)
  have HF := Lib.hid (And.intro hr hk)
  clear ho hr hk
  go_wp2_with (fail)
  go_loopw [16, 6] (fun i s wr => ∃ j : Nat, j ≤ k ∧ i = .int .i64 j ∧ s = .int .i64 (val (bs.take j) : Nat) ∧ wr = w1) (fun i _ _ => k - (intOf i).toNat)
  case atStart => exact ⟨0, by omega, rfl, by rw [List.take_zero]; rfl, rfl⟩
  case round =>
    obtain ⟨j, hj, rfl, rfl, rfl⟩ := hrel
    by_cases hlt : j < k
    · have hjb : j < bs.length := by omega
      obtain ⟨b, off, rfl, hbl, hcell⟩ := HS.out.2 (by omega)
      have hz := HY.out bs[j] (List.getElem_mem hjb)
      have c1 := hcell j (.int .u8 bs[j]) (by rw [List.getElem?_take, if_pos hlt]; simp [hjb])
      have hnx := val_take_succ bs j hjb
      have hfl : val (bs.take j) < 2 ^ 40 := by
        have h := val_lt (bs.take j) fun y hy => HY.out y (List.mem_of_mem_take hy)
        rw [List.length_take, Nat.min_eq_left (by omega)] at h
        exact Nat.lt_of_lt_of_le h (Nat.le_trans (Nat.pow_le_pow_right (by decide) (show j ≤ 5 by omega)) (by decide))
      generalize hf : val (bs.take j) = f at *
      have hz2 : bs[j] = ((bs[j].toNat : Nat) : Int) := by omega
      rw [hz2] at c1
      generalize hzn : bs[j].toNat = z at *
      have hzl : z < 256 := by omega
      have i0 : (0 : Int) ≤ (j : Int) := by omega
      have i1 : (j : Int) < (k : Int) := by omega
      have ho := or_low f z (by omega) hzl
      have HNX := Lib.hid hnx; have HZ := Lib.hid hz2; have HO := Lib.hid ho; have HFL := Lib.hid hfl
      clear hcell hnx hz2 hz hzn hf ho hfl
      go_wp2_with (fail)
      go_roundw
      case rel =>
        refine ⟨j + 1, by omega, by go_num, ?_, trivial⟩
        have hfl := HFL.out
        rw [show wrap64 ((f : Int) * 256) = ((f * 256 : Nat) : Int) by unfold wrap64; omega, HO.out, HNX.out]
      case measure => simp [intOf]; omega
    · have hk2 : j = k := by omega
      have hlt' : ¬ (j : Int) < (k : Int) := by omega
      have HK := Lib.hid hk2
      clear hk2
      go_wp2_with (fail)
      go_ret
      exact ⟨by rw [HK.out]; rfl, HF.out⟩
end Go.Proofs.Ytooagoikiafgcaa.num
