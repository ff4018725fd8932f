/-
  PROVED HERE: the document's reader of bytes: what it reads, and where it is then.
  CONDITIONS: each contract names its own.
-/
import Derived.Test.YtdlbcbdfcjfagaaRefNum
import Derived.Test.YtdlbcbdfcjfagaaReader
import Derived.Test.YtdlbcbdfcjfagaaRefSeal
import Derived.Test.YtdlbcbdfcjfagaaRecOpened
import Derived.Deep.RegionHeld3
namespace Go.Proofs.Ytdlbcbdfcjfagaa.refNum
set_option linter.unusedVariables false
open Go.RowKit Go.Proofs.Ytdlbcbdfcjfagaa.base Go.Proofs.Ytdlbcbdfcjfagaa.obj Go.Proofs.Ytdlbcbdfcjfagaa.mem Go.Proofs.Ytdlbcbdfcjfagaa.crc Go.Proofs.Ytdlbcbdfcjfagaa.num Go.Proofs.Ytdlbcbdfcjfagaa.bytes Go.Proofs.Ytdlbcbdfcjfagaa.plan

/-- block R is the document's reader of bs, of which i have been read -/
structure RRd (w : World) (R : Nat) (bs : List Int) (i : Nat) : Prop where
  cell : ∃ A c, Row w R 100 [.slice A bs.length c, .int .i64 i, .int .i64 0] ∧ bs.length ≤ c ∧ Sl w R 1 A bs.length (bs.map (.int .u8))
theorem RRd.lt {w : World} {R : Nat} {bs : List Int} {i : Nat} (h : RRd w R bs i) : R < w.heap.size := by
  obtain ⟨A, c, e, _⟩ := h.cell
  exact e.lt
theorem RRd.below {w w' : World} {R : Nat} {bs : List Int} {i : Nat} (h : RRd w R bs i) (k : Below w.heap.size w w') : RRd w' R bs i := by
  obtain ⟨A, c, e, hc, hs⟩ := h.cell
  exact ⟨A, c, e.below k e.lt, hc, hs.below (k.mono (Nat.le_of_lt e.lt))⟩

theorem app_step (w : World) {base : Nat} (hb : base ≤ w.heap.size) {ops : Array Oper} {o : Oper} {a : Act} {K : Act → World → Prop} {Q : Exit → Act → World → Prop} {E : Prop} (hgd : o.guard = none) (s x : Operand)
    (ho : o.op = .call { callee := .builtin .append, args := #[s, x], argTypes := #[25, 25] }) (hs : a.eval s = .slice none 0 0) {B n c : Nat} {A : Option Addr} (ys : List Int) (hx : a.eval x = .slice A n c) (hl : ys.length = n) (h0 : 0 < n) (hn : n ≤ 1000000)
    (hr : Sl w B 1 A n (ys.map (.int .u8)))
    (h : ∀ g cap w', w'.ownsRow base 5 1 (.slice (some ⟨g, 0, none⟩) n cap) n (ys.map (.int .u8)) → Below w.heap.size w w' → K (a.put o.dst (.slice (some ⟨g, 0, none⟩) n cap)) w') :
    if Region.wanted o (yielded ops a.tmps) = true then Oper.wp Try.prog o a w K Q else E := by
  obtain ⟨i, z, hi, hz, h2, h3, h4⟩ := slB.hi
  obtain ⟨b, off, rfl, _, hc⟩ := hr.2 h0
  refine step_append_lies w hgd s x 25 ho base 5 i z 1 1 slB.ht hi hz h2 h3 h4 slB.hs (.slice none 0 0) 0 [] hs (World.ownsRow_nil w base 5 1) ⟨b, off, none⟩ n c (ys.map (.int .u8)) hx (by simp [hl]) (fun j u hu => ?_) (map_one _) h0 (by unfold maxLen; omega) (by omega) hb w.heap.size rfl ?_
  · rw [Addr.add_mid]
    exact hc j u hu
  · intro g cap w' ho' hg _ _
    rw [Nat.zero_add, List.nil_append] at ho'
    have e : (a.put o.dst (.slice (some ⟨g, 0, none⟩) (0 + n) cap)) = a.put o.dst (.slice (some ⟨g, 0, none⟩) n cap) := by rw [Nat.zero_add]
    rw [e]
    exact h g cap w' ho' ⟨hg.os, hg.tape, hg.output, hg.size, fun k hk => hg.block k hk (by simp [Value.ownBlock])⟩

set_option maxRecDepth 100000 in
set_option maxHeartbeats 4000000 in
/-- the next n bytes -/
theorem bytes_at {w : World} {R : Nat} {bs : List Int} {i : Nat} (h : RRd w R bs i) (n : Nat) (h1 : 1 ≤ n) (hn : i + n ≤ bs.length) (hm : bs.length ≤ 100000) :
    Calls Try.prog 84 #[.pointer (some ⟨R, 0, none⟩), .int .i64 n] w fun e w' => ∃ g c, e = .returned (.slice (some ⟨g, 0, none⟩) n c) ∧ w'.ownsRow w.heap.size 5 1 (.slice (some ⟨g, 0, none⟩) n c) n (((bs.drop i).take n).map (.int .u8)) ∧ RRd w' R bs (i + n) ∧ Kept (fun k => k = R) w w' := by
  obtain ⟨A, c, hr, hc, hs⟩ := h.cell
  obtain ⟨g, o, rfl, hgR, hcell⟩ := hs.2 (by omega)
  have hR := hr.lt
  have c0 : w.cell? ⟨R, 0, none⟩ = some (.slice (some ⟨g, o, none⟩) bs.length c) := hr.cell 0
  have c1 : w.cell? ⟨R, 1, none⟩ = some (.int .i64 i) := hr.cell 1
  have c2 : w.cell? ⟨R, 2, none⟩ = some (.int .i64 0) := hr.cell 2
  have HS := Lib.hid (show Sl w R 1 (some ⟨g, o + i, none⟩) n (((bs.drop i).take n).map (.int .u8)) from ⟨by simp; omega, fun _ => ⟨g, o + i, rfl, hgR, fun k u hu => by
    rw [Nat.add_assoc]
    refine hcell (i + k) u ?_
    rw [List.getElem?_map, List.getElem?_take] at hu
    split at hu
    · rw [List.getElem?_drop] at hu
      rw [List.getElem?_map]
      exact hu
    · simp at hu⟩⟩)
  have HR := Lib.hid hr
  have HSA := Lib.hid hs
  have HC := Lib.hid hc
  have HLT := Lib.hid (show ((bs.drop i).take n).length = n by simp; omega)
  obtain ⟨l, hl⟩ : ∃ l, l = bs.length := ⟨_, rfl⟩
  rw [← hl] at c0
  have HL := Lib.hid hl
  have g1 : ¬ (n : Int) ≤ 0 := by omega
  have g2 : ¬ (n : Int) > (l : Int) - (i : Int) := by omega
  have g3 : (0 : Int) ≤ (i : Int) := by omega
  have g4 : (i : Int) ≤ (i : Int) + (n : Int) := by omega
  have g5 : (i : Int) + (n : Int) ≤ (c : Int) := by omega
  have g6 : ¬ c = i := by omega
  have w1 : IntKind.i64.wrap ((l : Int) - (i : Int)) = (l : Int) - (i : Int) := by rw [IntKind.wrap_i64]; omega
  have w2 : IntKind.i64.wrap ((i : Int) + (n : Int)) = (i : Int) + (n : Int) := by rw [IntKind.wrap_i64]; omega
  have w3 : ((i : Int) + (n : Int)).toNat = i + n := by omega
  have hll : l ≤ 100000 := by omega
  clear hr hcell hs hc hl hn hm h
  have hf : w.frozen? ⟨R, 1, none⟩ = false := HR.out.frozen 1
  go_enter Try.func84, Try.ntmps84
  go_wp2_with (fail)
  go_quiet (fail)
  go_wp2_with (fail)
  obtain ⟨wd, hwd⟩ : ∃ wd, wd = w.drewN nq := ⟨_, rfl⟩
  rw [← hwd]
  have HBD := Lib.hid (show Below w.heap.size w wd by rw [hwd]; exact below_drewN (Below.refl _ _) _)
  have d0 : wd.cell? ⟨R, 0, none⟩ = some (.slice (some ⟨g, o, none⟩) l c) := by rw [hwd]; exact c0
  have d1 : wd.cell? ⟨R, 1, none⟩ = some (.int .i64 i) := by rw [hwd]; exact c1
  have HDS := Lib.hid (show wd.heap.size = w.heap.size by rw [hwd]; rfl)
  clear hwd c0 c1 c2 hf
  go_region_held3 (fun w' => w'.cell? ⟨R, 0, none⟩ = some (.slice (some ⟨g, o, none⟩) l c) ∧ w'.cell? ⟨R, 1, none⟩ = some (.int .i64 i)) (first | go_keep | (refine ⟨?_, ?_⟩ <;> (refine cell_below HB5.out ?_; go_simp)))
    ((refine app_step _ (base := w.heap.size) (by have := HBD.out.size; simpa using this) (by rfl) _ _ (by rfl) (by rfl) ((bs.drop i).take n) (by rfl) HLT.out h1 (by omega) (by first | exact HS.out.below (HBD.out.mono (Nat.le_of_lt hR)) | exact HS.out.below (HBD.out.drew.mono (Nat.le_of_lt hR))) ?_; intro g5' cap5 w5 ho5 hb5; have HO5 := Lib.hid ho5; have HB5 := Lib.hid hb5; clear ho5 hb5))
  have HBW := Lib.hid (HBD.out.trans ((show Below wd.heap.size wd w5 from ⟨HB5.out.os, HB5.out.tape, HB5.out.output, HB5.out.size, HB5.out.block⟩).mono HBD.out.size))
  have HR5 := Lib.hid (HR.out.below HBW.out hR)
  have HL5 := HL.out
  have k1 : w5.cell? ⟨R, 1, none⟩ = some (.int .i64 i) := HR5.out.cell 1
  have k2 : w5.frozen? ⟨R, 1, none⟩ = false := HR5.out.frozen 1
  clear HL5
  go_wp2_with (fail)
  go_ret
  refine ⟨g5', cap5, rfl, ownsRow_setCell_below HO5.out (a := ⟨R, 1, none⟩) hR _, ⟨some ⟨g, o, none⟩, c, ?_, ?_, ?_⟩, (Kept.of_below HBW.out (fun k => k = R)).setCell (p := ⟨R, 1, none⟩) (.inl rfl) _⟩
  · have h := HR5.out.setCell 1 (.int .i64 ((i + n : Nat) : Int))
    rw [show ((i : Int) + (n : Int)) = ((i + n : Nat) : Int) by omega]
    exact h
  · exact HC.out
  · exact HSA.out.below ((HBW.out.mono (Nat.le_of_lt hR)).setCell (p := ⟨R, 1, none⟩) (Nat.le_refl _) _)

set_option maxRecDepth 100000 in
set_option maxHeartbeats 4000000 in
/-- the next number -/
theorem num_at {w : World} {R : Nat} {bs : List Int} {i : Nat} (h : RRd w R bs i) (k : Nat) (h1 : 1 ≤ k) (h6 : k ≤ 6) (hn : i + k ≤ bs.length) (hm : bs.length ≤ 100000) (hby : Byt bs) :
    Calls Try.prog 55 #[.pointer (some ⟨R, 0, none⟩), .int .i64 k] w fun e w' => e = .returned (.int .i64 (val ((bs.drop i).take k) : Nat)) ∧ RRd w' R bs (i + k) ∧ Kept (fun k => k = R) w w' := by
  have HH := Lib.hid (bytes_at h k h1 hn hm)
  obtain ⟨cs, hcs⟩ : ∃ cs, cs = (bs.drop i).take k := ⟨_, rfl⟩
  rw [← hcs] at HH ⊢
  have HY := Lib.hid (show Byt cs by rw [hcs]; exact Go.Proofs.Ytdlbcbdfcjfagaa.record.take_byt (Go.Proofs.Ytdlbcbdfcjfagaa.record.drop_byt hby _) _)
  have HCL := Lib.hid (show cs.length = k by rw [hcs]; simp; omega)
  clear h hby hcs
  go_enter Try.func55, Try.ntmps55
  go_wp2_with (fail)
  refine (width_at _ k h1 h6).mono ?_; rintro e w' ⟨rfl, rfl⟩
  go_wp2_with (fail)
  refine HH.out.mono ?_; rintro e w1 ⟨g, c, rfl, ho, hr, hk⟩
  have HS := Lib.hid (Sl.of_own ho)
  have HF := Lib.hid (And.intro hr hk)
  clear ho hr hk
  go_wp2_with (fail)
  go_loopw [7, 6] (fun i s wr => ∃ j : Nat, j ≤ k ∧ i = .int .i64 j ∧ s = .int .i64 (val (cs.take j) : Nat) ∧ wr = w1) (fun i _ _ => k - (intOf i).toNat)
  case atStart => exact ⟨0, by omega, rfl, by rw [List.take_zero]; rfl, rfl⟩
  case round =>
    obtain ⟨j, hj, rfl, rfl, rfl⟩ := hrel
    by_cases hlt : j < k
    · have hjb : j < cs.length := by rw [HCL.out]; exact hlt
      obtain ⟨b, off, hbo, hbl, hcell⟩ := HS.out.2 (by omega)
      injection hbo with hbo
      injection hbo with e1 e2 _
      subst e1; subst e2
      have hz := HY.out cs[j] (List.getElem_mem hjb)
      have c1 := hcell j (.int .u8 cs[j]) (by simp [hjb])
      rw [Nat.zero_add] at c1
      have hnx := val_take_succ cs j hjb
      have hfl : val (cs.take j) < 2 ^ 40 := by
        have h := val_lt (cs.take j) fun y hy => HY.out y (List.mem_of_mem_take hy)
        rw [List.length_take, Nat.min_eq_left (by omega)] at h
        exact Nat.lt_of_lt_of_le h (Nat.le_trans (Nat.pow_le_pow_right (by decide) (show j ≤ 5 by omega)) (by decide))
      generalize hf : val (cs.take j) = f at *
      have hz2 : cs[j] = ((cs[j].toNat : Nat) : Int) := by omega
      rw [hz2] at c1
      generalize hzn : cs[j].toNat = z at *
      have hzl : z < 256 := by omega
      have i0 : (0 : Int) ≤ (j : Int) := by omega
      have i1 : (j : Int) < (k : Int) := by omega
      have hfi : (f : Int) ≤ 1099511627776 := by omega
      have HNX := Lib.hid hnx
      clear hcell hnx hz2 hz hzn hf
      go_wp2_with (fail)
      go_roundw
      case rel => exact ⟨j + 1, by omega, by go_num, by rw [HNX.out]; go_num, trivial⟩
      case measure => simp [intOf] <;> omega
    · have hk2 : j = k := by omega
      have hlt' : ¬ (j : Int) < (k : Int) := by omega
      have HK := Lib.hid hk2
      clear hk2
      go_wp2_with (fail)
      go_ret
      exact ⟨ret_int (by rw [HK.out, ← HCL.out, List.take_length]), HF.out⟩
end Go.Proofs.Ytdlbcbdfcjfagaa.refNum
