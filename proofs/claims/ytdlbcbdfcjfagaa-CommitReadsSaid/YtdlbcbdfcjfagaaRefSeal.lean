/-
  PROVED HERE: a sector of some first bytes, as the document tells it; a record's sector.
  CONDITIONS: each contract names its own.
-/
import Derived.Test.YtdlbcbdfcjfagaaRefRec
namespace Go.Proofs.Ytdlbcbdfcjfagaa.refRec
set_option linter.unusedVariables false
open Go.RowKit Go.Proofs.Ytdlbcbdfcjfagaa.base Go.Proofs.Ytdlbcbdfcjfagaa.obj Go.Proofs.Ytdlbcbdfcjfagaa.mem Go.Proofs.Ytdlbcbdfcjfagaa.crc Go.Proofs.Ytdlbcbdfcjfagaa.num Go.Proofs.Ytdlbcbdfcjfagaa.bytes Go.Proofs.Ytdlbcbdfcjfagaa.record Go.Proofs.Ytdlbcbdfcjfagaa.refNum

theorem _root_.Go.Proofs.Ytdlbcbdfcjfagaa.mem.Row.grown {w w' : World} {g : Nat} {t : TypeId} {xs : List Value} {row : Option Nat} (h : Row w g t xs) (k : w.grownBy w' row) (hn : row ≠ some g) : Row w' g t xs := (k.block g h.lt (fun e => hn e.symm)).trans h
/-- a row of the call's own is not a block of another type -/
theorem own_ne {w : World} {base g : Nat} {e t : TypeId} {size : Nat} {v : Value} {n : Nat} {xs ys : List Value} (ho : w.ownsRow base e size v n xs) (hr : Row w g t ys) (ht : t ≠ e) : v.ownBlock ≠ some g := by
  intro h
  rcases ho.2 with ⟨rfl, _⟩ | ⟨k, cap, cur, rfl, _, hk, _⟩
  · simp [Value.ownBlock] at h
  · simp only [Value.ownBlock, Option.some.injEq] at h
    subst h
    unfold Row at hr
    rw [hk] at hr
    injection hr with hr
    injection hr with _ h2
    exact ht h2.symm
/-- the first j of q, and zeros -/
def fillZ (q : List Int) (N j : Nat) : List Int := q.take j ++ List.replicate (N - j) 0
theorem fillZ_length (q : List Int) (N j : Nat) (h : j ≤ q.length) (hN : j ≤ N) : (fillZ q N j).length = N := by simp [fillZ]; omega
theorem fillZ_set (q : List Int) (N j : Nat) (h : j < q.length) (hN : j < N) : (fillZ q N j).set j q[j] = fillZ q N (j + 1) := by
  unfold fillZ
  rw [List.set_append_right _ _ (by simp; omega), List.take_succ_eq_append_getElem h, show N - j = (N - (j + 1)) + 1 by omega, List.replicate_succ]
  rw [List.length_take, Nat.min_eq_left (by omega), Nat.sub_self, List.set_cons_zero, List.append_assoc]
  rfl
def z64 : Array Value := Array.replicate 64 (.int .u8 0)
theorem make64 (w : World) : (Instr.makeSlice 25 (.int .i64 64) (.int .i64 64)).run Try.prog w = .ok (.slice (some ⟨w.heap.size, 0, none⟩) 64 64) (w.alloc (.cells z64 5)) := by
  have h := make_eq 64 (by decide) w
  rw [show ((64 : Nat) : Int) = 64 from rfl] at h
  rw [h]
  rfl
theorem z64_row (w : World) (q : List Int) : Row (w.alloc (.cells z64 5)) w.heap.size 5 ((fillZ q 64 0).map (.int .u8)) := by
  have h := zero_row w 64
  unfold fillZ
  rw [List.take_zero, List.nil_append]
  exact h
theorem fillZ_seal (p : List Int) (h : p.length ≤ 60) : fillZ (p ++ be 4 (sum p)) 64 (p.length + 4) = sealB p := by
  unfold fillZ sealB
  rw [List.take_of_length_le (by simp [be_length]), show 64 - (p.length + 4) = 60 - p.length by omega]

set_option maxRecDepth 100000 in
set_option maxHeartbeats 4000000 in
theorem sealed_at (w : World) (A : Option Addr) (n c : Nat) (p : List Int) (hl : p.length = n) (hn : n ≤ 60) (hb : Byt p) (hs : Sl w w.heap.size 1 A n (p.map (.int .u8))) :
    Calls Try.prog 20 #[.slice A n c] w fun e w' => ∃ g, e = .returned (.slice (some ⟨g, 0, none⟩) 64 64) ∧ w.heap.size ≤ g ∧ Row w' g 5 ((sealB p).map (.int .u8)) ∧ Below w.heap.size w w' := by
  have hmk := make64
  obtain ⟨q, hq⟩ : ∃ q, q = p ++ be 4 (sum p) := ⟨_, rfl⟩
  have HQ := Lib.hid hq
  have HQL := Lib.hid (show q.length = n + 4 by rw [hq]; simp [be_length, hl])
  have HL := Lib.hid hl; have HY := Lib.hid hb; have HS := Lib.hid hs
  have HR0 := Lib.hid (z64_row w q)
  have HB0 := Lib.hid ((Below.refl w.heap.size w).alloc (Nat.le_refl _) (.cells z64 5))
  clear hl hb hs hq
  go_enter Try.func20, Try.ntmps20
  go_wp2_with (fail)
  go_loopw [4] (fun i wr => ∃ k : Nat, k ≤ n ∧ i = .int .i64 k ∧ Row wr w.heap.size 5 ((fillZ q 64 k).map (.int .u8)) ∧ Below w.heap.size w wr) (fun i _ => n - (intOf i).toNat)
  case atStart => exact ⟨0, by omega, rfl, HR0.out, HB0.out⟩
  case round =>
    obtain ⟨k, hk, rfl, hr, hbl⟩ := hrel
    have HR := Lib.hid hr; have HB := Lib.hid hbl
    clear hr hbl
    by_cases hlt : k < n
    · have hkp : k < p.length := by rw [HL.out]; exact hlt
      have hkq : k < q.length := by rw [HQL.out]; omega
      obtain ⟨b, off, rfl, hbl, hc⟩ := HS.out.2 (by omega)
      have HE := Lib.hid (show q[k] = p[k] by simp only [HQ.out]; rw [List.getElem_append_left hkp])
      have c1 : wr.cell? ⟨b, off + k, none⟩ = some (.int .u8 p[k]) := (HB.out.cell (p := ⟨b, off + k, none⟩) hbl).trans (hc k _ (by simp [hkp]))
      obtain ⟨v0, hv0⟩ : ∃ v, ((fillZ q 64 k).map (Value.int .u8))[k]? = some v := ⟨_, List.getElem?_eq_getElem (by rw [List.length_map, fillZ_length q 64 k (by omega) (by omega)]; omega)⟩
      have c2 := (HR.out.cell k).trans hv0
      have f2 := HR.out.frozen k
      have l2 := HR.out.lt
      have HST := Lib.hid (fillZ_set q 64 k hkq (by omega))
      have hne : w.heap.size ≠ b := by omega
      have i0 : (0 : Int) ≤ (k : Int) := by omega
      have i1 : (k : Int) < (n : Int) := by omega
      have i2 : (k : Int) < 64 := by omega
      generalize hz : p[k] = z at *
      have HZ := Lib.hid hz
      clear hc hv0 hz
      go_wp2_with (fail)
      go_roundw
      case rel => exact ⟨k + 1, by omega, by go_num, by rw [← HST.out, HE.out, ← mapset]; exact HR.out.setCell k _, HB.out.setCell (p := ⟨w.heap.size, k, none⟩) (Nat.le_refl _) _⟩
      case measure => simp [intOf] <;> omega
    · have hkn : k = n := by omega
      have hlt' : ¬ (k : Int) < (n : Int) := by omega
      have HK := Lib.hid hkn
      clear hkn
      have HSL := Lib.hid (show Sl wr wr.heap.size 1 A n (p.map (.int .u8)) from (HS.out.below HB.out).more HB.out.size)
      go_wp2_with (fail)
      refine (refCrc.sum_at _ A n c p HL.out (by omega) HY.out HSL.out).mono ?_
      rintro e w' ⟨rfl, rfl⟩
      have HS32 := Lib.hid (sum_lt (bs := p))
      obtain ⟨sm, hsm⟩ : ∃ sm, sm = sum p := ⟨_, rfl⟩
      rw [← hsm] at HS32 ⊢
      have HSM := Lib.hid hsm
      clear hsm
      have cv : IntKind.i64.wrap (sm : Int) = (sm : Int) := by have := HS32.out; rw [IntKind.wrap_i64]; omega
      go_wp2_with (fail)
      refine (refNum.put_at _ sm (by have := HS32.out; omega) 4 (by omega) (by omega)).mono ?_
      rintro e w2 ⟨g2, rfl, hg2, hrow2, hb2⟩
      have HR2 := Lib.hid (show Row w2 g2 5 ((be 4 sm).map (.int .u8)) by rw [heldN_in 4 sm (Nat.lt_of_lt_of_le HS32.out (by decide))] at hrow2; exact hrow2)
      have HRq := Lib.hid (HR.out.below hb2 HR.out.lt)
      have HB2 := Lib.hid (HB.out.trans (hb2.mono HB.out.size))
      have hgne : g2 ≠ w.heap.size := by have := HR.out.lt; omega
      clear hrow2 hb2
      go_wp2_with (fail)
      go_loopw [6] (fun i wr => ∃ j : Nat, j ≤ 4 ∧ i = .int .i64 j ∧ Row wr w.heap.size 5 ((fillZ q 64 (n + j)).map (.int .u8)) ∧ Row wr g2 5 ((be 4 sm).map (.int .u8)) ∧ Below w.heap.size w wr) (fun i _ => 4 - (intOf i).toNat)
      case atStart => exact ⟨0, by omega, rfl, by rw [Nat.add_zero, ← HK.out]; exact HRq.out, HR2.out, HB2.out⟩
      case round =>
        obtain ⟨j, hj, rfl, hr, hr2, hbl⟩ := hrel
        have HR' := Lib.hid hr; have HR2' := Lib.hid hr2; have HB' := Lib.hid hbl
        clear hr hr2 hbl
        by_cases hlj : j < 4
        · have hjq : n + j < q.length := by rw [HQL.out]; omega
          have hjb : j < (be 4 sm).length := by rw [be_length]; exact hlj
          have HE := Lib.hid (show q[n + j] = (be 4 sm)[j] by
            simp only [HQ.out, HSM.out]
            rw [List.getElem_append_right (by rw [HL.out]; omega)]
            congr 1
            rw [HL.out]; omega)
          have c1 : wr.cell? ⟨g2, j, none⟩ = some (.int .u8 (be 4 sm)[j]) := (HR2'.out.cell j).trans (by simp [hjb])
          obtain ⟨v0, hv0⟩ : ∃ v, ((fillZ q 64 (n + j)).map (Value.int .u8))[n + j]? = some v := ⟨_, List.getElem?_eq_getElem (by rw [List.length_map, fillZ_length q 64 (n + j) (by omega) (by omega)]; omega)⟩
          have c2 := (HR'.out.cell (n + j)).trans hv0
          have f2 := HR'.out.frozen (n + j)
          have l2 := HR'.out.lt
          have l3 := HR2'.out.lt
          have HST := Lib.hid (fillZ_set q 64 (n + j) hjq (by omega))
          have i0 : (0 : Int) ≤ (j : Int) := by omega
          have i1 : (j : Int) < 4 := by omega
          have i2 : (n : Int) + (j : Int) < 64 := by omega
          have i3 : (0 : Int) ≤ (n : Int) + (j : Int) := by omega
          have en : ((n : Int) + (j : Int)).toNat = n + j := by omega
          generalize hz : (be 4 sm)[j] = z at *
          have HZ := Lib.hid hz
          clear hv0 hz
          go_wp2_with (fail)
          go_roundw
          case rel => exact ⟨j + 1, by omega, by go_num, by rw [show n + (j + 1) = n + j + 1 by omega, ← HST.out, HE.out, ← mapset]; exact HR'.out.setCell (n + j) _, HR2'.out.setCell_other (p := ⟨w.heap.size, n + j, none⟩) hgne _, HB'.out.setCell (p := ⟨w.heap.size, n + j, none⟩) (Nat.le_refl _) _⟩
          case measure => simp [intOf] <;> omega
        · have hj4 : j = 4 := by omega
          have hlj' : ¬ (j : Int) < 4 := by omega
          have HJ := Lib.hid hj4
          clear hj4
          go_wp2_with (fail)
          go_ret
          refine ⟨w.heap.size, rfl, Nat.le_refl _, ?_, HB'.out⟩
          have h := HR'.out
          rw [HJ.out, HQ.out, ← HL.out, fillZ_seal p (by rw [HL.out]; exact hn)] at h
          exact h
end Go.Proofs.Ytdlbcbdfcjfagaa.refRec
