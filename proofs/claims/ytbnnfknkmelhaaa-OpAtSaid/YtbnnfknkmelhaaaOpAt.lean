/-
  PROVED HERE: for every byte slice code and every int pc, longeronlaw15.OpAt(code, pc) returns true and leaves memory as it was.
  CONDITIONS: none.
-/
import Derived.Test.YtbnnfknkmelhaaaOpWakes
import Derived.Test.YtbnnfknkmelhaaaLift
import Derived.Deep.QuietTactic
import Derived.BigQuiet
namespace Go.Proofs.Ytbnnfknkmelhaaa.opAt
set_option linter.unusedVariables false
open Go.RowKit Go.ChangeShapes Go.WideShapes Go.ChangeAt Go.Deep Go.Joins Go.Proofs.Ytbnnfknkmelhaaa.base Go.Proofs.Ytbnnfknkmelhaaa.op Go.Proofs.Ytbnnfknkmelhaaa.same Go.Proofs.Ytbnnfknkmelhaaa.opWakes

theorem bytes_of {zs : List Int} (h : ∀ z ∈ zs, (Lit.int .u8 z).wf = true) : Bytes zs := by
  intro z hz
  have := h z hz
  have h1 : IntKind.u8.min = 0 := rfl
  have h2 : IntKind.u8.max = 255 := rfl
  simp only [Lit.wf, Bool.and_eq_true, decide_eq_true_eq] at this
  omega

def resM (zs : List Int) (pc : Int) : Option (Int × Int × Nat) := if 0 ≤ pc then atM zs pc.toNat else none
def APost (zs : List Int) (pc : Int) (e : Ending) : Prop := ∀ r, resM zs pc = r →
  match r with
  | none => e = .returned (.tuple #[.agg #[.int .i64 0, .int .i64 0], .int .i64 0, .int .i64 19])
  | some (o, a, j) => e = .returned (.tuple #[.agg #[.int .i64 o, .int .i64 a], .int .i64 j, .int .i64 0])
def RPost (zs : List Int) (pc : Int) (e : Ending) : Prop := ∀ r, resM zs pc = r →
  match r with
  | none => e = .returned (.agg #[.int .i64 0, .int .i64 0, .int .i64 0, .bool false])
  | some (o, a, j) => e = .returned (.agg #[.int .i64 o, .int .i64 a, .int .i64 j, .bool true])
theorem resM_out {zs : List Int} {pc : Int} (h : pc < 0 ∨ (zs.length : Int) ≤ pc) : resM zs pc = none := by
  unfold resM
  split
  · exact atM_end (by omega)
  · rfl
theorem at_all (pc : Int) (zs : List Int) (A : Option Addr) (c : Nat) (w : World) (hn2 : zs.length ≤ 1000000) (hz : Bytes zs) (hs : Sl w w.heap.size 1 A zs.length (zs.map (Value.int .u8))) :
    Calls Try.prog 43 #[.slice A zs.length c, .int .i64 pc] w fun e w' => APost zs pc e ∧ Below w.heap.size w w' := by
  by_cases h : pc < 0 ∨ (zs.length : Int) ≤ pc
  · refine (at_out pc zs A zs.length c w rfl hn2 h).mono fun e w' ⟨a, b⟩ => ⟨fun r hr => ?_, b⟩
    rw [resM_out h] at hr; subst hr; exact a
  · obtain ⟨k, rfl⟩ := Int.eq_ofNat_of_zero_le (show 0 ≤ pc by omega)
    refine (at_in k zs A zs.length c w rfl hn2 (by omega) hz hs).mono fun e w' ⟨a, b⟩ => ⟨fun r hr => ?_, b⟩
    exact a r (by simpa [resM] using hr)
theorem rat_all (pc : Int) (zs : List Int) (A : Option Addr) (c : Nat) (w : World) (hn2 : zs.length ≤ 1000000) (hz : Bytes zs) (hs : Sl w w.heap.size 1 A zs.length (zs.map (Value.int .u8))) :
    Calls Try.prog 48 #[.slice A zs.length c, .int .i64 pc] w fun e w' => RPost zs pc e ∧ Below w.heap.size w w' := by
  by_cases h : pc < 0 ∨ (zs.length : Int) ≤ pc
  · refine (rat_out pc zs A zs.length c w rfl hn2 h).mono fun e w' ⟨a, b⟩ => ⟨fun r hr => ?_, b⟩
    rw [resM_out h] at hr; subst hr; exact a
  · obtain ⟨k, rfl⟩ := Int.eq_ofNat_of_zero_le (show 0 ≤ pc by omega)
    refine (rat_in k zs A zs.length c w rfl hn2 (by omega) hz hs).mono fun e w' ⟨a, b⟩ => ⟨fun r hr => ?_, b⟩
    exact a r (by simpa [resM] using hr)

/-! ### the plain law: what All found, and where the law's own loop is -/
theorem ok_none {zs : List Int} {i kk k at' : Nat} (h : st zs i = some kk) (hk : zs.length ≤ kk) (h' : st zs k = some at') (hlt : at' < zs.length) (ha : atM zs at' = none) : False := by
  by_cases hki : k < i
  · have := st_stop h' ha i hki; rw [h] at this; cases this
  · by_cases e : k = i
    · subst e; rw [h] at h'; injection h' with h'; omega
    · have := st_stop h (atM_end hk) k (by omega); rw [h'] at this; cases this
theorem ok_some {zs : List Int} {i kk k at' : Nat} (h : st zs i = some kk) (hk : zs.length ≤ kk) (h' : st zs k = some at') (hlt : at' < zs.length) : k < i := by
  by_cases hki : k < i
  · exact hki
  · by_cases e : k = i
    · subst e; rw [h] at h'; injection h' with h'; omega
    · have := st_stop h (atM_end hk) k (by omega); rw [h'] at this; cases this
theorem err_end {zs : List Int} {i kk k at' : Nat} (h : st zs i = some kk) (hk : kk < zs.length) (ha : atM zs kk = none) (h' : st zs k = some at') (hge : zs.length ≤ at') : False := by
  by_cases hki : k < i
  · have := st_stop h' (atM_end hge) i hki; rw [h] at this; cases this
  · by_cases e : k = i
    · subst e; rw [h] at h'; injection h' with h'; omega
    · have := st_stop h ha k (by omega); rw [h'] at this; cases this

set_option maxHeartbeats 4000000 in
theorem walk (w : World) (A : Option Addr) (c : Nat) (zs : List Int) (hm : zs.length ≤ maxLen) (hs : Sl w w.heap.size 1 A zs.length (zs.map (Value.int .u8))) (hz : ∀ z ∈ zs, (Lit.int .u8 z).wf = true) (pc : Int) (wp : (Lit.int .i64 pc).wf = true) :
    Calls Try.prog 13 #[.slice A zs.length c, .int .i64 pc] w fun e w' => e = .returned (.bool true) ∧ Below w.heap.size w w' := by
  have HZ := Lib.hid (bytes_of hz)
  have HS := Lib.hid hs
  clear hz hs
  unfold maxLen at hm
  by_cases hlen : 300 < zs.length
  · have b1 : (300 : Int) < (zs.length : Int) := by omega
    go_enter Try.func13, Try.ntmps13
    go_wp2_with (go_at_call 39; refine (wakes _).mono ?_; rintro e w1 ⟨rfl, hb1⟩; have HB1 := Lib.hid hb1; clear hb1)
    go_ret
    exact ⟨rfl, HB1.out⟩
  · have hn2 : zs.length ≤ 1000000 := by omega
    have b1 : ¬ (300 : Int) < (zs.length : Int) := by omega
    go_enter Try.func13, Try.ntmps13
    go_wp2_with (fail)
    refine (wakes _).mono ?_; rintro e w1 ⟨rfl, hb1⟩; have HB1 := Lib.hid hb1; clear hb1
    go_wp2_with (fail)
    refine (at_all pc zs A c w1 hn2 HZ.out ((HS.out.below HB1.out).more HB1.out.size)).mono ?_
    rintro e w2 ⟨h2, hb2⟩
    have HB2 := Lib.hid (btrans HB1.out hb2); clear hb2
    have H2 := Lib.hid h2; clear h2
    cases hr : resM zs pc with
    | none =>
      have he := H2.out _ hr
      simp only at he
      subst he
      have HR := Lib.hid hr
      clear hr H2
      go_wp2_with (fail)
      refine (rat_all pc zs A c _ hn2 HZ.out ((HS.out.below (HB2.out.alloc HB2.out.size _)).more (by have := HB2.out.size; simp; omega))).mono ?_
      rintro e w3 ⟨h3, hb3⟩
      have he := h3 _ HR.out
      simp only at he
      subst he
      have q1 : w3.cell? ⟨w2.heap.size, 0, none⟩ = some (.int .i64 0) := cell_below hb3 (by simp)
      have q2 : w3.cell? ⟨w2.heap.size, 1, none⟩ = some (.int .i64 0) := cell_below hb3 (by simp)
      have hz3 : w2.heap.size < w3.heap.size := by have := hb3.size; simp at this; omega
      have HB3 : Hid (Below w.heap.size w w3) := Lib.hid ((HB2.out.alloc HB2.out.size _).trans (hb3.mono (by have := HB2.out.size; simp; omega)))
      clear h3 hb3
      go_wp2_with (fail)
      refine (all_any zs A _ c _ rfl hn2 HZ.out ((HS.out.below (HB3.out.alloc HB3.out.size _)).more (by have := HB3.out.size; simp; omega))).mono ?_
      rintro e w4 ⟨h4, hb4⟩
      have HB4 : Hid (Below w.heap.size w w4) := Lib.hid ((HB3.out.alloc HB3.out.size _).trans (hb4.mono (by have := HB3.out.size; simp; omega)))
      clear hb4 q1 q2 HB2 HB3 hz3 HR
      rcases h4 with ⟨i, kk, v, hst, hkk, rfl, hown⟩ | ⟨i, kk, hst, hkk, ha, rfl⟩
      · obtain ⟨A', c', rfl, hsl⟩ := own_sl hown
        have HST := Lib.hid hst; have HKK := Lib.hid hkk; have HSL := Lib.hid hsl
        have hi := (st_ge zs i kk hst).1
        have hi2 := (st_ge zs i kk hst).2
        clear hst hkk hown hsl
        go_wp2_with (fail)
        go_loopw [11, 12] (fun p q wr => ∃ k j : Nat, st zs k = some j ∧ p = .int .i64 j ∧ q = .int .i64 k ∧ Below w4.heap.size w4 wr) (fun p _ _ => zs.length - (intOf p).toNat)
        case atStart => exact ⟨0, 0, rfl, rfl, rfl, Below.refl _ _⟩
        case round =>
          obtain ⟨k, j, hst, rfl, rfl, hb⟩ := hrel
          have HS2 := Lib.hid hst
          have hkj := (st_ge zs k j hst).1
          have hjn := (st_ge zs k j hst).2
          have HB : Hid (Below w.heap.size w wr) := Lib.hid (HB4.out.trans (hb.mono HB4.out.size))
          have hzr := hb.size
          have hsl2 := (HSL.out.below hb).more hzr
          by_cases hlt : j < zs.length
          · cases hr : atM zs j with
            | none => exact (ok_none HST.out HKK.out hst hlt hr).elim
            | some r =>
              obtain ⟨o2, a2, j2⟩ := r
              have hki := ok_some HST.out HKK.out hst hlt
              have hnx := st_next hst hr
              have hj2 := (atM_lt hr).2.1
              have hj3 := (atM_lt hr).2.2
              obtain ⟨b, off, rfl, hbl, hc⟩ := hsl2.2 (by omega)
              have hg := insCells_get (insL zs i) k (by rw [insL_len]; exact hki)
              have hel : (insL zs i)[k]'(by rw [insL_len]; exact hki) = (o2, a2) := by simp [insL, hnx.2]
              rw [hel] at hg
              have c1 := hc _ _ hg.1
              have c2 : wr.cell? ⟨b, off + k * 2 + 1, none⟩ = some (.int .i64 a2) := by rw [Nat.add_assoc]; exact hc _ _ hg.2
              have HR := Lib.hid hr; have HNX := Lib.hid hnx.1
              have HBW := Lib.hid hb
              clear hr hnx hg hel hc hsl2 hst hb
              have b3 : decide ((i : Int) ≤ (k : Int)) = false := by simp; omega
              have i0 : (0 : Int) ≤ (k : Int) := by omega
              have i1 : (k : Int) < (i : Int) := by omega
              go_wp2_with (fail)
              refine (rat_in j zs A _ c wr rfl hn2 hlt HZ.out ((HS.out.below HB.out).more HB.out.size)).mono ?_
              rintro e w5 ⟨h5, hb5⟩
              have he := h5 _ HR.out
              simp only at he
              subst he
              have d1 := cell_below hb5 c1
              have d2 := cell_below hb5 c2
              have hb6 : Below w4.heap.size w4 w5 := HBW.out.trans (hb5.mono hzr)
              have HB6 := Lib.hid hb6
              have hz5 : b < w5.heap.size := by have := hb5.size; omega
              clear h5 hb5 hb6 c1 c2
              go_wp2_with (fail)
              go_quiet (fail)
              go_wp2_with (fail)
              go_roundw
              case rel => exact ⟨k + 1, j2, HNX.out, rfl, by go_num, below_drewN (HB6.out.alloc HB6.out.size _) _⟩
              case measure => simp [intOf]; omega
          · have HBW := Lib.hid hb
            clear hst hb hsl2
            go_wp2_with (fail)
            go_ret
            exact ⟨rfl, HB.out⟩
      · have HST := Lib.hid hst; have HKK := Lib.hid hkk; have HA := Lib.hid ha
        clear hst hkk ha
        go_wp2_with (fail)
        go_loopw [11, 12] (fun p q wr => ∃ k j : Nat, st zs k = some j ∧ p = .int .i64 j ∧ q = .int .i64 k ∧ Below w.heap.size w wr) (fun p _ _ => zs.length - (intOf p).toNat)
        case atStart => exact ⟨0, 0, rfl, rfl, rfl, HB4.out⟩
        case round =>
          obtain ⟨k, j, hst, rfl, rfl, hb⟩ := hrel
          have hkj := (st_ge zs k j hst).1
          have hjn := (st_ge zs k j hst).2
          by_cases hlt : j < zs.length
          · have HB := Lib.hid hb
            clear hb
            cases hr : atM zs j with
            | none =>
              have HR := Lib.hid hr
              clear hr hst
              go_wp2_with (fail)
              refine (rat_in j zs A _ c wr rfl hn2 hlt HZ.out ((HS.out.below HB.out).more HB.out.size)).mono ?_
              rintro e w5 ⟨h5, hb5⟩
              have he := h5 _ HR.out
              simp only at he
              subst he
              have HB6 := Lib.hid (HB.out.trans (hb5.mono HB.out.size))
              clear h5 hb5
              go_wp2_with (fail)
              go_ret
              exact ⟨rfl, HB6.out.alloc HB6.out.size _⟩
            | some r =>
              obtain ⟨o2, a2, j2⟩ := r
              have hnx := st_next hst hr
              have hj2 := (atM_lt hr).2.1
              have hj3 := (atM_lt hr).2.2
              have HR := Lib.hid hr; have HNX := Lib.hid hnx.1
              clear hr hst hnx
              go_wp2_with (fail)
              refine (rat_in j zs A _ c wr rfl hn2 hlt HZ.out ((HS.out.below HB.out).more HB.out.size)).mono ?_
              rintro e w5 ⟨h5, hb5⟩
              have he := h5 _ HR.out
              simp only at he
              subst he
              have HB6 := Lib.hid (HB.out.trans (hb5.mono HB.out.size))
              clear h5 hb5
              go_wp2_with (fail)
              go_quiet (fail)
              go_wp2_with (fail)
              go_roundw
              case rel => exact ⟨k + 1, j2, HNX.out, rfl, by go_num, below_drewN (HB6.out.alloc HB6.out.size _) _⟩
              case measure => simp [intOf]; omega
          · exact (err_end HST.out HKK.out HA.out hst (by omega)).elim
    | some r =>
      obtain ⟨o, a, j⟩ := r
      have he := H2.out _ hr
      simp only at he
      subst he
      have HR := Lib.hid hr
      clear hr H2
      go_wp2_with (fail)
      refine (rat_all pc zs A c _ hn2 HZ.out ((HS.out.below (HB2.out.alloc HB2.out.size _)).more (by have := HB2.out.size; simp; omega))).mono ?_
      rintro e w3 ⟨h3, hb3⟩
      have he := h3 _ HR.out
      simp only at he
      subst he
      have q1 : w3.cell? ⟨w2.heap.size, 0, none⟩ = some (.int .i64 o) := cell_below hb3 (by simp)
      have q2 : w3.cell? ⟨w2.heap.size, 1, none⟩ = some (.int .i64 a) := cell_below hb3 (by simp)
      have hz3 : w2.heap.size < w3.heap.size := by have := hb3.size; simp at this; omega
      have HB3 : Hid (Below w.heap.size w w3) := Lib.hid ((HB2.out.alloc HB2.out.size _).trans (hb3.mono (by have := HB2.out.size; simp; omega)))
      clear h3 hb3
      go_wp2_with (fail)
      refine (all_any zs A _ c _ rfl hn2 HZ.out ((HS.out.below (HB3.out.alloc HB3.out.size _)).more (by have := HB3.out.size; simp; omega))).mono ?_
      rintro e w4 ⟨h4, hb4⟩
      have HB4 : Hid (Below w.heap.size w w4) := Lib.hid ((HB3.out.alloc HB3.out.size _).trans (hb4.mono (by have := HB3.out.size; simp; omega)))
      clear hb4 q1 q2 HB2 HB3 hz3 HR
      rcases h4 with ⟨i, kk, v, hst, hkk, rfl, hown⟩ | ⟨i, kk, hst, hkk, ha, rfl⟩
      · obtain ⟨A', c', rfl, hsl⟩ := own_sl hown
        have HST := Lib.hid hst; have HKK := Lib.hid hkk; have HSL := Lib.hid hsl
        have hi := (st_ge zs i kk hst).1
        have hi2 := (st_ge zs i kk hst).2
        clear hst hkk hown hsl
        go_wp2_with (fail)
        go_loopw [11, 12] (fun p q wr => ∃ k j : Nat, st zs k = some j ∧ p = .int .i64 j ∧ q = .int .i64 k ∧ Below w4.heap.size w4 wr) (fun p _ _ => zs.length - (intOf p).toNat)
        case atStart => exact ⟨0, 0, rfl, rfl, rfl, Below.refl _ _⟩
        case round =>
          obtain ⟨k, j, hst, rfl, rfl, hb⟩ := hrel
          have HS2 := Lib.hid hst
          have hkj := (st_ge zs k j hst).1
          have hjn := (st_ge zs k j hst).2
          have HB : Hid (Below w.heap.size w wr) := Lib.hid (HB4.out.trans (hb.mono HB4.out.size))
          have hzr := hb.size
          have hsl2 := (HSL.out.below hb).more hzr
          by_cases hlt : j < zs.length
          · cases hr : atM zs j with
            | none => exact (ok_none HST.out HKK.out hst hlt hr).elim
            | some r =>
              obtain ⟨o2, a2, j2⟩ := r
              have hki := ok_some HST.out HKK.out hst hlt
              have hnx := st_next hst hr
              have hj2 := (atM_lt hr).2.1
              have hj3 := (atM_lt hr).2.2
              obtain ⟨b, off, rfl, hbl, hc⟩ := hsl2.2 (by omega)
              have hg := insCells_get (insL zs i) k (by rw [insL_len]; exact hki)
              have hel : (insL zs i)[k]'(by rw [insL_len]; exact hki) = (o2, a2) := by simp [insL, hnx.2]
              rw [hel] at hg
              have c1 := hc _ _ hg.1
              have c2 : wr.cell? ⟨b, off + k * 2 + 1, none⟩ = some (.int .i64 a2) := by rw [Nat.add_assoc]; exact hc _ _ hg.2
              have HR := Lib.hid hr; have HNX := Lib.hid hnx.1
              have HBW := Lib.hid hb
              clear hr hnx hg hel hc hsl2 hst hb
              have b3 : decide ((i : Int) ≤ (k : Int)) = false := by simp; omega
              have i0 : (0 : Int) ≤ (k : Int) := by omega
              have i1 : (k : Int) < (i : Int) := by omega
              go_wp2_with (fail)
              refine (rat_in j zs A _ c wr rfl hn2 hlt HZ.out ((HS.out.below HB.out).more HB.out.size)).mono ?_
              rintro e w5 ⟨h5, hb5⟩
              have he := h5 _ HR.out
              simp only at he
              subst he
              have d1 := cell_below hb5 c1
              have d2 := cell_below hb5 c2
              have hb6 : Below w4.heap.size w4 w5 := HBW.out.trans (hb5.mono hzr)
              have HB6 := Lib.hid hb6
              have hz5 : b < w5.heap.size := by have := hb5.size; omega
              clear h5 hb5 hb6 c1 c2
              go_wp2_with (fail)
              go_quiet (fail)
              go_wp2_with (fail)
              go_roundw
              case rel => exact ⟨k + 1, j2, HNX.out, rfl, by go_num, below_drewN (HB6.out.alloc HB6.out.size _) _⟩
              case measure => simp [intOf]; omega
          · have HBW := Lib.hid hb
            clear hst hb hsl2
            go_wp2_with (fail)
            go_ret
            exact ⟨rfl, HB.out⟩
      · have HST := Lib.hid hst; have HKK := Lib.hid hkk; have HA := Lib.hid ha
        clear hst hkk ha
        go_wp2_with (fail)
        go_loopw [11, 12] (fun p q wr => ∃ k j : Nat, st zs k = some j ∧ p = .int .i64 j ∧ q = .int .i64 k ∧ Below w.heap.size w wr) (fun p _ _ => zs.length - (intOf p).toNat)
        case atStart => exact ⟨0, 0, rfl, rfl, rfl, HB4.out⟩
        case round =>
          obtain ⟨k, j, hst, rfl, rfl, hb⟩ := hrel
          have hkj := (st_ge zs k j hst).1
          have hjn := (st_ge zs k j hst).2
          by_cases hlt : j < zs.length
          · have HB := Lib.hid hb
            clear hb
            cases hr : atM zs j with
            | none =>
              have HR := Lib.hid hr
              clear hr hst
              go_wp2_with (fail)
              refine (rat_in j zs A _ c wr rfl hn2 hlt HZ.out ((HS.out.below HB.out).more HB.out.size)).mono ?_
              rintro e w5 ⟨h5, hb5⟩
              have he := h5 _ HR.out
              simp only at he
              subst he
              have HB6 := Lib.hid (HB.out.trans (hb5.mono HB.out.size))
              clear h5 hb5
              go_wp2_with (fail)
              go_ret
              exact ⟨rfl, HB6.out.alloc HB6.out.size _⟩
            | some r =>
              obtain ⟨o2, a2, j2⟩ := r
              have hnx := st_next hst hr
              have hj2 := (atM_lt hr).2.1
              have hj3 := (atM_lt hr).2.2
              have HR := Lib.hid hr; have HNX := Lib.hid hnx.1
              clear hr hst hnx
              go_wp2_with (fail)
              refine (rat_in j zs A _ c wr rfl hn2 hlt HZ.out ((HS.out.below HB.out).more HB.out.size)).mono ?_
              rintro e w5 ⟨h5, hb5⟩
              have he := h5 _ HR.out
              simp only at he
              subst he
              have HB6 := Lib.hid (HB.out.trans (hb5.mono HB.out.size))
              clear h5 hb5
              go_wp2_with (fail)
              go_quiet (fail)
              go_wp2_with (fail)
              go_roundw
              case rel => exact ⟨k + 1, j2, HNX.out, rfl, by go_num, below_drewN (HB6.out.alloc HB6.out.size _) _⟩
              case measure => simp [intOf]; omega
          · exact (err_end HST.out HKK.out HA.out hst (by omega)).elim

/-! ### the row: written by program -/
set_option maxRecDepth 100000 in
theorem lifted (os : Os) (started : os.Started) (H : Type) (enc : TypeId × Value → H) :
    ReturnsInHanded {} Try.checked os 13 .any (Rows.opAtSpec.pre6 enc Try.prog Try.f13 Rows.opAtRow.domain false) (Rows.opAtSpec.post enc Try.prog Try.f13 false true false false) := by
  refine returnsInHanded_of_change (C := Try.checked) Go.Proofs.Ytbnnfknkmelhaaa.lift.own started (by kernel_rfl) Try.func13
    (ChangeSpec.witness6 (enc := enc) (C := Try.checked) false ⟨#[], #[.slice none 0 0, .int .i64 0], []⟩ 8 (by kernel_rfl) (by kernel_rfl) (by kernel_rfl) (by kernel_rfl)) ?_
  intro W base args ds gs before hval0 hW hcnd _
  have hval : ∀ (j : Nat) t v, Try.f13.params[j]? = some t → args[j]? = some v → Value.okWide Try.prog W .any base t v := hval0
  have hW' := hW
  obtain ⟨p, q, hA0, hV, rfl, hfz, hnd⟩ := hW
  have hA : DataW.TrodAll enc Try.prog W 0 (fun _ => true) true Try.f13.params.toList args.toList ds p := hA0
  have hAk := hA
  rw [Try.params13] at hA hval
  obtain ⟨v0, vs0, d0, ds0, p0, q0, hargs, rfl, rfl, h0, r0⟩ := trodAll_cons hA
  obtain ⟨v1, vs1, d1, ds1, p1, q1, rfl, rfl, rfl, h1, r1⟩ := trodAll_cons r0
  obtain ⟨rfl, rfl, rfl⟩ := trodAll_nil r1
  obtain rfl : args = #[v0, v1] := by cases args; simp_all
  obtain ⟨rfl, rfl⟩ := trodVars_none hV
  have hlt := hW'.lt
  obtain ⟨A0, c0, z0, rfl, hm0, hs0, hz0⟩ := Go.Proofs.Ytbnnfknkmelhaaa.lift.arg_ints Try.underlying44 Try.underlying5 (by kernel_rfl) (hval 0 44 v0 rfl rfl) h0
  obtain ⟨a1, rfl, _, _, w1⟩ := open_int Try.underlying3 (hval 1 3 v1 rfl rfl) h1
  refine (walk W A0 c0 z0 hm0 hs0 hz0 a1 w1).mono fun e W' ⟨he, hg⟩ => ?_
  subst he
  exact ⟨_, rfl, Go.Proofs.Ytbnnfknkmelhaaa.base.postBelow (pv := []) hW' (fun _ _ _ => (trodAll_cons_mk (shut_bool Try.underlying4 _) trodAll_mk0)) (fun sp hsp => Go.Proofs.Ytbnnfknkmelhaaa.lift.args_stay Go.Proofs.Ytbnnfknkmelhaaa.lift.laidOut hg _ _ _ _ (by kernel_rfl) hAk (fun x hx => hlt x (by simpa using hx)) (fun x hx => hsp x (by simpa using hx))) (fun _ _ => rfl) (by simp)
    hg (ok_one (by kernel_rfl) rfl (okWide_bool_mk Try.underlying4 _))⟩

theorem over : Rows.opAtRow.holds Try.pinned (OpenSpec.ofChange Rows.opAtSpec) :=
  OpenClaim.holds_of_wide 13 Try.f13 rfl rfl rfl rfl rfl rfl rfl ⟨rfl, rfl, rfl, rfl, rfl⟩ rfl rfl rfl rfl rfl (by kernel_rfl) Try.func13 (by kernel_rfl)
    (of_decide_eq_true (by kernel_rfl)) (by unfold Func.isWrapper; first | (rw [if_pos (by decide +kernel)]; kernel_rfl) | (rw [if_neg (by decide +kernel)]; exact ⟨rfl, rfl⟩))
    (fun os started H enc _ => lifted os started H enc)

/-- THE STATEMENT -/
theorem proved : Rows.OpAtSaid :=
  over
#print axioms proved
end Go.Proofs.Ytbnnfknkmelhaaa.opAt
