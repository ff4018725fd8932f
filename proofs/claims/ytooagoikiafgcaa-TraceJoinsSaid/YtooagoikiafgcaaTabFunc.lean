/-
  PROVED HERE: slices.IndexFunc and slices.ContainsFunc over partitions, windows, channels: what they answer, by what the function answers of each.
  CONDITIONS: each lemma names its own.
-/
import Derived.Test.YtooagoikiafgcaaTab
namespace Go.Proofs.Ytooagoikiafgcaa.tab
set_option linter.unusedVariables false
open Go.RowKit Go.Proofs.Ytooagoikiafgcaa.base Go.Proofs.Ytooagoikiafgcaa.obj Go.Proofs.Ytooagoikiafgcaa.mem Go.Proofs.Ytooagoikiafgcaa.sep Go.Proofs.Ytooagoikiafgcaa.plan

/-- the first one's place; -1: there is none -/
def findI (p : T3 → Bool) (l : List T3) : Int := match l.findIdx? p with
  | some i => i
  | none => -1
theorem findI_none {p : T3 → Bool} {l : List T3} (h : l.any p = false) : findI p l = -1 := by
  have : l.findIdx? p = none := by
    rw [List.findIdx?_eq_none_iff]
    intro x hx
    rw [List.any_eq_false] at h
    simpa using h x hx
  unfold findI
  rw [this]
theorem findI_hit {p : T3 → Bool} {l : List T3} {k : Nat} (h : (l.take k).any p = false) (hk : k < l.length) (hp : p l[k] = true) : findI p l = k := by
  have : l.findIdx? p = some k := by
    rw [List.findIdx?_eq_some_iff_getElem]
    refine ⟨hk, hp, fun j hj => ?_⟩
    rw [List.any_eq_false] at h
    exact h l[j] (by rw [List.mem_take_iff_getElem]; exact ⟨j, by omega, rfl⟩)
  unfold findI
  rw [this]
theorem find_next {p : T3 → Bool} {l : List T3} {k : Nat} (h : (l.take k).any p = false) (hk : k < l.length) (hp : p l[k] = false) : (l.take (k + 1)).any p = false := by
  rw [List.take_succ_eq_append_getElem hk, List.any_append, h]
  simp [hp]
theorem findI_any (p : T3 → Bool) (l : List T3) : decide (findI p l ≥ 0) = l.any p := by
  cases h : l.any p
  · rw [findI_none h]; rfl
  · unfold findI
    cases e : l.findIdx? p with
    | none =>
      rw [List.findIdx?_eq_none_iff] at e
      rw [List.any_eq_true] at h
      obtain ⟨x, hx, h2⟩ := h
      have := e x hx
      simp [h2] at this
    | some i => simp
set_option maxRecDepth 100000 in
set_option maxHeartbeats 4000000 in
theorem index_part (w : World) (A : Option Addr) (n c : Nat) (l : List T3) (hn : n = l.length) (hm : n ≤ maxLen) (hs : Sl w w.heap.size 3 A n (t3s l)) (f : Nat) (caps : Array Value) (p : T3 → Bool)
    (hcf : ∀ (w : World) (x : T3), (callFunc f (#[x.agg] ++ caps)).run Try.prog w = .ok (.enter f (#[x.agg] ++ caps)) w)
    (hf : ∀ w' (x : T3), Below w.heap.size w w' → Calls Try.prog f (#[x.agg] ++ caps) w' fun e w'' => e = .returned (.bool (p x)) ∧ Below w'.heap.size w' w'') :
    Calls Try.prog 120 #[.slice A n c, .func (.func f) #[] caps] w fun e w' => e = .returned (.int .i64 (findI p l)) ∧ Below w.heap.size w w' := by
  have HN := Lib.hid hn; have HS := Lib.hid hs; have HF := Lib.hid hf
  clear hn hs hf
  go_enter Try.func120, Try.ntmps120
  go_wp2_with (fail)
  go_loopw [8] (fun i wr => ∃ k : Nat, k ≤ n ∧ i = .int .i64 k ∧ (l.take k).any p = false ∧ Below w.heap.size w wr) (fun i _ => n - (intOf i).toNat)
  case atStart => exact ⟨0, by omega, rfl, by simp, Below.refl _ _⟩
  case round =>
    obtain ⟨k, hk, rfl, hno, hb⟩ := hrel
    have HNO := Lib.hid hno; have HB := Lib.hid hb
    clear hno hb
    by_cases hlt : k < n
    · have hlt' : (k : Int) < (n : Int) := by omega
      have hk0 : (0 : Int) ≤ (k : Int) := by omega
      have hkl : k < l.length := by rw [← HN.out]; exact hlt
      obtain ⟨b, off, rfl, lb, c0, c1, c2⟩ := t3s_get (HS.out.below HB.out) HN.out hkl
      have lb' : b < wr.heap.size := Nat.lt_of_lt_of_le lb HB.out.size
      have HC := Lib.hid (HF.out wr l[k] HB.out)
      have HY := Lib.hid (fun h => findI_hit HNO.out hkl h)
      have HZ := Lib.hid (fun h => find_next HNO.out hkl h)
      generalize l[k] = x at c0 c1 c2 HC HY HZ
      have hcx := hcf wr x
      have hc9 : k + 1 ≤ 9223372036854775807 := by unfold maxLen at hm; omega
      obtain ⟨xa, xb, xc⟩ := x
      dsimp only at c0 c1 c2
      cases hp : p ⟨xa, xb, xc⟩
      · rw [hp] at HC
        have HQ := Lib.hid (HZ.out hp)
        clear hp HY HZ
        go_wp2_with (fail)
        refine HC.out.mono ?_
        rintro e w2 ⟨rfl, hb2⟩
        have HB2 := Lib.hid (HB.out.trans (hb2.mono HB.out.size))
        clear hb2
        go_wp2_with (fail)
        go_roundw
        case rel => exact ⟨k + 1, by omega, by go_num, HQ.out, HB2.out⟩
        case measure => simp [intOf] <;> omega
      · rw [hp] at HC
        have HQ := Lib.hid (HY.out hp)
        clear hp HY HZ
        go_wp2_with (fail)
        refine HC.out.mono ?_
        rintro e w2 ⟨rfl, hb2⟩
        have HB2 := Lib.hid (HB.out.trans (hb2.mono HB.out.size))
        clear hb2
        go_wp2_with (fail)
        go_ret
        exact ⟨ret_int HQ.out.symm, HB2.out⟩
    · have hkn : k = n := by omega
      have hlt' : ¬ (k : Int) < (n : Int) := by omega
      have HQ := Lib.hid (show findI p l = -1 by
        have h := HNO.out
        rw [List.take_of_length_le (by rw [← HN.out]; omega)] at h
        exact findI_none h)
      clear hkn
      go_wp2_with (fail)
      go_ret
      exact ⟨ret_int HQ.out.symm, HB.out⟩
set_option maxRecDepth 100000 in
set_option maxHeartbeats 4000000 in
theorem index_chan (w : World) (A : Option Addr) (n c : Nat) (l : List T3) (hn : n = l.length) (hm : n ≤ maxLen) (hs : Sl w w.heap.size 3 A n (t3s l)) (f : Nat) (caps : Array Value) (p : T3 → Bool)
    (hcf : ∀ (w : World) (x : T3), (callFunc f (#[x.agg] ++ caps)).run Try.prog w = .ok (.enter f (#[x.agg] ++ caps)) w)
    (hf : ∀ w' (x : T3), Below w.heap.size w w' → Calls Try.prog f (#[x.agg] ++ caps) w' fun e w'' => e = .returned (.bool (p x)) ∧ Below w'.heap.size w' w'') :
    Calls Try.prog 121 #[.slice A n c, .func (.func f) #[] caps] w fun e w' => e = .returned (.int .i64 (findI p l)) ∧ Below w.heap.size w w' := by
  have HN := Lib.hid hn; have HS := Lib.hid hs; have HF := Lib.hid hf
  clear hn hs hf
  go_enter Try.func121, Try.ntmps121
  go_wp2_with (fail)
  go_loopw [8] (fun i wr => ∃ k : Nat, k ≤ n ∧ i = .int .i64 k ∧ (l.take k).any p = false ∧ Below w.heap.size w wr) (fun i _ => n - (intOf i).toNat)
  case atStart => exact ⟨0, by omega, rfl, by simp, Below.refl _ _⟩
  case round =>
    obtain ⟨k, hk, rfl, hno, hb⟩ := hrel
    have HNO := Lib.hid hno; have HB := Lib.hid hb
    clear hno hb
    by_cases hlt : k < n
    · have hlt' : (k : Int) < (n : Int) := by omega
      have hk0 : (0 : Int) ≤ (k : Int) := by omega
      have hkl : k < l.length := by rw [← HN.out]; exact hlt
      obtain ⟨b, off, rfl, lb, c0, c1, c2⟩ := t3s_get (HS.out.below HB.out) HN.out hkl
      have lb' : b < wr.heap.size := Nat.lt_of_lt_of_le lb HB.out.size
      have HC := Lib.hid (HF.out wr l[k] HB.out)
      have HY := Lib.hid (fun h => findI_hit HNO.out hkl h)
      have HZ := Lib.hid (fun h => find_next HNO.out hkl h)
      generalize l[k] = x at c0 c1 c2 HC HY HZ
      have hcx := hcf wr x
      have hc9 : k + 1 ≤ 9223372036854775807 := by unfold maxLen at hm; omega
      obtain ⟨xa, xb, xc⟩ := x
      dsimp only at c0 c1 c2
      cases hp : p ⟨xa, xb, xc⟩
      · rw [hp] at HC
        have HQ := Lib.hid (HZ.out hp)
        clear hp HY HZ
        go_wp2_with (fail)
        refine HC.out.mono ?_
        rintro e w2 ⟨rfl, hb2⟩
        have HB2 := Lib.hid (HB.out.trans (hb2.mono HB.out.size))
        clear hb2
        go_wp2_with (fail)
        go_roundw
        case rel => exact ⟨k + 1, by omega, by go_num, HQ.out, HB2.out⟩
        case measure => simp [intOf] <;> omega
      · rw [hp] at HC
        have HQ := Lib.hid (HY.out hp)
        clear hp HY HZ
        go_wp2_with (fail)
        refine HC.out.mono ?_
        rintro e w2 ⟨rfl, hb2⟩
        have HB2 := Lib.hid (HB.out.trans (hb2.mono HB.out.size))
        clear hb2
        go_wp2_with (fail)
        go_ret
        exact ⟨ret_int HQ.out.symm, HB2.out⟩
    · have hkn : k = n := by omega
      have hlt' : ¬ (k : Int) < (n : Int) := by omega
      have HQ := Lib.hid (show findI p l = -1 by
        have h := HNO.out
        rw [List.take_of_length_le (by rw [← HN.out]; omega)] at h
        exact findI_none h)
      clear hkn
      go_wp2_with (fail)
      go_ret
      exact ⟨ret_int HQ.out.symm, HB.out⟩
set_option maxRecDepth 100000 in
set_option maxHeartbeats 4000000 in
theorem index_win (w : World) (A : Option Addr) (n c : Nat) (l : List T3) (hn : n = l.length) (hm : n ≤ maxLen) (hs : Sl w w.heap.size 3 A n (t3s l)) (f : Nat) (caps : Array Value) (p : T3 → Bool)
    (hcf : ∀ (w : World) (x : T3), (callFunc f (#[x.agg] ++ caps)).run Try.prog w = .ok (.enter f (#[x.agg] ++ caps)) w)
    (hf : ∀ w' (x : T3), Below w.heap.size w w' → Calls Try.prog f (#[x.agg] ++ caps) w' fun e w'' => e = .returned (.bool (p x)) ∧ Below w'.heap.size w' w'') :
    Calls Try.prog 137 #[.slice A n c, .func (.func f) #[] caps] w fun e w' => e = .returned (.int .i64 (findI p l)) ∧ Below w.heap.size w w' := by
  have HN := Lib.hid hn; have HS := Lib.hid hs; have HF := Lib.hid hf
  clear hn hs hf
  go_enter Try.func137, Try.ntmps137
  go_wp2_with (fail)
  go_loopw [8] (fun i wr => ∃ k : Nat, k ≤ n ∧ i = .int .i64 k ∧ (l.take k).any p = false ∧ Below w.heap.size w wr) (fun i _ => n - (intOf i).toNat)
  case atStart => exact ⟨0, by omega, rfl, by simp, Below.refl _ _⟩
  case round =>
    obtain ⟨k, hk, rfl, hno, hb⟩ := hrel
    have HNO := Lib.hid hno; have HB := Lib.hid hb
    clear hno hb
    by_cases hlt : k < n
    · have hlt' : (k : Int) < (n : Int) := by omega
      have hk0 : (0 : Int) ≤ (k : Int) := by omega
      have hkl : k < l.length := by rw [← HN.out]; exact hlt
      obtain ⟨b, off, rfl, lb, c0, c1, c2⟩ := t3s_get (HS.out.below HB.out) HN.out hkl
      have lb' : b < wr.heap.size := Nat.lt_of_lt_of_le lb HB.out.size
      have HC := Lib.hid (HF.out wr l[k] HB.out)
      have HY := Lib.hid (fun h => findI_hit HNO.out hkl h)
      have HZ := Lib.hid (fun h => find_next HNO.out hkl h)
      generalize l[k] = x at c0 c1 c2 HC HY HZ
      have hcx := hcf wr x
      have hc9 : k + 1 ≤ 9223372036854775807 := by unfold maxLen at hm; omega
      obtain ⟨xa, xb, xc⟩ := x
      dsimp only at c0 c1 c2
      cases hp : p ⟨xa, xb, xc⟩
      · rw [hp] at HC
        have HQ := Lib.hid (HZ.out hp)
        clear hp HY HZ
        go_wp2_with (fail)
        refine HC.out.mono ?_
        rintro e w2 ⟨rfl, hb2⟩
        have HB2 := Lib.hid (HB.out.trans (hb2.mono HB.out.size))
        clear hb2
        go_wp2_with (fail)
        go_roundw
        case rel => exact ⟨k + 1, by omega, by go_num, HQ.out, HB2.out⟩
        case measure => simp [intOf] <;> omega
      · rw [hp] at HC
        have HQ := Lib.hid (HY.out hp)
        clear hp HY HZ
        go_wp2_with (fail)
        refine HC.out.mono ?_
        rintro e w2 ⟨rfl, hb2⟩
        have HB2 := Lib.hid (HB.out.trans (hb2.mono HB.out.size))
        clear hb2
        go_wp2_with (fail)
        go_ret
        exact ⟨ret_int HQ.out.symm, HB2.out⟩
    · have hkn : k = n := by omega
      have hlt' : ¬ (k : Int) < (n : Int) := by omega
      have HQ := Lib.hid (show findI p l = -1 by
        have h := HNO.out
        rw [List.take_of_length_le (by rw [← HN.out]; omega)] at h
        exact findI_none h)
      clear hkn
      go_wp2_with (fail)
      go_ret
      exact ⟨ret_int HQ.out.symm, HB.out⟩
theorem contains_part (w : World) (A : Option Addr) (n c : Nat) (l : List T3) (hn : n = l.length) (hm : n ≤ maxLen) (hs : Sl w w.heap.size 3 A n (t3s l)) (f : Nat) (caps : Array Value) (p : T3 → Bool)
    (hcf : ∀ (w : World) (x : T3), (callFunc f (#[x.agg] ++ caps)).run Try.prog w = .ok (.enter f (#[x.agg] ++ caps)) w)
    (hf : ∀ w' (x : T3), Below w.heap.size w w' → Calls Try.prog f (#[x.agg] ++ caps) w' fun e w'' => e = .returned (.bool (p x)) ∧ Below w'.heap.size w' w'') :
    Calls Try.prog 95 #[.slice A n c, .func (.func f) #[] caps] w fun e w' => e = .returned (.bool (l.any p)) ∧ Below w.heap.size w w' := by
  have HI := Lib.hid (index_part w A n c l hn hm hs f caps p hcf hf)
  have HQ := Lib.hid (findI_any p l)
  clear hn hm hs hf hcf
  go_enter Try.func95, Try.ntmps95
  go_wp2_with (fail)
  refine HI.out.mono ?_
  rintro e w2 ⟨rfl, hb2⟩
  have HB2 := Lib.hid hb2
  clear hb2
  go_wp2_with (fail)
  go_ret
  exact ⟨ret_bool HQ.out, HB2.out⟩
theorem contains_chan (w : World) (A : Option Addr) (n c : Nat) (l : List T3) (hn : n = l.length) (hm : n ≤ maxLen) (hs : Sl w w.heap.size 3 A n (t3s l)) (f : Nat) (caps : Array Value) (p : T3 → Bool)
    (hcf : ∀ (w : World) (x : T3), (callFunc f (#[x.agg] ++ caps)).run Try.prog w = .ok (.enter f (#[x.agg] ++ caps)) w)
    (hf : ∀ w' (x : T3), Below w.heap.size w w' → Calls Try.prog f (#[x.agg] ++ caps) w' fun e w'' => e = .returned (.bool (p x)) ∧ Below w'.heap.size w' w'') :
    Calls Try.prog 98 #[.slice A n c, .func (.func f) #[] caps] w fun e w' => e = .returned (.bool (l.any p)) ∧ Below w.heap.size w w' := by
  have HI := Lib.hid (index_chan w A n c l hn hm hs f caps p hcf hf)
  have HQ := Lib.hid (findI_any p l)
  clear hn hm hs hf hcf
  go_enter Try.func98, Try.ntmps98
  go_wp2_with (fail)
  refine HI.out.mono ?_
  rintro e w2 ⟨rfl, hb2⟩
  have HB2 := Lib.hid hb2
  clear hb2
  go_wp2_with (fail)
  go_ret
  exact ⟨ret_bool HQ.out, HB2.out⟩
end Go.Proofs.Ytooagoikiafgcaa.tab
