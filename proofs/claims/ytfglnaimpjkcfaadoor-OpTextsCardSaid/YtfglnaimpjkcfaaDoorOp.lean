/-
  PROVED HERE: contracts of the functions of package op (Has, Right, Put, At, All) and of the references' (Arg, Right, Bytes, At).
  CONDITIONS: each contract names its own.
-/
import Derived.Test.YtfglnaimpjkcfaaDoorBase
import Derived.Deep.DeepMust
namespace Go.Proofs.YtfglnaimpjkcfaaDoor.op
set_option linter.unusedVariables false
open Go.RowKit Go.Proofs.YtfglnaimpjkcfaaDoor.base

theorem infoU8 : (Tryd.prog.info? 5).map (fun i => (i.zero, i.size, i.bytes)) = some (some (.int .u8 0), 1, 1) := by kernel_rfl
theorem slU8 : SlT Tryd.prog 35 5 1 1 := by
  obtain ⟨i0, hi, hz0, hz1, hz2⟩ := info_parts infoU8
  exact ⟨Tryd.underlying35, ⟨i0, _, hi, hz0, hz1, hz2, rfl⟩, by decide⟩
theorem infoIns : (Tryd.prog.info? 23).map (fun i => (i.zero, i.size, i.bytes)) = some (some (.agg #[.int .i64 0, .int .i64 0]), 2, 16) := by kernel_rfl
theorem slIns : SlT Tryd.prog 51 23 2 16 := by
  obtain ⟨i0, hi, hz0, hz1, hz2⟩ := info_parts infoIns
  exact ⟨Tryd.underlying51, ⟨i0, _, hi, hz0, hz1, hz2, rfl⟩, by decide⟩

/-- which instructions have an argument -/
def hasArg (o : Int) : Bool := o == 1 || (decide (10 ≤ o) && decide (o ≤ 15))
def right (o a : Int) : Bool := decide (0 ≤ o) && decide (o ≤ 18) && decide (0 ≤ a) && decide (a ≤ 255) && (hasArg o || a == 0)
theorem hasArg_yes {o : Int} (h : hasArg o = true) : o = 1 ∨ o = 10 ∨ o = 11 ∨ o = 12 ∨ o = 13 ∨ o = 14 ∨ o = 15 := by
  simp [hasArg] at h; omega
theorem hasArg_no {o : Int} (h : hasArg o = false) : o ≠ 1 ∧ (o < 10 ∨ 15 < o) := by
  simp [hasArg] at h; omega
theorem right_yes {o a : Int} (h : right o a = true) : 0 ≤ o ∧ o ≤ 18 ∧ 0 ≤ a ∧ a ≤ 255 := by
  simp [right] at h; omega

theorem has_yes (o : Int) (w : World) (h : hasArg o = true) : Calls Tryd.prog 20 #[.int .i64 o] w fun e w' => e = .returned (.bool true) ∧ w = w' := by
  rcases hasArg_yes h with rfl | rfl | rfl | rfl | rfl | rfl | rfl <;>
  · clear h
    go_enter Tryd.func20, Tryd.ntmps20
    go_wp2
    go_ret
    exact ⟨rfl, rfl⟩
theorem has_no (o : Int) (w : World) (h : hasArg o = false) : Calls Tryd.prog 20 #[.int .i64 o] w fun e w' => e = .returned (.bool false) ∧ w = w' := by
  obtain ⟨h1, h2⟩ := hasArg_no h
  have b1 : (o == 1) = false := by simp; omega
  have b2 : (o == 10) = false := by simp; omega
  have b3 : (o == 11) = false := by simp; omega
  have b4 : (o == 12) = false := by simp; omega
  have b5 : (o == 13) = false := by simp; omega
  have b6 : (o == 14) = false := by simp; omega
  have b7 : (o == 15) = false := by simp; omega
  clear h h1 h2
  go_enter Tryd.func20, Tryd.ntmps20
  go_wp2
  go_ret
  exact ⟨rfl, rfl⟩
theorem has_any (o : Int) (w : World) : Calls Tryd.prog 20 #[.int .i64 o] w fun e w' => e = .returned (.bool (hasArg o)) ∧ w = w' := by
  cases h : hasArg o
  · exact has_no o w h
  · exact has_yes o w h

theorem arg_yes (o : Int) (w : World) (h : hasArg o = true) : Calls Tryd.prog 15 #[.int .i64 o] w fun e w' => e = .returned (.bool true) ∧ w = w' := by
  rcases hasArg_yes h with rfl | rfl | rfl | rfl | rfl | rfl | rfl <;>
  · clear h
    go_enter Tryd.func15, Tryd.ntmps15
    go_wp2
    go_ret
    exact ⟨rfl, rfl⟩
theorem arg_no (o : Int) (w : World) (h : hasArg o = false) : Calls Tryd.prog 15 #[.int .i64 o] w fun e w' => e = .returned (.bool false) ∧ w = w' := by
  obtain ⟨h1, h2⟩ := hasArg_no h
  have b1 : (o == 1) = false := by simp; omega
  rcases h2 with h2 | h2
  · have h3 : ¬ 10 ≤ o := by omega
    clear h h1
    go_enter Tryd.func15, Tryd.ntmps15
    go_wp2
    go_ret
    exact ⟨rfl, rfl⟩
  · have h3 : 10 ≤ o := by omega
    have h4 : ¬ o ≤ 15 := by omega
    clear h h1
    go_enter Tryd.func15, Tryd.ntmps15
    go_wp2
    go_ret
    exact ⟨rfl, rfl⟩
theorem arg_any (o : Int) (w : World) : Calls Tryd.prog 15 #[.int .i64 o] w fun e w' => e = .returned (.bool (hasArg o)) ∧ w = w' := by
  cases h : hasArg o
  · exact arg_no o w h
  · exact arg_yes o w h

theorem right_any (o a : Int) (w : World) : Calls Tryd.prog 12 #[.agg #[.int .i64 o, .int .i64 a]] w fun e w' => e = .returned (.bool (right o a)) ∧ Below w.heap.size w w' := by
  by_cases h0 : 0 ≤ o
  · by_cases h1 : o ≤ 18
    · by_cases h2 : 0 ≤ a
      · by_cases h3 : a ≤ 255
        · have hr : right o a = (hasArg o || a == 0) := by simp [right, h0, h1, h2, h3]
          have h2' : ¬ a < 0 := by omega
          have h3' : ¬ 255 < a := by omega
          rw [hr]
          clear hr
          cases h : hasArg o
          · go_enter Tryd.func12, Tryd.ntmps12
            go_wp2_with (first | (go_at_call 20; refine (has_no _ _ h).mono ?_; rintro e w' ⟨rfl, rfl⟩) | go_in)
            go_ret
            exact ⟨by simp, (Below.refl _ _).alloc (Nat.le_refl _) _⟩
          · go_enter Tryd.func12, Tryd.ntmps12
            go_wp2_with (first | (go_at_call 20; refine (has_yes _ _ h).mono ?_; rintro e w' ⟨rfl, rfl⟩) | go_in)
            go_ret
            exact ⟨by simp, (Below.refl _ _).alloc (Nat.le_refl _) _⟩
        · have hr : right o a = false := by simp [right, h3]
          have h2' : ¬ a < 0 := by omega
          have h3' : 255 < a := by omega
          rw [hr]
          clear hr
          go_enter Tryd.func12, Tryd.ntmps12
          go_wp2
          go_ret
          exact ⟨rfl, (Below.refl _ _).alloc (Nat.le_refl _) _⟩
      · have hr : right o a = false := by simp [right, h2]
        have h2' : a < 0 := by omega
        rw [hr]
        clear hr
        go_enter Tryd.func12, Tryd.ntmps12
        go_wp2
        go_ret
        exact ⟨rfl, (Below.refl _ _).alloc (Nat.le_refl _) _⟩
    · have hr : right o a = false := by simp [right, h1]
      rw [hr]
      clear hr
      go_enter Tryd.func12, Tryd.ntmps12
      go_wp2
      go_ret
      exact ⟨rfl, (Below.refl _ _).alloc (Nat.le_refl _) _⟩
  · have hr : right o a = false := by simp [right, h0]
    rw [hr]
    clear hr
    go_enter Tryd.func12, Tryd.ntmps12
    go_wp2
    go_ret
    exact ⟨rfl, (Below.refl _ _).alloc (Nat.le_refl _) _⟩

/-! ### Put -/
def insBytes (p : Int × Int) : List Int := if hasArg p.1 then [p.1, p.2] else [p.1]
def putB (l : List (Int × Int)) : List Int := l.flatMap insBytes
def insCells (l : List (Int × Int)) : List Value := l.flatMap fun p => [.int .i64 p.1, .int .i64 p.2]
theorem insCells_get : ∀ (l : List (Int × Int)) (k : Nat) (h : k < l.length), (insCells l)[k * 2]? = some (.int .i64 l[k].1) ∧ (insCells l)[k * 2 + 1]? = some (.int .i64 l[k].2)
  | [], k, h => absurd h (by simp)
  | p :: l, 0, h => by simp [insCells]
  | p :: l, k + 1, h => by
    have := insCells_get l k (by simpa using h)
    simp only [insCells, List.flatMap_cons] at this ⊢
    have e : (k + 1) * 2 = k * 2 + 2 := by omega
    rw [e]
    simpa using this
theorem putB_take (l : List (Int × Int)) (k : Nat) (h : k < l.length) : putB (l.take (k + 1)) = putB (l.take k) ++ insBytes l[k] := by
  rw [List.take_succ_eq_append_getElem h]; unfold putB; rw [List.flatMap_append]; simp
theorem insBytes_len (p : Int × Int) : (insBytes p).length ≤ 2 := by unfold insBytes; split <;> simp
theorem putB_len (l : List (Int × Int)) : (putB l).length ≤ 2 * l.length := by
  induction l with
  | nil => simp [putB]
  | cons p l ih => have := insBytes_len p; simp only [putB, List.flatMap_cons, List.length_append, List.length_cons] at ih ⊢; omega

theorem all_take {l : List (Int × Int)} {k : Nat} {o a : Int} {h : k < l.length} (hp : l[k] = (o, a)) (h' : k < l.length) (ha : ∀ p ∈ l.take k, right p.1 p.2 = true) (hr : right o a = true) : ∀ p ∈ l.take (k + 1), right p.1 p.2 = true := by
  rw [List.take_succ_eq_append_getElem h, hp]
  intro p hm
  rcases List.mem_append.1 hm with hm | hm
  · exact ha p hm
  · simp at hm; subst hm; exact hr

set_option maxHeartbeats 1000000 in
theorem put_any (l : List (Int × Int)) (A : Option Addr) (n c : Nat) (w : World) (hn : n = l.length) (hn2 : n ≤ 1000000) (hs : Sl w w.heap.size 2 A n (insCells l)) :
    Calls Tryd.prog 10 #[.slice A n c] w fun e w' => ((∀ p ∈ l, right p.1 p.2 = true) ∧ (∃ v, e = .returned (.tuple #[v, .int .i64 0]) ∧ w'.ownsRow w.heap.size 5 1 v (putB l).length ((putB l).map (Value.int .u8))) ∨ (∃ p ∈ l, right p.1 p.2 = false) ∧ e = .returned (.tuple #[.slice none 0 0, .int .i64 19])) ∧ Below w.heap.size w w' := by
  have HS := Lib.hid hs
  have HN := Lib.hid hn
  clear hs hn
  go_enter Tryd.func10, Tryd.ntmps10
  go_wp2_with (fail)
  go_loopw [4, 9] (fun b i wr => ∃ k : Nat, k ≤ n ∧ i = .int .i64 k ∧ wr.ownsRow w.heap.size 5 1 b (putB (l.take k)).length ((putB (l.take k)).map (Value.int .u8)) ∧ (∀ p ∈ l.take k, right p.1 p.2 = true) ∧ Below w.heap.size w wr) (fun _ i _ => n - (intOf i).toNat)
  case atStart => exact ⟨0, by omega, rfl, World.ownsRow_nil _ _ _ _, by simp, Below.refl _ _⟩
  case round =>
    obtain ⟨k, hk, rfl, hown, hall, hb⟩ := hrel
    by_cases hlt : k < n
    · have hlt' : k < l.length := by rw [← HN.out]; exact hlt
      obtain ⟨b, off, rfl, hbl, hc⟩ := HS.out.2 (by omega)
      have hc1 := (hb.cell (p := ⟨b, off + k * 2, none⟩) hbl).trans (hc _ _ (insCells_get l k hlt').1)
      have hc2 : wr.cell? ⟨b, off + k * 2 + 1, none⟩ = some (.int .i64 l[k].2) := by rw [Nat.add_assoc]; exact (hb.cell (p := ⟨b, off + (k * 2 + 1), none⟩) hbl).trans (hc _ _ (insCells_get l k hlt').2)
      clear hc
      have hz := hb.size
      have HO := Lib.hid hown; have HA := Lib.hid hall; have HB := Lib.hid hb
      have HT := Lib.hid (putB_take l k hlt')
      have hpl : (putB (l.take k)).length ≤ 2 * n := by
        have := putB_len (l.take k)
        have : (l.take k).length = k := by simp; omega
        omega
      have HLT := Lib.hid hlt'
      have HNE := Lib.hid (show some wr.heap.size ≠ u4.ownBlock from fun e => by have := (hown.lt _ e.symm).2; omega)
      have hmem : l[k] ∈ l := List.getElem_mem _
      have HM := Lib.hid hmem
      clear hown hall hb hmem
      generalize hp : l[k] = p at *
      have HP := Lib.hid hp; clear hp
      obtain ⟨o, a⟩ := p
      cases hr : right o a
      · go_wp2_with (go_at_call 12; refine (right_any _ _ _).mono ?_; rintro e wa ⟨rfl, hba⟩; rw [hr])
        go_ret2
        exact ⟨.inr ⟨⟨(o, a), HM.out, hr⟩, rfl⟩, HB.out.trans ((((Below.refl _ _).alloc (Nat.le_refl _) _).trans (hba.mono (by simp))).mono hz)⟩
      · obtain ⟨ho1, ho2, ha1, ha2⟩ := right_yes hr
        have HR := Lib.hid hr; clear hr
        cases hh : hasArg o
        · have HH := Lib.hid hh
          clear hh
          go_wp2_with (first
            | (go_at_call 12; refine (right_any _ _ _).mono ?_; rintro e wa ⟨rfl, hba⟩; rw [HR.out]; have q1 : wa.cell? ⟨wr.heap.size, 0, none⟩ = some (.int .i64 o) := cell_below hba (by simp); have q2 : wa.cell? ⟨wr.heap.size, 1, none⟩ = some (.int .i64 a) := cell_below hba (by simp); have hwa : wr.heap.size < wa.heap.size := (by have := hba.size; simp at this; omega); have hown1 := own_below (HO.out.alloc _) hba; have HB1 := Lib.hid (HB.out.trans ((((Below.refl _ _).alloc (Nat.le_refl _) _).trans (hba.mono (by simp))).mono hz)); clear hba HO)
            | (at_builtin; refine app_new slU8 rfl (.tmp 16) (.tmp 20) rfl hown1 rfl rfl rfl (by simp [Value.oneCell']) (by omega) (by simp only [maxLen]; omega) (by omega) ?_; intro v2 w2 hown2 hg2; have q3 : w2.cell? ⟨wr.heap.size, 0, none⟩ = some (.int .i64 o) := hg2.cell q1 HNE.out; have q4 : w2.cell? ⟨wr.heap.size, 1, none⟩ = some (.int .i64 a) := hg2.cell q2 HNE.out; have hz2 : wr.heap.size < w2.heap.size := Nat.lt_of_lt_of_le hwa hg2.size; have HB2 := Lib.hid (below_own HB1.out hown1 hg2 (by omega)); clear q1 q2 HB1 hg2 hown1)
            | (go_at_call 20; refine (has_no _ _ HH.out).mono ?_; rintro e w' ⟨rfl, rfl⟩))
          go_roundw
          case rel =>
            refine ⟨k + 1, by omega, by go_num, ?_, ?_, HB2.out⟩
            · rw [HT.out]; simpa [insBytes, HH.out] using hown2
            · exact all_take HP.out HLT.out HA.out HR.out
          case measure => simp [intOf]; omega
        · have HH := Lib.hid hh
          clear hh
          go_wp2_with (first
            | (go_at_call 12; refine (right_any _ _ _).mono ?_; rintro e wa ⟨rfl, hba⟩; rw [HR.out]; have q1 : wa.cell? ⟨wr.heap.size, 0, none⟩ = some (.int .i64 o) := cell_below hba (by simp); have q2 : wa.cell? ⟨wr.heap.size, 1, none⟩ = some (.int .i64 a) := cell_below hba (by simp); have hwa : wr.heap.size < wa.heap.size := (by have := hba.size; simp at this; omega); have hown1 := own_below (HO.out.alloc _) hba; have HB1 := Lib.hid (HB.out.trans ((((Below.refl _ _).alloc (Nat.le_refl _) _).trans (hba.mono (by simp))).mono hz)); clear hba HO)
            | (at_builtin; refine app_new slU8 rfl (.tmp 16) (.tmp 20) rfl hown1 rfl rfl rfl (by simp [Value.oneCell']) (by omega) (by simp only [maxLen]; omega) (by omega) ?_; intro v2 w2 hown2 hg2; have q3 : w2.cell? ⟨wr.heap.size, 0, none⟩ = some (.int .i64 o) := hg2.cell q1 HNE.out; have q4 : w2.cell? ⟨wr.heap.size, 1, none⟩ = some (.int .i64 a) := hg2.cell q2 HNE.out; have hz2 : wr.heap.size < w2.heap.size := Nat.lt_of_lt_of_le hwa hg2.size; have HB2 := Lib.hid (below_own HB1.out hown1 hg2 (by omega)); clear q1 q2 HB1 hg2 hown1)
            | (at_builtin; refine app_new slU8 rfl (.tmp 25) (.tmp 29) rfl hown2 rfl rfl rfl (by simp [Value.oneCell']) (by omega) (by simp only [maxLen]; omega) (by omega) ?_; intro v3 w3 hown3 hg3; have HB3 := Lib.hid (below_own HB2.out hown2 hg3 (by omega)); clear HB2 hg3 hown2 q3 q4)
            | (go_at_call 20; refine (has_yes _ _ HH.out).mono ?_; rintro e w' ⟨rfl, rfl⟩))
          go_roundw
          case rel =>
            refine ⟨k + 1, by omega, by go_num, ?_, ?_, HB3.out⟩
            · rw [HT.out]; simpa [insBytes, HH.out] using hown3
            · exact all_take HP.out HLT.out HA.out HR.out
          case measure => simp [intOf]; omega
    · obtain rfl : k = n := by omega
      have e1 : l.take k = l := by rw [HN.out]; exact List.take_length
      rw [e1] at hown hall
      go_wp2_with (fail)
      go_ret2
      exact ⟨.inl ⟨hall, _, rfl, hown⟩, hb⟩

/-! ### At -/
/-- the instruction at a place, and where the next one begins -/
def atM (zs : List Int) (k : Nat) : Option (Int × Int × Nat) :=
  match zs[k]? with
  | none => none
  | some o => if 18 < o then none else if hasArg o then (match zs[k + 1]? with | none => none | some a => some (o, a, k + 2)) else some (o, 0, k + 1)
def AtPost (zs : List Int) (k : Nat) (e : Ending) : Prop := ∀ r, atM zs k = r →
  match r with
  | none => e = .returned (.tuple #[.agg #[.int .i64 0, .int .i64 0], .int .i64 0, .int .i64 19])
  | some (o, a, j) => e = .returned (.tuple #[.agg #[.int .i64 o, .int .i64 a], .int .i64 j, .int .i64 0])
def RatPost (zs : List Int) (k : Nat) (e : Ending) : Prop := ∀ r, atM zs k = r →
  match r with
  | none => e = .returned (.agg #[.int .i64 0, .int .i64 0, .int .i64 0, .bool false])
  | some (o, a, j) => e = .returned (.agg #[.int .i64 o, .int .i64 a, .int .i64 j, .bool true])
theorem at_none {zs : List Int} {k : Nat} {e : Ending} (h : atM zs k = none) (he : e = .returned (.tuple #[.agg #[.int .i64 0, .int .i64 0], .int .i64 0, .int .i64 19])) : AtPost zs k e := fun r hr => by rw [h] at hr; subst hr; exact he
theorem at_some {zs : List Int} {k j : Nat} {o a : Int} {e : Ending} (h : atM zs k = some (o, a, j)) (he : e = .returned (.tuple #[.agg #[.int .i64 o, .int .i64 a], .int .i64 j, .int .i64 0])) : AtPost zs k e := fun r hr => by rw [h] at hr; subst hr; exact he
theorem rat_none {zs : List Int} {k : Nat} {e : Ending} (h : atM zs k = none) (he : e = .returned (.agg #[.int .i64 0, .int .i64 0, .int .i64 0, .bool false])) : RatPost zs k e := fun r hr => by rw [h] at hr; subst hr; exact he
theorem rat_some {zs : List Int} {k j : Nat} {o a : Int} {e : Ending} (h : atM zs k = some (o, a, j)) (he : e = .returned (.agg #[.int .i64 o, .int .i64 a, .int .i64 j, .bool true])) : RatPost zs k e := fun r hr => by rw [h] at hr; subst hr; exact he
def Bytes (zs : List Int) : Prop := ∀ z ∈ zs, 0 ≤ z ∧ z ≤ 255

theorem known_any (o : Int) (w : World) : Calls Tryd.prog 21 #[.int .i64 o] w fun e w' => e = .returned (.bool (decide (0 ≤ o) && decide (o ≤ 18))) ∧ w = w' := by
  by_cases h : 0 ≤ o
  · go_enter Tryd.func21, Tryd.ntmps21
    go_wp2
    go_ret
    exact ⟨by simp; omega, rfl⟩
  · go_enter Tryd.func21, Tryd.ntmps21
    go_wp2
    go_ret
    exact ⟨by simp; omega, rfl⟩

/-! ### the reference's At -/
theorem rright_any (o a : Int) (w : World) : Calls Tryd.prog 6 #[.agg #[.int .i64 o, .int .i64 a]] w fun e w' => e = .returned (.bool (right o a)) ∧ Below w.heap.size w w' := by
  by_cases h0 : 0 ≤ o
  · by_cases h1 : o ≤ 18
    · by_cases h2 : 0 ≤ a
      · by_cases h3 : a ≤ 255
        · have hr : right o a = (hasArg o || a == 0) := by simp [right, h0, h1, h2, h3]
          have h0' : ¬ o < 0 := by omega
          have h1' : ¬ 18 < o := by omega
          have h2' : ¬ a < 0 := by omega
          have h3' : ¬ 255 < a := by omega
          rw [hr]
          clear hr
          cases h : hasArg o
          · go_enter Tryd.func6, Tryd.ntmps6
            go_wp2_with (first | (go_at_call 15; refine (arg_no _ _ h).mono ?_; rintro e w' ⟨rfl, rfl⟩) | go_in)
            go_ret
            exact ⟨by simp, (Below.refl _ _).alloc (Nat.le_refl _) _⟩
          · go_enter Tryd.func6, Tryd.ntmps6
            go_wp2_with (first | (go_at_call 15; refine (arg_yes _ _ h).mono ?_; rintro e w' ⟨rfl, rfl⟩) | go_in)
            go_ret
            exact ⟨by simp, (Below.refl _ _).alloc (Nat.le_refl _) _⟩
        · have hr : right o a = false := by simp [right, h3]
          have h0' : ¬ o < 0 := by omega
          have h1' : ¬ 18 < o := by omega
          have h2' : ¬ a < 0 := by omega
          have h3' : 255 < a := by omega
          rw [hr]
          clear hr
          go_enter Tryd.func6, Tryd.ntmps6
          go_wp2
          go_ret
          exact ⟨rfl, (Below.refl _ _).alloc (Nat.le_refl _) _⟩
      · have hr : right o a = false := by simp [right, h2]
        have h0' : ¬ o < 0 := by omega
        have h1' : ¬ 18 < o := by omega
        have h2' : a < 0 := by omega
        rw [hr]
        clear hr
        go_enter Tryd.func6, Tryd.ntmps6
        go_wp2
        go_ret
        exact ⟨rfl, (Below.refl _ _).alloc (Nat.le_refl _) _⟩
    · have hr : right o a = false := by simp [right, h1]
      have h0' : ¬ o < 0 := by omega
      have h1' : 18 < o := by omega
      rw [hr]
      clear hr
      go_enter Tryd.func6, Tryd.ntmps6
      go_wp2
      go_ret
      exact ⟨rfl, (Below.refl _ _).alloc (Nat.le_refl _) _⟩
  · have hr : right o a = false := by simp [right, h0]
    have h0' : o < 0 := by omega
    rw [hr]
    clear hr
    go_enter Tryd.func6, Tryd.ntmps6
    go_wp2
    go_ret
    exact ⟨rfl, (Below.refl _ _).alloc (Nat.le_refl _) _⟩

/-! ### All -/
/-- where the i-th instruction begins; the i-th instruction -/
def st (zs : List Int) : Nat → Option Nat
  | 0 => some 0
  | i + 1 => (st zs i).bind fun k => (atM zs k).map (·.2.2)
def insAt (zs : List Int) (i : Nat) : Int × Int := match (st zs i).bind (atM zs) with | some (o, a, _) => (o, a) | none => (0, 0)
def insL (zs : List Int) (i : Nat) : List (Int × Int) := (List.range i).map (insAt zs)
theorem insL_succ (zs : List Int) (i : Nat) : insL zs (i + 1) = insL zs i ++ [insAt zs i] := by simp [insL, List.range_succ]
theorem insL_len (zs : List Int) (i : Nat) : (insL zs i).length = i := by simp [insL]
theorem insCells_snoc (l : List (Int × Int)) (p : Int × Int) : insCells (l ++ [p]) = insCells l ++ [.int .i64 p.1, .int .i64 p.2] := by unfold insCells; rw [List.flatMap_append]; simp
theorem atM_lt {zs : List Int} {k j : Nat} {o a : Int} (h : atM zs k = some (o, a, j)) : k < zs.length ∧ k < j ∧ j ≤ zs.length := by
  unfold atM at h
  by_cases hk : k < zs.length
  · rw [List.getElem?_eq_getElem hk] at h
    simp only at h
    split at h
    · cases h
    · split at h
      · by_cases hk1 : k + 1 < zs.length
        · rw [List.getElem?_eq_getElem hk1] at h
          simp only [Option.some.injEq, Prod.mk.injEq] at h
          omega
        · rw [List.getElem?_eq_none (by omega)] at h
          cases h
      · simp only [Option.some.injEq, Prod.mk.injEq] at h
        omega
  · rw [List.getElem?_eq_none (by omega)] at h
    cases h
theorem st_ge (zs : List Int) : ∀ (i k : Nat), st zs i = some k → i ≤ k ∧ k ≤ zs.length
  | 0, k, h => by simp [st] at h; omega
  | i + 1, k, h => by
    simp only [st] at h
    cases hs : st zs i with
    | none => simp [hs] at h
    | some k' =>
      have := st_ge zs i k' hs
      simp only [hs, Option.bind_some] at h
      cases ha : atM zs k' with
      | none => simp [ha] at h
      | some r =>
        obtain ⟨o, a, j⟩ := r
        simp only [ha, Option.map_some, Option.some.injEq] at h
        have := atM_lt ha
        omega
theorem st_next {zs : List Int} {i k j : Nat} {o a : Int} (h : st zs i = some k) (ha : atM zs k = some (o, a, j)) : st zs (i + 1) = some j ∧ insAt zs i = (o, a) := by
  constructor
  · simp [st, h, ha]
  · simp [insAt, h, ha]
theorem st_stop {zs : List Int} {i k : Nat} (h : st zs i = some k) (ha : atM zs k = none) : ∀ j, i < j → st zs j = none
  | 0, hj => absurd hj (by omega)
  | j + 1, hj => by
    by_cases e : i = j
    · subst e; simp [st, h, ha]
    · simp [st, st_stop h ha j (by omega)]
theorem atM_end {zs : List Int} {k : Nat} (h : zs.length ≤ k) : atM zs k = none := by unfold atM; rw [List.getElem?_eq_none h]

/-- what All answers: the instructions, when they go to the end; none -/
def AllPost (zs : List Int) (B : Nat) (e : Ending) (w' : World) : Prop :=
  (∃ (i k : Nat) (v : Value), st zs i = some k ∧ zs.length ≤ k ∧ e = .returned (.tuple #[v, .int .i64 0]) ∧ w'.ownsRow B 23 2 v i (insCells (insL zs i))) ∨
  (∃ i k : Nat, st zs i = some k ∧ k < zs.length ∧ atM zs k = none ∧ e = .returned (.tuple #[.slice none 0 0, .int .i64 19]))

end Go.Proofs.YtfglnaimpjkcfaaDoor.op
