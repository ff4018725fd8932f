/-
  PROVED HERE: for every slice l of instructions, longeronlaw15.OpPuts(l) returns true and leaves memory as it was.
  CONDITIONS: none.
-/
import Derived.Test.YtbnnfknkmelhaaaOpWakes
import Derived.Test.YtbnnfknkmelhaaaLift
import Derived.Deep.QuietTactic
import Derived.BigQuiet
import Derived.Deep.RegionWith
namespace Go.Proofs.Ytbnnfknkmelhaaa.opPuts
set_option linter.unusedVariables false
open Go.RowKit Go.ChangeShapes Go.WideShapes Go.ChangeAt Go.Deep Go.Joins Go.Proofs.Ytbnnfknkmelhaaa.base Go.Proofs.Ytbnnfknkmelhaaa.op Go.Proofs.Ytbnnfknkmelhaaa.same Go.Proofs.Ytbnnfknkmelhaaa.opWakes

/-- a slice of instructions that came in -/
theorem arg_ins {H : Type} {enc : TypeId × Value → H} {W : World} {r : Reach} {b0 : Nat} {v : Value} {d : DataW H} {ps : List MemPlace} (hval : Value.okWide Try.prog W r b0 55 v)
    (h : DataW.Trod enc Try.prog W 0 (fun _ => true) true 55 v d ps) : ∃ (A : Option Addr) (c : Nat) (l : List (Int × Int)), v = .slice A l.length c ∧ l.length ≤ maxLen ∧ Sl W W.heap.size 2 A l.length (insCells l) := by
  obtain ⟨A, n, c, q, rfl, hn, hs, hq⟩ := Go.Proofs.Ytbnnfknkmelhaaa.lift.arg_row Try.underlying55 (s := 2) (by kernel_rfl) (by decide) hval h
  have each : ∀ i, i < n → ∃ p : Int × Int, q i = [.int .i64 p.1, .int .i64 p.2] := by
    intro i hi
    obtain ⟨hl, m, x, hx⟩ := hq i hi
    have hf := Go.Proofs.Ytbnnfknkmelhaaa.lift.row_fields Try.underlying48 (by kernel_rfl) (by simpa using hl) hx
    obtain ⟨v0, k0, y0, g0, t0⟩ := hf 0 _ rfl
    obtain ⟨v1, k1, y1, g1, t1⟩ := hf 1 _ rfl
    obtain ⟨o, h0, _, _⟩ := DataW.trod_int Try.underlying3 t0
    obtain ⟨a, h1, _, _⟩ := DataW.trod_int Try.underlying3 t1
    simp at h0 h1
    subst h0; subst h1
    refine ⟨(o, a), ?_⟩
    match hqi : q i, hl with
    | [u0, u1], _ =>
      rw [hqi] at g0 g1
      simp at g0 g1
      rw [g0, g1]
  obtain ⟨z, hz⟩ := choose_lt each
  have e1 : ∀ m, m ≤ n → (List.range m).flatMap q = insCells ((List.range m).map z) := by
    intro m
    induction m with
    | zero => intro _; simp [insCells]
    | succ m ih =>
      intro hm
      rw [List.range_succ, List.flatMap_append, List.map_append, ih (by omega), List.map_cons, List.map_nil, insCells_snoc]
      simp [hz m (by omega)]
  rw [e1 n (Nat.le_refl _)] at hs
  have hl : ((List.range n).map z).length = n := by simp
  exact ⟨A, c, (List.range n).map z, by rw [hl], by rw [hl]; exact hn, by rw [hl]; exact hs⟩

/-! ### the plain law: what is put is all -/
theorem atM_append (xs : List Int) (o a : Int) (h : right o a = true) (ys : List Int) : atM (xs ++ insBytes (o, a) ++ ys) xs.length = some (o, a, xs.length + (insBytes (o, a)).length) := by
  obtain ⟨h1, h2, h3, h4⟩ := right_yes h
  simp only [right] at h
  unfold atM insBytes
  cases hh : hasArg o
  · simp [hh] at h ⊢
    exact ⟨by omega, by omega⟩
  · simp [hh]
    omega
theorem putB_drop (l : List (Int × Int)) (i : Nat) (h : i < l.length) : putB l = putB (l.take i) ++ insBytes l[i] ++ putB (l.drop (i + 1)) := by
  conv => lhs; rw [← List.take_append_drop i l]
  unfold putB
  rw [List.flatMap_append, List.drop_eq_getElem_cons h, List.flatMap_cons, List.append_assoc]
theorem st_put (l : List (Int × Int)) (h : ∀ p ∈ l, right p.1 p.2 = true) : ∀ i, i ≤ l.length → st (putB l) i = some (putB (l.take i)).length
  | 0, _ => by simp [st, putB]
  | i + 1, hi => by
    have hi' : i < l.length := by omega
    have ih := st_put l h i (by omega)
    have ha : atM (putB l) (putB (l.take i)).length = some (l[i].1, l[i].2, (putB (l.take i)).length + (insBytes l[i]).length) := by
      conv => lhs; rw [putB_drop l i hi']
      exact atM_append _ l[i].1 l[i].2 (h _ (List.getElem_mem _)) _
    rw [(st_next ih ha).1, putB_take l i hi']
    simp
theorem ins_put (l : List (Int × Int)) (h : ∀ p ∈ l, right p.1 p.2 = true) (i : Nat) (hi : i < l.length) : insAt (putB l) i = l[i] := by
  have ih := st_put l h i (by omega)
  have ha : atM (putB l) (putB (l.take i)).length = some (l[i].1, l[i].2, (putB (l.take i)).length + (insBytes l[i]).length) := by
    conv => lhs; rw [putB_drop l i hi]
    exact atM_append _ l[i].1 l[i].2 (h _ (List.getElem_mem _)) _
  exact (st_next ih ha).2
theorem insL_put (l : List (Int × Int)) (h : ∀ p ∈ l, right p.1 p.2 = true) : insL (putB l) l.length = l := by
  apply List.ext_getElem?
  intro i
  by_cases hi : i < l.length
  · simp [insL, hi, ins_put l h i hi]
  · simp [insL, hi]
theorem bytes_put (l : List (Int × Int)) (h : ∀ p ∈ l, right p.1 p.2 = true) : Bytes (putB l) := by
  intro z hz
  unfold putB at hz
  obtain ⟨p, hp, hz⟩ := List.mem_flatMap.1 hz
  have := right_yes (h p hp)
  unfold insBytes at hz
  split at hz <;> simp at hz <;> omega
/-- what All finds in what was put: all of it -/
theorem all_put (l : List (Int × Int)) (h : ∀ p ∈ l, right p.1 p.2 = true) {B : Nat} {e : Ending} {w' : World} (hp : AllPost (putB l) B e w') :
    ∃ v, e = .returned (.tuple #[v, .int .i64 0]) ∧ w'.ownsRow B 48 2 v l.length (insCells l) := by
  have hend : st (putB l) l.length = some (putB l).length := by
    have := st_put l h l.length (Nat.le_refl _)
    rwa [List.take_length] at this
  rcases hp with ⟨i, k, v, hst, hk, rfl, hown⟩ | ⟨i, k, hst, hk, ha, _⟩
  · have hi : i = l.length := by
      rcases Nat.lt_trichotomy i l.length with hlt | he | hgt
      · have := st_stop hst (atM_end hk) _ hlt; rw [hend] at this; cases this
      · exact he
      · have := st_stop hend (atM_end (Nat.le_refl _)) _ hgt; rw [hst] at this; cases this
    subst hi
    rw [insL_put l h] at hown
    exact ⟨v, rfl, hown⟩
  · exfalso
    rcases Nat.lt_trichotomy i l.length with hlt | he | hgt
    · have := st_stop hst ha _ hlt; rw [hend] at this; cases this
    · subst he; rw [hst] at hend; injection hend; omega
    · have := st_stop hend (atM_end (Nat.le_refl _)) _ hgt; rw [hst] at this; cases this

theorem putRest (l : List (Int × Int)) (k : Nat) (h : k < l.length) (hr : ∀ p ∈ l.take k, right p.1 p.2 = true) (hk : right l[k].1 l[k].2 = true) : ∀ p ∈ l.take (k + 1), right p.1 p.2 = true :=
  all_take (h := h) rfl h hr hk

set_option maxHeartbeats 4000000 in
theorem walk (w : World) (A : Option Addr) (c : Nat) (l : List (Int × Int)) (hm : l.length ≤ maxLen) (hs : Sl w w.heap.size 2 A l.length (insCells l)) :
    Calls Try.prog 12 #[.slice A l.length c] w fun e w' => e = .returned (.bool true) ∧ Below w.heap.size w w' := by
  have HS := Lib.hid hs
  clear hs
  unfold maxLen at hm
  by_cases hlen : 100 < l.length
  · have b1 : (100 : Int) < (l.length : Int) := by omega
    go_enter Try.func12, Try.ntmps12
    go_wp2_with (go_at_call 39; refine (wakes _).mono ?_; rintro e w1 ⟨rfl, hb1⟩; have HB1 := Lib.hid hb1; clear hb1)
    go_ret
    exact ⟨rfl, HB1.out⟩
  · have hn2 : l.length ≤ 100 := by omega
    have b1 : ¬ (100 : Int) < (l.length : Int) := by omega
    go_enter Try.func12, Try.ntmps12
    go_wp2_with (fail)
    refine (wakes _).mono ?_; rintro e w1 ⟨rfl, hb1⟩; have HB1 := Lib.hid hb1; clear hb1
    go_wp2_with (fail)
    refine (put_any l A _ c w1 rfl (by omega) ((HS.out.below HB1.out).more HB1.out.size)).mono ?_
    rintro e w2 ⟨h2, hb2⟩
    have HB2 : Hid (Below w.heap.size w w2) := Lib.hid (HB1.out.trans (hb2.mono HB1.out.size))
    clear hb2
    rcases h2 with ⟨hall, v, rfl, hown⟩ | ⟨hbad, rfl⟩
    · obtain ⟨A', c', rfl, hsl⟩ := own_sl hown
      have HALL := Lib.hid hall; have HSL := Lib.hid hsl
      clear hall hown hsl
      go_wp2_with (fail)
      go_loopw [5, 23] (fun b i wr => ∃ k : Nat, k ≤ l.length ∧ i = .int .i64 k ∧ wr.ownsRow w2.heap.size 5 1 b (putB (l.take k)).length ((putB (l.take k)).map (Value.int .u8)) ∧ Below w2.heap.size w2 wr) (fun _ i _ => l.length - (intOf i).toNat)
      case atStart => exact ⟨0, by omega, rfl, World.ownsRow_nil _ _ _ _, Below.refl _ _⟩
      case round =>
        obtain ⟨k, hk, rfl, hown, hb⟩ := hrel
        have HOWN := Lib.hid hown; have HB := Lib.hid hb
        have hzr := hb.size
        have HBW : Hid (Below w.heap.size w wr) := Lib.hid (HB2.out.trans (hb.mono HB2.out.size))
        have hzw : w.heap.size ≤ wr.heap.size := HBW.out.size
        clear hown hb
        by_cases hlt : k < l.length
        · obtain ⟨b, off, rfl, hbl, hc⟩ := HS.out.2 (by omega)
          have hg := insCells_get l k hlt
          have hr : right l[k].1 l[k].2 = true := HALL.out _ (List.getElem_mem _)
          have hpt := putB_take l k hlt
          have hpl : (putB (l.take k)).length ≤ 2 * 100 := by
            have := putB_len (l.take k)
            have : (l.take k).length ≤ 100 := by simp; omega
            omega
          generalize hp : l[k] = p at *
          obtain ⟨o, a⟩ := p
          have hil := insBytes_len (o, a)
          have c1 := (HBW.out.cell (p := ⟨b, off + k * 2, none⟩) hbl).trans (hc _ _ hg.1)
          have c2 : wr.cell? ⟨b, off + k * 2 + 1, none⟩ = some (.int .i64 a) := by rw [Nat.add_assoc]; exact (HBW.out.cell (p := ⟨b, off + (k * 2 + 1), none⟩) hbl).trans (hc _ _ hg.2)
          have HR := Lib.hid hr; have HPT := Lib.hid hpt
          clear hr hpt hg hc hp
          go_wp2_with (fail)
          go_region_with (first
            | (go_at_call 41; refine (right_any _ _ _).mono ?_; rintro e wa ⟨rfl, hba⟩; rw [HR.out]; have q1 : wa.cell? ⟨wr.heap.size, 0, none⟩ = some (.int .i64 o) := cell_below hba (by go_simp); have q2 : wa.cell? ⟨wr.heap.size, 1, none⟩ = some (.int .i64 a) := cell_below hba (by go_simp); have hza : wr.heap.size < wa.heap.size := (by have := hba.size; simp at this; omega); have HBa : Hid (Below wr.heap.size wr wa) := Lib.hid (((Below.refl _ wr).alloc (Nat.le_refl _) _).drew.trans (hba.mono (by simp))); clear hba)
            | (go_at_call 44; refine (rright_any _ _ _).mono ?_; rintro e wb ⟨rfl, hbb⟩; rw [HR.out]; have p1 : wb.cell? ⟨wr.heap.size, 0, none⟩ = some (.int .i64 o) := cell_below hbb q1; have p2 : wb.cell? ⟨wr.heap.size, 1, none⟩ = some (.int .i64 a) := cell_below hbb q2; have hzb : wr.heap.size < wb.heap.size := (Nat.lt_of_lt_of_le hza hbb.size); have HBb : Hid (Below wr.heap.size wr wb) := Lib.hid (HBa.out.trans (hbb.mono (Nat.le_of_lt hza))); clear hbb q1 q2 HBa))
          all_goals
            go_wp2_with (fail)
            refine (rright_any _ _ _).mono ?_; rintro e wc ⟨rfl, hbc⟩; rw [HR.out]
            have r1 : wc.cell? ⟨wr.heap.size, 0, none⟩ = some (.int .i64 o) := cell_below hbc p1
            have r2 : wc.cell? ⟨wr.heap.size, 1, none⟩ = some (.int .i64 a) := cell_below hbc p2
            have hzc : wr.heap.size < wc.heap.size := Nat.lt_of_lt_of_le hzb hbc.size
            have HBc : Hid (Below wr.heap.size wr wc) := Lib.hid (HBb.out.trans (hbc.mono (Nat.le_of_lt hzb)))
            clear hbc p1 p2 HBb
            go_wp2_with (fail)
            refine (rbytes_any _ _ _ HR.out).mono ?_; rintro e wd ⟨⟨v, rfl, hownd⟩, hbd⟩
            obtain ⟨A2, c2', rfl, hsl2⟩ := own_sl hownd
            have hcap := own_cap hownd
            have HBd : Hid (Below wr.heap.size wr wd) := Lib.hid (HBc.out.trans (hbd.mono (Nat.le_of_lt hzc)))
            have hown2 := own_below HOWN.out HBd.out
            have hzd : wr.heap.size ≤ wd.heap.size := HBd.out.size
            have HCAP := Lib.hid hcap; have HSL2 := Lib.hid hsl2
            clear hbd r1 r2 HBc hownd hcap hsl2 c1 c2
            go_wp2_with (at_builtin; refine app_sl slU8 rfl (.tmp 42) (.tmp 44) rfl hown2 rfl rfl HCAP.out HSL2.out (u8s_one _) (by omega) (by simp only [maxLen]; omega) (by omega) ?_; intro v3 w3 hown3 hg3; have HB3 : Hid (Below w2.heap.size w2 w3) := Lib.hid (below_own (HB.out.trans (HBd.out.mono hzr)) hown2 hg3 (by omega)); clear hown2 hg3 HBd)
            go_roundw
            case rel =>
              refine ⟨k + 1, by omega, by go_num, ?_, HB3.out⟩
              rw [HPT.out]
              simpa using hown3
            case measure => simp [intOf]; omega
        · obtain rfl : k = l.length := by omega
          have e1 : l.take l.length = l := List.take_length
          rw [e1] at HOWN
          obtain ⟨A3, c3, rfl, hsl3⟩ := own_sl HOWN.out
          have HSL3 := Lib.hid hsl3
          have hpl : (putB l).length ≤ 200 := by have := putB_len l; omega
          clear hsl3 e1
          go_wp2_with (fail)
          refine (all_any (putB l) A' _ c' wr rfl (by omega) (bytes_put l HALL.out) ((HSL.out.below HB.out).more hzr)).mono ?_
          rintro e w4 ⟨h4, hb4⟩
          obtain ⟨v4, rfl, hown4⟩ := all_put l HALL.out h4
          obtain ⟨A4, c4, rfl, hsl4⟩ := own_sl hown4
          have HSL4 := Lib.hid hsl4
          have HB4 := Lib.hid (HBW.out.trans (hb4.mono hzw))
          have HB4' := Lib.hid hb4
          have hz4 := hb4.size
          clear h4 hb4 hown4 hsl4
          go_wp2_with (fail)
          refine (same_any (putB l) (putB l) A' A3 _ _ c' c3 w4 rfl rfl (by omega) (by omega) ((HSL.out.below (HB.out.trans (HB4'.out.mono hzr))).more (Nat.le_trans hzr hz4)) ((HSL3.out.below HB4'.out).more hz4)).mono ?_
          rintro e w5 ⟨rfl, hb5⟩
          have HB5 := Lib.hid (HB4.out.trans (hb5.mono HB4.out.size))
          have hsl5 := (HSL4.out.below hb5).more hb5.size
          have HSL5 := Lib.hid hsl5
          have hz5 := HB5.out.size
          have hd : decide (putB l = putB l) = true := by simp
          clear hb5 hsl5 HSL4 HB4 HB4' HSL3 HOWN
          go_wp2_with (fail)
          go_loopw [73] (fun i wr => ∃ k : Nat, k ≤ l.length ∧ i = .int .i64 k ∧ Below w5.heap.size w5 wr) (fun i _ => l.length - (intOf i).toNat)
          case atStart => exact ⟨0, by omega, rfl, Below.refl _ _⟩
          case round =>
            obtain ⟨k, hk, rfl, hb⟩ := hrel
            have HB6 := Lib.hid hb
            clear hb
            by_cases hlt : k < l.length
            · obtain ⟨b, off, rfl, hbl, hc⟩ := HS.out.2 (by omega)
              obtain ⟨b', off', rfl, hbl', hc'⟩ := HSL5.out.2 (by omega)
              have hg := insCells_get l k hlt
              generalize hp : l[k] = p at *
              obtain ⟨o, a⟩ := p
              have hbw := HB5.out.trans (HB6.out.mono hz5)
              have c1 := (hbw.cell (p := ⟨b, off + k * 2, none⟩) hbl).trans (hc _ _ hg.1)
              have c2 : wr.cell? ⟨b, off + k * 2 + 1, none⟩ = some (.int .i64 a) := by rw [Nat.add_assoc]; exact (hbw.cell (p := ⟨b, off + (k * 2 + 1), none⟩) hbl).trans (hc _ _ hg.2)
              have c3 := (HB6.out.cell (p := ⟨b', off' + k * 2, none⟩) hbl').trans (hc' _ _ hg.1)
              have c4 : wr.cell? ⟨b', off' + k * 2 + 1, none⟩ = some (.int .i64 a) := by rw [Nat.add_assoc]; exact (HB6.out.cell (p := ⟨b', off' + (k * 2 + 1), none⟩) hbl').trans (hc' _ _ hg.2)
              have i0 : (0 : Int) ≤ (k : Int) := by omega
              have i1 : (k : Int) < (l.length : Int) := by omega
              clear hg hc hc' hp hbw
              go_wp2_with (fail)
              go_quiet (fail)
              go_wp2_with (fail)
              go_roundw
              case rel => exact ⟨k + 1, by omega, by go_num, below_drewN HB6.out _⟩
              case measure => simp [intOf]; omega
            · go_wp2_with (fail)
              go_ret
              exact ⟨rfl, HB5.out.trans (HB6.out.mono hz5)⟩
    · obtain ⟨pb, hpb, hbad⟩ := hbad
      have HBAD := Lib.hid hbad; have HPB := Lib.hid hpb
      clear hbad hpb
      go_wp2_with (fail)
      go_loopw [5, 23] (fun b i wr => ∃ k : Nat, k ≤ l.length ∧ i = .int .i64 k ∧ wr.ownsRow w2.heap.size 5 1 b (putB (l.take k)).length ((putB (l.take k)).map (Value.int .u8)) ∧ (∀ p ∈ l.take k, right p.1 p.2 = true) ∧ Below w2.heap.size w2 wr) (fun _ i _ => l.length - (intOf i).toNat)
      case atStart => exact ⟨0, by omega, rfl, World.ownsRow_nil _ _ _ _, by simp, Below.refl _ _⟩
      case round =>
        obtain ⟨k, hk, rfl, hown, hall, hb⟩ := hrel
        have hlt : k < l.length := by
          rcases Nat.lt_or_ge k l.length with h | h
          · exact h
          · rw [List.take_of_length_le h] at hall
            have := hall _ HPB.out
            rw [HBAD.out] at this
            cases this
        have HOWN := Lib.hid hown; have HB := Lib.hid hb; have HALL := Lib.hid hall
        have hzr := hb.size
        have HBW : Hid (Below w.heap.size w wr) := Lib.hid (HB2.out.trans (hb.mono HB2.out.size))
        have hzw : w.heap.size ≤ wr.heap.size := HBW.out.size
        clear hown hb hall
        obtain ⟨b, off, rfl, hbl, hc⟩ := HS.out.2 (by omega)
        have hg := insCells_get l k hlt
        have HNEXT := Lib.hid (putRest l k hlt HALL.out)
        have hpt := putB_take l k hlt
        have hpl : (putB (l.take k)).length ≤ 2 * 100 := by
          have := putB_len (l.take k)
          have : (l.take k).length ≤ 100 := by simp; omega
          omega
        generalize hp : l[k] = p at *
        obtain ⟨o, a⟩ := p
        have hil := insBytes_len (o, a)
        have c1 := (HBW.out.cell (p := ⟨b, off + k * 2, none⟩) hbl).trans (hc _ _ hg.1)
        have c2 : wr.cell? ⟨b, off + k * 2 + 1, none⟩ = some (.int .i64 a) := by rw [Nat.add_assoc]; exact (HBW.out.cell (p := ⟨b, off + (k * 2 + 1), none⟩) hbl).trans (hc _ _ hg.2)
        cases hr : right o a
        · have HR := Lib.hid hr
          clear hr hpt hg hc hp
          go_wp2_with (fail)
          go_region_with (first
            | (go_at_call 41; refine (right_any _ _ _).mono ?_; rintro e wa ⟨rfl, hba⟩; rw [HR.out]; have q1 : wa.cell? ⟨wr.heap.size, 0, none⟩ = some (.int .i64 o) := cell_below hba (by go_simp); have q2 : wa.cell? ⟨wr.heap.size, 1, none⟩ = some (.int .i64 a) := cell_below hba (by go_simp); have hza : wr.heap.size < wa.heap.size := (by have := hba.size; simp at this; omega); have HBa : Hid (Below wr.heap.size wr wa) := Lib.hid (((Below.refl _ wr).alloc (Nat.le_refl _) _).drew.trans (hba.mono (by simp))); clear hba)
            | (go_at_call 44; refine (rright_any _ _ _).mono ?_; rintro e wb ⟨rfl, hbb⟩; rw [HR.out]; have p1 : wb.cell? ⟨wr.heap.size, 0, none⟩ = some (.int .i64 o) := cell_below hbb q1; have p2 : wb.cell? ⟨wr.heap.size, 1, none⟩ = some (.int .i64 a) := cell_below hbb q2; have hzb : wr.heap.size < wb.heap.size := (Nat.lt_of_lt_of_le hza hbb.size); have HBb : Hid (Below wr.heap.size wr wb) := Lib.hid (HBa.out.trans (hbb.mono (Nat.le_of_lt hza))); clear hbb q1 q2 HBa))
          all_goals
            go_wp2_with (fail)
            refine (rright_any _ _ _).mono ?_; rintro e wc ⟨rfl, hbc⟩; rw [HR.out]
            have HBc : Hid (Below wr.heap.size wr wc) := Lib.hid (HBb.out.trans (hbc.mono (Nat.le_of_lt hzb)))
            clear hbc p1 p2 HBb
            go_wp2_with (fail)
            go_ret
            exact ⟨rfl, HBW.out.trans (HBc.out.mono hzw)⟩
        · have HR := Lib.hid hr; have HPT := Lib.hid hpt
          clear hr hpt hg hc hp
          go_wp2_with (fail)
          go_region_with (first
            | (go_at_call 41; refine (right_any _ _ _).mono ?_; rintro e wa ⟨rfl, hba⟩; rw [HR.out]; have q1 : wa.cell? ⟨wr.heap.size, 0, none⟩ = some (.int .i64 o) := cell_below hba (by go_simp); have q2 : wa.cell? ⟨wr.heap.size, 1, none⟩ = some (.int .i64 a) := cell_below hba (by go_simp); have hza : wr.heap.size < wa.heap.size := (by have := hba.size; simp at this; omega); have HBa : Hid (Below wr.heap.size wr wa) := Lib.hid (((Below.refl _ wr).alloc (Nat.le_refl _) _).drew.trans (hba.mono (by simp))); clear hba)
            | (go_at_call 44; refine (rright_any _ _ _).mono ?_; rintro e wb ⟨rfl, hbb⟩; rw [HR.out]; have p1 : wb.cell? ⟨wr.heap.size, 0, none⟩ = some (.int .i64 o) := cell_below hbb q1; have p2 : wb.cell? ⟨wr.heap.size, 1, none⟩ = some (.int .i64 a) := cell_below hbb q2; have hzb : wr.heap.size < wb.heap.size := (Nat.lt_of_lt_of_le hza hbb.size); have HBb : Hid (Below wr.heap.size wr wb) := Lib.hid (HBa.out.trans (hbb.mono (Nat.le_of_lt hza))); clear hbb q1 q2 HBa))
          all_goals
            go_wp2_with (fail)
            refine (rright_any _ _ _).mono ?_; rintro e wc ⟨rfl, hbc⟩; rw [HR.out]
            have r1 : wc.cell? ⟨wr.heap.size, 0, none⟩ = some (.int .i64 o) := cell_below hbc p1
            have r2 : wc.cell? ⟨wr.heap.size, 1, none⟩ = some (.int .i64 a) := cell_below hbc p2
            have hzc : wr.heap.size < wc.heap.size := Nat.lt_of_lt_of_le hzb hbc.size
            have HBc : Hid (Below wr.heap.size wr wc) := Lib.hid (HBb.out.trans (hbc.mono (Nat.le_of_lt hzb)))
            clear hbc p1 p2 HBb
            go_wp2_with (fail)
            refine (rbytes_any _ _ _ HR.out).mono ?_; rintro e wd ⟨⟨v, rfl, hownd⟩, hbd⟩
            obtain ⟨A2, c2', rfl, hsl2⟩ := own_sl hownd
            have hcap := own_cap hownd
            have HBd : Hid (Below wr.heap.size wr wd) := Lib.hid (HBc.out.trans (hbd.mono (Nat.le_of_lt hzc)))
            have hown2 := own_below HOWN.out HBd.out
            have hzd : wr.heap.size ≤ wd.heap.size := HBd.out.size
            have HCAP := Lib.hid hcap; have HSL2 := Lib.hid hsl2
            clear hbd r1 r2 HBc hownd hcap hsl2 c1 c2
            go_wp2_with (at_builtin; refine app_sl slU8 rfl (.tmp 42) (.tmp 44) rfl hown2 rfl rfl HCAP.out HSL2.out (u8s_one _) (by omega) (by simp only [maxLen]; omega) (by omega) ?_; intro v3 w3 hown3 hg3; have HB3 : Hid (Below w2.heap.size w2 w3) := Lib.hid (below_own (HB.out.trans (HBd.out.mono hzr)) hown2 hg3 (by omega)); clear hown2 hg3 HBd)
            go_roundw
            case rel =>
              refine ⟨k + 1, by omega, by go_num, ?_, HNEXT.out HR.out, HB3.out⟩
              rw [HPT.out]
              simpa using hown3
            case measure => simp [intOf]; omega

/-! ### the row: written by program -/
set_option maxRecDepth 100000 in
theorem lifted (os : Os) (started : os.Started) (H : Type) (enc : TypeId × Value → H) :
    ReturnsInHanded {} Try.checked os 12 .any (Rows.opPutsSpec.pre6 enc Try.prog Try.f12 Rows.opPutsRow.domain false) (Rows.opPutsSpec.post enc Try.prog Try.f12 false true false false) := by
  refine returnsInHanded_of_change (C := Try.checked) Go.Proofs.Ytbnnfknkmelhaaa.lift.own started (by kernel_rfl) Try.func12
    (ChangeSpec.witness6 (enc := enc) (C := Try.checked) false ⟨#[], #[.slice none 0 0], []⟩ 8 (by kernel_rfl) (by kernel_rfl) (by kernel_rfl) (by kernel_rfl)) ?_
  intro W base args ds gs before hval0 hW hcnd _
  have hval : ∀ (j : Nat) t v, Try.f12.params[j]? = some t → args[j]? = some v → Value.okWide Try.prog W .any base t v := hval0
  have hW' := hW
  obtain ⟨p, q, hA0, hV, rfl, hfz, hnd⟩ := hW
  have hA : DataW.TrodAll enc Try.prog W 0 (fun _ => true) true Try.f12.params.toList args.toList ds p := hA0
  have hAk := hA
  rw [Try.params12] at hA hval
  obtain ⟨v0, vs0, d0, ds0, p0, q0, hargs, rfl, rfl, h0, r0⟩ := trodAll_cons hA
  obtain ⟨rfl, rfl, rfl⟩ := trodAll_nil r0
  obtain rfl : args = #[v0] := by cases args; simp_all
  obtain ⟨rfl, rfl⟩ := trodVars_none hV
  have hlt := hW'.lt
  obtain ⟨A0, c0, l0, rfl, hm0, hs0⟩ := arg_ins (hval 0 55 v0 rfl rfl) h0
  refine (walk W A0 c0 l0 hm0 hs0).mono fun e W' ⟨he, hg⟩ => ?_
  subst he
  exact ⟨_, rfl, Go.Proofs.Ytbnnfknkmelhaaa.base.postBelow (pv := []) hW' (fun _ _ _ => (trodAll_cons_mk (shut_bool Try.underlying4 _) trodAll_mk0)) (fun sp hsp => Go.Proofs.Ytbnnfknkmelhaaa.lift.args_stay Go.Proofs.Ytbnnfknkmelhaaa.lift.laidOut hg _ _ _ _ (by kernel_rfl) hAk (fun x hx => hlt x (by simpa using hx)) (fun x hx => hsp x (by simpa using hx))) (fun _ _ => rfl) (by simp)
    hg (ok_one (by kernel_rfl) rfl (okWide_bool_mk Try.underlying4 _))⟩

theorem over : Rows.opPutsRow.holds Try.pinned (OpenSpec.ofChange Rows.opPutsSpec) :=
  OpenClaim.holds_of_wide 12 Try.f12 rfl rfl rfl rfl rfl rfl rfl ⟨rfl, rfl, rfl, rfl, rfl⟩ rfl rfl rfl rfl rfl (by kernel_rfl) Try.func12 (by kernel_rfl)
    (of_decide_eq_true (by kernel_rfl)) (by unfold Func.isWrapper; first | (rw [if_pos (by decide +kernel)]; kernel_rfl) | (rw [if_neg (by decide +kernel)]; exact ⟨rfl, rfl⟩))
    (fun os started H enc _ => lifted os started H enc)

/-- THE STATEMENT -/
theorem proved : Rows.OpPutsSaid :=
  over
#print axioms proved
end Go.Proofs.Ytbnnfknkmelhaaa.opPuts
