/-
  PROVED HERE: the document's timers: what Stop, Set, First and Due answer.
  CONDITIONS: each lemma names its own.
-/
import Derived.Test.YtooagoikiafgcaaTimerLaw
import Derived.BigQuiet
namespace Go.Proofs.Ytooagoikiafgcaa.timer
set_option linter.unusedVariables false
open Go.RowKit Go.WideShapes Go.Proofs.Ytooagoikiafgcaa.base Go.Proofs.Ytooagoikiafgcaa.obj Go.Proofs.Ytooagoikiafgcaa.mem Go.Proofs.Ytooagoikiafgcaa.sep Go.Proofs.Ytooagoikiafgcaa.plan

def pc (x : Int × Int) : List Value := [.int .i64 x.1, .int .i64 x.2]
def pcs (L : List (Int × Int)) : List Value := (L.map pc).flatten
theorem pcs_snoc (L : List (Int × Int)) (x : Int × Int) : pcs (L ++ [x]) = pcs L ++ pc x := by simp [pcs]
theorem pcs_one (L : List (Int × Int)) : ∀ u ∈ pcs L, u.oneCell' = true := by
  intro u hu
  simp only [pcs, List.mem_flatten, List.mem_map] at hu
  obtain ⟨_, ⟨x, _, rfl⟩, h⟩ := hu
  simp only [pc, List.mem_cons, List.not_mem_nil, or_false] at h
  rcases h with rfl | rfl <;> rfl
theorem pcs_get {w : World} {B n : Nat} {A : Option Addr} {L : List (Int × Int)} (h : Sl w B 2 A n (pcs L)) (hn : n = L.length) {k : Nat} (hk : k < L.length) : ∃ b off, A = some ⟨b, off, none⟩ ∧ b < B ∧ w.cell? ⟨b, off + k * 2, none⟩ = some (.int .i64 L[k].1) ∧ w.cell? ⟨b, off + k * 2 + 1, none⟩ = some (.int .i64 L[k].2) := by
  obtain ⟨b, off, rfl, hbl, hc⟩ := h.2 (by omega)
  have h9 : ∀ x ∈ L.map pc, x.length = 2 := by
    intro x hx
    obtain ⟨a, _, rfl⟩ := List.mem_map.1 hx
    rfl
  have e := flat_elem h9 (i := k) (by simpa using hk)
  have g : ∀ j, j < 2 → (pcs L)[k * 2 + j]? = (pc L[k])[j]? := by
    intro j hj
    have e2 : (((L.map pc).flatten.drop (k * 2)).take 2)[j]? = (L.map pc).flatten[k * 2 + j]? := by
      rw [List.getElem?_take, if_pos hj, List.getElem?_drop]
    rw [e] at e2
    rw [pcs, ← e2]
    simp
  refine ⟨b, off, rfl, hbl, ?_, ?_⟩
  · have := hc (k * 2) _ ((g 0 (by omega)).trans rfl)
    exact this
  · have := hc (k * 2 + 1) _ ((g 1 (by omega)).trans rfl)
    rw [Nat.add_assoc]
    exact this
theorem infoOne : (Try.prog.info? 68).map (fun i => (i.zero, i.size, i.bytes)) = some (some (.agg #[.int .i64 0, .int .i64 0]), 2, 16) := by kernel_rfl
theorem slOne : SlT Try.prog 60 68 2 16 := by
  obtain ⟨i0, hi, hz0, hz1, hz2⟩ := info_parts infoOne
  exact ⟨Try.underlying60, ⟨i0, _, hi, hz0, hz1, hz2, rfl⟩, by decide⟩
theorem stopM_take {L : List (Int × Int)} {k : Nat} (hk : k < L.length) (nm : Int) : stopM (L.take (k + 1)) nm = if L[k].1 ≠ nm then stopM (L.take k) nm ++ [L[k]] else stopM (L.take k) nm := by
  unfold stopM
  rw [List.take_succ_eq_append_getElem hk, List.filter_append]
  split <;> simp_all
theorem stopM_take_len (L : List (Int × Int)) (k : Nat) (nm : Int) : (stopM (L.take k) nm).length ≤ k := Nat.le_trans (List.length_filter_le _ _) (by rw [List.length_take]; omega)
set_option maxRecDepth 100000 in
set_option maxHeartbeats 8000000 in
theorem rstop_at (w : World) (A : Option Addr) (n c : Nat) (L : List (Int × Int)) (hn : n = L.length) (hsz : n ≤ 1000000) (hs : Sl w w.heap.size 2 A n (pcs L)) (nm : Int) :
    Calls Try.prog 29 #[.slice A n c, .int .i64 nm] w fun e w' => ∃ v, e = .returned v ∧ w'.ownsRow w.heap.size 68 2 v (stopM L nm).length (pcs (stopM L nm)) ∧ Below w.heap.size w w' := by
  have HN := Lib.hid hn; have HS := Lib.hid hs
  clear hn hs
  go_enter Try.func29, Try.ntmps29
  go_wp2_with (fail)
  go_loopw [5, 6] (fun v i wr => ∃ k : Nat, k ≤ n ∧ i = .int .i64 k ∧ wr.ownsRow w.heap.size 68 2 v (stopM (L.take k) nm).length (pcs (stopM (L.take k) nm)) ∧ Below w.heap.size w wr) (fun _ i _ => n - (intOf i).toNat)
  case atStart => exact ⟨0, by omega, rfl, by simpa [stopM, pcs] using World.ownsRow_nil _ _ 68 2, Below.refl _ _⟩
  case round =>
    obtain ⟨k, hk, rfl, ho, hb⟩ := hrel
    obtain ⟨A', c', rfl, _⟩ := own_form ho
    have HO := Lib.hid ho; have HB := Lib.hid hb
    clear ho hb
    by_cases hlt : k < n
    · have hlt' : (k : Int) < (n : Int) := by omega
      have hk0 : (0 : Int) ≤ (k : Int) := by omega
      have hkl : k < L.length := by rw [← HN.out]; exact hlt
      obtain ⟨b, off, rfl, lb, c0, c1⟩ := pcs_get (HS.out.below HB.out) HN.out hkl
      have lb' : b < wr.heap.size := Nat.lt_of_lt_of_le lb HB.out.size
      have HT := Lib.hid (stopM_take hkl nm)
      have HLN := Lib.hid (stopM_take_len L k nm)
      generalize L[k] = x at c0 c1 HT
      obtain ⟨xn, xt⟩ := x
      dsimp only at c0 c1
      by_cases e : xn = nm
      · have b1 : (xn != nm) = false := by simpa using e
        have HE := Lib.hid (show stopM (L.take (k + 1)) nm = stopM (L.take k) nm by rw [HT.out, if_neg (by simpa using e)])
        clear e
        go_wp2_with (fail)
        go_roundw
        case rel => exact ⟨k + 1, by omega, by go_num, by rw [HE.out]; exact HO.out, HB.out⟩
        case measure => simp [intOf] <;> omega
      · have b1 : (xn != nm) = true := by simpa using e
        have HE := Lib.hid (show stopM (L.take (k + 1)) nm = stopM (L.take k) nm ++ [(xn, xt)] by rw [HT.out, if_pos (by simpa using e)])
        clear e
        obtain ⟨m, hm⟩ : ∃ m, m = (stopM (L.take k) nm).length := ⟨_, rfl⟩
        rw [← hm] at HO HLN ⊢
        have HM := Lib.hid hm
        have hmk : m ≤ k := HLN.out
        clear hm
        go_wp2_with (first
          | (refine wpList_build1 rfl 60 (.tmp 24) rfl Try.underlying60 #[.int .i64 xn, .int .i64 xt] rfl (by kernel_rfl) (by decide) (by decide) ?_)
          | (refine app_new slOne rfl (.tmp 20) (.tmp 25) rfl HO.out rfl rfl rfl (by simp [Value.oneCell']) (by omega) (by unfold maxLen; omega) HB.out.size ?_; intro v6 w6 ho6 hg6; have HO6 := Lib.hid ho6; have HB6 := Lib.hid (below_own HB.out HO.out hg6 HB.out.size); clear ho6 hg6))
        go_roundw
        case rel => exact ⟨k + 1, by omega, by go_num, by rw [HE.out, pcs_snoc, List.length_append, List.length_singleton, ← HM.out]; exact HO6.out, HB6.out⟩
        case measure => simp [intOf] <;> omega
    · have hkn : k = n := by omega
      have hlt' : ¬ (k : Int) < (n : Int) := by omega
      have HE := Lib.hid (show stopM (L.take k) nm = stopM L nm by rw [List.take_of_length_le (by rw [← HN.out]; omega)])
      clear hkn
      go_wp2_with (fail)
      go_ret
      refine ⟨_, rfl, by rw [← HE.out]; exact HO.out, HB.out⟩
set_option maxRecDepth 100000 in
set_option maxHeartbeats 8000000 in
theorem rset_at (w : World) (A : Option Addr) (n c : Nat) (L : List (Int × Int)) (hn : n = L.length) (hsz : n ≤ 1000000) (hs : Sl w w.heap.size 2 A n (pcs L)) (nm tk : Int) :
    Calls Try.prog 28 #[.slice A n c, .int .i64 nm, .int .i64 tk] w fun e w' => ∃ v, e = .returned v ∧ w'.ownsRow w.heap.size 68 2 v (stopM L nm ++ [(nm, tk)]).length (pcs (stopM L nm ++ [(nm, tk)])) ∧ Below w.heap.size w w' := by
  have HN := Lib.hid hn; have HS := Lib.hid hs
  have HLN := Lib.hid (stopM_len L nm)
  clear hn hs
  go_enter Try.func28, Try.ntmps28
  go_wp2_with (fail)
  refine (rstop_at _ A n c L HN.out hsz HS.out nm).mono ?_
  rintro e w1 ⟨v, rfl, ho, hb⟩
  obtain ⟨A', c', rfl, _⟩ := own_form ho
  have HO := Lib.hid ho; have HB := Lib.hid hb
  clear ho hb
  obtain ⟨m, hm⟩ : ∃ m, m = (stopM L nm).length := ⟨_, rfl⟩
  rw [← hm] at HO HLN ⊢
  have HM := Lib.hid hm
  have hmk : m ≤ n := by rw [HN.out]; exact HLN.out
  clear hm
  go_wp2_with (first
    | (refine wpList_build1 rfl 60 (.tmp 12) rfl Try.underlying60 #[.int .i64 nm, .int .i64 tk] rfl (by kernel_rfl) (by decide) (by decide) ?_)
    | (refine app_new slOne rfl (.tmp 9) (.tmp 13) rfl HO.out rfl rfl rfl (by simp [Value.oneCell']) (by omega) (by unfold maxLen; omega) HB.out.size ?_; intro v6 w6 ho6 hg6; have HO6 := Lib.hid ho6; have HB6 := Lib.hid (below_own HB.out HO.out hg6 HB.out.size); clear ho6 hg6))
  go_ret
  exact ⟨_, rfl, by have h := HO6.out; rw [HM.out] at h; simpa [pcs_snoc, pc] using h, HB6.out⟩
structure FI (L : List (Int × Int)) (k j : Nat) : Prop where
  lt : j < k
  min : ∀ i (h : i < L.length) (hj : j < L.length), i < k → lessP L[i] L[j] = false
theorem lessP_neg {a b c : Int × Int} (h : lessP a b = false) (k : lessP b c = false) : lessP a c = false := by
  unfold lessP at *
  obtain ⟨a1, a2⟩ := a
  obtain ⟨b1, b2⟩ := b
  obtain ⟨c1, c2⟩ := c
  simp only at *
  split at h <;> split at k <;> split <;> simp_all <;> omega
theorem FI.stay {L : List (Int × Int)} {k j : Nat} (h : FI L k j) (hk : k < L.length) (hj : j < L.length) (e : lessP L[k] L[j] = false) : FI L (k + 1) j := ⟨by have := h.lt; omega, fun i hi hj hlt => by
  by_cases e2 : i = k
  · subst e2; exact e
  · exact h.min i hi hj (by omega)⟩
theorem FI.turn {L : List (Int × Int)} {k j : Nat} (h : FI L k j) (hk : k < L.length) (hj : j < L.length) (e : lessP L[k] L[j] = true) : FI L (k + 1) k := ⟨by omega, fun i hi hj2 hlt => by
  by_cases e2 : i = k
  · subst e2; exact lessP_irr _
  · exact lessP_neg (h.min i hi hj (by omega)) (lessP_asym e)⟩
theorem FI.first {L : List (Int × Int)} : FI L 1 0 := ⟨by omega, fun i hi hj hlt => by
  have : i = 0 := by omega
  subst this; exact lessP_irr _⟩
theorem FI.isMin {L : List (Int × Int)} {j : Nat} (h : FI L L.length j) : IsMin L (L[j]'h.lt) := ⟨List.getElem_mem _, fun x hx => by
  obtain ⟨i, hi, rfl⟩ := List.getElem_of_mem hx
  exact h.min i hi h.lt hi⟩
/-- the place of the one that is due first -/
inductive FR (L : List (Int × Int)) : Int → Prop
  | none (h : L = []) : FR L (-1)
  | some (j : Nat) (hj : j < L.length) (h : IsMin L L[j]) : FR L j
set_option maxRecDepth 100000 in
set_option maxHeartbeats 8000000 in
theorem rfirst_at (w : World) (A : Option Addr) (n c : Nat) (L : List (Int × Int)) (hn : n = L.length) (hsz : n ≤ 1000000) (hs : Sl w w.heap.size 2 A n (pcs L)) :
    Calls Try.prog 31 #[.slice A n c] w fun e w' => (∃ i, e = .returned (.int .i64 i) ∧ FR L i) ∧ Below w.heap.size w w' := by
  have HN := Lib.hid hn; have HS := Lib.hid hs
  clear hn hs
  go_enter Try.func31, Try.ntmps31
  go_wp2_with (fail)
  go_loopw [3, 4] (fun b i wr => ∃ (k : Nat) (bi : Int), k ≤ n ∧ i = .int .i64 k ∧ b = .int .i64 bi ∧ ((k = 0 ∧ bi = -1) ∨ ∃ j : Nat, bi = j ∧ FI L k j) ∧ Below w.heap.size w wr) (fun _ i _ => n - (intOf i).toNat)
  case atStart => exact ⟨0, -1, by omega, rfl, rfl, .inl ⟨rfl, rfl⟩, Below.refl _ _⟩
  case round =>
    obtain ⟨k, bi, hk, rfl, rfl, hc, hb⟩ := hrel
    have HB := Lib.hid hb
    clear hb
    by_cases hlt : k < n
    · have hlt' : (k : Int) < (n : Int) := by omega
      have hk0 : (0 : Int) ≤ (k : Int) := by omega
      have hkl : k < L.length := by rw [← HN.out]; exact hlt
      obtain ⟨b, off, rfl, lb, c0, c1⟩ := pcs_get (HS.out.below HB.out) HN.out hkl
      have lb' : b < wr.heap.size := Nat.lt_of_lt_of_le lb HB.out.size
      rcases hc with ⟨hk00, rfl⟩ | ⟨j, rfl, hf⟩
      · clear c0 c1
        have HK00 := Lib.hid hk00
        clear hk00
        go_wp2_with (fail)
        go_quiet (fail)
        go_wp2_with (fail)
        go_roundw
        case rel => exact ⟨k + 1, k, by omega, by go_num, rfl, .inr ⟨k, rfl, by rw [HK00.out]; exact FI.first⟩, below_drewN HB.out _⟩
        case measure => simp [intOf] <;> omega
      · have hjk := hf.lt
        have hjl : j < L.length := by omega
        have hj0 : decide ((j : Int) < 0) = false := by simp
        have hj1 : (j : Int) < (n : Int) := by omega
        have hj2 : (0 : Int) ≤ (j : Int) := by omega
        obtain ⟨b', off', hA', lb2, d0, d1⟩ := pcs_get (HS.out.below HB.out) HN.out hjl
        injection hA' with hA'
        injection hA' with e1 e2
        subst e1; subst e2
        have HST := Lib.hid (fun e => hf.stay hkl hjl e)
        have HTU := Lib.hid (fun e => hf.turn hkl hjl e)
        clear hf
        generalize L[k] = x at c0 c1 HST HTU
        generalize L[j] = y at d0 d1 HST HTU
        obtain ⟨xn, xt⟩ := x
        obtain ⟨yn, yt⟩ := y
        dsimp only at c0 c1 d0 d1
        by_cases q1 : xt < yt
        · have HF := Lib.hid (HTU.out (by unfold lessP; simp only; rw [if_pos (by omega)]; simpa using q1))
          go_wp2_with (fail)
          go_quiet (fail)
          go_wp2_with (fail)
          go_roundw
          case rel => exact ⟨k + 1, k, by omega, by go_num, rfl, .inr ⟨k, rfl, HF.out⟩, below_drewN HB.out _⟩
          case measure => simp [intOf] <;> omega
        · have d1' : decide (xt < yt) = false := by simpa using q1
          by_cases q2 : xt = yt
          · have b2 : (xt == yt) = true := by simpa using q2
            have HQ := Lib.hid q2
            clear q2
            by_cases q3 : xn < yn
            · have HF := Lib.hid (HTU.out (by unfold lessP; simp only; rw [if_neg (by simpa using HQ.out)]; simpa using q3))
              go_wp2_with (fail)
              go_quiet (fail)
              go_wp2_with (fail)
              go_roundw
              case rel => exact ⟨k + 1, k, by omega, by go_num, rfl, .inr ⟨k, rfl, HF.out⟩, below_drewN HB.out _⟩
              case measure => simp [intOf] <;> omega
            · have d3' : decide (xn < yn) = false := by simpa using q3
              have HF := Lib.hid (HST.out (by unfold lessP; simp only; rw [if_neg (by simpa using HQ.out)]; simpa using q3))
              go_wp2_with (fail)
              go_quiet (fail)
              go_wp2_with (fail)
              go_roundw
              case rel => exact ⟨k + 1, j, by omega, by go_num, rfl, .inr ⟨j, rfl, HF.out⟩, below_drewN HB.out _⟩
              case measure => simp [intOf] <;> omega
          · have b2 : (xt == yt) = false := by simpa using q2
            have HF := Lib.hid (HST.out (by unfold lessP; simp only; rw [if_pos q2]; simpa using q1))
            clear q2
            go_wp2_with (fail)
            go_quiet (fail)
            go_wp2_with (fail)
            go_roundw
            case rel => exact ⟨k + 1, j, by omega, by go_num, rfl, .inr ⟨j, rfl, HF.out⟩, below_drewN HB.out _⟩
            case measure => simp [intOf] <;> omega
    · have hkn : k = n := by omega
      have hlt' : ¬ (k : Int) < (n : Int) := by omega
      have HF := Lib.hid (show FR L bi by
        rcases hc with ⟨e1, rfl⟩ | ⟨j, rfl, hf⟩
        · exact .none (List.eq_nil_of_length_eq_zero (by rw [← HN.out]; omega))
        · rw [hkn, HN.out] at hf
          exact .some j hf.lt hf.isMin)
      clear hkn hc
      go_wp2_with (fail)
      go_ret
      exact ⟨⟨_, rfl, HF.out⟩, HB.out⟩
end Go.Proofs.Ytooagoikiafgcaa.timer
