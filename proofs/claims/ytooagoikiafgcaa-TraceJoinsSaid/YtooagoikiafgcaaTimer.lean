/-
  PROVED HERE: timers in memory: what the pile's Len, Less and Swap answer and leave.
  CONDITIONS: each lemma names its own.
-/
import Derived.Test.YtooagoikiafgcaaSep
import Derived.Test.YtooagoikiafgcaaPlan
import Derived.Test.YtooagoikiafgcaaBitsRef
import Derived.Laws.Rows
namespace Go.Proofs.Ytooagoikiafgcaa.timer
set_option linter.unusedVariables false
open Go.RowKit Go.Proofs.Ytooagoikiafgcaa.base Go.Proofs.Ytooagoikiafgcaa.obj Go.Proofs.Ytooagoikiafgcaa.mem Go.Proofs.Ytooagoikiafgcaa.sep Go.Proofs.Ytooagoikiafgcaa.plan

abbrev ptr (g : Nat) : Value := .pointer (some ⟨g, 0, none⟩)
structure One where
  name : Int
  tick : Int
  at_ : Int
def One.cells (o : One) : List Value := [.int .i64 o.name, .int .i64 o.tick, .int .i64 o.at_]
def ltb (a b : One) : Bool := if a.tick ≠ b.tick then decide (a.tick < b.tick) else decide (a.name < b.name)
/-- the timers, each in a block of its own -/
def ones (gs : List Nat) (f : Nat → One) : Asn := lst (gs.map fun g => row g 121 (f g).cells)
theorem ones_get {w0 w : World} {l : List Asn} {gs : List Nat} {f : Nat → One} (h : St w0 w (ones gs f :: l)) {g : Nat} (hg : g ∈ gs) : Row w g 121 (f g).cells := by
  obtain ⟨a, b, rfl⟩ := List.append_of_mem hg
  have h2 := h.unlst
  rw [List.map_append, List.map_cons, List.append_assoc, List.cons_append] at h2
  exact (h2.perm List.perm_middle).row.1
def upd (f : Nat → One) (g : Nat) (o : One) : Nat → One := fun x => if x = g then o else f x
theorem ones_congr {w0 w : World} {l : List Asn} {gs : List Nat} {f f' : Nat → One} (h : St w0 w (ones gs f :: l)) (e : ∀ g ∈ gs, f g = f' g) : St w0 w (ones gs f' :: l) := by
  have : (gs.map fun g => row g 121 (f g).cells) = (gs.map fun g => row g 121 (f' g).cells) := List.map_congr_left fun g hg => by rw [e g hg]
  unfold ones at h ⊢
  rw [← this]
  exact h
theorem ones_perm {w0 w : World} {l : List Asn} {gs gs' : List Nat} {f : Nat → One} (h : St w0 w (ones gs f :: l)) (p : gs.Perm gs') : St w0 w (ones gs' f :: l) :=
  St.tolst (L := gs'.map fun g => row g 121 (f g).cells) (h.unlst.perm ((p.map _).append_right l))
theorem ones_cons {w0 w : World} {l : List Asn} {gs : List Nat} {f : Nat → One} {g : Nat} : St w0 w (row g 121 (f g).cells :: ones gs f :: l) ↔ St w0 w (ones (g :: gs) f :: l) := by
  constructor
  · intro h
    exact St.tolst (L := (g :: gs).map fun g => row g 121 (f g).cells) ((h.swap.unlst).perm List.perm_middle)
  · intro h
    have h2 : St w0 w (row g 121 (f g).cells :: ((gs.map fun g => row g 121 (f g).cells) ++ l)) := h.unlst
    exact (St.tolst (L := gs.map fun g => row g 121 (f g).cells) (h2.perm List.perm_middle.symm)).swap
theorem ones_set {w0 w : World} {l : List Asn} {gs : List Nat} {f : Nat → One} (h : St w0 w (ones gs f :: l)) (hn : gs.Nodup) {g : Nat} (hg : g ∈ gs) (k : Nat) (v : Value) (o : One) (ho : (f g).cells.set k v = o.cells) : St w0 (w.setCell ⟨g, k, none⟩ v) (ones gs (upd f g o) :: l) := by
  obtain ⟨a, b, rfl⟩ := List.append_of_mem hg
  have hp : (a ++ g :: b).Perm (g :: (a ++ b)) := List.perm_middle
  have hnd := (hp.nodup_iff).1 hn
  have h3 := (ones_cons.2 (ones_perm h hp)).set k v
  rw [ho] at h3
  have hng : g ∉ a ++ b := (List.nodup_cons.1 hnd).1
  have h4 := (ones_congr (f' := upd f g o) h3.swap fun x hx => by unfold upd; rw [if_neg (fun e => hng (by rw [← e]; exact hx))]).swap
  have h5 : St w0 (w.setCell ⟨g, k, none⟩ v) (row g 121 (upd f g o g).cells :: ones (a ++ b) (upd f g o) :: l) := by
    unfold upd at h4 ⊢
    rw [if_pos rfl]
    exact h4
  exact ones_perm (ones_cons.1 h5) hp.symm
/-- the pile -/
def pil (v : Value) (gs : List Nat) : Asn := own 118 1 v gs.length (gs.map ptr)

set_option maxRecDepth 100000 in
theorem plen_at (w : World) (A : Option Addr) (n c : Nat) : Calls Try.prog 165 #[.slice A n c] w fun e w' => e = .returned (.int .i64 n) ∧ w' = w := by
  go_enter Try.func165, Try.ntmps165
  go_wp2_with (fail)
  go_ret
  exact ⟨rfl, rfl⟩
theorem pil_cell {w0 w : World} {l : List Asn} {A : Option Addr} {n c : Nat} {gs : List Nat} (h : St w0 w (pil (.slice A n c) gs :: l)) {i : Nat} (hi : i < gs.length) : ∃ t, A = some ⟨t, 0, none⟩ ∧ n = gs.length ∧ t < w.heap.size ∧ n ≤ c ∧ ∀ j (hj : j < gs.length), w.cell? ⟨t, j, none⟩ = some (ptr gs[j]) := by
  obtain ⟨A', c', e, hc, _⟩ := own_form h.own
  injection e with e1 e2 e3
  obtain ⟨b, o, e4, hb, hcc⟩ := (Sl.of_own (by rw [e2] at h; exact h.own)).2 (by omega)
  rcases h.own.2 with ⟨e5, _⟩ | ⟨t, cap, cur, e5, _⟩
  · injection e5 with e5; rw [e5] at e4; exact absurd e4 (by simp)
  · injection e5 with e5
    rw [e5] at e4
    injection e4 with e4
    injection e4 with e4 e6
    subst e4; subst e6
    refine ⟨t, e5, e2, hb, by omega, fun j hj => ?_⟩
    have := hcc j (ptr gs[j]) (by rw [List.getElem?_map, List.getElem?_eq_getElem hj]; rfl)
    simpa using this
set_option maxRecDepth 100000 in
set_option maxHeartbeats 8000000 in
theorem less_at {w0 w : World} {l : List Asn} {A : Option Addr} {n c : Nat} {gs : List Nat} {f : Nat → One} (h : St w0 w (pil (.slice A n c) gs :: ones gs f :: l)) {i k : Nat} (hi : i < gs.length) (hk : k < gs.length) :
    Calls Try.prog 166 #[.slice A n c, .int .i64 i, .int .i64 k] w fun e w' => e = .returned (.bool (ltb (f gs[i]) (f gs[k]))) ∧ St w0 w' (pil (.slice A n c) gs :: ones gs f :: l) := by
  obtain ⟨t, rfl, hn, lt, _, hc⟩ := pil_cell h hi
  have ci := hc i hi
  have ck := hc k hk
  have ri := ones_get (h.pick 1 rfl) (List.getElem_mem hi)
  have rk := ones_get (h.pick 1 rfl) (List.getElem_mem hk)
  generalize gs[i] = gi at *
  generalize gs[k] = gk at *
  obtain ⟨a0, a1, a2⟩ : w.cell? ⟨gi, 0, none⟩ = some (.int .i64 (f gi).name) ∧ w.cell? ⟨gi, 1, none⟩ = some (.int .i64 (f gi).tick) ∧ w.cell? ⟨gi, 2, none⟩ = some (.int .i64 (f gi).at_) := ⟨ri.cell 0, ri.cell 1, ri.cell 2⟩
  obtain ⟨b0, b1, b2⟩ : w.cell? ⟨gk, 0, none⟩ = some (.int .i64 (f gk).name) ∧ w.cell? ⟨gk, 1, none⟩ = some (.int .i64 (f gk).tick) ∧ w.cell? ⟨gk, 2, none⟩ = some (.int .i64 (f gk).at_) := ⟨rk.cell 0, rk.cell 1, rk.cell 2⟩
  have li := ri.lt
  have lk := rk.lt
  have H := Lib.hid h
  have HL := Lib.hid (show ltb (f gi) (f gk) = if (f gi).tick ≠ (f gk).tick then decide ((f gi).tick < (f gk).tick) else decide ((f gi).name < (f gk).name) from rfl)
  have hi' : (i : Int) < (n : Int) := by omega
  have hk' : (k : Int) < (n : Int) := by omega
  have hi0 : (0 : Int) ≤ (i : Int) := by omega
  have hk0 : (0 : Int) ≤ (k : Int) := by omega
  generalize f gi = oi at *
  generalize f gk = ok at *
  clear h hc hi hk ri rk hn
  go_enter Try.func166, Try.ntmps166
  by_cases ht : oi.tick = ok.tick
  · have bt : (oi.tick != ok.tick) = false := by simpa using ht
    have HE := Lib.hid (show ltb oi ok = decide (oi.name < ok.name) by rw [HL.out, if_neg (not_not_intro ht)])
    clear ht
    go_wp2_with (fail)
    go_quiet (fail)
    go_wp2_with (fail)
    go_quiet (fail)
    go_wp2_with (fail)
    go_ret
    exact ⟨ret_bool HE.out.symm, (H.out.drewN _).drewN _⟩
  · have bt : (oi.tick != ok.tick) = true := by simpa using ht
    have HE := Lib.hid (show ltb oi ok = decide (oi.tick < ok.tick) by rw [HL.out, if_pos ht])
    clear ht
    go_wp2_with (fail)
    go_quiet (fail)
    go_wp2_with (fail)
    go_quiet (fail)
    go_wp2_with (fail)
    go_ret
    exact ⟨ret_bool HE.out.symm, (H.out.drewN _).drewN _⟩
theorem own_row {w0 w : World} {l : List Asn} {e size z c : Nat} {A : Option Addr} {L : List Value} (h : St w0 w (sep.own e size (.slice A z c) z L :: l)) (hz : 0 < z) : ∃ (t : Nat) (xs : List Value), A = some ⟨t, 0, none⟩ ∧ z ≤ c ∧ xs.length = c * size ∧ xs.take (z * size) = L ∧ St w0 w (row t e xs :: l) := by
  obtain ⟨F, ⟨F1, F2, h1, h2, h3, h4⟩, k⟩ := h.sat
  obtain ⟨⟨_, hv⟩, hF⟩ := h1
  rcases hv with ⟨_, h0⟩ | ⟨t, cap, cur, hv, hb, hg, hnc, hcm, hcs, htk⟩
  · omega
  · injection hv with hA _ hc
    subst hA; subst hc
    refine ⟨t, cur.toList, rfl, hnc, by simpa using hcs, htk, h.bel, F, ⟨F1, F2, ⟨?_, fun i => ?_⟩, h2, h3, h4⟩, k⟩
    · unfold Row
      simpa using hg
    · rw [hF i]
      simp [Value.ownBlock, eq_comm]
def swp (gs : List Nat) (i k : Nat) : List Nat := (gs.set i (gs.getD k 0)).set k (gs.getD i 0)
def atd (f : Nat → One) (g : Nat) (i : Int) : Nat → One := upd f g ⟨(f g).name, (f g).tick, i⟩
set_option maxRecDepth 100000 in
set_option maxHeartbeats 8000000 in
theorem swap_at {w0 w : World} {l : List Asn} {A : Option Addr} {n c : Nat} {gs : List Nat} {f : Nat → One} (h : St w0 w (pil (.slice A n c) gs :: ones gs f :: l)) (hnd : gs.Nodup) {i k : Nat} (hi : i < gs.length) (hk : k < gs.length) (hik : i ≠ k) :
    Calls Try.prog 167 #[.slice A n c, .int .i64 i, .int .i64 k] w fun e w' => e = .returned (.tuple #[]) ∧ St w0 w' (pil (.slice A n c) (swp gs i k) :: ones (swp gs i k) (atd (atd f gs[k] i) gs[i] k) :: l) := by
  obtain ⟨_, _, e0, _, hcm0⟩ := own_form h.own
  obtain ⟨t, rfl, hn, lt, hnc, hc⟩ := pil_cell h hi
  have hcm : c ≤ maxLen := by injection e0 with _ _ e1; rw [e1]; exact hcm0
  clear e0 hcm0
  have ci := hc i hi
  have ck := hc k hk
  obtain ⟨gi, hgi⟩ : ∃ g, g = gs[i] := ⟨_, rfl⟩
  obtain ⟨gk, hgk⟩ : ∃ g, g = gs[k] := ⟨_, rfl⟩
  rw [← hgi] at ci ⊢
  rw [← hgk] at ck ⊢
  subst hn
  obtain ⟨t', xs, ht', _, hxl, hxt, h2⟩ := own_row h (by omega)
  injection ht' with ht'
  injection ht' with ht'
  subst ht'
  have fi := h2.row.1.frozen i
  have fk := h2.row.1.frozen k
  have hi' : (i : Int) < (gs.length : Int) := by omega
  have hk' : (k : Int) < (gs.length : Int) := by omega
  have hi0 : (0 : Int) ≤ (i : Int) := by omega
  have hk0 : (0 : Int) ≤ (k : Int) := by omega
  have hik' : (i = k) = False := eq_false hik
  have hki' : (k = i) = False := eq_false (Ne.symm hik)
  have hne : gi ≠ gk := by
    rw [hgi, hgk]
    intro e
    exact hik ((List.getElem_inj hnd).1 e)
  have hmi : gi ∈ gs := by rw [hgi]; exact List.getElem_mem hi
  have hmk : gk ∈ gs := by rw [hgk]; exact List.getElem_mem hk
  have HSW := Lib.hid (show swp gs i k = (gs.set i gk).set k gi by
    unfold swp
    rw [List.getD_eq_getElem?_getD, List.getElem?_eq_getElem hk, List.getD_eq_getElem?_getD, List.getElem?_eq_getElem hi, hgi, hgk]
    rfl)
  have HPM := Lib.hid (show (swp gs i k).Perm gs by
    rw [HSW.out, hgi, hgk]
    exact List.set_set_perm hi hk)
  have H3 := Lib.hid (((h2.set i (ptr gk)).set k (ptr gi)).drew)
  obtain ⟨w1, hw1⟩ : ∃ w1, w1 = ((w.setCell ⟨t, i, none⟩ (ptr gk)).setCell ⟨t, k, none⟩ (ptr gi)).drew := ⟨_, rfl⟩
  rw [← hw1] at H3
  have HW1 := Lib.hid hw1
  have HXL := Lib.hid hxl; have HXT := Lib.hid hxt
  have hil : i < xs.length := by omega
  have hkl : k < xs.length := by omega
  clear h h2 hc hgi hgk hw1 hxl hxt
  go_enter Try.func167, Try.ntmps167
  go_wp2_with (fail)
  go_region
  rw [← HW1.out]
  clear ci ck fi fk hik' hki' lt
  have ci : w1.cell? ⟨t, i, none⟩ = some (ptr gk) := by
    rw [H3.out.row.1.cell i, List.getElem?_set_ne (Ne.symm hik), List.getElem?_set_self hil]
  have ck : w1.cell? ⟨t, k, none⟩ = some (ptr gi) := by
    rw [H3.out.row.1.cell k, List.getElem?_set_self (by rw [List.length_set]; exact hkl)]
  have lt := H3.out.row.1.lt
  have ri := ones_get (H3.out.pick 1 rfl) hmi
  have rk := ones_get (H3.out.pick 1 rfl) hmk
  have ai : w1.cell? ⟨gi, 2, none⟩ = some (.int .i64 (f gi).at_) := ri.cell 2
  have ak : w1.cell? ⟨gk, 2, none⟩ = some (.int .i64 (f gk).at_) := rk.cell 2
  have fi := ri.frozen 2
  have fk := rk.frozen 2
  have li := ri.lt
  have lk := rk.lt
  have hne' : (gi = gk) = False := eq_false hne
  have hne2 : (gk = gi) = False := eq_false (Ne.symm hne)
  clear ri rk
  go_wp2_with (fail)
  go_region
  go_wp2_with (fail)
  go_end0
  refine ⟨rfl, ?_⟩
  have h4 := ones_set (H3.out.pick 1 rfl) hnd hmk 2 (.int .i64 i) ⟨(f gk).name, (f gk).tick, i⟩ rfl
  have h5 := (ones_set h4 hnd hmi 2 (.int .i64 k) ⟨(atd f gk i gi).name, (atd f gk i gi).tick, k⟩ rfl).drew
  have h6 := (ones_perm h5 HPM.out.symm).swap.new_row_own (size := 1) (n := gs.length) (cap := c) hnc hcm (by rw [List.length_set, List.length_set]; exact HXL.out)
  rw [List.take_set, List.take_set, HXT.out] at h6
  have h7 : ((gs.map ptr).set i (ptr gk)).set k (ptr gi) = (swp gs i k).map ptr := by rw [HSW.out, List.map_set, List.map_set]
  have h8 : (swp gs i k).length = gs.length := by rw [HSW.out, List.length_set, List.length_set]
  rw [h7] at h6
  unfold pil
  rw [h8]
  exact h6
end Go.Proofs.Ytooagoikiafgcaa.timer
