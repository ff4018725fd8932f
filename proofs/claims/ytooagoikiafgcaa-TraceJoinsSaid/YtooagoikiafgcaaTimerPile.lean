/-
  PROVED HERE: Go's container/heap on the pile: what Push, Pop, Remove and Fix answer and leave.
  CONDITIONS: each lemma names its own.
-/
import Derived.Test.YtooagoikiafgcaaTimerHeap
import Derived.Deep.DeepCutAuto
import Derived.Deep.CutBlock
import Derived.Deep.RegionHeld3
import Derived.Deep.RegionLaw
import Derived.ArgAppend
import Derived.IntWalk
namespace Go.Proofs.Ytooagoikiafgcaa.timer
set_option linter.unusedVariables false
open Go.RowKit Go.Proofs.Ytooagoikiafgcaa.base Go.Proofs.Ytooagoikiafgcaa.obj Go.Proofs.Ytooagoikiafgcaa.mem Go.Proofs.Ytooagoikiafgcaa.sep Go.Proofs.Ytooagoikiafgcaa.plan

theorem infoPt : (Try.prog.info? 118).map (fun i => (i.zero, i.size, i.bytes)) = some (some (.pointer none), 1, 8) := by kernel_rfl
theorem slPt : SlT Try.prog 115 118 1 8 := by
  obtain ⟨i0, hi, hz0, hz1, hz2⟩ := info_parts infoPt
  exact ⟨Try.underlying115, ⟨i0, _, hi, hz0, hz1, hz2, rfl⟩, by decide⟩
set_option maxRecDepth 100000 in
theorem assert_one (g : Nat) (w : World) : (Instr.typeAssert (.iface 118 (ptr g)) 20 118 false).run Try.prog w = .ok (ptr g) w := by kernel_rfl
section
variable {w0 w : World} {T : Nat} {mv v : Value} {gs : List Nat} {f : Nat → One} {l : List Asn}
theorem PS.perm (h : PS w0 w T mv v gs f l) {l' : List Asn} (p : l.Perm l') : PS w0 w T mv v gs f l' := ⟨h.st.perm (((p.cons _).cons _).cons _), h.nd, h.at_⟩
theorem PS.not_mem {g : Nat} {t : TypeId} {xs : List Value} (h : PS w0 w T mv v gs f (row g t xs :: l)) : g ∉ gs := by
  intro hg
  obtain ⟨a, b, rfl⟩ := List.append_of_mem hg
  have h2 := (h.st.pick 2 rfl).unlst
  rw [List.map_append, List.map_cons, List.append_assoc, List.cons_append] at h2
  have h3 : St w0 w (row g 121 (f g).cells :: (((a.map fun g => row g 121 (f g).cells) ++ (b.map fun g => row g 121 (f g).cells)) ++ (row T 117 [v, mv] :: pil v (a ++ g :: b) :: row g t xs :: l))) := by
    refine h2.perm ?_
    rw [List.append_assoc]
    exact List.perm_middle
  have hm : row g t xs ∈ (((a.map fun g => row g 121 (f g).cells) ++ (b.map fun g => row g 121 (f g).cells)) ++ (row T 117 [v, mv] :: pil v (a ++ g :: b) :: row g t xs :: l)) := by simp
  obtain ⟨x, y, e⟩ := List.append_of_mem hm
  rw [e] at h3
  exact ((h3.perm (List.Perm.cons _ List.perm_middle)).ne) rfl
set_option maxRecDepth 100000 in
set_option maxHeartbeats 8000000 in
theorem ppush_at {g : Nat} {nm tk z : Int} (h : PS w0 w T mv v gs f (row g 121 [.int .i64 nm, .int .i64 tk, .int .i64 z] :: l)) (hsz : gs.length ≤ 1000000) :
    Calls Try.prog 169 #[ptr T, .iface 118 (ptr g)] w fun e w' => e = .returned (.tuple #[]) ∧ ∃ v', PS w0 w' T mv v' (gs ++ [g]) (upd f g ⟨nm, tk, gs.length⟩) l := by
  have hng := h.not_mem
  obtain ⟨A, c, rfl⟩ := h.form
  have H := Lib.hid h
  have ct := h.cell
  have r3 := (h.st.pick 3 rfl).row.1
  have cg : w.cell? ⟨g, 2, none⟩ = some (.int .i64 z) := r3.cell 2
  have fg := r3.frozen 2
  have lg := r3.lt
  have lT := h.st.row.1.lt
  obtain ⟨n, hn⟩ : ∃ n, n = gs.length := ⟨_, rfl⟩
  have HNL := Lib.hid hn
  rw [← hn] at ct hsz
  obtain ⟨w1, hw1⟩ : ∃ w1, w1 = w.setCell ⟨g, 2, none⟩ (.int .i64 n) := ⟨_, rfl⟩
  have H1 := Lib.hid (show St w0 w1 (row g 121 [.int .i64 nm, .int .i64 tk, .int .i64 n] :: row T 117 [.slice A n c, mv] :: pil (.slice A n c) gs :: ones gs f :: l) by rw [hw1, hn]; exact (h.st.pick 3 rfl).set 2 _)
  have HW1 := Lib.hid hw1
  clear h r3 hw1 hn
  go_enter Try.func169, Try.ntmps169
  have hta := assert_one g
  go_upto_region 2 with fail
  rw [← HW1.out]
  clear ct cg fg lg lT
  have ct := H1.out.pick 1 rfl |>.row.1.cell 0
  have ft := H1.out.pick 1 rfl |>.row.1.frozen 0
  have lT := H1.out.pick 1 rfl |>.row.1.lt
  simp only [List.getElem?_cons_zero] at ct
  have HSL := Lib.hid (show Sl (w1.alloc (.cells #[ptr g] 118)) (w1.heap.size + 1) 1 (some ⟨w1.heap.size, 0, none⟩) 1 [ptr g] from sl_new (n := 1) rfl)
  have H2 := Lib.hid (show St w0 (w1.alloc (.cells #[ptr g] 118)) (own 118 1 (.slice A n c) n (gs.map ptr) :: row w1.heap.size 118 [ptr g] :: row g 121 [.int .i64 nm, .int .i64 tk, .int .i64 n] :: row T 117 [.slice A n c, mv] :: ones gs f :: l) by
    have h2 := (H1.out.new 118 #[ptr g]).pick 3 rfl
    unfold pil at h2
    rw [← HNL.out] at h2
    exact h2)
  go_wp2_with (refine app_row slPt rfl (.tmp 17) (.tmp 19) rfl H2.out.own rfl rfl HSL.out (by simp [Value.oneCell']) (by omega) (by omega) (by unfold maxLen; omega) (H2.out.bel.size) ?_; intro g2 cap w5 ho hg5 hor hlt4; have H5 := Lib.hid (H2.out.grown hg5 ho (fun x hx => by injection hx with hx; rw [← hx]; exact hor)); clear ho hg5 hor; clear ct ft lT; have ct := (H5.out.pick 3 rfl).row.1.cell 0; have ft := (H5.out.pick 3 rfl).row.1.frozen 0; have lT := (H5.out.pick 3 rfl).row.1.lt; simp only [List.getElem?_cons_zero] at ct)
  go_end0
  refine ⟨rfl, .slice (some ⟨g2, 0, none⟩) (n + 1) cap, ?_, ?_, ?_⟩
  · have h6 := ((H5.out.pick 3 rfl).set 0 (.slice (some ⟨g2, 0, none⟩) (n + 1) cap))
    have h7 := (h6.pick 2 rfl).drop
    have h8 := ones_congr (f' := upd f g ⟨nm, tk, gs.length⟩) ((h7.pick 2 rfl).pick 3 rfl) fun x hx => by unfold upd; rw [if_neg (fun e => hng (by rw [← e]; exact hx))]
    have h9 : St w0 (w5.setCell ⟨T, 0, none⟩ (.slice (some ⟨g2, 0, none⟩) (n + 1) cap)) (row g 121 (upd f g ⟨nm, tk, gs.length⟩ g).cells :: ones gs (upd f g ⟨nm, tk, gs.length⟩) :: row T 117 [.slice (some ⟨g2, 0, none⟩) (n + 1) cap, mv] :: own 118 1 (.slice (some ⟨g2, 0, none⟩) (n + 1) cap) (n + 1) (gs.map ptr ++ [ptr g]) :: l) := by
      rw [show upd f g ⟨nm, tk, gs.length⟩ g = ⟨nm, tk, gs.length⟩ by simp [upd], ← HNL.out]
      rw [← HNL.out] at h8
      exact h8.swap
    have h10 := (((ones_perm (ones_cons.1 h9) (List.perm_append_singleton g gs).symm).pick 1 rfl).pick 2 rfl).swap
    unfold pil
    rw [List.length_append, List.length_singleton, List.map_append, List.map_singleton, ← HNL.out]
    rw [← HNL.out] at h10
    exact h10
  · rw [List.nodup_append]
    exact ⟨H.out.nd, by simp, fun a ha b hb => by simp at hb; rw [hb]; exact fun e => hng (by rw [← e]; exact ha)⟩
  · intro i hi
    by_cases e : i < gs.length
    · rw [List.getElem_append_left e]
      unfold upd
      rw [if_neg (fun x => hng (by rw [← x]; exact List.getElem_mem e))]
      exact H.out.at_ i e
    · have : i = gs.length := by simp at hi; omega
      subst this
      rw [List.getElem_append_right (Nat.le_refl _)]
      unfold upd
      simp
set_option maxRecDepth 100000 in
set_option maxHeartbeats 8000000 in
theorem ppop_at (h : PS w0 w T mv v gs f l) {n : Nat} (hn : gs.length = n + 1) :
    Calls Try.prog 168 #[ptr T] w fun e w' => e = .returned (.iface 118 (ptr (ix gs n))) ∧ ∃ v', PS w0 w' T mv v' (gs.take n) f (row (ix gs n) 121 (f (ix gs n)).cells :: l) := by
  obtain ⟨A, c, rfl⟩ := h.form
  obtain ⟨_, _, e0, _, hcm⟩ := own_form (h.st.pick 1 rfl).own
  injection e0 with e1 e2 e3
  rw [← e3] at hcm
  clear e1 e2 e3
  obtain ⟨t, rfl, _, lt, hnc, hc⟩ := pil_cell (h.st.pick 1 rfl) (i := n) (by omega)
  have cn := hc n (by omega)
  rw [← ix_get] at cn
  have H := Lib.hid h
  have ct := h.cell
  have fT := h.st.row.1.frozen 0
  have lT := h.st.row.1.lt
  obtain ⟨g, hg⟩ : ∃ g, g = ix gs n := ⟨_, rfl⟩
  rw [← hg] at cn ⊢
  have HG := Lib.hid hg; have HN := Lib.hid hn
  rw [hn] at ct hnc
  have hn0 : (0 : Int) ≤ (n : Int) := by omega
  have hnm : n ≤ 9223372036854775806 := by unfold maxLen at hcm; omega
  clear h hc hg hn
  go_enter Try.func168, Try.ntmps168
  go_wp2_with (fail)
  go_ret
  refine ⟨rfl, .slice (some ⟨t, 0, none⟩) n c, ?_, ?_, ?_⟩
  · obtain ⟨t2, xs, e2, _, hxl, hxt, h2⟩ := own_row (show St w0 w (own 118 1 (.slice (some ⟨t, 0, none⟩) gs.length c) gs.length (gs.map ptr) :: _) from H.out.st.pick 1 rfl) (by have := HN.out; omega)
    injection e2 with e2
    injection e2 with e2
    subst e2
    have h3 := (h2.pick 1 rfl).set 0 (.slice (some ⟨t, 0, none⟩) n c)
    have h4 := (h3.pick 1 rfl).new_row_own (size := 1) (n := n) (cap := c) (by omega) hcm hxl
    have e5 : xs.take (n * 1) = (gs.take n).map ptr := by
      have := congrArg (List.take n) hxt
      rw [List.take_take, Nat.min_eq_left (by have := HN.out; omega)] at this
      rw [Nat.mul_one, this, List.map_take]
    rw [e5] at h4
    have hnl : n < gs.length := by have := HN.out; omega
    have hgg : g = gs[n] := by rw [HG.out, ix_get hnl]
    have hp : gs.Perm (g :: gs.take n) := by
      have e6 : gs = gs.take n ++ [g] := by
        have := List.take_succ_eq_append_getElem hnl
        rw [← HN.out, List.take_length] at this
        rw [hgg]
        exact this
      have : (gs.take n ++ [g]).Perm (g :: gs.take n) := List.perm_append_singleton _ _
      rw [← e6] at this
      exact this
    have h5 := ones_cons.2 (ones_perm (h4.pick 2 rfl) hp)
    have h6 := ((h5.pick 1 rfl).pick 2 rfl).pick 3 rfl
    unfold pil
    rw [List.length_take, Nat.min_eq_left (by omega)]
    exact h6
  · exact H.out.nd.sublist (List.take_sublist _ _)
  · intro i hi
    rw [List.getElem_take]
    exact H.out.at_ i _
set_option maxRecDepth 100000 in
set_option maxHeartbeats 8000000 in
theorem PS.swap_self (h : PS w0 w T mv v gs f l) {i : Nat} (hi : i < gs.length) :
    Calls Try.prog 167 #[v, .int .i64 i, .int .i64 i] w fun e w' => e = .returned (.tuple #[]) ∧ PS w0 w' T mv v gs f l := by
  obtain ⟨A, c, rfl⟩ := h.form
  obtain ⟨_, _, e0, _, hcm⟩ := own_form (h.st.pick 1 rfl).own
  injection e0 with e1 e2 e3
  rw [← e3] at hcm
  clear e1 e2 e3
  have hps : St w0 w (pil (.slice A gs.length c) gs :: ones gs f :: row T 117 [.slice A gs.length c, mv] :: l) := h.st.pick 1 rfl |>.pick 2 rfl |>.swap
  obtain ⟨t, rfl, _, lt, hnc, hc⟩ := pil_cell hps hi
  have ci := hc i hi
  obtain ⟨gi, hgi⟩ : ∃ g, g = gs[i] := ⟨_, rfl⟩
  rw [← hgi] at ci
  obtain ⟨t', xs, ht', _, hxl, hxt, h2⟩ := own_row hps (by omega)
  injection ht' with ht'
  injection ht' with ht'
  subst ht'
  have fi := h2.row.1.frozen i
  have hi' : (i : Int) < (gs.length : Int) := by omega
  have hi0 : (0 : Int) ≤ (i : Int) := by omega
  have hil : i < xs.length := by omega
  have hxi : xs.set i (ptr gi) = xs := by
    have e : xs[i] = ptr gi := by
      have e2 : (xs.take (gs.length * 1))[i]? = (gs.map ptr)[i]? := by rw [hxt]
      rw [List.getElem?_take, if_pos (by omega), List.getElem?_eq_getElem hil, List.getElem?_map, List.getElem?_eq_getElem hi] at e2
      injection e2 with e2
      rw [e2, hgi]
    rw [← e]
    exact List.set_getElem_self hil
  have hmi : gi ∈ gs := by rw [hgi]; exact List.getElem_mem hi
  have H3 := Lib.hid (show St w0 (((w.setCell ⟨t, i, none⟩ (ptr gi)).setCell ⟨t, i, none⟩ (ptr gi)).drew) (row t 118 xs :: ones gs f :: row T 117 [.slice (some ⟨t, 0, none⟩) gs.length c, mv] :: l) by
    have h3 := ((h2.set i (ptr gi)).set i (ptr gi)).drew
    rw [hxi, hxi] at h3
    exact h3)
  obtain ⟨w1, hw1⟩ : ∃ w1, w1 = ((w.setCell ⟨t, i, none⟩ (ptr gi)).setCell ⟨t, i, none⟩ (ptr gi)).drew := ⟨_, rfl⟩
  rw [← hw1] at H3
  have HW1 := Lib.hid hw1
  have HXL := Lib.hid hxl; have HXT := Lib.hid hxt
  have HA := Lib.hid (show (f gi).at_ = i by rw [hgi]; exact h.at_ i hi)
  have HND := Lib.hid h.nd; have HAT := Lib.hid h.at_
  have cx := H3.out.row.1.cell i
  rw [List.getElem?_eq_getElem hil] at cx
  have hxe : xs[i] = ptr gi := by
    have := congrArg (fun z => z[i]?) hxi
    simp only [List.getElem?_set_self hil] at this
    rw [List.getElem?_eq_getElem hil] at this
    injection this with this
    exact this.symm
  rw [hxe] at cx
  clear h h2 hc hgi hw1 hxl hxt hps hxi hxe
  go_enter Try.func167, Try.ntmps167
  go_wp2_with (fail)
  go_region
  rw [← HW1.out]
  clear ci fi lt
  have lt := H3.out.row.1.lt
  have ri := ones_get (H3.out.pick 1 rfl) hmi
  have ai : w1.cell? ⟨gi, 2, none⟩ = some (.int .i64 (f gi).at_) := ri.cell 2
  have fi := ri.frozen 2
  have li := ri.lt
  clear ri
  go_wp2_with (fail)
  go_region
  go_wp2_with (fail)
  go_end0
  have h4 := ones_set (H3.out.pick 1 rfl) HND.out hmi 2 (.int .i64 i) ⟨(f gi).name, (f gi).tick, i⟩ rfl
  have h5 := (ones_set h4 HND.out hmi 2 (.int .i64 i) ⟨(atd f gi i gi).name, (atd f gi i gi).tick, i⟩ rfl).drew
  have h6 := (ones_congr (f' := f) h5 fun x hx => by
    unfold atd upd
    split
    · rename_i e
      subst e
      simp only [if_true]
      rw [← HA.out]
    · rfl).swap.new_row_own (size := 1) (n := gs.length) (cap := c) hnc hcm HXL.out
  rw [HXT.out] at h6
  exact ⟨rfl, h6.pick 2 rfl, HND.out, HAT.out⟩
/-! ### container/heap -/
set_option maxRecDepth 100000 in
set_option maxHeartbeats 8000000 in
theorem hpush_at {g : Nat} {nm tk z : Int} (h : PS w0 w T mv v gs f (row g 121 [.int .i64 nm, .int .i64 tk, .int .i64 z] :: l)) (hh : Heap (rk f) (ix gs) gs.length) (hsz : gs.length ≤ 100000) :
    Calls Try.prog 56 #[.iface 123 (ptr T), .iface 118 (ptr g)] w fun e w' => e = .returned (.tuple #[]) ∧ ∃ v' gs' f', PS w0 w' T mv v' gs' f' l ∧ Alk (gs ++ [g]) gs' (upd f g ⟨nm, tk, gs.length⟩) f' (gs.length + 1) ∧ Heap (rk f') (ix gs') (gs.length + 1) := by
  have hng := h.not_mem
  have H := Lib.hid h; have HH := Lib.hid hh
  have hM := fun k => meth_push k w T
  clear h hh
  go_enter Try.func56, Try.ntmps56
  go_wp2_with (fail)
  refine (ppush_at H.out (by omega)).mono ?_
  rintro e w1 ⟨rfl, v1, h1⟩
  have H1 := Lib.hid h1
  clear hM
  have hM := fun k => meth_len k w1 T v1 h1.cell
  obtain ⟨n, hn⟩ : ∃ n, n = gs.length := ⟨_, rfl⟩
  have HN := Lib.hid hn
  have HL1 := Lib.hid (show Calls Try.prog 165 #[v1] w1 fun e w' => e = .returned (.int .i64 ((n : Int) + 1)) ∧ w' = w1 by
    have h := h1.len
    rw [List.length_append, List.length_singleton, ← hn] at h
    exact h)
  have HU := Lib.hid (show UpI (rk (upd f g ⟨nm, tk, gs.length⟩)) (ix (gs ++ [g])) (n + 1) n by
    have hix : ∀ x, x < n → ix (gs ++ [g]) x = ix gs x := fun x hx => by
      rw [ix_get (by simp; omega), ix_get (by omega), List.getElem_append_left (by omega)]
    have hrk : ∀ x y, x < n → y < n → rk (upd f g ⟨nm, tk, gs.length⟩) (ix gs x) (ix gs y) = rk f (ix gs x) (ix gs y) := fun x y hx hy => by
      have h1 : ix gs x ∈ gs := by rw [ix_get (by omega)]; exact List.getElem_mem _
      have h2 : ix gs y ∈ gs := by rw [ix_get (by omega)]; exact List.getElem_mem _
      unfold rk upd
      rw [if_neg (fun e => hng (by rw [← e]; exact h1)), if_neg (fun e => hng (by rw [← e]; exact h2))]
    refine ⟨fun c c0 cn hc => ?_, fun n0 c c0 cn hc => by have := par_lt c0; omega⟩
    have hp := par_lt c0
    rw [hix c (by omega), hix (par c) (by omega), hrk _ _ (by omega) (by omega)]
    exact HH.out c c0 (by omega))
  clear h1 hn
  have hnl : n ≤ 100000 := by rw [HN.out]; exact hsz
  clear hsz
  go_wp2_with (fail)
  refine HL1.out.mono ?_
  rintro e w2 ⟨rfl, rfl⟩
  clear hM
  go_wp2_with (fail)
  refine (up_at H1.out (n := n + 1) (j := n) (by rw [List.length_append, List.length_singleton, ← HN.out]; exact Nat.le_refl _) (by omega) HU.out (by rw [List.length_append, List.length_singleton, ← HN.out]; omega)).mono ?_
  rintro e w3 ⟨rfl, gs', f', h3, h4, h5⟩
  have H3 := Lib.hid h3; have H4 := Lib.hid h4; have H5 := Lib.hid h5
  clear h3 h4 h5
  go_wp2_with (fail)
  go_end0
  rw [← HN.out]
  exact ⟨rfl, v1, gs', f', H3.out, by have h := H4.out; rw [← HN.out] at h; exact h, H5.out⟩
set_option maxRecDepth 100000 in
set_option maxHeartbeats 8000000 in
theorem hpop_at (h : PS w0 w T mv v gs f l) (hh : Heap (rk f) (ix gs) gs.length) {n : Nat} (hn : gs.length = n + 1) (hsz : gs.length ≤ 100000) :
    Calls Try.prog 57 #[.iface 123 (ptr T)] w fun e w' => e = .returned (.iface 118 (ptr (ix gs 0))) ∧ ∃ v' gs' f', PS w0 w' T mv v' gs' f' (row (ix gs 0) 121 (f' (ix gs 0)).cells :: l) ∧ (ix gs 0 :: gs').Perm gs ∧ (∀ g, (f' g).name = (f g).name) ∧ (∀ g, (f' g).tick = (f g).tick) ∧ Heap (rk f') (ix gs') n := by
  have H := Lib.hid h; have HH := Lib.hid hh
  have hM := fun k => meth_len k w T v h.cell
  have HL := Lib.hid (show Calls Try.prog 165 #[v] w fun e w' => e = .returned (.int .i64 ((n : Int) + 1)) ∧ w' = w by
    have h := h.len
    rw [hn] at h
    exact h)
  have hM2 := fun k => meth_swap k w T v h.cell
  have HN := Lib.hid hn
  have hnl : n ≤ 100000 := by omega
  -- the exchange of the first and the last
  have HSW := Lib.hid (show Calls Try.prog 167 #[v, .int .i64 0, .int .i64 n] w fun e w' => e = .returned (.tuple #[]) ∧ ∃ gs1 f1, PS w0 w' T mv v gs1 f1 l ∧ gs1.Perm gs ∧ (∀ g, (f1 g).name = (f g).name) ∧ (∀ g, (f1 g).tick = (f g).tick) ∧ ix gs1 n = ix gs 0 ∧ DnI (rk f1) (ix gs1) n 0 false by
    by_cases n0 : n = 0
    · subst n0
      exact (h.swap_self (i := 0) (by omega)).mono fun e w' ⟨h1, h2⟩ => ⟨h1, gs, f, h2, List.Perm.refl _, fun _ => rfl, fun _ => rfl, rfl, ⟨fun c c0 cn => absurd cn (by omega), fun h => absurd h (by omega)⟩⟩
    · refine (h.swap (i := 0) (k := n) (by omega) (by omega) (by omega)).mono fun e w' ⟨h1, f1, h2, h3⟩ => ⟨h1, _, f1, h2, (h3 (n + 1) (by omega) (by omega)).perm, (h3 (n + 1) (by omega) (by omega)).name, (h3 (n + 1) (by omega) (by omega)).tick, ?_, ?_⟩
      · rw [ix_swp (by omega) (by omega), sw_2]
      · refine ⟨fun c c0 cn hc _ => ?_, fun h => absurd h (by omega)⟩
        have hp := par_lt c0
        rw [(h3 (n + 1) (by omega) (by omega)).rk, ix_swp (by omega) (by omega), sw_3 _ (by omega) (by omega), sw_3 _ (by omega) (by omega)]
        exact HH.out c c0 (by omega))
  clear h hh hn hsz
  go_enter Try.func57, Try.ntmps57
  go_wp2_with (fail)
  refine HL.out.mono ?_
  rintro e w1 ⟨rfl, rfl⟩
  clear hM
  go_wp2_with (fail)
  refine HSW.out.mono ?_
  rintro e w2 ⟨rfl, gs1, f1, h2, h3, h4, h5, h6, h7⟩
  have H2 := Lib.hid h2; have H3 := Lib.hid h3; have H4 := Lib.hid h4; have H5 := Lib.hid h5; have H6 := Lib.hid h6; have H7 := Lib.hid h7
  have hl1 : gs1.length = n + 1 := by rw [h3.length_eq]; exact HN.out
  have HL1 := Lib.hid hl1
  clear h2 h3 h4 h5 h6 h7 hM2 hl1
  go_wp2_with (fail)
  refine (down_at H2.out (n := n) (i0 := 0) (by rw [HL1.out]; omega) (by omega) H7.out (by rw [HL1.out]; omega)).mono ?_
  intro e w3 hd
  have hd' : ∃ b gs2 f2, e = .returned (.bool b) ∧ PS w0 w3 T mv v gs2 f2 l ∧ Alk gs1 gs2 f1 f2 n ∧ Heap (rk f2) (ix gs2) n := by
    rcases hd with ⟨gs2, f2, he, hp, ha, hh⟩ | ⟨gs2, f2, he, hp, ha, hu⟩
    · exact ⟨_, gs2, f2, he, hp, ha, hh⟩
    · exact ⟨_, gs2, f2, he, hp, ha, hu.stop (.inl rfl)⟩
  obtain ⟨b, gs2, f2, rfl, hp, ha, hh⟩ := hd'
  have HP := Lib.hid hp; have HA := Lib.hid ha; have HHP := Lib.hid hh
  have hM := fun k => meth_pop k w3 T
  have HL2 := Lib.hid (show gs2.length = n + 1 by rw [ha.perm.length_eq]; exact HL1.out)
  clear hd hp ha hh
  go_wp2_with (fail)
  have he : ix gs2 n = ix gs 0 := by rw [HA.out.far n (Nat.le_refl _), H6.out]
  have HE := Lib.hid he
  clear he
  refine (ppop_at HP.out HL2.out).mono ?_
  rintro e w4 ⟨rfl, v4, h4⟩
  rw [HE.out] at h4
  have H8 := Lib.hid h4
  clear h4 hM
  go_wp2_with (fail)
  go_ret
  rw [HE.out]
  refine ⟨rfl, v4, gs2.take n, f2, H8.out, ?_, fun g => (HA.out.name g).trans (H4.out g), fun g => (HA.out.tick g).trans (H5.out g), fun c c0 cn => ?_⟩
  · have hnl2 : n < gs2.length := by rw [HL2.out]; omega
    have e6 : gs2 = gs2.take n ++ [ix gs 0] := by
      have := List.take_succ_eq_append_getElem hnl2
      rw [← HL2.out, List.take_length] at this
      rw [← HE.out, ix_get hnl2]
      exact this
    have h1 : (gs2.take n ++ [ix gs 0]).Perm (ix gs 0 :: gs2.take n) := List.perm_append_singleton _ _
    rw [← e6] at h1
    exact h1.symm.trans (HA.out.perm.trans H3.out)
  · have hx : ∀ x, x < n → ix (gs2.take n) x = ix gs2 x := fun x hx => by
      have : x < gs2.length := by rw [HL2.out]; omega
      rw [ix_get (by rw [List.length_take]; omega), ix_get this, List.getElem_take]
    rw [hx c cn, hx (par c) (by have := par_lt c0; omega)]
    exact HHP.out c c0 cn
end
end Go.Proofs.Ytooagoikiafgcaa.timer
