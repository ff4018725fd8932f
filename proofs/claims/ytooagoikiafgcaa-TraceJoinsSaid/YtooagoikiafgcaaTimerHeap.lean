/-
  PROVED HERE: Go's container/heap on the pile: what up and down answer and leave.
  CONDITIONS: each lemma names its own.
-/
import Derived.Test.YtooagoikiafgcaaTimerMath
namespace Go.Proofs.Ytooagoikiafgcaa.timer
set_option linter.unusedVariables false
open Go.RowKit Go.Proofs.Ytooagoikiafgcaa.base Go.Proofs.Ytooagoikiafgcaa.obj Go.Proofs.Ytooagoikiafgcaa.mem Go.Proofs.Ytooagoikiafgcaa.sep Go.Proofs.Ytooagoikiafgcaa.plan

theorem meth_less (n : Nat) (w : World) (T : Nat) (v : Value) (h : w.cell? ⟨T, 0, none⟩ = some v) : (method (n + 1) 123 (ptr T) "Less").run Try.prog w = .ok (166, v) w := by
  have e : (method (n + 1) 123 (ptr T) "Less").run Try.prog w = ((load ⟨T, 0, none⟩) >>= fun v => pure (166, v)).run Try.prog w := by kernel_rfl
  rw [e]
  simp [go_sem, h]
theorem meth_len (n : Nat) (w : World) (T : Nat) (v : Value) (h : w.cell? ⟨T, 0, none⟩ = some v) : (method (n + 1) 123 (ptr T) "Len").run Try.prog w = .ok (165, v) w := by
  have e : (method (n + 1) 123 (ptr T) "Len").run Try.prog w = ((load ⟨T, 0, none⟩) >>= fun v => pure (165, v)).run Try.prog w := by kernel_rfl
  rw [e]
  simp [go_sem, h]
theorem meth_swap (n : Nat) (w : World) (T : Nat) (v : Value) (h : w.cell? ⟨T, 0, none⟩ = some v) : (method (n + 1) 123 (ptr T) "Swap").run Try.prog w = .ok (167, v) w := by
  have e : (method (n + 1) 123 (ptr T) "Swap").run Try.prog w = ((load ⟨T, 0, none⟩) >>= fun v => pure (167, v)).run Try.prog w := by kernel_rfl
  rw [e]
  simp [go_sem, h]
theorem meth_push (n : Nat) (w : World) (T : Nat) : (method (n + 1) 123 (ptr T) "Push").run Try.prog w = .ok (169, ptr T) w := by kernel_rfl
theorem meth_pop (n : Nat) (w : World) (T : Nat) : (method (n + 1) 123 (ptr T) "Pop").run Try.prog w = .ok (168, ptr T) w := by kernel_rfl

def rk (f : Nat → One) : Nat → Nat → Bool := fun a b => ltb (f a) (f b)
theorem rk_weak (f : Nat → One) : Weak (rk f) := by
  constructor
  · intro a b h
    unfold rk ltb at *
    split at h <;> split <;> simp_all <;> omega
  · intro a b c h1 h2
    unfold rk ltb at *
    split at h1 <;> split at h2 <;> split <;> simp_all <;> omega
theorem atd_name (f : Nat → One) (g : Nat) (i : Int) (x : Nat) : (atd f g i x).name = (f x).name := by unfold atd upd; split <;> simp_all
theorem atd_tick (f : Nat → One) (g : Nat) (i : Int) (x : Nat) : (atd f g i x).tick = (f x).tick := by unfold atd upd; split <;> simp_all
def ix (gs : List Nat) : Nat → Nat := fun x => gs.getD x 0
theorem ix_get {gs : List Nat} {i : Nat} (h : i < gs.length) : ix gs i = gs[i] := by unfold ix; rw [List.getD_eq_getElem?_getD, List.getElem?_eq_getElem h]; rfl
theorem swp_length (gs : List Nat) (i k : Nat) : (swp gs i k).length = gs.length := by simp [swp]
theorem ix_swp {gs : List Nat} {i k : Nat} (hi : i < gs.length) (hk : k < gs.length) : ix (swp gs i k) = sw (ix gs) i k := by
  funext x
  unfold ix swp sw
  simp only [List.getD_eq_getElem?_getD, List.getElem?_set, List.length_set]
  by_cases h1 : x = k
  · subst h1
    rw [if_pos rfl, if_pos hk]
    by_cases h2 : x = i
    · subst h2; rw [if_pos rfl]; rfl
    · rw [if_neg h2, if_pos rfl]; rfl
  · rw [if_neg (Ne.symm h1)]
    by_cases h2 : x = i
    · subst h2; rw [if_pos rfl, if_pos hi, if_pos rfl]; rfl
    · rw [if_neg (Ne.symm h2), if_neg h2, if_neg h1]
structure Alk (gs gs' : List Nat) (f f' : Nat → One) (n : Nat) : Prop where
  perm : gs'.Perm gs
  name : ∀ g, (f' g).name = (f g).name
  tick : ∀ g, (f' g).tick = (f g).tick
  far : ∀ x, n ≤ x → ix gs' x = ix gs x
theorem Alk.refl (gs : List Nat) (f : Nat → One) (n : Nat) : Alk gs gs f f n := ⟨List.Perm.refl _, fun _ => rfl, fun _ => rfl, fun _ _ => rfl⟩
theorem Alk.trans {gs gs' gs2 : List Nat} {f f' f2 : Nat → One} {n : Nat} (h : Alk gs gs' f f' n) (k : Alk gs' gs2 f' f2 n) : Alk gs gs2 f f2 n :=
  ⟨k.perm.trans h.perm, fun g => (k.name g).trans (h.name g), fun g => (k.tick g).trans (h.tick g), fun x hx => (k.far x hx).trans (h.far x hx)⟩
theorem Alk.rk {gs gs' : List Nat} {f f' : Nat → One} {n : Nat} (h : Alk gs gs' f f' n) : timer.rk f' = timer.rk f := by
  funext a b
  unfold timer.rk ltb
  rw [h.tick, h.tick, h.name, h.name]
structure PS (w0 w : World) (T : Nat) (mv v : Value) (gs : List Nat) (f : Nat → One) (l : List Asn) : Prop where
  st : St w0 w (row T 117 [v, mv] :: pil v gs :: ones gs f :: l)
  nd : gs.Nodup
  at_ : ∀ i (h : i < gs.length), (f gs[i]).at_ = i
section
variable {w0 w : World} {T : Nat} {mv v : Value} {gs : List Nat} {f : Nat → One} {l : List Asn}
theorem PS.form (h : PS w0 w T mv v gs f l) : ∃ A c, v = .slice A gs.length c := by
  obtain ⟨A, c, e, _⟩ := own_form (h.st.pick 1 rfl).own
  exact ⟨A, c, e⟩
theorem PS.cell (h : PS w0 w T mv v gs f l) : w.cell? ⟨T, 0, none⟩ = some v := h.st.row.1.cell 0
theorem PS.less (h : PS w0 w T mv v gs f l) {i k : Nat} (hi : i < gs.length) (hk : k < gs.length) :
    Calls Try.prog 166 #[v, .int .i64 i, .int .i64 k] w fun e w' => e = .returned (.bool (rk f (ix gs i) (ix gs k))) ∧ PS w0 w' T mv v gs f l := by
  obtain ⟨A, c, rfl⟩ := h.form
  rw [ix_get hi, ix_get hk]
  exact (less_at (h.st.pick 1 rfl |>.pick 2 rfl |>.swap) hi hk).mono fun e w' ⟨h1, h2⟩ => ⟨h1, ⟨h2.pick 2 rfl, h.nd, h.at_⟩⟩
theorem PS.len (h : PS w0 w T mv v gs f l) : Calls Try.prog 165 #[v] w fun e w' => e = .returned (.int .i64 gs.length) ∧ w' = w := by
  obtain ⟨A, c, rfl⟩ := h.form
  exact plen_at w A _ c
theorem PS.swap (h : PS w0 w T mv v gs f l) {i k : Nat} (hi : i < gs.length) (hk : k < gs.length) (hik : i ≠ k) :
    Calls Try.prog 167 #[v, .int .i64 i, .int .i64 k] w fun e w' => e = .returned (.tuple #[]) ∧ ∃ f', PS w0 w' T mv v (swp gs i k) f' l ∧ ∀ n, i < n → k < n → Alk gs (swp gs i k) f f' n := by
  obtain ⟨A, c, rfl⟩ := h.form
  have hp : (swp gs i k).Perm gs := by
    unfold swp
    rw [List.getD_eq_getElem?_getD, List.getElem?_eq_getElem hk, List.getD_eq_getElem?_getD, List.getElem?_eq_getElem hi]
    exact List.set_set_perm hi hk
  refine (swap_at (h.st.pick 1 rfl |>.pick 2 rfl |>.swap) h.nd hi hk hik).mono fun e w' ⟨h1, h2⟩ => ⟨h1, _, ⟨h2.pick 2 rfl, hp.nodup_iff.2 h.nd, fun x hx => ?_⟩, fun n hin hkn => ⟨hp, fun g => by rw [atd_name, atd_name], fun g => by rw [atd_tick, atd_tick], fun x hx => ?_⟩⟩
  · rw [← ix_get hx, ix_swp hi hk]
    have hx' : x < gs.length := by rw [swp_length] at hx; exact hx
    have hne : gs[i] ≠ gs[k] := fun e => hik ((List.getElem_inj h.nd).1 e)
    by_cases e1 : x = i
    · subst e1
      rw [sw_1, ix_get hk]
      unfold atd upd
      rw [if_neg (Ne.symm hne), if_pos rfl]
    · by_cases e2 : x = k
      · subst e2
        rw [sw_2, ix_get hi]
        unfold atd upd
        rw [if_pos rfl]
      · rw [sw_3 _ e1 e2, ix_get hx']
        have n1 : gs[x] ≠ gs[i] := fun e => e1 ((List.getElem_inj h.nd).1 e)
        have n2 : gs[x] ≠ gs[k] := fun e => e2 ((List.getElem_inj h.nd).1 e)
        unfold atd upd
        rw [if_neg n1, if_neg n2]
        exact h.at_ x hx'
  · rw [ix_swp hi hk, sw_3 _ (by omega) (by omega)]
end
set_option maxRecDepth 100000 in
set_option maxHeartbeats 8000000 in
theorem up_at {w0 w : World} {T : Nat} {mv v : Value} {gs : List Nat} {f : Nat → One} {l : List Asn} (h : PS w0 w T mv v gs f l) {n j : Nat} (hn : n ≤ gs.length) (hj : j < n) (hu : UpI (rk f) (ix gs) n j) (hsz : gs.length ≤ 1000000) :
    Calls Try.prog 93 #[.iface 123 (ptr T), .int .i64 j] w fun e w' => e = .returned (.tuple #[]) ∧ ∃ gs' f', PS w0 w' T mv v gs' f' l ∧ Alk gs gs' f f' n ∧ Heap (rk f') (ix gs') n := by
  have H := Lib.hid h; have HU := Lib.hid hu
  clear h hu
  go_enter Try.func93, Try.ntmps93
  go_wp2_with (fail)
  go_loopw [1] (fun i wr => ∃ (j : Nat) (gs' : List Nat) (f' : Nat → One), j < n ∧ i = .int .i64 j ∧ PS w0 wr T mv v gs' f' l ∧ Alk gs gs' f f' n ∧ UpI (rk f') (ix gs') n j) (fun i _ => (intOf i).toNat)
  case atStart => exact ⟨j, gs, f, hj, rfl, H.out, Alk.refl _ _ _, HU.out⟩
  case round =>
    obtain ⟨j, gs', f', hj', rfl, hps, halk, hui⟩ := hrel
    have HPS := Lib.hid hps; have HAL := Lib.hid halk; have HUI := Lib.hid hui
    have hn' : n ≤ gs'.length := by rw [halk.perm.length_eq]; exact hn
    have hM := fun k => meth_less k wr T v hps.cell
    clear hps halk hui H HU
    by_cases hj0 : j = 0
    · subst hj0
      go_wp2_with (fail)
      go_end0
      exact ⟨rfl, gs', f', HPS.out, HAL.out, HUI.out.stop (.inl rfl)⟩
    · obtain ⟨i, hi⟩ : ∃ i, i = par j := ⟨_, rfl⟩
      have hij : i < j := by rw [hi]; exact par_lt (Nat.pos_of_ne_zero hj0)
      have hq : ((j : Int) - 1) / 2 = (i : Int) := by rw [hi]; unfold par; omega
      have HI := Lib.hid hi
      have HLS := Lib.hid (HPS.out.less (i := j) (k := i) (by omega) (by omega))
      have hne : ((i : Int) == (j : Int)) = false := by simp; omega
      have hj1 : (0 : Int) < (j : Int) := by omega
      clear hi
      go_wp2_with (fail)
      refine HLS.out.mono ?_
      rintro e w2 ⟨rfl, h2⟩
      have H2 := Lib.hid h2
      clear hM
      have hM := fun k => meth_swap k w2 T v h2.cell
      clear h2
      cases hb : rk f' (ix gs' j) (ix gs' i) with
      | false =>
        have HB := Lib.hid hb
        clear hb
        go_wp2_with (fail)
        go_end0
        exact ⟨rfl, gs', f', H2.out, HAL.out, HUI.out.stop (.inr (by rw [← HI.out]; exact HB.out))⟩
      | true =>
        have HB := Lib.hid hb
        have HSW := Lib.hid (H2.out.swap (i := i) (k := j) (by omega) (by omega) (by omega))
        clear hb
        go_wp2_with (fail)
        refine HSW.out.mono ?_
        rintro e w3 ⟨rfl, f3, h3, hk3⟩
        have H3 := Lib.hid h3
        have hal := hk3 n (by omega) hj'
        have HK3 := Lib.hid hal
        clear h3 hk3 hM hal
        go_wp2_with (fail)
        go_roundw
        case rel => exact ⟨i, swp gs' i j, f3, by omega, rfl, H3.out, HAL.out.trans HK3.out, by
          have h := HUI.out.step (rk_weak f') (Nat.pos_of_ne_zero hj0) hj' (by rw [← HI.out]; exact HB.out)
          rw [← HI.out] at h
          rw [HK3.out.rk, ix_swp (by omega) (by omega)]
          exact h⟩
        case measure => simp [intOf] <;> omega
/-- what down leaves -/
inductive DOut (w0 : World) (T : Nat) (mv v : Value) (gs : List Nat) (f : Nat → One) (l : List Asn) (n i0 : Nat) (e : Ending) (w' : World) : Prop
  | moved (gs' : List Nat) (f' : Nat → One) (he : e = .returned (.bool true)) (hp : PS w0 w' T mv v gs' f' l) (ha : Alk gs gs' f f' n) (hh : Heap (rk f') (ix gs') n)
  | stays (gs' : List Nat) (f' : Nat → One) (he : e = .returned (.bool false)) (hp : PS w0 w' T mv v gs' f' l) (ha : Alk gs gs' f f' n) (hu : UpI (rk f') (ix gs') n i0)
set_option maxRecDepth 100000 in
set_option maxHeartbeats 8000000 in
theorem down_at {w0 w : World} {T : Nat} {mv0 v : Value} {gs : List Nat} {f : Nat → One} {l : List Asn} (h : PS w0 w T mv0 v gs f l) {n i0 : Nat} (hn : n ≤ gs.length) (hi0 : i0 ≤ n) (hu : DnI (rk f) (ix gs) n i0 false) (hsz : gs.length ≤ 1000000) :
    Calls Try.prog 92 #[.iface 123 (ptr T), .int .i64 i0, .int .i64 n] w fun e w' => DOut w0 T mv0 v gs f l n i0 e w' := by
  have H := Lib.hid h; have HU := Lib.hid hu
  clear h hu
  go_enter Try.func92, Try.ntmps92
  go_wp2_with (fail)
  go_loopw [7] (fun s wr => ∃ (i : Nat) (mv : Bool) (gs' : List Nat) (f' : Nat → One), i0 ≤ i ∧ (mv = true ↔ i0 < i) ∧ i ≤ n ∧ s = .int .i64 i ∧ PS w0 wr T mv0 v gs' f' l ∧ Alk gs gs' f f' n ∧ DnI (rk f') (ix gs') n i mv) (fun s _ => n - (intOf s).toNat)
  case atStart => exact ⟨i0, false, gs, f, by omega, ⟨fun h => absurd h (by decide), fun h => absurd h (by omega)⟩, hi0, rfl, H.out, Alk.refl _ _ _, HU.out⟩
  case round =>
    obtain ⟨i, mv, gs', f', hi, hm, hin, rfl, hps, halk, hdn⟩ := hrel
    have HP := Lib.hid hps; have HAL := Lib.hid halk; have HDN := Lib.hid hdn
    have hn' : n ≤ gs'.length := by rw [halk.perm.length_eq]; exact hn
    have hM := fun k => meth_less k wr T v hps.cell
    clear hps halk hdn H HU
    obtain ⟨j1, hj1⟩ : ∃ j1, j1 = 2 * i + 1 := ⟨_, rfl⟩
    obtain ⟨j2, hj2⟩ : ∃ j2, j2 = 2 * i + 2 := ⟨_, rfl⟩
    have c1 : (2 : Int) * (i : Int) + 1 = (j1 : Int) := by omega
    have c2 : (j1 : Int) + 1 = (j2 : Int) := by omega
    have o1 : i < j1 := by omega
    have o2 : j1 < j2 := by omega
    have HJ1 := Lib.hid hj1; have HJ2 := Lib.hid hj2
    have j10 : ¬ (j1 : Int) < 0 := by omega
    by_cases h1 : j1 < n
    · have h1' : ¬ (j1 : Int) ≥ (n : Int) := by omega
      by_cases h2 : j2 < n
      · have h2' : (j2 : Int) < (n : Int) := by omega
        have HLS := Lib.hid (HP.out.less (i := j2) (k := j1) (by omega) (by omega))
        clear hj1 hj2
        go_wp2_with (fail)
        refine HLS.out.mono ?_
        rintro e w3 ⟨rfl, h3⟩
        have HP2 := Lib.hid h3
        clear hM
        have hM := fun k => meth_less k w3 T v h3.cell
        clear h3
        cases hb : rk f' (ix gs' j2) (ix gs' j1) with
        | true =>
          have HMIN := Lib.hid (show ∀ c, 0 < c → c < n → par c = i → rk f' (ix gs' c) (ix gs' j2) = false by
            intro c c0 cn hc
            rcases kids c0 hc with e | e
            · rw [e, ← HJ1.out]; exact (rk_weak f').asym _ _ hb
            · rw [e, ← HJ2.out]; exact (rk_weak f').irr _)
          clear hb
          go_wp2_with (fail)
          refine (HP2.out.less (i := j2) (k := i) (by omega) (by omega)).mono ?_
          rintro e w4 ⟨rfl, h4⟩
          have H4 := Lib.hid h4
          clear hM
          have hM := fun k => meth_swap k w4 T v h4.cell
          clear h4
          cases hb2 : rk f' (ix gs' j2) (ix gs' i) with
          | false =>
            have HST := Lib.hid (HDN.out.stop fun c c0 cn hc => (rk_weak f').neg _ _ _ (HMIN.out c c0 cn hc) hb2)
            clear hb2
            cases hmv : mv with
            | true =>
              have him : i > i0 := hm.1 hmv
              have him' : (i : Int) > (i0 : Int) := by omega
              have HH := Lib.hid (HST.out.1 hmv)
              clear hmv
              go_wp2_with (fail)
              go_ret
              exact .moved gs' f' (by first | (simp; done) | (simp; omega)) H4.out HAL.out HH.out
            | false =>
              have him : i = i0 := by
                have : ¬ i0 < i := fun h => by rw [hm.2 h] at hmv; exact absurd hmv (by decide)
                omega
              have him' : ¬ (i : Int) > (i0 : Int) := by omega
              have HH := Lib.hid (show UpI (rk f') (ix gs') n i0 by rw [← him]; exact HST.out.2)
              clear hmv him
              go_wp2_with (fail)
              go_ret
              exact .stays gs' f' (by first | (simp; done) | (simp; omega)) H4.out HAL.out HH.out
          | true =>
            have HB := Lib.hid hb2
            have HSW := Lib.hid (H4.out.swap (i := i) (k := j2) (by omega) (by omega) (by omega))
            clear hb2
            go_wp2_with (fail)
            refine HSW.out.mono ?_
            rintro e w5 ⟨rfl, f5, h5, hk5⟩
            have H5 := Lib.hid h5
            have hal := hk5 n (by omega) (by omega)
            have HK5 := Lib.hid hal
            clear h5 hk5 hM hal
            go_wp2_with (fail)
            go_roundw
            case rel => exact ⟨j2, true, swp gs' i j2, f5, by omega, ⟨fun _ => by omega, fun _ => rfl⟩, by omega, by go_num, H5.out, HAL.out.trans HK5.out, by
              have h := HDN.out.step (rk_weak f') (j := j2) (by omega) (by omega) (by have := HJ1.out; have := HJ2.out; unfold par; omega) HMIN.out HB.out
              rw [HK5.out.rk, ix_swp (by omega) (by omega)]
              exact h⟩
            case measure => simp [intOf] <;> omega
        | false =>
          have HMIN := Lib.hid (show ∀ c, 0 < c → c < n → par c = i → rk f' (ix gs' c) (ix gs' j1) = false by
            intro c c0 cn hc
            rcases kids c0 hc with e | e
            · rw [e, ← HJ1.out]; exact (rk_weak f').irr _
            · rw [e, ← HJ2.out]; exact hb)
          clear hb
          go_wp2_with (fail)
          refine (HP2.out.less (i := j1) (k := i) (by omega) (by omega)).mono ?_
          rintro e w4 ⟨rfl, h4⟩
          have H4 := Lib.hid h4
          clear hM
          have hM := fun k => meth_swap k w4 T v h4.cell
          clear h4
          cases hb2 : rk f' (ix gs' j1) (ix gs' i) with
          | false =>
            have HST := Lib.hid (HDN.out.stop fun c c0 cn hc => (rk_weak f').neg _ _ _ (HMIN.out c c0 cn hc) hb2)
            clear hb2
            cases hmv : mv with
            | true =>
              have him : i > i0 := hm.1 hmv
              have him' : (i : Int) > (i0 : Int) := by omega
              have HH := Lib.hid (HST.out.1 hmv)
              clear hmv
              go_wp2_with (fail)
              go_ret
              exact .moved gs' f' (by first | (simp; done) | (simp; omega)) H4.out HAL.out HH.out
            | false =>
              have him : i = i0 := by
                have : ¬ i0 < i := fun h => by rw [hm.2 h] at hmv; exact absurd hmv (by decide)
                omega
              have him' : ¬ (i : Int) > (i0 : Int) := by omega
              have HH := Lib.hid (show UpI (rk f') (ix gs') n i0 by rw [← him]; exact HST.out.2)
              clear hmv him
              go_wp2_with (fail)
              go_ret
              exact .stays gs' f' (by first | (simp; done) | (simp; omega)) H4.out HAL.out HH.out
          | true =>
            have HB := Lib.hid hb2
            have HSW := Lib.hid (H4.out.swap (i := i) (k := j1) (by omega) (by omega) (by omega))
            clear hb2
            go_wp2_with (fail)
            refine HSW.out.mono ?_
            rintro e w5 ⟨rfl, f5, h5, hk5⟩
            have H5 := Lib.hid h5
            have hal := hk5 n (by omega) (by omega)
            have HK5 := Lib.hid hal
            clear h5 hk5 hM hal
            go_wp2_with (fail)
            go_roundw
            case rel => exact ⟨j1, true, swp gs' i j1, f5, by omega, ⟨fun _ => by omega, fun _ => rfl⟩, by omega, by go_num, H5.out, HAL.out.trans HK5.out, by
              have h := HDN.out.step (rk_weak f') (j := j1) (by omega) (by omega) (by have := HJ1.out; have := HJ2.out; unfold par; omega) HMIN.out HB.out
              rw [HK5.out.rk, ix_swp (by omega) (by omega)]
              exact h⟩
            case measure => simp [intOf] <;> omega
      · have h2' : ¬ (j2 : Int) < (n : Int) := by omega
        have HP2 := HP
        have HMIN := Lib.hid (show ∀ c, 0 < c → c < n → par c = i → rk f' (ix gs' c) (ix gs' j1) = false by
          intro c c0 cn hc
          rcases kids c0 hc with e | e
          · rw [e, ← HJ1.out]; exact (rk_weak f').irr _
          · omega)
        clear hj1 hj2
        go_wp2_with (fail)
        refine (HP2.out.less (i := j1) (k := i) (by omega) (by omega)).mono ?_
        rintro e w4 ⟨rfl, h4⟩
        have H4 := Lib.hid h4
        clear hM
        have hM := fun k => meth_swap k w4 T v h4.cell
        clear h4
        cases hb2 : rk f' (ix gs' j1) (ix gs' i) with
        | false =>
          have HST := Lib.hid (HDN.out.stop fun c c0 cn hc => (rk_weak f').neg _ _ _ (HMIN.out c c0 cn hc) hb2)
          clear hb2
          cases hmv : mv with
          | true =>
            have him : i > i0 := hm.1 hmv
            have him' : (i : Int) > (i0 : Int) := by omega
            have HH := Lib.hid (HST.out.1 hmv)
            clear hmv
            go_wp2_with (fail)
            go_ret
            exact .moved gs' f' (by first | (simp; done) | (simp; omega)) H4.out HAL.out HH.out
          | false =>
            have him : i = i0 := by
              have : ¬ i0 < i := fun h => by rw [hm.2 h] at hmv; exact absurd hmv (by decide)
              omega
            have him' : ¬ (i : Int) > (i0 : Int) := by omega
            have HH := Lib.hid (show UpI (rk f') (ix gs') n i0 by rw [← him]; exact HST.out.2)
            clear hmv him
            go_wp2_with (fail)
            go_ret
            exact .stays gs' f' (by first | (simp; done) | (simp; omega)) H4.out HAL.out HH.out
        | true =>
          have HB := Lib.hid hb2
          have HSW := Lib.hid (H4.out.swap (i := i) (k := j1) (by omega) (by omega) (by omega))
          clear hb2
          go_wp2_with (fail)
          refine HSW.out.mono ?_
          rintro e w5 ⟨rfl, f5, h5, hk5⟩
          have H5 := Lib.hid h5
          have hal := hk5 n (by omega) (by omega)
          have HK5 := Lib.hid hal
          clear h5 hk5 hM hal
          go_wp2_with (fail)
          go_roundw
          case rel => exact ⟨j1, true, swp gs' i j1, f5, by omega, ⟨fun _ => by omega, fun _ => rfl⟩, by omega, by go_num, H5.out, HAL.out.trans HK5.out, by
            have h := HDN.out.step (rk_weak f') (j := j1) (by omega) (by omega) (by have := HJ1.out; have := HJ2.out; unfold par; omega) HMIN.out HB.out
            rw [HK5.out.rk, ix_swp (by omega) (by omega)]
            exact h⟩
          case measure => simp [intOf] <;> omega
    · have h1' : (j1 : Int) ≥ (n : Int) := by omega
      have HST := Lib.hid (HDN.out.stop fun c c0 cn hc => by
        rcases kids c0 hc with e | e <;> omega)
      clear hj1 hj2
      cases hmv : mv with
      | true =>
        have him : i > i0 := hm.1 hmv
        have him' : (i : Int) > (i0 : Int) := by omega
        have HH := Lib.hid (HST.out.1 hmv)
        clear hmv
        go_wp2_with (fail)
        go_ret
        exact .moved gs' f' (by first | (simp; done) | (simp; omega)) HP.out HAL.out HH.out
      | false =>
        have him : i = i0 := by
          have : ¬ i0 < i := fun h => by rw [hm.2 h] at hmv; exact absurd hmv (by decide)
          omega
        have him' : ¬ (i : Int) > (i0 : Int) := by omega
        have HH := Lib.hid (show UpI (rk f') (ix gs') n i0 by rw [← him]; exact HST.out.2)
        clear hmv him
        go_wp2_with (fail)
        go_ret
        exact .stays gs' f' (by first | (simp; done) | (simp; omega)) HP.out HAL.out HH.out
end Go.Proofs.Ytooagoikiafgcaa.timer
