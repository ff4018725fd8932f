/-
  PROVED HERE: Go's container/heap on the pile: what Remove and Fix answer and leave.
  CONDITIONS: each lemma names its own.
-/
import Derived.Test.YtooagoikiafgcaaTimerPile
namespace Go.Proofs.Ytooagoikiafgcaa.timer
set_option linter.unusedVariables false
open Go.RowKit Go.Proofs.Ytooagoikiafgcaa.base Go.Proofs.Ytooagoikiafgcaa.obj Go.Proofs.Ytooagoikiafgcaa.mem Go.Proofs.Ytooagoikiafgcaa.sep Go.Proofs.Ytooagoikiafgcaa.plan

section
variable {w0 w : World} {T : Nat} {mv v : Value} {gs : List Nat} {f : Nat → One} {l : List Asn}
set_option maxRecDepth 100000 in
set_option maxHeartbeats 8000000 in
theorem hfix_at (h : PS w0 w T mv v gs f l) {i : Nat} (hi : i < gs.length) (hd : DnI (rk f) (ix gs) gs.length i false) (hsz : gs.length ≤ 100000) :
    Calls Try.prog 55 #[.iface 123 (ptr T), .int .i64 i] w fun e w' => e = .returned (.tuple #[]) ∧ ∃ gs' f', PS w0 w' T mv v gs' f' l ∧ Alk gs gs' f f' gs.length ∧ Heap (rk f') (ix gs') gs.length := by
  have H := Lib.hid h
  have hM := fun k => meth_len k w T v h.cell
  have HL := Lib.hid h.len
  have HDN := Lib.hid (down_at h (n := gs.length) (i0 := i) (Nat.le_refl _) (by omega) hd (by omega))
  obtain ⟨n, hn⟩ : ∃ n, n = gs.length := ⟨_, rfl⟩
  rw [← hn] at HL HDN hi hsz ⊢
  have HN := Lib.hid hn
  clear h hd hn
  go_enter Try.func55, Try.ntmps55
  go_wp2_with (fail)
  refine HL.out.mono ?_
  rintro e w1 ⟨rfl, rfl⟩
  clear hM
  go_wp2_with (fail)
  refine HDN.out.mono ?_
  intro e w2 hd
  rcases hd with ⟨gs2, f2, rfl, hp, ha, hh⟩ | ⟨gs2, f2, rfl, hp, ha, hu⟩
  · have HP := Lib.hid hp; have HA := Lib.hid ha; have HH := Lib.hid hh
    clear hp ha hh
    go_wp2_with (fail)
    go_end0
    exact ⟨rfl, gs2, f2, HP.out, HA.out, HH.out⟩
  · have HP := Lib.hid hp; have HA := Lib.hid ha; have HU := Lib.hid hu
    have HL2 := Lib.hid (show gs2.length = n by rw [ha.perm.length_eq]; exact HN.out.symm)
    clear hp ha hu
    go_wp2_with (fail)
    refine (up_at HP.out (n := n) (j := i) (by rw [HL2.out]; exact Nat.le_refl _) hi HU.out (by rw [HL2.out]; omega)).mono ?_
    rintro e w3 ⟨rfl, gs3, f3, hp3, ha3, hh3⟩
    have HP3 := Lib.hid hp3; have HA3 := Lib.hid ha3; have HH3 := Lib.hid hh3
    clear hp3 ha3 hh3
    go_wp2_with (fail)
    go_end0
    exact ⟨rfl, gs3, f3, HP3.out, HA.out.trans HA3.out, HH3.out⟩
set_option maxRecDepth 100000 in
set_option maxHeartbeats 8000000 in
theorem hremove_at (h : PS w0 w T mv v gs f l) (hh : Heap (rk f) (ix gs) gs.length) {n i : Nat} (hn : gs.length = n + 1) (hi : i ≤ n) (hsz : gs.length ≤ 100000) :
    Calls Try.prog 66 #[.iface 123 (ptr T), .int .i64 i] w fun e w' => e = .returned (.iface 118 (ptr (ix gs i))) ∧ ∃ v' gs' f', PS w0 w' T mv v' gs' f' (row (ix gs i) 121 (f' (ix gs i)).cells :: l) ∧ (ix gs i :: gs').Perm gs ∧ (∀ g, (f' g).name = (f g).name) ∧ (∀ g, (f' g).tick = (f g).tick) ∧ Heap (rk f') (ix gs') n := by
  have H := Lib.hid h; have HH := Lib.hid hh
  have hM := fun k => meth_len k w T v h.cell
  have HL := Lib.hid (show Calls Try.prog 165 #[v] w fun e w' => e = .returned (.int .i64 ((n : Int) + 1)) ∧ w' = w by
    have h := h.len
    rw [hn] at h
    exact h)
  have HN := Lib.hid hn
  have hnl : n ≤ 100000 := by omega
  -- the last one goes, whatever was done before
  have HPOP := Lib.hid (fun (w2 : World) (gs2 : List Nat) (f2 : Nat → One) (hp : PS w0 w2 T mv v gs2 f2 l) (h1 : gs2.Perm gs) (h2 : ∀ g, (f2 g).name = (f g).name) (h3 : ∀ g, (f2 g).tick = (f g).tick) (h4 : ix gs2 n = ix gs i) (h5 : Heap (rk f2) (ix gs2) n) =>
    show Calls Try.prog 168 #[ptr T] w2 fun e w' => e = .returned (.iface 118 (ptr (ix gs i))) ∧ ∃ v' gs' f', PS w0 w' T mv v' gs' f' (row (ix gs i) 121 (f' (ix gs i)).cells :: l) ∧ (ix gs i :: gs').Perm gs ∧ (∀ g, (f' g).name = (f g).name) ∧ (∀ g, (f' g).tick = (f g).tick) ∧ Heap (rk f') (ix gs') n by
      have hl2 : gs2.length = n + 1 := by rw [h1.length_eq]; exact HN.out
      refine (ppop_at hp hl2).mono fun e w' ⟨e1, v4, e2⟩ => ?_
      rw [h4] at e1 e2
      refine ⟨e1, v4, gs2.take n, f2, e2, ?_, h2, h3, fun c c0 cn => ?_⟩
      · have hnl2 : n < gs2.length := by omega
        have e6 : gs2 = gs2.take n ++ [ix gs i] := by
          have := List.take_succ_eq_append_getElem hnl2
          rw [← hl2, List.take_length] at this
          rw [← h4, ix_get hnl2]
          exact this
        have h1' : (gs2.take n ++ [ix gs i]).Perm (ix gs i :: gs2.take n) := List.perm_append_singleton _ _
        rw [← e6] at h1'
        exact h1'.symm.trans h1
      · have hx : ∀ x, x < n → ix (gs2.take n) x = ix gs2 x := fun x hx => by
          have : x < gs2.length := by omega
          rw [ix_get (by rw [List.length_take]; omega), ix_get this, List.getElem_take]
        rw [hx c cn, hx (par c) (by have := par_lt c0; omega)]
        exact h5 c c0 cn)
  by_cases hin : i = n
  · have hne : ((n : Int) != (i : Int)) = false := by simp; omega
    have HI := Lib.hid hin
    have hM2 := fun k => meth_pop k w T
    clear h hh hn hsz hin
    go_enter Try.func66, Try.ntmps66
    go_wp2_with (fail)
    refine HL.out.mono ?_
    rintro e w1 ⟨rfl, rfl⟩
    clear hM
    go_wp2_with (fail)
    refine (HPOP.out _ gs f H.out (List.Perm.refl _) (fun _ => rfl) (fun _ => rfl) (by rw [HI.out]) (fun c c0 cn => HH.out c c0 (by rw [HN.out]; omega))).mono ?_
    rintro e w2 ⟨rfl, h2⟩
    have H2 := Lib.hid h2
    clear h2
    go_wp2_with (fail)
    go_ret
    exact ⟨rfl, H2.out⟩
  · have hne : ((n : Int) != (i : Int)) = true := by simp; omega
    have hin' : i < n := by omega
    have hM2 := fun k => meth_swap k w T v h.cell
    have HSW := Lib.hid (h.swap (i := i) (k := n) (by omega) (by omega) hin)
    clear h hh hn hsz
    go_enter Try.func66, Try.ntmps66
    go_wp2_with (fail)
    refine HL.out.mono ?_
    rintro e w1 ⟨rfl, rfl⟩
    clear hM
    go_wp2_with (fail)
    refine HSW.out.mono ?_
    rintro e w2 ⟨rfl, f1, h2, h3⟩
    have hal := h3 (n + 1) (by omega) (by omega)
    have H2 := Lib.hid h2; have HA := Lib.hid hal
    have HL1 := Lib.hid (show (swp gs i n).length = n + 1 by rw [swp_length]; exact HN.out)
    have HD := Lib.hid (show DnI (rk f1) (ix (swp gs i n)) n i false by
      rw [hal.rk, ix_swp (by rw [HN.out]; omega) (by rw [HN.out]; omega)]
      refine DnI.of_turned (fun c c0 cn hc hpc => ?_) fun i0 c c0 cn hpc => ?_
      · have hp := par_lt c0
        rw [sw_3 _ hc (by omega), sw_3 _ hpc (by omega)]
        exact HH.out c c0 (by rw [HN.out]; omega)
      · have hp := par_lt c0
        have hp2 := par_lt i0
        rw [sw_3 _ (by omega) (by omega), sw_3 _ (by omega) (by omega)]
        have e1 := HH.out c c0 (by rw [HN.out]; omega)
        rw [hpc] at e1
        exact (rk_weak f).neg _ _ _ e1 (HH.out i i0 (by rw [HN.out]; omega)))
    have HIX := Lib.hid (show ix (swp gs i n) n = ix gs i by rw [ix_swp (by rw [HN.out]; omega) (by rw [HN.out]; omega), sw_2])
    clear h2 h3 hal hM2
    go_wp2_with (fail)
    refine (down_at H2.out (n := n) (i0 := i) (by rw [HL1.out]; omega) (by omega) HD.out (by rw [HL1.out]; omega)).mono ?_
    intro e w3 hd
    rcases hd with ⟨gs2, f2, rfl, hp, ha, hh⟩ | ⟨gs2, f2, rfl, hp, ha, hu⟩
    · have HP := Lib.hid hp; have HA2 := Lib.hid ha; have HHP := Lib.hid hh
      have hM := fun k => meth_pop k w3 T
      clear hp ha hh
      go_wp2_with (fail)
      refine (HPOP.out _ gs2 f2 HP.out (HA2.out.perm.trans HA.out.perm) (fun g => (HA2.out.name g).trans (HA.out.name g)) (fun g => (HA2.out.tick g).trans (HA.out.tick g)) (by rw [HA2.out.far n (Nat.le_refl _)]; exact HIX.out) HHP.out).mono ?_
      rintro e w4 ⟨rfl, h4⟩
      have H4 := Lib.hid h4
      clear h4
      go_wp2_with (fail)
      go_ret
      exact ⟨rfl, H4.out⟩
    · have HP := Lib.hid hp; have HA2 := Lib.hid ha; have HU := Lib.hid hu
      have HL2 := Lib.hid (show gs2.length = n + 1 by rw [ha.perm.length_eq]; exact HL1.out)
      clear hp ha hu
      go_wp2_with (fail)
      refine (up_at HP.out (n := n) (j := i) (by rw [HL2.out]; omega) hin' HU.out (by rw [HL2.out]; omega)).mono ?_
      rintro e w4 ⟨rfl, gs3, f3, hp3, ha3, hh3⟩
      have HP3 := Lib.hid hp3; have HA3 := Lib.hid ha3; have HH3 := Lib.hid hh3
      have hM := fun k => meth_pop k w4 T
      clear hp3 ha3 hh3
      go_wp2_with (fail)
      refine (HPOP.out _ gs3 f3 HP3.out (HA3.out.perm.trans (HA2.out.perm.trans HA.out.perm)) (fun g => (HA3.out.name g).trans ((HA2.out.name g).trans (HA.out.name g))) (fun g => (HA3.out.tick g).trans ((HA2.out.tick g).trans (HA.out.tick g))) (by rw [HA3.out.far n (Nat.le_refl _), HA2.out.far n (Nat.le_refl _)]; exact HIX.out) HH3.out).mono ?_
      rintro e w5 ⟨rfl, h5⟩
      have H5 := Lib.hid h5
      clear h5
      go_wp2_with (fail)
      go_ret
      exact ⟨rfl, H5.out⟩
end
end Go.Proofs.Ytooagoikiafgcaa.timer
