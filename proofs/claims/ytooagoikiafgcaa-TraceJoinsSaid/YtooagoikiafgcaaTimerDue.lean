/-
  PROVED HERE: what timers' Due answers and leaves.
  CONDITIONS: each lemma names its own.
-/
import Derived.Test.YtooagoikiafgcaaTimerOps
namespace Go.Proofs.Ytooagoikiafgcaa.timer
set_option linter.unusedVariables false
open Go.RowKit Go.WideShapes Go.Maps Go.Proofs.Ytooagoikiafgcaa.base Go.Proofs.Ytooagoikiafgcaa.obj Go.Proofs.Ytooagoikiafgcaa.mem Go.Proofs.Ytooagoikiafgcaa.sep Go.Proofs.Ytooagoikiafgcaa.plan

theorem infoI : (Try.prog.info? 3).map (fun i => (i.zero, i.size, i.bytes)) = some (some (.int .i64 0), 1, 8) := by kernel_rfl
theorem slI : SlT Try.prog 30 3 1 8 := by
  obtain ⟨i0, hi, hz0, hz1, hz2⟩ := info_parts infoI
  exact ⟨Try.underlying30, ⟨i0, _, hi, hz0, hz1, hz2, rfl⟩, by decide⟩
/-- names that are due, one by one, and what is left -/
inductive DueR (tick : Int) : List (Int × Int) → List Int → List (Int × Int) → Prop
  | stop (M : List (Int × Int)) (h : ∀ o, IsMin M o → tick < o.2) : DueR tick M [] M
  | step (o : Int × Int) (M : List (Int × Int)) (out : List Int) (M' : List (Int × Int)) (h : IsMin M o) (hle : o.2 ≤ tick) (r : DueR tick (stopM M o.1) out M') : DueR tick M (o.1 :: out) M'
inductive NX (M : List (Int × Int)) : Int → Bool → Prop
  | none (h : M = []) : NX M 0 false
  | some (o : Int × Int) (h : IsMin M o) : NX M o.2 true
structure DPre (tick : Int) (M : List (Int × Int)) (names : List Int) (M1 : List (Int × Int)) : Prop where
  go : ∀ out M', DueR tick M1 out M' → DueR tick M (names ++ out) M'
  len : names.length + M1.length = M.length
theorem IsMin.uniq {M : List (Int × Int)} {o o' : Int × Int} (h : IsMin M o) (h' : IsMin M o') : o = o' := by
  have h1 := h.2 o' h'.1
  have h2 := h'.2 o h.1
  unfold lessP at h1 h2
  obtain ⟨a, b⟩ := o
  obtain ⟨c, d⟩ := o'
  simp only at h1 h2
  split at h1
  · split at h2
    · simp at h1 h2; omega
    · omega
  · split at h2
    · omega
    · simp at h1 h2
      have e1 : a = c := by omega
      have e2 : b = d := by omega
      rw [e1, e2]
inductive DueOut (w0 : World) (T q : Nat) (M : List (Int × Int)) (l : List Asn) (tick : Int) (e : Ending) (w' : World) : Prop
  | mk (A : Option Addr) (c : Nat) (names : List Int) (M' : List (Int × Int)) (he : e = .returned (.slice A names.length c)) (hd : DueR tick M names M') (hs : TS w0 w' T q M' (own 3 1 (.slice A names.length c) names.length (names.map (.int .i64)) :: l))
def sLen : Value → Nat
  | .slice _ n _ => n
  | _ => 0
section
variable {w0 w : World} {T q : Nat} {M : List (Int × Int)} {l : List Asn}
theorem tnext_nx (h : TS w0 w T q M l) : Calls Try.prog 27 #[ptr T] w fun e w' => (∃ nx is, e = .returned (.tuple #[.int .i64 nx, .bool is]) ∧ NX M nx is) ∧ w' = w :=
  (tnext_at h).mono fun e w' ⟨h1, h2⟩ => ⟨by
    rcases h1 with ⟨h3, h4⟩ | ⟨o, h3, h4⟩
    · exact ⟨_, _, h4, .none h3⟩
    · exact ⟨_, _, h4, .some o h3⟩, h2⟩
set_option maxRecDepth 100000 in
set_option maxHeartbeats 8000000 in
theorem tdue_at (h : TS w0 w T q M l) (hq : q ≤ 1000) (tick : Int) : Calls Try.prog 16 #[ptr T, .int .i64 tick] w (DueOut w0 T q M l tick) := by
  have hml0 : M.length ≤ 1000 := by
    obtain ⟨v, gs, f, B, D, hx⟩ := h
    have h1 := hx.few
    have h2 := hx.mod.length_eq
    rw [List.length_map] at h2
    omega
  have H := Lib.hid h
  clear h
  go_enter Try.func16, Try.ntmps16
  go_wp2_with (fail)
  refine (tnext_nx H.out).mono ?_
  intro e w1 hb
  obtain ⟨⟨nx, is, rfl, hnx⟩, rfl⟩ := hb
  have HNX := Lib.hid hnx
  have HI0 := Lib.hid (show TS w0 w1 T q M (own 3 1 (.slice none 0 0) ([] : List Int).length (([] : List Int).map (.int .i64)) :: l) from H.out.side fun L hs => (hs.addOwn (Below.refl _ _) (show w1.ownsRow w1.heap.size 3 1 (.slice none 0 0) 0 [] from World.ownsRow_nil _ _ _ _)).perm List.perm_middle.symm)
  clear hnx H
  go_wp2_with (fail)
  go_loopw [5, 6, 7] (fun s5 s6 s7 wr => ∃ (M1 : List (Int × Int)) (names : List Int) (A : Option Addr) (c : Nat) (nx : Int) (is : Bool), s5 = .slice A names.length c ∧ s6 = .int .i64 nx ∧ s7 = .bool is ∧ NX M1 nx is ∧ DPre tick M names M1 ∧ TS w0 wr T q M1 (own 3 1 (.slice A names.length c) names.length (names.map (.int .i64)) :: l)) (fun s5 _ _ _ => M.length - sLen s5)
  case atStart => exact ⟨M, [], none, 0, nx, is, rfl, rfl, rfl, HNX.out, ⟨fun _ _ h => h, by simp⟩, HI0.out⟩
  case round =>
    obtain ⟨M1, names, A, c, nx, is, rfl, rfl, rfl, hnx, hpre, hts⟩ := hrel
    have HPRE := Lib.hid hpre; have HTS := Lib.hid hts
    clear hpre hts HI0 HNX
    cases hnx with
    | none h0 =>
      have HD := Lib.hid (show DueR tick M names M1 by
        have := HPRE.out.go [] M1 (.stop M1 fun o ho => by rw [h0] at ho; exact absurd ho.1 (by simp))
        rwa [List.append_nil] at this)
      clear h0
      go_wp2_with (fail)
      go_ret
      exact .mk _ _ names M1 rfl HD.out HTS.out
    | some o ho =>
      by_cases hle : o.2 ≤ tick
      · have HMN := Lib.hid ho
        obtain ⟨v, gs, f, B, D, hx⟩ := HTS.out
        have hg0 : 0 < gs.length := by
          rcases Nat.eq_zero_or_pos gs.length with e | e
          · have h1 := hx.mod.length_eq
            rw [List.length_map, e] at h1
            rw [List.eq_nil_of_length_eq_zero h1] at ho
            exact absurd ho.1 (by simp)
          · exact e
        obtain ⟨n, hnl⟩ : ∃ n, gs.length = n + 1 := ⟨gs.length - 1, by omega⟩
        have HX := Lib.hid hx; have HNL := Lib.hid hnl
        obtain ⟨g, hg⟩ : ∃ g, g = ix gs 0 := ⟨_, rfl⟩
        have HKV := Lib.hid (show o = kv f g by rw [hg]; exact ho.uniq (hx.first hg0))
        have hsz : gs.length ≤ 100000 := by have := hx.few; omega
        have HPOP := Lib.hid (hpop_at hx.ps hx.hp hnl hsz)
        rw [← hg] at HPOP
        have hM := assert_one g
        have HLE := Lib.hid hle
        clear hx ho hnl hg hg0
        go_wp2_with (fail)
        refine HPOP.out.mono ?_
        rintro e w2 ⟨rfl, v2, gs2, f2, hp2, ha2, hn2, ht2, hh2⟩
        have HP2 := Lib.hid hp2; have HA2 := Lib.hid ha2; have HN2 := Lib.hid hn2; have HT2 := Lib.hid ht2; have HH2 := Lib.hid hh2
        clear hp2 ha2 hn2 ht2 hh2
        go_wp2_with (fail)
        have hst : St w0 w2 (mapA B q D :: row T 117 [v2, .map (some B)] :: pil v2 gs2 :: ones gs2 f2 :: row g 121 (f2 g).cells :: own 3 1 (.slice A names.length c) names.length (names.map (.int .i64)) :: l) := HP2.out.st.pick 4 rfl
        have c1 : w2.cell? ⟨T, 1, none⟩ = some (.map (some B)) := HP2.out.st.row.1.cell 1
        have k0 : w2.cell? ⟨g, 0, none⟩ = some (.int .i64 (f2 g).name) := (hst.pick 4 rfl).row.1.cell 0
        have lT := HP2.out.st.row.1.lt
        have lg := (hst.pick 4 rfl).row.1.lt
        have hgm : g ∈ gs := HA2.out.mem_iff.1 (by simp)
        have hwf : (Lit.int .i64 (f2 g).name).wf = true := by rw [HN2.out]; exact HX.out.wf g hgm
        obtain ⟨w3, hdel, ho3, ht3⟩ := (mapA_own hst.drew).drop intKey Try.underlying113 (keyOf_int_mk Try.underlying3 hwf) 0
        have H3 := Lib.hid (mapA_turn hst.drew ht3 ho3)
        clear hst hgm hwf ho3 ht3 HPOP hM
        go_region
        clear c1 k0 lT lg hdel
        have k0 : w3.cell? ⟨g, 0, none⟩ = some (.int .i64 (f2 g).name) := (H3.out.pick 4 rfl).row.1.cell 0
        have H4 := Lib.hid (show St w0 (w3.alloc (.cells #[.int .i64 (f2 g).name] 3)) (own 3 1 (.slice A names.length c) names.length (names.map (.int .i64)) :: row w3.heap.size 3 [.int .i64 (f2 g).name] :: mapA B q (D.del (.int .i64 (f2 g).name)) :: row T 117 [v2, .map (some B)] :: pil v2 gs2 :: ones gs2 f2 :: row g 121 (f2 g).cells :: l) from (H3.out.new 3 #[.int .i64 (f2 g).name]).pick 6 rfl)
        have HSL := Lib.hid (show Sl (w3.alloc (.cells #[.int .i64 (f2 g).name] 3)) (w3.heap.size + 1) 1 (some ⟨w3.heap.size, 0, none⟩) 1 [.int .i64 (f2 g).name] from sl_new (n := 1) rfl)
        have hml : M1.length = gs.length := by rw [HX.out.mod.length_eq, List.length_map]
        have hnm : names.length ≤ 1000000 ∧ names.length + M1.length = M.length := by have := HPRE.out.len; omega
        obtain ⟨hnm1, hnm2⟩ := hnm
        have hpos : 0 < M1.length := by rw [hml, HNL.out]; omega
        have HO1 := Lib.hid (show o.1 = (f2 g).name by rw [HKV.out, HN2.out]; rfl)
        go_wp2_with (refine app_row slI rfl (.tmp 39) (.tmp 44) rfl H4.out.own rfl rfl HSL.out (by simp [Value.oneCell']) (by omega) (by omega) (by unfold maxLen; omega) (H4.out.bel.size) ?_; intro g3 cap w5 ho hg5 hor hlt4; have H5 := Lib.hid (H4.out.grown hg5 ho (fun x hx => by injection hx with hx; rw [← hx]; exact hor)); clear ho hg5 hor)
        have hp : gs.Perm (g :: gs2) := HA2.out.symm
        have hap := HX.out.apart hp
        have hlen : gs2.length = n := by have := hp.length_eq; rw [HNL.out] at this; simp at this; omega
        have HTS2 := Lib.hid (show TS w0 w5 T q (stopM M1 o.1) (own 3 1 (.slice (some ⟨g3, 0, none⟩) (names ++ [o.1]).length cap) (names ++ [o.1]).length ((names ++ [o.1]).map (.int .i64)) :: l) by
          refine ⟨v2, gs2, f2, B, D.del (.int .i64 (f2 g).name), ⟨?_, HP2.out.nd, HP2.out.at_⟩, by rw [hlen]; exact HH2.out, by have := HX.out.few; rw [HNL.out] at this; omega, ?_, fun a ha b hb e => ?_, fun a ha => ?_, ?_⟩
          · have h6 := H5.out
            rw [List.length_append, List.length_singleton, List.map_append, List.map_singleton, HO1.out]
            exact (((((h6.pick 6 rfl).drop.pick 1 rfl).drop.pick 1 rfl).pick 4 rfl).pick 4 rfl).pick 4 rfl
          · have h1 : MR (g :: gs2) f D := HX.out.mr.alk (fun x => hp.mem_iff.symm) fun x _ => rfl
            have h2 := h1.del hap
            rw [HN2.out]
            exact h2.alk (fun x => Iff.rfl) fun x _ => HN2.out x
          · rw [HN2.out, HN2.out] at e
            exact HX.out.dist a (hp.mem_iff.2 (List.mem_cons_of_mem _ ha)) b (hp.mem_iff.2 (List.mem_cons_of_mem _ hb)) e
          · rw [HN2.out]
            exact HX.out.wf a (hp.mem_iff.2 (List.mem_cons_of_mem _ ha))
          · have h1 := stopM_some HX.out.mod hp hap
            rw [kv_eq HN2.out HT2.out, HO1.out, HN2.out]
            exact h1)
        have HPRE2 := Lib.hid (show DPre tick M (names ++ [o.1]) (stopM M1 o.1) from ⟨fun out M' hd => by
          rw [List.append_assoc, List.singleton_append]
          exact HPRE.out.go _ _ (.step o M1 out M' HMN.out HLE.out hd), by
          have h1 := (stopM_some HX.out.mod hp hap).length_eq
          rw [List.length_map] at h1
          rw [HO1.out, HN2.out, h1, List.length_append, List.length_singleton]
          rw [HNL.out] at hml
          omega⟩)
        clear hp hap hlen k0
        refine (tnext_nx HTS2.out).mono ?_
        intro e w6 hb
        obtain ⟨⟨nx2, is2, rfl, hnx2⟩, rfl⟩ := hb
        have HNX2 := Lib.hid hnx2
        clear hnx2
        go_wp2_with (fail)
        go_roundw
        case rel => exact ⟨stopM M1 o.1, names ++ [o.1], some ⟨g3, 0, none⟩, cap, nx2, is2, by simp [HO1.out], rfl, rfl, HNX2.out, HPRE2.out, HTS2.out⟩
        case measure => simp [sLen]; omega
      · have HD := Lib.hid (show DueR tick M names M1 by
          have := HPRE.out.go [] M1 (.stop M1 fun o' ho' => by rw [ho'.uniq ho]; omega)
          rwa [List.append_nil] at this)
        clear ho
        go_wp2_with (fail)
        go_ret
        exact .mk _ _ names M1 rfl HD.out HTS.out
end
end Go.Proofs.Ytooagoikiafgcaa.timer
