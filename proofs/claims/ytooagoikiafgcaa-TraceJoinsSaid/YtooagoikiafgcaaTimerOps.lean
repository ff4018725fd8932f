/-
  PROVED HERE: what timers' Set and Stop answer and leave.
  CONDITIONS: each lemma names its own.
-/
import Derived.Test.YtooagoikiafgcaaTimerMap
namespace Go.Proofs.Ytooagoikiafgcaa.timer
set_option linter.unusedVariables false
open Go.RowKit Go.WideShapes Go.Maps Go.Proofs.Ytooagoikiafgcaa.base Go.Proofs.Ytooagoikiafgcaa.obj Go.Proofs.Ytooagoikiafgcaa.mem Go.Proofs.Ytooagoikiafgcaa.sep Go.Proofs.Ytooagoikiafgcaa.plan

def stopM (M : List (Int × Int)) (nm : Int) : List (Int × Int) := M.filter fun x => decide (x.1 ≠ nm)
def setM (M : List (Int × Int)) (nm tk : Int) : List (Int × Int) := (nm, tk) :: stopM M nm
theorem stopM_none {M : List (Int × Int)} {nm : Int} (h : ∀ x ∈ M, x.1 ≠ nm) : stopM M nm = M := List.filter_eq_self.2 fun x hx => decide_eq_true (h x hx)
theorem stopM_some {M : List (Int × Int)} {gs : List Nat} {f : Nat → One} (hm : M.Perm (gs.map (kv f))) {g : Nat} {rest : List Nat} (hp : gs.Perm (g :: rest)) (hd : ∀ x ∈ rest, (f x).name ≠ (f g).name) : (stopM M (f g).name).Perm (rest.map (kv f)) := by
  have h1 : (stopM M (f g).name).Perm (stopM ((g :: rest).map (kv f)) (f g).name) := ((hm.trans (hp.map _)).filter _)
  have h2 : stopM ((g :: rest).map (kv f)) (f g).name = rest.map (kv f) := by
    unfold stopM
    rw [List.map_cons, List.filter_cons]
    have : decide ((kv f g).1 ≠ (f g).name) = false := by simp [kv]
    rw [this]
    exact List.filter_eq_self.2 fun x hx => by
      obtain ⟨y, hy, rfl⟩ := List.mem_map.1 hx
      exact decide_eq_true (hd y hy)
  rwa [h2] at h1
theorem kv_eq {f f' : Nat → One} (hn : ∀ g, (f' g).name = (f g).name) (ht : ∀ g, (f' g).tick = (f g).tick) : kv f' = kv f := by
  funext g
  unfold kv
  rw [hn, ht]
section
variable {w0 w : World} {T q : Nat} {M : List (Int × Int)} {l : List Asn}
theorem TX.apart {v : Value} {gs : List Nat} {f : Nat → One} {B : Nat} {D : DataW Unit} (h : TX w0 w T q M l v gs f B D) {g : Nat} {rest : List Nat} (hp : gs.Perm (g :: rest)) : ∀ x ∈ rest, (f x).name ≠ (f g).name := by
  intro x hx e
  have hg : g ∈ gs := hp.mem_iff.2 (by simp)
  have hxg : x ∈ gs := hp.mem_iff.2 (List.mem_cons_of_mem _ hx)
  have := h.dist x hxg g hg e
  rw [this] at hx
  exact (List.nodup_cons.1 (hp.nodup_iff.1 h.ps.nd)).1 hx
theorem PS.mapMono {v mv : Value} {gs : List Nat} {f : Nat → One} {B k k' : Nat} {D : DataW Unit} (h : PS w0 w T mv v gs f (mapA B k D :: l)) (hk : k ≤ k') : PS w0 w T mv v gs f (mapA B k' D :: l) := by
  refine ⟨?_, h.nd, h.at_⟩
  have h2 := (h.st.pick 3 rfl).conv (Q := mapA B k' D) fun w F ⟨h1, h2⟩ => ⟨h1.mono hk, h2⟩
  exact ((h2.pick 3 rfl).pick 3 rfl).pick 3 rfl
set_option maxRecDepth 100000 in
set_option maxHeartbeats 8000000 in
theorem tset_at (h : TS w0 w T q M l) (hq : q ≤ 1000) (nm tk : Int) (hw : (Lit.int .i64 nm).wf = true) : Calls Try.prog 15 #[ptr T, .int .i64 nm, .int .i64 tk] w fun e w' => e = .returned (.tuple #[]) ∧ TS w0 w' T (q + 1) (setM M nm tk) l := by
  obtain ⟨v, gs, f, B, D, h⟩ := h
  have c1 : w.cell? ⟨T, 1, none⟩ = some (.map (some B)) := h.ps.st.row.1.cell 1
  rcases h.look hw with ⟨g, hg, hn, hrun⟩ | ⟨hno, u, hrun⟩
  · have hr := ones_get (h.ps.st.pick 2 rfl) hg
    obtain ⟨i, hi, hgi⟩ := List.getElem_of_mem hg
    have hat : (f g).at_ = i := by rw [← hgi]; exact h.ps.at_ i hi
    have k1 : w.cell? ⟨g, 1, none⟩ = some (.int .i64 (f g).tick) := hr.cell 1
    have fr1 := hr.frozen 1
    have lg := hr.lt
    obtain ⟨f1, hf1⟩ : ∃ f1, f1 = upd f g ⟨(f g).name, tk, (f g).at_⟩ := ⟨_, rfl⟩
    obtain ⟨w1, hw1⟩ : ∃ w1, w1 = w.setCell ⟨g, 1, none⟩ (.int .i64 tk) := ⟨_, rfl⟩
    have hs1 := ones_set (h.ps.st.pick 2 rfl) h.ps.nd hg 1 (.int .i64 tk) ⟨(f g).name, tk, (f g).at_⟩ rfl
    rw [← hf1, ← hw1] at hs1
    have hf1n : ∀ x, (f1 x).name = (f x).name := fun x => by rw [hf1]; unfold upd; split <;> simp_all
    have hf1a : ∀ x, (f1 x).at_ = (f x).at_ := fun x => by rw [hf1]; unfold upd; split <;> simp_all
    have hf1o : ∀ x, x ≠ g → f1 x = f x := fun x hx => by rw [hf1]; unfold upd; rw [if_neg hx]
    have hf1g : (f1 g).tick = tk := by rw [hf1]; simp [upd]
    have HPS := Lib.hid (show PS w0 w1 T (.map (some B)) v gs f1 (mapA B q D :: l) from ⟨((hs1.pick 1 rfl).pick 2 rfl).swap, h.ps.nd, fun i hi => by rw [hf1a]; exact h.ps.at_ i hi⟩)
    have HD := Lib.hid (show DnI (rk f1) (ix gs) gs.length i false by
      have ne : ∀ c, c < gs.length → c ≠ i → ix gs c ≠ g := fun c hc hci e => by
        rw [ix_get hc, ← hgi] at e
        exact hci ((List.getElem_inj h.ps.nd).1 e)
      refine DnI.of_turned (fun c c0 cn hc hpc => ?_) fun i0 c c0 cn hpc => ?_
      · have hp := par_lt c0
        have := h.hp c c0 cn
        unfold rk at this ⊢
        rw [hf1o _ (ne c cn hc), hf1o _ (ne (par c) (by omega) hpc)]
        exact this
      · have hp := par_lt c0
        have hp2 := par_lt i0
        have e1 := h.hp c c0 cn
        rw [hpc] at e1
        have e2 := (rk_weak f).neg _ _ _ e1 (h.hp i i0 hi)
        unfold rk at e2 ⊢
        rw [hf1o _ (ne c cn (by omega)), hf1o _ (ne (par i) (by omega) (by omega))]
        exact e2)
    have HX := Lib.hid h
    have HFN := Lib.hid hf1n; have HFO := Lib.hid hf1o; have HFG := Lib.hid hf1g; have HFA := Lib.hid ((hf1a g).trans hat); have HNM := Lib.hid hn; have HG := Lib.hid hg
    have HW1 := Lib.hid hw1
    have hsz : gs.length ≤ 100000 := by have := h.few; omega
    clear h hr hw1 hs1 hf1 hf1n hf1a hf1o hf1g hn hg hgi hw hat
    go_enter Try.func15, Try.ntmps15
    go_upto_region 4 with fail
    rw [← HW1.out]
    have hr := ones_get (HPS.out.st.pick 2 rfl) HG.out
    have k2 : w1.cell? ⟨g, 2, none⟩ = some (.int .i64 i) := by
      have h2 : w1.cell? ⟨g, 2, none⟩ = some (.int .i64 (f1 g).at_) := hr.cell 2
      rw [HFA.out] at h2
      exact h2
    have HPD := Lib.hid (show PS w0 w1.drew T (.map (some B)) v gs f1 (mapA B q D :: l) from ⟨HPS.out.st.drew, HPS.out.nd, HPS.out.at_⟩)
    clear hr k1 fr1 lg c1 hrun
    go_region_law (go_simp; (with_reducible refine (hfix_at HPD.out hi HD.out hsz).mono ?_); rintro e w2 ⟨rfl, gs2, f2, hp2, ha2, hh2⟩; have HP2 := Lib.hid hp2; have HA2 := Lib.hid ha2; have HH2 := Lib.hid hh2; clear hp2 ha2 hh2; dsimp only)
    all_goals
      go_wp2_with (fail)
      refine bodyPost_ret (results_none rfl _ _ _) rfl ?_
      refine ⟨rfl, v, gs2, f2, B, D, HP2.out.mapMono (Nat.le_succ q), by rw [HA2.out.perm.length_eq]; exact HH2.out, by rw [HA2.out.perm.length_eq]; have := HX.out.few; omega, HX.out.mr.alk (fun x => HA2.out.perm.mem_iff) (fun x _ => (HA2.out.name x).trans (HFN.out x)), fun a ha b hb e => ?_, fun a ha => ?_, ?_⟩
      · rw [HA2.out.name, HA2.out.name, HFN.out, HFN.out] at e
        exact HX.out.dist a (HA2.out.perm.mem_iff.1 ha) b (HA2.out.perm.mem_iff.1 hb) e
      · rw [HA2.out.name, HFN.out]
        exact HX.out.wf a (HA2.out.perm.mem_iff.1 ha)
      · have hp := List.perm_cons_erase HG.out
        have h1 := stopM_some HX.out.mod hp (HX.out.apart hp)
        rw [HNM.out] at h1
        have h2 : (gs2.map (kv f2)).Perm ((g :: gs.erase g).map (kv f2)) := (HA2.out.perm.trans hp).map _
        refine List.Perm.trans ?_ h2.symm
        have hng : g ∉ gs.erase g := (List.nodup_cons.1 (hp.nodup_iff.1 HX.out.ps.nd)).1
        have e1 : kv f2 g = (nm, tk) := by
          unfold kv
          rw [HA2.out.name, HA2.out.tick, HFN.out, HFG.out, HNM.out]
        have e2 : (gs.erase g).map (kv f2) = (gs.erase g).map (kv f) := List.map_congr_left fun x hx => by
          unfold kv
          rw [HA2.out.name, HA2.out.tick, HFO.out x (fun e => hng (by have h9 := hx; rw [e] at h9; exact h9))]
        rw [List.map_cons, e1, e2]
        exact h1.cons _
  · obtain ⟨g, hgw⟩ : ∃ g, g = w.heap.size := ⟨_, rfl⟩
    obtain ⟨w1, hw1⟩ : ∃ w1, w1 = w.alloc (.cells #[.int .i64 nm, .int .i64 tk, .int .i64 0] 121) := ⟨_, rfl⟩
    have h1 := h.ps.st.new 121 #[.int .i64 nm, .int .i64 tk, .int .i64 0]
    rw [← hw1, ← hgw] at h1
    obtain ⟨w2, hst, ho2, ht2⟩ := (mapA_own (h1.pick 4 rfl)).store intKey Try.underlying113 (by unfold maxLen; omega) (keyOf_int_mk Try.underlying3 hw) (pR_ptr g)
    have h2 := mapA_turn (h1.pick 4 rfl) ht2 ho2
    have HPS := Lib.hid (show PS w0 w2 T (.map (some B)) v gs f (row g 121 [.int .i64 nm, .int .i64 tk, .int .i64 0] :: mapA B (q + 1) (D.put (.int .i64 nm) (.lit (.int .i64 ((g : Int) + 1)))) :: l) from ⟨(((h2.pick 1 rfl).pick 4 rfl).pick 4 rfl).pick 4 rfl, h.ps.nd, h.ps.at_⟩)
    have HX := Lib.hid h; have HNO := Lib.hid hno; have HW := Lib.hid hw
    have HW1 := Lib.hid hw1; have HGW := Lib.hid hgw
    have c2 : w1.cell? ⟨T, 1, none⟩ = some (.map (some B)) := (h1.pick 1 rfl).row.1.cell 1
    have lT := (h1.pick 1 rfl).row.1.lt
    have hsz : gs.length ≤ 100000 := by have := h.few; omega
    clear h h1 h2 hno hw hw1 hgw ho2 ht2
    go_enter Try.func15, Try.ntmps15
    go_upto_region 6 with fail
    rw [← HW1.out, ← HGW.out]
    go_wp2_with (fail)
    refine (hpush_at HPS.out HX.out.hp hsz).mono ?_
    rintro e w3 ⟨rfl, v3, gs3, f3, h3, ha3, hh3⟩
    have H3 := Lib.hid h3; have HA3 := Lib.hid ha3; have HH3 := Lib.hid hh3
    clear h3 ha3 hh3
    go_wp2_with (fail)
    go_end0
    have hng : g ∉ gs := HPS.out.not_mem
    have hu : ∀ x ∈ gs, upd f g ⟨nm, tk, gs.length⟩ x = f x := fun x hx => by unfold upd; rw [if_neg (fun e => hng (by rw [← e]; exact hx))]
    have hug : upd f g ⟨nm, tk, gs.length⟩ g = ⟨nm, tk, gs.length⟩ := by simp [upd]
    have hmem : ∀ x, x ∈ gs3 ↔ x ∈ g :: gs := fun x => by rw [HA3.out.perm.mem_iff]; simp [or_comm]
    have hname : ∀ x ∈ g :: gs, (f3 x).name = if x = g then nm else (f x).name := fun x hx => by
      rw [HA3.out.name]
      by_cases e : x = g
      · rw [if_pos e, e, hug]
      · rw [if_neg e, hu x ((List.mem_cons.1 hx).resolve_left e)]
    have hlen : gs3.length = gs.length + 1 := by rw [HA3.out.perm.length_eq]; simp
    refine ⟨rfl, v3, gs3, f3, B, D.put (.int .i64 nm) (.lit (.int .i64 ((g : Int) + 1))), H3.out, by rw [hlen]; exact HH3.out, by have := HX.out.few; omega, ?_, fun a ha b hb e => ?_, fun a ha => ?_, ?_⟩
    · have hm : MR gs (upd f g ⟨nm, tk, gs.length⟩) D := HX.out.mr.alk (fun x => Iff.rfl) fun x hx => by rw [hu x hx]
      have h1 := hm.put (mapA_own (HX.out.ps.st.pick 3 rfl)).isMap (g := g) fun x hx => by
        rw [hu x hx, hug]
        exact HNO.out x hx
      rw [hug] at h1
      exact h1.alk hmem fun x _ => HA3.out.name x
    · have ha' := (hmem a).1 ha
      have hb' := (hmem b).1 hb
      rw [hname a ha', hname b hb'] at e
      by_cases ea : a = g
      · by_cases eb : b = g
        · rw [ea, eb]
        · rw [if_pos ea, if_neg eb] at e
          exact absurd e.symm (HNO.out b ((List.mem_cons.1 hb').resolve_left eb))
      · by_cases eb : b = g
        · rw [if_neg ea, if_pos eb] at e
          exact absurd e (HNO.out a ((List.mem_cons.1 ha').resolve_left ea))
        · rw [if_neg ea, if_neg eb] at e
          exact HX.out.dist a ((List.mem_cons.1 ha').resolve_left ea) b ((List.mem_cons.1 hb').resolve_left eb) e
    · have ha' := (hmem a).1 ha
      rw [hname a ha']
      by_cases ea : a = g
      · rw [if_pos ea]; exact HW.out
      · rw [if_neg ea]; exact HX.out.wf a ((List.mem_cons.1 ha').resolve_left ea)
    · have hk : kv f3 = kv (upd f g ⟨nm, tk, gs.length⟩) := kv_eq HA3.out.name HA3.out.tick
      rw [hk]
      have h1 : (gs3.map (kv (upd f g ⟨nm, tk, gs.length⟩))).Perm ((g :: gs).map (kv (upd f g ⟨nm, tk, gs.length⟩))) := (HA3.out.perm.trans (List.perm_append_singleton g gs)).map _
      refine List.Perm.trans ?_ h1.symm
      have e1 : kv (upd f g ⟨nm, tk, gs.length⟩) g = (nm, tk) := by unfold kv; rw [hug]
      have e2 : gs.map (kv (upd f g ⟨nm, tk, gs.length⟩)) = gs.map (kv f) := List.map_congr_left fun x hx => by unfold kv; rw [hu x hx]
      rw [List.map_cons, e1, e2]
      unfold setM
      rw [stopM_none fun x hx => by
        obtain ⟨y, hy, rfl⟩ := List.mem_map.1 (HX.out.mod.mem_iff.1 hx)
        exact HNO.out y hy]
      exact HX.out.mod.cons _
def hasM (M : List (Int × Int)) (nm : Int) : Bool := M.any fun x => decide (x.1 = nm)
theorem hasM_iff {M : List (Int × Int)} {nm : Int} : hasM M nm = true ↔ ∃ x ∈ M, x.1 = nm := by simp [hasM]
set_option maxRecDepth 100000 in
set_option maxHeartbeats 8000000 in
theorem tstop_at (h : TS w0 w T q M l) (hq : q ≤ 1000) (nm : Int) (hw : (Lit.int .i64 nm).wf = true) : Calls Try.prog 26 #[ptr T, .int .i64 nm] w fun e w' => e = .returned (.bool (hasM M nm)) ∧ TS w0 w' T q (stopM M nm) l := by
  obtain ⟨v, gs, f, B, D, h⟩ := h
  have c1 : w.cell? ⟨T, 1, none⟩ = some (.map (some B)) := h.ps.st.row.1.cell 1
  rcases h.look hw with ⟨g, hg, hn, hrun⟩ | ⟨hno, u, hrun⟩
  · have HM := Lib.hid (show hasM M nm = true from hasM_iff.2 ⟨kv f g, h.mod.mem_iff.2 (List.mem_map.2 ⟨g, hg, rfl⟩), hn⟩)
    have hr := ones_get (h.ps.st.pick 2 rfl) hg
    obtain ⟨i, hi, hgi⟩ := List.getElem_of_mem hg
    obtain ⟨n, hnl⟩ : ∃ n, gs.length = n + 1 := ⟨gs.length - 1, by omega⟩
    have hat : (f g).at_ = i := by rw [← hgi]; exact h.ps.at_ i hi
    have k2 : w.cell? ⟨g, 2, none⟩ = some (.int .i64 i) := by
      have h2 : w.cell? ⟨g, 2, none⟩ = some (.int .i64 (f g).at_) := hr.cell 2
      rw [hat] at h2
      exact h2
    have HPD := Lib.hid (show PS w0 w.drew T (.map (some B)) v gs f (mapA B q D :: l) from ⟨h.ps.st.drew, h.ps.nd, h.ps.at_⟩)
    have HX := Lib.hid h; have HNM := Lib.hid hn; have HG := Lib.hid hg; have HW := Lib.hid hw
    have HIX := Lib.hid (show ix gs i = g by rw [ix_get hi]; exact hgi)
    have HNL := Lib.hid hnl
    have hsz : gs.length ≤ 100000 := by have := h.few; omega
    have hin : i ≤ n := by omega
    have HRM := Lib.hid (hremove_at HPD.out h.hp hnl hin hsz)
    have lT := h.ps.st.row.1.lt
    clear h hr hn hg hgi hw hat hi hnl
    go_enter Try.func26, Try.ntmps26
    go_upto_region 5 with fail
    go_region_law (go_simp; (with_reducible refine HRM.out.mono ?_); rintro e w2 ⟨rfl, v2, gs2, f2, hp2, ha2, hn2, ht2, hh2⟩; have HP2 := Lib.hid hp2; have HA2 := Lib.hid ha2; have HN2 := Lib.hid hn2; have HT2 := Lib.hid ht2; have HH2 := Lib.hid hh2; clear hp2 ha2 hn2 ht2 hh2; dsimp only)
    all_goals
      rw [HIX.out] at HP2 HA2
      have hst : St w0 w2 (mapA B q D :: row T 117 [v2, .map (some B)] :: pil v2 gs2 :: ones gs2 f2 :: row g 121 (f2 g).cells :: l) := HP2.out.st.pick 4 rfl
      clear c1 k2 lT hrun
      have c1 : w2.cell? ⟨T, 1, none⟩ = some (.map (some B)) := HP2.out.st.row.1.cell 1
      have lT := HP2.out.st.row.1.lt
      have HST := Lib.hid hst
      have HOW := Lib.hid (mapA_own hst)
      clear hst
      go_wp2_with (refine wpList_delete_own _ rfl _ _ 113 3 rfl 118 intKey Try.underlying113 pR B q D rfl HOW.out _ _ rfl (keyOf_int_mk Try.underlying3 HW.out) ?_; intro w3 ho3 ht3; have H3 := Lib.hid (mapA_turn HST.out ht3 ho3); clear ho3 ht3)
      go_ret
      rw [HM.out]
      have hp : gs.Perm (g :: gs2) := HA2.out.symm
      have hlen : gs2.length = n := by have := hp.length_eq; rw [HNL.out] at this; simp at this; omega
      have hap := HX.out.apart hp
      refine ⟨rfl, v2, gs2, f2, B, D.del (.int .i64 nm), ⟨?_, HP2.out.nd, HP2.out.at_⟩, by rw [hlen]; exact HH2.out, by have := HX.out.few; rw [HNL.out] at this; omega, ?_, fun a ha b hb e => ?_, fun a ha => ?_, ?_⟩
      · exact ((((H3.out.pick 4 rfl).drop.pick 3 rfl).pick 3 rfl).pick 3 rfl)
      · have h1 : MR (g :: gs2) f D := HX.out.mr.alk (fun x => hp.mem_iff.symm) fun x _ => rfl
        have h2 := h1.del hap
        rw [HNM.out] at h2
        exact h2.alk (fun x => Iff.rfl) fun x _ => HN2.out x
      · rw [HN2.out, HN2.out] at e
        exact HX.out.dist a (hp.mem_iff.2 (List.mem_cons_of_mem _ ha)) b (hp.mem_iff.2 (List.mem_cons_of_mem _ hb)) e
      · rw [HN2.out]
        exact HX.out.wf a (hp.mem_iff.2 (List.mem_cons_of_mem _ ha))
      · have h1 := stopM_some HX.out.mod hp hap
        rw [HNM.out] at h1
        rw [kv_eq HN2.out HT2.out]
        exact h1
  · have hall : ∀ x ∈ M, x.1 ≠ nm := fun x hx => by
      obtain ⟨y, hy, rfl⟩ := List.mem_map.1 (h.mod.mem_iff.1 hx)
      exact hno y hy
    have HM := Lib.hid (show hasM M nm = false by
      rw [Bool.eq_false_iff]
      intro e
      obtain ⟨x, hx, e2⟩ := hasM_iff.1 e
      exact hall x hx e2)
    have HSM := Lib.hid (stopM_none hall)
    have HX := Lib.hid h
    clear h hno hw hall
    go_enter Try.func26, Try.ntmps26
    go_wp2_with (fail)
    go_ret
    rw [HM.out, HSM.out]
    exact ⟨rfl, v, gs, f, B, D, HX.out⟩
end
end Go.Proofs.Ytooagoikiafgcaa.timer
