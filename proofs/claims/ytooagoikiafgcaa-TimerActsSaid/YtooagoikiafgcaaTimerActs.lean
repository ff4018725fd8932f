/-
  PROVED HERE: for all acts l, longeronlaw18.TimerActs(l) returns true and leaves memory as it was.
  CONDITIONS: none.
-/
import Derived.Test.YtooagoikiafgcaaTimerRefDue
import Derived.Deep.DeepCutAuto
import Derived.Deep.CutBlock
namespace Go.Proofs.Ytooagoikiafgcaa.timerActs
set_option linter.unusedVariables false
open Go.RowKit Go.ChangeShapes Go.WideShapes Go.ChangeAt Go.Deep Go.Joins Go.Proofs.Ytooagoikiafgcaa.base Go.Proofs.Ytooagoikiafgcaa.obj Go.Proofs.Ytooagoikiafgcaa.mem Go.Proofs.Ytooagoikiafgcaa.sep Go.Proofs.Ytooagoikiafgcaa.plan Go.Proofs.Ytooagoikiafgcaa.timer

theorem IsMin.of_perm {M L : List (Int × Int)} {o : Int × Int} (h : IsMin M o) (p : M.Perm L) : IsMin L o := h.perm p
theorem DueR.same {tick : Int} {M L M' L' : List (Int × Int)} {n1 n2 : List Int} (p : M.Perm L) (h : DueR tick M n1 M') (k : DueR tick L n2 L') : n1 = n2 ∧ M'.Perm L' := by
  induction h generalizing L n2 L' with
  | stop M h =>
    cases k with
    | stop _ k => exact ⟨rfl, p⟩
    | step o _ out _ ho hle r =>
      have := h o (ho.perm p.symm)
      omega
  | step o M out M' ho hle r ih =>
    cases k with
    | stop _ k =>
      have := k o (ho.perm p)
      omega
    | step o2 _ out2 _ ho2 hle2 r2 =>
      have e := ho2.uniq (ho.perm p)
      subst e
      obtain ⟨e1, e2⟩ := ih (p.filter _) r2
      exact ⟨by rw [e1], e2⟩
theorem DueR.mem {tick : Int} {M M' : List (Int × Int)} {n : List Int} (h : DueR tick M n M') : ∀ x ∈ M', x ∈ M := by
  induction h with
  | stop M h => exact fun _ h => h
  | step o M out M' ho hle r ih => exact fun x hx => (stopM_mem.1 (ih x hx)).1
theorem DueR.len {tick : Int} {M M' : List (Int × Int)} {n : List Int} (h : DueR tick M n M') : n.length + M'.length ≤ M.length := by
  induction h with
  | stop M h => simp
  | step o M out M' ho hle r ih =>
    have h1 : (stopM M o.1).length < M.length := List.length_filter_lt_length_iff_exists.2 ⟨o, ho.1, by simp⟩
    simp only [List.length_cons]
    omega
theorem has_len {M X : List (Int × Int)} (p : M.Perm X) (nm : Int) : hasM M nm = decide ((stopM X nm).length < X.length) := by
  rw [Bool.eq_iff_iff, hasM_iff, decide_eq_true_eq]
  constructor
  · rintro ⟨x, hx, e⟩
    rcases Nat.lt_or_ge (stopM X nm).length X.length with h | h
    · exact h
    · have h1 : (stopM X nm).length = X.length := Nat.le_antisymm (stopM_len _ _) h
      have h2 := List.length_filter_eq_length_iff.1 h1 x (p.mem_iff.1 hx)
      simp at h2
      exact absurd e h2
  · intro h
    rcases List.length_filter_lt_length_iff_exists.1 h with ⟨x, hx, e⟩
    exact ⟨x, p.mem_iff.2 hx, by simpa using e⟩
section
variable {w0 w w' : World} {T q : Nat} {M : List (Int × Int)} {l : List Asn}
theorem TS.swapOwn {e size n n' : Nat} {v v' : Value} {xs xs' : List Value} (h : TS w0 w T q M (own e size v n xs :: l)) (k : Below w.heap.size w w') (ho : w'.ownsRow w.heap.size e size v' n' xs') : TS w0 w' T q M (own e size v' n' xs' :: l) :=
  h.side fun L hs => (((hs.perm List.perm_middle).drop).addOwn k ho).perm List.perm_middle.symm
theorem TS.addOwn {e n' size : Nat} {v' : Value} {xs' : List Value} (h : TS w0 w T q M l) (k : Below w.heap.size w w') (ho : w'.ownsRow w.heap.size e size v' n' xs') : TS w0 w' T q M (own e size v' n' xs' :: l) :=
  h.side fun L hs => (hs.addOwn k ho).perm List.perm_middle.symm
theorem TS.pick (h : TS w0 w T q M l) (k : Nat) {P : Asn} (hk : l[k]? = some P) : TS w0 w T q M (P :: l.eraseIdx k) :=
  h.side fun L hs => hs.perm (List.Perm.append_left L (by
    obtain ⟨hlt, e⟩ := List.getElem?_eq_some_iff.1 hk
    rw [← e, List.eraseIdx_eq_take_drop_succ]
    have h2 : l = l.take k ++ l[k] :: l.drop (k + 1) := by rw [← List.drop_eq_getElem_cons hlt, List.take_append_drop]
    conv => lhs; rw [h2]
    exact List.perm_middle))
theorem TS.drop {P : Asn} (h : TS w0 w T q M (P :: l)) : TS w0 w T q M l :=
  h.side fun L hs => (hs.perm List.perm_middle).drop
theorem TS.uniq (h : TS w0 w T q M l) {nm a b : Int} (ha : (nm, a) ∈ M) (hb : (nm, b) ∈ M) : a = b := by
  obtain ⟨v, gs, f, B, D, hx⟩ := h
  obtain ⟨g, hg, e⟩ := List.mem_map.1 (hx.mod.mem_iff.1 ha)
  obtain ⟨g', hg', e'⟩ := List.mem_map.1 (hx.mod.mem_iff.1 hb)
  unfold kv at e e'
  injection e with e1 e2
  injection e' with e3 e4
  have := hx.dist g hg g' hg' (e1.trans e3.symm)
  subst this
  rw [← e2, e4]
inductive RDueTS (w0 : World) (T q : Nat) (M : List (Int × Int)) (l : List Asn) (tick : Int) (L : List (Int × Int)) (e : Ending) (w' : World) : Prop
  | mk (vN vL : Value) (names : List Int) (L' : List (Int × Int)) (he : e = .returned (.agg #[vN, vL])) (hd : DueR tick L names L') (hs : TS w0 w' T q M (own 3 1 vN names.length (names.map (.int .i64)) :: own 68 2 vL L'.length (pcs L') :: l))
theorem rdue_ts {A : Option Addr} {n c : Nat} {L : List (Int × Int)} (h : TS w0 w T q M (own 68 2 (.slice A n c) n (pcs L) :: l)) (hn : n = L.length) (hsz : n ≤ 1000000) (tick : Int) :
    Calls Try.prog 30 #[.slice A n c, .int .i64 tick] w (RDueTS w0 T q M l tick L) := by
  obtain ⟨v, gs, f, B, D, hx⟩ := h
  refine (rdue_at (hx.ps.st.pick 4 rfl) hn hsz tick).mono ?_
  rintro e w' ⟨vN, vL, names, L', he, hd, hs⟩
  exact .mk vN vL names L' he hd ⟨v, gs, f, B, D, ⟨(((hs.pick 5 rfl).pick 5 rfl).pick 5 rfl).pick 5 rfl, hx.ps.nd, hx.ps.at_⟩, hx.hp, hx.few, hx.mr, hx.dist, hx.wf, hx.mod⟩
end

set_option maxRecDepth 100000 in
set_option maxHeartbeats 8000000 in
theorem walk (w : World) (A : Option Addr) (c : Nat) (l : List ActT) (hm : l.length ≤ maxLen) (hs : Sl w w.heap.size 3 A l.length (actCells l)) (ho : ∀ a ∈ l, a.Ok) :
    Calls Try.prog 6 #[.slice A l.length c] w fun e w' => e = .returned (.bool true) ∧ Below w.heap.size w w' := by
  have HS := Lib.hid hs; have HO := Lib.hid ho
  obtain ⟨n, hn⟩ : ∃ n, n = l.length := ⟨_, rfl⟩
  rw [← hn] at HS ⊢
  have HN := Lib.hid hn
  have hmax : n ≤ maxLen := by omega
  clear hm hs ho hn
  by_cases hbig : n > 200
  · have hbig' : (n : Int) > 200 := by omega
    clear hbig
    go_enter Try.func6, Try.ntmps6
    go_wp2_with (fail)
    refine (timer.wakes _).mono ?_
    rintro e w1 ⟨rfl, hb⟩
    have HB := Lib.hid hb
    clear hb
    go_wp2_with (fail)
    go_ret
    exact ⟨rfl, HB.out⟩
  · have hbig' : ¬ (n : Int) > 200 := by omega
    have hn200 : n ≤ 200 := by omega
    clear hbig
    go_enter Try.func6, Try.ntmps6
    go_wp2_with (fail)
    refine (timer.wakes _).mono ?_
    rintro e w1 ⟨rfl, hb⟩
    have H1 := Lib.hid ((St.nil w).below hb)
    clear hb
    go_wp2_with (fail)
    refine (tnew_at H1.out).mono ?_
    rintro e w2 ⟨T, rfl, h2⟩
    have H2 := Lib.hid (TS.addOwn h2 (Below.refl _ _) (World.ownsRow_nil _ _ 68 2))
    clear h2
    go_wp2_with (fail)
    go_loopw [4, 26] (fun s4 i wr => ∃ (q qq : Nat) (M X : List (Int × Int)) (A : Option Addr) (c : Nat), q ≤ n ∧ qq ≤ q ∧ X.length ≤ q ∧ i = .int .i64 q ∧ s4 = .slice A X.length c ∧ M.Perm X ∧ SetOk l X ∧ TS w wr T qq M [own 68 2 (.slice A X.length c) X.length (pcs X)]) (fun _ i _ => n - (intOf i).toNat)
    case atStart => exact ⟨0, 0, [], [], none, 0, by omega, by omega, by simp, rfl, rfl, List.Perm.refl _, SetOk.nil l, H2.out⟩
    case round =>
      obtain ⟨q, qq, M, X, A, c, hq, hqq, hxq, rfl, rfl, hp, hok, hts⟩ := hrel
      have HT := Lib.hid hts; have HP := Lib.hid hp; have HK := Lib.hid hok
      clear hts hp hok H2
      obtain ⟨x, hx⟩ : ∃ x, x = X.length := ⟨_, rfl⟩
      rw [← hx] at HT hxq ⊢
      have HX := Lib.hid hx
      clear hx
      by_cases hlt : q < n
      · have hlt' : (q : Int) < (n : Int) := by omega
        have hq0 : (0 : Int) ≤ (q : Int) := by omega
        have hql : q < l.length := by rw [← HN.out]; exact hlt
        obtain ⟨b, off, rfl, lb, hac⟩ := act_at (by rw [HN.out] at HS; exact HS.out) HT.out.bel hql
        have HAI := Lib.hid (List.getElem_mem hql)
        have HAO := Lib.hid (HO.out _ (List.getElem_mem hql))
        generalize l[q] = a at hac HAI HAO
        obtain ⟨ak, an, at_⟩ := a
        have a0 : wr.cell? ⟨b, off + q * 3, none⟩ = some (.int .i64 ak) := by have := hac 0 _ (by omega) rfl; simpa using this
        have a1 := hac 1 _ (by omega) rfl
        have a2 := hac 2 _ (by omega) rfl
        clear hac
        go_upto_region 10 with fail
        obtain ⟨w5, hw5⟩ : ∃ w5, w5 = wr.alloc (.cells #[.int .i64 ak, .int .i64 an, .int .i64 at_] 28) := ⟨_, rfl⟩
        obtain ⟨Z, hZ⟩ : ∃ Z, Z = wr.heap.size := ⟨_, rfl⟩
        have H5 := Lib.hid (TS.pick (show TS w w5 T qq M [row Z 28 [.int .i64 ak, .int .i64 an, .int .i64 at_], own 68 2 (.slice A x c) x (pcs X)] by
          rw [hw5, hZ]
          exact HT.out.addRow ((Below.refl _ _).alloc (Nat.le_refl _) _) (Row.new wr _ _) (Nat.le_refl _)) 1 rfl)
        have HW5 := Lib.hid hw5; have HZ := Lib.hid hZ
        clear hw5 hZ HT
        rw [← HW5.out, ← HZ.out]
        have z0 : w5.cell? ⟨Z, 0, none⟩ = some (.int .i64 ak) := (H5.out.beside.pick 1 rfl).row.1.cell 0
        have z1 : w5.cell? ⟨Z, 1, none⟩ = some (.int .i64 an) := (H5.out.beside.pick 1 rfl).row.1.cell 1
        have z2 : w5.cell? ⟨Z, 2, none⟩ = some (.int .i64 at_) := (H5.out.beside.pick 1 rfl).row.1.cell 2
        have lz : Z < w5.heap.size := (H5.out.beside.pick 1 rfl).row.1.lt
        clear a0 a1 a2 lb
        have hwn : (Lit.int .i64 an).wf = true := HAO.out.name
        have HWN := Lib.hid hwn
        go_upto_block 2 with fail
        go_cut [4] (fun s4 wc => ∃ (qq2 : Nat) (M2 X2 : List (Int × Int)) (A2 : Option Addr) (c2 : Nat), qq2 ≤ q + 1 ∧ X2.length ≤ q + 1 ∧ s4 = .slice A2 X2.length c2 ∧ M2.Perm X2 ∧ SetOk l X2 ∧ (ak = 1 → ∀ x ∈ M2, x.1 ≠ an) ∧ TS w wc T qq2 M2 [own 68 2 (.slice A2 X2.length c2) X2.length (pcs X2), row Z 28 [.int .i64 ak, .int .i64 an, .int .i64 at_]])
        case first =>
          by_cases k0 : ak = 0
          · have b0 : (ak == 0) = true := by simpa using k0
            have HK0 := Lib.hid k0
            clear k0
            have HSET := Lib.hid (tset_at H5.out (by omega) an at_ hwn)
            go_wp2_with (fail)
            refine HSET.out.mono ?_
            rintro e w6 ⟨rfl, h6⟩
            have H6 := Lib.hid h6
            clear h6 z0 z1 z2 lz
            have z1 : w6.cell? ⟨Z, 1, none⟩ = some (.int .i64 an) := (H6.out.beside.pick 1 rfl).row.1.cell 1
            have z2 : w6.cell? ⟨Z, 2, none⟩ = some (.int .i64 at_) := (H6.out.beside.pick 1 rfl).row.1.cell 2
            have lz : Z < w6.heap.size := (H6.out.beside.pick 1 rfl).row.1.lt
            have HRS := Lib.hid (rset_at w6 A x c X HX.out (by omega) (Sl.of_own H6.out.beside.own) an at_)
            go_wp2_with (fail)
            refine HRS.out.mono ?_
            rintro e w7 ⟨v7, rfl, ho7, hb7⟩
            obtain ⟨A7, c7, hv7, _⟩ := own_form ho7
            subst hv7
            have H7 := Lib.hid (TS.swapOwn H6.out hb7 ho7)
            clear ho7 hb7
            go_wp2_with (fail)
            go_meet
            refine ⟨qq + 1, setM M an at_, stopM X an ++ [(an, at_)], A7, c7, by omega, ?_, by rw [List.length_append, List.length_singleton], ?_, ?_, fun h => by rw [HK0.out] at h; exact absurd h (by decide), H7.out⟩
            · have := stopM_len X an
              rw [← HX.out] at this
              rw [List.length_append, List.length_singleton]; omega
            · exact ((HP.out.filter _).cons _).trans (List.perm_append_singleton _ _).symm
            · refine ⟨fun y hy => ?_⟩
              rcases List.mem_append.1 hy with hy | hy
              · exact HK.out.from_ y (stopM_mem.1 hy).1
              · rw [List.mem_singleton] at hy
                subst hy
                exact ⟨_, HAI.out, rfl, rfl⟩
          · have b0 : (ak == 0) = false := by simpa using k0
            clear k0
            by_cases k1 : ak = 1
            · have b1 : (ak == 1) = true := by simpa using k1
              have HK1 := Lib.hid k1
              clear k1
              have HRS := Lib.hid (rstop_at w5 A x c X HX.out (by omega) (Sl.of_own H5.out.beside.own) an)
              go_wp2_with (fail)
              refine HRS.out.mono ?_
              rintro e w7 ⟨v7, rfl, ho7, hb7⟩
              obtain ⟨A7, c7, hv7, _⟩ := own_form ho7
              subst hv7
              obtain ⟨X2, hX2⟩ : ∃ X2, X2 = stopM X an := ⟨_, rfl⟩
              rw [← hX2] at ho7 ⊢
              have HX2 := Lib.hid hX2
              have HLN := Lib.hid (show hasM M an = decide (X2.length < x) by rw [HX.out, HX2.out]; exact has_len HP.out an)
              clear hX2
              obtain ⟨x2, hx2⟩ : ∃ x2, x2 = X2.length := ⟨_, rfl⟩
              rw [← hx2] at ho7 HLN ⊢
              have HXL := Lib.hid hx2
              have H7 := Lib.hid (TS.swapOwn H5.out hb7 ho7)
              clear ho7 hb7 z0 z1 z2 lz hx2
              have z1 : w7.cell? ⟨Z, 1, none⟩ = some (.int .i64 an) := (H7.out.beside.pick 1 rfl).row.1.cell 1
              have lz : Z < w7.heap.size := (H7.out.beside.pick 1 rfl).row.1.lt
              have HST := Lib.hid (tstop_at H7.out (by omega) an hwn)
              go_wp2_with (fail)
              refine HST.out.mono ?_
              rintro e w8 ⟨rfl, h8⟩
              rw [HLN.out]
              have H8 := Lib.hid h8
              clear h8
              have HFIN := Lib.hid (show x2 ≤ q + 1 ∧ x2 = X2.length ∧ (stopM M an).Perm X2 ∧ SetOk l X2 ∧ (ak = 1 → ∀ x ∈ stopM M an, x.1 ≠ an) from ⟨by
                have := stopM_len X an
                rw [← HX2.out, ← HXL.out, ← HX.out] at this
                omega, HXL.out, by rw [HX2.out]; exact HP.out.filter _, by rw [HX2.out]; exact HK.out.stop an, fun _ y hy => (stopM_mem.1 hy).2⟩)
              by_cases hxx : x2 < x
              · have hd1 : decide (x2 < x) = true := by simpa using hxx
                rw [hd1]
                clear hd1
                go_wp2_with (fail)
                go_meet
                exact ⟨qq, stopM M an, X2, A7, c7, by omega, by rw [← HXL.out]; exact HFIN.out.1, by rw [← HXL.out], HFIN.out.2.2.1, HFIN.out.2.2.2.1, HFIN.out.2.2.2.2, by rw [← HXL.out]; exact H8.out⟩
              · have hd1 : decide (x2 < x) = false := by simpa using hxx
                rw [hd1]
                clear hd1
                go_wp2_with (fail)
                go_meet
                exact ⟨qq, stopM M an, X2, A7, c7, by omega, by rw [← HXL.out]; exact HFIN.out.1, by rw [← HXL.out], HFIN.out.2.2.1, HFIN.out.2.2.2.1, HFIN.out.2.2.2.2, by rw [← HXL.out]; exact H8.out⟩
            · have b1 : (ak == 1) = false := by simpa using k1
              have HK1 := Lib.hid k1
              clear k1
              by_cases k2 : ak = 2
              · have b2 : (ak == 2) = true := by simpa using k2
                clear k2
                go_wp2_with (fail)
                refine (rdue_ts H5.out HX.out (by omega) at_).mono ?_
                rintro e w6 ⟨vN, vL, N1, X2, rfl, hd, h6⟩
                obtain ⟨AN, cN, hvN, _⟩ := own_form h6.beside.own
                subst hvN
                obtain ⟨AL, cL, hvL, _⟩ := own_form (h6.beside.pick 1 rfl).own
                subst hvL
                have HD := Lib.hid hd
                have H6 := Lib.hid h6
                clear h6 hd
                go_upto_region 21 with fail
                obtain ⟨G, hG⟩ : ∃ G, G = w6.heap.size := ⟨_, rfl⟩
                obtain ⟨k, hk⟩ : ∃ k, k = N1.length := ⟨_, rfl⟩
                obtain ⟨x2, hx2⟩ : ∃ x2, x2 = X2.length := ⟨_, rfl⟩
                rw [← hx2, ← hk] at H6 ⊢
                have HKL := Lib.hid hk; have HXL := Lib.hid hx2
                obtain ⟨w7, hw7⟩ : ∃ w7, w7 = w6.alloc (.cells #[.slice AN k cN, .slice AL x2 cL] 64) := ⟨_, rfl⟩
                have H7 := Lib.hid (show TS w w7 T qq M [row G 64 [.slice AN k cN, .slice AL x2 cL], own 3 1 (.slice AN k cN) k (N1.map (.int .i64)), own 68 2 (.slice AL x2 cL) x2 (pcs X2), row Z 28 [.int .i64 ak, .int .i64 an, .int .i64 at_]] by
                  rw [hw7, hG]
                  exact H6.out.addRow ((Below.refl _ _).alloc (Nat.le_refl _) _) (Row.new w6 _ _) (Nat.le_refl _))
                have HW7 := Lib.hid hw7; have HG := Lib.hid hG
                clear hw7 hG hk hx2 H6
                rw [← HW7.out, ← HG.out]
                have HKX := Lib.hid (show k ≤ q ∧ x2 ≤ q by have := DueR.len HD.out; rw [← HKL.out, ← HXL.out, ← HX.out] at this; omega)
                clear z0 z1 z2 lz
                have z2 : w7.cell? ⟨Z, 2, none⟩ = some (.int .i64 at_) := (H7.out.beside.pick 3 rfl).row.1.cell 2
                have lz : Z < w7.heap.size := (H7.out.beside.pick 3 rfl).row.1.lt
                have g0 : w7.cell? ⟨G, 0, none⟩ = some (.slice AN k cN) := H7.out.beside.row.1.cell 0
                have lg : G < w7.heap.size := H7.out.beside.row.1.lt
                have HDU := Lib.hid (tdue_at (H7.out.below (Below.refl _ _).drew) (by omega) at_)
                refine wp_region_plan [0, 1, 4, 2] [[3, 5, 6, 7], [5, 3, 6, 7]] (by kernel_rfl) (by kernel_rfl) (fun _ _ _ _ _ h => h) ?_
                simp only [forks, pick, List.getElem?_cons_succ, List.getElem?_cons_zero, Option.getD_some]
                iterate 4 still_step
                refine wpStill_nil ?_
                refine ⟨?_, ?_⟩
                all_goals
                  go_wp2_with (fail)
                  refine HDU.out.mono ?_
                  rintro e w8 ⟨A8, c8, N8, M8, rfl, hd8, h8⟩
                  obtain ⟨e1, e2⟩ := DueR.same HP.out hd8 HD.out
                  subst e1
                  have HP8 := Lib.hid e2
                  have H8 := Lib.hid h8
                  clear hd8 h8 e2
                  rw [← HKL.out] at H8 ⊢
                  clear z2 lz g0 lg
                  have g0 : w8.cell? ⟨G, 0, none⟩ = some (.slice AN k cN) := (H8.out.beside.pick 1 rfl).row.1.cell 0
                  have g1 : w8.cell? ⟨G, 1, none⟩ = some (.slice AL x2 cL) := (H8.out.beside.pick 1 rfl).row.1.cell 1
                  have lg : G < w8.heap.size := (H8.out.beside.pick 1 rfl).row.1.lt
                  have HSA := Lib.hid (sameInts_at N8 N8 A8 AN k k c8 cN w8 HKL.out HKL.out (by have := HKX.out; omega) (by have := HKX.out; omega) (Sl.of_own H8.out.beside.own) (Sl.of_own (H8.out.beside.pick 2 rfl).own))
                  go_wp2_with (fail)
                  refine HSA.out.mono ?_
                  rintro e w9 ⟨rfl, hb9⟩
                  have H9 := Lib.hid (H8.out.below hb9)
                  clear hb9 g0 g1 lg HSA HDU
                  have g1 : w9.cell? ⟨G, 1, none⟩ = some (.slice AL x2 cL) := (H9.out.beside.pick 1 rfl).row.1.cell 1
                  have lg : G < w9.heap.size := (H9.out.beside.pick 1 rfl).row.1.lt
                  go_wp2_with (fail)
                  go_meet
                  exact ⟨qq, M8, X2, AL, cL, by omega, by rw [← HXL.out]; have := HKX.out; omega, by rw [← HXL.out], HP8.out, ⟨fun y hy => HK.out.from_ y (DueR.mem HD.out y hy)⟩, fun h => absurd h HK1.out, by rw [← HXL.out]; exact TS.drop (TS.drop (TS.drop H9.out))⟩
              · have b2 : (ak == 2) = false := by simpa using k2
                clear k2
                go_wp2_with (fail)
                go_meet
                exact ⟨qq, M, X, A, c, by omega, by rw [← HX.out]; omega, by rw [HX.out], HP.out, HK.out, fun h => absurd h HK1.out, by rw [← HX.out]; exact H5.out⟩
        case rest =>
          obtain ⟨qq2, M2, X2, A2, c2, hq2, hx2, rfl, hp2, hk2, hone, hts2⟩ := hcut
          have HP2 := Lib.hid hp2; have HK2 := Lib.hid hk2; have HONE := Lib.hid hone
          obtain ⟨x2, hx2'⟩ : ∃ x2, x2 = X2.length := ⟨_, rfl⟩
          rw [← hx2'] at hts2 hx2 ⊢
          have HXL := Lib.hid hx2'; have HT := Lib.hid hts2
          clear hp2 hk2 hone hts2 hx2' H5 HP HK HX HW5 HZ z0 z1 z2 lz
          go_wp2_with (fail)
          refine (tnext_nx HT.out).mono ?_
          intro e w6 hb
          obtain ⟨⟨nx, is, rfl, hnx⟩, rfl⟩ := hb
          have HNX := Lib.hid hnx
          clear hnx
          go_wp2_with (fail)
          refine (rfirst_at w6 A2 x2 c2 X2 HXL.out (by omega) (Sl.of_own HT.out.beside.own)).mono ?_
          rintro e w7 ⟨⟨i, rfl, hfr⟩, hb⟩
          have H7 := Lib.hid (HT.out.below hb)
          have HFR := Lib.hid hfr
          clear hfr hb HT
          have HML := Lib.hid (show M2.length = x2 by rw [HXL.out]; exact HP2.out.length_eq)
          go_upto_region 26 with fail
          go_cut [109] (fun s wc => s = .bool false ∧ wc = w7)
          case first =>
            have hn := HNX.out
            cases hn with
            | none h0 =>
              have hf := HFR.out
              cases hf with
              | none h1 =>
                clear h0 h1
                go_wp2_with (fail)
                go_meet
                exact ⟨rfl, rfl⟩
              | some j hj hm =>
                have := HP2.out.length_eq
                rw [h0] at this
                simp at this
                omega
            | some o ho =>
              have hf := HFR.out
              cases hf with
              | none h1 =>
                have h2 := HP2.out.mem_iff.1 ho.1
                rw [h1] at h2
                exact absurd h2 (by simp)
              | some j hj hm =>
                have e1 := hm.uniq (ho.perm HP2.out)
                have hjm : j < x2 := by rw [HXL.out]; exact hj
                have hj0 : (0 : Int) ≤ (j : Int) := by omega
                have hj1 : (j : Int) < (x2 : Int) := by omega
                have hj2 : decide ((j : Int) ≥ 0) = true := by simp
                obtain ⟨b2, off2, hA, lb2, k0, k1⟩ := pcs_get (Sl.of_own H7.out.beside.own) HXL.out hj
                subst hA
                rw [e1] at k0 k1
                clear e1 hm ho
                go_wp2_with (fail)
                go_meet
                exact ⟨by simp, rfl⟩
          case rest =>
          obtain ⟨rfl, hwc⟩ := hcut
          rw [hwc]
          clear hwc HFR HNX
          go_upto_region 28 with fail
          go_wp2_with (fail)
          refine (tlen_at H7.out).mono ?_
          rintro e w8 ⟨rfl, rfl⟩
          rw [HML.out]
          go_wp2_with (fail)
          go_loopw [117] (fun i wr => ∃ (r : Nat), r ≤ x2 ∧ i = .int .i64 r ∧ TS w wr T qq2 M2 [own 68 2 (.slice A2 x2 c2) x2 (pcs X2), row Z 28 [.int .i64 ak, .int .i64 an, .int .i64 at_]]) (fun i _ => x2 - (intOf i).toNat)
          case atStart => exact ⟨0, by omega, rfl, H7.out⟩
          case round =>
            obtain ⟨r, hr, rfl, hts⟩ := hrel
            have HT := Lib.hid hts
            clear hts H7
            have hqn := hlt
            clear hlt hlt'
            by_cases hlt : r < x2
            · have hlt' : (r : Int) < (x2 : Int) := by omega
              have hr0 : (0 : Int) ≤ (r : Int) := by omega
              have hrl : r < X2.length := by rw [← HXL.out]; exact hlt
              obtain ⟨b2, off2, hA, lb2, k0, k1⟩ := pcs_get (Sl.of_own HT.out.beside.own) HXL.out hrl
              subst hA
              have HIN := Lib.hid (List.getElem_mem hrl)
              generalize X2[r] = o at k0 k1 HIN
              obtain ⟨on, ot⟩ := o
              dsimp only at k0 k1
              have hwo : (Lit.int .i64 on).wf = true := by
                obtain ⟨a, ha, e, _⟩ := HK2.out.from_ _ HIN.out
                dsimp only at e
                rw [← e]
                exact (HO.out a ha).name
              go_upto_region 33 with fail
              obtain ⟨V, hV⟩ : ∃ V, V = wr.heap.size := ⟨_, rfl⟩
              obtain ⟨w9, hw9⟩ : ∃ w9, w9 = wr.alloc (.cells #[.int .i64 on, .int .i64 ot] 68) := ⟨_, rfl⟩
              have H9 := Lib.hid (show TS w w9 T qq2 M2 [row V 68 [.int .i64 on, .int .i64 ot], own 68 2 (.slice (some ⟨b2, off2, none⟩) x2 c2) x2 (pcs X2), row Z 28 [.int .i64 ak, .int .i64 an, .int .i64 at_]] by
                rw [hw9, hV]
                exact HT.out.addRow ((Below.refl _ _).alloc (Nat.le_refl _) _) (Row.new wr _ _) (Nat.le_refl _))
              have HV := Lib.hid hV; have HW9 := Lib.hid hw9
              clear hV hw9 k0 k1 lb2
              rw [← HW9.out, ← HV.out]
              have k0 : w9.cell? ⟨V, 0, none⟩ = some (.int .i64 on) := H9.out.beside.row.1.cell 0
              have k1 : w9.cell? ⟨V, 1, none⟩ = some (.int .i64 ot) := H9.out.beside.row.1.cell 1
              have lv : V < w9.heap.size := H9.out.beside.row.1.lt
              have HAT := Lib.hid (tat_at H9.out hwo)
              clear hwo
              go_wp2_with (fail)
              refine HAT.out.mono ?_
              rintro e w10 ⟨hcase, rfl⟩
              have hmem := HP2.out.mem_iff.2 HIN.out
              rcases hcase with ⟨hno, _⟩ | ⟨tk, htk, rfl⟩
              · exact absurd rfl (hno _ hmem)
              · have e1 := TS.uniq H9.out htk hmem
                subst e1
                have H10 := Lib.hid (TS.drop H9.out)
                clear htk hmem HAT
                go_wp2_with (fail)
                go_roundw
                case rel => exact ⟨r + 1, by omega, by go_num, H10.out⟩
                case measure => simp [intOf] <;> omega
            · have hrn : r = x2 := by omega
              have hlt' : ¬ (r : Int) < (x2 : Int) := by omega
              clear hrn
              have z0 : wr.cell? ⟨Z, 0, none⟩ = some (.int .i64 ak) := (HT.out.beside.pick 1 rfl).row.1.cell 0
              have z1 : wr.cell? ⟨Z, 1, none⟩ = some (.int .i64 an) := (HT.out.beside.pick 1 rfl).row.1.cell 1
              have lz : Z < wr.heap.size := (HT.out.beside.pick 1 rfl).row.1.lt
              have HAT := Lib.hid (tat_at HT.out hwn)
              clear hwn
              go_wp2_with (fail)
              refine HAT.out.mono ?_
              rintro e w10 ⟨hcase, rfl⟩
              have HE := Lib.hid (show TS w w10 T qq2 M2 [own 68 2 (.slice A2 x2 c2) x2 (pcs X2)] from TS.drop (TS.pick HT.out 1 rfl))
              by_cases k1 : ak = 1
              · have b1 : (ak == 1) = true := by simpa using k1
                rcases hcase with ⟨_, rfl⟩ | ⟨tk, htk, _⟩
                · clear HAT k1
                  go_wp2_with (fail)
                  go_roundw
                  case rel => exact ⟨q + 1, qq2, M2, X2, A2, c2, by omega, by omega, by rw [← HXL.out]; omega, by go_num, by rw [← HXL.out], HP2.out, HK2.out, by rw [← HXL.out]; exact HE.out⟩
                  case measure => simp [intOf] <;> omega
                · exact absurd rfl (HONE.out k1 _ htk)
              · have b1 : (ak == 1) = false := by simpa using k1
                obtain ⟨v1, v2, rfl⟩ : ∃ v1 v2, e = .returned (.tuple #[.int .i64 v1, .bool v2]) := by
                  rcases hcase with ⟨_, rfl⟩ | ⟨tk, _, rfl⟩
                  · exact ⟨_, _, rfl⟩
                  · exact ⟨_, _, rfl⟩
                clear HAT k1 hcase
                go_wp2_with (fail)
                go_roundw
                case rel => exact ⟨q + 1, qq2, M2, X2, A2, c2, by omega, by omega, by rw [← HXL.out]; omega, by go_num, by rw [← HXL.out], HP2.out, HK2.out, by rw [← HXL.out]; exact HE.out⟩
                case measure => simp [intOf] <;> omega
      · have hqn : q = n := by omega
        have hlt' : ¬ (q : Int) < (n : Int) := by omega
        clear hqn
        go_wp2_with (fail)
        go_ret
        exact ⟨rfl, HT.out.bel⟩

/-! ### the row: written by program -/
set_option maxRecDepth 100000 in
theorem lifted (os : Os) (started : os.Started) (H : Type) (enc : TypeId × Value → H) :
    ReturnsInHanded {} Try.checked os 6 .any (Rows.timerActsSpec.pre6 enc Try.prog Try.f6 Rows.timerActsRow.domain false) (Rows.timerActsSpec.post enc Try.prog Try.f6 false true false false) := by
  refine returnsInHanded_of_change (C := Try.checked) Go.Proofs.Ytooagoikiafgcaa.lift.own started (by kernel_rfl) Try.func6
    (ChangeSpec.witness6 (enc := enc) (C := Try.checked) false ⟨#[], #[.slice none 0 0], []⟩ 8 (by kernel_rfl) (by kernel_rfl) (by kernel_rfl) (by kernel_rfl)) ?_
  intro W base args ds gs before hval0 hW hcnd _
  have hval : ∀ (j : Nat) t v, Try.f6.params[j]? = some t → args[j]? = some v → Value.okWide Try.prog W .any base t v := hval0
  have hW' := hW
  obtain ⟨p, q, hA0, hV, rfl, hfz, hnd⟩ := hW
  have hA : DataW.TrodAll enc Try.prog W 0 (fun _ => true) true Try.f6.params.toList args.toList ds p := hA0
  have hAk := hA
  rw [Try.params6] at hA hval
  obtain ⟨v0, vs0, d0, ds0, p0, q0, hargs, rfl, rfl, h0, r0⟩ := trodAll_cons hA
  obtain ⟨rfl, rfl, rfl⟩ := trodAll_nil r0
  obtain rfl : args = #[v0] := by cases args; simp_all
  obtain ⟨rfl, rfl⟩ := trodVars_none hV
  have hlt := hW'.lt
  obtain ⟨A1, c1, l1, rfl, hm1, hs1, ho1⟩ := timer.arg_acts (hval 0 22 v0 rfl rfl) h0
  refine (walk W A1 c1 l1 hm1 hs1 ho1).mono fun e W' ⟨he, hg⟩ => ?_
  subst he
  exact ⟨_, rfl, Go.Proofs.Ytooagoikiafgcaa.base.postBelow (pv := []) hW' (fun _ _ _ => (trodAll_cons_mk (shut_bool Try.underlying4 _) trodAll_mk0)) (fun sp hsp => Go.Proofs.Ytooagoikiafgcaa.lift.args_stay Go.Proofs.Ytooagoikiafgcaa.lift.laidOut hg _ _ _ _ (by kernel_rfl) hAk (fun x hx => hlt x (by simpa using hx)) (fun x hx => hsp x (by simpa using hx))) (fun _ _ => rfl) (by simp)
    hg (ok_one (by kernel_rfl) rfl (okWide_bool_mk Try.underlying4 _))⟩

theorem over : Rows.timerActsRow.holds Try.pinned (OpenSpec.ofChange Rows.timerActsSpec) :=
  OpenClaim.holds_of_wide 6 Try.f6 rfl rfl rfl rfl rfl rfl rfl ⟨rfl, rfl, rfl, rfl, rfl⟩ rfl rfl rfl rfl rfl (by kernel_rfl) Try.func6 (by kernel_rfl)
    (of_decide_eq_true (by kernel_rfl)) (by unfold Func.isWrapper; first | (rw [if_pos (by decide +kernel)]; kernel_rfl) | (rw [if_neg (by decide +kernel)]; exact ⟨rfl, rfl⟩))
    (fun os started H enc _ => lifted os started H enc)

/-- THE STATEMENT -/
theorem proved : Rows.TimerActsSaid :=
  over
#print axioms proved
end Go.Proofs.Ytooagoikiafgcaa.timerActs
