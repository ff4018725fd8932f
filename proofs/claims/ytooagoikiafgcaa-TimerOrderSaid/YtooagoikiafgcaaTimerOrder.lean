/-
  PROVED HERE: for all acts l and every int tick, longeronlaw18.TimerOrder(l, tick) returns true and leaves memory as it was.
  CONDITIONS: none.
-/
import Derived.Test.YtooagoikiafgcaaTimerTicks
import Derived.Deep.DeepCutAuto
import Derived.Deep.CutBlock
namespace Go.Proofs.Ytooagoikiafgcaa.timerOrder
set_option linter.unusedVariables false
open Go.RowKit Go.ChangeShapes Go.WideShapes Go.ChangeAt Go.Deep Go.Joins Go.Maps Go.Proofs.Ytooagoikiafgcaa.base Go.Proofs.Ytooagoikiafgcaa.obj Go.Proofs.Ytooagoikiafgcaa.mem Go.Proofs.Ytooagoikiafgcaa.sep Go.Proofs.Ytooagoikiafgcaa.plan Go.Proofs.Ytooagoikiafgcaa.timer

theorem len_parts (tick : Int) : ∀ M : List (Int × Int), (M.filter fun x => decide (x.2 ≤ tick)).length + (M.filter fun x => decide (tick < x.2)).length = M.length
  | [] => rfl
  | x :: M => by
    have ih := len_parts tick M
    rw [List.filter_cons, List.filter_cons]
    by_cases h : x.2 ≤ tick
    · rw [if_pos (by simpa using h), if_neg (by simp; omega)]
      simp only [List.length_cons]; omega
    · rw [if_neg (by simpa using h), if_pos (by simp; omega)]
      simp only [List.length_cons]; omega
theorem due_again {tick : Int} {M M' : List (Int × Int)} {names : List Int} (h : DueR tick (M.filter fun x => decide (tick < x.2)) names M') (hn : (M.map Prod.fst).Nodup) : names.length = 0 := by
  have h1 := (h.order (hn.sublist ((List.filter_sublist).map _))).2.1
  rw [h1, List.length_eq_zero_iff, List.filter_eq_nil_iff]
  intro x hx
  have := (List.mem_filter.1 hx).2
  simp at this ⊢
  exact this
set_option maxRecDepth 100000 in
set_option maxHeartbeats 8000000 in
theorem walk (w : World) (A : Option Addr) (c : Nat) (l : List ActT) (hm : l.length ≤ maxLen) (hs : Sl w w.heap.size 3 A l.length (actCells l)) (ho : ∀ a ∈ l, a.Ok) (tick : Int) (wt : (Lit.int .i64 tick).wf = true) :
    Calls Try.prog 3 #[.slice A l.length c, .int .i64 tick] w fun e w' => e = .returned (.bool true) ∧ Below w.heap.size w w' := by
  have HS := Lib.hid hs; have HO := Lib.hid ho
  obtain ⟨n, hn⟩ : ∃ n, n = l.length := ⟨_, rfl⟩
  rw [← hn] at HS ⊢
  have HN := Lib.hid hn
  have hmax : n ≤ maxLen := by omega
  clear hm hs ho hn wt
  by_cases hbig : n > 200
  · have hbig' : (n : Int) > 200 := by omega
    clear hbig
    go_enter Try.func3, Try.ntmps3
    go_wp2_with (fail)
    refine (timer.wakes _).mono ?_
    rintro e w1 ⟨rfl, hb⟩
    have HB := Lib.hid hb
    clear hb
    go_wp2_with (fail)
    go_ret
    exact ⟨rfl, HB.out⟩
  · have hbig' : ¬ (n : Int) > 200 := by omega
    have hn200 : n ≤ 200 := by omega
    clear hbig
    have hmm := @run_makeMap Try.prog
    go_enter Try.func3, Try.ntmps3
    go_wp2_with (fail)
    refine (timer.wakes _).mono ?_
    rintro e w1 ⟨rfl, hb⟩
    have H1 := Lib.hid ((St.nil w).below hb)
    clear hb
    go_wp2_with (fail)
    refine (tnew_at H1.out).mono ?_
    rintro e w2 ⟨T, rfl, h2⟩
    obtain ⟨B, hB⟩ : ∃ B, B = w2.heap.size := ⟨_, rfl⟩
    have H2 := Lib.hid (show TS w (w2.alloc (.map #[] 0)) T 0 [] [mapI B 0 (.map [])] from h2.side fun L hs => by
      have h3 : St w (w2.alloc (.map #[] 0)) (mapI B 0 (.map []) :: (L ++ [])) := hs.add ((Below.refl _ _).alloc (Nat.le_refl _) _) (F := fun i => i = B) ⟨by rw [hB]; exact World.ownsMap_made _ _ _ _, fun i => Iff.rfl⟩ fun i hi => by rw [hi, hB]; exact Nat.le_refl _
      rw [List.append_nil] at h3
      exact h3.perm (List.perm_append_comm (l₁ := [_])))
    have HBB := Lib.hid hB
    clear h2 hB
    go_upto_region 7 with fail
    rw [← HBB.out]
    clear hmm
    go_wp2_with (fail)
    go_loopw [26] (fun i wr => ∃ (q : Nat) (M : List (Int × Int)) (D : DataW Unit), q ≤ n ∧ i = .int .i64 q ∧ TS w wr T q M [mapI B q D] ∧ SetOk l M ∧ MV M D) (fun i _ => n - (intOf i).toNat)
    case atStart => exact ⟨0, [], .map [], by omega, rfl, H2.out, SetOk.nil l, MV.nil⟩
    case round =>
      obtain ⟨q, M, D, hq, rfl, hts, hok, hmv⟩ := hrel
      have HT := Lib.hid hts; have HK := Lib.hid hok; have HMV := Lib.hid hmv
      clear hts hok hmv H2
      by_cases hlt : q < n
      · have hlt' : (q : Int) < (n : Int) := by omega
        have hq0 : (0 : Int) ≤ (q : Int) := by omega
        have hql : q < l.length := by rw [← HN.out]; exact hlt
        obtain ⟨b, off, rfl, lb, hac⟩ := act_at (by rw [HN.out] at HS; exact HS.out) HT.out.bel hql
        have HAI := Lib.hid (List.getElem_mem hql)
        have HAO := Lib.hid (HO.out _ (List.getElem_mem hql))
        generalize l[q] = a at hac HAI HAO
        obtain ⟨ak, an, at_⟩ := a
        have a0 : wr.cell? ⟨b, off + q * 3, none⟩ = some (.int .i64 ak) := by have := hac 0 _ (by omega) rfl; simpa using this
        have a1 := hac 1 _ (by omega) rfl
        have a2 := hac 2 _ (by omega) rfl
        clear hac
        go_upto_region 10 with fail
        obtain ⟨w5, hw5⟩ : ∃ w5, w5 = wr.alloc (.cells #[.int .i64 ak, .int .i64 an, .int .i64 at_] 28) := ⟨_, rfl⟩
        obtain ⟨Z, hZ⟩ : ∃ Z, Z = wr.heap.size := ⟨_, rfl⟩
        have H5 := Lib.hid (show TS w w5 T q M [row Z 28 [.int .i64 ak, .int .i64 an, .int .i64 at_], mapI B q D] by
          rw [hw5, hZ]
          exact HT.out.addRow ((Below.refl _ _).alloc (Nat.le_refl _) _) (Row.new wr _ _) (Nat.le_refl _))
        have HW5 := Lib.hid hw5; have HZ := Lib.hid hZ
        clear hw5 hZ HT
        rw [← HW5.out, ← HZ.out]
        have z1 : w5.cell? ⟨Z, 1, none⟩ = some (.int .i64 an) := H5.out.beside.row.1.cell 1
        have z2 : w5.cell? ⟨Z, 2, none⟩ = some (.int .i64 at_) := H5.out.beside.row.1.cell 2
        have lz : Z < w5.heap.size := H5.out.beside.row.1.lt
        clear a0 a1 a2 lb
        have hwn : (Lit.int .i64 an).wf = true := HAO.out.name
        have HSET := Lib.hid (tset_at H5.out (by omega) an at_ hwn)
        have HK2 := Lib.hid (HK.out.set HAI.out)
        have HWN := Lib.hid hwn
        clear hwn
        go_wp2_with (fail)
        refine HSET.out.mono ?_
        rintro e w6 ⟨rfl, h6⟩
        have H6 := Lib.hid (show TS w w6 T (q + 1) (setM M an at_) [mapI B q D, row Z 28 [.int .i64 ak, .int .i64 an, .int .i64 at_]] from h6.pick 1 rfl)
        clear h6 z1 z2 lz
        have z1 : w6.cell? ⟨Z, 1, none⟩ = some (.int .i64 an) := (H6.out.beside.pick 1 rfl).row.1.cell 1
        have z2 : w6.cell? ⟨Z, 2, none⟩ = some (.int .i64 at_) := (H6.out.beside.pick 1 rfl).row.1.cell 2
        have lz : Z < w6.heap.size := (H6.out.beside.pick 1 rfl).row.1.lt
        obtain ⟨w7, hst, ho7, ht7⟩ := (mapI_own H6.out.beside).store intKey Try.underlying26 (by unfold maxLen; omega) (keyOf_int_mk Try.underlying3 HWN.out) (plainElem_int Try.underlying3 HAO.out.tick)
        have H7 := Lib.hid (show TS w w7 T (q + 1) (setM M an at_) [mapI B (q + 1) (D.put (key an) (.lit (.int .i64 at_)))] from by
          have h := H6.out.front (P' := mapI B (q + 1) (D.put (key an) (.lit (.int .i64 at_)))) fun L hs => mapI_turn hs ht7 ho7
          exact (h.pick 1 rfl).drop)
        have HMV2 := Lib.hid (HMV.out.set ((mapI_own H6.out.beside).tidy intKey) an at_)
        clear ho7 ht7
        go_wp2_with (fail)
        go_roundw
        case rel => exact ⟨q + 1, _, _, by omega, by go_num, H7.out, HK2.out, HMV2.out⟩
        case measure => simp [intOf] <;> omega
      · have hqn : q = n := by omega
        have hlt' : ¬ (q : Int) < (n : Int) := by omega
        clear hqn
        go_upto_region 14 with fail
        obtain ⟨r, hr⟩ : ∃ r, r = wr.heap.size := ⟨_, rfl⟩
        have HR := Lib.hid hr
        have hown := mapI_own HT.out.beside
        have HT0 := Lib.hid (fun (w' : World) (left : Lit → Bool) (cnt : Nat) (hrg : w'.ranges Try.prog 3 (plainElem Try.prog 3) B wr.heap.size q D left cnt) (hg : wr.grownBy w' none) => show TS w w' T q M [rng B r q D left cnt] from HT.out.front fun L hs => by rw [hr]; exact mapI_range hs hrg hg)
        clear hr
        go_wp2_with (first
          | (at_range; refine wpList_range_own _ rfl _ 26 rfl 3 3 intKey Try.underlying26 _ B q _ rfl hown ?_; intro w5 hrg0 hg0 hs0; have H5 := Lib.hid (HT0.out w5 _ _ hrg0 hg0); clear hrg0 hg0 hs0; rw [← HR.out])
          | go_in)
        clear hown HT0
        go_loopw [9] (fun s9 wx => ∃ (left : Lit → Bool) (cn : Nat), s9 = .int .i64 (timer.cnt M tick left) ∧ TS w wx T q M [rng B r q D left cn]) (fun _ wx => wx.rangeLeft B r)
        case atStart => exact ⟨_, _, by rw [cnt_start HMV.out]; rfl, H5.out⟩
        case round =>
          obtain ⟨left, cn, rfl, hts⟩ := hrel
          have HTR := Lib.hid hts
          have hrg := rng_own hts.beside
          clear hts H5
          have hcb : timer.cnt M tick left ≤ 1000 := by
            have h1 : timer.cnt M tick left ≤ M.length := List.length_filter_le _ _
            have h2 := hrg.owns.size_le
            rw [HMV.out.size] at h2
            omega
          obtain ⟨ct, hct⟩ : ∃ ct, ct = timer.cnt M tick left := ⟨_, rfl⟩
          rw [← hct] at hcb ⊢
          have HCT := Lib.hid hct
          clear hct
          go_wp2_with (first
            | (at_next; refine wpList_next_ranges_ii _ rfl _ rfl 3 3 .i64 .i64 intKey Try.underlying3 Try.underlying3 B r q _ _ _ rfl hrg ?_ ?_)
            | go_in)
          · intro _ hl0
            have HC := Lib.hid (show ct = (M.filter fun x => decide (x.2 ≤ tick)).length by rw [HCT.out]; exact cnt_end tick hl0)
            have HTE := Lib.hid (HTR.out.front (P' := mapI B q D) fun L hs => rng_map hs)
            have HMQ := Lib.hid (show M.length ≤ q by have h2 := hrg.owns.size_le; rw [HMV.out.size] at h2; exact h2)
            clear hl0 hrg HTR HCT
            go_wp2_with (fail)
            refine (tdue_at HTE.out (by omega) tick).mono ?_
            rintro e w6 ⟨A6, c6, N6, M6, rfl, hd6, h6⟩
            obtain ⟨e1, e2, os, e3, e4, e5⟩ := hd6.order HMV.out.nd
            obtain ⟨k, hk⟩ : ∃ k, k = N6.length := ⟨_, rfl⟩
            have HKL := Lib.hid hk
            rw [← hk] at h6 ⊢
            have HKC := Lib.hid (show k = ct by rw [hk, e2, HC.out])
            have HM6 := Lib.hid e1; have HOS := Lib.hid e3; have HIN := Lib.hid e4; have HPW := Lib.hid e5
            have HWF := Lib.hid (show ∀ x ∈ M, (Lit.int .i64 x.1).wf = true from fun x hx => by
              obtain ⟨a, ha, e, _⟩ := HK.out.from_ x hx
              rw [← e]
              exact (HO.out a ha).name)
            have H6 := Lib.hid h6
            have hk1000 : k ≤ 1000 := by rw [HKC.out]; exact hcb
            clear hk e1 e2 e3 e4 e5 h6 hd6
            go_wp2_with (fail)
            go_loopw [58] (fun i wx => ∃ (z : Nat), z ≤ k ∧ i = .int .i64 z ∧ TS w wx T q M6 [own 3 1 (.slice A6 k c6) k (N6.map (.int .i64)), mapI B q D]) (fun i _ => k - (intOf i).toNat)
            case atStart => exact ⟨0, by omega, rfl, H6.out⟩
            case round =>
              obtain ⟨z, hz, rfl, hts⟩ := hrel
              have HT6 := Lib.hid hts
              clear hts H6
              by_cases hzk : z < k
              · have hlt2 : (z : Int) < (k : Int) := by omega
                have hz0 : (0 : Int) ≤ (z : Int) := by omega
                have hzn : z < N6.length := by rw [← HKL.out]; exact hzk
                have hzo : z < os.length := by have := hzn; rw [HOS.out, List.length_map] at this; exact this
                obtain ⟨b, off, hA, lb, hcs⟩ := (Sl.of_own HT6.out.beside.own).2 (by omega)
                subst hA
                have hown := mapI_own (HT6.out.beside.pick 1 rfl)
                have hzN : N6[z] = os[z].1 := by have : N6 = os.map Prod.fst := HOS.out; subst this; simp
                have cz : wr.cell? ⟨b, off + z, none⟩ = some (.int .i64 os[z].1) := by
                  rw [← hzN]
                  exact hcs z _ (by rw [List.getElem?_map, List.getElem?_eq_getElem hzn]; rfl)
                obtain ⟨i1, i2⟩ := HIN.out _ (List.getElem_mem hzo)
                obtain ⟨l1, l2⟩ := HMV.out.look hown i1 (HWF.out _ i1)
                by_cases hz00 : z = 0
                · have hgz : ¬ (z : Int) > 0 := by omega
                  generalize os[z] = o at cz i1 i2 l1 l2
                  obtain ⟨on, ot⟩ := o
                  dsimp only at cz i1 i2 l1 l2
                  have hgt : ¬ ot > tick := by omega
                  clear hcs hzN i1 i2 l2 hz00
                  go_wp2_with (fail)
                  go_roundw
                  case rel => exact ⟨z + 1, by omega, by go_num, HT6.out⟩
                  case measure => simp [intOf] <;> omega
                · obtain ⟨p, hp⟩ : ∃ p, p = z - 1 := ⟨_, rfl⟩
                  have hpo : p < os.length := by omega
                  have hpN : p < N6.length := by omega
                  have hpz : p < z := by omega
                  have hgz : (z : Int) > 0 := by omega
                  have hzp : (z : Int) - 1 = (p : Int) := by omega
                  have hp0 : (0 : Int) ≤ (p : Int) := by omega
                  have hp1 : (p : Int) < (k : Int) := by omega
                  have hpN2 : N6[p] = os[p].1 := by have : N6 = os.map Prod.fst := HOS.out; subst this; simp
                  have cp : wr.cell? ⟨b, off + p, none⟩ = some (.int .i64 os[p].1) := by
                    rw [← hpN2]
                    exact hcs p _ (by rw [List.getElem?_map, List.getElem?_eq_getElem hpN]; rfl)
                  obtain ⟨j1, j2⟩ := HIN.out _ (List.getElem_mem hpo)
                  obtain ⟨_, m2⟩ := HMV.out.look hown j1 (HWF.out _ j1)
                  have hlp := List.pairwise_iff_getElem.1 HPW.out p z hpo hzo hpz
                  generalize os[z] = o at cz i1 i2 l1 l2 hlp
                  generalize os[p] = o2 at cp m2 hlp
                  obtain ⟨on, ot⟩ := o
                  obtain ⟨pn, pt⟩ := o2
                  unfold lessP at hlp
                  dsimp only at cz i1 i2 l1 l2 cp m2 hlp
                  have hgt : ¬ ot > tick := by omega
                  clear hcs hzN hpN2 i1 i2 l2 hz00 hp
                  by_cases hot : pt = ot
                  · have b1 : (ot == pt) = true := by simpa using hot.symm
                    have hlt9 : ¬ ot < pt := by omega
                    rw [if_neg (not_not_intro hot), decide_eq_true_eq] at hlp
                    have hle9 : ¬ on ≤ pn := by omega
                    clear hot hlp
                    go_wp2_with (fail)
                    go_roundw
                    case rel => exact ⟨z + 1, by omega, by go_num, HT6.out⟩
                    case measure => simp [intOf] <;> omega
                  · have b1 : (ot == pt) = false := by simpa using fun e : ot = pt => hot e.symm
                    rw [if_pos hot, decide_eq_true_eq] at hlp
                    have hlt9 : ¬ ot < pt := by omega
                    clear hot hlp
                    go_wp2_with (fail)
                    go_roundw
                    case rel => exact ⟨z + 1, by omega, by go_num, HT6.out⟩
                    case measure => simp [intOf] <;> omega
              · have hzk' : z = k := by omega
                have hlt2 : ¬ (z : Int) < (k : Int) := by omega
                clear hzk'
                go_upto_region 27 with fail
                rw [← HKC.out]
                obtain ⟨m, hm⟩ : ∃ m, m = M.length := ⟨_, rfl⟩
                obtain ⟨m6, hm6⟩ : ∃ m6, m6 = M6.length := ⟨_, rfl⟩
                have hkm : k + m6 = m := by
                  have h1 := len_parts tick M
                  rw [← HC.out, ← HKC.out, ← HM6.out, ← hm6, ← hm] at h1
                  exact h1
                have hmi : (m : Int) - (k : Int) = (m6 : Int) := by omega
                have hmq : m ≤ q := by rw [hm]; exact HMQ.out
                have hlen : ∀ ty, (Builtin.len_ #[26] ty #[.map (some B)]).run Try.prog wr = .ok (.int .i64 m) wr := fun ty => by
                  have h := (mapI_own (HT6.out.beside.pick 1 rfl)).len Try.underlying26 ty
                  rw [HMV.out.size, ← hm] at h
                  exact h
                have HM6L := Lib.hid hm6
                clear hm hm6
                go_wp2_with (fail)
                refine (tlen_at HT6.out).mono ?_
                rintro e w7 ⟨rfl, rfl⟩
                rw [← HM6L.out]
                go_wp2_with (fail)
                refine (tdue_at HT6.out (by omega) tick).mono ?_
                rintro e w7 ⟨A7, c7, N7, M7, rfl, hd7, h7⟩
                have h0 : N7.length = 0 := due_again (M := M) (by rw [← HM6.out]; exact hd7) HMV.out.nd
                rw [h0]
                have HB := Lib.hid h7.bel
                clear h7 hd7 h0
                go_wp2_with (fail)
                go_ret
                exact ⟨rfl, HB.out⟩
          · intro x c w6 cnt1 hwx hwc hlx hat hrg1 hlt1 hg1 hs1 hen
            have H6 := Lib.hid (HTR.out.front (P' := rng B r q D (fun z => left z && !z.sameKey (.int .i64 x)) cnt1) fun L hs => rng_next hs hrg1 hg1)
            have HIN := Lib.hid (show (x, c) ∈ M by
              obtain ⟨y, hy, e⟩ := (HMV.out.has x).1 (has_true_of_atKey hat)
              have h1 := HMV.out.val y hy (.lit (.int .i64 0))
              rw [e, hat] at h1
              injection h1 with h1
              injection h1 with _ h1
              obtain ⟨y1, y2⟩ := y
              simp only at e h1
              rw [← e, h1]
              exact hy)
            have HCS := Lib.hid (cnt_step (tick := tick) HMV.out.nd HIN.out hlx)
            have HML := Lib.hid (show w6.rangeLeft B r < wr.rangeLeft B r by rw [hrg1.left_eq, hrg.left_eq]; exact hlt1)
            clear hwx hwc hlx hat hrg1 hlt1 hg1 hs1 hrg
            by_cases hle : c ≤ tick
            · have HC2 := Lib.hid (show timer.cnt M tick (fun z => left z && !z.sameKey (.int .i64 x)) = ct + 1 by have := HCS.out; rw [if_pos hle, ← HCT.out] at this; exact this)
              go_wp2_with (fail)
              go_roundw
              case rel => exact ⟨_, cnt1, by rw [HC2.out]; go_num, H6.out⟩
              case measure => exact HML.out
            · have HC2 := Lib.hid (show timer.cnt M tick (fun z => left z && !z.sameKey (.int .i64 x)) = ct by have := HCS.out; rw [if_neg hle, ← HCT.out] at this; exact this)
              go_wp2_with (fail)
              go_roundw
              case rel => exact ⟨_, cnt1, by rw [HC2.out], H6.out⟩
              case measure => exact HML.out

/-! ### the row: written by program -/
set_option maxRecDepth 100000 in
theorem lifted (os : Os) (started : os.Started) (H : Type) (enc : TypeId × Value → H) :
    ReturnsInHanded {} Try.checked os 3 .any (Rows.timerOrderSpec.pre6 enc Try.prog Try.f3 Rows.timerOrderRow.domain false) (Rows.timerOrderSpec.post enc Try.prog Try.f3 false true false false) := by
  refine returnsInHanded_of_change (C := Try.checked) Go.Proofs.Ytooagoikiafgcaa.lift.own started (by kernel_rfl) Try.func3
    (ChangeSpec.witness6 (enc := enc) (C := Try.checked) false ⟨#[], #[.slice none 0 0, .int .i64 0], []⟩ 8 (by kernel_rfl) (by kernel_rfl) (by kernel_rfl) (by kernel_rfl)) ?_
  intro W base args ds gs before hval0 hW hcnd _
  have hval : ∀ (j : Nat) t v, Try.f3.params[j]? = some t → args[j]? = some v → Value.okWide Try.prog W .any base t v := hval0
  have hW' := hW
  obtain ⟨p, q, hA0, hV, rfl, hfz, hnd⟩ := hW
  have hA : DataW.TrodAll enc Try.prog W 0 (fun _ => true) true Try.f3.params.toList args.toList ds p := hA0
  have hAk := hA
  rw [Try.params3] at hA hval
  obtain ⟨v0, vs0, d0, ds0, p0, q0, hargs, rfl, rfl, h0, r0⟩ := trodAll_cons hA
  obtain ⟨v1, vs1, d1, ds1, p1, q1, rfl, rfl, rfl, h1, r1⟩ := trodAll_cons r0
  obtain ⟨rfl, rfl, rfl⟩ := trodAll_nil r1
  obtain rfl : args = #[v0, v1] := by cases args; simp_all
  obtain ⟨rfl, rfl⟩ := trodVars_none hV
  have hlt := hW'.lt
  obtain ⟨A1, c1, l1, rfl, hm1, hs1, ho1⟩ := timer.arg_acts (hval 0 22 v0 rfl rfl) h0
  obtain ⟨a1, rfl, _, _, w1⟩ := open_int Try.underlying3 (hval 1 3 v1 rfl rfl) h1
  refine (walk W A1 c1 l1 hm1 hs1 ho1 a1 w1).mono fun e W' ⟨he, hg⟩ => ?_
  subst he
  exact ⟨_, rfl, Go.Proofs.Ytooagoikiafgcaa.base.postBelow (pv := []) hW' (fun _ _ _ => (trodAll_cons_mk (shut_bool Try.underlying4 _) trodAll_mk0)) (fun sp hsp => Go.Proofs.Ytooagoikiafgcaa.lift.args_stay Go.Proofs.Ytooagoikiafgcaa.lift.laidOut hg _ _ _ _ (by kernel_rfl) hAk (fun x hx => hlt x (by simpa using hx)) (fun x hx => hsp x (by simpa using hx))) (fun _ _ => rfl) (by simp)
    hg (ok_one (by kernel_rfl) rfl (okWide_bool_mk Try.underlying4 _))⟩

theorem over : Rows.timerOrderRow.holds Try.pinned (OpenSpec.ofChange Rows.timerOrderSpec) :=
  OpenClaim.holds_of_wide 3 Try.f3 rfl rfl rfl rfl rfl rfl rfl ⟨rfl, rfl, rfl, rfl, rfl⟩ rfl rfl rfl rfl rfl (by kernel_rfl) Try.func3 (by kernel_rfl)
    (of_decide_eq_true (by kernel_rfl)) (by unfold Func.isWrapper; first | (rw [if_pos (by decide +kernel)]; kernel_rfl) | (rw [if_neg (by decide +kernel)]; exact ⟨rfl, rfl⟩))
    (fun os started H enc _ => lifted os started H enc)

/-- THE STATEMENT -/
theorem proved : Rows.TimerOrderSaid :=
  over
#print axioms proved
end Go.Proofs.Ytooagoikiafgcaa.timerOrder
