/-
  PROVED HERE: for all acts l and every uint8 keep, longeronlaw18.TimerStops(l, keep) returns true and leaves memory as it was.
  CONDITIONS: none.
-/
import Derived.Test.YtooagoikiafgcaaTimerLaw
namespace Go.Proofs.Ytooagoikiafgcaa.timerStops
set_option linter.unusedVariables false
open Go.RowKit Go.ChangeShapes Go.WideShapes Go.ChangeAt Go.Deep Go.Joins Go.Proofs.Ytooagoikiafgcaa.base Go.Proofs.Ytooagoikiafgcaa.obj Go.Proofs.Ytooagoikiafgcaa.mem Go.Proofs.Ytooagoikiafgcaa.sep Go.Proofs.Ytooagoikiafgcaa.plan Go.Proofs.Ytooagoikiafgcaa.timer

set_option maxRecDepth 100000 in
set_option maxHeartbeats 8000000 in
theorem walk (w : World) (A : Option Addr) (c : Nat) (l : List ActT) (hm : l.length ≤ maxLen) (hs : Sl w w.heap.size 3 A l.length (actCells l)) (ho : ∀ a ∈ l, a.Ok) (keep : Int) (wk : (Lit.int .u8 keep).wf = true) :
    Calls Try.prog 5 #[.slice A l.length c, .int .u8 keep] w fun e w' => e = .returned (.bool true) ∧ Below w.heap.size w w' := by
  obtain ⟨kp0, kp1⟩ := wf_u8 wk
  have HS := Lib.hid hs; have HO := Lib.hid ho
  obtain ⟨n, hn⟩ : ∃ n, n = l.length := ⟨_, rfl⟩
  rw [← hn] at HS ⊢
  have HN := Lib.hid hn
  have hmax : n ≤ maxLen := by omega
  clear wk hm hs ho hn
  by_cases hbig : n > 100
  · have hbig' : (n : Int) > 100 := by omega
    clear hbig
    go_enter Try.func5, Try.ntmps5
    go_wp2_with (fail)
    refine (timer.wakes _).mono ?_
    rintro e w1 ⟨rfl, hb⟩
    have HB := Lib.hid hb
    clear hb
    go_wp2_with (fail)
    go_ret
    exact ⟨rfl, HB.out⟩
  · have hbig' : ¬ (n : Int) > 100 := by omega
    have hn100 : n ≤ 100 := by omega
    clear hbig
    go_enter Try.func5, Try.ntmps5
    go_wp2_with (fail)
    refine (timer.wakes _).mono ?_
    rintro e w1 ⟨rfl, hb⟩
    have H1 := Lib.hid ((St.nil w).below hb)
    clear hb
    go_wp2_with (fail)
    refine (tnew_at H1.out).mono ?_
    rintro e w2 ⟨T, rfl, h2⟩
    have H2 := Lib.hid h2
    clear h2
    go_wp2_with (fail)
    go_loopw [22] (fun i wr => ∃ (q : Nat) (M : List (Int × Int)), q ≤ n ∧ i = .int .i64 q ∧ TS w wr T q M [] ∧ SetOk l M) (fun i _ => n - (intOf i).toNat)
    case atStart => exact ⟨0, [], by omega, rfl, H2.out, SetOk.nil l⟩
    case round =>
      obtain ⟨q, M, hq, rfl, hts, hok⟩ := hrel
      have HT := Lib.hid hts; have HK := Lib.hid hok
      clear hts hok H2
      by_cases hlt : q < n
      · have hlt' : (q : Int) < (n : Int) := by omega
        have hq0 : (0 : Int) ≤ (q : Int) := by omega
        have hql : q < l.length := by rw [← HN.out]; exact hlt
        obtain ⟨b, off, rfl, lb, hac⟩ := act_at (by rw [HN.out] at HS; exact HS.out) HT.out.bel hql
        have HAI := Lib.hid (List.getElem_mem hql)
        have HAO := Lib.hid (HO.out _ (List.getElem_mem hql))
        generalize l[q] = a at hac HAI HAO
        obtain ⟨ak, an, at_⟩ := a
        have a0 : wr.cell? ⟨b, off + q * 3, none⟩ = some (.int .i64 ak) := by have := hac 0 _ (by omega) rfl; simpa using this
        have a1 := hac 1 _ (by omega) rfl
        have a2 := hac 2 _ (by omega) rfl
        clear hac
        go_upto_region 9 with fail
        obtain ⟨w5, hw5⟩ : ∃ w5, w5 = wr.alloc (.cells #[.int .i64 ak, .int .i64 an, .int .i64 at_] 28) := ⟨_, rfl⟩
        obtain ⟨Z, hZ⟩ : ∃ Z, Z = wr.heap.size := ⟨_, rfl⟩
        have H5 := Lib.hid (show TS w w5 T q M [row Z 28 [.int .i64 ak, .int .i64 an, .int .i64 at_]] by
          rw [hw5, hZ]
          exact HT.out.addRow ((Below.refl _ _).alloc (Nat.le_refl _) _) (Row.new wr _ _) (Nat.le_refl _))
        have HW5 := Lib.hid hw5; have HZ := Lib.hid hZ
        clear hw5 hZ HT
        rw [← HW5.out, ← HZ.out]
        have z1 : w5.cell? ⟨Z, 1, none⟩ = some (.int .i64 an) := H5.out.beside.row.1.cell 1
        have z2 : w5.cell? ⟨Z, 2, none⟩ = some (.int .i64 at_) := H5.out.beside.row.1.cell 2
        have lz : Z < w5.heap.size := H5.out.beside.row.1.lt
        clear a0 a1 a2 lb
        have hwn : (Lit.int .i64 an).wf = true := HAO.out.name
        have HSET := Lib.hid (tset_at H5.out (by omega) an at_ hwn)
        have HK2 := Lib.hid (HK.out.set HAI.out)
        clear hwn
        go_wp2_with (fail)
        refine HSET.out.mono ?_
        rintro e w6 ⟨rfl, h6⟩
        have H6 := Lib.hid (show TS w w6 T (q + 1) (setM M an at_) [] from h6.side fun L h => by
          have h2 := h.perm (List.perm_append_comm (l₁ := L) (l₂ := [_]))
          rw [List.append_nil]
          exact h2.drop)
        clear h6
        go_wp2_with (fail)
        go_roundw
        case rel => exact ⟨q + 1, _, by omega, by go_num, H6.out, HK2.out⟩
        case measure => simp [intOf] <;> omega
      · have hqn : q = n := by omega
        have hlt' : ¬ (q : Int) < (n : Int) := by omega
        clear hqn
        go_wp2_with (fail)
        go_loopw [35] (fun i wr => ∃ (r : Nat) (M : List (Int × Int)), r ≤ n ∧ i = .int .i64 r ∧ TS w wr T q M [] ∧ StopsI (fun x => x % 2 = keep % 2) l r M) (fun i _ => n - (intOf i).toNat)
        case atStart => exact ⟨0, M, by omega, rfl, HT.out, HK.out, fun i _ h => absurd h (by omega)⟩
        case round =>
          obtain ⟨r, M, hr, rfl, hts, hsi⟩ := hrel
          clear HT HK
          have HT := Lib.hid hts; have HSI := Lib.hid hsi
          clear hts hsi
          clear hlt' hlt
          by_cases hlt : r < n
          · have hlt' : (r : Int) < (n : Int) := by omega
            have hr0 : (0 : Int) ≤ (r : Int) := by omega
            have hrl : r < l.length := by rw [← HN.out]; exact hlt
            obtain ⟨b, off, rfl, lb, hac⟩ := act_at (by rw [HN.out] at HS; exact HS.out) HT.out.bel hrl
            have HAO := Lib.hid (HO.out _ (List.getElem_mem hrl))
            have HGO := Lib.hid (fun hp => HSI.out.go hrl hp)
            have HST := Lib.hid (fun hp => HSI.out.stay hrl hp)
            generalize l[r] = a at hac HAO HGO HST
            obtain ⟨ak, an, at_⟩ := a
            have a0 : wr.cell? ⟨b, off + r * 3, none⟩ = some (.int .i64 ak) := by have := hac 0 _ (by omega) rfl; simpa using this
            have a1 := hac 1 _ (by omega) rfl
            have a2 := hac 2 _ (by omega) rfl
            clear hac
            go_upto_region 14 with fail
            obtain ⟨w5, hw5⟩ : ∃ w5, w5 = wr.alloc (.cells #[.int .i64 ak, .int .i64 an, .int .i64 at_] 28) := ⟨_, rfl⟩
            obtain ⟨Z, hZ⟩ : ∃ Z, Z = wr.heap.size := ⟨_, rfl⟩
            have H5 := Lib.hid (show TS w w5 T q M [row Z 28 [.int .i64 ak, .int .i64 an, .int .i64 at_]] by
              rw [hw5, hZ]
              exact HT.out.addRow ((Below.refl _ _).alloc (Nat.le_refl _) _) (Row.new wr _ _) (Nat.le_refl _))
            have HW5 := Lib.hid hw5; have HZ := Lib.hid hZ
            clear hw5 hZ HT
            rw [← HW5.out, ← HZ.out]
            have z1 : w5.cell? ⟨Z, 1, none⟩ = some (.int .i64 an) := H5.out.beside.row.1.cell 1
            have lz : Z < w5.heap.size := H5.out.beside.row.1.lt
            clear a0 a1 a2 lb
            have hb1 := Go.Proofs.Ytooagoikiafgcaa.bits.and_one an
            have hb2 := Go.Proofs.Ytooagoikiafgcaa.bits.and_one keep
            have hk256 : (keep : Int) % 256 = keep := by omega
            have hwn : (Lit.int .i64 an).wf = true := HAO.out.name
            have HSTOP := Lib.hid (tstop_at H5.out (by omega) an hwn)
            clear hwn
            obtain ⟨x, hx⟩ : ∃ x, x = an % 2 := ⟨_, rfl⟩
            obtain ⟨y, hy⟩ : ∃ y, y = keep % 2 := ⟨_, rfl⟩
            rw [← hx] at hb1
            rw [← hy] at hb2
            have HX := Lib.hid hx; have HY := Lib.hid hy
            clear hx hy
            by_cases hxy : x = y
            · have hb3 : (x == y) = true := by simpa using hxy
              have HI := Lib.hid (HGO.out (by rw [← HX.out, ← HY.out]; exact hxy))
              clear hxy
              go_wp2_with (fail)
              refine HSTOP.out.mono ?_
              rintro e w6 ⟨rfl, h6⟩
              have H6 := Lib.hid (show TS w w6 T q (stopM M an) [] from h6.side fun L h => by
                have h2 := h.perm (List.perm_append_comm (l₁ := L) (l₂ := [_]))
                rw [List.append_nil]
                exact h2.drop)
              clear h6
              go_wp2_with (fail)
              go_roundw
              case rel => exact ⟨r + 1, _, by omega, by go_num, H6.out, HI.out⟩
              case measure => simp [intOf] <;> omega
            · have hb3 : (x == y) = false := by simpa using hxy
              have HI := Lib.hid (HST.out (by rw [← HX.out, ← HY.out]; exact hxy))
              have H6 := Lib.hid (show TS w w5 T q M [] from H5.out.side fun L h => by
                have h2 := h.perm (List.perm_append_comm (l₁ := L) (l₂ := [_]))
                rw [List.append_nil]
                exact h2.drop)
              clear hxy
              go_wp2_with (fail)
              go_roundw
              case rel => exact ⟨r + 1, _, by omega, by go_num, H6.out, HI.out⟩
              case measure => simp [intOf] <;> omega
          · have hrn : r = n := by omega
            have hlt' : ¬ (r : Int) < (n : Int) := by omega
            have HE := Lib.hid (show ∀ x ∈ M, ¬ x.1 % 2 = keep % 2 from StopsI.end_ (p := fun x => x % 2 = keep % 2) (by rw [← HN.out, ← hrn]; exact HSI.out))
            have HTK := Lib.hid (show ∀ x ∈ M, x.2 ≤ 9223372036854775807 from fun x hx => by
              obtain ⟨a, ha, _, e⟩ := HSI.out.ok.from_ x hx
              rw [← e]
              exact (wf_i64 (HO.out a ha).tick).2)
            clear hrn
            go_wp2_with (fail)
            refine (tdue_at HT.out (by omega) 9223372036854775807).mono ?_
            rintro e w6 ⟨A, c, names, M', rfl, hd, hs⟩
            obtain ⟨e1, e2⟩ := hd.all HTK.out
            subst e1
            have HNM := Lib.hid e2; have H6 := Lib.hid hs
            clear e2 hs hd
            obtain ⟨k, hk⟩ : ∃ k, k = names.length := ⟨_, rfl⟩
            have HKL := Lib.hid hk
            rw [← hk] at H6 ⊢
            clear hk
            have hkm : k ≤ 9223372036854775807 := by
              obtain ⟨_, _, e0, hc0, hc1⟩ := own_form H6.out.beside.own
              injection e0 with _ _ e3
              unfold maxLen at hc1
              omega
            go_wp2_with (fail)
            go_loopw [54] (fun i wr => ∃ (z : Nat), z ≤ k ∧ i = .int .i64 z ∧ TS w wr T q [] [own 3 1 (.slice A k c) k (names.map (.int .i64))]) (fun i _ => k - (intOf i).toNat)
            case atStart => exact ⟨0, by omega, rfl, H6.out⟩
            case round =>
              obtain ⟨z, hz, rfl, hts⟩ := hrel
              have HT := Lib.hid hts
              clear hts H6
              clear hlt' hlt
              by_cases hlt : z < k
              · have hlt' : (z : Int) < (k : Int) := by omega
                have hz0 : (0 : Int) ≤ (z : Int) := by omega
                have hzl : z < names.length := by rw [← HKL.out]; exact hlt
                obtain ⟨b, off, hA, lb, hcs⟩ := (Sl.of_own HT.out.beside.own).2 (by omega)
                subst hA
                have cz : wr.cell? ⟨b, off + z, none⟩ = some (.int .i64 names[z]) := hcs z _ (by rw [List.getElem?_map, List.getElem?_eq_getElem hzl]; rfl)
                have HM := Lib.hid (show ¬ names[z] % 2 = keep % 2 by
                  obtain ⟨x, hx, e⟩ := HNM.out _ (List.getElem_mem hzl)
                  rw [← e]
                  exact HE.out x hx)
                generalize names[z] = nm at cz HM
                have hb1 := Go.Proofs.Ytooagoikiafgcaa.bits.and_one nm
                have hb2 := Go.Proofs.Ytooagoikiafgcaa.bits.and_one keep
                have hk256 : (keep : Int) % 256 = keep := by omega
                obtain ⟨x, hx⟩ : ∃ x, x = nm % 2 := ⟨_, rfl⟩
                obtain ⟨y, hy⟩ : ∃ y, y = keep % 2 := ⟨_, rfl⟩
                have hb3 : (x == y) = false := by rw [hx, hy]; simpa using HM.out
                rw [← hx] at hb1
                rw [← hy] at hb2
                clear hx hy hcs
                go_wp2_with (fail)
                go_roundw
                case rel => exact ⟨z + 1, by omega, by go_num, HT.out⟩
                case measure => simp [intOf] <;> omega
              · have hlt' : ¬ (z : Int) < (k : Int) := by omega
                go_wp2_with (fail)
                refine (tnext_nx HT.out).mono ?_
                intro e w7 hb
                obtain ⟨⟨nx, is, rfl, hnx⟩, rfl⟩ := hb
                cases hnx with
                | some o h => exact absurd h.1 (by simp)
                | none _ =>
                  go_wp2_with (fail)
                  refine (tlen_at HT.out).mono ?_
                  rintro e w8 ⟨rfl, rfl⟩
                  go_wp2_with (fail)
                  go_ret
                  exact ⟨by simp, HT.out.bel⟩

/-! ### the row: written by program -/
set_option maxRecDepth 100000 in
theorem lifted (os : Os) (started : os.Started) (H : Type) (enc : TypeId × Value → H) :
    ReturnsInHanded {} Try.checked os 5 .any (Rows.timerStopsSpec.pre6 enc Try.prog Try.f5 Rows.timerStopsRow.domain false) (Rows.timerStopsSpec.post enc Try.prog Try.f5 false true false false) := by
  refine returnsInHanded_of_change (C := Try.checked) Go.Proofs.Ytooagoikiafgcaa.lift.own started (by kernel_rfl) Try.func5
    (ChangeSpec.witness6 (enc := enc) (C := Try.checked) false ⟨#[], #[.slice none 0 0, .int .u8 0], []⟩ 8 (by kernel_rfl) (by kernel_rfl) (by kernel_rfl) (by kernel_rfl)) ?_
  intro W base args ds gs before hval0 hW hcnd _
  have hval : ∀ (j : Nat) t v, Try.f5.params[j]? = some t → args[j]? = some v → Value.okWide Try.prog W .any base t v := hval0
  have hW' := hW
  obtain ⟨p, q, hA0, hV, rfl, hfz, hnd⟩ := hW
  have hA : DataW.TrodAll enc Try.prog W 0 (fun _ => true) true Try.f5.params.toList args.toList ds p := hA0
  have hAk := hA
  rw [Try.params5] at hA hval
  obtain ⟨v0, vs0, d0, ds0, p0, q0, hargs, rfl, rfl, h0, r0⟩ := trodAll_cons hA
  obtain ⟨v1, vs1, d1, ds1, p1, q1, rfl, rfl, rfl, h1, r1⟩ := trodAll_cons r0
  obtain ⟨rfl, rfl, rfl⟩ := trodAll_nil r1
  obtain rfl : args = #[v0, v1] := by cases args; simp_all
  obtain ⟨rfl, rfl⟩ := trodVars_none hV
  have hlt := hW'.lt
  obtain ⟨A1, c1, l1, rfl, hm1, hs1, ho1⟩ := timer.arg_acts (hval 0 22 v0 rfl rfl) h0
  obtain ⟨a1, rfl, _, _, w1⟩ := open_int Try.underlying5 (hval 1 5 v1 rfl rfl) h1
  refine (walk W A1 c1 l1 hm1 hs1 ho1 a1 w1).mono fun e W' ⟨he, hg⟩ => ?_
  subst he
  exact ⟨_, rfl, Go.Proofs.Ytooagoikiafgcaa.base.postBelow (pv := []) hW' (fun _ _ _ => (trodAll_cons_mk (shut_bool Try.underlying4 _) trodAll_mk0)) (fun sp hsp => Go.Proofs.Ytooagoikiafgcaa.lift.args_stay Go.Proofs.Ytooagoikiafgcaa.lift.laidOut hg _ _ _ _ (by kernel_rfl) hAk (fun x hx => hlt x (by simpa using hx)) (fun x hx => hsp x (by simpa using hx))) (fun _ _ => rfl) (by simp)
    hg (ok_one (by kernel_rfl) rfl (okWide_bool_mk Try.underlying4 _))⟩

theorem over : Rows.timerStopsRow.holds Try.pinned (OpenSpec.ofChange Rows.timerStopsSpec) :=
  OpenClaim.holds_of_wide 5 Try.f5 rfl rfl rfl rfl rfl rfl rfl ⟨rfl, rfl, rfl, rfl, rfl⟩ rfl rfl rfl rfl rfl (by kernel_rfl) Try.func5 (by kernel_rfl)
    (of_decide_eq_true (by kernel_rfl)) (by unfold Func.isWrapper; first | (rw [if_pos (by decide +kernel)]; kernel_rfl) | (rw [if_neg (by decide +kernel)]; exact ⟨rfl, rfl⟩))
    (fun os started H enc _ => lifted os started H enc)

/-- THE STATEMENT -/
theorem proved : Rows.TimerStopsSaid :=
  over
#print axioms proved
end Go.Proofs.Ytooagoikiafgcaa.timerStops
