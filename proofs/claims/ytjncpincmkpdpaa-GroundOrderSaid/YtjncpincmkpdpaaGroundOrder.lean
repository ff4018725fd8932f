/-
  PROVED HERE: longeronlaw21.GroundOrder is true whatever the input: a station that is answered at once sends POpen, each block in order, and PDone, each once, and is through.
  CONDITIONS: none beyond the row's own.
-/
import Derived.Test.YtjncpincmkpdpaaGroundPdu
import Derived.Test.YtjncpincmkpdpaaRows
namespace Go.Proofs.Ytjncpincmkpdpaa.groundOrder
set_option linter.unusedVariables false
open Go.RowKit Go.ChangeShapes Go.WideShapes Go.Deep Go.Proofs.Ytjncpincmkpdpaa.base Go.Proofs.Ytjncpincmkpdpaa.obj Go.Proofs.Ytjncpincmkpdpaa.mem Go.Proofs.Ytjncpincmkpdpaa.plan Go.Proofs.Ytjncpincmkpdpaa.ground

theorem u16_of {z : Int} (h : (Lit.int .u16 z).wf = true) : 0 ≤ z ∧ z ≤ 65535 := by
  have h1 : IntKind.u16.min = 0 := rfl
  have h2 : IntKind.u16.max = 65535 := rfl
  simp only [Lit.wf, Bool.and_eq_true, decide_eq_true_eq] at h
  omega
/-- the station at the k-th round of N + 2 -/
def gst (ses : Int) (b : Value) (N k : Nat) (last : Int) : GS :=
  if k = 0 then ⟨3, ses, b, 1, 0, 0, false, last⟩ else if k ≤ N then ⟨3, ses, b, 2, (k : Int) - 1, 0, false, last⟩ else if k = N + 1 then ⟨3, ses, b, 3, 0, 0, false, last⟩ else ⟨3, ses, b, 4, 0, 0, false, last⟩

theorem gst_sent (ses : Int) (b : Value) (N k : Nat) (last : Int) : (gst ses b N k last).sent = false := by
  unfold gst; repeat' split
  all_goals rfl
theorem gst_ses (ses : Int) (b : Value) (N k : Nat) (last : Int) : (gst ses b N k last).ses = ses := by
  unfold gst; repeat' split
  all_goals rfl
theorem gst_phase (ses : Int) (b : Value) (N k : Nat) (last : Int) : (gst ses b N k last).phase = if k = 0 then 1 else if k ≤ N then 2 else if k = N + 1 then 3 else 4 := by
  unfold gst; repeat' split
  all_goals rfl
theorem gst_no (ses : Int) (b : Value) (N k : Nat) (last : Int) : (gst ses b N k last).mno = if k = 0 then 0 else if k ≤ N then (k : Int) - 1 else 0 := by
  unfold GS.mno gst; repeat' split
  all_goals first | rfl | (dsimp only at *; omega)

/-- acknowledged, it is at the next round -/
theorem gst_on (ses : Int) (b : Value) (n k : Nat) (last tick : Int) (hk : k ≤ (n + 15) / 16 + 1) : ({ gst ses b ((n + 15) / 16) k last with sent := true, last := tick } : GS).on n = gst ses b ((n + 15) / 16) (k + 1) tick := by
  obtain ⟨N, hN⟩ : ∃ N, N = (n + 15) / 16 := ⟨_, rfl⟩
  rw [← hN] at hk ⊢
  by_cases h0 : k = 0
  · subst h0
    rw [show gst ses b N 0 last = ⟨3, ses, b, 1, 0, 0, false, last⟩ from rfl]
    unfold GS.on GS.to gst
    by_cases hn : n = 0
    · subst hn
      have : N = 0 := by omega
      subst this
      rfl
    · dsimp only
      rw [if_pos rfl, if_neg (by omega), if_neg (by omega), if_pos (by omega)]
      rfl
  · by_cases h1 : k ≤ N
    · rw [show gst ses b N k last = ⟨3, ses, b, 2, (k : Int) - 1, 0, false, last⟩ from by unfold gst; rw [if_neg h0, if_pos h1]]
      unfold GS.on GS.to gst
      dsimp only
      rw [if_neg (by omega), if_pos rfl]
      by_cases h2 : k = N
      · rw [if_pos (by omega), if_neg (by omega), if_neg (by omega), if_pos (by omega)]
      · rw [if_neg (by omega), if_neg (by omega), if_pos (by omega)]
        congr 1
        omega
    · have h2 : k = N + 1 := by omega
      rw [show gst ses b N k last = ⟨3, ses, b, 3, 0, 0, false, last⟩ from by unfold gst; rw [if_neg h0, if_neg h1, if_pos h2]]
      unfold GS.on GS.to gst
      dsimp only
      rw [if_neg (by omega), if_neg (by omega), if_pos rfl, if_neg (by omega), if_neg (by omega), if_neg (by omega), if_neg (by omega)]

/-- what stands at the head of each round -/
structure Inv (w : World) (g n : Nat) (xs : List Value) (ses : Int) (b : Value) (k : Nat) (wr : World) : Prop where
  gnd : ∃ last, Gnd wr g (gst ses b ((n + 15) / 16) k last) n xs
  bel : Below w.heap.size w wr
  new : w.heap.size ≤ g

set_option maxRecDepth 100000 in
set_option maxHeartbeats 4000000 in
theorem walk (w : World) (A : Option Addr) (c : Nat) (zs : List Int) (hm : zs.length ≤ maxLen) (hs : Sl w w.heap.size 1 A zs.length (zs.map (Value.int .u8))) (hz : ∀ z ∈ zs, (Lit.int .u8 z).wf = true) (ses : Int) (hses : (Lit.int .u16 ses).wf = true) (late : Int) (hlate : (Lit.int .u8 late).wf = true) :
    Calls Try.prog 3 #[.slice A zs.length c, .int .u16 ses, .int .u8 late] w fun e w' => e = .returned (.bool true) ∧ Below w.heap.size w w' := by
  have hw16 : IntKind.i64.wrap ses = ses := by
    have h := u16_of hses
    rw [IntKind.wrap_i64]
    omega
  have HO := Lib.hid (fun v (hv : v ∈ zs.map (Value.int .u8)) => show v.oneCell' = true by obtain ⟨_, _, rfl⟩ := List.mem_map.1 hv; rfl)
  have HS := Lib.hid hs
  generalize zs.map (Value.int .u8) = xs at HO HS
  clear hs hz hses hlate
  have hm2 := hm
  unfold maxLen at hm2
  generalize zs.length = n at *
  go_enter Try.func3, Try.ntmps3
  go_wp2_with (fail)
  refine (wakes_any _).mono ?_
  rintro e w1 ⟨rfl, hb⟩
  have HB1 := Lib.hid hb
  have HS1 := Lib.hid ((HS.out.below hb).more hb.size)
  clear hb HS
  by_cases hn : n > 300
  · have hn' : (300 : Int) < (n : Int) := by omega
    go_wp2_with (fail)
    go_ret
    exact ⟨rfl, HB1.out⟩
  · have hn' : ¬ (300 : Int) < (n : Int) := by omega
    go_wp2_with (fail)
    refine (new_any _ 3 ses A n c xs HS1.out HO.out (by omega)).mono ?_
    rintro e w2 ⟨g, A2, c2, rfl, hg, h2, hc2, hs2, hb2⟩
    obtain ⟨N, hN⟩ : ∃ N, N = (n + 15) / 16 := ⟨_, rfl⟩
    have hq : ((n : Int) + 15).tdiv 16 = (N : Int) := by rw [hN, Int.tdiv_eq_ediv_of_nonneg (by omega)]; omega
    have HI := Lib.hid (Inv.mk (k := 0) (n := n) (xs := xs) (ses := ses) (b := .slice A2 n c2) (w := w) (wr := w2) (g := g)
      ⟨0, Gnd.mk (xs := xs) (n := n) h2 ⟨A2, c2, rfl, hc2, hs2⟩ HO.out (by omega) ⟨show (0:Int) ≤ 0 by decide, show (0:Int) * 16 ≤ n by omega⟩ ⟨show (1:Int) ≤ 1 by decide, show (1:Int) ≤ 5 by decide⟩⟩ (HB1.out.trans (hb2.mono HB1.out.size)) (Nat.le_trans HB1.out.size hg))
    have HN := Lib.hid hN
    have hN20 : N ≤ 20 := by omega
    clear hg h2 hc2 hs2 hb2 HB1 HS1 hN
    go_wp2_with (fail)
    go_loopw [32, 9] (fun i tk wr => ∃ (k : Nat) (t : Int), k ≤ N + 2 ∧ i = .int .i64 k ∧ tk = .int .i64 t ∧ Inv w g n xs ses (.slice A2 n c2) k wr) (fun i _ _ => N + 2 - (intOf i).toNat)
    case atStart => exact ⟨0, 0, by omega, rfl, rfl, HI.out⟩
    case round =>
      clear HI
      obtain ⟨k, t, hk, rfl, rfl, hi⟩ := hrel
      have HI := Lib.hid hi
      clear hi
      by_cases hlt : k < N + 2
      · have hlt' : (k : Int) < (N : Int) + 2 := by omega
        obtain ⟨last, hG⟩ := HI.out.gnd
        have hN0 := HN.out
        have g1 := gst_sent ses (.slice A2 n c2) ((n + 15) / 16) k last
        have g2 := gst_ses ses (.slice A2 n c2) ((n + 15) / 16) k last
        have g3 := gst_phase ses (.slice A2 n c2) ((n + 15) / 16) k last
        have g4 := gst_no ses (.slice A2 n c2) ((n + 15) / 16) k last
        have g5 := fun tick => gst_on ses (.slice A2 n c2) n k last tick (by omega)
        rw [← hN0] at g1 g2 g3 g4 hG
        simp only [← hN0] at g5
        clear hN0
        generalize hst : gst ses (.slice A2 n c2) N k last = s at g1 g2 g3 g4 g5 hG
        have hp3 : s.phase ≤ 3 := by rw [g3]; repeat' split
                                     all_goals omega
        have HG := Lib.hid hG; have G1 := Lib.hid g1; have G2 := Lib.hid g2; have G3 := Lib.hid g3; have G4 := Lib.hid g4; have G5 := Lib.hid g5; have HP3 := Lib.hid hp3; have HST := Lib.hid hst
        clear hG g1 g2 g3 g4 g5 hp3 hst
        go_wp2_with (fail)
        refine (next_any wr g n s xs HG.out HP3.out G1.out t).mono ?_
        rintro e w3 ⟨v, rfl, hd, h3, k3⟩
        obtain ⟨a, m, rfl⟩ := hd.form
        have HG3 := Lib.hid (fun o => h3.below ((Below.refl w3.heap.size w3).alloc (Nat.le_refl _) o))
        have HB3 := Lib.hid (fun o => (below_trans_kept HI.out.bel k3 HI.out.new).alloc (below_trans_kept HI.out.bel k3 HI.out.new).size o)
        have e2 : s.ses = ses := G2.out
        rw [e2]
        have hgl : g < w3.heap.size := h3.at_.lt
        clear hd h3 k3
        generalize hpt : s.mpart = mpt at *
        generalize hsz : s.msize n = msz at *
        unfold pdu
        by_cases h0 : k = 0
        · have e3 : s.phase = 1 := by rw [G3.out, if_pos h0]
          have e4 : s.mno = 0 := by rw [G4.out, if_pos h0]
          rw [e3, e4]
          have E3 := Lib.hid e3; have E4 := Lib.hid e4; have E2 := Lib.hid e2
          clear e2 e3 e4
          have b0 : ((k : Int) == 0) = true := by subst h0; rfl
          have H0 := Lib.hid h0
          clear h0
          go_wp2_with (fail)
          refine (hear_same _ g n _ xs (HG3.out _) HP3.out ses 0 1 0 0 0 none 0 E2.out.symm E4.out.symm E3.out.symm).mono ?_
          rintro e w4 ⟨rfl, h4, k4⟩
          have HI4 := Lib.hid (Inv.mk (w := w) (wr := w4) (g := g) (k := k + 1) (n := n) (xs := xs) (ses := ses) (b := .slice A2 n c2) ⟨t, by rw [← HN.out]; rw [G5.out] at h4; exact h4⟩ (below_trans_kept (HB3.out _) k4 HI.out.new) HI.out.new)
          clear h4 k4
          go_wp2_with (fail)
          go_roundw
          case rel => exact ⟨k + 1, _, by omega, by go_num, rfl, HI4.out⟩
          case measure => simp [intOf]; omega
        · by_cases h1 : k = N + 1
          · have e3 : s.phase = 3 := by rw [G3.out, if_neg h0, if_neg (by omega), if_pos h1]
            have e4 : s.mno = 0 := by rw [G4.out, if_neg h0, if_neg (by omega)]
            rw [e3, e4]
            have E3 := Lib.hid e3; have E4 := Lib.hid e4; have E2 := Lib.hid e2
            clear e2 e3 e4
            have b0 : ((k : Int) == 0) = false := by simpa using h0
            have b1 : ((k : Int) == (N : Int) + 1) = true := by subst h1; simp
            have H0 := Lib.hid h0; have H1 := Lib.hid h1
            clear h0 h1
            go_wp2_with (fail)
            refine (hear_same _ g n _ xs (HG3.out _) HP3.out ses 0 3 0 0 0 none 0 E2.out.symm E4.out.symm E3.out.symm).mono ?_
            rintro e w4 ⟨rfl, h4, k4⟩
            have HI4 := Lib.hid (Inv.mk (w := w) (wr := w4) (g := g) (k := k + 1) (n := n) (xs := xs) (ses := ses) (b := .slice A2 n c2) ⟨t, by rw [← HN.out]; rw [G5.out] at h4; exact h4⟩ (below_trans_kept (HB3.out _) k4 HI.out.new) HI.out.new)
            clear h4 k4
            go_wp2_with (fail)
            go_roundw
            case rel => exact ⟨k + 1, _, by omega, by go_num, rfl, HI4.out⟩
            case measure => simp [intOf]; omega
          · have e3 : s.phase = 2 := by rw [G3.out, if_neg h0, if_pos (by omega)]
            have e4 : s.mno = (k : Int) - 1 := by rw [G4.out, if_neg h0, if_pos (by omega)]
            rw [e3, e4]
            have E3 := Lib.hid e3; have E4 := Lib.hid e4; have E2 := Lib.hid e2
            clear e2 e3 e4
            have b0 : ((k : Int) == 0) = false := by simpa using h0
            have b1 : ((k : Int) == (N : Int) + 1) = false := by simp; omega
            have H0 := Lib.hid h0; have H1 := Lib.hid h1
            clear h0 h1
            go_wp2_with (fail)
            refine (hear_same _ g n _ xs (HG3.out _) HP3.out ses ((k : Int) - 1) 2 0 0 0 none 0 E2.out.symm E4.out.symm E3.out.symm).mono ?_
            rintro e w4 ⟨rfl, h4, k4⟩
            have HI4 := Lib.hid (Inv.mk (w := w) (wr := w4) (g := g) (k := k + 1) (n := n) (xs := xs) (ses := ses) (b := .slice A2 n c2) ⟨t, by rw [← HN.out]; rw [G5.out] at h4; exact h4⟩ (below_trans_kept (HB3.out _) k4 HI.out.new) HI.out.new)
            clear h4 k4
            go_wp2_with (fail)
            go_roundw
            case rel => exact ⟨k + 1, _, by omega, by go_num, rfl, HI4.out⟩
            case measure => simp [intOf]; omega
      · have hk2 : k = N + 2 := by omega
        have hlt' : ¬ (k : Int) < (N : Int) + 2 := by omega
        obtain ⟨last, hG⟩ := HI.out.gnd
        have g1 := gst_sent ses (.slice A2 n c2) ((n + 15) / 16) k last
        have g3 := gst_phase ses (.slice A2 n c2) ((n + 15) / 16) k last
        have HB := Lib.hid HI.out.bel
        generalize hst : gst ses (.slice A2 n c2) ((n + 15) / 16) k last = s at g1 g3 hG
        have hN0 := HN.out
        have hp4 : s.phase = 4 := by rw [g3, if_neg (by omega), if_neg (by omega), if_neg (by omega)]
        have HG := Lib.hid hG; have G1 := Lib.hid g1; have HP := Lib.hid hp4; have HK2 := Lib.hid hk2
        clear hG g1 g3 hst hp4 hN0 hk2
        go_wp2_with (fail)
        refine (next_over wr g s HG.out.at_ (by rw [HP.out]; decide) G1.out _).mono ?_
        rintro e w3 ⟨rfl, hb⟩
        have HB3 := Lib.hid (HB.out.trans (hb.mono HB.out.size))
        have HG3 := Lib.hid (fun o => (HG.out.below hb).at_.below ((Below.refl w3.heap.size w3).alloc (Nat.le_refl _) o))
        clear hb
        unfold pdu
        go_wp2_with (fail)
        refine (phase_at _ g s (HG3.out _)).mono ?_
        rintro e w4 ⟨rfl, rfl⟩
        rw [HP.out]
        go_wp2_with (fail)
        go_ret
        exact ⟨rfl, HB3.out.alloc HB3.out.size _⟩

/-! ### the row: written by program -/
set_option maxRecDepth 100000 in
theorem lifted (os : Os) (started : os.Started) (H : Type) (enc : TypeId × Value → H) :
    ReturnsInHanded {} Try.checked os 3 .any (Rows.groundOrderSpec.pre6 enc Try.prog Try.f3 Rows.groundOrderRow.domain false) (Rows.groundOrderSpec.post enc Try.prog Try.f3 false true false false) := by
  refine returnsInHanded_of_change (C := Try.checked) Go.Proofs.Ytjncpincmkpdpaa.lift.own started (by kernel_rfl) Try.func3
    (ChangeSpec.witness6 (enc := enc) (C := Try.checked) false ⟨#[], #[.slice none 0 0, .int .u16 0, .int .u8 0], []⟩ 8 (by kernel_rfl) (by kernel_rfl) (by kernel_rfl) (by kernel_rfl)) ?_
  intro W base args ds gs before hval0 hW hcnd _
  have hval : ∀ (j : Nat) t v, Try.f3.params[j]? = some t → args[j]? = some v → Value.okWide Try.prog W .any base t v := hval0
  have hW' := hW
  obtain ⟨p, q, hA0, hV, rfl, hfz, hnd⟩ := hW
  have hA : DataW.TrodAll enc Try.prog W 0 (fun _ => true) true Try.f3.params.toList args.toList ds p := hA0
  have hAk := hA
  rw [Try.params3] at hA hval
  obtain ⟨v0, vs0, d0, ds0, p0, q0, hargs, rfl, rfl, h0, r0⟩ := trodAll_cons hA
  obtain ⟨v1, vs1, d1, ds1, p1, q1, rfl, rfl, rfl, h1, r1⟩ := trodAll_cons r0
  obtain ⟨v2, vs2, d2, ds2, p2, q2, rfl, rfl, rfl, h2, r2⟩ := trodAll_cons r1
  obtain ⟨rfl, rfl, rfl⟩ := trodAll_nil r2
  obtain rfl : args = #[v0, v1, v2] := by cases args; simp_all
  obtain ⟨rfl, rfl⟩ := trodVars_none hV
  have hlt := hW'.lt
  obtain ⟨A0, c0, z0, rfl, hm0, hs0, hz0⟩ := Go.Proofs.Ytjncpincmkpdpaa.lift.arg_ints Try.underlying22 Try.underlying5 (by kernel_rfl) (hval 0 22 v0 rfl rfl) h0
  obtain ⟨a1, rfl, _, _, w1⟩ := open_int Try.underlying23 (hval 1 23 v1 rfl rfl) h1
  obtain ⟨a2, rfl, _, _, w2⟩ := open_int Try.underlying5 (hval 2 5 v2 rfl rfl) h2
  refine (walk W A0 c0 z0 hm0 hs0 hz0 a1 w1 a2 w2).mono fun e W' ⟨he, hg⟩ => ?_
  subst he
  exact ⟨_, rfl, Go.Proofs.Ytjncpincmkpdpaa.base.postBelow (pv := []) hW' (fun _ _ _ => (trodAll_cons_mk (shut_bool Try.underlying4 _) trodAll_mk0)) (fun sp hsp => Go.Proofs.Ytjncpincmkpdpaa.lift.args_stay Go.Proofs.Ytjncpincmkpdpaa.lift.laidOut hg _ _ _ _ (by kernel_rfl) hAk (fun x hx => hlt x (by simpa using hx)) (fun x hx => hsp x (by simpa using hx))) (fun _ _ => rfl) (by simp)
    hg (ok_one (by kernel_rfl) rfl (okWide_bool_mk Try.underlying4 _))⟩

theorem over : Rows.groundOrderRow.holds Try.pinned (OpenSpec.ofChange Rows.groundOrderSpec) :=
  OpenClaim.holds_of_wide 3 Try.f3 rfl rfl rfl rfl rfl rfl rfl ⟨rfl, rfl, rfl, rfl, rfl⟩ rfl rfl rfl rfl rfl (by kernel_rfl) Try.func3 (by kernel_rfl)
    (of_decide_eq_true (by kernel_rfl)) (by unfold Func.isWrapper; first | (rw [if_pos (by decide +kernel)]; kernel_rfl) | (rw [if_neg (by decide +kernel)]; exact ⟨rfl, rfl⟩))
    (fun os started H enc _ => lifted os started H enc)

/-- THE STATEMENT -/
theorem proved : Rows.GroundOrderSaid :=
  over
#print axioms proved
end Go.Proofs.Ytjncpincmkpdpaa.groundOrder
