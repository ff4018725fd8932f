/-
  PROVED HERE: for all lists l of acts and every uint8 other, longeronlaw11.StageApart(l, other) returns true and leaves memory as it was.
  CONDITIONS: none.
-/
import Derived.Test.YtooagoikiafgcaaStageTwo
namespace Go.Proofs.Ytooagoikiafgcaa.stageApart
set_option linter.unusedVariables false
open Go.RowKit Go.ChangeShapes Go.WideShapes Go.ChangeAt Go.Deep Go.Joins Go.Proofs.Ytooagoikiafgcaa.base Go.Proofs.Ytooagoikiafgcaa.obj Go.Proofs.Ytooagoikiafgcaa.mem Go.Proofs.Ytooagoikiafgcaa.crc Go.Proofs.Ytooagoikiafgcaa.disk Go.Proofs.Ytooagoikiafgcaa.record Go.Proofs.Ytooagoikiafgcaa.bits Go.Proofs.Ytooagoikiafgcaa.sep Go.Proofs.Ytooagoikiafgcaa.plan Go.Proofs.Ytooagoikiafgcaa.bytes Go.Proofs.Ytooagoikiafgcaa.stage Go.Proofs.Ytooagoikiafgcaa.same

def apA : List Int := fillL 3 16
def apB : List Int := fillL 9 16
def apC : List Int := fillL 7 16
def apR0 : RS := ⟨true, ⟨5, 33, 0⟩, [[], [], []]⟩
def apR1 : RS := ⟨true, ⟨5, 33, 2⟩, [[], apB, []]⟩
def apR2 : RS := ⟨true, ⟨5, 33, 3⟩, [apA, apB, []]⟩
def apR3 : RS := ⟨true, ⟨5, 33, 7⟩, [apA, apB, apC]⟩
def apD : List Int := (apA ++ (apB ++ apC)).take 33
theorem ap_1 : beginR RS.none 5 33 = (0, apR0) := by decide
theorem ap_2 : putR apR0 5 1 apB = (0, apR1) := by decide
theorem ap_3 : putR apR1 5 0 apA = (0, apR2) := by decide
theorem ap_4 : putR apR2 5 2 apC = (0, apR3) := by decide
theorem ap_5 : bytesR apR3 = (apD, 0) := by decide
theorem ap_len : apD.length = 33 := by decide
theorem ap_apart {p k : Int} (p0 : 0 ≤ p) (k0 : 0 ≤ k) (k1 : k < 2) (hne : ¬ (p = 2 ∧ k = 0)) : Apart p k 2 0 ∧ Apart 2 0 p k := by
  constructor
  · intro j hj
    unfold stage.Outside sAt at *
    omega
  · intro j hj
    unfold stage.Outside sAt at *
    omega

set_option maxRecDepth 100000 in
set_option maxHeartbeats 16000000 in
theorem walk (w : World) (A : Option Addr) (c : Nat) (l : List ActS) (hm : l.length ≤ maxLen) (hs : Sl w w.heap.size 7 A l.length (actCells l)) (hok : ∀ a ∈ l, a.Ok) (ot : Int) (wo : (Lit.int .u8 ot).wf = true) :
    Calls Try.prog 10 #[.slice A l.length c, .int .u8 ot] w fun e w' => e = .returned (.bool true) ∧ Below w.heap.size w w' := by
  obtain ⟨o0, o1⟩ := wf_u8 wo
  have HS := Lib.hid hs; have HOK := Lib.hid hok
  unfold maxLen at hm
  clear wo hs hok
  obtain ⟨n, hn⟩ : ∃ n, n = l.length := ⟨_, rfl⟩
  rw [← hn] at hm HS ⊢
  have HN := Lib.hid hn
  clear hn
  by_cases hbig : n > 40
  · have hbig' : (n : Int) > 40 := by omega
    clear hbig
    go_enter Try.func10, Try.ntmps10
    go_wp2_with (fail)
    refine (stage.wakes _).mono ?_
    rintro e w1 ⟨rfl, hb⟩
    have HB := Lib.hid hb
    clear hb
    go_wp2_with (fail)
    go_ret
    exact ⟨rfl, HB.out⟩
  · have hbig' : ¬ (n : Int) > 40 := by omega
    have hn40 : n ≤ 40 := by omega
    clear hbig
    obtain ⟨p, hp⟩ : ∃ p : Int, p = ot / 2 % 4 := ⟨_, rfl⟩
    obtain ⟨kk, hkk⟩ : ∃ k : Int, k = ot % 2 := ⟨_, rfl⟩
    obtain ⟨k, hk⟩ : ∃ k : Int, k = if p = 2 ∧ kk = 0 then 1 else kk := ⟨_, rfl⟩
    have p0 : 0 ≤ p := by omega
    have p4 : p < 4 := by omega
    have kk0 : 0 ≤ kk := by omega
    have kk2 : kk < 2 := by omega
    have k0 : 0 ≤ k := by rw [hk]; split <;> omega
    have k2 : k < 2 := by rw [hk]; split <;> omega
    have hne : ¬ (p = 2 ∧ k = 0) := by rw [hk]; split <;> omega
    have HP := Lib.hid hp; have HKK := Lib.hid hkk; have HK := Lib.hid hk
    have HAP := Lib.hid (ap_apart p0 k0 k2 hne)
    have HRM := Lib.hid (show hasRoom p k 40 = true by unfold hasRoom dAt; simp only [decide_eq_true_eq]; omega)
    clear hp hkk hk hne
    go_enter Try.func10, Try.ntmps10
    go_wp2_with (fail)
    refine (stage.wakes _).mono ?_
    rintro e w1 ⟨rfl, hb⟩
    have H1 := Lib.hid ((St.nil w).below hb)
    clear hb
    go_wp2_with (fail)
    refine (dsk_new H1.out 40).mono ?_
    rintro e w2 ⟨d, rfl, h2⟩
    have H2 := Lib.hid (show St w w2 [dsk d (DS.new 40)] from h2)
    clear h2
    go_upto_region 7 with fail
    rw [← HP.out, ← HKK.out]
    go_cut [36] (fun s wc => s = .bool (decide (p = 2 ∧ kk = 0)) ∧ wc = w2)
    case first =>
      by_cases q1 : p = 2
      · have q1' : (p == 2) = true := by simpa using q1
        by_cases q2 : kk = 0
        · have q2' : (kk == 0) = true := by simpa using q2
          go_wp2_with (fail)
          go_meet
          exact ⟨by simp [q1, q2], rfl⟩
        · have q2' : (kk == 0) = false := by simpa using q2
          go_wp2_with (fail)
          go_meet
          exact ⟨by simp [q1, q2], rfl⟩
      · have q1' : (p == 2) = false := by simpa using q1
        go_wp2_with (fail)
        go_meet
        exact ⟨by simp [q1], rfl⟩
    case rest =>
    obtain ⟨rfl, hwc⟩ := hcut
    rw [hwc]
    clear hwc
    go_upto_if 36 with fail
    go_cut [7] (fun s wc => s = .int .i64 k ∧ wc = w2)
    case first =>
      by_cases q : p = 2 ∧ kk = 0
      · have q' : decide (p = 2 ∧ kk = 0) = true := by simpa using q
        go_wp2_with (fail)
        go_meet
        exact ⟨by rw [HK.out, if_pos q], rfl⟩
      · have q' : decide (p = 2 ∧ kk = 0) = false := by simpa using q
        go_wp2_with (fail)
        go_meet
        exact ⟨by rw [HK.out, if_neg q], rfl⟩
    case rest =>
    obtain ⟨rfl, hwc⟩ := hcut
    rw [hwc]
    clear hwc
    go_wp2_with (fail)
    refine (live_open H2.out (by omega) (by omega) HRM.out).mono ?_
    rintro e w3 ⟨go, rfl, h3⟩
    have H3 := Lib.hid h3
    clear h3
    go_wp2_with (fail)
    refine (open_at (H3.out.st.pick 1 rfl) 2 0 (by decide) rfl (by simp [DS.new]) (DS.new_bts 40)).mono ?_
    rintro e w4 ⟨g, rfl, h4⟩
    have BS := blank_si (n := 40) (p := 2) (k := 0) (by omega) (by omega) (by decide)
    rw [BS.2] at h4
    have H4 := Lib.hid (show Both w w4 go d g p k 2 0 (DS.new 40) SlS.none RS.none SlS.none RS.none [] from (show Both w w4 g d go 2 0 p k (DS.new 40) SlS.none RS.none SlS.none RS.none [] from ⟨h4, BS.1, H3.out.si, H3.out.up⟩).flip)
    clear h4 BS
    go_wp2_with (fail)
    refine (both_begin H4.out HAP.out.1 5 33).mono ?_
    rintro e w5 ⟨he, m5, s5, h5, _⟩
    rw [ap_1] at he h5
    subst he
    have H5 := Lib.hid h5
    clear h5
    go_wp2_with (fail)
    refine (fill_st H5.out.st 9 (by omega) (by omega) false).mono ?_
    rintro e w6 ⟨g6, c6, x6, rfl, hl6, hc6, ht6, hg6, h6⟩
    have H6 := Lib.hid (show Both w w6 go d g p k 2 0 m5 s5 apR0 SlS.none RS.none [row g6 5 x6] from ⟨((h6.pick 3 rfl).pick 3 rfl).pick 3 rfl, H5.out.si, H5.out.so, H5.out.up⟩)
    have HG6 := Lib.hid (show Gives w (row g6 5 x6) (some ⟨g6, 0, none⟩) 16 apB from hg6)
    clear h6 hl6 hc6 ht6 hg6
    unfold fillN
    go_wp2_with (fail)
    refine (both_put H6.out HAP.out.1 HG6.out (fillL_byt _ _) 5 1).mono ?_
    rintro e w7 ⟨he, m7, s7, h7, _⟩
    rw [ap_2] at he h7
    subst he
    have H7 := Lib.hid (show Both w w7 go d g p k 2 0 m7 s7 apR1 SlS.none RS.none [] from ⟨h7.st.take 3, h7.si, h7.so, h7.up⟩)
    clear h7
    go_wp2_with (fail)
    refine (fill_st H7.out.st 3 (by omega) (by omega) false).mono ?_
    rintro e w8 ⟨g8, c8, x8, rfl, hl8, hc8, ht8, hg8, h8⟩
    have H8 := Lib.hid (show Both w w8 go d g p k 2 0 m7 s7 apR1 SlS.none RS.none [row g8 5 x8] from ⟨((h8.pick 3 rfl).pick 3 rfl).pick 3 rfl, H7.out.si, H7.out.so, H7.out.up⟩)
    have HG8 := Lib.hid (show Gives w (row g8 5 x8) (some ⟨g8, 0, none⟩) 16 apA from hg8)
    clear h8 hl8 hc8 ht8 hg8
    unfold fillN
    go_wp2_with (fail)
    refine (both_put H8.out HAP.out.1 HG8.out (fillL_byt _ _) 5 0).mono ?_
    rintro e w9 ⟨he, m9, s9, h9, _⟩
    rw [ap_3] at he h9
    subst he
    have H9 := Lib.hid (show Both w w9 go d g p k 2 0 m9 s9 apR2 SlS.none RS.none [] from ⟨h9.st.take 3, h9.si, h9.so, h9.up⟩)
    clear h9
    go_wp2_with (fail)
    refine (fill_st H9.out.st 7 (by omega) (by omega) false).mono ?_
    rintro e w10 ⟨g10, c10, x10, rfl, hl10, hc10, ht10, hg10, h10⟩
    have H10 := Lib.hid (show Both w w10 go d g p k 2 0 m9 s9 apR2 SlS.none RS.none [row g10 5 x10] from ⟨((h10.pick 3 rfl).pick 3 rfl).pick 3 rfl, H9.out.si, H9.out.so, H9.out.up⟩)
    have HG10 := Lib.hid (show Gives w (row g10 5 x10) (some ⟨g10, 0, none⟩) 16 apC from hg10)
    clear h10 hl10 hc10 ht10 hg10
    unfold fillN
    go_wp2_with (fail)
    refine (both_put H10.out HAP.out.1 HG10.out (fillL_byt _ _) 5 2).mono ?_
    rintro e w11 ⟨he, m11, s11, h11, _⟩
    rw [ap_4] at he h11
    subst he
    have H11 := Lib.hid (show Both w w11 go d g p k 2 0 m11 s11 apR3 SlS.none RS.none [] from ⟨h11.st.take 3, h11.si, h11.so, h11.up⟩)
    clear h11
    go_wp2_with (fail)
    refine (live_bytes (⟨H11.out.st, H11.out.si, H11.out.up⟩ : Live w w11 go d p k m11 s11 apR3 [slt g d 2 0 SlS.none])).mono ?_
    rintro e w12 ⟨A1, n1, B1, he, hg12, h12⟩
    rw [ap_5] at he hg12
    subst he
    have HG := Lib.hid hg12
    have HI0 := Lib.hid (show Both w w12 g d go 2 0 p k m11 SlS.none RS.none s11 apR3 [B1] from (show Both w w12 go d g p k 2 0 m11 s11 apR3 SlS.none RS.none [B1] from ⟨((h12.st.pick 3 rfl).pick 2 rfl).pick 2 rfl, h12.si, H11.out.so, h12.up⟩).flip)
    clear hg12 h12 H11 H10 H9 H8 H7 H6 H5 H4 H3 HG10 HG8 HG6
    go_wp2_with (fail)
    go_loopw [85] (fun i wr => ∃ (q : Nat) (m : DS) (s : SlS) (R : RS), q ≤ n ∧ i = .int .i64 q ∧ Both w wr g d go 2 0 p k m s R s11 apR3 [B1]) (fun i _ => n - (intOf i).toNat)
    case atStart => exact ⟨0, _, _, _, by omega, rfl, HI0.out⟩
    case round =>
      obtain ⟨q, m, s, R, hq, rfl, hi⟩ := hrel
      have HI := Lib.hid hi
      clear hi HI0
      by_cases hlt : q < n
      · have hkl : q < l.length := by rw [← HN.out]; exact hlt
        rw [HN.out] at HS
        obtain ⟨b, off, rfl, lb, hcs⟩ := act_at HS.out HI.out.st.bel hkl
        have HAO := Lib.hid (HOK.out _ (List.getElem_mem hkl))
        generalize l[q] = a at hcs HAO
        obtain ⟨kind, an, asz, ano, aby, along, akeep⟩ := a
        have a0 : wr.cell? ⟨b, off + q * 7, none⟩ = some (.int .i64 kind) := hcs 0 _ (by omega) rfl
        have a1 : wr.cell? ⟨b, off + q * 7 + 1, none⟩ = some (.int .i64 an) := hcs 1 _ (by omega) rfl
        have a2 : wr.cell? ⟨b, off + q * 7 + 2, none⟩ = some (.int .i64 asz) := hcs 2 _ (by omega) rfl
        have a3 : wr.cell? ⟨b, off + q * 7 + 3, none⟩ = some (.int .i64 ano) := hcs 3 _ (by omega) rfl
        have a4 : wr.cell? ⟨b, off + q * 7 + 4, none⟩ = some (.int .u8 aby) := hcs 4 _ (by omega) rfl
        have a5 : wr.cell? ⟨b, off + q * 7 + 5, none⟩ = some (.bool along) := hcs 5 _ (by omega) rfl
        have a6 : wr.cell? ⟨b, off + q * 7 + 6, none⟩ = some (.int .u64 akeep) := hcs 6 _ (by omega) rfl
        have hlt' : (q : Int) < (n : Int) := by omega
        have hq0 : (0 : Int) ≤ (q : Int) := by omega
        clear hkl hcs
        obtain ⟨w5, hw5⟩ : ∃ w5, w5 = wr.alloc (.cells #[.int .i64 kind, .int .i64 an, .int .i64 asz, .int .i64 ano, .int .u8 aby, .bool along, .int .u64 akeep] 92) := ⟨_, rfl⟩
        obtain ⟨Z, hZ⟩ : ∃ Z, Z = wr.heap.size := ⟨_, rfl⟩
        have H5 := Lib.hid (show Both w w5 g d go 2 0 p k m s R s11 apR3 (B1 :: row Z 92 (ActS.cells ⟨kind, an, asz, ano, aby, along, akeep⟩) :: []) from ⟨by
          have h := HI.out.st.new 92 #[.int .i64 kind, .int .i64 an, .int .i64 asz, .int .i64 ano, .int .u8 aby, .bool along, .int .u64 akeep]
          rw [← hw5, ← hZ] at h
          exact h.perm (List.perm_append_comm (l₁ := [_]) (l₂ := [_, _, _, _])), HI.out.si, HI.out.so, HI.out.up⟩)
        have HW5 := Lib.hid hw5; have HZ := Lib.hid hZ
        clear hw5 hZ HI
        go_upto_region 17 with fail
        rw [← HW5.out, ← HZ.out]
        obtain ⟨z0, z1, z2, z3, z4, z5⟩ : w5.cell? ⟨Z, 0, none⟩ = some (.int .i64 kind) ∧ w5.cell? ⟨Z, 1, none⟩ = some (.int .i64 an) ∧ w5.cell? ⟨Z, 2, none⟩ = some (.int .i64 asz) ∧ w5.cell? ⟨Z, 3, none⟩ = some (.int .i64 ano) ∧ w5.cell? ⟨Z, 4, none⟩ = some (.int .u8 aby) ∧ w5.cell? ⟨Z, 5, none⟩ = some (.bool along) :=
          ⟨(H5.out.st.pick 4 rfl).row.1.cell 0, (H5.out.st.pick 4 rfl).row.1.cell 1, (H5.out.st.pick 4 rfl).row.1.cell 2, (H5.out.st.pick 4 rfl).row.1.cell 3, (H5.out.st.pick 4 rfl).row.1.cell 4, (H5.out.st.pick 4 rfl).row.1.cell 5⟩
        have lz : Z < w5.heap.size := (H5.out.st.pick 4 rfl).row.1.lt
        clear a0 a1 a2 a3 a4 a5 a6 lb
        by_cases k0 : kind = 0
        · subst k0
          go_wp2_with (fail)
          refine (both_begin H5.out HAP.out.2 an asz).mono ?_
          rintro e w6 ⟨rfl, m6, s6, h6, _⟩
          have H6 := Lib.hid (show Both w w6 g d go 2 0 p k m6 s6 _ s11 apR3 [B1] from ⟨h6.st.take 4, h6.si, h6.so, h6.up⟩)
          clear h6 z0 z1 z2 z3 z4 z5 lz
          go_wp2_with (fail)
          go_roundw
          case rel => exact ⟨q + 1, m6, s6, _, by omega, by go_num, H6.out⟩
          case measure => simp [intOf] <;> omega
        · have b0 : (kind == 0) = false := by simpa using k0
          by_cases k1 : kind = 1
          · subst k1
            clear k0
            go_wp2_with (fail)
            have HFL := Lib.hid (fun (w1 : World) (ls : List Asn) (h1 : St w w1 ls) => fill_st h1 aby HAO.out.by0 HAO.out.by1 along)
            go_region_held3 (fun w' => w'.cell? ⟨Z, 1, none⟩ = some (.int .i64 an) ∧ w'.cell? ⟨Z, 3, none⟩ = some (.int .i64 ano) ∧ w'.cell? ⟨Z, 4, none⟩ = some (.int .u8 aby) ∧ w'.cell? ⟨Z, 5, none⟩ = some (.bool along)) (first | exact y6 | exact y7 | go_keep) (first
              | (go_at_call 40; refine (HFL.out _ _ H5.out.st.drew).mono ?_; rintro e w6 ⟨g6, c6, x6, rfl, _, _, _, hg6, h6⟩; have HG6 := Lib.hid hg6; have H6 := Lib.hid (show Both w w6 g d go 2 0 p k m s R s11 apR3 (row g6 5 x6 :: B1 :: row Z 92 (ActS.cells ⟨1, an, asz, ano, aby, along, akeep⟩) :: []) from ⟨((h6.pick 3 rfl).pick 3 rfl).pick 3 rfl, H5.out.si, H5.out.so, H5.out.up⟩); have HZR := Lib.hid (H6.out.st.pick 5 rfl).row.1; have y6 := And.intro (HZR.out.cell 1) (And.intro (HZR.out.cell 3) (And.intro (HZR.out.cell 4) (HZR.out.cell 5))); simp only [ActS.cells, List.getElem?_cons_succ, List.getElem?_cons_zero] at y6; clear hg6 h6)
              | (go_at_call 39; refine (both_put H6.out HAP.out.2 HG6.out (fillL_byt _ _) an ano).mono ?_; rintro e w7 ⟨rfl, m7, s7, h7, _⟩; have H7 := Lib.hid h7; have HZ7 := Lib.hid (h7.st.pick 5 rfl).row.1; have y7 := And.intro (HZ7.out.cell 1) (And.intro (HZ7.out.cell 3) (And.intro (HZ7.out.cell 4) (HZ7.out.cell 5))); simp only [ActS.cells, List.getElem?_cons_succ, List.getElem?_cons_zero] at y7; clear h7))
            clear z0 z1 z2 z3 z4 z5 lz
            have H8 := Lib.hid (show Both w w7 g d go 2 0 p k m7 s7 _ s11 apR3 [B1] from ⟨((H7.out.st.pick 3 rfl).drop).take 4, H7.out.si, H7.out.so, H7.out.up⟩)
            go_wp2_with (fail)
            go_roundw
            case rel => exact ⟨q + 1, m7, s7, _, by omega, by go_num, H8.out⟩
            case measure => simp [intOf] <;> omega
          · have b1 : (kind == 1) = false := by simpa using k1
            by_cases k2' : kind = 2
            · subst k2'
              clear k0 k1
              go_wp2_with (fail)
              refine (both_clear H5.out HAP.out.2).mono ?_
              rintro e w6 ⟨rfl, m6, s6, h6, _⟩
              have H6 := Lib.hid (show Both w w6 g d go 2 0 p k m6 s6 _ s11 apR3 [B1] from ⟨h6.st.take 4, h6.si, h6.so, h6.up⟩)
              clear h6 z0 z1 z2 z3 z4 z5 lz
              go_wp2_with (fail)
              go_roundw
              case rel => exact ⟨q + 1, m6, s6, _, by omega, by go_num, H6.out⟩
              case measure => simp [intOf] <;> omega
            · have b2 : (kind == 2) = false := by simpa using k2'
              clear k0 k1 k2'
              go_wp2_with (fail)
              go_roundw
              case rel => exact ⟨q + 1, m, s, R, by omega, by go_num, ⟨H5.out.st.take 4, H5.out.si, H5.out.so, H5.out.up⟩⟩
              case measure => simp [intOf] <;> omega
      · have hqn : q = n := by omega
        have hlt' : ¬ (q : Int) < (n : Int) := by omega
        clear hqn
        go_wp2_with (fail)
        refine (both_open HI.out.flip).mono ?_
        rintro e w13 ⟨g2, rfl, h13⟩
        have H13 := Lib.hid h13
        clear h13
        go_wp2_with (fail)
        refine (live_bytes H13.out).mono ?_
        rintro e w14 ⟨A2, n2, B2, he, hg14, h14⟩
        rw [ap_5] at he hg14
        subst he
        have HSA := Lib.hid (HG.out.2 _ _ (h14.st.pick 5 rfl))
        have HSB := Lib.hid (hg14.2 _ _ (h14.st.pick 2 rfl))
        have H14 := Lib.hid h14.st.bel
        have HN1 := Lib.hid HG.out.1
        have hn2 : n2 = 33 := by rw [← hg14.1]; exact ap_len
        subst hn2
        have hn1 : n1 = 33 := by rw [← HN1.out]; exact ap_len
        subst hn1
        clear hg14 h14
        go_wp2_with (fail)
        refine (same_any apD apD A1 A2 33 33 _ _ _ ap_len.symm ap_len.symm (by omega) (by omega) HSA.out HSB.out).mono ?_
        rintro e w15 ⟨rfl, hb⟩
        have H15 := Lib.hid (H14.out.trans (hb.mono H14.out.size))
        clear hb
        go_wp2_with (fail)
        go_ret
        exact ⟨by simp, H15.out⟩

/-! ### the row: written by program -/
set_option maxRecDepth 100000 in
theorem lifted (os : Os) (started : os.Started) (H : Type) (enc : TypeId × Value → H) :
    ReturnsInHanded {} Try.checked os 10 .any (Rows.stageApartSpec.pre6 enc Try.prog Try.f10 Rows.stageApartRow.domain false) (Rows.stageApartSpec.post enc Try.prog Try.f10 false true false false) := by
  refine returnsInHanded_of_change (C := Try.checked) Go.Proofs.Ytooagoikiafgcaa.lift.own started (by kernel_rfl) Try.func10
    (ChangeSpec.witness6 (enc := enc) (C := Try.checked) false ⟨#[], #[.slice none 0 0, .int .u8 0], []⟩ 8 (by kernel_rfl) (by kernel_rfl) (by kernel_rfl) (by kernel_rfl)) ?_
  intro W base args ds gs before hval0 hW hcnd _
  have hval : ∀ (j : Nat) t v, Try.f10.params[j]? = some t → args[j]? = some v → Value.okWide Try.prog W .any base t v := hval0
  have hW' := hW
  obtain ⟨p, q, hA0, hV, rfl, hfz, hnd⟩ := hW
  have hA : DataW.TrodAll enc Try.prog W 0 (fun _ => true) true Try.f10.params.toList args.toList ds p := hA0
  have hAk := hA
  rw [Try.params10] at hA hval
  obtain ⟨v0, vs0, d0, ds0, p0, q0, hargs, rfl, rfl, h0, r0⟩ := trodAll_cons hA
  obtain ⟨v1, vs1, d1, ds1, p1, q1, rfl, rfl, rfl, h1, r1⟩ := trodAll_cons r0
  obtain ⟨rfl, rfl, rfl⟩ := trodAll_nil r1
  obtain rfl : args = #[v0, v1] := by cases args; simp_all
  obtain ⟨rfl, rfl⟩ := trodVars_none hV
  have hlt := hW'.lt
  obtain ⟨A0, c0, l0, rfl, hm0, hs0, ho0⟩ := stage.arg_acts (hval 0 89 v0 rfl rfl) h0
  obtain ⟨a1, rfl, _, _, w1⟩ := open_int Try.underlying5 (hval 1 5 v1 rfl rfl) h1
  refine (walk W A0 c0 l0 hm0 hs0 ho0 a1 w1).mono fun e W' ⟨he, hg⟩ => ?_
  subst he
  exact ⟨_, rfl, Go.Proofs.Ytooagoikiafgcaa.base.postBelow (pv := []) hW' (fun _ _ _ => (trodAll_cons_mk (shut_bool Try.underlying4 _) trodAll_mk0)) (fun sp hsp => Go.Proofs.Ytooagoikiafgcaa.lift.args_stay Go.Proofs.Ytooagoikiafgcaa.lift.laidOut hg _ _ _ _ (by kernel_rfl) hAk (fun x hx => hlt x (by simpa using hx)) (fun x hx => hsp x (by simpa using hx))) (fun _ _ => rfl) (by simp)
    hg (ok_one (by kernel_rfl) rfl (okWide_bool_mk Try.underlying4 _))⟩

theorem over : Rows.stageApartRow.holds Try.pinned (OpenSpec.ofChange Rows.stageApartSpec) :=
  OpenClaim.holds_of_wide 10 Try.f10 rfl rfl rfl rfl rfl rfl rfl ⟨rfl, rfl, rfl, rfl, rfl⟩ rfl rfl rfl rfl rfl (by kernel_rfl) Try.func10 (by kernel_rfl)
    (of_decide_eq_true (by kernel_rfl)) (by unfold Func.isWrapper; first | (rw [if_pos (by decide +kernel)]; kernel_rfl) | (rw [if_neg (by decide +kernel)]; exact ⟨rfl, rfl⟩))
    (fun os started H enc _ => lifted os started H enc)

/-- THE STATEMENT -/
theorem proved : Rows.StageApartSaid :=
  over
#print axioms proved
end Go.Proofs.Ytooagoikiafgcaa.stageApart
