/-
  PROVED HERE: for every uint8 slot and all lists l of acts, longeronlaw11.StageActs(slot, l) returns true and leaves memory as it was.
  CONDITIONS: none.
-/
import Derived.Test.YtooagoikiafgcaaStageBytes
import Derived.Test.YtooagoikiafgcaaPlaceSays
namespace Go.Proofs.Ytooagoikiafgcaa.stageActs
set_option linter.unusedVariables false
open Go.RowKit Go.ChangeShapes Go.WideShapes Go.ChangeAt Go.Deep Go.Joins Go.Proofs.Ytooagoikiafgcaa.base Go.Proofs.Ytooagoikiafgcaa.obj Go.Proofs.Ytooagoikiafgcaa.mem Go.Proofs.Ytooagoikiafgcaa.crc Go.Proofs.Ytooagoikiafgcaa.disk Go.Proofs.Ytooagoikiafgcaa.record Go.Proofs.Ytooagoikiafgcaa.bits Go.Proofs.Ytooagoikiafgcaa.sep Go.Proofs.Ytooagoikiafgcaa.plan Go.Proofs.Ytooagoikiafgcaa.bytes Go.Proofs.Ytooagoikiafgcaa.stage Go.Proofs.Ytooagoikiafgcaa.same

/-- what is perhaps done -/
def mgv (M : Nat) : Option RS → Value
  | Option.none => .pointer none
  | some _ => .pointer (some ⟨M, 0, none⟩)
def mgt (P : List (Nat × List Value)) (M : Nat) : Option RS → Asn
  | Option.none => fact True
  | some R => rsl M P R
theorem mgt_mono {w0 w : World} {l : List Asn} {M : Nat} {P P' : List (Nat × List Value)} {mt : Option RS} (h : St w0 w (mgt P M mt :: l)) (hp : ∀ x ∈ P, x ∈ P') : St w0 w (mgt P' M mt :: l) := by
  cases mt with
  | none => exact h
  | some R => exact rsl_mono h hp
structure AI (w : World) (d : Nat) (k : Int) (g : Nat) (s : SlS) (m : DS) (X : Nat) (P : List (Nat × List Value)) (R : RS) (M : Nat) (mt : Option RS) (wr : World) : Prop where
  st : St w wr [slt g d 1 k s, dsk d m, rsl X P R, pool P, mgt P M mt]
  si : SI m 1 k s R mt
  mg : ∀ R', mt = some R' → RGood R'
  zr : Zr m 1 k
  len : m.secs.length = 20

theorem st_end {w0 w : World} {A B C D E : Asn} (h : St w0 w [A, B, C, D, E]) : St w0 w [A, B, D, E, C] := h.perm (.cons _ (.cons _ (List.perm_append_comm (l₁ := [C]) (l₂ := [D, E]))))
theorem st_swap {w0 w : World} {A B C D E : Asn} (h : St w0 w [A, B, C, D, E]) : St w0 w [A, B, C, E, D] := h.perm (.cons _ (.cons _ (.cons _ (.swap _ _ _))))
set_option maxRecDepth 100000 in
set_option maxHeartbeats 16000000 in
theorem walk (w : World) (sl : Int) (ws : (Lit.int .u8 sl).wf = true) (A : Option Addr) (c : Nat) (l : List ActS) (hm : l.length ≤ maxLen) (hs : Sl w w.heap.size 7 A l.length (actCells l)) (hok : ∀ a ∈ l, a.Ok) :
    Calls Try.prog 12 #[.int .u8 sl, .slice A l.length c] w fun e w' => e = .returned (.bool true) ∧ Below w.heap.size w w' := by
  obtain ⟨o0, o1⟩ := wf_u8 ws
  have HS := Lib.hid hs; have HOK := Lib.hid hok
  unfold maxLen at hm
  clear ws hs hok
  obtain ⟨n, hn⟩ : ∃ n, n = l.length := ⟨_, rfl⟩
  rw [← hn] at hm HS ⊢
  have HN := Lib.hid hn
  clear hn
  by_cases hbig : n > 60
  · have hbig' : (n : Int) > 60 := by omega
    clear hbig
    go_enter Try.func12, Try.ntmps12
    go_wp2_with (fail)
    refine (stage.wakes _).mono ?_
    rintro e w1 ⟨rfl, hb⟩
    have HB := Lib.hid hb
    clear hb
    go_wp2_with (fail)
    go_ret
    exact ⟨rfl, HB.out⟩
  · have hbig' : ¬ (n : Int) > 60 := by omega
    have hn60 : n ≤ 60 := by omega
    clear hbig
    obtain ⟨k, hk⟩ : ∃ k : Int, k = sl % 2 := ⟨_, rfl⟩
    have k0 : 0 ≤ k := by omega
    have k2 : k < 2 := by omega
    have HK := Lib.hid hk
    have HRM := Lib.hid (show hasRoom 1 k 20 = true by unfold hasRoom dAt; simp only [decide_eq_true_eq]; omega)
    clear hk
    go_enter Try.func12, Try.ntmps12
    go_wp2_with (fail)
    refine (stage.wakes _).mono ?_
    rintro e w1 ⟨rfl, hb⟩
    have H1 := Lib.hid ((St.nil w).below hb)
    clear hb
    go_wp2_with (fail)
    refine (dsk_new H1.out 20).mono ?_
    rintro e w2 ⟨d, rfl, h2⟩
    have H2 := Lib.hid (show St w w2 [dsk d (DS.new 20)] from h2)
    clear h2
    go_wp2_with (fail)
    rw [← HK.out]
    refine (live_open H2.out (by omega) (by omega) HRM.out).mono ?_
    rintro e w3 ⟨g, rfl, h3⟩
    have H3 := Lib.hid h3
    clear h3
    obtain ⟨X, hX⟩ : ∃ X, X = w3.heap.size := ⟨_, rfl⟩
    obtain ⟨w4, hw4⟩ : ∃ w4, w4 = w3.alloc (.cells #[.bool false, .int .i64 0, .int .i64 0, .int .i64 0, .slice none 0 0] 104) := ⟨_, rfl⟩
    have HI0 := Lib.hid (show AI w d k g SlS.none (DS.new 20) X [] RS.none 0 Option.none w4 from ⟨by
      have h := H3.out.st.new 104 #[.bool false, .int .i64 0, .int .i64 0, .int .i64 0, .slice none 0 0]
      rw [← hw4, ← hX] at h
      have h2 := rsl_none (P := []) h
      have h3 : St w w4 [mgt [] 0 Option.none, rsl X [] RS.none, slt g d 1 k SlS.none, dsk d (DS.new 20)] := h2.addFact trivial
      exact (((pool_nil h3).pick 2 rfl).pick 4 rfl).pick 4 rfl |>.perm (by refine List.Perm.cons _ (List.Perm.cons _ (List.Perm.cons _ ?_)); exact List.Perm.refl _), H3.out.si, fun R' h => absurd h (by simp), Zr.new 20 1 k, by simp [DS.new]⟩)
    have HW4 := Lib.hid hw4; have HX := Lib.hid hX
    clear hw4 hX
    go_upto_region 11 with fail
    rw [← HW4.out, ← HX.out]
    go_wp2_with (fail)
    go_loopw [7, 9, 10, 43] (fun s7 s9 s10 i wr => ∃ (q g : Nat) (s : SlS) (m : DS) (X : Nat) (P : List (Nat × List Value)) (R : RS) (M : Nat) (mt : Option RS), q ≤ n ∧ i = .int .i64 q ∧ s7 = .pointer (some ⟨g, 0, none⟩) ∧ s9 = .pointer (some ⟨X, 0, none⟩) ∧ s10 = mgv M mt ∧ AI w d k g s m X P R M mt wr) (fun _ _ _ i _ => n - (intOf i).toNat)
    case atStart => exact ⟨0, _, _, _, _, _, _, _, _, by omega, rfl, rfl, rfl, rfl, HI0.out⟩
    case round =>
      obtain ⟨q, g, s, m, X, P, R, M, mt, hq, rfl, rfl, rfl, rfl, hi⟩ := hrel
      have HI := Lib.hid hi
      clear hi HI0 HW4 HX H3 H2 H1
      by_cases hlt : q < n
      · have hkl : q < l.length := by rw [← HN.out]; exact hlt
        rw [HN.out] at HS
        obtain ⟨b, off, rfl, lb, hcs⟩ := act_at HS.out HI.out.st.bel hkl
        have HAO := Lib.hid (HOK.out _ (List.getElem_mem hkl))
        generalize l[q] = a at hcs HAO
        obtain ⟨kind, an, asz, ano, aby, along, akeep⟩ := a
        have a0 : wr.cell? ⟨b, off + q * 7, none⟩ = some (.int .i64 kind) := hcs 0 _ (by omega) rfl
        have a1 : wr.cell? ⟨b, off + q * 7 + 1, none⟩ = some (.int .i64 an) := hcs 1 _ (by omega) rfl
        have a2 : wr.cell? ⟨b, off + q * 7 + 2, none⟩ = some (.int .i64 asz) := hcs 2 _ (by omega) rfl
        have a3 : wr.cell? ⟨b, off + q * 7 + 3, none⟩ = some (.int .i64 ano) := hcs 3 _ (by omega) rfl
        have a4 : wr.cell? ⟨b, off + q * 7 + 4, none⟩ = some (.int .u8 aby) := hcs 4 _ (by omega) rfl
        have a5 : wr.cell? ⟨b, off + q * 7 + 5, none⟩ = some (.bool along) := hcs 5 _ (by omega) rfl
        have a6 : wr.cell? ⟨b, off + q * 7 + 6, none⟩ = some (.int .u64 akeep) := hcs 6 _ (by omega) rfl
        have hlt' : (q : Int) < (n : Int) := by omega
        have hq0 : (0 : Int) ≤ (q : Int) := by omega
        clear hkl hcs
        obtain ⟨w5, hw5⟩ : ∃ w5, w5 = wr.alloc (.cells #[.int .i64 kind, .int .i64 an, .int .i64 asz, .int .i64 ano, .int .u8 aby, .bool along, .int .u64 akeep] 92) := ⟨_, rfl⟩
        obtain ⟨Z, hZ⟩ : ∃ Z, Z = wr.heap.size := ⟨_, rfl⟩
        have H5 := Lib.hid (show St w w5 (slt g d 1 k s :: dsk d m :: rsl X P R :: pool P :: mgt P M mt :: row Z 92 (ActS.cells ⟨kind, an, asz, ano, aby, along, akeep⟩) :: []) by
          have h := HI.out.st.new 92 #[.int .i64 kind, .int .i64 an, .int .i64 asz, .int .i64 ano, .int .u8 aby, .bool along, .int .u64 akeep]
          rw [← hw5, ← hZ] at h
          exact h.perm (List.perm_append_comm (l₁ := [_]) (l₂ := [_, _, _, _, _])))
        have HSI := Lib.hid HI.out.si; have HMG := Lib.hid HI.out.mg; have HZR := Lib.hid HI.out.zr; have HLN := Lib.hid HI.out.len
        have HW5 := Lib.hid hw5; have HZ := Lib.hid hZ
        clear hw5 hZ HI
        go_upto_region 14 with fail
        rw [← HW5.out, ← HZ.out]
        obtain ⟨z0, z1, z2, z3, z4, z5, z6⟩ : w5.cell? ⟨Z, 0, none⟩ = some (.int .i64 kind) ∧ w5.cell? ⟨Z, 1, none⟩ = some (.int .i64 an) ∧ w5.cell? ⟨Z, 2, none⟩ = some (.int .i64 asz) ∧ w5.cell? ⟨Z, 3, none⟩ = some (.int .i64 ano) ∧ w5.cell? ⟨Z, 4, none⟩ = some (.int .u8 aby) ∧ w5.cell? ⟨Z, 5, none⟩ = some (.bool along) ∧ w5.cell? ⟨Z, 6, none⟩ = some (.int .u64 akeep) :=
          ⟨(H5.out.pick 5 rfl).row.1.cell 0, (H5.out.pick 5 rfl).row.1.cell 1, (H5.out.pick 5 rfl).row.1.cell 2, (H5.out.pick 5 rfl).row.1.cell 3, (H5.out.pick 5 rfl).row.1.cell 4, (H5.out.pick 5 rfl).row.1.cell 5, (H5.out.pick 5 rfl).row.1.cell 6⟩
        have lz : Z < w5.heap.size := (H5.out.pick 5 rfl).row.1.lt
        clear a0 a1 a2 a3 a4 a5 a6 lb
        go_upto_block 2 with fail
        go_cut [7, 9, 10] (fun s7 s9 s10 wc => ∃ (g : Nat) (s : SlS) (m : DS) (X : Nat) (P : List (Nat × List Value)) (R : RS) (M : Nat) (mt : Option RS), s7 = .pointer (some ⟨g, 0, none⟩) ∧ s9 = .pointer (some ⟨X, 0, none⟩) ∧ s10 = mgv M mt ∧ AI w d k g s m X P R M mt wc)
        case first =>
          go_upto_region 15 with fail
          go_cut [49] (fun s49 wc => s49 = .bool (decide (kind = 0)) ∧ wc = w5)
          case first =>
            by_cases k0' : kind = 0
            · have b0 : (kind == 0) = true := by simpa using k0'
              go_wp2_with (fail)
              go_meet
              exact ⟨by simp [k0'], rfl⟩
            · have b0 : (kind == 0) = false := by simpa using k0'
              go_wp2_with (fail)
              go_meet
              exact ⟨by simp [k0'], rfl⟩
          case rest =>
          obtain ⟨rfl, hwc⟩ := hcut
          rw [hwc]
          clear hwc
          go_upto_if 49 with fail
          go_cut [49] (fun s49 wc => s49 = .bool (decide (kind = 0 ∨ kind = 1 ∨ kind = 2)) ∧ wc = w5)
          case first =>
            by_cases k0' : kind = 0
            · have d0 : decide (kind = 0) = true := by simpa using k0'
              go_wp2_with (fail)
              go_meet
              exact ⟨by simp [k0'], rfl⟩
            · have d0 : decide (kind = 0) = false := by simpa using k0'
              by_cases k1 : kind = 1
              · have b1 : (kind == 1) = true := by simpa using k1
                go_wp2_with (fail)
                go_meet
                exact ⟨by simp [k1], rfl⟩
              · have b1 : (kind == 1) = false := by simpa using k1
                by_cases k3 : kind = 2
                · have b2 : (kind == 2) = true := by simpa using k3
                  go_wp2_with (fail)
                  go_meet
                  exact ⟨by simp [k3], rfl⟩
                · have b2 : (kind == 2) = false := by simpa using k3
                  go_wp2_with (fail)
                  go_meet
                  exact ⟨by simp [k0', k1, k3], rfl⟩
          case rest =>
          obtain ⟨rfl, hwc⟩ := hcut
          rw [hwc]
          clear hwc
          go_upto_if 49 with fail
          by_cases h012 : kind = 0 ∨ kind = 1 ∨ kind = 2
          · have d012 : decide (kind = 0 ∨ kind = 1 ∨ kind = 2) = true := decide_eq_true h012
            have H012 := Lib.hid h012
            clear h012
            have hgood := RGood.ofMem HSI.out.mem
            have HB10 := Lib.hid hgood.b10
            have HRT := Lib.hid (show R.has = true → R.st.right = true from fun hh => by rw [← HSI.out.mem.st]; exact HSI.out.mem.right (HSI.out.mem.has.trans hh))
            have HGN := Lib.hid (hgood.do ⟨kind, an, asz, ano, aby, along, akeep⟩)
            obtain ⟨v, vs, hb, h5⟩ := rsl_open (H5.out.pick 2 rfl)
            obtain ⟨x0, x1, x2, x3, x4, lx⟩ := rsl_read h5.row.1
            have HBS := Lib.hid hb
            have HX5 := Lib.hid (h5.pick 1 rfl)
            clear hb h5 hgood
            go_wp2_with (fail)
            refine (rcopy_at R.has R.st.session R.st.size R.st.have_ HX5.out HBS.out.one (by have := HB10.out; omega)).mono ?_
            rintro e w6 ⟨v', rfl, h6⟩
            obtain ⟨A', c', hv', _, _⟩ := own_form h6.own
            obtain ⟨bn, hbn⟩ : ∃ bn, bn = R.blocks.length := ⟨_, rfl⟩
            rw [← hbn] at hv'
            clear hbn
            subst hv'
            obtain ⟨N, hN⟩ : ∃ N, N = w6.heap.size := ⟨_, rfl⟩
            obtain ⟨w7, hw7⟩ : ∃ w7, w7 = w6.alloc (.cells #[.bool R.has, .int .i64 R.st.session, .int .i64 R.st.size, .int .i64 R.st.have_, .slice A' bn c'] 104) := ⟨_, rfl⟩
            have H7 := Lib.hid (show St w w7 (rsl N P R :: pool P :: rsl X P R :: slt g d 1 k s :: dsk d m :: mgt P M mt :: row Z 92 (ActS.cells ⟨kind, an, asz, ano, aby, along, akeep⟩) :: []) by
              have h7 := h6.new 104 #[.bool R.has, .int .i64 R.st.session, .int .i64 R.st.size, .int .i64 R.st.have_, .slice A' bn c']
              rw [← hw7, ← hN] at h7
              have h8 := rsl_shut (R := R) (X := N) (v := (.slice A' bn c')) HBS.out h7
              have h9 := rsl_shut (R := R) (X := X) (v := v) HBS.out ((h8.pick 2 rfl).pick 2 rfl).swap
              exact ((h9.pick 4 rfl).pick 2 rfl))
            have HW7 := Lib.hid hw7; have HN7 := Lib.hid hN
            clear hw7 hN h6 x0 x1 x2 x3 x4 lx z0 z1 z2 z3 z4 z5 z6 lz
            go_upto_region 19 with fail
            rw [← HW7.out, ← HN7.out]
            obtain ⟨z0, z1, z2, z3, z4, z5, z6⟩ : w7.cell? ⟨Z, 0, none⟩ = some (.int .i64 kind) ∧ w7.cell? ⟨Z, 1, none⟩ = some (.int .i64 an) ∧ w7.cell? ⟨Z, 2, none⟩ = some (.int .i64 asz) ∧ w7.cell? ⟨Z, 3, none⟩ = some (.int .i64 ano) ∧ w7.cell? ⟨Z, 4, none⟩ = some (.int .u8 aby) ∧ w7.cell? ⟨Z, 5, none⟩ = some (.bool along) ∧ w7.cell? ⟨Z, 6, none⟩ = some (.int .u64 akeep) :=
              ⟨(H7.out.pick 6 rfl).row.1.cell 0, (H7.out.pick 6 rfl).row.1.cell 1, (H7.out.pick 6 rfl).row.1.cell 2, (H7.out.pick 6 rfl).row.1.cell 3, (H7.out.pick 6 rfl).row.1.cell 4, (H7.out.pick 6 rfl).row.1.cell 5, (H7.out.pick 6 rfl).row.1.cell 6⟩
            go_wp2_with (fail)
            refine (rdo_at H7.out HRT.out HB10.out ⟨kind, an, asz, ano, aby, along, akeep⟩ HAO.out).mono ?_
            rintro e w8 ⟨rfl, P8, hp8, h8⟩
            have H8 := Lib.hid (show St w w8 (slt g d 1 k s :: dsk d m :: mgt P8 M mt :: rsl X P8 R :: rsl N P8 (doR R ⟨kind, an, asz, ano, aby, along, akeep⟩).2 :: pool P8 :: row Z 92 (ActS.cells ⟨kind, an, asz, ano, aby, along, akeep⟩) :: []) from
              ((mgt_mono ((rsl_mono (h8.pick 2 rfl) hp8).pick 5 rfl) hp8).pick 5 rfl).pick 5 rfl)
            clear h8 hp8 z0 z1 z2 z3 z4 z5 z6
            obtain ⟨z0, z1, z2, z3, z4, z5, z6⟩ : w8.cell? ⟨Z, 0, none⟩ = some (.int .i64 kind) ∧ w8.cell? ⟨Z, 1, none⟩ = some (.int .i64 an) ∧ w8.cell? ⟨Z, 2, none⟩ = some (.int .i64 asz) ∧ w8.cell? ⟨Z, 3, none⟩ = some (.int .i64 ano) ∧ w8.cell? ⟨Z, 4, none⟩ = some (.int .u8 aby) ∧ w8.cell? ⟨Z, 5, none⟩ = some (.bool along) ∧ w8.cell? ⟨Z, 6, none⟩ = some (.int .u64 akeep) :=
              ⟨(H8.out.pick 6 rfl).row.1.cell 0, (H8.out.pick 6 rfl).row.1.cell 1, (H8.out.pick 6 rfl).row.1.cell 2, (H8.out.pick 6 rfl).row.1.cell 3, (H8.out.pick 6 rfl).row.1.cell 4, (H8.out.pick 6 rfl).row.1.cell 5, (H8.out.pick 6 rfl).row.1.cell 6⟩
            have lz : Z < w8.heap.size := (H8.out.pick 6 rfl).row.1.lt
            go_upto_block 3 with fail
            obtain ⟨xm, hxm⟩ : ∃ x, x = actM m 1 k s ⟨kind, an, asz, ano, aby, along, akeep⟩ := ⟨_, rfl⟩
            obtain ⟨yr, hyr⟩ : ∃ y, y = doR R ⟨kind, an, asz, ano, aby, along, akeep⟩ := ⟨_, rfl⟩
            have HST := Lib.hid (show stage.Stepped m 1 k s R mt xm yr by rw [hxm, hyr]; exact HSI.out.act _)
            have HZ2 := Lib.hid (show Zr xm.2.1 1 k by rw [hxm]; exact HZR.out.act HSI.out.pl HSI.out.right _)
            have HL2 := Lib.hid (show xm.2.1.secs.length = 20 by rw [hxm, actM_slen]; exact HLN.out)
            have HFEW := Lib.hid (show m.waits.length ≤ 800 by have := HSI.out.few; omega)
            rw [← hyr] at H8 HGN ⊢
            have HXM := Lib.hid hxm
            clear hxm hyr
            go_cut [15] (fun s15 wc => s15 = .int .i64 xm.1 ∧ St w wc (slt g d 1 k xm.2.2 :: dsk d xm.2.1 :: mgt P8 M mt :: rsl X P8 R :: rsl N P8 yr.2 :: pool P8 :: row Z 92 (ActS.cells ⟨kind, an, asz, ano, aby, along, akeep⟩) :: []))
            case first =>
              by_cases k0' : kind = 0
              · subst k0'
                have HE := Lib.hid (show xm = beginM m 1 k s an asz by rw [HXM.out]; rfl)
                go_wp2_with (fail)
                refine (begin_at H8.out HSI.out.pl.pk HFEW.out an asz).mono ?_
                rintro e w9 ⟨rfl, h9⟩
                rw [← HE.out] at h9 ⊢
                have H9 := Lib.hid h9
                clear h9
                go_wp2_with (fail)
                go_meet
                exact ⟨rfl, H9.out⟩
              · have b0 : (kind == 0) = false := by simpa using k0'
                by_cases k1 : kind = 1
                · subst k1
                  have HE := Lib.hid (show xm = putM m 1 k s an ano (fillL aby (fillN along)) by rw [HXM.out]; rfl)
                  clear k0'
                  go_wp2_with (fail)
                  have HFL := Lib.hid (fun (w1 : World) (ls : List Asn) (h1 : St w w1 ls) => fill_st h1 aby HAO.out.by0 HAO.out.by1 along)
                  go_region_held3 (fun w' => w'.cell? ⟨Z, 1, none⟩ = some (.int .i64 an) ∧ w'.cell? ⟨Z, 3, none⟩ = some (.int .i64 ano) ∧ w'.cell? ⟨Z, 4, none⟩ = some (.int .u8 aby) ∧ w'.cell? ⟨Z, 5, none⟩ = some (.bool along)) (first | exact y6 | exact y7 | go_keep) (first
                    | (go_at_call 40; refine (HFL.out _ _ H8.out.drew).mono ?_; rintro e w9 ⟨g9, c9, x9, rfl, _, _, _, hg9, h9⟩; have HG9 := Lib.hid hg9; have H9 := Lib.hid (show St w w9 (slt g d 1 k s :: dsk d m :: row g9 5 x9 :: mgt P8 M mt :: rsl X P8 R :: rsl N P8 yr.2 :: pool P8 :: row Z 92 (ActS.cells ⟨1, an, asz, ano, aby, along, akeep⟩) :: []) from (h9.pick 2 rfl).pick 2 rfl); have HZ9 := Lib.hid (H9.out.pick 7 rfl).row.1; have y6 := And.intro (HZ9.out.cell 1) (And.intro (HZ9.out.cell 3) (And.intro (HZ9.out.cell 4) (HZ9.out.cell 5))); simp only [ActS.cells, List.getElem?_cons_succ, List.getElem?_cons_zero] at y6; clear hg9 h9)
                    | (go_at_call 39; refine (put_at H9.out HSI.out.pl HSI.out.right HFEW.out an ano _ _ _ _ HG9.out.1 (fun w' m' h' => HG9.out.2 _ _ (h'.pick 2 rfl))).mono ?_; rintro e w10 ⟨rfl, h10⟩; rw [← HE.out] at h10 ⊢; have H10 := Lib.hid h10; have HZ10 := Lib.hid (h10.pick 7 rfl).row.1; have y7 := And.intro (HZ10.out.cell 1) (And.intro (HZ10.out.cell 3) (And.intro (HZ10.out.cell 4) (HZ10.out.cell 5))); simp only [ActS.cells, List.getElem?_cons_succ, List.getElem?_cons_zero] at y7; clear h10))
                  clear z0 z1 z2 z3 z4 z5 lz y6 y7
                  go_wp2_with (fail)
                  go_meet
                  exact ⟨rfl, (H10.out.pick 2 rfl).drop⟩
                · have b1 : (kind == 1) = false := by simpa using k1
                  obtain rfl : kind = 2 := by have := H012.out; omega
                  have HE := Lib.hid (show xm = clearM m 1 k s by rw [HXM.out]; rfl)
                  clear k0' k1
                  go_wp2_with (fail)
                  refine (clear_at H8.out HSI.out.pl.pk HFEW.out).mono ?_
                  rintro e w9 ⟨rfl, h9⟩
                  rw [← HE.out] at h9 ⊢
                  have H9 := Lib.hid h9
                  clear h9
                  go_wp2_with (fail)
                  go_meet
                  exact ⟨rfl, H9.out⟩
            case rest =>
            obtain ⟨rfl, h9⟩ := hcut
            have H9 := Lib.hid h9
            clear h9 z0 z1 z2 z3 z4 z5 z6 lz H8 H7 HX5 HXM
            rcases HST.out with ⟨e1, e2, e3⟩ | ⟨e1, e2, e3, e4⟩
            · have b8 : (xm.1 == 8) = false := by simpa using e2
              have bf : (xm.1 != yr.1) = false := by simpa using e1
              have HSI2 := Lib.hid e3
              clear e1 e2 e3
              go_wp2_with (fail)
              go_meet
              exact ⟨g, xm.2.2, xm.2.1, N, P8, yr.2, M, mt, rfl, rfl, rfl, st_end ((H9.out.pick 6 rfl).drop.pick 3 rfl).drop, HSI2.out, HMG.out, HZ2.out, HL2.out⟩
            · rw [e1, e2]
              rw [e3] at H9
              have HSI2 := Lib.hid e4
              clear e1 e2 e3 e4
              cases mt with
              | none =>
                simp only [mgv]
                go_wp2_with (fail)
                go_roundw
                case rel => exact ⟨q + 1, g, s, xm.2.1, X, P8, R, N, some yr.2, by omega, by go_num, rfl, rfl, rfl, st_swap ((H9.out.pick 6 rfl).drop.pick 2 rfl).drop, HSI2.out, fun R' e => by injection e with e; rw [← e]; exact HGN.out, HZ2.out, HL2.out⟩
                case measure => simp [intOf] <;> omega
              | some R' =>
                simp only [mgv]
                go_wp2_with (fail)
                go_roundw
                case rel => exact ⟨q + 1, g, s, xm.2.1, X, P8, R, M, some R', by omega, by go_num, rfl, rfl, rfl, st_end ((H9.out.pick 6 rfl).drop.pick 4 rfl).drop, HSI2.out, HMG.out, HZ2.out, HL2.out⟩
                case measure => simp [intOf] <;> omega
          · have d012 : decide (kind = 0 ∨ kind = 1 ∨ kind = 2) = false := decide_eq_false h012
            have e0 : decide (kind = 0) = false := decide_eq_false fun h => h012 (.inl h)
            have e1 : decide (kind = 1) = false := decide_eq_false fun h => h012 (.inr (.inl h))
            have e2 : decide (kind = 2) = false := decide_eq_false fun h => h012 (.inr (.inr h))
            have H012 := Lib.hid h012
            clear h012
            by_cases k3 : kind = 3
            · have b3 : (kind == 3) = true := by simpa using k3
              subst k3
              cases mt with
              | none =>
                simp only [mgv]
                go_wp2_with (fail)
                refine (dsk_fuse (H5.out.pick 1 rfl) ano (HAO.out.no.2)).mono ?_
                rintro e w6 ⟨rfl, h6⟩
                have H6 := Lib.hid h6
                clear h6
                go_wp2_with (fail)
                go_meet
                exact ⟨g, s, m.setFuse ano, X, P, R, M, Option.none, rfl, rfl, rfl, ((H6.out.pick 1 rfl).take 5), HSI.out.fuse ano HAO.out.no.2, HMG.out, HZR.out.fuse ano, by unfold DS.setFuse; split <;> exact HLN.out⟩
              | some R' =>
                simp only [mgv]
                go_wp2_with (fail)
                go_meet
                exact ⟨g, s, m, X, P, R, M, some R', rfl, rfl, rfl, H5.out.take 5, HSI.out, HMG.out, HZR.out, HLN.out⟩
            · have b3 : (kind == 3) = false := by simpa using k3
              by_cases k4 : kind = 4
              · subst k4
                obtain ⟨m2, hm2⟩ : ∃ m2, m2 = m.power akeep := ⟨_, rfl⟩
                have HPW := Lib.hid (HSI.out.power akeep)
                have HZ2 := Lib.hid (show Zr m2 1 k by rw [hm2]; exact HZR.out.power akeep)
                have HL2 := Lib.hid (show m2.secs.length = 20 by rw [hm2, DS.power_slen]; exact HLN.out)
                have HD2 := Lib.hid (show m2.down = false by rw [hm2]; rfl)
                have HW2 := Lib.hid (show m2.waits = [] by rw [hm2]; rfl)
                have HB2 := Lib.hid (show m2.Bts by rw [hm2]; exact HSI.out.pl.bts.power akeep)
                clear k3
                go_wp2_with (fail)
                refine (dsk_power (H5.out.pick 1 rfl) akeep HAO.out.keep0 HAO.out.keep1 (by have := HSI.out.few; omega)).mono ?_
                rintro e w6 ⟨rfl, h6⟩
                rw [← hm2] at h6 HPW
                have H6 := Lib.hid h6
                clear h6 hm2
                go_wp2_with (fail)
                refine (open_at H6.out 1 k (by rw [HL2.out]; exact HRM.out) HD2.out (by rw [HW2.out]; simp) HB2.out).mono ?_
                rintro e w7 ⟨g2, rfl, h7⟩
                obtain ⟨s2, hs2, hcase⟩ := HPW.out
                rw [hs2] at h7
                have HC := Lib.hid hcase
                have H7 := Lib.hid (show St w w7 (slt g2 d 1 k s2 :: dsk d m2 :: rsl X P R :: pool P :: mgt P M mt :: []) from ((h7.pick 2 rfl).drop.take 5))
                clear h7 hs2 hcase HPW
                cases mt with
                | none =>
                  simp only [mgv]
                  have HSI2 := Lib.hid (show SI m2 1 k s2 R Option.none by
                    rcases HC.out with ⟨h1, _⟩ | ⟨R', e, _⟩
                    · exact h1
                    · exact absurd e (by simp))
                  go_wp2_with (fail)
                  go_meet
                  exact ⟨g2, s2, m2, X, P, R, M, Option.none, rfl, rfl, rfl, H7.out, HSI2.out, HMG.out, HZ2.out, HL2.out⟩
                | some R' =>
                  simp only [mgv]
                  have HS2 := Lib.hid (show ∃ R2, SI m2 1 k s2 R2 Option.none by
                    rcases HC.out with ⟨h1, _⟩ | ⟨R', _, h1⟩
                    · exact ⟨_, h1⟩
                    · exact ⟨_, h1⟩)
                  have HGR := Lib.hid (HMG.out R' rfl)
                  have HPL2 := Lib.hid (show Pl m2 1 k from HS2.out.elim fun _ h => h.pl)
                  have HRT2 := Lib.hid (show s2.has = true → s2.st.right = true from HS2.out.elim fun _ h => h.mem.right)
                  have HSM := Lib.hid (same_slot (show St w w7 (slt g2 d 1 k s2 :: dsk d m2 :: rsl M P R' :: pool P :: rsl X P R :: []) from st_end (st_swap H7.out)) HPL2.out HRT2.out HD2.out (by rw [HW2.out]; simp) HGR.out ⟨bytesM_len HRT2.out, bytesR_len HGR.out⟩)
                  cases hal : decide (stage.Alike m2 1 k s2 R') with
                  | true =>
                    rw [hal] at HSM
                    have HSI2 := Lib.hid (show SI m2 1 k s2 R' Option.none by
                      have ha := of_decide_eq_true hal
                      rcases HC.out with ⟨h1, h2⟩ | ⟨R2, e, h1⟩
                      · have e := h2 R' rfl ha.1 (by
                          cases hh : s2.has with
                          | true => exact ha.2.1 hh
                          | false =>
                            rw [h1.mem.st, h1.mem.none hh, HGR.out.none (ha.1.symm.trans hh)])
                        rw [e]; exact h1
                      · injection e with e; rw [e]; exact h1)
                    clear hal
                    go_wp2_with (fail)
                    refine HSM.out.mono ?_
                    rintro e w8 ⟨rfl, h8⟩
                    have H8 := Lib.hid h8
                    clear h8
                    go_wp2_with (fail)
                    go_meet
                    exact ⟨g2, s2, m2, M, P, R', M, Option.none, rfl, rfl, rfl, (show St w w8 [fact True, slt g2 d 1 k s2, dsk d m2, rsl M P R', pool P] from (H8.out.take 4).addFact trivial).perm (List.perm_append_comm (l₁ := [_]) (l₂ := [_, _, _, _])), HSI2.out, fun _ e => absurd e (by simp), HZ2.out, HL2.out⟩
                  | false =>
                    rw [hal] at HSM
                    have HSI2 := Lib.hid (show SI m2 1 k s2 R Option.none by
                      rcases HC.out with ⟨h1, h2⟩ | ⟨R2, e, h1⟩
                      · exact h1
                      · injection e with e
                        rw [← e] at h1
                        exact absurd (decide_eq_true (h1.alike HD2.out)) (by rw [hal]; decide))
                    clear hal
                    go_wp2_with (fail)
                    refine HSM.out.mono ?_
                    rintro e w8 ⟨rfl, h8⟩
                    have H8 := Lib.hid h8
                    clear h8
                    go_wp2_with (fail)
                    go_meet
                    exact ⟨g2, s2, m2, X, P, R, M, Option.none, rfl, rfl, rfl, ((show St w w8 [fact True, slt g2 d 1 k s2, dsk d m2, pool P, rsl X P R] from ((H8.out.pick 2 rfl).drop).addFact trivial).perm (List.perm_append_comm (l₁ := [_]) (l₂ := [_, _, _, _]))).perm (.cons _ (.cons _ (.swap _ _ _))), HSI2.out, fun _ e => absurd e (by simp), HZ2.out, HL2.out⟩
              · have b4 : (kind == 4) = false := by simpa using k4
                have n012 : (kind = 0 ∨ kind = 1 ∨ kind = 2) = False := eq_false H012.out
                clear k3 k4
                simp only [n012, decide_false]
                go_wp2_with (fail)
                go_meet
                exact ⟨g, s, m, X, P, R, M, mt, rfl, rfl, rfl, H5.out.take 5, HSI.out, HMG.out, HZR.out, HLN.out⟩
        case rest =>
          obtain ⟨g2, s2, m2, X2, P2, R2, M2, mt2, rfl, rfl, rfl, hi2⟩ := hcut
          have HI2 := Lib.hid hi2
          clear hi2 H5 HSI HMG HZR HLN HZ HW5 z0 z1 z2 z3 z4 z5 z6 lz
          go_wp2_with (fail)
          refine (dsk_down (HI2.out.st.pick 1 rfl)).mono ?_
          rintro e w6 ⟨rfl, rfl⟩
          cases hdn : m2.down with
          | true =>
            go_wp2_with (fail)
            go_roundw
            case rel => exact ⟨q + 1, g2, s2, m2, X2, P2, R2, M2, mt2, by omega, by go_num, rfl, rfl, rfl, HI2.out⟩
            case measure => simp [intOf] <;> omega
          | false =>
            have hgd := RGood.ofMem HI2.out.si.mem
            have HSM := Lib.hid (same_slot (show St w w6 (slt g2 d 1 k s2 :: dsk d m2 :: rsl X2 P2 R2 :: pool P2 :: mgt P2 M2 mt2 :: []) from HI2.out.st) HI2.out.si.pl HI2.out.si.right hdn (by have := HI2.out.si.few; omega) hgd ⟨bytesM_len HI2.out.si.right, bytesR_len hgd⟩)
            rw [decide_eq_true (HI2.out.si.alike hdn)] at HSM
            clear hgd
            go_wp2_with (fail)
            refine HSM.out.mono ?_
            rintro e w7 ⟨rfl, h7⟩
            have HI7 := Lib.hid (show AI w d k g2 s2 m2 X2 P2 R2 M2 mt2 w7 from ⟨h7, HI2.out.si, HI2.out.mg, HI2.out.zr, HI2.out.len⟩)
            clear h7
            go_wp2_with (fail)
            go_roundw
            case rel => exact ⟨q + 1, g2, s2, m2, X2, P2, R2, M2, mt2, by omega, by go_num, rfl, rfl, rfl, HI7.out⟩
            case measure => simp [intOf] <;> omega
      · have hqn : q = n := by omega
        have hlt' : ¬ (q : Int) < (n : Int) := by omega
        clear hqn
        obtain ⟨m2, hm2⟩ : ∃ m2, m2 = m.power 0 := ⟨_, rfl⟩
        have HZ2 := Lib.hid (show Zr m2 1 k by rw [hm2]; exact HI.out.zr.power 0)
        have HL2 := Lib.hid (show m2.secs.length = 20 by rw [hm2, DS.power_slen]; exact HI.out.len)
        have HD2 := Lib.hid (show m2.down = false by rw [hm2]; rfl)
        have HW2 := Lib.hid (show m2.waits = [] by rw [hm2]; rfl)
        go_wp2_with (fail)
        refine (dsk_power (HI.out.st.pick 1 rfl) 0 (by omega) (by omega) (by have := HI.out.si.few; omega)).mono ?_
        rintro e w6 ⟨rfl, h6⟩
        rw [← hm2] at h6
        have H6 := Lib.hid (show St w w6 [dsk d m2] from h6.take 1)
        clear h6 hm2
        have hmk : ∀ w : World, (Instr.makeSlice 76 (.int .i64 64) (.int .i64 64)).run Try.prog w = .ok (.slice (some ⟨w.heap.size, 0, none⟩) 64 64) (w.alloc (.cells (List.replicate 64 (Value.int .u8 0)).toArray 5)) := fun w => bytes.make_eq 64 (by omega) w
        go_wp2_with (fail)
        go_loopw [138] (fun i wr => ∃ (q : Nat), q ≤ 20 ∧ i = .int .i64 q ∧ St w wr [dsk d m2]) (fun i _ => 20 - (intOf i).toNat)
        case atStart => exact ⟨0, by omega, rfl, H6.out⟩
        case round =>
          obtain ⟨j, hj, rfl, hst⟩ := hrel
          have HT := Lib.hid hst
          clear hst H6
          by_cases hlt2 : j < 20
          · have hlt2' : (j : Int) < 20 := by omega
            have hj0 : (0 : Int) ≤ (j : Int) := by omega
            obtain ⟨fr, hfr⟩ : ∃ fr : Int, fr = 10 * 1 + 2 + 4 * k := ⟨_, rfl⟩
            have HRS := Lib.hid (fun w => Go.Proofs.Ytooagoikiafgcaa.placeSays.rstage_in 1 k w (by omega) (by omega) k0 k2)
            rw [← hfr] at HRS
            have hfr' : fr = sAt 1 k := by rw [hfr]; unfold sAt; omega
            have HFR := Lib.hid hfr'
            have hf0 : 0 ≤ fr := by omega
            have hf1 : fr ≤ 16 := by omega
            clear hfr hfr'
            go_wp2_with (fail)
            refine (HRS.out _).mono ?_
            rintro e w7 ⟨⟨r, rfl, rfl⟩, rfl⟩
            by_cases q1 : (j : Int) ≥ r
            · by_cases q2 : (j : Int) < r + 4
              · go_wp2_with (fail)
                go_roundw
                case rel => exact ⟨j + 1, by omega, by go_num, HT.out⟩
                case measure => simp [intOf] <;> omega
              · have HO := Lib.hid (show m2.now j = zeroSec from HZ2.out.now HW2.out (by rw [HL2.out]; omega) (.inr (by rw [← HFR.out]; omega)))
                go_wp2_with (fail)
                refine (dsk_read HT.out j j rfl (by rw [HL2.out]; exact hlt2) HD2.out (by rw [HW2.out]; simp)).mono ?_
                rintro e w8 ⟨t, rfl, h8⟩
                rw [HO.out] at h8
                have H8 := Lib.hid h8
                have H9 := Lib.hid (h8.new 5 (List.replicate 64 (Value.int .u8 0)).toArray)
                clear h8
                have HSA := Lib.hid (byte_sl (H9.out.pick 1 rfl).row.1 (show zeroSec.length = 64 from rfl))
                have HSB := Lib.hid (byte_sl (l := zeroSec) H9.out.row.1 (show zeroSec.length = 64 from rfl))
                go_wp2_with (fail)
                refine (same_any zeroSec zeroSec _ _ 64 64 64 64 _ rfl rfl (by omega) (by omega) HSA.out HSB.out).mono ?_
                rintro e w9 ⟨rfl, hb⟩
                have HT9 := Lib.hid (show St w w9 [dsk d m2] from ((H9.out.below hb).drop.drop))
                clear hb
                go_wp2_with (fail)
                go_roundw
                case rel => exact ⟨j + 1, by omega, by go_num, HT9.out⟩
                case measure => simp [intOf] <;> omega
            · have HO := Lib.hid (show m2.now j = zeroSec from HZ2.out.now HW2.out (by rw [HL2.out]; omega) (.inl (by rw [← HFR.out]; omega)))
              go_wp2_with (fail)
              refine (dsk_read HT.out j j rfl (by rw [HL2.out]; exact hlt2) HD2.out (by rw [HW2.out]; simp)).mono ?_
              rintro e w8 ⟨t, rfl, h8⟩
              rw [HO.out] at h8
              have H8 := Lib.hid h8
              have H9 := Lib.hid (h8.new 5 (List.replicate 64 (Value.int .u8 0)).toArray)
              clear h8
              have HSA := Lib.hid (byte_sl (H9.out.pick 1 rfl).row.1 (show zeroSec.length = 64 from rfl))
              have HSB := Lib.hid (byte_sl (l := zeroSec) H9.out.row.1 (show zeroSec.length = 64 from rfl))
              go_wp2_with (fail)
              refine (same_any zeroSec zeroSec _ _ 64 64 64 64 _ rfl rfl (by omega) (by omega) HSA.out HSB.out).mono ?_
              rintro e w9 ⟨rfl, hb⟩
              have HT9 := Lib.hid (show St w w9 [dsk d m2] from ((H9.out.below hb).drop.drop))
              clear hb
              go_wp2_with (fail)
              go_roundw
              case rel => exact ⟨j + 1, by omega, by go_num, HT9.out⟩
              case measure => simp [intOf] <;> omega
          · have hj20 : j = 20 := by omega
            have hlt2' : ¬ (j : Int) < 20 := by omega
            clear hj20
            go_wp2_with (fail)
            go_ret
            exact ⟨rfl, HT.out.bel⟩

/-! ### the row: written by program -/
set_option maxRecDepth 100000 in
theorem lifted (os : Os) (started : os.Started) (H : Type) (enc : TypeId × Value → H) :
    ReturnsInHanded {} Try.checked os 12 .any (Rows.stageActsSpec.pre6 enc Try.prog Try.f12 Rows.stageActsRow.domain false) (Rows.stageActsSpec.post enc Try.prog Try.f12 false true false false) := by
  refine returnsInHanded_of_change (C := Try.checked) Go.Proofs.Ytooagoikiafgcaa.lift.own started (by kernel_rfl) Try.func12
    (ChangeSpec.witness6 (enc := enc) (C := Try.checked) false ⟨#[], #[.int .u8 0, .slice none 0 0], []⟩ 8 (by kernel_rfl) (by kernel_rfl) (by kernel_rfl) (by kernel_rfl)) ?_
  intro W base args ds gs before hval0 hW hcnd _
  have hval : ∀ (j : Nat) t v, Try.f12.params[j]? = some t → args[j]? = some v → Value.okWide Try.prog W .any base t v := hval0
  have hW' := hW
  obtain ⟨p, q, hA0, hV, rfl, hfz, hnd⟩ := hW
  have hA : DataW.TrodAll enc Try.prog W 0 (fun _ => true) true Try.f12.params.toList args.toList ds p := hA0
  have hAk := hA
  rw [Try.params12] at hA hval
  obtain ⟨v0, vs0, d0, ds0, p0, q0, hargs, rfl, rfl, h0, r0⟩ := trodAll_cons hA
  obtain ⟨v1, vs1, d1, ds1, p1, q1, rfl, rfl, rfl, h1, r1⟩ := trodAll_cons r0
  obtain ⟨rfl, rfl, rfl⟩ := trodAll_nil r1
  obtain rfl : args = #[v0, v1] := by cases args; simp_all
  obtain ⟨rfl, rfl⟩ := trodVars_none hV
  have hlt := hW'.lt
  obtain ⟨a0, rfl, _, _, w0⟩ := open_int Try.underlying5 (hval 0 5 v0 rfl rfl) h0
  obtain ⟨A1, c1, l1, rfl, hm1, hs1, ho1⟩ := stage.arg_acts (hval 1 89 v1 rfl rfl) h1
  refine (walk W a0 w0 A1 c1 l1 hm1 hs1 ho1).mono fun e W' ⟨he, hg⟩ => ?_
  subst he
  exact ⟨_, rfl, Go.Proofs.Ytooagoikiafgcaa.base.postBelow (pv := []) hW' (fun _ _ _ => (trodAll_cons_mk (shut_bool Try.underlying4 _) trodAll_mk0)) (fun sp hsp => Go.Proofs.Ytooagoikiafgcaa.lift.args_stay Go.Proofs.Ytooagoikiafgcaa.lift.laidOut hg _ _ _ _ (by kernel_rfl) hAk (fun x hx => hlt x (by simpa using hx)) (fun x hx => hsp x (by simpa using hx))) (fun _ _ => rfl) (by simp)
    hg (ok_one (by kernel_rfl) rfl (okWide_bool_mk Try.underlying4 _))⟩

theorem over : Rows.stageActsRow.holds Try.pinned (OpenSpec.ofChange Rows.stageActsSpec) :=
  OpenClaim.holds_of_wide 12 Try.f12 rfl rfl rfl rfl rfl rfl rfl ⟨rfl, rfl, rfl, rfl, rfl⟩ rfl rfl rfl rfl rfl (by kernel_rfl) Try.func12 (by kernel_rfl)
    (of_decide_eq_true (by kernel_rfl)) (by unfold Func.isWrapper; first | (rw [if_pos (by decide +kernel)]; kernel_rfl) | (rw [if_neg (by decide +kernel)]; exact ⟨rfl, rfl⟩))
    (fun os started H enc _ => lifted os started H enc)

/-- THE STATEMENT -/
theorem proved : Rows.StageActsSaid :=
  over
#print axioms proved
end Go.Proofs.Ytooagoikiafgcaa.stageActs
