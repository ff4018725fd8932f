/-
  PROVED HERE: for all lists l of records and every uint8 part, longeronlaw12.CommitRises(l, part) returns true and leaves memory as it was.
  CONDITIONS: none.
-/
import Derived.Test.YtdlbcbdfcjfagaaCommitNext
import Derived.Test.YtdlbcbdfcjfagaaPlaceSays
namespace Go.Proofs.Ytdlbcbdfcjfagaa.commitRises
set_option linter.unusedVariables false
open Go.RowKit Go.ChangeShapes Go.WideShapes Go.ChangeAt Go.Deep Go.Joins Go.Proofs.Ytdlbcbdfcjfagaa.base Go.Proofs.Ytdlbcbdfcjfagaa.obj Go.Proofs.Ytdlbcbdfcjfagaa.mem Go.Proofs.Ytdlbcbdfcjfagaa.crc Go.Proofs.Ytdlbcbdfcjfagaa.disk Go.Proofs.Ytdlbcbdfcjfagaa.record Go.Proofs.Ytdlbcbdfcjfagaa.sep Go.Proofs.Ytdlbcbdfcjfagaa.plan Go.Proofs.Ytdlbcbdfcjfagaa.commit

instance : Inhabited Rec := ⟨Rec.zero⟩
def recsCells (l : List Rec) : List Value := (l.map fun r => r.cells.toList).flatten
theorem recsCells_snoc (l : List Rec) (a : Rec) : recsCells (l ++ [a]) = recsCells l ++ a.cells.toList := by simp [recsCells]
set_option maxRecDepth 100000 in
theorem arg_recs {H : Type} {enc : TypeId × Value → H} {W : World} {r : Reach} {b0 : Nat} {v : Value} {d : DataW H} {ps : List MemPlace} (hval : Value.okWide Try.prog W r b0 78 v)
    (h : DataW.Trod enc Try.prog W 0 (fun _ => true) true 78 v d ps) : ∃ (A : Option Addr) (c : Nat) (l : List Rec), v = .slice A l.length c ∧ l.length ≤ maxLen ∧ Sl W W.heap.size 6 A l.length (recsCells l) ∧ ∀ a ∈ l, a.In := by
  obtain ⟨A, n, c, q, rfl, hn, hs, hq⟩ := Go.Proofs.Ytdlbcbdfcjfagaa.lift.arg_row Try.underlying78 (s := 6) (by kernel_rfl) (by decide) hval h
  have each : ∀ i, i < n → ∃ p : Rec, q i = p.cells.toList ∧ p.In := by
    intro i hi
    obtain ⟨hl, m, x, hx⟩ := hq i hi
    have hf := Go.Proofs.Ytdlbcbdfcjfagaa.lift.row_fields Try.underlying23 (by kernel_rfl) (by simpa using hl) hx
    obtain ⟨v0, k0, y0, g0, t0⟩ := hf 0 _ rfl
    obtain ⟨v1, k1, y1, g1, t1⟩ := hf 1 _ rfl
    obtain ⟨v2, k2, y2, g2, t2⟩ := hf 2 _ rfl
    obtain ⟨v3, k3, y3, g3, t3⟩ := hf 3 _ rfl
    obtain ⟨v4, k4, y4, g4, t4⟩ := hf 4 _ rfl
    obtain ⟨v5, k5, y5, g5, t5⟩ := hf 5 _ rfl
    obtain ⟨a0, h0, _, w0⟩ := DataW.trod_int Try.underlying3 t0
    obtain ⟨a1, h1, _, w1⟩ := DataW.trod_int Try.underlying3 t1
    obtain ⟨a2, h2, _, w2⟩ := DataW.trod_int Try.underlying3 t2
    obtain ⟨a3, h3, _, w3⟩ := DataW.trod_int Try.underlying3 t3
    obtain ⟨a4, h4, _, w4⟩ := DataW.trod_int Try.underlying3 t4
    obtain ⟨a5, h5, _, w5⟩ := DataW.trod_int Try.underlying3 t5
    simp at h0 h1 h2 h3 h4 h5
    subst h0; subst h1; subst h2; subst h3; subst h4; subst h5
    refine ⟨⟨a0, a1, a2, a3, a4, a5⟩, ?_, inI_of w0, inI_of w1, inI_of w2, inI_of w3, inI_of w4, inI_of w5⟩
    match hqi : q i, hl with
    | [u0, u1, u2, u3, u4, u5], _ =>
      rw [hqi] at g0 g1 g2 g3 g4 g5
      simp at g0 g1 g2 g3 g4 g5
      rw [g0, g1, g2, g3, g4, g5]
      rfl
  obtain ⟨z, hz⟩ := choose_lt each
  have e1 : ∀ m, m ≤ n → (List.range m).flatMap q = recsCells ((List.range m).map z) := by
    intro m
    induction m with
    | zero => intro _; simp [recsCells]
    | succ m ih =>
      intro hm
      rw [List.range_succ, List.flatMap_append, List.map_append, ih (by omega), List.map_cons, List.map_nil, recsCells_snoc]
      simp [(hz m (by omega)).1]
  rw [e1 n (Nat.le_refl _)] at hs
  have hl : ((List.range n).map z).length = n := by simp
  refine ⟨A, c, (List.range n).map z, by rw [hl], by rw [hl]; exact hn, by rw [hl]; exact hs, fun a ha => ?_⟩
  obtain ⟨i, hi, rfl⟩ := List.mem_map.1 ha
  exact (hz i (List.mem_range.1 hi)).2
/-- the cells of record number k -/
theorem rec_at {w w' : World} {A : Option Addr} {l : List Rec} (h : Sl w w.heap.size 6 A l.length (recsCells l)) (hb : Below w.heap.size w w') {k : Nat} (hk : k < l.length) : ∃ b off, A = some ⟨b, off, none⟩ ∧ b < w'.heap.size ∧
    w'.cell? ⟨b, off + k * 6, none⟩ = some (.int .i64 l[k].part) ∧ w'.cell? ⟨b, off + k * 6 + 1, none⟩ = some (.int .i64 l[k].seq) ∧ w'.cell? ⟨b, off + k * 6 + 2, none⟩ = some (.int .i64 l[k].active) ∧
    w'.cell? ⟨b, off + k * 6 + 3, none⟩ = some (.int .i64 l[k].confirmed) ∧ w'.cell? ⟨b, off + k * 6 + 4, none⟩ = some (.int .i64 l[k].left) ∧ w'.cell? ⟨b, off + k * 6 + 5, none⟩ = some (.int .i64 l[k].bad) := by
  obtain ⟨b, off, rfl, hbl, hc⟩ := h.2 (by omega)
  have h6 : ∀ x ∈ l.map (fun r => r.cells.toList), x.length = 6 := by
    intro x hx
    obtain ⟨a, _, rfl⟩ := List.mem_map.1 hx
    rfl
  have e := flat_elem h6 (i := k) (by simpa using hk)
  have g : ∀ j, j < 6 → (recsCells l)[k * 6 + j]? = l[k].cells.toList[j]? := by
    intro j hj
    have e2 : (((l.map (fun r => r.cells.toList)).flatten.drop (k * 6)).take 6)[j]? = (l.map (fun r => r.cells.toList)).flatten[k * 6 + j]? := by
      rw [List.getElem?_take, if_pos hj, List.getElem?_drop]
    rw [e] at e2
    rw [recsCells, ← e2]
    simp
  have c : ∀ j u, j < 6 → l[k].cells.toList[j]? = some u → w'.cell? ⟨b, off + k * 6 + j, none⟩ = some u := by
    intro j u hj hu
    rw [hb.cell (p := ⟨b, off + k * 6 + j, none⟩) hbl, Nat.add_assoc]
    exact hc _ _ ((g j hj).trans hu)
  exact ⟨b, off, rfl, Nat.lt_of_lt_of_le hbl hb.size, c 0 _ (by omega) rfl, c 1 _ (by omega) rfl, c 2 _ (by omega) rfl, c 3 _ (by omega) rfl, c 4 _ (by omega) rfl, c 5 _ (by omega) rfl⟩

/-- what holds ahead of each round -/
structure RI (w : World) (g d : Nat) (p : Int) (s : LogS) (m : DS) (wr : World) : Prop where
  st : St w wr [log g d p s.held s.now, dsk d m]
  ok : LogOk m p s
  up : m.Up
  len : m.secs.length = 40
  few : m.waits = []

set_option maxRecDepth 100000 in
set_option maxHeartbeats 16000000 in
theorem walk (w : World) (A : Option Addr) (c : Nat) (l : List Rec) (hm : l.length ≤ maxLen) (hs : Sl w w.heap.size 6 A l.length (recsCells l)) (hok : ∀ a ∈ l, a.In) (pt : Int) (wp : (Lit.int .u8 pt).wf = true) :
    Calls Try.prog 11 #[.slice A l.length c, .int .u8 pt] w fun e w' => e = .returned (.bool true) ∧ Below w.heap.size w w' := by
  have hpt : 0 ≤ pt ∧ pt ≤ 255 := by
    have h1 : IntKind.u8.min = 0 := rfl
    have h2 : IntKind.u8.max = 255 := rfl
    simp only [Lit.wf, Bool.and_eq_true, decide_eq_true_eq] at wp
    omega
  obtain ⟨pt0, pt1⟩ := hpt
  have HS := Lib.hid hs; have HOK := Lib.hid hok
  unfold maxLen at hm
  clear wp hs hok
  obtain ⟨n, hn⟩ : ∃ n, n = l.length := ⟨_, rfl⟩
  rw [← hn] at hm HS ⊢
  have HN := Lib.hid hn
  clear hn
  have HM0 := Lib.hid (show DS.new (clampN 40) = DS.new 40 from rfl)
  obtain ⟨m, hmm⟩ : ∃ m, m = DS.new 40 := ⟨_, rfl⟩
  rw [← hmm] at HM0
  have HM := Lib.hid hmm
  clear hmm
  by_cases hbig : n > 50
  · have hbig' : (n : Int) > 50 := by omega
    go_enter Try.func11, Try.ntmps11
    go_wp2_with (fail)
    refine (commit.wakes _).mono ?_
    rintro e w1 ⟨rfl, hb⟩
    have HB1 := Lib.hid hb
    clear hb
    go_wp2_with (fail)
    go_ret
    exact ⟨rfl, HB1.out⟩
  · have hbig' : ¬ (n : Int) > 50 := by omega
    have hn50 : n ≤ 50 := by omega
    clear hbig
    obtain ⟨p, hp⟩ : ∃ p : Int, p = pt % 4 := ⟨_, rfl⟩
    have hp0 : 0 ≤ p := by omega
    have hp3 : p < 4 := by omega
    have HP := Lib.hid hp
    clear hp
    have HRM := Lib.hid (show roomFor p m.secs.length = true by rw [HM.out]; unfold roomFor; simp [DS.new]; omega)
    have HFU := Lib.hid (format_up (m := m) (by rw [HM.out]; exact DS.new_good (by decide) (by decide)) (by rw [HM.out]; exact DS.new_bts 40) (by rw [HM.out]; exact DS.new_up 40) HRM.out)
    have HF := Lib.hid (fun (w1 : World) (d : Nat) (l : List Asn) (h1 : St w w1 (dsk d m :: l)) => format_at h1 p HRM.out (by rw [HM.out]; decide))
    have HLEN := Lib.hid (show m.secs.length = 40 by rw [HM.out]; rfl)
    go_enter Try.func11, Try.ntmps11
    go_wp2_with (fail)
    refine (commit.wakes _).mono ?_
    rintro e w1 ⟨rfl, hb⟩
    have H1 := Lib.hid ((St.nil w).below hb)
    clear hb
    go_wp2_with (fail)
    refine (dsk_new H1.out 40).mono ?_
    rintro e w2 ⟨d, rfl, h2⟩
    rw [HM0.out] at h2
    have H2 := Lib.hid h2
    clear h2
    rw [← HP.out]
    go_wp2_with (fail)
    refine (HF.out _ _ _ H2.out).mono ?_
    rintro e w3 hb
    obtain ⟨g, rfl, h3⟩ := hb.1 HFU.out.1
    have HI := Lib.hid (show RI w g d p ⟨0, firstRec p⟩ (formatM m p).2 w3 from ⟨h3, HFU.out.2.1, HFU.out.2.2.1, by rw [HFU.out.2.2.2.2.1]; exact HLEN.out, HFU.out.2.2.2.1⟩)
    clear hb h3
    go_wp2_with (fail)
    go_loopw [40] (fun i wr => ∃ (k : Nat) (s : LogS) (m : DS), k ≤ n ∧ i = .int .i64 k ∧ RI w g d p s m wr) (fun i _ => n - (intOf i).toNat)
    case atStart => exact ⟨0, _, _, by omega, rfl, HI.out⟩
    case round =>
      obtain ⟨k, s, m1, hk, rfl, hi⟩ := hrel
      clear HFU HF HLEN HRM HM HM0 H1 H2 HI
      have HI := Lib.hid hi
      clear hi
      by_cases hlt : k < n
      · have hkl : k < l.length := by rw [← HN.out]; exact hlt
        rw [HN.out] at HS
        obtain ⟨b, off, rfl, lb, a0, a1, a2, a3, a4, a5⟩ := rec_at HS.out HI.out.st.bel hkl
        have HKL := Lib.hid hkl
        generalize l[k] = r at a0 a1 a2 a3 a4 a5
        have hlt' : (k : Int) < (n : Int) := by omega
        have hk0 : (0 : Int) ≤ (k : Int) := by omega
        clear hkl
        obtain ⟨w4, hw4⟩ : ∃ w4, w4 = wr.alloc (.cells #[.int .i64 r.part, .int .i64 r.seq, .int .i64 r.active, .int .i64 r.confirmed, .int .i64 r.left, .int .i64 r.bad] 23) := ⟨_, rfl⟩
        have H4 := Lib.hid (show St w w4 (row wr.heap.size 23 r.cells.toList :: _) by rw [hw4]; exact HI.out.st.new _ _)
        have HW4 := Lib.hid hw4
        clear hw4
        have HV := Lib.hid (Rec.val_eq r)
        go_wp2_with (fail)
        rw [← HW4.out]
        have HLA := Lib.hid (fun (W : World) (ls : List Asn) (s : LogS) (h : St w W (log g d p s.held s.now :: ls)) => latest_at h)
        refine (HLA.out _ _ _ (H4.out.pick 1 rfl)).mono ?_
        rintro e w5 ⟨rfl, hb⟩
        have H5 := Lib.hid (H4.out.below hb)
        clear hb a0 a1 a2 a3 a4 a5 lb
        obtain ⟨held, now⟩ := s
        dsimp only
        rw [Rec.val_eq]
        obtain ⟨w6, hw6⟩ : ∃ w6, w6 = w5.alloc (.cells #[.int .i64 now.part, .int .i64 now.seq, .int .i64 now.active, .int .i64 now.confirmed, .int .i64 now.left, .int .i64 now.bad] 23) := ⟨_, rfl⟩
        have H6 := Lib.hid (show St w w6 (log g d p held now :: dsk d m1 :: row w5.heap.size 23 now.cells.toList :: row wr.heap.size 23 r.cells.toList :: []) by rw [hw6]; exact ((H5.out.new 23 now.cells).pick 3 rfl).pick 3 rfl)
        have HW6 := Lib.hid hw6
        clear hw6
        obtain ⟨r0, r1, r2, r3, r4, r5⟩ := Rec.read (H6.out.pick 3 rfl).row.1
        have lr := (H6.out.pick 3 rfl).row.1.lt
        have HSV := Lib.hid (save_at (s := ⟨held, now⟩) H6.out HI.out.ok.held (by have := right_seq HI.out.ok.right; omega) (by rw [HI.out.few]; decide) r)
        have HQ := Lib.hid (right_seq HI.out.ok.right)
        rcases saved m1 p ⟨held, now⟩ r HI.out.ok.part with ⟨c, hc, h1, h2⟩ | ⟨nx, h1, hn, hr', h2⟩
        · rw [h2] at HSV
          have b1 : (c != 0) = true := by rw [bne_iff_ne]; omega
          clear hc h1 h2
          go_upto_region 14 with fail
          rw [← HW6.out]
          go_wp2_with (fail)
          rw [← HV.out]
          refine HSV.out.mono ?_
          rintro e w7 ⟨rfl, h7⟩
          have H7 := Lib.hid h7.drew
          clear h7 r0 r1 r2 r3 r4 r5 lr
          obtain ⟨q0, q1, q2, q3, q4, q5⟩ := Rec.read (w := w7) (H7.out.pick 2 rfl).row.1
          have lq : w5.heap.size < w7.heap.size := (H7.out.pick 2 rfl).row.1.lt
          go_wp2_with (fail)
          refine wp_region_plan [0] [[1, 2, 3], [2, 1, 3]] (by kernel_rfl) (by kernel_rfl) (fun _ _ _ _ _ h => h) ?_
          simp only [forks, pick, List.getElem?_cons_succ, List.getElem?_cons_zero, Option.getD_some]
          iterate 1 still_step
          refine wpStill_nil ?_
          refine ⟨?_, ?_⟩
          all_goals
            go_wp2_with (fail)
            refine (HLA.out _ _ ⟨held, now⟩ H7.out).mono ?_
            rintro e w8 ⟨rfl, hb⟩
            have H8 := Lib.hid (H7.out.below hb)
            clear hb
            obtain ⟨t0, t1, t2, t3, t4, t5⟩ := Rec.read (w := w8) (H8.out.pick 2 rfl).row.1
            have lt := (H8.out.pick 2 rfl).row.1.lt
            dsimp only
            rw [Rec.val_eq now]
            go_wp2_with (fail)
            go_roundw
            case rel => exact ⟨k + 1, ⟨held, now⟩, m1, by omega, by go_num, ⟨((H8.out.pick 2 rfl).drop.pick 2 rfl).drop, HI.out.ok, HI.out.up, HI.out.len, HI.out.few⟩⟩
            case measure => simp [intOf] <;> omega
        · obtain ⟨m2, s1, s2, s3, s4, s5, s6, s7, s8, s9⟩ := up_save HI.out.ok HI.out.up h1
          rw [s1] at HSV
          have HI2 := Lib.hid (show LogOk m2 p ⟨1 - held, nx⟩ ∧ m2.Up ∧ m2.secs.length = 40 ∧ m2.waits = [] from ⟨s2, s3, by rw [s5]; exact HI.out.len, s4⟩)
          have hsq : nx.seq = now.seq + 1 := by rw [hn]; rfl
          have hw0 : -1 ≤ now.seq := by have := HQ.out; show -1 ≤ (⟨held, now⟩ : LogS).now.seq; omega
          have hw1 : now.seq ≤ 4294967295 := HQ.out.2
          have HCR := Lib.hid (show ∃ bsA bsB xa xb, m2.now (10 * p + 0).toNat = bsA ∧ m2.now (10 * p + 1).toNat = bsB ∧ getRec bsA = (xa, 0) ∧ getRec bsB = (xb, 0) ∧ (xa = now ∧ xb = nx ∨ xa = nx ∧ xb = now) by
            have hc := HI.out.ok.cur
            have hb := getRec_bytes hr'
            rcases HI.out.ok.held with e | e
            · simp only at e
              subst e
              simp only at hc s7 s8
              refine ⟨_, _, now, nx, rfl, rfl, ?_, ?_, .inl ⟨rfl, rfl⟩⟩
              · rw [show (10 * p + 0).toNat = (p * 10 + 0).toNat by omega, s7]; exact hc
              · rw [show (10 * p + 1).toNat = (p * 10 + (1 - 0)).toNat by omega, s8]; exact hb
            · simp only at e
              subst e
              simp only at hc s7 s8
              refine ⟨_, _, nx, now, rfl, rfl, ?_, ?_, .inr ⟨rfl, rfl⟩⟩
              · rw [show (10 * p + 0).toNat = (p * 10 + (1 - 1)).toNat by omega, s8]; exact hb
              · rw [show (10 * p + 1).toNat = (p * 10 + 1).toNat by omega, s7]; exact hc)
          obtain ⟨bsA, bsB, xa, xb, hA, hB, hgA, hgB, hx⟩ := HCR.out
          have HA := Lib.hid hA; have HB := Lib.hid hB; have HGA := Lib.hid hgA; have HGB := Lib.hid hgB; have HX := Lib.hid hx; have HSQ := Lib.hid hsq
          clear h1 h2 hn hr' s1 s2 s3 s4 s5 s6 s7 s8 s9 hA hB hgA hgB hx HCR hsq
          go_upto_region 14 with fail
          rw [← HW6.out]
          go_wp2_with (fail)
          rw [← HV.out]
          refine HSV.out.mono ?_
          rintro e w7 ⟨rfl, h7⟩
          have H7 := Lib.hid h7
          clear h7 r0 r1 r2 r3 r4 r5 lr
          go_wp2_with (fail)
          refine (Go.Proofs.Ytdlbcbdfcjfagaa.placeSays.rcommit_in p 0 _ hp0 hp3 (by omega) (by omega)).mono ?_
          rintro e w8 ⟨⟨t, ht, rfl⟩, rfl⟩
          have HRD := Lib.hid (dsk_read (H7.out.pick 1 rfl) t (10 * p + 0).toNat (by omega) (by rw [HI2.out.2.2.1]; omega) HI2.out.2.1.1 (by rw [HI2.out.2.2.2]; decide))
          rw [HA.out] at HRD
          have HLA1 := Lib.hid (show bsA.length = 64 by rw [← HA.out]; exact HI2.out.1.good.now_len (by rw [HI2.out.2.2.1]; omega))
          have HBA := Lib.hid (show Byt bsA by rw [← HA.out]; exact HI2.out.1.bts.now _)
          have HLB1 := Lib.hid (show bsB.length = 64 by rw [← HB.out]; exact HI2.out.1.good.now_len (by rw [HI2.out.2.2.1]; omega))
          have HBB := Lib.hid (show Byt bsB by rw [← HB.out]; exact HI2.out.1.bts.now _)
          clear ht
          go_wp2_with (fail)
          refine HRD.out.mono ?_
          rintro e w9 ⟨ga, rfl, h9⟩
          have H9 := Lib.hid h9
          clear h9
          go_wp2_with (fail)
          refine (Go.Proofs.Ytdlbcbdfcjfagaa.placeSays.rcommit_in p 1 _ hp0 hp3 (by omega) (by omega)).mono ?_
          rintro e w8 ⟨⟨t, ht, rfl⟩, rfl⟩
          have HRD2 := Lib.hid (dsk_read (H9.out.pick 1 rfl) t (10 * p + 1).toNat (by omega) (by rw [HI2.out.2.2.1]; omega) HI2.out.2.1.1 (by rw [HI2.out.2.2.2]; decide))
          rw [HB.out] at HRD2
          clear ht
          go_wp2_with (fail)
          refine HRD2.out.mono ?_
          rintro e w10 ⟨gb, rfl, h10⟩
          have H10 := Lib.hid h10
          clear h10
          go_wp2_with (fail)
          refine (Go.Proofs.Ytdlbcbdfcjfagaa.refRec.get_at _ (some ⟨ga, 0, none⟩) 64 64 bsA HLA1.out (by omega) HBA.out (byte_sl (H10.out.pick 2 rfl).row.1 HLA1.out)).mono ?_
          rintro e w11 ⟨rfl, hb⟩
          rw [HGA.out]
          have H11 := Lib.hid (H10.out.below hb)
          clear hb
          dsimp only
          rw [Rec.val_eq xa]
          obtain ⟨w12, hw12⟩ : ∃ w12, w12 = w11.alloc (.cells #[.int .i64 xa.part, .int .i64 xa.seq, .int .i64 xa.active, .int .i64 xa.confirmed, .int .i64 xa.left, .int .i64 xa.bad] 23) := ⟨_, rfl⟩
          have H12 := Lib.hid (show St w w12 _ by rw [hw12]; exact H11.out.new 23 xa.cells)
          have HW12 := Lib.hid hw12
          clear hw12
          go_wp2_with (fail)
          rw [← HW12.out]
          refine (Go.Proofs.Ytdlbcbdfcjfagaa.refRec.get_at _ (some ⟨gb, 0, none⟩) 64 64 bsB HLB1.out (by omega) HBB.out (byte_sl (H12.out.pick 1 rfl).row.1 HLB1.out)).mono ?_
          rintro e w13 ⟨rfl, hb⟩
          rw [HGB.out]
          have H13 := Lib.hid (H12.out.below hb)
          clear hb
          dsimp only
          rw [Rec.val_eq xb]
          obtain ⟨w14, hw14⟩ : ∃ w14, w14 = w13.alloc (.cells #[.int .i64 xb.part, .int .i64 xb.seq, .int .i64 xb.active, .int .i64 xb.confirmed, .int .i64 xb.left, .int .i64 xb.bad] 23) := ⟨_, rfl⟩
          have H14 := Lib.hid (show St w w14 (row w13.heap.size 23 xb.cells.toList :: row w11.heap.size 23 xa.cells.toList :: row gb 5 (bsB.map (.int .u8)) :: dsk d m2 :: row ga 5 (bsA.map (.int .u8)) :: log g d p (1 - held) nx :: row w5.heap.size 23 now.cells.toList :: row wr.heap.size 23 r.cells.toList :: []) by rw [hw14]; exact H13.out.new 23 xb.cells)
          have HW14 := Lib.hid hw14
          clear hw14
          go_wp2_with (fail)
          rw [← HW14.out]
          refine (HLA.out _ _ ⟨1 - held, nx⟩ (H14.out.pick 5 rfl)).mono ?_
          rintro e w15 ⟨rfl, hb⟩
          have H15 := Lib.hid (H14.out.below hb)
          clear hb
          dsimp only
          rw [Rec.val_eq nx]
          obtain ⟨w16, hw16⟩ : ∃ w16, w16 = w15.alloc (.cells #[.int .i64 nx.part, .int .i64 nx.seq, .int .i64 nx.active, .int .i64 nx.confirmed, .int .i64 nx.left, .int .i64 nx.bad] 23) := ⟨_, rfl⟩
          have H16 := Lib.hid (show St w w16 _ by rw [hw16]; exact H15.out.new 23 nx.cells)
          have HW16 := Lib.hid hw16
          clear hw16
          go_upto_region 22 with fail
          rw [← HW16.out]
          obtain ⟨n0, n1, n2, n3, n4, n5⟩ := Rec.read H16.out.row.1
          obtain ⟨b0, b1, b2, b3, b4, b5⟩ := Rec.read (H16.out.pick 1 rfl).row.1
          obtain ⟨a0, a1, a2, a3, a4, a5⟩ := Rec.read (H16.out.pick 2 rfl).row.1
          obtain ⟨o0, o1, o2, o3, o4, o5⟩ := Rec.read (H16.out.pick 7 rfl).row.1
          have ln := H16.out.row.1.lt
          have lb := (H16.out.pick 1 rfl).row.1.lt
          have la := (H16.out.pick 2 rfl).row.1.lt
          have lo := (H16.out.pick 7 rfl).row.1.lt
          have hsq := HSQ.out
          have e1 : (nx.seq != now.seq + 1) = false := by rw [hsq]; simp
          have hne : (nx.seq == now.seq) = false := by rw [beq_eq_false_iff_ne]; omega
          clear hsq
          have hx := HX.out
          rcases hx with ⟨rfl, rfl⟩ | ⟨rfl, rfl⟩
          · go_wp2_with (fail)
            go_roundw
            case rel => exact ⟨k + 1, ⟨1 - held, _⟩, m2, by omega, by go_num, ⟨((H16.out.pick 4 rfl).pick 6 rfl).take 2, HI2.out.1, HI2.out.2.1, HI2.out.2.2.1, HI2.out.2.2.2⟩⟩
            case measure => simp [intOf] <;> omega
          · go_wp2_with (fail)
            go_roundw
            case rel => exact ⟨k + 1, ⟨1 - held, _⟩, m2, by omega, by go_num, ⟨((H16.out.pick 4 rfl).pick 6 rfl).take 2, HI2.out.1, HI2.out.2.1, HI2.out.2.2.1, HI2.out.2.2.2⟩⟩
            case measure => simp [intOf] <;> omega
      · have hkl : k = n := by omega
        have hlt' : ¬ (k : Int) < (n : Int) := by omega
        clear hkl
        go_wp2_with (fail)
        go_ret
        exact ⟨rfl, HI.out.st.bel⟩

/-! ### the row: written by program -/
set_option maxRecDepth 100000 in
theorem lifted (os : Os) (started : os.Started) (H : Type) (enc : TypeId × Value → H) :
    ReturnsInHanded {} Try.checked os 11 .any (Rows.commitRisesSpec.pre6 enc Try.prog Try.f11 Rows.commitRisesRow.domain false) (Rows.commitRisesSpec.post enc Try.prog Try.f11 false true false false) := by
  refine returnsInHanded_of_change (C := Try.checked) Go.Proofs.Ytdlbcbdfcjfagaa.lift.own started (by kernel_rfl) Try.func11
    (ChangeSpec.witness6 (enc := enc) (C := Try.checked) false ⟨#[], #[.slice none 0 0, .int .u8 0], []⟩ 8 (by kernel_rfl) (by kernel_rfl) (by kernel_rfl) (by kernel_rfl)) ?_
  intro W base args ds gs before hval0 hW hcnd _
  have hval : ∀ (j : Nat) t v, Try.f11.params[j]? = some t → args[j]? = some v → Value.okWide Try.prog W .any base t v := hval0
  have hW' := hW
  obtain ⟨p, q, hA0, hV, rfl, hfz, hnd⟩ := hW
  have hA : DataW.TrodAll enc Try.prog W 0 (fun _ => true) true Try.f11.params.toList args.toList ds p := hA0
  have hAk := hA
  rw [Try.params11] at hA hval
  obtain ⟨v0, vs0, d0, ds0, p0, q0, hargs, rfl, rfl, h0, r0⟩ := trodAll_cons hA
  obtain ⟨v1, vs1, d1, ds1, p1, q1, rfl, rfl, rfl, h1, r1⟩ := trodAll_cons r0
  obtain ⟨rfl, rfl, rfl⟩ := trodAll_nil r1
  obtain rfl : args = #[v0, v1] := by cases args; simp_all
  obtain ⟨rfl, rfl⟩ := trodVars_none hV
  have hlt := hW'.lt
  obtain ⟨A1, c1, l1, rfl, hm1, hs1, ho1⟩ := arg_recs (hval 0 78 v0 rfl rfl) h0
  obtain ⟨a1, rfl, _, _, w1⟩ := open_int Try.underlying5 (hval 1 5 v1 rfl rfl) h1
  refine (walk W A1 c1 l1 hm1 hs1 ho1 a1 w1).mono fun e W' ⟨he, hg⟩ => ?_
  subst he
  exact ⟨_, rfl, Go.Proofs.Ytdlbcbdfcjfagaa.base.postBelow (pv := []) hW' (fun _ _ _ => (trodAll_cons_mk (shut_bool Try.underlying4 _) trodAll_mk0)) (fun sp hsp => Go.Proofs.Ytdlbcbdfcjfagaa.lift.args_stay Go.Proofs.Ytdlbcbdfcjfagaa.lift.laidOut hg _ _ _ _ (by kernel_rfl) hAk (fun x hx => hlt x (by simpa using hx)) (fun x hx => hsp x (by simpa using hx))) (fun _ _ => rfl) (by simp)
    hg (ok_one (by kernel_rfl) rfl (okWide_bool_mk Try.underlying4 _))⟩

theorem over : Rows.commitRisesRow.holds Try.pinned (OpenSpec.ofChange Rows.commitRisesSpec) :=
  OpenClaim.holds_of_wide 11 Try.f11 rfl rfl rfl rfl rfl rfl rfl ⟨rfl, rfl, rfl, rfl, rfl⟩ rfl rfl rfl rfl rfl (by kernel_rfl) Try.func11 (by kernel_rfl)
    (of_decide_eq_true (by kernel_rfl)) (by unfold Func.isWrapper; first | (rw [if_pos (by decide +kernel)]; kernel_rfl) | (rw [if_neg (by decide +kernel)]; exact ⟨rfl, rfl⟩))
    (fun os started H enc _ => lifted os started H enc)

/-- THE STATEMENT -/
theorem proved : Rows.CommitRisesSaid :=
  over
#print axioms proved
end Go.Proofs.Ytdlbcbdfcjfagaa.commitRises
