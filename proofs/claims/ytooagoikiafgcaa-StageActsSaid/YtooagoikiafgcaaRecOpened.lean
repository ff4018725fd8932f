/-
  PROVED HERE: what a sector's numbers are laid into, and by which error it is refused: the walk.
  CONDITIONS: the contract names its own.
-/
import Derived.Test.YtooagoikiafgcaaRecOpen
import Derived.Deep.DeepCutAuto
namespace Go.Proofs.Ytooagoikiafgcaa.record
set_option linter.unusedVariables false
open Go.RowKit Go.Proofs.Ytooagoikiafgcaa.base Go.Proofs.Ytooagoikiafgcaa.obj Go.Proofs.Ytooagoikiafgcaa.mem Go.Proofs.Ytooagoikiafgcaa.crc Go.Proofs.Ytooagoikiafgcaa.num Go.Proofs.Ytooagoikiafgcaa.bytes Go.Proofs.Ytooagoikiafgcaa.plan

set_option maxRecDepth 100000 in
set_option maxHeartbeats 8000000 in
theorem opened_at (w : World) (R F : Nat) (T TR : TypeId) (ks : List Nat) (n : Nat) (hn : ks.length = n) (h0 : 0 < n) (c0 : List Value) (hc0 : c0.length = n) (hR : Row w R TR c0) (hF : Row w F T (fieldCells R ks)) (hne : F ≠ R)
    (hw : ∀ i, i < n → 1 ≤ ks.getD i 0 ∧ ks.getD i 0 ≤ 6) (A : Option Addr) (c : Nat) (bs : List Int) (hl : bs.length = 64) (hby : Byt bs) (hs : Sl w R 1 A 64 (bs.map (.int .u8))) (hc : 64 ≤ c) (N : Nat) (hN : offs ks n = N) (hN59 : N ≤ 59) (mark : Nat) (hm : mark < 65536) :
    Calls Try.prog 109 #[.slice A 64 c, .int .i64 mark, .slice (some ⟨F, 0, none⟩) n n] w fun e w' => e = .returned (.int .i64 (openE mark N bs)) ∧ Row w' R TR ((List.range n).map fun i => .int .i64 (got ks bs i : Nat)) ∧ Kept (fun i => i = R) w w' := by
  have HRD := Lib.hid (read_at w A 64 c bs hl (hs.more (Nat.le_of_lt hR.lt)) (by omega))
  have HN := Lib.hid hn; have HC0 := Lib.hid hc0; have HR := Lib.hid hR; have HF := Lib.hid hF; have HNE := Lib.hid hne; have HWD := Lib.hid hw; have HL := Lib.hid hl; have HBY := Lib.hid hby; have HS := Lib.hid hs; have HNN := Lib.hid hN
  have hn60 : n ≤ 60 := by
    have h1 : ∀ j, j ≤ n → j ≤ offs ks j := by
      intro j
      induction j with
      | zero => intro _; exact Nat.zero_le _
      | succ j ih =>
        intro hj
        rw [offs_succ ks j (by omega)]
        have := (hw j (by omega)).1
        have := ih (by omega)
        omega
    have h3 := h1 n (Nat.le_refl _)
    omega
  clear hn hc0 hR hF hne hw hl hby hs hN
  go_enter Try.func109, Try.ntmps109
  go_wp2_with (fail)
  refine HRD.out.mono ?_; rintro e w1 ⟨Q, rfl, hrd, hb⟩
  have HI0 := Lib.hid (And.intro hrd hb)
  clear hrd hb HRD
  go_wp2_with (fail)
  refine (num_at HI0.out.1 2 (by omega) (by omega) (by rw [HL.out]; omega) (by rw [HL.out]; omega) HBY.out).mono ?_
  rintro e w2 ⟨rfl, hrd, hk⟩
  have hQ : w.heap.size ≤ Q := HI0.out.1.base
  have HI := Lib.hid (OpenIn.mk (w := w) (R := R) (F := F) (T := T) (TR := TR) (ks := ks) (c0 := c0) (A := A) (bs := bs) (wr := w2) (Q := Q) (k := 0) hrd
    ((HR.out.below HI0.out.2 HR.out.lt).kept hk (fun e => by have := HR.out.lt; omega)) ((HF.out.below HI0.out.2 HF.out.lt).kept hk (fun e => by have := HF.out.lt; omega))
    ((HS.out.below (HI0.out.2.mono (Nat.le_of_lt HR.out.lt))).below (hk.below (Nat.le_trans (Nat.le_of_lt HR.out.lt) HI0.out.2.size) (fun i hi e => by have := HR.out.lt; have : i = Q := e; omega)))
    ((Kept.of_below HI0.out.2 (fun i => i = R)).trans hk (fun _ h => h) (fun i h hi => by have : i = Q := h; omega)))
  clear hrd hk HI0
  obtain ⟨bg, hbg⟩ : ∃ bg : Bool, bg = decide (val (bs.take 2) = mark) := ⟨_, rfl⟩
  have hb2 : (((val (bs.take 2) : Nat) : Int) == (mark : Int)) = bg := by
    rw [hbg]
    exact Bool.eq_iff_iff.2 (by rw [beq_iff_eq, decide_eq_true_iff]; omega)
  have HBG := Lib.hid hbg
  clear hbg
  go_wp2_with (fail)
  go_loopw [24, 9] (fun i m wr => ∃ k : Nat, k ≤ n ∧ i = .int .i64 k ∧ m = .int .i64 (offs ks k : Nat) ∧ OpenIn w R F T TR ks c0 A bs wr Q k) (fun i _ _ => n - (intOf i).toNat)
  case atStart => exact ⟨0, by omega, rfl, rfl, HI.out⟩
  case round =>
    clear HI
    obtain ⟨k, hk, rfl, rfl, hi⟩ := hrel
    have HI := Lib.hid hi
    clear hi
    by_cases hlt : k < n
    ·
      have hkl : k < ks.length := by rw [HN.out]; exact hlt
      have hkc : k < c0.length := by rw [HC0.out]; exact hlt
      obtain ⟨g1, g2⟩ := fieldCells_get R ks k hkl
      have c1 := (HI.out.fl.cell (k * 2)).trans g1
      have c2 := (HI.out.fl.cell (k * 2 + 1)).trans g2
      obtain ⟨k1, k6⟩ := HWD.out k hlt
      have HOS := Lib.hid (offs_succ ks k hkl)
      have hom : offs ks k + ks.getD k 0 ≤ 59 := by rw [← HOS.out]; exact Nat.le_trans (offs_mono ks (k + 1) n hlt (by rw [HN.out]; exact Nat.le_refl _)) (by rw [HNN.out]; exact hN59)
      have HGOT := Lib.hid (show got ks bs k = val ((bs.drop (offs ks k)).take (ks.getD k 0)) from rfl)
      have hlF := HI.out.fl.lt
      have hlR := HI.out.row.lt
      generalize hq : ks.getD k 0 = q at *
      generalize hok : offs ks k = ok at *
      have HQ := Lib.hid hq; have HOK := Lib.hid hok; have HOM := Lib.hid hom
      have i0 : (0 : Int) ≤ (k : Int) := by omega
      have i1 : (k : Int) < (n : Int) := by omega
      clear g1 g2 hq hok hom
      go_wp2_with (fail)
      have HI2 := Lib.hid (HI.out.below (((Below.refl wr.heap.size wr).alloc (Nat.le_refl _) (.cells #[.pointer (some ⟨R, k, none⟩), .int .i64 q] 218)).drew))
      refine wp_region_plan [0, 2, 3, 4] [[1, 5, 6, 7], [5, 1, 6, 7]] (by kernel_rfl) (by kernel_rfl) (fun _ _ _ _ _ h => h) ?_
      simp only [forks, pick, List.getElem?_cons_succ, List.getElem?_cons_zero, Option.getD_some]
      iterate 4 still_step
      refine wpStill_nil ?_
      refine ⟨?_, ?_⟩
      all_goals
        go_wp2_with (fail)
        refine (num_at HI2.out.rd q k1 k6 (by rw [List.length_drop, HL.out]; have := HOM.out; rw [HOK.out]; omega) (by rw [List.length_drop, HL.out]; omega) (drop_byt HBY.out _)).mono ?_
        rintro e w5 ⟨rfl, hrd, hk5⟩
        have hl0 : R < w.heap.size := HR.out.lt
        have HX := Lib.hid (open_step HI2.out hrd hk5 hl0 HF.out.lt HNE.out hkc HOS.out HOK.out HQ.out)
        obtain ⟨v0, hv0⟩ := gotCells_get ks bs k c0 hkc
        have hr5 : Row w5 R TR (gotCells ks bs k c0) := HI2.out.row.kept hk5 (fun e => by have : R = Q := e; omega)
        have c5 := (hr5.cell k).trans hv0
        have f5 := hr5.frozen k
        have hb5 : w5.heap[wr.heap.size]? = some (.cells #[.pointer (some ⟨R, k, none⟩), .int .i64 q] 218 (0, 0)) := (hk5.block wr.heap.size (by simp) (fun e => by have : wr.heap.size = Q := e; have := HI.out.rd.lt; omega)).trans (heap_alloc_new _ _)
        have d0 : w5.cell? ⟨wr.heap.size, 0, none⟩ = some (.pointer (some ⟨R, k, none⟩)) := by simp [World.cell?, hb5]
        have d1 : w5.cell? ⟨wr.heap.size, 1, none⟩ = some (.int .i64 q) := by simp [World.cell?, hb5]
        have hsz5 : wr.heap.size < w5.heap.size := by have := hk5.size; simp at this; omega
        rw [HOK.out, ← HGOT.out]
        generalize got ks bs k = gv at HX ⊢
        have hom := HOM.out
        clear hrd hk5 hr5 hv0 hb5
        go_wp2_with (fail)
        go_roundw
        case rel => exact ⟨k + 1, by omega, by go_num, by rw [HOS.out]; rfl, HX.out⟩
        case measure => simp [intOf]; omega
    · have hkn : k = n := by omega
      have hlt' : ¬ (k : Int) < (n : Int) := by omega
      have HOK := Lib.hid (show offs ks k = N by rw [hkn]; exact HNN.out)
      have HFC := Lib.hid (show gotCells ks bs k c0 = (List.range n).map (fun i => Value.int .i64 (got ks bs i : Nat)) by rw [hkn]; unfold gotCells; rw [List.drop_of_length_le (by rw [HC0.out]; exact Nat.le_refl _), List.append_nil])
      clear hkn
      go_wp2_with (fail)
      refine (num_at HI.out.rd 4 (by omega) (by omega) (by rw [List.length_drop, HL.out, HOK.out]; omega) (by rw [List.length_drop, HL.out]; omega) (drop_byt HBY.out _)).mono ?_
      rintro e w5 ⟨rfl, hrd, hk5⟩
      rw [HOK.out, List.drop_drop] at hrd
      rw [HOK.out]
      have HD := Lib.hid (OpenAt.mk (w := w) (R := R) (TR := TR) (cs := (List.range n).map (fun i => Value.int .i64 (got ks bs i : Nat))) (A := A) (bs := bs) (wr := w5) (Q := Q) hrd
        (by rw [← HFC.out]; exact HI.out.row.kept hk5 (fun e => by have := HR.out.lt; have : R = Q := e; omega)) (HI.out.sl.below (hk5.below (Nat.le_of_lt HI.out.row.lt) (fun i hi e => by have := HR.out.lt; have : i = Q := e; omega)))
        (HI.out.kept.trans hk5 (fun _ h => h) (fun i h hi => by have : i = Q := h; omega)))
      clear hrd hk5 HI
      obtain ⟨rest, hrest⟩ : ∃ rest, rest = bs.drop (N + 4) := ⟨_, rfl⟩
      obtain ⟨m, hm2⟩ : ∃ m, m = 60 - N := ⟨_, rfl⟩
      obtain ⟨zb, hzb⟩ : ∃ zb, zb = decide (rest = List.replicate m (0 : Int)) := ⟨_, rfl⟩
      have hrl : rest.length = m := by rw [hrest, List.length_drop, HL.out, hm2]; omega
      have hm1 : 1 ≤ m := by omega
      have hm0 : 0 < m := by omega
      have hw1 : IntKind.i64.wrap (64 - (N : Int)) = 64 - (N : Int) := by rw [IntKind.wrap_i64]; omega
      have hw2 : IntKind.i64.wrap (64 - (N : Int) - 4) = (m : Int) := by rw [IntKind.wrap_i64]; omega
      have hmk := make_eq m (by omega)
      have HD5 := Lib.hid (show OpenAt w R TR ((List.range n).map (fun i => Value.int .i64 (got ks bs i : Nat))) A bs w5 Q rest by rw [hrest]; exact HD.out)
      have HRB := Lib.hid (show Byt rest by rw [hrest]; exact drop_byt HBY.out _)
      have HRL := Lib.hid hrl
      have HRE := Lib.hid hrest
      have HM2 := Lib.hid hm2
      have HZ := Lib.hid hzb
      have hm60 : m ≤ 60 := by omega
      have HZB := Lib.hid (show Byt (List.replicate m (0 : Int)) from fun z hz => by rw [List.eq_of_mem_replicate hz]; omega)
      clear hrl hrest hm2 HD hzb
      go_upto_region 13 with fail
      go_cut [42] (fun s wc => s = .bool (!(bg && zb)) ∧ Row wc R TR ((List.range n).map (fun i => Value.int .i64 (got ks bs i : Nat))) ∧ Sl wc R 1 A 64 (bs.map (.int .u8)) ∧ Kept (fun i => i = R) w wc)
      case first =>
        cases bg with
        | false =>
          go_region
          go_wp2_with (fail)
          go_meet
          exact ⟨by simp, HD5.out.row.drew, HD5.out.sl, HD5.out.kept.drew⟩
        | true =>
          go_region_law (first
            | (go_simp; (with_reducible refine (left_m (OpenAt.rd (HD5.out.below (by first | exact (Below.refl _ _).drew | exact ((Below.refl _ _).alloc (Nat.le_refl _) _).drew))) HRL.out).mono ?_); rintro e w6 ⟨rfl, rfl⟩; dsimp only)
            | (go_simp; (with_reducible refine (bytes_at (OpenAt.rd (HD5.out.below (by first | exact (Below.refl _ _).drew | exact ((Below.refl _ _).alloc (Nat.le_refl _) _).drew))) m hm1 (by rw [HRL.out]; exact Nat.le_refl _) (by rw [HRL.out]; omega)).mono ?_); rintro e w7 ⟨v7, rfl, ho7, hr7, hk7⟩; rw [List.take_of_length_le (by simp [HRL.out])] at ho7; obtain ⟨A7, c7, e7, _, _⟩ := own_form ho7; subst e7; have HO7 := Lib.hid ho7; have HK7 := Lib.hid hk7; clear ho7 hr7 hk7; dsimp only)
            | (go_simp; (with_reducible refine (equal_at _ _ _ m m _ _ rest (List.replicate m 0) HRL.out (by simp) hm0 hm0 HRB.out HZB.out (by first | exact Sl.of_own HO7.out | exact Sl.of_own (HO7.out.alloc _)) (by first | exact byte_sl (zero_row _ _) (by simp) | exact byte_sl (HD5.out.zeros HK7.out.undrew) (by simp))).mono ?_); rintro e w8 ⟨rfl, rfl⟩; rw [← HZ.out]; dsimp only))
          all_goals
            go_wp2_with (fail)
            go_meet
            first
              | exact ⟨by simp, (HD5.out.fin' HR.out.lt HK7.out.undrew).1, (HD5.out.fin' HR.out.lt HK7.out.undrew).2.1, (HD5.out.fin' HR.out.lt HK7.out.undrew).2.2⟩
              | exact ⟨by simp, (HD5.out.fin' HR.out.lt (HK7.out.undrew.alloc _)).1, (HD5.out.fin' HR.out.lt (HK7.out.undrew.alloc _)).2.1, (HD5.out.fin' HR.out.lt (HK7.out.undrew.alloc _)).2.2⟩
              | exact ⟨by simp, (HD5.out.fin' HR.out.lt HK7.out.unalloc).1, (HD5.out.fin' HR.out.lt HK7.out.unalloc).2.1, (HD5.out.fin' HR.out.lt HK7.out.unalloc).2.2⟩
      case rest =>
        obtain ⟨rfl, hrow, hsl, hkept⟩ := hcut
        have HROW := Lib.hid hrow; have HSL := Lib.hid hsl; have HKP := Lib.hid hkept
        clear hrow hsl hkept HD5
        cases hbz : (bg && zb) with
        | false =>
          have HE := Lib.hid (show openE mark N bs = 2 by
            unfold openE
            rw [if_neg (fun h => by
              have h1 := HBG.out; have h2 := HZ.out
              rw [← HRE.out, ← HM2.out] at h
              simp [h.1, h.2] at h1 h2
              simp [h1, h2] at hbz)])
          go_wp2_with (fail)
          go_ret
          exact ⟨by rw [HE.out]; rfl, HROW.out, HKP.out⟩
        | true =>
          have HE := Lib.hid (show openE mark N bs = if val ((bs.drop N).take 4) = sum (bs.take N) then 0 else 10 by
            unfold openE
            rw [if_pos (by
              have h1 := HBG.out; have h2 := HZ.out
              simp at hbz
              rw [← HRE.out, ← HM2.out]
              simp [hbz.1, hbz.2] at h1 h2
              exact ⟨h1, h2⟩)])
          clear hbz
          obtain ⟨sv, hsv⟩ : ∃ sv, sv = val ((bs.drop N).take 4) := ⟨_, rfl⟩
          obtain ⟨sm, hsm⟩ : ∃ sm, sm = sum (bs.take N) := ⟨_, rfl⟩
          rw [← hsv, ← hsm] at HE
          rw [← hsv]
          have HSM := Lib.hid hsm
          have HS32 := Lib.hid (show sm < 2 ^ 32 by rw [hsm]; exact sum_lt)
          have HNS := Lib.hid (show Sl wc R 1 A N ((bs.take N).map (.int .u8)) from ⟨by simp [HL.out]; omega, fun hn => by
            obtain ⟨b, off, e, hb, hcc⟩ := HSL.out.2 (by omega)
            exact ⟨b, off, e, hb, fun k u hu => hcc k u (by
              rw [List.map_take, List.getElem?_take] at hu
              split at hu
              · exact hu
              · simp at hu)⟩⟩)
          clear hsv hsm
          have cv : IntKind.i64.wrap (sm : Int) = (sm : Int) := by have := HS32.out; rw [IntKind.wrap_i64]; omega
          have i0 : (0 : Int) ≤ (N : Int) := by omega
          have i1 : (N : Int) ≤ (c : Int) := by omega
          have hRl := HROW.out.lt
          have HB0 := Lib.hid (show Below wc.heap.size wc wc.drew from (Below.refl _ _).drew)
          obtain ⟨db, hdb⟩ : ∃ db, db = decide (sv = sm) := ⟨_, rfl⟩
          have e1 : ((sv : Int) != (sm : Int)) = !db := by
            rw [hdb, Bool.eq_iff_iff]; simp; omega
          have e2 : (sv != sm) = !db := by
            rw [hdb, Bool.eq_iff_iff]; simp
          have HDB := Lib.hid hdb
          clear hdb
          cases db
          all_goals
            go_wp2_with (fail)
            refine wp_region_plan [0, 2, 3] [[1, 4, 5, 6, 7, 8], [4, 1, 5, 6, 7, 8]] (by kernel_rfl) (by kernel_rfl) (fun _ _ _ _ _ h => h) ?_
            simp only [forks, pick, List.getElem?_cons_succ, List.getElem?_cons_zero, Option.getD_some]
            iterate 3 still_step
            refine wpStill_nil ?_
            refine ⟨?_, ?_⟩
            all_goals
              go_wp2_with (fail)
              refine (make_at _).mono ?_
              rintro e w2 ⟨g, rfl, hg, hrow, hb2⟩
              have HB2 := Lib.hid (HB0.out.trans (hb2.mono HB0.out.size))
              have HG := Lib.hid hrow
              clear hg hrow hb2
              go_wp2_with (fail)
              refine (sum_at _ g HG.out A N c (bs.take N) (by simp [HL.out]; omega) (by omega) (take_byt HBY.out _) ((HNS.out.below (HB2.out.mono (Nat.le_of_lt hRl))).more (Nat.le_trans (Nat.le_of_lt hRl) HB2.out.size))).mono ?_
              rintro e w3 ⟨rfl, rfl⟩
              rw [← HSM.out]
              go_wp2_with (fail)
              go_ret
              refine ⟨?_, HROW.out.below HB2.out hRl, HKP.out.trans (Kept.of_below HB2.out (fun i => i = R)) (fun _ h => h) (fun _ h _ => h)⟩
              rw [HE.out]
              have hd := HDB.out
              simp at hd
              simp [hd]
end Go.Proofs.Ytooagoikiafgcaa.record
