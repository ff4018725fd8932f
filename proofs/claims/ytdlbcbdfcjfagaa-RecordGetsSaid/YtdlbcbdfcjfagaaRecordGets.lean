/-
  PROVED HERE: for all bytes b, longeronlaw07.RecordGets(b) returns true and leaves memory as it was.
  CONDITIONS: none.
-/
import Derived.Test.YtdlbcbdfcjfagaaArgBytes
import Derived.Test.YtdlbcbdfcjfagaaRefStgGet
import Derived.Deep.DeepCutAuto
namespace Go.Proofs.Ytdlbcbdfcjfagaa.recordGets
set_option linter.unusedVariables false
open Go.RowKit Go.ChangeShapes Go.WideShapes Go.ChangeAt Go.Deep Go.Joins Go.Proofs.Ytdlbcbdfcjfagaa.base Go.Proofs.Ytdlbcbdfcjfagaa.obj Go.Proofs.Ytdlbcbdfcjfagaa.mem Go.Proofs.Ytdlbcbdfcjfagaa.crc Go.Proofs.Ytdlbcbdfcjfagaa.num Go.Proofs.Ytdlbcbdfcjfagaa.bytes Go.Proofs.Ytdlbcbdfcjfagaa.record Go.Proofs.Ytdlbcbdfcjfagaa.same

/-- a slice of bytes that is there -/
structure Ent (W : World) (v : Value) (ts : List Int) : Prop where
  is : ∃ A c, v = .slice A ts.length c ∧ ts.length ≤ c ∧ (A = none → c = 0) ∧ Sl W W.heap.size 1 A ts.length (ts.map (.int .u8))
  few : ts.length ≤ 200
  byt : Byt ts
theorem Ent.below {W w' : World} {v : Value} {ts : List Int} (h : Ent W v ts) (k : Below W.heap.size W w') : Ent w' v ts := by
  obtain ⟨⟨A, c, e, h1, h2, h3⟩, h4, h5⟩ := h
  exact ⟨⟨A, c, e, h1, h2, (h3.below k).more k.size⟩, h4, h5⟩
/-- all of a list -/
def Ents (W : World) (vs : List Value) : Prop := ∀ (k : Nat) (v : Value), vs[k]? = some v → ∃ ts, Ent W v ts
theorem infoS : (Try.prog.info? 25).map (fun i => (i.zero, i.size, i.bytes)) = some (some (.slice none 0 0), 1, 24) := by kernel_rfl
theorem slS : SlT Try.prog 35 25 1 24 := by
  obtain ⟨i0, hi, hz0, hz1, hz2⟩ := info_parts infoS
  exact ⟨Try.underlying35, ⟨i0, _, hi, hz0, hz1, hz2, rfl⟩, by decide⟩
theorem sl_one {A : Option Addr} {n c : Nat} : (Value.slice A n c).oneCell' = true := rfl

/-- at the loop -/
structure GI (w : World) (g : Nat) (vs : List Value) (wr : World) : Prop where
  ent : Ents wr vs
  arr : ∀ (k : Nat) (v : Value), vs[k]? = some v → wr.cell? ⟨g, k, none⟩ = some v
  bel : Below w.heap.size w wr
  lt : g < wr.heap.size
theorem GI.below {w : World} {g : Nat} {vs : List Value} {wr w' : World} (h : GI w g vs wr) (k : Below wr.heap.size wr w') : GI w g vs w' :=
  ⟨fun i v hv => by obtain ⟨ts, ht⟩ := h.ent i v hv; exact ⟨ts, ht.below k⟩, fun i v hv => (k.cell (p := ⟨g, i, none⟩) h.lt).trans (h.arr i v hv), h.bel.trans (k.mono h.bel.size), Nat.lt_of_lt_of_le h.lt k.size⟩

theorem gi_end {w w2 w4 X w5 : World} {l g3 g4 g5 cap n c : Nat} {A : Option Addr} {zs : List Int} (hE : Ent w (.slice A n c) zs) (hb : Below w.heap.size w w2) (hl : w.heap.size ≤ l) (hl2 : l < w2.heap.size) (hb4 : Below w2.heap.size w2 w4)
    (h3 : w2.heap.size ≤ g3) (h4 : w2.heap.size ≤ g4) (r3 : Row w4 g3 5 ((sealB (zs.take 11)).map (.int .u8))) (r4 : Row w4 g4 5 ((sealB (zs.take 8)).map (.int .u8))) {o : Obj} (hX : X = w4.alloc o) (hg : X.grownBy w5 (some l))
    (ho : w5.ownsRow w.heap.size 25 1 (.slice (some ⟨g5, 0, none⟩) 3 cap) 3 [.slice A n c, .slice (some ⟨g3, 0, none⟩) 64 64, .slice (some ⟨g4, 0, none⟩) 64 64]) :
    GI w g5 [.slice A n c, .slice (some ⟨g3, 0, none⟩) 64 64, .slice (some ⟨g4, 0, none⟩) 64 64] w5 := by
  subst hX
  have hB4 : Below w.heap.size w w4 := hb.trans (hb4.mono hb.size)
  have hB5 : Below w.heap.size w w5 := (hB4.alloc hB4.size _).grown hg (Nat.le_trans hB4.size (by simp)) (fun k hk => by injection hk with hk; omega)
  have e3 : Row w5 g3 5 ((sealB (zs.take 11)).map (.int .u8)) := (r3.alloc _).grown hg (fun e => by injection e with e; omega)
  have e4 : Row w5 g4 5 ((sealB (zs.take 8)).map (.int .u8)) := (r4.alloc _).grown hg (fun e => by injection e with e; omega)
  have hl3 : (sealB (zs.take 11)).length = 64 := seal_length _ (by simp; omega)
  have hl4 : (sealB (zs.take 8)).length = 64 := seal_length _ (by simp; omega)
  have n3 : Ent w5 (.slice (some ⟨g3, 0, none⟩) 64 64) (sealB (zs.take 11)) :=
    ⟨⟨_, 64, by rw [hl3], by omega, by simp, by rw [hl3]; exact byte_sl e3 hl3⟩, by omega, seal_byt _ (take_byt hE.byt _)⟩
  have n4 : Ent w5 (.slice (some ⟨g4, 0, none⟩) 64 64) (sealB (zs.take 8)) :=
    ⟨⟨_, 64, by rw [hl4], by omega, by simp, by rw [hl4]; exact byte_sl e4 hl4⟩, by omega, seal_byt _ (take_byt hE.byt _)⟩
  refine ⟨fun k v hv => ?_, fun k v hv => ?_, hB5, (ho.lt g5 rfl).2⟩
  · match k, hv with
    | 0, hv => simp at hv; subst hv; exact ⟨zs, hE.below hB5⟩
    | 1, hv => simp at hv; subst hv; exact ⟨_, n3⟩
    | 2, hv => simp at hv; subst hv; exact ⟨_, n4⟩
    | k + 3, hv => simp at hv
  · have := ho.cells (g := g5) rfl k v hv
    rwa [addr_add, Nat.zero_add] at this

set_option maxRecDepth 100000 in
set_option maxHeartbeats 8000000 in
theorem walk (w : World) (A : Option Addr) (c : Nat) (zs : List Int) (hm : zs.length ≤ maxLen) (hc : zs.length ≤ c) (hA : A = none → c = 0) (hs : Sl w w.heap.size 1 A zs.length (zs.map (.int .u8))) (hz : Byt zs) :
    Calls Try.prog 5 #[.slice A zs.length c] w fun e w' => e = .returned (.bool true) ∧ Below w.heap.size w w' := by
  unfold maxLen at hm
  obtain ⟨n, hn⟩ : ∃ n, n = zs.length := ⟨_, rfl⟩
  rw [← hn] at hm hc hs ⊢
  have HN := Lib.hid hn; have HS := Lib.hid hs; have HZ := Lib.hid hz; have HA := Lib.hid hA
  clear hn hs hz hA
  go_enter Try.func5, Try.ntmps5
  go_wp2_with (fail)
  refine (wakes _).mono ?_
  rintro e w1 ⟨rfl, hb⟩
  have HB1 := Lib.hid hb
  clear hb
  by_cases hbig : n > 200
  · have hbig' : (n : Int) > 200 := by omega
    go_wp2_with (fail)
    go_ret
    exact ⟨rfl, HB1.out⟩
  · have hn200 : n ≤ 200 := by omega
    have HE1 := Lib.hid (show Ent w1 (.slice A n c) zs from ⟨⟨A, c, by rw [HN.out], by rw [← HN.out]; exact hc, HA.out, by rw [← HN.out]; exact (HS.out.below HB1.out).more HB1.out.size⟩, by rw [← HN.out]; exact hn200, HZ.out⟩)
    have HE0 := Lib.hid (show Ent w (.slice A n c) zs from ⟨⟨A, c, by rw [HN.out], by rw [← HN.out]; exact hc, HA.out, by rw [← HN.out]; exact HS.out⟩, by rw [← HN.out]; exact hn200, HZ.out⟩)
    clear hbig
    have hbig' : ¬ (n : Int) > 200 := by omega
    obtain ⟨w2, hw2⟩ : ∃ w2, w2 = w1.alloc (.cells #[.slice A n c] 25) := ⟨_, rfl⟩
    have HR2 := Lib.hid (show Row w2 w1.heap.size 25 [.slice A n c] by rw [hw2]; exact Row.new w1 _ _)
    have HA2 := Lib.hid (show Below w1.heap.size w1 w2 by rw [hw2]; exact (Below.refl _ _).alloc (Nat.le_refl _) _)
    have HW2 := Lib.hid hw2
    clear hw2
    have HB2 := Lib.hid (HB1.out.trans (HA2.out.mono HB1.out.size))
    have HE2 := Lib.hid (HE1.out.below HA2.out)
    go_upto_if 23 with fail
    rw [← HW2.out]
    go_cut [3] (fun s3 wc => ∃ (g len cap : Nat) (vs : List Value), s3 = .slice (some ⟨g, 0, none⟩) len cap ∧ vs.length = len ∧ len ≤ 3 ∧ GI w g vs wc)
    case first =>
      by_cases h11 : n ≥ 11
      · have h11' : (n : Int) ≥ 11 := by omega
        have c11 : (11 : Int) ≤ (c : Int) := by omega
        have c8 : (8 : Int) ≤ (c : Int) := by omega
        have HT := Lib.hid (fun (k : Nat) (hk : k ≤ n) => show Sl w2 w2.heap.size 1 A k ((zs.take k).map (.int .u8)) by
          have hs2 : Sl w2 w2.heap.size 1 A n (zs.map (.int .u8)) := (HS.out.below HB2.out).more HB2.out.size
          refine ⟨by simp [← HN.out]; omega, fun h0 => ?_⟩
          obtain ⟨b, o, e, hb, hcc⟩ := hs2.2 (by omega)
          refine ⟨b, o, e, hb, fun j u hu => hcc j u ?_⟩
          rw [List.map_take, List.getElem?_take] at hu
          split at hu
          · exact hu
          · simp at hu)
        have HL1 := Lib.hid (show (zs.take 11).length = 11 by simp [← HN.out]; omega)
        have HL2 := Lib.hid (show (zs.take 8).length = 8 by simp [← HN.out]; omega)
        have HY1 := Lib.hid (take_byt HZ.out 11)
        have HY2 := Lib.hid (take_byt HZ.out 8)
        have HBD := Lib.hid (show Below w2.heap.size w2 w2.drew from (Below.refl _ _).drew)
        have HTD := Lib.hid (show Sl w2.drew w2.drew.heap.size 1 A 11 ((zs.take 11).map (.int .u8)) from (HT.out 11 h11).below HBD.out)
        go_wp2_with (fail)
        go_region_law (first
          | (go_simp; (with_reducible refine (refRec.sealed_at _ A 11 c (zs.take 11) HL1.out (by omega) HY1.out HTD.out).mono ?_); rintro e w3 ⟨g3, rfl, hg3, hrow3, hb3⟩; have HG3 := Lib.hid hg3; have HR3 := Lib.hid hrow3; have HB3 := Lib.hid hb3; have HTE := Lib.hid (show Sl w3 w3.heap.size 1 A 8 ((zs.take 8).map (.int .u8)) from ((((HT.out 8 (by omega)).below HBD.out)).below hb3).more hb3.size); have HE3 := Lib.hid (hb3.size); clear hg3 hrow3 hb3; dsimp only)
          | (go_simp; (with_reducible refine (refRec.sealed_at _ A 8 c (zs.take 8) HL2.out (by omega) HY2.out HTE.out).mono ?_); rintro e w4 ⟨g4, rfl, hg4, hrow4, hb4⟩; have HG4 := Lib.hid hg4; have HR4 := Lib.hid hrow4; have HB4 := Lib.hid (show Below w2.heap.size w2 w4 from (HBD.out.trans (HB3.out.mono (Nat.le_refl _))).trans (hb4.mono (Nat.le_trans (Nat.le_refl _) HE3.out))); have HR34 := Lib.hid (HR3.out.below hb4 HR3.out.lt); have HG24 := Lib.hid (Nat.le_trans HE3.out hg4); clear hg4 hrow4 hb4; have HX := Lib.hid (Row.new w4 25 #[.slice (some ⟨g3, 0, none⟩) 64 64, .slice (some ⟨g4, 0, none⟩) 64 64]); have HOX := Lib.hid (((HR2.out.below HB4.out HR2.out.lt).alloc (.cells #[.slice (some ⟨g3, 0, none⟩) 64 64, .slice (some ⟨g4, 0, none⟩) 64 64] 25)).own (base := w.heap.size) (size := 1) (n := 1) (cap := 1) HB1.out.size (Nat.le_refl _) (by decide) rfl); have HSX := Lib.hid (HB2.out.trans (HB4.out.mono HB2.out.size)); dsimp only)
          | (refine step_app' slS (by rfl) _ _ (by rfl) HOX.out (by rfl) (by rfl) (HX.out.sl (B := w4.heap.size + 1) (size := 1) (n := 2) (o := 0) (Nat.lt_succ_self _) rfl rfl) (by simp [Value.oneCell']) (by omega) (by omega) (by unfold maxLen; omega) (Nat.le_trans HSX.out.size (by simp)) ?_; intro g5 cap5 w5 ho5 hg5 _ _; have HO5 := Lib.hid ho5; have HG5 := Lib.hid hg5; clear ho5 hg5; dsimp only))
        all_goals
          go_wp2_with (fail)
          go_meet
          exact ⟨g5, 3, cap5, [.slice A n c, .slice (some ⟨g3, 0, none⟩) 64 64, .slice (some ⟨g4, 0, none⟩) 64 64], rfl, rfl, by omega,
            gi_end HE0.out HB2.out HB1.out.size HR2.out.lt HB4.out HG3.out HG24.out HR34.out HR4.out rfl HG5.out HO5.out⟩
      · have h11' : ¬ (n : Int) ≥ 11 := by omega
        have HI := Lib.hid (show GI w w1.heap.size [.slice A n c] w2 from ⟨fun k v hv => by
          have hk : k = 0 := by
            have := (List.getElem?_eq_some_iff.1 hv).1
            simp at this
            exact this
          subst hk
          simp at hv
          subst hv
          exact ⟨zs, HE2.out⟩, fun k v hv => (HR2.out.cell k).trans hv, HB2.out, HR2.out.lt⟩)
        go_wp2_with (fail)
        go_meet
        exact ⟨w1.heap.size, 1, 1, [.slice A n c], rfl, rfl, by omega, HI.out⟩
    case rest =>
      obtain ⟨g, len, cap, vs, rfl, hvl, hl3, hi⟩ := hcut
      have HVL := Lib.hid hvl; have HI := Lib.hid hi
      clear hvl hi
      go_wp2_with (fail)
      go_loopw [35] (fun i wr => ∃ k : Nat, k ≤ len ∧ i = .int .i64 k ∧ GI w g vs wr) (fun i _ => len - (intOf i).toNat)
      case atStart => exact ⟨0, by omega, rfl, HI.out⟩
      case round =>
        obtain ⟨k, hk, rfl, hi⟩ := hrel
        have HI := Lib.hid hi
        clear hi
        by_cases hlt : k < len
        · have hkv : k < vs.length := by rw [HVL.out]; exact hlt
          obtain ⟨v, hv⟩ : ∃ v, vs[k]? = some v := ⟨_, List.getElem?_eq_getElem hkv⟩
          obtain ⟨ts, hts⟩ := HI.out.ent k v hv
          obtain ⟨A', c', rfl, hc', hA', hs'⟩ := hts.is
          have hc1 := HI.out.arr k _ hv
          have hlt' : (k : Int) < (len : Int) := by omega
          have hk0 : (0 : Int) ≤ (k : Int) := by omega
          have HT := Lib.hid hts; have HA' := Lib.hid hA'; have HS' := Lib.hid hs'
          have hfew := hts.few
          obtain ⟨m, hm'⟩ : ∃ m, m = ts.length := ⟨_, rfl⟩
          rw [← hm'] at hc1 HS' hfew hc'
          have HM := Lib.hid hm'
          clear hv hkv hts hA' hs' hm'
          have HOW := Lib.hid ((Row.new wr 5 #[]).own (base := wr.heap.size) (size := 1) (n := 0) (cap := 0) (Nat.le_refl _) (Nat.le_refl _) (by decide) rfl)
          have HB0 := Lib.hid (show Below wr.heap.size wr (wr.alloc (.cells #[] 5)) from (Below.refl _ _).alloc (Nat.le_refl _) _)
          have HS0 := Lib.hid (HS'.out.below HB0.out)
          obtain ⟨gr, hgr⟩ : ∃ gr, gr = getRec ts := ⟨_, rfl⟩
          obtain ⟨gs, hgs⟩ : ∃ gs, gs = getStg ts := ⟨_, rfl⟩
          have HGR := Lib.hid hgr; have HGS := Lib.hid hgs
          clear hgr hgs
          go_wp2_with (at_builtin; refine app_sl slB rfl (.tmp 40) (.tmp 41) rfl HOW.out rfl rfl HA'.out HS0.out (map_one _) (by omega) (by unfold maxLen; omega) (by simp) ?_; intro v2 w3 ho hg; have HO3 := Lib.hid ho; have HB3 := Lib.hid (below_own HB0.out HOW.out hg (by simp)); obtain ⟨A2, c2, e2, hc2, _⟩ := own_form ho; subst e2; clear ho hg)
          rw [Nat.zero_add] at hc2
          simp only [Nat.zero_add] at HO3 ⊢
          refine (record.get_at _ A2 m c2 ts HM.out.symm hc2 HT.out.byt (Sl.of_own HO3.out)).mono ?_
          rintro e w4 ⟨rfl, hb⟩
          rw [← HGR.out]
          have HI4 := Lib.hid ((HI.out.below HB3.out).below hb)
          have HT4 := Lib.hid ((HT.out.below HB3.out).below hb)
          clear hb
          dsimp only
          rw [Rec.val_eq]
          obtain ⟨w5, hw5⟩ : ∃ w5, w5 = w4.alloc (.cells #[.int .i64 gr.1.part, .int .i64 gr.1.seq, .int .i64 gr.1.active, .int .i64 gr.1.confirmed, .int .i64 gr.1.left, .int .i64 gr.1.bad] 23) := ⟨_, rfl⟩
          have HX5 := Lib.hid (show Row w5 w4.heap.size 23 gr.1.cells.toList by rw [hw5]; exact Row.new w4 _ _)
          have HB5 := Lib.hid (show Below w4.heap.size w4 w5 by rw [hw5]; exact (Below.refl _ _).alloc (Nat.le_refl _) _)
          have HI5 := Lib.hid (HI4.out.below HB5.out)
          have HT5 := Lib.hid (HT4.out.below HB5.out)
          have HW5 := Lib.hid hw5
          clear hw5
          have HSL := Lib.hid (fun (W : World) (h : Ent W (.slice A' ts.length c') ts) => show Sl W W.heap.size 1 A' m (ts.map (.int .u8)) by
            obtain ⟨A3, c3, e3, _, _, h3⟩ := h.is
            injection e3 with e4 _ _
            subst e4
            rw [HM.out]
            exact h3)
          go_wp2_with (fail)
          rw [← HW5.out]
          refine (refRec.get_at _ A' m c' ts HM.out.symm hc' HT.out.byt (HSL.out _ HT5.out)).mono ?_
          rintro e w6 ⟨rfl, hb⟩
          rw [← HGR.out]
          have HI6 := Lib.hid (HI5.out.below hb)
          have HT6 := Lib.hid (HT5.out.below hb)
          have HX6 := Lib.hid (HX5.out.below hb HX5.out.lt)
          clear hb
          dsimp only
          rw [Rec.val_eq]
          obtain ⟨w7, hw7⟩ : ∃ w7, w7 = w6.alloc (.cells #[.int .i64 gr.1.part, .int .i64 gr.1.seq, .int .i64 gr.1.active, .int .i64 gr.1.confirmed, .int .i64 gr.1.left, .int .i64 gr.1.bad] 23) := ⟨_, rfl⟩
          have HY7 := Lib.hid (show Row w7 w6.heap.size 23 gr.1.cells.toList by rw [hw7]; exact Row.new w6 _ _)
          have HB7 := Lib.hid (show Below w6.heap.size w6 w7 by rw [hw7]; exact (Below.refl _ _).alloc (Nat.le_refl _) _)
          have HI7 := Lib.hid (HI6.out.below HB7.out)
          have HT7 := Lib.hid (HT6.out.below HB7.out)
          have HX7 := Lib.hid (HX6.out.below HB7.out HX6.out.lt)
          have HW7 := Lib.hid hw7
          clear hw7
          have HOW7 := Lib.hid ((Row.new w7 5 #[]).own (base := w7.heap.size) (size := 1) (n := 0) (cap := 0) (Nat.le_refl _) (Nat.le_refl _) (by decide) rfl)
          have HB70 := Lib.hid (show Below w7.heap.size w7 (w7.alloc (.cells #[] 5)) from (Below.refl _ _).alloc (Nat.le_refl _) _)
          have HS70 := Lib.hid ((HSL.out _ HT7.out).below HB70.out)
          go_upto_region 13 with fail
          rw [← HW7.out]
          go_wp2_with (at_builtin; refine app_sl slB rfl (.tmp 52) (.tmp 53) rfl HOW7.out rfl rfl HA'.out HS70.out (map_one _) (by omega) (by unfold maxLen; omega) (by simp) ?_; intro v8 w8 ho hg; have HO8 := Lib.hid ho; have HB8 := Lib.hid (below_own HB70.out HOW7.out hg (by simp)); obtain ⟨A8, c8, e8, hc8, _⟩ := own_form ho; subst e8; clear ho hg)
          rw [Nat.zero_add] at hc8
          simp only [Nat.zero_add] at HO8 ⊢
          refine (record.getStage_at _ A8 m c8 ts HM.out.symm hc8 HT.out.byt (Sl.of_own HO8.out)).mono ?_
          rintro e w9 ⟨rfl, hb⟩
          rw [← HGS.out]
          have HI9 := Lib.hid ((HI7.out.below HB8.out).below hb)
          have HT9 := Lib.hid ((HT7.out.below HB8.out).below hb)
          have HX9 := Lib.hid ((HX7.out.below HB8.out HX7.out.lt).below hb (HX7.out.below HB8.out HX7.out.lt).lt)
          have HY9 := Lib.hid ((HY7.out.below HB8.out HY7.out.lt).below hb (HY7.out.below HB8.out HY7.out.lt).lt)
          clear hb
          dsimp only
          rw [Stg.val_eq]
          obtain ⟨w10, hw10⟩ : ∃ w10, w10 = w9.alloc (.cells #[.int .i64 gs.1.session, .int .i64 gs.1.size, .int .i64 gs.1.have_] 40) := ⟨_, rfl⟩
          have HZ10 := Lib.hid (show Row w10 w9.heap.size 40 gs.1.cells.toList by rw [hw10]; exact Row.new w9 _ _)
          have HB10 := Lib.hid (show Below w9.heap.size w9 w10 by rw [hw10]; exact (Below.refl _ _).alloc (Nat.le_refl _) _)
          have HI10 := Lib.hid (HI9.out.below HB10.out)
          have HT10 := Lib.hid (HT9.out.below HB10.out)
          have HX10 := Lib.hid (HX9.out.below HB10.out HX9.out.lt)
          have HY10 := Lib.hid (HY9.out.below HB10.out HY9.out.lt)
          have HW10 := Lib.hid hw10
          clear hw10
          go_wp2_with (fail)
          rw [← HW10.out]
          refine (refRec.getStage_at _ A' m c' ts HM.out.symm hc' HT.out.byt (HSL.out _ HT10.out)).mono ?_
          rintro e w11 ⟨rfl, hb⟩
          rw [← HGS.out]
          have HI11 := Lib.hid (HI10.out.below hb)
          have HX11 := Lib.hid (HX10.out.below hb HX10.out.lt)
          have HY11 := Lib.hid (HY10.out.below hb HY10.out.lt)
          have HZ11 := Lib.hid (HZ10.out.below hb HZ10.out.lt)
          clear hb
          dsimp only
          rw [Stg.val_eq]
          have HI12 := Lib.hid (HI11.out.below ((Below.refl _ _).alloc (Nat.le_refl _) (.cells #[.int .i64 gs.1.session, .int .i64 gs.1.size, .int .i64 gs.1.have_] 40)))
          obtain ⟨q0, q1, q2, q3, q4, q5⟩ := Rec.read HX11.out
          obtain ⟨t0, t1, t2, t3, t4, t5⟩ := Rec.read HY11.out
          obtain ⟨s0, s1, s2⟩ := Stg.read HZ11.out
          have l1 := HX11.out.lt
          have l2 := HY11.out.lt
          have l3 := HZ11.out.lt
          clear hc1
          go_wp2_with (fail)
          go_roundw
          case rel => exact ⟨k + 1, by omega, by go_num, HI12.out⟩
          case measure => simp [intOf] <;> omega
        · have hkl : k = len := by omega
          have hlt' : ¬ (k : Int) < (len : Int) := by omega
          clear hkl
          go_wp2_with (fail)
          go_ret
          exact ⟨rfl, HI.out.bel⟩

/-! ### the row: written by program -/
set_option maxRecDepth 100000 in
theorem lifted (os : Os) (started : os.Started) (H : Type) (enc : TypeId × Value → H) :
    ReturnsInHanded {} Try.checked os 5 .any (Rows.recordGetsSpec.pre6 enc Try.prog Try.f5 Rows.recordGetsRow.domain false) (Rows.recordGetsSpec.post enc Try.prog Try.f5 false true false false) := by
  refine returnsInHanded_of_change (C := Try.checked) Go.Proofs.Ytdlbcbdfcjfagaa.lift.own started (by kernel_rfl) Try.func5
    (ChangeSpec.witness6 (enc := enc) (C := Try.checked) false ⟨#[], #[.slice none 0 0], []⟩ 8 (by kernel_rfl) (by kernel_rfl) (by kernel_rfl) (by kernel_rfl)) ?_
  intro W base args ds gs before hval0 hW hcnd _
  have hval : ∀ (j : Nat) t v, Try.f5.params[j]? = some t → args[j]? = some v → Value.okWide Try.prog W .any base t v := hval0
  have hW' := hW
  obtain ⟨p, q, hA0, hV, rfl, hfz, hnd⟩ := hW
  have hA : DataW.TrodAll enc Try.prog W 0 (fun _ => true) true Try.f5.params.toList args.toList ds p := hA0
  have hAk := hA
  rw [Try.params5] at hA hval
  obtain ⟨v0, vs0, d0, ds0, p0, q0, hargs, rfl, rfl, h0, r0⟩ := trodAll_cons hA
  obtain ⟨rfl, rfl, rfl⟩ := trodAll_nil r0
  obtain rfl : args = #[v0] := by cases args; simp_all
  obtain ⟨rfl, rfl⟩ := trodVars_none hV
  have hlt := hW'.lt
  obtain ⟨A1, c1, z1, rfl, hm1, hc1, hA1, hs1, hz1⟩ := lift.arg_bytes (hval 0 25 v0 rfl rfl) h0
  refine (walk W A1 c1 z1 hm1 hc1 hA1 hs1 hz1).mono fun e W' ⟨he, hg⟩ => ?_
  subst he
  exact ⟨_, rfl, Go.Proofs.Ytdlbcbdfcjfagaa.base.postBelow (pv := []) hW' (fun _ _ _ => (trodAll_cons_mk (shut_bool Try.underlying4 _) trodAll_mk0)) (fun sp hsp => Go.Proofs.Ytdlbcbdfcjfagaa.lift.args_stay Go.Proofs.Ytdlbcbdfcjfagaa.lift.laidOut hg _ _ _ _ (by kernel_rfl) hAk (fun x hx => hlt x (by simpa using hx)) (fun x hx => hsp x (by simpa using hx))) (fun _ _ => rfl) (by simp)
    hg (ok_one (by kernel_rfl) rfl (okWide_bool_mk Try.underlying4 _))⟩

theorem over : Rows.recordGetsRow.holds Try.pinned (OpenSpec.ofChange Rows.recordGetsSpec) :=
  OpenClaim.holds_of_wide 5 Try.f5 rfl rfl rfl rfl rfl rfl rfl ⟨rfl, rfl, rfl, rfl, rfl⟩ rfl rfl rfl rfl rfl (by kernel_rfl) Try.func5 (by kernel_rfl)
    (of_decide_eq_true (by kernel_rfl)) (by unfold Func.isWrapper; first | (rw [if_pos (by decide +kernel)]; kernel_rfl) | (rw [if_neg (by decide +kernel)]; exact ⟨rfl, rfl⟩))
    (fun os started H enc _ => lifted os started H enc)

/-- THE STATEMENT -/
theorem proved : Rows.RecordGetsSaid :=
  over
#print axioms proved
end Go.Proofs.Ytdlbcbdfcjfagaa.recordGets
