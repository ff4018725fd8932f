/-
  PROVED HERE: for all bytes a, b and records r, longeronlaw12.CommitReads(a, b, r) returns true and leaves memory as it was.
  CONDITIONS: none.
-/
import Derived.Test.YtdlbcbdfcjfagaaCommitNext
import Derived.Test.YtdlbcbdfcjfagaaPlaceSays
import Derived.Deep.RegionLaw
import Derived.Test.YtdlbcbdfcjfagaaSegs
namespace Go.Proofs.Ytdlbcbdfcjfagaa.lift
set_option linter.unusedVariables false
open Go.RowKit Go.ChangeShapes Go.WideShapes Go.Deep Go.Proofs.Ytdlbcbdfcjfagaa.base

theorem wf_byt {zs : List Int} (h : ∀ z ∈ zs, (Lit.int .u8 z).wf = true) : Go.Proofs.Ytdlbcbdfcjfagaa.crc.Byt zs := fun z hz => by
  have h1 : IntKind.u8.min = 0 := rfl
  have h2 : IntKind.u8.max = 255 := rfl
  have h := h z hz
  simp only [Lit.wf, Bool.and_eq_true, decide_eq_true_eq] at h
  omega
set_option maxRecDepth 100000 in
theorem arg_bytes {H : Type} {enc : TypeId × Value → H} {W : World} {r : Reach} {b0 : Nat} {v : Value} {d : DataW H} {ps : List MemPlace} (hval : Value.okWide Try.prog W r b0 25 v)
    (h : DataW.Trod enc Try.prog W 0 (fun _ => true) true 25 v d ps) : ∃ (A : Option Addr) (c : Nat) (zs : List Int), v = .slice A zs.length c ∧ zs.length ≤ maxLen ∧ zs.length ≤ c ∧ (A = none → c = 0) ∧ Sl W W.heap.size 1 A zs.length (zs.map (.int .u8)) ∧ Go.Proofs.Ytdlbcbdfcjfagaa.crc.Byt zs := by
  obtain ⟨a0, len, cap, rfl⟩ := okWide_slice Try.underlying25 hval
  obtain ⟨fuel, hf⟩ := h
  have hf' : DataW.trod enc Try.prog W 0 (fun _ => true) true fuel 25 [.slice a0 len cap] = some (d, ps) := hf
  have key : a0 = none → cap = 0 := by
    rcases open_slice Try.underlying25 hf with ⟨hcs, _⟩ | ⟨a, len', cap', m, k, D, Pl, hcs, _, hl, hm, hmm, _, hx⟩
    · simp [Value.cells] at hcs
      exact fun _ => hcs.2.2
    · simp [Value.cells] at hcs
      intro e
      rw [hcs.1] at e
      cases e
  obtain ⟨A, c, zs, hv, hc, hm, hs, hw⟩ := field_ints Try.underlying25 Try.underlying5 (by kernel_rfl) hf'
  injection hv with e1 e2 e3
  subst e1; subst e2; subst e3
  exact ⟨_, _, zs, rfl, hm, hc, key, hs, wf_byt hw⟩
end Go.Proofs.Ytdlbcbdfcjfagaa.lift

namespace Go.Proofs.Ytdlbcbdfcjfagaa.commitReads
set_option linter.unusedVariables false
open Go.RowKit Go.ChangeShapes Go.WideShapes Go.ChangeAt Go.Deep Go.Joins Go.Proofs.Ytdlbcbdfcjfagaa.base Go.Proofs.Ytdlbcbdfcjfagaa.obj Go.Proofs.Ytdlbcbdfcjfagaa.mem Go.Proofs.Ytdlbcbdfcjfagaa.crc Go.Proofs.Ytdlbcbdfcjfagaa.disk Go.Proofs.Ytdlbcbdfcjfagaa.record Go.Proofs.Ytdlbcbdfcjfagaa.sep Go.Proofs.Ytdlbcbdfcjfagaa.plan Go.Proofs.Ytdlbcbdfcjfagaa.commit Go.Proofs.Ytdlbcbdfcjfagaa.same

/-- the disk behind both writes -/
def rdM (a b : List Int) : DS := ((DS.new 20).put 10 a).put 11 b
structure RdF (a b : List Int) (m : DS) : Prop where
  good : m.Good
  bts : m.Bts
  up : m.Up
  len : m.secs.length = 20
  n0 : m.now 10 = a
  n1 : m.now 11 = b
  few : m.waits.length = 2
theorem rd_w1 {a : List Int} (ha : a.length = 64) : (DS.new 20).write 10 a = (0, (DS.new 20).put 10 a) := by
  rw [write_in (by decide) (by decide) ha, if_pos (DS.new_up 20).goes, (DS.new_up 20).burnt]
  rfl
theorem rd_w2 {a b : List Int} (hb : b.length = 64) : ((DS.new 20).put 10 a).write 11 b = (0, rdM a b) := by
  have hu : ((DS.new 20).put 10 a).Up := DS.new_up 20
  rw [write_in (by decide) (by show (11 : Int) < (((DS.new 20).secs.length : Nat) : Int); decide) hb, if_pos hu.goes, hu.burnt]
  rfl
theorem rd_f {a b : List Int} (ha : a.length = 64) (hb : b.length = 64) (hya : Byt a) (hyb : Byt b) : RdF a b (rdM a b) := by
  have hg1 := (DS.new_good (n := 20) (by decide) (by decide)).write 10 (bs := a)
  have hb1 := (DS.new_bts 20).write 10 hya
  rw [rd_w1 ha] at hg1 hb1
  have hg2 := hg1.write 11 (bs := b)
  have hb2 := hb1.write 11 hyb
  have e := rd_w2 (a := a) hb
  simp only at hg2 hb2
  rw [e] at hg2 hb2
  refine ⟨hg2, hb2, DS.new_up 20, rfl, ?_, ?_, rfl⟩
  · unfold rdM
    rw [DS.put_now, if_neg (by decide), DS.put_now, if_pos rfl]
  · unfold rdM
    rw [DS.put_now, if_pos rfl]
theorem getRec_right {bs : List Int} {r : Rec} (h : getRec bs = (r, 0)) : r.right = true := by
  unfold getRec at h
  split at h
  · split at h
    · split at h
      · rename_i hr
        injection h with h _
        rw [← h]; exact hr
      · injection h with _ h
        exact absurd h (by decide)
    · rename_i he
      injection h with _ h
      exact absurd h he
  · injection h with _ h
    exact absurd h (by decide)
theorem fit_yes {p : Int} {bs : List Int} {r : Rec} (h : getRec bs = (r, 0)) (hp : r.part = p) : fitRec p bs = r := by
  unfold fitRec
  rw [h, if_pos ⟨rfl, hp⟩]
theorem fit_cases (p : Int) (bs : List Int) : (∃ r, getRec bs = (r, 0) ∧ r.part = p ∧ fitRec p bs = r ∧ 1 ≤ r.seq ∧ r.right = true) ∨ ((∀ r, getRec bs = (r, 0) → r.part ≠ p) ∧ fitRec p bs = Rec.zero) := by
  by_cases h : (getRec bs).2 = 0 ∧ (getRec bs).1.part = p
  · have e : getRec bs = ((getRec bs).1, 0) := by rw [← h.1]
    exact .inl ⟨_, e, h.2, fit_yes e h.2, (right_seq (getRec_right e)).1, getRec_right e⟩
  · refine .inr ⟨fun r hr hp => h (by rw [hr]; exact ⟨rfl, hp⟩), ?_⟩
    unfold fitRec
    rw [if_neg h]
/-- what Open finds, in the document's words -/
inductive Rd (m : DS) (a b : List Int) : Prop
  | none (h : (refLatest a b 1).seq = 0) (ho : openTo m 1 2 = (Rec.zero, -1))
  | some (h : Int) (R : Rec) (hR : refLatest a b 1 = R) (hs : 1 ≤ R.seq) (ok : LogOk m 1 ⟨h, R⟩) (hf : h = 0 ∧ fitRec 1 a = R ∨ h = 1 ∧ (fitRec 1 a).seq < R.seq)
theorem rd_any {m : DS} {a b : List Int} (h : RdF a b m) : Rd m a b := by
  have hlen : (1 : Int) * 10 + 1 < (m.secs.length : Int) := by rw [h.len]; decide
  have mk : ∀ (hd : Int) (R : Rec), (hd = 0 ∨ hd = 1) → getRec (m.now (1 * 10 + hd).toNat) = (R, 0) → R.part = 1 → (∀ r, getRec (m.now (1 * 10 + (1 - hd)).toNat) = (r, 0) → r.part = 1 → r.seq + hd ≤ R.seq) → LogOk m 1 ⟨hd, R⟩ :=
    fun hd R h1 h2 h3 h4 => ⟨h.good, h.bts, by decide, by decide, hlen, h1, getRec_right h2, h3, h2, h4⟩
  have e0 : m.now (1 * 10 + 0 : Int).toNat = a := h.n0
  have e1 : m.now (1 * 10 + 1 : Int).toNat = b := h.n1
  have e2 : m.now (1 * 10 + (1 - 0) : Int).toNat = b := h.n1
  have e3 : m.now (1 * 10 + (1 - 1) : Int).toNat = a := h.n0
  rcases fit_cases 1 a with ⟨ra, a1, a2, a3, a4, a5⟩ | ⟨a1, a2⟩
  · rcases fit_cases 1 b with ⟨rb, b1, b2, b3, b4, b5⟩ | ⟨b1, b2⟩
    · by_cases hq : rb.seq > ra.seq
      · refine .some 1 rb (by unfold refLatest; rw [a3, b3, if_pos hq]) b4 (mk 1 rb (.inr rfl) (by rw [e1]; exact b1) b2 fun r hr hp => ?_) (.inr ⟨rfl, by rw [a3]; exact hq⟩)
        rw [e3, a1] at hr
        injection hr with hr _
        rw [← hr]; omega
      · refine .some 0 ra (by unfold refLatest; rw [a3, b3, if_neg hq]) a4 (mk 0 ra (.inl rfl) (by rw [e0]; exact a1) a2 fun r hr hp => ?_) (.inl ⟨rfl, a3⟩)
        rw [e2, b1] at hr
        injection hr with hr _
        rw [← hr]; omega
    · refine .some 0 ra (by unfold refLatest; rw [a3, b2, if_neg (by show ¬ (0 : Int) > _; omega)]) a4 (mk 0 ra (.inl rfl) (by rw [e0]; exact a1) a2 fun r hr hp => ?_) (.inl ⟨rfl, a3⟩)
      rw [e2] at hr
      exact absurd hp (b1 r hr)
  · rcases fit_cases 1 b with ⟨rb, b1, b2, b3, b4, b5⟩ | ⟨b1, b2⟩
    · refine .some 1 rb (by unfold refLatest; rw [a2, b3, if_pos (by show rb.seq > (0 : Int); omega)]) b4 (mk 1 rb (.inr rfl) (by rw [e1]; exact b1) b2 fun r hr hp => ?_) (.inr ⟨rfl, by rw [a2]; show (0 : Int) < _; omega⟩)
      rw [e3] at hr
      exact absurd hp (a1 r hr)
    · refine .none (by unfold refLatest; rw [a2, b2]; rfl) ?_
      show pickRec 1 1 (m.now (1 * 10 + 1 : Int).toNat) (pickRec 1 0 (m.now (1 * 10 + 0 : Int).toNat) (Rec.zero, -1)) = _
      rw [e0, e1, pick_leave fun r hr hp => absurd hp (a1 r hr), pick_leave fun r hr hp => absurd hp (b1 r hr)]
theorem zero_fit : fitRec 1 zeroSec = Rec.zero := by
  unfold fitRec
  rw [if_neg fun h => getRec_zero h.1]
theorem fit_seq (p : Int) (bs : List Int) : 0 ≤ (fitRec p bs).seq := by
  rcases fit_cases p bs with ⟨r, _, _, h, h2, _⟩ | ⟨_, h⟩
  · rw [h]; omega
  · rw [h]; exact Int.le_refl 0
theorem latest_zero (a : List Int) : refLatest a zeroSec 1 = fitRec 1 a := by
  unfold refLatest
  rw [zero_fit, if_neg (by have := fit_seq 1 a; show ¬ (0 : Int) > _; omega)]
/-- behind Save -/
theorem rd_after {m m' : DS} {h : Int} {R nx : Rec} (ok : LogOk m 1 ⟨h, R⟩) (hk : m'.now (1 * 10 + h).toNat = m.now (1 * 10 + h).toNat) (hn : m'.now (1 * 10 + (1 - h)).toNat = nx.bytes) (hr : nx.right = true) (hp : nx.part = 1) (hq : nx.seq = R.seq + 1) :
    refLatest (m'.now 10) (m'.now 11) 1 = nx := by
  have f1 : fitRec 1 nx.bytes = nx := fit_yes (getRec_bytes hr) hp
  have f2 : fitRec 1 (m.now (1 * 10 + h).toNat) = R := fit_yes ok.cur ok.part
  rw [← hn] at f1
  rw [← hk] at f2
  unfold refLatest
  rcases ok.held with e | e
  · simp only at e
    subst e
    have g1 : fitRec 1 (m'.now 10) = R := f2
    have g2 : fitRec 1 (m'.now 11) = nx := f1
    rw [g1, g2, if_pos (by omega)]
  · simp only at e
    subst e
    have g1 : fitRec 1 (m'.now 11) = R := f2
    have g2 : fitRec 1 (m'.now 10) = nx := f1
    rw [g1, g2, if_neg (by omega)]

theorem sl_wide {W w' : World} {A : Option Addr} {xs : List Int} {n : Nat} (h : Sl W W.heap.size 1 A n (xs.map (.int .u8))) (k : Below W.heap.size W w') : Sl w' w'.heap.size 1 A n (xs.map (.int .u8)) := (h.below k).more k.size
theorem latest_rows {w : World} {gx gy : Nat} {bx bby : List Int} {nx : Rec} (hx : Row w gx 5 (bx.map (.int .u8))) (hy : Row w gy 5 (bby.map (.int .u8))) (hxl : bx.length = 64) (hyl : bby.length = 64) (hxb : Byt bx) (hyb : Byt bby) (h : refLatest bx bby 1 = nx) :
    Calls Try.prog 37 #[.slice (some ⟨gx, 0, none⟩) 64 64, .slice (some ⟨gy, 0, none⟩) 64 64, .int .i64 1] w fun e w' => e = .returned (.agg #[.int .i64 nx.part, .int .i64 nx.seq, .int .i64 nx.active, .int .i64 nx.confirmed, .int .i64 nx.left, .int .i64 nx.bad]) ∧ Below w.heap.size w w' := by
  rw [← Rec.val_eq, ← h]
  exact latest_ref w _ _ 64 64 64 64 bx bby 1 hxl hyl (Nat.le_refl _) (Nat.le_refl _) hxb hyb (byte_sl hx hxl) (byte_sl hy hyl)

set_option maxRecDepth 100000 in
set_option maxHeartbeats 16000000 in
theorem walk (w : World) (A : Option Addr) (ca : Nat) (a : List Int) (hma : a.length ≤ maxLen) (hca : a.length ≤ ca) (hAa : A = none → ca = 0) (hsa : Sl w w.heap.size 1 A a.length (a.map (.int .u8))) (hya : Byt a)
    (B : Option Addr) (cb : Nat) (b : List Int) (hmb : b.length ≤ maxLen) (hcb : b.length ≤ cb) (hAb : B = none → cb = 0) (hsb : Sl w w.heap.size 1 B b.length (b.map (.int .u8))) (hyb : Byt b) (r : Rec) (hr : r.In) :
    Calls Try.prog 9 #[.slice A a.length ca, .slice B b.length cb, r.val] w fun e w' => e = .returned (.bool true) ∧ Below w.heap.size w w' := by
  have HYA := Lib.hid hya; have HYB := Lib.hid hyb; have HSA := Lib.hid hsa; have HSB := Lib.hid hsb
  obtain ⟨n, hn⟩ : ∃ n, n = a.length := ⟨_, rfl⟩
  obtain ⟨k, hk⟩ : ∃ k, k = b.length := ⟨_, rfl⟩
  rw [← hn] at HSA hca ⊢
  rw [← hk] at HSB hcb ⊢
  have HN := Lib.hid hn; have HK := Lib.hid hk
  obtain ⟨w0, hw0⟩ : ∃ w0, w0 = w.alloc (.cells #[.int .i64 r.part, .int .i64 r.seq, .int .i64 r.active, .int .i64 r.confirmed, .int .i64 r.left, .int .i64 r.bad] 23) := ⟨_, rfl⟩
  have H0 := Lib.hid (show St w w0 [row w.heap.size 23 r.cells.toList] by rw [hw0]; exact (St.nil w).new _ _)
  have HW := Lib.hid hw0
  have HV := Lib.hid (Rec.val_eq r)
  clear hn hk hw0 hma hmb hAa hAb hya hyb hsa hsb
  rw [HV.out]
  go_enter Try.func9, Try.ntmps9
  go_upto_region 1 with fail
  rw [← HW.out]
  go_wp2_with (fail)
  refine (commit.wakes _).mono ?_
  rintro e w1 ⟨rfl, hb⟩
  have H1 := Lib.hid (H0.out.below hb)
  clear hb
  by_cases hn64 : n = 64
  · subst hn64
    by_cases hk64 : k = 64
    · subst hk64
      have HF := Lib.hid (rd_f HN.out.symm HK.out.symm HYA.out HYB.out)
      obtain ⟨m2, hm2⟩ : ∃ m2, m2 = rdM a b := ⟨_, rfl⟩
      have HW1 := Lib.hid (rd_w1 (a := a) HN.out.symm)
      have HW2 := Lib.hid (rd_w2 (a := a) (b := b) HK.out.symm)
      rw [← hm2] at HF HW2
      clear hm2
      go_wp2_with (fail)
      refine (dsk_new H1.out 20).mono ?_
      rintro e w2 ⟨d, rfl, h2⟩
      have H2 := Lib.hid (show St w w2 (dsk d (DS.new 20) :: _) from h2)
      clear h2
      go_wp2_with (fail)
      refine (Go.Proofs.Ytdlbcbdfcjfagaa.placeSays.rcommit_in 1 0 _ (by decide) (by decide) (by decide) (by decide)).mono ?_
      rintro e w3 ⟨⟨t, ht, rfl⟩, rfl⟩
      obtain rfl : t = 10 := by omega
      have HP1 := Lib.hid (dsk_write H2.out 10 A 64 ca a HN.out.symm (sl_wide HSA.out H2.out.bel) (by decide))
      rw [HW1.out] at HP1
      clear ht
      go_wp2_with (fail)
      refine HP1.out.mono ?_
      rintro e w3 ⟨rfl, h3⟩
      have H3 := Lib.hid h3
      clear h3
      go_wp2_with (fail)
      refine (Go.Proofs.Ytdlbcbdfcjfagaa.placeSays.rcommit_in 1 1 _ (by decide) (by decide) (by decide) (by decide)).mono ?_
      rintro e w4 ⟨⟨t, ht, rfl⟩, rfl⟩
      obtain rfl : t = 11 := by omega
      have HP2 := Lib.hid (dsk_write H3.out 11 B 64 cb b HK.out.symm (sl_wide HSB.out H3.out.bel) (by simp [DS.put, DS.new]))
      rw [HW2.out] at HP2
      clear ht
      go_wp2_with (fail)
      refine HP2.out.mono ?_
      rintro e w4 ⟨rfl, h4⟩
      have H4 := Lib.hid h4
      clear h4
      go_wp2_with (fail)
      refine (latest_ref _ A B 64 64 ca cb a b 1 HN.out.symm HK.out.symm hca hcb HYA.out HYB.out (sl_wide HSA.out H4.out.bel) (sl_wide HSB.out H4.out.bel)).mono ?_
      rintro e w5 ⟨rfl, hb⟩
      have H5 := Lib.hid (H4.out.below hb)
      clear hb
      have HOP := Lib.hid (fun (w1 : World) (ls : List Asn) (h : St w w1 (dsk d m2 :: ls)) => open_at h 1 (by rw [HF.out.len]; rfl) HF.out.up.1 (by have := HF.out.few; omega) (fun i => HF.out.bts.now i) (fun i hi => HF.out.good.now_len hi))
      rcases rd_any HF.out with ⟨hz, ho⟩ | ⟨hd, R, hR, hs, ok, hf⟩
      · have HZ := Lib.hid (show ((refLatest a b 1).seq == 0) = true by simpa using hz)
        obtain ⟨R, hR⟩ : ∃ R, R = refLatest a b 1 := ⟨_, rfl⟩
        rw [← hR] at HZ ⊢
        have HO := Lib.hid ho
        have hz' := HZ.out
        clear hz ho hR
        rw [Rec.val_eq R]
        obtain ⟨w6, hw6⟩ : ∃ w6, w6 = w5.alloc (.cells #[.int .i64 R.part, .int .i64 R.seq, .int .i64 R.active, .int .i64 R.confirmed, .int .i64 R.left, .int .i64 R.bad] 23) := ⟨_, rfl⟩
        have H6 := Lib.hid (show St w w6 (dsk d m2 :: row w5.heap.size 23 R.cells.toList :: _) by rw [hw6]; exact (H5.out.new 23 R.cells).swap)
        have HW6 := Lib.hid hw6
        clear hw6
        go_wp2_with (fail)
        rw [← HW6.out]
        refine (HOP.out _ _ H6.out).mono ?_
        rintro e w7 hb
        obtain ⟨rfl, h7⟩ := hb.1 (by rw [HO.out]; decide)
        have H7 := Lib.hid h7
        clear hb h7
        have q1 : w7.cell? ⟨w5.heap.size, 1, none⟩ = some (.int .i64 R.seq) := (H7.out.pick 1 rfl).row.1.cell 1
        have lq := (H7.out.pick 1 rfl).row.1.lt
        go_wp2_with (fail)
        go_ret
        exact ⟨rfl, H7.out.bel⟩
      · have HLR := Lib.hid (show (R.seq == 0) = false by rw [beq_eq_false_iff_ne]; omega)
        have HR := Lib.hid hR
        have HOK := Lib.hid ok; have HFC := Lib.hid hf
        have HSV := Lib.hid (fun (w1 : World) (ls : List Asn) (g : Nat) (h : St w w1 (log g d 1 hd R :: dsk d m2 :: ls)) => save_at (s := ⟨hd, R⟩) h ok.held (by show 0 ≤ R.seq; omega) (by have := HF.out.few; omega) r)
        have HNX := Lib.hid (fun (w : World) => next_ref w R r (by omega))
        have hq := right_seq ok.right
        simp only at hq
        have HC : ∃ (nx : Rec) (f : Int) (m' : DS) (s' : LogS), refNext R r = (nx, f) ∧ saveM m2 1 ⟨hd, R⟩ r = (f, m', s') ∧ s'.now = nx ∧ m'.Good ∧ m'.Bts ∧ m'.down = false ∧ m'.secs.length = 20 ∧ m'.waits.length ≤ 2 ∧
            ((f ≠ 0 ∧ nx = R ∧ m'.now 10 = a ∧ m'.now 11 = b) ∨ (f = 0 ∧ (hd = 0 ∧ m'.now 10 = a ∨ hd = 1 ∧ m'.now 11 = b) ∧ refLatest (m'.now 10) (m'.now 11) 1 = nx)) := by
          rcases saved m2 1 ⟨hd, R⟩ r ok.part with ⟨c, hc, h1, h2⟩ | ⟨nx, h1, hn, hr', h2⟩
          · exact ⟨_, _, _, _, h1, h2, rfl, HF.out.good, HF.out.bts, HF.out.up.1, HF.out.len, by rw [HF.out.few]; omega, .inl ⟨by omega, rfl, HF.out.n0, HF.out.n1⟩⟩
          · obtain ⟨m', s1, s2, s3, s4, s5, s6, s7, s8, s9⟩ := up_save ok HF.out.up h1
            refine ⟨_, _, _, _, h1, s1, rfl, s2.good, s2.bts, s3.1, by rw [s5]; exact HF.out.len, by rw [s4]; simp, .inr ⟨rfl, ?_, rd_after ok s7 s8 s9 (by rw [hn]; rfl) (by rw [hn]; rfl)⟩⟩
            rcases ok.held with e | e
            · simp only at e
              subst e
              exact .inl ⟨rfl, (show m'.now 10 = m2.now 10 from s7).trans HF.out.n0⟩
            · simp only at e
              subst e
              exact .inr ⟨rfl, (show m'.now 11 = m2.now 11 from s7).trans HF.out.n1⟩
        obtain ⟨nx, f, m', s', h1, h2, hsn, hg', hb', hd', hl', hw', hcase⟩ := HC
        rw [h1] at HNX
        rw [h2] at HSV
        rw [hsn] at HSV
        have HGD := Lib.hid hg'; have HBT := Lib.hid hb'; have HDN := Lib.hid hd'; have HLN := Lib.hid hl'; have HWT := Lib.hid hw'; have HCASE := Lib.hid hcase
        have HOPN := Lib.hid ok.open_
        simp only at HOPN
        clear hR hs ok hf h1 h2 hsn hg' hb' hd' hl' hw' hcase
        rw [HR.out]
        rw [Rec.val_eq R]
        obtain ⟨w6, hw6⟩ : ∃ w6, w6 = w5.alloc (.cells #[.int .i64 R.part, .int .i64 R.seq, .int .i64 R.active, .int .i64 R.confirmed, .int .i64 R.left, .int .i64 R.bad] 23) := ⟨_, rfl⟩
        have H6 := Lib.hid (show St w w6 (dsk d m2 :: row w5.heap.size 23 R.cells.toList :: row w.heap.size 23 r.cells.toList :: []) by rw [hw6]; exact (H5.out.new 23 R.cells).swap)
        have HW6 := Lib.hid hw6
        clear hw6
        go_wp2_with (fail)
        rw [← HW6.out]
        refine (HOP.out _ _ H6.out).mono ?_
        rintro e w7 hb
        have hb := hb.2 (by rw [HOPN.out]; have := HOK.out.held; simp only at this ⊢; omega)
        rw [HOPN.out] at hb
        obtain ⟨g, rfl, h7⟩ := hb
        have H7 := Lib.hid h7
        clear hb h7
        obtain ⟨q0, q1, q2, q3, q4, q5⟩ := Rec.read (H7.out.pick 2 rfl).row.1
        have lq := (H7.out.pick 2 rfl).row.1.lt
        have hlr := HLR.out
        have HLA := Lib.hid (fun (W : World) (ls : List Asn) (hd : Int) (R : Rec) (h : St w W (log g d 1 hd R :: ls)) => by have h := latest_at h; rw [Rec.val_eq] at h; exact h)
        have HD7 := Lib.hid H7.out.drew
        go_upto_region 12 with fail
        go_cut [65] (fun s wc => s = .bool false ∧ St w wc [log g d 1 hd R, dsk d m2, row w5.heap.size 23 R.cells.toList, row w.heap.size 23 r.cells.toList])
        case first =>
          go_region_law (first
            | (go_simp; (with_reducible refine (HLA.out _ _ _ _ HD7.out).mono ?_); rintro e w8 ⟨rfl, hb8⟩; have H8 := Lib.hid (HD7.out.below hb8); clear hb8; obtain ⟨p0, p1, p2, p3, p4, p5⟩ := Rec.read (H8.out.pick 2 rfl).row.1; have lp := (H8.out.pick 2 rfl).row.1.lt; dsimp only))
          all_goals
            go_wp2_with (fail)
            go_meet
            exact ⟨rfl, H8.out⟩
        case rest =>
          obtain ⟨rfl, h8⟩ := hcut
          have H8 := Lib.hid h8
          clear h8
          obtain ⟨p0, p1, p2, p3, p4, p5⟩ := Rec.read (H8.out.pick 2 rfl).row.1
          have lp := (H8.out.pick 2 rfl).row.1.lt
          clear q0 q1 q2 q3 q4 q5 lq
          obtain ⟨r0, r1, r2, r3, r4, r5⟩ := Rec.read (H8.out.pick 3 rfl).row.1
          have lr := (H8.out.pick 3 rfl).row.1.lt
          clear hlr
          go_wp2_with (fail)
          rw [← HV.out, ← Rec.val_eq R]
          refine (HNX.out _).mono ?_
          rintro e w9 ⟨rfl, hb⟩
          have H9 := Lib.hid (H8.out.below hb)
          clear hb p0 p1 p2 p3 p4 p5 lp r0 r1 r2 r3 r4 r5 lr
          dsimp only
          rw [Rec.val_eq nx]
          obtain ⟨w10, hw10⟩ : ∃ w10, w10 = w9.alloc (.cells #[.int .i64 nx.part, .int .i64 nx.seq, .int .i64 nx.active, .int .i64 nx.confirmed, .int .i64 nx.left, .int .i64 nx.bad] 23) := ⟨_, rfl⟩
          have H10 := Lib.hid (show St w w10 (log g d 1 hd R :: dsk d m2 :: row w9.heap.size 23 nx.cells.toList :: row w5.heap.size 23 R.cells.toList :: row w.heap.size 23 r.cells.toList :: []) by rw [hw10]; exact ((H9.out.new 23 nx.cells).pick 2 rfl).pick 2 rfl)
          have HW10 := Lib.hid hw10
          clear hw10
          go_upto_region 15 with fail
          rw [← HW10.out]
          have HD10 := Lib.hid H10.out.drew
          have HSD := Lib.hid (HSV.out _ _ _ HD10.out)
          obtain ⟨r0, r1, r2, r3, r4, r5⟩ := Rec.read (w := w10) (H10.out.pick 4 rfl).row.1
          have lr : w.heap.size < w10.heap.size := (H10.out.pick 4 rfl).row.1.lt
          have hff : (f != f) = false := by simp
          have HVR := Lib.hid (Rec.val_eq r)
          rw [HVR.out] at HSD
          go_cut [82] (fun s wc => s = .bool false ∧ St w wc (log g d 1 s'.held nx :: dsk d m' :: row w9.heap.size 23 nx.cells.toList :: row w5.heap.size 23 R.cells.toList :: row w.heap.size 23 r.cells.toList :: []))
          case first =>
            go_region_law (first
              | (go_simp; (with_reducible refine HSD.out.mono ?_); rintro e w11 ⟨rfl, h11⟩; have H11 := Lib.hid h11; clear h11; obtain ⟨n0, n1, n2, n3, n4, n5⟩ := Rec.read (H11.out.pick 2 rfl).row.1; have ln := (H11.out.pick 2 rfl).row.1.lt; dsimp only)
              | (go_simp; (with_reducible refine (HLA.out _ _ _ _ H11.out).mono ?_); rintro e w12 ⟨rfl, hb⟩; have H12 := Lib.hid (H11.out.below hb); clear hb; obtain ⟨o0, o1, o2, o3, o4, o5⟩ := Rec.read (H12.out.pick 2 rfl).row.1; have lo := (H12.out.pick 2 rfl).row.1.lt; dsimp only))
            all_goals
              go_wp2_with (fail)
              go_meet
              exact ⟨rfl, H12.out⟩
          case rest =>
            obtain ⟨rfl, h12⟩ := hcut
            have H12 := Lib.hid h12
            clear h12
            clear r0 r1 r2 r3 r4 r5 lr
            obtain ⟨bx, hbx⟩ : ∃ bx, bx = m'.now 10 := ⟨_, rfl⟩
            obtain ⟨bby, hby⟩ : ∃ bby, bby = m'.now 11 := ⟨_, rfl⟩
            have HR1 := Lib.hid (dsk_read (H12.out.pick 1 rfl) 10 10 rfl (by rw [HLN.out]; decide) HDN.out (by have := HWT.out; omega))
            have HXL := Lib.hid (show bx.length = 64 by rw [hbx]; exact HGD.out.now_len (by rw [HLN.out]; decide))
            have HXB := Lib.hid (show Byt bx by rw [hbx]; exact HBT.out.now 10)
            have HYL := Lib.hid (show bby.length = 64 by rw [hby]; exact HGD.out.now_len (by rw [HLN.out]; decide))
            have HYBB := Lib.hid (show Byt bby by rw [hby]; exact HBT.out.now 11)
            rw [← hbx, ← hby] at HCASE
            rw [← hbx] at HR1
            have HBY := Lib.hid hby
            clear hbx hby
            go_wp2_with (fail)
            refine (Go.Proofs.Ytdlbcbdfcjfagaa.placeSays.rcommit_in 1 0 _ (by decide) (by decide) (by decide) (by decide)).mono ?_
            rintro e w13 ⟨⟨t, ht, rfl⟩, rfl⟩
            obtain rfl : t = 10 := by omega
            clear ht
            go_wp2_with (fail)
            refine HR1.out.mono ?_
            rintro e w13 ⟨gx, rfl, h13⟩
            have H13 := Lib.hid h13
            clear h13
            have HR2 := Lib.hid (dsk_read (H13.out.pick 1 rfl) 11 11 rfl (by rw [HLN.out]; decide) HDN.out (by have := HWT.out; omega))
            rw [← HBY.out] at HR2
            go_wp2_with (fail)
            refine (Go.Proofs.Ytdlbcbdfcjfagaa.placeSays.rcommit_in 1 1 _ (by decide) (by decide) (by decide) (by decide)).mono ?_
            rintro e w14 ⟨⟨t, ht, rfl⟩, rfl⟩
            obtain rfl : t = 11 := by omega
            clear ht
            go_wp2_with (fail)
            refine HR2.out.mono ?_
            rintro e w14 ⟨gy, rfl, h14⟩
            have H14 := Lib.hid (show St w w14 (row gx 5 (bx.map (.int .u8)) :: row gy 5 (bby.map (.int .u8)) :: dsk d m' :: log g d 1 s'.held nx :: row w9.heap.size 23 nx.cells.toList :: row w5.heap.size 23 R.cells.toList :: row w.heap.size 23 r.cells.toList :: []) from h14.pick 2 rfl)
            clear h14
            have HL14 := Lib.hid (H14.out.row.1)
            rcases HCASE.out with ⟨hf0, rfl, rfl, rfl⟩ | ⟨rfl, hcs, hla⟩
            · have hf1 : (f != 0) = true := by simpa using hf0
              clear hf0
              go_wp2_with (fail)
              refine (same_any bx bx (some ⟨gx, 0, none⟩) A 64 64 64 ca _ HXL.out.symm HXL.out.symm (by omega) (by omega) (byte_sl H14.out.row.1 HXL.out) (sl_wide HSA.out H14.out.bel)).mono ?_
              rintro e w15 ⟨rfl, hb⟩
              have H15 := Lib.hid (H14.out.below hb)
              clear hb
              rw [decide_eq_true (show bx = bx from rfl)]
              go_wp2_with (fail)
              refine (same_any bby bby (some ⟨gy, 0, none⟩) B 64 64 64 cb _ HYL.out.symm HYL.out.symm (by omega) (by omega) (byte_sl (H15.out.pick 1 rfl).row.1 HYL.out) (sl_wide HSB.out H15.out.bel)).mono ?_
              rintro e w16 ⟨rfl, hb⟩
              have H16 := Lib.hid (H15.out.below hb)
              clear hb
              rw [decide_eq_true (show bby = bby from rfl)]
              go_wp2_with (fail)
              go_ret
              exact ⟨rfl, H16.out.bel⟩
            · have HLA2 := Lib.hid hla
              have hmk := make64
              have HZ := Lib.hid (H14.out.new 5 (Array.replicate 64 (.int .u8 0))).drew
              have HZL := Lib.hid (byte_sl (l := zeroSec) (n := 64) HZ.out.row.1 rfl)
              have HLT := Lib.hid (latest_ref _ A (some ⟨w14.heap.size, 0, none⟩) 64 64 ca 64 a zeroSec 1 HN.out.symm rfl hca (by omega) HYA.out byt_zero (sl_wide HSA.out HZ.out.bel) HZL.out)
              rw [latest_zero] at HLT
              have HLZ := Lib.hid (Rec.val_eq (fitRec 1 a))
              rw [HLZ.out] at HLT
              obtain ⟨q0, q1, q2, q3, q4, q5⟩ := Rec.read (w := w14) (H14.out.pick 5 rfl).row.1
              have lq : w5.heap.size < w14.heap.size := (H14.out.pick 5 rfl).row.1.lt
              obtain ⟨z0, z1, z2, z3, z4, z5⟩ := Rec.read (w := w14.alloc (.cells (Array.replicate 64 (.int .u8 0)) 5)) (HZ.out.pick 6 rfl).row.1
              have HFF := Lib.hid (show hd = 0 ∧ fitRec 1 a = R ∧ bx = a ∨ hd = 1 ∧ (fitRec 1 a).seq < R.seq ∧ bby = b by
                rcases HFC.out with ⟨h1, h2⟩ | ⟨h1, h2⟩
                · rcases hcs with ⟨h3, h4⟩ | ⟨h3, h4⟩
                  · exact .inl ⟨h1, h2, h4⟩
                  · omega
                · rcases hcs with ⟨h3, h4⟩ | ⟨h3, h4⟩
                  · omega
                  · exact .inr ⟨h1, h2, h4⟩)
              clear hcs hla HFC
              obtain ⟨fa, hfa⟩ : ∃ fa, fa = fitRec 1 a := ⟨_, rfl⟩
              rw [← hfa] at HLT HFF
              clear hfa
              have hff := HFF.out
              rcases hff with ⟨_, hfr, hx⟩ | ⟨_, hlt, hx⟩
              · rw [hfr] at HLT
                have HXE := Lib.hid hx
                clear hfr hx HFF
                go_upto_region 21 with fail
                go_cut [17] (fun s wc => s = .bool true ∧ St w wc [row w14.heap.size 5 (zeroSec.map (.int .u8)), row gx 5 (bx.map (.int .u8)), row gy 5 (bby.map (.int .u8)), dsk d m', log g d 1 s'.held nx, row w9.heap.size 23 nx.cells.toList, row w5.heap.size 23 R.cells.toList, row w.heap.size 23 r.cells.toList])
                case first =>
                  go_region_law (first
                    | (go_simp; (with_reducible refine HLT.out.mono ?_); rintro e w15 ⟨rfl, hb⟩; have H15 := Lib.hid (HZ.out.below hb); clear hb; obtain ⟨o0, o1, o2, o3, o4, o5⟩ := Rec.read (H15.out.pick 6 rfl).row.1; have lo := (H15.out.pick 6 rfl).row.1.lt; dsimp only))
                  all_goals
                    go_wp2_with (fail)
                    go_meet
                    exact ⟨rfl, H15.out⟩
                case rest =>
                  obtain ⟨w15, hw15⟩ : ∃ x, x = wc := ⟨_, rfl⟩
                  subst hw15
                  obtain ⟨rfl, h15⟩ := hcut
                  have H15 := Lib.hid h15
                  clear h15
                  clear q0 q1 q2 q3 q4 q5 lq z0 z1 z2 z3 z4 z5
                  have HD15 := Lib.hid H15.out.drew
                  have HSM := Lib.hid (same_any bx a (some ⟨gx, 0, none⟩) A 64 64 64 ca _ HXL.out.symm HN.out (by omega) (by omega) (byte_sl (HD15.out.pick 1 rfl).row.1 HXL.out) (sl_wide HSA.out HD15.out.bel))
                  rw [decide_eq_true HXE.out] at HSM
                  obtain ⟨n0, n1, n2, n3, n4, n5⟩ := Rec.read (w := w15) (HD15.out.pick 5 rfl).row.1
                  have ln : w9.heap.size < w15.heap.size := (HD15.out.pick 5 rfl).row.1.lt
                  go_wp2_with (fail)
                  refine segs_start (by kernel_rfl) ?_
                  refine segs_take [0, 1, 2, 3] (by kernel_rfl) (fun _ _ _ _ _ h => h) ?_
                  simp only [pick, List.getElem?_cons_succ, List.getElem?_cons_zero, Option.getD_some]
                  iterate 4 still_step
                  refine wpStill_nil ?_
                  refine segs_one 4 (by kernel_rfl) (by rfl) ?_
                  try simp only [List.getElem?_cons_succ, List.getElem?_cons_zero, Option.getD_some]
                  go_simp
                  (with_reducible refine HSM.out.mono ?_)
                  rintro e w16 ⟨rfl, hb⟩
                  have H16 := Lib.hid (HD15.out.below hb)
                  clear hb
                  obtain ⟨o0, o1, o2, o3, o4, o5⟩ := Rec.read (w := w16) (H16.out.pick 5 rfl).row.1
                  have lo : w9.heap.size < w16.heap.size := (H16.out.pick 5 rfl).row.1.lt
                  dsimp only
                  try simp only [Act.put, List.setIfInBounds_toArray, List.set_cons_zero, List.set_cons_succ]
                  refine segs_take [5, 6, 7, 8, 9, 10, 11] (by kernel_rfl) (fun _ _ _ _ _ h => h) ?_
                  simp only [pick, List.getElem?_cons_succ, List.getElem?_cons_zero, Option.getD_some]
                  iterate 7 still_step
                  refine wpStill_nil ?_
                  refine segs_skip 12 (by kernel_rfl) (by rfl) ?_
                  simp only [List.getElem?_cons_succ, List.getElem?_cons_zero, Option.getD_some, Act.put, List.setIfInBounds_toArray, List.set_cons_zero, List.set_cons_succ]
                  refine segs_take [13, 14, 15, 16, 17] (by kernel_rfl) (fun _ _ _ _ _ h => h) ?_
                  simp only [pick, List.getElem?_cons_succ, List.getElem?_cons_zero, Option.getD_some]
                  iterate 5 still_step
                  refine wpStill_nil ?_
                  refine segs_two 18 19 (by kernel_rfl) (by rfl) (by rfl) ?_ ?_
                  · try simp only [List.getElem?_cons_succ, List.getElem?_cons_zero, Option.getD_some]
                    go_simp
                    (with_reducible refine (latest_rows (H16.out.pick 1 rfl).row.1 (H16.out.pick 2 rfl).row.1 HXL.out HYL.out HXB.out HYBB.out HLA2.out).mono ?_)
                    rintro e w17 ⟨rfl, hb⟩
                    have H17 := Lib.hid (H16.out.below hb)
                    clear hb
                    obtain ⟨p0, p1, p2, p3, p4, p5⟩ := Rec.read (w := w17) (H17.out.pick 5 rfl).row.1
                    have lp : w9.heap.size < w17.heap.size := (H17.out.pick 5 rfl).row.1.lt
                    dsimp only
                    try simp only [Act.put, List.setIfInBounds_toArray, List.set_cons_zero, List.set_cons_succ]
                    refine segs_take [19, 20, 21, 22] (by kernel_rfl) (fun _ _ _ _ _ h => h) ?_
                    simp only [pick, List.getElem?_cons_succ, List.getElem?_cons_zero, Option.getD_some]
                    iterate 4 still_step
                    refine wpStill_nil ?_
                    refine segs_end (by kernel_rfl) ?_
                    go_wp2_with (fail)
                    go_ret
                    exact ⟨by simp, H17.out.bel⟩
                  · try simp only [List.getElem?_cons_succ, List.getElem?_cons_zero, Option.getD_some]
                    go_simp
                    refine segs_one 18 (by kernel_rfl) (by rfl) ?_
                    try simp only [List.getElem?_cons_succ, List.getElem?_cons_zero, Option.getD_some]
                    go_simp
                    (with_reducible refine (latest_rows (H16.out.pick 1 rfl).row.1 (H16.out.pick 2 rfl).row.1 HXL.out HYL.out HXB.out HYBB.out HLA2.out).mono ?_)
                    rintro e w17 ⟨rfl, hb⟩
                    have H17 := Lib.hid (H16.out.below hb)
                    clear hb
                    obtain ⟨p0, p1, p2, p3, p4, p5⟩ := Rec.read (w := w17) (H17.out.pick 5 rfl).row.1
                    have lp : w9.heap.size < w17.heap.size := (H17.out.pick 5 rfl).row.1.lt
                    dsimp only
                    try simp only [Act.put, List.setIfInBounds_toArray, List.set_cons_zero, List.set_cons_succ]
                    refine segs_take [20, 21, 22] (by kernel_rfl) (fun _ _ _ _ _ h => h) ?_
                    simp only [pick, List.getElem?_cons_succ, List.getElem?_cons_zero, Option.getD_some]
                    iterate 3 still_step
                    refine wpStill_nil ?_
                    refine segs_end (by kernel_rfl) ?_
                    go_wp2_with (fail)
                    go_ret
                    exact ⟨by simp, H17.out.bel⟩
              · have hne : (fa.seq == R.seq) = false := by rw [beq_eq_false_iff_ne]; omega
                have HXE := Lib.hid hx
                clear hlt hx HFF
                go_upto_region 21 with fail
                go_cut [17] (fun s wc => s = .bool false ∧ St w wc [row w14.heap.size 5 (zeroSec.map (.int .u8)), row gx 5 (bx.map (.int .u8)), row gy 5 (bby.map (.int .u8)), dsk d m', log g d 1 s'.held nx, row w9.heap.size 23 nx.cells.toList, row w5.heap.size 23 R.cells.toList, row w.heap.size 23 r.cells.toList])
                case first =>
                  go_region_law (first
                    | (go_simp; (with_reducible refine HLT.out.mono ?_); rintro e w15 ⟨rfl, hb⟩; have H15 := Lib.hid (HZ.out.below hb); clear hb; obtain ⟨o0, o1, o2, o3, o4, o5⟩ := Rec.read (H15.out.pick 6 rfl).row.1; have lo := (H15.out.pick 6 rfl).row.1.lt; dsimp only))
                  all_goals
                    go_wp2_with (fail)
                    go_meet
                    exact ⟨rfl, H15.out⟩
                case rest =>
                  obtain ⟨w15, hw15⟩ : ∃ x, x = wc := ⟨_, rfl⟩
                  subst hw15
                  obtain ⟨rfl, h15⟩ := hcut
                  have H15 := Lib.hid h15
                  clear h15
                  clear q0 q1 q2 q3 q4 q5 lq z0 z1 z2 z3 z4 z5
                  have HD15 := Lib.hid H15.out.drew
                  have HSM := Lib.hid (same_any bby b (some ⟨gy, 0, none⟩) B 64 64 64 cb _ HYL.out.symm HK.out (by omega) (by omega) (byte_sl (HD15.out.pick 2 rfl).row.1 HYL.out) (sl_wide HSB.out HD15.out.bel))
                  rw [decide_eq_true HXE.out] at HSM
                  obtain ⟨n0, n1, n2, n3, n4, n5⟩ := Rec.read (w := w15) (HD15.out.pick 5 rfl).row.1
                  have ln : w9.heap.size < w15.heap.size := (HD15.out.pick 5 rfl).row.1.lt
                  go_wp2_with (fail)
                  refine segs_start (by kernel_rfl) ?_
                  refine segs_take [0, 1, 2, 3] (by kernel_rfl) (fun _ _ _ _ _ h => h) ?_
                  simp only [pick, List.getElem?_cons_succ, List.getElem?_cons_zero, Option.getD_some]
                  iterate 4 still_step
                  refine wpStill_nil ?_
                  refine segs_skip 4 (by kernel_rfl) (by rfl) ?_
                  simp only [List.getElem?_cons_succ, List.getElem?_cons_zero, Option.getD_some, Act.put, List.setIfInBounds_toArray, List.set_cons_zero, List.set_cons_succ]
                  refine segs_take [5, 6, 7, 8, 9, 10, 11] (by kernel_rfl) (fun _ _ _ _ _ h => h) ?_
                  simp only [pick, List.getElem?_cons_succ, List.getElem?_cons_zero, Option.getD_some]
                  iterate 7 still_step
                  refine wpStill_nil ?_
                  refine segs_one 12 (by kernel_rfl) (by rfl) ?_
                  try simp only [List.getElem?_cons_succ, List.getElem?_cons_zero, Option.getD_some]
                  go_simp
                  (with_reducible refine HSM.out.mono ?_)
                  rintro e w16 ⟨rfl, hb⟩
                  have H16 := Lib.hid (HD15.out.below hb)
                  clear hb
                  obtain ⟨o0, o1, o2, o3, o4, o5⟩ := Rec.read (w := w16) (H16.out.pick 5 rfl).row.1
                  have lo : w9.heap.size < w16.heap.size := (H16.out.pick 5 rfl).row.1.lt
                  dsimp only
                  try simp only [Act.put, List.setIfInBounds_toArray, List.set_cons_zero, List.set_cons_succ]
                  refine segs_take [13, 14, 15, 16, 17] (by kernel_rfl) (fun _ _ _ _ _ h => h) ?_
                  simp only [pick, List.getElem?_cons_succ, List.getElem?_cons_zero, Option.getD_some]
                  iterate 5 still_step
                  refine wpStill_nil ?_
                  refine segs_two 18 19 (by kernel_rfl) (by rfl) (by rfl) ?_ ?_
                  · try simp only [List.getElem?_cons_succ, List.getElem?_cons_zero, Option.getD_some]
                    go_simp
                    (with_reducible refine (latest_rows (H16.out.pick 1 rfl).row.1 (H16.out.pick 2 rfl).row.1 HXL.out HYL.out HXB.out HYBB.out HLA2.out).mono ?_)
                    rintro e w17 ⟨rfl, hb⟩
                    have H17 := Lib.hid (H16.out.below hb)
                    clear hb
                    obtain ⟨p0, p1, p2, p3, p4, p5⟩ := Rec.read (w := w17) (H17.out.pick 5 rfl).row.1
                    have lp : w9.heap.size < w17.heap.size := (H17.out.pick 5 rfl).row.1.lt
                    dsimp only
                    try simp only [Act.put, List.setIfInBounds_toArray, List.set_cons_zero, List.set_cons_succ]
                    refine segs_take [19, 20, 21, 22] (by kernel_rfl) (fun _ _ _ _ _ h => h) ?_
                    simp only [pick, List.getElem?_cons_succ, List.getElem?_cons_zero, Option.getD_some]
                    iterate 4 still_step
                    refine wpStill_nil ?_
                    refine segs_end (by kernel_rfl) ?_
                    go_wp2_with (fail)
                    go_ret
                    exact ⟨by simp, H17.out.bel⟩
                  · try simp only [List.getElem?_cons_succ, List.getElem?_cons_zero, Option.getD_some]
                    go_simp
                    refine segs_one 18 (by kernel_rfl) (by rfl) ?_
                    try simp only [List.getElem?_cons_succ, List.getElem?_cons_zero, Option.getD_some]
                    go_simp
                    (with_reducible refine (latest_rows (H16.out.pick 1 rfl).row.1 (H16.out.pick 2 rfl).row.1 HXL.out HYL.out HXB.out HYBB.out HLA2.out).mono ?_)
                    rintro e w17 ⟨rfl, hb⟩
                    have H17 := Lib.hid (H16.out.below hb)
                    clear hb
                    obtain ⟨p0, p1, p2, p3, p4, p5⟩ := Rec.read (w := w17) (H17.out.pick 5 rfl).row.1
                    have lp : w9.heap.size < w17.heap.size := (H17.out.pick 5 rfl).row.1.lt
                    dsimp only
                    try simp only [Act.put, List.setIfInBounds_toArray, List.set_cons_zero, List.set_cons_succ]
                    refine segs_take [20, 21, 22] (by kernel_rfl) (fun _ _ _ _ _ h => h) ?_
                    simp only [pick, List.getElem?_cons_succ, List.getElem?_cons_zero, Option.getD_some]
                    iterate 3 still_step
                    refine wpStill_nil ?_
                    refine segs_end (by kernel_rfl) ?_
                    go_wp2_with (fail)
                    go_ret
                    exact ⟨by simp, H17.out.bel⟩
    · have hk64' : ((k : Int) != 64) = true := by simp; omega
      have hk64'' : (k != 64) = true := by simpa using hk64
      clear hk64
      go_wp2_with (fail)
      go_ret
      exact ⟨rfl, H1.out.bel⟩
  · have hn64' : ((n : Int) != 64) = true := by simp; omega
    have hn64'' : (n != 64) = true := by simpa using hn64
    clear hn64
    go_wp2_with (fail)
    go_ret
    exact ⟨rfl, H1.out.bel⟩

/-! ### the row: written by program -/
set_option maxRecDepth 100000 in
theorem lifted (os : Os) (started : os.Started) (H : Type) (enc : TypeId × Value → H) :
    ReturnsInHanded {} Try.checked os 9 .any (Rows.commitReadsSpec.pre6 enc Try.prog Try.f9 Rows.commitReadsRow.domain false) (Rows.commitReadsSpec.post enc Try.prog Try.f9 false true false false) := by
  refine returnsInHanded_of_change (C := Try.checked) Go.Proofs.Ytdlbcbdfcjfagaa.lift.own started (by kernel_rfl) Try.func9
    (ChangeSpec.witness6 (enc := enc) (C := Try.checked) false ⟨#[], #[.slice none 0 0, .slice none 0 0, .agg #[.int .i64 0, .int .i64 0, .int .i64 0, .int .i64 0, .int .i64 0, .int .i64 0]], []⟩ 8 (by kernel_rfl) (by kernel_rfl) (by kernel_rfl) (by kernel_rfl)) ?_
  intro W base args ds gs before hval0 hW hcnd _
  have hval : ∀ (j : Nat) t v, Try.f9.params[j]? = some t → args[j]? = some v → Value.okWide Try.prog W .any base t v := hval0
  have hW' := hW
  obtain ⟨p, q, hA0, hV, rfl, hfz, hnd⟩ := hW
  have hA : DataW.TrodAll enc Try.prog W 0 (fun _ => true) true Try.f9.params.toList args.toList ds p := hA0
  have hAk := hA
  rw [Try.params9] at hA hval
  obtain ⟨v0, vs0, d0, ds0, p0, q0, hargs, rfl, rfl, h0, r0⟩ := trodAll_cons hA
  obtain ⟨v1, vs1, d1, ds1, p1, q1, rfl, rfl, rfl, h1, r1⟩ := trodAll_cons r0
  obtain ⟨v2, vs2, d2, ds2, p2, q2, rfl, rfl, rfl, h2, r2⟩ := trodAll_cons r1
  obtain ⟨rfl, rfl, rfl⟩ := trodAll_nil r2
  obtain rfl : args = #[v0, v1, v2] := by cases args; simp_all
  obtain ⟨rfl, rfl⟩ := trodVars_none hV
  have hlt := hW'.lt
  obtain ⟨A0, c0, z0, rfl, hm0, hc0, hq0, hs0, hz0⟩ := lift.arg_bytes (hval 0 25 v0 rfl rfl) h0
  obtain ⟨A1, c1, z1, rfl, hm1, hc1, hq1, hs1, hz1⟩ := lift.arg_bytes (hval 1 25 v1 rfl rfl) h1
  obtain ⟨R0, rfl, HR0⟩ := arg_rec (hval 2 23 v2 rfl rfl) h2
  refine (walk W A0 c0 z0 hm0 hc0 hq0 hs0 hz0 A1 c1 z1 hm1 hc1 hq1 hs1 hz1 R0 HR0).mono fun e W' ⟨he, hg⟩ => ?_
  subst he
  exact ⟨_, rfl, Go.Proofs.Ytdlbcbdfcjfagaa.base.postBelow (pv := []) hW' (fun _ _ _ => (trodAll_cons_mk (shut_bool Try.underlying4 _) trodAll_mk0)) (fun sp hsp => Go.Proofs.Ytdlbcbdfcjfagaa.lift.args_stay Go.Proofs.Ytdlbcbdfcjfagaa.lift.laidOut hg _ _ _ _ (by kernel_rfl) hAk (fun x hx => hlt x (by simpa using hx)) (fun x hx => hsp x (by simpa using hx))) (fun _ _ => rfl) (by simp)
    hg (ok_one (by kernel_rfl) rfl (okWide_bool_mk Try.underlying4 _))⟩

theorem over : Rows.commitReadsRow.holds Try.pinned (OpenSpec.ofChange Rows.commitReadsSpec) :=
  OpenClaim.holds_of_wide 9 Try.f9 rfl rfl rfl rfl rfl rfl rfl ⟨rfl, rfl, rfl, rfl, rfl⟩ rfl rfl rfl rfl rfl (by kernel_rfl) Try.func9 (by kernel_rfl)
    (of_decide_eq_true (by kernel_rfl)) (by unfold Func.isWrapper; first | (rw [if_pos (by decide +kernel)]; kernel_rfl) | (rw [if_neg (by decide +kernel)]; exact ⟨rfl, rfl⟩))
    (fun os started H enc _ => lifted os started H enc)

/-- THE STATEMENT -/
theorem proved : Rows.CommitReadsSaid :=
  over
#print axioms proved
end Go.Proofs.Ytdlbcbdfcjfagaa.commitReads
