/-
  PROVED HERE: for every uint8 n and acts l, longeronlaw04.DiskFuse(n, l) returns true and leaves memory as it was.
  CONDITIONS: none.
-/
import Derived.Test.YtjncpincmkpdpaaDiskAct
namespace Go.Proofs.Ytjncpincmkpdpaa.diskFuse
set_option linter.unusedVariables false
open Go.RowKit Go.ChangeShapes Go.WideShapes Go.ChangeAt Go.Deep Go.Joins Go.Proofs.Ytjncpincmkpdpaa.base Go.Proofs.Ytjncpincmkpdpaa.obj Go.Proofs.Ytjncpincmkpdpaa.mem Go.Proofs.Ytjncpincmkpdpaa.disk

structure FP (n : Int) (k : Nat) (m : DS) : Prop where
  on : (k : Int) ≤ n → m.down = false ∧ m.fuse = n - k
  off : n < k → m.down = true
  four : m.secs.length = 4
  few : m.waits.length ≤ k
theorem fp_goes {n : Int} {k : Nat} {m : DS} (h : FP n k m) : m.goes = decide ((k : Int) < n) := by
  unfold DS.goes
  by_cases h1 : (k : Int) ≤ n
  · obtain ⟨h2, h3⟩ := h.on h1
    rw [h2, h3, Bool.false_or]
    by_cases h4 : (k : Int) = n
    · simp [h4]
    · have : (k : Int) < n := by omega
      simp [this]; omega
  · rw [h.off (by omega)]
    simp; omega
theorem fp_burnt {n : Int} {k : Nat} {m : DS} (h : FP n k m) (h0 : 0 ≤ n) : FP n (k + 1) m.burnt ∧ ((k : Int) ≥ n → m.burnt.down = true) := by
  have key : (n ≤ k → m.burnt.down = true) ∧ ((k : Int) < n → m.burnt.down = false ∧ m.burnt.fuse = n - k - 1) := by
    unfold DS.burnt
    by_cases h1 : (k : Int) ≤ n
    · obtain ⟨h2, h3⟩ := h.on h1
      by_cases h4 : (k : Int) = n
      · have : m.fuse = 0 := by omega
        simp [h2, this]; omega
      · have : ¬ m.fuse = 0 := by omega
        simp [h2, this]; omega
    · have h2 := h.off (by omega)
      simp [h2]; omega
  refine ⟨⟨fun hk => ?_, fun hk => ?_, ?_, ?_⟩, fun hk => key.1 hk⟩
  · have := key.2 (by omega)
    exact ⟨this.1, by rw [this.2]; omega⟩
  · exact key.1 (by omega)
  · rw [DS.burnt_secs]; exact h.four
  · rw [DS.burnt_waits]; have := h.few; omega
theorem fp_write {n : Int} {k : Nat} {m : DS} (h : FP n k m) (h0 : 0 ≤ n) {i : Int} {bs : List Int} (hi : 0 ≤ i ∧ i < 4) (hb : bs.length = 64) :
    (m.write i bs).1 = (if (k : Int) < n then 0 else 8) ∧ FP n (k + 1) (m.write i bs).2 ∧ ((k : Int) ≥ n → (m.write i bs).2.down = true) := by
  obtain ⟨hbn, hdn⟩ := fp_burnt h h0
  have e : m.write i bs = if m.goes then (0, m.burnt.put i.toNat bs) else (8, m.burnt) := by
    unfold DS.write
    rw [if_neg (by rw [h.four]; omega), if_neg (by omega)]
  rw [e, fp_goes h]
  by_cases hk : (k : Int) < n
  · simp only [hk, decide_true, if_true]
    refine ⟨trivial, ⟨hbn.on, hbn.off, hbn.four, ?_⟩, fun hh => hdn hh⟩
    have := h.few
    simp [DS.put, DS.burnt_waits]; omega
  · simp only [hk, decide_false, Bool.false_eq_true, if_false]
    exact ⟨trivial, hbn, hdn⟩
theorem fp_flush {n : Int} {k : Nat} {m : DS} (h : FP n k m) (h0 : 0 ≤ n) :
    m.flush.1 = (if (k : Int) < n then 0 else 8) ∧ FP n (k + 1) m.flush.2 ∧ ((k : Int) ≥ n → m.flush.2.down = true) := by
  obtain ⟨hbn, hdn⟩ := fp_burnt h h0
  unfold DS.flush
  rw [fp_goes h]
  by_cases hk : (k : Int) < n
  · simp only [hk, decide_true, if_true]
    refine ⟨trivial, ⟨hbn.on, hbn.off, ?_, by simp [DS.lay]⟩, fun hh => hdn hh⟩
    show (layTo _ _ _ _).length = 4
    rw [layTo_len]; exact hbn.four
  · simp only [hk, decide_false, Bool.false_eq_true, if_false]
    exact ⟨trivial, hbn, hdn⟩
theorem fp_start {n : Int} (h0 : 0 ≤ n) : FP n 0 ((DS.new 4).setFuse n) := by
  unfold DS.setFuse DS.new
  refine ⟨fun _ => ⟨rfl, ?_⟩, fun h => by omega, rfl, by simp⟩
  simp; omega

structure FInv (w : World) (n : Int) (g k : Nat) (m : DS) (wr : World) : Prop where
  own : DiskOwn wr w.heap.size g m
  bel : Below w.heap.size w wr
  fp : FP n k m
theorem FInv.alloc {w wr : World} {n : Int} {g k : Nat} {m : DS} (h : FInv w n g k m wr) (o : Obj) : FInv w n g k m (wr.alloc o) :=
  ⟨h.own.below ((Below.refl _ _).alloc (Nat.le_refl _) _), h.bel.alloc h.bel.size _, h.fp⟩
theorem FInv.below {w wr w' : World} {n : Int} {g k : Nat} {m : DS} (h : FInv w n g k m wr) (hb : Below wr.heap.size wr w') : FInv w n g k m w' :=
  ⟨h.own.below hb, h.bel.trans (hb.mono h.bel.size), h.fp⟩

theorem FInv.drew {w wr : World} {n : Int} {g k : Nat} {m : DS} (h : FInv w n g k m wr) : FInv w n g k m wr.drew := h.below (Below.refl _ _).drew
theorem f_write {w wr : World} {n : Int} {g k : Nat} {m : DS} (h : FInv w n g k m wr) (h0 : 0 ≤ n) (hk : k ≤ 1000000) (at_ i : Int) (hat : i = bits .and .i64 at_ 3) (A : Option Addr) (c : Nat) (by_ : Int) (hs : Sl wr wr.heap.size 1 A 64 ((fillL by_ 64).map (.int .u8))) (r : Int) (hr : (if (k : Int) < n then 0 else 8) = r) :
    Calls Try.prog 25 #[.pointer (some ⟨g, 0, none⟩), .int .i64 i, .slice A 64 c] wr fun e w' => ∃ m', e = .returned (.int .i64 r) ∧ FInv w n g (k + 1) m' w' ∧ ((k : Int) ≥ n → m'.down = true) ∧ TKept wr w' := by
  have hf := h.fp.few
  rw [and3] at hat
  subst hat
  obtain ⟨h1, h2, h3⟩ := fp_write h.fp h0 (i := at_ % 4) (bs := fillL by_ 64) (by omega) (fillL_len _ _)
  refine (own_write h.own h.bel.size (at_ % 4) A 64 c (fillL by_ 64) (fillL_len _ _) hs (by omega)).mono ?_
  rintro e w' ⟨rfl, hd, hb, ht⟩
  exact ⟨_, by rw [h1, hr], ⟨hd, h.bel.trans hb, h2⟩, h3, ht⟩
theorem f_flush {w wr : World} {n : Int} {g k : Nat} {m : DS} (h : FInv w n g k m wr) (h0 : 0 ≤ n) (hk : k ≤ 1000000) (r : Int) (hr : (if (k : Int) < n then 0 else 8) = r) :
    Calls Try.prog 24 #[.pointer (some ⟨g, 0, none⟩)] wr fun e w' => ∃ m', e = .returned (.int .i64 r) ∧ FInv w n g (k + 1) m' w' ∧ ((k : Int) ≥ n → m'.down = true) ∧ TKept wr w' := by
  have hf := h.fp.few
  obtain ⟨h1, h2, h3⟩ := fp_flush h.fp h0
  refine (own_flush h.own h.bel.size (by omega)).mono ?_
  rintro e w' ⟨rfl, hd, hb, ht⟩
  exact ⟨_, by rw [h1, hr], ⟨hd, h.bel.trans hb, h2⟩, h3, ht⟩

set_option maxRecDepth 100000 in
set_option maxHeartbeats 4000000 in
theorem walk (w : World) (n : Int) (wn : (Lit.int .u8 n).wf = true) (A : Option Addr) (c : Nat) (l : List ActD) (hm : l.length ≤ maxLen) (hs : Sl w w.heap.size 5 A l.length (actsCells l)) (hok : ∀ a ∈ l, a.Ok) :
    Calls Try.prog 6 #[.int .u8 n, .slice A l.length c] w fun e w' => e = .returned (.bool true) ∧ Below w.heap.size w w' := by
  obtain ⟨n0, n1⟩ := u8_of wn
  have HS := Lib.hid hs
  have HOK := Lib.hid hok
  clear wn hs hok
  unfold maxLen at hm
  by_cases hlen : 100 < l.length
  · have b1 : (100 : Int) < (l.length : Int) := by omega
    go_enter Try.func6, Try.ntmps6
    go_wp2_with (fail)
    refine (wakes _).mono ?_; rintro e w1 ⟨rfl, hb1⟩; have HB1 := Lib.hid hb1; clear hb1
    go_wp2_with (fail)
    go_ret
    exact ⟨rfl, HB1.out⟩
  · have hn2 : l.length ≤ 100 := by omega
    have b1 : ¬ (100 : Int) < (l.length : Int) := by omega
    go_enter Try.func6, Try.ntmps6
    go_wp2_with (fail)
    refine (wakes _).mono ?_; rintro e w1 ⟨rfl, hb1⟩; have HB1 := Lib.hid hb1; clear hb1
    go_wp2_with (fail)
    refine (own_new 4 w1 w.heap.size HB1.out.size).mono ?_; rintro e w2 ⟨g, rfl, hd, hb⟩
    have HD2 := Lib.hid hd; have HB2 := Lib.hid (HB1.out.trans (hb.mono HB1.out.size)); clear hd hb
    go_wp2_with (fail)
    refine (own_fuse HD2.out HB2.out.size n (by omega)).mono ?_; rintro e w3 ⟨rfl, hd, hb, _⟩
    have HI := Lib.hid (FInv.mk hd (HB2.out.trans hb) (fp_start n0)); clear hd hb
    go_wp2_with (fail)
    go_loopw [21] (fun i wr => ∃ (k : Nat) (m : DS), k ≤ l.length ∧ i = .int .i64 k ∧ FInv w n g k m wr) (fun i _ => l.length - (intOf i).toNat)
    case atStart => exact ⟨0, _, by omega, rfl, HI.out⟩
    case round =>
      obtain ⟨k, m, hk, rfl, hi⟩ := hrel
      have HI := Lib.hid hi
      clear hi
      by_cases hlt : k < l.length
      · obtain ⟨b, off, rfl, a0, a1, a2, a3, a4⟩ := act_at HS.out HI.out.bel hlt
        have HO := Lib.hid (HOK.out _ (List.getElem_mem hlt))
        generalize hact : l[k] = a at *
        obtain ⟨kind, at_, by_, long, keep⟩ := a
        simp only at a0 a1 a2 a3 a4
        clear hact
        have HI2 := Lib.hid (fun o => (HI.out.alloc o).drew)
        have HROW := Lib.hid ((Row.new wr 42 #[.int .i64 kind, .int .i64 at_, .int .u8 by_, .bool long, .int .u64 keep]).drew)
        have k6 : k ≤ 1000000 := by omega
        have HI3 := Lib.hid (fun o => HI.out.alloc o)
        by_cases hkn : (k : Int) < n
        · have HR := Lib.hid (show (if (k : Int) < n then (0 : Int) else 8) = 0 from if_pos hkn)
          by_cases hkind : kind = 1
          · have bk : (kind == 1) = true := by simpa using hkind
            clear hkind
            go_wp2_with (fail)
            refine (f_flush (HI3.out _) n0 k6 0 HR.out).mono ?_; rintro e w5 ⟨m5, rfl, hi, hdn, ht⟩
            have HI5 := Lib.hid hi
            clear hi ht
            go_wp2_with (fail)
            go_roundw
            case rel => exact ⟨k + 1, m5, by omega, by go_num, HI5.out⟩
            case measure => simp [intOf]; omega
          · have bk : (kind == 1) = false := by simpa using hkind
            clear hkind
            go_wp2_with (fail)
            go_region_held3 (fun w' => w'.cell? ⟨wr.heap.size, 1, none⟩ = some (.int .i64 at_) ∧ w'.cell? ⟨wr.heap.size, 2, none⟩ = some (.int .u8 by_)) (first | exact ⟨q1, q2⟩ | go_keep) (first
              | (go_at_call 26; refine (fill_short by_ _ HO.out.by0 HO.out.by1).mono ?_; rintro e w4 ⟨gb, cap, rfl, hs, hb⟩; have q1 : w4.cell? ⟨wr.heap.size, 1, none⟩ = some (.int .i64 at_) := cell_below hb (by go_simp); have q2 : w4.cell? ⟨wr.heap.size, 2, none⟩ = some (.int .u8 by_) := cell_below hb (by go_simp); have HI4 := Lib.hid ((HI2.out _).below hb); have HS4 := Lib.hid hs; have HW4 := Lib.hid (HROW.out.below hb HROW.out.lt); clear hs hb)
              | (go_at_call 25; refine (f_write HI4.out n0 k6 at_ _ rfl _ _ by_ HS4.out 0 HR.out).mono ?_; rintro e w5 ⟨m5, rfl, hi, hdn, ht⟩; have HI5 := Lib.hid hi; have hw5 := ht _ _ _ HW4.out (by decide) (by decide) (by decide); have q1 : w5.cell? ⟨wr.heap.size, 1, none⟩ = some (.int .i64 at_) := hw5.cell 1; have q2 : w5.cell? ⟨wr.heap.size, 2, none⟩ = some (.int .u8 by_) := hw5.cell 2; clear hi ht hw5))
            clear q1 q2
            go_wp2_with (fail)
            go_roundw
            case rel => exact ⟨k + 1, m5, by omega, by go_num, HI5.out⟩
            case measure => simp [intOf]; omega
        · have HR := Lib.hid (show (if (k : Int) < n then (0 : Int) else 8) = 8 from if_neg hkn)
          by_cases hkind : kind = 1
          · have bk : (kind == 1) = true := by simpa using hkind
            clear hkind
            go_wp2_with (fail)
            refine (f_flush (HI3.out _) n0 k6 8 HR.out).mono ?_; rintro e w5 ⟨m5, rfl, hi, hdn, ht⟩
            have HI5 := Lib.hid hi
            clear hi ht
            have hd5 := hdn (by omega)
            have HDN := Lib.hid (own_down HI5.out.own)
            rw [hd5] at HDN
            clear hd5 hdn
            go_wp2_with (fail)
            refine HDN.out.mono ?_; rintro e w' ⟨rfl, rfl⟩
            go_wp2_with (fail)
            go_roundw
            case rel => exact ⟨k + 1, m5, by omega, by go_num, HI5.out⟩
            case measure => simp [intOf]; omega
          · have bk : (kind == 1) = false := by simpa using hkind
            clear hkind
            go_wp2_with (fail)
            go_region_held3 (fun w' => w'.cell? ⟨wr.heap.size, 1, none⟩ = some (.int .i64 at_) ∧ w'.cell? ⟨wr.heap.size, 2, none⟩ = some (.int .u8 by_)) (first | exact ⟨q1, q2⟩ | go_keep) (first
              | (go_at_call 26; refine (fill_short by_ _ HO.out.by0 HO.out.by1).mono ?_; rintro e w4 ⟨gb, cap, rfl, hs, hb⟩; have q1 : w4.cell? ⟨wr.heap.size, 1, none⟩ = some (.int .i64 at_) := cell_below hb (by go_simp); have q2 : w4.cell? ⟨wr.heap.size, 2, none⟩ = some (.int .u8 by_) := cell_below hb (by go_simp); have HI4 := Lib.hid ((HI2.out _).below hb); have HS4 := Lib.hid hs; have HW4 := Lib.hid (HROW.out.below hb HROW.out.lt); clear hs hb)
              | (go_at_call 25; refine (f_write HI4.out n0 k6 at_ _ rfl _ _ by_ HS4.out 8 HR.out).mono ?_; rintro e w5 ⟨m5, rfl, hi, hdn, ht⟩; have HI5 := Lib.hid hi; have hw5 := ht _ _ _ HW4.out (by decide) (by decide) (by decide); have q1 : w5.cell? ⟨wr.heap.size, 1, none⟩ = some (.int .i64 at_) := hw5.cell 1; have q2 : w5.cell? ⟨wr.heap.size, 2, none⟩ = some (.int .u8 by_) := hw5.cell 2; clear hi ht hw5))
            clear q1 q2
            have hd5 := hdn (by omega)
            have HDN := Lib.hid (own_down HI5.out.own)
            rw [hd5] at HDN
            clear hd5 hdn
            go_wp2_with (fail)
            refine HDN.out.mono ?_; rintro e w' ⟨rfl, rfl⟩
            go_wp2_with (fail)
            go_roundw
            case rel => exact ⟨k + 1, m5, by omega, by go_num, HI5.out⟩
            case measure => simp [intOf]; omega
      · have HLW := Lib.hid HI.out.fp.few
        have k6 : m.waits.length ≤ 1000000 := by have := HI.out.fp.few; omega
        go_wp2_with (fail)
        refine (own_power HI.out.own HI.out.bel.size 0 (by omega) (by omega) k6).mono ?_; rintro e w4 ⟨rfl, hd, hb, _⟩
        have HD4 := Lib.hid hd; have HB4 := Lib.hid (HI.out.bel.trans hb)
        have HDN := Lib.hid (own_down hd)
        have e1 : (m.power 0).down = false := rfl
        rw [e1] at HDN
        have hw4 : (m.power 0).waits.length = 0 := rfl
        have hg4 : (m.power 0).goes = true := rfl
        have hs4 : (m.power 0).secs.length = 4 := by
          show (layTo _ _ _ _).length = 4
          rw [layTo_len]; exact HI.out.fp.four
        have hb4 : (m.power 0).burnt.goes = true := rfl
        generalize m.power 0 = m4 at *
        have hw5 : m4.write 0 (fillL 1 64) = (0, m4.burnt.put 0 (fillL 1 64)) := by
          unfold DS.write
          rw [if_neg (by rw [hs4]; omega), if_neg (by simp [fillL_len]), hg4]
          rfl
        have W5 := Lib.hid hw5
        clear hd hb e1 hg4 hs4 hw5
        go_wp2_with (fail)
        refine HDN.out.mono ?_; rintro e w' ⟨rfl, rfl⟩
        go_wp2_with (fail)
        refine (fill_short 1 _ (by omega) (by omega)).mono ?_; rintro e w5 ⟨gb, cap, rfl, hs, hb⟩
        have HD5 := Lib.hid (HD4.out.below hb); have HB5 := Lib.hid (HB4.out.trans (hb.mono HB4.out.size)); have HS5 := Lib.hid hs; clear hs hb
        go_wp2_with (fail)
        refine (own_write HD5.out HB5.out.size 0 _ 64 _ (fillL 1 64) (fillL_len _ _) HS5.out (by omega)).mono ?_
        rw [W5.out]
        rintro e w6 ⟨rfl, hd, hb, _⟩
        have HD6 := Lib.hid hd; have HB6 := Lib.hid (HB5.out.trans hb)
        have hfl : (m4.burnt.put 0 (fillL 1 64)).flush.1 = 0 := by
          unfold DS.flush
          rw [show (m4.burnt.put 0 (fillL 1 64)).goes = true from hb4]
          rfl
        have HFL := Lib.hid hfl
        clear hd hb hfl
        go_wp2_with (fail)
        refine (own_flush HD6.out HB6.out.size (by simp [DS.put, DS.burnt_waits, hw4])).mono ?_
        rw [HFL.out]
        rintro e w7 ⟨rfl, hd, hb, _⟩
        have HB7 := Lib.hid (HB6.out.trans hb); clear hd hb
        go_wp2_with (fail)
        go_ret
        exact ⟨rfl, HB7.out⟩

/-! ### the row: written by program -/
set_option maxRecDepth 100000 in
theorem lifted (os : Os) (started : os.Started) (H : Type) (enc : TypeId × Value → H) :
    ReturnsInHanded {} Try.checked os 6 .any (Rows.diskFuseSpec.pre6 enc Try.prog Try.f6 Rows.diskFuseRow.domain false) (Rows.diskFuseSpec.post enc Try.prog Try.f6 false true false false) := by
  refine returnsInHanded_of_change (C := Try.checked) Go.Proofs.Ytjncpincmkpdpaa.lift.own started (by kernel_rfl) Try.func6
    (ChangeSpec.witness6 (enc := enc) (C := Try.checked) false ⟨#[], #[.int .u8 0, .slice none 0 0], []⟩ 8 (by kernel_rfl) (by kernel_rfl) (by kernel_rfl) (by kernel_rfl)) ?_
  intro W base args ds gs before hval0 hW hcnd _
  have hval : ∀ (j : Nat) t v, Try.f6.params[j]? = some t → args[j]? = some v → Value.okWide Try.prog W .any base t v := hval0
  have hW' := hW
  obtain ⟨p, q, hA0, hV, rfl, hfz, hnd⟩ := hW
  have hA : DataW.TrodAll enc Try.prog W 0 (fun _ => true) true Try.f6.params.toList args.toList ds p := hA0
  have hAk := hA
  rw [Try.params6] at hA hval
  obtain ⟨v0, vs0, d0, ds0, p0, q0, hargs, rfl, rfl, h0, r0⟩ := trodAll_cons hA
  obtain ⟨v1, vs1, d1, ds1, p1, q1, rfl, rfl, rfl, h1, r1⟩ := trodAll_cons r0
  obtain ⟨rfl, rfl, rfl⟩ := trodAll_nil r1
  obtain rfl : args = #[v0, v1] := by cases args; simp_all
  obtain ⟨rfl, rfl⟩ := trodVars_none hV
  have hlt := hW'.lt
  obtain ⟨a0, rfl, _, _, w0⟩ := open_int Try.underlying5 (hval 0 5 v0 rfl rfl) h0
  obtain ⟨A1, c1, l1, rfl, hm1, hs1, ho1⟩ := arg_acts (hval 1 35 v1 rfl rfl) h1
  refine (walk W a0 w0 A1 c1 l1 hm1 hs1 ho1).mono fun e W' ⟨he, hg⟩ => ?_
  subst he
  exact ⟨_, rfl, Go.Proofs.Ytjncpincmkpdpaa.base.postBelow (pv := []) hW' (fun _ _ _ => (trodAll_cons_mk (shut_bool Try.underlying4 _) trodAll_mk0)) (fun sp hsp => Go.Proofs.Ytjncpincmkpdpaa.lift.args_stay Go.Proofs.Ytjncpincmkpdpaa.lift.laidOut hg _ _ _ _ (by kernel_rfl) hAk (fun x hx => hlt x (by simpa using hx)) (fun x hx => hsp x (by simpa using hx))) (fun _ _ => rfl) (by simp)
    hg (ok_one (by kernel_rfl) rfl (okWide_bool_mk Try.underlying4 _))⟩

theorem over : Rows.diskFuseRow.holds Try.pinned (OpenSpec.ofChange Rows.diskFuseSpec) :=
  OpenClaim.holds_of_wide 6 Try.f6 rfl rfl rfl rfl rfl rfl rfl ⟨rfl, rfl, rfl, rfl, rfl⟩ rfl rfl rfl rfl rfl (by kernel_rfl) Try.func6 (by kernel_rfl)
    (of_decide_eq_true (by kernel_rfl)) (by unfold Func.isWrapper; first | (rw [if_pos (by decide +kernel)]; kernel_rfl) | (rw [if_neg (by decide +kernel)]; exact ⟨rfl, rfl⟩))
    (fun os started H enc _ => lifted os started H enc)

/-- THE STATEMENT -/
theorem proved : Rows.DiskFuseSaid :=
  over
#print axioms proved
end Go.Proofs.Ytjncpincmkpdpaa.diskFuse
