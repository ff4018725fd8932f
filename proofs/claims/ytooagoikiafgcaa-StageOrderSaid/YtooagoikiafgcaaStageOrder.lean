/-
  PROVED HERE: for every uint8 size and all bytes order, longeronlaw11.StageOrder(size, order) returns true and leaves memory as it was.
  CONDITIONS: none.
-/
import Derived.Test.YtooagoikiafgcaaStageWakes
import Derived.Test.YtooagoikiafgcaaArgBytes
namespace Go.Proofs.Ytooagoikiafgcaa.stageOrder
set_option linter.unusedVariables false
open Go.RowKit Go.ChangeShapes Go.WideShapes Go.ChangeAt Go.Deep Go.Joins Go.Proofs.Ytooagoikiafgcaa.base Go.Proofs.Ytooagoikiafgcaa.obj Go.Proofs.Ytooagoikiafgcaa.mem Go.Proofs.Ytooagoikiafgcaa.crc Go.Proofs.Ytooagoikiafgcaa.disk Go.Proofs.Ytooagoikiafgcaa.record Go.Proofs.Ytooagoikiafgcaa.bits Go.Proofs.Ytooagoikiafgcaa.sep Go.Proofs.Ytooagoikiafgcaa.plan Go.Proofs.Ytooagoikiafgcaa.bytes Go.Proofs.Ytooagoikiafgcaa.stage Go.Proofs.Ytooagoikiafgcaa.same

def ten : List Int := [0, 1, 2, 3, 4, 5, 6, 7, 8, 9]
/-- what holds of the document's slot behind the first q puts -/
structure OI (n many : Nat) (L : List Int) (q : Nat) (R : RS) : Prop where
  has : R.has = true
  session : R.st.session = 7
  size : R.st.size = n
  len : R.blocks.length = many
  each : ∀ j, j < many → R.blocks.getD j [] = [] ∨ R.blocks.getD j [] = fillL j 16
  done : ∀ i (hi : i < L.length), i < q → (L[i] % 10).toNat < many → R.blocks.getD (L[i] % 10).toNat [] ≠ []
theorem fillL_ne (y : Int) : fillL y 16 ≠ [] := by
  intro h
  have := congrArg List.length h
  rw [fillL_length] at this
  exact absurd this (by decide)
theorem OI.skip {n many : Nat} {L : List Int} {q : Nat} {R : RS} (h : OI n many L q R) (hq : q < L.length) (hk : ¬ (L[q] % 10).toNat < many) : OI n many L (q + 1) R :=
  ⟨h.has, h.session, h.size, h.len, h.each, fun i hi hlt hm => by
    rcases Nat.lt_or_ge i q with h1 | h1
    · exact h.done i hi h1 hm
    · have : i = q := by omega
      subst this
      exact absurd hm hk⟩
theorem OI.put {n many : Nat} {L : List Int} {q : Nat} {R : RS} (h : OI n many L q R) (hq : q < L.length) (k : Nat) (hk : (L[q] % 10).toNat = k) (hkm : k < many) :
    (putR R 7 k (fillL k 16)).1 = 0 ∧ OI n many L (q + 1) (putR R 7 k (fillL k 16)).2 := by
  have hw : wrongR R 7 k (fillL k 16).length = 0 := by
    unfold wrongR
    rw [h.has, h.session, h.len, fillL_length, if_neg (by decide), if_neg (fun h => h rfl), if_neg (by omega), if_neg (fun h => h rfl)]
  unfold putR
  rw [hw, if_neg (fun h => h rfl), Int.toNat_natCast]
  by_cases hb : R.blocks.getD k [] = []
  · rw [if_neg (not_not_intro hb)]
    refine ⟨rfl, h.has, h.session, h.size, by rw [List.length_set]; exact h.len, fun j hj => ?_, fun i hi hlt hm => ?_⟩
    · show (R.blocks.set k (fillL k 16)).getD j [] = [] ∨ (R.blocks.set k (fillL k 16)).getD j [] = _
      rw [getD_set]
      by_cases e : j = k
      · subst e
        rw [if_pos ⟨rfl, by rw [h.len]; exact hj⟩]
        exact .inr rfl
      · rw [if_neg fun x => e x.1]
        exact h.each j hj
    · show (R.blocks.set k (fillL k 16)).getD _ [] ≠ []
      rw [getD_set]
      by_cases e : (L[i] % 10).toNat = k
      · rw [if_pos ⟨e, by rw [h.len]; exact hkm⟩]
        exact fillL_ne _
      · rw [if_neg fun x => e x.1]
        refine h.done i hi ?_ hm
        rcases Nat.lt_or_ge i q with h1 | h1
        · exact h1
        · have : i = q := by omega
          subst this
          exact absurd hk e
  · rw [if_pos hb]
    refine ⟨rfl, h.has, h.session, h.size, h.len, h.each, fun i hi hlt hm => ?_⟩
    rcases Nat.lt_or_ge i q with h1 | h1
    · exact h.done i hi h1 hm
    · have : i = q := by omega
      subst this
      rw [hk]
      exact hb
def wantL (k : Nat) : List Int := ((List.range k).map fun j : Nat => fillL j 16).flatten
theorem wantL_succ (k : Nat) : wantL (k + 1) = wantL k ++ fillL k 16 := by simp [wantL, List.range_succ]
theorem wantL_length (k : Nat) : (wantL k).length = 16 * k := by
  induction k with
  | zero => rfl
  | succ k ih => rw [wantL_succ, List.length_append, ih, fillL_length]; omega
theorem OI.bytes {n many : Nat} {L : List Int} {R : RS} (h : OI n many (L ++ ten) (L ++ ten).length R) (h10 : many ≤ 10) : bytesR R = ((wantL many).take n, 0) := by
  have hall : ∀ j, j < many → R.blocks.getD j [] = fillL j 16 := by
    intro j hj
    rcases h.each j hj with e | e
    · have hi : L.length + j < (L ++ ten).length := by simp [ten]; omega
      have hv : (L ++ ten)[L.length + j] = (j : Int) := by
        rw [List.getElem_append_right (by omega)]
        have hj10 : j < 10 := by omega
        match j, hj10 with
        | 0, _ => simp [ten]
        | 1, _ => simp [ten]
        | 2, _ => simp [ten]
        | 3, _ => simp [ten]
        | 4, _ => simp [ten]
        | 5, _ => simp [ten]
        | 6, _ => simp [ten]
        | 7, _ => simp [ten]
        | 8, _ => simp [ten]
        | 9, _ => simp [ten]
      have hd := h.done (L.length + j) hi hi
      rw [hv, show ((j : Int) % 10).toNat = j by omega] at hd
      exact absurd e (hd hj)
    · exact e
  have hb : R.blocks = (List.range many).map fun j : Nat => fillL j 16 := by
    apply List.ext_getElem
    · simp [h.len]
    · intro j h1 h2
      have := hall j (by rw [← h.len]; exact h1)
      rw [List.getD_eq_getElem?_getD, List.getElem?_eq_getElem h1] at this
      rw [List.getElem_map, List.getElem_range]
      exact this
  unfold bytesR
  rw [h.has, if_neg (by decide), hb, if_neg, h.size, Int.toNat_natCast]
  · rfl
  · rintro ⟨b, hb2, rfl⟩
    obtain ⟨j, _, e⟩ := List.mem_map.1 hb2
    exact fillL_ne _ e
theorem begin_oi {n many : Nat} {L : List Int} (h0 : 1 ≤ n) (h1 : n ≤ 160) (hm : many = (n + 15) / 16) : beginR RS.none 7 n = (0, ⟨true, ⟨7, n, 0⟩, List.replicate many []⟩) ∧ OI n many L 0 ⟨true, ⟨7, n, 0⟩, List.replicate many []⟩ := by
  have hb : blocksN (n : Int) = many := by unfold blocksN; omega
  have hr : (Stg.mk 7 n 0).right = true := by
    unfold Stg.right
    simp only [Bool.and_eq_true, decide_eq_true_eq]
    refine ⟨⟨⟨by decide, by decide⟩, by omega, by omega⟩, by decide, ?_⟩
    have : (0 : Int) < 2 ^ blocksN (n : Int) := Int.pow_pos (by decide)
    omega
  refine ⟨by unfold beginR; rw [if_pos hr, hb], rfl, rfl, rfl, by simp, fun j hj => .inl ?_, fun i _ h => absurd h (by omega)⟩
  simp [List.getD_eq_getElem?_getD, hj]

set_option maxRecDepth 100000 in
set_option maxHeartbeats 8000000 in
theorem walk (w : World) (size : Int) (ws : (Lit.int .u8 size).wf = true) (A : Option Addr) (c : Nat) (l : List Int) (hm : l.length ≤ maxLen) (hc : l.length ≤ c) (hA : A = none → c = 0) (hs : Sl w w.heap.size 1 A l.length (l.map (.int .u8))) (hb : Byt l) :
    Calls Try.prog 9 #[.int .u8 size, .slice A l.length c] w fun e w' => e = .returned (.bool true) ∧ Below w.heap.size w w' := by
  obtain ⟨z0, z1⟩ : 0 ≤ size ∧ size ≤ 255 := by
    have h1 : IntKind.u8.min = 0 := rfl
    have h2 : IntKind.u8.max = 255 := rfl
    simp only [Lit.wf, Bool.and_eq_true, decide_eq_true_eq] at ws
    omega
  have HS := Lib.hid hs; have HY := Lib.hid hb; have HA := Lib.hid hA
  obtain ⟨k, hk⟩ : ∃ k, k = l.length := ⟨_, rfl⟩
  rw [← hk] at HS hc ⊢
  have HK := Lib.hid hk
  clear ws hm hs hb hA hk
  by_cases hbig : k > 40
  · have hbig' : (k : Int) > 40 := by omega
    clear hbig
    go_enter Try.func9, Try.ntmps9
    go_wp2_with (fail)
    refine (stage.wakes _).mono ?_
    rintro e w1 ⟨rfl, hb⟩
    have HB := Lib.hid hb
    clear hb
    go_wp2_with (fail)
    go_ret
    exact ⟨rfl, HB.out⟩
  · have hbig' : ¬ (k : Int) > 40 := by omega
    have hk40 : k ≤ 40 := by omega
    clear hbig
    obtain ⟨n, hn⟩ : ∃ n : Nat, (n : Int) = 1 + size % 160 := ⟨(1 + size % 160).toNat, by omega⟩
    have hn0 : 1 ≤ n := by omega
    have hn1 : n ≤ 160 := by omega
    obtain ⟨many, hmany⟩ : ∃ many, many = (n + 15) / 16 := ⟨_, rfl⟩
    have hmi : ((n : Int) + 15) / 16 = (many : Int) := by omega
    have hm10 : many ≤ 10 := by omega
    have hmn : n ≤ 16 * many := by omega
    have HN := Lib.hid hn; have HMI := Lib.hid hmi
    obtain ⟨b1, b2⟩ := begin_oi (L := l ++ ten) hn0 hn1 hmany
    have HB1 := Lib.hid b1; have HB2 := Lib.hid b2
    clear hn hmi hmany b1 b2
    go_enter Try.func9, Try.ntmps9
    go_wp2_with (fail)
    refine (stage.wakes _).mono ?_
    rintro e w1 ⟨rfl, hb⟩
    have H1 := Lib.hid ((St.nil w).below hb)
    clear hb
    go_wp2_with (fail)
    refine (dsk_new H1.out 40).mono ?_
    rintro e w2 ⟨d, rfl, h2⟩
    have H2 := Lib.hid (show St w w2 [dsk d (DS.new 40)] from h2)
    clear h2
    rw [← HN.out]
    go_wp2_with (fail)
    refine (live_open H2.out (by omega) (by omega) (p := 3) (k := 0) (by decide)).mono ?_
    rintro e w3 ⟨g, rfl, h3⟩
    have H3 := Lib.hid h3
    clear h3
    go_wp2_with (fail)
    refine (live_begin H3.out 7 n).mono ?_
    rintro e w4 ⟨he, m4, s4, h4, _⟩
    rw [HB1.out] at he h4
    subst he
    have H4 := Lib.hid h4
    clear h4
    go_upto_region 10 with fail
    rw [HMI.out]
    have HO0 := Lib.hid (show (w4.alloc (.cells #[] 5)).ownsRow w4.heap.size 5 1 (.slice (some ⟨w4.heap.size, 0, none⟩) 0 0) 0 [] from (Row.new w4 5 #[]).own (size := 1) (n := 0) (cap := 0) (Nat.le_refl _) (Nat.le_refl _) (Nat.zero_le _) rfl)
    have HBA := Lib.hid ((Below.refl w4.heap.size w4).alloc (Nat.le_refl _) (.cells #[] 5))
    have HSL := Lib.hid (((HS.out.below H4.out.st.bel).more H4.out.st.bel.size).below (HBA.out))
    have HTEN := Lib.hid (fun (W : World) => show Sl (W.alloc (.cells (ten.map (Value.int .u8)).toArray 5)) (W.heap.size + 1) 1 (some ⟨W.heap.size, 0, none⟩) 10 (ten.map (.int .u8)) from sl_new (n := 10) rfl)
    unfold ten at HTEN
    go_wp2_with (first
      | (refine app_sl slB rfl (.tmp 41) (.tmp 42) rfl HO0.out rfl rfl HA.out HSL.out (u8s_one l) (by omega) (by unfold maxLen; omega) (by simp) ?_; intro v5 w5 ho5 hg5; have HB5 := Lib.hid (below_own HBA.out HO0.out hg5 (by simp)); have HO5 := Lib.hid ho5; clear ho5 hg5)
      | (refine app_sl slB rfl (.tmp 43) (.tmp 44) rfl (HO5.out.alloc _) rfl rfl (fun h => by cases h) (HTEN.out _) (u8s_one [0, 1, 2, 3, 4, 5, 6, 7, 8, 9]) (by omega) (by unfold maxLen; omega) (by have := HB5.out.size; simp; omega) ?_; intro v6 w6 ho6 hg6; have HB6 := Lib.hid (below_own (HB5.out.alloc (by have := HB5.out.size; omega) (.cells #[.int .u8 0, .int .u8 1, .int .u8 2, .int .u8 3, .int .u8 4, .int .u8 5, .int .u8 6, .int .u8 7, .int .u8 8, .int .u8 9] 5)) (HO5.out.alloc _) hg6 (by have := HB5.out.size; simp; omega)); have HO6 := Lib.hid ho6; clear ho6 hg6; obtain ⟨A6, c6, hv6, hc6, _⟩ := own_form HO6.out; subst hv6))
    obtain ⟨N, hN⟩ : ∃ N, N = 0 + k + 10 := ⟨_, rfl⟩
    rw [← hN] at HO6 hc6
    rw [show k + 10 = N by omega, show (k : Int) + 10 = (N : Int) by omega]
    have hNL : N = (l ++ ten).length := by rw [hN, List.length_append, ← HK.out]; simp [ten]
    have HNL := Lib.hid hNL
    have hN50 : N ≤ 50 := by omega
    have hN10 : 10 ≤ N := by omega
    have HLB := Lib.hid (show Byt (l ++ ten) from fun z hz => by
      rcases List.mem_append.1 hz with h | h
      · exact HY.out z h
      · simp [ten] at h
        omega)
    have H6 := Lib.hid (show Live w w6 g d 3 0 m4 s4 ⟨true, ⟨7, n, 0⟩, List.replicate many []⟩ [sep.own 5 1 (.slice A6 N c6) N ((l ++ ten).map (.int .u8))] from ⟨by
      have h := H4.out.st.addOwn HB6.out HO6.out
      have e : ([] : List Value) ++ l.map (.int .u8) ++ [Value.int .u8 0, .int .u8 1, .int .u8 2, .int .u8 3, .int .u8 4, .int .u8 5, .int .u8 6, .int .u8 7, .int .u8 8, .int .u8 9] = (l ++ ten).map (.int .u8) := by simp [ten]
      have h2 : St w w6 (sep.own 5 1 (.slice A6 N c6) N ((l ++ ten).map (.int .u8)) :: slt g d 3 0 s4 :: dsk d m4 :: []) := by rw [← e]; exact h
      exact (h2.pick 2 rfl).pick 2 rfl, H4.out.si, H4.out.up⟩)
    clear hN hNL
    go_loopw [47] (fun i wr => ∃ (q : Nat) (m : DS) (s : SlS) (R : RS), q ≤ N ∧ i = .int .i64 q ∧ Live w wr g d 3 0 m s R [sep.own 5 1 (.slice A6 N c6) N ((l ++ ten).map (.int .u8))] ∧ OI n many (l ++ ten) q R) (fun i _ => N - (intOf i).toNat)
    case atStart => exact ⟨0, _, _, _, by omega, rfl, H6.out, HB2.out⟩
    case round =>
      obtain ⟨q, m, s, R, hq, rfl, hlv, hoi⟩ := hrel
      have HI := Lib.hid hlv; have HOI := Lib.hid hoi
      clear hlv hoi H6 HO6 HB6 HO5 HB5 HSL HBA HO0 HTEN H4 H3 H2 H1 HB2 HB1
      by_cases hlt : q < N
      · have hlt' : (q : Int) < (N : Int) := by omega
        have hq0 : (0 : Int) ≤ (q : Int) := by omega
        have hql : q < (l ++ ten).length := by rw [← HNL.out]; exact hlt
        obtain ⟨b, off, hA6, lb, hcs⟩ := (Sl.of_own (HI.out.st.pick 2 rfl).own).2 (by omega)
        subst hA6
        have cq : wr.cell? ⟨b, off + q, none⟩ = some (.int .u8 (l ++ ten)[q]) := hcs q _ (by rw [List.getElem?_map, List.getElem?_eq_getElem hql]; rfl)
        have hby := HLB.out _ (List.getElem_mem hql)
        have HQ := Lib.hid (show ∀ hh : ¬ ((l ++ ten)[q] % 10).toNat < many, OI n many (l ++ ten) (q + 1) R from fun hh => HOI.out.skip hql hh)
        have HP := Lib.hid (fun (k : Nat) (hk : ((l ++ ten)[q] % 10).toNat = k) (hkm : k < many) => HOI.out.put hql k hk hkm)
        generalize (l ++ ten)[q] = o at cq hby HQ HP
        obtain ⟨o0, o1⟩ := hby
        obtain ⟨k', hk'⟩ : ∃ k' : Nat, (k' : Int) = o % 10 := ⟨(o % 10).toNat, by omega⟩
        have hk10 : k' < 10 := by omega
        have HK' := Lib.hid hk'
        have HKN := Lib.hid (show (o % 10).toNat = k' by omega)
        clear hcs hk'
        by_cases hkm : k' < many
        · have hok : o % 10 < (many : Int) := by rw [← HK'.out]; omega
          obtain ⟨p1, p2⟩ := HP.out k' HKN.out hkm
          have HP1 := Lib.hid p1; have HP2 := Lib.hid p2
          clear p1 p2 HP HQ
          go_wp2_with (fail)
          rw [← HK'.out]
          refine (fill_st HI.out.st k' (by omega) (by omega) false).mono ?_
          rintro e w7 ⟨g7, c7, x7, rfl, hl7, hc7, ht7, hg7, h7⟩
          have H7 := Lib.hid (show Live w w7 g d 3 0 m s R [row g7 5 x7, sep.own 5 1 (.slice (some ⟨b, off, none⟩) N c6) N ((l ++ ten).map (.int .u8))] from ⟨(h7.pick 2 rfl).pick 2 rfl, HI.out.si, HI.out.up⟩)
          have HG7 := Lib.hid (show Gives w (row g7 5 x7) (some ⟨g7, 0, none⟩) 16 (fillL k' 16) from hg7)
          clear h7 hl7 hc7 ht7 hg7
          unfold fillN
          go_wp2_with (fail)
          refine (live_put H7.out HG7.out (fillL_byt _ _) 7 k').mono ?_
          rintro e w8 ⟨he, m8, s8, h8, _⟩
          rw [HP1.out] at he
          subst he
          have H8 := Lib.hid (show Live w w8 g d 3 0 m8 s8 _ [sep.own 5 1 (.slice (some ⟨b, off, none⟩) N c6) N ((l ++ ten).map (.int .u8))] from ⟨(h8.st.pick 2 rfl).drop, h8.si, h8.up⟩)
          clear h8
          go_wp2_with (fail)
          go_roundw
          case rel => exact ⟨q + 1, m8, s8, _, by omega, by go_num, H8.out, HP2.out⟩
          case measure => simp [intOf] <;> omega
        · have hok : ¬ o % 10 < (many : Int) := by rw [← HK'.out]; omega
          have HQ1 := Lib.hid (HQ.out (by rw [HKN.out]; exact hkm))
          clear HP HQ
          go_wp2_with (fail)
          go_roundw
          case rel => exact ⟨q + 1, m, s, R, by omega, by go_num, HI.out, HQ1.out⟩
          case measure => simp [intOf] <;> omega
      · obtain rfl : q = N := by omega
        have HBY := Lib.hid (show bytesR R = ((wantL many).take n, 0) from OI.bytes (by have h := HOI.out; rw [HNL.out] at h; exact h) hm10)
        have H9 := Lib.hid (show Live w wr g d 3 0 m s R [sep.own 5 1 (.slice none 0 0) 0 ((wantL 0).map (.int .u8))] from ⟨by
          have h := (HI.out.st.pick 2 rfl).drop.addOwn (Below.refl _ _) (show wr.ownsRow wr.heap.size 5 1 (.slice none 0 0) 0 ((wantL 0).map (.int .u8)) by rw [show (wantL 0).map (Value.int .u8) = [] from rfl]; exact World.ownsRow_nil _ _ 5 1)
          exact (h.pick 2 rfl).pick 2 rfl, HI.out.si, HI.out.up⟩)
        clear HI HOI
        go_wp2_with (fail)
        go_loopw [12, 68] (fun v i wr => ∃ (q : Nat) (A : Option Addr) (c : Nat), q ≤ many ∧ v = .slice A (16 * q) c ∧ i = .int .i64 q ∧ Live w wr g d 3 0 m s R [sep.own 5 1 (.slice A (16 * q) c) (16 * q) ((wantL q).map (.int .u8))]) (fun _ i _ => many - (intOf i).toNat)
        case atStart => exact ⟨0, none, 0, by omega, rfl, rfl, H9.out⟩
        case round =>
          obtain ⟨q, A, c, hq, rfl, rfl, hlv⟩ := hrel
          have HI := Lib.hid hlv
          clear hlv H9
          obtain ⟨z, hz⟩ : ∃ z, z = 16 * q := ⟨_, rfl⟩
          have HZ := Lib.hid hz
          rw [← hz] at HI ⊢
          clear hz
          by_cases hlt : q < many
          · have hlt' : (q : Int) < (many : Int) := by omega
            have hz160 : z ≤ 160 := by have := HZ.out; omega
            have hq256 : (q : Int) % 256 = (q : Int) := by omega
            have hq0 : (0 : Int) ≤ (q : Int) := by omega
            have hq1 : (q : Int) ≤ 255 := by omega
            go_wp2_with (fail)
            refine (fill_st HI.out.st q hq0 hq1 false).mono ?_
            rintro e w7 ⟨g7, c7, x7, rfl, hl7, hc7, ht7, hg7, h7⟩
            have HSB := Lib.hid (show Sl w7 w7.heap.size 1 (some ⟨g7, 0, none⟩) 16 ((fillL q 16).map (.int .u8)) from hg7.2 _ _ h7)
            have H7 := Lib.hid (h7.pick 3 rfl)
            clear h7 hl7 hc7 ht7 hg7
            unfold fillN
            go_wp2_with (refine app_row slB rfl (.tmp 71) (.tmp 74) rfl H7.out.own rfl rfl HSB.out (u8s_one _) (by omega) (by omega) (by unfold maxLen; omega) (H7.out.bel.size) ?_; intro g2 cap w8 ho hg hor hlt4; have H8 := Lib.hid (H7.out.grown hg ho (fun x hx => by injection hx with hx; rw [← hx]; exact hor)); clear ho hg hor)
            go_roundw
            case rel => exact ⟨q + 1, some ⟨g2, 0, none⟩, cap, by omega, by rw [HZ.out, Nat.mul_succ], by go_num, ⟨by
              have h := H8.out
              rw [← List.map_append, ← wantL_succ, show z + 16 = 16 * (q + 1) by rw [HZ.out, Nat.mul_succ]] at h
              exact (((h.pick 1 rfl).drop.pick 1 rfl).pick 2 rfl).swap, HI.out.si, HI.out.up⟩⟩
            case measure => simp [intOf] <;> omega
          · obtain rfl : q = many := by omega
            go_wp2_with (fail)
            refine (live_bytes HI.out).mono ?_
            rintro e w8 ⟨A8, n8, B8, he, hg8, h8⟩
            rw [HBY.out] at he hg8
            subst he
            have H8 := Lib.hid h8; have HG8 := Lib.hid hg8
            clear h8 hg8
            have HZC := Lib.hid (show z ≤ c by
              obtain ⟨A', c', e, hc, _⟩ := own_form (HI.out.st.pick 2 rfl).own
              injection e with _ _ e
              omega)
            have hnc : n ≤ c := by have := HZC.out; have := HZ.out; omega
            have HN8 := Lib.hid HG8.out.1
            have HWL := Lib.hid (show ((wantL q).take n).length = n by rw [List.length_take, wantL_length]; omega)
            have HSA := Lib.hid (HG8.out.2 _ _ (H8.out.st.pick 2 rfl))
            have HSW := Lib.hid (Sl.of_own (H8.out.st.pick 3 rfl).own)
            have HSW2 := Lib.hid (show Sl w8 w8.heap.size 1 A n (((wantL q).take n).map (.int .u8)) by
              have hs := HSW.out
              refine ⟨by rw [List.length_map, HWL.out, Nat.mul_one], fun h0 => ?_⟩
              obtain ⟨b, o, e, hb, hcc⟩ := hs.2 (by have := HZ.out; omega)
              refine ⟨b, o, e, hb, fun j u hu => hcc j u ?_⟩
              rw [List.map_take, List.getElem?_take] at hu
              split at hu
              · exact hu
              · simp at hu)
            go_wp2_with (fail)
            refine (same_any ((wantL q).take n) ((wantL q).take n) A8 A n8 n _ _ _ HN8.out.symm HWL.out.symm (by have h1 := HN8.out; have h2 := HWL.out; omega) (by omega) HSA.out HSW2.out).mono ?_
            rintro e w9 ⟨rfl, hb⟩
            have H9 := Lib.hid (H8.out.st.below hb).bel
            clear hb
            go_wp2_with (fail)
            go_ret
            exact ⟨by simp, H9.out⟩

/-! ### the row: written by program -/
set_option maxRecDepth 100000 in
theorem lifted (os : Os) (started : os.Started) (H : Type) (enc : TypeId × Value → H) :
    ReturnsInHanded {} Try.checked os 9 .any (Rows.stageOrderSpec.pre6 enc Try.prog Try.f9 Rows.stageOrderRow.domain false) (Rows.stageOrderSpec.post enc Try.prog Try.f9 false true false false) := by
  refine returnsInHanded_of_change (C := Try.checked) Go.Proofs.Ytooagoikiafgcaa.lift.own started (by kernel_rfl) Try.func9
    (ChangeSpec.witness6 (enc := enc) (C := Try.checked) false ⟨#[], #[.int .u8 0, .slice none 0 0], []⟩ 8 (by kernel_rfl) (by kernel_rfl) (by kernel_rfl) (by kernel_rfl)) ?_
  intro W base args ds gs before hval0 hW hcnd _
  have hval : ∀ (j : Nat) t v, Try.f9.params[j]? = some t → args[j]? = some v → Value.okWide Try.prog W .any base t v := hval0
  have hW' := hW
  obtain ⟨p, q, hA0, hV, rfl, hfz, hnd⟩ := hW
  have hA : DataW.TrodAll enc Try.prog W 0 (fun _ => true) true Try.f9.params.toList args.toList ds p := hA0
  have hAk := hA
  rw [Try.params9] at hA hval
  obtain ⟨v0, vs0, d0, ds0, p0, q0, hargs, rfl, rfl, h0, r0⟩ := trodAll_cons hA
  obtain ⟨v1, vs1, d1, ds1, p1, q1, rfl, rfl, rfl, h1, r1⟩ := trodAll_cons r0
  obtain ⟨rfl, rfl, rfl⟩ := trodAll_nil r1
  obtain rfl : args = #[v0, v1] := by cases args; simp_all
  obtain ⟨rfl, rfl⟩ := trodVars_none hV
  have hlt := hW'.lt
  obtain ⟨a0, rfl, _, _, w0⟩ := open_int Try.underlying5 (hval 0 5 v0 rfl rfl) h0
  obtain ⟨A1, c1, l1, rfl, hm1, hc1, hq1, hs1, hb1⟩ := lift.arg_bytes (hval 1 76 v1 rfl rfl) h1
  refine (walk W a0 w0 A1 c1 l1 hm1 hc1 hq1 hs1 hb1).mono fun e W' ⟨he, hg⟩ => ?_
  subst he
  exact ⟨_, rfl, Go.Proofs.Ytooagoikiafgcaa.base.postBelow (pv := []) hW' (fun _ _ _ => (trodAll_cons_mk (shut_bool Try.underlying4 _) trodAll_mk0)) (fun sp hsp => Go.Proofs.Ytooagoikiafgcaa.lift.args_stay Go.Proofs.Ytooagoikiafgcaa.lift.laidOut hg _ _ _ _ (by kernel_rfl) hAk (fun x hx => hlt x (by simpa using hx)) (fun x hx => hsp x (by simpa using hx))) (fun _ _ => rfl) (by simp)
    hg (ok_one (by kernel_rfl) rfl (okWide_bool_mk Try.underlying4 _))⟩

theorem over : Rows.stageOrderRow.holds Try.pinned (OpenSpec.ofChange Rows.stageOrderSpec) :=
  OpenClaim.holds_of_wide 9 Try.f9 rfl rfl rfl rfl rfl rfl rfl ⟨rfl, rfl, rfl, rfl, rfl⟩ rfl rfl rfl rfl rfl (by kernel_rfl) Try.func9 (by kernel_rfl)
    (of_decide_eq_true (by kernel_rfl)) (by unfold Func.isWrapper; first | (rw [if_pos (by decide +kernel)]; kernel_rfl) | (rw [if_neg (by decide +kernel)]; exact ⟨rfl, rfl⟩))
    (fun os started H enc _ => lifted os started H enc)

/-- THE STATEMENT -/
theorem proved : Rows.StageOrderSaid :=
  over
#print axioms proved
end Go.Proofs.Ytooagoikiafgcaa.stageOrder
