/-
  PROVED HERE: plain laws of sectors: what is put is got; a byte that is turned is found. No program.
  CONDITIONS: each lemma names its own.
-/
import Derived.Test.YtooagoikiafgcaaStgGet
import Derived.Test.YtooagoikiafgcaaRefBytes
namespace Go.Proofs.Ytooagoikiafgcaa.record
set_option linter.unusedVariables false
open Go.RowKit Go.Proofs.Ytooagoikiafgcaa.base Go.Proofs.Ytooagoikiafgcaa.crc Go.Proofs.Ytooagoikiafgcaa.num

theorem pre_length (mark : Nat) (ks vs : List Nat) (i : Nat) (h : i ≤ ks.length) : (pre mark ks vs i).length = offs ks i := by
  induction i with
  | zero => simp [pre, offs, be_length]
  | succ i ih => rw [pre_succ, List.length_append, be_length, ih (by omega), offs_succ ks i (by omega)]
theorem pre_more (mark : Nat) (ks vs : List Nat) (i n : Nat) (h : i ≤ n) : ∃ rest, pre mark ks vs n = pre mark ks vs i ++ rest := by
  induction n with
  | zero => obtain rfl : i = 0 := by omega
            exact ⟨[], by simp⟩
  | succ n ih =>
    rcases Nat.lt_or_ge i (n + 1) with h' | h'
    · obtain ⟨r, hr⟩ := ih (by omega)
      exact ⟨r ++ be (ks.getD n 0) (vs.getD n 0), by rw [pre_succ, hr, List.append_assoc]⟩
    · obtain rfl : i = n + 1 := by omega
      exact ⟨[], by simp⟩
theorem got_pre (mark : Nat) (ks vs : List Nat) (n i : Nat) (q : List Int) (hi : i < n) (hn : n ≤ ks.length) (hv : vs.getD i 0 < 256 ^ ks.getD i 0) : got ks (pre mark ks vs n ++ q) i = vs.getD i 0 := by
  obtain ⟨r, hr⟩ := pre_more mark ks vs (i + 1) n hi
  unfold got
  rw [hr, pre_succ, List.append_assoc, List.append_assoc, List.drop_left' (pre_length mark ks vs i (by omega)), List.take_left' (be_length _ _), val_be _ _ hv]

theorem seal_length (p : List Int) (h : p.length ≤ 60) : (sealB p).length = 64 := by simp [sealB, be_length]; omega
theorem seal_byt (p : List Int) (h : Byt p) : Byt (sealB p) := by
  intro z hz
  unfold sealB at hz
  rcases List.mem_append.1 hz with hz | hz
  · rcases List.mem_append.1 hz with hz | hz
    · exact h z hz
    · exact be_byt _ _ z hz
  · rw [List.eq_of_mem_replicate hz]; omega
theorem seal_take (p : List Int) : (sealB p).take p.length = p := by unfold sealB; rw [List.append_assoc, List.take_left]
theorem seal_sum (p : List Int) : ((sealB p).drop p.length).take 4 = be 4 (sum p) := by
  unfold sealB
  rw [List.append_assoc, List.drop_left, List.take_left' (be_length _ _)]
theorem seal_rest (p : List Int) : (sealB p).drop (p.length + 4) = List.replicate (60 - p.length) 0 := by
  unfold sealB
  rw [List.drop_left' (by simp [be_length])]
theorem sum_val (p : List Int) : val (be 4 (sum p)) = sum p := val_be 4 _ (Nat.lt_of_lt_of_le sum_lt (by decide))
/-- what was sealed opens -/
theorem open_seal (mark : Nat) (p : List Int) (h : val (p.take 2) = mark) (h2 : 2 ≤ p.length) : openE mark p.length (sealB p) = 0 := by
  unfold openE
  rw [if_pos ⟨by rw [← h]; unfold sealB; rw [List.append_assoc, List.take_append_of_le_length h2], seal_rest p⟩, if_pos (by rw [seal_sum, seal_take, sum_val])]
theorem pre_mark (mark : Nat) (ks vs : List Nat) (n : Nat) (hm : mark < 65536) : val ((pre mark ks vs n).take 2) = mark := by
  unfold pre
  rw [List.take_left' (be_length _ _), val_be 2 mark (by omega)]

theorem Rec.bytes_length (r : Rec) : r.bytes.length = 64 := seal_length _ (by rw [r.head_length]; omega)
theorem Rec.bytes_byt (r : Rec) : Byt r.bytes := seal_byt _ (pre_byt _ _ _ _)
theorem Stg.bytes_length (s : Stg) : s.bytes.length = 64 := seal_length _ (by rw [s.head_length]; omega)
theorem Stg.bytes_byt (s : Stg) : Byt s.bytes := seal_byt _ (pre_byt _ _ _ _)

theorem nat_eq {z : Int} (h : 0 ≤ z) : ((z.toNat : Nat) : Int) = z := by omega
theorem gotRec_bytes {r : Rec} (h : r.right = true) : gotRec r.bytes = r := by
  obtain ⟨⟨a1, a2⟩, ⟨b1, b2⟩, ⟨c1, c2⟩, ⟨d1, d2⟩, ⟨e1, e2⟩, ⟨f1, f2⟩⟩ := Go.Proofs.Ytooagoikiafgcaa.refRec.rec_in h
  have g : ∀ i, i < 6 → r.nums.getD i 0 < 256 ^ recWidths.getD i 0 → got recWidths r.bytes i = r.nums.getD i 0 := fun i hi hv => by
    unfold Rec.bytes sealB Rec.head
    rw [List.append_assoc]
    exact got_pre 19523 recWidths r.nums 6 i _ hi (Nat.le_refl 6) hv
  obtain ⟨part, seq, active, confirmed, left, bad⟩ := r
  simp only at *
  unfold gotRec
  rw [g 0 (by decide) (by simp [Rec.nums]; omega), g 1 (by decide) (by simp [Rec.nums]; omega), g 2 (by decide) (by simp [Rec.nums]; omega), g 3 (by decide) (by simp [Rec.nums]; omega), g 4 (by decide) (by simp [Rec.nums]; omega), g 5 (by decide) (by simp [Rec.nums]; omega)]
  simp [Rec.nums, nat_eq a1, nat_eq c1, nat_eq d1, nat_eq e1, nat_eq f1, nat_eq (show 0 ≤ seq by omega)]
/-- what is put is got -/
theorem getRec_bytes {r : Rec} (h : r.right = true) : getRec r.bytes = (r, 0) := by
  unfold getRec
  have e : openE 19523 11 r.bytes = 0 := by
    have := open_seal 19523 r.head (pre_mark 19523 recWidths r.nums 6 (by decide)) (by rw [r.head_length]; decide)
    rwa [r.head_length] at this
  rw [if_pos r.bytes_length, if_pos e, gotRec_bytes h, h]
  rfl
theorem gotStg_bytes {s : Stg} (h : s.right = true) : gotStg s.bytes = s := by
  obtain ⟨⟨h1, h2⟩, ⟨h3, h4⟩, h5, h6⟩ := stg_in h
  have g : ∀ i, i < 3 → s.nums.getD i 0 < 256 ^ stgWidths.getD i 0 → got stgWidths s.bytes i = s.nums.getD i 0 := fun i hi hv => by
    unfold Stg.bytes sealB Stg.head
    rw [List.append_assoc]
    exact got_pre 19539 stgWidths s.nums 3 i _ hi (Nat.le_refl 3) hv
  obtain ⟨session, size, have_⟩ := s
  simp only at *
  unfold gotStg
  rw [g 0 (by decide) (by simp [Stg.nums]; omega), g 1 (by decide) (by simp [Stg.nums]; omega), g 2 (by decide) (by simp [Stg.nums]; omega)]
  simp [Stg.nums, nat_eq h5, nat_eq (show 0 ≤ session by omega), nat_eq (show 0 ≤ size by omega)]
theorem getStg_bytes {s : Stg} (h : s.right = true) : getStg s.bytes = (s, 0) := by
  unfold getStg
  have e : openE 19539 8 s.bytes = 0 := by
    have := open_seal 19539 s.head (pre_mark 19539 stgWidths s.nums 3 (by decide)) (by rw [s.head_length]; decide)
    rwa [s.head_length] at this
  rw [if_pos s.bytes_length, if_pos e, gotStg_bytes h, h]
  rfl
/-- a stage is no record -/
theorem getRec_stg (s : Stg) : getRec s.bytes = (Rec.zero, 2) := by
  unfold getRec
  have e : openE 19523 11 s.bytes = 2 := by
    unfold openE
    rw [if_neg]
    rintro ⟨h, _⟩
    have h1 := pre_mark 19539 stgWidths s.nums 3 (by decide)
    have h2 : s.bytes.take 2 = s.head.take 2 := by
      unfold Stg.bytes sealB
      rw [List.append_assoc, List.take_append_of_le_length (by rw [s.head_length]; decide)]
    rw [h2] at h
    unfold Stg.head at h
    omega
  rw [if_pos s.bytes_length, if_neg (by rw [e]; decide), e]

/-! ### a byte that is turned -/
theorem dn_zero {z : Nat} (h : z < 2 ^ 32) (hz : dn z = 0) : z = 0 := by
  have h1 := tb_dn z 31
  rw [hz, Nat.zero_testBit, Nat.testBit_lt_two_pow (x := z) (i := 31 + 1) (by simpa using h), Bool.false_xor, show poly.testBit 31 = true by decide, Bool.and_true, Nat.testBit_zero] at h1
  unfold dn at hz
  have he : ¬ z % 2 = 1 := by simpa using h1.symm
  rw [if_neg he, Nat.xor_zero] at hz
  omega
theorem dn_inj {x y : Nat} (hx : x < 2 ^ 32) (hy : y < 2 ^ 32) (h : dn x = dn y) : x = y := by
  have h1 : dn (x ^^^ y) = 0 := by rw [dn_xor, h, Nat.xor_self]
  have h2 := dn_zero (Nat.xor_lt_two_pow hx hy) h1
  have h3 := congrArg (· ^^^ y) h2
  simpa [Nat.xor_assoc] using h3
theorem it_inj {x y : Nat} (k : Nat) (hx : x < 2 ^ 32) (hy : y < 2 ^ 32) (h : it k x = it k y) : x = y := by
  induction k with
  | zero => exact h
  | succ k ih => exact ih (dn_inj (it_lt k hx) (it_lt k hy) h)
theorem xor_cancel {x y c : Nat} (h : x ^^^ c = y ^^^ c) : x = y := by
  have := congrArg (· ^^^ c) h
  simpa [Nat.xor_assoc] using this
theorem feed_inj {x y c : Nat} (hx : x < 2 ^ 32) (hy : y < 2 ^ 32) (hc : c < 256) (h : feed x c = feed y c) : x = y :=
  xor_cancel (it_inj 8 (Nat.xor_lt_two_pow hx (by omega)) (Nat.xor_lt_two_pow hy (by omega)) h)
theorem feed_inj2 {x c d : Nat} (hx : x < 2 ^ 32) (hc : c < 256) (hd : d < 256) (h : feed x c = feed x d) : c = d := by
  have h1 := it_inj 8 (Nat.xor_lt_two_pow hx (by omega)) (Nat.xor_lt_two_pow hx (by omega)) h
  rw [Nat.xor_comm x c, Nat.xor_comm x d] at h1
  exact xor_cancel h1
theorem fold_inj (bs : List Int) : ∀ {x y : Nat}, x < 2 ^ 32 → y < 2 ^ 32 → Byt bs → fold x bs = fold y bs → x = y := by
  induction bs with
  | nil => intro x y _ _ _ h; exact h
  | cons z bs ih =>
    intro x y hx hy hb h
    have hz := hb z (by simp)
    exact feed_inj hx hy (by omega) (ih (feed_lt hx (by omega)) (feed_lt hy (by omega)) (fun u hu => hb u (by simp [hu])) h)
/-- another byte at one place: another sum -/
theorem sum_set (p : List Int) (i : Nat) (z : Int) (hi : i < p.length) (hb : Byt p) (hz : 0 ≤ z ∧ z ≤ 255) (hne : z ≠ p[i]) : sum (p.set i z) ≠ sum p := by
  intro h
  have hs : p.set i z = p.take i ++ z :: p.drop (i + 1) := by rw [List.set_eq_take_append_cons_drop, if_pos hi]
  have hp : p = p.take i ++ p[i] :: p.drop (i + 1) := by rw [← List.drop_eq_getElem_cons hi, List.take_append_drop]
  have b0 := hb p[i] (List.getElem_mem hi)
  have h0 : fold 4294967295 (p.take i) < 2 ^ 32 := fold_lt (by decide) (take_byt hb i)
  have f1 : fold 4294967295 (p.set i z) < 2 ^ 32 := fold_lt (by decide) (by
    rw [hs]
    intro u hu
    rcases List.mem_append.1 hu with hu | hu
    · exact take_byt hb i u hu
    · rcases List.mem_cons.1 hu with rfl | hu
      · exact hz
      · exact drop_byt hb _ u hu)
  have f2 : fold 4294967295 p < 2 ^ 32 := fold_lt (by decide) hb
  have h1 : fold 4294967295 (p.set i z) = fold 4294967295 p := by unfold sum at h; omega
  rw [hs] at h1
  conv at h1 => rhs; rw [hp]
  unfold fold at h1 h0
  rw [List.foldl_append, List.foldl_append, List.foldl_cons, List.foldl_cons] at h1
  have h2 := fold_inj (p.drop (i + 1)) (feed_lt h0 (by omega)) (feed_lt h0 (by omega)) (drop_byt hb _) h1
  have h3 := feed_inj2 h0 (by omega) (by omega) h2
  omega

theorem val_inj {a b : List Int} (ha : Byt a) (hb : Byt b) (hl : a.length = b.length) (h : val a = val b) : a = b := by
  rw [← be_val a ha, ← be_val b hb, hl, h]
/-- a byte of a sealed sector that is turned -/
theorem open_turned (mark : Nat) (p : List Int) (hp : Byt p) (hm : val (p.take 2) = mark) (h2 : 2 ≤ p.length) (hl : p.length ≤ 60) (i : Nat) (hi : i < 64) (z : Int) (hz : 0 ≤ z ∧ z ≤ 255) (hne : ∀ u, (sealB p)[i]? = some u → z ≠ u) : openE mark p.length ((sealB p).set i z) ≠ 0 := by
  have hL := seal_length p hl
  have hB := seal_byt p hp
  have hne' : z ≠ (sealB p)[i]'(by omega) := hne _ (List.getElem?_eq_getElem (by omega))
  have hBs : Byt ((sealB p).set i z) := by
    intro u hu
    rcases List.mem_or_eq_of_mem_set hu with h | h
    · exact hB u h
    · rw [h]; exact hz
  have diff : ∀ a n, a ≤ i → i < a + n → a + n ≤ 64 → (((sealB p).set i z).drop a).take n ≠ ((sealB p).drop a).take n := by
    intro a n h1 h2 h3 he
    have := congrArg (fun l => l[i - a]?) he
    simp only [List.getElem?_take, List.getElem?_drop, show a + (i - a) = i by omega, show i - a < n by omega, if_true] at this
    rw [List.getElem?_set_self (by omega), List.getElem?_eq_getElem (by omega)] at this
    injection this with this
    exact hne' this
  have same : ∀ a n, (i < a ∨ a + n ≤ i) → (((sealB p).set i z).drop a).take n = ((sealB p).drop a).take n := by
    intro a n h
    apply List.ext_getElem?
    intro k
    rw [List.getElem?_take, List.getElem?_take, List.getElem?_drop, List.getElem?_drop]
    by_cases hk : k < n
    · rw [if_pos hk, if_pos hk, List.getElem?_set_ne (by omega)]
    · rw [if_neg hk, if_neg hk]
  have take0 : ∀ (l : List Int) n, l.take n = (l.drop 0).take n := fun l n => by rw [List.drop_zero]
  unfold openE
  by_cases c1 : i < 2
  · rw [if_neg]
    · decide
    rintro ⟨h, _⟩
    refine diff 0 2 (by omega) (by omega) (by omega) ?_
    refine val_inj (take_byt (drop_byt hBs _) _) (take_byt (drop_byt hB _) _) (by simp) ?_
    rw [← take0, ← take0, h]
    unfold sealB
    rw [List.append_assoc, List.take_append_of_le_length h2, hm]
  · by_cases c2 : p.length + 4 ≤ i
    · rw [if_neg]
      · decide
      rintro ⟨_, h⟩
      have hd := diff (p.length + 4) (60 - p.length) c2 (by omega) (by omega)
      rw [h, seal_rest] at hd
      exact hd rfl
    · split
      · rw [if_neg]
        · decide
        intro h
        by_cases c3 : i < p.length
        · rw [same p.length 4 (.inl c3), seal_sum, sum_val] at h
          have e : ((sealB p).set i z).take p.length = p.set i z := by
            unfold sealB
            rw [List.append_assoc, List.set_append_left _ _ c3, List.take_left' (by simp)]
          rw [e] at h
          refine sum_set p i z c3 hp hz ?_ h.symm
          have e2 : (sealB p)[i]'(by omega) = p[i] := by
            simp only [sealB, List.append_assoc]
            rw [List.getElem_append_left c3]
          rw [← e2]
          exact hne'
        · have e : ((sealB p).set i z).take p.length = p := by
            rw [take0, same 0 p.length (.inr (by omega)), ← take0, seal_take]
          rw [e] at h
          refine diff p.length 4 (by omega) (by omega) (by omega) ?_
          refine val_inj (take_byt (drop_byt hBs _) _) (take_byt (drop_byt hB _) _) (by simp) ?_
          rw [h, seal_sum, sum_val]
      · decide
/-- one byte again and again is no sector -/
theorem open_same (mark N : Nat) (z : Int) (hz : 0 ≤ z ∧ z ≤ 255) (hm : mark = 19523 ∨ mark = 19539) : openE mark N (List.replicate 64 z) = 2 := by
  unfold openE
  rw [if_neg]
  rintro ⟨h, _⟩
  rw [show (List.replicate 64 z).take 2 = [z, z] by simp] at h
  simp [val] at h
  omega
end Go.Proofs.Ytooagoikiafgcaa.record
