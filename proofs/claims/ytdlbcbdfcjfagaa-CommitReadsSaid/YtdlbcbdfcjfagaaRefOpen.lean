/-
  PROVED HERE: by which error the document refuses a sector.
  CONDITIONS: each contract names its own.
-/
import Derived.Test.YtdlbcbdfcjfagaaRecMath
import Derived.Test.YtdlbcbdfcjfagaaSame
namespace Go.Proofs.Ytdlbcbdfcjfagaa.refRec
set_option linter.unusedVariables false
open Go.RowKit Go.Proofs.Ytdlbcbdfcjfagaa.base Go.Proofs.Ytdlbcbdfcjfagaa.obj Go.Proofs.Ytdlbcbdfcjfagaa.mem Go.Proofs.Ytdlbcbdfcjfagaa.crc Go.Proofs.Ytdlbcbdfcjfagaa.num Go.Proofs.Ytdlbcbdfcjfagaa.bytes Go.Proofs.Ytdlbcbdfcjfagaa.record Go.Proofs.Ytdlbcbdfcjfagaa.refNum Go.Proofs.Ytdlbcbdfcjfagaa.same

theorem seal_eq (bs : List Int) (n : Nat) (hl : bs.length = 64) (hb : Byt bs) (hn : n ≤ 60) (hz : bs.drop (n + 4) = List.replicate (60 - n) 0) : sealB (bs.take n) = bs ↔ val ((bs.drop n).take 4) = sum (bs.take n) := by
  have hlt : (bs.take n).length = n := by simp; omega
  have hsplit : bs = bs.take n ++ (bs.drop n).take 4 ++ bs.drop (n + 4) := by
    rw [← List.drop_drop, List.append_assoc, List.take_append_drop, List.take_append_drop]
  constructor
  · intro h
    have h1 : ((sealB (bs.take n)).drop n).take 4 = be 4 (sum (bs.take n)) := by
      have := seal_sum (bs.take n)
      rwa [hlt] at this
    rw [h] at h1
    rw [h1, sum_val]
  · intro h
    have hd4 : ((bs.drop n).take 4).length = 4 := by simp; omega
    have h2 : be 4 (sum (bs.take n)) = (bs.drop n).take 4 := by
      rw [← h]
      have := be_val ((bs.drop n).take 4) (take_byt (drop_byt hb _) _)
      rwa [hd4] at this
    unfold sealB
    rw [hlt, h2, ← hz]
    exact hsplit.symm
theorem mark_eq (bs : List Int) (m : Nat) (a b : Int) (ha : bs[0]? = some a) (hb : bs[1]? = some b) (hby : Byt bs) (hm : m < 256) : val (bs.take 2) = 76 * 256 + m ↔ a = 76 ∧ b = m := by
  have h0 := hby a (List.mem_of_getElem? ha)
  have h1 := hby b (List.mem_of_getElem? hb)
  have e : bs.take 2 = [a, b] := by
    match bs, ha, hb with
    | x :: y :: l, ha, hb =>
      simp at ha hb
      simp [ha, hb]
  rw [e]
  simp [val]
  omega
theorem zeros_eq (bs : List Int) (N : Nat) (hl : bs.length = 64) (hN : N ≤ 64) : bs.drop N = List.replicate (64 - N) 0 ↔ ∀ i, N ≤ i → i < 64 → bs[i]? = some 0 := by
  constructor
  · intro h i h1 h2
    have := congrArg (fun l => l[i - N]?) h
    simp only [List.getElem?_drop, show N + (i - N) = i by omega] at this
    rw [this]
    simp [show i - N < 64 - N by omega]
  · intro h
    apply List.ext_getElem?
    intro i
    rw [List.getElem?_drop]
    by_cases hi : i < 64 - N
    · rw [h (N + i) (by omega) (by omega)]
      simp [hi]
    · rw [List.getElem?_eq_none (by omega)]
      simp [hi]

set_option maxRecDepth 100000 in
set_option maxHeartbeats 4000000 in
theorem open_at (w : World) (A : Option Addr) (L c : Nat) (bs : List Int) (hl : bs.length = L) (hc : L ≤ c) (hb : Byt bs) (hs : Sl w w.heap.size 1 A L (bs.map (.int .u8))) (m n : Nat) (hm : m < 256) (hn : n ≤ 59) :
    Calls Try.prog 54 #[.slice A L c, .int .u8 m, .int .i64 n] w fun e w' => e = .returned (.int .i64 (if L = 64 then openE (76 * 256 + m) n bs else 14)) ∧ Below w.heap.size w w' := by
  by_cases h64 : L = 64
  · subst h64
    rw [if_pos rfl]
    have HL := Lib.hid hl; have HY := Lib.hid hb; have HS := Lib.hid hs
    obtain ⟨b, o, rfl, hbl, hcell⟩ := hs.2 (by decide)
    have get : ∀ k, k < 64 → ∃ z, bs[k]? = some z := fun k hk => ⟨_, List.getElem?_eq_getElem (by omega)⟩
    obtain ⟨z0, hz0⟩ := get 0 (by decide)
    obtain ⟨z1, hz1⟩ := get 1 (by decide)
    have c0 : w.cell? ⟨b, o, none⟩ = some (.int .u8 z0) := by
      have := hcell 0 (.int .u8 z0) (by rw [List.getElem?_map, hz0]; rfl)
      rwa [Nat.add_zero] at this
    have c1 : w.cell? ⟨b, o + 1, none⟩ = some (.int .u8 z1) := hcell 1 (.int .u8 z1) (by rw [List.getElem?_map, hz1]; rfl)
    have HM := Lib.hid (mark_eq bs m z0 z1 hz0 hz1 hb hm)
    have HZ := Lib.hid (zeros_eq bs (n + 4) hl (by omega))
    have HQ := Lib.hid (seal_eq bs n hl hb (by omega))
    have HC := Lib.hid (fun (k : Nat) (z : Int) (h : bs[k]? = some z) => hcell k (.int .u8 z) (by rw [List.getElem?_map, h]; rfl))
    have HG := Lib.hid get
    have H0 := Lib.hid (And.intro hz0 hz1)
    by_cases hmk : z0 = 76 ∧ z1 = m
    · obtain ⟨rfl, rfl⟩ := hmk
      have HMT := Lib.hid (HM.out.2 ⟨rfl, rfl⟩)
      clear hl hb hs hcell get hz0 hz1
      go_enter Try.func54, Try.ntmps54
      go_wp2_with (fail)
      go_loopw [7] (fun i wr => ∃ k : Nat, n + 4 ≤ k ∧ k ≤ 64 ∧ i = .int .i64 k ∧ (∀ j, n + 4 ≤ j → j < k → bs[j]? = some 0) ∧ wr = w) (fun i _ => 64 - (intOf i).toNat)
      case atStart => exact ⟨n + 4, by omega, by omega, by go_num, fun j h1 h2 => by omega, rfl⟩
      case round =>
        obtain ⟨k, hk1, hk2, rfl, hzk, rfl⟩ := hrel
        have HZK := Lib.hid hzk
        clear hzk
        by_cases hlt : k < 64
        · obtain ⟨z, hz⟩ := HG.out k hlt
          have ck := HC.out k z hz
          have hlt' : (k : Int) < 64 := by omega
          have hk0 : (0 : Int) ≤ (k : Int) := by omega
          by_cases hzz : z = 0
          · subst hzz
            have HZN := Lib.hid hz
            clear hz
            go_wp2_with (fail)
            go_roundw
            case rel =>
              refine ⟨k + 1, by omega, by omega, by go_num, fun j h1 h2 => ?_, trivial⟩
              by_cases hj : j = k
              · subst hj; exact HZN.out
              · exact HZK.out j h1 (by omega)
            case measure => simp [intOf] <;> omega
          · have t1 : (z != 0) = true := by simpa using hzz
            have HE := Lib.hid (show openE (76 * 256 + m) n bs = 2 by
              unfold openE
              rw [if_neg]
              rintro ⟨_, h⟩
              have h2 := HZ.out.1 (by rw [show 64 - (n + 4) = 60 - n by omega]; exact h) k hk1 hlt
              rw [hz] at h2
              injection h2 with h2
              exact hzz h2)
            clear hz hzz
            go_wp2_with (fail)
            go_ret
            exact ⟨ret_int (by rw [HE.out]), Below.refl _ _⟩
        · have hk64 : k = 64 := by omega
          have hlt' : ¬ (k : Int) < 64 := by omega
          have HZA := Lib.hid (show bs.drop (n + 4) = List.replicate (60 - n) 0 by
            have := HZ.out.2 (fun i h1 h2 => HZK.out i h1 (by omega))
            rwa [show 64 - (n + 4) = 60 - n by omega] at this)
          have HE := Lib.hid (show openE (76 * 256 + m) n bs = if decide (sealB (bs.take n) = bs) then 0 else 10 by
            unfold openE
            rw [if_pos ⟨HMT.out, HZA.out⟩]
            by_cases h : val ((bs.drop n).take 4) = sum (bs.take n)
            · rw [if_pos h, if_pos (by simpa using (HQ.out HZA.out).2 h)]
            · rw [if_neg h, if_neg (by simpa using fun h2 => h ((HQ.out HZA.out).1 h2))])
          have HNS := Lib.hid (show Sl wr wr.heap.size 1 (some ⟨b, o, none⟩) n ((bs.take n).map (.int .u8)) from ⟨by simp [HL.out]; omega, fun _ => ⟨b, o, rfl, hbl, fun k u hu => by
            rw [List.map_take, List.getElem?_take] at hu
            split at hu
            · obtain ⟨b', o', e, _, hcc⟩ := HS.out.2 (by decide)
              injection e with e
              injection e with e1 e2 _
              subst e1; subst e2
              exact hcc k u hu
            · simp at hu⟩⟩)
          obtain ⟨db, hdb⟩ : ∃ db, db = decide (sealB (bs.take n) = bs) := ⟨_, rfl⟩
          rw [← hdb] at HE
          have HDB := Lib.hid hdb
          have i0 : (0 : Int) ≤ (n : Int) := by omega
          have i1 : (n : Int) ≤ (c : Int) := by omega
          clear hk64 hdb
          go_wp2_with (fail)
          refine (sealed_at _ (some ⟨b, o, none⟩) n c (bs.take n) (by simp [HL.out]; omega) (by omega) (take_byt HY.out _) HNS.out).mono ?_
          rintro e w2 ⟨g2, rfl, hg2, hrow2, hb2⟩
          have HR2 := Lib.hid hrow2; have HB2 := Lib.hid hb2
          clear hrow2 hb2
          go_wp2_with (fail)
          refine (same_any (sealB (bs.take n)) bs (some ⟨g2, 0, none⟩) (some ⟨b, o, none⟩) 64 64 64 c _ (seal_length _ (by simp; omega)).symm HL.out.symm (by omega) (by omega) (byte_sl HR2.out (seal_length _ (by simp; omega))) ((HS.out.below HB2.out).more HB2.out.size)).mono ?_
          rintro e w3 ⟨rfl, hb3⟩
          rw [← HDB.out]
          have HB3 := Lib.hid (HB2.out.trans (hb3.mono HB2.out.size))
          clear hb3
          cases db
          all_goals
            go_wp2_with (fail)
            go_ret
            exact ⟨ret_int (by rw [HE.out]; rfl), HB3.out⟩
    · have HE := Lib.hid (show openE (76 * 256 + m) n bs = 2 by
        unfold openE
        rw [if_neg (fun h => hmk (HM.out.1 h.1))])
      clear hl hb hs hcell get hz0 hz1
      by_cases hz : z0 = 76
      · subst hz
        have hz2 : (z1 != (m : Int)) = true := by simpa using hmk
        clear hmk
        go_enter Try.func54, Try.ntmps54
        go_wp2_with (fail)
        go_ret
        exact ⟨ret_int (by rw [HE.out]), Below.refl _ _⟩
      · have hz2 : (z0 != 76) = true := by simpa using hz
        clear hmk hz
        go_enter Try.func54, Try.ntmps54
        go_wp2_with (fail)
        go_ret
        exact ⟨ret_int (by rw [HE.out]), Below.refl _ _⟩
  · rw [if_neg h64]
    have e1 : ((L : Int) != 64) = true := by simp; omega
    have e2 : (L != 64) = true := by simpa using h64
    clear h64 hl hb hs
    go_enter Try.func54, Try.ntmps54
    go_wp2_with (fail)
    go_ret
    exact ⟨rfl, Below.refl _ _⟩
end Go.Proofs.Ytdlbcbdfcjfagaa.refRec
