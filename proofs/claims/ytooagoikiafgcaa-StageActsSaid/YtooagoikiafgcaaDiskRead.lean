/-
  PROVED HERE: the contract of (*Disk).Read.
  CONDITIONS: the disk is the given one; no more than a million writes wait.
-/
import Derived.Test.YtooagoikiafgcaaDiskWrite
namespace Go.Proofs.Ytooagoikiafgcaa.disk
set_option linter.unusedVariables false
open Go.RowKit Go.Proofs.Ytooagoikiafgcaa.base Go.Proofs.Ytooagoikiafgcaa.obj Go.Proofs.Ytooagoikiafgcaa.mem Go.Proofs.Ytooagoikiafgcaa.plan

theorem secCells_len (s : List Int) : (secCells s).length = s.length := by simp [secCells]
theorem waitCells_len (p : Nat × List Int) : (waitCells p).length = p.2.length + 1 := by simp [waitCells]
theorem sec_one (s : List Int) : ∀ u ∈ secCells s, u.oneCell' = true := u8s_one s
theorem sec_size {s : List Int} (h : s.length = 64) : (Try.prog.info? 177).map (·.size) = some (secCells s).length := by
  rw [secCells_len, h]; kernel_rfl
theorem wait_size {p : Nat × List Int} (h : p.2.length = 64) : (Try.prog.info? 179).map (·.size) = some (waitCells p).length := by
  rw [waitCells_len, h]; kernel_rfl
theorem good_secLen {m : DS} (h : m.Good) : ∀ x ∈ m.secs.map secCells, x.length = 64 := by
  intro x hx
  obtain ⟨s, hs, rfl⟩ := List.mem_map.1 hx
  rw [secCells_len]; exact h.secs s hs
theorem good_waitLen {m : DS} (h : m.Good) : ∀ x ∈ m.waits.map waitCells, x.length = 65 := by
  intro x hx
  obtain ⟨s, hs, rfl⟩ := List.mem_map.1 hx
  rw [waitCells_len, (h.waits s hs).2]
/-- sector number n in the disk's block -/
theorem sec_at {m : DS} (h : m.Good) {n : Nat} (hn : n < m.secs.length) : ((m.secs.map secCells).flatten.drop (n * 64)).take (secCells (m.secs.getD n [])).length = secCells (m.secs.getD n []) := by
  have e : m.secs.getD n [] = m.secs[n] := by simp [hn]
  rw [e, secCells_len, h.secs _ (List.getElem_mem hn), flat_elem (good_secLen h) (by simpa using hn)]
  simp
/-- the row of what waits -/
theorem own_row {w : World} {base : Nat} {e : TypeId} {size : Nat} {v : Value} {n : Nat} {xs : List Value} (h : w.ownsRow base e size v n xs) (hn : 0 < n) : ∃ W c cur, v = .slice (some ⟨W, 0, none⟩) n c ∧ Row w W e cur ∧ cur.take (n * size) = xs := by
  rcases h.2 with ⟨_, h0⟩ | ⟨g, cap, cur, rfl, _, hg, _, _, _, ht⟩
  · omega
  · exact ⟨g, cap, cur.toList, rfl, by unfold Row; simpa using hg, ht⟩
theorem wait_at {m : DS} (h : m.Good) {cur : List Value} (hc : cur.take (m.waits.length * 65) = (m.waits.map waitCells).flatten) {k : Nat} (hk : k < m.waits.length) : (cur.drop (k * 65)).take (waitCells m.waits[k]).length = waitCells m.waits[k] := by
  have h65 : (waitCells m.waits[k]).length = 65 := by rw [waitCells_len, (h.waits _ (List.getElem_mem hk)).2]
  have e := flat_elem (good_waitLen h) (i := k) (by simpa using hk)
  rw [← hc] at e
  rw [h65]
  have : ((cur.take (m.waits.length * 65)).drop (k * 65)).take 65 = (cur.drop (k * 65)).take 65 := by
    rw [List.drop_take, List.take_take]
    congr 1
    have : (k + 1) * 65 ≤ m.waits.length * 65 := Nat.mul_le_mul_right 65 hk
    omega
  rw [this] at e
  rw [e]
  simp

def outCells (s : List Int) : Array Value := (s.map (Value.int .u8)).toArray

/-- what holds behind k rounds: block w.heap.size is the sector so far -/
structure ReadRel (w : World) (m : DS) (n k : Nat) (wr : World) : Prop where
  row : Row wr w.heap.size 177 (secCells (nowTo m.waits (m.secs.getD n []) n k))
  bel : Below w.heap.size w wr
theorem read_start {w : World} {F : Nat → Prop} {g L : Nat} {wv : Value} {m : DS} (h : DiskIn w F g L wv m) {n : Nat} {s0 : List Value} (e : secCells (m.secs.getD n []) = s0) : ReadRel w m n 0 (w.alloc (.cells s0.toArray 177)) := by
  refine ⟨?_, (Below.refl _ _).alloc (Nat.le_refl _) _⟩
  subst e
  exact Row.new w 177 _
theorem read_step {w wr : World} {F : Nat → Prop} {g L : Nat} {wv : Value} {m : DS} (h : DiskIn w F g L wv m) {n k : Nat} (hr : ReadRel w m n k wr) (hk : k < m.waits.length) {A : Option Addr} {c : Nat} (hv : wv = .slice A m.waits.length c) :
    ∃ W cur, A = some ⟨W, 0, none⟩ ∧ Row wr W 179 cur ∧ (cur.drop (k * 65)).take (waitCells m.waits[k]).length = waitCells m.waits[k] := by
  obtain ⟨W, c', cur, hv', hrow, hcur⟩ := own_row h.own (by omega)
  rw [hv] at hv'
  injection hv' with h1 h2 h3
  exact ⟨W, cur, h1, hrow.below hr.bel hrow.lt, wait_at h.good hcur hk⟩

theorem wait_drop (p : Nat × List Int) : ((waitCells p).drop 1).take (secCells p.2).length = secCells p.2 := by
  simp only [waitCells, List.drop_succ_cons, List.drop_zero, secCells]
  exact List.take_of_length_le (by simp)
theorem read_miss {w wr : World} {m : DS} {n k : Nat} (h : ReadRel w m n k wr) (hk : k < m.waits.length) (e : m.waits[k].1 ≠ n) (o : Obj) : ReadRel w m n (k + 1) (wr.alloc o) := by
  refine ⟨?_, h.bel.alloc h.bel.size _⟩
  rw [nowTo_miss hk e]
  exact h.row.alloc o
theorem read_hit {w wr : World} {m : DS} {n k : Nat} (h : ReadRel w m n k wr) (hk : k < m.waits.length) (e : m.waits[k].1 = n) (o : Obj) :
    ReadRel w m n (k + 1) ((wr.alloc o).setRow w.heap.size (secCells m.waits[k].2).toArray) := by
  refine ⟨?_, below_setRow (h.bel.alloc h.bel.size _) (Nat.le_refl _) _⟩
  rw [nowTo_hit hk e]
  exact (h.row.alloc o).setRow _

theorem whole_put {xs ys : List Value} (h : xs.length = ys.length) : xs.take 0 ++ ys.toArray.toList ++ xs.drop (0 + ys.toArray.size) = ys := by
  rw [List.drop_of_length_le (by simp [h])]
  simp

set_option maxRecDepth 100000 in
set_option maxHeartbeats 2000000 in
theorem read_yes {w : World} {F : Nat → Prop} {g L : Nat} {wv : Value} {m : DS} (h : DiskIn w F g L wv m) (n : Nat) (hn : n < m.secs.length) (hd : m.down = false) (hwl : m.waits.length ≤ 1000000) :
    Calls Try.prog 54 #[.pointer (some ⟨g, 0, none⟩), .int .i64 n] w fun e w' => ∃ b, e = .returned (.tuple #[.slice (some ⟨b, 0, none⟩) 64 64, .int .i64 0]) ∧ w.heap.size ≤ b ∧ Row w' b 5 ((m.now n).map (.int .u8)) ∧ Below w.heap.size w w' := by
  obtain ⟨c0, c1, c2, c3⟩ := h.read
  have hw := wrong_at h n
  rw [if_neg (by omega)] at hw
  have HW := Lib.hid hw
  have H := Lib.hid h
  rw [hd] at c3
  have hgl := h.blk.lt
  have hgood := h.good
  have h64 : (m.secs.getD n []).length = 64 := by
    have e : m.secs.getD n [] = m.secs[n] := by simp [hn]
    rw [e]; exact hgood.secs _ (List.getElem_mem hn)
  have HSA := Lib.hid (sec_at hgood hn)
  have HSZ := Lib.hid (sec_size h64)
  have HLA := Lib.hid h.laid
  have H64 := Lib.hid h64
  have HG := Lib.hid hgood
  have HS1 := Lib.hid (show (secCells (m.secs.getD n [])).toArray.size = 64 by rw [List.size_toArray, secCells_len, h64])
  have z2 : zSec.size = (secCells (m.secs.getD n [])).toArray.size := by rw [HS1.out]; rfl
  have HZ2 := Lib.hid z2
  have HZ1 := Lib.hid (show (Try.prog.info? 177).map (·.size) = some (secCells (m.secs.getD n [])).toArray.size by rw [HS1.out]; kernel_rfl)
  have HO1 := Lib.hid (show ∀ v ∈ (secCells (m.secs.getD n [])).toArray.toList, v.oneCell' = true by simpa using sec_one (m.secs.getD n []))
  clear hw h hd z2 h64 hgood c2
  obtain ⟨A, wc, hwv, _⟩ := own_form H.out.own
  rw [hwv] at c1
  have HWV := Lib.hid hwv
  clear hwv
  generalize hs0 : secCells (m.secs.getD n []) = s0 at *
  have HS0 := Lib.hid hs0
  clear hs0
  have ZI := Lib.hid (show (Try.prog.info? 177).map (·.zero) = some (some (.agg zSec)) by kernel_rfl)
  go_enter Try.func54, Try.ntmps54
  go_wp2_with (fail)
  refine HW.out.mono ?_; rintro e w' ⟨rfl, rfl⟩
  go_wp2_with (first
    | (with_reducible refine wpList_get rfl 177 (.tmp 26) rfl L _ rfl s0 _ HLA.out HSA.out Try.underlying177 rfl HSZ.out ?_)
    | (with_reducible refine wpList_alloc rfl 177 rfl (.agg zSec) ZI.out ?_)
    | (refine wpList_fill rfl 177 (.tmp 7) (.tmp 27) rfl s0.toArray zSec _ _ rfl rfl HZ1.out HZ2.out HO1.out ?_))
  have HB := Lib.hid (read_start H.out (s0 := s0) HS0.out)
  go_loopw [33] (fun i wr => ∃ k : Nat, k ≤ m.waits.length ∧ i = .int .i64 k ∧ ReadRel w m n k wr) (fun i _ => m.waits.length - (intOf i).toNat)
  case atStart => exact ⟨0, by omega, rfl, HB.out⟩
  case round =>
    obtain ⟨k, hk, rfl, hrr⟩ := hrel
    have HR := Lib.hid hrr
    clear hrr
    by_cases hlt : k < m.waits.length
    · obtain ⟨W, cur, hA, hrow, hat⟩ := read_step H.out HR.out hlt HWV.out
      have HROW := Lib.hid hrow; have HAT := Lib.hid hat; have HLT := Lib.hid hlt
      subst hA
      clear hrow hat
      have hp64 := (HG.out.waits _ (List.getElem_mem hlt)).2
      have HP := Lib.hid hp64
      have HR1 := Lib.hid HR.out.row
      have HN := Lib.hid (nowTo_len (at_ := n) (fun p hp => (HG.out.waits p hp).2) H64.out k (by omega))
      have RM := Lib.hid (read_miss HR.out hlt)
      have RH := Lib.hid (read_hit HR.out hlt)
      have HB := Lib.hid HR.out.bel.size
      generalize hpp : m.waits[k] = p at *
      have HPP := Lib.hid hpp
      have hc0 : (waitCells p).toArray[0]? = some (.int .i64 p.1) := rfl
      have W1 := Lib.hid (wait_size HP.out)
      have W2 := Lib.hid (show (Try.prog.info? 179).map (·.size) = some (waitCells p).toArray.size by simpa using wait_size HP.out)
      have W3 := Lib.hid (show (zLate 0).size = (waitCells p).toArray.size by rw [show (waitCells p).toArray.size = 65 by rw [List.size_toArray, waitCells_len, HP.out]]; rfl)
      have W4 := Lib.hid (show ∀ v ∈ (waitCells p).toArray.toList, v.oneCell' = true by simpa using waits_one p)
      have W5 := Lib.hid (show (Try.prog.info? 179).map (·.zero) = some (some (.agg (zLate 0))) by kernel_rfl)
      have W6 := Lib.hid (Row.new wr 179 (waitCells p).toArray)
      have W7 := Lib.hid (wait_drop p)
      have W8 := Lib.hid (sec_size HP.out)
      have W9 := Lib.hid (HR1.out.alloc (.cells (waitCells p).toArray 179))
      have X1 := Lib.hid (show (Try.prog.info? 177).map (·.size) = some (secCells p.2).toArray.size by simpa using sec_size HP.out)
      have X2 := Lib.hid (show 0 + (secCells p.2).toArray.size ≤ (secCells (nowTo m.waits (m.secs.getD n []) n k)).length by rw [List.size_toArray, secCells_len, secCells_len, HP.out, HN.out]; omega)
      have X3 := Lib.hid (show ∀ v ∈ (secCells p.2).toArray.toList, v.oneCell' = true by simpa using sec_one p.2)
      have X4 := Lib.hid (whole_put (xs := secCells (nowTo m.waits (m.secs.getD n []) n k)) (ys := secCells p.2) (by rw [secCells_len, secCells_len, HP.out, HN.out]))
      clear hp64 hpp
      by_cases hat : p.1 = n
      · have hb : ((p.1 : Int) == (n : Int)) = true := by simp [hat]
        have HE := Lib.hid hat
        clear hat
        go_wp2_with (first
          | (with_reducible refine wpList_get rfl 179 (.tmp 35) rfl W _ rfl (waitCells p) _ HROW.out HAT.out Try.underlying179 rfl W1.out ?_)
          | (with_reducible refine wpList_alloc rfl 179 rfl (.agg (zLate 0)) W5.out ?_)
          | (refine wpList_fill rfl 179 (.tmp 9) (.tmp 36) rfl (waitCells p).toArray (zLate 0) _ _ rfl rfl W2.out W3.out W4.out ?_)
          | (with_reducible refine wpList_get rfl 177 (.tmp 41) rfl wr.heap.size 1 rfl (secCells p.2) _ W6.out W7.out Try.underlying177 rfl W8.out ?_)
          | (with_reducible refine wpList_putR rfl 177 (.tmp 7) (.tmp 42) rfl w.heap.size 0 (secCells p.2).toArray rfl rfl W9.out X1.out X2.out X3.out (secCells p.2) X4.out ?_))
        go_roundw
        case rel => exact ⟨k + 1, by omega, by go_num, RH.out HE.out _⟩
        case measure => simp [intOf]; omega
      · have hb : ((p.1 : Int) == (n : Int)) = false := by simp; omega
        have HE := Lib.hid hat
        clear hat
        go_wp2_with (first
          | (with_reducible refine wpList_get rfl 179 (.tmp 35) rfl W _ rfl (waitCells p) _ HROW.out HAT.out Try.underlying179 rfl W1.out ?_)
          | (with_reducible refine wpList_alloc rfl 179 rfl (.agg (zLate 0)) W5.out ?_)
          | (refine wpList_fill rfl 179 (.tmp 9) (.tmp 36) rfl (waitCells p).toArray (zLate 0) _ _ rfl rfl W2.out W3.out W4.out ?_))
        go_roundw
        case rel => exact ⟨k + 1, by omega, by go_num, RM.out HE.out _⟩
        case measure => simp [intOf]; omega
    · obtain rfl : k = m.waits.length := by omega
      have HR1 := Lib.hid HR.out.row
      have HB := Lib.hid HR.out.bel
      have e1 : nowTo m.waits (m.secs.getD n []) n m.waits.length = m.now n := rfl
      rw [e1] at HR1
      have hl := nowTo_len (at_ := n) (fun p hp => (HG.out.waits p hp).2) H64.out m.waits.length (by omega)
      rw [e1] at hl
      have HNL := Lib.hid hl
      have hmk : ∀ w : World, (Instr.makeSlice 76 (.int .i64 64) (.int .i64 64)).run Try.prog w = .ok (.slice (some ⟨w.heap.size, 0, none⟩) 64 64) (w.alloc (.cells zSec 5)) := fun w => by kernel_rfl
      have C1 := Lib.hid (show (secCells (m.now n)).length = Nat.min 64 64 by rw [secCells_len, hl]; rfl)
      have C2 := Lib.hid (show ∀ j v, (secCells (m.now n))[j]? = some v → wr.cell? ((⟨w.heap.size, 0, none⟩ : Addr).add j) = some v from fun j v hv => by
        rw [Addr.add_mid, Nat.zero_add, HR1.out.cell j]; exact hv)
      have C3 := Lib.hid (show 0 + (secCells (m.now n)).length ≤ zSec.size by rw [secCells_len, hl]; exact Nat.le_refl _)
      have C4 := Lib.hid (show (zSec.toList.take 0 ++ (secCells (m.now n) ++ zSec.toList.drop (0 + (secCells (m.now n)).length))).toArray = outCells (m.now n) by
        rw [List.take_zero, List.nil_append, List.drop_of_length_le (by rw [secCells_len, hl]; exact Nat.le_refl _), List.append_nil]; rfl)
      have hNr := HB.out.size
      clear hl e1 hk
      go_wp2_with (refine wpList_copy_new rfl (.tmp 45) (.tmp 46) 76 76 rfl Try.underlying76 u8_size _ 0 64 64 ⟨w.heap.size, 0, none⟩ _ _ rfl rfl zSec _ (secCells (m.now n)) C1.out C2.out C3.out (sec_one _) (outCells (m.now n)) C4.out ?_)
      go_ret2
      refine ⟨wr.heap.size, rfl, hNr, ?_, HB.out.alloc hNr _⟩
      exact Row.new wr 5 (outCells (m.now n))

set_option maxHeartbeats 2000000 in
theorem read_at {w : World} {F : Nat → Prop} {g L : Nat} {wv : Value} {m : DS} (h : DiskIn w F g L wv m) (i : Int) (hwl : m.waits.length ≤ 1000000) :
    Calls Try.prog 54 #[.pointer (some ⟨g, 0, none⟩), .int .i64 i] w fun e w' =>
      (if i < 0 ∨ m.secs.length ≤ i then e = .returned (.tuple #[.slice none 0 0, .int .i64 3]) else if m.down then e = .returned (.tuple #[.slice none 0 0, .int .i64 8])
        else ∃ b, e = .returned (.tuple #[.slice (some ⟨b, 0, none⟩) 64 64, .int .i64 0]) ∧ w.heap.size ≤ b ∧ Row w' b 5 ((m.now i.toNat).map (.int .u8))) ∧ Below w.heap.size w w' := by
  have hw := wrong_at h i
  by_cases hi : i < 0 ∨ m.secs.length ≤ i
  · simp only [if_pos hi] at hw ⊢
    have HW := Lib.hid hw
    clear hw hi h
    go_enter Try.func54, Try.ntmps54
    go_wp2_with (fail)
    refine HW.out.mono ?_; rintro e w' ⟨rfl, rfl⟩
    go_wp2_with (fail)
    go_ret2
    exact ⟨rfl, Below.refl _ _⟩
  · simp only [if_neg hi] at hw ⊢
    cases hd : m.down
    · obtain ⟨n, rfl⟩ := Int.eq_ofNat_of_zero_le (show 0 ≤ i by omega)
      refine (read_yes h n (by omega) hd hwl).mono ?_
      rintro e w' ⟨b, h1, h2, h3, h4⟩
      exact ⟨by simpa using ⟨b, h1, h2, h3⟩, h4⟩
    · simp only [if_true]
      obtain ⟨c0, c1, c2, c3⟩ := h.read
      rw [hd] at c3
      have HW := Lib.hid hw
      clear hw hi h hd c0 c1 c2
      go_enter Try.func54, Try.ntmps54
      go_wp2_with (fail)
      refine HW.out.mono ?_; rintro e w' ⟨rfl, rfl⟩
      go_wp2_with (fail)
      go_ret2
      exact ⟨rfl, Below.refl _ _⟩
set_option maxHeartbeats 1000000 in
theorem read_nil (w : World) (i : Int) : Calls Try.prog 54 #[.pointer none, .int .i64 i] w fun e w' => e = .returned (.tuple #[.slice none 0 0, .int .i64 7]) ∧ w = w' := by
  have HW := Lib.hid (wrong_nil w i)
  go_enter Try.func54, Try.ntmps54
  go_wp2_with (fail)
  refine HW.out.mono ?_; rintro e w' ⟨rfl, rfl⟩
  go_wp2_with (fail)
  go_ret2
  exact ⟨rfl, rfl⟩

end Go.Proofs.Ytooagoikiafgcaa.disk
