/-
  PROVED HERE: a slot in memory: Bytes.
  CONDITIONS: each contract names its own.
-/
import Derived.Test.YtooagoikiafgcaaStageOpen
namespace Go.Proofs.Ytooagoikiafgcaa.stage
set_option linter.unusedVariables false
open Go.RowKit Go.ChangeShapes Go.WideShapes Go.ChangeAt Go.Deep Go.Joins Go.Proofs.Ytooagoikiafgcaa.base Go.Proofs.Ytooagoikiafgcaa.obj Go.Proofs.Ytooagoikiafgcaa.mem Go.Proofs.Ytooagoikiafgcaa.crc Go.Proofs.Ytooagoikiafgcaa.disk Go.Proofs.Ytooagoikiafgcaa.record Go.Proofs.Ytooagoikiafgcaa.bits Go.Proofs.Ytooagoikiafgcaa.sep Go.Proofs.Ytooagoikiafgcaa.plan Go.Proofs.Ytooagoikiafgcaa.bytes

theorem first_all (h n : Int) (w : World) (ha : ∀ j, j < heldN n → bitb h j = true) : Calls Try.prog 83 #[.int .i64 h, .int .i64 n] w fun e w' => e = .returned (.tuple #[.int .i64 0, .bool false]) ∧ Below w.heap.size w w' :=
  (first_any h n w).mono fun e w' ⟨h1, h2⟩ => ⟨by
    rcases h1 with ⟨k, hk, hb, _⟩ | ⟨_, e⟩
    · rw [ha k hk] at hb; exact absurd hb (by decide)
    · exact e, h2⟩
theorem first_not (h n : Int) (w : World) (ha : ¬ ∀ j, j < heldN n → bitb h j = true) : Calls Try.prog 83 #[.int .i64 h, .int .i64 n] w fun e w' => (∃ k : Nat, e = .returned (.tuple #[.int .i64 k, .bool true])) ∧ Below w.heap.size w w' :=
  (first_any h n w).mono fun e w' ⟨h1, h2⟩ => ⟨by
    rcases h1 with ⟨k, _, _, _, e⟩ | ⟨h, _⟩
    · exact ⟨k, e⟩
    · exact absurd h ha, h2⟩
set_option maxHeartbeats 1000000 in
theorem bytes_nil (w : World) : Calls Try.prog 41 #[.pointer none] w fun e w' => e = .returned (.tuple #[.slice none 0 0, .int .i64 7]) ∧ w' = w := by
  go_enter Try.func41, Try.ntmps41
  go_wp2_with (fail)
  go_ret2
  exact ⟨rfl, rfl⟩
set_option maxHeartbeats 1000000 in
theorem bytes_not {w : World} {g d : Nat} {p k : Int} {s : SlS} (h : Row w g 157 (sltCells d p k s)) (hh : s.has = false) : Calls Try.prog 41 #[.pointer (some ⟨g, 0, none⟩)] w fun e w' => e = .returned (.tuple #[.slice none 0 0, .int .i64 16]) ∧ w' = w := by
  obtain ⟨c0, c1, c2, c3, c4, c5, c6, lg⟩ := slt_read h
  rw [hh] at c3
  clear h
  go_enter Try.func41, Try.ntmps41
  go_wp2_with (fail)
  go_ret2
  exact ⟨rfl, rfl⟩

set_option maxRecDepth 100000 in
set_option maxHeartbeats 4000000 in
theorem bytes_missing {w : World} {g d : Nat} {p k : Int} {s : SlS} (h : Row w g 157 (sltCells d p k s)) (hh : s.has = true) (hr : s.st.right = true) (ha : ¬ allIn s) :
    Calls Try.prog 41 #[.pointer (some ⟨g, 0, none⟩)] w fun e w' => e = .returned (.tuple #[.slice none 0 0, .int .i64 11]) ∧ Below w.heap.size w w' := by
  obtain ⟨⟨z1, z2⟩, ⟨z3, z4⟩, z5, z6⟩ := stg_in hr
  have hheld : heldN ((blocksN s.st.size : Nat) : Int) = blocksN s.st.size := by unfold heldN blocksN; omega
  have HF := Lib.hid (fun w => first_not s.st.have_ ((blocksN s.st.size : Nat) : Int) w (by rw [hheld]; exact ha))
  have HB := Lib.hid (fun w => record.blocks_at w s.st.size (by omega) (by omega))
  obtain ⟨c0, c1, c2, c3, c4, c5, c6, lg⟩ := slt_read h
  rw [hh] at c3
  obtain ⟨b, hb⟩ : ∃ b, b = blocksN s.st.size := ⟨_, rfl⟩
  rw [← hb] at HF HB
  clear h hh hr ha hheld hb z1 z2 z3 z4 z5 z6
  go_enter Try.func41, Try.ntmps41
  go_wp2_with (fail)
  go_region_held3 (fun w' => w'.cell? ⟨g, 5, none⟩ = some (.int .i64 s.st.size) ∧ w'.cell? ⟨g, 6, none⟩ = some (.int .i64 s.st.have_)) (first | go_keep | (refine ⟨?_, ?_⟩ <;> (refine cell_below HB1.out ?_; go_simp))) (first
    | ((with_reducible refine (HB.out _).mono ?_); rintro e w1 ⟨rfl, rfl⟩)
    | ((with_reducible refine (HF.out _).mono ?_); rintro e w1 ⟨⟨x, rfl⟩, hb⟩; have HB1 := Lib.hid hb; clear hb))
  go_wp2_with (fail)
  go_ret2
  exact ⟨rfl, ⟨HB1.out.os, HB1.out.tape, HB1.out.output, HB1.out.size, HB1.out.block⟩⟩

theorem own_row {w0 w : World} {l : List Asn} {e size z c : Nat} {A : Option Addr} {L : List Value} (h : St w0 w (sep.own e size (.slice A z c) z L :: l)) (hz : 0 < z) : ∃ (t : Nat) (xs : List Value), A = some ⟨t, 0, none⟩ ∧ z ≤ c ∧ xs.length = c * size ∧ xs.take (z * size) = L ∧ St w0 w (row t e xs :: l) := by
  obtain ⟨F, ⟨F1, F2, h1, h2, h3, h4⟩, k⟩ := h.sat
  obtain ⟨⟨_, hv⟩, hF⟩ := h1
  rcases hv with ⟨_, h0⟩ | ⟨t, cap, cur, hv, hb, hg, hnc, hcm, hcs, htk⟩
  · omega
  · injection hv with hA _ hc
    subst hA; subst hc
    refine ⟨t, cur.toList, rfl, hnc, by simpa using hcs, htk, h.bel, F, ⟨F1, F2, ⟨?_, fun i => ?_⟩, h2, h3, h4⟩, k⟩
    · unfold Row
      simpa using hg
    · rw [hF i]
      simp [Value.ownBlock, eq_comm]
set_option maxRecDepth 100000 in
set_option maxHeartbeats 8000000 in
theorem bytes_at {w0 w : World} {l : List Asn} {g d : Nat} {m : DS} {p k : Int} {s : SlS} (h : St w0 w (slt g d p k s :: dsk d m :: l)) (hp : Pl m p k) (hh : s.has = true) (hr : s.st.right = true) (ha : allIn s) (hd : m.down = false) (hwl : m.waits.length ≤ 1000) :
    Calls Try.prog 41 #[.pointer (some ⟨g, 0, none⟩)] w fun e w' => ∃ (t : Nat) (xs : List Value), e = .returned (.tuple #[.slice (some ⟨t, 0, none⟩) s.st.size.toNat s.st.size.toNat, .int .i64 0]) ∧
      xs.take s.st.size.toNat = ((cat3 m p k).take s.st.size.toNat).map (.int .u8) ∧ St w0 w' (row t 5 xs :: slt g d p k s :: dsk d m :: l) := by
  obtain ⟨⟨z1, z2⟩, ⟨z3, z4⟩, z5, z6⟩ := stg_in hr
  have hheld : heldN ((blocksN s.st.size : Nat) : Int) = blocksN s.st.size := by unfold heldN blocksN; omega
  have HF := Lib.hid (fun w => first_all s.st.have_ ((blocksN s.st.size : Nat) : Int) w (by rw [hheld]; exact ha))
  have HB := Lib.hid (fun w => record.blocks_at w s.st.size (by omega) (by omega))
  obtain ⟨c0, c1, c2, c3, c4, c5, c6, lg⟩ := slt_read h.row.1
  rw [hh] at c3
  obtain ⟨b, hb⟩ : ∃ b, b = blocksN s.st.size := ⟨_, rfl⟩
  rw [← hb] at HF HB
  obtain ⟨n, hn⟩ : ∃ n : Nat, (n : Int) = s.st.size := ⟨s.st.size.toNat, by omega⟩
  have hnn : s.st.size.toNat = n := by omega
  rw [hnn]
  rw [← hn] at c5 HB
  have hn0 : 1 ≤ n := by omega
  have hn1 : n ≤ 160 := by omega
  have H := Lib.hid h; have HP := Lib.hid hp; have HD := Lib.hid hd; have HN := Lib.hid hn; have HH := Lib.hid hh
  clear h hh hr ha hheld hb z1 z2 z3 z4 z5 z6 hp hd hnn hn
  go_enter Try.func41, Try.ntmps41
  go_wp2_with (fail)
  go_region_held3 (fun w' => w'.cell? ⟨g, 5, none⟩ = some (.int .i64 (n : Int)) ∧ w'.cell? ⟨g, 6, none⟩ = some (.int .i64 s.st.have_)) (first | go_keep | (refine ⟨?_, ?_⟩ <;> (refine cell_below HB1.out ?_; go_simp))) (first
    | ((with_reducible refine (HB.out _).mono ?_); rintro e w1 ⟨rfl, rfl⟩)
    | ((with_reducible refine (HF.out _).mono ?_); rintro e w1 ⟨rfl, hb⟩; have HB1 := Lib.hid hb; clear hb))
  have H1 := Lib.hid (H.out.drew.below HB1.out)
  have HI0 := Lib.hid (show St w0 w1 (sep.own 5 1 (.slice none 0 0) 0 (((cat3 m p k).take 0).map (.int .u8)) :: slt g d p k s :: dsk d m :: l) by
    refine H1.out.addOwn (Below.refl _ _) ?_
    rw [List.take_zero]
    exact World.ownsRow_nil _ _ _ _)
  clear c0 c1 c2 c3 c4 c5 c6 lg
  go_wp2_with (fail)
  go_loopw [6, 7] (fun v i wr => ∃ (q : Nat) (A : Option Addr) (c : Nat), q ≤ 3 ∧ (0 < q → 64 * (q - 1) < n) ∧ v = .slice A (64 * q) c ∧ i = .int .i64 q ∧ St w0 wr (sep.own 5 1 (.slice A (64 * q) c) (64 * q) (((cat3 m p k).take (64 * q)).map (.int .u8)) :: slt g d p k s :: dsk d m :: l)) (fun _ i _ => 3 - (intOf i).toNat)
  case atStart => exact ⟨0, none, 0, by omega, by omega, rfl, rfl, HI0.out⟩
  case round =>
    obtain ⟨q, A, c, hq, hq1, rfl, rfl, hi⟩ := hrel
    have HI := Lib.hid hi
    clear hi H1 HI0
    obtain ⟨c0, c1, c2, c3, c4, c5, c6, lg⟩ := slt_read (HI.out.pick 1 rfl).row.1
    rw [← HN.out] at c5
    obtain ⟨z, hz⟩ : ∃ z, z = 64 * q := ⟨_, rfl⟩
    have HZ := Lib.hid hz
    rw [← hz] at HI ⊢
    clear hz
    by_cases hlt : z < n
    · have hlt' : (z : Int) < (n : Int) := by omega
      have hq3 : q < 3 := by have := HZ.out; omega
      have HPK := Lib.hid HP.out.pk
      have HDA := Lib.hid (fun w => place.data_in p k (q : Int) w HPK.out.p0 HPK.out.p1 HPK.out.k0 HPK.out.k1 (by omega) (by omega))
      obtain ⟨at_, hat⟩ : ∃ at_, at_ = dAt p k (q : Int) := ⟨_, rfl⟩
      rw [show p * 10 + (2 + k * 4 + 1 + (q : Int)) = at_ by rw [hat]; rfl] at HDA
      obtain ⟨a0, a1⟩ := HP.out.at_ (i := (q : Int)) (by omega) (by omega)
      rw [← hat] at a0 a1
      obtain ⟨bs, hbs⟩ : ∃ bs, bs = m.now at_.toNat := ⟨_, rfl⟩
      have HBL := Lib.hid (show bs.length = 64 by rw [hbs]; exact HP.out.good.now_len (by omega))
      have HRD := Lib.hid (fun (w1 : World) (ls : List Asn) (h1 : St w0 w1 (dsk d m :: ls)) => by
        have h := dsk_read h1 at_ at_.toNat (by omega) (by omega) HD.out (by omega)
        rw [← hbs] at h
        exact h)
      have HCAT := Lib.hid (show (cat3 m p k).take z ++ bs = (cat3 m p k).take (64 * (q + 1)) by
        rw [HZ.out, hbs, hat, Nat.mul_succ, List.take_add]
        congr 1
        unfold cat3
        have l0 := HP.out.len (i := 0) (by omega) (by omega)
        have l1 := HP.out.len (i := 1) (by omega) (by omega)
        have l2 := HP.out.len (i := 2) (by omega) (by omega)
        have hq' : q = 0 ∨ q = 1 ∨ q = 2 := by omega
        rcases hq' with rfl | rfl | rfl
        · rw [List.drop_zero, List.take_append_of_le_length (by omega), List.take_of_length_le (by omega)]; rfl
        · rw [List.drop_append, List.drop_of_length_le (by omega), List.nil_append, l0, List.drop_zero, List.take_append_of_le_length (by omega), List.take_of_length_le (by omega)]; rfl
        · rw [List.drop_append, List.drop_of_length_le (by omega), List.nil_append, l0, List.drop_append, List.drop_of_length_le (by omega), List.nil_append, l1, List.drop_zero, List.take_of_length_le (by omega)]; rfl)
      clear hat hbs
      go_wp2_with (fail)
      go_region_held3 (fun w' => w'.cell? ⟨g, 1, none⟩ = some (.int .i64 p) ∧ w'.cell? ⟨g, 2, none⟩ = some (.int .i64 k)) (first | go_keep | (refine ⟨?_, ?_⟩ <;> (refine cell_below HB2.out ?_; go_simp))) (((with_reducible refine (HDA.out _).mono ?_); rintro e w2 ⟨rfl, hb⟩; have HB2 := Lib.hid hb; clear hb))
      have H2 := Lib.hid (HI.out.drew.below HB2.out)
      clear c0 c1 c2 c3 c4 c5 c6 lg
      obtain ⟨c0, c1, c2, c3, c4, c5, c6, lg⟩ := slt_read (H2.out.pick 1 rfl).row.1
      go_wp2_with (fail)
      refine (HRD.out _ _ (H2.out.pick 2 rfl)).mono ?_
      rintro e w3 ⟨t, rfl, h3⟩
      have H3 := Lib.hid (h3.pick 2 rfl)
      clear h3
      have HSB := Lib.hid (byte_sl (H3.out.pick 1 rfl).row.1 HBL.out)
      clear c0 c1 c2 c3 c4 c5 c6 lg
      go_wp2_with (refine app_row slB rfl (.tmp 72) (.tmp 73) rfl H3.out.own rfl rfl HSB.out (u8s_one bs) (by omega) (by omega) (by unfold maxLen; omega) (H3.out.bel.size) ?_; intro g2 cap w4 ho hg hor hlt4; have H4 := Lib.hid (H3.out.grown hg ho (fun x hx => by injection hx with hx; rw [← hx]; exact hor)); clear ho hg hor)
      go_roundw
      case rel => exact ⟨q + 1, some ⟨g2, 0, none⟩, cap, by omega, fun _ => by have := HZ.out; rw [Nat.add_sub_cancel]; omega, by rw [HZ.out, Nat.mul_succ], by go_num, by
        have h := H4.out
        rw [← List.map_append, HCAT.out, show z + 64 = 64 * (q + 1) by rw [HZ.out, Nat.mul_succ]] at h
        exact ((h.pick 1 rfl).drop.pick 2 rfl).swap⟩
      case measure => simp [intOf] <;> omega
    · have hge : n ≤ z := by omega
      have hlt' : ¬ (z : Int) < (n : Int) := by omega
      have hsz : s.st.size = (n : Int) := HN.out.symm
      have HAC := Lib.hid (own_form HI.out.own)
      have hzc : z ≤ c := by
        obtain ⟨A', c', e, hc, _⟩ := HAC.out
        injection e with _ _ e
        omega
      clear hsz
      go_wp2_with (fail)
      go_quiet (fail)
      go_wp2_with (fail)
      go_ret2
      obtain ⟨t, xs, hA, _, _, hxs, hst⟩ := own_row HI.out (by omega)
      subst hA
      refine ⟨t, xs, rfl, ?_, hst.drewN nq⟩
      have h := congrArg (List.take n) hxs
      rw [Nat.mul_one, List.take_take, Nat.min_eq_left hge, ← List.map_take, List.take_take, Nat.min_eq_left hge] at h
      exact h
end Go.Proofs.Ytooagoikiafgcaa.stage

namespace Go.Proofs.Ytooagoikiafgcaa.stage
set_option linter.unusedVariables false
open Go.RowKit Go.ChangeShapes Go.WideShapes Go.ChangeAt Go.Deep Go.Joins Go.Proofs.Ytooagoikiafgcaa.base Go.Proofs.Ytooagoikiafgcaa.obj Go.Proofs.Ytooagoikiafgcaa.mem Go.Proofs.Ytooagoikiafgcaa.crc Go.Proofs.Ytooagoikiafgcaa.disk Go.Proofs.Ytooagoikiafgcaa.record Go.Proofs.Ytooagoikiafgcaa.bits Go.Proofs.Ytooagoikiafgcaa.sep Go.Proofs.Ytooagoikiafgcaa.plan Go.Proofs.Ytooagoikiafgcaa.bytes

/-- the first n bytes of a fill -/
def fillL (y : Int) (n : Nat) : List Int := (List.range n).map fun i : Nat => (y + 3 * (i : Int)) % 256
theorem fillL_length (y : Int) (n : Nat) : (fillL y n).length = n := by simp [fillL]
theorem fillL_succ (y : Int) (n : Nat) : fillL y (n + 1) = fillL y n ++ [(y + 3 * (n : Int)) % 256] := by simp [fillL, List.range_succ]
theorem fillL_byt (y : Int) (n : Nat) : Byt (fillL y n) := fun z hz => by
  obtain ⟨i, _, rfl⟩ := List.mem_map.1 hz
  omega
theorem take_set {l : List Value} {q : Nat} (hq : q < l.length) (v : Value) : (l.set q v).take (q + 1) = l.take q ++ [v] := by
  rw [List.take_succ_eq_append_getElem (by simpa using hq)]
  simp [List.take_set_of_le]
theorem make16 (w : World) : (Instr.makeSlice 76 (.int .i64 16) (.int .i64 16)).run Try.prog w = .ok (.slice (some ⟨w.heap.size, 0, none⟩) 16 16) (w.alloc (.cells (Array.replicate 16 (.int .u8 0)) 5)) := by
  have h := make_eq 16 (by decide) w
  rw [show ((16 : Nat) : Int) = 16 from rfl] at h
  rw [h]
  rfl
/-- how many bytes -/
def fillN (long : Bool) : Nat := if long then 17 else 16

set_option maxRecDepth 100000 in
set_option maxHeartbeats 4000000 in
theorem fill_at (w : World) (y : Int) (hy0 : 0 ≤ y) (hy1 : y ≤ 255) (long : Bool) :
    Calls Try.prog 40 #[.int .u8 y, .bool long] w fun e w' => ∃ g c xs, e = .returned (.slice (some ⟨g, 0, none⟩) (fillN long) c) ∧ w.heap.size ≤ g ∧ (fillN long ≤ c ∧ c ≤ maxLen) ∧ xs.length = c ∧ Row w' g 5 xs ∧ xs.take (fillN long) = (fillL y (fillN long)).map (.int .u8) ∧ Below w.heap.size w w' := by
  have hmk := make16
  have HZ := Lib.hid ((St.nil w).new 5 (Array.replicate 16 (.int .u8 0)))
  cases long with
  | false =>
    go_enter Try.func40, Try.ntmps40
    go_wp2_with (fail)
    go_loopw [6, 14] (fun _ i wr => ∃ (q : Nat) (xs : List Value), q ≤ 16 ∧ i = .int .i64 q ∧ xs.length = 16 ∧ xs.take q = (fillL y q).map (.int .u8) ∧ St w wr [row w.heap.size 5 xs]) (fun _ i _ => 16 - (intOf i).toNat)
    case atStart => exact ⟨0, _, by omega, rfl, by simp, by simp [fillL], HZ.out⟩
    case round =>
      obtain ⟨q, xs, hq, rfl, hxl, hxt, hi⟩ := hrel
      have HI := Lib.hid hi; have HT := Lib.hid hxt; have HL := Lib.hid hxl
      clear hi hxt hxl
      by_cases hlt : q < 16
      · have hlt' : (q : Int) < 16 := by omega
        have hq0 : (0 : Int) ≤ (q : Int) := by omega
        have fq := HI.out.row.1.frozen q
        have cq : wr.cell? ⟨w.heap.size, q, none⟩ = some (xs[q]'(by rw [HL.out]; exact hlt)) := by rw [HI.out.row.1.cell q]; exact List.getElem?_eq_getElem _
        have lq := HI.out.row.1.lt
        go_wp2_with (fail)
        go_roundw
        case rel => exact ⟨q + 1, _, by omega, by go_num, by rw [List.length_set]; exact HL.out, by rw [take_set (by rw [HL.out]; exact hlt), HT.out, fillL_succ]; simp, HI.out.set q _⟩
        case measure => simp [intOf] <;> omega
      · obtain rfl : q = 16 := by omega
        go_wp2_with (fail)
        go_ret
        exact ⟨_, _, xs, rfl, HI.out.row.2, ⟨Nat.le_refl _, by unfold maxLen; omega⟩, HL.out, HI.out.row.1, HT.out, HI.out.bel⟩
  | true =>
    have HO := Lib.hid (show St w _ (sep.own 5 1 (.slice (some ⟨w.heap.size, 0, none⟩) 16 16) 16 _ :: row (w.heap.size + 1) 5 (([0] : List Int).map (.int .u8)) :: []) by
      have h := (HZ.out.new 5 #[.int .u8 0]).pick 1 rfl
      rw [show (w.alloc (.cells (Array.replicate 16 (.int .u8 0)) 5)).heap.size = w.heap.size + 1 by simp] at h
      exact h.new_row_own (size := 1) (n := 16) (cap := 16) (by omega) (by unfold maxLen; omega) (by simp))
    go_enter Try.func40, Try.ntmps40
    go_wp2_with (refine app_row slB rfl (.tmp 9) (.tmp 10) rfl HO.out.own rfl rfl (byte_sl (l := [0]) (n := 1) (HO.out.pick 1 rfl).row.1 rfl) (by intro u hu; simp at hu; subst hu; rfl) (by omega) (by omega) (by unfold maxLen; omega) (HO.out.bel.size) ?_; intro g2 cap w4 ho hg hor hlt4; have H4 := Lib.hid (HO.out.grown hg ho (fun x hx => by injection hx with hx; rw [← hx]; exact hor)); clear ho hg hor)
    have HCM := Lib.hid (show cap ≤ maxLen by
      obtain ⟨A', c', e, _, hm⟩ := own_form H4.out.own
      injection e with _ _ e
      rw [e]; exact hm)
    obtain ⟨t, xs0, hA, hc17, hl, _, hst⟩ := own_row H4.out (by omega)
    injection hA with hA
    injection hA with hA
    subst hA
    have HR := Lib.hid (hst.take 1); have HCL := Lib.hid (show xs0.length = cap by rw [hl, Nat.mul_one]); have HC17 := Lib.hid (show 17 ≤ cap from hc17)
    clear hst hl hc17
    go_loopw [6, 14] (fun _ i wr => ∃ (q : Nat) (xs : List Value), q ≤ 17 ∧ i = .int .i64 q ∧ xs.length = cap ∧ xs.take q = (fillL y q).map (.int .u8) ∧ St w wr [row g2 5 xs]) (fun _ i _ => 17 - (intOf i).toNat)
    case atStart => exact ⟨0, xs0, by omega, rfl, HCL.out, by simp [fillL], HR.out⟩
    case round =>
      obtain ⟨q, xs, hq, rfl, hxl, hxt, hi⟩ := hrel
      have HI := Lib.hid hi; have HT := Lib.hid hxt; have HL := Lib.hid hxl
      clear hi hxt hxl
      by_cases hlt : q < 17
      · have hlt' : (q : Int) < 17 := by omega
        have hq0 : (0 : Int) ≤ (q : Int) := by omega
        have hqc : q < xs.length := by rw [HL.out]; have := HC17.out; omega
        have fq := HI.out.row.1.frozen q
        have cq : wr.cell? ⟨g2, q, none⟩ = some (xs[q]'hqc) := by rw [HI.out.row.1.cell q]; exact List.getElem?_eq_getElem _
        have lq := HI.out.row.1.lt
        go_wp2_with (fail)
        go_roundw
        case rel => exact ⟨q + 1, _, by omega, by go_num, by rw [List.length_set]; exact HL.out, by rw [take_set hqc, HT.out, fillL_succ]; simp, HI.out.set q _⟩
        case measure => simp [intOf] <;> omega
      · obtain rfl : q = 17 := by omega
        go_wp2_with (fail)
        go_ret
        exact ⟨g2, cap, rfl, HI.out.row.2, ⟨HC17.out, HCM.out⟩, xs, HL.out, HI.out.row.1, HT.out, HI.out.bel⟩
/-- 'append' of at least one element onto a row of the call's own, guarded or not; where the new row lies -/
theorem app_rowW {P : Program} {t e size bytes : Nat} (T : SlT P t e size bytes) {ops : Array Oper} {rest : List Oper} {o : Oper} {a : Act} {Q : Exit → Act → World → Prop} {w : World} (hw : Region.wanted o (yielded ops a.tmps) = true) (s x : Operand)
    (ho : o.op = .call { callee := .builtin .append, args := #[s, x], argTypes := #[t, t] })
    {base : Nat} {v : Value} {n : Nat} {xs : List Value} (hown : w.ownsRow base e size v n xs) (hs : a.eval s = v) {B m c : Nat} {A : Option Addr} {ys : List Value} (hx : a.eval x = .slice A m c)
    (hr : Sl w B size A m ys) (h1 : ∀ u ∈ ys, u.oneCell' = true) (hm : 0 < m) (hb : (n + m) * bytes ≤ 140737488355328) (h63 : n + m ≤ maxLen) (hbase : base ≤ w.heap.size)
    (h : ∀ g cap w', w'.ownsRow base e size (.slice (some ⟨g, 0, none⟩) (n + m) cap) (n + m) (xs ++ ys) → w.grownBy w' v.ownBlock → (v.ownBlock = some g ∨ w.heap.size ≤ g) → g < w'.heap.size → wpList P ops Q rest (a.put o.dst (.slice (some ⟨g, 0, none⟩) (n + m) cap)) w') :
    wpList P ops Q (o :: rest) a w := by
  obtain ⟨i, z, hi, hz, h2, h3, h4⟩ := T.hi
  obtain ⟨b, off, rfl, _, hc⟩ := hr.2 hm
  unfold wpList
  rw [if_pos hw]
  refine .inl (wp_append_lies w s x t ho base e i z size bytes T.ht hi hz h2 h3 h4 T.hs v n xs hs hown ⟨b, off, none⟩ m c ys hx hr.1 (fun j u hu => ?_) h1 hm h63 hb hbase w.heap.size rfl ?_)
  · rw [Addr.add_mid]
    exact hc j u hu
  · intro g cap w' ho' hg' hor hlt
    exact h g cap w' ho' hg' (hor.imp id fun e => by omega) hlt
end Go.Proofs.Ytooagoikiafgcaa.stage

namespace Go.Proofs.Ytooagoikiafgcaa.stage
set_option linter.unusedVariables false
open Go.RowKit Go.ChangeShapes Go.WideShapes Go.ChangeAt Go.Deep Go.Joins Go.Proofs.Ytooagoikiafgcaa.base Go.Proofs.Ytooagoikiafgcaa.obj Go.Proofs.Ytooagoikiafgcaa.mem Go.Proofs.Ytooagoikiafgcaa.crc Go.Proofs.Ytooagoikiafgcaa.disk Go.Proofs.Ytooagoikiafgcaa.record Go.Proofs.Ytooagoikiafgcaa.bits Go.Proofs.Ytooagoikiafgcaa.sep Go.Proofs.Ytooagoikiafgcaa.plan Go.Proofs.Ytooagoikiafgcaa.bytes

theorem put_at {w0 w : World} {l : List Asn} {g d : Nat} {m : DS} {p k : Int} {s : SlS} (h : St w0 w (slt g d p k s :: dsk d m :: l)) (hp : Pl m p k) (hr : s.has = true → s.st.right = true) (hwl : m.waits.length ≤ 800) (se no : Int) (A : Option Addr) (n c : Nat) (data : List Int) (hn : data.length = n)
    (hs : ∀ w' m', St w0 w' (slt g d p k s :: dsk d m' :: l) → Sl w' w'.heap.size 1 A n (data.map (.int .u8))) :
    Calls Try.prog 39 #[.pointer (some ⟨g, 0, none⟩), .int .i64 se, .int .i64 no, .slice A n c] w fun e w' => e = .returned (.int .i64 (putM m p k s se no data).1) ∧ St w0 w' (slt g d p k (putM m p k s se no data).2.2 :: dsk d (putM m p k s se no data).2.1 :: l) := by
  by_cases hw : wrongE s se no n = 0
  · obtain ⟨hh, w1, w2, w3, w4⟩ := wrong_yes hw
    subst w4
    obtain ⟨q, rfl⟩ := Int.eq_ofNat_of_zero_le w2
    have hq : q < 16 := by
      have := (stg_in (hr hh)).2.1
      unfold blocksN at w3; omega
    cases hb : bitb s.st.have_ q with
    | true =>
      have e : putM m p k s se q data = (0, m, s) := by
        unfold putM
        rw [hn, if_neg (not_not_intro hw), Int.toNat_natCast, if_pos hb]
      rw [e]
      exact put_has h hr se q hq A 16 c hw hb
    | false => exact put_new h hp hr hwl se q A c data hn hs hw hb
  · have e : putM m p k s se no data = (wrongE s se no n, m, s) := by
      unfold putM
      rw [hn, if_pos hw]
    rw [e]
    exact put_wrong h hr se no A n c hw
/-- the assertion B tells a slice's bytes -/
def Gives (w0 : World) (B : Asn) (A : Option Addr) (n : Nat) (bs : List Int) : Prop := bs.length = n ∧ ∀ w l, St w0 w (B :: l) → Sl w w.heap.size 1 A n (bs.map (.int .u8))
theorem gives_row {w0 : World} {t n : Nat} {xs : List Value} {bs : List Int} (hl : bs.length = n) (hx : xs.take n = bs.map (.int .u8)) : Gives w0 (row t 5 xs) (some ⟨t, 0, none⟩) n bs :=
  ⟨hl, fun w l h => h.row.1.sl (o := 0) h.row.1.lt (by rw [List.drop_zero, Nat.mul_one, hx]) (by simpa using hl)⟩
theorem gives_nil (w0 : World) : Gives w0 (fact True) none 0 [] := ⟨rfl, fun w l h => Sl.nil_ _ _ _⟩
theorem bytesM_cases {m : DS} {p k : Int} {s : SlS} (hd : m.down = false) : (bytesM m p k s = ([], 16) ∧ s.has = false) ∨ (bytesM m p k s = ([], 11) ∧ s.has = true ∧ ¬ allIn s) ∨ (bytesM m p k s = ((cat3 m p k).take s.st.size.toNat, 0) ∧ s.has = true ∧ allIn s) := by
  unfold bytesM
  cases hh : s.has with
  | false => exact .inl ⟨rfl, rfl⟩
  | true =>
    rw [if_neg (show ¬ (true = false) by decide), hd]
    by_cases ha : allIn s
    · rw [if_neg (not_not_intro ha)]
      exact .inr (.inr ⟨rfl, rfl, ha⟩)
    · rw [if_pos ha]
      exact .inr (.inl ⟨rfl, rfl, ha⟩)
theorem cat3_len {m : DS} {p k : Int} (h : Pl m p k) : (cat3 m p k).length = 192 := by
  unfold cat3
  rw [List.length_append, List.length_append, h.len (by omega) (by omega), h.len (by omega) (by omega), h.len (by omega) (by omega)]
theorem bytes_st {w0 w : World} {l : List Asn} {g d : Nat} {m : DS} {p k : Int} {s : SlS} (h : St w0 w (slt g d p k s :: dsk d m :: l)) (hp : Pl m p k) (hr : s.has = true → s.st.right = true) (hd : m.down = false) (hwl : m.waits.length ≤ 1000) :
    Calls Try.prog 41 #[.pointer (some ⟨g, 0, none⟩)] w fun e w' => ∃ A n B, e = .returned (.tuple #[.slice A n n, .int .i64 (bytesM m p k s).2]) ∧ Gives w0 B A n (bytesM m p k s).1 ∧ St w0 w' (B :: slt g d p k s :: dsk d m :: l) := by
  rcases bytesM_cases (p := p) (k := k) (s := s) hd with ⟨e, hh⟩ | ⟨e, hh, ha⟩ | ⟨e, hh, ha⟩
  · rw [e]
    exact (bytes_not h.row.1 hh).mono fun e w' ⟨h1, h2⟩ => ⟨none, 0, fact True, h1, gives_nil _, by rw [h2]; exact h.addFact trivial⟩
  · rw [e]
    exact (bytes_missing h.row.1 hh (hr hh) ha).mono fun e w' ⟨h1, h2⟩ => ⟨none, 0, fact True, h1, gives_nil _, (h.below h2).addFact trivial⟩
  · rw [e]
    refine (bytes_at h hp hh (hr hh) ha hd hwl).mono fun e w' ⟨t, xs, h1, h2, h3⟩ => ⟨some ⟨t, 0, none⟩, _, row t 5 xs, h1, gives_row ?_ h2, h3⟩
    have := (stg_in (hr hh)).2.1
    rw [List.length_take, cat3_len hp]
    omega
theorem fill_st {w0 w : World} {l : List Asn} (h : St w0 w l) (y : Int) (hy0 : 0 ≤ y) (hy1 : y ≤ 255) (long : Bool) :
    Calls Try.prog 40 #[.int .u8 y, .bool long] w fun e w' => ∃ g c xs, e = .returned (.slice (some ⟨g, 0, none⟩) (fillN long) c) ∧ xs.length = c ∧ (fillN long ≤ c ∧ c ≤ maxLen) ∧ xs.take (fillN long) = (fillL y (fillN long)).map (.int .u8) ∧ Gives w0 (row g 5 xs) (some ⟨g, 0, none⟩) (fillN long) (fillL y (fillN long)) ∧ St w0 w' (row g 5 xs :: l) :=
  (fill_at w y hy0 hy1 long).mono fun e w' ⟨g, c, xs, h1, h2, h3, h4, h5, h6, h7⟩ => ⟨g, c, xs, h1, h4, h3, h6, gives_row (fillL_length _ _) h6, h.addRow h7 h5 h2⟩
/-- a blank disk's slot -/
theorem blank_si {n : Nat} (h0 : 1 ≤ n) (h1 : n ≤ 128) {p k : Int} (hr : hasRoom p k n = true) : SI (DS.new n) p k SlS.none RS.none Option.none ∧ openS (DS.new n) p k = SlS.none := by
  obtain ⟨hpk, hat⟩ := room_pk hr
  have hl : (DS.new n).secs.length = n := by simp [DS.new]
  have hpl : Pl (DS.new n) p k := ⟨DS.new_good h0 h1, DS.new_bts n, hpk.p0, hpk.p1, hpk.k0, hpk.k1, by rw [hl]; exact hat⟩
  have ho : openS (DS.new n) p k = SlS.none := open_zero (DS.new_now (by have := hpk.p0; have := hpk.k0; unfold dAt at hat; unfold sAt; omega))
  exact ⟨⟨hpl, none_mem, by simp [DS.new], fun _ => ⟨rfl, rfl, none_dat _ _ _, ho⟩, fun h => absurd (show false = true from h) (by decide)⟩, ho⟩
end Go.Proofs.Ytooagoikiafgcaa.stage
