/-
  PROVED HERE: a slot in memory: Bytes.
  CONDITIONS: each contract names its own.
-/
import Derived.Test.YtooagoikiafgcaaStageOpen
import Derived.Test.YtooagoikiafgcaaSame
import Derived.Test.YtooagoikiafgcaaLiftField
import Derived.Test.YtooagoikiafgcaaRefStage
import Derived.Test.YtooagoikiafgcaaBitsRef
import Derived.Laws.Rows
import Derived.Deep.QuietTactic
import Derived.BigQuiet
namespace Go.Proofs.Ytooagoikiafgcaa.stage
set_option linter.unusedVariables false
open Go.RowKit Go.ChangeShapes Go.WideShapes Go.ChangeAt Go.Deep Go.Joins Go.Proofs.Ytooagoikiafgcaa.base Go.Proofs.Ytooagoikiafgcaa.obj Go.Proofs.Ytooagoikiafgcaa.mem Go.Proofs.Ytooagoikiafgcaa.crc Go.Proofs.Ytooagoikiafgcaa.disk Go.Proofs.Ytooagoikiafgcaa.record Go.Proofs.Ytooagoikiafgcaa.bits Go.Proofs.Ytooagoikiafgcaa.sep Go.Proofs.Ytooagoikiafgcaa.plan Go.Proofs.Ytooagoikiafgcaa.bytes

theorem first_all (h n : Int) (w : World) (ha : ∀ j, j < heldN n → bitb h j = true) : Calls Try.prog 83 #[.int .i64 h, .int .i64 n] w fun e w' => e = .returned (.tuple #[.int .i64 0, .bool false]) ∧ Below w.heap.size w w' :=
  (first_any h n w).mono fun e w' ⟨h1, h2⟩ => ⟨by
    rcases h1 with ⟨k, hk, hb, _⟩ | ⟨_, e⟩
    · rw [ha k hk] at hb; exact absurd hb (by decide)
    · exact e, h2⟩
theorem first_not (h n : Int) (w : World) (ha : ¬ ∀ j, j < heldN n → bitb h j = true) : Calls Try.prog 83 #[.int .i64 h, .int .i64 n] w fun e w' => (∃ k : Nat, e = .returned (.tuple #[.int .i64 k, .bool true])) ∧ Below w.heap.size w w' :=
  (first_any h n w).mono fun e w' ⟨h1, h2⟩ => ⟨by
    rcases h1 with ⟨k, _, _, _, e⟩ | ⟨h, _⟩
    · exact ⟨k, e⟩
    · exact absurd h ha, h2⟩
set_option maxHeartbeats 1000000 in
theorem bytes_nil (w : World) : Calls Try.prog 41 #[.pointer none] w fun e w' => e = .returned (.tuple #[.slice none 0 0, .int .i64 7]) ∧ w' = w := by
  go_enter Try.func41, Try.ntmps41
  go_wp2_with (fail)
  go_ret2
  exact ⟨rfl, rfl⟩
set_option maxHeartbeats 1000000 in
theorem bytes_not {w : World} {g d : Nat} {p k : Int} {s : SlS} (h : Row w g 157 (sltCells d p k s)) (hh : s.has = false) : Calls Try.prog 41 #[.pointer (some ⟨g, 0, none⟩)] w fun e w' => e = .returned (.tuple #[.slice none 0 0, .int .i64 16]) ∧ w' = w := by
  obtain ⟨c0, c1, c2, c3, c4, c5, c6, lg⟩ := slt_read h
  rw [hh] at c3
  clear h
  go_enter Try.func41, Try.ntmps41
  go_wp2_with (fail)
  go_ret2
  exact ⟨rfl, rfl⟩

set_option maxRecDepth 100000 in
set_option maxHeartbeats 4000000 in
theorem bytes_missing {w : World} {g d : Nat} {p k : Int} {s : SlS} (h : Row w g 157 (sltCells d p k s)) (hh : s.has = true) (hr : s.st.right = true) (ha : ¬ allIn s) :
    Calls Try.prog 41 #[.pointer (some ⟨g, 0, none⟩)] w fun e w' => e = .returned (.tuple #[.slice none 0 0, .int .i64 11]) ∧ Below w.heap.size w w' := by
  obtain ⟨⟨z1, z2⟩, ⟨z3, z4⟩, z5, z6⟩ := stg_in hr
  have hheld : heldN ((blocksN s.st.size : Nat) : Int) = blocksN s.st.size := by unfold heldN blocksN; omega
  have HF := Lib.hid (fun w => first_not s.st.have_ ((blocksN s.st.size : Nat) : Int) w (by rw [hheld]; exact ha))
  have HB := Lib.hid (fun w => record.blocks_at w s.st.size (by omega) (by omega))
  obtain ⟨c0, c1, c2, c3, c4, c5, c6, lg⟩ := slt_read h
  rw [hh] at c3
  obtain ⟨b, hb⟩ : ∃ b, b = blocksN s.st.size := ⟨_, rfl⟩
  rw [← hb] at HF HB
  clear h hh hr ha hheld hb z1 z2 z3 z4 z5 z6
  go_enter Try.func41, Try.ntmps41
  go_wp2_with (fail)
  go_region_held3 (fun w' => w'.cell? ⟨g, 5, none⟩ = some (.int .i64 s.st.size) ∧ w'.cell? ⟨g, 6, none⟩ = some (.int .i64 s.st.have_)) (first | go_keep | (refine ⟨?_, ?_⟩ <;> (refine cell_below HB1.out ?_; go_simp))) (first
    | ((with_reducible refine (HB.out _).mono ?_); rintro e w1 ⟨rfl, rfl⟩)
    | ((with_reducible refine (HF.out _).mono ?_); rintro e w1 ⟨⟨x, rfl⟩, hb⟩; have HB1 := Lib.hid hb; clear hb))
  go_wp2_with (fail)
  go_ret2
  exact ⟨rfl, ⟨HB1.out.os, HB1.out.tape, HB1.out.output, HB1.out.size, HB1.out.block⟩⟩

theorem own_row {w0 w : World} {l : List Asn} {e size z c : Nat} {A : Option Addr} {L : List Value} (h : St w0 w (sep.own e size (.slice A z c) z L :: l)) (hz : 0 < z) : ∃ (t : Nat) (xs : List Value), A = some ⟨t, 0, none⟩ ∧ z ≤ c ∧ xs.length = c * size ∧ xs.take (z * size) = L ∧ St w0 w (row t e xs :: l) := by
  obtain ⟨F, ⟨F1, F2, h1, h2, h3, h4⟩, k⟩ := h.sat
  obtain ⟨⟨_, hv⟩, hF⟩ := h1
  rcases hv with ⟨_, h0⟩ | ⟨t, cap, cur, hv, hb, hg, hnc, hcm, hcs, htk⟩
  · omega
  · injection hv with hA _ hc
    subst hA; subst hc
    refine ⟨t, cur.toList, rfl, hnc, by simpa using hcs, htk, h.bel, F, ⟨F1, F2, ⟨?_, fun i => ?_⟩, h2, h3, h4⟩, k⟩
    · unfold Row
      simpa using hg
    · rw [hF i]
      simp [Value.ownBlock, eq_comm]
set_option maxRecDepth 100000 in
set_option maxHeartbeats 8000000 in
theorem bytes_at {w0 w : World} {l : List Asn} {g d : Nat} {m : DS} {p k : Int} {s : SlS} (h : St w0 w (slt g d p k s :: dsk d m :: l)) (hp : Pl m p k) (hh : s.has = true) (hr : s.st.right = true) (ha : allIn s) (hd : m.down = false) (hwl : m.waits.length ≤ 1000) :
    Calls Try.prog 41 #[.pointer (some ⟨g, 0, none⟩)] w fun e w' => ∃ (t : Nat) (xs : List Value), e = .returned (.tuple #[.slice (some ⟨t, 0, none⟩) s.st.size.toNat s.st.size.toNat, .int .i64 0]) ∧
      xs.take s.st.size.toNat = ((cat3 m p k).take s.st.size.toNat).map (.int .u8) ∧ St w0 w' (row t 5 xs :: slt g d p k s :: dsk d m :: l) := by
  obtain ⟨⟨z1, z2⟩, ⟨z3, z4⟩, z5, z6⟩ := stg_in hr
  have hheld : heldN ((blocksN s.st.size : Nat) : Int) = blocksN s.st.size := by unfold heldN blocksN; omega
  have HF := Lib.hid (fun w => first_all s.st.have_ ((blocksN s.st.size : Nat) : Int) w (by rw [hheld]; exact ha))
  have HB := Lib.hid (fun w => record.blocks_at w s.st.size (by omega) (by omega))
  obtain ⟨c0, c1, c2, c3, c4, c5, c6, lg⟩ := slt_read h.row.1
  rw [hh] at c3
  obtain ⟨b, hb⟩ : ∃ b, b = blocksN s.st.size := ⟨_, rfl⟩
  rw [← hb] at HF HB
  obtain ⟨n, hn⟩ : ∃ n : Nat, (n : Int) = s.st.size := ⟨s.st.size.toNat, by omega⟩
  have hnn : s.st.size.toNat = n := by omega
  rw [hnn]
  rw [← hn] at c5 HB
  have hn0 : 1 ≤ n := by omega
  have hn1 : n ≤ 160 := by omega
  have H := Lib.hid h; have HP := Lib.hid hp; have HD := Lib.hid hd; have HN := Lib.hid hn; have HH := Lib.hid hh
  clear h hh hr ha hheld hb z1 z2 z3 z4 z5 z6 hp hd hnn hn
  go_enter Try.func41, Try.ntmps41
  go_wp2_with (fail)
  go_region_held3 (fun w' => w'.cell? ⟨g, 5, none⟩ = some (.int .i64 (n : Int)) ∧ w'.cell? ⟨g, 6, none⟩ = some (.int .i64 s.st.have_)) (first | go_keep | (refine ⟨?_, ?_⟩ <;> (refine cell_below HB1.out ?_; go_simp))) (first
    | ((with_reducible refine (HB.out _).mono ?_); rintro e w1 ⟨rfl, rfl⟩)
    | ((with_reducible refine (HF.out _).mono ?_); rintro e w1 ⟨rfl, hb⟩; have HB1 := Lib.hid hb; clear hb))
  have H1 := Lib.hid (H.out.drew.below HB1.out)
  have HI0 := Lib.hid (show St w0 w1 (sep.own 5 1 (.slice none 0 0) 0 (((cat3 m p k).take 0).map (.int .u8)) :: slt g d p k s :: dsk d m :: l) by
    refine H1.out.addOwn (Below.refl _ _) ?_
    rw [List.take_zero]
    exact World.ownsRow_nil _ _ _ _)
  clear c0 c1 c2 c3 c4 c5 c6 lg
  go_wp2_with (fail)
  go_loopw [6, 7] (fun v i wr => ∃ (q : Nat) (A : Option Addr) (c : Nat), q ≤ 3 ∧ (0 < q → 64 * (q - 1) < n) ∧ v = .slice A (64 * q) c ∧ i = .int .i64 q ∧ St w0 wr (sep.own 5 1 (.slice A (64 * q) c) (64 * q) (((cat3 m p k).take (64 * q)).map (.int .u8)) :: slt g d p k s :: dsk d m :: l)) (fun _ i _ => 3 - (intOf i).toNat)
  case atStart => exact ⟨0, none, 0, by omega, by omega, rfl, rfl, HI0.out⟩
  case round =>
    obtain ⟨q, A, c, hq, hq1, rfl, rfl, hi⟩ := hrel
    have HI := Lib.hid hi
    clear hi H1 HI0
    obtain ⟨c0, c1, c2, c3, c4, c5, c6, lg⟩ := slt_read (HI.out.pick 1 rfl).row.1
    rw [← HN.out] at c5
    obtain ⟨z, hz⟩ : ∃ z, z = 64 * q := ⟨_, rfl⟩
    have HZ := Lib.hid hz
    rw [← hz] at HI ⊢
    clear hz
    by_cases hlt : z < n
    · have hlt' : (z : Int) < (n : Int) := by omega
      have hq3 : q < 3 := by have := HZ.out; omega
      have HPK := Lib.hid HP.out.pk
      have HDA := Lib.hid (fun w => place.data_in p k (q : Int) w HPK.out.p0 HPK.out.p1 HPK.out.k0 HPK.out.k1 (by omega) (by omega))
      obtain ⟨at_, hat⟩ : ∃ at_, at_ = dAt p k (q : Int) := ⟨_, rfl⟩
      rw [show p * 10 + (2 + k * 4 + 1 + (q : Int)) = at_ by rw [hat]; rfl] at HDA
      obtain ⟨a0, a1⟩ := HP.out.at_ (i := (q : Int)) (by omega) (by omega)
      rw [← hat] at a0 a1
      obtain ⟨bs, hbs⟩ : ∃ bs, bs = m.now at_.toNat := ⟨_, rfl⟩
      have HBL := Lib.hid (show bs.length = 64 by rw [hbs]; exact HP.out.good.now_len (by omega))
      have HRD := Lib.hid (fun (w1 : World) (ls : List Asn) (h1 : St w0 w1 (dsk d m :: ls)) => by
        have h := dsk_read h1 at_ at_.toNat (by omega) (by omega) HD.out (by omega)
        rw [← hbs] at h
        exact h)
      have HCAT := Lib.hid (show (cat3 m p k).take z ++ bs = (cat3 m p k).take (64 * (q + 1)) by
        rw [HZ.out, hbs, hat, Nat.mul_succ, List.take_add]
        congr 1
        unfold cat3
        have l0 := HP.out.len (i := 0) (by omega) (by omega)
        have l1 := HP.out.len (i := 1) (by omega) (by omega)
        have l2 := HP.out.len (i := 2) (by omega) (by omega)
        have hq' : q = 0 ∨ q = 1 ∨ q = 2 := by omega
        rcases hq' with rfl | rfl | rfl
        · rw [List.drop_zero, List.take_append_of_le_length (by omega), List.take_of_length_le (by omega)]; rfl
        · rw [List.drop_append, List.drop_of_length_le (by omega), List.nil_append, l0, List.drop_zero, List.take_append_of_le_length (by omega), List.take_of_length_le (by omega)]; rfl
        · rw [List.drop_append, List.drop_of_length_le (by omega), List.nil_append, l0, List.drop_append, List.drop_of_length_le (by omega), List.nil_append, l1, List.drop_zero, List.take_of_length_le (by omega)]; rfl)
      clear hat hbs
      go_wp2_with (fail)
      go_region_held3 (fun w' => w'.cell? ⟨g, 1, none⟩ = some (.int .i64 p) ∧ w'.cell? ⟨g, 2, none⟩ = some (.int .i64 k)) (first | go_keep | (refine ⟨?_, ?_⟩ <;> (refine cell_below HB2.out ?_; go_simp))) (((with_reducible refine (HDA.out _).mono ?_); rintro e w2 ⟨rfl, hb⟩; have HB2 := Lib.hid hb; clear hb))
      have H2 := Lib.hid (HI.out.drew.below HB2.out)
      clear c0 c1 c2 c3 c4 c5 c6 lg
      obtain ⟨c0, c1, c2, c3, c4, c5, c6, lg⟩ := slt_read (H2.out.pick 1 rfl).row.1
      go_wp2_with (fail)
      refine (HRD.out _ _ (H2.out.pick 2 rfl)).mono ?_
      rintro e w3 ⟨t, rfl, h3⟩
      have H3 := Lib.hid (h3.pick 2 rfl)
      clear h3
      have HSB := Lib.hid (byte_sl (H3.out.pick 1 rfl).row.1 HBL.out)
      clear c0 c1 c2 c3 c4 c5 c6 lg
      go_wp2_with (refine app_row slB rfl (.tmp 72) (.tmp 73) rfl H3.out.own rfl rfl HSB.out (u8s_one bs) (by omega) (by omega) (by unfold maxLen; omega) (H3.out.bel.size) ?_; intro g2 cap w4 ho hg hor hlt4; have H4 := Lib.hid (H3.out.grown hg ho (fun x hx => by injection hx with hx; rw [← hx]; exact hor)); clear ho hg hor)
      go_roundw
      case rel => exact ⟨q + 1, some ⟨g2, 0, none⟩, cap, by omega, fun _ => by have := HZ.out; rw [Nat.add_sub_cancel]; omega, by rw [HZ.out, Nat.mul_succ], by go_num, by
        have h := H4.out
        rw [← List.map_append, HCAT.out, show z + 64 = 64 * (q + 1) by rw [HZ.out, Nat.mul_succ]] at h
        exact ((h.pick 1 rfl).drop.pick 2 rfl).swap⟩
      case measure => simp [intOf] <;> omega
    · have hge : n ≤ z := by omega
      have hlt' : ¬ (z : Int) < (n : Int) := by omega
      have hsz : s.st.size = (n : Int) := HN.out.symm
      have HAC := Lib.hid (own_form HI.out.own)
      have hzc : z ≤ c := by
        obtain ⟨A', c', e, hc, _⟩ := HAC.out
        injection e with _ _ e
        omega
      clear hsz
      go_wp2_with (fail)
      go_quiet (fail)
      go_wp2_with (fail)
      go_ret2
      obtain ⟨t, xs, hA, _, _, hxs, hst⟩ := own_row HI.out (by omega)
      subst hA
      refine ⟨t, xs, rfl, ?_, hst.drewN nq⟩
      have h := congrArg (List.take n) hxs
      rw [Nat.mul_one, List.take_take, Nat.min_eq_left hge, ← List.map_take, List.take_take, Nat.min_eq_left hge] at h
      exact h
end Go.Proofs.Ytooagoikiafgcaa.stage

namespace Go.Proofs.Ytooagoikiafgcaa.stage
set_option linter.unusedVariables false
open Go.RowKit Go.ChangeShapes Go.WideShapes Go.ChangeAt Go.Deep Go.Joins Go.Proofs.Ytooagoikiafgcaa.base Go.Proofs.Ytooagoikiafgcaa.obj Go.Proofs.Ytooagoikiafgcaa.mem Go.Proofs.Ytooagoikiafgcaa.crc Go.Proofs.Ytooagoikiafgcaa.disk Go.Proofs.Ytooagoikiafgcaa.record Go.Proofs.Ytooagoikiafgcaa.bits Go.Proofs.Ytooagoikiafgcaa.sep Go.Proofs.Ytooagoikiafgcaa.plan Go.Proofs.Ytooagoikiafgcaa.bytes

/-- the first n bytes of a fill -/
def fillL (y : Int) (n : Nat) : List Int := (List.range n).map fun i : Nat => (y + 3 * (i : Int)) % 256
theorem fillL_length (y : Int) (n : Nat) : (fillL y n).length = n := by simp [fillL]
theorem fillL_succ (y : Int) (n : Nat) : fillL y (n + 1) = fillL y n ++ [(y + 3 * (n : Int)) % 256] := by simp [fillL, List.range_succ]
theorem fillL_byt (y : Int) (n : Nat) : Byt (fillL y n) := fun z hz => by
  obtain ⟨i, _, rfl⟩ := List.mem_map.1 hz
  omega
theorem take_set {l : List Value} {q : Nat} (hq : q < l.length) (v : Value) : (l.set q v).take (q + 1) = l.take q ++ [v] := by
  rw [List.take_succ_eq_append_getElem (by simpa using hq)]
  simp [List.take_set_of_le]
theorem make16 (w : World) : (Instr.makeSlice 76 (.int .i64 16) (.int .i64 16)).run Try.prog w = .ok (.slice (some ⟨w.heap.size, 0, none⟩) 16 16) (w.alloc (.cells (Array.replicate 16 (.int .u8 0)) 5)) := by
  have h := make_eq 16 (by decide) w
  rw [show ((16 : Nat) : Int) = 16 from rfl] at h
  rw [h]
  rfl
/-- how many bytes -/
def fillN (long : Bool) : Nat := if long then 17 else 16

set_option maxRecDepth 100000 in
set_option maxHeartbeats 4000000 in
theorem fill_at (w : World) (y : Int) (hy0 : 0 ≤ y) (hy1 : y ≤ 255) (long : Bool) :
    Calls Try.prog 40 #[.int .u8 y, .bool long] w fun e w' => ∃ g c xs, e = .returned (.slice (some ⟨g, 0, none⟩) (fillN long) c) ∧ w.heap.size ≤ g ∧ (fillN long ≤ c ∧ c ≤ maxLen) ∧ xs.length = c ∧ Row w' g 5 xs ∧ xs.take (fillN long) = (fillL y (fillN long)).map (.int .u8) ∧ Below w.heap.size w w' := by
  have hmk := make16
  have HZ := Lib.hid ((St.nil w).new 5 (Array.replicate 16 (.int .u8 0)))
  cases long with
  | false =>
    go_enter Try.func40, Try.ntmps40
    go_wp2_with (fail)
    go_loopw [6, 14] (fun _ i wr => ∃ (q : Nat) (xs : List Value), q ≤ 16 ∧ i = .int .i64 q ∧ xs.length = 16 ∧ xs.take q = (fillL y q).map (.int .u8) ∧ St w wr [row w.heap.size 5 xs]) (fun _ i _ => 16 - (intOf i).toNat)
    case atStart => exact ⟨0, _, by omega, rfl, by simp, by simp [fillL], HZ.out⟩
    case round =>
      obtain ⟨q, xs, hq, rfl, hxl, hxt, hi⟩ := hrel
      have HI := Lib.hid hi; have HT := Lib.hid hxt; have HL := Lib.hid hxl
      clear hi hxt hxl
      by_cases hlt : q < 16
      · have hlt' : (q : Int) < 16 := by omega
        have hq0 : (0 : Int) ≤ (q : Int) := by omega
        have fq := HI.out.row.1.frozen q
        have cq : wr.cell? ⟨w.heap.size, q, none⟩ = some (xs[q]'(by rw [HL.out]; exact hlt)) := by rw [HI.out.row.1.cell q]; exact List.getElem?_eq_getElem _
        have lq := HI.out.row.1.lt
        go_wp2_with (fail)
        go_roundw
        case rel => exact ⟨q + 1, _, by omega, by go_num, by rw [List.length_set]; exact HL.out, by rw [take_set (by rw [HL.out]; exact hlt), HT.out, fillL_succ]; simp, HI.out.set q _⟩
        case measure => simp [intOf] <;> omega
      · obtain rfl : q = 16 := by omega
        go_wp2_with (fail)
        go_ret
        exact ⟨_, _, xs, rfl, HI.out.row.2, ⟨Nat.le_refl _, by unfold maxLen; omega⟩, HL.out, HI.out.row.1, HT.out, HI.out.bel⟩
  | true =>
    have HO := Lib.hid (show St w _ (sep.own 5 1 (.slice (some ⟨w.heap.size, 0, none⟩) 16 16) 16 _ :: row (w.heap.size + 1) 5 (([0] : List Int).map (.int .u8)) :: []) by
      have h := (HZ.out.new 5 #[.int .u8 0]).pick 1 rfl
      rw [show (w.alloc (.cells (Array.replicate 16 (.int .u8 0)) 5)).heap.size = w.heap.size + 1 by simp] at h
      exact h.new_row_own (size := 1) (n := 16) (cap := 16) (by omega) (by unfold maxLen; omega) (by simp))
    go_enter Try.func40, Try.ntmps40
    go_wp2_with (refine app_row slB rfl (.tmp 9) (.tmp 10) rfl HO.out.own rfl rfl (byte_sl (l := [0]) (n := 1) (HO.out.pick 1 rfl).row.1 rfl) (by intro u hu; simp at hu; subst hu; rfl) (by omega) (by omega) (by unfold maxLen; omega) (HO.out.bel.size) ?_; intro g2 cap w4 ho hg hor hlt4; have H4 := Lib.hid (HO.out.grown hg ho (fun x hx => by injection hx with hx; rw [← hx]; exact hor)); clear ho hg hor)
    have HCM := Lib.hid (show cap ≤ maxLen by
      obtain ⟨A', c', e, _, hm⟩ := own_form H4.out.own
      injection e with _ _ e
      rw [e]; exact hm)
    obtain ⟨t, xs0, hA, hc17, hl, _, hst⟩ := own_row H4.out (by omega)
    injection hA with hA
    injection hA with hA
    subst hA
    have HR := Lib.hid (hst.take 1); have HCL := Lib.hid (show xs0.length = cap by rw [hl, Nat.mul_one]); have HC17 := Lib.hid (show 17 ≤ cap from hc17)
    clear hst hl hc17
    go_loopw [6, 14] (fun _ i wr => ∃ (q : Nat) (xs : List Value), q ≤ 17 ∧ i = .int .i64 q ∧ xs.length = cap ∧ xs.take q = (fillL y q).map (.int .u8) ∧ St w wr [row g2 5 xs]) (fun _ i _ => 17 - (intOf i).toNat)
    case atStart => exact ⟨0, xs0, by omega, rfl, HCL.out, by simp [fillL], HR.out⟩
    case round =>
      obtain ⟨q, xs, hq, rfl, hxl, hxt, hi⟩ := hrel
      have HI := Lib.hid hi; have HT := Lib.hid hxt; have HL := Lib.hid hxl
      clear hi hxt hxl
      by_cases hlt : q < 17
      · have hlt' : (q : Int) < 17 := by omega
        have hq0 : (0 : Int) ≤ (q : Int) := by omega
        have hqc : q < xs.length := by rw [HL.out]; have := HC17.out; omega
        have fq := HI.out.row.1.frozen q
        have cq : wr.cell? ⟨g2, q, none⟩ = some (xs[q]'hqc) := by rw [HI.out.row.1.cell q]; exact List.getElem?_eq_getElem _
        have lq := HI.out.row.1.lt
        go_wp2_with (fail)
        go_roundw
        case rel => exact ⟨q + 1, _, by omega, by go_num, by rw [List.length_set]; exact HL.out, by rw [take_set hqc, HT.out, fillL_succ]; simp, HI.out.set q _⟩
        case measure => simp [intOf] <;> omega
      · obtain rfl : q = 17 := by omega
        go_wp2_with (fail)
        go_ret
        exact ⟨g2, cap, rfl, HI.out.row.2, ⟨HC17.out, HCM.out⟩, xs, HL.out, HI.out.row.1, HT.out, HI.out.bel⟩
/-- 'append' of at least one element onto a row of the call's own, guarded or not; where the new row lies -/
theorem app_rowW {P : Program} {t e size bytes : Nat} (T : SlT P t e size bytes) {ops : Array Oper} {rest : List Oper} {o : Oper} {a : Act} {Q : Exit → Act → World → Prop} {w : World} (hw : Region.wanted o (yielded ops a.tmps) = true) (s x : Operand)
    (ho : o.op = .call { callee := .builtin .append, args := #[s, x], argTypes := #[t, t] })
    {base : Nat} {v : Value} {n : Nat} {xs : List Value} (hown : w.ownsRow base e size v n xs) (hs : a.eval s = v) {B m c : Nat} {A : Option Addr} {ys : List Value} (hx : a.eval x = .slice A m c)
    (hr : Sl w B size A m ys) (h1 : ∀ u ∈ ys, u.oneCell' = true) (hm : 0 < m) (hb : (n + m) * bytes ≤ 140737488355328) (h63 : n + m ≤ maxLen) (hbase : base ≤ w.heap.size)
    (h : ∀ g cap w', w'.ownsRow base e size (.slice (some ⟨g, 0, none⟩) (n + m) cap) (n + m) (xs ++ ys) → w.grownBy w' v.ownBlock → (v.ownBlock = some g ∨ w.heap.size ≤ g) → g < w'.heap.size → wpList P ops Q rest (a.put o.dst (.slice (some ⟨g, 0, none⟩) (n + m) cap)) w') :
    wpList P ops Q (o :: rest) a w := by
  obtain ⟨i, z, hi, hz, h2, h3, h4⟩ := T.hi
  obtain ⟨b, off, rfl, _, hc⟩ := hr.2 hm
  unfold wpList
  rw [if_pos hw]
  refine .inl (wp_append_lies w s x t ho base e i z size bytes T.ht hi hz h2 h3 h4 T.hs v n xs hs hown ⟨b, off, none⟩ m c ys hx hr.1 (fun j u hu => ?_) h1 hm h63 hb hbase w.heap.size rfl ?_)
  · rw [Addr.add_mid]
    exact hc j u hu
  · intro g cap w' ho' hg' hor hlt
    exact h g cap w' ho' hg' (hor.imp id fun e => by omega) hlt
end Go.Proofs.Ytooagoikiafgcaa.stage

namespace Go.Proofs.Ytooagoikiafgcaa.stage
set_option linter.unusedVariables false
open Go.RowKit Go.ChangeShapes Go.WideShapes Go.ChangeAt Go.Deep Go.Joins Go.Proofs.Ytooagoikiafgcaa.base Go.Proofs.Ytooagoikiafgcaa.obj Go.Proofs.Ytooagoikiafgcaa.mem Go.Proofs.Ytooagoikiafgcaa.crc Go.Proofs.Ytooagoikiafgcaa.disk Go.Proofs.Ytooagoikiafgcaa.record Go.Proofs.Ytooagoikiafgcaa.bits Go.Proofs.Ytooagoikiafgcaa.sep Go.Proofs.Ytooagoikiafgcaa.plan Go.Proofs.Ytooagoikiafgcaa.bytes

theorem put_at {w0 w : World} {l : List Asn} {g d : Nat} {m : DS} {p k : Int} {s : SlS} (h : St w0 w (slt g d p k s :: dsk d m :: l)) (hp : Pl m p k) (hr : s.has = true → s.st.right = true) (hwl : m.waits.length ≤ 800) (se no : Int) (A : Option Addr) (n c : Nat) (data : List Int) (hn : data.length = n)
    (hs : ∀ w' m', St w0 w' (slt g d p k s :: dsk d m' :: l) → Sl w' w'.heap.size 1 A n (data.map (.int .u8))) :
    Calls Try.prog 39 #[.pointer (some ⟨g, 0, none⟩), .int .i64 se, .int .i64 no, .slice A n c] w fun e w' => e = .returned (.int .i64 (putM m p k s se no data).1) ∧ St w0 w' (slt g d p k (putM m p k s se no data).2.2 :: dsk d (putM m p k s se no data).2.1 :: l) := by
  by_cases hw : wrongE s se no n = 0
  · obtain ⟨hh, w1, w2, w3, w4⟩ := wrong_yes hw
    subst w4
    obtain ⟨q, rfl⟩ := Int.eq_ofNat_of_zero_le w2
    have hq : q < 16 := by
      have := (stg_in (hr hh)).2.1
      unfold blocksN at w3; omega
    cases hb : bitb s.st.have_ q with
    | true =>
      have e : putM m p k s se q data = (0, m, s) := by
        unfold putM
        rw [hn, if_neg (not_not_intro hw), Int.toNat_natCast, if_pos hb]
      rw [e]
      exact put_has h hr se q hq A 16 c hw hb
    | false => exact put_new h hp hr hwl se q A c data hn hs hw hb
  · have e : putM m p k s se no data = (wrongE s se no n, m, s) := by
      unfold putM
      rw [hn, if_pos hw]
    rw [e]
    exact put_wrong h hr se no A n c hw
/-- the assertion B tells a slice's bytes -/
def Gives (w0 : World) (B : Asn) (A : Option Addr) (n : Nat) (bs : List Int) : Prop := bs.length = n ∧ ∀ w l, St w0 w (B :: l) → Sl w w.heap.size 1 A n (bs.map (.int .u8))
theorem gives_row {w0 : World} {t n : Nat} {xs : List Value} {bs : List Int} (hl : bs.length = n) (hx : xs.take n = bs.map (.int .u8)) : Gives w0 (row t 5 xs) (some ⟨t, 0, none⟩) n bs :=
  ⟨hl, fun w l h => h.row.1.sl (o := 0) h.row.1.lt (by rw [List.drop_zero, Nat.mul_one, hx]) (by simpa using hl)⟩
theorem gives_nil (w0 : World) : Gives w0 (fact True) none 0 [] := ⟨rfl, fun w l h => Sl.nil_ _ _ _⟩
theorem bytesM_cases {m : DS} {p k : Int} {s : SlS} (hd : m.down = false) : (bytesM m p k s = ([], 16) ∧ s.has = false) ∨ (bytesM m p k s = ([], 11) ∧ s.has = true ∧ ¬ allIn s) ∨ (bytesM m p k s = ((cat3 m p k).take s.st.size.toNat, 0) ∧ s.has = true ∧ allIn s) := by
  unfold bytesM
  cases hh : s.has with
  | false => exact .inl ⟨rfl, rfl⟩
  | true =>
    rw [if_neg (show ¬ (true = false) by decide), hd]
    by_cases ha : allIn s
    · rw [if_neg (not_not_intro ha)]
      exact .inr (.inr ⟨rfl, rfl, ha⟩)
    · rw [if_pos ha]
      exact .inr (.inl ⟨rfl, rfl, ha⟩)
theorem cat3_len {m : DS} {p k : Int} (h : Pl m p k) : (cat3 m p k).length = 192 := by
  unfold cat3
  rw [List.length_append, List.length_append, h.len (by omega) (by omega), h.len (by omega) (by omega), h.len (by omega) (by omega)]
theorem bytes_st {w0 w : World} {l : List Asn} {g d : Nat} {m : DS} {p k : Int} {s : SlS} (h : St w0 w (slt g d p k s :: dsk d m :: l)) (hp : Pl m p k) (hr : s.has = true → s.st.right = true) (hd : m.down = false) (hwl : m.waits.length ≤ 1000) :
    Calls Try.prog 41 #[.pointer (some ⟨g, 0, none⟩)] w fun e w' => ∃ A n B, e = .returned (.tuple #[.slice A n n, .int .i64 (bytesM m p k s).2]) ∧ Gives w0 B A n (bytesM m p k s).1 ∧ St w0 w' (B :: slt g d p k s :: dsk d m :: l) := by
  rcases bytesM_cases (p := p) (k := k) (s := s) hd with ⟨e, hh⟩ | ⟨e, hh, ha⟩ | ⟨e, hh, ha⟩
  · rw [e]
    exact (bytes_not h.row.1 hh).mono fun e w' ⟨h1, h2⟩ => ⟨none, 0, fact True, h1, gives_nil _, by rw [h2]; exact h.addFact trivial⟩
  · rw [e]
    exact (bytes_missing h.row.1 hh (hr hh) ha).mono fun e w' ⟨h1, h2⟩ => ⟨none, 0, fact True, h1, gives_nil _, (h.below h2).addFact trivial⟩
  · rw [e]
    refine (bytes_at h hp hh (hr hh) ha hd hwl).mono fun e w' ⟨t, xs, h1, h2, h3⟩ => ⟨some ⟨t, 0, none⟩, _, row t 5 xs, h1, gives_row ?_ h2, h3⟩
    have := (stg_in (hr hh)).2.1
    rw [List.length_take, cat3_len hp]
    omega
theorem fill_st {w0 w : World} {l : List Asn} (h : St w0 w l) (y : Int) (hy0 : 0 ≤ y) (hy1 : y ≤ 255) (long : Bool) :
    Calls Try.prog 40 #[.int .u8 y, .bool long] w fun e w' => ∃ g c xs, e = .returned (.slice (some ⟨g, 0, none⟩) (fillN long) c) ∧ xs.length = c ∧ (fillN long ≤ c ∧ c ≤ maxLen) ∧ xs.take (fillN long) = (fillL y (fillN long)).map (.int .u8) ∧ Gives w0 (row g 5 xs) (some ⟨g, 0, none⟩) (fillN long) (fillL y (fillN long)) ∧ St w0 w' (row g 5 xs :: l) :=
  (fill_at w y hy0 hy1 long).mono fun e w' ⟨g, c, xs, h1, h2, h3, h4, h5, h6, h7⟩ => ⟨g, c, xs, h1, h4, h3, h6, gives_row (fillL_length _ _) h6, h.addRow h7 h5 h2⟩
/-- a blank disk's slot -/
theorem blank_si {n : Nat} (h0 : 1 ≤ n) (h1 : n ≤ 128) {p k : Int} (hr : hasRoom p k n = true) : SI (DS.new n) p k SlS.none RS.none Option.none ∧ openS (DS.new n) p k = SlS.none := by
  obtain ⟨hpk, hat⟩ := room_pk hr
  have hl : (DS.new n).secs.length = n := by simp [DS.new]
  have hpl : Pl (DS.new n) p k := ⟨DS.new_good h0 h1, DS.new_bts n, hpk.p0, hpk.p1, hpk.k0, hpk.k1, by rw [hl]; exact hat⟩
  have ho : openS (DS.new n) p k = SlS.none := open_zero (DS.new_now (by have := hpk.p0; have := hpk.k0; unfold dAt at hat; unfold sAt; omega))
  exact ⟨⟨hpl, none_mem, by simp [DS.new], fun _ => ⟨rfl, rfl, none_dat _ _ _, ho⟩, fun h => absurd (show false = true from h) (by decide)⟩, ho⟩
end Go.Proofs.Ytooagoikiafgcaa.stage

namespace Go.Proofs.Ytooagoikiafgcaa.stage
set_option linter.unusedVariables false
open Go.RowKit Go.ChangeShapes Go.WideShapes Go.ChangeAt Go.Deep Go.Joins Go.Proofs.Ytooagoikiafgcaa.base Go.Proofs.Ytooagoikiafgcaa.obj Go.Proofs.Ytooagoikiafgcaa.mem Go.Proofs.Ytooagoikiafgcaa.crc Go.Proofs.Ytooagoikiafgcaa.disk Go.Proofs.Ytooagoikiafgcaa.record Go.Proofs.Ytooagoikiafgcaa.bits Go.Proofs.Ytooagoikiafgcaa.sep Go.Proofs.Ytooagoikiafgcaa.plan Go.Proofs.Ytooagoikiafgcaa.bytes Go.Proofs.Ytooagoikiafgcaa.same

theorem SI.right {m : DS} {p k : Int} {s : SlS} {R : RS} {might : Option RS} (h : SI m p k s R might) : s.has = true → s.st.right = true := h.mem.right
/-- Begin on a disk without a fuse -/
theorem SI.beginU {m : DS} {p k : Int} {s : SlS} {R : RS} (h : SI m p k s R Option.none) (hu : m.Up) (se sz : Int) : (beginM m p k s se sz).1 = (beginR R se sz).1 ∧ SI (beginM m p k s se sz).2.1 p k (beginM m p k s se sz).2.2 (beginR R se sz).2 Option.none ∧ (beginM m p k s se sz).2.1.Up := by
  have hup := begin_up h.pl hu s se sz
  exact ⟨((h.begin se sz).up hup).1, ((h.begin se sz).up hup).2, hup⟩
theorem SI.putU {m : DS} {p k : Int} {s : SlS} {R : RS} (h : SI m p k s R Option.none) (hu : m.Up) (se no : Int) {data : List Int} (hb : Byt data) : (putM m p k s se no data).1 = (putR R se no data).1 ∧ SI (putM m p k s se no data).2.1 p k (putM m p k s se no data).2.2 (putR R se no data).2 Option.none ∧ (putM m p k s se no data).2.1.Up := by
  have hup := put_up h.pl hu h.right se no hb
  exact ⟨((h.put se no hb).up hup).1, ((h.put se no hb).up hup).2, hup⟩
theorem SI.bytesU {m : DS} {p k : Int} {s : SlS} {R : RS} (h : SI m p k s R Option.none) (hu : m.down = false) : bytesM m p k s = bytesR R := bytes_eq h.pl h.mem (h.up hu).2.2.1 hu
/-- a slot and its disk, as one: what it tells is the document's -/
structure Live (w0 w : World) (g d : Nat) (p k : Int) (m : DS) (s : SlS) (R : RS) (l : List Asn) : Prop where
  st : St w0 w (slt g d p k s :: dsk d m :: l)
  si : SI m p k s R Option.none
  up : m.Up
theorem live_begin {w0 w : World} {g d : Nat} {p k : Int} {m : DS} {s : SlS} {R : RS} {l : List Asn} (h : Live w0 w g d p k m s R l) (se sz : Int) :
    Calls Try.prog 38 #[.pointer (some ⟨g, 0, none⟩), .int .i64 se, .int .i64 sz] w fun e w' => e = .returned (.int .i64 (beginR R se sz).1) ∧ ∃ m' s', Live w0 w' g d p k m' s' (beginR R se sz).2 l ∧ m'.secs.length = m.secs.length := by
  obtain ⟨h1, h2, h3⟩ := h.si.beginU h.up se sz
  refine (begin_at h.st h.si.pl.pk (by have := h.si.few; omega) se sz).mono fun e w' ⟨e1, e2⟩ => ⟨by rw [e1, h1], _, _, ⟨e2, h2, h3⟩, ?_⟩
  unfold beginM
  split
  · split <;> exact wf_slen _ _ _
  · rfl
theorem wf2_slen (m : DS) (i : Int) (bs : List Int) (j : Int) (cs : List Int) : (wf2 m i bs j cs).2.secs.length = m.secs.length := by
  unfold wf2
  split
  · rw [wf_slen, wf_slen]
  · exact wf_slen _ _ _
theorem putM_slen (m : DS) (p k : Int) (s : SlS) (se no : Int) (data : List Int) : (putM m p k s se no data).2.1.secs.length = m.secs.length := by
  unfold putM
  split
  · rfl
  · split
    · rfl
    · split
      · rfl
      · split <;> exact wf2_slen _ _ _ _ _
theorem live_put {w0 w : World} {g d : Nat} {p k : Int} {m : DS} {s : SlS} {R : RS} {l : List Asn} {B : Asn} {A : Option Addr} {n c : Nat} {data : List Int} (h : Live w0 w g d p k m s R (B :: l)) (hg : Gives w0 B A n data) (hb : Byt data) (se no : Int) :
    Calls Try.prog 39 #[.pointer (some ⟨g, 0, none⟩), .int .i64 se, .int .i64 no, .slice A n c] w fun e w' => e = .returned (.int .i64 (putR R se no data).1) ∧ ∃ m' s', Live w0 w' g d p k m' s' (putR R se no data).2 (B :: l) ∧ m'.secs.length = m.secs.length := by
  obtain ⟨h1, h2, h3⟩ := h.si.putU h.up se no hb
  exact (put_at h.st h.si.pl h.si.right (by have := h.si.few; omega) se no A n c data hg.1 (fun w' m' h' => hg.2 _ _ (h'.pick 2 rfl))).mono fun e w' ⟨e1, e2⟩ => ⟨by rw [e1, h1], _, _, ⟨e2, h2, h3⟩, putM_slen _ _ _ _ _ _ _⟩
theorem live_bytes {w0 w : World} {g d : Nat} {p k : Int} {m : DS} {s : SlS} {R : RS} {l : List Asn} (h : Live w0 w g d p k m s R l) :
    Calls Try.prog 41 #[.pointer (some ⟨g, 0, none⟩)] w fun e w' => ∃ A n B, e = .returned (.tuple #[.slice A n n, .int .i64 (bytesR R).2]) ∧ Gives w0 B A n (bytesR R).1 ∧ Live w0 w' g d p k m s R (B :: l) := by
  rw [← h.si.bytesU h.up.1]
  exact (bytes_st h.st h.si.pl h.si.right h.up.1 (by have := h.si.few; omega)).mono fun e w' ⟨A, n, B, h1, h2, h3⟩ => ⟨A, n, B, h1, h2, (h3.pick 2 rfl).pick 2 rfl, h.si, h.up⟩
theorem live_open {w0 w : World} {d n : Nat} {l : List Asn} (h : St w0 w (dsk d (DS.new n) :: l)) (h0 : 1 ≤ n) (h1 : n ≤ 128) {p k : Int} (hr : hasRoom p k n = true) :
    Calls Try.prog 36 #[.pointer (some ⟨d, 0, none⟩), .int .i64 p, .int .i64 k] w fun e w' => ∃ g, e = .returned (.tuple #[.pointer (some ⟨g, 0, none⟩), .int .i64 0]) ∧ Live w0 w' g d p k (DS.new n) SlS.none RS.none l := by
  obtain ⟨hs, ho⟩ := blank_si h0 h1 hr
  have hl : (DS.new n).secs.length = n := by simp [DS.new]
  refine (open_at h p k (by rw [hl]; exact hr) rfl (by simp [DS.new]) (DS.new_bts n)).mono fun e w' ⟨g, h1, h2⟩ => ⟨g, h1, ?_, hs, DS.new_up n⟩
  rw [ho] at h2
  exact h2

def wkD1 : List Int := fillL 1 16
def wkD2 : List Int := fillL 9 16
def wkR1 : RS := ⟨true, ⟨1, 20, 0⟩, [[], []]⟩
def wkR2 : RS := ⟨true, ⟨1, 20, 1⟩, [wkD1, []]⟩
def wkR3 : RS := ⟨true, ⟨1, 20, 3⟩, [wkD1, wkD2]⟩
theorem wk_1 : beginR RS.none 1 20 = (0, wkR1) := by decide
theorem wk_2 : putR wkR1 1 0 wkD1 = (0, wkR2) := by decide
theorem wk_3 : putR wkR2 1 1 wkD2 = (0, wkR3) := by decide
theorem wk_4 : bytesR wkR3 = (wkD1 ++ wkD2.take 4, 0) := by decide
set_option maxRecDepth 100000 in
set_option maxHeartbeats 4000000 in
theorem wakes (w : World) : Calls Try.prog 35 #[] w fun e w' => e = .returned (.bool true) ∧ Below w.heap.size w w' := by
  go_enter Try.func35, Try.ntmps35
  go_wp2_with (fail)
  refine (dsk_new (St.nil w) 10).mono ?_
  rintro e w1 ⟨d, rfl, h1⟩
  have H1 := Lib.hid (show St w w1 [dsk d (DS.new 10)] from h1)
  clear h1
  go_wp2_with (fail)
  refine (live_open H1.out (by omega) (by omega) (p := 0) (k := 1) (by decide)).mono ?_
  rintro e w2 ⟨g, rfl, h2⟩
  have H2 := Lib.hid h2
  clear h2
  go_wp2_with (fail)
  refine (live_begin H2.out 1 20).mono ?_
  rintro e w3 ⟨he, m3, s3, h3, _⟩
  rw [wk_1] at he h3
  subst he
  have H3 := Lib.hid (show Live w w3 g d 0 1 m3 s3 wkR1 [] from h3)
  clear h3
  go_wp2_with (fail)
  refine (fill_st H3.out.st 1 (by omega) (by omega) false).mono ?_
  rintro e w4 ⟨g4, c4, x4, rfl, hl4, hc4, ht4, hg4, h4⟩
  have H4 := Lib.hid (show Live w w4 g d 0 1 m3 s3 wkR1 [row g4 5 x4] from ⟨(h4.pick 2 rfl).pick 2 rfl, H3.out.si, H3.out.up⟩)
  have HG4 := Lib.hid (show Gives w (row g4 5 x4) (some ⟨g4, 0, none⟩) 16 wkD1 from hg4)
  clear h4 hl4 hc4 ht4 hg4
  unfold fillN
  go_wp2_with (fail)
  refine (live_put H4.out HG4.out (fillL_byt _ _) 1 0).mono ?_
  rintro e w5 ⟨he, m5, s5, h5, _⟩
  rw [wk_2] at he h5
  subst he
  have H5 := Lib.hid (show Live w w5 g d 0 1 m5 s5 wkR2 [row g4 5 x4] from h5)
  clear h5
  go_wp2_with (fail)
  refine (fill_st H5.out.st 9 (by omega) (by omega) false).mono ?_
  rintro e w6 ⟨g6, c6, x6, rfl, hl6, hc6, ht6, hg6, h6⟩
  have H6 := Lib.hid (show Live w w6 g d 0 1 m5 s5 wkR2 [row g6 5 x6, row g4 5 x4] from ⟨(h6.pick 2 rfl).pick 2 rfl, H5.out.si, H5.out.up⟩)
  have HG6 := Lib.hid (show Gives w (row g6 5 x6) (some ⟨g6, 0, none⟩) 16 wkD2 from hg6)
  clear h6 hl6 hc6 ht6 hg6
  unfold fillN
  go_wp2_with (fail)
  refine (live_put H6.out HG6.out (fillL_byt _ _) 1 1).mono ?_
  rintro e w7 ⟨he, m7, s7, h7, _⟩
  rw [wk_3] at he h7
  subst he
  have H7 := Lib.hid (show Live w w7 g d 0 1 m7 s7 wkR3 [row g6 5 x6, row g4 5 x4] from h7)
  clear h7
  go_wp2_with (fail)
  refine (live_bytes H7.out).mono ?_
  rintro e w8 ⟨A, n, B, he, hg8, h8⟩
  rw [wk_4] at he hg8
  subst he
  have H8 := Lib.hid h8; have HG8 := Lib.hid hg8
  clear h8 hg8
  go_wp2_with (fail)
  refine (fill_st H8.out.st 1 (by omega) (by omega) false).mono ?_
  rintro e w9 ⟨g9, c9, x9, rfl, hl9, hc9, ht9, hg9, h9⟩
  have H9 := Lib.hid h9; have HX9 := Lib.hid (show x9.length = c9 ∧ (16 ≤ c9 ∧ c9 ≤ maxLen) ∧ x9.take 16 = wkD1.map (.int .u8) from ⟨hl9, hc9, ht9⟩)
  clear h9 hl9 hc9 ht9 hg9
  unfold fillN
  go_wp2_with (fail)
  refine (fill_st H9.out 9 (by omega) (by omega) false).mono ?_
  rintro e w10 ⟨g10, c10, x10, rfl, hl10, hc10, ht10, hg10, h10⟩
  have H10 := Lib.hid h10
  have HS := Lib.hid (show Sl w10 w10.heap.size 1 (some ⟨g10, 0, none⟩) 4 ((wkD2.take 4).map (.int .u8)) from h10.row.1.sl (o := 0) h10.row.1.lt (by rw [List.drop_zero, List.map_take, ← show x10.take 16 = wkD2.map (.int .u8) from ht10, List.take_take]; rfl) rfl)
  have hc10' : 16 ≤ c10 := hc10.1
  clear h10 hl10 hc10 ht10 hg10
  have HO := Lib.hid (show St w w10 (sep.own 5 1 (.slice (some ⟨g9, 0, none⟩) 16 c9) 16 (wkD1.map (.int .u8)) :: row g10 5 x10 :: B :: []) by
    obtain ⟨q1, q2, q3⟩ := HX9.out
    have h := (H10.out.pick 1 rfl).new_row_own (size := 1) (n := 16) (cap := c9) q2.1 q2.2 (by rw [q1, Nat.mul_one])
    rw [Nat.mul_one, q3] at h
    exact (((h.pick 3 rfl).drop).pick 2 rfl).drop.take 3)
  unfold fillN
  go_wp2_with (refine app_rowW slB rfl (.tmp 38) (.tmp 40) rfl HO.out.own rfl rfl HS.out (u8s_one (wkD2.take 4)) (by omega) (by omega) (by unfold maxLen; omega) (HO.out.bel.size) ?_; intro g2 cap w11 ho hg hor hlt4; have H11 := Lib.hid (HO.out.grown hg ho (fun x hx => by injection hx with hx; rw [← hx]; exact hor)); clear ho hg hor)
  have HSA := Lib.hid (HG8.out.2 _ _ (H11.out.pick 2 rfl))
  have HSB := Lib.hid (Sl.of_own H11.out.own)
  rw [← List.map_append] at HSB
  have HN := Lib.hid HG8.out.1
  refine (same_any (wkD1 ++ wkD2.take 4) (wkD1 ++ wkD2.take 4) A (some ⟨g2, 0, none⟩) n 20 n cap _ HN.out.symm rfl (by have := HN.out; rw [← this]; decide) (by omega) HSA.out HSB.out).mono ?_
  rintro e w12 ⟨rfl, hb⟩
  have H12 := Lib.hid (H11.out.below hb).bel
  clear hb
  go_wp2_with (fail)
  go_ret
  exact ⟨by simp, H12.out⟩
end Go.Proofs.Ytooagoikiafgcaa.stage

namespace Go.Proofs.Ytooagoikiafgcaa.stage
set_option linter.unusedVariables false
open Go.RowKit Go.ChangeShapes Go.WideShapes Go.ChangeAt Go.Deep Go.Joins Go.Proofs.Ytooagoikiafgcaa.base Go.Proofs.Ytooagoikiafgcaa.obj Go.Proofs.Ytooagoikiafgcaa.mem Go.Proofs.Ytooagoikiafgcaa.crc Go.Proofs.Ytooagoikiafgcaa.disk Go.Proofs.Ytooagoikiafgcaa.record Go.Proofs.Ytooagoikiafgcaa.bits Go.Proofs.Ytooagoikiafgcaa.sep Go.Proofs.Ytooagoikiafgcaa.plan Go.Proofs.Ytooagoikiafgcaa.bytes

/-- a sector that is none of a slot's four -/
def Outside (p k : Int) (j : Nat) : Prop := (j : Int) < sAt p k ∨ sAt p k + 4 ≤ (j : Int)
theorem out_own {p k : Int} {j : Nat} (h : Outside p k j) (h0 : 0 ≤ sAt p k) : j ≠ (sAt p k).toNat := by
  unfold Outside at h
  omega
theorem out_data {p k i : Int} {j : Nat} (h : Outside p k j) (h0 : 0 ≤ sAt p k) (i0 : 0 ≤ i) (i3 : i < 3) : j ≠ (dAt p k i).toNat := by
  unfold Outside sAt at h
  unfold sAt at h0
  unfold dAt
  omega
theorem begin_out {m : DS} {p k : Int} (h : Pl m p k) (s : SlS) (se sz : Int) {j : Nat} (hj : Outside p k j) : (beginM m p k s se sz).2.1.now j = m.now j := by
  have key := wf_other h.good h.own.1 h.own.2 (Stg.bytes_length ⟨se, sz, 0⟩) (out_own hj h.own.1)
  unfold beginM
  split
  · split <;> exact key
  · rfl
theorem clear_out {m : DS} {p k : Int} (h : Pl m p k) (s : SlS) {j : Nat} (hj : Outside p k j) : (clearM m p k s).2.1.now j = m.now j := by
  have key := wf_other h.good h.own.1 h.own.2 (show zeroSec.length = 64 from rfl) (out_own hj h.own.1)
  unfold clearM
  split <;> exact key
theorem put_out {m : DS} {p k : Int} (h : Pl m p k) {s : SlS} (hs : s.has = true → s.st.right = true) (se no : Int) {data : List Int} (hdb : Byt data) {j : Nat} (hj : Outside p k j) : (putM m p k s se no data).2.1.now j = m.now j := by
  unfold putM
  by_cases hw : wrongE s se no data.length = 0
  · rw [if_neg (not_not_intro hw)]
    obtain ⟨hh, w1, w2, w3, w4⟩ := wrong_yes hw
    obtain ⟨n, rfl⟩ := Int.eq_ofNat_of_zero_le w2
    rw [Int.toNat_natCast]
    split
    · rfl
    · split
      · rfl
      · have hn10 : n < 10 := by
          have := (stg_in (hs hh)).2.1
          unfold blocksN at w3; omega
        have hq : ((n : Int) / 4) = ((n / 4 : Nat) : Int) := by omega
        rw [hq]
        obtain ⟨d0, d1⟩ := h.at_ (i := ((n / 4 : Nat) : Int)) (by omega) (by omega)
        have hsl := splice_length (h.len (i := ((n / 4 : Nat) : Int)) (by omega) (by omega)) n w4
        have hsb := splice_byt (h.bts.now (dAt p k ((n / 4 : Nat) : Int)).toNat) n hdb
        have hpl1 := h.wf (dAt p k ((n / 4 : Nat) : Int)) hsb
        have k1 := wf_other h.good d0 d1 hsl (out_data hj h.own.1 (i := ((n / 4 : Nat) : Int)) (by omega) (by omega))
        have k2 := wf_other hpl1.good hpl1.own.1 hpl1.own.2 (Stg.bytes_length (nxt s.st n)) (out_own hj h.own.1)
        have key : (wf2 m (dAt p k ((n / 4 : Nat) : Int)) (splice (m.now (dAt p k ((n / 4 : Nat) : Int)).toNat) n data) (sAt p k) (nxt s.st n).bytes).2.now j = m.now j := by
          unfold wf2
          split
          · rw [k2, k1]
          · exact k1
        split <;> exact key
  · rw [if_pos hw]
/-- another slot's stage stays -/
theorem SI.other {m m' : DS} {p k : Int} {s : SlS} {R : RS} (h : SI m p k s R Option.none) (hu : m.down = false) (hg : m'.Good) (hb : m'.Bts) (hl : m'.secs.length = m.secs.length) (hw : m'.waits = []) (hd : m'.down = false)
    (hn : ∀ j, ¬ Outside p k j → m'.now j = m.now j) : SI m' p k s R Option.none := by
  obtain ⟨u1, u2, u3, u4⟩ := h.up hu
  have hi : ∀ i : Int, 0 ≤ i → i < 3 → ¬ Outside p k (dAt p k i).toNat := fun i i0 i3 ho => out_data ho h.pl.own.1 i0 i3 rfl
  refine ⟨⟨hg, hb, h.pl.p0, h.pl.p1, h.pl.k0, h.pl.k1, by rw [hl]; exact h.pl.room⟩, h.mem, by rw [hw]; simp, fun _ => ⟨rfl, hw, fun j hj => ?_, ?_⟩, fun h' => absurd (hd.symm.trans h') (by decide)⟩
  · have hjl := getD_ne hj
    have := h.mem.blocks10
    rw [← u3 j hj]
    unfold dblk
    rw [hn _ (hi _ (by omega) (by omega))]
  · exact (open_same (hn _ fun ho => out_own ho h.pl.own.1 rfl)).trans u4

/-! ### the law's acts -/
structure ActS where
  kind : Int
  n : Int
  size : Int
  no : Int
  by_ : Int
  long : Bool
  keep : Int
instance : Inhabited ActS := ⟨⟨0, 0, 0, 0, 0, false, 0⟩⟩
structure ActS.Ok (a : ActS) : Prop where
  n : InI a.n
  size : InI a.size
  no : InI a.no
  by0 : 0 ≤ a.by_
  by1 : a.by_ ≤ 255
  keep0 : 0 ≤ a.keep
  keep1 : a.keep ≤ 18446744073709551615
def ActS.cells (a : ActS) : List Value := [.int .i64 a.kind, .int .i64 a.n, .int .i64 a.size, .int .i64 a.no, .int .u8 a.by_, .bool a.long, .int .u64 a.keep]
def actCells (l : List ActS) : List Value := (l.map ActS.cells).flatten
theorem actCells_snoc (l : List ActS) (a : ActS) : actCells (l ++ [a]) = actCells l ++ a.cells := by simp [actCells]
theorem wf_u64 {z : Int} (h : (Lit.int .u64 z).wf = true) : 0 ≤ z ∧ z ≤ 18446744073709551615 := by
  have h1 : IntKind.u64.min = 0 := rfl
  have h2 : IntKind.u64.max = 18446744073709551615 := rfl
  simp only [Lit.wf, Bool.and_eq_true, decide_eq_true_eq] at h
  omega
theorem wf_u8 {z : Int} (h : (Lit.int .u8 z).wf = true) : 0 ≤ z ∧ z ≤ 255 := by
  have h1 : IntKind.u8.min = 0 := rfl
  have h2 : IntKind.u8.max = 255 := rfl
  simp only [Lit.wf, Bool.and_eq_true, decide_eq_true_eq] at h
  omega
theorem row_parts {H : Type} {enc : TypeId × Value → H} {P : Program} {W : World} {e : TypeId} {fs : Array Field} {cs : List Value} {m : Nat} {x : DataW H × List MemPlace} (he : P.underlying e = some (.struct fs))
    (h : DataW.trod enc P W 0 (fun _ => true) true m e cs = some x) : ∀ (j : Nat) (f : Field) (n : Nat), fs[j]? = some f → P.cellsOf f.type = n → ∃ (k : Nat) (y : DataW H × List MemPlace), DataW.trod enc P W 0 (fun _ => true) true k f.type ((cs.drop f.offset).take n) = some y := by
  obtain ⟨ys, n', hn', hy, hlen, hyl, hf⟩ := DataW.trod_struct he h
  intro j f n hj hn
  subst hn
  have hjl : j < fs.size := (Array.getElem?_eq_some_iff.1 hj).1
  have hys : ys[j]? = some (ys[j]'(by rw [hyl]; exact hjl)) := List.getElem?_eq_getElem _
  exact ⟨n', _, (hf j f hj).trans hys⟩
set_option maxRecDepth 100000 in
theorem arg_acts {H : Type} {enc : TypeId × Value → H} {W : World} {r : Reach} {b0 : Nat} {v : Value} {d : DataW H} {ps : List MemPlace} (hval : Value.okWide Try.prog W r b0 89 v)
    (h : DataW.Trod enc Try.prog W 0 (fun _ => true) true 89 v d ps) : ∃ (A : Option Addr) (c : Nat) (l : List ActS), v = .slice A l.length c ∧ l.length ≤ maxLen ∧ Sl W W.heap.size 7 A l.length (actCells l) ∧ ∀ a ∈ l, a.Ok := by
  obtain ⟨A, n, c, q, rfl, hn, hs, hq⟩ := Go.Proofs.Ytooagoikiafgcaa.lift.arg_row Try.underlying89 (s := 7) (by kernel_rfl) (by decide) hval h
  have each : ∀ i, i < n → ∃ p : ActS, q i = p.cells ∧ p.Ok := by
    intro i hi
    obtain ⟨hl, m, x, hx⟩ := hq i hi
    obtain ⟨u0, u1, u2, u3, u4, u5, u6, hqi⟩ : ∃ u0 u1 u2 u3 u4 u5 u6, q i = [u0, u1, u2, u3, u4, u5, u6] := by
      match hqi : q i, hl with
      | [u0, u1, u2, u3, u4, u5, u6], _ => exact ⟨_, _, _, _, _, _, _, rfl⟩
    rw [hqi] at hx ⊢
    have hf := row_parts Try.underlying92 hx
    obtain ⟨k0, y0, t0⟩ := hf 0 _ 1 rfl (by kernel_rfl)
    obtain ⟨k1, y1, t1⟩ := hf 1 _ 1 rfl (by kernel_rfl)
    obtain ⟨k2, y2, t2⟩ := hf 2 _ 1 rfl (by kernel_rfl)
    obtain ⟨k3, y3, t3⟩ := hf 3 _ 1 rfl (by kernel_rfl)
    obtain ⟨k4, y4, t4⟩ := hf 4 _ 1 rfl (by kernel_rfl)
    obtain ⟨k5, y5, t5⟩ := hf 5 _ 1 rfl (by kernel_rfl)
    obtain ⟨k6, y6, t6⟩ := hf 6 _ 1 rfl (by kernel_rfl)
    obtain ⟨a0, h0, _, w0⟩ := DataW.trod_int Try.underlying3 t0
    obtain ⟨a1, h1, _, w1⟩ := DataW.trod_int Try.underlying3 t1
    obtain ⟨a2, h2, _, w2⟩ := DataW.trod_int Try.underlying3 t2
    obtain ⟨a3, h3, _, w3⟩ := DataW.trod_int Try.underlying3 t3
    obtain ⟨a4, h4, _, w4⟩ := DataW.trod_int Try.underlying5 t4
    obtain ⟨a5, h5, _⟩ := DataW.trod_bool Try.underlying4 t5
    obtain ⟨a6, h6, _, w6⟩ := DataW.trod_int Try.underlying90 t6
    simp at h0 h1 h2 h3 h4 h5 h6
    exact ⟨⟨a0, a1, a2, a3, a4, a5, a6⟩, by rw [h0, h1, h2, h3, h4, h5, h6]; rfl, inI_of w1, inI_of w2, inI_of w3, (wf_u8 w4).1, (wf_u8 w4).2, (wf_u64 w6).1, (wf_u64 w6).2⟩
  obtain ⟨z, hz⟩ := choose_lt each
  have e1 : ∀ m, m ≤ n → (List.range m).flatMap q = actCells ((List.range m).map z) := by
    intro m
    induction m with
    | zero => intro _; simp [actCells]
    | succ m ih =>
      intro hm
      rw [List.range_succ, List.flatMap_append, List.map_append, ih (by omega), List.map_cons, List.map_nil, actCells_snoc]
      simp [(hz m (by omega)).1]
  rw [e1 n (Nat.le_refl _)] at hs
  have hl : ((List.range n).map z).length = n := by simp
  refine ⟨A, c, (List.range n).map z, by rw [hl], by rw [hl]; exact hn, by rw [hl]; exact hs, fun a ha => ?_⟩
  obtain ⟨i, hi, rfl⟩ := List.mem_map.1 ha
  exact (hz i (List.mem_range.1 hi)).2
/-- the cells of act number k -/
theorem act_at {w w' : World} {A : Option Addr} {l : List ActS} (h : Sl w w.heap.size 7 A l.length (actCells l)) (hb : Below w.heap.size w w') {k : Nat} (hk : k < l.length) : ∃ b off, A = some ⟨b, off, none⟩ ∧ b < w'.heap.size ∧
    ∀ j u, j < 7 → l[k].cells[j]? = some u → w'.cell? ⟨b, off + k * 7 + j, none⟩ = some u := by
  obtain ⟨b, off, rfl, hbl, hc⟩ := h.2 (by omega)
  have h9 : ∀ x ∈ l.map ActS.cells, x.length = 7 := by
    intro x hx
    obtain ⟨a, _, rfl⟩ := List.mem_map.1 hx
    rfl
  have e := flat_elem h9 (i := k) (by simpa using hk)
  have g : ∀ j, j < 7 → (actCells l)[k * 7 + j]? = l[k].cells[j]? := by
    intro j hj
    have e2 : (((l.map ActS.cells).flatten.drop (k * 7)).take 7)[j]? = (l.map ActS.cells).flatten[k * 7 + j]? := by
      rw [List.getElem?_take, if_pos hj, List.getElem?_drop]
    rw [e] at e2
    rw [actCells, ← e2]
    simp
  refine ⟨b, off, rfl, Nat.lt_of_lt_of_le hbl hb.size, fun j u hj hu => ?_⟩
  rw [hb.cell (p := ⟨b, off + k * 7 + j, none⟩) hbl, Nat.add_assoc]
  exact hc _ _ ((g j hj).trans hu)
end Go.Proofs.Ytooagoikiafgcaa.stage

namespace Go.Proofs.Ytooagoikiafgcaa.stage
set_option linter.unusedVariables false
open Go.RowKit Go.ChangeShapes Go.WideShapes Go.ChangeAt Go.Deep Go.Joins Go.Proofs.Ytooagoikiafgcaa.base Go.Proofs.Ytooagoikiafgcaa.obj Go.Proofs.Ytooagoikiafgcaa.mem Go.Proofs.Ytooagoikiafgcaa.crc Go.Proofs.Ytooagoikiafgcaa.disk Go.Proofs.Ytooagoikiafgcaa.record Go.Proofs.Ytooagoikiafgcaa.bits Go.Proofs.Ytooagoikiafgcaa.sep Go.Proofs.Ytooagoikiafgcaa.plan Go.Proofs.Ytooagoikiafgcaa.bytes

/-- no sector of the second one is the first one's -/
def Apart (p k p' k' : Int) : Prop := ∀ j, ¬ Outside p' k' j → Outside p k j
structure Both (w0 w : World) (g d go : Nat) (p k p' k' : Int) (m : DS) (s : SlS) (R : RS) (s' : SlS) (R' : RS) (l : List Asn) : Prop where
  st : St w0 w (slt g d p k s :: dsk d m :: slt go d p' k' s' :: l)
  si : SI m p k s R Option.none
  so : SI m p' k' s' R' Option.none
  up : m.Up
theorem Both.flip {w0 w : World} {g d go : Nat} {p k p' k' : Int} {m : DS} {s : SlS} {R : RS} {s' : SlS} {R' : RS} {l : List Asn} (h : Both w0 w g d go p k p' k' m s R s' R' l) : Both w0 w go d g p' k' p k m s' R' s R l :=
  ⟨(h.st.pick 1 rfl).pick 2 rfl, h.so, h.si, h.up⟩
section
variable {w0 w : World} {g d go : Nat} {p k p' k' : Int} {m : DS} {s : SlS} {R : RS} {s' : SlS} {R' : RS} {l : List Asn}
theorem both_begin (h : Both w0 w g d go p k p' k' m s R s' R' l) (ha : Apart p k p' k') (se sz : Int) :
    Calls Try.prog 38 #[.pointer (some ⟨g, 0, none⟩), .int .i64 se, .int .i64 sz] w fun e w' => e = .returned (.int .i64 (beginR R se sz).1) ∧ ∃ m' s1, Both w0 w' g d go p k p' k' m' s1 (beginR R se sz).2 s' R' l ∧ m'.secs.length = m.secs.length := by
  obtain ⟨h1, h2, h3⟩ := h.si.beginU h.up se sz
  have hl : (beginM m p k s se sz).2.1.secs.length = m.secs.length := by
    unfold beginM
    split
    · split <;> exact wf_slen _ _ _
    · rfl
  exact (begin_at h.st h.si.pl.pk (by have := h.si.few; omega) se sz).mono fun e w' ⟨e1, e2⟩ => ⟨by rw [e1, h1], _, _, ⟨e2, h2, h.so.other h.up.1 h2.pl.good h2.pl.bts hl (h2.up h3.1).2.1 h3.1 fun j hj => begin_out h.si.pl s se sz (ha j hj), h3⟩, hl⟩
theorem both_clear (h : Both w0 w g d go p k p' k' m s R s' R' l) (ha : Apart p k p' k') :
    Calls Try.prog 43 #[.pointer (some ⟨g, 0, none⟩)] w fun e w' => e = .returned (.int .i64 0) ∧ ∃ m' s1, Both w0 w' g d go p k p' k' m' s1 RS.none s' R' l ∧ m'.secs.length = m.secs.length := by
  have h3 := clear_up h.si.pl h.up s
  obtain ⟨h1, h2⟩ := h.si.clear.up h3
  have hl : (clearM m p k s).2.1.secs.length = m.secs.length := by
    unfold clearM
    split <;> exact wf_slen _ _ _
  exact (clear_at h.st h.si.pl.pk (by have := h.si.few; omega)).mono fun e w' ⟨e1, e2⟩ => ⟨by rw [e1, h1], _, _, ⟨e2, h2, h.so.other h.up.1 h2.pl.good h2.pl.bts hl (h2.up h3.1).2.1 h3.1 fun j hj => clear_out h.si.pl s (ha j hj), h3⟩, hl⟩
theorem both_put {B : Asn} {A : Option Addr} {n c : Nat} {data : List Int} (h : Both w0 w g d go p k p' k' m s R s' R' (B :: l)) (ha : Apart p k p' k') (hg : Gives w0 B A n data) (hb : Byt data) (se no : Int) :
    Calls Try.prog 39 #[.pointer (some ⟨g, 0, none⟩), .int .i64 se, .int .i64 no, .slice A n c] w fun e w' => e = .returned (.int .i64 (putR R se no data).1) ∧ ∃ m' s1, Both w0 w' g d go p k p' k' m' s1 (putR R se no data).2 s' R' (B :: l) ∧ m'.secs.length = m.secs.length := by
  obtain ⟨h1, h2, h3⟩ := h.si.putU h.up se no hb
  have hl := putM_slen m p k s se no data
  exact (put_at h.st h.si.pl h.si.right (by have := h.si.few; omega) se no A n c data hg.1 (fun w' m' h' => hg.2 _ _ (h'.pick 3 rfl))).mono fun e w' ⟨e1, e2⟩ => ⟨by rw [e1, h1], _, _, ⟨e2, h2, h.so.other h.up.1 h2.pl.good h2.pl.bts hl (h2.up h3.1).2.1 h3.1 fun j hj => put_out h.si.pl h.si.right se no hb (ha j hj), h3⟩, hl⟩
/-- a slot is opened anew -/
theorem both_open (h : Both w0 w g d go p k p' k' m s R s' R' l) :
    Calls Try.prog 36 #[.pointer (some ⟨d, 0, none⟩), .int .i64 p, .int .i64 k] w fun e w' => ∃ g2, e = .returned (.tuple #[.pointer (some ⟨g2, 0, none⟩), .int .i64 0]) ∧ Live w0 w' g2 d p k m s R (slt g d p k s :: slt go d p' k' s' :: l) := by
  have hp := h.si.pl
  have hr : hasRoom p k m.secs.length = true := by
    have h1 := hp.p0; have h2 := hp.p1; have h3 := hp.k0; have h4 := hp.k1; have h5 := hp.room
    unfold hasRoom
    simp only [decide_eq_true_eq]
    exact ⟨h1, h2, h3, h4, h5⟩
  refine (open_at (h.st.pick 1 rfl) p k hr h.up.1 (by have := h.si.few; omega) hp.bts).mono fun e w' ⟨g2, h1, h2⟩ => ⟨g2, h1, ?_, h.si, h.up⟩
  rw [(h.si.up h.up.1).2.2.2] at h2
  exact h2
end
end Go.Proofs.Ytooagoikiafgcaa.stage

namespace Go.Proofs.Ytooagoikiafgcaa.stage
set_option linter.unusedVariables false
open Go.RowKit Go.ChangeShapes Go.WideShapes Go.ChangeAt Go.Deep Go.Joins Go.Proofs.Ytooagoikiafgcaa.base Go.Proofs.Ytooagoikiafgcaa.obj Go.Proofs.Ytooagoikiafgcaa.mem Go.Proofs.Ytooagoikiafgcaa.crc Go.Proofs.Ytooagoikiafgcaa.disk Go.Proofs.Ytooagoikiafgcaa.record Go.Proofs.Ytooagoikiafgcaa.bits Go.Proofs.Ytooagoikiafgcaa.sep Go.Proofs.Ytooagoikiafgcaa.plan Go.Proofs.Ytooagoikiafgcaa.bytes

theorem infoSb : (Try.prog.info? 76).map (fun i => (i.zero, i.size, i.bytes)) = some (some (.slice none 0 0), 1, 24) := by kernel_rfl
theorem slSb : SlT Try.prog 102 76 1 24 := by
  obtain ⟨i0, hi, hz0, hz1, hz2⟩ := info_parts infoSb
  exact ⟨Try.underlying102, ⟨i0, _, hi, hz0, hz1, hz2, rfl⟩, by decide⟩

/-! ### the bytes of blocks, once made, stay: all of them, as one -/
def pool (P : List (Nat × List Value)) : Asn := lst (P.map fun x => row x.1 5 x.2)
theorem pool_row {w0 w : World} {P : List (Nat × List Value)} {l : List Asn} (h : St w0 w (pool P :: l)) {x : Nat × List Value} (hx : x ∈ P) : Row w x.1 5 x.2 ∧ w0.heap.size ≤ x.1 := by
  obtain ⟨a, b, rfl⟩ := List.append_of_mem hx
  have h2 := h.unlst
  rw [List.map_append, List.map_cons, List.append_assoc, List.cons_append] at h2
  exact (h2.perm List.perm_middle).row
theorem pool_add {w0 w : World} {P : List (Nat × List Value)} {l : List Asn} {g : Nat} {xs : List Value} (h : St w0 w (row g 5 xs :: pool P :: l)) : St w0 w (pool ((g, xs) :: P) :: l) := by
  have h2 := h.swap.unlst
  exact St.tolst (L := ((g, xs) :: P).map fun x => row x.1 5 x.2) (h2.perm List.perm_middle)
theorem pool_nil {w0 w : World} {l : List Asn} (h : St w0 w l) : St w0 w (pool [] :: l) := St.tolst (L := []) h
/-- a block, and the slice that holds it -/
def HB (P : List (Nat × List Value)) (b : List Int) (v : Value) : Prop := (b = [] ∧ v = .slice none 0 0) ∨ (b.length = 16 ∧ ∃ g c xs, (g, xs) ∈ P ∧ v = .slice (some ⟨g, 0, none⟩) 16 c ∧ xs.take 16 = b.map (.int .u8))
def HBs (P : List (Nat × List Value)) (bs : List (List Int)) (vs : List Value) : Prop := vs.length = bs.length ∧ ∀ (i : Nat) (b : List Int) (v : Value), bs[i]? = some b → vs[i]? = some v → HB P b v
theorem HB.mono {P P' : List (Nat × List Value)} {b : List Int} {v : Value} (h : HB P b v) (hp : ∀ x ∈ P, x ∈ P') : HB P' b v := by
  rcases h with h | ⟨h1, g, c, xs, h2, h3⟩
  · exact .inl h
  · exact .inr ⟨h1, g, c, xs, hp _ h2, h3⟩
theorem HBs.mono {P P' : List (Nat × List Value)} {bs : List (List Int)} {vs : List Value} (h : HBs P bs vs) (hp : ∀ x ∈ P, x ∈ P') : HBs P' bs vs := ⟨h.1, fun i b v h1 h2 => (h.2 i b v h1 h2).mono hp⟩
theorem HB.one {P : List (Nat × List Value)} {b : List Int} {v : Value} (h : HB P b v) : v.oneCell' = true := by
  rcases h with ⟨_, rfl⟩ | ⟨_, g, c, xs, _, rfl, _⟩ <;> rfl
theorem HBs.one {P : List (Nat × List Value)} {bs : List (List Int)} {vs : List Value} (h : HBs P bs vs) : ∀ u ∈ vs, u.oneCell' = true := by
  intro u hu
  obtain ⟨i, hi, e⟩ := List.getElem_of_mem hu
  exact (h.2 i (bs[i]'(by rw [← h.1]; exact hi)) u (List.getElem?_eq_getElem _) (by rw [List.getElem?_eq_getElem hi, e])).one
/-- the document's slot -/
def rcells (R : RS) (v : Value) : List Value := [.bool R.has, .int .i64 R.st.session, .int .i64 R.st.size, .int .i64 R.st.have_, v]
def rsl (X : Nat) (P : List (Nat × List Value)) (R : RS) : Asn :=
  some_ fun q : Value × List Value => lst [fact (HBs P R.blocks q.2), row X 104 (rcells R q.1), own 76 1 q.1 R.blocks.length q.2]
theorem rsl_open {w0 w : World} {l : List Asn} {X : Nat} {P : List (Nat × List Value)} {R : RS} (h : St w0 w (rsl X P R :: l)) : ∃ v vs, HBs P R.blocks vs ∧ St w0 w (row X 104 (rcells R v) :: own 76 1 v R.blocks.length vs :: l) := by
  obtain ⟨q, h1⟩ := h.ex
  have h2 := h1.unlst
  exact ⟨q.1, q.2, h2.fact, h2.drop⟩
theorem rsl_shut {w0 w : World} {l : List Asn} {X : Nat} {P : List (Nat × List Value)} {R : RS} {v : Value} {vs : List Value} (hb : HBs P R.blocks vs) (h : St w0 w (row X 104 (rcells R v) :: own 76 1 v R.blocks.length vs :: l)) : St w0 w (rsl X P R :: l) :=
  St.toEx (R := fun q : Value × List Value => lst [fact (HBs P R.blocks q.2), row X 104 (rcells R q.1), own 76 1 q.1 R.blocks.length q.2]) (v, vs) (St.tolst (L := [fact (HBs P R.blocks vs), row X 104 (rcells R v), own 76 1 v R.blocks.length vs]) (h.addFact hb))
theorem rsl_mono {w0 w : World} {l : List Asn} {X : Nat} {P P' : List (Nat × List Value)} {R : RS} (h : St w0 w (rsl X P R :: l)) (hp : ∀ x ∈ P, x ∈ P') : St w0 w (rsl X P' R :: l) := by
  obtain ⟨v, vs, h1, h2⟩ := rsl_open h
  exact rsl_shut (h1.mono hp) h2
theorem rsl_none {w0 w : World} {l : List Asn} {X : Nat} {P : List (Nat × List Value)} (h : St w0 w (row X 104 (rcells RS.none (.slice none 0 0)) :: l)) : St w0 w (rsl X P RS.none :: l) := by
  refine rsl_shut (v := .slice none 0 0) (vs := []) ⟨rfl, fun i b v h1 => by simp [RS.none] at h1⟩ ?_
  exact (h.addOwn (Below.refl _ _) (show w.ownsRow w.heap.size 76 1 (.slice none 0 0) 0 [] from World.ownsRow_nil _ _ _ _)).swap

/-! ### Copy -/
set_option maxRecDepth 100000 in
set_option maxHeartbeats 8000000 in
theorem rcopy_at {w0 w : World} {l : List Asn} (b : Bool) (x y z : Int) {v : Value} {n : Nat} {vs : List Value} (h : St w0 w (own 76 1 v n vs :: l)) (h1 : ∀ u ∈ vs, u.oneCell' = true) (hn : n ≤ 1000) :
    Calls Try.prog 47 #[.agg #[.bool b, .int .i64 x, .int .i64 y, .int .i64 z, v]] w fun e w' => ∃ v', e = .returned (.agg #[.bool b, .int .i64 x, .int .i64 y, .int .i64 z, v']) ∧ St w0 w' (own 76 1 v' n vs :: own 76 1 v n vs :: l) := by
  obtain ⟨A, c, rfl, hnc, hcm⟩ := own_form h.own
  have HA := Lib.hid (show A = none → c = 0 by
    rintro rfl
    rcases h.own.2 with ⟨e, _⟩ | ⟨_, _, _, e, _⟩
    · injection e
    · injection e with e1; injection e1)
  have H := Lib.hid h; have H1 := Lib.hid h1
  obtain ⟨X, hX⟩ : ∃ X, X = w.heap.size := ⟨_, rfl⟩
  obtain ⟨wa, hwa⟩ : ∃ wa, wa = (w.alloc (.cells #[.bool b, .int .i64 x, .int .i64 y, .int .i64 z, .slice A n c] 104)).alloc (.cells #[.bool false, .int .i64 0, .int .i64 0, .int .i64 0, .slice none 0 0] 104) := ⟨_, rfl⟩
  have HS := Lib.hid (show St w0 wa (row (X + 1) 104 [.bool false, .int .i64 0, .int .i64 0, .int .i64 0, .slice none 0 0] :: row X 104 [.bool b, .int .i64 x, .int .i64 y, .int .i64 z, .slice A n c] :: own 76 1 (.slice A n c) n vs :: l) by
    have h2 := (h.new 104 #[.bool b, .int .i64 x, .int .i64 y, .int .i64 z, .slice A n c]).new 104 #[.bool false, .int .i64 0, .int .i64 0, .int .i64 0, .slice none 0 0]
    rw [show (w.alloc (.cells #[.bool b, .int .i64 x, .int .i64 y, .int .i64 z, .slice A n c] 104)).heap.size = w.heap.size + 1 by simp, ← hwa, ← hX] at h2
    exact h2)
  have HWA := Lib.hid hwa; have HX := Lib.hid hX
  clear h h1 hwa hX
  go_enter Try.func47, Try.ntmps47
  go_upto_region 1 with fail
  rw [← HWA.out, ← HX.out]
  have c4 : wa.cell? ⟨X, 4, none⟩ = some (.slice A n c) := (HS.out.pick 1 rfl).row.1.cell 4
  have HSL := Lib.hid (Sl.of_own (HS.out.pick 2 rfl).own)
  go_upto_region 2 with fail
  go_cut [3] (fun s w5 => St w0 w5 (own 76 1 s n vs :: row (X + 1) 104 [.bool false, .int .i64 0, .int .i64 0, .int .i64 0, .slice none 0 0] :: row X 104 [.bool b, .int .i64 x, .int .i64 y, .int .i64 z, .slice A n c] :: own 76 1 (.slice A n c) n vs :: l))
  case first =>
   go_wp2_with (refine app_sl slSb rfl (.tmp 4) (.tmp 6) rfl (World.ownsRow_nil wa wa.heap.size 76 1) rfl rfl HA.out HSL.out H1.out (by omega) (by unfold maxLen; omega) (Nat.le_refl _) ?_; intro v5 w5 ho5 hg5; rw [Nat.zero_add, List.nil_append] at ho5; have H5 := Lib.hid (HS.out.addOwn ⟨hg5.os, hg5.tape, hg5.output, hg5.size, fun i hi => hg5.block i hi (by simp [Value.ownBlock])⟩ ho5); clear ho5 hg5)
   go_meet
   exact H5.out
  case rest =>
  obtain ⟨A5, c5, rfl, hc5, hm5⟩ := own_form hcut.own
  obtain ⟨w6, hw6⟩ : ∃ w6, w6 = wc.setCell ⟨X, 4, none⟩ (.slice A5 n c5) := ⟨_, rfl⟩
  have H6 := Lib.hid (show St w0 w6 (row X 104 [.bool b, .int .i64 x, .int .i64 y, .int .i64 z, .slice A5 n c5] :: row (X + 1) 104 [.bool false, .int .i64 0, .int .i64 0, .int .i64 0, .slice none 0 0] :: own 76 1 (.slice A5 n c5) n vs :: own 76 1 (.slice A n c) n vs :: l) by
    have h2 := ((hcut.pick 2 rfl).set 4 (.slice A5 n c5)).pick 2 rfl
    rw [hw6]
    exact h2.pick 1 rfl)
  have fz := (hcut.pick 2 rfl).row.1.frozen 4
  have cz : wc.cell? ⟨X, 4, none⟩ = some (.slice A n c) := (hcut.pick 2 rfl).row.1.cell 4
  have lz := (hcut.pick 2 rfl).row.1.lt
  have HW6 := Lib.hid hw6
  clear hw6 hcut
  go_upto_region 4 with fail
  rw [← HW6.out]
  clear fz lz cz
  obtain ⟨d0, d1, d2, d3, d4⟩ : w6.cell? ⟨X, 0, none⟩ = some (.bool b) ∧ w6.cell? ⟨X, 1, none⟩ = some (.int .i64 x) ∧ w6.cell? ⟨X, 2, none⟩ = some (.int .i64 y) ∧ w6.cell? ⟨X, 3, none⟩ = some (.int .i64 z) ∧ w6.cell? ⟨X, 4, none⟩ = some (.slice A5 n c5) :=
    ⟨H6.out.row.1.cell 0, H6.out.row.1.cell 1, H6.out.row.1.cell 2, H6.out.row.1.cell 3, H6.out.row.1.cell 4⟩
  go_wp2_with (refine wpList_putR rfl 104 (.tmp 2) (.tmp 10) rfl (X + 1) 0 #[.bool b, .int .i64 x, .int .i64 y, .int .i64 z, .slice A5 n c5] rfl rfl (H6.out.pick 1 rfl).row.1 (by kernel_rfl) (Nat.le_refl 5) (by simp [Value.oneCell']) [.bool b, .int .i64 x, .int .i64 y, .int .i64 z, .slice A5 n c5] rfl ?_)
  have H7 := Lib.hid ((H6.out.pick 1 rfl).setRow [.bool b, .int .i64 x, .int .i64 y, .int .i64 z, .slice A5 n c5])
  refine bodyPost_ret (results_cell_row rfl _ _ (X + 1) _ _ _ _ rfl H7.out.row.1 Try.underlying104 rfl (by kernel_rfl)) rfl ?_
  exact ⟨_, rfl, H7.out.drop.drop⟩

/-! ### Wrong -/
theorem rsl_read {w : World} {X : Nat} {R : RS} {v : Value} (h : Row w X 104 (rcells R v)) : w.cell? ⟨X, 0, none⟩ = some (.bool R.has) ∧ w.cell? ⟨X, 1, none⟩ = some (.int .i64 R.st.session) ∧ w.cell? ⟨X, 2, none⟩ = some (.int .i64 R.st.size) ∧ w.cell? ⟨X, 3, none⟩ = some (.int .i64 R.st.have_) ∧ w.cell? ⟨X, 4, none⟩ = some v ∧ X < w.heap.size :=
  ⟨h.cell 0, h.cell 1, h.cell 2, h.cell 3, h.cell 4, h.lt⟩
set_option maxRecDepth 100000 in
set_option maxHeartbeats 8000000 in
theorem rwrong_at {w : World} {X : Nat} {R : RS} {A : Option Addr} {c : Nat} (h : Row w X 104 (rcells R (.slice A R.blocks.length c))) (se no : Int) (D : Option Addr) (n k : Nat) :
    Calls Try.prog 118 #[.pointer (some ⟨X, 0, none⟩), .int .i64 se, .int .i64 no, .slice D n k] w fun e w' => e = .returned (.int .i64 (wrongR R se no n)) ∧ w' = w := by
  obtain ⟨c0, c1, c2, c3, c4, lx⟩ := rsl_read h
  obtain ⟨b, hb⟩ : ∃ b, b = R.blocks.length := ⟨_, rfl⟩
  rw [← hb] at c4
  have HW := Lib.hid (show wrongR R se no n = (if R.has = false then 16 else if se ≠ R.st.session then 17 else if no < 0 ∨ (b : Int) ≤ no then 3 else if n ≠ 16 then 14 else 0) by unfold wrongR; rw [hb])
  obtain ⟨r, hr⟩ : ∃ r, r = wrongR R se no n := ⟨_, rfl⟩
  rw [← hr] at HW ⊢
  clear h hb hr
  go_enter Try.func118, Try.ntmps118
  cases hh : R.has with
  | false =>
    rw [hh] at c0
    have HR := Lib.hid (show r = 16 by rw [HW.out, if_pos hh])
    go_wp2_with (fail)
    go_ret
    exact ⟨ret_int HR.out.symm, rfl⟩
  | true =>
    rw [hh] at c0
    have HN := Lib.hid (show ¬ R.has = false by rw [hh]; decide)
    clear hh
    by_cases h1 : se = R.st.session
    · have b1 : (se != R.st.session) = false := by simpa using h1
      by_cases h2 : no < 0
      · have HR := Lib.hid (show r = 3 by rw [HW.out, if_neg HN.out, if_neg (not_not_intro h1), if_pos (.inl h2)])
        clear h1
        go_wp2_with (fail)
        go_ret
        exact ⟨ret_int HR.out.symm, rfl⟩
      · by_cases h3 : (b : Int) ≤ no
        · have HR := Lib.hid (show r = 3 by rw [HW.out, if_neg HN.out, if_neg (not_not_intro h1), if_pos (.inr h3)])
          clear h1
          go_wp2_with (fail)
          go_ret
          exact ⟨ret_int HR.out.symm, rfl⟩
        · by_cases h4 : n = 16
          · have HR := Lib.hid (show r = 0 by rw [HW.out, if_neg HN.out, if_neg (not_not_intro h1), if_neg (by omega), if_neg (not_not_intro h4)])
            have b4 : ((n : Int) != 16) = false := by simp; omega
            clear h1
            go_wp2_with (fail)
            go_ret
            exact ⟨ret_int HR.out.symm, rfl⟩
          · have HR := Lib.hid (show r = 14 by rw [HW.out, if_neg HN.out, if_neg (not_not_intro h1), if_neg (by omega), if_pos h4])
            have b4 : ((n : Int) != 16) = true := by simp; omega
            clear h1
            go_wp2_with (fail)
            go_ret
            exact ⟨ret_int HR.out.symm, rfl⟩
    · have HR := Lib.hid (show r = 17 by rw [HW.out, if_neg HN.out, if_pos h1])
      have b1 : (se != R.st.session) = true := by simpa using h1
      clear h1
      go_wp2_with (fail)
      go_ret
      exact ⟨ret_int HR.out.symm, rfl⟩
/-! ### Begin -/
theorem make_sb (k : Nat) (hk : k ≤ 1000) (w : World) : (Instr.makeSlice 102 (.int .i64 (k : Int)) (.int .i64 (k : Int))).run Try.prog w = .ok (.slice (some ⟨w.heap.size, 0, none⟩) k k) (w.alloc (.cells (List.replicate k (Value.slice none 0 0)).toArray 76)) := by
  rw [run_make_row' (P := Try.prog) 102 76 (.slice none 0 0) 24 Try.underlying102 infoSb rfl .i64 .i64 k (by omega) (by omega) w]
  congr 2
  congr 1
  apply Array.ext
  · simp [madeCells]
  · intro i h1 h2
    simp [madeCells, Nat.mod_one]
set_option maxRecDepth 100000 in
set_option maxHeartbeats 8000000 in
theorem rbegin_at {w0 w : World} {l : List Asn} {X : Nat} {P : List (Nat × List Value)} {R : RS} (h : St w0 w (rsl X P R :: l)) (se sz : Int) (hsz : -9223372036854775808 ≤ sz) :
    Calls Try.prog 85 #[.pointer (some ⟨X, 0, none⟩), .int .i64 se, .int .i64 sz] w fun e w' => e = .returned (.int .i64 (beginR R se sz).1) ∧ St w0 w' (rsl X P (beginR R se sz).2 :: l) := by
  obtain ⟨v, vs, hb, hst⟩ := rsl_open h
  obtain ⟨T, hT⟩ : ∃ T, T = w.heap.size := ⟨_, rfl⟩
  obtain ⟨w1, hw1⟩ : ∃ w1, w1 = w.alloc (.cells #[.int .i64 se, .int .i64 sz, .int .i64 0] 96) := ⟨_, rfl⟩
  have H1 := Lib.hid (show St w0 w1 (row T 96 [.int .i64 se, .int .i64 sz, .int .i64 0] :: row X 104 (rcells R v) :: own 76 1 v R.blocks.length vs :: l) by rw [hw1, hT]; exact hst.new _ _)
  have HRS := Lib.hid (fun w => refRec.rightStage_at ⟨se, sz, 0⟩ w hsz)
  have HW1 := Lib.hid hw1; have HT := Lib.hid hT; have HBB := Lib.hid hb
  clear h hst hw1 hT hb
  go_enter Try.func85, Try.ntmps85
  go_upto_region 2 with fail
  rw [← HW1.out, ← HT.out]
  obtain ⟨t0, t1, t2⟩ : w1.cell? ⟨T, 0, none⟩ = some (.int .i64 se) ∧ w1.cell? ⟨T, 1, none⟩ = some (.int .i64 sz) ∧ w1.cell? ⟨T, 2, none⟩ = some (.int .i64 0) := ⟨H1.out.row.1.cell 0, H1.out.row.1.cell 1, H1.out.row.1.cell 2⟩
  go_wp2_with (fail)
  rw [← Stg.val_eq ⟨se, sz, 0⟩]
  refine (HRS.out _).mono ?_
  rintro e w2 ⟨rfl, hb⟩
  have H2 := Lib.hid (H1.out.below hb)
  clear hb t0 t1 t2
  cases hr : (Stg.mk se sz 0).right with
  | false =>
    have HE := Lib.hid (show beginR R se sz = (3, R) by unfold beginR; rw [hr]; rfl)
    go_wp2_with (fail)
    go_ret
    rw [HE.out]
    exact ⟨rfl, rsl_shut HBB.out H2.out.drop⟩
  | true =>
    obtain ⟨n, hn⟩ : ∃ n, n = blocksN sz := ⟨_, rfl⟩
    have hz := (stg_in hr).2.1
    simp only at hz
    obtain ⟨z1, z2⟩ := hz
    have hn10 : n ≤ 10 := by rw [hn]; unfold blocksN; omega
    have HE := Lib.hid (show beginR R se sz = (0, ⟨true, ⟨se, sz, 0⟩, List.replicate n []⟩) by unfold beginR; rw [hr, hn]; rfl)
    have HBL := Lib.hid (show ∀ w, Calls Try.prog 117 #[.int .i64 sz] w fun e w' => e = .returned (.int .i64 (n : Nat)) ∧ w' = w by rw [hn]; exact fun w => refRec.blocks_at w sz (by omega) hsz)
    have MK := fun w => make_sb n (by omega) w
    clear hr hn
    have x0 := (H2.out.pick 1 rfl).row.1.cell 0
    have fx := (H2.out.pick 1 rfl).row.1.frozen 0
    have lx := (H2.out.pick 1 rfl).row.1.lt
    simp only [rcells, List.getElem?_cons_zero] at x0
    obtain ⟨w3, hw3⟩ : ∃ w3, w3 = w2.setCell ⟨X, 0, none⟩ (.bool true) := ⟨_, rfl⟩
    have H3 := Lib.hid (show St w0 w3 (row X 104 [.bool true, .int .i64 R.st.session, .int .i64 R.st.size, .int .i64 R.st.have_, v] :: row T 96 [.int .i64 se, .int .i64 sz, .int .i64 0] :: own 76 1 v R.blocks.length vs :: l) by rw [hw3]; exact (H2.out.pick 1 rfl).set 0 _)
    have HW3 := Lib.hid hw3
    clear hw3
    go_upto_region 5 with fail
    rw [← HW3.out]
    clear x0 fx lx
    obtain ⟨t0, t1, t2⟩ : w3.cell? ⟨T, 0, none⟩ = some (.int .i64 se) ∧ w3.cell? ⟨T, 1, none⟩ = some (.int .i64 sz) ∧ w3.cell? ⟨T, 2, none⟩ = some (.int .i64 0) := ⟨(H3.out.pick 1 rfl).row.1.cell 0, (H3.out.pick 1 rfl).row.1.cell 1, (H3.out.pick 1 rfl).row.1.cell 2⟩
    obtain ⟨w4, hw4⟩ : ∃ w4, w4 = w3.setRow X #[.bool true, .int .i64 se, .int .i64 sz, .int .i64 0, v] := ⟨_, rfl⟩
    have H4 := Lib.hid (show St w0 w4 (row X 104 [.bool true, .int .i64 se, .int .i64 sz, .int .i64 0, v] :: row T 96 [.int .i64 se, .int .i64 sz, .int .i64 0] :: own 76 1 v R.blocks.length vs :: l) by rw [hw4]; exact H3.out.setRow _)
    have HW4 := Lib.hid hw4
    clear hw4
    go_cut [] (fun wc => wc = w4)
    case first =>
      go_wp2_with (refine wpList_putR rfl 96 (.tmp 20) (.tmp 18) rfl X 1 #[.int .i64 se, .int .i64 sz, .int .i64 0] rfl rfl H3.out.row.1 (by kernel_rfl) (by simp) (by simp [Value.oneCell']) [.bool true, .int .i64 se, .int .i64 sz, .int .i64 0, v] rfl ?_)
      go_meet
      exact HW4.out.symm
    case rest =>
    rw [hcut]
    clear t0 t1 t2 hcut
    have x4 := H4.out.row.1.cell 4
    have fx := H4.out.row.1.frozen 4
    have lx := H4.out.row.1.lt
    simp only [List.getElem?_cons_succ, List.getElem?_cons_zero] at x4
    go_wp2_with (fail)
    refine (HBL.out _).mono ?_
    rintro e w5 ⟨rfl, hw5⟩
    rw [hw5]
    clear hw5
    go_wp2_with (fail)
    go_ret
    rw [HE.out]
    refine ⟨rfl, rsl_shut (v := .slice (some ⟨w4.heap.size, 0, none⟩) n n) (vs := List.replicate n (.slice none 0 0)) ⟨by simp, fun i b v h1 h2 => .inl ?_⟩ ?_⟩
    · obtain ⟨_, rfl⟩ := (by simpa [List.getElem?_replicate] using h1 : i < n ∧ [] = b)
      obtain ⟨_, rfl⟩ := (by simpa [List.getElem?_replicate] using h2 : i < n ∧ Value.slice none 0 0 = v)
      exact ⟨rfl, rfl⟩
    · have h5 := (H4.out.set 4 (.slice (some ⟨w4.heap.size, 0, none⟩) n n)).new 76 (Array.replicate n (Value.slice none 0 0))
      rw [show (w4.setCell ⟨X, 4, none⟩ (.slice (some ⟨w4.heap.size, 0, none⟩) n n)).heap.size = w4.heap.size by simp] at h5
      have h6 := h5.new_row_own (size := 1) (n := n) (cap := n) (Nat.le_refl _) (by unfold maxLen; omega) (by simp)
      have h7 := ((h6.swap.pick 2 rfl).drop.pick 2 rfl).drop
      rw [show ((Array.replicate n (Value.slice none 0 0)).toList.take (n * 1)) = List.replicate n (Value.slice none 0 0) by simp] at h7
      show St w0 _ (row X 104 [.bool true, .int .i64 se, .int .i64 sz, .int .i64 0, .slice (some ⟨w4.heap.size, 0, none⟩) n n] :: own 76 1 _ (List.replicate n ([] : List Int)).length _ :: l)
      rw [List.length_replicate]
      exact h7
end Go.Proofs.Ytooagoikiafgcaa.stage

namespace Go.Proofs.Ytooagoikiafgcaa.stage
set_option linter.unusedVariables false
open Go.RowKit Go.ChangeShapes Go.WideShapes Go.ChangeAt Go.Deep Go.Joins Go.Proofs.Ytooagoikiafgcaa.base Go.Proofs.Ytooagoikiafgcaa.obj Go.Proofs.Ytooagoikiafgcaa.mem Go.Proofs.Ytooagoikiafgcaa.crc Go.Proofs.Ytooagoikiafgcaa.disk Go.Proofs.Ytooagoikiafgcaa.record Go.Proofs.Ytooagoikiafgcaa.bits Go.Proofs.Ytooagoikiafgcaa.sep Go.Proofs.Ytooagoikiafgcaa.plan Go.Proofs.Ytooagoikiafgcaa.bytes

theorem wrongR_yes {R : RS} {se no : Int} {n : Nat} (h : wrongR R se no n = 0) : R.has = true ∧ 0 ≤ no ∧ no < (R.blocks.length : Int) ∧ n = 16 := by
  unfold wrongR at h
  cases hh : R.has with
  | false => rw [hh, if_pos rfl] at h; exact absurd h (by decide)
  | true =>
    rw [hh, if_neg (show ¬ (true = false) by decide)] at h
    split at h
    · exact absurd h (by decide)
    · split at h
      · exact absurd h (by decide)
      · split at h
        · exact absurd h (by decide)
        · refine ⟨rfl, by omega, by omega, by omega⟩
theorem HBs.set {P : List (Nat × List Value)} {bs : List (List Int)} {vs : List Value} (h : HBs P bs vs) {k : Nat} {b : List Int} {v : Value} (hv : HB P b v) : HBs P (bs.set k b) (vs.set k v) := by
  refine ⟨by simp [h.1], fun i b' v' h1 h2 => ?_⟩
  rw [List.getElem?_set] at h1 h2
  by_cases e : k = i
  · rw [if_pos e] at h1 h2
    split at h1
    · split at h2
      · injection h1 with h1; injection h2 with h2
        subst h1; subst h2
        exact hv
      · exact absurd h2 (by simp)
    · exact absurd h1 (by simp)
  · rw [if_neg e] at h1 h2
    exact h.2 i b' v' h1 h2
set_option maxRecDepth 100000 in
set_option maxHeartbeats 8000000 in
theorem rput_at {w0 w : World} {l : List Asn} {X : Nat} {P : List (Nat × List Value)} {R : RS} {B : Asn} {D : Option Addr} {n dc : Nat} {data : List Int} (h : St w0 w (rsl X P R :: pool P :: B :: l)) (hg : Gives w0 B D n data)
    (hr : R.has = true → R.st.right = true) (h10 : R.blocks.length ≤ 10) (se no : Int) :
    Calls Try.prog 86 #[.pointer (some ⟨X, 0, none⟩), .int .i64 se, .int .i64 no, .slice D n dc] w fun e w' => e = .returned (.int .i64 (putR R se no data).1) ∧ ∃ P', (∀ x ∈ P, x ∈ P') ∧ St w0 w' (rsl X P' (putR R se no data).2 :: pool P' :: B :: l) := by
  obtain ⟨v, vs, hb, hst⟩ := rsl_open h
  obtain ⟨A, c, rfl, hbc, hcm⟩ := own_form (hst.pick 1 rfl).own
  have HWR := Lib.hid (rwrong_at (A := A) (c := c) hst.row.1 se no D n dc)
  have HN := Lib.hid hg.1
  have HH := Lib.hid h
  by_cases hw : wrongR R se no n = 0
  · obtain ⟨w1, w2, w3, w4⟩ := wrongR_yes hw
    subst w4
    obtain ⟨k, rfl⟩ := Int.eq_ofNat_of_zero_le w2
    obtain ⟨q, hq⟩ : ∃ q, q = R.blocks.length := ⟨_, rfl⟩
    rw [← hq] at w3 h10 hst hbc
    have hk : k < q := by omega
    obtain ⟨t, xs, rfl, _, hxl, hxt, hst2⟩ := own_row (hst.pick 1 rfl) (by omega)
    have hkx : k < xs.length := by omega
    have hkv : k < vs.length := by rw [hb.1, ← hq]; exact hk
    have hxv : xs[k] = vs[k] := by
      have e : (xs.take (q * 1))[k]? = vs[k]? := by rw [hxt]
      rw [List.getElem?_take, if_pos (by omega), List.getElem?_eq_getElem hkx, List.getElem?_eq_getElem hkv] at e
      injection e
    have hbk := hb.2 k (R.blocks[k]'(by omega)) vs[k] (List.getElem?_eq_getElem _) (List.getElem?_eq_getElem hkv)
    obtain ⟨c0, c1, c2, c3, c4, lx⟩ := rsl_read (hst2.pick 1 rfl).row.1
    have ct : w.cell? ⟨t, k, none⟩ = some xs[k] := by rw [hst2.row.1.cell k]; exact List.getElem?_eq_getElem hkx
    have lt := hst2.row.1.lt
    have hk' : (k : Int) < (q : Int) := by omega
    have hk0 : (0 : Int) ≤ (k : Int) := by omega
    have HPR := Lib.hid (show putR R se k data = if R.blocks.getD k [] ≠ [] then (0, R) else (0, ⟨R.has, ⟨R.st.session, R.st.size, R.st.have_ + 2 ^ k⟩, R.blocks.set k data⟩) by unfold putR; rw [hg.1, hw, if_neg (fun h => h rfl), Int.toNat_natCast])
    have HBK := Lib.hid (show R.blocks.getD k [] = R.blocks[k]'(by omega) by rw [List.getD_eq_getElem?_getD, List.getElem?_eq_getElem (by omega)]; rfl)
    rw [hw] at HWR
    rw [hxv] at ct
    have HST := Lib.hid (show St w0 w (row X 104 (rcells R (.slice (some ⟨t, 0, none⟩) q c)) :: row t 76 xs :: pool P :: B :: l) from hst2.swap)
    go_enter Try.func86, Try.ntmps86
    go_wp2_with (fail)
    refine HWR.out.mono ?_
    rintro e w' ⟨rfl, hw'⟩
    rw [hw']
    clear hw'
    rcases hbk with ⟨hb0, hv0⟩ | ⟨hb16, g1, c1', xs1, hP, hv1, hxs1⟩
    · rw [hv0] at ct
      have HS1 := Lib.hid (fun (w1 : World) (l1 : List Asn) (h1 : St w0 w1 (B :: l1)) => hg.2 w1 l1 h1)
      have HG1 := Lib.hid (show ∀ u ∈ data.map (Value.int .u8), u.oneCell' = true from u8s_one data)
      have HRP := Lib.hid (show (putR R se k data) = (0, ⟨R.has, ⟨R.st.session, R.st.size, R.st.have_ + 2 ^ k⟩, R.blocks.set k data⟩) by rw [HPR.out, if_neg (not_not_intro (HBK.out.trans hb0))])
      have HBR := Lib.hid hb
      have HVS := Lib.hid hxt
      have HQ := Lib.hid hq
      have HXL := Lib.hid hxl
      have hh2 := (stg_in (hr w1)).2.2
      obtain ⟨h20, h21⟩ := hh2
      have hkl : k ≤ 16 := by omega
      have HPW := Lib.hid (fun w => bits.power_in k w hkl)
      obtain ⟨pw, hpw⟩ : ∃ pw : Int, pw = 2 ^ k := ⟨_, rfl⟩
      have hp0 : 0 ≤ pw := by rw [hpw]; exact Int.le_of_lt (Int.pow_pos (by decide))
      have hp1 : pw ≤ 65536 := by
        rw [hpw]
        have h1 := Nat.pow_le_pow_right (n := 2) (by decide) hkl
        have h2 : ((2 ^ k : Nat) : Int) = (2 : Int) ^ k := by simp
        omega
      rw [← hpw] at HRP HPW
      clear hb hb0 hv0 hxt hq hxl hpw hr hg h hst hst2 hxv hkl HBK HPR
      obtain ⟨hv, hhv⟩ : ∃ hv, hv = R.st.have_ := ⟨_, rfl⟩
      have HHV := Lib.hid hhv
      rw [← hhv] at c3 h20 h21
      clear hhv
      go_upto_region 5 with fail
      go_cut [10] (fun s w5 => ∃ (g2 cap : Nat) (x2 : List Value), s = .slice (some ⟨g2, 0, none⟩) 16 cap ∧ x2.take 16 = data.map (.int .u8) ∧ St w0 w5 (row X 104 (rcells R (.slice (some ⟨t, 0, none⟩) q c)) :: row t 76 xs :: row g2 5 x2 :: pool P :: B :: l))
      case first =>
        go_wp2_with (refine app_row slB rfl (.tmp 30) (.tmp 31) rfl (World.ownsRow_nil w w.heap.size 5 1) rfl rfl (HS1.out _ _ (HST.out.pick 3 rfl)) HG1.out (by omega) (by omega) (by unfold maxLen; omega) (Nat.le_refl _) ?_; intro g2 cap w5 ho hg5 hor hlt4; rw [Nat.zero_add, List.nil_append] at ho; have H5 := Lib.hid (HST.out.addOwn ⟨hg5.os, hg5.tape, hg5.output, hg5.size, fun i hi => hg5.block i hi (by simp [Value.ownBlock])⟩ ho); clear ho hg5 hor)
        go_meet
        obtain ⟨t5, x5, e5, _, _, hx5, hst5⟩ := own_row H5.out (by omega)
        injection e5 with e5
        injection e5 with e5
        subst e5
        exact ⟨_, _, x5, rfl, hx5, (hst5.pick 1 rfl).perm (by refine List.Perm.cons _ ?_; exact List.Perm.swap _ _ _)⟩
      case rest =>
      obtain ⟨g2, cap, x2, rfl, hx2, h5⟩ := hcut
      obtain ⟨d0, d1, d2, d3, d4, ld⟩ := rsl_read h5.row.1
      have cd : wc.cell? ⟨t, k, none⟩ = some xs[k] := by rw [(h5.pick 1 rfl).row.1.cell k]; exact List.getElem?_eq_getElem hkx
      have fd := (h5.pick 1 rfl).row.1.frozen k
      have ldt := (h5.pick 1 rfl).row.1.lt
      obtain ⟨w6, hw6⟩ : ∃ w6, w6 = wc.setCell ⟨t, k, none⟩ (.slice (some ⟨g2, 0, none⟩) 16 cap) := ⟨_, rfl⟩
      have H6 := Lib.hid (show St w0 w6 (row X 104 (rcells R (.slice (some ⟨t, 0, none⟩) q c)) :: row t 76 (xs.set k (.slice (some ⟨g2, 0, none⟩) 16 cap)) :: row g2 5 x2 :: pool P :: B :: l) by rw [hw6]; exact ((h5.pick 1 rfl).set k _).swap)
      have HW6 := Lib.hid hw6; have HX2 := Lib.hid hx2
      clear hw6 h5 hx2
      clear c0 c1 c2 c3 c4 lx ct lt
      go_upto_region 7 with fail
      rw [← HW6.out]
      clear d0 d1 d2 d3 d4 ld cd fd ldt
      obtain ⟨d0, d1, d2, d3, d4, ld⟩ := rsl_read H6.out.row.1
      rw [← HHV.out] at d3
      have fd3 := H6.out.row.1.frozen 3
      clear d0 d1 d2 d4
      have hwr : IntKind.i64.wrap (hv + pw) = hv + pw := IntWalk.i64_in _ ⟨by omega, by omega⟩
      go_wp2_with (fail)
      go_region_law (go_simp; (with_reducible refine (HPW.out _).mono ?_); rintro e w7 ⟨rfl, rfl⟩; dsimp only)
      all_goals
        go_wp2_with (fail)
        go_ret
        rw [HRP.out]
        refine ⟨rfl, (g2, x2) :: P, fun x hx => List.mem_cons_of_mem _ hx, rsl_shut (v := .slice (some ⟨t, 0, none⟩) q c) (vs := vs.set k (.slice (some ⟨g2, 0, none⟩) 16 cap)) ((HBR.out.mono fun x hx => List.mem_cons_of_mem _ hx).set (.inr ⟨HN.out, g2, cap, x2, by simp, rfl, HX2.out⟩)) ?_⟩
        have h7 := ((H6.out.set 3 (.int .i64 (hv + pw))).drew)
        have h8 := (h7.pick 1 rfl).new_row_own (size := 1) (n := q) (cap := c) hbc hcm (by rw [List.length_set]; exact HXL.out)
        rw [List.take_set, HVS.out] at h8
        have h9 := (((pool_add ((h8.pick 2 rfl).pick 3 rfl |>.swap)).pick 2 rfl).pick 2 rfl).swap
        show St w0 _ (row X 104 [.bool R.has, .int .i64 R.st.session, .int .i64 R.st.size, .int .i64 (R.st.have_ + pw), .slice (some ⟨t, 0, none⟩) q c] :: own 76 1 _ (R.blocks.set k data).length _ :: _)
        rw [List.length_set, ← HQ.out, ← HHV.out]
        exact h9
    · rw [hv1] at ct
      go_wp2_with (fail)
      go_ret
      rw [HPR.out, if_pos (by rw [HBK.out]; intro e; rw [e] at hb16; exact absurd hb16 (by decide))]
      exact ⟨rfl, P, fun x hx => hx, HH.out⟩
  · have HE := Lib.hid (show putR R se no data = (wrongR R se no n, R) by unfold putR; rw [hg.1, if_pos hw])
    obtain ⟨r, hr⟩ : ∃ r, r = wrongR R se no n := ⟨_, rfl⟩
    rw [← hr] at hw HWR HE
    have b0 : (r != 0) = true := by simpa using hw
    clear hw hr
    go_enter Try.func86, Try.ntmps86
    go_wp2_with (fail)
    refine HWR.out.mono ?_
    rintro e w' ⟨rfl, hw'⟩
    rw [hw']
    clear hw'
    go_wp2_with (fail)
    go_ret
    rw [HE.out]
    exact ⟨rfl, P, fun x hx => hx, HH.out⟩
end Go.Proofs.Ytooagoikiafgcaa.stage

namespace Go.Proofs.Ytooagoikiafgcaa.stage
set_option linter.unusedVariables false
open Go.RowKit Go.ChangeShapes Go.WideShapes Go.ChangeAt Go.Deep Go.Joins Go.Proofs.Ytooagoikiafgcaa.base Go.Proofs.Ytooagoikiafgcaa.obj Go.Proofs.Ytooagoikiafgcaa.mem Go.Proofs.Ytooagoikiafgcaa.crc Go.Proofs.Ytooagoikiafgcaa.disk Go.Proofs.Ytooagoikiafgcaa.record Go.Proofs.Ytooagoikiafgcaa.bits Go.Proofs.Ytooagoikiafgcaa.sep Go.Proofs.Ytooagoikiafgcaa.plan Go.Proofs.Ytooagoikiafgcaa.bytes

/-- a document's slot that is right -/
structure RGood (R : RS) : Prop where
  none : R.has = false → R = RS.none
  size : R.has = true → 1 ≤ R.st.size ∧ R.st.size ≤ 160 ∧ R.blocks.length = blocksN R.st.size
theorem RGood.b10 {R : RS} (h : RGood R) : R.blocks.length ≤ 10 := by
  cases hh : R.has with
  | false => rw [h.none hh]; simp [RS.none]
  | true =>
    obtain ⟨h1, h2, h3⟩ := h.size hh
    rw [h3]
    unfold blocksN; omega
/-- the first q blocks are there -/
structure Seen (R : RS) (q : Nat) : Prop where
  all : ∀ j b, j < q → R.blocks[j]? = some b → b ≠ []
theorem Seen.len {R : RS} {q : Nat} {P : List (Nat × List Value)} {vs : List Value} (h : Seen R q) (hb : HBs P R.blocks vs) (hq : q ≤ R.blocks.length) : (R.blocks.take q).flatten.length = 16 * q := by
  induction q with
  | zero => rfl
  | succ q ih =>
    have hl : q < R.blocks.length := hq
    rw [List.take_succ_eq_append_getElem hl, List.flatten_append, List.length_append, ih ⟨fun j b hj => h.all j b (by omega)⟩ (by omega)]
    rcases hb.2 q R.blocks[q] (vs[q]'(by rw [hb.1]; exact hl)) (List.getElem?_eq_getElem _) (List.getElem?_eq_getElem _) with ⟨e, _⟩ | ⟨e, _⟩
    · exact absurd e (h.all q _ (by omega) (List.getElem?_eq_getElem _))
    · simp [e]; omega
set_option maxRecDepth 100000 in
set_option maxHeartbeats 8000000 in
theorem rbytes_at {w0 w : World} {l : List Asn} {X : Nat} {P : List (Nat × List Value)} {R : RS} (h : St w0 w (rsl X P R :: pool P :: l)) (hg : RGood R) :
    Calls Try.prog 89 #[.pointer (some ⟨X, 0, none⟩)] w fun e w' => ∃ A n c B, e = .returned (.tuple #[.slice A n c, .int .i64 (bytesR R).2]) ∧ Gives w0 B A n (bytesR R).1 ∧ St w0 w' (B :: rsl X P R :: pool P :: l) := by
  cases hh : R.has with
  | false =>
    obtain ⟨v, vs, hb, hst⟩ := rsl_open h
    obtain ⟨c0, c1, c2, c3, c4, lx⟩ := rsl_read hst.row.1
    rw [hh] at c0
    have H := Lib.hid h
    have HE := Lib.hid (show bytesR R = ([], 16) by unfold bytesR; rw [if_pos hh])
    clear h hst hb hh hg
    go_enter Try.func89, Try.ntmps89
    go_wp2_with (fail)
    go_ret2
    rw [HE.out]
    exact ⟨_, _, _, _, rfl, gives_nil w0, H.out.addFact trivial⟩
  | true =>
    obtain ⟨s1, s2, s3⟩ := hg.size hh
    obtain ⟨v, vs, hb, hst⟩ := rsl_open h
    obtain ⟨A, c, rfl, hbc, hcm⟩ := own_form (hst.pick 1 rfl).own
    obtain ⟨b, hbl⟩ : ∃ b, b = R.blocks.length := ⟨_, rfl⟩
    rw [← hbl] at hst hbc s3
    obtain ⟨n, hn⟩ : ∃ n : Nat, (n : Int) = R.st.size := ⟨R.st.size.toNat, by omega⟩
    rw [← hn] at s1 s2 s3
    have hb1 : 1 ≤ b := by rw [s3]; unfold blocksN; omega
    have hb10 : b ≤ 10 := by rw [s3]; unfold blocksN; omega
    have hnb : n ≤ 16 * b := by rw [s3]; unfold blocksN; omega
    have hn1 : 1 ≤ n := by omega
    obtain ⟨t, xs, rfl, _, hxl, hxt, hst2⟩ := own_row (hst.pick 1 rfl) (by omega)
    have HB := Lib.hid hb; have HBL := Lib.hid hbl; have HN := Lib.hid hn; have HH := Lib.hid hh; have HXL := Lib.hid hxl; have HXT := Lib.hid hxt
    have hvx : ∀ j, j < b → xs[j]? = vs[j]? := by
      intro j hj
      rw [← hxt, List.getElem?_take, if_pos (by omega)]
    have HVX := Lib.hid hvx
    obtain ⟨c0, c1, c2, c3, c4, lx⟩ := rsl_read (hst2.pick 1 rfl).row.1
    rw [hh] at c0
    have HI0 := Lib.hid (show St w0 w (own 5 1 (.slice none 0 0) 0 (((R.blocks.take 0).flatten).map (.int .u8)) :: row X 104 (rcells R (.slice (some ⟨t, 0, none⟩) b c)) :: row t 76 xs :: pool P :: l) from
      hst2.swap.addOwn (Below.refl _ _) (show w.ownsRow w.heap.size 5 1 (.slice none 0 0) 0 [] from World.ownsRow_nil _ _ _ _))
    clear h hg hb hbl hn hh hxl hxt hst hst2 hvx s3
    go_enter Try.func89, Try.ntmps89
    go_wp2_with (fail)
    go_loopw [4, 5] (fun v i wr => ∃ (q : Nat) (A : Option Addr) (k : Nat), q ≤ b ∧ v = .slice A (16 * q) k ∧ i = .int .i64 q ∧ Seen R q ∧ St w0 wr (own 5 1 (.slice A (16 * q) k) (16 * q) (((R.blocks.take q).flatten).map (.int .u8)) :: row X 104 (rcells R (.slice (some ⟨t, 0, none⟩) b c)) :: row t 76 xs :: pool P :: l)) (fun _ i _ => b - (intOf i).toNat)
    case atStart => exact ⟨0, none, 0, by omega, rfl, rfl, ⟨fun j b hj => absurd hj (by omega)⟩, HI0.out⟩
    case round =>
      obtain ⟨q, A, k, hq, rfl, rfl, hsn, hi⟩ := hrel
      have HI := Lib.hid hi; have HSN := Lib.hid hsn
      clear hi hsn HI0 c0 c1 c2 c3 c4 lx
      obtain ⟨c0, c1, c2, c3, c4, lx⟩ := rsl_read (HI.out.pick 1 rfl).row.1
      rw [HH.out] at c0
      rw [← HN.out] at c2
      obtain ⟨z, hz⟩ : ∃ z, z = 16 * q := ⟨_, rfl⟩
      have HZ := Lib.hid hz
      rw [← hz] at HI ⊢
      have hz160 : z ≤ 160 := by omega
      clear hz
      by_cases hlt : q < b
      · have hlt' : (q : Int) < (b : Int) := by omega
        have hq0 : (0 : Int) ≤ (q : Int) := by omega
        have hqb : q < R.blocks.length := by rw [← HBL.out]; exact hlt
        have hqv : q < vs.length := by rw [HB.out.1]; exact hqb
        have hvq := HVX.out q hlt
        rw [List.getElem?_eq_getElem hqv] at hvq
        have hbq := HB.out.2 q R.blocks[q] vs[q] (List.getElem?_eq_getElem _) (List.getElem?_eq_getElem hqv)
        have cq : wr.cell? ⟨t, q, none⟩ = some vs[q] := by rw [(HI.out.pick 2 rfl).row.1.cell q]; exact hvq
        have lq := (HI.out.pick 2 rfl).row.1.lt
        rcases hbq with ⟨hb0, hv0⟩ | ⟨hb16, g1, c1', xs1, hP, hv1, hxs1⟩
        · rw [hv0] at cq
          have HE := Lib.hid (show bytesR R = ([], 11) by unfold bytesR; rw [if_neg (by rw [HH.out]; decide), if_pos ⟨_, List.getElem_mem hqb, hb0⟩])
          clear hvq hv0 hb0
          go_wp2_with (fail)
          go_ret2
          rw [HE.out]
          refine ⟨_, _, _, _, rfl, gives_nil w0, St.addFact ?_ trivial⟩
          have h2 := (HI.out.drop.pick 1 rfl).new_row_own (size := 1) (n := b) (cap := c) hbc hcm (by exact HXL.out)
          rw [HXT.out, HBL.out] at h2
          have h3 := h2.swap
          exact rsl_shut HB.out h3
        · rw [hv1] at cq
          have hpr := pool_row (HI.out.pick 3 rfl) hP
          have HSB := Lib.hid (show Sl wr wr.heap.size 1 (some ⟨g1, 0, none⟩) 16 ((R.blocks[q]).map (.int .u8)) from hpr.1.sl (o := 0) hpr.1.lt (by rw [List.drop_zero]; exact hxs1.symm) (by rw [List.length_map, hb16]))
          have HSN2 := Lib.hid (show Seen R (q + 1) from ⟨fun j b' hj hjb => by
            rcases Nat.lt_or_ge j q with h1 | h1
            · exact HSN.out.all j b' h1 hjb
            · have : j = q := by omega
              subst this
              rw [List.getElem?_eq_getElem hqb] at hjb
              injection hjb with hjb
              rw [← hjb]
              intro e
              rw [e] at hb16
              exact absurd hb16 (by decide)⟩)
          clear hvq hv1 hpr hxs1 hP
          go_wp2_with (refine app_row slB rfl (.tmp 29) (.tmp 36) rfl HI.out.own rfl rfl HSB.out (u8s_one _) (by omega) (by omega) (by unfold maxLen; omega) (HI.out.bel.size) ?_; intro g2 cap w4 ho hg hor hlt4; have H4 := Lib.hid (HI.out.grown hg ho (fun x hx => by injection hx with hx; rw [← hx]; exact hor)); clear ho hg hor)
          go_roundw
          case rel => exact ⟨q + 1, some ⟨g2, 0, none⟩, cap, by omega, by rw [HZ.out, Nat.mul_succ], by go_num, HSN2.out, by
            have h := H4.out
            rw [← List.map_append, show (R.blocks.take q).flatten ++ R.blocks[q] = (R.blocks.take (q + 1)).flatten by rw [List.take_succ_eq_append_getElem hqb, List.flatten_append]; simp, show z + 16 = 16 * (q + 1) by rw [HZ.out, Nat.mul_succ]] at h
            exact h⟩
          case measure => simp [intOf] <;> omega
      · obtain rfl : q = b := by omega
        have HZC := Lib.hid (show z ≤ k by
          obtain ⟨A', c', e, hc, _⟩ := own_form HI.out.own
          injection e with _ _ e
          omega)
        have hnz : n ≤ z := by have := HZ.out; omega
        have hnk : n ≤ k := by have := HZC.out; omega
        go_wp2_with (fail)
        go_ret2
        have hall : (R.blocks.take q) = R.blocks := by rw [HBL.out]; exact List.take_length
        have HE : bytesR R = (R.blocks.flatten.take n, 0) := by
          unfold bytesR
          rw [if_neg (by rw [HH.out]; decide), if_neg, ← HN.out, Int.toNat_natCast]
          rintro ⟨b', hb', rfl⟩
          obtain ⟨j, hj, e⟩ := List.getElem_of_mem hb'
          exact HSN.out.all j [] (by rw [HBL.out]; exact hj) (by rw [List.getElem?_eq_getElem hj, e]) rfl
        rw [HE]
        obtain ⟨t2, x2, hA, _, _, hx2, hst⟩ := own_row HI.out (by omega)
        subst hA
        rw [hall, Nat.mul_one] at hx2
        have hfl := HSN.out.len HB.out (by rw [HBL.out]; exact Nat.le_refl _)
        rw [hall] at hfl
        refine ⟨_, _, _, row t2 5 x2, rfl, gives_row ?_ ?_, ?_⟩
        · rw [List.length_take, hfl]; omega
        · rw [List.map_take, ← hx2, List.take_take, Nat.min_eq_left hnz]
        · have h2 := (hst.pick 2 rfl).new_row_own (size := 1) (n := q) (cap := c) hbc hcm (by exact HXL.out)
          rw [HXT.out, HBL.out] at h2
          have h3 := (h2.pick 2 rfl)
          exact (rsl_shut HB.out h3).swap
end Go.Proofs.Ytooagoikiafgcaa.stage

namespace Go.Proofs.Ytooagoikiafgcaa.stage
set_option linter.unusedVariables false
open Go.RowKit Go.ChangeShapes Go.WideShapes Go.ChangeAt Go.Deep Go.Joins Go.Proofs.Ytooagoikiafgcaa.base Go.Proofs.Ytooagoikiafgcaa.obj Go.Proofs.Ytooagoikiafgcaa.mem Go.Proofs.Ytooagoikiafgcaa.crc Go.Proofs.Ytooagoikiafgcaa.disk Go.Proofs.Ytooagoikiafgcaa.record Go.Proofs.Ytooagoikiafgcaa.bits Go.Proofs.Ytooagoikiafgcaa.sep Go.Proofs.Ytooagoikiafgcaa.plan Go.Proofs.Ytooagoikiafgcaa.bytes Go.Proofs.Ytooagoikiafgcaa.same

set_option maxHeartbeats 1000000 in
/-- Same only reads -/
theorem same_quiet (xs ys : List Int) (A A' : Option Addr) (n m c c' : Nat) (w : World) (hn : n = xs.length) (hm : m = ys.length) (hn2 : n ≤ 1000000) (hm2 : m ≤ 1000000)
    (hs : Sl w w.heap.size 1 A n (xs.map (Value.int .u8))) (ht : Sl w w.heap.size 1 A' m (ys.map (Value.int .u8))) :
    Calls Try.prog 42 #[.slice A n c, .slice A' m c'] w fun e w' => e = .returned (.bool (decide (xs = ys))) ∧ ∃ m, w' = w.drewN m := by
  by_cases hl : n = m
  · subst hl
    have HN := Lib.hid hn; have HM := Lib.hid hm; have HS := Lib.hid hs; have HT := Lib.hid ht
    clear hn hm hs ht
    go_enter Try.func42, Try.ntmps42
    go_wp2_with (fail)
    go_loopw [5] (fun i wr => ∃ k : Nat, k ≤ n ∧ i = .int .i64 k ∧ xs.take k = ys.take k ∧ ∃ nd, wr = w.drewN nd) (fun i _ => n - (intOf i).toNat)
    case atStart => exact ⟨0, by omega, rfl, by simp, 0, rfl⟩
    case round =>
      obtain ⟨k, hk, rfl, heq, nd, hnd⟩ := hrel
      have HE := Lib.hid heq; have HB := Lib.hid (show Below w.heap.size w wr by rw [hnd]; exact below_drewN (Below.refl _ _) _); have HND := Lib.hid hnd
      clear heq hnd
      by_cases hlt : k < n
      · have hx : k < xs.length := by rw [← HN.out]; exact hlt
        have hy : k < ys.length := by rw [← HM.out]; exact hlt
        obtain ⟨b, off, rfl, hbl, hc⟩ := HS.out.2 (by omega)
        obtain ⟨b', off', rfl, hbl', hc'⟩ := HT.out.2 (by omega)
        have c1 : wr.cell? ⟨b, off + k, none⟩ = some (.int .u8 xs[k]) := (HB.out.cell (p := ⟨b, off + k, none⟩) hbl).trans (hc k _ (by simp [hx]))
        have c2 : wr.cell? ⟨b', off' + k, none⟩ = some (.int .u8 ys[k]) := (HB.out.cell (p := ⟨b', off' + k, none⟩) hbl').trans (hc' k _ (by simp [hy]))
        have HX := Lib.hid hx; have HY := Lib.hid hy
        have i0 : (0 : Int) ≤ (k : Int) := by omega
        have i1 : (k : Int) < (n : Int) := by omega
        clear hc hc'
        generalize hex : xs[k] = x at *
        generalize hey : ys[k] = y at *
        have HEX := Lib.hid hex; have HEY := Lib.hid hey
        clear hex hey
        by_cases hxy : x = y
        · have b1 : (x != y) = false := by simp [hxy]
          have HXY := Lib.hid hxy
          clear hxy
          go_wp2_with (fail)
          go_quiet (fail)
          go_wp2_with (fail)
          go_roundw
          case rel => exact ⟨k + 1, by omega, by go_num, same.take_eq_succ HX.out HY.out HE.out (HEX.out.trans (HXY.out.trans HEY.out.symm)), nd + nq, by rw [HND.out, World.drewN_drewN]⟩
          case measure => simp [intOf]; omega
        · have b1 : (x != y) = true := by simp [hxy]
          have hf : decide (xs = ys) = false := by
            simp only [decide_eq_false_iff_not]
            intro h; subst h
            exact hxy (HEX.out.symm.trans HEY.out)
          have HF := Lib.hid hf
          clear hxy hf
          go_wp2_with (fail)
          go_quiet (fail)
          go_wp2_with (fail)
          go_ret
          exact ⟨ret_bool HF.out.symm, nd + nq, by rw [HND.out, World.drewN_drewN]⟩
      · have hf : decide (xs = ys) = true := by
          have := HE.out
          rw [List.take_of_length_le (by rw [← HN.out]; omega), List.take_of_length_le (by rw [← HM.out]; omega)] at this
          simpa using this
        have HF := Lib.hid hf
        clear hf
        go_wp2_with (fail)
        go_ret
        exact ⟨ret_bool HF.out.symm, nd, HND.out⟩
  · have hf : decide (xs = ys) = false := by
      simp only [decide_eq_false_iff_not]
      intro h; subst h; omega
    have HF := Lib.hid hf
    have b1 : ((n : Int) != (m : Int)) = true := by simp; omega
    clear hf hn hm hs ht
    go_enter Try.func42, Try.ntmps42
    go_wp2_with (fail)
    go_ret
    exact ⟨ret_bool HF.out.symm, 0, rfl⟩


def doR (R : RS) (a : ActS) : Int × RS := if a.kind = 0 then beginR R a.n a.size else if a.kind = 1 then putR R a.n a.no (fillL a.by_ (fillN a.long)) else (0, RS.none)
set_option maxRecDepth 100000 in
set_option maxHeartbeats 8000000 in
theorem rdo_at {w0 w : World} {l : List Asn} {X : Nat} {P : List (Nat × List Value)} {R : RS} (h : St w0 w (rsl X P R :: pool P :: l)) (hr : R.has = true → R.st.right = true) (h10 : R.blocks.length ≤ 10) (a : ActS) (ha : a.Ok) :
    Calls Try.prog 48 #[.pointer (some ⟨X, 0, none⟩), .agg a.cells.toArray] w fun e w' => e = .returned (.int .i64 (doR R a).1) ∧ ∃ P', (∀ x ∈ P, x ∈ P') ∧ St w0 w' (rsl X P' (doR R a).2 :: pool P' :: l) := by
  obtain ⟨kind, an, asz, ano, aby, along, akeep⟩ := a
  obtain ⟨Z, hZ⟩ : ∃ Z, Z = w.heap.size := ⟨_, rfl⟩
  obtain ⟨w1, hw1⟩ : ∃ w1, w1 = w.alloc (.cells #[.int .i64 kind, .int .i64 an, .int .i64 asz, .int .i64 ano, .int .u8 aby, .bool along, .int .u64 akeep] 92) := ⟨_, rfl⟩
  have H1 := Lib.hid (show St w0 w1 (rsl X P R :: pool P :: row Z 92 [.int .i64 kind, .int .i64 an, .int .i64 asz, .int .i64 ano, .int .u8 aby, .bool along, .int .u64 akeep] :: l) by
    rw [hw1, hZ]
    exact ((h.new 92 #[.int .i64 kind, .int .i64 an, .int .i64 asz, .int .i64 ano, .int .u8 aby, .bool along, .int .u64 akeep]).pick 2 rfl).pick 2 rfl)
  have HW1 := Lib.hid hw1; have HZ := Lib.hid hZ; have HAO := Lib.hid ha; have HR := Lib.hid hr
  clear h hw1 hZ ha hr
  unfold ActS.cells
  go_enter Try.func48, Try.ntmps48
  go_upto_region 1 with fail
  rw [← HW1.out, ← HZ.out]
  obtain ⟨z0, z1, z2, z3, z4, z5⟩ : w1.cell? ⟨Z, 0, none⟩ = some (.int .i64 kind) ∧ w1.cell? ⟨Z, 1, none⟩ = some (.int .i64 an) ∧ w1.cell? ⟨Z, 2, none⟩ = some (.int .i64 asz) ∧ w1.cell? ⟨Z, 3, none⟩ = some (.int .i64 ano) ∧ w1.cell? ⟨Z, 4, none⟩ = some (.int .u8 aby) ∧ w1.cell? ⟨Z, 5, none⟩ = some (.bool along) :=
    ⟨(H1.out.pick 2 rfl).row.1.cell 0, (H1.out.pick 2 rfl).row.1.cell 1, (H1.out.pick 2 rfl).row.1.cell 2, (H1.out.pick 2 rfl).row.1.cell 3, (H1.out.pick 2 rfl).row.1.cell 4, (H1.out.pick 2 rfl).row.1.cell 5⟩
  have lz : Z < w1.heap.size := (H1.out.pick 2 rfl).row.1.lt
  by_cases k0 : kind = 0
  · subst k0
    go_wp2_with (fail)
    refine (rbegin_at H1.out an asz HAO.out.size.1).mono ?_
    rintro e w2 ⟨rfl, h2⟩
    have H2 := Lib.hid h2
    clear h2
    go_wp2_with (fail)
    go_ret
    exact ⟨rfl, P, fun x hx => hx, (H2.out.pick 2 rfl).drop⟩
  · have b0 : (kind == 0) = false := by simpa using k0
    by_cases k1 : kind = 1
    · subst k1
      have HD := Lib.hid (show doR R ⟨1, an, asz, ano, aby, along, akeep⟩ = putR R an ano (fillL aby (fillN along)) by unfold doR; rw [if_neg (show ¬ (1 : Int) = 0 by decide), if_pos rfl])
      clear k0
      go_wp2_with (fail)
      have HFL := Lib.hid (fun (w1 : World) (ls : List Asn) (h1 : St w0 w1 ls) => fill_st h1 aby HAO.out.by0 HAO.out.by1 along)
      go_region_held3 (fun w' => w'.cell? ⟨Z, 1, none⟩ = some (.int .i64 an) ∧ w'.cell? ⟨Z, 3, none⟩ = some (.int .i64 ano) ∧ w'.cell? ⟨Z, 4, none⟩ = some (.int .u8 aby) ∧ w'.cell? ⟨Z, 5, none⟩ = some (.bool along)) (first | exact y6 | exact y7 | go_keep) (first
        | (go_at_call 40; refine (HFL.out _ _ H1.out.drew).mono ?_; rintro e w6 ⟨g6, c6, x6, rfl, _, _, _, hg6, h6⟩; have HG6 := Lib.hid hg6; have H6 := Lib.hid (show St w0 w6 (rsl X P R :: pool P :: row g6 5 x6 :: row Z 92 [.int .i64 1, .int .i64 an, .int .i64 asz, .int .i64 ano, .int .u8 aby, .bool along, .int .u64 akeep] :: l) from (h6.pick 2 rfl).pick 2 rfl); have HZR := Lib.hid (H6.out.pick 3 rfl).row.1; have y6 := And.intro (HZR.out.cell 1) (And.intro (HZR.out.cell 3) (And.intro (HZR.out.cell 4) (HZR.out.cell 5))); simp only [List.getElem?_cons_succ, List.getElem?_cons_zero] at y6; clear hg6 h6)
        | (go_at_call 86; refine (rput_at H6.out HG6.out HR.out h10 an ano).mono ?_; rintro e w7 ⟨rfl, P7, hp7, h7⟩; have H7 := Lib.hid h7; have HP7 := Lib.hid hp7; have HZ7 := Lib.hid (h7.pick 3 rfl).row.1; have y7 := And.intro (HZ7.out.cell 1) (And.intro (HZ7.out.cell 3) (And.intro (HZ7.out.cell 4) (HZ7.out.cell 5))); simp only [List.getElem?_cons_succ, List.getElem?_cons_zero] at y7; clear h7 hp7))
      clear z0 z1 z2 z3 z4 z5 lz
      go_wp2_with (fail)
      go_ret
      rw [HD.out]
      exact ⟨rfl, P7, HP7.out, (((H7.out.pick 2 rfl).drop).pick 2 rfl).drop⟩
    · have b1 : (kind == 1) = false := by simpa using k1
      have HD := Lib.hid (show doR R ⟨kind, an, asz, ano, aby, along, akeep⟩ = (0, RS.none) by unfold doR; rw [if_neg k0, if_neg k1])
      obtain ⟨v, vs, _, hx⟩ := rsl_open H1.out
      have HX := Lib.hid hx
      clear k0 k1 hx
      go_upto_region 6 with fail
      go_cut [] (fun wc => St w0 wc (row X 104 (rcells RS.none (.slice none 0 0)) :: pool P :: l))
      case first =>
        go_wp2_with (refine wpList_putR rfl 104 (.tmp 30) (.tmp 29) rfl X 0 #[.bool false, .int .i64 0, .int .i64 0, .int .i64 0, .slice none 0 0] rfl rfl HX.out.row.1 (by kernel_rfl) (Nat.le_refl 5) (by simp [Value.oneCell']) (rcells RS.none (.slice none 0 0)) rfl ?_)
        go_meet
        have h2 := (HX.out.setRow (rcells RS.none (.slice none 0 0))).pick 1 rfl
        exact (h2.drop.pick 2 rfl).drop
      case rest =>
      have H9 := Lib.hid hcut
      clear z0 z1 z2 z3 z4 z5 lz hcut
      go_wp2_with (fail)
      go_ret
      rw [HD.out]
      exact ⟨rfl, P, fun x hx => hx, rsl_none H9.out⟩

/-- does the program's slot have just what the document's has? -/
def Alike (m : DS) (p k : Int) (s : SlS) (R : RS) : Prop := s.has = R.has ∧ (s.has = true → s.st = R.st) ∧ bytesM m p k s = bytesR R
instance (m : DS) (p k : Int) (s : SlS) (R : RS) : Decidable (Alike m p k s R) := by
  unfold Alike
  infer_instance
set_option maxRecDepth 100000 in
set_option maxHeartbeats 16000000 in
theorem same_slot {w0 w : World} {l : List Asn} {g d X : Nat} {m : DS} {p k : Int} {s : SlS} {P : List (Nat × List Value)} {R : RS} (h : St w0 w (slt g d p k s :: dsk d m :: rsl X P R :: pool P :: l)) (hp : Pl m p k) (hr : s.has = true → s.st.right = true) (hd : m.down = false) (hwl : m.waits.length ≤ 1000) (hg : RGood R) (hlen : (bytesM m p k s).1.length ≤ 1000 ∧ (bytesR R).1.length ≤ 1000) :
    Calls Try.prog 51 #[.pointer (some ⟨g, 0, none⟩), .pointer (some ⟨X, 0, none⟩)] w fun e w' => e = .returned (.bool (decide (Alike m p k s R))) ∧ St w0 w' (slt g d p k s :: dsk d m :: rsl X P R :: pool P :: l) := by
  have H := Lib.hid h; have HP := Lib.hid hp; have HR := Lib.hid hr; have HD := Lib.hid hd; have HG := Lib.hid hg
  obtain ⟨bm, hbm⟩ : ∃ b, b = bytesM m p k s := ⟨_, rfl⟩
  obtain ⟨br, hbr⟩ : ∃ b, b = bytesR R := ⟨_, rfl⟩
  rw [← hbm, ← hbr] at hlen
  have HBM := Lib.hid hbm; have HBR := Lib.hid hbr
  have HAL := Lib.hid (show decide (Alike m p k s R) = decide (s.has = R.has ∧ (s.has = true → s.st = R.st) ∧ bm = br) by rw [hbm, hbr]; rfl)
  clear h hp hr hd hg hbm hbr
  go_enter Try.func51, Try.ntmps51
  go_wp2_with (fail)
  refine (stage_at H.out.row.1).mono ?_
  rintro e w1 ⟨rfl, hb⟩
  have H1 := Lib.hid (H.out.below hb)
  clear hb
  rw [Stg.val_eq (told s)]
  obtain ⟨T, hT⟩ : ∃ T, T = w1.heap.size := ⟨_, rfl⟩
  obtain ⟨w2, hw2⟩ : ∃ w2, w2 = w1.alloc (.cells #[.int .i64 (told s).session, .int .i64 (told s).size, .int .i64 (told s).have_] 96) := ⟨_, rfl⟩
  have H2 := Lib.hid (show St w0 w2 (slt g d p k s :: dsk d m :: rsl X P R :: pool P :: row T 96 [.int .i64 (told s).session, .int .i64 (told s).size, .int .i64 (told s).have_] :: l) by
    rw [hw2, hT]
    exact (H1.out.new 96 #[.int .i64 (told s).session, .int .i64 (told s).size, .int .i64 (told s).have_]).perm (List.perm_append_comm (l₁ := [_]) (l₂ := [_, _, _, _]) |>.append_right l))
  have HW2 := Lib.hid hw2; have HT := Lib.hid hT
  clear hw2 hT
  go_upto_region 2 with fail
  rw [← HW2.out, ← HT.out]
  go_wp2_with (fail)
  refine (bytes_st H2.out HP.out HR.out HD.out hwl).mono ?_
  rintro e w3 ⟨A3, n3, B3, he, hg3, h3⟩
  rw [← HBM.out] at he hg3
  subst he
  have HG3 := Lib.hid hg3
  have H3 := Lib.hid (show St w0 w3 (rsl X P R :: pool P :: B3 :: slt g d p k s :: dsk d m :: row T 96 [.int .i64 (told s).session, .int .i64 (told s).size, .int .i64 (told s).have_] :: l) from (h3.pick 4 rfl).pick 4 rfl)
  clear hg3 h3
  go_wp2_with (fail)
  refine (rbytes_at H3.out HG.out).mono ?_
  rintro e w4 ⟨A4, n4, c4, B4, he, hg4, h4⟩
  rw [← HBR.out] at he hg4
  subst he
  have HG4 := Lib.hid hg4
  have HF := Lib.hid (fun (w5 : World) (h5 : Below w4.heap.size w4 w5) => show St w0 w5 (slt g d p k s :: dsk d m :: rsl X P R :: pool P :: l) from
    ((((((h4.below h5).pick 6 rfl).drop.drop.pick 2 rfl).drop).pick 3 rfl).pick 3 rfl))
  have H4 := Lib.hid h4
  obtain ⟨v, vs, _, h5⟩ := rsl_open (h4.pick 1 rfl)
  obtain ⟨x0, x1, x2, x3, x4, lx⟩ := rsl_read h5.row.1
  obtain ⟨t0, t1, t2⟩ : w4.cell? ⟨T, 0, none⟩ = some (.int .i64 (told s).session) ∧ w4.cell? ⟨T, 1, none⟩ = some (.int .i64 (told s).size) ∧ w4.cell? ⟨T, 2, none⟩ = some (.int .i64 (told s).have_) :=
    ⟨(h4.pick 6 rfl).row.1.cell 0, (h4.pick 6 rfl).row.1.cell 1, (h4.pick 6 rfl).row.1.cell 2⟩
  have HSM := Lib.hid (fun (nd : Nat) => same_quiet bm.1 br.1 A3 A4 n3 n4 n3 c4 (w4.drewN nd) HG3.out.1.symm HG4.out.1.symm (by have := HG3.out.1; omega) (by have := HG4.out.1; omega) ((HG3.out.2 _ _ (h4.pick 3 rfl)).below (below_drewN (Below.refl _ _) nd)) ((HG4.out.2 _ _ h4).below (below_drewN (Below.refl _ _) nd)))
  have HFQ := Lib.hid (fun nd => HF.out (w4.drewN nd) (below_drewN (Below.refl _ _) nd))
  clear hg4 h4 h5
  go_wp2_with (fail)
  have HGO := Lib.hid (fun (hsr : s.has = R.has) (hst : s.has = true → s.st = R.st) => show decide (Alike m p k s R) = (decide (bm.1 = br.1) && decide (bm.2 = br.2)) by
    rw [HAL.out, Bool.eq_iff_iff]
    simp only [decide_eq_true_eq, Bool.and_eq_true]
    exact ⟨fun ⟨_, _, h⟩ => by rw [h]; exact ⟨rfl, rfl⟩, fun ⟨h1, h2⟩ => ⟨hsr, hst, Prod.ext h1 h2⟩⟩)
  cases hs : s.has with
  | true =>
    cases hr : R.has with
    | true =>
      have htl : told s = s.st := by unfold told; rw [hs]; rfl
      rw [hr] at x0
      rw [htl] at t0 t1 t2
      by_cases hst : s.st = R.st
      · rw [← hst] at x1 x2 x3
        have HGO2 := Lib.hid (HGO.out (hs.trans hr.symm) fun _ => hst)
        clear hs hr htl hst
        by_cases q1 : bm.1 = br.1
        · have HQ1 := Lib.hid (decide_eq_true q1)
          by_cases q2 : bm.2 = br.2
          · have b2 : (bm.2 == br.2) = true := by simpa using q2
            have HE := Lib.hid (show decide (Alike m p k s R) = true by rw [HGO2.out, HQ1.out, decide_eq_true q2]; rfl)
            rw [HQ1.out] at HSM
            clear q1 q2
            go_quiet ((go_at_call 42; exact Calls.quiet_of (HSM.out _)))
            go_wp2_with (fail)
            go_ret
            exact ⟨ret_bool HE.out.symm, HFQ.out _⟩
          · have b2 : (bm.2 == br.2) = false := by simpa using q2
            have HE := Lib.hid (show decide (Alike m p k s R) = false by rw [HGO2.out, HQ1.out, decide_eq_false q2]; rfl)
            rw [HQ1.out] at HSM
            clear q1 q2
            go_quiet ((go_at_call 42; exact Calls.quiet_of (HSM.out _)))
            go_wp2_with (fail)
            go_ret
            exact ⟨ret_bool HE.out.symm, HFQ.out _⟩
        · have HQ1 := Lib.hid (decide_eq_false q1)
          have HE := Lib.hid (show decide (Alike m p k s R) = false by rw [HGO2.out, HQ1.out]; rfl)
          rw [HQ1.out] at HSM
          clear q1
          go_quiet ((go_at_call 42; exact Calls.quiet_of (HSM.out _)))
          go_wp2_with (fail)
          go_ret
          exact ⟨ret_bool HE.out.symm, HFQ.out _⟩
      · have HE := Lib.hid (show decide (Alike m p k s R) = false by rw [HAL.out]; exact decide_eq_false fun ⟨_, h, _⟩ => hst (h hs))
        have b3 : ¬ (s.st.session = R.st.session ∧ s.st.size = R.st.size ∧ s.st.have_ = R.st.have_) := by
          rintro ⟨h1, h2, h3⟩
          apply hst
          cases ha : s.st; cases hb : R.st
          rw [ha, hb] at h1 h2 h3
          simp only at h1 h2 h3
          rw [h1, h2, h3]
        clear hs hr htl hst
        by_cases y1 : s.st.session = R.st.session
        · rw [← y1] at x1
          by_cases y2 : s.st.size = R.st.size
          · rw [← y2] at x2
            have y3 : (s.st.have_ == R.st.have_) = false := by simpa using fun h => b3 ⟨y1, y2, h⟩
            clear b3 y1 y2
            go_quiet (fail)
            go_wp2_with (fail)
            go_ret
            exact ⟨ret_bool HE.out.symm, HFQ.out _⟩
          · have y3 : (s.st.size == R.st.size) = false := by simpa using y2
            clear b3 y1 y2
            go_quiet (fail)
            go_wp2_with (fail)
            go_ret
            exact ⟨ret_bool HE.out.symm, HFQ.out _⟩
        · have y3 : (s.st.session == R.st.session) = false := by simpa using y1
          clear b3 y1
          go_quiet (fail)
          go_wp2_with (fail)
          go_ret
          exact ⟨ret_bool HE.out.symm, HFQ.out _⟩
    | false =>
      have HE := Lib.hid (show decide (Alike m p k s R) = false by rw [HAL.out, hs, hr]; simp)
      rw [hr] at x0
      clear hs hr
      go_quiet (fail)
      go_wp2_with (fail)
      go_ret
      exact ⟨ret_bool HE.out.symm, HFQ.out _⟩
  | false =>
    cases hr : R.has with
    | true =>
      have HE := Lib.hid (show decide (Alike m p k s R) = false by rw [HAL.out, hs, hr]; simp)
      rw [hr] at x0
      clear hs hr
      go_quiet (fail)
      go_wp2_with (fail)
      go_ret
      exact ⟨ret_bool HE.out.symm, HFQ.out _⟩
    | false =>
      have htl : told s = Stg.zero := by unfold told; rw [hs]; rfl
      rw [hr] at x0
      rw [htl] at t0 t1 t2
      unfold Stg.zero at t0 t1 t2
      have HGO2 := Lib.hid (HGO.out (hs.trans hr.symm) fun h => absurd (hs.symm.trans h) (by decide))
      clear hs hr htl
      by_cases q1 : bm.1 = br.1
      · have HQ1 := Lib.hid (decide_eq_true q1)
        by_cases q2 : bm.2 = br.2
        · have b2 : (bm.2 == br.2) = true := by simpa using q2
          have HE := Lib.hid (show decide (Alike m p k s R) = true by rw [HGO2.out, HQ1.out, decide_eq_true q2]; rfl)
          rw [HQ1.out] at HSM
          clear q1 q2
          go_quiet ((go_at_call 42; exact Calls.quiet_of (HSM.out _)))
          go_wp2_with (fail)
          go_ret
          exact ⟨ret_bool HE.out.symm, HFQ.out _⟩
        · have b2 : (bm.2 == br.2) = false := by simpa using q2
          have HE := Lib.hid (show decide (Alike m p k s R) = false by rw [HGO2.out, HQ1.out, decide_eq_false q2]; rfl)
          rw [HQ1.out] at HSM
          clear q1 q2
          go_quiet ((go_at_call 42; exact Calls.quiet_of (HSM.out _)))
          go_wp2_with (fail)
          go_ret
          exact ⟨ret_bool HE.out.symm, HFQ.out _⟩
      · have HQ1 := Lib.hid (decide_eq_false q1)
        have HE := Lib.hid (show decide (Alike m p k s R) = false by rw [HGO2.out, HQ1.out]; rfl)
        rw [HQ1.out] at HSM
        clear q1
        go_quiet ((go_at_call 42; exact Calls.quiet_of (HSM.out _)))
        go_wp2_with (fail)
        go_ret
        exact ⟨ret_bool HE.out.symm, HFQ.out _⟩
end Go.Proofs.Ytooagoikiafgcaa.stage

namespace Go.Proofs.Ytooagoikiafgcaa.stage
set_option linter.unusedVariables false
open Go.Proofs.Ytooagoikiafgcaa.base Go.Proofs.Ytooagoikiafgcaa.crc Go.Proofs.Ytooagoikiafgcaa.disk Go.Proofs.Ytooagoikiafgcaa.record Go.Proofs.Ytooagoikiafgcaa.bits

def actM (m : DS) (p k : Int) (s : SlS) (a : ActS) : Int × DS × SlS :=
  if a.kind = 0 then beginM m p k s a.n a.size else if a.kind = 1 then putM m p k s a.n a.no (fillL a.by_ (fillN a.long)) else clearM m p k s
theorem SI.act {m : DS} {p k : Int} {s : SlS} {R : RS} {might : Option RS} (h : SI m p k s R might) (a : ActS) : Stepped m p k s R might (actM m p k s a) (doR R a) := by
  unfold actM doR
  by_cases h0 : a.kind = 0
  · rw [if_pos h0, if_pos h0]
    exact h.begin _ _
  · rw [if_neg h0, if_neg h0]
    by_cases h1 : a.kind = 1
    · rw [if_pos h1, if_pos h1]
      exact h.put _ _ (fillL_byt _ _)
    · rw [if_neg h1, if_neg h1]
      exact h.clear
theorem actM_slen (m : DS) (p k : Int) (s : SlS) (a : ActS) : (actM m p k s a).2.1.secs.length = m.secs.length := by
  unfold actM
  split
  · unfold beginM
    split
    · split <;> exact wf_slen _ _ _
    · rfl
  · split
    · exact putM_slen _ _ _ _ _ _ _
    · unfold clearM
      split <;> exact wf_slen _ _ _
theorem RGood.ofMem {s : SlS} {R : RS} (h : RMem s R) : RGood R := by
  refine ⟨fun hh => h.none (h.has.trans hh), fun hh => ?_⟩
  have h1 := h.has.trans hh
  have h2 := (stg_in (h.right h1)).2.1
  have h3 := h.len h1
  rw [h.st] at h2 h3
  exact ⟨h2.1, h2.2, h3⟩
theorem RGood.do {R : RS} (h : RGood R) (a : ActS) : RGood (doR R a).2 := by
  unfold doR
  split
  · unfold beginR
    split
    · rename_i hr
      have h2 := (stg_in hr).2.1
      exact ⟨fun hh => absurd hh (show ¬ (true = false) by decide), fun _ => ⟨h2.1, h2.2, by simp⟩⟩
    · exact h
  · split
    · unfold putR
      split
      · exact h
      · split
        · exact h
        · rename_i hw _
          have hw' : wrongR R a.n a.no (fillL a.by_ (fillN a.long)).length = 0 := Classical.not_not.1 hw
          obtain ⟨w1, _⟩ := wrongR_yes hw'
          obtain ⟨s1, s2, s3⟩ := h.size w1
          exact ⟨fun hh => absurd (w1.symm.trans hh) (by decide), fun _ => ⟨s1, s2, by rw [List.length_set]; exact s3⟩⟩
    · exact ⟨fun _ => rfl, fun hh => absurd hh (by decide)⟩
theorem SI.alike {m : DS} {p k : Int} {s : SlS} {R : RS} {might : Option RS} (h : SI m p k s R might) (hu : m.down = false) : Alike m p k s R :=
  ⟨h.mem.has, fun _ => h.mem.st, bytes_eq h.pl h.mem (h.up hu).2.2.1 hu⟩
theorem bytesR_len {R : RS} (h : RGood R) : (bytesR R).1.length ≤ 1000 := by
  unfold bytesR
  split
  · simp
  · split
    · simp
    · rename_i hh _
      have h1 : R.has = true := by simpa using hh
      have h2 := h.size h1
      simp only
      rw [List.length_take]
      omega
theorem bytesM_len {m : DS} {p k : Int} {s : SlS} (h : s.has = true → s.st.right = true) : (bytesM m p k s).1.length ≤ 1000 := by
  unfold bytesM
  split
  · simp
  · split
    · simp
    · split
      · simp
      · rename_i hh _ _
        have h1 : s.has = true := by simpa using hh
        have h2 := (stg_in (h h1)).2.1
        simp only
        rw [List.length_take]
        omega

/-! ### other sectors -/
structure Zr (m : DS) (p k : Int) : Prop where
  secs : ∀ j, j < m.secs.length → Outside p k j → m.secs[j]? = some zeroSec
  waits : ∀ x ∈ m.waits, ¬ Outside p k x.1
theorem Zr.new (n : Nat) (p k : Int) : Zr (DS.new n) p k := ⟨fun j hj _ => by
  have : j < n := by simpa [DS.new] using hj
  simp [DS.new, this], fun x hx => absurd hx (by simp [DS.new])⟩
theorem Zr.burnt {m : DS} {p k : Int} (h : Zr m p k) : Zr m.burnt p k := ⟨by rw [DS.burnt_secs]; exact h.secs, by rw [DS.burnt_waits]; exact h.waits⟩
theorem lay_out {ws : List (Nat × List Int)} {s : List (List Int)} (q : Nat → Bool) {j : Nat} (h : ∀ x ∈ ws, x.1 ≠ j) : ∀ n, (layTo q ws s n)[j]? = s[j]?
  | 0 => rfl
  | n + 1 => by
    have ih := lay_out (s := s) q h n
    rw [layTo]
    split
    · rename_i w hw
      split
      · rw [List.getElem?_set_ne (h w (List.mem_of_getElem? hw)), ih]
      · exact ih
    · exact ih
theorem Zr.lay {m : DS} {p k : Int} (h : Zr m p k) (q : Nat → Bool) : Zr (m.lay q) p k := by
  refine ⟨fun j hj ho => ?_, fun x hx => absurd hx (by simp [DS.lay])⟩
  show (layTo q m.waits m.secs m.waits.length)[j]? = _
  rw [lay_out q (fun x hx e => h.waits x hx (by rw [e]; exact ho))]
  exact h.secs j (by have : j < (layTo q m.waits m.secs m.waits.length).length := hj; rwa [layTo_len] at this) ho
theorem Zr.flush {m : DS} {p k : Int} (h : Zr m p k) : Zr m.flush.2 p k := by
  unfold DS.flush
  split
  · exact h.burnt.lay _
  · exact h.burnt
theorem Zr.write {m : DS} {p k : Int} (h : Zr m p k) {i : Int} (hi : ¬ Outside p k i.toNat) (bs : List Int) : Zr (m.write i bs).2 p k := by
  unfold DS.write
  split
  · exact h
  · split
    · exact h
    · split
      · refine ⟨fun j hj ho => ?_, fun x hx => ?_⟩
        · show m.burnt.secs[j]? = _
          exact h.burnt.secs j hj ho
        · rcases List.mem_append.1 hx with hx | hx
          · exact h.burnt.waits x hx
          · rw [List.mem_singleton.1 hx]
            exact hi
      · exact h.burnt
theorem Zr.wf {m : DS} {p k : Int} (h : Zr m p k) {i : Int} (hi : ¬ Outside p k i.toNat) (bs : List Int) : Zr (disk.wf m i bs).2 p k := by
  unfold disk.wf
  split
  · exact (h.write hi bs).flush
  · exact h.write hi bs
theorem Zr.power {m : DS} {p k : Int} (h : Zr m p k) (keep : Int) : Zr (m.power keep) p k := by
  have := h.lay (keeps keep)
  exact ⟨this.secs, this.waits⟩
theorem Zr.fuse {m : DS} {p k : Int} (h : Zr m p k) (n : Int) : Zr (m.setFuse n) p k := by
  unfold DS.setFuse
  split
  · exact h
  · exact ⟨h.secs, h.waits⟩
theorem Zr.now {m : DS} {p k : Int} (h : Zr m p k) (hw : m.waits = []) {j : Nat} (hj : j < m.secs.length) (ho : Outside p k j) : m.now j = zeroSec := by
  unfold DS.now
  rw [hw]
  show m.secs.getD j [] = _
  rw [List.getD_eq_getElem?_getD, h.secs j hj ho]
  rfl
theorem in_own {p k : Int} (h0 : 0 ≤ sAt p k) : ¬ Outside p k (sAt p k).toNat := fun h => out_own h h0 rfl
theorem in_data {p k i : Int} (h0 : 0 ≤ sAt p k) (i0 : 0 ≤ i) (i3 : i < 3) : ¬ Outside p k (dAt p k i).toNat := fun h => out_data h h0 i0 i3 rfl
theorem Zr.act {m : DS} {p k : Int} (h : Zr m p k) (hp : Pl m p k) {s : SlS} (hs : s.has = true → s.st.right = true) (a : ActS) : Zr (actM m p k s a).2.1 p k := by
  have o1 := in_own hp.own.1
  unfold actM
  split
  · unfold beginM
    split
    · split <;> exact h.wf o1 _
    · exact h
  · split
    · unfold putM
      by_cases hw : wrongE s a.n a.no (fillL a.by_ (fillN a.long)).length = 0
      · rw [if_neg (not_not_intro hw)]
        obtain ⟨hh, w1, w2, w3, w4⟩ := wrong_yes hw
        have hn10 : a.no < 10 := by
          have := (stg_in (hs hh)).2.1
          unfold blocksN at w3; omega
        have o2 := in_data (i := a.no / 4) hp.own.1 (by omega) (by omega)
        have h1 := h.wf o2 (splice (m.now (dAt p k (a.no / 4)).toNat) a.no.toNat (fillL a.by_ (fillN a.long)))
        split
        · exact h
        · split
          · exact h
          · have key : Zr (wf2 m (dAt p k (a.no / 4)) (splice (m.now (dAt p k (a.no / 4)).toNat) a.no.toNat (fillL a.by_ (fillN a.long))) (sAt p k) (nxt s.st a.no.toNat).bytes).2 p k := by
              unfold wf2
              split
              · exact h1.wf o1 _
              · exact h1
            split <;> exact key
      · rw [if_pos hw]
        exact h
    · unfold clearM
      split <;> exact h.wf o1 _
end Go.Proofs.Ytooagoikiafgcaa.stage
