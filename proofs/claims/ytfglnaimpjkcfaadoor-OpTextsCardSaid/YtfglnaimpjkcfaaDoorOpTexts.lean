/-
  PROVED HERE: for every instruction i and every text t, longeronlaw15.OpTexts(i, t) returns true, in each world in which strconv's table of powers of ten is as its text lays it.
  CONDITIONS: the table.
-/
import Derived.Test.YtfglnaimpjkcfaaDoorTextRparse
import Derived.Test.YtfglnaimpjkcfaaDoorOpWakes
namespace Go.Proofs.YtfglnaimpjkcfaaDoor.opTexts
set_option linter.unusedVariables false
open Go.RowKit Go.Shelf Go.Proofs.YtfglnaimpjkcfaaDoor.base Go.Proofs.YtfglnaimpjkcfaaDoor.obj Go.Proofs.YtfglnaimpjkcfaaDoor.mem Go.Proofs.YtfglnaimpjkcfaaDoor.sep Go.Proofs.YtfglnaimpjkcfaaDoor.plan Go.Proofs.YtfglnaimpjkcfaaDoor.op Go.Proofs.YtfglnaimpjkcfaaDoor.text

theorem par_same {t : ByteArray} {o a o' a' : Int} {is is' : Bool} (h : ParIs t o a is) (h' : ParIs t o' a' is') : o = o' ∧ a = a' ∧ is = is' := by
  rcases h with ⟨rfl, h1⟩ | ⟨rfl, rfl, rfl, h1⟩
  · rcases h' with ⟨rfl, h2⟩ | ⟨rfl, rfl, rfl, h2⟩
    · obtain ⟨e1, e2⟩ := isT_one h1 h2
      exact ⟨e1, e2, rfl⟩
    · exact absurd h1 (h2 _ _)
  · rcases h' with ⟨rfl, h2⟩ | ⟨rfl, rfl, rfl, h2⟩
    · exact absurd h2 (h1 _ _)
    · exact ⟨rfl, rfl, rfl⟩
theorem txt_size {o a : Int} (hr : right o a = true) : (txtB o a).size ≤ 1000 := by
  obtain ⟨o0, o1, a0, a1⟩ := right_yes hr
  obtain ⟨k, rfl⟩ := Int.eq_ofNat_of_zero_le o0
  obtain ⟨n, rfl⟩ := Int.eq_ofNat_of_zero_le a0
  have z1 := nmB_size k (by omega)
  have z2 := dec_size n (by omega)
  unfold txtB
  split
  · rw [ByteArray.size_append, ByteArray.size_append, Int.toNat_natCast, Int.toNat_natCast]
    have : (⟨#[32]⟩ : ByteArray).size = 1 := rfl
    omega
  · rw [Int.toNat_natCast]
    omega

set_option maxRecDepth 100000 in
set_option maxHeartbeats 8000000 in
theorem walk (w : World) (o a : Int) (t : ByteArray) (htab : Lib.TabIs Tryd.prog w "internal/strconv.uint64pow10" .u64 Lib.pow10Tab) :
    Calls Tryd.prog 3 #[.agg #[.int .i64 o, .int .i64 a], .string t] w fun e w' => e = .returned (.bool true) ∧ Below w.heap.size w w' := by
  obtain ⟨X, hX⟩ : ∃ X, X = w.heap.size := ⟨_, rfl⟩
  have H0 := Lib.hid (show St w (w.alloc (.cells #[.int .i64 o, .int .i64 a] 23)) [row X 23 [.int .i64 o, .int .i64 a]] by rw [hX]; exact (St.nil w).new _ _)
  have HX := Lib.hid hX
  have HTAB := Lib.hid htab
  clear hX htab
  go_enter Tryd.func3, Tryd.ntmps3
  go_wp2_with (fail)
  rw [← HX.out]
  refine (opWakes.wakes _).mono ?_
  rintro e w1 ⟨rfl, hb⟩
  have H1 := Lib.hid (H0.out.below hb)
  clear hb
  by_cases q0 : (t.size : Int) > 50
  · go_wp2_with (fail)
    go_ret
    exact ⟨rfl, H1.out.bel⟩
  have ht : t.size ≤ 1000 := by omega
  have HPT := Lib.hid (fun w2 => parse_at t ht w2)
  have HRP := Lib.hid (fun w2 => rparse_at t w2)
  have x0 : w1.cell? ⟨X, 0, none⟩ = some (.int .i64 o) := H1.out.row.1.cell 0
  have x1 : w1.cell? ⟨X, 1, none⟩ = some (.int .i64 a) := H1.out.row.1.cell 1
  have lX : X < w1.heap.size := H1.out.row.1.lt
  by_cases hr : right o a = true
  · obtain ⟨tx, htx⟩ : ∃ tx, tx = txtB o a := ⟨_, rfl⟩
    have HTY := Lib.hid (fun (w2 : World) (hb : Below w.heap.size w w2) => text_yes o a hr w2 (tab_over HTAB.out hb))
    have HRR := Lib.hid (fun w2 => rright_any o a w2)
    have HRT := Lib.hid (fun w2 => rtext_at o a hr w2)
    have HIS := Lib.hid (show IsT tx o a from ⟨hr, htx.symm⟩)
    have HPE := Lib.hid (show ∀ w2, Calls Tryd.prog 8 #[.string tx] w2 fun e w' => e = .returned (.tuple #[.agg #[.int .i64 o, .int .i64 a], .bool true]) ∧ Below w2.heap.size w2 w' from fun w2 => (parse_at tx (by rw [htx]; exact txt_size hr) w2).mono fun e w' h => by
      obtain ⟨o1, a1, i1, rfl, hp, hb⟩ := h
      rcases hp with ⟨rfl, h1⟩ | ⟨_, _, _, h1⟩
      · obtain ⟨rfl, rfl⟩ := isT_one HIS.out h1
        exact ⟨rfl, hb⟩
      · exact absurd HIS.out (h1 _ _))
    rw [hr] at HRR
    rw [← htx] at HTY HRT
    clear hr htx
    go_wp2_with (fail)
    refine (HTY.out _ H1.out.bel).mono ?_
    rintro e w2 ⟨rfl, hb⟩
    have H2 := Lib.hid (H1.out.below hb)
    have x0 : w2.cell? ⟨X, 0, none⟩ = some (.int .i64 o) := H2.out.row.1.cell 0
    have x1 : w2.cell? ⟨X, 1, none⟩ = some (.int .i64 a) := H2.out.row.1.cell 1
    have lX : X < w2.heap.size := H2.out.row.1.lt
    clear hb
    go_wp2_with (fail)
    refine (HRR.out _).mono ?_
    rintro e w3 ⟨rfl, hb⟩
    have H3 := Lib.hid (H2.out.below hb)
    have x0 : w3.cell? ⟨X, 0, none⟩ = some (.int .i64 o) := H3.out.row.1.cell 0
    have x1 : w3.cell? ⟨X, 1, none⟩ = some (.int .i64 a) := H3.out.row.1.cell 1
    have lX : X < w3.heap.size := H3.out.row.1.lt
    clear hb
    go_wp2_with (fail)
    refine (HRT.out _).mono ?_
    rintro e w3 ⟨rfl, hb⟩
    have H3b := Lib.hid (H3.out.below hb)
    clear hb
    go_wp2_with (fail)
    refine (HPE.out _).mono ?_
    rintro e w4 ⟨rfl, hb⟩
    have H4 := Lib.hid (H3b.out.below hb)
    have HB4 := Lib.hid H4.out.bel
    obtain ⟨K4, hK4⟩ : ∃ K4, K4 = w4.heap.size := ⟨_, rfl⟩
    have x0 : w4.cell? ⟨X, 0, none⟩ = some (.int .i64 o) := H4.out.row.1.cell 0
    have x1 : w4.cell? ⟨X, 1, none⟩ = some (.int .i64 a) := H4.out.row.1.cell 1
    have lX : X < w4.heap.size := H4.out.row.1.lt
    clear hb hK4
    go_wp2_with (fail)
    refine (HPT.out _).mono ?_
    rintro e w5 ⟨o2, a2, i2, rfl, hp, hb⟩
    have HB5 := Lib.hid ((HB4.out.alloc HB4.out.size (.cells #[.int .i64 o, .int .i64 a] 23)).trans (hb.mono (HB4.out.alloc HB4.out.size (.cells #[.int .i64 o, .int .i64 a] 23)).size))
    have HP := Lib.hid hp
    clear hb hp
    obtain ⟨J, hJ⟩ : ∃ J, J = w5.heap.size := ⟨_, rfl⟩
    have HR5 := Lib.hid (show Row (w5.alloc (.cells #[.int .i64 o2, .int .i64 a2] 23)) J 23 [.int .i64 o2, .int .i64 a2] by rw [hJ]; exact Row.new w5 _ _)
    have HB5a := Lib.hid (HB5.out.alloc HB5.out.size (.cells #[.int .i64 o2, .int .i64 a2] 23))
    have HJ := Lib.hid hJ
    clear hJ
    go_wp2_with (fail)
    rw [← HJ.out]
    refine (HRP.out _).mono ?_
    rintro e w6 ⟨o3, a3, i3, rfl, hp, hb⟩
    obtain ⟨rfl, rfl, rfl⟩ := par_same HP.out hp
    have HR6 := Lib.hid (HR5.out.below hb HR5.out.lt)
    have HB6 := Lib.hid (HB5a.out.trans (hb.mono HB5a.out.size))
    clear hb hp
    have y0 : w6.cell? ⟨J, 0, none⟩ = some (.int .i64 o2) := HR6.out.cell 0
    have y1 : w6.cell? ⟨J, 1, none⟩ = some (.int .i64 a2) := HR6.out.cell 1
    have lJ : J < w6.heap.size := HR6.out.lt
    go_wp2_with (fail)
    go_ret
    exact ⟨rfl, HB6.out.alloc HB6.out.size _⟩
  · have hr2 : right o a = false := by simpa using hr
    have HTN := Lib.hid (fun w2 => text_no o a hr2 w2)
    have HRR := Lib.hid (fun w2 => rright_any o a w2)
    rw [hr2] at HRR
    have HPE := Lib.hid (fun w2 => parse_at ⟨#[]⟩ (Nat.zero_le _) w2)
    clear hr hr2
    go_wp2_with (fail)
    refine (HTN.out _).mono ?_
    rintro e w2 ⟨rfl, hb⟩
    have H2 := Lib.hid (H1.out.below hb)
    have x0 : w2.cell? ⟨X, 0, none⟩ = some (.int .i64 o) := H2.out.row.1.cell 0
    have x1 : w2.cell? ⟨X, 1, none⟩ = some (.int .i64 a) := H2.out.row.1.cell 1
    have lX : X < w2.heap.size := H2.out.row.1.lt
    clear hb
    go_wp2_with (fail)
    refine (HRR.out _).mono ?_
    rintro e w3 ⟨rfl, hb⟩
    have H3 := Lib.hid (H2.out.below hb)
    have x0 : w3.cell? ⟨X, 0, none⟩ = some (.int .i64 o) := H3.out.row.1.cell 0
    have x1 : w3.cell? ⟨X, 1, none⟩ = some (.int .i64 a) := H3.out.row.1.cell 1
    have lX : X < w3.heap.size := H3.out.row.1.lt
    clear hb
    go_wp2_with (fail)
    refine (HPE.out _).mono ?_
    rintro e w4 ⟨o1, a1, i1, rfl, _, hb⟩
    have HB4 := Lib.hid (H3.out.bel.trans (hb.mono H3.out.bel.size))
    clear hb
    go_wp2_with (fail)
    refine (HPT.out _).mono ?_
    rintro e w5 ⟨o2, a2, i2, rfl, hp, hb⟩
    have HB5 := Lib.hid ((HB4.out.alloc HB4.out.size (.cells #[.int .i64 o1, .int .i64 a1] 23)).trans (hb.mono (HB4.out.alloc HB4.out.size (.cells #[.int .i64 o1, .int .i64 a1] 23)).size))
    have HP := Lib.hid hp
    clear hb hp
    obtain ⟨J, hJ⟩ : ∃ J, J = w5.heap.size := ⟨_, rfl⟩
    have HR5 := Lib.hid (show Row (w5.alloc (.cells #[.int .i64 o2, .int .i64 a2] 23)) J 23 [.int .i64 o2, .int .i64 a2] by rw [hJ]; exact Row.new w5 _ _)
    have HB5a := Lib.hid (HB5.out.alloc HB5.out.size (.cells #[.int .i64 o2, .int .i64 a2] 23))
    have HJ := Lib.hid hJ
    clear hJ
    go_wp2_with (fail)
    rw [← HJ.out]
    refine (HRP.out _).mono ?_
    rintro e w6 ⟨o3, a3, i3, rfl, hp, hb⟩
    obtain ⟨rfl, rfl, rfl⟩ := par_same HP.out hp
    have HR6 := Lib.hid (HR5.out.below hb HR5.out.lt)
    have HB6 := Lib.hid (HB5a.out.trans (hb.mono HB5a.out.size))
    clear hb hp
    have y0 : w6.cell? ⟨J, 0, none⟩ = some (.int .i64 o2) := HR6.out.cell 0
    have y1 : w6.cell? ⟨J, 1, none⟩ = some (.int .i64 a2) := HR6.out.cell 1
    have lJ : J < w6.heap.size := HR6.out.lt
    go_wp2_with (fail)
    go_ret
    exact ⟨rfl, HB6.out.alloc HB6.out.size _⟩
end Go.Proofs.YtfglnaimpjkcfaaDoor.opTexts
