/-
  PROVED HERE: a message that came in, opened; the example of the ground station's law.
  CONDITIONS: each lemma names its own.
-/
import Derived.Test.YtjncpincmkpdpaaGroundAck
import Derived.Test.YtjncpincmkpdpaaLiftField
namespace Go.Proofs.Ytjncpincmkpdpaa.ground
set_option linter.unusedVariables false
open Go.RowKit Go.ChangeShapes Go.WideShapes Go.Deep Go.Proofs.Ytjncpincmkpdpaa.base Go.Proofs.Ytjncpincmkpdpaa.obj Go.Proofs.Ytjncpincmkpdpaa.mem Go.Proofs.Ytjncpincmkpdpaa.plan

set_option maxRecDepth 100000 in
theorem arg_pdu {H : Type} {enc : TypeId × Value → H} {W : World} {r : Reach} {b0 : Nat} {v : Value} {d : DataW H} {ps : List MemPlace} (hval : Value.okWide Try.prog W r b0 28 v)
    (h : DataW.Trod enc Try.prog W 0 (fun _ => true) true 28 v d ps) : ∃ (x0 x1 x2 x3 x4 x5 x6 x7 : Int) (A : Option Addr) (c : Nat) (zs : List Int), v = pdu x0 x1 x2 x3 x4 x5 x6 x7 (.slice A zs.length c) ∧ zs.length ≤ c ∧ zs.length ≤ maxLen
      ∧ Sl W W.heap.size 1 A zs.length (zs.map (.int .u8)) := by
  obtain ⟨cs, rfl, hl⟩ := okWide_struct Try.underlying28 hval
  obtain ⟨fuel, hx⟩ := h
  have hl9 : cs.toList.length = 9 := by rw [Array.length_toList, hl]; kernel_rfl
  have hf := Go.Proofs.Ytjncpincmkpdpaa.lift.row_fields Try.underlying28 (by kernel_rfl) (by rw [show (Value.agg cs).cells.toList = cs.toList from rfl]; exact hl9) hx
  obtain ⟨v0, k0, y0, g0, t0⟩ := hf 0 _ rfl
  obtain ⟨v1, k1, y1, g1, t1⟩ := hf 1 _ rfl
  obtain ⟨v2, k2, y2, g2, t2⟩ := hf 2 _ rfl
  obtain ⟨v3, k3, y3, g3, t3⟩ := hf 3 _ rfl
  obtain ⟨v4, k4, y4, g4, t4⟩ := hf 4 _ rfl
  obtain ⟨v5, k5, y5, g5, t5⟩ := hf 5 _ rfl
  obtain ⟨v6, k6, y6, g6, t6⟩ := hf 6 _ rfl
  obtain ⟨v7, k7, y7, g7, t7⟩ := hf 7 _ rfl
  obtain ⟨v8, k8, y8, g8, t8⟩ := hf 8 _ rfl
  obtain ⟨a0, h0, _, w0⟩ := DataW.trod_int Try.underlying3 t0
  obtain ⟨a1, h1, _, w1⟩ := DataW.trod_int Try.underlying3 t1
  obtain ⟨a2, h2, _, w2⟩ := DataW.trod_int Try.underlying3 t2
  obtain ⟨a3, h3, _, w3⟩ := DataW.trod_int Try.underlying3 t3
  obtain ⟨a4, h4, _, w4⟩ := DataW.trod_int Try.underlying3 t4
  obtain ⟨a5, h5, _, w5⟩ := DataW.trod_int Try.underlying3 t5
  obtain ⟨a6, h6, _, w6⟩ := DataW.trod_int Try.underlying3 t6
  obtain ⟨a7, h7, _, w7⟩ := DataW.trod_int Try.underlying3 t7
  obtain ⟨A, c, zs, h8, hc, hm, hs, _⟩ := Go.Proofs.Ytjncpincmkpdpaa.lift.field_ints Try.underlying22 Try.underlying5 (by kernel_rfl) t8
  simp at h0 h1 h2 h3 h4 h5 h6 h7
  subst h0; subst h1; subst h2; subst h3; subst h4; subst h5; subst h6; subst h7; subst h8
  refine ⟨a0, a1, a2, a3, a4, a5, a6, a7, A, c, zs, ?_, hc, hm, hs⟩
  obtain ⟨l⟩ := cs
  match hqi : l, hl9 with
  | [u0, u1, u2, u3, u4, u5, u6, u7, u8], _ =>
    simp [Value.cells] at g0 g1 g2 g3 g4 g5 g6 g7 g8
    rw [g0, g1, g2, g3, g4, g5, g6, g7, g8]
    rfl

theorem on_gnd {w w' : World} {g n : Nat} {s : GS} {xs : List Value} (h : Gnd w g s n xs) (hp : s.phase ≤ 3) (h' : GAt w' g (s.on n)) (k : Kept (One g) w w') : Gnd w' g (s.on n) n xs := by
  have hno := h.no
  have hph := h.ph
  refine h.to h' k ?_ ?_ ?_ <;> unfold GS.on GS.to <;> repeat' split
  all_goals first | rfl | exact hno | exact hph | (dsimp only; omega)

theorem below_trans_kept {w w1 w2 : World} {g : Nat} (h : Below w.heap.size w w1) (k : Kept (One g) w1 w2) (hg : w.heap.size ≤ g) : Below w.heap.size w w2 :=
  h.trans (k.below h.size fun i hi e => by have : i = g := e; omega)

theorem hear_same (w : World) (g n : Nat) (s : GS) (xs : List Value) (h : Gnd w g s n xs) (hp : s.phase ≤ 3) (ses no what part size have_ : Int) (a : Option Addr) (m : Nat) (h1 : ses = s.ses) (h2 : no = s.mno) (h3 : what = s.phase) :
    Calls Try.prog 18 #[.pointer (some ⟨g, 0, none⟩), pdu 6 ses part no size what 0 have_ (.slice a m m)] w fun e w' => e = .returned (.tuple #[]) ∧ Gnd w' g (s.on n) n xs ∧ Kept (One g) w w' := by
  subst h1; subst h2; subst h3
  refine (hear_ack w g n s xs h hp part size have_ a m).mono ?_
  rintro e w' ⟨rfl, h1, h2⟩
  exact ⟨rfl, on_gnd h hp h1 h2, h2⟩

set_option maxRecDepth 100000 in
set_option maxHeartbeats 2000000 in
theorem wakes_any (w : World) : Calls Try.prog 15 #[] w fun e w' => e = .returned (.bool true) ∧ Below w.heap.size w w' := by
  have hmk : ∀ w : World, (Instr.makeSlice 22 (.int .i64 20) (.int .i64 20)).run Try.prog w = .ok (.slice (some ⟨w.heap.size, 0, none⟩) 20 20) (w.alloc (.cells (List.replicate 20 (Value.int .u8 0)).toArray 5)) := fun w => by kernel_rfl
  have HR := Lib.hid (Row.new w 5 (List.replicate 20 (Value.int .u8 0)).toArray)
  have HB0 := Lib.hid ((Below.refl w.heap.size w).alloc (Nat.le_refl _) (.cells (List.replicate 20 (Value.int .u8 0)).toArray 5))
  obtain ⟨xs, hxs⟩ : ∃ xs, xs = List.replicate 20 (Value.int .u8 0) := ⟨_, rfl⟩
  have HS := Lib.hid (HR.out.sl (o := 0) (n := 20) (size := 1) (B := (w.alloc (.cells (List.replicate 20 (Value.int .u8 0)).toArray 5)).heap.size) (by simp) (ys := xs) (by rw [hxs]; rfl) (by rw [hxs]; rfl))
  have HO := Lib.hid (fun v (hv : v ∈ xs) => show v.oneCell' = true by rw [hxs] at hv; rw [List.eq_of_mem_replicate hv]; rfl)
  clear hxs HR
  go_enter Try.func15, Try.ntmps15
  go_wp2_with (fail)
  refine (new_any _ 1 7 _ 20 20 xs HS.out HO.out (by decide)).mono ?_
  rintro e w1 ⟨g, A, c, rfl, hg, h1, hc, hs, hb⟩
  have HG := Lib.hid (Gnd.mk (xs := xs) (n := 20) h1 ⟨A, c, rfl, hc, hs⟩ HO.out (by decide) ⟨show (0:Int) ≤ 0 by decide, show (0:Int) * 16 ≤ (20 : Nat) by decide⟩ ⟨show (1:Int) ≤ 1 by decide, show (1:Int) ≤ 5 by decide⟩)
  have HB1 := Lib.hid (HB0.out.trans (hb.mono (by simp)))
  have hgw : w.heap.size ≤ g := by simp at hg; omega
  clear h1 hc hs hb hg HB0 HS
  go_wp2_with (fail)
  refine (next_any _ g 20 _ xs HG.out (show (1:Int) ≤ 3 by decide) rfl 0).mono ?_
  rintro e w2 ⟨v, rfl, hd, h2, k2⟩
  obtain rfl : v = .slice none 0 0 := by
    rcases hd with ⟨_, h⟩ | ⟨h, _⟩
    · exact h
    · exact absurd (show (1:Int) = 2 from h) (by decide)
  have HG2 := Lib.hid h2
  have HB2 := Lib.hid (below_trans_kept HB1.out k2 hgw)
  clear hd h2 k2 HG HB1
  rw [show GS.mpart ⟨1, 7, .slice A 20 c, 1, 0, 0, false, 0⟩ = 1 from rfl, show GS.mno ⟨1, 7, .slice A 20 c, 1, 0, 0, false, 0⟩ = 0 from rfl, show GS.msize ⟨1, 7, .slice A 20 c, 1, 0, 0, false, 0⟩ 20 = 20 from rfl]
  unfold pdu
  dsimp only
  go_wp2_with (fail)
  have HG3 := Lib.hid (HG2.out.below ((Below.refl _ _).alloc (Nat.le_refl _) (.cells (pduC 1 7 1 0 20 0 0 0 (.slice none 0 0)) 28)))
  have HP3 := Lib.hid (Row.new w2 28 (pduC 1 7 1 0 20 0 0 0 (.slice none 0 0)))
  have HB3 := Lib.hid (HB2.out.alloc HB2.out.size (.cells (pduC 1 7 1 0 20 0 0 0 (.slice none 0 0)) 28))
  have hgl : g < w2.heap.size := HG2.out.at_.lt
  clear HG2 HB2
  refine (hear_same _ g 20 _ xs HG3.out (show (1:Int) ≤ 3 by decide) 7 0 1 0 0 0 none 0 rfl rfl rfl).mono ?_
  rintro e w4 ⟨rfl, h4, k4⟩
  rw [show GS.on ⟨1, 7, .slice A 20 c, 1, 0, 0, true, 0⟩ 20 = ⟨1, 7, .slice A 20 c, 2, 0, 0, false, 0⟩ from rfl] at h4
  have HG4 := Lib.hid h4
  have HP4 := Lib.hid (HP3.out.kept k4 (fun e : w2.heap.size = g => by omega))
  have HB4 := Lib.hid (below_trans_kept HB3.out k4 hgw)
  have hgl4 : w2.heap.size < w4.heap.size := by have := k4.size; simp at this; omega
  clear h4 k4 HG3 HP3 HB3
  go_wp2_with (fail)
  refine (next_any _ g 20 _ xs HG4.out (show (2:Int) ≤ 3 by decide) rfl 1).mono ?_
  rintro e w5 ⟨v, rfl, hd, h5, k5⟩
  obtain ⟨d, rfl⟩ : ∃ d : Nat, v = .slice (some ⟨d, 0, none⟩) 16 16 := by
    rcases hd with ⟨h, _⟩ | ⟨_, d, h, _⟩
    · exact absurd rfl h
    · exact ⟨d, h⟩
  have HP5 := Lib.hid (HP4.out.kept k5 (fun e : w2.heap.size = g => by omega))
  have HB5 := Lib.hid (below_trans_kept HB4.out k5 hgw)
  have p0 := HP5.out.cell 0
  have p4 := HP5.out.cell 4
  have hl5 := HP5.out.lt
  clear hd h5 k5 HG4 HP4 HB4
  rw [show GS.mpart ⟨1, 7, .slice A 20 c, 2, 0, 0, false, 0⟩ = 0 from rfl, show GS.mno ⟨1, 7, .slice A 20 c, 2, 0, 0, false, 0⟩ = 0 from rfl, show GS.msize ⟨1, 7, .slice A 20 c, 2, 0, 0, false, 0⟩ 20 = 0 from rfl]
  unfold pdu
  dsimp only
  dsimp at p0 p4
  go_wp2_with (fail)
  go_ret
  exact ⟨rfl, HB5.out.alloc HB5.out.size _⟩
end Go.Proofs.Ytjncpincmkpdpaa.ground
