/-
  PROVED HERE: the stage of a sector, or the error that refuses it.
  CONDITIONS: the contract names its own.
-/
import Derived.Test.YtooagoikiafgcaaRecOpened
import Derived.Test.YtooagoikiafgcaaRes
import Derived.Test.YtooagoikiafgcaaRecStagePut
import Derived.Test.YtooagoikiafgcaaRecGet
namespace Go.Proofs.Ytooagoikiafgcaa.record
set_option linter.unusedVariables false
open Go.RowKit Go.Proofs.Ytooagoikiafgcaa.base Go.Proofs.Ytooagoikiafgcaa.obj Go.Proofs.Ytooagoikiafgcaa.mem Go.Proofs.Ytooagoikiafgcaa.crc Go.Proofs.Ytooagoikiafgcaa.num Go.Proofs.Ytooagoikiafgcaa.bytes Go.Proofs.Ytooagoikiafgcaa.plan

def Stg.zero : Stg := ⟨0, 0, 0⟩
/-- the numbers of a sector, as a record -/
def gotStg (bs : List Int) : Stg := ⟨(got stgWidths bs 0 : Nat), (got stgWidths bs 1 : Nat), (got stgWidths bs 2 : Nat)⟩
/-- the record of bytes, and the error -/
def getStg (bs : List Int) : Stg × Int :=
  if bs.length = 64 then (if openE 19539 8 bs = 0 then (if (gotStg bs).right then (gotStg bs, 0) else (Stg.zero, 3)) else (Stg.zero, openE 19539 8 bs)) else (Stg.zero, 14)
theorem gotStg_cells (bs : List Int) : (List.range 3).map (fun i => Value.int .i64 (got stgWidths bs i : Nat)) = (gotStg bs).cells.toList := rfl
theorem stg_one (r : Stg) : ∀ v ∈ r.cells.toList, v.oneCell' = true := by
  intro v hv
  simp only [Stg.cells, List.mem_cons, List.not_mem_nil, or_false] at hv
  rcases hv with rfl | rfl | rfl <;> rfl

/-- behind the fields' making -/
structure GetStIn (w : World) (bs : List Int) (A : Option Addr) (n : Nat) (wr : World) (F : Nat) : Prop where
  res : Row wr w.heap.size 96 Stg.zero.cells.toList
  row : Row wr (w.heap.size + 1) 96 Stg.zero.cells.toList
  fl : Row wr F 224 (fieldCells (w.heap.size + 1) stgWidths)
  bel : Below w.heap.size w wr

set_option maxRecDepth 100000 in
set_option maxHeartbeats 4000000 in
theorem getStage_at (w : World) (A : Option Addr) (n c : Nat) (bs : List Int) (hl : bs.length = n) (hc : n ≤ c) (hb : Byt bs) (hs : Sl w w.heap.size 1 A n (bs.map (.int .u8))) :
    Calls Try.prog 75 #[.slice A n c] w fun e w' => e = .returned (.tuple #[(getStg bs).1.val, .int .i64 (getStg bs).2]) ∧ Below w.heap.size w w' := by
  obtain ⟨w0, hw0⟩ : ∃ w0, w0 = (w.alloc (.cells Stg.zero.cells 96)).alloc (.cells Stg.zero.cells 96) := ⟨_, rfl⟩
  have HB0 := Lib.hid (show Below w.heap.size w w0 by rw [hw0]; exact ((Below.refl w.heap.size w).alloc (Nat.le_refl _) _).alloc (by simp) _)
  have HR0 := Lib.hid (show Row w0 w.heap.size 96 Stg.zero.cells.toList by rw [hw0]; exact (Row.new w _ _).alloc _)
  have HR1 := Lib.hid (show Row w0 (w.heap.size + 1) 96 Stg.zero.cells.toList by
    rw [hw0]
    have h := Row.new (w.alloc (.cells Stg.zero.cells 96)) 96 Stg.zero.cells
    rwa [show (w.alloc (.cells Stg.zero.cells 96)).heap.size = w.heap.size + 1 by simp] at h)
  have MS := Lib.hid (fun r : Stg => show (Try.prog.info? 96).map (·.size) = some r.cells.size from by kernel_rfl)
  have ML := Lib.hid (fun r : Stg => show 0 + r.cells.size ≤ Stg.zero.cells.toList.length from Nat.le_refl 3)
  have MO := Lib.hid (fun r : Stg => stg_one r)
  have MR := Lib.hid (fun r : Stg => show Stg.zero.cells.toList.take 0 ++ r.cells.toList ++ Stg.zero.cells.toList.drop (0 + r.cells.size) = r.cells.toList by simp [Stg.zero, Stg.cells])
  have HL := Lib.hid hl; have HY := Lib.hid hb; have HS := Lib.hid hs; have HW := Lib.hid hw0
  clear hl hb hs hw0
  unfold Stg.zero Stg.cells at HW
  by_cases h64 : n = 64
  · subst h64
    have HG := Lib.hid (show getStg bs = (if openE 19539 8 bs = 0 then (if (gotStg bs).right then (gotStg bs, 0) else (Stg.zero, 3)) else (Stg.zero, openE 19539 8 bs)) by unfold getStg; rw [if_pos HL.out])
    have HA := Lib.hid (rightStage_at (gotStg bs))
    obtain ⟨g, hg⟩ : ∃ g, g = gotStg bs := ⟨_, rfl⟩
    obtain ⟨ev, hev⟩ : ∃ ev, ev = openE 19539 8 bs := ⟨_, rfl⟩
    rw [← hg] at HG HA
    rw [← hev] at HG
    have HGE := Lib.hid hg; have HEV := Lib.hid hev
    clear hg hev
    go_enter Try.func75, Try.ntmps75
    go_wp2_with (fail)
    rw [← HW.out]
    refine (stageFields_at _ _).mono ?_
    rintro e w1 ⟨F, rfl, hF, hrow, hb⟩
    have HB1 := Lib.hid (HB0.out.trans (hb.mono HB0.out.size))
    have HR10 := Lib.hid (HR0.out.below hb HR0.out.lt)
    have HR11 := Lib.hid (HR1.out.below hb HR1.out.lt)
    have HF1 := Lib.hid hrow
    have HFN := Lib.hid (show F ≠ w.heap.size + 1 by have := HR1.out.lt; omega)
    clear hb hrow hF
    go_wp2_with (fail)
    refine (opened_at _ (w.heap.size + 1) F 224 96 stgWidths 3 rfl (by omega) _ rfl HR11.out HF1.out HFN.out (by decide) A c bs HL.out HY.out (((HS.out.below HB1.out).more (by omega))) hc 8 (by decide) (by omega) 19539 (by decide)).mono ?_
    rintro e w2 ⟨rfl, hrow, hk⟩
    rw [gotStg_cells, ← HGE.out] at hrow
    rw [← HEV.out]
    have HR2 := Lib.hid hrow
    have HR20 := Lib.hid (HR10.out.kept hk (fun e => by have : w.heap.size = w.heap.size + 1 := e; omega))
    have HB2 := Lib.hid (show Below w.heap.size w w2 from HB1.out.trans (hk.below HB1.out.size (fun i hi e => by have : i = w.heap.size + 1 := e; omega)))
    have q0 : w2.cell? ⟨w.heap.size + 1, 0, none⟩ = some (.int .i64 g.session) := HR2.out.cell 0
    have q1 : w2.cell? ⟨w.heap.size + 1, 1, none⟩ = some (.int .i64 g.size) := HR2.out.cell 1
    have q2 : w2.cell? ⟨w.heap.size + 1, 2, none⟩ = some (.int .i64 g.have_) := HR2.out.cell 2
    have hs2 : w.heap.size + 1 < w2.heap.size := HR2.out.lt
    clear hrow hk
    by_cases he : ev = 0
    · subst he
      have HB3 := Lib.hid (fun (w' : World) (b : Below w2.heap.size w2 w') => HR20.out.below b HR20.out.lt)
      cases hr : g.right with
      | false =>
        rw [hr] at HA
        have HGF := Lib.hid (show getStg bs = (Stg.zero, 3) by rw [HG.out, hr]; rfl)
        clear hr
        unfold Stg.val Stg.cells at HA
        go_wp2_with (fail)
        refine (HA.out _).mono ?_
        rintro e w3 ⟨rfl, hb⟩
        have HB4 := Lib.hid (HB2.out.trans (hb.mono HB2.out.size))
        have HR4 := Lib.hid (HB3.out _ hb)
        clear hb
        go_wp2_with (refine wpList_putR rfl 96 (.tmp 2) (.tmp 18) rfl w.heap.size 0 Stg.zero.cells rfl rfl HR4.out (MS.out Stg.zero) (ML.out Stg.zero) (MO.out Stg.zero) Stg.zero.cells.toList (MR.out Stg.zero) ?_)
        refine bodyPost_ret (res_cell_slot rfl _ _ w.heap.size _ _ _ _ _ rfl rfl (HR4.out.setRow _) Try.underlying96 rfl (by kernel_rfl)) rfl ?_
        exact ⟨by rw [HGF.out]; rfl, below_setRow' HB4.out (Nat.le_refl _) _⟩
      | true =>
        rw [hr] at HA
        have HGF := Lib.hid (show getStg bs = (g, 0) by rw [HG.out, hr]; rfl)
        have HR5 := Lib.hid (fun (w' : World) (b : Below w2.heap.size w2 w') => HR2.out.below b HR2.out.lt)
        clear hr
        unfold Stg.val Stg.cells at HA
        go_wp2_with (fail)
        refine (HA.out _).mono ?_
        rintro e w3 ⟨rfl, hb⟩
        have HB4 := Lib.hid (HB2.out.trans (hb.mono HB2.out.size))
        have HR4 := Lib.hid (HB3.out _ hb)
        have HR6 := Lib.hid (HR5.out _ hb)
        have t0 : w3.cell? ⟨w.heap.size + 1, 0, none⟩ = some (.int .i64 g.session) := HR6.out.cell 0
        have t1 : w3.cell? ⟨w.heap.size + 1, 1, none⟩ = some (.int .i64 g.size) := HR6.out.cell 1
        have t2 : w3.cell? ⟨w.heap.size + 1, 2, none⟩ = some (.int .i64 g.have_) := HR6.out.cell 2
        have hs3 : w.heap.size + 1 < w3.heap.size := HR6.out.lt
        clear hb
        go_wp2_with (refine wpList_putR rfl 96 (.tmp 2) (.tmp 20) rfl w.heap.size 0 g.cells rfl rfl HR4.out (MS.out g) (ML.out g) (MO.out g) g.cells.toList (MR.out g) ?_)
        refine bodyPost_ret (res_cell_slot rfl _ _ w.heap.size _ _ _ _ _ rfl rfl (HR4.out.setRow _) Try.underlying96 rfl (by kernel_rfl)) rfl ?_
        exact ⟨by rw [HGF.out]; rfl, below_setRow' HB4.out (Nat.le_refl _) _⟩
    · have b1 : (ev == 0) = false := by simpa using he
      have b2 : (ev != 0) = true := by simpa using he
      have HGF := Lib.hid (show getStg bs = (Stg.zero, ev) by rw [HG.out, if_neg he])
      clear he
      go_wp2_with (refine wpList_putR rfl 96 (.tmp 2) (.tmp 18) rfl w.heap.size 0 Stg.zero.cells rfl rfl HR20.out (MS.out Stg.zero) (ML.out Stg.zero) (MO.out Stg.zero) Stg.zero.cells.toList (MR.out Stg.zero) ?_)
      refine bodyPost_ret (res_cell_slot rfl _ _ w.heap.size _ _ _ _ _ rfl rfl (HR20.out.setRow _) Try.underlying96 rfl (by kernel_rfl)) rfl ?_
      exact ⟨by rw [HGF.out]; rfl, below_setRow' HB2.out (Nat.le_refl _) _⟩
  · have HGF := Lib.hid (show getStg bs = (Stg.zero, 14) by unfold getStg; rw [if_neg (by rw [HL.out]; exact h64)])
    have HN := Lib.hid h64
    clear h64
    go_enter Try.func75, Try.ntmps75
    go_wp2_with (fail)
    rw [← HW.out]
    refine (stageFields_at _ _).mono ?_
    rintro e w1 ⟨F, rfl, hF, hrow, hb⟩
    have HB1 := Lib.hid (HB0.out.trans (hb.mono HB0.out.size))
    have HR10 := Lib.hid (HR0.out.below hb HR0.out.lt)
    clear hb hrow hF
    go_wp2_with (fail)
    refine (opened_len _ A n c HN.out 19539 _).mono ?_
    rintro e w2 ⟨rfl, rfl⟩
    go_wp2_with (refine wpList_putR rfl 96 (.tmp 2) (.tmp 18) rfl w.heap.size 0 Stg.zero.cells rfl rfl HR10.out (MS.out Stg.zero) (ML.out Stg.zero) (MO.out Stg.zero) Stg.zero.cells.toList (MR.out Stg.zero) ?_)
    refine bodyPost_ret (res_cell_slot rfl _ _ w.heap.size _ _ _ _ _ rfl rfl (HR10.out.setRow _) Try.underlying96 rfl (by kernel_rfl)) rfl ?_
    exact ⟨by rw [HGF.out]; rfl, below_setRow' HB1.out (Nat.le_refl _) _⟩
end Go.Proofs.Ytooagoikiafgcaa.record
