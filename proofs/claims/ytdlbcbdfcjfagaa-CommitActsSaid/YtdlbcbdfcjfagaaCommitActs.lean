/-
  PROVED HERE: for every uint8 part and all lists l of acts, longeronlaw12.CommitActs(part, l) returns true and leaves memory as it was.
  CONDITIONS: none.
-/
import Derived.Test.YtdlbcbdfcjfagaaCommitNext
namespace Go.Proofs.Ytdlbcbdfcjfagaa.commitActs
set_option linter.unusedVariables false
open Go.RowKit Go.ChangeShapes Go.WideShapes Go.ChangeAt Go.Deep Go.Joins Go.Proofs.Ytdlbcbdfcjfagaa.base Go.Proofs.Ytdlbcbdfcjfagaa.obj Go.Proofs.Ytdlbcbdfcjfagaa.mem Go.Proofs.Ytdlbcbdfcjfagaa.crc Go.Proofs.Ytdlbcbdfcjfagaa.disk Go.Proofs.Ytdlbcbdfcjfagaa.record Go.Proofs.Ytdlbcbdfcjfagaa.sep Go.Proofs.Ytdlbcbdfcjfagaa.plan Go.Proofs.Ytdlbcbdfcjfagaa.commit

structure ActC where
  kind : Int
  n : Int
  r : Rec
  keep : Int
instance : Inhabited ActC := ⟨⟨0, 0, Rec.zero, 0⟩⟩
structure ActC.Ok (a : ActC) : Prop where
  n : InI a.n
  keep0 : 0 ≤ a.keep
  keep1 : a.keep ≤ 18446744073709551615
def ActC.cells (a : ActC) : List Value := [.int .i64 a.kind, .int .i64 a.n, .int .i64 a.r.part, .int .i64 a.r.seq, .int .i64 a.r.active, .int .i64 a.r.confirmed, .int .i64 a.r.left, .int .i64 a.r.bad, .int .u64 a.keep]
def actCells (l : List ActC) : List Value := (l.map ActC.cells).flatten
theorem actCells_snoc (l : List ActC) (a : ActC) : actCells (l ++ [a]) = actCells l ++ a.cells := by simp [actCells]
theorem wf_u64 {z : Int} (h : (Lit.int .u64 z).wf = true) : 0 ≤ z ∧ z ≤ 18446744073709551615 := by
  have h1 : IntKind.u64.min = 0 := rfl
  have h2 : IntKind.u64.max = 18446744073709551615 := rfl
  simp only [Lit.wf, Bool.and_eq_true, decide_eq_true_eq] at h
  omega
theorem row_parts {H : Type} {enc : TypeId × Value → H} {P : Program} {W : World} {e : TypeId} {fs : Array Field} {cs : List Value} {m : Nat} {x : DataW H × List MemPlace} (he : P.underlying e = some (.struct fs))
    (h : DataW.trod enc P W 0 (fun _ => true) true m e cs = some x) : ∀ (j : Nat) (f : Field) (n : Nat), fs[j]? = some f → P.cellsOf f.type = n → ∃ (k : Nat) (y : DataW H × List MemPlace), DataW.trod enc P W 0 (fun _ => true) true k f.type ((cs.drop f.offset).take n) = some y := by
  obtain ⟨ys, n', hn', hy, hlen, hyl, hf⟩ := DataW.trod_struct he h
  intro j f n hj hn
  subst hn
  have hjl : j < fs.size := (Array.getElem?_eq_some_iff.1 hj).1
  have hys : ys[j]? = some (ys[j]'(by rw [hyl]; exact hjl)) := List.getElem?_eq_getElem _
  exact ⟨n', _, (hf j f hj).trans hys⟩
set_option maxRecDepth 100000 in
theorem arg_actsC {H : Type} {enc : TypeId × Value → H} {W : World} {r : Reach} {b0 : Nat} {v : Value} {d : DataW H} {ps : List MemPlace} (hval : Value.okWide Try.prog W r b0 80 v)
    (h : DataW.Trod enc Try.prog W 0 (fun _ => true) true 80 v d ps) : ∃ (A : Option Addr) (c : Nat) (l : List ActC), v = .slice A l.length c ∧ l.length ≤ maxLen ∧ Sl W W.heap.size 9 A l.length (actCells l) ∧ ∀ a ∈ l, a.Ok := by
  obtain ⟨A, n, c, q, rfl, hn, hs, hq⟩ := Go.Proofs.Ytdlbcbdfcjfagaa.lift.arg_row Try.underlying80 (s := 9) (by kernel_rfl) (by decide) hval h
  have each : ∀ i, i < n → ∃ p : ActC, q i = p.cells ∧ p.Ok := by
    intro i hi
    obtain ⟨hl, m, x, hx⟩ := hq i hi
    obtain ⟨u0, u1, u2, u3, u4, u5, u6, u7, u8, hqi⟩ : ∃ u0 u1 u2 u3 u4 u5 u6 u7 u8, q i = [u0, u1, u2, u3, u4, u5, u6, u7, u8] := by
      match hqi : q i, hl with
      | [u0, u1, u2, u3, u4, u5, u6, u7, u8], _ => exact ⟨_, _, _, _, _, _, _, _, _, rfl⟩
    rw [hqi] at hx ⊢
    have hf := row_parts Try.underlying83 hx
    obtain ⟨k0, y0, t0⟩ := hf 0 _ 1 rfl (by kernel_rfl)
    obtain ⟨k1, y1, t1⟩ := hf 1 _ 1 rfl (by kernel_rfl)
    obtain ⟨k2, y2, t2⟩ := hf 2 _ 6 rfl (by kernel_rfl)
    obtain ⟨k3, y3, t3⟩ := hf 3 _ 1 rfl (by kernel_rfl)
    have hg := row_parts Try.underlying23 t2
    obtain ⟨j0, z0, r0⟩ := hg 0 _ 1 rfl (by kernel_rfl)
    obtain ⟨j1, z1, r1⟩ := hg 1 _ 1 rfl (by kernel_rfl)
    obtain ⟨j2, z2, r2⟩ := hg 2 _ 1 rfl (by kernel_rfl)
    obtain ⟨j3, z3, r3⟩ := hg 3 _ 1 rfl (by kernel_rfl)
    obtain ⟨j4, z4, r4⟩ := hg 4 _ 1 rfl (by kernel_rfl)
    obtain ⟨j5, z5, r5⟩ := hg 5 _ 1 rfl (by kernel_rfl)
    obtain ⟨a0, h0, _, w0⟩ := DataW.trod_int Try.underlying3 t0
    obtain ⟨a1, h1, _, w1⟩ := DataW.trod_int Try.underlying3 t1
    obtain ⟨b0, i0, _, _⟩ := DataW.trod_int Try.underlying3 r0
    obtain ⟨b1, i1, _, _⟩ := DataW.trod_int Try.underlying3 r1
    obtain ⟨b2, i2, _, _⟩ := DataW.trod_int Try.underlying3 r2
    obtain ⟨b3, i3, _, _⟩ := DataW.trod_int Try.underlying3 r3
    obtain ⟨b4, i4, _, _⟩ := DataW.trod_int Try.underlying3 r4
    obtain ⟨b5, i5, _, _⟩ := DataW.trod_int Try.underlying3 r5
    obtain ⟨a3, h3, _, w3⟩ := DataW.trod_int Try.underlying81 t3
    simp at h0 h1 i0 i1 i2 i3 i4 i5 h3
    exact ⟨⟨a0, a1, ⟨b0, b1, b2, b3, b4, b5⟩, a3⟩, by rw [h0, h1, i0, i1, i2, i3, i4, i5, h3]; rfl, inI_of w1, (wf_u64 w3).1, (wf_u64 w3).2⟩
  obtain ⟨z, hz⟩ := choose_lt each
  have e1 : ∀ m, m ≤ n → (List.range m).flatMap q = actCells ((List.range m).map z) := by
    intro m
    induction m with
    | zero => intro _; simp [actCells]
    | succ m ih =>
      intro hm
      rw [List.range_succ, List.flatMap_append, List.map_append, ih (by omega), List.map_cons, List.map_nil, actCells_snoc]
      simp [(hz m (by omega)).1]
  rw [e1 n (Nat.le_refl _)] at hs
  have hl : ((List.range n).map z).length = n := by simp
  refine ⟨A, c, (List.range n).map z, by rw [hl], by rw [hl]; exact hn, by rw [hl]; exact hs, fun a ha => ?_⟩
  obtain ⟨i, hi, rfl⟩ := List.mem_map.1 ha
  exact (hz i (List.mem_range.1 hi)).2
/-- the cells of act number k -/
theorem actC_at {w w' : World} {A : Option Addr} {l : List ActC} (h : Sl w w.heap.size 9 A l.length (actCells l)) (hb : Below w.heap.size w w') {k : Nat} (hk : k < l.length) : ∃ b off, A = some ⟨b, off, none⟩ ∧ b < w'.heap.size ∧
    ∀ j u, j < 9 → l[k].cells[j]? = some u → w'.cell? ⟨b, off + k * 9 + j, none⟩ = some u := by
  obtain ⟨b, off, rfl, hbl, hc⟩ := h.2 (by omega)
  have h9 : ∀ x ∈ l.map ActC.cells, x.length = 9 := by
    intro x hx
    obtain ⟨a, _, rfl⟩ := List.mem_map.1 hx
    rfl
  have e := flat_elem h9 (i := k) (by simpa using hk)
  have g : ∀ j, j < 9 → (actCells l)[k * 9 + j]? = l[k].cells[j]? := by
    intro j hj
    have e2 : (((l.map ActC.cells).flatten.drop (k * 9)).take 9)[j]? = (l.map ActC.cells).flatten[k * 9 + j]? := by
      rw [List.getElem?_take, if_pos hj, List.getElem?_drop]
    rw [e] at e2
    rw [actCells, ← e2]
    simp
  refine ⟨b, off, rfl, Nat.lt_of_lt_of_le hbl hb.size, fun j u hj hu => ?_⟩
  rw [hb.cell (p := ⟨b, off + k * 9 + j, none⟩) hbl, Nat.add_assoc]
  exact hc _ _ ((g j hj).trans hu)

theorem saveM_slen (m : DS) (p : Int) (s : LogS) (r : Rec) : (saveM m p s r).2.1.secs.length = m.secs.length := by
  unfold saveM
  split
  · rfl
  · split
    · split
      · exact wf_slen _ _ _
      · exact wf_slen _ _ _
    · rfl
/-- what holds ahead of each round -/
structure AI (w : World) (g d : Nat) (p : Int) (s : LogS) (m : DS) (might : Rec) (X Y : Nat) (wr : World) : Prop where
  st : St w wr [log g d p s.held s.now, dsk d m, row X 23 s.now.cells.toList, row Y 23 might.cells.toList]
  ok : CI m p s might
  len : m.secs.length = 40

theorem up_ci {m : DS} {p : Int} {s : LogS} (h : LogOk m p s) (hw : m.waits = []) (hu : m.Up) : CI m p s Rec.zero := .of_ok h hw hu.1

set_option maxRecDepth 100000 in
set_option maxHeartbeats 16000000 in
theorem walk (w : World) (pt : Int) (wp : (Lit.int .u8 pt).wf = true) (A : Option Addr) (c : Nat) (l : List ActC) (hm : l.length ≤ maxLen) (hs : Sl w w.heap.size 9 A l.length (actCells l)) (hok : ∀ a ∈ l, a.Ok) :
    Calls Try.prog 12 #[.int .u8 pt, .slice A l.length c] w fun e w' => e = .returned (.bool true) ∧ Below w.heap.size w w' := by
  have hpt : 0 ≤ pt ∧ pt ≤ 255 := by
    have h1 : IntKind.u8.min = 0 := rfl
    have h2 : IntKind.u8.max = 255 := rfl
    simp only [Lit.wf, Bool.and_eq_true, decide_eq_true_eq] at wp
    omega
  obtain ⟨pt0, pt1⟩ := hpt
  have HS := Lib.hid hs; have HOK := Lib.hid hok
  unfold maxLen at hm
  clear wp hs hok
  obtain ⟨n, hn⟩ : ∃ n, n = l.length := ⟨_, rfl⟩
  rw [← hn] at hm HS ⊢
  have HN := Lib.hid hn
  clear hn
  have HM0 := Lib.hid (show DS.new (clampN 40) = DS.new 40 from rfl)
  obtain ⟨m, hmm⟩ : ∃ m, m = DS.new 40 := ⟨_, rfl⟩
  rw [← hmm] at HM0
  have HM := Lib.hid hmm
  clear hmm
  by_cases hbig : n > 80
  · have hbig' : (n : Int) > 80 := by omega
    go_enter Try.func12, Try.ntmps12
    go_wp2_with (fail)
    refine (commit.wakes _).mono ?_
    rintro e w1 ⟨rfl, hb⟩
    have HB1 := Lib.hid hb
    clear hb
    go_wp2_with (fail)
    go_ret
    exact ⟨rfl, HB1.out⟩
  · have hbig' : ¬ (n : Int) > 80 := by omega
    have hn80 : n ≤ 80 := by omega
    clear hbig
    obtain ⟨p, hp⟩ : ∃ p : Int, p = pt % 4 := ⟨_, rfl⟩
    have hp0 : 0 ≤ p := by omega
    have hp3 : p < 4 := by omega
    have HP := Lib.hid hp
    clear hp
    have HRM := Lib.hid (show roomFor p m.secs.length = true by rw [HM.out]; unfold roomFor; simp [DS.new]; omega)
    have HFU := Lib.hid (format_up (m := m) (by rw [HM.out]; exact DS.new_good (by decide) (by decide)) (by rw [HM.out]; exact DS.new_bts 40) (by rw [HM.out]; exact DS.new_up 40) HRM.out)
    have HF := Lib.hid (fun (w1 : World) (d : Nat) (l : List Asn) (h1 : St w w1 (dsk d m :: l)) => format_at h1 p HRM.out (by rw [HM.out]; decide))
    have HLEN := Lib.hid (show m.secs.length = 40 by rw [HM.out]; rfl)
    go_enter Try.func12, Try.ntmps12
    go_wp2_with (fail)
    refine (commit.wakes _).mono ?_
    rintro e w1 ⟨rfl, hb⟩
    have H1 := Lib.hid ((St.nil w).below hb)
    clear hb
    go_wp2_with (fail)
    refine (dsk_new H1.out 40).mono ?_
    rintro e w2 ⟨d, rfl, h2⟩
    rw [HM0.out] at h2
    have H2 := Lib.hid h2
    clear h2
    rw [← HP.out]
    go_wp2_with (fail)
    refine (HF.out _ _ _ H2.out).mono ?_
    rintro e w3 hb
    obtain ⟨g, rfl, h3⟩ := hb.1 HFU.out.1
    obtain ⟨w4, hw4⟩ : ∃ w4, w4 = (w3.alloc (.cells #[.int .i64 p, .int .i64 1, .int .i64 0, .int .i64 0, .int .i64 0, .int .i64 0] 23)).alloc (.cells #[.int .i64 0, .int .i64 0, .int .i64 0, .int .i64 0, .int .i64 0, .int .i64 0] 23) := ⟨_, rfl⟩
    have HI := Lib.hid (show AI w g d p ⟨0, firstRec p⟩ (formatM m p).2 Rec.zero w3.heap.size (w3.heap.size + 1) w4 from ⟨by
      have h := (((h3.new 23 (firstRec p).cells).new 23 Rec.zero.cells).pick 3 rfl).pick 3 rfl
      rw [show (w3.alloc (.cells (firstRec p).cells 23)).heap.size = w3.heap.size + 1 by simp] at h
      have h := h.perm (l' := [log g d p 0 (firstRec p), dsk d (formatM m p).2, row w3.heap.size 23 (firstRec p).cells.toList, row (w3.heap.size + 1) 23 Rec.zero.cells.toList]) (by refine List.Perm.cons _ (List.Perm.cons _ ?_); exact List.Perm.swap _ _ _)
      rw [hw4]
      exact h, up_ci HFU.out.2.1 HFU.out.2.2.2.1 HFU.out.2.2.1, by rw [HFU.out.2.2.2.2.1]; exact HLEN.out⟩)
    have HW4 := Lib.hid hw4
    clear hb h3 hw4
    go_wp2_with (fail)
    rw [← HW4.out]
    go_loopw [7, 40] (fun sg i wr => ∃ (k : Nat) (s : LogS) (m : DS) (might : Rec) (g : Nat), k ≤ n ∧ i = .int .i64 k ∧ sg = .pointer (some ⟨g, 0, none⟩) ∧ AI w g d p s m might w3.heap.size (w3.heap.size + 1) wr) (fun _ i _ => n - (intOf i).toNat)
    case atStart => exact ⟨0, _, _, _, _, by omega, rfl, rfl, HI.out⟩
    case round =>
      obtain ⟨k, s, m1, might, g2, hk, rfl, rfl, hi⟩ := hrel
      obtain ⟨X, hX⟩ : ∃ X, X = w3.heap.size := ⟨_, rfl⟩
      rw [← hX] at hi
      rw [← hX]
      clear HFU HF HLEN HRM HM HM0 H1 H2 HI HW4 hX
      have HI := Lib.hid hi
      clear hi
      by_cases hlt : k < n
      · have hkl : k < l.length := by rw [← HN.out]; exact hlt
        rw [HN.out] at HS
        obtain ⟨b, off, rfl, lb, hcs⟩ := actC_at HS.out HI.out.st.bel hkl
        have HAO := Lib.hid (HOK.out _ (List.getElem_mem hkl))
        generalize l[k] = a at hcs HAO
        obtain ⟨kind, an, ar, keep⟩ := a
        have a0 : wr.cell? ⟨b, off + k * 9, none⟩ = some (.int .i64 kind) := hcs 0 _ (by omega) rfl
        have a1 : wr.cell? ⟨b, off + k * 9 + 1, none⟩ = some (.int .i64 an) := hcs 1 _ (by omega) rfl
        have a2 : wr.cell? ⟨b, off + k * 9 + 2, none⟩ = some (.int .i64 ar.part) := hcs 2 _ (by omega) rfl
        have a3 : wr.cell? ⟨b, off + k * 9 + 3, none⟩ = some (.int .i64 ar.seq) := hcs 3 _ (by omega) rfl
        have a4 : wr.cell? ⟨b, off + k * 9 + 4, none⟩ = some (.int .i64 ar.active) := hcs 4 _ (by omega) rfl
        have a5 : wr.cell? ⟨b, off + k * 9 + 5, none⟩ = some (.int .i64 ar.confirmed) := hcs 5 _ (by omega) rfl
        have a6 : wr.cell? ⟨b, off + k * 9 + 6, none⟩ = some (.int .i64 ar.left) := hcs 6 _ (by omega) rfl
        have a7 : wr.cell? ⟨b, off + k * 9 + 7, none⟩ = some (.int .i64 ar.bad) := hcs 7 _ (by omega) rfl
        have a8 : wr.cell? ⟨b, off + k * 9 + 8, none⟩ = some (.int .u64 keep) := hcs 8 _ (by omega) rfl
        have hlt' : (k : Int) < (n : Int) := by omega
        have hk0 : (0 : Int) ≤ (k : Int) := by omega
        clear hkl hcs
        obtain ⟨w5, hw5⟩ : ∃ w5, w5 = wr.alloc (.cells #[.int .i64 kind, .int .i64 an, .int .i64 ar.part, .int .i64 ar.seq, .int .i64 ar.active, .int .i64 ar.confirmed, .int .i64 ar.left, .int .i64 ar.bad, .int .u64 keep] 83) := ⟨_, rfl⟩
        obtain ⟨Z, hZ⟩ : ∃ Z, Z = wr.heap.size := ⟨_, rfl⟩
        have H5 := Lib.hid (show St w w5 (row Z 83 (ActC.cells ⟨kind, an, ar, keep⟩) :: [log g2 d p s.held s.now, dsk d m1, row X 23 s.now.cells.toList, row (X + 1) 23 might.cells.toList]) by rw [hw5, hZ]; exact HI.out.st.new _ _)
        have HW5 := Lib.hid hw5; have HZ := Lib.hid hZ
        clear hw5 hZ
        go_upto_region 14 with fail
        rw [← HW5.out, ← HZ.out]
        obtain ⟨z0, z1, z2, z3, z4, z5, z6, z7, z8⟩ : w5.cell? ⟨Z, 0, none⟩ = some (.int .i64 kind) ∧ w5.cell? ⟨Z, 1, none⟩ = some (.int .i64 an) ∧ w5.cell? ⟨Z, 2, none⟩ = some (.int .i64 ar.part) ∧ w5.cell? ⟨Z, 3, none⟩ = some (.int .i64 ar.seq) ∧ w5.cell? ⟨Z, 4, none⟩ = some (.int .i64 ar.active) ∧ w5.cell? ⟨Z, 5, none⟩ = some (.int .i64 ar.confirmed) ∧ w5.cell? ⟨Z, 6, none⟩ = some (.int .i64 ar.left) ∧ w5.cell? ⟨Z, 7, none⟩ = some (.int .i64 ar.bad) ∧ w5.cell? ⟨Z, 8, none⟩ = some (.int .u64 keep) :=
          ⟨H5.out.row.1.cell 0, H5.out.row.1.cell 1, H5.out.row.1.cell 2, H5.out.row.1.cell 3, H5.out.row.1.cell 4, H5.out.row.1.cell 5, H5.out.row.1.cell 6, H5.out.row.1.cell 7, H5.out.row.1.cell 8⟩
        have lz : Z < w5.heap.size := H5.out.row.1.lt
        clear a0 a1 a2 a3 a4 a5 a6 a7 a8 lb
        go_upto_block 2 with fail
        go_cut [7] (fun s7 wc => ∃ (s : LogS) (m : DS) (might : Rec) (g : Nat), s7 = .pointer (some ⟨g, 0, none⟩) ∧ AI w g d p s m might X (X + 1) wc)
        case first =>
          have HFEW := Lib.hid HI.out.ok.few
          have HQ := Lib.hid (right_seq HI.out.ok.ok.right)
          have HLG := Lib.hid (show St w w5 (log g2 d p s.held s.now :: dsk d m1 :: row X 23 s.now.cells.toList :: row (X + 1) 23 might.cells.toList :: row Z 83 (ActC.cells ⟨kind, an, ar, keep⟩) :: []) from H5.out.perm (by refine (List.perm_append_comm (l₁ := [_]) (l₂ := [_, _, _, _])).trans ?_; exact List.Perm.refl _))
          have HIO := Lib.hid HI.out.ok
          have HLN := Lib.hid HI.out.len
          clear H5 HI
          have HVA := Lib.hid (Rec.val_eq ar)
          have MS := Lib.hid (fun r : Rec => show (Try.prog.info? 23).map (·.size) = some r.cells.size from by kernel_rfl)
          have ML := Lib.hid (fun r s : Rec => show 0 + r.cells.size ≤ s.cells.toList.length from Nat.le_refl 6)
          have MO := Lib.hid (fun r : Rec => rec_one r)
          have MR := Lib.hid (fun r s : Rec => show s.cells.toList.take 0 ++ r.cells.toList ++ s.cells.toList.drop (0 + r.cells.size) = r.cells.toList by simp [Rec.cells])
          by_cases hk0' : kind = 0
          · subst hk0'
            have HNX := Lib.hid (fun (w : World) => next_ref w s.now ar (by have := HQ.out; omega))
            have HVN := Lib.hid (Rec.val_eq s.now)
            have HSL := Lib.hid ((saveM_slen m1 p s ar).trans HLN.out)
            have HSV := Lib.hid (fun (w1 : World) (ls : List Asn) (h : St w w1 (log g2 d p s.held s.now :: dsk d m1 :: ls)) => save_at h HIO.out.ok.held (by have := HQ.out; omega) (by have := HFEW.out; omega) ar)
            obtain ⟨x0, x1, x2, x3, x4, x5⟩ := Rec.read (HLG.out.pick 2 rfl).row.1
            have lx := (HLG.out.pick 2 rfl).row.1.lt
            have HC : ∃ (R1 : Rec) (f h : Int) (m' : DS) (s' : LogS) (mt : Rec), refNext s.now ar = (R1, f) ∧ saveM m1 p s ar = (h, m', s') ∧ ((h = f ∧ h ≠ 8 ∧ s'.now = R1 ∧ mt = might) ∨ (h = 8 ∧ f = 0 ∧ s' = s ∧ mt = if might.seq = 0 then R1 else might)) ∧ CI m' p s' mt := by
              rcases HIO.out.save ar with ⟨c, hc, h1, h2⟩ | ⟨m', s', h1, h2, h3⟩ | ⟨m', nx, h1, h2, h3⟩
              · exact ⟨_, _, _, _, _, might, h1, h2, .inl ⟨rfl, by omega, rfl, rfl⟩, HIO.out⟩
              · exact ⟨_, _, _, _, _, might, h1, h2, .inl ⟨rfl, by omega, rfl, rfl⟩, h3⟩
              · exact ⟨_, _, _, _, _, _, h1, h2, .inr ⟨rfl, rfl, rfl, rfl⟩, h3⟩
            obtain ⟨R1, f, h, m', s', mt, hr1, hs1, hcase, hci⟩ := HC
            rw [hr1] at HNX
            rw [hs1] at HSV HSL
            have HCI := Lib.hid hci
            clear hr1 hs1 hci
            go_wp2_with (fail)
            rw [← HVN.out, ← HVA.out]
            refine (HNX.out _).mono ?_
            rintro e w6 ⟨rfl, hb⟩
            have H6 := Lib.hid (HLG.out.below hb)
            clear hb x0 x1 x2 x3 x4 x5 lx z0 z1 z2 z3 z4 z5 z6 z7 z8 lz
            dsimp only
            rw [Rec.val_eq R1]
            obtain ⟨w7, hw7⟩ : ∃ w7, w7 = w6.alloc (.cells #[.int .i64 R1.part, .int .i64 R1.seq, .int .i64 R1.active, .int .i64 R1.confirmed, .int .i64 R1.left, .int .i64 R1.bad] 23) := ⟨_, rfl⟩
            obtain ⟨NB, hNB⟩ : ∃ NB, NB = w6.heap.size := ⟨_, rfl⟩
            have H7 := Lib.hid (show St w w7 (log g2 d p s.held s.now :: dsk d m1 :: row NB 23 R1.cells.toList :: row X 23 s.now.cells.toList :: row (X + 1) 23 might.cells.toList :: row Z 83 (ActC.cells ⟨0, an, ar, keep⟩) :: []) by rw [hw7, hNB]; exact ((H6.out.new 23 R1.cells).pick 2 rfl).pick 2 rfl)
            have HW7 := Lib.hid hw7; have HNB := Lib.hid hNB
            clear hw7 hNB
            go_upto_region 17 with fail
            rw [← HW7.out, ← HNB.out]
            obtain ⟨z2, z3, z4, z5, z6, z7⟩ : w7.cell? ⟨Z, 2, none⟩ = some (.int .i64 ar.part) ∧ w7.cell? ⟨Z, 3, none⟩ = some (.int .i64 ar.seq) ∧ w7.cell? ⟨Z, 4, none⟩ = some (.int .i64 ar.active) ∧ w7.cell? ⟨Z, 5, none⟩ = some (.int .i64 ar.confirmed) ∧ w7.cell? ⟨Z, 6, none⟩ = some (.int .i64 ar.left) ∧ w7.cell? ⟨Z, 7, none⟩ = some (.int .i64 ar.bad) :=
              ⟨(H7.out.pick 5 rfl).row.1.cell 2, (H7.out.pick 5 rfl).row.1.cell 3, (H7.out.pick 5 rfl).row.1.cell 4, (H7.out.pick 5 rfl).row.1.cell 5, (H7.out.pick 5 rfl).row.1.cell 6, (H7.out.pick 5 rfl).row.1.cell 7⟩
            have lz : Z < w7.heap.size := (H7.out.pick 5 rfl).row.1.lt
            go_wp2_with (fail)
            rw [← HVA.out]
            refine (HSV.out _ _ H7.out).mono ?_
            rintro e w8 ⟨rfl, h8⟩
            have H8 := Lib.hid h8
            clear h8 z2 z3 z4 z5 z6 z7 lz
            obtain ⟨y0, y1, y2, y3, y4, y5⟩ := Rec.read (H8.out.pick 4 rfl).row.1
            have ly := (H8.out.pick 4 rfl).row.1.lt
            obtain ⟨r0, r1, r2, r3, r4, r5⟩ := Rec.read (H8.out.pick 2 rfl).row.1
            have lr := (H8.out.pick 2 rfl).row.1.lt
            dsimp only
            rcases hcase with ⟨rfl, h8, hn, rfl⟩ | ⟨rfl, rfl, rfl, hmt⟩
            · have b8 : (h == 8) = false := by simpa using h8
              have b9 : (h != h) = false := by simp
              have HNW := Lib.hid hn
              clear hn h8
              go_wp2_with (refine wpList_putR rfl 23 (.tmp 9) (.tmp 72) rfl X 0 R1.cells rfl rfl (H8.out.pick 3 rfl).row.1 (MS.out _) (ML.out _ _) (MO.out _) R1.cells.toList (MR.out _ _) ?_)
              go_meet
              refine ⟨s', m', mt, g2, rfl, ?_, HCI.out, HSL.out⟩
              have h := (((((H8.out.pick 3 rfl).setRow R1.cells.toList).pick 4 rfl).pick 1 rfl).pick 3 rfl).pick 3 rfl
              rw [HNW.out] at h ⊢
              exact h.take 4
            · by_cases hz : might.seq = 0
              · have hz' : (might.seq == 0) = true := by simpa using hz
                rw [if_pos hz] at hmt
                subst hmt
                clear hz
                go_wp2_with (refine wpList_putR rfl 23 (.tmp 10) (.tmp 68) rfl (X + 1) 0 mt.cells rfl rfl (H8.out.pick 4 rfl).row.1 (MS.out _) (ML.out _ _) (MO.out _) mt.cells.toList (MR.out _ _) ?_)
                go_roundw
                case rel => exact ⟨k + 1, s', m', mt, g2, by omega, by go_num, rfl, ((((((H8.out.pick 4 rfl).setRow mt.cells.toList).pick 4 rfl).pick 3 rfl).pick 3 rfl).take 4), HCI.out, HSL.out⟩
                case measure => simp [intOf] <;> omega
              · have hz' : (might.seq == 0) = false := by simpa using hz
                rw [if_neg hz] at hmt
                subst hmt
                clear hz
                go_wp2_with (fail)
                go_roundw
                case rel => exact ⟨k + 1, s', m', mt, g2, by omega, by go_num, rfl, (((((H8.out.pick 4 rfl).pick 4 rfl).pick 3 rfl).pick 3 rfl).take 4), HCI.out, HSL.out⟩
                case measure => simp [intOf] <;> omega
          · have b0 : (kind == 0) = false := by simpa using hk0'
            clear hk0'
            obtain ⟨y0, y1, y2, y3, y4, y5⟩ := Rec.read (HLG.out.pick 3 rfl).row.1
            have ly := (HLG.out.pick 3 rfl).row.1.lt
            by_cases hk1 : kind = 1
            · subst hk1
              by_cases hz : might.seq = 0
              · have hz' : (might.seq == 0) = true := by simpa using hz
                have HFS := Lib.hid (dsk_fuse (HLG.out.pick 1 rfl) an HAO.out.n.2)
                have HCI := Lib.hid (HIO.out.fuse hz an HAO.out.n.2)
                have HSL := Lib.hid (show (m1.setFuse an).secs.length = 40 by rw [← HLN.out]; unfold DS.setFuse; split <;> rfl)
                clear hz
                go_wp2_with (fail)
                refine HFS.out.mono ?_
                rintro e w6 ⟨rfl, h6⟩
                have H6 := Lib.hid h6
                clear h6
                go_wp2_with (fail)
                go_meet
                exact ⟨s, _, might, g2, rfl, (H6.out.swap.take 4), HCI.out, HSL.out⟩
              · have hz' : (might.seq == 0) = false := by simpa using hz
                clear hz
                go_wp2_with (fail)
                go_meet
                exact ⟨s, m1, might, g2, rfl, HLG.out.take 4, HIO.out, HLN.out⟩
            · have b1 : (kind == 1) = false := by simpa using hk1
              clear hk1
              by_cases hk2 : kind = 2
              · subst hk2
                obtain ⟨s', hop, hci, hnow⟩ := HIO.out.power keep
                have HPW := Lib.hid (dsk_power (HLG.out.pick 1 rfl) keep HAO.out.keep0 HAO.out.keep1 (by have := HFEW.out; omega))
                have HSL := Lib.hid (show (m1.power keep).secs.length = 40 by rw [DS.power_slen]; exact HLN.out)
                obtain ⟨mp, hmp⟩ : ∃ mp, mp = m1.power keep := ⟨_, rfl⟩
                have hdn : mp.down = false := by rw [hmp]; rfl
                have hwt : mp.waits = [] := by rw [hmp]; rfl
                have HSEQ := Lib.hid (show might.seq > 0 → might.seq = s.now.seq + 1 by
                  intro h
                  cases hd : m1.down with
                  | true => exact (HIO.out.dn hd).2.2.1
                  | false => rw [(HIO.out.up hd).1] at h; exact absurd h (by decide))
                rw [← hmp] at hop hci HPW HSL
                have HOPN := Lib.hid (fun (w1 : World) (ls : List Asn) (h : St w w1 (dsk d mp :: ls)) => open_at h p hci.ok.roomFor hdn (by rw [hwt]; decide) (fun i => hci.bts.now i) (fun i hi => hci.good.now_len hi))
                have HOP := Lib.hid hop; have HCI := Lib.hid hci; have HNOW := Lib.hid hnow; have HHELD := Lib.hid hci.ok.held
                clear hop hci hnow hmp hdn hwt y0 y1 y2 y3 y4 y5 ly
                go_wp2_with (fail)
                refine HPW.out.mono ?_
                rintro e w6 ⟨rfl, h6⟩
                have H6 := Lib.hid h6
                clear h6
                go_wp2_with (fail)
                refine (HOPN.out _ _ H6.out).mono ?_
                rintro e w7 hb
                have hb := hb.2 (by rw [HOP.out]; have := HHELD.out; simp only; omega)
                rw [HOP.out] at hb
                obtain ⟨g3, rfl, h7⟩ := hb
                have H7 := Lib.hid h7
                clear hb h7
                obtain ⟨y0, y1, y2, y3, y4, y5⟩ := Rec.read (H7.out.pick 4 rfl).row.1
                have ly := (H7.out.pick 4 rfl).row.1.lt
                have h34 : X + 1 ≠ w7.heap.size := by omega
                by_cases hms : might.seq > 0
                · have hms' : decide (might.seq > 0) = true := by simpa using hms
                  have hms'' : decide (0 < might.seq) = true := by simpa using hms
                  by_cases hsame : s'.now = might
                  · have HNW := Lib.hid hsame
                    subst hsame
                    clear hms
                    go_wp2_with (fail)
                    have HLT := Lib.hid (by have h := latest_at H7.out.drew; rw [Rec.val_eq] at h; exact h)
                    go_region_held3 (fun w' => w'.cell? ⟨X + 1, 0, none⟩ = some (.int .i64 s'.now.part) ∧ w'.cell? ⟨X + 1, 1, none⟩ = some (.int .i64 s'.now.seq) ∧ w'.cell? ⟨X + 1, 2, none⟩ = some (.int .i64 s'.now.active) ∧ w'.cell? ⟨X + 1, 3, none⟩ = some (.int .i64 s'.now.confirmed) ∧ w'.cell? ⟨X + 1, 4, none⟩ = some (.int .i64 s'.now.left) ∧ w'.cell? ⟨X + 1, 5, none⟩ = some (.int .i64 s'.now.bad)) (first | go_keep | (refine ⟨?_, ?_, ?_, ?_, ?_, ?_⟩ <;> (refine cell_below HB5.out ?_; go_simp))) (((with_reducible refine HLT.out.mono ?_); rintro e w8 ⟨rfl, hb5⟩; have HB5 := Lib.hid hb5; clear hb5))
                    have H8 := Lib.hid (H7.out.drew.below HB5.out)
                    clear y0 y1 y2 y3 y4 y5 ly
                    obtain ⟨y0, y1, y2, y3, y4, y5⟩ := Rec.read (H8.out.pick 4 rfl).row.1
                    have ly := (H8.out.pick 4 rfl).row.1.lt
                    have HS9 := Lib.hid ((H8.out.pick 3 rfl).setRow s'.now.cells.toList)
                    have HS10 := Lib.hid ((HS9.out.pick 4 rfl).setRow Rec.zero.cells.toList)
                    go_wp2_with (first
                      | (with_reducible refine wpList_putR rfl 23 (.tmp 9) (.tmp 105) rfl X 0 s'.now.cells rfl rfl (H8.out.pick 3 rfl).row.1 (MS.out _) (ML.out _ _) (MO.out _) s'.now.cells.toList (MR.out _ _) ?_)
                      | (with_reducible refine wpList_putR rfl 23 (.tmp 10) (.tmp 107) rfl (X + 1) 0 Rec.zero.cells rfl rfl (HS9.out.pick 4 rfl).row.1 (MS.out _) (ML.out _ _) (MO.out _) Rec.zero.cells.toList (MR.out _ _) ?_))
                    go_meet
                    exact ⟨s', mp, Rec.zero, g3, rfl, (((HS10.out.pick 1 rfl).pick 3 rfl).pick 3 rfl).take 4, HCI.out, HSL.out⟩
                  · have HNE := Lib.hid hsame
                    have hnow : s'.now = s.now := by
                      have h := HNOW.out
                      rw [if_neg fun x => hsame x.2] at h
                      exact h
                    have hsq : might.seq = s.now.seq + 1 := HSEQ.out hms
                    have hne : (s'.now.seq == might.seq) = false := by rw [hnow, hsq, beq_eq_false_iff_ne]; omega
                    have HNW := Lib.hid hnow
                    clear hms hsame hnow hsq
                    go_wp2_with (fail)
                    have HLT := Lib.hid (by have h := latest_at H7.out.drew; rw [Rec.val_eq] at h; exact h)
                    go_region_held3 (fun w' => w'.cell? ⟨X + 1, 0, none⟩ = some (.int .i64 might.part) ∧ w'.cell? ⟨X + 1, 1, none⟩ = some (.int .i64 might.seq) ∧ w'.cell? ⟨X + 1, 2, none⟩ = some (.int .i64 might.active) ∧ w'.cell? ⟨X + 1, 3, none⟩ = some (.int .i64 might.confirmed) ∧ w'.cell? ⟨X + 1, 4, none⟩ = some (.int .i64 might.left) ∧ w'.cell? ⟨X + 1, 5, none⟩ = some (.int .i64 might.bad)) (first | go_keep | (refine ⟨?_, ?_, ?_, ?_, ?_, ?_⟩ <;> (refine cell_below HB5.out ?_; go_simp))) (((with_reducible refine HLT.out.mono ?_); rintro e w8 ⟨rfl, hb5⟩; have HB5 := Lib.hid hb5; clear hb5))
                    have H8 := Lib.hid (H7.out.drew.below HB5.out)
                    have HS10 := Lib.hid ((H8.out.pick 4 rfl).setRow Rec.zero.cells.toList)
                    go_wp2_with (refine wpList_putR rfl 23 (.tmp 10) (.tmp 107) rfl (X + 1) 0 Rec.zero.cells rfl rfl (H8.out.pick 4 rfl).row.1 (MS.out _) (ML.out _ _) (MO.out _) Rec.zero.cells.toList (MR.out _ _) ?_)
                    go_meet
                    refine ⟨s', mp, Rec.zero, g3, rfl, ?_, HCI.out, HSL.out⟩
                    have h := (((HS10.out.pick 4 rfl).pick 3 rfl).pick 3 rfl).take 4
                    have h2 : St w _ [log g3 d p s'.held s'.now, dsk d mp, row X 23 s.now.cells.toList, row (X + 1) 23 Rec.zero.cells.toList] := h
                    rw [← HNW.out] at h2
                    exact h2
                · have hms' : decide (might.seq > 0) = false := by simpa using hms
                  have hms'' : decide (0 < might.seq) = false := by simpa using hms
                  have HNW := Lib.hid (show s'.now = s.now by
                      have h := HNOW.out
                      rw [if_neg fun x => hms x.1] at h
                      exact h)
                  clear hms
                  go_wp2_with (fail)
                  go_quiet (fail)
                  have H8 := Lib.hid (H7.out.drewN nq)
                  have HS10 := Lib.hid ((H8.out.pick 4 rfl).setRow Rec.zero.cells.toList)
                  go_wp2_with (refine wpList_putR rfl 23 (.tmp 10) (.tmp 107) rfl (X + 1) 0 Rec.zero.cells rfl rfl (H8.out.pick 4 rfl).row.1 (MS.out _) (ML.out _ _) (MO.out _) Rec.zero.cells.toList (MR.out _ _) ?_)
                  go_meet
                  refine ⟨s', mp, Rec.zero, g3, rfl, ?_, HCI.out, HSL.out⟩
                  have h := (((HS10.out.pick 4 rfl).pick 3 rfl).pick 3 rfl).take 4
                  have h2 : St w _ [log g3 d p s'.held s'.now, dsk d mp, row X 23 s.now.cells.toList, row (X + 1) 23 Rec.zero.cells.toList] := h
                  rw [← HNW.out] at h2
                  exact h2
              · have b2 : (kind == 2) = false := by simpa using hk2
                clear hk2
                go_wp2_with (fail)
                go_meet
                exact ⟨s, m1, might, g2, rfl, HLG.out.take 4, HIO.out, HLN.out⟩
        case rest =>
          obtain ⟨s2, m2, mt, g3, rfl, hi⟩ := hcut
          have H7 := Lib.hid hi.st.drew
          have HCI := Lib.hid hi.ok; have HSL := Lib.hid hi.len
          clear hi H5 HI
          obtain ⟨q0, q1, q2, q3, q4, q5⟩ := Rec.read (w := wc) (H7.out.pick 2 rfl).row.1
          have lq : X < wc.heap.size := (H7.out.pick 2 rfl).row.1.lt
          clear z0 z1 z2 z3 z4 z5 z6 z7 z8 lz
          go_wp2_with (fail)
          refine wp_region_plan [0] [[1, 2, 3], [2, 1, 3]] (by kernel_rfl) (by kernel_rfl) (fun _ _ _ _ _ h => h) ?_
          simp only [forks, pick, List.getElem?_cons_succ, List.getElem?_cons_zero, Option.getD_some]
          iterate 1 still_step
          refine wpStill_nil ?_
          refine ⟨?_, ?_⟩
          all_goals
            go_wp2_with (fail)
            refine (latest_at H7.out).mono ?_
            rintro e w8 ⟨rfl, hb⟩
            have H8 := Lib.hid (H7.out.below hb)
            clear hb
            obtain ⟨t0, t1, t2, t3, t4, t5⟩ := Rec.read (w := w8) (H8.out.pick 2 rfl).row.1
            have lt := (H8.out.pick 2 rfl).row.1.lt
            dsimp only
            rw [Rec.val_eq s2.now]
            go_wp2_with (fail)
            go_roundw
            case rel => exact ⟨k + 1, s2, m2, mt, g3, by omega, by go_num, rfl, H8.out, HCI.out, HSL.out⟩
            case measure => simp [intOf] <;> omega
      · have hkl : k = n := by omega
        have hlt' : ¬ (k : Int) < (n : Int) := by omega
        clear hkl
        go_wp2_with (fail)
        go_ret
        exact ⟨rfl, HI.out.st.bel⟩

/-! ### the row: written by program -/
set_option maxRecDepth 100000 in
theorem lifted (os : Os) (started : os.Started) (H : Type) (enc : TypeId × Value → H) :
    ReturnsInHanded {} Try.checked os 12 .any (Rows.commitActsSpec.pre6 enc Try.prog Try.f12 Rows.commitActsRow.domain false) (Rows.commitActsSpec.post enc Try.prog Try.f12 false true false false) := by
  refine returnsInHanded_of_change (C := Try.checked) Go.Proofs.Ytdlbcbdfcjfagaa.lift.own started (by kernel_rfl) Try.func12
    (ChangeSpec.witness6 (enc := enc) (C := Try.checked) false ⟨#[], #[.int .u8 0, .slice none 0 0], []⟩ 8 (by kernel_rfl) (by kernel_rfl) (by kernel_rfl) (by kernel_rfl)) ?_
  intro W base args ds gs before hval0 hW hcnd _
  have hval : ∀ (j : Nat) t v, Try.f12.params[j]? = some t → args[j]? = some v → Value.okWide Try.prog W .any base t v := hval0
  have hW' := hW
  obtain ⟨p, q, hA0, hV, rfl, hfz, hnd⟩ := hW
  have hA : DataW.TrodAll enc Try.prog W 0 (fun _ => true) true Try.f12.params.toList args.toList ds p := hA0
  have hAk := hA
  rw [Try.params12] at hA hval
  obtain ⟨v0, vs0, d0, ds0, p0, q0, hargs, rfl, rfl, h0, r0⟩ := trodAll_cons hA
  obtain ⟨v1, vs1, d1, ds1, p1, q1, rfl, rfl, rfl, h1, r1⟩ := trodAll_cons r0
  obtain ⟨rfl, rfl, rfl⟩ := trodAll_nil r1
  obtain rfl : args = #[v0, v1] := by cases args; simp_all
  obtain ⟨rfl, rfl⟩ := trodVars_none hV
  have hlt := hW'.lt
  obtain ⟨a0, rfl, _, _, w0⟩ := open_int Try.underlying5 (hval 0 5 v0 rfl rfl) h0
  obtain ⟨A1, c1, l1, rfl, hm1, hs1, ho1⟩ := arg_actsC (hval 1 80 v1 rfl rfl) h1
  refine (walk W a0 w0 A1 c1 l1 hm1 hs1 ho1).mono fun e W' ⟨he, hg⟩ => ?_
  subst he
  exact ⟨_, rfl, Go.Proofs.Ytdlbcbdfcjfagaa.base.postBelow (pv := []) hW' (fun _ _ _ => (trodAll_cons_mk (shut_bool Try.underlying4 _) trodAll_mk0)) (fun sp hsp => Go.Proofs.Ytdlbcbdfcjfagaa.lift.args_stay Go.Proofs.Ytdlbcbdfcjfagaa.lift.laidOut hg _ _ _ _ (by kernel_rfl) hAk (fun x hx => hlt x (by simpa using hx)) (fun x hx => hsp x (by simpa using hx))) (fun _ _ => rfl) (by simp)
    hg (ok_one (by kernel_rfl) rfl (okWide_bool_mk Try.underlying4 _))⟩

theorem over : Rows.commitActsRow.holds Try.pinned (OpenSpec.ofChange Rows.commitActsSpec) :=
  OpenClaim.holds_of_wide 12 Try.f12 rfl rfl rfl rfl rfl rfl rfl ⟨rfl, rfl, rfl, rfl, rfl⟩ rfl rfl rfl rfl rfl (by kernel_rfl) Try.func12 (by kernel_rfl)
    (of_decide_eq_true (by kernel_rfl)) (by unfold Func.isWrapper; first | (rw [if_pos (by decide +kernel)]; kernel_rfl) | (rw [if_neg (by decide +kernel)]; exact ⟨rfl, rfl⟩))
    (fun os started H enc _ => lifted os started H enc)

/-- THE STATEMENT -/
theorem proved : Rows.CommitActsSaid :=
  over
#print axioms proved
end Go.Proofs.Ytdlbcbdfcjfagaa.commitActs
