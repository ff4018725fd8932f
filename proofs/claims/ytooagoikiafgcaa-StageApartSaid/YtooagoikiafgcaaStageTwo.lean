/-
  PROVED HERE: what a slot's deeds leave as it was on the disk; another slot's stage stays; acts as the law's arguments.
  CONDITIONS: each lemma names its own.
-/
import Derived.Test.YtooagoikiafgcaaStageWakes
import Derived.Test.YtooagoikiafgcaaLiftField
namespace Go.Proofs.Ytooagoikiafgcaa.stage
set_option linter.unusedVariables false
open Go.RowKit Go.ChangeShapes Go.WideShapes Go.ChangeAt Go.Deep Go.Joins Go.Proofs.Ytooagoikiafgcaa.base Go.Proofs.Ytooagoikiafgcaa.obj Go.Proofs.Ytooagoikiafgcaa.mem Go.Proofs.Ytooagoikiafgcaa.crc Go.Proofs.Ytooagoikiafgcaa.disk Go.Proofs.Ytooagoikiafgcaa.record Go.Proofs.Ytooagoikiafgcaa.bits Go.Proofs.Ytooagoikiafgcaa.sep Go.Proofs.Ytooagoikiafgcaa.plan Go.Proofs.Ytooagoikiafgcaa.bytes

/-- a sector that is none of a slot's four -/
def Outside (p k : Int) (j : Nat) : Prop := (j : Int) < sAt p k ∨ sAt p k + 4 ≤ (j : Int)
theorem out_own {p k : Int} {j : Nat} (h : Outside p k j) (h0 : 0 ≤ sAt p k) : j ≠ (sAt p k).toNat := by
  unfold Outside at h
  omega
theorem out_data {p k i : Int} {j : Nat} (h : Outside p k j) (h0 : 0 ≤ sAt p k) (i0 : 0 ≤ i) (i3 : i < 3) : j ≠ (dAt p k i).toNat := by
  unfold Outside sAt at h
  unfold sAt at h0
  unfold dAt
  omega
theorem begin_out {m : DS} {p k : Int} (h : Pl m p k) (s : SlS) (se sz : Int) {j : Nat} (hj : Outside p k j) : (beginM m p k s se sz).2.1.now j = m.now j := by
  have key := wf_other h.good h.own.1 h.own.2 (Stg.bytes_length ⟨se, sz, 0⟩) (out_own hj h.own.1)
  unfold beginM
  split
  · split <;> exact key
  · rfl
theorem clear_out {m : DS} {p k : Int} (h : Pl m p k) (s : SlS) {j : Nat} (hj : Outside p k j) : (clearM m p k s).2.1.now j = m.now j := by
  have key := wf_other h.good h.own.1 h.own.2 (show zeroSec.length = 64 from rfl) (out_own hj h.own.1)
  unfold clearM
  split <;> exact key
theorem put_out {m : DS} {p k : Int} (h : Pl m p k) {s : SlS} (hs : s.has = true → s.st.right = true) (se no : Int) {data : List Int} (hdb : Byt data) {j : Nat} (hj : Outside p k j) : (putM m p k s se no data).2.1.now j = m.now j := by
  unfold putM
  by_cases hw : wrongE s se no data.length = 0
  · rw [if_neg (not_not_intro hw)]
    obtain ⟨hh, w1, w2, w3, w4⟩ := wrong_yes hw
    obtain ⟨n, rfl⟩ := Int.eq_ofNat_of_zero_le w2
    rw [Int.toNat_natCast]
    split
    · rfl
    · split
      · rfl
      · have hn10 : n < 10 := by
          have := (stg_in (hs hh)).2.1
          unfold blocksN at w3; omega
        have hq : ((n : Int) / 4) = ((n / 4 : Nat) : Int) := by omega
        rw [hq]
        obtain ⟨d0, d1⟩ := h.at_ (i := ((n / 4 : Nat) : Int)) (by omega) (by omega)
        have hsl := splice_length (h.len (i := ((n / 4 : Nat) : Int)) (by omega) (by omega)) n w4
        have hsb := splice_byt (h.bts.now (dAt p k ((n / 4 : Nat) : Int)).toNat) n hdb
        have hpl1 := h.wf (dAt p k ((n / 4 : Nat) : Int)) hsb
        have k1 := wf_other h.good d0 d1 hsl (out_data hj h.own.1 (i := ((n / 4 : Nat) : Int)) (by omega) (by omega))
        have k2 := wf_other hpl1.good hpl1.own.1 hpl1.own.2 (Stg.bytes_length (nxt s.st n)) (out_own hj h.own.1)
        have key : (wf2 m (dAt p k ((n / 4 : Nat) : Int)) (splice (m.now (dAt p k ((n / 4 : Nat) : Int)).toNat) n data) (sAt p k) (nxt s.st n).bytes).2.now j = m.now j := by
          unfold wf2
          split
          · rw [k2, k1]
          · exact k1
        split <;> exact key
  · rw [if_pos hw]
/-- another slot's stage stays -/
theorem SI.other {m m' : DS} {p k : Int} {s : SlS} {R : RS} (h : SI m p k s R Option.none) (hu : m.down = false) (hg : m'.Good) (hb : m'.Bts) (hl : m'.secs.length = m.secs.length) (hw : m'.waits = []) (hd : m'.down = false)
    (hn : ∀ j, ¬ Outside p k j → m'.now j = m.now j) : SI m' p k s R Option.none := by
  obtain ⟨u1, u2, u3, u4⟩ := h.up hu
  have hi : ∀ i : Int, 0 ≤ i → i < 3 → ¬ Outside p k (dAt p k i).toNat := fun i i0 i3 ho => out_data ho h.pl.own.1 i0 i3 rfl
  refine ⟨⟨hg, hb, h.pl.p0, h.pl.p1, h.pl.k0, h.pl.k1, by rw [hl]; exact h.pl.room⟩, h.mem, by rw [hw]; simp, fun _ => ⟨rfl, hw, fun j hj => ?_, ?_⟩, fun h' => absurd (hd.symm.trans h') (by decide)⟩
  · have hjl := getD_ne hj
    have := h.mem.blocks10
    rw [← u3 j hj]
    unfold dblk
    rw [hn _ (hi _ (by omega) (by omega))]
  · exact (open_same (hn _ fun ho => out_own ho h.pl.own.1 rfl)).trans u4

/-! ### the law's acts -/
structure ActS where
  kind : Int
  n : Int
  size : Int
  no : Int
  by_ : Int
  long : Bool
  keep : Int
instance : Inhabited ActS := ⟨⟨0, 0, 0, 0, 0, false, 0⟩⟩
structure ActS.Ok (a : ActS) : Prop where
  n : InI a.n
  size : InI a.size
  no : InI a.no
  by0 : 0 ≤ a.by_
  by1 : a.by_ ≤ 255
  keep0 : 0 ≤ a.keep
  keep1 : a.keep ≤ 18446744073709551615
def ActS.cells (a : ActS) : List Value := [.int .i64 a.kind, .int .i64 a.n, .int .i64 a.size, .int .i64 a.no, .int .u8 a.by_, .bool a.long, .int .u64 a.keep]
def actCells (l : List ActS) : List Value := (l.map ActS.cells).flatten
theorem actCells_snoc (l : List ActS) (a : ActS) : actCells (l ++ [a]) = actCells l ++ a.cells := by simp [actCells]
theorem wf_u64 {z : Int} (h : (Lit.int .u64 z).wf = true) : 0 ≤ z ∧ z ≤ 18446744073709551615 := by
  have h1 : IntKind.u64.min = 0 := rfl
  have h2 : IntKind.u64.max = 18446744073709551615 := rfl
  simp only [Lit.wf, Bool.and_eq_true, decide_eq_true_eq] at h
  omega
theorem wf_u8 {z : Int} (h : (Lit.int .u8 z).wf = true) : 0 ≤ z ∧ z ≤ 255 := by
  have h1 : IntKind.u8.min = 0 := rfl
  have h2 : IntKind.u8.max = 255 := rfl
  simp only [Lit.wf, Bool.and_eq_true, decide_eq_true_eq] at h
  omega
theorem row_parts {H : Type} {enc : TypeId × Value → H} {P : Program} {W : World} {e : TypeId} {fs : Array Field} {cs : List Value} {m : Nat} {x : DataW H × List MemPlace} (he : P.underlying e = some (.struct fs))
    (h : DataW.trod enc P W 0 (fun _ => true) true m e cs = some x) : ∀ (j : Nat) (f : Field) (n : Nat), fs[j]? = some f → P.cellsOf f.type = n → ∃ (k : Nat) (y : DataW H × List MemPlace), DataW.trod enc P W 0 (fun _ => true) true k f.type ((cs.drop f.offset).take n) = some y := by
  obtain ⟨ys, n', hn', hy, hlen, hyl, hf⟩ := DataW.trod_struct he h
  intro j f n hj hn
  subst hn
  have hjl : j < fs.size := (Array.getElem?_eq_some_iff.1 hj).1
  have hys : ys[j]? = some (ys[j]'(by rw [hyl]; exact hjl)) := List.getElem?_eq_getElem _
  exact ⟨n', _, (hf j f hj).trans hys⟩
set_option maxRecDepth 100000 in
theorem arg_acts {H : Type} {enc : TypeId × Value → H} {W : World} {r : Reach} {b0 : Nat} {v : Value} {d : DataW H} {ps : List MemPlace} (hval : Value.okWide Try.prog W r b0 89 v)
    (h : DataW.Trod enc Try.prog W 0 (fun _ => true) true 89 v d ps) : ∃ (A : Option Addr) (c : Nat) (l : List ActS), v = .slice A l.length c ∧ l.length ≤ maxLen ∧ Sl W W.heap.size 7 A l.length (actCells l) ∧ ∀ a ∈ l, a.Ok := by
  obtain ⟨A, n, c, q, rfl, hn, hs, hq⟩ := Go.Proofs.Ytooagoikiafgcaa.lift.arg_row Try.underlying89 (s := 7) (by kernel_rfl) (by decide) hval h
  have each : ∀ i, i < n → ∃ p : ActS, q i = p.cells ∧ p.Ok := by
    intro i hi
    obtain ⟨hl, m, x, hx⟩ := hq i hi
    obtain ⟨u0, u1, u2, u3, u4, u5, u6, hqi⟩ : ∃ u0 u1 u2 u3 u4 u5 u6, q i = [u0, u1, u2, u3, u4, u5, u6] := by
      match hqi : q i, hl with
      | [u0, u1, u2, u3, u4, u5, u6], _ => exact ⟨_, _, _, _, _, _, _, rfl⟩
    rw [hqi] at hx ⊢
    have hf := row_parts Try.underlying92 hx
    obtain ⟨k0, y0, t0⟩ := hf 0 _ 1 rfl (by kernel_rfl)
    obtain ⟨k1, y1, t1⟩ := hf 1 _ 1 rfl (by kernel_rfl)
    obtain ⟨k2, y2, t2⟩ := hf 2 _ 1 rfl (by kernel_rfl)
    obtain ⟨k3, y3, t3⟩ := hf 3 _ 1 rfl (by kernel_rfl)
    obtain ⟨k4, y4, t4⟩ := hf 4 _ 1 rfl (by kernel_rfl)
    obtain ⟨k5, y5, t5⟩ := hf 5 _ 1 rfl (by kernel_rfl)
    obtain ⟨k6, y6, t6⟩ := hf 6 _ 1 rfl (by kernel_rfl)
    obtain ⟨a0, h0, _, w0⟩ := DataW.trod_int Try.underlying3 t0
    obtain ⟨a1, h1, _, w1⟩ := DataW.trod_int Try.underlying3 t1
    obtain ⟨a2, h2, _, w2⟩ := DataW.trod_int Try.underlying3 t2
    obtain ⟨a3, h3, _, w3⟩ := DataW.trod_int Try.underlying3 t3
    obtain ⟨a4, h4, _, w4⟩ := DataW.trod_int Try.underlying5 t4
    obtain ⟨a5, h5, _⟩ := DataW.trod_bool Try.underlying4 t5
    obtain ⟨a6, h6, _, w6⟩ := DataW.trod_int Try.underlying90 t6
    simp at h0 h1 h2 h3 h4 h5 h6
    exact ⟨⟨a0, a1, a2, a3, a4, a5, a6⟩, by rw [h0, h1, h2, h3, h4, h5, h6]; rfl, inI_of w1, inI_of w2, inI_of w3, (wf_u8 w4).1, (wf_u8 w4).2, (wf_u64 w6).1, (wf_u64 w6).2⟩
  obtain ⟨z, hz⟩ := choose_lt each
  have e1 : ∀ m, m ≤ n → (List.range m).flatMap q = actCells ((List.range m).map z) := by
    intro m
    induction m with
    | zero => intro _; simp [actCells]
    | succ m ih =>
      intro hm
      rw [List.range_succ, List.flatMap_append, List.map_append, ih (by omega), List.map_cons, List.map_nil, actCells_snoc]
      simp [(hz m (by omega)).1]
  rw [e1 n (Nat.le_refl _)] at hs
  have hl : ((List.range n).map z).length = n := by simp
  refine ⟨A, c, (List.range n).map z, by rw [hl], by rw [hl]; exact hn, by rw [hl]; exact hs, fun a ha => ?_⟩
  obtain ⟨i, hi, rfl⟩ := List.mem_map.1 ha
  exact (hz i (List.mem_range.1 hi)).2
/-- the cells of act number k -/
theorem act_at {w w' : World} {A : Option Addr} {l : List ActS} (h : Sl w w.heap.size 7 A l.length (actCells l)) (hb : Below w.heap.size w w') {k : Nat} (hk : k < l.length) : ∃ b off, A = some ⟨b, off, none⟩ ∧ b < w'.heap.size ∧
    ∀ j u, j < 7 → l[k].cells[j]? = some u → w'.cell? ⟨b, off + k * 7 + j, none⟩ = some u := by
  obtain ⟨b, off, rfl, hbl, hc⟩ := h.2 (by omega)
  have h9 : ∀ x ∈ l.map ActS.cells, x.length = 7 := by
    intro x hx
    obtain ⟨a, _, rfl⟩ := List.mem_map.1 hx
    rfl
  have e := flat_elem h9 (i := k) (by simpa using hk)
  have g : ∀ j, j < 7 → (actCells l)[k * 7 + j]? = l[k].cells[j]? := by
    intro j hj
    have e2 : (((l.map ActS.cells).flatten.drop (k * 7)).take 7)[j]? = (l.map ActS.cells).flatten[k * 7 + j]? := by
      rw [List.getElem?_take, if_pos hj, List.getElem?_drop]
    rw [e] at e2
    rw [actCells, ← e2]
    simp
  refine ⟨b, off, rfl, Nat.lt_of_lt_of_le hbl hb.size, fun j u hj hu => ?_⟩
  rw [hb.cell (p := ⟨b, off + k * 7 + j, none⟩) hbl, Nat.add_assoc]
  exact hc _ _ ((g j hj).trans hu)
end Go.Proofs.Ytooagoikiafgcaa.stage

namespace Go.Proofs.Ytooagoikiafgcaa.stage
set_option linter.unusedVariables false
open Go.RowKit Go.ChangeShapes Go.WideShapes Go.ChangeAt Go.Deep Go.Joins Go.Proofs.Ytooagoikiafgcaa.base Go.Proofs.Ytooagoikiafgcaa.obj Go.Proofs.Ytooagoikiafgcaa.mem Go.Proofs.Ytooagoikiafgcaa.crc Go.Proofs.Ytooagoikiafgcaa.disk Go.Proofs.Ytooagoikiafgcaa.record Go.Proofs.Ytooagoikiafgcaa.bits Go.Proofs.Ytooagoikiafgcaa.sep Go.Proofs.Ytooagoikiafgcaa.plan Go.Proofs.Ytooagoikiafgcaa.bytes

/-- no sector of the second one is the first one's -/
def Apart (p k p' k' : Int) : Prop := ∀ j, ¬ Outside p' k' j → Outside p k j
structure Both (w0 w : World) (g d go : Nat) (p k p' k' : Int) (m : DS) (s : SlS) (R : RS) (s' : SlS) (R' : RS) (l : List Asn) : Prop where
  st : St w0 w (slt g d p k s :: dsk d m :: slt go d p' k' s' :: l)
  si : SI m p k s R Option.none
  so : SI m p' k' s' R' Option.none
  up : m.Up
theorem Both.flip {w0 w : World} {g d go : Nat} {p k p' k' : Int} {m : DS} {s : SlS} {R : RS} {s' : SlS} {R' : RS} {l : List Asn} (h : Both w0 w g d go p k p' k' m s R s' R' l) : Both w0 w go d g p' k' p k m s' R' s R l :=
  ⟨(h.st.pick 1 rfl).pick 2 rfl, h.so, h.si, h.up⟩
section
variable {w0 w : World} {g d go : Nat} {p k p' k' : Int} {m : DS} {s : SlS} {R : RS} {s' : SlS} {R' : RS} {l : List Asn}
theorem both_begin (h : Both w0 w g d go p k p' k' m s R s' R' l) (ha : Apart p k p' k') (se sz : Int) :
    Calls Try.prog 38 #[.pointer (some ⟨g, 0, none⟩), .int .i64 se, .int .i64 sz] w fun e w' => e = .returned (.int .i64 (beginR R se sz).1) ∧ ∃ m' s1, Both w0 w' g d go p k p' k' m' s1 (beginR R se sz).2 s' R' l ∧ m'.secs.length = m.secs.length := by
  obtain ⟨h1, h2, h3⟩ := h.si.beginU h.up se sz
  have hl : (beginM m p k s se sz).2.1.secs.length = m.secs.length := by
    unfold beginM
    split
    · split <;> exact wf_slen _ _ _
    · rfl
  exact (begin_at h.st h.si.pl.pk (by have := h.si.few; omega) se sz).mono fun e w' ⟨e1, e2⟩ => ⟨by rw [e1, h1], _, _, ⟨e2, h2, h.so.other h.up.1 h2.pl.good h2.pl.bts hl (h2.up h3.1).2.1 h3.1 fun j hj => begin_out h.si.pl s se sz (ha j hj), h3⟩, hl⟩
theorem both_clear (h : Both w0 w g d go p k p' k' m s R s' R' l) (ha : Apart p k p' k') :
    Calls Try.prog 43 #[.pointer (some ⟨g, 0, none⟩)] w fun e w' => e = .returned (.int .i64 0) ∧ ∃ m' s1, Both w0 w' g d go p k p' k' m' s1 RS.none s' R' l ∧ m'.secs.length = m.secs.length := by
  have h3 := clear_up h.si.pl h.up s
  obtain ⟨h1, h2⟩ := h.si.clear.up h3
  have hl : (clearM m p k s).2.1.secs.length = m.secs.length := by
    unfold clearM
    split <;> exact wf_slen _ _ _
  exact (clear_at h.st h.si.pl.pk (by have := h.si.few; omega)).mono fun e w' ⟨e1, e2⟩ => ⟨by rw [e1, h1], _, _, ⟨e2, h2, h.so.other h.up.1 h2.pl.good h2.pl.bts hl (h2.up h3.1).2.1 h3.1 fun j hj => clear_out h.si.pl s (ha j hj), h3⟩, hl⟩
theorem both_put {B : Asn} {A : Option Addr} {n c : Nat} {data : List Int} (h : Both w0 w g d go p k p' k' m s R s' R' (B :: l)) (ha : Apart p k p' k') (hg : Gives w0 B A n data) (hb : Byt data) (se no : Int) :
    Calls Try.prog 39 #[.pointer (some ⟨g, 0, none⟩), .int .i64 se, .int .i64 no, .slice A n c] w fun e w' => e = .returned (.int .i64 (putR R se no data).1) ∧ ∃ m' s1, Both w0 w' g d go p k p' k' m' s1 (putR R se no data).2 s' R' (B :: l) ∧ m'.secs.length = m.secs.length := by
  obtain ⟨h1, h2, h3⟩ := h.si.putU h.up se no hb
  have hl := putM_slen m p k s se no data
  exact (put_at h.st h.si.pl h.si.right (by have := h.si.few; omega) se no A n c data hg.1 (fun w' m' h' => hg.2 _ _ (h'.pick 3 rfl))).mono fun e w' ⟨e1, e2⟩ => ⟨by rw [e1, h1], _, _, ⟨e2, h2, h.so.other h.up.1 h2.pl.good h2.pl.bts hl (h2.up h3.1).2.1 h3.1 fun j hj => put_out h.si.pl h.si.right se no hb (ha j hj), h3⟩, hl⟩
/-- a slot is opened anew -/
theorem both_open (h : Both w0 w g d go p k p' k' m s R s' R' l) :
    Calls Try.prog 36 #[.pointer (some ⟨d, 0, none⟩), .int .i64 p, .int .i64 k] w fun e w' => ∃ g2, e = .returned (.tuple #[.pointer (some ⟨g2, 0, none⟩), .int .i64 0]) ∧ Live w0 w' g2 d p k m s R (slt g d p k s :: slt go d p' k' s' :: l) := by
  have hp := h.si.pl
  have hr : hasRoom p k m.secs.length = true := by
    have h1 := hp.p0; have h2 := hp.p1; have h3 := hp.k0; have h4 := hp.k1; have h5 := hp.room
    unfold hasRoom
    simp only [decide_eq_true_eq]
    exact ⟨h1, h2, h3, h4, h5⟩
  refine (open_at (h.st.pick 1 rfl) p k hr h.up.1 (by have := h.si.few; omega) hp.bts).mono fun e w' ⟨g2, h1, h2⟩ => ⟨g2, h1, ?_, h.si, h.up⟩
  rw [(h.si.up h.up.1).2.2.2] at h2
  exact h2
end
end Go.Proofs.Ytooagoikiafgcaa.stage
