/-
  PROVED HERE: a record's and a stage's fields, and the sector that is sealed of them.
  CONDITIONS: each contract names its own.
-/
import Derived.Test.YtooagoikiafgcaaRecRight
import Derived.Test.YtooagoikiafgcaaReader
import Derived.Test.YtooagoikiafgcaaCrc
import Derived.Test.YtooagoikiafgcaaZeros
import Derived.Test.YtooagoikiafgcaaPlan
import Derived.Test.YtooagoikiafgcaaLift
import Derived.Shelf.RegionOpen
namespace Go.Proofs.Ytooagoikiafgcaa.record
set_option linter.unusedVariables false
open Go.RowKit Go.Proofs.Ytooagoikiafgcaa.base Go.Proofs.Ytooagoikiafgcaa.obj Go.Proofs.Ytooagoikiafgcaa.mem Go.Proofs.Ytooagoikiafgcaa.crc Go.Proofs.Ytooagoikiafgcaa.num Go.Proofs.Ytooagoikiafgcaa.bytes Go.Proofs.Ytooagoikiafgcaa.plan

/-- the cells of fields of widths ks, of the struct in block R -/
def fieldCells (R : Nat) (ks : List Nat) : List Value := (List.range ks.length).flatMap fun i => [.pointer (some ⟨R, i, none⟩), .int .i64 (ks.getD i 0 : Nat)]

theorem own_drew {w : World} {base : Nat} {e : TypeId} {size : Nat} {v : Value} {n : Nat} {xs : List Value} (h : w.ownsRow base e size v n xs) : w.drew.ownsRow base e size v n xs := h
/-- a row that is the call's own from an earlier block on -/
theorem own_base {w : World} {B B' : Nat} {e : TypeId} {size : Nat} {v : Value} {n : Nat} {xs : List Value} (h : w.ownsRow B e size v n xs) (hb : B' ≤ B) : w.ownsRow B' e size v n xs := by
  obtain ⟨h1, h2⟩ := h
  refine ⟨h1, ?_⟩
  rcases h2 with hz | ⟨g, cap, cur, rfl, hg, rest⟩
  · exact .inl hz
  · exact .inr ⟨g, cap, cur, rfl, Nat.le_trans hb hg, rest⟩

/-- the bytes of the mark and the first j numbers -/
def pre (mark : Nat) (ks vs : List Nat) (j : Nat) : List Int := be 2 mark ++ (List.range j).flatMap fun i => be (ks.getD i 0) (vs.getD i 0)
theorem pre_succ (mark : Nat) (ks vs : List Nat) (j : Nat) : pre mark ks vs (j + 1) = pre mark ks vs j ++ be (ks.getD j 0) (vs.getD j 0) := by
  unfold pre
  rw [List.range_succ, List.flatMap_append, List.append_assoc]
  simp
theorem pre_byt (mark : Nat) (ks vs : List Nat) (j : Nat) : Byt (pre mark ks vs j) := by
  intro z hz
  rcases List.mem_append.1 hz with h | h
  · exact be_byt _ _ z h
  · obtain ⟨i, _, h⟩ := List.mem_flatMap.1 h
    exact be_byt _ _ z h
theorem pre_mono (mark : Nat) (ks vs : List Nat) (j m : Nat) (h : j ≤ m) : (pre mark ks vs j).length ≤ (pre mark ks vs m).length := by
  induction m with
  | zero => have : j = 0 := by omega
            subst this; exact Nat.le_refl _
  | succ m ih =>
    rcases Nat.lt_or_ge j (m + 1) with h' | h'
    · rw [pre_succ, List.length_append]
      have := ih (by omega)
      omega
    · have : j = m + 1 := by omega
      subst this; exact Nat.le_refl _
/-- a sector of some first bytes -/
def sealB (p : List Int) : List Int := p ++ be 4 (sum p) ++ List.replicate (60 - p.length) 0

theorem fieldCells_get (R : Nat) (ks : List Nat) (k : Nat) (hk : k < ks.length) : (fieldCells R ks)[k * 2]? = some (.pointer (some ⟨R, k, none⟩)) ∧ (fieldCells R ks)[k * 2 + 1]? = some (.int .i64 (ks.getD k 0 : Nat)) := by
  have h := Go.Proofs.Ytooagoikiafgcaa.lift.flat_get (fun i => [Value.pointer (some ⟨R, i, none⟩), .int .i64 (ks.getD i 0 : Nat)]) 2 (by decide) ks.length (fun i _ => rfl)
  exact ⟨h.2 k 0 hk (by decide), h.2 k 1 hk (by decide)⟩

/-- what the numbers of a sector are: fields at a struct's cells -/
structure Fl (w : World) (R F : Nat) (T : TypeId) (ks vs : List Nat) : Prop where
  row : Row w F T (fieldCells R ks)
  cell : ∀ i, i < ks.length → w.cell? ⟨R, i, none⟩ = some (.int .i64 (vs.getD i 0 : Nat))
  wide : ∀ i, i < ks.length → 1 ≤ ks.getD i 0 ∧ ks.getD i 0 ≤ 6 ∧ vs.getD i 0 < 256 ^ ks.getD i 0
theorem Fl.lt {w : World} {R F : Nat} {T : TypeId} {ks vs : List Nat} (h : Fl w R F T ks vs) (h0 : 0 < ks.length) : R < w.heap.size ∧ F < w.heap.size := ⟨World.block_lt_of_cell? w _ (h.cell 0 h0), h.row.lt⟩
theorem Fl.below {w w' : World} {R F : Nat} {T : TypeId} {ks vs : List Nat} (h : Fl w R F T ks vs) (k : Below w.heap.size w w') : Fl w' R F T ks vs := ⟨h.row.below k h.row.lt, fun i hi => cell_below k (h.cell i hi), h.wide⟩

set_option maxRecDepth 100000 in
set_option maxHeartbeats 4000000 in
theorem sealed_at (w : World) (R F : Nat) (T : TypeId) (ks vs : List Nat) (n : Nat) (hn : ks.length = n) (h0 : 0 < n) (hF : Fl w R F T ks vs) (mark : Nat) (hm : mark < 65536) (hl : (pre mark ks vs n).length ≤ 59) :
    Calls Try.prog 112 #[.int .i64 mark, .slice (some ⟨F, 0, none⟩) n n] w fun e w' => ∃ v, e = .returned v ∧ w'.ownsRow w.heap.size 5 1 v 64 ((sealB (pre mark ks vs n)).map (.int .u8)) ∧ Below w.heap.size w w' := by
  have HP := Lib.hid (put_at w none 0 0 [] (Sl.nil_ w _ _) (by simp) (by omega) mark 2 (by omega) (by omega) hm)
  have HF := Lib.hid hF; have HN := Lib.hid hn; have HL := Lib.hid hl
  clear hF hn hl
  have hn60 : n ≤ 60 := by
    have h1 : ∀ j, j ≤ n → j ≤ (pre mark ks vs j).length := by
      intro j
      induction j with
      | zero => intro _; exact Nat.zero_le _
      | succ j ih =>
        intro hj
        rw [pre_succ, List.length_append, be_length]
        have h2 := (HF.out.wide j (by rw [HN.out]; omega)).1
        have := ih (by omega)
        omega
    have h3 := h1 n (Nat.le_refl _)
    have := HL.out
    omega
  go_enter Try.func112, Try.ntmps112
  go_wp2_with (fail)
  refine HP.out.mono ?_; rintro e w1 ⟨v, rfl, ho, hb⟩
  have HO := Lib.hid (show w1.ownsRow w.heap.size 5 1 v (pre mark ks vs 0).length ((pre mark ks vs 0).map (.int .u8)) by simpa [pre, be_length] using ho)
  have HB := Lib.hid hb
  clear ho hb HP
  go_wp2_with (fail)
  go_loopw [12, 5] (fun i v wr => ∃ k : Nat, k ≤ n ∧ i = .int .i64 k ∧ wr.ownsRow w.heap.size 5 1 v (pre mark ks vs k).length ((pre mark ks vs k).map (.int .u8)) ∧ Below w.heap.size w wr) (fun i _ _ => n - (intOf i).toNat)
  case atStart => exact ⟨0, by omega, rfl, HO.out, HB.out⟩
  case round =>
    clear HO HB
    obtain ⟨k, hk, rfl, ho, hb⟩ := hrel
    have HO := Lib.hid ho; have HB := Lib.hid hb
    clear ho hb
    by_cases hlt : k < n
    · have hkl : k < ks.length := by rw [HN.out]; exact hlt
      obtain ⟨g1, g2⟩ := fieldCells_get R ks k hkl
      have hF2 := HF.out.below HB.out
      have c1 := (hF2.row.cell (k * 2)).trans g1
      have c2 := (hF2.row.cell (k * 2 + 1)).trans g2
      have c3 := hF2.cell k hkl
      obtain ⟨k1, k6, kv⟩ := HF.out.wide k hkl
      have HPS := Lib.hid (pre_succ mark ks vs k)
      have hpl : (pre mark ks vs (k + 1)).length ≤ 59 := Nat.le_trans (pre_mono mark ks vs (k + 1) n hlt) HL.out
      obtain ⟨A, c, e2, hc, _⟩ := own_form HO.out
      subst e2
      have HPL := Lib.hid hpl
      generalize ks.getD k 0 = q at *
      generalize vs.getD k 0 = x at *
      have hlF := hF2.row.lt
      have hlR := (hF2.lt (by rw [HN.out]; omega)).1
      have HKV := Lib.hid kv
      have i0 : (0 : Int) ≤ (k : Int) := by omega
      have i1 : (k : Int) < (n : Int) := by omega
      clear hpl g1 g2 hF2 kv
      go_wp2_with (fail)
      have HB2 := Lib.hid ((HB.out.alloc HB.out.size (.cells #[.pointer (some ⟨R, k, none⟩), .int .i64 q] 218)).drew)
      have HO2 := Lib.hid (own_drew (HO.out.alloc (.cells #[.pointer (some ⟨R, k, none⟩), .int .i64 q] 218)))
      refine wp_region_plan [0, 1, 5, 2, 3, 4, 6] [[7, 8]] (by kernel_rfl) (by kernel_rfl) (fun _ _ _ _ _ h => h) ?_
      simp only [forks, pick, List.getElem?_cons_succ, List.getElem?_cons_zero, Option.getD_some]
      iterate 7 still_step
      refine wpStill_nil ?_
      go_wp2_with (fail)
      refine (put_at _ A _ c _ (Sl.of_own HO2.out) (map_one _) (by have := HL.out; have := pre_mono mark ks vs k n hk; omega) x q k1 k6 HKV.out).mono ?_
      rintro e w5 ⟨v5, rfl, ho5, hb5⟩
      have HO5 := Lib.hid (show w5.ownsRow w.heap.size 5 1 v5 (pre mark ks vs (k + 1)).length ((pre mark ks vs (k + 1)).map (.int .u8)) by
        rw [HPS.out, List.length_append, be_length, List.map_append]
        exact own_base ho5 HB2.out.size)
      have HB5 := Lib.hid (HB2.out.trans (hb5.mono HB2.out.size))
      clear ho5 hb5
      go_wp2_with (fail)
      go_roundw
      case rel => exact ⟨k + 1, by omega, by go_num, HO5.out, HB5.out⟩
      case measure => simp [intOf]; omega
    · have hkn : k = n := by omega
      have hlt' : ¬ (k : Int) < (n : Int) := by omega
      have HK := Lib.hid hkn
      obtain ⟨A, c, e2, hc, _⟩ := own_form HO.out
      subst e2
      have HLK := Lib.hid (show (pre mark ks vs k).length ≤ 59 by rw [HK.out]; exact HL.out)
      clear hkn
      have HPB := Lib.hid (pre_byt mark ks vs k)
      have HSB := Lib.hid (show sealB (pre mark ks vs n) = sealB (pre mark ks vs k) by rw [HK.out])
      generalize pre mark ks vs k = p at *
      generalize hpl : p.length = l at *
      have HPL := Lib.hid hpl
      clear hpl
      go_wp2_with (fail)
      refine (make_at _).mono ?_
      rintro e w2 ⟨g, rfl, hg, hrow, hb2⟩
      have HO2 := Lib.hid (own_below HO.out hb2); have HB2 := Lib.hid (HB.out.trans (hb2.mono HB.out.size)); have HR2 := Lib.hid hrow
      clear hg hrow hb2
      go_wp2_with (fail)
      refine (sum_at _ g HR2.out A l c p HPL.out (by have := HLK.out; omega) HPB.out (Sl.of_own HO2.out)).mono ?_
      rintro e w3 ⟨rfl, rfl⟩
      have HS32 := Lib.hid (sum_lt (bs := p))
      obtain ⟨sm, hsm⟩ : ∃ sm, sm = sum p := ⟨_, rfl⟩
      rw [← hsm] at HS32 ⊢
      have HSM := Lib.hid hsm
      clear hsm
      have cv : IntKind.i64.wrap (sm : Int) = (sm : Int) := by have := HS32.out; rw [IntKind.wrap_i64]; omega
      go_wp2_with (fail)
      refine (put_at _ A l c _ (Sl.of_own HO2.out) (map_one _) (by have := HLK.out; omega) sm 4 (by omega) (by omega) (Nat.lt_of_lt_of_le HS32.out (by decide))).mono ?_
      rintro e w4 ⟨v4, rfl, ho4, hb4⟩
      have HO4 := Lib.hid (own_base ho4 HB2.out.size); have HB4 := Lib.hid (HB2.out.trans (hb4.mono HB2.out.size))
      obtain ⟨A4, c4, e4, hc4, _⟩ := own_form ho4
      subst e4
      clear ho4 hb4
      have hl59 : l ≤ 59 := HLK.out
      have hsub : (64 : Int) - ((l : Int) + 4) = ((60 - l : Nat) : Int) := by omega
      go_wp2_with (refine app_zeros rfl (.tmp 31) (.tmp 34) rfl HO4.out rfl rfl (by omega) (by omega) (by omega) HB4.out.size ?_; intro v' w' ho' hg'; have HO' := Lib.hid ho'; have HB' := Lib.hid (below_own HB4.out HO4.out hg' HB4.out.size); clear ho' hg')
      go_ret
      refine ⟨v', rfl, ?_, HB'.out⟩
      have h := HO'.out
      rw [show l + 4 + (60 - l) = 64 by omega] at h
      rw [HSB.out, sealB, List.map_append, List.map_append, HPL.out, ← HSM.out, List.map_replicate]
      exact h

/-- a record's numbers -/
def Rec.nums (r : Rec) : List Nat := [r.part.toNat, r.seq.toNat, r.active.toNat, r.confirmed.toNat, r.left.toNat, r.bad.toNat]
abbrev recWidths : List Nat := [1, 4, 1, 1, 1, 1]
/-- a record's first eleven bytes -/
def Rec.head (r : Rec) : List Int := pre 19523 recWidths r.nums 6
def Rec.bytes (r : Rec) : List Int := sealB r.head
theorem Rec.head_length (r : Rec) : r.head.length = 11 := by
  simp [Rec.head, pre, be_length, List.range_succ]

end Go.Proofs.Ytooagoikiafgcaa.record
