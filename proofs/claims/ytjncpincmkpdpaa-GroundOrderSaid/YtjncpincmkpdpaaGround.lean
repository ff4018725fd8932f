/-
  PROVED HERE: a ground station as a block of eight cells, and what its small functions do to it.
  CONDITIONS: the station's block is the given one.
-/
import Derived.Test.YtjncpincmkpdpaaMem
import Derived.Test.YtjncpincmkpdpaaPlan
import Derived.Laws.Rows
import Derived.Laws.CopyOwn
namespace Go.Proofs.Ytjncpincmkpdpaa.ground
set_option linter.unusedVariables false
open Go.RowKit Go.Proofs.Ytjncpincmkpdpaa.base Go.Proofs.Ytjncpincmkpdpaa.obj Go.Proofs.Ytjncpincmkpdpaa.mem Go.Proofs.Ytjncpincmkpdpaa.plan

structure GS where
  part : Int
  ses : Int
  b : Value
  phase : Int
  no : Int
  code : Int
  sent : Bool
  last : Int

def GS.cells (s : GS) : Array Value := #[.int .i64 s.part, .int .i64 s.ses, s.b, .int .i64 s.phase, .int .i64 s.no, .int .i64 s.code, .bool s.sent, .int .i64 s.last]

/-- block g is the station s -/
def GAt (w : World) (g : Nat) (s : GS) : Prop := w.heap[g]? = some (.cells s.cells 112 (0, 0))

theorem GAt.lt {w : World} {g : Nat} {s : GS} (h : GAt w g s) : g < w.heap.size := (Array.getElem?_eq_some_iff.1 h).1
theorem GAt.cell {w : World} {g : Nat} {s : GS} (h : GAt w g s) (k : Nat) : w.cell? ⟨g, k, none⟩ = s.cells[k]? := by
  unfold GAt at h
  simp [World.cell?, h]
theorem GAt.frozen {w : World} {g : Nat} {s : GS} (h : GAt w g s) (k : Nat) : w.frozen? ⟨g, k, none⟩ = false := by
  unfold GAt at h
  simp [World.frozen?, h]
theorem GAt.read {w : World} {g : Nat} {s : GS} (h : GAt w g s) :
    w.cell? ⟨g, 0, none⟩ = some (.int .i64 s.part) ∧ w.cell? ⟨g, 1, none⟩ = some (.int .i64 s.ses) ∧ w.cell? ⟨g, 2, none⟩ = some s.b ∧ w.cell? ⟨g, 3, none⟩ = some (.int .i64 s.phase)
    ∧ w.cell? ⟨g, 4, none⟩ = some (.int .i64 s.no) ∧ w.cell? ⟨g, 5, none⟩ = some (.int .i64 s.code) ∧ w.cell? ⟨g, 6, none⟩ = some (.bool s.sent) ∧ w.cell? ⟨g, 7, none⟩ = some (.int .i64 s.last) :=
  ⟨h.cell 0, h.cell 1, h.cell 2, h.cell 3, h.cell 4, h.cell 5, h.cell 6, h.cell 7⟩
theorem GAt.kept {w w' : World} {g : Nat} {s : GS} (h : GAt w g s) {S : Nat → Prop} (k : Kept S w w') (hn : ¬ S g) : GAt w' g s := (k.block g h.lt hn).trans h
theorem GAt.below {w w' : World} {g : Nat} {s : GS} (h : GAt w g s) (k : Below w.heap.size w w') : GAt w' g s := (k.block g h.lt).trans h
theorem GAt.set {w : World} {g : Nat} {s s' : GS} (h : GAt w g s) (k : Nat) (v : Value) (e : s.cells.setIfInBounds k v = s'.cells) : GAt (w.setCell ⟨g, k, none⟩ v) g s' := by
  unfold GAt at *
  simp only [World.setCell, Array.getElem?_modify, if_true, h, Option.map_some]
  simp [e]

theorem GAt.phase {w : World} {g : Nat} {s : GS} (h : GAt w g s) (x : Int) : GAt (w.setCell ⟨g, 3, none⟩ (.int .i64 x)) g { s with phase := x } := h.set 3 _ rfl
theorem GAt.no {w : World} {g : Nat} {s : GS} (h : GAt w g s) (x : Int) : GAt (w.setCell ⟨g, 4, none⟩ (.int .i64 x)) g { s with no := x } := h.set 4 _ rfl
theorem GAt.code {w : World} {g : Nat} {s : GS} (h : GAt w g s) (x : Int) : GAt (w.setCell ⟨g, 5, none⟩ (.int .i64 x)) g { s with code := x } := h.set 5 _ rfl
theorem GAt.sent {w : World} {g : Nat} {s : GS} (h : GAt w g s) (x : Bool) : GAt (w.setCell ⟨g, 6, none⟩ (.bool x)) g { s with sent := x } := h.set 6 _ rfl
theorem GAt.last {w : World} {g : Nat} {s : GS} (h : GAt w g s) (x : Int) : GAt (w.setCell ⟨g, 7, none⟩ (.int .i64 x)) g { s with last := x } := h.set 7 _ rfl

/-- one block may change -/
abbrev One (g : Nat) : Nat → Prop := fun i => i = g

set_option maxHeartbeats 1000000 in
theorem phase_at (w : World) (g : Nat) (s : GS) (h : GAt w g s) : Calls Try.prog 19 #[.pointer (some ⟨g, 0, none⟩)] w fun e w' => e = .returned (.int .i64 s.phase) ∧ w' = w := by
  obtain ⟨c0, c1, c2, c3, c4, c5, c6, c7⟩ := h.read
  go_enter Try.func19, Try.ntmps19
  go_wp2_with (fail)
  go_ret
  exact ⟨rfl, rfl⟩
set_option maxHeartbeats 1000000 in
theorem code_at (w : World) (g : Nat) (s : GS) (h : GAt w g s) : Calls Try.prog 20 #[.pointer (some ⟨g, 0, none⟩)] w fun e w' => e = .returned (.int .i64 s.code) ∧ w' = w := by
  obtain ⟨c0, c1, c2, c3, c4, c5, c6, c7⟩ := h.read
  go_enter Try.func20, Try.ntmps20
  go_wp2_with (fail)
  go_ret
  exact ⟨rfl, rfl⟩
set_option maxHeartbeats 1000000 in
theorem phase_nil (w : World) : Calls Try.prog 19 #[.pointer none] w fun e w' => e = .returned (.int .i64 0) ∧ w' = w := by
  go_enter Try.func19, Try.ntmps19
  go_wp2_with (fail)
  go_ret
  exact ⟨rfl, rfl⟩
set_option maxHeartbeats 1000000 in
theorem code_nil (w : World) : Calls Try.prog 20 #[.pointer none] w fun e w' => e = .returned (.int .i64 0) ∧ w' = w := by
  go_enter Try.func20, Try.ntmps20
  go_wp2_with (fail)
  go_ret
  exact ⟨rfl, rfl⟩
set_option maxHeartbeats 1000000 in
theorem block_nil (w : World) : Calls Try.prog 21 #[.pointer none] w fun e w' => e = .returned (.int .i64 0) ∧ w' = w := by
  go_enter Try.func21, Try.ntmps21
  go_wp2_with (fail)
  go_ret
  exact ⟨rfl, rfl⟩

theorem kput {g : Nat} {a w : World} (h : Kept (One g) a w) (k : Nat) (v : Value) : Kept (One g) a (w.setCell ⟨g, k, none⟩ v) := h.setCell (p := ⟨g, k, none⟩) (Or.inl rfl) v

/-- what 'to' makes of a station of n bytes -/
def GS.to (s : GS) (n : Nat) (phase no : Int) : GS :=
  if phase = 2 ∧ no * 16 ≥ n then { s with phase := 3, no := 0, sent := false } else { s with phase := phase, no := no, sent := false }

set_option maxHeartbeats 2000000 in
theorem to_at (w : World) (g : Nat) (s : GS) (h : GAt w g s) (A : Option Addr) (n c : Nat) (hb : s.b = .slice A n c) (phase no : Int) (hno2 : 0 ≤ no ∧ no < 100000) (hn : n ≤ 100000) :
    Calls Try.prog 62 #[.pointer (some ⟨g, 0, none⟩), .int .i64 phase, .int .i64 no] w fun e w' => e = .returned (.tuple #[]) ∧ GAt w' g (s.to n phase no) ∧ Kept (One g) w w' := by
  obtain ⟨c0, c1, c2, c3, c4, c5, c6, c7⟩ := h.read
  have f3 := h.frozen 3
  have f4 := h.frozen 4
  have f6 := h.frozen 6
  rw [hb] at c2
  have H := Lib.hid h
  have HB := Lib.hid hb
  clear h hb
  go_enter Try.func62, Try.ntmps62
  have hk : ∀ a b c : Value, Kept (One g) w (((w.setCell ⟨g, 3, none⟩ a).setCell ⟨g, 4, none⟩ b).setCell ⟨g, 6, none⟩ c) := fun a b c =>
    kput (kput (kput (Kept.refl (One g) w) 3 a) 4 b) 6 c
  have HK := Lib.hid hk
  clear hk
  by_cases h2 : phase = 2
  · subst h2
    have h16 : wrap64 (no * 16) = no * 16 := by unfold wrap64; omega
    by_cases hge : no * 16 ≥ n
    · have HG := Lib.hid hge
      go_wp2_with (fail)
      go_end0
      refine ⟨rfl, ?_, HK.out _ _ _⟩
      rw [GS.to, if_pos ⟨rfl, HG.out⟩]
      exact ((H.out.phase _).no _).sent _
    · have HG := Lib.hid hge
      go_wp2_with (fail)
      go_end0
      refine ⟨rfl, ?_, HK.out _ _ _⟩
      rw [GS.to, if_neg (fun e => by have := HG.out; omega)]
      exact ((H.out.phase _).no _).sent _
  · have b2 : (phase == 2) = false := by simpa using h2
    have HG := Lib.hid h2
    clear h2
    go_wp2_with (fail)
    go_end0
    refine ⟨rfl, ?_, HK.out _ _ _⟩
    rw [GS.to, if_neg (fun e => HG.out e.1)]
    exact ((H.out.phase _).no _).sent _

/-- a message -/
def pdu (kind ses part no size what code have_ : Int) (data : Value) : Value := .agg #[.int .i64 kind, .int .i64 ses, .int .i64 part, .int .i64 no, .int .i64 size, .int .i64 what, .int .i64 code, .int .i64 have_, data]

set_option maxHeartbeats 2000000 in
theorem done_at (w : World) (g : Nat) (s : GS) (h : GAt w g s) : Calls Try.prog 84 #[.pointer (some ⟨g, 0, none⟩)] w fun e w' => e = .returned (pdu 3 s.ses 0 0 0 0 0 0 (.slice none 0 0)) ∧ Below w.heap.size w w' := by
  obtain ⟨c0, c1, c2, c3, c4, c5, c6, c7⟩ := h.read
  have hl := h.lt
  go_enter Try.func84, Try.ntmps84
  go_wp2_with (fail)
  refine bodyPost_ret (results_cell_row rfl _ _ w.heap.size _ _ _ _ rfl (heap_alloc_new _ _) Try.underlying28 rfl (by kernel_rfl)) rfl ⟨rfl, ?_⟩
  exact (Below.refl _ _).alloc (Nat.le_refl _) _

set_option maxHeartbeats 2000000 in
theorem open_at (w : World) (g : Nat) (s : GS) (h : GAt w g s) (A : Option Addr) (n c : Nat) (hb : s.b = .slice A n c) : Calls Try.prog 82 #[.pointer (some ⟨g, 0, none⟩)] w fun e w' => e = .returned (pdu 1 s.ses s.part 0 n 0 0 0 (.slice none 0 0)) ∧ Below w.heap.size w w' := by
  obtain ⟨c0, c1, c2, c3, c4, c5, c6, c7⟩ := h.read
  rw [hb] at c2
  have hl := h.lt
  clear h hb
  go_enter Try.func82, Try.ntmps82
  go_wp2_with (fail)
  go_region
  go_wp2_with (fail)
  refine bodyPost_ret (results_cell_row rfl _ _ w.heap.size _ _ _ _ rfl (heap_alloc_new _ _) Try.underlying28 rfl (by kernel_rfl)) rfl ⟨rfl, ?_⟩
  exact ((Below.refl _ _).alloc (Nat.le_refl _) _).drew

/-- the cells of 'b[m:]', k of them, for a copy -/
theorem sl_src {w : World} {B n c : Nat} {A : Option Addr} {xs : List Value} (h : Sl w B 1 A n xs) (hc : n ≤ c) (m k : Nat) (hm : m < n) : ∃ ad : Addr, (if c = m then A else A.map (fun x => x.add m)) = some ad ∧ ad.block < B ∧ ∀ j v, ((xs.drop m).take k)[j]? = some v → w.cell? (ad.add j) = some v := by
  obtain ⟨h1, h2⟩ := h
  obtain ⟨g, o, rfl, hg, hv⟩ := h2 (by omega)
  refine ⟨⟨g, o + m, none⟩, ?_, hg, fun j v hj => ?_⟩
  · rw [if_neg (by omega)]
    simp [Addr.add]
  · have e : (⟨g, o + m, none⟩ : Addr).add j = ⟨g, o + (m + j), none⟩ := by simp [Addr.add, Nat.add_assoc]
    rw [e]
    refine hv _ _ ?_
    rw [List.getElem?_take] at hj
    split at hj
    · rwa [List.getElem?_drop] at hj
    · exact absurd hj (by simp)
/-- a message of nothing -/
abbrev z9 : Array Value := #[.int .i64 0, .int .i64 0, .int .i64 0, .int .i64 0, .int .i64 0, .int .i64 0, .int .i64 0, .int .i64 0, .slice none 0 0]
/-- the message of a block -/
abbrev msgC (ses : Int) (k d : Nat) : Array Value := #[.int .i64 2, .int .i64 ses, .int .i64 0, .int .i64 k, .int .i64 0, .int .i64 0, .int .i64 0, .int .i64 0, .slice (some ⟨d, 0, none⟩) 16 16]
theorem msg_one (ses : Int) (k d : Nat) : ∀ v ∈ (msgC ses k d).toList, v.oneCell' = true := by
  intro v hv
  simp only [List.mem_cons, List.not_mem_nil, or_false] at hv
  rcases hv with rfl | rfl | rfl | rfl | rfl | rfl | rfl | rfl | rfl <;> rfl

set_option maxRecDepth 100000 in
set_option maxHeartbeats 2000000 in
theorem block_at (w : World) (g : Nat) (s : GS) (h : GAt w g s) (A : Option Addr) (n c : Nat) (xs : List Value) (hb : s.b = .slice A n c) (hs : Sl w w.heap.size 1 A n xs) (hc : n ≤ c) (h1 : ∀ v ∈ xs, v.oneCell' = true) (hno : 0 ≤ s.no ∧ s.no * 16 ≤ n) (hn : n ≤ 100000) : Calls Try.prog 83 #[.pointer (some ⟨g, 0, none⟩)] w fun e w' =>
    ∃ d, e = .returned (pdu 2 s.ses 0 s.no 0 0 0 0 (.slice (some ⟨d, 0, none⟩) 16 16)) ∧ w.heap.size ≤ d ∧ w'.heap[d]? = some (.cells (splice (List.replicate 16 (Value.int .u8 0)) 0 ((xs.drop (s.no * 16).toNat).take 16)).toArray 5 (0, 0)) ∧ Below w.heap.size w w' := by
  obtain ⟨c0, c1, c2, c3, c4, c5, c6, c7⟩ := h.read
  rw [hb] at c2
  have hl := h.lt
  have hmk : ∀ w : World, (Instr.makeSlice 22 (.int .i64 16) (.int .i64 16)).run Try.prog w = .ok (.slice (some ⟨w.heap.size, 0, none⟩) 16 16) (w.alloc (.cells (List.replicate 16 (Value.int .u8 0)).toArray 5)) := fun w => by kernel_rfl
  obtain ⟨k, hk⟩ := Int.eq_ofNat_of_zero_le hno.1
  rw [hk] at c4 hno ⊢
  obtain ⟨m, hm⟩ : ∃ m : Nat, m = k * 16 := ⟨_, rfl⟩
  have e16 : ((k : Int) * 16).toNat = m := by omega
  rw [e16]
  have hw : IntKind.i64.wrap ((k : Int) * 16) = (m : Int) := by rw [IntKind.wrap_i64]; omega
  have hle : (m : Int) ≤ (n : Int) := by omega
  have hmn : m ≤ n := by omega
  have h0 : (0 : Int) ≤ (m : Int) := by omega
  have hlen : ((xs.drop m).take 16).length = Nat.min (n - m) 16 := by
    have := hs.1
    show _ = min (n - m) 16
    rw [List.length_take, List.length_drop]
    omega
  have hsrc : 0 < ((xs.drop m).take 16).length → ∃ ad : Addr, (if c = m then A else A.map (fun x => x.add m)) = some ad ∧ ad.block < w.heap.size ∧ ∀ j v, ((xs.drop m).take 16)[j]? = some v → w.cell? (ad.add j) = some v := fun hp => sl_src hs hc m 16 (by rw [hlen] at hp; have hp2 : 0 < min (n - m) 16 := hp; omega)
  have hone : ∀ v ∈ (xs.drop m).take 16, v.oneCell' = true := fun v hv => h1 v (List.mem_of_mem_drop (List.mem_of_mem_take hv))
  have hsz1 : (Try.prog.info? 5).map (·.size) = some 1 := by kernel_rfl
  generalize (xs.drop m).take 16 = cs at *
  have e1 : w.heap.size + 1 = (w.alloc (.cells z9 28)).heap.size := by simp
  have hblk : (((w.alloc (.cells z9 28)).alloc (.cells (List.replicate 16 (Value.int .u8 0)).toArray 5)).drew).heap[w.heap.size + 1]? = some (.cells (List.replicate 16 (Value.int .u8 0)).toArray 5 (0, 0)) := by
    rw [e1]; exact heap_alloc_new _ _
  have hcn : cs.length = Nat.min (n - m) 16 := hlen
  have hpos : 0 < cs.length → ∃ ad : Addr, (if c = m then A else A.map (fun x => x.add m)) = some ad ∧ ∀ j v, cs[j]? = some v → (((w.alloc (.cells z9 28)).alloc (.cells (List.replicate 16 (Value.int .u8 0)).toArray 5)).drew).cell? (ad.add j) = some v := fun hp => by
    obtain ⟨ad, a1, a2, a3⟩ := hsrc hp
    refine ⟨ad, a1, fun j v hj => ?_⟩
    have := a3 j v hj
    have hlt := World.block_lt_of_cell? w _ this
    show ((w.alloc (.cells z9 28)).alloc (.cells (List.replicate 16 (Value.int .u8 0)).toArray 5)).cell? (ad.add j) = some v
    rw [World.cell?_alloc_lt _ _ _ (by simp; omega), World.cell?_alloc_lt _ _ _ hlt]
    exact this
  have hfit : 0 + cs.length ≤ (List.replicate 16 (Value.int .u8 0)).length := by
    rw [hcn, List.length_replicate]
    have : Nat.min (n - m) 16 ≤ 16 := Nat.min_le_right _ _
    omega
  have hbw : Below (w.heap.size + 1) (w.alloc (.cells z9 28)) ((w.alloc (.cells z9 28)).alloc (.cells (List.replicate 16 (Value.int .u8 0)).toArray 5)).drew := ((Below.refl _ _).alloc (by simp) _).drew
  have hrp : Row (w.alloc (.cells z9 28)) w.heap.size 28 z9.toList := Row.new w _ _
  have hb0 : Below w.heap.size w (w.alloc (.cells z9 28)) := (Below.refl _ _).alloc (Nat.le_refl _) _
  have HB0 := Lib.hid hb0
  have HRP := Lib.hid hrp
  have HBLK := Lib.hid hblk; have HCN := Lib.hid hcn; have HPOS := Lib.hid hpos; have HFIT := Lib.hid hfit; have HBW := Lib.hid hbw
  have HO := Lib.hid hone; have HM := Lib.hid hmn; have HZ := Lib.hid hsz1
  clear hk e16 hm hno hb hs h1 hc hmn hsrc hlen hone hsz1 h hn e1 hblk hcn hpos hfit hbw hrp hb0
  have MS := Lib.hid (show (Try.prog.info? 28).map (·.size) = some (msgC s.ses k (w.heap.size + 1)).size from by kernel_rfl)
  have ML := Lib.hid (show 0 + (msgC s.ses k (w.heap.size + 1)).size ≤ z9.toList.length from Nat.le_refl 9)
  have MO := Lib.hid (msg_one s.ses k (w.heap.size + 1))
  go_enter Try.func83, Try.ntmps83
  go_wp2_with (fail)
  clear hmk
  go_region_law (refine step_copy_splice rfl (.tmp 5) (.tmp 15) _ _ rfl _ Try.underlying22 HZ.out _ _ _ _ _ _ rfl rfl (w.heap.size + 1) 0 (List.replicate 16 (Value.int .u8 0)) 5 HBLK.out cs HCN.out (fun hp => ⟨rfl, HPOS.out hp⟩) HFIT.out HO.out (w.heap.size + 1) (w.alloc (.cells z9 28)) HBW.out (Nat.le_refl _) (fun w2 hg2 hb2 => ?_))
  all_goals
    have HG2 := Lib.hid hg2; have HB2 := Lib.hid hb2
    have k2 : Below w.heap.size w w2 := HB0.out.trans (hb2.mono (by omega))
    have K2 := Lib.hid k2
    have d1 : w2.cell? ⟨g, 1, none⟩ = some (.int .i64 s.ses) := cell_below k2 c1
    have d4 : w2.cell? ⟨g, 4, none⟩ = some (.int .i64 k) := cell_below k2 c4
    have HR2 := Lib.hid (HRP.out.below hb2 (by omega)).drew
    clear hg2 hb2 k2
    go_wp2_with (fail)
    all_goals
      refine wp_region_plan [0, 1, 2, 4, 5, 6, 8, 3, 7] [[9, 10]] (by kernel_rfl) (by kernel_rfl) (fun _ _ _ _ _ h => h) ?_
      simp only [forks, pick, List.getElem?_cons_succ, List.getElem?_cons_zero, Option.getD_some]
      iterate 9 still_step
      refine wpStill_nil ?_
      go_wp2_with (refine wpList_putR rfl 28 (.tmp 2) (.tmp 26) rfl w.heap.size 0 (msgC s.ses k (w.heap.size + 1)) rfl rfl HR2.out MS.out ML.out MO.out (msgC s.ses k (w.heap.size + 1)).toList rfl ?_)
      refine bodyPost_ret (results_cell_row rfl _ _ w.heap.size _ _ _ _ rfl (HR2.out.setRow _) Try.underlying28 rfl (by kernel_rfl)) rfl ?_
      refine ⟨w.heap.size + 1, rfl, by omega, ?_, below_setRow K2.out.drew (Nat.le_refl _) _⟩
      exact (setRow_other _ _ _ _ (by omega)).trans HG2.out

end Go.Proofs.Ytjncpincmkpdpaa.ground
