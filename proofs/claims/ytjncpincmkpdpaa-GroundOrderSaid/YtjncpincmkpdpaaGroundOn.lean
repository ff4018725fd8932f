/-
  PROVED HERE: a ground station's on: what it does when its message is acknowledged; what now tells in each phase.
  CONDITIONS: the station's block is the given one.
-/
import Derived.Test.YtjncpincmkpdpaaGround
namespace Go.Proofs.Ytjncpincmkpdpaa.ground
set_option linter.unusedVariables false
open Go.RowKit Go.Proofs.Ytjncpincmkpdpaa.base Go.Proofs.Ytjncpincmkpdpaa.obj Go.Proofs.Ytjncpincmkpdpaa.mem Go.Proofs.Ytjncpincmkpdpaa.plan

def GS.on (s : GS) (n : Nat) : GS := if s.phase = 1 then s.to n 2 0 else if s.phase = 2 then s.to n 2 (s.no + 1) else if s.phase = 3 then s.to n 4 0 else s

set_option maxHeartbeats 2000000 in
theorem on_at (w : World) (g : Nat) (s : GS) (h : GAt w g s) (A : Option Addr) (n c : Nat) (hb : s.b = .slice A n c) (hno : 0 ≤ s.no ∧ s.no < 99999) (hn : n ≤ 100000) :
    Calls Try.prog 61 #[.pointer (some ⟨g, 0, none⟩)] w fun e w' => e = .returned (.tuple #[]) ∧ GAt w' g (s.on n) ∧ Kept (One g) w w' := by
  obtain ⟨c0, c1, c2, c3, c4, c5, c6, c7⟩ := h.read
  have H := Lib.hid h
  have HB := Lib.hid hb
  have HNO := Lib.hid hno
  have hwr : wrap64 (s.no + 1) = s.no + 1 := by unfold wrap64; omega
  have HON := Lib.hid (show s.on n = if s.phase = 1 then s.to n 2 0 else if s.phase = 2 then s.to n 2 (s.no + 1) else if s.phase = 3 then s.to n 4 0 else s from rfl)
  have HE := Lib.hid (to_at w g s h A n c hb)
  clear h hb hno c0 c1 c2 c5 c6 c7
  by_cases h1 : s.phase = 1
  · rw [h1] at c3
    have H1 := Lib.hid h1
    clear h1
    go_enter Try.func61, Try.ntmps61
    go_wp2_with (fail)
    refine (HE.out 2 0 (by omega) hn).mono ?_; rintro e w' ⟨rfl, h1, h2⟩
    have HR := Lib.hid (And.intro h1 h2)
    clear h1 h2
    go_wp2_with (fail)
    go_end0
    refine ⟨rfl, ?_, HR.out.2⟩
    rw [HON.out, if_pos H1.out]
    exact HR.out.1
  · by_cases h2 : s.phase = 2
    · rw [h2] at c3
      have H1 := Lib.hid h1
      have H2 := Lib.hid h2
      clear h1 h2
      go_enter Try.func61, Try.ntmps61
      go_wp2_with (fail)
      refine (HE.out 2 (s.no + 1) (by have := HNO.out; omega) hn).mono ?_; rintro e w' ⟨rfl, h1, h2⟩
      have HR := Lib.hid (And.intro h1 h2)
      clear h1 h2
      go_wp2_with (fail)
      go_end0
      refine ⟨rfl, ?_, HR.out.2⟩
      rw [HON.out, if_neg H1.out, if_pos H2.out]
      exact HR.out.1
    · by_cases h3 : s.phase = 3
      · rw [h3] at c3
        have H1 := Lib.hid h1
        have H2 := Lib.hid h2
        have H3 := Lib.hid h3
        clear h1 h2 h3
        go_enter Try.func61, Try.ntmps61
        go_wp2_with (fail)
        refine (HE.out 4 0 (by omega) hn).mono ?_; rintro e w' ⟨rfl, h1, h2⟩
        have HR := Lib.hid (And.intro h1 h2)
        clear h1 h2
        go_wp2_with (fail)
        go_end0
        refine ⟨rfl, ?_, HR.out.2⟩
        rw [HON.out, if_neg H1.out, if_neg H2.out, if_pos H3.out]
        exact HR.out.1
      · have b1 : (s.phase == 1) = false := by simpa using h1
        have b2 : (s.phase == 2) = false := by simpa using h2
        have b3 : (s.phase == 3) = false := by simpa using h3
        have H1 := Lib.hid h1
        have H2 := Lib.hid h2
        have H3 := Lib.hid h3
        clear h1 h2 h3
        go_enter Try.func61, Try.ntmps61
        go_wp2_with (fail)
        go_end0
        refine ⟨rfl, ?_, Kept.refl _ _⟩
        rw [HON.out, if_neg H1.out, if_neg H2.out, if_neg H3.out]
        exact H.out

/-- two results, the first by a cell -/
theorem results_cell_slot {P : Program} {fn : Func} {p q : Tmp} {ty : TypeId} (h : fn.results = #[.cell p ty, .tmp q]) (tmps : Array Value) (w : World) (g : Nat) (t : TypeId) (cs : Array Value) (fr : Nat × Nat) (d : TypeDesc) (v : Value)
    (hp : tmps.getD p undef = .pointer (some ⟨g, 0, none⟩)) (hq : tmps.getD q undef = v) (hg : w.heap[g]? = some (.cells cs t fr))
    (hu : P.underlying ty = some d) (hd : (match d with | .struct _ | .array _ _ => true | _ => false) = true) (hi : (P.info? ty).map (·.size) = some cs.size) :
    (results fn tmps).run P w = .ok (.tuple #[.agg cs, v]) w := by
  have hp' : tmps[p]?.getD undef = .pointer (some ⟨g, 0, none⟩) := by simpa using hp
  have hq' : tmps[q]?.getD undef = v := by simpa using hq
  simp [results, h, hp', hq', asAddr, run_loadVar_row w g t ty cs fr d hg hu hd hi]
abbrev pduC (kind ses part no size what code have_ : Int) (data : Value) : Array Value := #[.int .i64 kind, .int .i64 ses, .int .i64 part, .int .i64 no, .int .i64 size, .int .i64 what, .int .i64 code, .int .i64 have_, data]
theorem pduC_one (kind ses part no size what code have_ : Int) (data : Value) (h : data.oneCell' = true) : ∀ v ∈ (pduC kind ses part no size what code have_ data).toList, v.oneCell' = true := by
  intro v hv
  simp only [List.mem_cons, List.not_mem_nil, or_false] at hv
  rcases hv with rfl | rfl | rfl | rfl | rfl | rfl | rfl | rfl | rfl <;> first | rfl | exact h
/-- the station's three messages, by the phase -/
theorem index_now (w : World) (p : Value) : (Instr.index 156 (.agg #[Value.nilFunc, Value.func (Fn.func 82) #[p] #[], Value.func (Fn.func 83) #[p] #[], Value.func (Fn.func 84) #[p] #[]]) (.int .i64 1)).run Try.prog w = .ok (Value.func (Fn.func 82) #[p] #[]) w
    ∧ (Instr.index 156 (.agg #[Value.nilFunc, Value.func (Fn.func 82) #[p] #[], Value.func (Fn.func 83) #[p] #[], Value.func (Fn.func 84) #[p] #[]]) (.int .i64 2)).run Try.prog w = .ok (Value.func (Fn.func 83) #[p] #[]) w
    ∧ (Instr.index 156 (.agg #[Value.nilFunc, Value.func (Fn.func 82) #[p] #[], Value.func (Fn.func 83) #[p] #[], Value.func (Fn.func 84) #[p] #[]]) (.int .i64 3)).run Try.prog w = .ok (Value.func (Fn.func 84) #[p] #[]) w := by
  refine ⟨?_, ?_, ?_⟩ <;> kernel_rfl

set_option maxRecDepth 100000 in
set_option maxHeartbeats 2000000 in
theorem now_open (w : World) (g : Nat) (s : GS) (h : GAt w g s) (A : Option Addr) (n c : Nat) (hb : s.b = .slice A n c) (h1 : s.phase = 1) :
    Calls Try.prog 60 #[.pointer (some ⟨g, 0, none⟩)] w fun e w' => e = .returned (.tuple #[pdu 1 s.ses s.part 0 n 0 0 0 (.slice none 0 0), .bool true]) ∧ Below w.heap.size w w' := by
  obtain ⟨c0, c1, c2, c3, c4, c5, c6, c7⟩ := h.read
  rw [h1] at c3
  have hl := h.lt
  have HO := Lib.hid (fun (w' : World) (k : Below w.heap.size w w') => open_at w' g s (h.below k) A n c hb)
  clear h hb h1 c0 c1 c2 c4 c5 c6 c7
  have hix := fun (w : World) (p : Value) => (index_now w p).1
  have HB0 := Lib.hid ((Below.refl w.heap.size w).alloc (Nat.le_refl _) (.cells z9 28))
  have HRP := Lib.hid (Row.new w 28 z9)
  have MS := Lib.hid (show (Try.prog.info? 28).map (·.size) = some (pduC 1 s.ses s.part 0 n 0 0 0 (.slice none 0 0)).size from by kernel_rfl)
  have ML := Lib.hid (show 0 + (pduC 1 s.ses s.part 0 n 0 0 0 (.slice none 0 0)).size ≤ z9.toList.length from Nat.le_refl 9)
  have MO := Lib.hid (pduC_one 1 s.ses s.part 0 n 0 0 0 (.slice none 0 0) rfl)
  go_enter Try.func60, Try.ntmps60
  go_wp2_with (fail)
  refine (HO.out _ HB0.out).mono ?_; rintro e w5 ⟨rfl, hb⟩
  have HR5 := Lib.hid (HRP.out.below hb (by simp))
  have HB5 := Lib.hid (HB0.out.trans (hb.mono (by simp)))
  clear hb hix
  go_wp2_with (refine wpList_putR rfl 28 (.tmp 2) (.tmp 24) rfl w.heap.size 0 (pduC 1 s.ses s.part 0 n 0 0 0 (.slice none 0 0)) rfl rfl HR5.out MS.out ML.out MO.out (pduC 1 s.ses s.part 0 n 0 0 0 (.slice none 0 0)).toList rfl ?_)
  refine bodyPost_ret (results_cell_slot rfl _ _ w.heap.size _ _ _ _ _ rfl rfl (HR5.out.setRow _) Try.underlying28 rfl (by kernel_rfl)) rfl ?_
  exact ⟨rfl, below_setRow HB5.out (Nat.le_refl _) _⟩

set_option maxRecDepth 100000 in
set_option maxHeartbeats 2000000 in
theorem now_done (w : World) (g : Nat) (s : GS) (h : GAt w g s) (h1 : s.phase = 3) :
    Calls Try.prog 60 #[.pointer (some ⟨g, 0, none⟩)] w fun e w' => e = .returned (.tuple #[pdu 3 s.ses 0 0 0 0 0 0 (.slice none 0 0), .bool true]) ∧ Below w.heap.size w w' := by
  obtain ⟨c0, c1, c2, c3, c4, c5, c6, c7⟩ := h.read
  rw [h1] at c3
  have hl := h.lt
  have HO := Lib.hid (fun (w' : World) (k : Below w.heap.size w w') => done_at w' g s (h.below k))
  clear h h1 c0 c1 c2 c4 c5 c6 c7
  have hix := fun (w : World) (p : Value) => (index_now w p).2.2
  have HB0 := Lib.hid ((Below.refl w.heap.size w).alloc (Nat.le_refl _) (.cells z9 28))
  have HRP := Lib.hid (Row.new w 28 z9)
  have MS := Lib.hid (show (Try.prog.info? 28).map (·.size) = some (pduC 3 s.ses 0 0 0 0 0 0 (.slice none 0 0)).size from by kernel_rfl)
  have ML := Lib.hid (show 0 + (pduC 3 s.ses 0 0 0 0 0 0 (.slice none 0 0)).size ≤ z9.toList.length from Nat.le_refl 9)
  have MO := Lib.hid (pduC_one 3 s.ses 0 0 0 0 0 0 (.slice none 0 0) rfl)
  go_enter Try.func60, Try.ntmps60
  go_wp2_with (fail)
  refine (HO.out _ HB0.out).mono ?_; rintro e w5 ⟨rfl, hb⟩
  have HR5 := Lib.hid (HRP.out.below hb (by simp))
  have HB5 := Lib.hid (HB0.out.trans (hb.mono (by simp)))
  clear hb hix
  go_wp2_with (refine wpList_putR rfl 28 (.tmp 2) (.tmp 24) rfl w.heap.size 0 (pduC 3 s.ses 0 0 0 0 0 0 (.slice none 0 0)) rfl rfl HR5.out MS.out ML.out MO.out (pduC 3 s.ses 0 0 0 0 0 0 (.slice none 0 0)).toList rfl ?_)
  refine bodyPost_ret (results_cell_slot rfl _ _ w.heap.size _ _ _ _ _ rfl rfl (HR5.out.setRow _) Try.underlying28 rfl (by kernel_rfl)) rfl ?_
  exact ⟨rfl, below_setRow HB5.out (Nat.le_refl _) _⟩

set_option maxRecDepth 100000 in
set_option maxHeartbeats 2000000 in
theorem now_block (w : World) (g : Nat) (s : GS) (h : GAt w g s) (A : Option Addr) (n c : Nat) (xs : List Value) (hb : s.b = .slice A n c) (hs : Sl w w.heap.size 1 A n xs) (hc : n ≤ c) (h1 : ∀ v ∈ xs, v.oneCell' = true) (hno : 0 ≤ s.no ∧ s.no * 16 ≤ n) (hn : n ≤ 100000) (hp : s.phase = 2) :
    Calls Try.prog 60 #[.pointer (some ⟨g, 0, none⟩)] w fun e w' => ∃ d, e = .returned (.tuple #[pdu 2 s.ses 0 s.no 0 0 0 0 (.slice (some ⟨d, 0, none⟩) 16 16), .bool true]) ∧ w.heap.size ≤ d ∧
      w'.heap[d]? = some (.cells (splice (List.replicate 16 (Value.int .u8 0)) 0 ((xs.drop (s.no * 16).toNat).take 16)).toArray 5 (0, 0)) ∧ Below w.heap.size w w' := by
  obtain ⟨c0, c1, c2, c3, c4, c5, c6, c7⟩ := h.read
  rw [hp] at c3
  have hl := h.lt
  have HO := Lib.hid (fun (w' : World) (k : Below w.heap.size w w') => block_at w' g s (h.below k) A n c xs hb ((hs.below k).more k.size) hc h1 hno hn)
  clear h hb h1 c0 c1 c2 c4 c5 c6 c7 hs hc hno hn hp
  have hix := fun (w : World) (p : Value) => (index_now w p).2.1
  have HB0 := Lib.hid ((Below.refl w.heap.size w).alloc (Nat.le_refl _) (.cells z9 28))
  have HRP := Lib.hid (Row.new w 28 z9)
  have MS := Lib.hid (fun v => show (Try.prog.info? 28).map (·.size) = some (pduC 2 s.ses 0 s.no 0 0 0 0 v).size from by kernel_rfl)
  have ML := Lib.hid (fun v => show 0 + (pduC 2 s.ses 0 s.no 0 0 0 0 v).size ≤ z9.toList.length from Nat.le_refl 9)
  have MO := Lib.hid (fun d => pduC_one 2 s.ses 0 s.no 0 0 0 0 (.slice (some ⟨d, 0, none⟩) 16 16) rfl)
  generalize splice (List.replicate 16 (Value.int .u8 0)) 0 ((xs.drop (s.no * 16).toNat).take 16) = cs at *
  go_enter Try.func60, Try.ntmps60
  go_wp2_with (fail)
  refine (HO.out _ HB0.out).mono ?_; rintro e w5 ⟨d, rfl, hd, hrow, hb⟩
  have HR5 := Lib.hid (HRP.out.below hb (by simp))
  have HB5 := Lib.hid (HB0.out.trans (hb.mono (by simp)))
  have HD5 := Lib.hid hrow
  have hd2 : w.heap.size + 1 ≤ d := by simpa using hd
  clear hb hix hrow hd
  go_wp2_with (refine wpList_putR rfl 28 (.tmp 2) (.tmp 24) rfl w.heap.size 0 (pduC 2 s.ses 0 s.no 0 0 0 0 (.slice (some ⟨d, 0, none⟩) 16 16)) rfl rfl HR5.out (MS.out _) (ML.out _) (MO.out _) (pduC 2 s.ses 0 s.no 0 0 0 0 (.slice (some ⟨d, 0, none⟩) 16 16)).toList rfl ?_)
  refine bodyPost_ret (results_cell_slot rfl _ _ w.heap.size _ _ _ _ _ rfl rfl (HR5.out.setRow _) Try.underlying28 rfl (by kernel_rfl)) rfl ?_
  exact ⟨d, rfl, by omega, (setRow_other _ _ _ _ (by omega)).trans HD5.out, below_setRow HB5.out (Nat.le_refl _) _⟩

set_option maxRecDepth 100000 in
set_option maxHeartbeats 2000000 in
theorem now_over (w : World) (g : Nat) (s : GS) (h : GAt w g s) (hp : 4 ≤ s.phase) :
    Calls Try.prog 60 #[.pointer (some ⟨g, 0, none⟩)] w fun e w' => e = .returned (.tuple #[pdu 0 0 0 0 0 0 0 0 (.slice none 0 0), .bool false]) ∧ Below w.heap.size w w' := by
  obtain ⟨c0, c1, c2, c3, c4, c5, c6, c7⟩ := h.read
  have hl := h.lt
  have HB0 := Lib.hid ((Below.refl w.heap.size w).alloc (Nat.le_refl _) (.cells z9 28))
  have HRP := Lib.hid (Row.new w 28 z9)
  clear h c0 c1 c2 c4 c5 c6 c7
  go_enter Try.func60, Try.ntmps60
  go_wp2_with (fail)
  refine bodyPost_ret (results_cell_slot rfl _ _ w.heap.size _ _ _ _ _ rfl rfl HRP.out Try.underlying28 rfl (by kernel_rfl)) rfl ?_
  exact ⟨rfl, HB0.out⟩

end Go.Proofs.Ytjncpincmkpdpaa.ground
