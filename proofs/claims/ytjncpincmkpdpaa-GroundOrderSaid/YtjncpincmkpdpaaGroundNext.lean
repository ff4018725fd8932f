/-
  PROVED HERE: what a ground station sends next, when it has not sent it yet, and when it is through.
  CONDITIONS: the station's block is the given one, and its bytes lie ahead of it.
-/
import Derived.Test.YtjncpincmkpdpaaGroundHear
namespace Go.Proofs.Ytjncpincmkpdpaa.ground
set_option linter.unusedVariables false
open Go.RowKit Go.Proofs.Ytjncpincmkpdpaa.base Go.Proofs.Ytjncpincmkpdpaa.obj Go.Proofs.Ytjncpincmkpdpaa.mem Go.Proofs.Ytjncpincmkpdpaa.plan

/-- block g is the station s, with the n bytes xs that lie ahead of it -/
structure Gnd (w : World) (g : Nat) (s : GS) (n : Nat) (xs : List Value) : Prop where
  at_ : GAt w g s
  row : ∃ A c, s.b = .slice A n c ∧ n ≤ c ∧ Sl w g 1 A n xs
  one : ∀ v ∈ xs, v.oneCell' = true
  lim : n ≤ 100000
  no : 0 ≤ s.no ∧ s.no * 16 ≤ n
  ph : 1 ≤ s.phase ∧ s.phase ≤ 5

theorem Gnd.below {w w' : World} {g n : Nat} {s : GS} {xs : List Value} (h : Gnd w g s n xs) (k : Below w.heap.size w w') : Gnd w' g s n xs :=
  ⟨h.at_.below k, by obtain ⟨A, c, e, hc, hs⟩ := h.row; exact ⟨A, c, e, hc, hs.below (k.mono (Nat.le_of_lt h.at_.lt))⟩, h.one, h.lim, h.no, h.ph⟩
theorem Gnd.kept {w w' : World} {g n : Nat} {s : GS} {xs : List Value} (h : Gnd w g s n xs) {S : Nat → Prop} (k : Kept S w w') (hS : ∀ i, i ≤ g → ¬ S i) : Gnd w' g s n xs :=
  ⟨h.at_.kept k (hS g (Nat.le_refl _)), by obtain ⟨A, c, e, hc, hs⟩ := h.row; exact ⟨A, c, e, hc, hs.below (k.below (Nat.le_of_lt h.at_.lt) fun i hi => hS i (Nat.le_of_lt hi))⟩, h.one, h.lim, h.no, h.ph⟩
/-- another state of it -/
theorem Gnd.to {w w' : World} {g n : Nat} {s s' : GS} {xs : List Value} (h : Gnd w g s n xs) (h' : GAt w' g s') (k : Kept (One g) w w') (hb : s'.b = s.b) (hno : 0 ≤ s'.no ∧ s'.no * 16 ≤ n) (hph : 1 ≤ s'.phase ∧ s'.phase ≤ 5) : Gnd w' g s' n xs :=
  ⟨h', by obtain ⟨A, c, e, hc, hs⟩ := h.row; exact ⟨A, c, hb.trans e, hc, hs.below (k.below (Nat.le_of_lt h.at_.lt) fun i hi e => by subst e; omega)⟩, h.one, h.lim, hno, hph⟩

def GS.mpart (s : GS) : Int := if s.phase = 1 then s.part else 0
def GS.mno (s : GS) : Int := if s.phase = 2 then s.no else 0
def GS.msize (s : GS) (n : Nat) : Int := if s.phase = 1 then n else 0
/-- the bytes of a block of its message -/
def GS.mbytes (s : GS) (xs : List Value) : List Value := splice (List.replicate 16 (Value.int .u8 0)) 0 ((xs.drop (s.no * 16).toNat).take 16)
/-- the data of its message -/
def GS.Data (s : GS) (xs : List Value) (B : Nat) (w : World) (v : Value) : Prop := (s.phase ≠ 2 ∧ v = .slice none 0 0) ∨ (s.phase = 2 ∧ ∃ d, v = .slice (some ⟨d, 0, none⟩) 16 16 ∧ B ≤ d ∧ w.heap[d]? = some (.cells (s.mbytes xs).toArray 5 (0, 0)))
theorem GS.Data.one {s : GS} {xs : List Value} {B : Nat} {w : World} {v : Value} (h : s.Data xs B w v) : v.oneCell' = true := by
  rcases h with ⟨_, rfl⟩ | ⟨_, d, rfl, _⟩ <;> rfl
theorem GS.Data.form {s : GS} {xs : List Value} {B : Nat} {w : World} {v : Value} (h : s.Data xs B w v) : ∃ a m, v = .slice a m m := by
  rcases h with ⟨_, rfl⟩ | ⟨_, d, rfl, _⟩ <;> exact ⟨_, _, rfl⟩
theorem GS.Data.weak {s : GS} {xs : List Value} {B B' : Nat} {w w' : World} {v : Value} (h : s.Data xs B w v) (hB : B' ≤ B) (hw : ∀ d, B ≤ d → ∀ o, w.heap[d]? = some o → w'.heap[d]? = some o) : s.Data xs B' w' v := by
  rcases h with ⟨h1, rfl⟩ | ⟨h1, d, rfl, hd, hr⟩
  · exact .inl ⟨h1, rfl⟩
  · exact .inr ⟨h1, d, rfl, Nat.le_trans hB hd, hw d hd _ hr⟩

theorem now_any (w : World) (g n : Nat) (s : GS) (xs : List Value) (h : Gnd w g s n xs) (hp : s.phase ≤ 3) :
    Calls Try.prog 60 #[.pointer (some ⟨g, 0, none⟩)] w fun e w' => ∃ v, e = .returned (.tuple #[pdu s.phase s.ses s.mpart s.mno (s.msize n) 0 0 0 v, .bool true]) ∧ s.Data xs w.heap.size w' v ∧ Below w.heap.size w w' := by
  obtain ⟨A, c, hb, hc, hs⟩ := h.row
  have hph := h.ph.1
  by_cases h1 : s.phase = 1
  · refine (now_open w g s h.at_ A n c hb h1).mono ?_
    rintro e w' ⟨rfl, hbl⟩
    refine ⟨.slice none 0 0, ?_, .inl ⟨by omega, rfl⟩, hbl⟩
    rw [GS.mpart, GS.mno, GS.msize, if_pos h1, if_neg (by omega), if_pos h1, h1]
  · by_cases h2 : s.phase = 2
    · refine (now_block w g s h.at_ A n c xs hb (hs.more (Nat.le_of_lt h.at_.lt)) hc h.one h.no h.lim h2).mono ?_
      rintro e w' ⟨d, rfl, hd, hr, hbl⟩
      refine ⟨.slice (some ⟨d, 0, none⟩) 16 16, ?_, .inr ⟨h2, d, rfl, hd, hr⟩, hbl⟩
      rw [GS.mpart, GS.mno, GS.msize, if_neg h1, if_pos h2, if_neg h1, h2]
    · have h3 : s.phase = 3 := by omega
      refine (now_done w g s h.at_ h3).mono ?_
      rintro e w' ⟨rfl, hbl⟩
      refine ⟨.slice none 0 0, ?_, .inl ⟨h2, rfl⟩, hbl⟩
      rw [GS.mpart, GS.mno, GS.msize, if_neg h1, if_neg h2, if_neg h1, h3]

set_option maxRecDepth 100000 in
set_option maxHeartbeats 2000000 in
theorem next_any (w : World) (g n : Nat) (s : GS) (xs : List Value) (h : Gnd w g s n xs) (hp : s.phase ≤ 3) (hsent : s.sent = false) (tick : Int) :
    Calls Try.prog 17 #[.pointer (some ⟨g, 0, none⟩), .int .i64 tick] w fun e w' => ∃ v, e = .returned (.tuple #[pdu s.phase s.ses s.mpart s.mno (s.msize n) 0 0 0 v, .bool true]) ∧ s.Data xs w.heap.size w' v ∧ Gnd w' g { s with sent := true, last := tick } n xs ∧ Kept (One g) w w' := by
  obtain ⟨c0, c1, c2, c3, c4, c5, c6, c7⟩ := h.at_.read
  rw [hsent] at c6
  have hl := h.at_.lt
  have f6 := h.at_.frozen 6
  have f7 := h.at_.frozen 7
  have HN := Lib.hid (fun (w' : World) (k : Below w.heap.size w w') => now_any w' g n s xs (h.below k) hp)
  have HG := Lib.hid h
  clear h c0 c1 c2 c3 c4 c5 c7 hp hsent
  have HB0 := Lib.hid ((Below.refl w.heap.size w).alloc (Nat.le_refl _) (.cells z9 28))
  go_enter Try.func17, Try.ntmps17
  go_wp2_with (fail)
  refine (HN.out _ HB0.out).mono ?_; rintro e w5 ⟨v, rfl, hd, hb⟩
  have HR5 := Lib.hid ((Row.new w 28 z9).below hb (by simp))
  have HB5 := Lib.hid (HB0.out.trans (hb.mono (by simp)))
  have hsz : w.heap.size < w5.heap.size := by have := hb.size; simp at this; omega
  have HD := Lib.hid hd
  have MS := Lib.hid (show (Try.prog.info? 28).map (·.size) = some (pduC s.phase s.ses s.mpart s.mno (s.msize n) 0 0 0 v).size from by kernel_rfl)
  have ML := Lib.hid (show 0 + (pduC s.phase s.ses s.mpart s.mno (s.msize n) 0 0 0 v).size ≤ z9.toList.length from Nat.le_refl 9)
  have MO := Lib.hid (pduC_one s.phase s.ses s.mpart s.mno (s.msize n) 0 0 0 v hd.one)
  obtain ⟨a, m, rfl⟩ := hd.form
  have hG5 := HG.out.below (HB5.out)
  have HG5 := Lib.hid hG5
  obtain ⟨_, _, _, _, _, _, e6, e7⟩ := hG5.at_.read
  have g6 := hG5.at_.frozen 6
  have g7 := hG5.at_.frozen 7
  have hl5 : g < w5.heap.size := by omega
  clear hb hd hG5 f6 f7 c6
  have HR6 := Lib.hid (((HR5.out.setCell_other (p := ⟨g, 6, none⟩) (show w.heap.size ≠ g by omega) (.bool true)).setCell_other (p := ⟨g, 7, none⟩) (show w.heap.size ≠ g by omega) (.int .i64 tick)).alloc (.cells (pduC s.phase s.ses s.mpart s.mno (s.msize n) 0 0 0 (.slice a m m)) 28))
  unfold pdu
  go_wp2_with (refine wpList_putR rfl 28 (.tmp 4) (.tmp 47) rfl w.heap.size 0 (pduC s.phase s.ses s.mpart s.mno (s.msize n) 0 0 0 (.slice a m m)) rfl rfl HR6.out MS.out ML.out MO.out (pduC s.phase s.ses s.mpart s.mno (s.msize n) 0 0 0 (.slice a m m)).toList rfl ?_)
  refine bodyPost_ret (results_cell_slot rfl _ _ w.heap.size _ _ _ _ _ rfl rfl (HR6.out.setRow _) Try.underlying28 rfl (by kernel_rfl)) rfl ?_
  have k2 : Kept (One g) w5 ((w5.setCell ⟨g, 6, none⟩ (.bool true)).setCell ⟨g, 7, none⟩ (.int .i64 tick)) := kput (kput (Kept.refl (One g) w5) 6 _) 7 _
  have hG : GAt ((w5.setCell ⟨g, 6, none⟩ (.bool true)).setCell ⟨g, 7, none⟩ (.int .i64 tick)) g { s with sent := true, last := tick } := (HG5.out.at_.sent true).last tick
  have k3 : Kept (One g) w (w5.setCell ⟨g, 6, none⟩ (.bool true) |>.setCell ⟨g, 7, none⟩ (.int .i64 tick)) := (Kept.of_below HB5.out (One g)).trans k2 (fun _ h => h) (fun _ h _ => h)
  have k4 := kept_setRow (k3.alloc (.cells (pduC s.phase s.ses s.mpart s.mno (s.msize n) 0 0 0 (.slice a m m)) 28)) (g := w.heap.size) (.inr (Nat.le_refl _)) (pduC s.phase s.ses s.mpart s.mno (s.msize n) 0 0 0 (.slice a m m))
  refine ⟨.slice a m m, rfl, ?_, HG.out.to ?_ k4 rfl HG.out.no HG.out.ph, k4⟩
  · refine (HD.out).weak (by simp) fun d hd o ho => ?_
    have hdl : d < w5.heap.size := by
      rcases Nat.lt_or_ge d w5.heap.size with h | h
      · exact h
      · rw [Array.getElem?_eq_none h] at ho; cases ho
    have hd2 : w.heap.size < d := by simp at hd; omega
    rw [Go.setRow_other _ _ _ _ (by omega), Below.heap_alloc _ _ _ (by simpa [World.setCell] using hdl), k2.block d hdl (fun e : d = g => by omega)]
    exact ho
  · exact (Go.setRow_other _ _ _ _ (by omega)).trans ((Below.heap_alloc _ _ _ (by simpa [World.setCell] using hl5)).trans hG)

set_option maxRecDepth 100000 in
set_option maxHeartbeats 2000000 in
theorem next_over (w : World) (g : Nat) (s : GS) (h : GAt w g s) (hp : 4 ≤ s.phase) (hsent : s.sent = false) (tick : Int) :
    Calls Try.prog 17 #[.pointer (some ⟨g, 0, none⟩), .int .i64 tick] w fun e w' => e = .returned (.tuple #[pdu 0 0 0 0 0 0 0 0 (.slice none 0 0), .bool false]) ∧ Below w.heap.size w w' := by
  obtain ⟨c0, c1, c2, c3, c4, c5, c6, c7⟩ := h.read
  rw [hsent] at c6
  have hl := h.lt
  have HN := Lib.hid (fun (w' : World) (k : Below w.heap.size w w') => now_over w' g s (h.below k) hp)
  clear h c0 c1 c2 c3 c4 c5 c7 hp hsent
  have HB0 := Lib.hid ((Below.refl w.heap.size w).alloc (Nat.le_refl _) (.cells z9 28))
  have MS := Lib.hid (show (Try.prog.info? 28).map (·.size) = some z9.size from by kernel_rfl)
  have ML := Lib.hid (show 0 + z9.size ≤ z9.toList.length from Nat.le_refl 9)
  have MO := Lib.hid (pduC_one 0 0 0 0 0 0 0 0 (.slice none 0 0) rfl)
  go_enter Try.func17, Try.ntmps17
  go_wp2_with (fail)
  refine (HN.out _ HB0.out).mono ?_; rintro e w5 ⟨rfl, hb⟩
  have HR6 := Lib.hid (((Row.new w 28 z9).below hb (by simp)).alloc (.cells z9 28))
  have HB5 := Lib.hid (HB0.out.trans (hb.mono (by simp)))
  have hsz : w.heap.size < w5.heap.size := by have := hb.size; simp at this; omega
  clear hb
  unfold pdu
  go_wp2_with (refine wpList_putR rfl 28 (.tmp 4) (.tmp 47) rfl w.heap.size 0 z9 rfl rfl HR6.out MS.out ML.out MO.out z9.toList rfl ?_)
  refine bodyPost_ret (results_cell_slot rfl _ _ w.heap.size _ _ _ _ _ rfl rfl (HR6.out.setRow _) Try.underlying28 rfl (by kernel_rfl)) rfl ?_
  exact ⟨rfl, below_setRow (HB5.out.alloc HB5.out.size _) (Nat.le_refl _) _⟩

end Go.Proofs.Ytjncpincmkpdpaa.ground
