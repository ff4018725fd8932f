/-
  PROVED HERE: the contract of (*Disk).Write.
  CONDITIONS: the disk is the given one; no more than a million writes wait.
-/
import Derived.Test.YtooagoikiafgcaaDiskNew
import Derived.Test.YtooagoikiafgcaaPlan
namespace Go.Proofs.Ytooagoikiafgcaa.disk
set_option linter.unusedVariables false
open Go.RowKit Go.Proofs.Ytooagoikiafgcaa.base Go.Proofs.Ytooagoikiafgcaa.obj Go.Proofs.Ytooagoikiafgcaa.mem Go.Proofs.Ytooagoikiafgcaa.plan

theorem zLate_built (i : Int) : (Try.prog.built 179 [(0, .int .i64 i)]) = some (zLate i) := by kernel_rfl

theorem zLate_size (i : Int) : (Try.prog.info? 179).map (·.size) = some (zLate i).size := by kernel_rfl
theorem zLate_zero (i : Int) : (Try.zeroCells179).size = (zLate i).size := rfl
theorem zLate_one (i : Int) : ∀ v ∈ (zLate i).toList, v.oneCell' = true := by
  intro v hv
  simp only [zLate, List.mem_cons, List.mem_replicate] at hv
  rcases hv with rfl | ⟨_, rfl⟩ <;> rfl
def lateRow (i : Nat) (bs : List Int) : Array Value := (waitCells (i, bs)).toArray
theorem lateRow_eq (i : Nat) (bs : List Int) (h : bs.length = 64) : ((zLate i).toList.take 1 ++ (bs.map (Value.int .u8) ++ (zLate i).toList.drop (1 + (bs.map (Value.int .u8)).length))).toArray = lateRow i bs := by
  have e : (1 + (bs.map (Value.int .u8)).length) = 65 := by simp [h]
  rw [e]
  simp [zLate, lateRow, waitCells]
theorem u8_size : (Try.prog.info? 5).map (·.size) = some 1 := by kernel_rfl

theorem Addr.block_add (a : Addr) (j : Nat) : (a.add j).block = a.block := by unfold Go.Addr.add; split <;> rfl
theorem src_ne {w : World} {g L : Nat} {wv : Value} {m : DS} (h : Row w g 163 (dCells L wv m)) {n : Nat} {xs : List Value} (ho : w.ownsRow 0 179 65 wv n xs) {ad : Addr} (hc : ∃ j x, w.cell? (ad.add j) = some (.int .u8 x)) : ad.block ≠ g := by
  rintro rfl
  obtain ⟨j, x, hx⟩ := hc
  have hs := World.cell?_spot hx
  have : ad.add j = ⟨ad.block, (ad.add j).off, none⟩ := by
    have hb := Addr.block_add ad j
    cases he : ad.add j with
    | mk b o s => rw [he] at hs hb; simp only at hs hb; subst hs; subst hb; rfl
  rw [this, h.cell] at hx
  generalize (ad.add j).off = k at hx
  match k, hx with
  | 0, hx => simp [dCells] at hx
  | 1, hx =>
    simp [dCells] at hx
    subst hx
    rcases ho.2 with ⟨e, _⟩ | ⟨_, _, _, e, _⟩ <;> cases e
  | 2, hx => simp [dCells] at hx
  | 3, hx => simp [dCells] at hx
  | k + 4, hx => simp [dCells] at hx

theorem more_self {F : Nat → Prop} {w w' : World} : ∀ i, F i → More F w w' i := fun i h => .inl h
theorem kept_of_one {F : Nat → Prop} {g : Nat} {w w' : World} (h : Kept (One g) w w') (hg : F g) : Kept F w w' := h.mono fun i _ e => by rw [e]; exact hg

/-- a row of the call's own lies in another block than the disk's own two -/
theorem grown_facts {w1 w3 : World} {F : Nat → Prop} {g L : Nat} {wv : Value} {m : DS} (h : DiskIn w1 F g L wv m) {R R' : Obj} (hg : ((w1.alloc R).drew.alloc R').grownBy w3 wv.ownBlock) :
    Row w3 g 163 (dCells L wv m) ∧ Row w3 L 177 (m.secs.map secCells).flatten := by
  have h1 : Row ((w1.alloc R).drew.alloc R') g 163 (dCells L wv m) := ((h.blk.alloc R).drew).alloc R'
  have h2 : Row ((w1.alloc R).drew.alloc R') L 177 (m.secs.map secCells).flatten := ((h.laid.alloc R).drew).alloc R'
  exact ⟨(hg.block g h1.lt (fun e => h.gw e.symm)).trans h1, (hg.block L h2.lt (fun e => h.lw e.symm)).trans h2⟩
theorem write_end {w w1 w3 : World} {F : Nat → Prop} {g L : Nat} {wv : Value} {m : DS} {n : Nat} {bs : List Int} (hL : bs.length = 64) (hn : n < m.secs.length) (h : DiskIn w1 F g L wv m) (hk : Kept (One g) w w1) {R R' : Obj}
    (hg : ((w1.alloc R).drew.alloc R').grownBy w3 wv.ownBlock) {g2 cap : Nat} (ho : w3.ownsRow 0 179 65 (.slice (some ⟨g2, 0, none⟩) (m.waits.length + 1) cap) (m.waits.length + 1) ((m.waits.map waitCells).flatten ++ waitCells (n, bs)))
    (hor : wv.ownBlock = some g2 ∨ ((w1.alloc R).drew.alloc R').heap.size ≤ g2) (hlt : g2 < w3.heap.size) :
    DiskAt (w3.setCell ⟨g, 1, none⟩ (.slice (some ⟨g2, 0, none⟩) (m.waits.length + 1) cap)) (More F w (w3.setCell ⟨g, 1, none⟩ (.slice (some ⟨g2, 0, none⟩) (m.waits.length + 1) cap))) g (m.put n bs) ∧
      Kept F w (w3.setCell ⟨g, 1, none⟩ (.slice (some ⟨g2, 0, none⟩) (m.waits.length + 1) cap)) := by
  obtain ⟨r1, r2⟩ := grown_facts h hg
  have hsz : ((w1.alloc R).drew.alloc R').heap.size = w1.heap.size + 2 := by simp [heap_drew]
  have hg2 : g2 ≠ g := by
    rcases hor with e | e
    · rintro rfl; exact h.gw e
    · have := h.blk.lt; omega
  refine ⟨⟨L, .slice (some ⟨g2, 0, none⟩) (m.waits.length + 1) cap, DS.put_good h.good hn hL, ?_, ?_, ?_, .inl h.fg, .inl h.fl, fun k hk' => ?_⟩, ?_⟩
  · have := r1.setCell 1 (.slice (some ⟨g2, 0, none⟩) (m.waits.length + 1) cap)
    exact this
  · exact r2.setCell_other (p := ⟨g, 1, none⟩) (Ne.symm h.gl) _
  · have e : ((m.put n bs).waits.map waitCells).flatten = (m.waits.map waitCells).flatten ++ waitCells (n, bs) := by simp [DS.put]
    have e2 : (m.put n bs).waits.length = m.waits.length + 1 := by simp [DS.put]
    rw [e, e2]
    exact ownsRow_setCell_other ho (a := ⟨g, 1, none⟩) (by simp [Value.ownBlock, hg2]) _
  · simp only [Value.ownBlock, Option.some.injEq] at hk'
    subst hk'
    rcases hor with e | e
    · exact .inl (h.fw _ e)
    · have := hk.size
      exact .inr ⟨by omega, by simpa [World.setCell] using hlt⟩
  · refine Kept.setCell ?_ (.inl h.fg) _
    have k1 : Kept F w ((w1.alloc R).drew.alloc R') := (((kept_of_one hk h.fg).alloc R).drew).alloc R'
    exact k1.trans (Kept.of_grown hg (fun i => F i) (fun k hk => h.fw k hk)) (fun i h => h) (fun i h _ => h)
theorem waits_one (p : Nat × List Int) : ∀ u ∈ waitCells p, u.oneCell' = true := by
  intro u hu
  rcases List.mem_cons.1 hu with rfl | hu
  · rfl
  · exact u8s_one _ u hu

set_option maxRecDepth 100000 in
set_option maxHeartbeats 2000000 in
theorem write_at {w : World} {F : Nat → Prop} {g L : Nat} {wv : Value} {m : DS} (h : DiskIn w F g L wv m) (i : Int) (A : Option Addr) (c : Nat) (bs : List Int) (hs : Sl w w.heap.size 1 A bs.length (bs.map (.int .u8))) (hwl : m.waits.length ≤ 1000000) :
    Calls Try.prog 113 #[.pointer (some ⟨g, 0, none⟩), .int .i64 i, .slice A bs.length c] w fun e w' => e = .returned (.int .i64 (m.write i bs).1) ∧ DiskAt w' (More F w w') g (m.write i bs).2 ∧ Kept F w w' := by
  have H := Lib.hid h
  have HW := Lib.hid (wrong_at h i)
  have HS := Lib.hid hs
  clear hs
  by_cases hi : i < 0 ∨ m.secs.length ≤ i
  · have e1 : m.write i bs = (3, m) := by rw [DS.write, if_pos hi]
    rw [if_pos hi] at HW
    rw [e1]
    clear e1 hi h
    go_enter Try.func113, Try.ntmps113
    go_wp2_with (fail)
    refine HW.out.mono ?_; rintro e w' ⟨rfl, rfl⟩
    go_wp2_with (fail)
    go_ret
    exact ⟨rfl, ⟨L, wv, H.out.more more_self⟩, Kept.refl _ _⟩
  · rw [if_neg hi] at HW
    by_cases hl : bs.length = 64
    · have e2 : m.write i bs = if m.goes then (0, m.burnt.put i.toNat bs) else (8, m.burnt) := by rw [DS.write, if_neg hi, if_neg (by simpa using hl)]
      obtain ⟨n, rfl⟩ := Int.eq_ofNat_of_zero_le (show 0 ≤ i by omega)
      have HB := Lib.hid (burn_at h)
      cases hg : m.goes
      · rw [hg] at e2 HB
        simp only [Bool.false_eq_true, if_false] at e2
        rw [e2]
        have hl' : ((bs.length : Int) != 64) = false := by simp; omega
        have hl2 : ((bs.length : Int) == 64) = true := by simp; omega
        clear e2 hg hl hi h
        go_enter Try.func113, Try.ntmps113
        go_wp2_with (fail)
        refine HW.out.mono ?_; rintro e w' ⟨rfl, rfl⟩
        go_wp2_with (fail)
        refine HB.out.mono ?_; rintro e w' ⟨rfl, hd, hk⟩
        have HD := Lib.hid hd; have HK := Lib.hid hk; clear hd hk
        go_wp2_with (fail)
        go_ret
        exact ⟨rfl, ⟨L, wv, HD.out.more more_self⟩, kept_of_one HK.out H.out.fg⟩
      · rw [hg] at e2 HB
        simp only [if_true] at e2
        rw [e2]
        have hl' : ((bs.length : Int) != 64) = false := by simp; omega
        have hl2 : ((bs.length : Int) == 64) = true := by simp; omega
        have HL := Lib.hid hl
        have hin : n < m.secs.length := by omega
        have hb := zLate_built n
        clear e2 hg hi h hl
        go_enter Try.func113, Try.ntmps113
        go_wp2_with (fail)
        refine HW.out.mono ?_; rintro e w' ⟨rfl, rfl⟩
        go_wp2_with (fail)
        refine HB.out.mono ?_; rintro e w1 ⟨rfl, hd, hk⟩
        obtain ⟨c0, c1, c2, c3⟩ := hd.read
        have f1 := hd.blk.frozen 1
        have HD := Lib.hid hd; have HK := Lib.hid hk; clear hd hk
        clear c0 c2 c3
        have z1 := zLate_size n
        have z2 := zLate_zero n
        have z3 := zLate_one n
        have Z1 := Lib.hid z1; have Z2 := Lib.hid z2; have Z3 := Lib.hid z3
        have HL2 := Lib.hid (lateRow_eq n bs HL.out)
        have hsl := Sl.src (HS.out) (by rw [HL.out]; omega)
        obtain ⟨ad, rfl, hadb, hadc⟩ := hsl
        have hne : ad.block ≠ g := src_ne H.out.blk H.out.own (by
          have := hadc 0 (.int .u8 (bs[0]'(by rw [HL.out]; omega))) (by simp)
          exact ⟨_, _, this⟩)
        have hadc1 : ∀ j v, (bs.map (Value.int .u8))[j]? = some v → w1.cell? (ad.add j) = some v := fun j v hv => by
          rw [HK.out.cell (p := ad.add j) (by rw [Addr.block_add]; exact hadb) (by rw [Addr.block_add]; exact hne)]
          exact hadc j v hv
        have HA := Lib.hid hadc1
        have hmin : (bs.map (Value.int .u8)).length = Nat.min bs.length 64 := by simp [HL.out]
        have HM := Lib.hid hmin
        have hfit : 1 + (bs.map (Value.int .u8)).length ≤ (zLate n).size := by simp [HL.out, zLate]
        have HF := Lib.hid hfit
        have hlv : ∀ w2 : World, (loadVar 179 ⟨w2.heap.size, 0, none⟩).run Try.prog (w2.alloc (.cells (lateRow n bs) 179)).drew = .ok (.agg (lateRow n bs)) (w2.alloc (.cells (lateRow n bs) 179)).drew := fun w2 => by
          refine run_loadVar_row _ w2.heap.size 179 179 (lateRow n bs) (0, 0) _ (heap_alloc_new w2 _) Try.underlying179 rfl ?_
          rw [show (lateRow n bs).size = 65 by simp [lateRow, waitCells, HL.out]]
          kernel_rfl
        have HLV := Lib.hid hlv
        have OWN := Lib.hid HD.out.own
        have lsz : (lateRow n bs).size = 65 := by simp [lateRow, waitCells, HL.out]
        have LZ := Lib.hid (show (Try.prog.info? 179).map (fun i => (i.zero.isSome, i.size)) = some (true, (lateRow n bs).size) by rw [lsz]; kernel_rfl)
        have LP := Lib.hid (show 0 < (lateRow n bs).size by omega)
        have LQ := Lib.hid (show (lateRow n bs).size ≤ 16777216 by omega)
        clear lsz
        have sl : ∀ w2 : World, Sl ((w2.alloc (.cells (lateRow n bs) 179)).drew.alloc (.cells (lateRow n bs) 179)) (w2.heap.size + 2) 65 (some ⟨(w2.alloc (.cells (lateRow n bs) 179)).drew.heap.size, 0, none⟩) 1 (waitCells (n, bs)) := fun w2 => by
          have hr := Row.new (w2.alloc (.cells (lateRow n bs) 179)).drew 179 (lateRow n bs)
          have hlw : (waitCells (n, bs)).length = 1 * 65 := by simp [waitCells, HL.out]
          refine hr.sl (by simp [heap_drew]) ?_ hlw
          rw [← hlw]
          simp [lateRow]
        have SL := Lib.hid sl
        have sl2 : ∀ w2 : World, Sl ((w2.alloc (.cells (lateRow n bs) 179)).alloc (.cells (lateRow n bs) 179)).drew (w2.heap.size + 2) 65 (some ⟨w2.heap.size + 1, 0, none⟩) 1 (waitCells (n, bs)) := fun w2 => by
          have := sl w2
          rw [show (w2.alloc (.cells (lateRow n bs) 179)).drew.heap.size = w2.heap.size + 1 by simp [heap_drew]] at this
          exact this
        have SL2 := Lib.hid sl2
        clear sl sl2
        have hwl' : m.burnt.waits.length ≤ 1000000 := by rw [DS.burnt_waits]; exact hwl
        have HB1 := Lib.hid (show (m.burnt.waits.length + 1) * 72 ≤ 140737488355328 by omega)
        have HB2 := Lib.hid (show m.burnt.waits.length + 1 ≤ maxLen by unfold maxLen; omega)
        have hgl := HD.out.blk.lt
        have hgl2 : g ≤ w1.heap.size := by omega
        have HN := Lib.hid (show n < m.burnt.secs.length by rw [DS.burnt_secs]; exact hin)
        clear hlv
        clear z1 z2 z3 hadc1 hmin hfit hadc
        go_wp2_with (first
          | (with_reducible refine wpList_fill rfl 179 (.tmp 8) (.tmp 22) rfl (zLate n) Try.zeroCells179 _ _ rfl rfl Z1.out Z2.out Z3.out ?_)
          | (with_reducible refine wpList_copy_new rfl (.tmp 24) (.tmp 25) 76 76 rfl Try.underlying76 u8_size _ 1 64 64 ad _ _ rfl rfl (zLate n) _ (bs.map (Value.int .u8)) HM.out HA.out HF.out (u8s_one bs) (lateRow n bs) HL2.out ?_))
        refine wp_region_plan [0, 1, 2, 3, 5] [[4, 6, 7, 8, 9, 10], [6, 4, 7, 8, 9, 10]] (by kernel_rfl) (by kernel_rfl) (fun _ _ _ _ _ h => h) ?_
        simp only [forks, pick, List.getElem?_cons_succ, List.getElem?_cons_zero, Option.getD_some]
        still_step
        still_step
        still_step
        still_step
        refine still_get rfl 179 (.tmp 8) rfl (lateRow n bs) _ rfl (HLV.out _) ?_
        refine wpStill_nil ?_
        refine ⟨?_, ?_⟩
        all_goals
          go_wp2_with (first
            | (with_reducible refine wpList_build1 rfl 161 (.tmp 32) rfl Try.underlying161 (lateRow n bs) rfl LZ.out LP.out LQ.out ?_)
            | (refine app_row slLate rfl (.tmp 31) (.tmp 33) rfl (base := 0) (OWN.out.alloc _ |>.drew |>.alloc _) rfl rfl (SL.out _) (waits_one _) (by omega) HB1.out HB2.out (Nat.zero_le _) ?_; intro g2 cap w3 ho hg hor hlt; obtain ⟨r1, r2⟩ := grown_facts HD.out hg; have c4 : w3.cell? ⟨g, 1, none⟩ = some wv := r1.cell 1; have f4 := r1.frozen 1; have HO := Lib.hid ho; have HG := Lib.hid hg; have HOR := Lib.hid hor; have HLT := Lib.hid hlt; clear ho hg hor hlt r1 r2 c1 f1)
            | (refine app_row slLate rfl (.tmp 31) (.tmp 33) rfl (base := 0) (OWN.out.alloc _ |>.alloc _ |>.drew) rfl rfl (SL2.out _) (waits_one _) (by omega) HB1.out HB2.out (Nat.zero_le _) ?_; intro g2 cap w3 ho hg hor hlt; obtain ⟨r1, r2⟩ := grown_facts HD.out hg; have c4 : w3.cell? ⟨g, 1, none⟩ = some wv := r1.cell 1; have f4 := r1.frozen 1; have HO := Lib.hid ho; have HG := Lib.hid hg; have HOR := Lib.hid hor; have HLT := Lib.hid hlt; clear ho hg hor hlt r1 r2 c1 f1))
          go_ret
          exact ⟨rfl, write_end HL.out HN.out HD.out HK.out HG.out HO.out HOR.out HLT.out⟩
    · have e1 : m.write i bs = (14, m) := by rw [DS.write, if_neg hi, if_pos (by simpa using hl)]
      rw [e1]
      have hl' : ((bs.length : Int) != 64) = true := by simp; omega
      have hl2 : ((bs.length : Int) == 64) = false := by simp; omega
      clear e1 hi h hl
      go_enter Try.func113, Try.ntmps113
      go_wp2_with (fail)
      refine HW.out.mono ?_; rintro e w' ⟨rfl, rfl⟩
      go_wp2_with (fail)
      go_ret
      exact ⟨rfl, ⟨L, wv, H.out.more more_self⟩, Kept.refl _ _⟩

end Go.Proofs.Ytooagoikiafgcaa.disk
