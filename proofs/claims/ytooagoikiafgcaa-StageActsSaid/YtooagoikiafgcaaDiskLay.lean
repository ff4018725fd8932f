/-
  PROVED HERE: contracts of (*Disk).lay, Flush and Power.
  CONDITIONS: the disk is the given one; no more than a million writes wait.
-/
import Derived.Test.YtooagoikiafgcaaDiskRead
namespace Go.Proofs.Ytooagoikiafgcaa.disk
set_option linter.unusedVariables false
open Go.RowKit Go.Proofs.Ytooagoikiafgcaa.base Go.Proofs.Ytooagoikiafgcaa.obj Go.Proofs.Ytooagoikiafgcaa.mem Go.Proofs.Ytooagoikiafgcaa.plan

def DS.laid (m : DS) (p : Nat → Bool) (k : Nat) : DS := { m with secs := layTo p m.waits m.secs k }
theorem laid_good {m : DS} (h : m.Good) (p : Nat → Bool) (k : Nat) : (m.laid p k).Good := by
  have e := layTo_len p m.waits m.secs k
  refine ⟨layTo_64 (fun q hq => (h.waits q hq).2) h.secs _, fun q hq => ?_, h.fuse0, h.fuse1, ?_, ?_⟩
  · show _ < (layTo _ _ _ _).length ∧ _
    rw [e]; exact h.waits q hq
  · show 1 ≤ (layTo _ _ _ _).length
    rw [e]; exact h.n0
  · show (layTo _ _ _ _).length ≤ 128
    rw [e]; exact h.n1

structure LayRel (w : World) (F : Nat → Prop) (g L : Nat) (wv : Value) (m : DS) (p : Nat → Bool) (k : Nat) (wr : World) : Prop where
  disk : DiskIn wr F g L wv (m.laid p k)
  kept : Kept F w wr
theorem lay_read {w wr : World} {F : Nat → Prop} {g L : Nat} {wv : Value} {m : DS} {p : Nat → Bool} {k : Nat} (h : LayRel w F g L wv m p k wr) : wr.cell? ⟨g, 0, none⟩ = some (.slice (some ⟨L, 0, none⟩) m.secs.length m.secs.length) ∧ wr.cell? ⟨g, 1, none⟩ = some wv ∧ g < wr.heap.size := by
  obtain ⟨c0, c1, _, _⟩ := h.disk.read
  have e : (m.laid p k).secs.length = m.secs.length := layTo_len p m.waits m.secs k
  rw [e] at c0
  exact ⟨c0, c1, h.disk.blk.lt⟩
theorem lay_step {w wr : World} {F : Nat → Prop} {g L : Nat} {wv : Value} {m : DS} {p : Nat → Bool} {k : Nat} (h : LayRel w F g L wv m p k wr) (hk : k < m.waits.length) {A : Option Addr} {c : Nat} (hv : wv = .slice A m.waits.length c) :
    ∃ W cur, A = some ⟨W, 0, none⟩ ∧ Row wr W 179 cur ∧ (cur.drop (k * 65)).take (waitCells m.waits[k]).length = waitCells m.waits[k] := by
  obtain ⟨W, c', cur, hv', hrow, hcur⟩ := own_row h.disk.own (show 0 < m.waits.length by omega)
  rw [hv] at hv'
  injection hv' with h1 h2 h3
  exact ⟨W, cur, h1, hrow, wait_at (m := m.laid p k) h.disk.good hcur hk⟩
theorem laid_yes {m : DS} {p : Nat → Bool} {k : Nat} (hk : k < m.waits.length) (hp : p k = true) : (m.laid p (k + 1)).secs = (m.laid p k).secs.set m.waits[k].1 m.waits[k].2 := layTo_yes hk hp
theorem laid_no {m : DS} {p : Nat → Bool} {k : Nat} (hk : k < m.waits.length) (hp : p k = false) : m.laid p (k + 1) = m.laid p k := by
  unfold DS.laid
  rw [layTo_no hk hp]
theorem lay_no {w wr : World} {F : Nat → Prop} {g L : Nat} {wv : Value} {m : DS} {p : Nat → Bool} {k : Nat} (h : LayRel w F g L wv m p k wr) (hk : k < m.waits.length) (hp : p k = false) (o : Obj) : LayRel w F g L wv m p (k + 1) (wr.alloc o) := by
  refine ⟨?_, h.kept.alloc o⟩
  rw [laid_no hk hp]
  exact h.disk.kept ((Kept.refl (fun _ => False) wr).alloc o) (fun _ _ h => h)
theorem lay_yes {w wr w2 : World} {F : Nat → Prop} {g L : Nat} {wv : Value} {m : DS} {p : Nat → Bool} {k : Nat} (hm : m.Good) (h : LayRel w F g L wv m p k wr) (hk : k < m.waits.length) (hp : p k = true) (hw2 : Kept (fun _ => False) wr w2) :
    LayRel w F g L wv m p (k + 1) (w2.setRow L (((m.laid p k).secs.map secCells).set m.waits[k].1 (secCells m.waits[k].2)).flatten.toArray) := by
  have hd2 := h.disk.kept hw2 (fun _ _ h => h)
  refine ⟨⟨laid_good hm p (k + 1), ?_, ?_, ?_, h.disk.fg, h.disk.fl, h.disk.fw⟩, ?_⟩
  · have e : dCells L wv (m.laid p (k + 1)) = dCells L wv (m.laid p k) := by
      have e1 : (m.laid p (k + 1)).secs.length = m.secs.length := layTo_len p m.waits m.secs (k + 1)
      have e2 : (m.laid p k).secs.length = m.secs.length := layTo_len p m.waits m.secs k
      simp only [dCells, e1, e2]
      rfl
    rw [e]
    exact hd2.blk.setRow_other _ h.disk.gl
  · rw [laid_yes hk hp, List.map_set]
    exact hd2.laid.setRow _
  · have k1 : Kept (fun i => i = L) w2 (w2.setRow L (((m.laid p k).secs.map secCells).set m.waits[k].1 (secCells m.waits[k].2)).flatten.toArray) := kept_setRow (Kept.refl (fun i => i = L) _) (.inl (show L = L from rfl)) _
    exact k1.own hd2.own (fun i hi e => h.disk.lw (by rw [hi, e]))
  · exact kept_setRow (h.kept.trans hw2 (fun i h => h) (fun i h => h.elim)) (.inl h.disk.fl) _
/-- a row of the call's own, cut to nothing -/
theorem own_zero {w : World} {base : Nat} {e : TypeId} {size n c g : Nat} {xs : List Value} (h : w.ownsRow base e size (.slice (some ⟨g, 0, none⟩) n c) n xs) : w.ownsRow base e size (.slice (some ⟨g, 0, none⟩) 0 c) 0 [] := by
  rcases h.2 with ⟨e, _⟩ | ⟨g', cap, cur, e, hb, hg, _, hm, hs, _⟩
  · cases e
  · injection e with e1 e2 e3
    injection e1 with e1
    injection e1 with e1
    subst e1; subst e3
    exact ⟨by simp, .inr ⟨g, c, cur, rfl, hb, hg, Nat.zero_le _, hm, hs, by simp⟩⟩

theorem lay_end {w wr w2 : World} {F : Nat → Prop} {g L : Nat} {m : DS} {p : Nat → Bool} {A : Option Addr} {c : Nat} (hm : m.Good) (h : LayRel w F g L (.slice A m.waits.length c) m p m.waits.length wr)
    (hg : wr.grownBy w2 (Value.ownBlock (.slice A m.waits.length c))) {ys : List Value} (ho : w2.ownsRow 0 179 65 (.slice A m.waits.length c) m.waits.length ys) :
    DiskAt (w2.setCell ⟨g, 1, none⟩ (.slice A 0 c)) F g (m.lay p) ∧ Kept F w (w2.setCell ⟨g, 1, none⟩ (.slice A 0 c)) := by
  have hd := h.disk
  have hgw := hd.gw
  have hlw := hd.lw
  have b1 : Row w2 g 163 (dCells L (.slice A m.waits.length c) (m.laid p m.waits.length)) := (hg.block g hd.blk.lt (fun e => hgw e.symm)).trans hd.blk
  have b2 : Row w2 L 177 ((m.laid p m.waits.length).secs.map secCells).flatten := (hg.block L hd.laid.lt (fun e => hlw e.symm)).trans hd.laid
  refine ⟨⟨L, .slice A 0 c, DS.lay_good hm p, b1.setCell 1 _, b2.setCell_other (p := ⟨g, 1, none⟩) (Ne.symm hd.gl) _, ?_, hd.fg, hd.fl, fun k hk => hd.fw k ?_⟩, ?_⟩
  · refine ownsRow_setCell_other ?_ (a := ⟨g, 1, none⟩) ?_ _
    · rcases A with _ | ⟨b, o, sp⟩
      · have hc : c = 0 := own_cap ho rfl
        subst hc
        exact World.ownsRow_nil _ _ _ _
      · rcases ho.2 with ⟨e, _⟩ | ⟨g', cap, cur, e, _⟩
        · cases e
        · injection e with e1 e2 e3
          injection e1 with e1
          rw [e1] at ho ⊢
          exact own_zero ho
    · intro e
      exact hgw (by cases A <;> simp_all [Value.ownBlock])
  · cases A <;> simp_all [Value.ownBlock]
  · refine Kept.setCell ?_ (.inl hd.fg) _
    exact h.kept.trans (Kept.of_grown hg F (fun k hk => hd.fw k hk)) (fun i h => h) (fun i h _ => h)
theorem sec_put {m : DS} (h : m.Good) {i : Nat} (hi : i < m.secs.length) {b : List Int} (hb : b.length = 64) :
    (m.secs.map secCells).flatten.take (i * 64) ++ (secCells b).toArray.toList ++ (m.secs.map secCells).flatten.drop (i * 64 + (secCells b).toArray.size) = ((m.secs.map secCells).set i (secCells b)).flatten := by
  have e : (secCells b).toArray.size = 64 := by rw [List.size_toArray, secCells_len, hb]
  have e2 := flat_set (good_secLen h) (i := i) (by simpa using hi) (v := secCells b) (by rw [secCells_len, hb])
  rw [e]
  exact e2
theorem sec_fit {m : DS} (h : m.Good) {i : Nat} (hi : i < m.secs.length) {b : List Int} (hb : b.length = 64) : i * 64 + (secCells b).toArray.size ≤ (m.secs.map secCells).flatten.length := by
  rw [List.size_toArray, secCells_len, hb, flat_len _ (good_secLen h), List.length_map]
  have : (i + 1) * 64 ≤ m.secs.length * 64 := Nat.mul_le_mul_right 64 hi
  omega

set_option maxRecDepth 100000 in
set_option maxHeartbeats 2000000 in
theorem lay_at {w : World} {F : Nat → Prop} {g L : Nat} {wv : Value} {m : DS} (h : DiskIn w F g L wv m) (p : Nat → Bool) (f : Nat) (caps : Array Value) (hcf : ∀ (w : World) (i : Int), (callFunc f (#[.int .i64 i] ++ caps)).run Try.prog w = .ok (.enter f (#[.int .i64 i] ++ caps)) w)
    (hf : ∀ wr, Kept F w wr → ∀ i : Nat, i < m.waits.length → Calls Try.prog f (#[.int .i64 i] ++ caps) wr fun e w' => e = .returned (.bool (p i)) ∧ wr = w') (hwl : m.waits.length ≤ 1000000) :
    Calls Try.prog 87 #[.pointer (some ⟨g, 0, none⟩), .func (.func f) #[] caps] w fun e w' => e = .returned (.tuple #[]) ∧ DiskAt w' F g (m.lay p) ∧ Kept F w w' := by
  obtain ⟨c0, c1, c2, c3⟩ := h.read
  obtain ⟨A, wc, hwv, _⟩ := own_form h.own
  rw [hwv] at c1
  have HWV := Lib.hid hwv
  have H := Lib.hid h
  have HF := Lib.hid hf
  have HG := Lib.hid h.good
  have HST := Lib.hid (LayRel.mk (p := p) (k := 0) h (Kept.refl F w))
  clear hwv h hf c0 c2 c3
  go_enter Try.func87, Try.ntmps87
  go_wp2_with (fail)
  go_loopw [11] (fun i wr => ∃ k : Nat, k ≤ m.waits.length ∧ i = .int .i64 k ∧ LayRel w F g L wv m p k wr) (fun i _ => m.waits.length - (intOf i).toNat)
  case atStart => exact ⟨0, by omega, rfl, HST.out⟩
  case round =>
    obtain ⟨k, hk, rfl, hrr⟩ := hrel
    have HR := Lib.hid hrr
    obtain ⟨r0, r1, r2⟩ := lay_read hrr
    rw [HWV.out] at r1
    clear hrr
    by_cases hlt : k < m.waits.length
    · obtain ⟨W, cur, hA, hrow, hat⟩ := lay_step HR.out hlt HWV.out
      have HROW := Lib.hid hrow; have HAT := Lib.hid hat; have HLT := Lib.hid hlt
      subst hA
      clear hrow hat
      have HP := Lib.hid ((HG.out.waits _ (List.getElem_mem hlt)).2)
      have hpn := (HG.out.waits _ (List.getElem_mem hlt)).1
      have RM := Lib.hid (lay_no HR.out hlt)
      have RH := Lib.hid (fun w2 => lay_yes (w2 := w2) HG.out HR.out hlt)
      generalize hpp : m.waits[k] = q at *
      have HPP := Lib.hid hpp
      have hc0 : (waitCells q).toArray[0]? = some (.int .i64 q.1) := rfl
      have W1 := Lib.hid (wait_size HP.out)
      have W2 := Lib.hid (show (Try.prog.info? 179).map (·.size) = some (waitCells q).toArray.size by simpa using wait_size HP.out)
      have W3 := Lib.hid (show (zLate 0).size = (waitCells q).toArray.size by rw [show (waitCells q).toArray.size = 65 by rw [List.size_toArray, waitCells_len, HP.out]]; rfl)
      have W4 := Lib.hid (show ∀ v ∈ (waitCells q).toArray.toList, v.oneCell' = true by simpa using waits_one q)
      have W5 := Lib.hid (show (Try.prog.info? 179).map (·.zero) = some (some (.agg (zLate 0))) by kernel_rfl)
      clear hpp
      go_wp2_with (first
        | (with_reducible refine wpList_get rfl 179 (.tmp 14) rfl W _ rfl (waitCells q) _ HROW.out HAT.out Try.underlying179 rfl W1.out ?_)
        | (with_reducible refine wpList_alloc rfl 179 rfl (.agg (zLate 0)) W5.out ?_)
        | (refine wpList_fill rfl 179 (.tmp 5) (.tmp 15) rfl (waitCells q).toArray (zLate 0) _ _ rfl rfl W2.out W3.out W4.out ?_))
      have hcall := HF.out _ (HR.out.kept.alloc (.cells (waitCells q).toArray 179)) k hlt
      have HLD := Lib.hid (HR.out.disk.laid.alloc (.cells (waitCells q).toArray 179))
      have HSL := Lib.hid (show (m.laid p k).secs.length = m.secs.length from layTo_len p m.waits m.secs k)
      have HGK := Lib.hid (laid_good HG.out p k)
      cases hpk : p k
      · rw [hpk] at hcall
        refine hcall.mono ?_; rintro e w' ⟨rfl, rfl⟩
        have HPK := Lib.hid hpk
        clear hcall hpk
        go_wp2_with (fail)
        go_roundw
        case rel => exact ⟨k + 1, by omega, by go_num, RM.out HPK.out _⟩
        case measure => simp [intOf]; omega
      · rw [hpk] at hcall
        refine hcall.mono ?_; rintro e w' ⟨rfl, rfl⟩
        have HPK := Lib.hid hpk
        have hb := hpk
        have W6 := Lib.hid (Row.new wr 179 (waitCells q).toArray)
        have W7 := Lib.hid (wait_drop q)
        have W8 := Lib.hid (sec_size HP.out)
        have hlv : (loadVar 177 ⟨wr.heap.size, 1, none⟩).run Try.prog (wr.alloc (.cells (waitCells q).toArray 179)).drew = .ok (.agg (secCells q.2).toArray) (wr.alloc (.cells (waitCells q).toArray 179)).drew := by
          refine run_loadVar_mid _ wr.heap.size 1 177 (secCells q.2) _ ?_ Try.underlying177 rfl W8.out
          rw [← W7.out]
          exact (W6.out.drew).range 1 _
        have HLV := Lib.hid hlv
        have i0 : (0 : Int) ≤ (q.1 : Int) := by omega
        have i1 : (q.1 : Int) < (m.secs.length : Int) := by omega
        have r3 : g ≤ wr.heap.size := by omega
        have X1 := Lib.hid (show (Try.prog.info? 177).map (·.size) = some (secCells q.2).toArray.size by simpa using sec_size HP.out)
        have X2 := Lib.hid (sec_fit HGK.out (show q.1 < (m.laid p k).secs.length by rw [HSL.out]; exact hpn) HP.out)
        have X3 := Lib.hid (show ∀ v ∈ (secCells q.2).toArray.toList, v.oneCell' = true by simpa using sec_one q.2)
        have X4 := Lib.hid (sec_put HGK.out (show q.1 < (m.laid p k).secs.length by rw [HSL.out]; exact hpn) HP.out)
        clear hcall hpk hlv hpn hb
        go_wp2_with (fail)
        refine wp_region_plan [0, 1, 2, 4, 6, 3, 5, 7, 8] [[9]] (by kernel_rfl) (by kernel_rfl) (fun _ _ _ _ _ h => h) ?_
        simp only [forks, pick, List.getElem?_cons_succ, List.getElem?_cons_zero, Option.getD_some]
        still_step
        still_step
        still_step
        still_step
        still_step
        still_step
        still_step
        refine still_get rfl 177 (.tmp 25) rfl (secCells q.2).toArray _ rfl HLV.out ?_
        still_step
        refine wpStill_nil ?_
        go_wp2_with (with_reducible refine wpList_putR rfl 177 (.tmp 27) (.tmp 26) rfl L (q.1 * 64) (secCells q.2).toArray rfl rfl HLD.out.drew X1.out X2.out X3.out _ X4.out ?_)
        go_roundw
        case rel => exact ⟨k + 1, by omega, by go_num, RH.out _ HPK.out ((Kept.refl _ _).alloc _).drew⟩
        case measure => simp [intOf]; omega
    · obtain rfl : k = m.waits.length := by omega
      have HD := Lib.hid HR.out.disk
      have HK := Lib.hid HR.out.kept
      have f1 := HR.out.disk.blk.frozen 1
      have hgl := HR.out.disk.blk.lt
      have OWN := Lib.hid HR.out.disk.own
      have ZI := Lib.hid (show (Try.prog.info? 179).map (·.zero) = some (some (.agg (zLate 0))) by kernel_rfl)
      have Z1 := Lib.hid (zLate_one 0)
      have HRR := Lib.hid HR.out
      rw [HWV.out] at OWN HRR
      clear hk hlt
      have GW := Lib.hid HRR.out.disk.gw
      rcases A with _ | ⟨Wb, Wo, Ws⟩
      · have hc := own_cap OWN.out rfl
        subst hc
        go_wp2_with (first
          | (refine wpList_clear (size := 65) rfl 161 (.tmp 32) rfl Try.underlying161 (.agg (zLate 0)) ZI.out rfl Z1.out (by decide) OWN.out rfl ?_; intro w2 ys ho hg hsz; have hb := hg.block g hgl (fun e => GW.out e.symm); have r1' := (World.cell?_of_block (a := ⟨g, 1, none⟩) hb).trans r1; have f1' := (World.frozen?_of_block (a := ⟨g, 1, none⟩) hb).trans f1; have HO := Lib.hid ho; have HGR := Lib.hid hg; clear ho hg hb hsz)
          | (go_at_call 99999; skip))
        go_end0
        exact ⟨rfl, lay_end HG.out HRR.out HGR.out HO.out⟩
      · go_wp2_with (first
          | (refine wpList_clear (size := 65) rfl 161 (.tmp 32) rfl Try.underlying161 (.agg (zLate 0)) ZI.out rfl Z1.out (by decide) OWN.out rfl ?_; intro w2 ys ho hg hsz; have hb := hg.block g hgl (fun e => GW.out e.symm); have r1' := (World.cell?_of_block (a := ⟨g, 1, none⟩) hb).trans r1; have f1' := (World.frozen?_of_block (a := ⟨g, 1, none⟩) hb).trans f1; have HO := Lib.hid ho; have HGR := Lib.hid hg; clear ho hg hb hsz)
          | (go_at_call 99999; skip))
        go_end0
        exact ⟨rfl, lay_end HG.out HRR.out HGR.out HO.out⟩

end Go.Proofs.Ytooagoikiafgcaa.disk
