/-
  PROVED HERE: what trace.Starts, the document's Starts, and trace.Bound answer.
  CONDITIONS: each lemma names its own.
-/
import Derived.Test.YtooagoikiafgcaaTabSched
namespace Go.Proofs.Ytooagoikiafgcaa.tab
set_option linter.unusedVariables false
open Go.RowKit Go.Proofs.Ytooagoikiafgcaa.base Go.Proofs.Ytooagoikiafgcaa.obj Go.Proofs.Ytooagoikiafgcaa.mem Go.Proofs.Ytooagoikiafgcaa.sep Go.Proofs.Ytooagoikiafgcaa.plan

/-- an event: its tick, its other cells -/
structure Ev where
  tick : Int
  rest : List Value
instance : Inhabited Ev := ⟨⟨0, []⟩⟩
structure Ev.Ok (e : Ev) : Prop where
  len : e.rest.length = 10
  one : ∀ u ∈ e.rest, u.oneCell' = true
  t1 : e.tick ≤ 9223372036854775807
def Ev.cells (e : Ev) : List Value := .int .i64 e.tick :: e.rest
theorem Ev.Ok.clen {e : Ev} (h : e.Ok) : e.cells.length = 11 := by simp [Ev.cells, h.len]
theorem Ev.Ok.cone {e : Ev} (h : e.Ok) : ∀ u ∈ e.cells, u.oneCell' = true := by
  intro u hu
  rcases List.mem_cons.1 hu with rfl | hu
  · rfl
  · exact h.one u hu
def evs (l : List Ev) : List Value := (l.map Ev.cells).flatten
theorem evs_get {w : World} {B n : Nat} {A : Option Addr} {l : List Ev} (h : Sl w B 11 A n (evs l)) (hn : n = l.length) (ho : ∀ e ∈ l, e.Ok) {k : Nat} (hk : k < l.length) :
    ∃ b off, A = some ⟨b, off, none⟩ ∧ b < B ∧ w.rangeAt b (off + k * 11) l[k].cells := by
  obtain ⟨b, off, rfl, hbl, hc⟩ := h.2 (by omega)
  have h9 : ∀ x ∈ l.map Ev.cells, x.length = 11 := by
    intro x hx
    obtain ⟨a, ha, rfl⟩ := List.mem_map.1 hx
    exact (ho a ha).clen
  have e := flat_elem h9 (i := k) (by simpa using hk)
  have g : ∀ j, j < 11 → (evs l)[k * 11 + j]? = l[k].cells[j]? := by
    intro j hj
    have e2 : (((l.map Ev.cells).flatten.drop (k * 11)).take 11)[j]? = (l.map Ev.cells).flatten[k * 11 + j]? := by
      rw [List.getElem?_take, if_pos hj, List.getElem?_drop]
    rw [e] at e2
    rw [evs, ← e2]
    simp
  refine ⟨b, off, rfl, hbl, fun j v hv => ?_⟩
  have hj : j < 11 := by
    have := (List.getElem?_eq_some_iff.1 hv).1
    rw [(ho _ (List.getElem_mem hk)).clen] at this
    exact this
  have := hc (k * 11 + j) v ((g j hj).trans hv)
  rw [Nat.add_assoc]
  exact this
def startB (t : Tab) (part tick : Int) : Bool := t.right && (decide (0 ≤ tick) && ((partAt t tick == part) && startsAt t tick))
def startsL (t : Tab) (part : Int) (l : List Ev) : List Int := (l.filter fun e => startB t part e.tick).map Ev.tick
theorem startsL_snoc (t : Tab) (part : Int) {l : List Ev} {k : Nat} (hk : k < l.length) : startsL t part (l.take (k + 1)) = if startB t part l[k].tick = true then startsL t part (l.take k) ++ [l[k].tick] else startsL t part (l.take k) := by
  unfold startsL
  rw [List.take_succ_eq_append_getElem hk, List.filter_append, List.filter_cons, List.filter_nil]
  split <;> simp
theorem startsL_len (t : Tab) (part : Int) (l : List Ev) (k : Nat) : (startsL t part (l.take k)).length ≤ k := by
  unfold startsL
  rw [List.length_map]
  exact Nat.le_trans (List.length_filter_le _ _) (by rw [List.length_take]; omega)
theorem evZ : (Try.prog.info? 49).map (·.zero) = some (some (.agg #[.int .i64 0, .slice none 0 0, .int .i64 0, .slice none 0 0, .bool false, .int .i64 0, .slice none 0 0, .slice none 0 0, .int .i64 0, .int .i64 0, .bool false])) := by kernel_rfl
abbrev evZero : Array Value := #[.int .i64 0, .slice none 0 0, .int .i64 0, .slice none 0 0, .bool false, .int .i64 0, .slice none 0 0, .slice none 0 0, .int .i64 0, .int .i64 0, .bool false]
theorem evSize {e : Ev} (h : e.Ok) : (Try.prog.info? 49).map (·.size) = some e.cells.toArray.size := by
  rw [List.size_toArray, h.clen]
  kernel_rfl
section
variable {w : World} {t : Tab} {AP AW AC : Option Addr} {nP cP nW cW nC cC : Nat}
set_option maxRecDepth 100000 in
set_option maxHeartbeats 8000000 in
theorem starts_at (h : TabV w w.heap.size t AP nP cP AW nW cW AC nC cC) (A : Option Addr) (n c : Nat) (l : List Ev) (hn : n = l.length) (hm : n ≤ 1000000) (hs : Sl w w.heap.size 11 A n (evs l)) (ho : ∀ e ∈ l, e.Ok) (part : Int) :
    Calls Try.prog 20 #[tabAgg t.frame AP nP cP AW nW cW AC nC cC t.trial, .slice A n c, .int .i64 part] w fun e w' => ∃ v, e = .returned v ∧ w'.ownsRow w.heap.size 3 1 v (startsL t part l).length ((startsL t part l).map (.int .i64)) ∧ Below w.heap.size w w' := by
  have HV := Lib.hid h; have HN := Lib.hid hn; have HS := Lib.hid hs; have HO := Lib.hid ho
  have HAT := Lib.hid (fun (w' : World) (hb : Below w.heap.size w w') (tick : Int) (h1 : tick ≤ 9223372036854775807) => sAt_at (h.over hb) tick h1)
  obtain ⟨fr, hfr⟩ : ∃ fr, fr = t.frame := ⟨_, rfl⟩
  obtain ⟨tr, htr⟩ : ∃ tr, tr = t.trial := ⟨_, rfl⟩
  rw [← hfr, ← htr] at HAT ⊢
  obtain ⟨T, hT⟩ : ∃ T, T = w.heap.size := ⟨_, rfl⟩
  obtain ⟨w1, hw1⟩ : ∃ w1, w1 = w.alloc (.cells #[.int .i64 fr, .slice AP nP cP, .slice AW nW cW, .slice AC nC cC, .int .i64 tr] 39) := ⟨_, rfl⟩
  have H1 := Lib.hid (show St w w1 [own 3 1 (.slice none 0 0) 0 [], row T 39 (tabRow fr AP nP cP AW nW cW AC nC cC tr)] by
    rw [hw1, hT]
    exact ((St.nil w).new 39 _).addOwn (Below.refl _ _) (World.ownsRow_nil _ _ 3 1))
  have HW1 := Lib.hid hw1; have HT := Lib.hid hT
  clear h hw1 hT hfr htr hn hs ho
  go_enter Try.func20, Try.ntmps20
  go_upto_region 2 with fail
  rw [← HW1.out, ← HT.out]
  go_wp2_with (fail)
  go_loopw [7, 14] (fun s7 i wr => ∃ (k : Nat) (A : Option Addr) (c : Nat), k ≤ n ∧ i = .int .i64 k ∧ s7 = .slice A (startsL t part (l.take k)).length c ∧ St w wr [own 3 1 (.slice A (startsL t part (l.take k)).length c) (startsL t part (l.take k)).length ((startsL t part (l.take k)).map (.int .i64)), row T 39 (tabRow fr AP nP cP AW nW cW AC nC cC tr)]) (fun _ i _ => n - (intOf i).toNat)
  case atStart => exact ⟨0, none, 0, by omega, rfl, rfl, H1.out⟩
  case round =>
    obtain ⟨k, A2, c2, hk, rfl, rfl, hst⟩ := hrel
    have HST := Lib.hid hst
    have HLN := Lib.hid (startsL_len t part l k)
    obtain ⟨z, hz⟩ : ∃ z, z = (startsL t part (l.take k)).length := ⟨_, rfl⟩
    rw [← hz] at HST HLN ⊢
    have HZ := Lib.hid hz
    have hzk : z ≤ k := HLN.out
    clear hst H1 hz
    by_cases hlt : k < n
    · have hlt' : (k : Int) < (n : Int) := by omega
      have hk0 : (0 : Int) ≤ (k : Int) := by omega
      have hkl : k < l.length := by rw [← HN.out]; exact hlt
      obtain ⟨b, off, rfl, lb, hrg⟩ := evs_get ((HS.out.below HST.out.bel).more HST.out.bel.size) HN.out HO.out hkl
      have HSU := Lib.hid (startsL_snoc t part hkl)
      have HEO := Lib.hid (HO.out _ (List.getElem_mem hkl))
      generalize l[k] = ev at hrg HSU HEO
      have HRG := Lib.hid hrg
      have M1 := Lib.hid (show (Try.prog.info? 49).map (·.size) = some ev.cells.length by rw [HEO.out.clen]; kernel_rfl)
      have M2 := Lib.hid (evSize HEO.out)
      have M3 := Lib.hid (show evZero.size = ev.cells.toArray.size by rw [show ev.cells.toArray.size = 11 by rw [List.size_toArray, HEO.out.clen]]; rfl)
      have M4 := Lib.hid (show ∀ v ∈ ev.cells.toArray.toList, v.oneCell' = true from HEO.out.cone)
      clear hrg
      go_upto_region 5 with (first
        | (with_reducible refine wpList_load_mid rfl 49 (.tmp 16) rfl b (off + k * 11) rfl ev.cells _ HRG.out Try.underlying49 rfl M1.out ?_)
        | (with_reducible refine wpList_fill rfl 49 (.tmp 9) (.tmp 17) rfl ev.cells.toArray evZero _ _ rfl rfl M2.out M3.out M4.out ?_))
      obtain ⟨Z, hZ⟩ : ∃ Z, Z = wr.heap.size := ⟨_, rfl⟩
      obtain ⟨w5, hw5⟩ : ∃ w5, w5 = wr.alloc (.cells ev.cells.toArray 49) := ⟨_, rfl⟩
      have H5 := Lib.hid (show St w w5 [row T 39 (tabRow fr AP nP cP AW nW cW AC nC cC tr), row Z 49 ev.cells, own 3 1 (.slice A2 z c2) z ((startsL t part (l.take k)).map (.int .i64))] by
        rw [hw5, hZ]
        exact (HST.out.new 49 ev.cells.toArray).pick 2 rfl)
      have HZZ := Lib.hid hZ; have HW5 := Lib.hid hw5
      clear hZ hw5 lb M1 M2 M3 M4 HRG
      rw [← HW5.out, ← HZZ.out]
      have t0 : w5.cell? ⟨T, 0, none⟩ = some (.int .i64 fr) := H5.out.row.1.cell 0
      have t1 : w5.cell? ⟨T, 1, none⟩ = some (.slice AP nP cP) := H5.out.row.1.cell 1
      have t2 : w5.cell? ⟨T, 2, none⟩ = some (.slice AW nW cW) := H5.out.row.1.cell 2
      have t3 : w5.cell? ⟨T, 3, none⟩ = some (.slice AC nC cC) := H5.out.row.1.cell 3
      have t4 : w5.cell? ⟨T, 4, none⟩ = some (.int .i64 tr) := H5.out.row.1.cell 4
      have lT : T < w5.heap.size := H5.out.row.1.lt
      have z0 : w5.cell? ⟨Z, 0, none⟩ = some (.int .i64 ev.tick) := (H5.out.pick 1 rfl).row.1.cell 0
      have lZ : Z < w5.heap.size := (H5.out.pick 1 rfl).row.1.lt
      obtain ⟨tk, htk⟩ : ∃ tk, tk = ev.tick := ⟨_, rfl⟩
      rw [← htk] at z0 HSU
      have HCL := Lib.hid (HAT.out w5 H5.out.bel tk (by rw [htk]; exact HEO.out.t1))
      obtain ⟨a, b1, c1, d, e0, f, hv⟩ : ∃ a b c d e f, (atV t tk).1 = #[.int .i64 a, .int .i64 b, .int .i64 c, .int .i64 d, .bool e, .bool f] := by
        unfold atV
        split
        · split
          · exact ⟨_, _, _, _, _, _, rfl⟩
          · exact whenV_shape t tk
        · exact ⟨_, _, _, _, _, _, rfl⟩
      have HSB := Lib.hid (show startB t part tk = (decide ((atV t tk).2 = 0) && ((d == part) && f)) by
        unfold startB
        unfold atV at hv ⊢
        split at hv
        · rename_i hr
          rw [if_pos hr, hr]
          split at hv
          · rename_i hn
            rw [if_pos hn, decide_eq_false (by omega : ¬ 0 ≤ tk)]; rfl
          · rename_i hn
            rw [if_neg hn, decide_eq_true (by omega : 0 ≤ tk)]
            unfold whenV at hv
            simp only [Array.mk.injEq, List.cons.injEq, Value.int.injEq, Value.bool.injEq, true_and, and_true] at hv
            obtain ⟨_, _, _, h4, _, h6⟩ := hv
            rw [h4, h6]; rfl
        · rename_i hr
          rw [if_neg hr]
          simp at hr
          rw [hr]; rfl)
      obtain ⟨er, her⟩ : ∃ er, er = (atV t tk).2 := ⟨_, rfl⟩
      rw [hv, ← her] at HCL
      rw [← her] at HSB
      have HTK := Lib.hid htk
      clear hv her htk
      go_wp2_with (fail)
      refine HCL.out.mono ?_
      rintro e w6 ⟨rfl, hb6⟩
      have H6 := Lib.hid (H5.out.below hb6)
      clear hb6 t0 t1 t2 t3 t4 lT z0 lZ HCL H5
      go_upto_region 6 with fail
      obtain ⟨O, hO⟩ : ∃ O, O = w6.heap.size := ⟨_, rfl⟩
      obtain ⟨w7, hw7⟩ : ∃ w7, w7 = w6.alloc (.cells #[.int .i64 a, .int .i64 b1, .int .i64 c1, .int .i64 d, .bool e0, .bool f] 130) := ⟨_, rfl⟩
      have H7 := Lib.hid (show St w w7 [row O 130 [.int .i64 a, .int .i64 b1, .int .i64 c1, .int .i64 d, .bool e0, .bool f], row T 39 (tabRow fr AP nP cP AW nW cW AC nC cC tr), row Z 49 ev.cells, own 3 1 (.slice A2 z c2) z ((startsL t part (l.take k)).map (.int .i64))] by
        rw [hw7, hO]
        exact H6.out.new 130 #[.int .i64 a, .int .i64 b1, .int .i64 c1, .int .i64 d, .bool e0, .bool f])
      have HOO := Lib.hid hO; have HW7 := Lib.hid hw7
      clear hO hw7 H6
      rw [← HW7.out, ← HOO.out]
      have o3 : w7.cell? ⟨O, 3, none⟩ = some (.int .i64 d) := H7.out.row.1.cell 3
      have o5 : w7.cell? ⟨O, 5, none⟩ = some (.bool f) := H7.out.row.1.cell 5
      have lO : O < w7.heap.size := H7.out.row.1.lt
      have z0 : w7.cell? ⟨Z, 0, none⟩ = some (.int .i64 tk) := by rw [HTK.out]; exact (H7.out.pick 2 rfl).row.1.cell 0
      have lZ : Z < w7.heap.size := (H7.out.pick 2 rfl).row.1.lt
      have HE := Lib.hid (show St w w7 [own 3 1 (.slice A2 z c2) z ((startsL t part (l.take k)).map (.int .i64)), row T 39 (tabRow fr AP nP cP AW nW cW AC nC cC tr)] from ((((H7.out.drop.pick 1 rfl).drop).pick 1 rfl)))
      by_cases c0 : er = 0
      · have b0 : (er == 0) = true := by simpa using c0
        rw [decide_eq_true c0, Bool.true_and] at HSB
        clear c0
        by_cases c1 : d = part
        · have b1' : (d == part) = true := by simpa using c1
          rw [b1', Bool.true_and] at HSB
          clear c1
          cases hf : f
          · rw [hf] at HSB o5
            have HQ := Lib.hid (HSU.out.trans (if_neg (by rw [HSB.out]; decide)))
            clear hf
            go_wp2_with (fail)
            go_roundw
            case rel => exact ⟨k + 1, A2, c2, by omega, by go_num, by rw [HQ.out, HZ.out], by rw [HQ.out, ← HZ.out]; exact HE.out⟩
            case measure => simp [intOf] <;> omega
          · rw [hf] at HSB o5
            have HQ := Lib.hid (HSU.out.trans (if_pos HSB.out))
            clear hf
            have H9 := Lib.hid ((HE.out.new 3 #[.int .i64 tk]).pick 1 rfl)
            have HSL9 := Lib.hid (show Sl (w7.alloc (.cells #[.int .i64 tk] 3)) (w7.heap.size + 1) 1 (some ⟨w7.heap.size, 0, none⟩) 1 [.int .i64 tk] from sl_new (n := 1) rfl)
            go_wp2_with (at_builtin; refine app_row slInt rfl (.tmp 37) (.tmp 40) rfl H9.out.own rfl rfl HSL9.out (by simp [Value.oneCell']) (by omega) (by omega) (by unfold maxLen; omega) (H9.out.bel.size) ?_; intro g2 cap w9 ho hg hor hlt4; have H10 := Lib.hid (H9.out.grown hg ho (fun x hx => by injection hx with hx; rw [← hx]; exact hor)); clear ho hg hor hlt4)
            have HLEN := Lib.hid (show (startsL t part (l.take (k + 1))).length = z + 1 by rw [HQ.out, List.length_append, ← HZ.out]; rfl)
            go_roundw
            case rel => exact ⟨k + 1, some ⟨g2, 0, none⟩, cap, by omega, by go_num, by rw [HLEN.out], by
              rw [HLEN.out, HQ.out, List.map_append]
              exact ((H10.out.pick 1 rfl).drop)⟩
            case measure => simp [intOf] <;> omega
        · have b1' : (d == part) = false := by simpa using c1
          rw [b1', Bool.false_and] at HSB
          have HQ := Lib.hid (HSU.out.trans (if_neg (by rw [HSB.out]; decide)))
          clear c1
          go_wp2_with (fail)
          go_roundw
          case rel => exact ⟨k + 1, A2, c2, by omega, by go_num, by rw [HQ.out, HZ.out], by rw [HQ.out, ← HZ.out]; exact HE.out⟩
          case measure => simp [intOf] <;> omega
      · have b0 : (er == 0) = false := by simpa using c0
        rw [decide_eq_false c0, Bool.false_and] at HSB
        have HQ := Lib.hid (HSU.out.trans (if_neg (by rw [HSB.out]; decide)))
        clear c0
        go_wp2_with (fail)
        go_roundw
        case rel => exact ⟨k + 1, A2, c2, by omega, by go_num, by rw [HQ.out, HZ.out], by rw [HQ.out, ← HZ.out]; exact HE.out⟩
        case measure => simp [intOf] <;> omega
    · have hkn : k = n := by omega
      have hlt' : ¬ (k : Int) < (n : Int) := by omega
      have HQ := Lib.hid (show startsL t part (l.take k) = startsL t part l by rw [List.take_of_length_le (by rw [← HN.out]; omega)])
      clear hkn
      go_wp2_with (fail)
      go_ret
      exact ⟨_, rfl, by rw [← HQ.out, ← HZ.out]; exact HST.out.own, HST.out.bel⟩
set_option maxRecDepth 100000 in
set_option maxHeartbeats 8000000 in
theorem rstarts_at (h : TabV w w.heap.size t AP nP cP AW nW cW AC nC cC) (hr : t.right = true) (A : Option Addr) (n c : Nat) (l : List Ev) (hn : n = l.length) (hm : n ≤ 1000000) (hs : Sl w w.heap.size 11 A n (evs l)) (ho : ∀ e ∈ l, e.Ok) (part : Int) :
    Calls Try.prog 25 #[tabAgg t.frame AP nP cP AW nW cW AC nC cC t.trial, .slice A n c, .int .i64 part] w fun e w' => ∃ v, e = .returned v ∧ w'.ownsRow w.heap.size 3 1 v (startsL t part l).length ((startsL t part l).map (.int .i64)) ∧ Below w.heap.size w w' := by
  have HV := Lib.hid h; have HN := Lib.hid hn; have HS := Lib.hid hs; have HO := Lib.hid ho; have HRR := Lib.hid hr
  obtain ⟨q1, q2, _⟩ := right_frame hr
  have HPO := Lib.hid (fun (w' : World) (hb : Below w.heap.size w w') (tick : Int) (h0 : 0 ≤ tick) (h1 : tick ≤ 9223372036854775807) => pos_at (h.over hb) hr tick h0 h1)
  have HWN := Lib.hid (fun (w' : World) (hb : Below w.heap.size w w') (pos : Int) => rwin_at (h.over hb) hr pos)
  have HWC := Lib.hid (fun pos : Int => show winAt t pos = -1 ∨ ∃ k : Nat, ∃ hk : k < t.wins.length, winAt t pos = k ∧ winGet t (winAt t pos) = t.wins[k] from by
    have e : winAt t pos = findI (winP pos) t.wins := by unfold winAt; rw [hr]; rfl
    rcases findI_cases (winP pos) t.wins with h | ⟨k, hk, h, _⟩
    · exact .inl (e.trans h)
    · refine .inr ⟨k, hk, e.trans h, ?_⟩
      rw [e, h]
      unfold winGet
      rw [Int.toNat_natCast, List.getD_eq_getElem?_getD, List.getElem?_eq_getElem hk]
      rfl)
  obtain ⟨fr, hfr⟩ : ∃ fr, fr = t.frame := ⟨_, rfl⟩
  obtain ⟨tr, htr⟩ : ∃ tr, tr = t.trial := ⟨_, rfl⟩
  rw [← hfr] at q1 q2
  rw [← hfr, ← htr] at HPO HWN ⊢
  have HF := Lib.hid hfr
  obtain ⟨T, hT⟩ : ∃ T, T = w.heap.size := ⟨_, rfl⟩
  obtain ⟨w1, hw1⟩ : ∃ w1, w1 = w.alloc (.cells #[.int .i64 fr, .slice AP nP cP, .slice AW nW cW, .slice AC nC cC, .int .i64 tr] 39) := ⟨_, rfl⟩
  have H1 := Lib.hid (show St w w1 [own 3 1 (.slice none 0 0) 0 [], row T 39 (tabRow fr AP nP cP AW nW cW AC nC cC tr)] by
    rw [hw1, hT]
    exact ((St.nil w).new 39 _).addOwn (Below.refl _ _) (World.ownsRow_nil _ _ 3 1))
  have HW1 := Lib.hid hw1; have HT := Lib.hid hT
  clear h hw1 hT hfr htr hn hs ho hr
  go_enter Try.func25, Try.ntmps25
  go_upto_region 2 with fail
  rw [← HW1.out, ← HT.out]
  go_wp2_with (fail)
  go_loopw [7, 8] (fun s7 i wr => ∃ (k : Nat) (A : Option Addr) (c : Nat), k ≤ n ∧ i = .int .i64 k ∧ s7 = .slice A (startsL t part (l.take k)).length c ∧ St w wr [own 3 1 (.slice A (startsL t part (l.take k)).length c) (startsL t part (l.take k)).length ((startsL t part (l.take k)).map (.int .i64)), row T 39 (tabRow fr AP nP cP AW nW cW AC nC cC tr)]) (fun _ i _ => n - (intOf i).toNat)
  case atStart => exact ⟨0, none, 0, by omega, rfl, rfl, H1.out⟩
  case round =>
    obtain ⟨k, A2, c2, hk, rfl, rfl, hst⟩ := hrel
    have HST := Lib.hid hst
    have HLN := Lib.hid (startsL_len t part l k)
    obtain ⟨z, hz⟩ : ∃ z, z = (startsL t part (l.take k)).length := ⟨_, rfl⟩
    rw [← hz] at HST HLN ⊢
    have HZ := Lib.hid hz
    have hzk : z ≤ k := HLN.out
    clear hst H1 hz
    by_cases hlt : k < n
    · have hlt' : (k : Int) < (n : Int) := by omega
      have hk0 : (0 : Int) ≤ (k : Int) := by omega
      have hkl : k < l.length := by rw [← HN.out]; exact hlt
      obtain ⟨b, off, rfl, lb0, hrg⟩ := evs_get HS.out HN.out HO.out hkl
      have HSU := Lib.hid (startsL_snoc t part hkl)
      have HEO := Lib.hid (HO.out _ (List.getElem_mem hkl))
      generalize l[k] = ev at hrg HSU HEO
      obtain ⟨tk, htk⟩ : ∃ tk, tk = ev.tick := ⟨_, rfl⟩
      have HCE := Lib.hid (show ∀ w', Below w.heap.size w w' → w'.cell? ⟨b, off + k * 11, none⟩ = some (.int .i64 tk) from fun w' hb => by
        rw [hb.cell (p := ⟨b, off + k * 11, none⟩) lb0, htk]
        exact hrg 0 _ rfl)
      have htk1 : tk ≤ 9223372036854775807 := by rw [htk]; exact HEO.out.t1
      rw [← htk] at HSU
      have HSB := Lib.hid (show startB t part tk = (decide (0 ≤ tk) && ((partAt t tk == part) && startsAt t tk)) by unfold startB; rw [HRR.out]; rfl)
      have HLB := Lib.hid lb0
      clear hrg htk lb0
      have c0 := HCE.out wr HST.out.bel
      have lb : b < wr.heap.size := Nat.lt_of_lt_of_le HLB.out HST.out.bel.size
      by_cases hneg : tk < 0
      · rw [decide_eq_false (by omega : ¬ 0 ≤ tk), Bool.false_and] at HSB
        have HQ := Lib.hid (HSU.out.trans (if_neg (by rw [HSB.out]; decide)))
        have HE := Lib.hid HST.out
        go_wp2_with (fail)
        go_roundw
        case rel => exact ⟨k + 1, A2, c2, by omega, by go_num, by rw [HQ.out, HZ.out], by rw [HQ.out, ← HZ.out]; exact HE.out⟩
        case measure => simp [intOf] <;> omega
      · rw [decide_eq_true (by omega : 0 ≤ tk), Bool.true_and] at HSB
        have HS2 := Lib.hid HST.out.swap
        have t0 : wr.cell? ⟨T, 0, none⟩ = some (.int .i64 fr) := HS2.out.row.1.cell 0
        have t1 : wr.cell? ⟨T, 1, none⟩ = some (.slice AP nP cP) := HS2.out.row.1.cell 1
        have t2 : wr.cell? ⟨T, 2, none⟩ = some (.slice AW nW cW) := HS2.out.row.1.cell 2
        have t3 : wr.cell? ⟨T, 3, none⟩ = some (.slice AC nC cC) := HS2.out.row.1.cell 3
        have t4 : wr.cell? ⟨T, 4, none⟩ = some (.int .i64 tr) := HS2.out.row.1.cell 4
        have lT : T < wr.heap.size := HS2.out.row.1.lt
        have HP := Lib.hid (HPO.out wr.drew HST.out.bel.drew tk (by omega) htk1)
        obtain ⟨pos, hpos⟩ : ∃ pos, pos = tk % t.frame := ⟨_, rfl⟩
        have HPP := Lib.hid hpos
        have hpf : tk % fr = pos := by rw [hpos, HF.out]
        rw [hpf] at HP
        clear hpos hpf
        go_upto_region 6 with fail
        refine wp_region_plan [1, 2, 3, 4, 0, 5] [[6, 7]] (by kernel_rfl) (by kernel_rfl) (fun _ _ _ _ _ h => h) ?_
        simp only [forks, pick, List.getElem?_cons_succ, List.getElem?_cons_zero, Option.getD_some]
        iterate 6 still_step
        refine wpStill_nil ?_
        go_wp2_with (fail)
        refine HP.out.mono ?_
        rintro e w5 ⟨rfl, hb5⟩
        have H5 := Lib.hid (HS2.out.drew.below hb5)
        clear hb5 t0 t1 t2 t3 t4 lT c0 lb HP
        have t0 : w5.cell? ⟨T, 0, none⟩ = some (.int .i64 fr) := H5.out.row.1.cell 0
        have t1 : w5.cell? ⟨T, 1, none⟩ = some (.slice AP nP cP) := H5.out.row.1.cell 1
        have t2 : w5.cell? ⟨T, 2, none⟩ = some (.slice AW nW cW) := H5.out.row.1.cell 2
        have t3 : w5.cell? ⟨T, 3, none⟩ = some (.slice AC nC cC) := H5.out.row.1.cell 3
        have t4 : w5.cell? ⟨T, 4, none⟩ = some (.int .i64 tr) := H5.out.row.1.cell 4
        have lT : T < w5.heap.size := H5.out.row.1.lt
        have HPA := Lib.hid (show partAt t tk = if winAt t pos ≥ 0 then (winGet t (winAt t pos)).a else -1 by rw [HPP.out]; rfl)
        have HSA := Lib.hid (show startsAt t tk = (decide (winAt t pos ≥ 0) && ((winGet t (winAt t pos)).b == pos)) by rw [HPP.out]; rfl)
        have HW := Lib.hid (HWN.out w5 H5.out.bel pos)
        have hcase := HWC.out pos
        obtain ⟨wi, hwi⟩ : ∃ wi, wi = winAt t pos := ⟨_, rfl⟩
        rw [← hwi] at HW HPA HSA hcase
        clear hwi
        go_wp2_with (fail)
        refine HW.out.mono ?_
        rintro e w6 ⟨rfl, hb6⟩
        have H6 := Lib.hid (H5.out.below hb6)
        clear hb6 t0 t1 t2 t3 t4 lT HW H5 HS2
        have HE := Lib.hid H6.out.swap
        have t2 : w6.cell? ⟨T, 2, none⟩ = some (.slice AW nW cW) := H6.out.row.1.cell 2
        have lT : T < w6.heap.size := H6.out.row.1.lt
        have c0 := HCE.out w6 H6.out.bel
        have lb : b < w6.heap.size := Nat.lt_of_lt_of_le HLB.out H6.out.bel.size
        rcases hcase with hno | ⟨j, hj, hwk, hget⟩
        · have HQ := Lib.hid (HSU.out.trans (if_neg (by rw [HSB.out, HSA.out, hno]; simp)))
          have hlt9 : ¬ wi ≥ 0 := by omega
          clear hno
          go_wp2_with (fail)
          go_roundw
          case rel => exact ⟨k + 1, A2, c2, by omega, by go_num, by rw [HQ.out, HZ.out], by rw [HQ.out, ← HZ.out]; exact HE.out⟩
          case measure => simp [intOf] <;> omega
        · subst hwk
          have hj0 : (0 : Int) ≤ (j : Int) := by omega
          have hjn : j < nW := by rw [HV.out.lw]; exact hj
          have hj1 : (j : Int) < (nW : Int) := by omega
          have hjge : (j : Int) ≥ 0 := by omega
          obtain ⟨b', off', rfl, lb', d0, d1, d2⟩ := t3s_get (HV.out.over H6.out.bel).ws HV.out.lw hj
          have HPA2 := Lib.hid (show partAt t tk = t.wins[j].a by rw [HPA.out, if_pos hjge, hget])
          have HSA2 := Lib.hid (show startsAt t tk = (t.wins[j].b == pos) by rw [HSA.out, decide_eq_true hjge, hget, Bool.true_and])
          generalize t.wins[j] = x at d0 d1 HPA2 HSA2 hget
          obtain ⟨xa, xb, xc⟩ := x
          dsimp only at d0 d1 HPA2 HSA2
          rw [HPA2.out, HSA2.out] at HSB
          clear d2 hget hj
          by_cases e1 : xa = part
          · have b1 : (xa == part) = true := by simpa using e1
            rw [b1, Bool.true_and] at HSB
            clear e1
            by_cases e2 : xb = pos
            · have b2 : (xb == pos) = true := by simpa using e2
              have HQ := Lib.hid (HSU.out.trans (if_pos (by rw [HSB.out]; exact b2)))
              clear e2
              have H9 := Lib.hid ((HE.out.new 3 #[.int .i64 tk]).pick 1 rfl)
              have HSL9 := Lib.hid (show Sl (w6.alloc (.cells #[.int .i64 tk] 3)) (w6.heap.size + 1) 1 (some ⟨w6.heap.size, 0, none⟩) 1 [.int .i64 tk] from sl_new (n := 1) rfl)
              go_wp2_with (at_builtin; refine app_row slInt rfl (.tmp 55) (.tmp 61) rfl H9.out.own rfl rfl HSL9.out (by simp [Value.oneCell']) (by omega) (by omega) (by unfold maxLen; omega) (H9.out.bel.size) ?_; intro g2 cap w9 ho hg hor hlt4; have H10 := Lib.hid (H9.out.grown hg ho (fun x hx => by injection hx with hx; rw [← hx]; exact hor)); clear ho hg hor hlt4)
              have HLEN := Lib.hid (show (startsL t part (l.take (k + 1))).length = z + 1 by rw [HQ.out, List.length_append, ← HZ.out]; rfl)
              go_roundw
              case rel => exact ⟨k + 1, some ⟨g2, 0, none⟩, cap, by omega, by go_num, by rw [HLEN.out], by
                rw [HLEN.out, HQ.out, List.map_append]
                exact ((H10.out.pick 1 rfl).drop)⟩
              case measure => simp [intOf] <;> omega
            · have b2 : (xb == pos) = false := by simpa using e2
              have HQ := Lib.hid (HSU.out.trans (if_neg (by rw [HSB.out, b2]; decide)))
              clear e2
              go_wp2_with (fail)
              go_roundw
              case rel => exact ⟨k + 1, A2, c2, by omega, by go_num, by rw [HQ.out, HZ.out], by rw [HQ.out, ← HZ.out]; exact HE.out⟩
              case measure => simp [intOf] <;> omega
          · have b1 : (xa == part) = false := by simpa using e1
            rw [b1, Bool.false_and] at HSB
            have HQ := Lib.hid (HSU.out.trans (if_neg (by rw [HSB.out]; decide)))
            clear e1
            go_wp2_with (fail)
            go_roundw
            case rel => exact ⟨k + 1, A2, c2, by omega, by go_num, by rw [HQ.out, HZ.out], by rw [HQ.out, ← HZ.out]; exact HE.out⟩
            case measure => simp [intOf] <;> omega
    · have hkn : k = n := by omega
      have hlt' : ¬ (k : Int) < (n : Int) := by omega
      have HQ := Lib.hid (show startsL t part (l.take k) = startsL t part l by rw [List.take_of_length_le (by rw [← HN.out]; omega)])
      clear hkn
      go_wp2_with (fail)
      go_ret
      exact ⟨_, rfl, by rw [← HQ.out, ← HZ.out]; exact HST.out.own, HST.out.bel⟩
def clampK (x : Int) : Int := if 1000 < if x < 0 then 0 else x then 1000 else if x < 0 then 0 else x
def boundV (t : Tab) (blocks losses : Int) : Int := if t.right then (clampK losses + 1) * (clampK blocks + 2) * (36 * t.frame + 12) else 0
theorem clampK_in (x : Int) : 0 ≤ clampK x ∧ clampK x ≤ 1000 := by
  unfold clampK
  split
  · omega
  · split <;> omega
theorem mul_in {a b A B : Int} (a0 : 0 ≤ a) (a1 : a ≤ A) (b0 : 0 ≤ b) (b1 : b ≤ B) : 0 ≤ a * b ∧ a * b ≤ A * B :=
  ⟨Int.mul_nonneg a0 b0, Int.mul_le_mul a1 b1 b0 (by omega)⟩
set_option maxRecDepth 100000 in
set_option maxHeartbeats 8000000 in
theorem bound_at (h : TabV w w.heap.size t AP nP cP AW nW cW AC nC cC) (blocks losses : Int) :
    Calls Try.prog 22 #[tabAgg t.frame AP nP cP AW nW cW AC nC cC t.trial, .int .i64 blocks, .int .i64 losses] w fun e w' => e = .returned (.int .i64 (boundV t blocks losses)) ∧ Below w.heap.size w w' := by
  have HV := Lib.hid h
  have HR := Lib.hid (fun (w' : World) (hb : Below w.heap.size w w') => right_at (h.over hb))
  have HBV := Lib.hid (show boundV t blocks losses = if t.right then (clampK losses + 1) * (clampK blocks + 2) * (36 * t.frame + 12) else 0 from rfl)
  have HFR := Lib.hid (fun hr => right_frame (t := t) hr)
  obtain ⟨fr, hfr⟩ : ∃ fr, fr = t.frame := ⟨_, rfl⟩
  obtain ⟨tr, htr⟩ : ∃ tr, tr = t.trial := ⟨_, rfl⟩
  rw [← hfr, ← htr] at HR ⊢
  rw [← hfr] at HFR HBV
  obtain ⟨T, hT⟩ : ∃ T, T = w.heap.size := ⟨_, rfl⟩
  obtain ⟨w1, hw1⟩ : ∃ w1, w1 = w.alloc (.cells #[.int .i64 fr, .slice AP nP cP, .slice AW nW cW, .slice AC nC cC, .int .i64 tr] 39) := ⟨_, rfl⟩
  have H1 := Lib.hid (show St w w1 [row T 39 (tabRow fr AP nP cP AW nW cW AC nC cC tr)] by rw [hw1, hT]; exact (St.nil w).new _ _)
  have HW1 := Lib.hid hw1; have HT := Lib.hid hT
  clear h hw1 hT hfr htr
  go_enter Try.func22, Try.ntmps22
  go_upto_region 1 with fail
  rw [← HW1.out, ← HT.out]
  have t0 : w1.cell? ⟨T, 0, none⟩ = some (.int .i64 fr) := H1.out.row.1.cell 0
  have t1 : w1.cell? ⟨T, 1, none⟩ = some (.slice AP nP cP) := H1.out.row.1.cell 1
  have t2 : w1.cell? ⟨T, 2, none⟩ = some (.slice AW nW cW) := H1.out.row.1.cell 2
  have t3 : w1.cell? ⟨T, 3, none⟩ = some (.slice AC nC cC) := H1.out.row.1.cell 3
  have t4 : w1.cell? ⟨T, 4, none⟩ = some (.int .i64 tr) := H1.out.row.1.cell 4
  have lT : T < w1.heap.size := H1.out.row.1.lt
  go_wp2_with (fail)
  refine (HR.out w1 H1.out.bel).mono ?_
  rintro e w2 ⟨rfl, hb2⟩
  have H2 := Lib.hid (H1.out.below hb2)
  clear hb2 t0 t1 t2 t3 t4 lT
  cases hr : t.right
  · have HQ := Lib.hid (show boundV t blocks losses = 0 by rw [HBV.out, hr]; rfl)
    clear hr
    go_wp2_with (fail)
    go_ret
    exact ⟨ret_int HQ.out.symm, H2.out.bel⟩
  · obtain ⟨f1, f2, _⟩ := HFR.out hr
    have HQ := Lib.hid (show boundV t blocks losses = (clampK losses + 1) * (clampK blocks + 2) * (36 * fr + 12) by rw [HBV.out, hr]; rfl)
    have t0 : w2.cell? ⟨T, 0, none⟩ = some (.int .i64 fr) := H2.out.row.1.cell 0
    have lT : T < w2.heap.size := H2.out.row.1.lt
    clear hr
    go_upto_region 4 with fail
    have hp := clampK_in blocks
    have hq := clampK_in losses
    obtain ⟨p, hpp⟩ : ∃ p, p = clampK blocks := ⟨_, rfl⟩
    obtain ⟨q, hqq⟩ : ∃ q, q = clampK losses := ⟨_, rfl⟩
    rw [show (if 1000 < if blocks < 0 then 0 else blocks then 1000 else if blocks < 0 then 0 else blocks) = p from hpp.symm, show (if 1000 < if losses < 0 then 0 else losses then 1000 else if losses < 0 then 0 else losses) = q from hqq.symm]
    rw [← hpp, ← hqq] at HQ
    rw [← hpp] at hp
    rw [← hqq] at hq
    obtain ⟨p0, p1⟩ := hp
    obtain ⟨q0, q1⟩ := hq
    obtain ⟨m0, m1⟩ := mul_in (show 0 ≤ q + 1 by omega) (show q + 1 ≤ 1001 by omega) (show 0 ≤ p + 2 by omega) (show p + 2 ≤ 1002 by omega)
    obtain ⟨n0, n1⟩ := mul_in m0 m1 (show 0 ≤ 36 * fr + 12 by omega) (show 36 * fr + 12 ≤ 2316 by omega)
    clear hpp hqq
    go_wp2_with (fail)
    all_goals
      go_ret
      exact ⟨ret_int HQ.out.symm, H2.out.bel⟩
end
end Go.Proofs.Ytooagoikiafgcaa.tab
