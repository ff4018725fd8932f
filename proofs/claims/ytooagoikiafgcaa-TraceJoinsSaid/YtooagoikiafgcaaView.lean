/-
  PROVED HERE: trace.View's answer: the rows of a log, as plain Lean has them, in a row of the call's own.
  CONDITIONS: the theorem names its own.
-/
import Derived.Test.YtooagoikiafgcaaRowsOne
import Derived.Test.YtooagoikiafgcaaRangeAll
import Derived.RangeFuncBox
namespace Go.Proofs.Ytooagoikiafgcaa.joins
set_option linter.unusedVariables false
open Go.RowKit Go.Shelf Go.Proofs.Ytooagoikiafgcaa.base Go.Proofs.Ytooagoikiafgcaa.obj Go.Proofs.Ytooagoikiafgcaa.mem Go.Proofs.Ytooagoikiafgcaa.tab Go.Proofs.Ytooagoikiafgcaa.sep Go.Proofs.Ytooagoikiafgcaa.plan Go.Proofs.Ytooagoikiafgcaa.round
attribute [local go_sem] Oper.semAt_some

theorem infoRow : (Try.prog.info? 145).map (fun i => (i.zero, i.size, i.bytes)) = some (some (.agg #[.int .i64 0, .bool false, .bool false, .int .i64 0, .int .i64 0, .slice none 0 0, .int .i64 0, .slice none 0 0, .slice none 0 0, .int .i64 0, .int .i64 0]), 11, 128) := by kernel_rfl
theorem slRow : SlT Try.prog 72 145 11 128 := by
  obtain ⟨i0, hi, hz0, hz1, hz2⟩ := info_parts infoRow
  exact ⟨Try.underlying72, ⟨i0, _, hi, hz0, hz1, hz2, rfl⟩, by decide⟩
def rwc (l : List RowC) : List Value := l.flatMap RowC.cells
theorem rwc_snoc (l : List RowC) (x : RowC) : rwc (l ++ [x]) = rwc l ++ x.cells := by simp [rwc]
theorem RowC.one (x : RowC) : ∀ u ∈ x.cells, u.oneCell' = true := by
  intro u hu
  simp only [RowC.cells, List.mem_cons, List.not_mem_nil, or_false] at hu
  rcases hu with rfl | rfl | rfl | rfl | rfl | rfl | rfl | rfl | rfl | rfl | rfl <;> rfl

/-- rows stay behind a step that turns a block of another type -/
theorem own_turn {W W' : World} {B : Nat} {e size n : Nat} {v : Value} {xs : List Value} {row : Option Nat} (h : W.ownsRow B e size v n xs) (hg : W.grownBy W' row)
    (hr : ∀ g, row = some g → ∀ cs fz, W.heap[g]? ≠ some (.cells cs e fz)) : W'.ownsRow B e size v n xs := by
  refine h.kept hg ?_
  rcases h.2 with ⟨rfl, _⟩ | ⟨g, cap, cur, rfl, _, hgb, _⟩
  · exact .inl rfl
  · refine .inr fun e2 => ?_
    exact hr g (by simpa [Value.ownBlock] using e2.symm) _ _ hgb
theorem RowC.In.turn {W W' : World} {B : Nat} {x : RowC} {row : Option Nat} (h : x.In W B) (hg : W.grownBy W' row) (hr : ∀ g, row = some g → ∀ cs fz, W.heap[g]? ≠ some (.cells cs 152 fz) ∧ W.heap[g]? ≠ some (.cells cs 3 fz)) : x.In W' B :=
  ⟨own_turn h.sent hg fun g e cs fz => (hr g e cs fz).1, own_turn h.stack hg fun g e cs fz => (hr g e cs fz).2, own_turn h.mem hg fun g e cs fz => (hr g e cs fz).2⟩
theorem RowC.In.alloc {W : World} {B : Nat} {x : RowC} (h : x.In W B) (o : Obj) : x.In (W.alloc o) B := ⟨h.sent.alloc o, h.stack.alloc o, h.mem.alloc o⟩
theorem RowC.In.put {W : World} {B : Nat} {x : RowC} (h : x.In W B) {l : Nat} {o : Obj} (o' : Obj) (hl : W.heap[l]? = some o) (ho : o.isCells = false) : x.In (W.putObj l o') B :=
  ⟨ownsRow_putObj h.sent o' hl ho, ownsRow_putObj h.stack o' hl ho, ownsRow_putObj h.mem o' hl ho⟩
theorem own_block {W : World} {B : Nat} {e size n : Nat} {v : Value} {xs : List Value} (h : W.ownsRow B e size v n xs) : ∀ g, v.ownBlock = some g → ∃ cs, W.heap[g]? = some (.cells cs e (0, 0)) := by
  intro g hg
  rcases h.2 with ⟨rfl, _⟩ | ⟨g', cap, cur, rfl, _, hgb, _⟩
  · cases hg
  · simp only [Value.ownBlock, Option.some.injEq] at hg
    subst hg
    exact ⟨cur, hgb⟩

theorem cells_new (w : World) (cs : Array Value) (t : TypeId) : ∀ j u, cs.toList[j]? = some u → (w.alloc (.cells cs t)).cell? ((⟨w.heap.size, 0, none⟩ : Addr).add j) = some u := by
  intro j u hu
  rw [addr_add, Nat.zero_add, World.cell?_alloc_new]
  simpa using hu
/-- a boxed slice that was appended to, and stored back -/
theorem box_append {W w1 : World} {base B : Nat} {t e : TypeId} {size : Nat} {v v' : Value} {k m : Nat} {xs ys : List Value} {tmp : Obj}
    (hv : Boxed W B t v) (hte : t ≠ e) (hB : B < base) (hrow : W.ownsRow base e size v k xs) (hsz : base ≤ W.heap.size) (hown' : w1.ownsRow base e size v' m ys) (hg : (W.alloc tmp).grownBy w1 v.ownBlock) :
    Boxed w1 B t v ∧ Boxed (w1.setCell ⟨B, 0, none⟩ v') B t v' ∧ (w1.setCell ⟨B, 0, none⟩ v').ownsRow base e size v' m ys ∧ KeepsOthers W (w1.setCell ⟨B, 0, none⟩ v') ∧ Below B W (w1.setCell ⟨B, 0, none⟩ v') := by
  obtain ⟨h1, h2, h3, h4, h5⟩ := hv.appended hte (hrow.mono (base' := B) (by omega)) (by omega) (Nat.le_refl _) (hown'.mono (base' := B) (by omega)) hg
  exact ⟨h1, h2, hown'.kept (grownBy_setCell' w1 B v') (.inr (h1.not_row hte hown').symm), h4, h5⟩

set_option maxRecDepth 100000 in
set_option maxHeartbeats 4000000 in
theorem collect_in (w : World) (Bl Bp : Nat) (part : Int) (A : Option Addr) (n c : Nat) (evs : List EvC) (hn : n = evs.length) (hs : Sl w w.heap.size 11 A n (evc evs)) (hin : ∀ x ∈ evs, x.In w w.heap.size) (hm : n ≤ 100000)
    (hlen : ∀ x ∈ evs, x.d.booted.length ≤ 100000 ∧ x.d.sent.length ≤ 100000 ∧ x.d.stack.length ≤ 100000 ∧ x.d.mem.length ≤ 100000)
    (hBl : Bl < w.heap.size) (hBp : Bp < w.heap.size) (cl : w.cell? ⟨Bl, 0, none⟩ = some (.slice A n c)) (cp : w.cell? ⟨Bp, 0, none⟩ = some (.int .i64 part)) :
    CallsIn Fence.wide 10 Try.prog 103 #[.slice none 0 0, .func (.func 104) #[] #[.pointer (some ⟨Bl, 0, none⟩), .pointer (some ⟨Bp, 0, none⟩)]] w fun e W' =>
      ∃ v rs, e = .returned v ∧ rs.map RowC.d = viewL part (evs.map EvC.d) ∧ W'.ownsRow w.heap.size 145 11 v rs.length (rwc rs) ∧ (∀ x ∈ rs, x.In W' w.heap.size) ∧ Below w.heap.size w W' := by
  obtain ⟨i0, hi, hz0, hz1, hz2⟩ := info_parts infoRow
  have HS := Lib.hid hs; have HIN := Lib.hid hin; have HLEN := Lib.hid hlen; have HN := Lib.hid hn
  clear hs hin hlen hn
  refine callsIn_of_wp_marks Try.func103 rfl trivial ?_ rfl
  simp only [Try.ntmps103, List.size_toArray, List.length_cons, List.length_nil, Nat.reduceAdd, Nat.reduceSub, Array.replicate_succ, Array.replicate_zero, List.push_toArray, List.append_toArray, List.nil_append, List.cons_append]
  gi_wp2
  obtain ⟨W0, hW0⟩ : ∃ W0 : World, w.alloc (.cells #[.slice none 0 0] 72) = W0 := ⟨_, rfl⟩
  have hsz : W0.heap.size = w.heap.size + 1 := by rw [← hW0]; simp
  have bO : Boxed W0 w.heap.size 72 (.slice none 0 0) := by rw [← hW0]; exact Boxed.new w _ _
  have hB0 : Below w.heap.size w W0 := by rw [← hW0]; exact (Below.refl _ w).alloc (Nat.le_refl _) _
  rw [hW0]
  refine range_all rfl (by omega) (gf := 104) (lb := #[.pointer (some ⟨Bl, 0, none⟩), .pointer (some ⟨Bp, 0, none⟩)]) rfl trivial (enters_of Try.func104 (by kernel_rfl) rfl)
    (encs := fun x : RowC => #[Value.agg x.cells.toArray]) (Kp := Below w.heap.size) (S := fun ys => ys.map RowC.d = viewL part (evs.map EvC.d)) (N := n) (E := fun x W => x.In W w.heap.size) ?seq belowK_t (belowK_b (by omega)) (fun _ => rfl)
    (fun pre W => ((∃ v, Boxed W w.heap.size 72 v ∧ W.ownsRow (w.heap.size + 1) 145 11 v pre.length (rwc pre) ∧ True) ∧ (∀ x ∈ pre, x.In W w.heap.size)) ∧ (Below w.heap.size w W ∧ w.heap.size + 1 ≤ W.heap.size))
    ?own ⟨⟨⟨_, bO, World.ownsRow_nil _ _ _ _, trivial⟩, by intro x hx; cases hx⟩, hB0, by omega⟩
    (fun x a' W => ∃ g, Row W g 145 x.cells ∧ x.In W w.heap.size ∧ a' = { tmps := #[.slice none 0 0, .func (.func 104) #[] #[.pointer (some ⟨Bl, 0, none⟩), .pointer (some ⟨Bp, 0, none⟩)], .pointer (some ⟨w.heap.size, 0, none⟩), undef, .slice none 0 0, .pointer (some ⟨g, 0, none⟩), .func (.func 104) #[] #[.pointer (some ⟨Bl, 0, none⟩), .pointer (some ⟨Bp, 0, none⟩)], .agg x.cells.toArray, undef, undef, undef, undef, undef], defers := [] })
    ?ax ?assign ?body ?done
  case seq =>
    intro l J W hW hJ hY h0
    refine (rows1_in w w.heap.size Bl Bp l part A n c evs HN.out HS.out HIN.out (by unfold maxLen; omega) HLEN.out (Nat.le_refl _) hBl hBp J (fun _ _ => False) (fun pre x W h1 h2 h3 => (hY pre x W h1 h2 h3).mono fun e w' h => .inl h)
      (fun s W W' h hb => hJ s W W' none h (grown_of_below hb none) (fun r e => by cases e)) W (hB0.trans (hW.mono (by omega))) (by have := hW.size; omega) ?_ ?_ h0).mono ?_
    · exact ((hB0.trans (hW.mono (by omega))).cell (p := ⟨Bl, 0, none⟩) hBl).trans cl
    · exact ((hB0.trans (hW.mono (by omega))).cell (p := ⟨Bp, 0, none⟩) hBp).trans cp
    · rintro e w' ⟨h1, h2 | ⟨_, h2⟩⟩
      · exact ⟨h1, h2⟩
      · exact h2.elim
  case own =>
    refine OwnFrom.and (OwnFrom.and (Own.from (holdsRow_own (w.heap.size + 1) w.heap.size 72 145 11 (fun pre : List RowC => pre.length) (fun pre => rwc pre) (fun pre v => True)) _) (Own.from ?_ _)) (OwnFrom.and (ownFrom_below (Nat.le_refl _) (by omega)) (fun _ _ _ _ hs hg _ => Nat.le_trans hs hg.size))
    intro s W W' row h hg hr x hx
    exact (h x hx).turn hg fun g e cs fz => by
      obtain ⟨o, ho, hc⟩ := hr g e
      constructor <;> intro h2 <;> rw [ho] at h2 <;> cases h2 <;> cases hc
  case ax =>
    rintro x a' W l o o' ⟨g, hr, hin, rfl⟩ hl ho
    refine ⟨g, Row.eq (World.putObj_heap_other ?_) hr, hin.put o' hl ho, rfl⟩
    rintro rfl
    unfold Row at hr
    rw [hr] at hl
    cases hl
    cases ho
  case assign =>
    rintro l pre x W K ⟨⟨⟨v, hv, hrow, _⟩, hall⟩, hB, hsW⟩ he hK
    have HK := Lib.hid hK
    have HR := Lib.hid (Row.new W 145 x.cells.toArray)
    have HE := Lib.hid (he.alloc (.cells x.cells.toArray 145))
    have HV := Lib.hid hv; have HROW := Lib.hid hrow; have HALL := Lib.hid hall; have HB := Lib.hid hB
    clear hv hrow hall hB hK he
    obtain ⟨⟨xt, xb, xr, xv, xs, xsent, xpc, xstack, xmem, xticks, xfault⟩, xAS, xcS, xAK, xcK, xAM, xcM⟩ := x
    dsimp only [RowC.cells]
    gi_wp2
    refine HK.out _ _ ?_ ?_ ?_ ?_
    · exact (KeepsOthers.alloc _ _).from _
    · exact (Below.refl _ _).alloc (by omega) _
    · exact ⟨⟨⟨v, HV.out.alloc _, HROW.out.alloc _, trivial⟩, fun y hy => (HALL.out y hy).alloc _⟩, HB.out.alloc (by omega) _, by simp; omega⟩
    · exact ⟨W.heap.size, HR.out, HE.out, rfl⟩
  case body =>
    rintro l pre x a' W ⟨⟨⟨v, hv, hrow, _⟩, hall⟩, hB, hsW⟩ ⟨g, hr, hxin, rfl⟩ hlt
    have hc := hv.cell
    have hvf := hv.frozen
    have HV := Lib.hid hv; have HROW := Lib.hid hrow; have HALL := Lib.hid hall; have HB := Lib.hid hB; have HXI := Lib.hid hxin; have HR := Lib.hid hr
    have HONE := Lib.hid x.one
    have HRS := Lib.hid (rwc_snoc pre x)
    clear hv hrow hall hB hxin hr
    obtain ⟨⟨xt, xb, xr, xv, xs, xsent, xpc, xstack, xmem, xticks, xfault⟩, xAS, xcS, xAK, xcK, xAM, xcM⟩ := x
    have r0 : W.cell? ⟨g, 0, none⟩ = some (.int .i64 xt) := HR.out.cell 0
    have r1 : W.cell? ⟨g, 1, none⟩ = some (.bool xb) := HR.out.cell 1
    have r2 : W.cell? ⟨g, 2, none⟩ = some (.bool xr) := HR.out.cell 2
    have r3 : W.cell? ⟨g, 3, none⟩ = some (.int .i64 xv) := HR.out.cell 3
    have r4 : W.cell? ⟨g, 4, none⟩ = some (.int .i64 xs) := HR.out.cell 4
    have r5 : W.cell? ⟨g, 5, none⟩ = some (.slice xAS xsent.length xcS) := HR.out.cell 5
    have r6 : W.cell? ⟨g, 6, none⟩ = some (.int .i64 xpc) := HR.out.cell 6
    have r7 : W.cell? ⟨g, 7, none⟩ = some (.slice xAK xstack.length xcK) := HR.out.cell 7
    have r8 : W.cell? ⟨g, 8, none⟩ = some (.slice xAM xmem.length xcM) := HR.out.cell 8
    have r9 : W.cell? ⟨g, 9, none⟩ = some (.int .i64 xticks) := HR.out.cell 9
    have r10 : W.cell? ⟨g, 10, none⟩ = some (.int .i64 xfault) := HR.out.cell 10
    have lg := HR.out.lt
    obtain ⟨gb, cb, hvs⟩ := own_form HROW.out
    obtain rfl := hvs.1
    have HROW2 := Lib.hid (HROW.out.alloc (.cells #[.int .i64 xt, .bool xb, .bool xr, .int .i64 xv, .int .i64 xs, .slice xAS xsent.length xcS, .int .i64 xpc, .slice xAK xstack.length xcK, .slice xAM xmem.length xcM, .int .i64 xticks, .int .i64 xfault] 145))
    have HCN := Lib.hid (cells_new W #[.int .i64 xt, .bool xb, .bool xr, .int .i64 xv, .int .i64 xs, .slice xAS xsent.length xcS, .int .i64 xpc, .slice xAK xstack.length xcK, .slice xAM xmem.length xcM, .int .i64 xticks, .int .i64 xfault] 145)
    have hpm : pre.length + 1 ≤ 100000 := by omega
    gi_wp2_with (gi_at_builtin; refine wpListIn_append_own _ rfl _ _ 72 rfl (w.heap.size + 1) 145 i0 _ 11 128 Try.underlying72 hi hz0 hz1 hz2 rfl (by decide) _ _ _ rfl HROW2.out ⟨W.heap.size, 0, none⟩ 1 1 [.int .i64 xt, .bool xb, .bool xr, .int .i64 xv, .int .i64 xs, .slice xAS xsent.length xcS, .int .i64 xpc, .slice xAK xstack.length xcK, .slice xAM xmem.length xcM, .int .i64 xticks, .int .i64 xfault] rfl rfl HCN.out HONE.out (by simp only [maxLen]; omega) (by omega) (by simp; omega) ?_; intro v' w1 hown' hgrow _; obtain ⟨g', cap', rfl⟩ := ownsRow_succ hown'; obtain ⟨hv1, hv2, hr2, hk2, hb2⟩ := box_append HV.out (by decide) (Nat.lt_succ_self _) HROW.out hsW hown' hgrow; have hc1 := hv1.cell; have hf1 := hv1.frozen; have HG := Lib.hid hgrow; have HV1 := Lib.hid hv1; have HV2 := Lib.hid hv2; have HR2 := Lib.hid hr2; have HK2 := Lib.hid hk2; have HB2 := Lib.hid hb2; clear hgrow hown' hv2 hr2 hk2 hb2 hv1)
    have HIN2 := Lib.hid (fun (y : RowC) (hy : y.In W w.heap.size) => (((hy.alloc (.cells #[.int .i64 xt, .bool xb, .bool xr, .int .i64 xv, .int .i64 xs, .slice xAS xsent.length xcS, .int .i64 xpc, .slice xAK xstack.length xcK, .slice xAM xmem.length xcM, .int .i64 xticks, .int .i64 xfault] 145)).turn HG.out fun g e cs fz => by
      obtain ⟨cur, hcur⟩ := own_block HROW2.out g e
      rw [hcur]
      constructor <;> (intro h2; injection h2 with h2; injection h2 with _ h3; exact absurd h3 (by decide))).turn (grownBy_setCell' w1 w.heap.size (.slice (some ⟨g', 0, none⟩) (pre.length + 1) cap')) fun g e cs fz => by
      cases e
      have h1 : w1.heap[w.heap.size]? = _ := HV1.out
      rw [h1]
      constructor <;> (intro h2; injection h2 with h2; injection h2 with _ h3; exact absurd h3 (by decide))))
    refine ⟨HK2.out.from _, HB2.out, ⟨⟨_, HV2.out, ?_⟩, ?_⟩, HB.out.trans HB2.out, Nat.le_trans hsW HB2.out.size⟩
    · rw [HRS.out, List.length_append]
      exact HR2.out
    · intro y hy
      rcases List.mem_append.1 hy with h | h
      · exact HIN2.out y (HALL.out y h)
      · rw [List.mem_singleton.1 h]
        exact HIN2.out _ HXI.out
  case done =>
    rintro D ys W hD hys ⟨⟨⟨v, hv, hrow, _⟩, hall⟩, hB, hsW⟩ hK
    have hc := hv.cell
    have HROW := Lib.hid hrow; have HALL := Lib.hid hall; have HB := Lib.hid hB; have HYS := Lib.hid hys; have HK := Lib.hid hK
    clear hv hrow hall hB hys hK
    obtain ⟨gb, cb, hvs, _⟩ := own_form HROW.out
    subst hvs
    gi_wp2
    refine ⟨by simp, .inl ⟨_, _, rfl, run_takeDeferred HK.out, ?_⟩⟩
    exact ⟨_, results_tmp rfl _ _ _, _, ys, rfl, HYS.out, (ownsRow_putObj HROW.out _ HK.out rfl).mono (by omega), fun y hy => (HALL.out y hy).put _ HK.out rfl, HB.out.trans (belowK_b (w := w) (Nat.le_refl _) W D _ _ (by omega) HK.out rfl rfl)⟩

theorem rows_at (w : World) (A : Option Addr) (n c : Nat) (part : Int) : Calls Try.prog 68 #[.slice A n c, .int .i64 part] w fun e w' =>
    e = .returned (.func (.func 104) #[] #[.pointer (some ⟨w.heap.size, 0, none⟩), .pointer (some ⟨w.heap.size + 1, 0, none⟩)]) ∧ w' = (w.alloc (.cells #[.slice A n c] 41)).alloc (.cells #[.int .i64 part] 3) := by
  go_enter Try.func68, Try.ntmps68
  go_wp2_with (fail)
  go_ret
  exact ⟨rfl, rfl⟩
set_option maxRecDepth 100000 in
set_option maxHeartbeats 4000000 in
theorem view_at (w : World) (part : Int) (A : Option Addr) (n c : Nat) (evs : List EvC) (hn : n = evs.length) (hs : Sl w w.heap.size 11 A n (evc evs)) (hin : ∀ x ∈ evs, x.In w w.heap.size) (hm : n ≤ 100000)
    (hlen : ∀ x ∈ evs, x.d.booted.length ≤ 100000 ∧ x.d.sent.length ≤ 100000 ∧ x.d.stack.length ≤ 100000 ∧ x.d.mem.length ≤ 100000) :
    Calls Try.prog 33 #[.slice A n c, .int .i64 part] w fun e w' =>
      ∃ A' c' rs, e = .returned (.slice A' rs.length c') ∧ rs.map RowC.d = viewL part (evs.map EvC.d) ∧ w'.ownsRow w.heap.size 145 11 (.slice A' rs.length c') rs.length (rwc rs) ∧ (∀ x ∈ rs, x.In w' w.heap.size) ∧ Below w.heap.size w w' := by
  have HR := Lib.hid (rows_at w A n c part)
  obtain ⟨w1, hw1⟩ : ∃ w1, w1 = (w.alloc (.cells #[.slice A n c] 41)).alloc (.cells #[.int .i64 part] 3) := ⟨_, rfl⟩
  have hb1 : Below w.heap.size w w1 := by rw [hw1]; exact ((Below.refl _ w).alloc (Nat.le_refl _) _).alloc (by simp) _
  have hs1 : w1.heap.size = w.heap.size + 2 := by rw [hw1]; simp
  have cl : w1.cell? ⟨w.heap.size, 0, none⟩ = some (.slice A n c) := by rw [hw1]; exact ((Boxed.new w 41 (.slice A n c)).alloc _).cell
  have cp : w1.cell? ⟨w.heap.size + 1, 0, none⟩ = some (.int .i64 part) := by
    rw [hw1]
    have h := (Boxed.new (w.alloc (.cells #[.slice A n c] 41)) 3 (.int .i64 part)).cell
    rwa [World.size_alloc] at h
  have HC := Lib.hid (callsIn_wide.1 (collect_in w1 w.heap.size (w.heap.size + 1) part A n c evs hn ((hs.below hb1).more (by omega)) (fun x hx => (hin x hx).over hb1) hm hlen (by omega) (by omega) cl cp))
  have HW := Lib.hid hw1; have HB := Lib.hid hb1
  clear hn hs hin hlen hb1 cl cp hw1
  go_enter Try.func33, Try.ntmps33
  go_wp2_with (fail)
  refine HR.out.mono ?_; rintro e w2 ⟨rfl, rfl⟩
  rw [← HW.out]
  go_wp2_with (first | (go_at_call 103; refine HC.out.mono ?_; rintro e w3 ⟨v, rs, rfl, hd, hrow, hall, hb⟩; have HD := Lib.hid hd; have HROW := Lib.hid hrow; have HALL := Lib.hid hall; have HB3 := Lib.hid hb; obtain ⟨gb, cb, hvs, _⟩ := own_form hrow; subst hvs; clear hd hrow hall hb) | go_in)
  all_goals
    go_ret
    exact ⟨gb, cb, rs, rfl, HD.out, HROW.out.mono (by omega), fun y hy => ⟨(HALL.out y hy).sent.mono (by omega), (HALL.out y hy).stack.mono (by omega), (HALL.out y hy).mem.mono (by omega)⟩, HB.out.trans (HB3.out.mono (by omega))⟩
end Go.Proofs.Ytooagoikiafgcaa.joins
