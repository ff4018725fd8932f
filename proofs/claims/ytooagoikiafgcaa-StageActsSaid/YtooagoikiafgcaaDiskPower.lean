/-
  PROVED HERE: contracts of (*Disk).Flush and (*Disk).Power.
  CONDITIONS: the disk is the given one; no more than a million writes wait.
-/
import Derived.Test.YtooagoikiafgcaaDiskLay
import Derived.Laws.ShiftsVar
import Derived.WalkSmall
namespace Go.Proofs.Ytooagoikiafgcaa.disk
set_option linter.unusedVariables false
open Go.RowKit Go.Proofs.Ytooagoikiafgcaa.base Go.Proofs.Ytooagoikiafgcaa.obj Go.Proofs.Ytooagoikiafgcaa.mem Go.Proofs.Ytooagoikiafgcaa.plan

set_option maxHeartbeats 1000000 in
theorem all_any (w : World) (i : Int) : Calls Try.prog 134 (#[.int .i64 i] ++ #[]) w fun e w' => e = .returned (.bool true) ∧ w = w' := by
  show Calls Try.prog 134 #[.int .i64 i] w _
  go_enter Try.func134, Try.ntmps134
  go_wp2_with (fail)
  go_ret
  exact ⟨rfl, rfl⟩
set_option maxHeartbeats 1000000 in
theorem keep_out (w : World) (b i : Nat) (h : ¬ i < 64) : Calls Try.prog 88 (#[.int .i64 i] ++ #[.pointer (some ⟨b, 0, none⟩)]) w fun e w' => e = .returned (.bool false) ∧ w = w' := by
  show Calls Try.prog 88 #[.int .i64 i, .pointer (some ⟨b, 0, none⟩)] w _
  have h' : ¬ (i : Int) < 64 := by omega
  go_enter Try.func88, Try.ntmps88
  go_wp2_with (fail)
  go_ret
  exact ⟨rfl, rfl⟩
set_option maxHeartbeats 1000000 in
theorem keep_in (w : World) (b i : Nat) (keep : Int) (h : i < 64) (hk0 : 0 ≤ keep) (hk1 : keep ≤ 18446744073709551615) (hc : w.cell? ⟨b, 0, none⟩ = some (.int .u64 keep)) : Calls Try.prog 88 (#[.int .i64 i] ++ #[.pointer (some ⟨b, 0, none⟩)]) w fun e w' => e = .returned (.bool (keep / 2 ^ i % 2 == 1)) ∧ w = w' := by
  show Calls Try.prog 88 #[.int .i64 i, .pointer (some ⟨b, 0, none⟩)] w _
  have h' : (i : Int) < 64 := by omega
  go_enter Try.func88, Try.ntmps88
  go_wp2_with (fail)
  go_ret
  have e2 : (0 : Int) < 2 ^ i := Int.pow_pos (by decide)
  have e0 : 0 ≤ keep / 2 ^ i := Int.ediv_nonneg hk0 (by omega)
  have e1 : keep / 2 ^ i ≤ keep := Int.ediv_le_self _ hk0
  refine ⟨ret_bool ?_, rfl⟩
  rw [and_one_u64 _ e0 (by omega)]
  have h3 := Int.emod_two_eq (keep / 2 ^ i)
  rcases h3 with h3 | h3 <;> rw [h3] <;> rfl

theorem hcf_all (w : World) (i : Int) : (callFunc 134 (#[.int .i64 i] ++ #[])).run Try.prog w = .ok (.enter 134 (#[.int .i64 i] ++ #[])) w := by kernel_rfl
theorem hcf_keep (b : Nat) (w : World) (i : Int) : (callFunc 88 (#[.int .i64 i] ++ #[.pointer (some ⟨b, 0, none⟩)])).run Try.prog w = .ok (.enter 88 (#[.int .i64 i] ++ #[.pointer (some ⟨b, 0, none⟩)])) w := by kernel_rfl

set_option maxHeartbeats 1000000 in
theorem flush_at {w : World} {F : Nat → Prop} {g : Nat} {m : DS} (h : DiskAt w F g m) (hwl : m.waits.length ≤ 1000000) :
    Calls Try.prog 114 #[.pointer (some ⟨g, 0, none⟩)] w fun e w' => e = .returned (.int .i64 m.flush.1) ∧ DiskAt w' F g m.flush.2 ∧ Kept F w w' := by
  obtain ⟨L, wv, h⟩ := h
  have HB := Lib.hid (burn_at h)
  have H := Lib.hid h
  cases hg : m.goes
  · have e : m.flush = (8, m.burnt) := by simp [DS.flush, hg]
    rw [e]
    rw [hg] at HB
    clear e hg h
    go_enter Try.func114, Try.ntmps114
    go_wp2_with (fail)
    refine HB.out.mono ?_; rintro e w' ⟨rfl, hd, hk⟩
    have HD := Lib.hid hd; have HK := Lib.hid hk; clear hd hk
    go_wp2_with (fail)
    go_ret
    exact ⟨rfl, ⟨L, wv, HD.out⟩, kept_of_one HK.out H.out.fg⟩
  · have e : m.flush = (0, m.burnt.lay fun _ => true) := by simp [DS.flush, hg]
    rw [e]
    rw [hg] at HB
    clear e hg h
    go_enter Try.func114, Try.ntmps114
    go_wp2_with (fail)
    refine HB.out.mono ?_; rintro e w' ⟨rfl, hd, hk⟩
    have HD := Lib.hid hd; have HK := Lib.hid hk; clear hd hk
    go_wp2_with (fail)
    refine (lay_at HD.out (fun _ => true) 134 #[] hcf_all (fun wr _ i _ => all_any wr i) (by rw [DS.burnt_waits]; exact hwl)).mono ?_; rintro e w2 ⟨rfl, hd, hk⟩
    have HD2 := Lib.hid hd; have HK2 := Lib.hid hk; clear hd hk
    go_wp2_with (fail)
    go_ret
    exact ⟨rfl, HD2.out, (kept_of_one HK.out H.out.fg).trans HK2.out (fun i h => h) (fun i h _ => h)⟩
set_option maxHeartbeats 1000000 in
theorem flush_nil (w : World) : Calls Try.prog 114 #[.pointer none] w fun e w' => e = .returned (.int .i64 7) ∧ w = w' := by
  go_enter Try.func114, Try.ntmps114
  go_wp2_with (fail)
  go_ret
  exact ⟨rfl, rfl⟩
set_option maxHeartbeats 1000000 in
theorem write_nil (w : World) (i : Int) (v : Value) : Calls Try.prog 113 #[.pointer none, .int .i64 i, v] w fun e w' => e = .returned (.int .i64 7) ∧ w = w' := by
  have HW := Lib.hid (wrong_nil w i)
  go_enter Try.func113, Try.ntmps113
  go_wp2_with (fail)
  refine HW.out.mono ?_; rintro e w' ⟨rfl, rfl⟩
  go_wp2_with (fail)
  go_ret
  exact ⟨rfl, rfl⟩
set_option maxHeartbeats 1000000 in
theorem power_nil (w : World) (keep : Int) : Calls Try.prog 50 #[.pointer none, .int .u64 keep] w fun e w' => e = .returned (.tuple #[]) ∧ Below w.heap.size w w' := by
  go_enter Try.func50, Try.ntmps50
  go_wp2_with (fail)
  refine bodyPost_ret (results_none rfl _ _ _) rfl ?_
  exact ⟨rfl, (Below.refl _ _).alloc (Nat.le_refl _) _⟩
set_option maxHeartbeats 1000000 in
theorem power_at {w : World} {F : Nat → Prop} {g : Nat} {m : DS} (h : DiskAt w F g m) (keep : Int) (hF : ∀ i, F i → i < w.heap.size) (hk0 : 0 ≤ keep) (hk1 : keep ≤ 18446744073709551615) (hwl : m.waits.length ≤ 1000000) :
    Calls Try.prog 50 #[.pointer (some ⟨g, 0, none⟩), .int .u64 keep] w fun e w' => e = .returned (.tuple #[]) ∧ DiskAt w' F g (m.power keep) ∧ Kept F w w' := by
  obtain ⟨L, wv, h⟩ := h
  have H := Lib.hid h
  have h1 : DiskIn (w.alloc (.cells #[.int .u64 keep] 90)) F g L wv m := h.kept ((Kept.refl (fun _ => False) w).alloc _) (fun _ _ h => h)
  have hf : ∀ wr, Kept F (w.alloc (.cells #[.int .u64 keep] 90)) wr → ∀ i : Nat, i < m.waits.length → Calls Try.prog 88 (#[.int .i64 i] ++ #[.pointer (some ⟨w.heap.size, 0, none⟩)]) wr fun e w' => e = .returned (.bool (keeps keep i)) ∧ wr = w' := by
    intro wr hk i _
    have hc : wr.cell? ⟨w.heap.size, 0, none⟩ = some (.int .u64 keep) := by
      rw [hk.cell (p := ⟨w.heap.size, 0, none⟩) (by simp) (fun hh => by have hq : w.heap.size < w.heap.size := hF _ hh; omega)]
      exact (Row.new w 90 #[.int .u64 keep]).cell 0
    by_cases hi : i < 64
    · have e : keeps keep i = (keep / 2 ^ i % 2 == 1) := by simp [keeps, hi]
      rw [e]
      exact keep_in wr _ i keep hi hk0 hk1 hc
    · have e : keeps keep i = false := by simp [keeps, hi]
      rw [e]
      exact keep_out wr _ i hi
  have HL := Lib.hid (lay_at h1 (keeps keep) 88 #[.pointer (some ⟨w.heap.size, 0, none⟩)] (hcf_keep _) hf hwl)
  clear h h1 hf hk0 hk1 hF
  go_enter Try.func50, Try.ntmps50
  go_wp2_with (fail)
  refine HL.out.mono ?_; rintro e w2 ⟨rfl, hd, hk⟩
  obtain ⟨L2, wv2, hd⟩ := hd
  have c3 : w2.cell? ⟨g, 3, none⟩ = some (.bool m.down) := hd.blk.cell 3
  have c2 : w2.cell? ⟨g, 2, none⟩ = some (.int .i64 m.fuse) := hd.blk.cell 2
  have f2 := hd.blk.frozen 2
  have f3 := hd.blk.frozen 3
  have HD2 := Lib.hid hd; have HK2 := Lib.hid hk; clear hd hk
  go_wp2_with (fail)
  go_end0
  have D1 := HD2.out.set (m' := { m.lay (keeps keep) with fuse := -1 }) 2 (.int .i64 (-1)) rfl ⟨HD2.out.good.secs, HD2.out.good.waits, by simp, by simp, HD2.out.good.n0, HD2.out.good.n1⟩ rfl rfl
  have D2 := D1.set (m' := m.power keep) 3 (.bool false) rfl (DS.power_good H.out.good keep) rfl rfl
  refine ⟨rfl, ⟨L2, wv2, D2⟩, ?_⟩
  exact ((((Kept.refl F w).alloc _).trans HK2.out (fun i h => h) (fun i h _ => h)).setCell (p := ⟨g, 2, none⟩) (.inl H.out.fg) _).setCell (p := ⟨g, 3, none⟩) (.inl H.out.fg) _

end Go.Proofs.Ytooagoikiafgcaa.disk
