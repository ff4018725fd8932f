/-
  PROVED HERE: a ground station that hears its message acknowledged goes on.
  CONDITIONS: the station's block is the given one, and its bytes lie ahead of it.
-/
import Derived.Test.YtjncpincmkpdpaaGroundNext
import Derived.BigQuiet
namespace Go.Proofs.Ytjncpincmkpdpaa.ground
set_option linter.unusedVariables false
open Go.RowKit Go.Proofs.Ytjncpincmkpdpaa.base Go.Proofs.Ytjncpincmkpdpaa.obj Go.Proofs.Ytjncpincmkpdpaa.mem Go.Proofs.Ytjncpincmkpdpaa.plan

set_option maxRecDepth 100000 in
set_option maxHeartbeats 2000000 in
theorem hear_ack (w : World) (g n : Nat) (s : GS) (xs : List Value) (h : Gnd w g s n xs) (hp : s.phase ≤ 3) (part size have_ : Int) (a : Option Addr) (m : Nat) :
    Calls Try.prog 18 #[.pointer (some ⟨g, 0, none⟩), pdu 6 s.ses part s.mno size s.phase 0 have_ (.slice a m m)] w fun e w' => e = .returned (.tuple #[]) ∧ GAt w' g (s.on n) ∧ Kept (One g) w w' := by
  have hl := h.at_.lt
  have HN := Lib.hid (fun (w' : World) (k : Below w.heap.size w w') => now_any w' g n s xs (h.below k) hp)
  have HG := Lib.hid h
  clear h hp
  have HB0 := Lib.hid ((Below.refl w.heap.size w).alloc (Nat.le_refl _) (.cells (pduC 6 s.ses part s.mno size s.phase 0 have_ (.slice a m m)) 28))
  have HW := Lib.hid (fun k v (hv : (pduC 6 s.ses part s.mno size s.phase 0 have_ (.slice a m m))[k]? = some v) (w5 : World) (hb : Below (w.heap.size + 1) (w.alloc (.cells (pduC 6 s.ses part s.mno size s.phase 0 have_ (.slice a m m)) 28)) w5) =>
    show w5.cell? ⟨w.heap.size, k, none⟩ = some v from (Row.below (Row.new w 28 (pduC 6 s.ses part s.mno size s.phase 0 have_ (.slice a m m))) hb (by omega)).cell k |>.trans (by simpa using hv))
  unfold pdu
  go_enter Try.func18, Try.ntmps18
  go_wp2_with (fail)
  refine (HN.out _ HB0.out).mono ?_; rintro e w5 ⟨v, rfl, hd, hb⟩
  have hsz : w.heap.size < w5.heap.size := by have := hb.size; simp at this; omega
  have hb' : Below (w.heap.size + 1) (w.alloc (.cells (pduC 6 s.ses part s.mno size s.phase 0 have_ (.slice a m m)) 28)) w5 := hb.mono (by simp)
  have p0 := HW.out 0 (.int .i64 6) rfl w5 hb'
  have p1 := HW.out 1 (.int .i64 s.ses) rfl w5 hb'
  have p3 := HW.out 3 (.int .i64 s.mno) rfl w5 hb'
  have p5 := HW.out 5 (.int .i64 s.phase) rfl w5 hb'
  have p6 := HW.out 6 (.int .i64 0) rfl w5 hb'
  have HB5 := Lib.hid (HB0.out.trans (hb.mono (by simp)))
  obtain ⟨a2, m2, rfl⟩ := hd.form
  have hG5 := HG.out.below (HB5.out)
  have HG5 := Lib.hid hG5
  obtain ⟨_, d1, _, d3, _, _, _, _⟩ := hG5.at_.read
  have hl5 : g < w5.heap.size := by omega
  clear hb hb' hd hG5
  have b1 : (s.ses != s.ses) = false := by simp
  have b2 : (s.phase != s.phase) = false := by simp
  have b3 : (s.mno != s.mno) = false := by simp
  unfold pdu
  go_wp2_with (fail)
  go_quiet (fail)
  go_wp2_with (fail)
  have k6 : Below w.heap.size w ((w5.alloc (.cells (pduC s.phase s.ses s.mpart s.mno (s.msize n) 0 0 0 (.slice a2 m2 m2)) 28)).drewN nq) := (fun h => ⟨h.os, h.tape, h.output, h.size, h.block⟩ : ∀ {w9 : World}, Below w.heap.size w w9 → Below w.heap.size w (w9.drewN nq)) (HB5.out.alloc HB5.out.size _)
  have hG6 := HG.out.below k6
  obtain ⟨A, c, hb, hc, hs⟩ := hG6.row
  refine (on_at _ g s hG6.at_ A n c hb (by have := HG.out.no; have := HG.out.lim; omega) HG.out.lim).mono ?_
  rintro e w7 ⟨rfl, h7, k7⟩
  have HF := Lib.hid (And.intro h7 ((Kept.of_below k6 (One g)).trans k7 (fun _ h => h) (fun _ h _ => h)))
  clear k6 hG6 h7 k7 hs p0 p1 p3 p5 p6 d1 d3
  go_wp2_with (fail)
  go_end0
  exact ⟨rfl, HF.out⟩
end Go.Proofs.Ytjncpincmkpdpaa.ground
