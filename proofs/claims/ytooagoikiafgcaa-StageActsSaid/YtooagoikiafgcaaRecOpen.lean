/-
  PROVED HERE: what a sector's numbers are laid into, and by which error it is refused.
  CONDITIONS: each contract names its own.
-/
import Derived.Test.YtooagoikiafgcaaRecSeal
import Derived.Test.YtooagoikiafgcaaEqual
import Derived.Shelf.RegionOpen
namespace Go.Proofs.Ytooagoikiafgcaa.record
set_option linter.unusedVariables false
open Go.RowKit Go.Proofs.Ytooagoikiafgcaa.base Go.Proofs.Ytooagoikiafgcaa.obj Go.Proofs.Ytooagoikiafgcaa.mem Go.Proofs.Ytooagoikiafgcaa.crc Go.Proofs.Ytooagoikiafgcaa.num Go.Proofs.Ytooagoikiafgcaa.bytes Go.Proofs.Ytooagoikiafgcaa.plan

/-- where number i of a sector begins -/
def offs (ks : List Nat) (i : Nat) : Nat := 2 + (ks.take i).sum
theorem offs_succ (ks : List Nat) (i : Nat) (h : i < ks.length) : offs ks (i + 1) = offs ks i + ks.getD i 0 := by
  unfold offs
  rw [List.take_succ_eq_append_getElem h, List.sum_append]
  simp [List.getD, h]
  omega
theorem offs_mono (ks : List Nat) (i n : Nat) (h : i ≤ n) (hn : n ≤ ks.length) : offs ks i ≤ offs ks n := by
  induction n with
  | zero => have : i = 0 := by omega
            subst this; exact Nat.le_refl _
  | succ n ih =>
    rcases Nat.lt_or_ge i (n + 1) with h' | h'
    · rw [offs_succ ks n (by omega)]
      have := ih (by omega) (by omega)
      omega
    · have : i = n + 1 := by omega
      subst this; exact Nat.le_refl _
/-- number i of a sector -/
def got (ks : List Nat) (bs : List Int) (i : Nat) : Nat := val ((bs.drop (offs ks i)).take (ks.getD i 0))
/-- how a sector of 64 bytes is refused -/
def openE (mark N : Nat) (bs : List Int) : Int := if val (bs.take 2) = mark ∧ bs.drop (N + 4) = List.replicate (60 - N) 0 then (if val ((bs.drop N).take 4) = sum (bs.take N) then 0 else 10) else 2
def gotCells (ks : List Nat) (bs : List Int) (k : Nat) (c0 : List Value) : List Value := (List.range k).map (fun i => Value.int .i64 (got ks bs i : Nat)) ++ c0.drop k
theorem gotCells_set (ks : List Nat) (bs : List Int) (k : Nat) (c0 : List Value) (hk : k < c0.length) : (gotCells ks bs k c0).set k (.int .i64 (got ks bs k : Nat)) = gotCells ks bs (k + 1) c0 := by
  unfold gotCells
  rw [List.set_append_right _ _ (by simp), List.range_succ, List.map_append, List.append_assoc]
  congr 1
  simp only [List.length_map, List.length_range, Nat.sub_self]
  rw [List.drop_eq_getElem_cons hk]
  rfl
theorem gotCells_length (ks : List Nat) (bs : List Int) (k : Nat) (c0 : List Value) (hk : k ≤ c0.length) : (gotCells ks bs k c0).length = c0.length := by simp [gotCells]; omega
theorem gotCells_get (ks : List Nat) (bs : List Int) (k : Nat) (c0 : List Value) (hk : k < c0.length) : ∃ v, (gotCells ks bs k c0)[k]? = some v := ⟨_, List.getElem?_eq_getElem (by rw [gotCells_length _ _ _ _ (by omega)]; exact hk)⟩

theorem drop_byt {bs : List Int} (h : Byt bs) (k : Nat) : Byt (bs.drop k) := fun z hz => h z (List.mem_of_mem_drop hz)
theorem take_byt {bs : List Int} (h : Byt bs) (k : Nat) : Byt (bs.take k) := fun z hz => h z (List.mem_of_mem_take hz)

structure OpenIn (w : World) (R F : Nat) (T TR : TypeId) (ks : List Nat) (c0 : List Value) (A : Option Addr) (bs : List Int) (wr : World) (Q k : Nat) : Prop where
  rd : Rd wr w.heap.size Q (bs.drop (offs ks k))
  row : Row wr R TR (gotCells ks bs k c0)
  fl : Row wr F T (fieldCells R ks)
  sl : Sl wr R 1 A 64 (bs.map (.int .u8))
  kept : Kept (fun i => i = R) w wr

theorem OpenIn.below {w : World} {R F : Nat} {T TR : TypeId} {ks : List Nat} {c0 : List Value} {A : Option Addr} {bs : List Int} {wr w' : World} {Q k : Nat} (h : OpenIn w R F T TR ks c0 A bs wr Q k) (b : Below wr.heap.size wr w') : OpenIn w R F T TR ks c0 A bs w' Q k :=
  ⟨h.rd.below b, h.row.below b h.row.lt, h.fl.below b h.fl.lt, h.sl.below (b.mono (Nat.le_of_lt h.row.lt)), h.kept.trans (Kept.of_below b (fun i => i = R)) (fun _ h => h) (fun _ h _ => h)⟩

theorem open_step {w : World} {R F : Nat} {T TR : TypeId} {ks : List Nat} {c0 : List Value} {A : Option Addr} {bs : List Int} {w4 w5 : World} {Q k q ok : Nat} (h : OpenIn w R F T TR ks c0 A bs w4 Q k)
    (hrd : Rd w5 w.heap.size Q ((bs.drop (offs ks k)).drop q)) (hk : Kept (fun i => i = Q) w4 w5) (hR : R < w.heap.size) (hF : F < w.heap.size) (hne : F ≠ R) (hkc : k < c0.length) (ho : offs ks (k + 1) = ok + q) (hok : offs ks k = ok) (hq : ks.getD k 0 = q) :
    OpenIn w R F T TR ks c0 A bs (w5.setCell ⟨R, k, none⟩ (.int .i64 (got ks bs k : Nat))) Q (k + 1) := by
  have hQ := hrd.base
  refine ⟨?_, ?_, ?_, ?_, ?_⟩
  · rw [ho]
    rw [List.drop_drop, hok] at hrd
    exact hrd.keep fun i h1 h2 => Below.heap_setCell w5 ⟨R, k, none⟩ _ i (show i ≠ R by omega)
  · rw [← gotCells_set ks bs k c0 hkc]
    exact (h.row.kept hk (fun e => by have : R = Q := e; omega)).setCell k _
  · exact (h.fl.kept hk (fun e => by have : F = Q := e; omega)).setCell_other (p := ⟨R, k, none⟩) hne _
  · have s5 : Sl w5 R 1 A 64 (bs.map (.int .u8)) := h.sl.below (hk.below (Nat.le_of_lt h.row.lt) (fun i hi e => by have : i = Q := e; omega))
    exact s5.below ((Below.refl R w5).setCell (p := ⟨R, k, none⟩) (Nat.le_refl _) _)
  · exact (h.kept.trans hk (fun _ h => h) (fun i h hi => by have : i = Q := h; omega)).setCell (p := ⟨R, k, none⟩) (.inl rfl) _

theorem left_m {w : World} {B R : Nat} {bs : List Int} (h : Rd w B R bs) {m : Nat} (hm : bs.length = m) : Calls Try.prog 128 #[.pointer (some ⟨R, 0, none⟩)] w fun e w' => e = .returned (.int .i64 m) ∧ w' = w := by
  subst hm; exact left_at h
structure OpenAt (w : World) (R : Nat) (TR : TypeId) (cs : List Value) (A : Option Addr) (bs : List Int) (wr : World) (Q : Nat) (rest : List Int) : Prop where
  rd : Rd wr w.heap.size Q rest
  row : Row wr R TR cs
  sl : Sl wr R 1 A 64 (bs.map (.int .u8))
  kept : Kept (fun i => i = R) w wr
theorem OpenAt.below {w : World} {R : Nat} {TR : TypeId} {cs : List Value} {A : Option Addr} {bs : List Int} {wr w' : World} {Q : Nat} {rest : List Int} (h : OpenAt w R TR cs A bs wr Q rest) (b : Below wr.heap.size wr w') : OpenAt w R TR cs A bs w' Q rest :=
  ⟨h.rd.below b, h.row.below b h.row.lt, h.sl.below (b.mono (Nat.le_of_lt h.row.lt)), h.kept.trans (Kept.of_below b (fun i => i = R)) (fun _ h => h) (fun _ h _ => h)⟩
/-- bytes of zero that were made -/
theorem zero_row (w : World) (m : Nat) : Row (w.alloc (.cells (Array.replicate m (Value.int .u8 0)) 5)) w.heap.size 5 ((List.replicate m (0 : Int)).map (.int .u8)) := by
  have h := Row.new w 5 (Array.replicate m (Value.int .u8 0))
  rwa [show (Array.replicate m (Value.int .u8 0)).toList = (List.replicate m (0 : Int)).map (.int .u8) by simp] at h
theorem byte_sl {w : World} {b n : Nat} {t : TypeId} {l : List Int} (h : Row w b t (l.map (.int .u8))) (hl : l.length = n) : Sl w w.heap.size 1 (some ⟨b, 0, none⟩) n (l.map (.int .u8)) :=
  h.sl h.lt (by rw [Nat.mul_one, List.drop_zero, List.take_of_length_le (by simp [hl])]) (by simp [hl])
theorem _root_.Go.Proofs.Ytooagoikiafgcaa.obj.Kept.undrew {S : Nat → Prop} {a b : World} (h : Kept S a.drew b) : Kept S a b := ⟨h.os, h.tape, h.output, h.size, h.block⟩
theorem _root_.Go.Proofs.Ytooagoikiafgcaa.obj.Kept.unalloc {S : Nat → Prop} {a b : World} {o : Obj} (h : Kept S (a.alloc o).drew b) : Kept S a b :=
  ((Kept.refl S a).alloc o).trans h.undrew (fun _ h => h) (fun _ h _ => h)
theorem OpenAt.zeros {w : World} {R : Nat} {TR : TypeId} {cs : List Value} {A : Option Addr} {bs : List Int} {wr : World} {Q : Nat} {rest : List Int} (h : OpenAt w R TR cs A bs wr Q rest) {w' : World} {m : Nat} (k : Kept (fun i => i = Q) (wr.alloc (.cells (Array.replicate m (Value.int .u8 0)) 5)) w') : Row w' wr.heap.size 5 ((List.replicate m (0 : Int)).map (.int .u8)) :=
  (zero_row wr m).kept k (fun e => by have := h.rd.lt; have : wr.heap.size = Q := e; omega)
/-- what is left of it behind the bytes that were read -/
theorem OpenAt.fin' {w : World} {R : Nat} {TR : TypeId} {cs : List Value} {A : Option Addr} {bs : List Int} {wr : World} {Q : Nat} {rest : List Int} (h : OpenAt w R TR cs A bs wr Q rest) (hR : R < w.heap.size) {w' : World} (k : Kept (fun i => i = Q) wr w') : Row w' R TR cs ∧ Sl w' R 1 A 64 (bs.map (.int .u8)) ∧ Kept (fun i => i = R) w w' := by
  have hQ := h.rd.base
  exact ⟨h.row.kept k (fun e => by have : R = Q := e; omega), h.sl.below (k.below (Nat.le_of_lt h.row.lt) (fun i hi e => by have : i = Q := e; omega)), h.kept.trans k (fun _ h => h) (fun i h hi => by have : i = Q := h; omega)⟩
end Go.Proofs.Ytooagoikiafgcaa.record
