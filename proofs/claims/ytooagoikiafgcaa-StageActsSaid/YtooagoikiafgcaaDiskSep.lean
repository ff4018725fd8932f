/-
  PROVED HERE: a disk among blocks that are apart: its calls.
  CONDITIONS: no more than a million writes wait.
-/
import Derived.Test.YtooagoikiafgcaaSep
import Derived.Test.YtooagoikiafgcaaDiskPower
namespace Go.Proofs.Ytooagoikiafgcaa.sep
set_option linter.unusedVariables false
open Go.RowKit Go.Proofs.Ytooagoikiafgcaa.base Go.Proofs.Ytooagoikiafgcaa.obj Go.Proofs.Ytooagoikiafgcaa.mem Go.Proofs.Ytooagoikiafgcaa.disk

/-- block g is the disk m -/
def dsk (g : Nat) (m : DS) : Asn where
  on w F := DiskAt w F g m ∧ ∀ i, F i → i < w.heap.size
  dom := fun h i hi => h.2 i hi
  loc := fun {w w' F} h e => by
    refine ⟨?_, fun i hi => dom_of (h.2 i hi) (e i hi)⟩
    obtain ⟨⟨L, wv, h⟩, _⟩ := h
    refine ⟨L, wv, h.good, (e g h.fg).trans h.blk, (e L h.fl).trans h.laid, ?_, h.fg, h.fl, h.fw⟩
    refine ⟨h.own.1, ?_⟩
    rcases h.own.2 with hz | ⟨k, cap, cur, hv, hb, hk, rest⟩
    · exact .inl hz
    · exact .inr ⟨k, cap, cur, hv, hb, (e k (h.fw k (by rw [hv]; rfl))).trans hk, rest⟩
theorem St.good {w0 w : World} {l : List Asn} {g : Nat} {m : DS} (h : St w0 w (dsk g m :: l)) : m.Good := by
  obtain ⟨F, ⟨⟨L, wv, hd⟩, _⟩, _⟩ := h.frame
  exact hd.good
theorem dsk_new {w0 w : World} {l : List Asn} (h : St w0 w l) (n : Int) : Calls Try.prog 37 #[.int .i64 n] w fun e w' => ∃ g, e = .returned (.pointer (some ⟨g, 0, none⟩)) ∧ St w0 w' (dsk g (DS.new (clampN n)) :: l) :=
  (new_any n w).mono fun e w' ⟨g, h1, h2, h3, h4⟩ => ⟨g, h1, h.add h4 (F := More (fun _ => False) w w') ⟨h3, fun i hi => by rcases hi with hi | hi; exact hi.elim; exact hi.2⟩ fun i hi => by rcases hi with hi | hi; exact hi.elim; exact hi.1⟩
theorem dsk_len {w0 w : World} {l : List Asn} {g : Nat} {m : DS} (h : St w0 w (dsk g m :: l)) : Calls Try.prog 46 #[.pointer (some ⟨g, 0, none⟩)] w fun e w' => e = .returned (.int .i64 m.secs.length) ∧ w' = w := by
  obtain ⟨F, ⟨⟨L, wv, hd⟩, _⟩, _⟩ := h.frame
  exact (len_at hd).mono fun e w' ⟨h1, h2⟩ => ⟨h1, h2.symm⟩
theorem dsk_down {w0 w : World} {l : List Asn} {g : Nat} {m : DS} (h : St w0 w (dsk g m :: l)) : Calls Try.prog 52 #[.pointer (some ⟨g, 0, none⟩)] w fun e w' => e = .returned (.bool m.down) ∧ w' = w := by
  obtain ⟨F, ⟨⟨L, wv, hd⟩, _⟩, _⟩ := h.frame
  exact (down_at hd).mono fun e w' ⟨h1, h2⟩ => ⟨h1, h2.symm⟩
theorem dsk_write {w0 w : World} {l : List Asn} {g : Nat} {m : DS} (h : St w0 w (dsk g m :: l)) (i : Int) (A : Option Addr) (n c : Nat) (bs : List Int) (hn : bs.length = n) (hs : Sl w w.heap.size 1 A n (bs.map (.int .u8))) (hwl : m.waits.length ≤ 1000000) :
    Calls Try.prog 113 #[.pointer (some ⟨g, 0, none⟩), .int .i64 i, .slice A n c] w fun e w' => e = .returned (.int .i64 (m.write i bs).1) ∧ St w0 w' (dsk g (m.write i bs).2 :: l) := by
  obtain ⟨F, ⟨⟨L, wv, hd⟩, hF⟩, _, hf⟩ := h.frame
  subst hn
  refine (write_at hd i A c bs hs hwl).mono fun e w' ⟨h1, h2, h3⟩ => ⟨h1, hf w' _ (More F w w') h3 ⟨h2, fun i hi => ?_⟩ fun i hi => ?_⟩
  · have := h3.size
    rcases hi with hi | hi
    · have := hF i hi; omega
    · exact hi.2
  · rcases hi with hi | hi
    · exact .inl hi
    · exact .inr hi.1
theorem dsk_flush {w0 w : World} {l : List Asn} {g : Nat} {m : DS} (h : St w0 w (dsk g m :: l)) (hwl : m.waits.length ≤ 1000000) :
    Calls Try.prog 114 #[.pointer (some ⟨g, 0, none⟩)] w fun e w' => e = .returned (.int .i64 m.flush.1) ∧ St w0 w' (dsk g m.flush.2 :: l) := by
  obtain ⟨F, ⟨hd, hF⟩, _, hf⟩ := h.frame
  refine (flush_at hd hwl).mono fun e w' ⟨h1, h2, h3⟩ => ⟨h1, hf w' _ F h3 ⟨h2, fun i hi => ?_⟩ fun i hi => .inl hi⟩
  have := h3.size; have := hF i hi; omega
theorem dsk_power {w0 w : World} {l : List Asn} {g : Nat} {m : DS} (h : St w0 w (dsk g m :: l)) (keep : Int) (hk0 : 0 ≤ keep) (hk1 : keep ≤ 18446744073709551615) (hwl : m.waits.length ≤ 1000000) :
    Calls Try.prog 50 #[.pointer (some ⟨g, 0, none⟩), .int .u64 keep] w fun e w' => e = .returned (.tuple #[]) ∧ St w0 w' (dsk g (m.power keep) :: l) := by
  obtain ⟨F, ⟨hd, hF⟩, _, hf⟩ := h.frame
  refine (power_at hd keep hF hk0 hk1 hwl).mono fun e w' ⟨h1, h2, h3⟩ => ⟨h1, hf w' _ F h3 ⟨h2, fun i hi => ?_⟩ fun i hi => .inl hi⟩
  have := h3.size; have := hF i hi; omega
theorem dsk_fuse {w0 w : World} {l : List Asn} {g : Nat} {m : DS} (h : St w0 w (dsk g m :: l)) (n : Int) (hn : n ≤ 9223372036854775807) :
    Calls Try.prog 49 #[.pointer (some ⟨g, 0, none⟩), .int .i64 n] w fun e w' => e = .returned (.tuple #[]) ∧ St w0 w' (dsk g (m.setFuse n) :: l) := by
  obtain ⟨F, ⟨⟨L, wv, hd⟩, hF⟩, _, hf⟩ := h.frame
  refine (fuse_at hd n hn).mono fun e w' ⟨h1, h2, h3⟩ => ⟨h1, hf w' _ F (h3.mono fun i _ hi => by rw [show i = g from hi]; exact hd.fg) ⟨⟨L, wv, h2⟩, fun i hi => ?_⟩ fun i hi => .inl hi⟩
  have := h3.size; have := hF i hi; omega
/-- a sector's bytes, as a block of their own -/
theorem dsk_read {w0 w : World} {l : List Asn} {g : Nat} {m : DS} (h : St w0 w (dsk g m :: l)) (i : Int) (n : Nat) (hi : i = n) (hn : n < m.secs.length) (hd : m.down = false) (hwl : m.waits.length ≤ 1000000) :
    Calls Try.prog 54 #[.pointer (some ⟨g, 0, none⟩), .int .i64 i] w fun e w' => ∃ b, e = .returned (.tuple #[.slice (some ⟨b, 0, none⟩) 64 64, .int .i64 0]) ∧ St w0 w' (row b 5 ((m.now n).map (.int .u8)) :: dsk g m :: l) := by
  obtain ⟨F, ⟨⟨L, wv, hdk⟩, hF⟩, _, hf⟩ := h.frame
  subst hi
  exact (read_yes hdk n hn hd hwl).mono fun e w' ⟨b, h1, h2, h3, h4⟩ => ⟨b, h1, h.addRow h4 h3 h2⟩
/-- what is not read -/
theorem dsk_read_no {w0 w : World} {l : List Asn} {g : Nat} {m : DS} (h : St w0 w (dsk g m :: l)) (i : Int) (hi : (i < 0 ∨ m.secs.length ≤ i) ∨ m.down = true) (hwl : m.waits.length ≤ 1000000) :
    Calls Try.prog 54 #[.pointer (some ⟨g, 0, none⟩), .int .i64 i] w fun e w' => e = .returned (.tuple #[.slice none 0 0, .int .i64 (if i < 0 ∨ m.secs.length ≤ i then 3 else 8)]) ∧ St w0 w' (dsk g m :: l) := by
  obtain ⟨F, ⟨⟨L, wv, hdk⟩, hF⟩, _, hf⟩ := h.frame
  refine (disk.read_at hdk i hwl).mono fun e w' ⟨h1, h2⟩ => ?_
  refine ⟨?_, h.below h2⟩
  by_cases h3 : i < 0 ∨ m.secs.length ≤ i
  · rw [if_pos h3] at h1
    rw [if_pos h3]
    exact h1
  · rw [if_neg h3] at h1
    rw [if_neg h3]
    rcases hi with hi | hi
    · exact absurd hi h3
    · rw [if_pos hi] at h1
      exact h1
end Go.Proofs.Ytooagoikiafgcaa.sep
