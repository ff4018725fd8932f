/-
  PROVED HERE: plain laws of a log on a disk: what Open finds, what Save and Format leave, behind a failure of power too. No program.
  CONDITIONS: each lemma names its own.
-/
import Derived.Test.YtdlbcbdfcjfagaaCommitSave
namespace Go.Proofs.Ytdlbcbdfcjfagaa.commit
set_option linter.unusedVariables false
open Go.RowKit Go.Proofs.Ytdlbcbdfcjfagaa.base Go.Proofs.Ytdlbcbdfcjfagaa.mem Go.Proofs.Ytdlbcbdfcjfagaa.crc Go.Proofs.Ytdlbcbdfcjfagaa.disk Go.Proofs.Ytdlbcbdfcjfagaa.record

/-- a log that is well laid -/
structure LogOk (m : DS) (p : Int) (s : LogS) : Prop where
  good : m.Good
  bts : m.Bts
  p0 : 0 ≤ p
  p1 : p < 4
  room : p * 10 + 1 < (m.secs.length : Int)
  held : s.held = 0 ∨ s.held = 1
  right : s.now.right = true
  part : s.now.part = p
  cur : getRec (m.now (p * 10 + s.held).toNat) = (s.now, 0)
  old : ∀ r, getRec (m.now (p * 10 + (1 - s.held)).toNat) = (r, 0) → r.part = p → r.seq + s.held ≤ s.now.seq

theorem right_seq {r : Rec} (h : r.right = true) : 1 ≤ r.seq ∧ r.seq ≤ 4294967295 := (Go.Proofs.Ytdlbcbdfcjfagaa.refRec.rec_in h).2.1
theorem right_part {r : Rec} (h : r.right = true) : 0 ≤ r.part ∧ r.part ≤ 3 := (Go.Proofs.Ytdlbcbdfcjfagaa.refRec.rec_in h).1
theorem LogOk.roomFor {m : DS} {p : Int} {s : LogS} (h : LogOk m p s) : roomFor p m.secs.length = true := by
  have h0 := h.p0; have h1 := h.p1; have h2 := h.room
  unfold commit.roomFor
  simp
  omega
theorem pick_take {p c : Int} {bs : List Int} {x : Rec × Int} {r : Rec} (h : getRec bs = (r, 0)) (hp : r.part = p) (hs : x.1.seq < r.seq) : pickRec p c bs x = (r, c) := by
  unfold pickRec
  rw [h, if_pos ⟨rfl, hp, hs⟩]
theorem pick_leave {p c : Int} {bs : List Int} {x : Rec × Int} (h : ∀ r, getRec bs = (r, 0) → r.part = p → r.seq ≤ x.1.seq) : pickRec p c bs x = x := by
  unfold pickRec
  rw [if_neg]
  rintro ⟨h1, h2, h3⟩
  have := h (getRec bs).1 (by rw [← h1]) h2
  omega
theorem pick_seq {p c : Int} {bs : List Int} {x : Rec × Int} {n : Int} (hx : x.1.seq < n) (h : ∀ r, getRec bs = (r, 0) → r.part = p → r.seq < n) : (pickRec p c bs x).1.seq < n := by
  unfold pickRec
  split
  · rename_i h1
    exact h (getRec bs).1 (by rw [← h1.1]) h1.2.1
  · exact hx
/-- Open finds it -/
theorem LogOk.open_ {m : DS} {p : Int} {s : LogS} (h : LogOk m p s) : openTo m p 2 = (s.now, s.held) := by
  have hs := right_seq h.right
  have hg := h.cur
  show pickRec p 1 (m.now (p * 10 + 1).toNat) (pickRec p 0 (m.now (p * 10 + 0).toNat) (Rec.zero, -1)) = _
  have ho := h.old
  rcases h.held with hh | hh
  · rw [hh] at hg ho ⊢
    rw [pick_take (x := (Rec.zero, -1)) hg h.part (by show (0 : Int) < _; omega)]
    exact pick_leave fun r hr hp => by have := ho r hr hp; show r.seq ≤ s.now.seq; omega
  · rw [hh] at hg ho ⊢
    exact pick_take hg h.part (pick_seq (by show (0 : Int) < _; omega) fun r hr hp => by have := ho r hr hp; omega)

/-- what the document's Next makes of a record -/
def refNext (now r : Rec) : Rec × Int := if 4294967295 ≤ now.seq then (now, 4) else if (nextRec now.part now r).right then (nextRec now.part now r, 0) else (now, 3)

/-- what Save comes to -/
inductive Saved (m : DS) (p : Int) (s : LogS) (r : Rec) : Prop
  | no (c : Int) (hc : c = 3 ∨ c = 4) (hr : refNext s.now r = (s.now, c)) (hs : saveM m p s r = (c, m, s))
  | yes (nx : Rec) (hr : refNext s.now r = (nx, 0)) (hn : nx = nextRec p s.now r) (right : nx.right = true)
      (hs : saveM m p s r = if (wf m (p * 10 + (1 - s.held)) nx.bytes).1 = 0 then (0, (wf m (p * 10 + (1 - s.held)) nx.bytes).2, ⟨1 - s.held, nx⟩) else ((wf m (p * 10 + (1 - s.held)) nx.bytes).1, (wf m (p * 10 + (1 - s.held)) nx.bytes).2, s))
theorem saved (m : DS) (p : Int) (s : LogS) (r : Rec) (hp : s.now.part = p) : Saved m p s r := by
  by_cases h1 : 4294967295 ≤ s.now.seq
  · exact .no 4 (.inr rfl) (by unfold refNext; rw [if_pos h1]) (by unfold saveM; rw [if_pos h1])
  · by_cases h2 : (nextRec p s.now r).right = true
    · exact .yes (nextRec p s.now r) (by unfold refNext; rw [if_neg h1, hp, if_pos h2]) rfl h2 (by unfold saveM; rw [if_neg h1, if_pos h2])
    · exact .no 3 (.inl rfl) (by unfold refNext; rw [if_neg h1, hp, if_neg h2]) (by unfold saveM; rw [if_neg h1, if_neg h2])

/-- a record that was written into the other copy -/
theorem LogOk.next {m m' : DS} {p : Int} {s : LogS} (h : LogOk m p s) {nx : Rec} (hr : nx.right = true) (hp : nx.part = p) (hq : nx.seq = s.now.seq + 1) (hg : m'.Good) (hb : m'.Bts) (hl : m'.secs.length = m.secs.length)
    (hn : ∀ j, m'.now j = if j = (p * 10 + (1 - s.held)).toNat then nx.bytes else m.now j) : LogOk m' p ⟨1 - s.held, nx⟩ ∧ m'.now (p * 10 + s.held).toNat = m.now (p * 10 + s.held).toNat := by
  have h0 := h.p0; have hh := h.held
  have e1 : m'.now (p * 10 + s.held).toNat = m.now (p * 10 + s.held).toNat := by
    rw [hn, if_neg (by rcases hh with e | e <;> rw [e] <;> omega)]
  refine ⟨⟨hg, hb, h.p0, h.p1, by rw [hl]; exact h.room, by rcases hh with e | e <;> rw [e] <;> simp, hr, hp, ?_, ?_⟩, e1⟩
  · show getRec (m'.now (p * 10 + (1 - s.held)).toNat) = (nx, 0)
    rw [hn, if_pos rfl]
    exact getRec_bytes hr
  · intro r hr' hp'
    rw [show p * 10 + (1 - (1 - s.held)) = p * 10 + s.held by omega, e1, h.cur] at hr'
    injection hr' with e2 _
    show r.seq + (1 - s.held) ≤ nx.seq
    rw [← e2]
    rcases hh with e | e <;> rw [e] <;> omega
theorem LogOk.at_in {m : DS} {p : Int} {s : LogS} (h : LogOk m p s) : 0 ≤ p * 10 + (1 - s.held) ∧ p * 10 + (1 - s.held) < (m.secs.length : Int) := by
  have h0 := h.p0; have h1 := h.room
  rcases h.held with e | e <;> rw [e] <;> omega
/-- Save, on a disk that goes on -/
theorem LogOk.save {m : DS} {p : Int} {s : LogS} (h : LogOk m p s) {nx r : Rec} (hn : nx = nextRec p s.now r) (hr : nx.right = true) (hw : (wf m (p * 10 + (1 - s.held)) nx.bytes).1 = 0) :
    LogOk (wf m (p * 10 + (1 - s.held)) nx.bytes).2 p ⟨1 - s.held, nx⟩ ∧ (wf m (p * 10 + (1 - s.held)) nx.bytes).2.now (p * 10 + s.held).toNat = m.now (p * 10 + s.held).toNat ∧ (wf m (p * 10 + (1 - s.held)) nx.bytes).2.waits = [] ∧ (wf m (p * 10 + (1 - s.held)) nx.bytes).2.down = false := by
  obtain ⟨a0, a1⟩ := h.at_in
  obtain ⟨w1, w2, w3⟩ := wf_ok h.good a0 a1 (Rec.bytes_length _) hw
  obtain ⟨l1, l2⟩ := h.next hr (by rw [hn]; rfl) (by rw [hn]; rfl) (h.good.wf _ _) (h.bts.wf _ (Rec.bytes_byt _)) (wf_slen _ _ _) w3
  exact ⟨l1, l2, w1, w2⟩

/-! ### Format on a disk whose fuse isn't lit -/
theorem getRec_zero : (getRec zeroSec).2 ≠ 0 := by decide +kernel
theorem format_up {m : DS} (hg : m.Good) (hb : m.Bts) (hu : m.Up) {p : Int} (hr : roomFor p m.secs.length = true) : (formatM m p).1 = 0 ∧ LogOk (formatM m p).2 p ⟨0, firstRec p⟩ ∧ (formatM m p).2.Up ∧ (formatM m p).2.waits = [] ∧ (formatM m p).2.secs.length = m.secs.length ∧
    ∀ j, (formatM m p).2.now j = if j = (p * 10).toNat then (firstRec p).bytes else if j = (p * 10 + 1).toNat then zeroSec else m.now j := by
  obtain ⟨p0, p1, hroom⟩ := room_of hr
  obtain ⟨a1, a2⟩ := wf_up (m := m) (i := p * 10 + 1) (bs := zeroSec) (by omega) hroom rfl hu
  have a3 : (wf m (p * 10 + 1) zeroSec).1 = 0 := by rw [a1]
  obtain ⟨a4, a5, a6⟩ := wf_ok hg (by omega) hroom rfl a3
  have a7 := wf_slen m (p * 10 + 1) zeroSec
  have e : formatM m p = wf (wf m (p * 10 + 1) zeroSec).2 (p * 10) (firstRec p).bytes := by unfold formatM; rw [if_pos a3]
  rw [e]
  have ag := hg.wf (p * 10 + 1) zeroSec
  have ab := hb.wf (p * 10 + 1) byt_zero
  generalize (wf m (p * 10 + 1) zeroSec).2 = m1 at *
  obtain ⟨b1, b2⟩ := wf_up (m := m1) (i := p * 10) (bs := (firstRec p).bytes) (by omega) (by omega) (Rec.bytes_length _) a2
  have b3 : (wf m1 (p * 10) (firstRec p).bytes).1 = 0 := by rw [b1]
  obtain ⟨b4, b5, b6⟩ := wf_ok ag (by omega) (by omega) (Rec.bytes_length _) b3
  have hn : ∀ j, (wf m1 (p * 10) (firstRec p).bytes).2.now j = if j = (p * 10).toNat then (firstRec p).bytes else if j = (p * 10 + 1).toNat then zeroSec else m.now j := fun j => by rw [b6, a6]
  refine ⟨b3, ⟨ag.wf _ _, ab.wf _ (Rec.bytes_byt _), p0, p1, by rw [wf_slen, a7]; exact hroom, .inl rfl, firstRec_right p0 p1, rfl, ?_, ?_⟩, b2, b4, by rw [wf_slen, a7], hn⟩
  · show getRec ((wf m1 (p * 10) (firstRec p).bytes).2.now (p * 10 + 0).toNat) = _
    rw [hn, if_pos (by omega)]
    exact getRec_bytes (firstRec_right p0 p1)
  · intro r hr' _
    have e2 : (wf m1 (p * 10) (firstRec p).bytes).2.now (p * 10 + (1 - 0)).toNat = zeroSec := by
      rw [hn, if_neg (by omega), if_pos (by omega)]
    have hr2 : getRec ((wf m1 (p * 10) (firstRec p).bytes).2.now (p * 10 + (1 - 0)).toNat) = (r, 0) := hr'
    rw [e2] at hr2
    exact absurd (by rw [hr2]) getRec_zero

/-! ### behind failures -/
/-- the disk without what waits -/
def _root_.Go.Proofs.Ytdlbcbdfcjfagaa.disk.DS.base (m : DS) : DS := { m with waits := [] }
/-- the log, and what was being saved when the disk went down -/
structure CI (m : DS) (p : Int) (s : LogS) (might : Rec) : Prop where
  good : m.Good
  bts : m.Bts
  ok : LogOk m.base p s
  up : m.down = false → might = Rec.zero ∧ m.waits = []
  dn : m.down = true → might.right = true ∧ might.part = p ∧ might.seq = s.now.seq + 1 ∧ (m.waits = [] ∨ m.waits = [((p * 10 + (1 - s.held)).toNat, might.bytes)])
theorem base_of {m : DS} (h : m.waits = []) : m.base = m := by
  unfold DS.base
  obtain ⟨a, b, c, d⟩ := m
  simp only at h ⊢
  rw [h]
theorem CI.few {m : DS} {p : Int} {s : LogS} {might : Rec} (h : CI m p s might) : m.waits.length ≤ 1 := by
  cases hd : m.down
  · rw [(h.up hd).2]; simp
  · rcases (h.dn hd).2.2.2 with e | e <;> rw [e] <;> simp
theorem CI.of_ok {m : DS} {p : Int} {s : LogS} (h : LogOk m p s) (hw : m.waits = []) (hd : m.down = false) : CI m p s Rec.zero :=
  ⟨h.good, h.bts, by rw [base_of hw]; exact h, fun _ => ⟨rfl, hw⟩, fun h' => absurd (hd.symm.trans h') (by decide)⟩
theorem LogOk.base_eq {m m' : DS} {p : Int} {s : LogS} (h : LogOk m p s) (hs : m'.secs = m.secs) (hw : m.waits = []) (hw' : m'.waits = []) (hg : m'.Good) (hb : m'.Bts) : LogOk m' p s := by
  have e : ∀ j, m'.now j = m.now j := fun j => by rw [DS.now_nil hw, DS.now_nil hw', hs]
  exact ⟨hg, hb, h.p0, h.p1, by rw [hs]; exact h.room, h.held, h.right, h.part, by rw [e]; exact h.cur, by rw [e]; exact h.old⟩
theorem _root_.Go.Proofs.Ytdlbcbdfcjfagaa.disk.DS.Good.base {m : DS} (h : m.Good) : m.base.Good := ⟨h.secs, fun p hp => absurd hp (by simp [DS.base]), h.fuse0, h.fuse1, h.n0, h.n1⟩
theorem _root_.Go.Proofs.Ytdlbcbdfcjfagaa.disk.DS.Bts.base {m : DS} (h : m.Bts) : m.base.Bts := ⟨h.secs, fun p hp => absurd hp (by simp [DS.base])⟩
/-- Save, whatever the fuse -/
inductive CSaved (m : DS) (p : Int) (s : LogS) (might r : Rec) : Prop
  | no (c : Int) (hc : c = 3 ∨ c = 4) (hr : refNext s.now r = (s.now, c)) (hs : saveM m p s r = (c, m, s))
  | yes (m' : DS) (s' : LogS) (hr : refNext s.now r = (s'.now, 0)) (hs : saveM m p s r = (0, m', s')) (ok : CI m' p s' might)
  | down (m' : DS) (nx : Rec) (hr : refNext s.now r = (nx, 0)) (hs : saveM m p s r = (8, m', s)) (ok : CI m' p s (if might.seq = 0 then nx else might))
theorem CI.save {m : DS} {p : Int} {s : LogS} {might : Rec} (h : CI m p s might) (r : Rec) : CSaved m p s might r := by
  rcases saved m p s r h.ok.part with ⟨c, hc, h1, h2⟩ | ⟨nx, h1, hn, hr, h2⟩
  · exact .no c hc h1 h2
  · obtain ⟨a0, a1⟩ := h.ok.at_in
    have a1' : p * 10 + (1 - s.held) < (m.secs.length : Int) := a1
    by_cases hw : (wf m (p * 10 + (1 - s.held)) nx.bytes).1 = 0
    · rw [if_pos hw] at h2
      cases hd : m.down with
      | true =>
        rw [wf_down a0 a1' (Rec.bytes_length _) hd] at hw
        exact absurd (show (8 : Int) = 0 from hw) (by decide)
      | false =>
        obtain ⟨u1, u2⟩ := h.up hd
        have hok := h.ok
        rw [base_of u2] at hok
        obtain ⟨l1, l2, l3, l4⟩ := hok.save hn hr hw
        refine .yes _ ⟨1 - s.held, nx⟩ h1 h2 ?_
        rw [u1]
        exact .of_ok l1 l3 l4
    · rw [if_neg hw] at h2
      obtain ⟨e1, e2, e3, e4⟩ := wf_err a0 a1' (Rec.bytes_length _) hw
      rw [e1] at h2
      refine .down _ nx h1 h2 ?_
      have hg := h.good.wf (p * 10 + (1 - s.held)) nx.bytes
      have hb := h.bts.wf (p * 10 + (1 - s.held)) (Rec.bytes_byt nx)
      have hok : LogOk (wf m (p * 10 + (1 - s.held)) nx.bytes).2.base p s := h.ok.base_eq (m' := (wf m (p * 10 + (1 - s.held)) nx.bytes).2.base) e3 rfl rfl hg.base hb.base
      cases hd : m.down with
      | true =>
        obtain ⟨d1, d2, d3, d4⟩ := h.dn hd
        have hms : ¬ might.seq = 0 := by have := right_seq d1; omega
        rw [if_neg hms]
        rw [wf_down a0 a1' (Rec.bytes_length _) hd] at *
        exact h
      | false =>
        obtain ⟨u1, u2⟩ := h.up hd
        have hms : might.seq = 0 := by rw [u1]; rfl
        rw [if_pos hms]
        refine ⟨hg, hb, hok, fun h' => absurd (e2.symm.trans h') (by decide), fun _ => ⟨hr, by rw [hn]; rfl, by rw [hn]; rfl, ?_⟩⟩
        rw [u2] at e4
        exact e4
theorem CI.fuse {m : DS} {p : Int} {s : LogS} {might : Rec} (h : CI m p s might) (hz : might.seq = 0) (n : Int) (hn : n ≤ 9223372036854775807) : CI (m.setFuse n) p s might := by
  cases hd : m.down with
  | true =>
    obtain ⟨d1, _⟩ := h.dn hd
    have := right_seq d1
    omega
  | false =>
    have e : m.setFuse n = { m with fuse := max n (-1) } := by unfold DS.setFuse; rw [hd]; rfl
    have hg := DS.setFuse_good h.good hn
    have hb := h.bts.setFuse n
    rw [e] at hg hb ⊢
    exact ⟨hg, hb, h.ok.base_eq (m' := DS.base { m with fuse := max n (-1) }) rfl rfl rfl hg.base hb.base, fun _ => h.up hd, fun h' => absurd (hd.symm.trans h') (by decide)⟩
/-- the power fails, and the log is opened anew -/
theorem CI.power {m : DS} {p : Int} {s : LogS} {might : Rec} (h : CI m p s might) (k : Int) : ∃ s' : LogS, openTo (m.power k) p 2 = (s'.now, s'.held) ∧ CI (m.power k) p s' Rec.zero ∧ s'.now = (if might.seq > 0 ∧ s'.now = might then might else s.now) := by
  have hg := DS.power_good h.good k
  have hb := h.bts.power k
  have key : m.waits = [] ∨ m.waits = [((p * 10 + (1 - s.held)).toNat, might.bytes)] := by
    cases hd : m.down
    · exact .inl (h.up hd).2
    · exact (h.dn hd).2.2.2
  rcases power_one key k with e | ⟨e1, e2⟩
  · have hok : LogOk (m.power k) p s := h.ok.base_eq (m' := m.power k) e rfl rfl hg hb
    refine ⟨s, hok.open_, .of_ok hok rfl rfl, ?_⟩
    split
    · rename_i hc; exact hc.2
    · rfl
  · cases hd : m.down with
    | false =>
      rw [(h.up hd).2] at e1
      exact absurd e1 (by simp)
    | true =>
      obtain ⟨d1, d2, d3, d4⟩ := h.dn hd
      obtain ⟨a0, a1⟩ := h.ok.at_in
      have hn : ∀ j, (m.power k).now j = if j = (p * 10 + (1 - s.held)).toNat then might.bytes else m.base.now j := by
        intro j
        rw [DS.now_nil (DS.power_waits m k), e2, getD_set, DS.now_nil (show m.base.waits = [] from rfl)]
        have a1' : p * 10 + (1 - s.held) < (m.secs.length : Int) := a1
        by_cases hj : j = (p * 10 + (1 - s.held)).toNat
        · rw [if_pos ⟨hj, by omega⟩, if_pos hj]
        · rw [if_neg fun x => hj x.1, if_neg hj]
          rfl
      obtain ⟨l1, l2⟩ := h.ok.next d1 d2 d3 hg hb (by rw [DS.power_slen]; rfl) hn
      refine ⟨⟨1 - s.held, might⟩, l1.open_, .of_ok l1 rfl rfl, ?_⟩
      show might = _
      rw [if_pos ⟨by have := right_seq d1; omega, rfl⟩]
end Go.Proofs.Ytdlbcbdfcjfagaa.commit
