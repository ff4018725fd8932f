/-
  PROVED HERE: lemmas and contracts that the law's proof leans on (texts put together: Check, DiskMath, Disk, DiskNew).
  CONDITIONS: each names its own.
-/
import Derived.Deep.AppendLies
import Derived.Deep.RegionHeld3
import Derived.Lib.MinMax
import Derived.Test.YtdldkkoplgkloaaGreatPz1
import Derived.Test.YtdldkkoplgkloaaGreatPz15
namespace Go.Proofs.YtdldkkoplgkloaaGreat
set_option linter.unusedVariables false
set_option linter.unusedSimpArgs false
set_option maxRecDepth 100000
set_option maxHeartbeats 32000000
namespace compat


open Go.RowKit Go.Deep base obj mem sep plan num bytes crc chain image tab
section
variable {w : World} {a : TabA} {t : Tab} {p : Nat} {i : Img} {A : Option Addr} {c : Nat} {ver : Int}
def sub4 (n:Int) (m:Nat):Bool:=Go.bits .andNot .i64 n (m:Int)==0
theorem wired_at (h:TabW w a t) (hp:p < t.parts.length) (hr:t.right=true):Calls Tryz.prog 104 #[.agg (askCells a t p i A c ver).toArray] w fun e w'=>e=.returned (.bool (sub4 i.sends (cset T3.a p t.chans t.chans.length)&&sub4 i.receives (cset T3.b p t.chans t.chans.length)))∧Below w.heap.size w w':=by
 obtain ⟨Z,hZ⟩:∃Z,Z=w.heap.size:=⟨_,rfl⟩
 obtain ⟨w1,hw1⟩:∃w1,w1=w.alloc (.cells (askCells a t p i A c ver).toArray 172):=⟨_,rfl⟩
 have H1:=Lib.hid (show St w w1 [row Z 172 (askCells a t p i A c ver)] by
  have h:=(St.nil w).new 172 (askCells a t p i A c ver).toArray
  rw [←hZ,←hw1] at h
  exact h)
 have HR:=Lib.hid (fun (w':World) (hb:Below w1.heap.size w1 w')=>ask_read (H1.out.row.1.below hb H1.out.row.1.lt))
 have HS:=Lib.hid (fun (w':World) (hb:Below w.heap.size w w')=>sends_at (h.over hb) hr hp)
 have HRC:=Lib.hid (fun (w':World) (hb:Below w.heap.size w w')=>receives_at (h.over hb) hr hp)
 simp only [TabA.val] at HS HRC
 have HW1:=Lib.hid hw1;have HZ:=Lib.hid hZ
 simp only [askCells,T3.cells] at HW1 HR HS HRC ⊢
 generalize cset T3.a p t.chans t.chans.length=cs,cset T3.b p t.chans t.chans.length=cr at *
 generalize t.parts.length=nP,t.wins.length=nW,t.chans.length=nC,t.frame=fr,t.trial=tr,i.part=i0,i.version=i1,i.hard=i2,i.mem=i3,i.fuel=i4,i.sends=i5,i.receives=i6,i.code.length=i7 at *
 clear hw1 hZ h
 obtain ⟨r0,r1,r2,r3,r4,r5,r6,r7,r8,r9,r10,r11,r12,r13,r14,lZ⟩:=HR.out w1 (Below.refl _ _)
 go_enter Tryz.func104,Tryz.ntmps104
 go_upto_region 1 with fail
 rw [←HW1.out,←HZ.out]
 go_wp2_with (fail)
 have HW:=Lib.hid H1.out.bel
 refine held_start (fun w'=>w'.cell? ⟨Z,0,none⟩=some (.int .i64 fr)∧w'.cell? ⟨Z,1,none⟩=some (.slice a.AP nP a.cP)∧w'.cell? ⟨Z,2,none⟩=some (.slice a.AW nW a.cW)∧w'.cell? ⟨Z,3,none⟩=some (.slice a.AC nC a.cC)∧w'.cell? ⟨Z,4,none⟩=some (.int .i64 tr)∧w'.cell? ⟨Z,5,none⟩=some (.int .i64 p)∧w'.cell? ⟨Z,6,none⟩=some (.int .i64 i0)∧w'.cell? ⟨Z,7,none⟩=some (.int .i64 i1)∧w'.cell? ⟨Z,8,none⟩=some (.int .i64 i2)∧w'.cell? ⟨Z,9,none⟩=some (.int .i64 i3)∧w'.cell? ⟨Z,10,none⟩=some (.int .i64 i4)∧w'.cell? ⟨Z,11,none⟩=some (.int .i64 i5)∧w'.cell? ⟨Z,12,none⟩=some (.int .i64 i6)∧w'.cell? ⟨Z,13,none⟩=some (.slice A i7 c)∧w'.cell? ⟨Z,14,none⟩=some (.int .i64 ver)∧Z < w'.heap.size) (by kernel_rfl) (HR.out w1.drew (Below.refl w1.heap.size w1).drew) (fun hHeld=>?_)
 (refine held_t 0 (h:=?_);(try simp only [xGs,xGz,xGo,Act.put,xSi,xSz,xSs]));(refine held_t 1 (h:=?_);(try simp only [xGs,xGz,xGo,Act.put,xSi,xSz,xSs]));(refine held_t 2 (h:=?_);(try simp only [xGs,xGz,xGo,Act.put,xSi,xSz,xSs]));(refine held_t 3 (h:=?_);(try simp only [xGs,xGz,xGo,Act.put,xSi,xSz,xSs]));(refine held_t 4 (h:=?_);(try simp only [xGs,xGz,xGo,Act.put,xSi,xSz,xSs]));(refine held_t 5 (h:=?_);(try simp only [xGs,xGz,xGo,Act.put,xSi,xSz,xSs]));(refine held_t 6 (h:=?_);(try simp only [xGs,xGz,xGo,Act.put,xSi,xSz,xSs]))
 (refine held_one 7 (by kernel_rfl) (by rfl) ?_;(try simp only [xGs,xGz,xGo]);go_simp)
 refine (HS.out w1.drew HW.out.drew).mono ?_
 rintro e w2 ⟨rfl,hb⟩
 have HCw2:=Lib.hid (((Below.refl w1.heap.size w1).drew).trans (hb.mono ((Below.refl w1.heap.size w1).drew).size))
 clear hb
 dsimp only
 (refine and_hand (HR.out w2 HCw2.out) (fun hHeld=>?_);(try simp only [xGs,xGz,xGo,Act.put,xSi,xSz,xSs]))
 obtain ⟨x,hx⟩:∃x,x=Go.bits .andNot .i64 i5 (cs:Int):=⟨_,rfl⟩
 by_cases h0:x=0
 ·have e0:(x==0)=true:=by simpa using h0
  have e1:(Go.bits .andNot .i64 i5 (cs:Int)==0)=true:=by rw [←hx];exact e0
  have E1:=Lib.hid (show sub4 i5 cs=true from e1)
  clear h0 hx
  (refine held_t 8 (h:=?_);(try simp only [xGs,xGz,xGo,Act.put,xSi,xSz,xSs]));(refine held_t 9 (h:=?_);(try simp only [xGs,xGz,xGo,Act.put,xSi,xSz,xSs]));(refine held_t 10 (h:=?_);(try simp only [xGs,xGz,xGo,Act.put,xSi,xSz,xSs]));(refine held_t 11 (h:=?_);(try simp only [xGs,xGz,xGo,Act.put,xSi,xSz,xSs]));(refine held_t 12 (h:=?_);(try simp only [xGs,xGz,xGo,Act.put,xSi,xSz,xSs]));(refine held_t 13 (h:=?_);(try simp only [xGs,xGz,xGo,Act.put,xSi,xSz,xSs]));(refine held_t 14 (h:=?_);(try simp only [xGs,xGz,xGo,Act.put,xSi,xSz,xSs]));(refine held_t 15 (h:=?_);(try simp only [xGs,xGz,xGo,Act.put,xSi,xSz,xSs]));(refine held_t 16 (h:=?_);(try simp only [xGs,xGz,xGo,Act.put,xSi,xSz,xSs]));(refine held_t 17 (h:=?_);(try simp only [xGs,xGz,xGo,Act.put,xSi,xSz,xSs]))
  (refine held_one 18 (by kernel_rfl) (by rfl) ?_;(try simp only [xGs,xGz,xGo]);go_simp)
  refine (HRC.out w2 (HW.out.trans (HCw2.out.mono HW.out.size))).mono ?_
  rintro e w3 ⟨rfl,hb⟩
  have HCw3:=Lib.hid ((HCw2.out).trans (hb.mono (HCw2.out).size))
  clear hb
  dsimp only
  (refine and_hand (HR.out w3 HCw3.out) (fun hHeld=>?_);(try simp only [xGs,xGz,xGo,Act.put,xSi,xSz,xSs]))
  (refine held_t 19 (h:=?_);(try simp only [xGs,xGz,xGo,Act.put,xSi,xSz,xSs]));(refine held_t 20 (h:=?_);(try simp only [xGs,xGz,xGo,Act.put,xSi,xSz,xSs]));(refine held_t 21 (h:=?_);(try simp only [xGs,xGz,xGo,Act.put,xSi,xSz,xSs]));(refine held_t 22 (h:=?_);(try simp only [xGs,xGz,xGo,Act.put,xSi,xSz,xSs]))
  refine held_end (by kernel_rfl) ?_
  go_wp2_with (fail)
  go_ret
  exact ⟨ret_bool (by rw [E1.out];rfl),HW.out.trans (HCw3.out.mono HW.out.size)⟩
 ·have e0:(x==0)=false:=by simpa using h0
  have e1:(Go.bits .andNot .i64 i5 (cs:Int)==0)=false:=by rw [←hx];exact e0
  have E1:=Lib.hid (show sub4 i5 cs=false from e1)
  clear h0 hx
  (refine held_t 8 (h:=?_);(try simp only [xGs,xGz,xGo,Act.put,xSi,xSz,xSs]));(refine held_t 9 (h:=?_);(try simp only [xGs,xGz,xGo,Act.put,xSi,xSz,xSs]));(refine held_t 10 (h:=?_);(try simp only [xGs,xGz,xGo,Act.put,xSi,xSz,xSs]))
  (refine held_drop 11 (by kernel_rfl) (fun _ _ _ _ _ h=>h) (by rfl) (by assumption) ?_;(try simp only [xGs,xGz,xGo,Act.put,xSi,xSz,xSs]));(refine held_drop 12 (by kernel_rfl) (fun _ _ _ _ _ h=>h) (by rfl) (by assumption) ?_;(try simp only [xGs,xGz,xGo,Act.put,xSi,xSz,xSs]));(refine held_drop 13 (by kernel_rfl) (fun _ _ _ _ _ h=>h) (by rfl) (by assumption) ?_;(try simp only [xGs,xGz,xGo,Act.put,xSi,xSz,xSs]));(refine held_drop 14 (by kernel_rfl) (fun _ _ _ _ _ h=>h) (by rfl) (by assumption) ?_;(try simp only [xGs,xGz,xGo,Act.put,xSi,xSz,xSs]));(refine held_drop 15 (by kernel_rfl) (fun _ _ _ _ _ h=>h) (by rfl) (by assumption) ?_;(try simp only [xGs,xGz,xGo,Act.put,xSi,xSz,xSs]));(refine held_drop 16 (by kernel_rfl) (fun _ _ _ _ _ h=>h) (by rfl) (by assumption) ?_;(try simp only [xGs,xGz,xGo,Act.put,xSi,xSz,xSs]));(refine held_drop 17 (by kernel_rfl) (fun _ _ _ _ _ h=>h) (by rfl) (by assumption) ?_;(try simp only [xGs,xGz,xGo,Act.put,xSi,xSz,xSs]));(refine held_drop 18 (by kernel_rfl) (fun _ _ _ _ _ h=>h) (by rfl) (by assumption) ?_;(try simp only [xGs,xGz,xGo,Act.put,xSi,xSz,xSs]));(refine held_drop 19 (by kernel_rfl) (fun _ _ _ _ _ h=>h) (by rfl) (by assumption) ?_;(try simp only [xGs,xGz,xGo,Act.put,xSi,xSz,xSs]));(refine held_drop 20 (by kernel_rfl) (fun _ _ _ _ _ h=>h) (by rfl) (by assumption) ?_;(try simp only [xGs,xGz,xGo,Act.put,xSi,xSz,xSs]))
  (refine held_t 21 (h:=?_);(try simp only [xGs,xGz,xGo,Act.put,xSi,xSz,xSs]));(refine held_t 22 (h:=?_);(try simp only [xGs,xGz,xGo,Act.put,xSi,xSz,xSs]))
  refine held_end (by kernel_rfl) ?_
  go_wp2_with (fail)
  go_ret
  exact ⟨ret_bool (by rw [E1.out];rfl),HW.out.trans (HCw2.out.mono HW.out.size)⟩
def partAt (t:Tab) (p:Nat):T3:=t.parts.getD p ⟨0,0,0⟩
def chk (t:Tab) (p:Nat) (i:Img) (ver:Int):Nat→Bool
 | 0=>decide (i.part=p∧i.hard=(partAt t p).c)
 | 1=>decide (i.mem≤(partAt t p).a∧i.fuel≤(partAt t p).b)
 | 2=>sub4 i.sends (cset T3.a p t.chans t.chans.length)&&sub4 i.receives (cset T3.b p t.chans t.chans.length)
 | _=>decide (ver < i.version)
def chkF (j:Nat):Nat:=[102,103,104,105].getD j 0
def chkE (j:Nat):Int:=[12,14,15,13].getD j 0
def chkTo (t:Tab) (p:Nat) (i:Img) (ver:Int):Nat→Int
 | 0=>0
 | k+1=>if chk t p i ver (3-k) then chkTo t p i ver k else chkE (3-k)
def checkL (t:Tab) (p:Int) (i:Img) (ver:Int):Int :=
 if t.right=false then 9 else if ¬(0≤p∧p < t.parts.length)∨¬i.right then 3 else chkTo t p.toNat i ver 4
theorem chk_at (h:TabW w a t) (hr:t.right=true) (hp:p < t.parts.length) (j:Nat) (hj:j < 4):Calls Tryz.prog (chkF j) #[.agg (askCells a t p i A c ver).toArray] w fun e w'=>e=.returned (.bool (chk t p i ver j))∧Below w.heap.size w w':=by
 have hg:partAt t p=t.parts[p]:=by simp [partAt,hp]
 rcases (by omega:j=0∨j=1∨j=2∨j=3) with rfl|rfl|rfl|rfl
 ·rw [chk,hg];exact mine_at h hp
 ·rw [chk,hg];exact small_at h hp
 ·exact wired_at h hp hr
 ·exact newer_at h hp
theorem chk_idx (j:Nat) (hj:j < 4) (w:World):(Instr.index 175 (.agg #[.func (Fn.func 102) #[] #[],.int .i64 12,.func (Fn.func 103) #[] #[],.int .i64 14,.func (Fn.func 104) #[] #[],.int .i64 15,.func (Fn.func 105) #[] #[],.int .i64 13]) (.int .i64 (j:Int))).run Tryz.prog w=.ok (.agg #[.func (Fn.func (chkF j)) #[] #[],.int .i64 (chkE j)]) w:=by
 rcases (by omega:j=0∨j=1∨j=2∨j=3) with rfl|rfl|rfl|rfl
 ·kernel_rfl
 ·kernel_rfl
 ·kernel_rfl
 ·kernel_rfl
theorem chk_hcf (j:Nat) (hj:j < 4) (x:Array Value) (w:World):(callFunc (chkF j) #[.agg x]).run Tryz.prog w=.ok (.enter (chkF j) #[.agg x]) w:=by
 rcases (by omega:j=0∨j=1∨j=2∨j=3) with rfl|rfl|rfl|rfl
 ·kernel_rfl
 ·kernel_rfl
 ·kernel_rfl
 ·kernel_rfl
theorem chkTo_all {k:Nat} (hk:k≤4) (h:∀j,4-k≤j→j < 4→chk t p i ver j=true):chkTo t p i ver k=0:=by
 induction k with
 | zero=>rfl
 | succ k ih =>
   rw [chkTo,if_pos (h _ (by omega) (by omega))]
   exact ih (by omega) fun j h1 h2=>h j (by omega) h2
theorem chkTo_at {j:Nat} (hj:j < 4) (h:∀k,k < j→chk t p i ver k=true) (hn:chk t p i ver j=false):∀k,4-k≤j→k≤4→chkTo t p i ver k=chkE j
 | 0,h1,_=>by omega
 | k+1,h1,h2=>by
   rw [chkTo]
   by_cases he:3-k=j
   ·rw [he,hn];rfl
   ·rw [if_pos (h _ (by omega))]
    exact chkTo_at hj h hn k (by omega) (by omega)
theorem check_at (h:TabW w a t) (q:Int) (hc:i.code.length≤9223372036854775807):Calls Tryz.prog 55 #[a.val t,.int .i64 q,i.val A c,.int .i64 ver] w fun e w'=>e=.returned (.int .i64 (checkL t q i ver))∧Below w.heap.size w w':=by
 have HRT:=Lib.hid (fun w' (hb:Below w.heap.size w w')=>right_at (h.over hb))
 have HHAS:=Lib.hid (fun w' (hb:Below w.heap.size w w')=>has_at (h.over hb) q)
 have HIR:=Lib.hid (fun w'=>image.right_at w' i A c hc)
 have HCK:=Lib.hid (fun (w':World) (hb:Below w.heap.size w w') (hr:t.right=true) (p:Nat) (hp:p < t.parts.length) (j:Nat) (hj:j < 4)=>chk_at (p:=p) (i:=i) (A:=A) (c:=c) (ver:=ver) (h.over hb) hr hp j hj)
 obtain ⟨Z,hZ⟩:∃Z,Z=w.heap.size:=⟨_,rfl⟩
 obtain ⟨w1,hw1⟩:∃w1,w1=(w.alloc (.cells #[.int .i64 t.frame,.slice a.AP t.parts.length a.cP,.slice a.AW t.wins.length a.cW,.slice a.AC t.chans.length a.cC,.int .i64 t.trial] 46)).alloc (.cells #[.int .i64 i.part,.int .i64 i.version,.int .i64 i.hard,.int .i64 i.mem,.int .i64 i.fuel,.int .i64 i.sends,.int .i64 i.receives,.slice A i.code.length c] 26):=⟨_,rfl⟩
 have H1:=Lib.hid (show St w w1 [row Z 46 [.int .i64 t.frame,.slice a.AP t.parts.length a.cP,.slice a.AW t.wins.length a.cW,.slice a.AC t.chans.length a.cC,.int .i64 t.trial],row (Z+1) 26 [.int .i64 i.part,.int .i64 i.version,.int .i64 i.hard,.int .i64 i.mem,.int .i64 i.fuel,.int .i64 i.sends,.int .i64 i.receives,.slice A i.code.length c]] by
  have h:=((St.nil w).new 46 #[.int .i64 t.frame,.slice a.AP t.parts.length a.cP,.slice a.AW t.wins.length a.cW,.slice a.AC t.chans.length a.cC,.int .i64 t.trial]).new 26 #[.int .i64 i.part,.int .i64 i.version,.int .i64 i.hard,.int .i64 i.mem,.int .i64 i.fuel,.int .i64 i.sends,.int .i64 i.receives,.slice A i.code.length c]
  rw [show (w.alloc (.cells #[.int .i64 t.frame,.slice a.AP t.parts.length a.cP,.slice a.AW t.wins.length a.cW,.slice a.AC t.chans.length a.cC,.int .i64 t.trial] 46)).heap.size=Z+1 by rw [hZ];exact Array.size_push _,←hZ,←hw1] at h
  exact h.swap)
 have HW1:=Lib.hid hw1;have HZ:=Lib.hid hZ
 have HL:=Lib.hid (show checkL t q i ver=if t.right=false then 9 else if ¬(0≤q∧q < t.parts.length)∨¬i.right then 3 else chkTo t q.toNat i ver 4 from rfl)
 obtain ⟨L,hL⟩:∃L,L=checkL t q i ver:=⟨_,rfl⟩
 rw [←hL] at HL ⊢
 simp only [TabA.val,Img.val,askCells] at HW1 HHAS HIR HCK ⊢
 obtain ⟨nP,hnP⟩:∃v,v=t.parts.length:=⟨_,rfl⟩
 obtain ⟨rr,hrr⟩:∃v,v=t.right:=⟨_,rfl⟩
 obtain ⟨ir,hir⟩:∃v:Bool,v=decide i.right:=⟨_,rfl⟩
 obtain ⟨ck,hck⟩:∃v,v=chk t q.toNat i ver:=⟨_,rfl⟩
 have HTO:=Lib.hid (fun (j:Nat) (hj:j < 4) (h:∀k,k < j→ck k=true) (hn:ck j=false)=>show chkTo t q.toNat i ver 4=chkE j from chkTo_at hj (by rw [←hck];exact h) (by rw [←hck];exact hn) 4 (by omega) (by omega))
 have HALL:=Lib.hid (fun (h:∀k,k < 4→ck k=true)=>show chkTo t q.toNat i ver 4=0 from chkTo_all (by omega) (by rw [←hck];exact fun j _ hj=>h j hj))
 have HIRR:=Lib.hid (show i.right ↔ ir=true by rw [hir];simp)
 rw [←hrr] at HRT HL HCK
 rw [←hir] at HIR
 simp only [←hnP] at HRT HHAS HIR HCK HL H1 HW1 ⊢
 have HCK2:=Lib.hid (fun (w':World) (hb:Below w.heap.size w w') (hr:rr=true) (h0:0≤q) (h1:q < nP) (j:Nat) (hj:j < 4)=>by
  have hh:=HCK.out w' hb hr q.toNat (by omega) j hj
  rw [←hck,show ((q.toNat:Nat):Int)=q by omega] at hh
  exact hh)
 clear HCK
 generalize t.wins.length=nW,t.chans.length=nC,t.frame=fr,t.trial=tr,i.part=i0,i.version=i1,i.hard=i2,i.mem=i3,i.fuel=i4,i.sends=i5,i.receives=i6,i.code.length=i7,chkTo t q.toNat i ver 4=L4 at *
 clear hw1 hZ h hL hnP hrr hir hck
 have HRW:=Lib.hid (fun (w':World) (hb:Below w1.heap.size w1 w')=>H1.out.row.1.below hb H1.out.row.1.lt)
 have HRI:=Lib.hid (fun (w':World) (hb:Below w1.heap.size w1 w')=>H1.out.swap.row.1.below hb H1.out.swap.row.1.lt)
 have rows:∀w',Below w1.heap.size w1 w'→(w'.cell? ⟨Z,0,none⟩=some (.int .i64 fr)∧w'.cell? ⟨Z,1,none⟩=some (.slice a.AP nP a.cP)∧w'.cell? ⟨Z,2,none⟩=some (.slice a.AW nW a.cW)∧w'.cell? ⟨Z,3,none⟩=some (.slice a.AC nC a.cC)∧w'.cell? ⟨Z,4,none⟩=some (.int .i64 tr)∧Z < w'.heap.size)∧
   (w'.cell? ⟨Z+1,0,none⟩=some (.int .i64 i0)∧w'.cell? ⟨Z+1,1,none⟩=some (.int .i64 i1)∧w'.cell? ⟨Z+1,2,none⟩=some (.int .i64 i2)∧w'.cell? ⟨Z+1,3,none⟩=some (.int .i64 i3)∧w'.cell? ⟨Z+1,4,none⟩=some (.int .i64 i4)∧w'.cell? ⟨Z+1,5,none⟩=some (.int .i64 i5)∧w'.cell? ⟨Z+1,6,none⟩=some (.int .i64 i6)∧w'.cell? ⟨Z+1,7,none⟩=some (.slice A i7 c)∧Z+1 < w'.heap.size) :=
  fun w' hb=>⟨⟨(HRW.out w' hb).cell 0,(HRW.out w' hb).cell 1,(HRW.out w' hb).cell 2,(HRW.out w' hb).cell 3,(HRW.out w' hb).cell 4,(HRW.out w' hb).lt⟩,
   (HRI.out w' hb).cell 0,(HRI.out w' hb).cell 1,(HRI.out w' hb).cell 2,(HRI.out w' hb).cell 3,(HRI.out w' hb).cell 4,(HRI.out w' hb).cell 5,(HRI.out w' hb).cell 6,(HRI.out w' hb).cell 7,(HRI.out w' hb).lt⟩
 have HROWS:=Lib.hid rows
 have HB1:=Lib.hid H1.out.bel
 clear rows H1 HRW HRI
 obtain ⟨⟨t0,t1,t2,t3,t4,lZ⟩,u0,u1,u2,u3,u4,u5,u6,u7,lY⟩:=HROWS.out w1 (Below.refl _ _)
 go_enter Tryz.func55,Tryz.ntmps55
 go_upto_region 1 with fail
 rw [←HW1.out,←HZ.out]
 go_wp2_with (fail)
 refine (HRT.out w1 HB1.out).mono ?_
 rintro e w2 ⟨rfl,hb2⟩
 have HB2:=Lib.hid hb2
 clear t0 t1 t2 t3 t4 lZ u0 u1 u2 u3 u4 u5 u6 u7 lY hb2
 obtain ⟨⟨t0,t1,t2,t3,t4,lZ⟩,u0,u1,u2,u3,u4,u5,u6,u7,lY⟩:=HROWS.out w2 HB2.out
 have HBW2:=Lib.hid (HB1.out.trans (HB2.out.mono HB1.out.size))
 cases rr with
 | false =>
   go_wp2_with (fail)
   go_ret
   exact ⟨ret_int (by rw [HL.out];rfl),HBW2.out⟩
 | true =>
   go_wp2_with (fail)
   refine (HHAS.out w2 HBW2.out).mono ?_
   rintro e w3 ⟨rfl,hb3⟩
   have HB3:=Lib.hid (HB2.out.trans (hb3.mono HB2.out.size))
   clear t0 t1 t2 t3 t4 lZ u0 u1 u2 u3 u4 u5 u6 u7 lY hb3
   obtain ⟨⟨t0,t1,t2,t3,t4,lZ⟩,u0,u1,u2,u3,u4,u5,u6,u7,lY⟩:=HROWS.out w3 HB3.out
   have HBW3:=Lib.hid (HB1.out.trans (HB3.out.mono HB1.out.size))
   by_cases hq:0≤q∧q < (nP:Int)
   ·rw [decide_eq_true hq]
    have HQ:=Lib.hid hq
    clear hq
    go_wp2_with (fail)
    refine (HIR.out w3).mono ?_
    rintro e w4 ⟨rfl,hb4⟩
    have HB4:=Lib.hid (HB3.out.trans (hb4.mono HB3.out.size))
    clear t0 t1 t2 t3 t4 lZ u0 u1 u2 u3 u4 u5 u6 u7 lY hb4
    obtain ⟨⟨t0,t1,t2,t3,t4,lZ⟩,u0,u1,u2,u3,u4,u5,u6,u7,lY⟩:=HROWS.out w4 HB4.out
    have HBW4:=Lib.hid (HB1.out.trans (HB4.out.mono HB1.out.size))
    cases ir with
    | false =>
      go_wp2_with (fail)
      go_ret
      exact ⟨ret_int (by rw [HL.out,if_neg (by simp),if_pos (.inr (by rw [HIRR.out];simp))]),HBW4.out⟩
    | true =>
      have HLL:=Lib.hid (show L=L4 by rw [HL.out,if_neg (by simp),if_neg (by rw [HIRR.out];simp;exact HQ.out)])
      go_wp2_with (fail)
      go_loopw [30] (fun x wr=>∃j:Nat,j≤4∧x=.int .i64 j∧Below w1.heap.size w1 wr∧∀k,k < j→ck k=true) (fun x _=>4-(intOf x).toNat)
      case atStart=>exact ⟨0,by omega,rfl,HB4.out,fun k hk=>absurd hk (by omega)⟩
      case round =>
       obtain ⟨j,hj,rfl,hbr,hall⟩:=hrel
       have HBR:=Lib.hid hbr;have HAL:=Lib.hid hall
       clear t0 t1 t2 t3 t4 lZ u0 u1 u2 u3 u4 u5 u6 u7 lY hbr hall
       by_cases hlt:j < 4
       ·obtain ⟨⟨t0,t1,t2,t3,t4,lZ⟩,u0,u1,u2,u3,u4,u5,u6,u7,lY⟩:=HROWS.out wr HBR.out
        have hix:=chk_idx j hlt
        have hcf:=chk_hcf j hlt
        have HC:=Lib.hid (fun w' hb=>HCK2.out w' hb trivial HQ.out.1 HQ.out.2 j hlt)
        have HTJ:=Lib.hid (fun h=>HTO.out j hlt HAL.out h)
        generalize chkF j=F at *
        generalize chkE j=E at *
        obtain ⟨cj,hcj⟩:∃v,v=ck j:=⟨_,rfl⟩
        rw [←hcj] at HC HTJ
        have HCJ:=Lib.hid hcj
        obtain ⟨y,hy⟩:∃y,y=wr.heap.size:=⟨_,rfl⟩
        obtain ⟨wa,hwa⟩:∃v,v=wr.alloc (.cells #[.nilFunc,.int .i64 0] 174):=⟨_,rfl⟩
        have hra:Row wa y 174 [.nilFunc,.int .i64 0]:=by rw [hwa,hy];exact Row.new wr _ _
        have hba:Below w1.heap.size w1 wa:=by rw [hwa];exact HBR.out.trans (((Below.refl wr.heap.size wr).alloc (Nat.le_refl _) _).mono HBR.out.size)
        have hyl:w1.heap.size≤y:=by rw [hy];exact HBR.out.size
        have HRA:=Lib.hid hra;have HBA:=Lib.hid hba;have HYL:=Lib.hid hyl
        have HY:=Lib.hid hy;have HWA:=Lib.hid hwa
        have k1:(j:Int) < 4:=by omega
        clear hcj hba hra hyl hy hwa
        go_upto_region 8 with (rw [←HWA.out,←HY.out];refine wpList_putR rfl 174 (.tmp 10) (.tmp 32) rfl y 0 #[.func (Fn.func F) #[] #[],.int .i64 E] rfl rfl HRA.out (by kernel_rfl) (by simp) (by simp [Value.oneCell']) [.func (Fn.func F) #[] #[],.int .i64 E] (by simp) ?_)
        obtain ⟨wb,hwb⟩:∃v,v=wa.setRow y #[.func (Fn.func F) #[] #[],.int .i64 E]:=⟨_,rfl⟩
        have hrb:Row wb y 174 [.func (Fn.func F) #[] #[],.int .i64 E]:=by rw [hwb];exact HRA.out.setRow _
        have hbb:Below w1.heap.size w1 wb:=by rw [hwb];exact below_setRow' HBA.out HYL.out _
        rw [←hwb]
        have HBB:=Lib.hid hbb;have HRB:=Lib.hid hrb
        have z0:wb.cell? ⟨y,0,none⟩=some (.func (Fn.func F) #[] #[]):=hrb.cell 0
        have lz:=hrb.lt
        clear t0 t1 t2 t3 t4 lZ u0 u1 u2 u3 u4 u5 u6 u7 lY hrb hbb hwb
        obtain ⟨⟨t0,t1,t2,t3,t4,lZ⟩,u0,u1,u2,u3,u4,u5,u6,u7,lY⟩:=HROWS.out wb HBB.out
        go_wp2_with (fail)
        refine (HC.out _ (HB1.out.trans (HBB.out.mono HB1.out.size))).mono ?_
        rintro e w5 ⟨rfl,hb5⟩
        have HB5:=Lib.hid (HBB.out.trans (hb5.mono HBB.out.size))
        have hrow:=HRB.out.below hb5 HRB.out.lt
        clear z0 lz
        have z1:w5.cell? ⟨y,1,none⟩=some (.int .i64 E):=hrow.cell 1
        have lz:=hrow.lt
        clear t0 t1 t2 t3 t4 lZ u0 u1 u2 u3 u4 u5 u6 u7 lY hb5 hix hcf hrow
        cases cj with
        | true =>
          go_wp2_with (fail)
          go_roundw
          case rel =>
           refine ⟨j+1,by omega,by go_num,HB5.out,fun k hk=>?_⟩
           by_cases hkj:k=j
           ·rw [hkj];exact HCJ.out.symm
           ·exact HAL.out k (by omega)
          case measure=>simp [intOf];omega
        | false =>
          go_wp2_with (fail)
          go_ret
          exact ⟨ret_int (by rw [HLL.out,HTJ.out trivial]),HB1.out.trans (HB5.out.mono HB1.out.size)⟩
       ·have hj4:j=4:=by omega
        have HL4:=Lib.hid (HALL.out (by rw [←hj4];exact HAL.out))
        have k1:¬(j:Int) < 4:=by omega
        clear hj4
        go_wp2_with (fail)
        go_ret
        exact ⟨ret_int (by rw [HLL.out,HL4.out]),HB1.out.trans (HBR.out.mono HB1.out.size)⟩
   ·rw [decide_eq_false hq]
    have HQ:=Lib.hid hq
    clear hq
    go_wp2_with (fail)
    go_ret
    exact ⟨ret_int (by rw [HL.out,if_neg (by simp),if_pos (.inl HQ.out)]),HBW3.out⟩
end
end compat
namespace disk

structure DS where
 secs:List (List Int)
 waits:List (Nat×List Int)
 fuse:Int
 down:Bool
def secCells (s:List Int):List Value:=s.map (.int .u8)
def waitCells (p:Nat×List Int):List Value:=.int .i64 p.1::p.2.map (.int .u8)
structure DS.Good (m:DS):Prop where
 secs:∀s∈m.secs,s.length=64
 waits:∀p∈m.waits,p.1 < m.secs.length∧p.2.length=64
 fuse0:-1≤m.fuse
 fuse1:m.fuse≤9223372036854775807
 n0:1≤m.secs.length
 n1:m.secs.length≤128
def clampN (n:Int):Nat:=if n < 1 then 1 else if 128 < n then 128 else n.toNat
theorem clampN_bd (n:Int):1≤clampN n∧clampN n≤128:=by unfold clampN;split<;>(try split)<;>omega
def zeroSec:List Int:=List.replicate 64 0
def DS.new (n:Nat):DS:=⟨List.replicate n zeroSec,[],-1,false⟩
theorem DS.new_good {n:Nat} (h0:1≤n) (h1:n≤128):(DS.new n).Good:=by
 refine ⟨fun s hs=>?_,fun p hp=>absurd hp (by simp [DS.new]),by simp [DS.new],by simp [DS.new],by simpa [DS.new] using h0,by simpa [DS.new] using h1⟩
 rw [(List.mem_replicate.1 hs).2]
 rfl
def DS.goes (m:DS):Bool:=!(m.down||m.fuse==0)
def DS.burnt (m:DS):DS:=if m.down||m.fuse==0 then { m with down:=true } else { m with fuse:=max (m.fuse-1) (-1) }
theorem DS.burnt_good {m:DS} (h:m.Good):m.burnt.Good:=by
 have h0:=h.fuse0
 have h1:=h.fuse1
 unfold DS.burnt
 split
 ·exact ⟨h.secs,h.waits,h0,h1,h.n0,h.n1⟩
 ·exact ⟨h.secs,h.waits,by simp only;omega,by simp only;omega,h.n0,h.n1⟩
theorem DS.burnt_secs (m:DS):m.burnt.secs=m.secs:=by unfold DS.burnt;split<;>rfl
theorem DS.burnt_waits (m:DS):m.burnt.waits=m.waits:=by unfold DS.burnt;split<;>rfl
def DS.put (m:DS) (at_:Nat) (b:List Int):DS:={ m with waits:=m.waits++[(at_,b)] }
theorem DS.put_good {m:DS} (h:m.Good) {at_:Nat} {b:List Int} (h0:at_ < m.secs.length) (h1:b.length=64):(m.put at_ b).Good:=by
 refine ⟨h.secs,fun p hp=>?_,h.fuse0,h.fuse1,h.n0,h.n1⟩
 simp only [DS.put,List.mem_append,List.mem_singleton] at hp
 rcases hp with hp|rfl
 ·exact h.waits p hp
 ·exact ⟨h0,h1⟩
def DS.write (m:DS) (at_:Int) (b:List Int):Int×DS :=
 if at_ < 0∨m.secs.length≤at_ then (3,m) else if b.length≠64 then (14,m) else if m.goes then (0,m.burnt.put at_.toNat b) else (8,m.burnt)
def nowTo (ws:List (Nat×List Int)) (s:List Int) (at_:Nat):Nat→List Int
 | 0=>s
 | k+1=>match ws[k]? with
   | some w=>if w.1=at_ then w.2 else nowTo ws s at_ k
   | none=>nowTo ws s at_ k
theorem nowTo_hit {ws:List (Nat×List Int)} {s:List Int} {at_ k:Nat} (h:k < ws.length) (e:ws[k].1=at_):nowTo ws s at_ (k+1)=ws[k].2:=by
 simp [nowTo,List.getElem?_eq_getElem h,e]
theorem nowTo_miss {ws:List (Nat×List Int)} {s:List Int} {at_ k:Nat} (h:k < ws.length) (e:ws[k].1≠at_):nowTo ws s at_ (k+1)=nowTo ws s at_ k:=by
 simp [nowTo,List.getElem?_eq_getElem h,e]
theorem nowTo_len {ws:List (Nat×List Int)} {s:List Int} {at_:Nat} (hw:∀p∈ws,p.2.length=64) (hs:s.length=64):∀k,k≤ws.length→(nowTo ws s at_ k).length=64
 | 0,_=>hs
 | k+1,h=>by
   have ih:=nowTo_len (at_:=at_) hw hs k (by omega)
   by_cases e:(ws[k]'(by omega)).1=at_
   ·rw [nowTo_hit (by omega) e]
    exact hw _ (List.getElem_mem _)
   ·rw [nowTo_miss (by omega) e]
    exact ih
def DS.now (m:DS) (at_:Nat):List Int:=nowTo m.waits (m.secs.getD at_ []) at_ m.waits.length
def layTo (p:Nat→Bool) (ws:List (Nat×List Int)) (s:List (List Int)):Nat→List (List Int)
 | 0=>s
 | k+1=>match ws[k]? with
   | some w=>if p k then (layTo p ws s k).set w.1 w.2 else layTo p ws s k
   | none=>layTo p ws s k
theorem layTo_yes {p:Nat→Bool} {ws:List (Nat×List Int)} {s:List (List Int)} {k:Nat} (h:k < ws.length) (e:p k=true):layTo p ws s (k+1)=(layTo p ws s k).set ws[k].1 ws[k].2:=by
 simp [layTo,List.getElem?_eq_getElem h,e]
theorem layTo_no {p:Nat→Bool} {ws:List (Nat×List Int)} {s:List (List Int)} {k:Nat} (h:k < ws.length) (e:p k=false):layTo p ws s (k+1)=layTo p ws s k:=by
 simp [layTo,List.getElem?_eq_getElem h,e]
theorem layTo_len (p:Nat→Bool) (ws:List (Nat×List Int)) (s:List (List Int)):∀k,(layTo p ws s k).length=s.length
 | 0=>rfl
 | k+1=>by
   have ih:=layTo_len p ws s k
   rw [layTo]
   split
   ·split
    ·rw [List.length_set,ih]
    ·exact ih
   ·exact ih
theorem layTo_64 {p:Nat→Bool} {ws:List (Nat×List Int)} {s:List (List Int)} (hw:∀q∈ws,q.2.length=64) (hs:∀q∈s,q.length=64):∀k,∀q∈layTo p ws s k,q.length=64
 | 0=>hs
 | k+1=>by
   have ih:=layTo_64 (p:=p) hw hs k
   intro q hq
   rw [layTo] at hq
   split at hq
   ·rename_i w hw'
    split at hq
    ·rcases List.mem_or_eq_of_mem_set hq with h|h
     ·exact ih q h
     ·subst h
      exact hw w (List.mem_of_getElem? hw')
    ·exact ih q hq
   ·exact ih q hq
def DS.lay (m:DS) (p:Nat→Bool):DS:={ m with secs:=layTo p m.waits m.secs m.waits.length,waits:=[] }
theorem DS.lay_good {m:DS} (h:m.Good) (p:Nat→Bool):(m.lay p).Good:=by
 refine ⟨layTo_64 (fun q hq=>(h.waits q hq).2) h.secs _,fun q hq=>absurd hq (by simp [DS.lay]),h.fuse0,h.fuse1,?_,?_⟩
 ·show 1≤(layTo _ _ _ _).length
  rw [layTo_len];exact h.n0
 ·show (layTo _ _ _ _).length≤128
  rw [layTo_len];exact h.n1
def DS.flush (m:DS):Int×DS:=if m.goes then (0,m.burnt.lay fun _=>true) else (8,m.burnt)
def keeps (keep:Int) (i:Nat):Bool:=decide (i < 64)&&(keep / 2 ^ i % 2==1)
def DS.power (m:DS) (keep:Int):DS:={ m.lay (keeps keep) with fuse:=-1,down:=false }
theorem DS.power_good {m:DS} (h:m.Good) (keep:Int):(m.power keep).Good:=by
 have g:=DS.lay_good h (keeps keep)
 exact ⟨g.secs,g.waits,by simp [DS.power],by simp [DS.power],g.n0,g.n1⟩
def DS.setFuse (m:DS) (n:Int):DS:=if m.down then m else { m with fuse:=max n (-1) }
theorem DS.setFuse_good {m:DS} (h:m.Good) {n:Int} (hn:n≤9223372036854775807):(m.setFuse n).Good:=by
 unfold DS.setFuse
 split
 ·exact h
 ·exact ⟨h.secs,h.waits,by simp only;omega,by simp only;omega,h.n0,h.n1⟩
end disk
namespace disk

open Go.RowKit base obj mem
def More (F:Nat→Prop) (w w':World):Nat→Prop:=fun i=>F i∨(w.heap.size≤i∧i < w'.heap.size)
def dCells (L:Nat) (wv:Value) (m:DS):List Value:=[.slice (some ⟨L,0,none⟩) m.secs.length m.secs.length,wv,.int .i64 m.fuse,.bool m.down]
structure DiskIn (w:World) (F:Nat→Prop) (g L:Nat) (wv:Value) (m:DS):Prop where
 good:m.Good
 blk:Row w g 135 (dCells L wv m)
 laid:Row w L 137 (m.secs.map secCells).flatten
 own:w.ownsRow 0 139 65 wv m.waits.length (m.waits.map waitCells).flatten
 fg:F g
 fl:F L
 fw:∀k,wv.ownBlock=some k→F k
def DiskAt (w:World) (F:Nat→Prop) (g:Nat) (m:DS):Prop:=∃L wv,DiskIn w F g L wv m
section
variable {w w' : World} {F F' : Nat → Prop} {g L : Nat} {wv : Value} {m : DS}
theorem DiskIn.more (h:DiskIn w F g L wv m) (hF:∀i,F i→F' i):DiskIn w F' g L wv m :=
 ⟨h.good,h.blk,h.laid,h.own,hF _ h.fg,hF _ h.fl,fun k hk=>hF _ (h.fw k hk)⟩
theorem DiskAt.more (h:DiskAt w F g m) (hF:∀i,F i→F' i):DiskAt w F' g m:=by
 obtain ⟨L,wv,h⟩:=h
 exact ⟨L,wv,h.more hF⟩
theorem DiskIn.kept (h:DiskIn w F g L wv m) {S:Nat→Prop} (k:Kept S w w') (hS:∀i,F i→¬S i):DiskIn w' F g L wv m :=
 ⟨h.good,h.blk.kept k (hS _ h.fg),h.laid.kept k (hS _ h.fl),k.own h.own (fun i hi=>hS _ (h.fw i hi)),h.fg,h.fl,h.fw⟩
theorem DiskAt.kept (h:DiskAt w F g m) {S:Nat→Prop} (k:Kept S w w') (hS:∀i,F i→¬S i):DiskAt w' F g m:=by
 obtain ⟨L,wv,h⟩:=h
 exact ⟨L,wv,h.kept k hS⟩
theorem DiskAt.below (h:DiskAt w F g m) (k:Below w.heap.size w w'):DiskAt w' F g m:=h.kept (Kept.of_below k (fun _=>False)) (fun _ _ h=>h)
theorem DiskIn.read (h:DiskIn w F g L wv m):w.cell? ⟨g,0,none⟩=some (.slice (some ⟨L,0,none⟩) m.secs.length m.secs.length)∧w.cell? ⟨g,1,none⟩=some wv∧w.cell? ⟨g,2,none⟩=some (.int .i64 m.fuse)∧w.cell? ⟨g,3,none⟩=some (.bool m.down) :=
 ⟨h.blk.cell 0,h.blk.cell 1,h.blk.cell 2,h.blk.cell 3⟩
theorem DiskIn.gl (h:DiskIn w F g L wv m):g≠L:=h.blk.ne h.laid (by decide)
theorem DiskIn.gw (h:DiskIn w F g L wv m):wv.ownBlock≠some g:=by
 intro e
 rcases h.own.2 with ⟨rfl,_⟩|⟨k,cap,cur,rfl,_,hk,_⟩
 ·simp [Value.ownBlock] at e
 ·simp only [Value.ownBlock,Option.some.injEq] at e
  subst e
  have:=h.blk
  unfold Row at this
  rw [hk] at this
  injection this with this
  injection this with _ h2
  exact absurd h2 (by decide)
theorem DiskIn.lw (h:DiskIn w F g L wv m):wv.ownBlock≠some L:=by
 intro e
 rcases h.own.2 with ⟨rfl,_⟩|⟨k,cap,cur,rfl,_,hk,_⟩
 ·simp [Value.ownBlock] at e
 ·simp only [Value.ownBlock,Option.some.injEq] at e
  subst e
  have:=h.laid
  unfold Row at this
  rw [hk] at this
  injection this with this
  injection this with _ h2
  exact absurd h2 (by decide)
theorem DiskIn.set (h:DiskIn w F g L wv m) {m':DS} (k:Nat) (v:Value) (e:(dCells L wv m).set k v=dCells L wv m') (hg:m'.Good) (hs:m'.secs=m.secs) (hw:m'.waits=m.waits):DiskIn (w.setCell ⟨g,k,none⟩ v) F g L wv m':=by
 refine ⟨hg,?_,?_,?_,h.fg,h.fl,h.fw⟩
 ·rw [←e];exact h.blk.setCell k v
 ·rw [hs];exact h.laid.setCell_other (p:=⟨g,k,none⟩) (Ne.symm h.gl) v
 ·rw [hw];exact ownsRow_setCell_other h.own (a:=⟨g,k,none⟩) h.gw v
end
abbrev One (g:Nat):Nat→Prop:=fun i=>i=g
theorem down_at {w:World} {F:Nat→Prop} {g L:Nat} {wv:Value} {m:DS} (h:DiskIn w F g L wv m):Calls Tryz.prog 40 #[.pointer (some ⟨g,0,none⟩)] w fun e w'=>e=.returned (.bool m.down)∧w=w':=by
 obtain ⟨c0,c1,c2,c3⟩:=h.read
 go_enter Tryz.func40,Tryz.ntmps40
 go_wp2_with (fail)
 go_ret
 exact ⟨rfl,rfl⟩
theorem len_at {w:World} {F:Nat→Prop} {g L:Nat} {wv:Value} {m:DS} (h:DiskIn w F g L wv m):Calls Tryz.prog 35 #[.pointer (some ⟨g,0,none⟩)] w fun e w'=>e=.returned (.int .i64 m.secs.length)∧w=w':=by
 obtain ⟨c0,c1,c2,c3⟩:=h.read
 go_enter Tryz.func35,Tryz.ntmps35
 go_wp2_with (fail)
 go_ret
 exact ⟨rfl,rfl⟩
theorem wrong_nil (w:World) (i:Int):Calls Tryz.prog 73 #[.pointer none,.int .i64 i] w fun e w'=>e=.returned (.int .i64 7)∧w=w':=by
 go_enter Tryz.func73,Tryz.ntmps73
 go_wp2_with (fail)
 go_ret
 exact ⟨rfl,rfl⟩
theorem wrong_at {w:World} {F:Nat→Prop} {g L:Nat} {wv:Value} {m:DS} (h:DiskIn w F g L wv m) (i:Int):Calls Tryz.prog 73 #[.pointer (some ⟨g,0,none⟩),.int .i64 i] w fun e w'=>e=.returned (.int .i64 (if i < 0∨m.secs.length≤i then 3 else 0))∧w=w':=by
 obtain ⟨c0,c1,c2,c3⟩:=h.read
 by_cases h0:i < 0
 ·rw [if_pos (.inl h0)]
  go_enter Tryz.func73,Tryz.ntmps73
  go_wp2_with (fail)
  go_ret
  exact ⟨rfl,rfl⟩
 ·by_cases h1:(m.secs.length:Int)≤i
  ·rw [if_pos (.inr h1)]
   go_enter Tryz.func73,Tryz.ntmps73
   go_wp2_with (fail)
   go_ret
   exact ⟨rfl,rfl⟩
  ·rw [if_neg (by omega)]
   go_enter Tryz.func73,Tryz.ntmps73
   go_wp2_with (fail)
   go_ret
   exact ⟨rfl,rfl⟩
theorem kput {g:Nat} {a w:World} (h:Kept (One g) a w) (k:Nat) (v:Value):Kept (One g) a (w.setCell ⟨g,k,none⟩ v):=h.setCell (p:=⟨g,k,none⟩) (Or.inl rfl) v
theorem burn_at {w:World} {F:Nat→Prop} {g L:Nat} {wv:Value} {m:DS} (h:DiskIn w F g L wv m):Calls Tryz.prog 74 #[.pointer (some ⟨g,0,none⟩)] w fun e w'=>e=.returned (.bool m.goes)∧DiskIn w' F g L wv m.burnt∧Kept (One g) w w':=by
 obtain ⟨c0,c1,c2,c3⟩:=h.read
 have f2:=h.blk.frozen 2
 have f3:=h.blk.frozen 3
 have g0:=h.good.fuse0
 have g1:=h.good.fuse1
 have H:=Lib.hid h
 have HG:=Lib.hid (DS.burnt_good h.good)
 clear h
 by_cases hz:m.fuse=0
 ·have hb:m.burnt={ m with down:=true }:=by simp [DS.burnt,hz]
  have hgo:m.goes=false:=by simp [DS.goes,hz]
  have HB:=Lib.hid hb
  rw [hgo]
  have hz':(m.fuse==0)=true:=by simpa using hz
  clear hb hgo hz g0 g1
  go_enter Tryz.func74,Tryz.ntmps74
  go_wp2_with (fail)
  go_ret
  refine ⟨rfl,?_,kput (Kept.refl _ _) 3 _⟩
  rw [HB.out]
  rw [HB.out] at HG
  exact H.out.set 3 _ rfl HG.out rfl rfl
 ·have hz':(m.fuse==0)=false:=by simpa using hz
  cases hd:m.down
  ·have hb:m.burnt={ m with fuse:=max (m.fuse-1) (-1) }:=by simp [DS.burnt,hz,hd]
   have hgo:m.goes=true:=by simp [DS.goes,hz,hd]
   have HB:=Lib.hid hb
   rw [hgo]
   rw [hd] at c3
   clear hb hgo hz hd
   go_enter Tryz.func74,Tryz.ntmps74
   go_wp2_with (fail)
   go_ret
   refine ⟨rfl,?_,kput (Kept.refl _ _) 2 _⟩
   rw [HB.out]
   rw [HB.out] at HG
   exact H.out.set 2 _ rfl HG.out rfl rfl
  ·have hb:m.burnt=m:=by
    simp only [DS.burnt,hd,Bool.true_or,if_true]
    rw [←hd]
   have hgo:m.goes=false:=by simp [DS.goes,hd]
   have HB:=Lib.hid hb
   rw [hgo]
   rw [hd] at c3
   clear hb hgo hz hd g0 g1
   go_enter Tryz.func74,Tryz.ntmps74
   go_wp2_with (fail)
   go_ret
   refine ⟨rfl,?_,Kept.refl _ _⟩
   rw [HB.out]
   exact H.out
end disk
namespace disk

open Go.RowKit base obj mem
def zSec:Array Value:=Array.replicate 64 (.int .u8 0)
def zLate (at_:Int):Array Value:=⟨.int .i64 at_::List.replicate 64 (.int .u8 0)⟩
theorem infoSec:(Tryz.prog.info? 137).map (fun i=>(i.zero,i.size,i.bytes))=some (some (.agg zSec),64,64):=by kernel_rfl
theorem infoLate:(Tryz.prog.info? 139).map (fun i=>(i.zero,i.size,i.bytes))=some (some (.agg (zLate 0)),65,72):=by kernel_rfl
theorem slLate:SlT Tryz.prog 133 139 65 72:=by
 obtain ⟨i0,hi,hz0,hz1,hz2⟩:=info_parts infoLate
 exact ⟨Tryz.underlying133,⟨i0,_,hi,hz0,hz1,hz2,rfl⟩,by decide⟩
theorem zSec_cells (n:Nat):(madeCells zSec (n*64)).toList=((List.replicate n zeroSec).map secCells).flatten:=by
 rw [madeCells_all (v:=.int .u8 0) (by decide) (by simp [zSec]),List.map_replicate]
 have:secCells zeroSec=List.replicate 64 (.int .u8 0):=by simp [secCells,zeroSec]
 rw [this,List.flatten_replicate_replicate]
def newRows (k:Nat):Array Value:=madeCells zSec (k*64)
theorem new_fin (w:World) (k:Nat) (h0:1≤k) (h1:k≤128):DiskAt ((w.alloc (.cells (newRows k) 137)).alloc (.cells #[.slice (some ⟨w.heap.size,0,none⟩) k k,.slice none 0 0,.int .i64 (-1),.bool false] 135)) (More (fun _=>False) w ((w.alloc (.cells (newRows k) 137)).alloc (.cells #[.slice (some ⟨w.heap.size,0,none⟩) k k,.slice none 0 0,.int .i64 (-1),.bool false] 135))) (w.heap.size+1) (DS.new k):=by
 refine ⟨w.heap.size,.slice none 0 0,DS.new_good h0 h1,?_,?_,World.ownsRow_nil _ _ _ _,.inr (by simp),.inr (by simp;omega),fun k hk=>by simp [Value.ownBlock] at hk⟩
 ·have:=Row.new (w.alloc (.cells (newRows k) 137)) 135 #[.slice (some ⟨w.heap.size,0,none⟩) k k,.slice none 0 0,.int .i64 (-1),.bool false]
  simpa [dCells,DS.new] using this
 ·refine Row.alloc ?_ _
  have:=Row.new w 137 (newRows k)
  rw [newRows,zSec_cells] at this
  exact this
theorem new_any (n:Int) (w:World):Calls Tryz.prog 26 #[.int .i64 n] w fun e w'=>∃g,e=.returned (.pointer (some ⟨g,0,none⟩))∧w.heap.size≤g∧DiskAt w' (More (fun _=>False) w w') g (DS.new (clampN n))∧Below w.heap.size w w':=by
 obtain ⟨i0,hi,hz0,hz1,hz2⟩:=info_parts infoSec
 have cb:=clampN_bd n
 have hmk:∀(k:Nat) (v:Int),v=k→k≤128→∀w:World,(Instr.makeSlice 132 (.int .i64 v) (.int .i64 v)).run Tryz.prog w=.ok (.slice (some ⟨w.heap.size,0,none⟩) k k) (w.alloc (.cells (newRows k) 137)):=by
  intro k v hv hk w
  subst hv
  have:=run_make_rowN (P:=Tryz.prog) 132 137 i0 _ Tryz.underlying132 hi hz0 .i64 .i64 k k (Nat.le_refl _) (by rw [hz2];omega) (by omega) w
  rw [hz1] at this
  exact this
 have HM:=Lib.hid hmk
 clear hmk hi hz0 hz1 hz2
 have bel:∀a b:Obj,Below w.heap.size w ((w.alloc a).alloc b):=fun a b=>((Below.refl _ _).alloc (Nat.le_refl _) _).alloc (by simp) _
 have BEL:=Lib.hid bel
 clear bel
 have hmk:=HM.out (clampN n) (min (max n 1) 128) (by unfold clampN;split<;>(try split)<;>omega) cb.2
 have CB:=Lib.hid cb
 clear cb HM
 go_enter Tryz.func26,Tryz.ntmps26
 go_wp2_with (fail)
 go_ret
 exact ⟨w.heap.size+1,rfl,by omega,new_fin w _ CB.out.1 CB.out.2,BEL.out _ _⟩
end disk
end Go.Proofs.YtdldkkoplgkloaaGreat
