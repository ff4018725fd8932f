/-
  PROVED HERE: lemmas and contracts that the law's proof leans on (texts put together: CommitMath, Store, StoreFree).
  CONDITIONS: each names its own.
-/
import Derived.Test.YtdldkkoplgkloaaGreatPz16
import Derived.Test.YtdldkkoplgkloaaGreatPz25
import Derived.Test.YtdldkkoplgkloaaGreatPz26
namespace Go.Proofs.YtdldkkoplgkloaaGreat
set_option linter.unusedVariables false
set_option linter.unusedSimpArgs false
set_option maxRecDepth 100000
set_option maxHeartbeats 32000000
namespace commit

open Go.RowKit base mem crc disk record
structure LogOk (m:DS) (p:Int) (s:LogS):Prop where
 good:m.Good
 bts:m.Bts
 p0:0≤p
 p1:p < 4
 room:p*10+1 < (m.secs.length:Int)
 held:s.held=0∨s.held=1
 right:s.now.right=true
 part:s.now.part=p
 cur:getRec (m.now (p*10+s.held).toNat)=(s.now,0)
 old:∀r,getRec (m.now (p*10+(1-s.held)).toNat)=(r,0)→r.part=p→r.seq+s.held≤s.now.seq
theorem right_seq {r:Rec} (h:r.right=true):1≤r.seq∧r.seq≤4294967295:=(refRec.rec_in h).2.1
theorem right_part {r:Rec} (h:r.right=true):0≤r.part∧r.part≤3:=(refRec.rec_in h).1
theorem LogOk.roomFor {m:DS} {p:Int} {s:LogS} (h:LogOk m p s):roomFor p m.secs.length=true:=by
 have h0:=h.p0;have h1:=h.p1;have h2:=h.room
 unfold commit.roomFor
 simp
 omega
theorem pick_take {p c:Int} {bs:List Int} {x:Rec×Int} {r:Rec} (h:getRec bs=(r,0)) (hp:r.part=p) (hs:x.1.seq < r.seq):pickRec p c bs x=(r,c):=by
 unfold pickRec
 rw [h,if_pos ⟨rfl,hp,hs⟩]
theorem pick_leave {p c:Int} {bs:List Int} {x:Rec×Int} (h:∀r,getRec bs=(r,0)→r.part=p→r.seq≤x.1.seq):pickRec p c bs x=x:=by
 unfold pickRec
 rw [if_neg]
 rintro ⟨h1,h2,h3⟩
 have:=h (getRec bs).1 (by rw [←h1]) h2
 omega
theorem pick_seq {p c:Int} {bs:List Int} {x:Rec×Int} {n:Int} (hx:x.1.seq < n) (h:∀r,getRec bs=(r,0)→r.part=p→r.seq < n):(pickRec p c bs x).1.seq < n:=by
 unfold pickRec
 split
 ·rename_i h1
  exact h (getRec bs).1 (by rw [←h1.1]) h1.2.1
 ·exact hx
theorem LogOk.open_ {m:DS} {p:Int} {s:LogS} (h:LogOk m p s):openTo m p 2=(s.now,s.held):=by
 have hs:=right_seq h.right
 have hg:=h.cur
 show pickRec p 1 (m.now (p*10+1).toNat) (pickRec p 0 (m.now (p*10+0).toNat) (Rec.zero,-1))=_
 have ho:=h.old
 rcases h.held with hh|hh
 ·rw [hh] at hg ho ⊢
  rw [pick_take (x:=(Rec.zero,-1)) hg h.part (by show (0:Int) < _;omega)]
  exact pick_leave fun r hr hp=>by have:=ho r hr hp;show r.seq≤s.now.seq;omega
 ·rw [hh] at hg ho ⊢
  exact pick_take hg h.part (pick_seq (by show (0:Int) < _;omega) fun r hr hp=>by have:=ho r hr hp;omega)
def refNext (now r:Rec):Rec×Int:=if 4294967295≤now.seq then (now,4) else if (nextRec now.part now r).right then (nextRec now.part now r,0) else (now,3)
inductive Saved (m:DS) (p:Int) (s:LogS) (r:Rec):Prop
 | no (c:Int) (hc:c=3∨c=4) (hr:refNext s.now r=(s.now,c)) (hs:saveM m p s r=(c,m,s))
 | yes (nx:Rec) (hr:refNext s.now r=(nx,0)) (hn:nx=nextRec p s.now r) (right:nx.right=true)
   (hs:saveM m p s r=if (wf m (p*10+(1-s.held)) nx.bytes).1=0 then (0,(wf m (p*10+(1-s.held)) nx.bytes).2,⟨1-s.held,nx⟩) else ((wf m (p*10+(1-s.held)) nx.bytes).1,(wf m (p*10+(1-s.held)) nx.bytes).2,s))
theorem saved (m:DS) (p:Int) (s:LogS) (r:Rec) (hp:s.now.part=p):Saved m p s r:=by
 by_cases h1:4294967295≤s.now.seq
 ·exact .no 4 (.inr rfl) (by unfold refNext;rw [if_pos h1]) (by unfold saveM;rw [if_pos h1])
 ·by_cases h2:(nextRec p s.now r).right=true
  ·exact .yes (nextRec p s.now r) (by unfold refNext;rw [if_neg h1,hp,if_pos h2]) rfl h2 (by unfold saveM;rw [if_neg h1,if_pos h2])
  ·exact .no 3 (.inl rfl) (by unfold refNext;rw [if_neg h1,hp,if_neg h2]) (by unfold saveM;rw [if_neg h1,if_neg h2])
theorem LogOk.next {m m':DS} {p:Int} {s:LogS} (h:LogOk m p s) {nx:Rec} (hr:nx.right=true) (hp:nx.part=p) (hq:nx.seq=s.now.seq+1) (hg:m'.Good) (hb:m'.Bts) (hl:m'.secs.length=m.secs.length)
  (hn:∀j,m'.now j=if j=(p*10+(1-s.held)).toNat then nx.bytes else m.now j):LogOk m' p ⟨1-s.held,nx⟩∧m'.now (p*10+s.held).toNat=m.now (p*10+s.held).toNat:=by
 have h0:=h.p0;have hh:=h.held
 have e1:m'.now (p*10+s.held).toNat=m.now (p*10+s.held).toNat:=by
  rw [hn,if_neg (by rcases hh with e|e<;>rw [e]<;>omega)]
 refine ⟨⟨hg,hb,h.p0,h.p1,by rw [hl];exact h.room,by rcases hh with e|e<;>rw [e]<;>simp,hr,hp,?_,?_⟩,e1⟩
 ·show getRec (m'.now (p*10+(1-s.held)).toNat)=(nx,0)
  rw [hn,if_pos rfl]
  exact getRec_bytes hr
 ·intro r hr' hp'
  rw [show p*10+(1-(1-s.held))=p*10+s.held by omega,e1,h.cur] at hr'
  injection hr' with e2 _
  show r.seq+(1-s.held)≤nx.seq
  rw [←e2]
  rcases hh with e|e<;>rw [e]<;>omega
theorem LogOk.at_in {m:DS} {p:Int} {s:LogS} (h:LogOk m p s):0≤p*10+(1-s.held)∧p*10+(1-s.held) < (m.secs.length:Int):=by
 have h0:=h.p0;have h1:=h.room
 rcases h.held with e|e<;>rw [e]<;>omega
theorem LogOk.save {m:DS} {p:Int} {s:LogS} (h:LogOk m p s) {nx r:Rec} (hn:nx=nextRec p s.now r) (hr:nx.right=true) (hw:(wf m (p*10+(1-s.held)) nx.bytes).1=0) :
  LogOk (wf m (p*10+(1-s.held)) nx.bytes).2 p ⟨1-s.held,nx⟩∧(wf m (p*10+(1-s.held)) nx.bytes).2.now (p*10+s.held).toNat=m.now (p*10+s.held).toNat∧(wf m (p*10+(1-s.held)) nx.bytes).2.waits=[]∧(wf m (p*10+(1-s.held)) nx.bytes).2.down=false:=by
 obtain ⟨a0,a1⟩:=h.at_in
 obtain ⟨w1,w2,w3⟩:=wf_ok h.good a0 a1 (Rec.bytes_length _) hw
 obtain ⟨l1,l2⟩:=h.next hr (by rw [hn];rfl) (by rw [hn];rfl) (h.good.wf _ _) (h.bts.wf _ (Rec.bytes_byt _)) (wf_slen _ _ _) w3
 exact ⟨l1,l2,w1,w2⟩
theorem getRec_zero:(getRec zeroSec).2≠0:=by decide +kernel
theorem format_up {m:DS} (hg:m.Good) (hb:m.Bts) (hu:m.Up) {p:Int} (hr:roomFor p m.secs.length=true):(formatM m p).1=0∧LogOk (formatM m p).2 p ⟨0,firstRec p⟩∧(formatM m p).2.Up∧(formatM m p).2.waits=[]∧(formatM m p).2.secs.length=m.secs.length∧
  ∀j,(formatM m p).2.now j=if j=(p*10).toNat then (firstRec p).bytes else if j=(p*10+1).toNat then zeroSec else m.now j:=by
 obtain ⟨p0,p1,hroom⟩:=room_of hr
 obtain ⟨a1,a2⟩:=wf_up (m:=m) (i:=p*10+1) (bs:=zeroSec) (by omega) hroom rfl hu
 have a3:(wf m (p*10+1) zeroSec).1=0:=by rw [a1]
 obtain ⟨a4,a5,a6⟩:=wf_ok hg (by omega) hroom rfl a3
 have a7:=wf_slen m (p*10+1) zeroSec
 have e:formatM m p=wf (wf m (p*10+1) zeroSec).2 (p*10) (firstRec p).bytes:=by unfold formatM;rw [if_pos a3]
 rw [e]
 have ag:=hg.wf (p*10+1) zeroSec
 have ab:=hb.wf (p*10+1) byt_zero
 generalize (wf m (p*10+1) zeroSec).2=m1 at *
 obtain ⟨b1,b2⟩:=wf_up (m:=m1) (i:=p*10) (bs:=(firstRec p).bytes) (by omega) (by omega) (Rec.bytes_length _) a2
 have b3:(wf m1 (p*10) (firstRec p).bytes).1=0:=by rw [b1]
 obtain ⟨b4,b5,b6⟩:=wf_ok ag (by omega) (by omega) (Rec.bytes_length _) b3
 have hn:∀j,(wf m1 (p*10) (firstRec p).bytes).2.now j=if j=(p*10).toNat then (firstRec p).bytes else if j=(p*10+1).toNat then zeroSec else m.now j:=fun j=>by rw [b6,a6]
 refine ⟨b3,⟨ag.wf _ _,ab.wf _ (Rec.bytes_byt _),p0,p1,by rw [wf_slen,a7];exact hroom,.inl rfl,firstRec_right p0 p1,rfl,?_,?_⟩,b2,b4,by rw [wf_slen,a7],hn⟩
 ·show getRec ((wf m1 (p*10) (firstRec p).bytes).2.now (p*10+0).toNat)=_
  rw [hn,if_pos (by omega)]
  exact getRec_bytes (firstRec_right p0 p1)
 ·intro r hr' _
  have e2:(wf m1 (p*10) (firstRec p).bytes).2.now (p*10+(1-0)).toNat=zeroSec:=by
   rw [hn,if_neg (by omega),if_pos (by omega)]
  have hr2:getRec ((wf m1 (p*10) (firstRec p).bytes).2.now (p*10+(1-0)).toNat)=(r,0):=hr'
  rw [e2] at hr2
  exact absurd (by rw [hr2]) getRec_zero
def _root_.Go.Proofs.YtdldkkoplgkloaaGreat.disk.DS.base (m:DS):DS:={ m with waits:=[] }
structure CI (m:DS) (p:Int) (s:LogS) (might:Rec):Prop where
 good:m.Good
 bts:m.Bts
 ok:LogOk m.base p s
 up:m.down=false→might=Rec.zero∧m.waits=[]
 dn:m.down=true→might.right=true∧might.part=p∧might.seq=s.now.seq+1∧(m.waits=[]∨m.waits=[((p*10+(1-s.held)).toNat,might.bytes)])
theorem base_of {m:DS} (h:m.waits=[]):m.base=m:=by
 unfold DS.base
 obtain ⟨a,b,c,d⟩:=m
 simp only at h ⊢
 rw [h]
theorem CI.few {m:DS} {p:Int} {s:LogS} {might:Rec} (h:CI m p s might):m.waits.length≤1:=by
 cases hd:m.down
 ·rw [(h.up hd).2];simp
 ·rcases (h.dn hd).2.2.2 with e|e<;>rw [e]<;>simp
theorem CI.of_ok {m:DS} {p:Int} {s:LogS} (h:LogOk m p s) (hw:m.waits=[]) (hd:m.down=false):CI m p s Rec.zero :=
 ⟨h.good,h.bts,by rw [base_of hw];exact h,fun _=>⟨rfl,hw⟩,fun h'=>absurd (hd.symm.trans h') (by decide)⟩
theorem LogOk.base_eq {m m':DS} {p:Int} {s:LogS} (h:LogOk m p s) (hs:m'.secs=m.secs) (hw:m.waits=[]) (hw':m'.waits=[]) (hg:m'.Good) (hb:m'.Bts):LogOk m' p s:=by
 have e:∀j,m'.now j=m.now j:=fun j=>by rw [DS.now_nil hw,DS.now_nil hw',hs]
 exact ⟨hg,hb,h.p0,h.p1,by rw [hs];exact h.room,h.held,h.right,h.part,by rw [e];exact h.cur,by rw [e];exact h.old⟩
theorem _root_.Go.Proofs.YtdldkkoplgkloaaGreat.disk.DS.Good.base {m:DS} (h:m.Good):m.base.Good:=⟨h.secs,fun p hp=>absurd hp (by simp [DS.base]),h.fuse0,h.fuse1,h.n0,h.n1⟩
theorem _root_.Go.Proofs.YtdldkkoplgkloaaGreat.disk.DS.Bts.base {m:DS} (h:m.Bts):m.base.Bts:=⟨h.secs,fun p hp=>absurd hp (by simp [DS.base])⟩
inductive CSaved (m:DS) (p:Int) (s:LogS) (might r:Rec):Prop
 | no (c:Int) (hc:c=3∨c=4) (hr:refNext s.now r=(s.now,c)) (hs:saveM m p s r=(c,m,s))
 | yes (m':DS) (s':LogS) (hr:refNext s.now r=(s'.now,0)) (hs:saveM m p s r=(0,m',s')) (ok:CI m' p s' might)
 | down (m':DS) (nx:Rec) (hr:refNext s.now r=(nx,0)) (hs:saveM m p s r=(8,m',s)) (ok:CI m' p s (if might.seq=0 then nx else might))
theorem CI.save {m:DS} {p:Int} {s:LogS} {might:Rec} (h:CI m p s might) (r:Rec):CSaved m p s might r:=by
 rcases saved m p s r h.ok.part with ⟨c,hc,h1,h2⟩|⟨nx,h1,hn,hr,h2⟩
 ·exact .no c hc h1 h2
 ·obtain ⟨a0,a1⟩:=h.ok.at_in
  have a1':p*10+(1-s.held) < (m.secs.length:Int):=a1
  by_cases hw:(wf m (p*10+(1-s.held)) nx.bytes).1=0
  ·rw [if_pos hw] at h2
   cases hd:m.down with
   | true =>
     rw [wf_down a0 a1' (Rec.bytes_length _) hd] at hw
     exact absurd (show (8:Int)=0 from hw) (by decide)
   | false =>
     obtain ⟨u1,u2⟩:=h.up hd
     have hok:=h.ok
     rw [base_of u2] at hok
     obtain ⟨l1,l2,l3,l4⟩:=hok.save hn hr hw
     refine .yes _ ⟨1-s.held,nx⟩ h1 h2 ?_
     rw [u1]
     exact .of_ok l1 l3 l4
  ·rw [if_neg hw] at h2
   obtain ⟨e1,e2,e3,e4⟩:=wf_err a0 a1' (Rec.bytes_length _) hw
   rw [e1] at h2
   refine .down _ nx h1 h2 ?_
   have hg:=h.good.wf (p*10+(1-s.held)) nx.bytes
   have hb:=h.bts.wf (p*10+(1-s.held)) (Rec.bytes_byt nx)
   have hok:LogOk (wf m (p*10+(1-s.held)) nx.bytes).2.base p s:=h.ok.base_eq (m':=(wf m (p*10+(1-s.held)) nx.bytes).2.base) e3 rfl rfl hg.base hb.base
   cases hd:m.down with
   | true =>
     obtain ⟨d1,d2,d3,d4⟩:=h.dn hd
     have hms:¬might.seq=0:=by have:=right_seq d1;omega
     rw [if_neg hms]
     rw [wf_down a0 a1' (Rec.bytes_length _) hd] at *
     exact h
   | false =>
     obtain ⟨u1,u2⟩:=h.up hd
     have hms:might.seq=0:=by rw [u1];rfl
     rw [if_pos hms]
     refine ⟨hg,hb,hok,fun h'=>absurd (e2.symm.trans h') (by decide),fun _=>⟨hr,by rw [hn];rfl,by rw [hn];rfl,?_⟩⟩
     rw [u2] at e4
     exact e4
theorem CI.fuse {m:DS} {p:Int} {s:LogS} {might:Rec} (h:CI m p s might) (hz:might.seq=0) (n:Int) (hn:n≤9223372036854775807):CI (m.setFuse n) p s might:=by
 cases hd:m.down with
 | true =>
   obtain ⟨d1,_⟩:=h.dn hd
   have:=right_seq d1
   omega
 | false =>
   have e:m.setFuse n={ m with fuse:=max n (-1) }:=by unfold DS.setFuse;rw [hd];rfl
   have hg:=DS.setFuse_good h.good hn
   have hb:=h.bts.setFuse n
   rw [e] at hg hb ⊢
   exact ⟨hg,hb,h.ok.base_eq (m':=DS.base { m with fuse:=max n (-1) }) rfl rfl rfl hg.base hb.base,fun _=>h.up hd,fun h'=>absurd (hd.symm.trans h') (by decide)⟩
theorem CI.power {m:DS} {p:Int} {s:LogS} {might:Rec} (h:CI m p s might) (k:Int):∃s':LogS,openTo (m.power k) p 2=(s'.now,s'.held)∧CI (m.power k) p s' Rec.zero∧s'.now=(if might.seq > 0∧s'.now=might then might else s.now):=by
 have hg:=DS.power_good h.good k
 have hb:=h.bts.power k
 have key:m.waits=[]∨m.waits=[((p*10+(1-s.held)).toNat,might.bytes)]:=by
  cases hd:m.down
  ·exact .inl (h.up hd).2
  ·exact (h.dn hd).2.2.2
 rcases power_one key k with e|⟨e1,e2⟩
 ·have hok:LogOk (m.power k) p s:=h.ok.base_eq (m':=m.power k) e rfl rfl hg hb
  refine ⟨s,hok.open_,.of_ok hok rfl rfl,?_⟩
  split
  ·rename_i hc;exact hc.2
  ·rfl
 ·cases hd:m.down with
  | false =>
    rw [(h.up hd).2] at e1
    exact absurd e1 (by simp)
  | true =>
    obtain ⟨d1,d2,d3,d4⟩:=h.dn hd
    obtain ⟨a0,a1⟩:=h.ok.at_in
    have hn:∀j,(m.power k).now j=if j=(p*10+(1-s.held)).toNat then might.bytes else m.base.now j:=by
     intro j
     rw [DS.now_nil (DS.power_waits m k),e2,getD_set,DS.now_nil (show m.base.waits=[] from rfl)]
     have a1':p*10+(1-s.held) < (m.secs.length:Int):=a1
     by_cases hj:j=(p*10+(1-s.held)).toNat
     ·rw [if_pos ⟨hj,by omega⟩,if_pos hj]
     ·rw [if_neg fun x=>hj x.1,if_neg hj]
      rfl
    obtain ⟨l1,l2⟩:=h.ok.next d1 d2 d3 hg hb (by rw [DS.power_slen];rfl) hn
    refine ⟨⟨1-s.held,might⟩,l1.open_,.of_ok l1 rfl rfl,?_⟩
    show might=_
    rw [if_pos ⟨by have:=right_seq d1;omega,rfl⟩]
end commit
namespace store


open Go.RowKit Go.Deep base obj mem sep plan disk record commit stage image tab compat
structure PP where
 log:LogS
 s0:SlS
 s1:SlS
structure PAd where
 O:Nat
 L:Nat
 S0:Nat
 S1:Nat
instance:Inhabited PP:=⟨⟨⟨0,Rec.zero⟩,SlS.none,SlS.none⟩⟩
instance:Inhabited PAd:=⟨⟨0,0,0,0⟩⟩
def PP.slot (x:PP) (k:Int):SlS:=if k=0 then x.s0 else x.s1
def PP.setSlot (x:PP) (k:Int) (s:SlS):PP:=if k=0 then ⟨x.log,s,x.s1⟩ else ⟨x.log,x.s0,s⟩
def PAd.slot (a:PAd) (k:Int):Nat:=if k=0 then a.S0 else a.S1
def PP.trial (x:PP):Bool:=!(x.log.now.active==x.log.now.confirmed)
def PP.sp (x:PP):Int:=1-x.log.now.confirmed
def ownRow (a:PAd):List Value:=[.pointer (some ⟨a.L,0,none⟩),.pointer (some ⟨a.S0,0,none⟩),.pointer (some ⟨a.S1,0,none⟩)]
def partA (d:Nat) (p:Nat) (a:PAd) (x:PP):Asn:=lst [row a.O 102 (ownRow a),log a.L d p x.log.held x.log.now,slt a.S0 d p 0 x.s0,slt a.S1 d p 1 x.s1]
def partsA (d:Nat) (al:List PAd) (xs:List PP):List Asn:=(List.range xs.length).map fun p=>partA d p (al.getD p default) (xs.getD p default)
def ptrs (al:List PAd):List Value:=al.map fun a=>.pointer (some ⟨a.O,0,none⟩)
structure StAd where
 S:Nat
 tab:TabA
 AL:Option Addr
 cL:Nat
 al:List PAd
def stRow (ad:StAd) (t:Tab) (n:Nat):List Value:=[.int .i64 t.frame,.slice ad.tab.AP t.parts.length ad.tab.cP,.slice ad.tab.AW t.wins.length ad.tab.cW,.slice ad.tab.AC t.chans.length ad.tab.cC,.int .i64 t.trial,.slice ad.AL n ad.cL]
def strH (ad:StAd) (t:Tab) (n:Nat):List Asn:=[row ad.S 114 (stRow ad t n),own 94 1 (.slice ad.AL n ad.cL) n (ptrs ad.al),tbl ad.tab t]
def strA (ad:StAd) (t:Tab) (d:Nat) (m:DS) (xs:List PP):Asn:=lst (strH ad t xs.length++[dsk d m,lst (partsA d ad.al xs),fact (ad.al.length=xs.length)])
section
variable {w0 w : World} {l : List Asn}
theorem _root_.Go.Proofs.YtdldkkoplgkloaaGreat.sep.St.lpick {L:List Asn} {P:Asn} (h:St w0 w (lst L::l)) {k:Nat} (hk:L[k]?=some P):St w0 w (P::lst (L.eraseIdx k)::l):=by
 have h1:=h.unlst
 obtain ⟨hlt,e⟩:=List.getElem?_eq_some_iff.1 hk
 have h2:=h1.pick k (by rw [List.getElem?_append_left hlt];exact hk)
 rw [List.eraseIdx_append_of_lt_length hlt] at h2
 exact (St.tolst (h2.perm (List.perm_middle (a:=P) (l₁:=L.eraseIdx k) (l₂:=l)).symm)).swap
theorem _root_.Go.Proofs.YtdldkkoplgkloaaGreat.sep.St.lput {L:List Asn} {P:Asn} {k:Nat} (h:St w0 w (P::lst (L.eraseIdx k)::l)) (hk:k < L.length):St w0 w (lst (L.set k P)::l):=by
 have h1:=h.swap.unlst.perm (List.perm_middle (a:=P) (l₁:=L.eraseIdx k) (l₂:=l))
 refine St.tolst (h1.perm ?_)
 have e:(L.set k P).eraseIdx k=L.eraseIdx k:=by rw [List.eraseIdx_set_eq]
 have h2:(L.set k P).Perm (P::L.eraseIdx k):=by
  have hk':k < (L.set k P).length:=by rw [List.length_set];exact hk
  have h3:L.set k P=(L.set k P).take k++(L.set k P)[k]::(L.set k P).drop (k+1):=by rw [←List.drop_eq_getElem_cons hk',List.take_append_drop]
  rw [←e,List.eraseIdx_eq_take_drop_succ]
  conv=>lhs;rw [h3]
  rw [List.getElem_set_self]
  exact List.perm_middle
 exact ((h2.append_right l).trans (by exact List.Perm.refl _)).symm
theorem partsA_len (d:Nat) (al:List PAd) (xs:List PP):(partsA d al xs).length=xs.length:=by simp [partsA]
theorem partsA_get {d:Nat} {al:List PAd} {xs:List PP} {p:Nat} (hp:p < xs.length):(partsA d al xs)[p]?=some (partA d p (al.getD p default) (xs.getD p default)):=by
 simp [partsA,hp]
theorem partsA_set {d:Nat} {al:List PAd} {xs:List PP} {p:Nat} (hp:p < xs.length) (x:PP):(partsA d al xs).set p (partA d p (al.getD p default) x)=partsA d al (xs.set p x):=by
 refine List.ext_getElem? fun i=>?_
 rw [List.getElem?_set]
 by_cases hi:p=i
 ·subst hi
  rw [if_pos rfl,if_pos (by simp [partsA,hp]),partsA_get (by simpa using hp)]
  simp [hp]
 ·rw [if_neg hi]
  simp only [partsA,List.length_set,List.getElem?_map]
  by_cases h2:i < xs.length
  ·simp [h2,hi]
  ·simp [h2]
def vw (ad:StAd) (t:Tab) (d:Nat) (m:DS) (n p:Nat) (a:PAd) (x:PP) (rest:List Asn):List Asn :=
 [row a.O 102 (ownRow a),log a.L d p x.log.held x.log.now,slt a.S0 d p 0 x.s0,slt a.S1 d p 1 x.s1,row ad.S 114 (stRow ad t n),own 94 1 (.slice ad.AL n ad.cL) n (ptrs ad.al),tbl ad.tab t,dsk d m]++rest
theorem str_open {ad:StAd} {t:Tab} {d:Nat} {m:DS} {xs:List PP} (h:St w0 w (strA ad t d m xs::l)) {p:Nat} (hp:p < xs.length) :
  St w0 w (vw ad t d m xs.length p (ad.al.getD p default) (xs.getD p default) (lst ((partsA d ad.al xs).eraseIdx p)::fact (ad.al.length=xs.length)::l)):=by
 have h1:=h.unlst
 simp only [strH,List.cons_append,List.nil_append] at h1
 have h2:=((h1.pick 4 rfl).lpick (partsA_get hp)).unlst
 refine h2.perm ?_
 simp only [vw,List.cons_append,List.nil_append,List.eraseIdx_cons_succ,List.eraseIdx_cons_zero]
 refine .cons _ (.cons _ (.cons _ (.cons _ ?_)))
 exact (List.perm_middle (l₁:=[_,_,_,_]) (l₂:=_)).symm
theorem str_shut {ad:StAd} {t:Tab} {d:Nat} {m m':DS} {xs:List PP} {p:Nat} (hp:p < xs.length) {x:PP} (h:St w0 w (vw ad t d m' xs.length p (ad.al.getD p default) x (lst ((partsA d ad.al xs).eraseIdx p)::fact (ad.al.length=xs.length)::l))) :
  St w0 w (strA ad t d m' (xs.set p x)::l):=by
 have h1:St w0 w ([row (ad.al.getD p default).O 102 (ownRow (ad.al.getD p default)),log (ad.al.getD p default).L d p x.log.held x.log.now,slt (ad.al.getD p default).S0 d p 0 x.s0,slt (ad.al.getD p default).S1 d p 1 x.s1]++(lst ((partsA d ad.al xs).eraseIdx p)::row ad.S 114 (stRow ad t xs.length)::own 94 1 (.slice ad.AL xs.length ad.cL) xs.length (ptrs ad.al)::tbl ad.tab t::dsk d m'::fact (ad.al.length=xs.length)::l)):=by
  refine h.perm ?_
  simp only [vw,List.cons_append,List.nil_append]
  refine .cons _ (.cons _ (.cons _ (.cons _ ?_)))
  exact (List.perm_middle (l₁:=[_,_,_,_]) (l₂:=_))
 have h2:St w0 w (partA d p (ad.al.getD p default) x::_):=St.tolst h1
 have h3:=h2.lput (by rw [partsA_len];exact hp)
 rw [partsA_set hp] at h3
 refine St.tolst (h3.perm ?_)
 simp only [strH,List.cons_append,List.nil_append,List.length_set]
 exact (List.perm_middle (l₁:=[_,_,_,_]) (l₂:=_)).symm
end
end store
namespace store


open Go.RowKit Go.Deep base obj mem sep plan disk record commit stage image tab compat
theorem rfld2 (r:Rec) (w:World):(Instr.field 35 r.val 2).run Tryz.prog w=.ok (.int .i64 r.active) w:=by kernel_rfl
theorem rfld3 (r:Rec) (w:World):(Instr.field 35 r.val 3).run Tryz.prog w=.ok (.int .i64 r.confirmed) w:=by kernel_rfl
section
variable {w0 w : World} {l : List Asn}
theorem trial_at {O L d:Nat} {a1 a2:Value} {part held:Int} {r:Rec} (h:St w0 w (row O 102 [.pointer (some ⟨L,0,none⟩),a1,a2]::log L d part held r::l)) :
  Calls Tryz.prog 44 #[.pointer (some ⟨O,0,none⟩)] w fun e w'=>e=.returned (.bool (!(r.active==r.confirmed)))∧Below w.heap.size w w':=by
 have HL:=Lib.hid (fun (w':World) (hb:Below w.heap.size w w')=>latest_at ((h.below hb).swap))
 have HR:=Lib.hid (fun (w':World) (hb:Below w.heap.size w w')=>(And.intro (((h.below hb).row.1).cell 0) (h.below hb).row.1.lt:w'.cell? ⟨O,0,none⟩=some (.pointer (some ⟨L,0,none⟩))∧O < w'.heap.size))
 have r2:=rfld2 r;have r3:=rfld3 r
 generalize r.val=rv at *
 generalize r.active=ra,r.confirmed=rc at *
 clear h
 go_enter Tryz.func44,Tryz.ntmps44
 go_wp2_with (fail)
 refine held_start (fun w'=>w'.cell? ⟨O,0,none⟩=some (.pointer (some ⟨L,0,none⟩))∧O < w'.heap.size) (by kernel_rfl) (HR.out w.drew (Below.refl w.heap.size w).drew) (fun hHeld=>?_)
 (refine held_t 0 (h:=?_);(try simp only [xGs,xGz,xGo,Act.put,xSi,xSz,xSs]));(refine held_t 1 (h:=?_);(try simp only [xGs,xGz,xGo,Act.put,xSi,xSz,xSs]));(refine held_t 2 (h:=?_);(try simp only [xGs,xGz,xGo,Act.put,xSi,xSz,xSs]));(refine held_t 3 (h:=?_);(try simp only [xGs,xGz,xGo,Act.put,xSi,xSz,xSs]));(refine held_t 6 (h:=?_);(try simp only [xGs,xGz,xGo,Act.put,xSi,xSz,xSs]));(refine held_t 7 (h:=?_);(try simp only [xGs,xGz,xGo,Act.put,xSi,xSz,xSs]));(refine held_t 8 (h:=?_);(try simp only [xGs,xGz,xGo,Act.put,xSi,xSz,xSs]));(refine held_t 9 (h:=?_);(try simp only [xGs,xGz,xGo,Act.put,xSi,xSz,xSs]))
 (refine held_one 4 (by kernel_rfl) (by rfl) ?_;(try simp only [xGs,xGz,xGo]);go_simp)
 refine (HL.out _ (Below.refl w.heap.size w).drew).mono ?_
 rintro e w2 ⟨rfl,hb⟩
 have HB2:=Lib.hid ((Below.refl w.heap.size w).drew.trans hb)
 clear hb
 dsimp only
 (refine and_hand (HR.out w2 HB2.out) (fun hHeld=>?_);(try simp only [xGs,xGz,xGo,Act.put,xSi,xSz,xSs]))
 (refine held_t 5 (h:=?_);(try simp only [xGs,xGz,xGo,Act.put,xSi,xSz,xSs]))
 (refine held_one 10 (by kernel_rfl) (by rfl) ?_;(try simp only [xGs,xGz,xGo]);go_simp)
 refine (HL.out w2 HB2.out).mono ?_
 rintro e w3 ⟨rfl,hb⟩
 have HB3:=Lib.hid (HB2.out.trans (hb.mono HB2.out.size))
 clear hb
 dsimp only
 (refine and_hand (HR.out w3 HB3.out) (fun hHeld=>?_);(try simp only [xGs,xGz,xGo,Act.put,xSi,xSz,xSs]))
 (refine held_t 11 (h:=?_);(try simp only [xGs,xGz,xGo,Act.put,xSi,xSz,xSs]));(refine held_t 12 (h:=?_);(try simp only [xGs,xGz,xGo,Act.put,xSi,xSz,xSs]));(refine held_t 13 (h:=?_);(try simp only [xGs,xGz,xGo,Act.put,xSi,xSz,xSs]))
 refine held_end (by kernel_rfl) ?_
 go_wp2_with (fail)
 go_ret
 exact ⟨rfl,HB3.out⟩
theorem spare_at {O L d:Nat} {s0 s1:Nat} {part held:Int} {r:Rec} (hr:r.confirmed=0∨r.confirmed=1) (h:St w0 w (row O 102 [.pointer (some ⟨L,0,none⟩),.pointer (some ⟨s0,0,none⟩),.pointer (some ⟨s1,0,none⟩)]::log L d part held r::l)) :
  Calls Tryz.prog 47 #[.pointer (some ⟨O,0,none⟩)] w fun e w'=>e=.returned (.pointer (some ⟨if 1-r.confirmed=0 then s0 else s1,0,none⟩))∧Below w.heap.size w w':=by
 have HL:=Lib.hid (fun (w':World) (hb:Below w.heap.size w w')=>latest_at ((h.below hb).swap))
 have HR:=Lib.hid (fun (w':World) (hb:Below w.heap.size w w')=>(⟨(h.below hb).row.1.cell 0,(h.below hb).row.1.cell 1,(h.below hb).row.1.cell 2,(h.below hb).row.1.lt⟩:w'.cell? ⟨O,0,none⟩=some (.pointer (some ⟨L,0,none⟩))∧w'.cell? ⟨O,1,none⟩=some (.pointer (some ⟨s0,0,none⟩))∧w'.cell? ⟨O,2,none⟩=some (.pointer (some ⟨s1,0,none⟩))∧O < w'.heap.size))
 have r3:=rfld3 r
 generalize r.val=rv at *
 clear h
 rcases hr with hr|hr
 all_goals
  rw [hr] at r3 ⊢
  have hw0:IntKind.i64.wrap 0=0:=by decide
  have hw1:IntKind.i64.wrap 1=1:=by decide
  clear hr
  go_enter Tryz.func47,Tryz.ntmps47
  go_wp2_with (fail)
  refine held_start (fun w'=>w'.cell? ⟨O,0,none⟩=some (.pointer (some ⟨L,0,none⟩))∧w'.cell? ⟨O,1,none⟩=some (.pointer (some ⟨s0,0,none⟩))∧w'.cell? ⟨O,2,none⟩=some (.pointer (some ⟨s1,0,none⟩))∧O < w'.heap.size) (by kernel_rfl) (HR.out w.drew (Below.refl w.heap.size w).drew) (fun hHeld=>?_)
  (refine held_t 0 (h:=?_);(try simp only [xGs,xGz,xGo,Act.put,xSi,xSz,xSs]));(refine held_t 1 (h:=?_);(try simp only [xGs,xGz,xGo,Act.put,xSi,xSz,xSs]));(refine held_t 2 (h:=?_);(try simp only [xGs,xGz,xGo,Act.put,xSi,xSz,xSs]));(refine held_t 3 (h:=?_);(try simp only [xGs,xGz,xGo,Act.put,xSi,xSz,xSs]));(refine held_t 4 (h:=?_);(try simp only [xGs,xGz,xGo,Act.put,xSi,xSz,xSs]));(refine held_t 8 (h:=?_);(try simp only [xGs,xGz,xGo,Act.put,xSi,xSz,xSs]));(refine held_t 9 (h:=?_);(try simp only [xGs,xGz,xGo,Act.put,xSi,xSz,xSs]))
  (refine held_one 5 (by kernel_rfl) (by rfl) ?_;(try simp only [xGs,xGz,xGo]);go_simp)
  refine (HL.out _ (Below.refl w.heap.size w).drew).mono ?_
  rintro e w2 ⟨rfl,hb⟩
  have HB2:=Lib.hid ((Below.refl w.heap.size w).drew.trans hb)
  clear hb
  dsimp only
  (refine and_hand (HR.out w2 HB2.out) (fun hHeld=>?_);(try simp only [xGs,xGz,xGo,Act.put,xSi,xSz,xSs]))
  (refine held_t 6 (h:=?_);(try simp only [xGs,xGz,xGo,Act.put,xSi,xSz,xSs]));(refine held_t 7 (h:=?_);(try simp only [xGs,xGz,xGo,Act.put,xSi,xSz,xSs]));(refine held_t 10 (h:=?_);(try simp only [xGs,xGz,xGo,Act.put,xSi,xSz,xSs]));(refine held_t 11 (h:=?_);(try simp only [xGs,xGz,xGo,Act.put,xSi,xSz,xSs]));(refine held_t 12 (h:=?_);(try simp only [xGs,xGz,xGo,Act.put,xSi,xSz,xSs]))
  refine held_end (by kernel_rfl) ?_
  go_wp2_with (fail)
  go_ret
  exact ⟨rfl,HB2.out⟩
theorem part_no {S n cL:Nat} {AL:Option Addr} {c0 c1 c2 c3 c4:Value} (h:Row w S 114 [c0,c1,c2,c3,c4,.slice AL n cL]) (q:Int) (hq:q < 0∨(n:Int)≤q) :
  Calls Tryz.prog 42 #[.pointer (some ⟨S,0,none⟩),.int .i64 q] w fun e w'=>e=.returned (.tuple #[.pointer none,.int .i64 3])∧w'=w:=by
 have z5:w.cell? ⟨S,5,none⟩=some (.slice AL n cL):=h.cell 5
 have lS:=h.lt
 clear h
 by_cases h0:q < 0
 ·go_enter Tryz.func42,Tryz.ntmps42
  go_wp2_with (fail)
  go_ret2
  exact ⟨rfl,rfl⟩
 ·have h1:(n:Int)≤q:=by omega
  go_enter Tryz.func42,Tryz.ntmps42
  go_wp2_with (fail)
  go_ret2
  exact ⟨rfl,rfl⟩
theorem part_at {S n cL:Nat} {AL:Option Addr} {c0 c1 c2 c3 c4:Value} {al:List PAd} (h:Row w S 114 [c0,c1,c2,c3,c4,.slice AL n cL]) (hs:Sl w w.heap.size 1 AL n (ptrs al)) (hal:al.length=n) (p:Nat) (hp:p < n) :
  Calls Tryz.prog 42 #[.pointer (some ⟨S,0,none⟩),.int .i64 p] w fun e w'=>e=.returned (.tuple #[.pointer (some ⟨(al.getD p default).O,0,none⟩),.int .i64 0])∧w'=w:=by
 have z5:w.cell? ⟨S,5,none⟩=some (.slice AL n cL):=h.cell 5
 have lS:=h.lt
 obtain ⟨b,off,rfl,hbl,hc⟩:=hs.2 (by omega)
 have c1:w.cell? ⟨b,off+p,none⟩=some (.pointer (some ⟨(al.getD p default).O,0,none⟩)):=hc p _ (by simp [ptrs,show p < al.length by omega])
 generalize (al.getD p default).O=O at *
 have k0:¬(p:Int) < 0:=by omega
 have k1:¬(n:Int)≤(p:Int):=by omega
 have k2:(0:Int)≤(p:Int):=by omega
 have k3:(p:Int) < (n:Int):=by omega
 clear h hs hc
 go_enter Tryz.func42,Tryz.ntmps42
 go_wp2_with (fail)
 go_ret2
 exact ⟨rfl,rfl⟩
def freeE (xs:List PP) (q:Int):Int:=if q < 0∨(xs.length:Int)≤q then 3 else if (xs.getD q.toNat default).trial then 18 else 0
theorem free_no {S n cL:Nat} {AL:Option Addr} {c0 c1 c2 c3 c4:Value} (h:Row w S 114 [c0,c1,c2,c3,c4,.slice AL n cL]) (q:Int) (hq:q < 0∨(n:Int)≤q) :
  Calls Tryz.prog 49 #[.pointer (some ⟨S,0,none⟩),.int .i64 q] w fun e w'=>e=.returned (.tuple #[.pointer none,.int .i64 3])∧w'=w:=by
 have HP:=Lib.hid (part_no h q hq)
 clear h hq
 go_enter Tryz.func49,Tryz.ntmps49
 go_wp2_with (fail)
 refine HP.out.mono ?_;rintro e w' ⟨rfl,rfl⟩
 go_wp2_with (fail)
 go_ret2
 exact ⟨rfl,rfl⟩
theorem free_at {S n cL:Nat} {AL:Option Addr} {c0 c1 c2 c3 c4:Value} {al:List PAd} (h:Row w S 114 [c0,c1,c2,c3,c4,.slice AL n cL]) (hs:Sl w w.heap.size 1 AL n (ptrs al)) (hal:al.length=n) (p:Nat) (hp:p < n) (b:Bool)
  (ht:Calls Tryz.prog 44 #[.pointer (some ⟨(al.getD p default).O,0,none⟩)] w fun e w'=>e=.returned (.bool b)∧Below w.heap.size w w') :
  Calls Tryz.prog 49 #[.pointer (some ⟨S,0,none⟩),.int .i64 p] w fun e w'=>e=.returned (.tuple #[.pointer (some ⟨(al.getD p default).O,0,none⟩),.int .i64 (if b then 18 else 0)])∧Below w.heap.size w w':=by
 have HP:=Lib.hid (part_at h hs hal p hp)
 have HT:=Lib.hid ht
 generalize (al.getD p default).O=O at *
 clear h hs ht
 cases b with
 | true =>
   go_enter Tryz.func49,Tryz.ntmps49
   go_wp2_with (fail)
   refine HP.out.mono ?_;rintro e w' ⟨rfl,rfl⟩
   go_wp2_with (fail)
   refine HT.out.mono ?_;rintro e w2 ⟨rfl,hb⟩
   have HB:=Lib.hid hb
   clear hb
   go_wp2_with (fail)
   go_ret2
   exact ⟨rfl,HB.out⟩
 | false =>
   go_enter Tryz.func49,Tryz.ntmps49
   go_wp2_with (fail)
   refine HP.out.mono ?_;rintro e w' ⟨rfl,rfl⟩
   go_wp2_with (fail)
   refine HT.out.mono ?_;rintro e w2 ⟨rfl,hb⟩
   have HB:=Lib.hid hb
   clear hb
   go_wp2_with (fail)
   go_ret2
   exact ⟨rfl,HB.out⟩
end
end store
end Go.Proofs.YtdldkkoplgkloaaGreat
