/-
  PROVED HERE: lemmas that the law leans on.
  CONDITIONS: each names its own.
-/
import Derived.BigQuiet
import Derived.Deep.QuietTactic
import Derived.Deep.RegionHeld3
import Derived.Test.YtdldkkoplgkloaaGreatPy0
import Derived.Test.YtdldkkoplgkloaaGreatPy17
import Derived.Test.YtdldkkoplgkloaaGreatPy19
import Derived.Test.YtdldkkoplgkloaaGreatPy20
namespace Go.Proofs.YtdldkkoplgkloaaGreat
set_option linter.unusedVariables false
set_option linter.unusedSimpArgs false
set_option maxRecDepth 100000
set_option maxHeartbeats 32000000
namespace aU

open bw bk record Go.Proofs.YtdldkkoplgkloaaGreat.bits
def bM (p k:Int):Int:=p*10+(2+k*4)
def eH (p k i:Int):Int:=p*10+(2+k*4+1+i)
structure bC where
 has:Bool
 st:aS
def bC.none:bC:=⟨false,aS.zero⟩
def sY (st:aS) (no:Nat):aS:=⟨st.aG,st.size,mZ st.bd no⟩
def xm (m:DS) (i:Int) (bs:List Int) (j:Int) (cs:List Int):Int×DS:=if (wf m i bs).1=0 then wf (wf m i bs).2 j cs else wf m i bs
def splice (b:List Int) (no:Nat) (data:List Int):List Int:=b.take (no % 4*16)++data++b.drop (no % 4*16+16)
def fU (m:DS) (p k:Int) (s:bC) (aG size:Int):Int×DS×bC :=
 if (aS.mk aG size 0).right then
  (if (wf m (bM p k) (aS.mk aG size 0).bytes).1=0 then (0,(wf m (bM p k) (aS.mk aG size 0).bytes).2,⟨true,⟨aG,size,0⟩⟩)
   else ((wf m (bM p k) (aS.mk aG size 0).bytes).1,(wf m (bM p k) (aS.mk aG size 0).bytes).2,s))
 else (3,m,s)
def gQ (s:bC) (aG no:Int) (len:Nat):Int :=
 if s.has=false then 16 else if aG≠s.st.aG then 17 else if no < 0∨(aR s.st.size:Int)≤no then 3 else if len≠16 then 14 else 0
def ig (m:DS) (p k:Int) (s:bC) (aG no:Int) (data:List Int):Int×DS×bC :=
 if gQ s aG no data.length≠0 then (gQ s aG no data.length,m,s)
 else if df s.st.bd no.toNat then (0,m,s)
 else if m.down then (8,m,s)
 else if (xm m (eH p k (no / 4)) (splice (m.now (eH p k (no / 4)).toNat) no.toNat data) (bM p k) (sY s.st no.toNat).bytes).1=0 then
  (0,(xm m (eH p k (no / 4)) (splice (m.now (eH p k (no / 4)).toNat) no.toNat data) (bM p k) (sY s.st no.toNat).bytes).2,⟨true,sY s.st no.toNat⟩)
 else ((xm m (eH p k (no / 4)) (splice (m.now (eH p k (no / 4)).toNat) no.toNat data) (bM p k) (sY s.st no.toNat).bytes).1,
  (xm m (eH p k (no / 4)) (splice (m.now (eH p k (no / 4)).toNat) no.toNat data) (bM p k) (sY s.st no.toNat).bytes).2,s)
def ja (m:DS) (p k:Int) (s:bC):Int×DS×bC :=
 if (wf m (bM p k) br).1=0 then (0,(wf m (bM p k) br).2,bC.none) else ((wf m (bM p k) br).1,(wf m (bM p k) br).2,s)
def qh (s:bC):Prop:=∀j,j < aR s.st.size→df s.st.bd j=true
instance (s:bC):Decidable (qh s):=inferInstanceAs (Decidable (∀j,j < aR s.st.size→df s.st.bd j=true))
def qs (m:DS) (p k:Int):List Int:=m.now (eH p k 0).toNat++(m.now (eH p k 1).toNat++m.now (eH p k 2).toNat)
def cE (m:DS) (p k:Int) (s:bC):List Int×Int :=
 if s.has=false then ([],16) else if ¬qh s then ([],11) else if m.down then ([],8) else ((qs m p k).take s.st.size.toNat,0)
def iV (m:DS) (p k:Int):bC:=if (jw (m.now (bM p k).toNat)).2=0 then ⟨true,(jw (m.now (bM p k).toNat)).1⟩ else bC.none
structure RS where
 has:Bool
 st:aS
 blocks:List (List Int)
deriving DecidableEq
def RS.none:RS:=⟨false,aS.zero,[]⟩
def fF (R:RS) (aG size:Int):Int×RS:=if (aS.mk aG size 0).right then (0,⟨true,⟨aG,size,0⟩,List.replicate (aR size) []⟩) else (3,R)
def jv (R:RS) (aG no:Int) (len:Nat):Int :=
 if R.has=false then 16 else if aG≠R.st.aG then 17 else if no < 0∨(R.blocks.length:Int)≤no then 3 else if len≠16 then 14 else 0
def jU (R:RS) (aG no:Int) (data:List Int):Int×RS :=
 if jv R aG no data.length≠0 then (jv R aG no data.length,R)
 else if R.blocks.getD no.toNat []≠[] then (0,R)
 else (0,⟨R.has,⟨R.st.aG,R.st.size,R.st.bd+2 ^ no.toNat⟩,R.blocks.set no.toNat data⟩)
def dt (R:RS):List Int×Int :=
 if R.has=false then ([],16) else if ∃b∈R.blocks,b=[] then ([],11) else (R.blocks.flatten.take R.st.size.toNat,0)
structure Pl (m:DS) (p k:Int):Prop where
 b8:m.Good
 jm:m.iU
 p0:0≤p
 p1:p < 4
 k0:0≤k
 k1:k < 2
 room:eH p k 2 < (m.az.length:Int)
structure qv (s:bC) (R:RS):Prop where
 has:s.has=R.has
 st:s.st=R.st
 none:s.has=false→R=RS.none
 right:s.has=true→s.st.right=true
 len:s.has=true→R.blocks.length=aR s.st.size
 bit:s.has=true→∀j,j < aR s.st.size→(df s.st.bd j=true ↔ R.blocks.getD j []≠[])
 b16:∀b∈R.blocks,b=[]∨b.length=16
def AV (m:DS) (p k:Int) (j:Nat):List Int:=((m.now (eH p k ((j / 4:Nat):Int)).toNat).drop (j % 4*16)).take 16
def tP (m:DS) (p k:Int) (R:RS):Prop:=∀j,R.blocks.getD j []≠[]→AV m p k j=R.blocks.getD j []
theorem Db:qv bC.none RS.none:=⟨rfl,rfl,fun _=>rfl,fun h=>absurd h (by decide),fun h=>absurd h (by decide),fun h=>absurd h (by decide),fun b hb=>absurd hb (by simp [RS.none])⟩
theorem Dc (m:DS) (p k:Int):tP m p k RS.none:=fun j hj=>absurd (by simp [RS.none]) hj
theorem qv.l9 {s:bC} {R:RS} (h:qv s R):R.blocks.length≤10:=by
 cases hh:s.has with
 | false=>rw [h.none hh];simp [RS.none]
 | true =>
   rw [h.len hh];have:=(iD (h.right hh)).2.1;unfold aR;omega
theorem BN {l:List (List Int)} {j:Nat} (h:l.getD j []≠[]):j < l.length:=by
 rcases Nat.lt_or_ge j l.length with h1|h1
 ·exact h1
 ·rw [dz,List.getElem?_eq_none h1] at h;exact absurd rfl h
theorem chunks (C:List Int):∀n,((List.range n).map fun j=>(C.drop (16*j)).take 16).flatten=C.take (16*n)
 | 0=>by simp
 | n+1=>by
   rw [List.range_succ,List.map_append,List.flatten_append,chunks C n,Nat.mul_succ,List.take_add];simp
theorem Rr {A B D:List Int} (ha:A.length=64) (hb:B.length=64) (hd:D.length=64) {j:Nat} (hj:j < 12) :
  ((A++(B++D)).drop (16*j)).take 16=((if j / 4=0 then A else if j / 4=1 then B else D).drop (j % 4*16)).take 16:=by
 by_cases h0:j / 4=0
 ·rw [if_pos h0,List.drop_append_of_le_length (by omega),List.take_append_of_le_length (by rw [List.length_drop];omega)];rw [show 16*j=j % 4*16 by omega]
 ·rw [if_neg h0,List.drop_append,List.drop_of_length_le (show A.length≤16*j by omega),List.nil_append,ha];by_cases h1:j / 4=1
  ·rw [if_pos h1,List.drop_append_of_le_length (by omega),List.take_append_of_le_length (by rw [List.length_drop];omega)];rw [show 16*j-64=j % 4*16 by omega]
  ·rw [if_neg h1,List.drop_append,List.drop_of_length_le (show B.length≤16*j-64 by omega),List.nil_append,hb];rw [show 16*j-64-64=j % 4*16 by omega]
theorem Pl.at_ {m:DS} {p k:Int} (h:Pl m p k) {i:Int} (h0:0≤i) (h1:i < 3):0≤eH p k i∧eH p k i < (m.az.length:Int):=by
 have:=h.room;have:=h.p0;have:=h.k0;unfold eH at *;omega
theorem Pl.own {m:DS} {p k:Int} (h:Pl m p k):0≤bM p k∧bM p k < (m.az.length:Int):=by
 have:=h.room;have:=h.p0;have:=h.k0;unfold eH at *;unfold bM;omega
theorem Pl.len {m:DS} {p k:Int} (h:Pl m p k) {i:Int} (h0:0≤i) (h1:i < 3):(m.now (eH p k i).toNat).length=64:=h.b8.BI (by have:=h.at_ h0 h1;omega)
theorem Ue {m:DS} {p k:Int} (h:Pl m p k) {j:Nat} (hj:j < 12):AV m p k j=((qs m p k).drop (16*j)).take 16:=by
 unfold qs AV;rw [Rr (h.len (by omega) (by omega)) (h.len (by omega) (by omega)) (h.len (by omega) (by omega)) hj];by_cases h0:j / 4=0
 ·rw [if_pos h0,h0];rfl
 ·by_cases h1:j / 4=1
  ·rw [if_neg h0,if_pos h1,h1];rfl
  ·rw [if_neg h0,if_neg h1,show j / 4=2 by omega];rfl
theorem Cc {s:bC} {R:RS} (h:qv s R) (hh:s.has=true):(∃b∈R.blocks,b=[]) ↔ ¬qh s:=by
 unfold qh
 constructor
 ·rintro ⟨b,hb,rfl⟩ cN;obtain ⟨j,hj,e⟩:=List.getElem_of_mem hb;have h2:=(h.bit hh j (by rw [←h.len hh];exact hj)).1 (cN j (by rw [←h.len hh];exact hj));rw [dz,cM hj] at h2;exact h2 e
 ·intro hn;rw [Classical.not_forall] at hn;obtain ⟨j,hn⟩:=hn;rw [Classical.not_imp] at hn;obtain ⟨hj,hb⟩:=hn;have iZ:j < R.blocks.length:=by rw [h.len hh];exact hj
  refine ⟨R.blocks[j],List.getElem_mem iZ,?_⟩;by_cases he:R.blocks[j]=[]
  ·exact he
  ·exact absurd ((h.bit hh j hj).2 (by rw [dz,cM iZ];exact he)) hb
theorem Uj {m:DS} {p k:Int} {s:bC} {R:RS} (hp:Pl m p k) (h:qv s R) (hd:tP m p k R) (hu:m.down=false):cE m p k s=dt R:=by
 unfold cE dt;cases hh:s.has with
 | false=>rw [←h.has,hh];rfl
 | true =>
   rw [←h.has,hh,if_neg (show ¬(true=false) by decide),if_neg (show ¬(true=false) by decide)];by_cases ha:qh s
   ·rw [if_neg (not_not_intro ha),if_neg fun x=>(Cc h hh).1 x ha,hu,if_neg (show ¬(false=true) by decide)];have dG:=h.l9
    have hf:R.blocks=(List.range R.blocks.length).map fun j=>((qs m p k).drop (16*j)).take 16:=by
     apply List.ext_getElem
     ·simp
     ·intro j h1 h2;rw [List.getElem_map,List.getElem_range,←Ue hp (by omega)];have hb:=(h.bit hh j (by rw [←h.len hh];exact h1)).1 (ha j (by rw [←h.len hh];exact h1));rw [hd j hb,dz,cM h1];rfl
    rw [hf,chunks,List.take_take,←h.st]
    have hle:s.st.size.toNat≤16*R.blocks.length:=by
     rw [h.len hh];have:=(iD (h.right hh)).2.1;unfold aR;omega
    rw [Nat.min_eq_left hle]
   ·rw [if_pos ha,if_pos ((Cc h hh).2 ha)]
theorem Qd {m m':DS} {i:Nat} {bs:List Int} (hs:m'.az=m.az) (hw:m'.waits=m.waits∨m'.waits=m.waits++[(i,bs)]) {j:Nat} (hj:j≠i):m'.now j=m.now j:=by
 unfold DS.now;rw [hs];rcases hw with hw|hw
 ·rw [hw]
 ·rw [hw,gA,List.length_singleton,ui (by simp) (by simpa using fun e=>hj e.symm),yH _ _ _ _ _ (Nat.le_refl _)]
theorem yl {m:DS} (hg:m.Good) {i:Int} {bs:List Int} (h0:0≤i) (h1:i < m.az.length) (hb:bs.length=64) {j:Nat} (hj:j≠i.toNat):(wf m i bs).2.now j=m.now j:=by
 by_cases h:(wf m i bs).1=0
 ·rw [(ud hg h0 h1 hb h).2.2,if_neg hj]
 ·obtain ⟨_,_,h3,h4⟩:=xh h0 h1 hb h;exact Qd h3 h4 hj
theorem Pl.wf {m:DS} {p k:Int} (h:Pl m p k) (i:Int) {bs:List Int} (hb:bo bs):Pl (bk.wf m i bs).2 p k :=
 ⟨h.b8.wf i bs,h.jm.wf i hb,h.p0,h.p1,h.k0,h.k1,by rw [jB];exact h.room⟩
theorem qc {b data:List Int} (hb:b.length=64) (no:Nat) (hd:data.length=16):(splice b no data).length=64:=by
 unfold splice;simp [hb,hd];omega
theorem yr {b data:List Int} (hb:bo b) (no:Nat) (hd:bo data):bo (splice b no data):=by
 intro z hz;unfold splice at hz;rcases List.mem_append.1 hz with hz|hz
 ·rcases List.mem_append.1 hz with hz|hz
  ·exact hb z (List.mem_of_mem_take hz)
  ·exact hd z hz
 ·exact hb z (List.mem_of_mem_drop hz)
theorem Pn {b data:List Int} (hb:b.length=64) {no:Nat} (hd:data.length=16) {j:Nat} (hj:j < 4):((splice b no data).drop (j*16)).take 16=if j=no % 4 then data else (b.drop (j*16)).take 16:=by
 have hl:(b.take (no % 4*16)).length=no % 4*16:=by rw [fv];omega
 unfold splice;rw [List.append_assoc];by_cases h:j=no % 4
 ·rw [if_pos h,h,List.drop_append,hl,Nat.sub_self,List.drop_of_length_le (by omega),List.nil_append,List.drop_zero,List.take_append_of_le_length (by omega),List.take_of_length_le (by omega)]
 ·rw [if_neg h];rcases Nat.lt_or_gt_of_ne h with h|h
  ·rw [List.drop_append_of_le_length (by omega),List.take_append_of_le_length (by rw [List.length_drop];omega),List.drop_take,List.take_take,Nat.min_eq_left (by omega)]
  ·rw [List.drop_append,hl,List.drop_of_length_le (by omega),List.nil_append,List.drop_append,hd,List.drop_of_length_le (by omega),List.nil_append,List.drop_drop];rw [show no % 4*16+16+(j*16-no % 4*16-16)=j*16 by omega]
theorem sC {m m':DS} {p k:Int} {R:RS} (hp:Pl m p k) (h:tP m p k R) (dG:R.blocks.length≤10) (hn:∀j,j≠(bM p k).toNat→m'.now j=m.now j):tP m' p k R:=by
 intro j hj;have iZ:=BN hj;rw [←h j hj];unfold AV;rw [hn _ (by have:=hp.p0;have:=hp.k0;unfold eH bM;omega)]
theorem Kr {m m':DS} {p k:Int} {R:RS} (hp:Pl m p k) (h:tP m p k R) (dG:R.blocks.length≤10) {no:Nat} {data:List Int} (hd:data.length=16) (kt:no < 10)
  (hn:∀j,m'.now j=if j=(eH p k ((no / 4:Nat):Int)).toNat then splice (m.now (eH p k ((no / 4:Nat):Int)).toNat) no data else m.now j) (hb:R.blocks.getD no []=[]):tP m' p k R∧tP m' p k ⟨R.has,R.st,R.blocks.set no data⟩:=by
 have p0:=hp.p0;have k0:=hp.k0;have hl:=hp.len (i:=((no / 4:Nat):Int)) (by omega) (by omega)
 have key:∀j,j < 10→AV m' p k j=if j=no then data else AV m p k j:=by
  intro j hj;unfold AV;rw [hn];by_cases hq:j / 4=no / 4
  ·rw [hq,if_pos rfl,Pn hl hd (Nat.mod_lt _ (by omega))];by_cases hr:j=no
   ·rw [if_pos (by rw [hr]),if_pos hr]
   ·rw [if_neg (by omega),if_neg hr]
  ·rw [if_neg (by unfold eH;omega),if_neg (by intro e;exact hq (by rw [e]))]
 constructor
 ·intro j hj;have iZ:=BN hj;rw [key j (by omega),if_neg (by rintro rfl;exact hj hb),h j hj]
 ·intro j hj;have iZ:=BN hj;rw [List.length_set] at iZ;rw [key j (by omega)];simp only at hj ⊢;rw [kx] at hj ⊢;by_cases e:j=no
  ·rw [if_pos e,if_pos ⟨e,by omega⟩]
  ·rw [if_neg e,if_neg fun x=>e x.1];rw [if_neg fun x=>e x.1] at hj;exact h j hj
theorem Lv:(jw br).2≠0:=by decide +kernel
theorem yF {m:DS} {p k:Int} {st:aS} (h:m.now (bM p k).toNat=st.bytes) (hr:st.right=true):iV m p k=⟨true,st⟩:=by
 unfold iV;rw [h,Kk hr,if_pos rfl]
theorem sX {m:DS} {p k:Int} (h:m.now (bM p k).toNat=br):iV m p k=bC.none:=by
 unfold iV;rw [h,if_neg Lv]
theorem mQ {m m':DS} {p k:Int} (h:m'.now (bM p k).toNat=m.now (bM p k).toNat):iV m' p k=iV m p k:=by
 unfold iV;rw [h]
theorem Ad {st:aS} (h:st.right=true) {no:Nat} (kt:no < aR st.size):(sY st no).right=true:=by
 obtain ⟨⟨h1,h2⟩,⟨h3,h4⟩,h5,h6⟩:=iD h;have hb:aR st.size≤10:=by unfold aR;omega
 have hh:st.bd≤2 ^ aR st.size-1:=by
  simp [aS.right] at h;exact h.2.2
 unfold aS.right sY;simp only [Bool.and_eq_true,decide_eq_true_eq];refine ⟨⟨⟨h1,h2⟩,h3,h4⟩,?_⟩;unfold mZ;split
 ·exact ⟨h5,hh⟩
 ·rename_i Ob
  have Ix:df st.bd no=false:=by simpa using Ob
  generalize aR st.size=n at *;obtain ⟨x,hx⟩:=Int.eq_ofNat_of_zero_le h5;rw [hx] at Ix hh ⊢;rw [Un] at Ix
  have aK:x < 2 ^ n:=by
   have:((2 ^ n:Nat):Int)=(2:Int) ^ n:=by simp
   omega
  have h7:x+2 ^ no < 2 ^ n:=by
   have e:x ||| 2 ^ no=x+2 ^ no:=by
    rw [D3,if_neg];rw [Nat.testBit_eq_decide_div_mod_eq] at Ix;simpa using Ix
   rw [←e];exact Nat.or_lt_two_pow aK (Nat.pow_lt_pow_right (by omega) kt)
  have h8:((x+2 ^ no:Nat):Int)=(x:Int)+2 ^ no:=by simp
  have h9:((2 ^ n:Nat):Int)=(2:Int) ^ n:=by simp
  constructor
  ·have:(0:Int)≤2 ^ no:=Int.le_of_lt (Int.pow_pos (by decide));omega
  ·omega
end aU
namespace aU

open bw bk record Go.Proofs.YtdldkkoplgkloaaGreat.bits
def ID (m m':DS):Prop:=m'.waits=[]∧(m'.az=m.az∨∃i bs,m.waits=[(i,bs)]∧m'.az=m.az.set i bs)
theorem PT {m:DS} (h:m.waits.length≤1) (keep:Int):ID m (m.eD keep):=by
 refine ⟨rfl,?_⟩
 match hw:m.waits with
 | [] =>
   rcases Aa (m:=m) (i:=0) (bs:=[]) (.inl hw) keep with e|⟨e,_⟩
   ·exact .inl e
   ·rw [hw] at e;exact absurd e (by simp)
 | [(i,bs)] =>
   rcases Aa (m:=m) (i:=i) (bs:=bs) (.inr hw) keep with e|⟨_,e⟩
   ·exact .inl e
   ·exact .inr ⟨i,bs,rfl,e⟩
 | _::_::_=>rw [hw] at h;simp at h
theorem Wq {m m':DS} (hw:m.waits=[]) (ho:ID m m') (j:Nat):m'.now j=m.now j:=by
 obtain ⟨h1,h2⟩:=ho;rw [DS.pz h1,DS.pz hw];rcases h2 with h2|⟨i,bs,h2,_⟩
 ·rw [h2]
 ·rw [hw] at h2;exact absurd h2 (by simp)
theorem yV {m:DS} (hw:m.waits=[]) {i:Int} {bs:List Int} (h0:0≤i) (h1:i < m.az.length) (hb:bs.length=64) (h:(wf m i bs).1≠0) {m':DS} (ho:ID (wf m i bs).2 m') :
  (∀j,m'.now j=m.now j)∨(∀j,m'.now j=if j=i.toNat then bs else m.now j):=by
 obtain ⟨_,_,h3,h4⟩:=xh h0 h1 hb h;obtain ⟨o1,o2⟩:=ho;rw [hw,List.nil_append] at h4
 have key:m'.az=m.az∨m'.az=m.az.set i.toNat bs:=by
  rcases o2 with o2|⟨i',bs',o2,o3⟩
  ·exact .inl (o2.trans h3)
  ·rcases h4 with h4|h4
   ·rw [h4] at o2;exact absurd o2 (by simp)
   ·rw [h4] at o2;injection o2 with o2 _
    injection o2 with o4 o5
    rw [←o4,←o5,h3] at o3;exact .inr o3
 rcases key with e|e
 ·exact .inl fun j=>by rw [DS.pz o1,DS.pz hw,e]
 ·refine .inr fun j=>?_;rw [DS.pz o1,DS.pz hw,e,kx];by_cases hj:j=i.toNat
  ·rw [if_pos ⟨hj,by omega⟩,if_pos hj]
  ·rw [if_neg fun x=>hj x.1,if_neg hj]
structure SI (m:DS) (p k:Int) (s:bC) (R:RS) (jD:Option RS):Prop where
 pl:Pl m p k
 mem:qv s R
 tx:m.waits.length≤1
 up:m.down=false→jD=Option.none∧m.waits=[]∧tP m p k R∧iV m p k=s
 dn:m.down=true→∃R',jD=some R'∧(R'.has=R.has→R'.st=R.st→R'=R)∧
  ∀m',ID m m'→Pl m' p k→(tP m' p k R∧iV m' p k=s)∨(∃s',qv s' R'∧tP m' p k R'∧iV m' p k=s')
inductive Stepped (m:DS) (p k:Int) (s:bC) (R:RS) (jD:Option RS) (x:Int×DS×bC) (y:Int×RS):Prop
 | same (h1:x.1=y.1) (h2:x.1≠8) (h3:SI x.2.1 p k x.2.2 y.2 jD)
 | down (h1:x.1=8) (h2:y.1=0) (h3:x.2.2=s) (h4:SI x.2.1 p k s R (jD.or (some y.2)))
section
variable {m : DS} {p k : Int} {s : bC} {R : RS} {jD : Option RS}
theorem uK {a:RS} {x:Option RS} (h:x=some a) (y:RS):x.or (some y)=x:=by rw [h];rfl
theorem SI.begin (h:SI m p k s R jD) (se sz:Int):Stepped m p k s R jD (fU m p k s se sz) (fF R se sz):=by
 unfold fU fF;by_cases hr:(aS.mk se sz 0).right=true
 ·rw [if_pos hr,if_pos hr];obtain ⟨a0,a1⟩:=h.pl.own;have hl:=aS.di ⟨se,sz,0⟩
  have JV:qv ⟨true,⟨se,sz,0⟩⟩ ⟨true,⟨se,sz,0⟩,List.replicate (aR sz) []⟩:=by
   refine ⟨rfl,rfl,fun h=>absurd (show true=false from h) (by decide),fun _=>hr,fun _=>by simp,fun _ j hj=>?_,fun b hb=>.inl (List.mem_replicate.1 hb).2⟩;simp [Hk,dz,List.getElem?_replicate];split<;>rfl
  have YY:∀m',tP m' p k ⟨true,⟨se,sz,0⟩,List.replicate (aR sz) []⟩:=by
   intro m' j hj;refine absurd ?_ hj;simp [dz,List.getElem?_replicate];split<;>rfl
  cases hd:m.down with
  | true =>
    rw [LD a0 a1 hl hd,if_neg (show ¬((8:Int)=0) by decide)];obtain ⟨R',e,_⟩:=h.dn hd;exact .down rfl rfl rfl (by rw [uK e];exact h)
  | false =>
    obtain ⟨u1,u2,u3,u4⟩:=h.up hd;have iG:=h.pl.wf (bM p k) (aS.qK ⟨se,sz,0⟩);by_cases hw:(wf m (bM p k) (aS.mk se sz 0).bytes).1=0
    ·rw [if_pos hw];obtain ⟨w1,w2,w3⟩:=ud h.pl.b8 a0 a1 hl hw;refine .same rfl (show (0:Int)≠8 by decide) ⟨iG,JV,by rw [w1];simp,fun _=>⟨u1,w1,YY _,?_⟩,fun h'=>absurd (w2.symm.trans h') (by decide)⟩;exact yF (by rw [w3,if_pos rfl]) hr
    ·rw [if_neg hw];obtain ⟨e1,e2,e3,e4⟩:=xh a0 a1 hl hw;refine .down e1 rfl rfl ?_;rw [u1];refine ⟨iG,h.mem,?_,fun h'=>absurd (e2.symm.trans h') (by decide),fun _=>⟨_,rfl,?_,fun m' ho th=>?_⟩⟩
     ·rw [u2] at e4;rcases e4 with e|e<;>rw [e]<;>simp
     ·intro h1 h2;have hs:s.has=true:=by rw [h.mem.has,←h1]
      have av:s.st=⟨se,sz,0⟩:=by rw [h.mem.st,←h2]
      obtain ⟨rh,rst,rb⟩:=R;simp only at h1 h2;subst h1;subst h2;show RS.mk true ⟨se,sz,0⟩ (List.replicate (aR sz) [])=RS.mk true ⟨se,sz,0⟩ rb
      congr 1
      have hlen:=h.mem.len hs;rw [av] at hlen;simp only at hlen;apply List.ext_getElem
      ·simp [hlen]
      ·intro j j1 j2;rw [List.getElem_replicate];have hb:=h.mem.bit hs j (by rw [av];simp only;omega);rw [av] at hb;simp only [Hk,dz,cM j2,Option.getD_some] at hb;by_cases he:rb[j]=[]
       ·exact he.symm
       ·exact absurd (hb.2 he) (by decide)
     ·rcases yV u2 a0 a1 hl hw ho with hn|hn
      ·exact .inl ⟨sC h.pl u3 h.mem.l9 fun j _=>hn j,(mQ (hn _)).trans u4⟩
      ·exact .inr ⟨_,JV,YY _,yF (by rw [hn,if_pos rfl]) hr⟩
 ·rw [if_neg hr,if_neg hr];exact .same rfl (by show (3:Int)≠8;decide) h
theorem SI.clear (h:SI m p k s R jD):Stepped m p k s R jD (ja m p k s) (0,RS.none):=by
 unfold ja;obtain ⟨a0,a1⟩:=h.pl.own;have hl:br.length=64:=rfl;cases hd:m.down with
 | true =>
   rw [LD a0 a1 hl hd,if_neg (show ¬((8:Int)=0) by decide)];obtain ⟨R',e,_⟩:=h.dn hd;exact .down rfl rfl rfl (by rw [uK e];exact h)
 | false =>
   obtain ⟨u1,u2,u3,u4⟩:=h.up hd;have iG:=h.pl.wf (bM p k) Du;by_cases hw:(wf m (bM p k) br).1=0
   ·rw [if_pos hw];obtain ⟨w1,w2,w3⟩:=ud h.pl.b8 a0 a1 hl hw;exact .same rfl (show (0:Int)≠8 by decide) ⟨iG,Db,by rw [w1];simp,fun _=>⟨u1,w1,Dc _ _ _,sX (by rw [w3,if_pos rfl])⟩,fun h'=>absurd (w2.symm.trans h') (by decide)⟩
   ·rw [if_neg hw];obtain ⟨e1,e2,e3,e4⟩:=xh a0 a1 hl hw;refine .down e1 rfl rfl ?_;rw [u1];refine ⟨iG,h.mem,?_,fun h'=>absurd (e2.symm.trans h') (by decide),fun _=>⟨_,rfl,?_,fun m' ho th=>?_⟩⟩
    ·rw [u2] at e4;rcases e4 with e|e<;>rw [e]<;>simp
    ·intro h1 h2;exact (h.mem.none (by rw [h.mem.has,←h1];rfl)).symm
    ·rcases yV u2 a0 a1 hl hw ho with hn|hn
     ·exact .inl ⟨sC h.pl u3 h.mem.l9 fun j _=>hn j,(mQ (hn _)).trans u4⟩
     ·exact .inr ⟨_,Db,Dc _ _ _,sX (by rw [hn,if_pos rfl])⟩
theorem qv.ZJ (h:qv s R) (se no:Int) (n:Nat):gQ s se no n=jv R se no n:=by
 unfold gQ jv;cases hh:s.has with
 | false=>rw [←h.has,hh];rfl
 | true=>rw [←h.has,hh,h.len hh,←h.st]
theorem sR {se no:Int} {n:Nat} (h:gQ s se no n=0):s.has=true∧se=s.st.aG∧0≤no∧no < aR s.st.size∧n=16:=by
 unfold gQ at h;split at h
 ·exact absurd h (by decide)
 ·split at h
  ·exact absurd h (by decide)
  ·split at h
   ·exact absurd h (by decide)
   ·split at h
    ·exact absurd h (by decide)
    ·rename_i h1 h2 h3 h4
     refine ⟨by simpa using h1,by simpa using h2,by omega,by omega,by omega⟩
theorem VI (s:bC) (se no:Int) (n:Nat):gQ s se no n≠8:=by
 unfold gQ;split
 ·decide
 ·split
  ·decide
  ·split
   ·decide
   ·split<;>decide
theorem qv.more (h:qv s R) (hh:s.has=true) {no:Nat} (kt:no < aR s.st.size) (hb:df s.st.bd no=false) {data:List Int} (hd:data.length=16) :
  qv ⟨true,sY s.st no⟩ ⟨R.has,⟨R.st.aG,R.st.size,R.st.bd+2 ^ no⟩,R.blocks.set no data⟩:=by
 have hl:=h.len hh;refine ⟨by rw [←h.has,hh],?_,fun h=>absurd (show true=false from h) (by decide),fun _=>Ad (h.right hh) kt,fun _=>by rw [List.length_set,hl];rfl,fun _ j hj=>?_,fun b mK=>?_⟩
 ·rw [←h.st];unfold sY mZ;rw [hb];rfl
 ·have QF:j < aR s.st.size:=hj;show df (mZ s.st.bd no) j=true ↔ (R.blocks.set no data).getD j []≠[]
  rw [OH,kx];by_cases e:j=no
  ·rw [if_pos ⟨e,by omega⟩];subst e;simp;rintro rfl;simp at hd
  ·rw [if_neg fun x=>e x.1,←h.bit hh j QF];simp [e]
 ·rcases List.mem_or_eq_of_mem_set mK with mK|mK
  ·exact h.b16 b mK
  ·exact .inr (by rw [mK];exact hd)
theorem SI.put (h:SI m p k s R jD) (se no:Int) {data:List Int} (Cr:bo data):Stepped m p k s R jD (ig m p k s se no data) (jU R se no data):=by
 unfold ig jU;rw [←h.mem.ZJ];by_cases hw:gQ s se no data.length=0
 ·rw [if_neg (not_not_intro hw),if_neg (not_not_intro hw)];obtain ⟨hh,w1,w2,w3,w4⟩:=sR hw;obtain ⟨n,rfl⟩:=Int.eq_ofNat_of_zero_le w2;have hn:n < aR s.st.size:=by omega
  have Ob:=h.mem.bit hh n hn;rw [ea];cases hb:df s.st.bd n with
  | true =>
    rw [if_pos rfl,if_pos (Ob.1 hb)];exact .same rfl (by show (0:Int)≠8;decide) h
  | false =>
    have kK:R.blocks.getD n []=[]:=by
     by_cases e:R.blocks.getD n []=[]
     ·exact e
     ·rw [Ob.2 e] at hb;exact absurd hb (by decide)
    rw [if_neg (by decide),if_neg (not_not_intro kK)];cases hd:m.down with
    | true =>
      rw [if_pos rfl];obtain ⟨R',e,_⟩:=h.dn hd;exact .down rfl rfl rfl (by rw [uK e];exact h)
    | false =>
      rw [if_neg (by decide)];obtain ⟨u1,u2,u3,u4⟩:=h.up hd
      have FH:n < 10:=by
       have:=(iD (h.mem.right hh)).2.1;unfold aR at hn;omega
      have hq:((n:Int) / 4)=((n / 4:Nat):Int):=by omega
      rw [hq];obtain ⟨d0,d1⟩:=h.pl.at_ (i:=((n / 4:Nat):Int)) (by omega) (by omega);obtain ⟨a0,a1⟩:=h.pl.own;have dB:=qc (h.pl.len (i:=((n / 4:Nat):Int)) (by omega) (by omega)) n w4;have uW:=yr (h.pl.jm.now (eH p k ((n / 4:Nat):Int)).toNat) n Cr;have cy:=aS.di (sY s.st n);have JV:=h.mem.more hh hn hb w4;have vR:=Ad (h.mem.right hh) hn
      have Vp:∀R':RS,R'=⟨R.has,⟨R.st.aG,R.st.size,R.st.bd+2 ^ n⟩,R.blocks.set n data⟩→R'.has=R.has→R'.st=R.st→R'=R:=by
       rintro R' rfl _ h2;have h3:R.st.bd+2 ^ n=R.st.bd:=congrArg aS.bd h2;have:(0:Int) < 2 ^ n:=Int.pow_pos (by decide);omega
      have rC:=h.pl.wf (eH p k ((n / 4:Nat):Int)) uW;have YG:=rC.wf (bM p k) (aS.qK (sY s.st n));unfold xm;by_cases e1:(wf m (eH p k ((n / 4:Nat):Int)) (splice (m.now (eH p k ((n / 4:Nat):Int)).toNat) n data)).1=0
      ·rw [if_pos e1];obtain ⟨x1,x2,x3⟩:=ud h.pl.b8 d0 d1 dB e1;obtain ⟨y1,y2⟩:=Kr h.pl u3 h.mem.l9 w4 FH x3 kK
       have fP:(wf m (eH p k ((n / 4:Nat):Int)) (splice (m.now (eH p k ((n / 4:Nat):Int)).toNat) n data)).2.now (bM p k).toNat=m.now (bM p k).toNat:=by
        rw [x3,if_neg (by have:=h.pl.p0;have:=h.pl.k0;unfold eH bM;omega)]
       generalize (wf m (eH p k ((n / 4:Nat):Int)) (splice (m.now (eH p k ((n / 4:Nat):Int)).toNat) n data)).2=m1 at *;obtain ⟨a0',a1'⟩:=rC.own;have Y7:(R.blocks.set n data).length≤10:=by rw [List.length_set];exact h.mem.l9
       by_cases e2:(wf m1 (bM p k) (sY s.st n).bytes).1=0
       ·rw [if_pos e2];obtain ⟨z1,z2,z3⟩:=ud rC.b8 a0' a1' cy e2;refine .same rfl (by show (0:Int)≠8;decide) ⟨YG,JV,by rw [z1];simp,fun _=>⟨u1,z1,?_,yF (by rw [z3,if_pos rfl]) vR⟩,fun h'=>absurd (z2.symm.trans h') (by decide)⟩;exact sC rC y2 Y7 fun j hj=>by rw [z3,if_neg hj]
       ·rw [if_neg e2];obtain ⟨f1,f2,f3,f4⟩:=xh a0' a1' cy e2;refine .down f1 rfl rfl ?_;rw [u1];refine ⟨YG,h.mem,?_,fun h'=>absurd (f2.symm.trans h') (by decide),fun _=>⟨_,rfl,Vp _ rfl,fun m' ho th=>?_⟩⟩
        ·rw [x1] at f4;rcases f4 with e|e<;>rw [e]<;>simp
        ·rcases yV x1 a0' a1' cy e2 ho with uZ|uZ
         ·exact .inl ⟨sC rC y1 h.mem.l9 fun j _=>uZ j,(mQ ((uZ _).trans fP)).trans u4⟩
         ·exact .inr ⟨_,JV,sC rC y2 Y7 fun j hj=>by rw [uZ,if_neg hj],yF (by rw [uZ,if_pos rfl]) vR⟩
      ·rw [if_neg e1,if_neg e1];obtain ⟨f1,f2,f3,f4⟩:=xh d0 d1 dB e1;refine .down f1 rfl rfl ?_;rw [u1];refine ⟨rC,h.mem,?_,fun h'=>absurd (f2.symm.trans h') (by decide),fun _=>⟨_,rfl,Vp _ rfl,fun m' ho th=>.inl ?_⟩⟩
       ·rw [u2] at f4;rcases f4 with e|e<;>rw [e]<;>simp
       ·have uY:(bM p k).toNat≠(eH p k ((n / 4:Nat):Int)).toNat:=by have:=h.pl.p0;have:=h.pl.k0;unfold eH bM;omega
        rcases yV u2 d0 d1 dB e1 ho with uZ|uZ
        ·exact ⟨sC h.pl u3 h.mem.l9 fun j _=>uZ j,(mQ (uZ _)).trans u4⟩
        ·exact ⟨(Kr h.pl u3 h.mem.l9 w4 FH uZ kK).1,(mQ (by rw [uZ,if_neg uY])).trans u4⟩
 ·rw [if_pos hw,if_pos hw];exact .same rfl (VI _ _ _ _) h
theorem SI.kQ (h:SI m p k s R Option.none) (n:Int) (hn:n≤9223372036854775807):SI (m.py n) p k s R Option.none:=by
 cases hd:m.down with
 | true =>
   obtain ⟨R',e,_⟩:=h.dn hd;exact absurd e (by simp)
 | false =>
   obtain ⟨u1,u2,u3,u4⟩:=h.up hd;have e:m.py n={ m with kQ:=max n (-1) }:=by unfold DS.py;rw [hd];rfl
   have hg:=DS.Ja h.pl.b8 hn;have hb:=h.pl.jm.py n;rw [e] at hg hb ⊢;exact ⟨⟨hg,hb,h.pl.p0,h.pl.p1,h.pl.k0,h.pl.k1,h.pl.room⟩,h.mem,h.tx,fun _=>⟨rfl,u2,u3,u4⟩,fun h'=>absurd (hd.symm.trans h') (by decide)⟩
theorem SI.eD (h:SI m p k s R jD) (keep:Int):∃s',iV (m.eD keep) p k=s'∧
  ((SI (m.eD keep) p k s' R Option.none∧∀R',jD=some R'→s'.has=R'.has→s'.st=R'.st→R'=R)∨∃R',jD=some R'∧SI (m.eD keep) p k s' R' Option.none):=by
 have ho:=PT h.tx keep;have iG:Pl (m.eD keep) p k:=⟨DS.yB h.pl.b8 keep,h.pl.jm.eD keep,h.pl.p0,h.pl.p1,h.pl.k0,h.pl.k1,by rw [DS.DY];exact h.pl.room⟩
 have mk:∀(s':bC) (R':RS),qv s' R'→tP (m.eD keep) p k R'→iV (m.eD keep) p k=s'→SI (m.eD keep) p k s' R' Option.none :=
  fun s' R' h1 h2 h3=>⟨iG,h1,by rw [DS.wT];simp,fun _=>⟨rfl,rfl,h2,h3⟩,fun h'=>absurd (show false=true from h') (by decide)⟩
 cases hd:m.down with
 | false =>
   obtain ⟨u1,u2,u3,u4⟩:=h.up hd;have hn:=Wq u2 ho;have h3:iV (m.eD keep) p k=s:=(mQ (hn _)).trans u4;refine ⟨s,h3,.inl ⟨mk s R h.mem (sC h.pl u3 h.mem.l9 fun j _=>hn j) h3,fun R' e=>?_⟩⟩;rw [u1] at e;exact absurd e (by simp)
 | true =>
   obtain ⟨R',e,Z6,cN⟩:=h.dn hd;rcases cN _ ho iG with ⟨h1,h2⟩|⟨s',h1,h2,h3⟩
   ·refine ⟨s,h2,.inl ⟨mk s R h.mem h1 h2,fun R2 e2 g1 g2=>?_⟩⟩;rw [e] at e2;injection e2 with e2
    subst e2;exact Z6 (g1.symm.trans h.mem.has) (g2.symm.trans h.mem.st)
   ·exact ⟨s',h3,.inr ⟨R',e,mk s' R' h1 h2 h3⟩⟩
end
theorem Uq {m:DS} {p k:Int} (h:Pl m p k) (hu:m.Up) (s:bC) (se sz:Int):(fU m p k s se sz).2.1.Up:=by
 unfold fU;split
 ·have:=(yj h.own.1 h.own.2 (aS.di ⟨se,sz,0⟩) hu).2;split<;>exact this
 ·exact hu
theorem Uf {m:DS} {p k:Int} (h:Pl m p k) (hu:m.Up) (s:bC):(ja m p k s).2.1.Up:=by
 unfold ja;have:=(yj h.own.1 h.own.2 (show br.length=64 from rfl) hu).2;split<;>exact this
theorem XX {m:DS} {p k:Int} (h:Pl m p k) (hu:m.Up) {s:bC} (hs:s.has=true→s.st.right=true) (se no:Int) {data:List Int} (Cr:bo data):(ig m p k s se no data).2.1.Up:=by
 unfold ig;by_cases hw:gQ s se no data.length=0
 ·rw [if_neg (not_not_intro hw)];obtain ⟨hh,w1,w2,w3,w4⟩:=sR hw;obtain ⟨n,rfl⟩:=Int.eq_ofNat_of_zero_le w2;rw [ea];split
  ·exact hu
  ·rw [hu.1,if_neg (by decide)]
   have FH:n < 10:=by
    have:=(iD (hs hh)).2.1;unfold aR at w3;omega
   have hq:((n:Int) / 4)=((n / 4:Nat):Int):=by omega
   rw [hq];obtain ⟨d0,d1⟩:=h.at_ (i:=((n / 4:Nat):Int)) (by omega) (by omega);have dB:=qc (h.len (i:=((n / 4:Nat):Int)) (by omega) (by omega)) n w4;have uW:=yr (h.jm.now (eH p k ((n / 4:Nat):Int)).toNat) n Cr;obtain ⟨x1,x2⟩:=yj d0 d1 dB hu;have rC:=h.wf (eH p k ((n / 4:Nat):Int)) uW;have y2:=(yj rC.own.1 rC.own.2 (aS.di (sY s.st n)) x2).2
   have key:(xm m (eH p k ((n / 4:Nat):Int)) (splice (m.now (eH p k ((n / 4:Nat):Int)).toNat) n data) (bM p k) (sY s.st n).bytes).2.Up:=by
    unfold xm;split
    ·exact y2
    ·exact x2
   split<;>exact key
 ·rw [if_pos hw];exact hu
theorem Stepped.up {m:DS} {p k:Int} {s:bC} {R:RS} {x:Int×DS×bC} {y:Int×RS} (h:Stepped m p k s R Option.none x y) (hu:x.2.1.Up):x.1=y.1∧SI x.2.1 p k x.2.2 y.2 Option.none:=by
 cases h with
 | same h1 h2 h3=>exact ⟨h1,h3⟩
 | down h1 h2 h3 h4 =>
   have:=(h4.up hu.1).1;exact absurd this (by simp)
end aU
namespace same

open Go.RowKit base
theorem IX {xs ys:List Int} {k:Nat} (hx:k < xs.length) (hy:k < ys.length) (h:xs.take k=ys.take k) (e:xs[k]=ys[k]):xs.take (k+1)=ys.take (k+1):=by
 rw [jz hx,jz hy,h,e]
theorem Je (xs ys:List Int) (A A':Option Addr) (n m c c':Nat) (w:World) (hn:n=xs.length) (hm:m=ys.length) (Gz:n≤1000000) (At:m≤1000000)
  (hs:Sl w w.heap.size 1 A n (xs.map (Value.int .u8))) (ht:Sl w w.heap.size 1 A' m (ys.map (Value.int .u8))) :
  Calls Tryz.prog 114 #[.slice A n c,.slice A' m c'] w fun e w'=>e=.returned (.bool (decide (xs=ys)))∧Below w.heap.size w w':=by
 by_cases hl:n=m
 ·subst hl;have HN:=aa hn;have HM:=aa hm;have HS:=aa hs;have HT:=aa ht;clear hn hm hs ht;go_enter Tryz.func114,Tryz.ntmps114;go_wp2_with fail;go_loopw [5] (fun i wr=>∃k:Nat,k≤n∧i=.int .i64 k∧xs.take k=ys.take k∧Below w.heap.size w wr) (fun i _=>n-(intOf i).toNat)
  case atStart=>exact ⟨0,by omega,rfl,by simp,Below.refl _ _⟩
  case round =>
   obtain ⟨k,hk,rfl,heq,hb⟩:=hrel;have HE:=aa heq;have HB:=aa hb;clear heq hb;by_cases aK:k < n
   ·have hx:k < xs.length:=by rw [←HN.o];exact aK
    have hy:k < ys.length:=by rw [←HM.o];exact aK
    obtain ⟨b,off,rfl,cy,hc⟩:=HS.o.2 (by omega);obtain ⟨b',C9,rfl,J4,fS⟩:=HT.o.2 (by omega);have c1:wr.cell? ⟨b,off+k,none⟩=some (.int .u8 xs[k]):=(HB.o.cell (p:=⟨b,off+k,none⟩) cy).trans (hc k _ (by simp [hx]));have c2:wr.cell? ⟨b',C9+k,none⟩=some (.int .u8 ys[k]):=(HB.o.cell (p:=⟨b',C9+k,none⟩) J4).trans (fS k _ (by simp [hy]));have HX:=aa hx;have HY:=aa hy;have i0:(0:Int)≤(k:Int):=by omega
    have i1:(k:Int) < (n:Int):=by omega
    clear hc fS;generalize hex:xs[k]=x at *;generalize hey:ys[k]=y at *;have HEX:=aa hex;have HEY:=aa hey;clear hex hey;by_cases L6:x=y
    ·have b1:(x != y)=false:=by simp [L6]
     have HXY:=aa L6;clear L6;go_wp2_with fail;go_quiet (fail);go_wp2_with fail;go_roundw;case rel=>exact ⟨k+1,by omega,by go_num,IX HX.o HY.o HE.o (HEX.o.trans (HXY.o.trans HEY.o.symm)),below_drewN HB.o _⟩
     case measure=>simp [intOf];omega
    ·have b1:(x != y)=true:=by simp [L6]
     have hf:decide (xs=ys)=false:=by
      simp only [decide_eq_false_iff_not];intro h;subst h;exact L6 (HEX.o.symm.trans HEY.o)
     have HF:=aa hf;clear L6 hf;go_wp2_with fail;go_quiet (fail);go_wp2_with fail;go_ret;exact ⟨aE HF.o.symm,below_drewN HB.o _⟩
   ·have hf:decide (xs=ys)=true:=by
     have:=HE.o;rw [List.take_of_length_le (by rw [←HN.o];omega),List.take_of_length_le (by rw [←HM.o];omega)] at this;simpa using this
    have HF:=aa hf;clear hf;go_wp2_with fail;go_ret;exact ⟨aE HF.o.symm,HB.o⟩
 ·have hf:decide (xs=ys)=false:=by
   simp only [decide_eq_false_iff_not];intro h;subst h;omega
  have HF:=aa hf;have b1:((n:Int) != (m:Int))=true:=by simp;omega
  clear hf hn hm hs ht;go_enter Tryz.func114,Tryz.ntmps114;go_wp2_with fail;go_ret;exact ⟨aE HF.o.symm,Below.refl _ _⟩
end same
namespace lift

open Go.RowKit Go.ChangeShapes Go.WideShapes Go.Deep base
section
variable {H : Type} {enc : TypeId × Value → H} {P : Program}
theorem AT {W:World} {t e s:TypeId} {v:Value} {fuel:Nat} {x:DataW H×List MemPlace} (ht:P.underlying t=some (.slice e)) (hc:P.cellsOf e=s) (hs:0 < s)
  (hf:DataW.trod enc P W 0 (fun _=>true) true fuel t [v]=some x) :
  ∃(A:Option Addr) (n c:Nat) (q:Nat→List Value),v=.slice A n c∧n≤c∧n≤maxLen∧Sl W W.heap.size s A n ((List.range n).flatMap q)∧
   ∀i,i < n→(q i).length=s∧∃m x,DataW.trod enc P W 0 (fun _=>true) true m e (q i)=some x:=by
 rcases open_slice ht hf with ⟨cX,_⟩|⟨a,len,cap,m,k,D,Pl,cX,_,hl,hm,zt,_,hx⟩
 ·simp at cX;subst cX;exact ⟨none,0,0,fun _=>[],rfl,Nat.le_refl _,by simp [maxLen],⟨by simp,fun h=>absurd h (by omega)⟩,fun i hi=>absurd hi (by omega)⟩
 ·simp at cX;subst cX;simp only [if_true] at zt;subst zt;rw [hc] at hx;obtain ⟨q,hq⟩:=choose_lt hx
  have hlen:∀i,i < len→(q i).length=s∧∀j,j < s→W.cell? (a.add (i*s+j))=(q i)[j]?:=by
   intro i hi;obtain ⟨_,h1,h2⟩:=World.cells?_some (hq i (by omega)).1;exact ⟨h1,fun j hj=>by rw [←h2 j hj,KJ]⟩
  obtain ⟨f1,f2⟩:=sA q s hs len (fun i hi=>(hlen i hi).1);have Cp:len≤maxLen:=Nat.le_trans hl hm;have bG:∀i,i < len→(q i).length=s∧∃m x,DataW.trod enc P W 0 (fun _=>true) true m e (q i)=some x:=fun i hi=>⟨(hlen i hi).1,k,_,(hq i (Nat.lt_of_lt_of_le hi hl)).2⟩
  refine ⟨some a,len,_,q,rfl,hl,Cp,⟨f1,fun hn=>?_⟩,bG⟩;have cell0:=(hlen 0 (by omega)).2 0 hs;have Q3:=(hlen 0 (by omega)).1;obtain ⟨b,off,spot⟩:=a;have Ei:W.cell? ((⟨b,off,spot⟩:Addr).add (0*s+0))=some ((q 0)[0]'(by rw [Q3];exact hs)):=by rw [cell0];exact cM (by rw [Q3];exact hs)
  have NV:spot=none:=by simpa [Addr.add] using World.cell?_spot Ei
  subst NV;have yQ:∀k,(⟨b,off,none⟩:Addr).add k=⟨b,off+k,none⟩:=fun k=>by unfold Addr.add;split<;>simp_all
  refine ⟨b,off,rfl,?_,fun k u hu=>?_⟩
  ·have:=World.block_lt_of_cell? W _ Ei;rw [yQ] at this;exact this
  ·have hk:k < len*s:=by
    have:=(List.getElem?_eq_some_iff.1 hu).1;omega
   have hi:k / s < len:=Nat.div_lt_of_lt_mul (by rw [Nat.mul_comm];exact hk);have hj:k % s < s:=Nat.mod_lt _ hs;have dC:k / s*s+k % s=k:=by rw [Nat.mul_comm];exact Nat.div_add_mod k s
   have g:=f2 (k / s) (k % s) hi hj;rw [dC] at g;have c:=(hlen (k / s) hi).2 (k % s) hj;rw [dC,yQ] at c;rw [c,←g];exact hu
theorem Oq {W:World} {t e:TypeId} {k:IntKind} {v:Value} {fuel:Nat} {x:DataW H×List MemPlace} (ht:P.underlying t=some (.slice e)) (he:P.underlying e=some (.int k)) (hc:P.cellsOf e=1)
  (h:DataW.trod enc P W 0 (fun _=>true) true fuel t [v]=some x) :
  ∃(A:Option Addr) (c:Nat) (zs:List Int),v=.slice A zs.length c∧zs.length≤c∧zs.length≤maxLen∧Sl W W.heap.size 1 A zs.length (zs.map (.int k))∧∀z∈zs,(Lit.int k z).wf=true:=by
 obtain ⟨A,n,c,q,rfl,vY,hn,hs,hq⟩:=AT ht hc (by decide) h
 have each:∀i,i < n→∃z:Int,q i=[.int k z]∧(Lit.int k z).wf=true:=by
  intro i hi;obtain ⟨_,m,x,hx⟩:=hq i hi;obtain ⟨z,h1,_,h3⟩:=DataW.trod_int he hx;exact ⟨z,h1,h3⟩
 obtain ⟨z,hz⟩:=choose_lt each
 have e1:∀m,m≤n→(List.range m).flatMap q=((List.range m).map z).map (Value.int k):=by
  intro m
  induction m with
  | zero=>intro _;simp
  | succ m ih =>
    intro hm;rw [List.range_succ,List.flatMap_append,List.map_append,List.map_append,ih (by omega)];simp [(hz m (by omega)).1]
 rw [e1 n (Nat.le_refl _)] at hs;have hl:((List.range n).map z).length=n:=by simp
 refine ⟨A,c,(List.range n).map z,by rw [hl],by rw [hl];exact vY,by rw [hl];exact hn,by rw [hl];exact hs,fun y hy=>?_⟩;obtain ⟨i,hi,rfl⟩:=List.mem_map.1 hy;exact (hz i (List.mem_range.1 hi)).2
end
end lift
namespace record

open Go.RowKit Go.ChangeShapes Go.WideShapes Go.ChangeAt Go.Deep Go.Joins base obj mem
def qL (n:Int):Prop:=-9223372036854775808≤n∧n≤9223372036854775807
theorem Qp {s:Int} (h:(Lit.int .i64 s).wf=true):qL s:=by
 have h1:IntKind.i64.min=-9223372036854775808:=rfl;have h2:IntKind.i64.max=9223372036854775807:=rfl;simp only [Lit.wf,Bool.and_eq_true,decide_eq_true_eq] at h;unfold qL;omega
structure Rec.In (r:Rec):Prop where
 part:qL r.part
 seq:qL r.seq
 ax:qL r.ax
 aj:qL r.aj
 left:qL r.left
 bad:qL r.bad
structure aS.In (s:aS):Prop where
 aG:qL s.aG
 size:qL s.size
 bd:qL s.bd
theorem Rec.read {w:World} {g:Nat} {t:TypeId} {r:Rec} (h:Row w g t r.cells.toList):w.cell? ⟨g,0,none⟩=some (.int .i64 r.part)∧w.cell? ⟨g,1,none⟩=some (.int .i64 r.seq)∧w.cell? ⟨g,2,none⟩=some (.int .i64 r.ax)∧
  w.cell? ⟨g,3,none⟩=some (.int .i64 r.aj)∧w.cell? ⟨g,4,none⟩=some (.int .i64 r.left)∧w.cell? ⟨g,5,none⟩=some (.int .i64 r.bad):=⟨h.cell 0,h.cell 1,h.cell 2,h.cell 3,h.cell 4,h.cell 5⟩
theorem Rec.mA (r:Rec):r.val=.agg #[.int .i64 r.part,.int .i64 r.seq,.int .i64 r.ax,.int .i64 r.aj,.int .i64 r.left,.int .i64 r.bad]:=rfl
theorem aS.read {w:World} {g:Nat} {t:TypeId} {s:aS} (h:Row w g t s.cells.toList):w.cell? ⟨g,0,none⟩=some (.int .i64 s.aG)∧w.cell? ⟨g,1,none⟩=some (.int .i64 s.size)∧w.cell? ⟨g,2,none⟩=some (.int .i64 s.bd):=⟨h.cell 0,h.cell 1,h.cell 2⟩
theorem aS.mA (s:aS):s.val=.agg #[.int .i64 s.aG,.int .i64 s.size,.int .i64 s.bd]:=rfl
end record
end Go.Proofs.YtdldkkoplgkloaaGreat
