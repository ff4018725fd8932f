/- PROVED HERE: lemmas of the law. CONDITIONS: each names its own. -/
import Derived.BigQuiet
import Derived.Deep.QuietTactic
import Derived.Deep.RegionHeld3
import Derived.Test.YtdldkkoplgkloaaGreatPa0
import Derived.Test.YtdldkkoplgkloaaGreatPa15
import Derived.Test.YtdldkkoplgkloaaGreatPa16
import Derived.Test.YtdldkkoplgkloaaGreatPa17
import Derived.Test.YtdldkkoplgkloaaGreatPa18
namespace Go.Proofs.YtdldkkoplgkloaaGreat
set_option linter.unusedVariables false
set_option linter.unusedSimpArgs false
set_option maxRecDepth 100000
set_option maxHeartbeats 32000000
open Go.Value renaming int → ae
open Go.IntKind renaming i64 → aa
namespace aG
open bC aX record Go.Proofs.YtdldkkoplgkloaaGreat.bits
def bz (p k:Int):Int:=p*10+(2+k*4)
def eg (p k i:Int):Int:=p*10+(2+k*4+1+i)
structure cy where
 has:Bool
 st:aR
def cy.none:cy:=⟨false,aR.zero⟩
def sw (st:aR) (no:Nat):aR:=⟨st.aC,st.size,oa st.bf no⟩
def vR (m:DS) (i:Int) (bs:List Int) (j:Int) (cs:List Int):Int×DS:=if (wf m i bs).1=0 then wf (wf m i bs).2 j cs else wf m i bs
def splice (b:List Int) (no:Nat) (data:List Int):List Int:=b.take (no % 4*16)++data++b.drop (no % 4*16+16)
def eL (m:DS) (p k:Int) (s:cy) (aC size:Int):Int×DS×cy :=
 if (aR.mk aC size 0).right then
  (if (wf m (bz p k) (aR.mk aC size 0).bytes).1=0 then (0,(wf m (bz p k) (aR.mk aC size 0).bytes).2,⟨true,⟨aC,size,0⟩⟩)
   else ((wf m (bz p k) (aR.mk aC size 0).bytes).1,(wf m (bz p k) (aR.mk aC size 0).bytes).2,s))
 else (3,m,s)
def gN (s:cy) (aC no:Int) (len:Nat):Int :=
 if s.has=false then 16 else if aC≠s.st.aC then 17 else if no < 0∨(aQ s.st.size:Int)≤no then 3 else if len≠16 then 14 else 0
def gU (m:DS) (p k:Int) (s:cy) (aC no:Int) (data:List Int):Int×DS×cy :=
 if gN s aC no data.length≠0 then (gN s aC no data.length,m,s)
 else if dg s.st.bf no.toNat then (0,m,s)
 else if m.down then (8,m,s)
 else if (vR m (eg p k (no / 4)) (splice (m.now (eg p k (no / 4)).toNat) no.toNat data) (bz p k) (sw s.st no.toNat).bytes).1=0 then
  (0,(vR m (eg p k (no / 4)) (splice (m.now (eg p k (no / 4)).toNat) no.toNat data) (bz p k) (sw s.st no.toNat).bytes).2,⟨true,sw s.st no.toNat⟩)
 else ((vR m (eg p k (no / 4)) (splice (m.now (eg p k (no / 4)).toNat) no.toNat data) (bz p k) (sw s.st no.toNat).bytes).1,
  (vR m (eg p k (no / 4)) (splice (m.now (eg p k (no / 4)).toNat) no.toNat data) (bz p k) (sw s.st no.toNat).bytes).2,s)
def gy (m:DS) (p k:Int) (s:cy):Int×DS×cy :=
 if (wf m (bz p k) bt).1=0 then (0,(wf m (bz p k) bt).2,cy.none) else ((wf m (bz p k) bt).1,(wf m (bz p k) bt).2,s)
def qu (s:cy):Prop:=∀j,j < aQ s.st.size→dg s.st.bf j=true
instance (s:cy):Decidable (qu s):=inferInstanceAs (Decidable (∀j,j < aQ s.st.size→dg s.st.bf j=true))
def rq (m:DS) (p k:Int):List Int:=m.now (eg p k 0).toNat++(m.now (eg p k 1).toNat++m.now (eg p k 2).toNat)
def b9 (m:DS) (p k:Int) (s:cy):List Int×Int :=
 if s.has=false then ([],16) else if ¬qu s then ([],11) else if m.down then ([],8) else ((rq m p k).take s.st.size.toNat,0)
def eU (m:DS) (p k:Int):cy:=if (jb (m.now (bz p k).toNat)).2=0 then ⟨true,(jb (m.now (bz p k).toNat)).1⟩ else cy.none
structure RS where
 has:Bool
 st:aR
 blocks:List (List Int)
deriving DecidableEq
def RS.none:RS:=⟨false,aR.zero,[]⟩
def fk (R:RS) (aC size:Int):Int×RS:=if (aR.mk aC size 0).right then (0,⟨true,⟨aC,size,0⟩,List.replicate (aQ size) []⟩) else (3,R)
def ju (R:RS) (aC no:Int) (len:Nat):Int :=
 if R.has=false then 16 else if aC≠R.st.aC then 17 else if no < 0∨(R.blocks.length:Int)≤no then 3 else if len≠16 then 14 else 0
def ja (R:RS) (aC no:Int) (data:List Int):Int×RS :=
 if ju R aC no data.length≠0 then (ju R aC no data.length,R)
 else if R.blocks.getD no.toNat []≠[] then (0,R)
 else (0,⟨R.has,⟨R.st.aC,R.st.size,R.st.bf+2 ^ no.toNat⟩,R.blocks.set no.toNat data⟩)
def dm (R:RS):List Int×Int :=
 if R.has=false then ([],16) else if ∃b∈R.blocks,b=[] then ([],11) else (R.blocks.flatten.take R.st.size.toNat,0)
structure Pl (m:DS) (p k:Int):Prop where
 bu:m.Good
 eQ:m.ia
 p0:0≤p
 p1:p < 4
 k0:0≤k
 k1:k < 2
 room:eg p k 2 < (m.ar.length:Int)
structure nH (s:cy) (R:RS):Prop where
 has:s.has=R.has
 st:s.st=R.st
 none:s.has=false→R=RS.none
 right:s.has=true→s.st.right=true
 len:s.has=true→R.blocks.length=aQ s.st.size
 bit:s.has=true→∀j,j < aQ s.st.size→(dg s.st.bf j=true ↔ R.blocks.getD j []≠[])
 b16:∀b∈R.blocks,b=[]∨b.length=16
def B9 (m:DS) (p k:Int) (j:Nat):List Int:=((m.now (eg p k ((j / 4:Nat):Int)).toNat).drop (j % 4*16)).take 16
def uJ (m:DS) (p k:Int) (R:RS):Prop:=∀j,R.blocks.getD j []≠[]→B9 m p k j=R.blocks.getD j []
theorem Er:nH cy.none RS.none:=⟨rfl,rfl,fun _=>rfl,fun h=>absurd h (by decide),fun h=>absurd h (by decide),fun h=>absurd h (by decide),fun b hb=>absurd hb (by simp [RS.none])⟩
theorem Es (m:DS) (p k:Int):uJ m p k RS.none:=fun j hj=>absurd (by simp [RS.none]) hj
theorem nH.mH {s:cy} {R:RS} (h:nH s R):R.blocks.length≤10:=by
 cases hh:s.has with
 | false=>rw [h.none hh];simp [RS.none]
 | true =>
   rw [h.len hh];have:=(iD (h.right hh)).2.1;unfold aQ;omega
theorem CV {l:List (List Int)} {j:Nat} (h:l.getD j []≠[]):j < l.length:=by
 rcases Nat.lt_or_ge j l.length with h1|h1
 ·exact h1
 ·rw [dD,List.getElem?_eq_none h1] at h;exact absurd rfl h
theorem chunks (C:List Int):∀n,((List.range n).map fun j=>(C.drop (16*j)).take 16).flatten=C.take (16*n)
 | 0=>by simp
 | n+1=>by
   rw [List.range_succ,List.map_append,List.flatten_append,chunks C n,Nat.mul_succ,List.take_add];simp
theorem Ty {A B D:List Int} (ha:A.length=64) (hb:B.length=64) (hd:D.length=64) {j:Nat} (hj:j < 12) :
  ((A++(B++D)).drop (16*j)).take 16=((if j / 4=0 then A else if j / 4=1 then B else D).drop (j % 4*16)).take 16:=by
 by_cases h0:j / 4=0
 ·rw [if_pos h0,List.drop_append_of_le_length (by omega),List.take_append_of_le_length (by rw [List.length_drop];omega)];rw [show 16*j=j % 4*16 by omega]
 ·rw [if_neg h0,List.drop_append,List.drop_of_length_le (show A.length≤16*j by omega),List.nil_append,ha];by_cases h1:j / 4=1
  ·rw [if_pos h1,List.drop_append_of_le_length (by omega),List.take_append_of_le_length (by rw [List.length_drop];omega)];rw [show 16*j-64=j % 4*16 by omega]
  ·rw [if_neg h1,List.drop_append,List.drop_of_length_le (show B.length≤16*j-64 by omega),List.nil_append,hb];rw [show 16*j-64-64=j % 4*16 by omega]
theorem Pl.at_ {m:DS} {p k:Int} (h:Pl m p k) {i:Int} (h0:0≤i) (h1:i < 3):0≤eg p k i∧eg p k i < (m.ar.length:Int):=by
 have:=h.room;have:=h.p0;have:=h.k0;unfold eg at *;omega
theorem Pl.own {m:DS} {p k:Int} (h:Pl m p k):0≤bz p k∧bz p k < (m.ar.length:Int):=by
 have:=h.room;have:=h.p0;have:=h.k0;unfold eg at *;unfold bz;omega
theorem Pl.len {m:DS} {p k:Int} (h:Pl m p k) {i:Int} (h0:0≤i) (h1:i < 3):(m.now (eg p k i).toNat).length=64:=h.bu.yK (by have:=h.at_ h0 h1;omega)
theorem Wi {m:DS} {p k:Int} (h:Pl m p k) {j:Nat} (hj:j < 12):B9 m p k j=((rq m p k).drop (16*j)).take 16:=by
 unfold rq B9;rw [Ty (h.len (by omega) (by omega)) (h.len (by omega) (by omega)) (h.len (by omega) (by omega)) hj];by_cases h0:j / 4=0
 ·rw [if_pos h0,h0];rfl
 ·by_cases h1:j / 4=1
  ·rw [if_neg h0,if_pos h1,h1];rfl
  ·rw [if_neg h0,if_neg h1,show j / 4=2 by omega];rfl
theorem yq {s:cy} {R:RS} (h:nH s R) (hh:s.has=true):(∃b∈R.blocks,b=[]) ↔ ¬qu s:=by
 unfold qu
 constructor
 ·rintro ⟨b,hb,rfl⟩ cH;obtain ⟨j,hj,e⟩:=List.getElem_of_mem hb;have h2:=(h.bit hh j (by rw [←h.len hh];exact hj)).1 (cH j (by rw [←h.len hh];exact hj));rw [dD,cN hj] at h2;exact h2 e
 ·intro hn;rw [Classical.not_forall] at hn;obtain ⟨j,hn⟩:=hn;rw [Classical.not_imp] at hn;obtain ⟨hj,hb⟩:=hn;have jz:j < R.blocks.length:=by rw [h.len hh];exact hj
  refine ⟨R.blocks[j],List.getElem_mem jz,?_⟩;by_cases he:R.blocks[j]=[]
  ·exact he
  ·exact absurd ((h.bit hh j hj).2 (by rw [dD,cN jz];exact he)) hb
theorem Wn {m:DS} {p k:Int} {s:cy} {R:RS} (hp:Pl m p k) (h:nH s R) (hd:uJ m p k R) (hu:m.down=false):b9 m p k s=dm R:=by
 unfold b9 dm;cases hh:s.has with
 | false=>rw [←h.has,hh];rfl
 | true =>
   rw [←h.has,hh,if_neg (show ¬(true=false) by decide),if_neg (show ¬(true=false) by decide)];by_cases ha:qu s
   ·rw [if_neg (not_not_intro ha),if_neg fun x=>(yq h hh).1 x ha,hu,if_neg (show ¬(false=true) by decide)];have dR:=h.mH
    have hf:R.blocks=(List.range R.blocks.length).map fun j=>((rq m p k).drop (16*j)).take 16:=by
     apply List.ext_getElem
     ·simp
     ·intro j h1 h2;rw [List.getElem_map,List.getElem_range,←Wi hp (by omega)];have hb:=(h.bit hh j (by rw [←h.len hh];exact h1)).1 (ha j (by rw [←h.len hh];exact h1));rw [hd j hb,dD,cN h1];rfl
    rw [hf,chunks,List.take_take,←h.st]
    have hle:s.st.size.toNat≤16*R.blocks.length:=by
     rw [h.len hh];have:=(iD (h.right hh)).2.1;unfold aQ;omega
    rw [Nat.min_eq_left hle]
   ·rw [if_pos ha,if_pos ((yq h hh).2 ha)]
theorem R3 {m m':DS} {i:Nat} {bs:List Int} (hs:m'.ar=m.ar) (hw:m'.waits=m.waits∨m'.waits=m.waits++[(i,bs)]) {j:Nat} (hj:j≠i):m'.now j=m.now j:=by
 unfold DS.now;rw [hs];rcases hw with hw|hw
 ·rw [hw]
 ·rw [hw,gC,List.length_singleton,vo (by simp) (by simpa using fun e=>hj e.symm),zR _ _ _ _ _ (Nat.le_refl _)]
theorem zA {m:DS} (hg:m.Good) {i:Int} {bs:List Int} (h0:0≤i) (h1:i < m.ar.length) (hb:bs.length=64) {j:Nat} (hj:j≠i.toNat):(wf m i bs).2.now j=m.now j:=by
 by_cases h:(wf m i bs).1=0
 ·rw [(qR hg h0 h1 hb h).2.2,if_neg hj]
 ·obtain ⟨_,_,h3,h4⟩:=vQ h0 h1 hb h;exact R3 h3 h4 hj
theorem Pl.wf {m:DS} {p k:Int} (h:Pl m p k) (i:Int) {bs:List Int} (hb:bn bs):Pl (aX.wf m i bs).2 p k :=
 ⟨h.bu.wf i bs,h.eQ.wf i hb,h.p0,h.p1,h.k0,h.k1,by rw [iC];exact h.room⟩
theorem oz {b data:List Int} (hb:b.length=64) (no:Nat) (hd:data.length=16):(splice b no data).length=64:=by
 unfold splice;simp [hb,hd];omega
theorem u9 {b data:List Int} (hb:bn b) (no:Nat) (hd:bn data):bn (splice b no data):=by
 intro z hz;unfold splice at hz;rcases List.mem_append.1 hz with hz|hz
 ·rcases List.mem_append.1 hz with hz|hz
  ·exact hb z (List.mem_of_mem_take hz)
  ·exact hd z hz
 ·exact hb z (List.mem_of_mem_drop hz)
theorem Q9 {b data:List Int} (hb:b.length=64) {no:Nat} (hd:data.length=16) {j:Nat} (hj:j < 4):((splice b no data).drop (j*16)).take 16=if j=no % 4 then data else (b.drop (j*16)).take 16:=by
 have hl:(b.take (no % 4*16)).length=no % 4*16:=by rw [fW];omega
 unfold splice;rw [List.append_assoc];by_cases h:j=no % 4
 ·rw [if_pos h,h,List.drop_append,hl,Nat.sub_self,List.drop_of_length_le (by omega),List.nil_append,List.drop_zero,List.take_append_of_le_length (by omega),List.take_of_length_le (by omega)]
 ·rw [if_neg h];rcases Nat.lt_or_gt_of_ne h with h|h
  ·rw [List.drop_append_of_le_length (by omega),List.take_append_of_le_length (by rw [List.length_drop];omega),List.drop_take,List.take_take,Nat.min_eq_left (by omega)]
  ·rw [List.drop_append,hl,List.drop_of_length_le (by omega),List.nil_append,List.drop_append,hd,List.drop_of_length_le (by omega),List.nil_append,List.drop_drop];rw [show no % 4*16+16+(j*16-no % 4*16-16)=j*16 by omega]
theorem tI {m m':DS} {p k:Int} {R:RS} (hp:Pl m p k) (h:uJ m p k R) (dR:R.blocks.length≤10) (hn:∀j,j≠(bz p k).toNat→m'.now j=m.now j):uJ m' p k R:=by
 intro j hj;have jz:=CV hj;rw [←h j hj];unfold B9;rw [hn _ (by have:=hp.p0;have:=hp.k0;unfold eg bz;omega)]
theorem LV {m m':DS} {p k:Int} {R:RS} (hp:Pl m p k) (h:uJ m p k R) (dR:R.blocks.length≤10) {no:Nat} {data:List Int} (hd:data.length=16) (jS:no < 10)
  (hn:∀j,m'.now j=if j=(eg p k ((no / 4:Nat):Int)).toNat then splice (m.now (eg p k ((no / 4:Nat):Int)).toNat) no data else m.now j) (hb:R.blocks.getD no []=[]):uJ m' p k R∧uJ m' p k ⟨R.has,R.st,R.blocks.set no data⟩:=by
 have p0:=hp.p0;have k0:=hp.k0;have hl:=hp.len (i:=((no / 4:Nat):Int)) (by omega) (by omega)
 have key:∀j,j < 10→B9 m' p k j=if j=no then data else B9 m p k j:=by
  intro j hj;unfold B9;rw [hn];by_cases hq:j / 4=no / 4
  ·rw [hq,if_pos rfl,Q9 hl hd (Nat.mod_lt _ (by omega))];by_cases hr:j=no
   ·rw [if_pos (by rw [hr]),if_pos hr]
   ·rw [if_neg (by omega),if_neg hr]
  ·rw [if_neg (by unfold eg;omega),if_neg (by intro e;exact hq (by rw [e]))]
 constructor
 ·intro j hj;have jz:=CV hj;rw [key j (by omega),if_neg (by rintro rfl;exact hj hb),h j hj]
 ·intro j hj;have jz:=CV hj;rw [List.length_set] at jz;rw [key j (by omega)];simp only at hj ⊢;rw [kW] at hj ⊢;by_cases e:j=no
  ·rw [if_pos e,if_pos ⟨e,by omega⟩]
  ·rw [if_neg e,if_neg fun x=>e x.1];rw [if_neg fun x=>e x.1] at hj;exact h j hj
theorem M8:(jb bt).2≠0:=by decide +kernel
theorem zP {m:DS} {p k:Int} {st:aR} (h:m.now (bz p k).toNat=st.bytes) (hr:st.right=true):eU m p k=⟨true,st⟩:=by
 unfold eU;rw [h,LL hr,if_pos rfl]
theorem ua {m:DS} {p k:Int} (h:m.now (bz p k).toNat=bt):eU m p k=cy.none:=by
 unfold eU;rw [h,if_neg M8]
theorem nM {m m':DS} {p k:Int} (h:m'.now (bz p k).toNat=m.now (bz p k).toNat):eU m' p k=eU m p k:=by
 unfold eU;rw [h]
theorem BF {st:aR} (h:st.right=true) {no:Nat} (jS:no < aQ st.size):(sw st no).right=true:=by
 obtain ⟨⟨h1,h2⟩,⟨h3,h4⟩,h5,h6⟩:=iD h;have hb:aQ st.size≤10:=by unfold aQ;omega
 have hh:st.bf≤2 ^ aQ st.size-1:=by
  simp [aR.right] at h;exact h.2.2
 unfold aR.right sw;simp only [Bool.and_eq_true,decide_eq_true_eq];refine ⟨⟨⟨h1,h2⟩,h3,h4⟩,?_⟩;unfold oa;split
 ·exact ⟨h5,hh⟩
 ·rename_i Ha
  have J2:dg st.bf no=false:=by simpa using Ha
  generalize aQ st.size=n at *;obtain ⟨x,hx⟩:=Int.eq_ofNat_of_zero_le h5;rw [hx] at J2 hh ⊢;rw [Wr] at J2
  have aH:x < 2 ^ n:=by
   have:((2 ^ n:Nat):Int)=(2:Int) ^ n:=by simp
   omega
  have h7:x+2 ^ no < 2 ^ n:=by
   have e:x ||| 2 ^ no=x+2 ^ no:=by
    rw [Fj,if_neg];rw [Nat.testBit_eq_decide_div_mod_eq] at J2;simpa using J2
   rw [←e];exact Nat.or_lt_two_pow aH (Nat.pow_lt_pow_right (by omega) jS)
  have h8:((x+2 ^ no:Nat):Int)=(x:Int)+2 ^ no:=by simp
  have h9:((2 ^ n:Nat):Int)=(2:Int) ^ n:=by simp
  constructor
  ·have:(0:Int)≤2 ^ no:=Int.le_of_lt (Int.pow_pos (by decide));omega
  ·omega
end aG
namespace aG
open bC aX record Go.Proofs.YtdldkkoplgkloaaGreat.bits
def tS (m m':DS):Prop:=m'.waits=[]∧(m'.ar=m.ar∨∃i bs,m.waits=[(i,bs)]∧m'.ar=m.ar.set i bs)
theorem BD {m:DS} (h:m.waits.length≤1) (keep:Int):tS m (m.bZ keep):=by
 refine ⟨rfl,?_⟩
 match hw:m.waits with
 | [] =>
   rcases xy (m:=m) (i:=0) (bs:=[]) (.inl hw) keep with e|⟨e,_⟩
   ·exact .inl e
   ·rw [hw] at e;exact absurd e (by simp)
 | [(i,bs)] =>
   rcases xy (m:=m) (i:=i) (bs:=bs) (.inr hw) keep with e|⟨_,e⟩
   ·exact .inl e
   ·exact .inr ⟨i,bs,rfl,e⟩
 | _::_::_=>rw [hw] at h;simp at h
theorem vF {m m':DS} (hw:m.waits=[]) (ho:tS m m') (j:Nat):m'.now j=m.now j:=by
 obtain ⟨h1,h2⟩:=ho;rw [DS.kN h1,DS.kN hw];rcases h2 with h2|⟨i,bs,h2,_⟩
 ·rw [h2]
 ·rw [hw] at h2;exact absurd h2 (by simp)
theorem tG {m:DS} (hw:m.waits=[]) {i:Int} {bs:List Int} (h0:0≤i) (h1:i < m.ar.length) (hb:bs.length=64) (h:(wf m i bs).1≠0) {m':DS} (ho:tS (wf m i bs).2 m') :
  (∀j,m'.now j=m.now j)∨(∀j,m'.now j=if j=i.toNat then bs else m.now j):=by
 obtain ⟨_,_,h3,h4⟩:=vQ h0 h1 hb h;obtain ⟨o1,o2⟩:=ho;rw [hw,List.nil_append] at h4
 have key:m'.ar=m.ar∨m'.ar=m.ar.set i.toNat bs:=by
  rcases o2 with o2|⟨i',bs',o2,o3⟩
  ·exact .inl (o2.trans h3)
  ·rcases h4 with h4|h4
   ·rw [h4] at o2;exact absurd o2 (by simp)
   ·rw [h4] at o2;injection o2 with o2 _
    injection o2 with o4 o5
    rw [←o4,←o5,h3] at o3;exact .inr o3
 rcases key with e|e
 ·exact .inl fun j=>by rw [DS.kN o1,DS.kN hw,e]
 ·refine .inr fun j=>?_;rw [DS.kN o1,DS.kN hw,e,kW];by_cases hj:j=i.toNat
  ·rw [if_pos ⟨hj,by omega⟩,if_pos hj]
  ·rw [if_neg fun x=>hj x.1,if_neg hj]
structure SI (m:DS) (p k:Int) (s:cy) (R:RS) (jZ:Option RS):Prop where
 pl:Pl m p k
 mem:nH s R
 pR:m.waits.length≤1
 up:m.down=false→jZ=Option.none∧m.waits=[]∧uJ m p k R∧eU m p k=s
 dn:m.down=true→∃R',jZ=some R'∧(R'.has=R.has→R'.st=R.st→R'=R)∧
  ∀m',tS m m'→Pl m' p k→(uJ m' p k R∧eU m' p k=s)∨(∃s',nH s' R'∧uJ m' p k R'∧eU m' p k=s')
inductive Stepped (m:DS) (p k:Int) (s:cy) (R:RS) (jZ:Option RS) (x:Int×DS×cy) (y:Int×RS):Prop
 | same (h1:x.1=y.1) (h2:x.1≠8) (h3:SI x.2.1 p k x.2.2 y.2 jZ)
 | down (h1:x.1=8) (h2:y.1=0) (h3:x.2.2=s) (h4:SI x.2.1 p k s R (jZ.or (some y.2)))
section
variable {m : DS} {p k : Int} {s : cy} {R : RS} {jZ : Option RS}
theorem vX {a:RS} {x:Option RS} (h:x=some a) (y:RS):x.or (some y)=x:=by rw [h];rfl
theorem SI.begin (h:SI m p k s R jZ) (se sz:Int):Stepped m p k s R jZ (eL m p k s se sz) (fk R se sz):=by
 unfold eL fk;by_cases hr:(aR.mk se sz 0).right=true
 ·rw [if_pos hr,if_pos hr];obtain ⟨a0,a1⟩:=h.pl.own;have hl:=aR.bY ⟨se,sz,0⟩
  have Ll:nH ⟨true,⟨se,sz,0⟩⟩ ⟨true,⟨se,sz,0⟩,List.replicate (aQ sz) []⟩:=by
   refine ⟨rfl,rfl,fun h=>absurd (show true=false from h) (by decide),fun _=>hr,fun _=>by simp,fun _ j hj=>?_,fun b hb=>.inl (List.mem_replicate.1 hb).2⟩;simp [Jm,dD,List.getElem?_replicate];split<;>rfl
  have aaI:∀m',uJ m' p k ⟨true,⟨se,sz,0⟩,List.replicate (aQ sz) []⟩:=by
   intro m' j hj;refine absurd ?_ hj;simp [dD,List.getElem?_replicate];split<;>rfl
  cases hd:m.down with
  | true =>
    rw [yB a0 a1 hl hd,if_neg (show ¬((8:Int)=0) by decide)];obtain ⟨R',e,_⟩:=h.dn hd;exact .down rfl rfl rfl (by rw [vX e];exact h)
  | false =>
    obtain ⟨u1,u2,u3,u4⟩:=h.up hd;have iQ:=h.pl.wf (bz p k) (aR.pT ⟨se,sz,0⟩);by_cases hw:(wf m (bz p k) (aR.mk se sz 0).bytes).1=0
    ·rw [if_pos hw];obtain ⟨w1,w2,w3⟩:=qR h.pl.bu a0 a1 hl hw;refine .same rfl (show (0:Int)≠8 by decide) ⟨iQ,Ll,by rw [w1];simp,fun _=>⟨u1,w1,aaI _,?_⟩,fun h'=>absurd (w2.symm.trans h') (by decide)⟩;exact zP (by rw [w3,if_pos rfl]) hr
    ·rw [if_neg hw];obtain ⟨e1,e2,e3,e4⟩:=vQ a0 a1 hl hw;refine .down e1 rfl rfl ?_;rw [u1];refine ⟨iQ,h.mem,?_,fun h'=>absurd (e2.symm.trans h') (by decide),fun _=>⟨_,rfl,?_,fun m' ho uh=>?_⟩⟩
     ·rw [u2] at e4;rcases e4 with e|e<;>rw [e]<;>simp
     ·intro h1 h2;have hs:s.has=true:=by rw [h.mem.has,←h1]
      have ak:s.st=⟨se,sz,0⟩:=by rw [h.mem.st,←h2]
      obtain ⟨rh,rst,rb⟩:=R;simp only at h1 h2;subst h1;subst h2;show RS.mk true ⟨se,sz,0⟩ (List.replicate (aQ sz) [])=RS.mk true ⟨se,sz,0⟩ rb
      congr 1
      have hlen:=h.mem.len hs;rw [ak] at hlen;simp only at hlen;apply List.ext_getElem
      ·simp [hlen]
      ·intro j j1 j2;rw [List.getElem_replicate];have hb:=h.mem.bit hs j (by rw [ak];simp only;omega);rw [ak] at hb;simp only [Jm,dD,cN j2,Option.getD_some] at hb;by_cases he:rb[j]=[]
       ·exact he.symm
       ·exact absurd (hb.2 he) (by decide)
     ·rcases tG u2 a0 a1 hl hw ho with hn|hn
      ·exact .inl ⟨tI h.pl u3 h.mem.mH fun j _=>hn j,(nM (hn _)).trans u4⟩
      ·exact .inr ⟨_,Ll,aaI _,zP (by rw [hn,if_pos rfl]) hr⟩
 ·rw [if_neg hr,if_neg hr];exact .same rfl (by show (3:Int)≠8;decide) h
theorem SI.clear (h:SI m p k s R jZ):Stepped m p k s R jZ (gy m p k s) (0,RS.none):=by
 unfold gy;obtain ⟨a0,a1⟩:=h.pl.own;have hl:bt.length=64:=rfl;cases hd:m.down with
 | true =>
   rw [yB a0 a1 hl hd,if_neg (show ¬((8:Int)=0) by decide)];obtain ⟨R',e,_⟩:=h.dn hd;exact .down rfl rfl rfl (by rw [vX e];exact h)
 | false =>
   obtain ⟨u1,u2,u3,u4⟩:=h.up hd;have iQ:=h.pl.wf (bz p k) EM;by_cases hw:(wf m (bz p k) bt).1=0
   ·rw [if_pos hw];obtain ⟨w1,w2,w3⟩:=qR h.pl.bu a0 a1 hl hw;exact .same rfl (show (0:Int)≠8 by decide) ⟨iQ,Er,by rw [w1];simp,fun _=>⟨u1,w1,Es _ _ _,ua (by rw [w3,if_pos rfl])⟩,fun h'=>absurd (w2.symm.trans h') (by decide)⟩
   ·rw [if_neg hw];obtain ⟨e1,e2,e3,e4⟩:=vQ a0 a1 hl hw;refine .down e1 rfl rfl ?_;rw [u1];refine ⟨iQ,h.mem,?_,fun h'=>absurd (e2.symm.trans h') (by decide),fun _=>⟨_,rfl,?_,fun m' ho uh=>?_⟩⟩
    ·rw [u2] at e4;rcases e4 with e|e<;>rw [e]<;>simp
    ·intro h1 h2;exact (h.mem.none (by rw [h.mem.has,←h1];rfl)).symm
    ·rcases tG u2 a0 a1 hl hw ho with hn|hn
     ·exact .inl ⟨tI h.pl u3 h.mem.mH fun j _=>hn j,(nM (hn _)).trans u4⟩
     ·exact .inr ⟨_,Er,Es _ _ _,ua (by rw [hn,if_pos rfl])⟩
theorem nH.WR (h:nH s R) (se no:Int) (n:Nat):gN s se no n=ju R se no n:=by
 unfold gN ju;cases hh:s.has with
 | false=>rw [←h.has,hh];rfl
 | true=>rw [←h.has,hh,h.len hh,←h.st]
theorem pC {se no:Int} {n:Nat} (h:gN s se no n=0):s.has=true∧se=s.st.aC∧0≤no∧no < aQ s.st.size∧n=16:=by
 unfold gN at h;split at h
 ·exact absurd h (by decide)
 ·split at h
  ·exact absurd h (by decide)
  ·split at h
   ·exact absurd h (by decide)
   ·split at h
    ·exact absurd h (by decide)
    ·rename_i h1 h2 h3 h4
     refine ⟨by simpa using h1,by simpa using h2,by omega,by omega,by omega⟩
theorem Xy (s:cy) (se no:Int) (n:Nat):gN s se no n≠8:=by
 unfold gN;split
 ·decide
 ·split
  ·decide
  ·split
   ·decide
   ·split<;>decide
theorem nH.more (h:nH s R) (hh:s.has=true) {no:Nat} (jS:no < aQ s.st.size) (hb:dg s.st.bf no=false) {data:List Int} (hd:data.length=16) :
  nH ⟨true,sw s.st no⟩ ⟨R.has,⟨R.st.aC,R.st.size,R.st.bf+2 ^ no⟩,R.blocks.set no data⟩:=by
 have hl:=h.len hh;refine ⟨by rw [←h.has,hh],?_,fun h=>absurd (show true=false from h) (by decide),fun _=>BF (h.right hh) jS,fun _=>by rw [List.length_set,hl];rfl,fun _ j hj=>?_,fun b nB=>?_⟩
 ·rw [←h.st];unfold sw oa;rw [hb];rfl
 ·have SB:j < aQ s.st.size:=hj;show dg (oa s.st.bf no) j=true ↔ (R.blocks.set no data).getD j []≠[]
  rw [Qx,kW];by_cases e:j=no
  ·rw [if_pos ⟨e,by omega⟩];subst e;simp;rintro rfl;simp at hd
  ·rw [if_neg fun x=>e x.1,←h.bit hh j SB];simp [e]
 ·rcases List.mem_or_eq_of_mem_set nB with nB|nB
  ·exact h.b16 b nB
  ·exact .inr (by rw [nB];exact hd)
theorem SI.put (h:SI m p k s R jZ) (se no:Int) {data:List Int} (AT:bn data):Stepped m p k s R jZ (gU m p k s se no data) (ja R se no data):=by
 unfold gU ja;rw [←h.mem.WR];by_cases hw:gN s se no data.length=0
 ·rw [if_neg (not_not_intro hw),if_neg (not_not_intro hw)];obtain ⟨hh,w1,w2,w3,w4⟩:=pC hw;obtain ⟨n,rfl⟩:=Int.eq_ofNat_of_zero_le w2;have hn:n < aQ s.st.size:=by omega
  have Ha:=h.mem.bit hh n hn;rw [dC];cases hb:dg s.st.bf n with
  | true =>
    rw [if_pos rfl,if_pos (Ha.1 hb)];exact .same rfl (by show (0:Int)≠8;decide) h
  | false =>
    have lH:R.blocks.getD n []=[]:=by
     by_cases e:R.blocks.getD n []=[]
     ·exact e
     ·rw [Ha.2 e] at hb;exact absurd hb (by decide)
    rw [if_neg (by decide),if_neg (not_not_intro lH)];cases hd:m.down with
    | true =>
      rw [if_pos rfl];obtain ⟨R',e,_⟩:=h.dn hd;exact .down rfl rfl rfl (by rw [vX e];exact h)
    | false =>
      rw [if_neg (by decide)];obtain ⟨u1,u2,u3,u4⟩:=h.up hd
      have EB:n < 10:=by
       have:=(iD (h.mem.right hh)).2.1;unfold aQ at hn;omega
      have hq:((n:Int) / 4)=((n / 4:Nat):Int):=by omega
      rw [hq];obtain ⟨d0,d1⟩:=h.pl.at_ (i:=((n / 4:Nat):Int)) (by omega) (by omega);obtain ⟨a0,a1⟩:=h.pl.own;have dk:=oz (h.pl.len (i:=((n / 4:Nat):Int)) (by omega) (by omega)) n w4;have rM:=u9 (h.pl.eQ.now (eg p k ((n / 4:Nat):Int)).toNat) n AT;have cm:=aR.bY (sw s.st n);have Ll:=h.mem.more hh hn hb w4;have xH:=BF (h.mem.right hh) hn
      have Xh:∀R':RS,R'=⟨R.has,⟨R.st.aC,R.st.size,R.st.bf+2 ^ n⟩,R.blocks.set n data⟩→R'.has=R.has→R'.st=R.st→R'=R:=by
       rintro R' rfl _ h2;have h3:R.st.bf+2 ^ n=R.st.bf:=congrArg aR.bf h2;have:(0:Int) < 2 ^ n:=Int.pow_pos (by decide);omega
      have oU:=h.pl.wf (eg p k ((n / 4:Nat):Int)) rM;have aar:=oU.wf (bz p k) (aR.pT (sw s.st n));unfold vR;by_cases e1:(wf m (eg p k ((n / 4:Nat):Int)) (splice (m.now (eg p k ((n / 4:Nat):Int)).toNat) n data)).1=0
      ·rw [if_pos e1];obtain ⟨x1,x2,x3⟩:=qR h.pl.bu d0 d1 dk e1;obtain ⟨y1,y2⟩:=LV h.pl u3 h.mem.mH w4 EB x3 lH
       have ft:(wf m (eg p k ((n / 4:Nat):Int)) (splice (m.now (eg p k ((n / 4:Nat):Int)).toNat) n data)).2.now (bz p k).toNat=m.now (bz p k).toNat:=by
        rw [x3,if_neg (by have:=h.pl.p0;have:=h.pl.k0;unfold eg bz;omega)]
       generalize (wf m (eg p k ((n / 4:Nat):Int)) (splice (m.now (eg p k ((n / 4:Nat):Int)).toNat) n data)).2=m1 at *;obtain ⟨a0',a1'⟩:=oU.own;have aaQ:(R.blocks.set n data).length≤10:=by rw [List.length_set];exact h.mem.mH
       by_cases e2:(wf m1 (bz p k) (sw s.st n).bytes).1=0
       ·rw [if_pos e2];obtain ⟨z1,z2,z3⟩:=qR oU.bu a0' a1' cm e2;refine .same rfl (by show (0:Int)≠8;decide) ⟨aar,Ll,by rw [z1];simp,fun _=>⟨u1,z1,?_,zP (by rw [z3,if_pos rfl]) xH⟩,fun h'=>absurd (z2.symm.trans h') (by decide)⟩;exact tI oU y2 aaQ fun j hj=>by rw [z3,if_neg hj]
       ·rw [if_neg e2];obtain ⟨f1,f2,f3,f4⟩:=vQ a0' a1' cm e2;refine .down f1 rfl rfl ?_;rw [u1];refine ⟨aar,h.mem,?_,fun h'=>absurd (f2.symm.trans h') (by decide),fun _=>⟨_,rfl,Xh _ rfl,fun m' ho uh=>?_⟩⟩
        ·rw [x1] at f4;rcases f4 with e|e<;>rw [e]<;>simp
        ·rcases tG x1 a0' a1' cm e2 ho with wM|wM
         ·exact .inl ⟨tI oU y1 h.mem.mH fun j _=>wM j,(nM ((wM _).trans ft)).trans u4⟩
         ·exact .inr ⟨_,Ll,tI oU y2 aaQ fun j hj=>by rw [wM,if_neg hj],zP (by rw [wM,if_pos rfl]) xH⟩
      ·rw [if_neg e1,if_neg e1];obtain ⟨f1,f2,f3,f4⟩:=vQ d0 d1 dk e1;refine .down f1 rfl rfl ?_;rw [u1];refine ⟨oU,h.mem,?_,fun h'=>absurd (f2.symm.trans h') (by decide),fun _=>⟨_,rfl,Xh _ rfl,fun m' ho uh=>.inl ?_⟩⟩
       ·rw [u2] at f4;rcases f4 with e|e<;>rw [e]<;>simp
       ·have rN:(bz p k).toNat≠(eg p k ((n / 4:Nat):Int)).toNat:=by have:=h.pl.p0;have:=h.pl.k0;unfold eg bz;omega
        rcases tG u2 d0 d1 dk e1 ho with wM|wM
        ·exact ⟨tI h.pl u3 h.mem.mH fun j _=>wM j,(nM (wM _)).trans u4⟩
        ·exact ⟨(LV h.pl u3 h.mem.mH w4 EB wM lH).1,(nM (by rw [wM,if_neg rN])).trans u4⟩
 ·rw [if_pos hw,if_pos hw];exact .same rfl (Xy _ _ _ _) h
theorem SI.jH (h:SI m p k s R Option.none) (n:Int) (hn:n≤9223372036854775807):SI (m.eV n) p k s R Option.none:=by
 cases hd:m.down with
 | true =>
   obtain ⟨R',e,_⟩:=h.dn hd;exact absurd e (by simp)
 | false =>
   obtain ⟨u1,u2,u3,u4⟩:=h.up hd;have e:m.eV n={ m with jH:=max n (-1) }:=by unfold DS.eV;rw [hd];rfl
   have hg:=DS.wh h.pl.bu hn;have hb:=h.pl.eQ.eV n;rw [e] at hg hb ⊢;exact ⟨⟨hg,hb,h.pl.p0,h.pl.p1,h.pl.k0,h.pl.k1,h.pl.room⟩,h.mem,h.pR,fun _=>⟨rfl,u2,u3,u4⟩,fun h'=>absurd (hd.symm.trans h') (by decide)⟩
theorem SI.bZ (h:SI m p k s R jZ) (keep:Int):∃s',eU (m.bZ keep) p k=s'∧
  ((SI (m.bZ keep) p k s' R Option.none∧∀R',jZ=some R'→s'.has=R'.has→s'.st=R'.st→R'=R)∨∃R',jZ=some R'∧SI (m.bZ keep) p k s' R' Option.none):=by
 have ho:=BD h.pR keep;have iQ:Pl (m.bZ keep) p k:=⟨DS.sr h.pl.bu keep,h.pl.eQ.bZ keep,h.pl.p0,h.pl.p1,h.pl.k0,h.pl.k1,by rw [DS.qm];exact h.pl.room⟩
 have mk:∀(s':cy) (R':RS),nH s' R'→uJ (m.bZ keep) p k R'→eU (m.bZ keep) p k=s'→SI (m.bZ keep) p k s' R' Option.none :=
  fun s' R' h1 h2 h3=>⟨iQ,h1,by rw [DS.oR];simp,fun _=>⟨rfl,rfl,h2,h3⟩,fun h'=>absurd (show false=true from h') (by decide)⟩
 cases hd:m.down with
 | false =>
   obtain ⟨u1,u2,u3,u4⟩:=h.up hd;have hn:=vF u2 ho;have h3:eU (m.bZ keep) p k=s:=(nM (hn _)).trans u4;refine ⟨s,h3,.inl ⟨mk s R h.mem (tI h.pl u3 h.mem.mH fun j _=>hn j) h3,fun R' e=>?_⟩⟩;rw [u1] at e;exact absurd e (by simp)
 | true =>
   obtain ⟨R',e,abK,cH⟩:=h.dn hd;rcases cH _ ho iQ with ⟨h1,h2⟩|⟨s',h1,h2,h3⟩
   ·refine ⟨s,h2,.inl ⟨mk s R h.mem h1 h2,fun R2 e2 g1 g2=>?_⟩⟩;rw [e] at e2;injection e2 with e2
    subst e2;exact abK (g1.symm.trans h.mem.has) (g2.symm.trans h.mem.st)
   ·exact ⟨s',h3,.inr ⟨R',e,mk s' R' h1 h2 h3⟩⟩
end
theorem Wu {m:DS} {p k:Int} (h:Pl m p k) (hu:m.Up) (s:cy) (se sz:Int):(eL m p k s se sz).2.1.Up:=by
 unfold eL;split
 ·have:=(zz h.own.1 h.own.2 (aR.bY ⟨se,sz,0⟩) hu).2;split<;>exact this
 ·exact hu
theorem Wj {m:DS} {p k:Int} (h:Pl m p k) (hu:m.Up) (s:cy):(gy m p k s).2.1.Up:=by
 unfold gy;have:=(zz h.own.1 h.own.2 (show bt.length=64 from rfl) hu).2;split<;>exact this
theorem ZH {m:DS} {p k:Int} (h:Pl m p k) (hu:m.Up) {s:cy} (hs:s.has=true→s.st.right=true) (se no:Int) {data:List Int} (AT:bn data):(gU m p k s se no data).2.1.Up:=by
 unfold gU;by_cases hw:gN s se no data.length=0
 ·rw [if_neg (not_not_intro hw)];obtain ⟨hh,w1,w2,w3,w4⟩:=pC hw;obtain ⟨n,rfl⟩:=Int.eq_ofNat_of_zero_le w2;rw [dC];split
  ·exact hu
  ·rw [hu.1,if_neg (by decide)]
   have EB:n < 10:=by
    have:=(iD (hs hh)).2.1;unfold aQ at w3;omega
   have hq:((n:Int) / 4)=((n / 4:Nat):Int):=by omega
   rw [hq];obtain ⟨d0,d1⟩:=h.at_ (i:=((n / 4:Nat):Int)) (by omega) (by omega);have dk:=oz (h.len (i:=((n / 4:Nat):Int)) (by omega) (by omega)) n w4;have rM:=u9 (h.eQ.now (eg p k ((n / 4:Nat):Int)).toNat) n AT;obtain ⟨x1,x2⟩:=zz d0 d1 dk hu;have oU:=h.wf (eg p k ((n / 4:Nat):Int)) rM;have y2:=(zz oU.own.1 oU.own.2 (aR.bY (sw s.st n)) x2).2
   have key:(vR m (eg p k ((n / 4:Nat):Int)) (splice (m.now (eg p k ((n / 4:Nat):Int)).toNat) n data) (bz p k) (sw s.st n).bytes).2.Up:=by
    unfold vR;split
    ·exact y2
    ·exact x2
   split<;>exact key
 ·rw [if_pos hw];exact hu
theorem Stepped.up {m:DS} {p k:Int} {s:cy} {R:RS} {x:Int×DS×cy} {y:Int×RS} (h:Stepped m p k s R Option.none x y) (hu:x.2.1.Up):x.1=y.1∧SI x.2.1 p k x.2.2 y.2 Option.none:=by
 cases h with
 | same h1 h2 h3=>exact ⟨h1,h3⟩
 | down h1 h2 h3 h4 =>
   have:=(h4.up hu.1).1;exact absurd this (by simp)
end aG
namespace same
open Go.RowKit base
theorem Kk {xs ys:List Int} {k:Nat} (hx:k < xs.length) (hy:k < ys.length) (h:xs.take k=ys.take k) (e:xs[k]=ys[k]):xs.take (k+1)=ys.take (k+1):=by
 rw [kr hx,kr hy,h,e]
theorem zH (xs ys:List Int) (A A':Option Addr) (n m c c':Nat) (w:World) (hn:n=xs.length) (hm:m=ys.length) (ID:n≤1000000) (xN:m≤1000000)
  (hs:Sl w w.heap.size 1 A n (xs.map (Value.int .u8))) (ht:Sl w w.heap.size 1 A' m (ys.map (Value.int .u8))) :
  Calls Tryz.prog 114 #[.slice A n c,.slice A' m c'] w fun e w'=>e=.returned (.bool (decide (xs=ys)))∧Below w.heap.size w w':=by
 by_cases hl:n=m
 ·subst hl;have HN:=af hn;have HM:=af hm;have HS:=af hs;have HT:=af ht;clear hn hm hs ht;go_enter Tryz.func114,Tryz.ntmps114;go_wp2_with fail;go_loopw [5] (fun i wr=>∃k:Nat,k≤n∧i=ae aa k∧xs.take k=ys.take k∧Below w.heap.size w wr) (fun i _=>n-(intOf i).toNat)
  case atStart=>exact ⟨0,by omega,rfl,by simp,Below.refl _ _⟩
  case round =>
   obtain ⟨k,hk,rfl,heq,hb⟩:=hrel;have HE:=af heq;have HB:=af hb;clear heq hb;by_cases aH:k < n
   ·have hx:k < xs.length:=by rw [←HN.o];exact aH
    have hy:k < ys.length:=by rw [←HM.o];exact aH
    obtain ⟨b,off,rfl,cm,hc⟩:=HS.o.2 (by omega);obtain ⟨b',Eo,rfl,EF,cZ⟩:=HT.o.2 (by omega);have c1:wr.cell? ⟨b,off+k,none⟩=some (.int .u8 xs[k]):=(HB.o.cell (p:=⟨b,off+k,none⟩) cm).trans (hc k _ (by simp [hx]));have c2:wr.cell? ⟨b',Eo+k,none⟩=some (.int .u8 ys[k]):=(HB.o.cell (p:=⟨b',Eo+k,none⟩) EF).trans (cZ k _ (by simp [hy]));have HX:=af hx;have HY:=af hy;have i0:(0:Int)≤(k:Int):=by omega
    have i1:(k:Int) < (n:Int):=by omega
    clear hc cZ;generalize hex:xs[k]=x at *;generalize hey:ys[k]=y at *;have HEX:=af hex;have HEY:=af hey;clear hex hey;by_cases NM:x=y
    ·have b1:(x != y)=false:=by simp [NM]
     have HXY:=af NM;clear NM;go_wp2_with fail;go_quiet (fail);go_wp2_with fail;go_roundw;case rel=>exact ⟨k+1,by omega,by go_num,Kk HX.o HY.o HE.o (HEX.o.trans (HXY.o.trans HEY.o.symm)),below_drewN HB.o _⟩
     case measure=>simp [intOf];omega
    ·have b1:(x != y)=true:=by simp [NM]
     have hf:decide (xs=ys)=false:=by
      simp only [decide_eq_false_iff_not];intro h;subst h;exact NM (HEX.o.symm.trans HEY.o)
     have HF:=af hf;clear NM hf;go_wp2_with fail;go_quiet (fail);go_wp2_with fail;go_ret;exact ⟨aA HF.o.symm,below_drewN HB.o _⟩
   ·have hf:decide (xs=ys)=true:=by
     have:=HE.o;rw [List.take_of_length_le (by rw [←HN.o];omega),List.take_of_length_le (by rw [←HM.o];omega)] at this;simpa using this
    have HF:=af hf;clear hf;go_wp2_with fail;go_ret;exact ⟨aA HF.o.symm,HB.o⟩
 ·have hf:decide (xs=ys)=false:=by
   simp only [decide_eq_false_iff_not];intro h;subst h;omega
  have HF:=af hf;have b1:((n:Int) != (m:Int))=true:=by simp;omega
  clear hf hn hm hs ht;go_enter Tryz.func114,Tryz.ntmps114;go_wp2_with fail;go_ret;exact ⟨aA HF.o.symm,Below.refl _ _⟩
end same
namespace lift
open Go.RowKit Go.ChangeShapes Go.WideShapes Go.Deep base
section
variable {fuel:Nat} {e t:TypeId} {v:Value} {W:World}
section
variable {H : Type} {enc : TypeId × Value → H} {P : Program}
theorem B7 {s:TypeId} {x:DataW H×List MemPlace} (ht:P.underlying t=some (.slice e)) (hc:P.cellsOf e=s) (hs:0 < s)
  (hf:DataW.trod enc P W 0 (fun _=>true) true fuel t [v]=some x) :
  ∃(A:Option Addr) (n c:Nat) (q:Nat→List Value),v=.slice A n c∧n≤c∧n≤maxLen∧Sl W W.heap.size s A n ((List.range n).flatMap q)∧
   ∀i,i < n→(q i).length=s∧∃m x,DataW.trod enc P W 0 (fun _=>true) true m e (q i)=some x:=by
 rcases open_slice ht hf with ⟨cY,_⟩|⟨a,len,cap,m,k,D,Pl,cY,_,hl,hm,AH,_,hx⟩
 ·simp at cY;subst cY;exact ⟨none,0,0,fun _=>[],rfl,Nat.le_refl _,by simp [maxLen],⟨by simp,fun h=>absurd h (by omega)⟩,fun i hi=>absurd hi (by omega)⟩
 ·simp at cY;subst cY;simp only [if_true] at AH;subst AH;rw [hc] at hx;obtain ⟨q,hq⟩:=choose_lt hx
  have hlen:∀i,i < len→(q i).length=s∧∀j,j < s→W.cell? (a.add (i*s+j))=(q i)[j]?:=by
   intro i hi;obtain ⟨_,h1,h2⟩:=World.cells?_some (hq i (by omega)).1;exact ⟨h1,fun j hj=>by rw [←h2 j hj,Mi]⟩
  obtain ⟨f1,f2⟩:=tF q s hs len (fun i hi=>(hlen i hi).1);have DB:len≤maxLen:=Nat.le_trans hl hm;have bQ:∀i,i < len→(q i).length=s∧∃m x,DataW.trod enc P W 0 (fun _=>true) true m e (q i)=some x:=fun i hi=>⟨(hlen i hi).1,k,_,(hq i (Nat.lt_of_lt_of_le hi hl)).2⟩
  refine ⟨some a,len,_,q,rfl,hl,DB,⟨f1,fun hn=>?_⟩,bQ⟩;have cell0:=(hlen 0 (by omega)).2 0 hs;have S7:=(hlen 0 (by omega)).1;obtain ⟨b,off,spot⟩:=a;have FC:W.cell? ((⟨b,off,spot⟩:Addr).add (0*s+0))=some ((q 0)[0]'(by rw [S7];exact hs)):=by rw [cell0];exact cN (by rw [S7];exact hs)
  have PJ:spot=none:=by simpa [Addr.add] using World.cell?_spot FC
  subst PJ;have Ad:∀k,(⟨b,off,none⟩:Addr).add k=⟨b,off+k,none⟩:=fun k=>by unfold Addr.add;split<;>simp_all
  refine ⟨b,off,rfl,?_,fun k u hu=>?_⟩
  ·have:=World.block_lt_of_cell? W _ FC;rw [Ad] at this;exact this
  ·have hk:k < len*s:=by
    have:=(List.getElem?_eq_some_iff.1 hu).1;omega
   have hi:k / s < len:=Nat.div_lt_of_lt_mul (by rw [Nat.mul_comm];exact hk);have hj:k % s < s:=Nat.mod_lt _ hs;have dy:k / s*s+k % s=k:=by rw [Nat.mul_comm];exact Nat.div_add_mod k s
   have g:=f2 (k / s) (k % s) hi hj;rw [dy] at g;have c:=(hlen (k / s) hi).2 (k % s) hj;rw [dy,Ad] at c;rw [c,←g];exact hu
theorem Qh {k:IntKind} {x:DataW H×List MemPlace} (ht:P.underlying t=some (.slice e)) (he:P.underlying e=some (.int k)) (hc:P.cellsOf e=1)
  (h:DataW.trod enc P W 0 (fun _=>true) true fuel t [v]=some x) :
  ∃(A:Option Addr) (c:Nat) (zs:List Int),v=.slice A zs.length c∧zs.length≤c∧zs.length≤maxLen∧Sl W W.heap.size 1 A zs.length (zs.map (.int k))∧∀z∈zs,(Lit.int k z).wf=true:=by
 obtain ⟨A,n,c,q,rfl,xL,hn,hs,hq⟩:=B7 ht hc (by decide) h
 have each:∀i,i < n→∃z:Int,q i=[.int k z]∧(Lit.int k z).wf=true:=by
  intro i hi;obtain ⟨_,m,x,hx⟩:=hq i hi;obtain ⟨z,h1,_,h3⟩:=DataW.trod_int he hx;exact ⟨z,h1,h3⟩
 obtain ⟨z,hz⟩:=choose_lt each
 have e1:∀m,m≤n→(List.range m).flatMap q=((List.range m).map z).map (Value.int k):=by
  intro m
  induction m with
  | zero=>intro _;simp
  | succ m ih =>
    intro hm;rw [List.range_succ,List.flatMap_append,List.map_append,List.map_append,ih (by omega)];simp [(hz m (by omega)).1]
 rw [e1 n (Nat.le_refl _)] at hs;have hl:((List.range n).map z).length=n:=by simp
 refine ⟨A,c,(List.range n).map z,by rw [hl],by rw [hl];exact xL,by rw [hl];exact hn,by rw [hl];exact hs,fun y hy=>?_⟩;obtain ⟨i,hi,rfl⟩:=List.mem_map.1 hy;exact (hz i (List.mem_range.1 hi)).2
end
end
end lift
namespace record
open Go.RowKit Go.ChangeShapes Go.WideShapes Go.ChangeAt Go.Deep Go.Joins base obj mem
section
variable {g:Nat} {t:TypeId} {w:World}
def pZ (n:Int):Prop:=-9223372036854775808≤n∧n≤9223372036854775807
theorem Sg {s:Int} (h:(Lit.int .i64 s).wf=true):pZ s:=by
 have h1:IntKind.i64.min=-9223372036854775808:=rfl;have h2:IntKind.i64.max=9223372036854775807:=rfl;simp only [Lit.wf,Bool.and_eq_true,decide_eq_true_eq] at h;unfold pZ;omega
structure Rec.In (r:Rec):Prop where
 part:pZ r.part
 seq:pZ r.seq
 au:pZ r.au
 aj:pZ r.aj
 left:pZ r.left
 bad:pZ r.bad
structure aR.In (s:aR):Prop where
 aC:pZ s.aC
 size:pZ s.size
 bf:pZ s.bf
theorem Rec.read {r:Rec} (h:Row w g t r.cells.toList):w.cell? ⟨g,0,none⟩=some (ae aa r.part)∧w.cell? ⟨g,1,none⟩=some (ae aa r.seq)∧w.cell? ⟨g,2,none⟩=some (ae aa r.au)∧
  w.cell? ⟨g,3,none⟩=some (ae aa r.aj)∧w.cell? ⟨g,4,none⟩=some (ae aa r.left)∧w.cell? ⟨g,5,none⟩=some (ae aa r.bad):=⟨h.cell 0,h.cell 1,h.cell 2,h.cell 3,h.cell 4,h.cell 5⟩
theorem Rec.ng (r:Rec):r.val=.agg #[ae aa r.part,ae aa r.seq,ae aa r.au,ae aa r.aj,ae aa r.left,ae aa r.bad]:=rfl
theorem aR.read {s:aR} (h:Row w g t s.cells.toList):w.cell? ⟨g,0,none⟩=some (ae aa s.aC)∧w.cell? ⟨g,1,none⟩=some (ae aa s.size)∧w.cell? ⟨g,2,none⟩=some (ae aa s.bf):=⟨h.cell 0,h.cell 1,h.cell 2⟩
theorem aR.ng (s:aR):s.val=.agg #[ae aa s.aC,ae aa s.size,ae aa s.bf]:=rfl
end
end record
end Go.Proofs.YtdldkkoplgkloaaGreat
