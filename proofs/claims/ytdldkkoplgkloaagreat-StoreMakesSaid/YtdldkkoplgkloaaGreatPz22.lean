/-
  PROVED HERE: lemmas and contracts that the law's proof leans on (texts put together: StageMath, Same, LiftField, ArgRec).
  CONDITIONS: each names its own.
-/
import Derived.BigQuiet
import Derived.Deep.QuietTactic
import Derived.Deep.RegionHeld3
import Derived.Test.YtdldkkoplgkloaaGreatPz0
import Derived.Test.YtdldkkoplgkloaaGreatPz18
import Derived.Test.YtdldkkoplgkloaaGreatPz19
import Derived.Test.YtdldkkoplgkloaaGreatPz20
import Derived.Test.YtdldkkoplgkloaaGreatPz21
namespace Go.Proofs.YtdldkkoplgkloaaGreat
set_option linter.unusedVariables false
set_option linter.unusedSimpArgs false
set_option maxRecDepth 100000
set_option maxHeartbeats 32000000
namespace stage

open crc disk record Go.Proofs.YtdldkkoplgkloaaGreat.bits
def sAt (p k:Int):Int:=p*10+(2+k*4)
def dAt (p k i:Int):Int:=p*10+(2+k*4+1+i)
structure SlS where
 has:Bool
 st:Stg
def SlS.none:SlS:=⟨false,Stg.zero⟩
def nxt (st:Stg) (no:Nat):Stg:=⟨st.session,st.size,withB st.have_ no⟩
def wf2 (m:DS) (i:Int) (bs:List Int) (j:Int) (cs:List Int):Int×DS:=if (wf m i bs).1=0 then wf (wf m i bs).2 j cs else wf m i bs
def splice (b:List Int) (no:Nat) (data:List Int):List Int:=b.take (no % 4*16)++data++b.drop (no % 4*16+16)
def beginM (m:DS) (p k:Int) (s:SlS) (session size:Int):Int×DS×SlS :=
 if (Stg.mk session size 0).right then
  (if (wf m (sAt p k) (Stg.mk session size 0).bytes).1=0 then (0,(wf m (sAt p k) (Stg.mk session size 0).bytes).2,⟨true,⟨session,size,0⟩⟩)
   else ((wf m (sAt p k) (Stg.mk session size 0).bytes).1,(wf m (sAt p k) (Stg.mk session size 0).bytes).2,s))
 else (3,m,s)
def wrongE (s:SlS) (session no:Int) (len:Nat):Int :=
 if s.has=false then 16 else if session≠s.st.session then 17 else if no < 0∨(blocksN s.st.size:Int)≤no then 3 else if len≠16 then 14 else 0
def putM (m:DS) (p k:Int) (s:SlS) (session no:Int) (data:List Int):Int×DS×SlS :=
 if wrongE s session no data.length≠0 then (wrongE s session no data.length,m,s)
 else if bitb s.st.have_ no.toNat then (0,m,s)
 else if m.down then (8,m,s)
 else if (wf2 m (dAt p k (no / 4)) (splice (m.now (dAt p k (no / 4)).toNat) no.toNat data) (sAt p k) (nxt s.st no.toNat).bytes).1=0 then
  (0,(wf2 m (dAt p k (no / 4)) (splice (m.now (dAt p k (no / 4)).toNat) no.toNat data) (sAt p k) (nxt s.st no.toNat).bytes).2,⟨true,nxt s.st no.toNat⟩)
 else ((wf2 m (dAt p k (no / 4)) (splice (m.now (dAt p k (no / 4)).toNat) no.toNat data) (sAt p k) (nxt s.st no.toNat).bytes).1,
  (wf2 m (dAt p k (no / 4)) (splice (m.now (dAt p k (no / 4)).toNat) no.toNat data) (sAt p k) (nxt s.st no.toNat).bytes).2,s)
def clearM (m:DS) (p k:Int) (s:SlS):Int×DS×SlS :=
 if (wf m (sAt p k) zeroSec).1=0 then (0,(wf m (sAt p k) zeroSec).2,SlS.none) else ((wf m (sAt p k) zeroSec).1,(wf m (sAt p k) zeroSec).2,s)
def allIn (s:SlS):Prop:=∀j,j < blocksN s.st.size→bitb s.st.have_ j=true
instance (s:SlS):Decidable (allIn s):=inferInstanceAs (Decidable (∀j,j < blocksN s.st.size→bitb s.st.have_ j=true))
def cat3 (m:DS) (p k:Int):List Int:=m.now (dAt p k 0).toNat++(m.now (dAt p k 1).toNat++m.now (dAt p k 2).toNat)
def bytesM (m:DS) (p k:Int) (s:SlS):List Int×Int :=
 if s.has=false then ([],16) else if ¬allIn s then ([],11) else if m.down then ([],8) else ((cat3 m p k).take s.st.size.toNat,0)
def openS (m:DS) (p k:Int):SlS:=if (getStg (m.now (sAt p k).toNat)).2=0 then ⟨true,(getStg (m.now (sAt p k).toNat)).1⟩ else SlS.none
structure RS where
 has:Bool
 st:Stg
 blocks:List (List Int)
deriving DecidableEq
def RS.none:RS:=⟨false,Stg.zero,[]⟩
def beginR (R:RS) (session size:Int):Int×RS:=if (Stg.mk session size 0).right then (0,⟨true,⟨session,size,0⟩,List.replicate (blocksN size) []⟩) else (3,R)
def wrongR (R:RS) (session no:Int) (len:Nat):Int :=
 if R.has=false then 16 else if session≠R.st.session then 17 else if no < 0∨(R.blocks.length:Int)≤no then 3 else if len≠16 then 14 else 0
def putR (R:RS) (session no:Int) (data:List Int):Int×RS :=
 if wrongR R session no data.length≠0 then (wrongR R session no data.length,R)
 else if R.blocks.getD no.toNat []≠[] then (0,R)
 else (0,⟨R.has,⟨R.st.session,R.st.size,R.st.have_+2 ^ no.toNat⟩,R.blocks.set no.toNat data⟩)
def bytesR (R:RS):List Int×Int :=
 if R.has=false then ([],16) else if ∃b∈R.blocks,b=[] then ([],11) else (R.blocks.flatten.take R.st.size.toNat,0)
structure Pl (m:DS) (p k:Int):Prop where
 good:m.Good
 bts:m.Bts
 p0:0≤p
 p1:p < 4
 k0:0≤k
 k1:k < 2
 room:dAt p k 2 < (m.secs.length:Int)
structure RMem (s:SlS) (R:RS):Prop where
 has:s.has=R.has
 st:s.st=R.st
 none:s.has=false→R=RS.none
 right:s.has=true→s.st.right=true
 len:s.has=true→R.blocks.length=blocksN s.st.size
 bit:s.has=true→∀j,j < blocksN s.st.size→(bitb s.st.have_ j=true ↔ R.blocks.getD j []≠[])
 b16:∀b∈R.blocks,b=[]∨b.length=16
def dblk (m:DS) (p k:Int) (j:Nat):List Int:=((m.now (dAt p k ((j / 4:Nat):Int)).toNat).drop (j % 4*16)).take 16
def RDat (m:DS) (p k:Int) (R:RS):Prop:=∀j,R.blocks.getD j []≠[]→dblk m p k j=R.blocks.getD j []
theorem none_mem:RMem SlS.none RS.none:=⟨rfl,rfl,fun _=>rfl,fun h=>absurd h (by decide),fun h=>absurd h (by decide),fun h=>absurd h (by decide),fun b hb=>absurd hb (by simp [RS.none])⟩
theorem none_dat (m:DS) (p k:Int):RDat m p k RS.none:=fun j hj=>absurd (by simp [RS.none]) hj
theorem RMem.blocks10 {s:SlS} {R:RS} (h:RMem s R):R.blocks.length≤10:=by
 cases hh:s.has with
 | false=>rw [h.none hh];simp [RS.none]
 | true =>
   rw [h.len hh]
   have:=(stg_in (h.right hh)).2.1
   unfold blocksN;omega
theorem getD_ne {l:List (List Int)} {j:Nat} (h:l.getD j []≠[]):j < l.length:=by
 rcases Nat.lt_or_ge j l.length with h1|h1
 ·exact h1
 ·rw [List.getD_eq_getElem?_getD,List.getElem?_eq_none h1] at h
  exact absurd rfl h
theorem chunks (C:List Int):∀n,((List.range n).map fun j=>(C.drop (16*j)).take 16).flatten=C.take (16*n)
 | 0=>by simp
 | n+1=>by
   rw [List.range_succ,List.map_append,List.flatten_append,chunks C n,Nat.mul_succ,List.take_add]
   simp
theorem chunk_cat {A B D:List Int} (ha:A.length=64) (hb:B.length=64) (hd:D.length=64) {j:Nat} (hj:j < 12) :
  ((A++(B++D)).drop (16*j)).take 16=((if j / 4=0 then A else if j / 4=1 then B else D).drop (j % 4*16)).take 16:=by
 by_cases h0:j / 4=0
 ·rw [if_pos h0,List.drop_append_of_le_length (by omega),List.take_append_of_le_length (by rw [List.length_drop];omega)]
  rw [show 16*j=j % 4*16 by omega]
 ·rw [if_neg h0,List.drop_append,List.drop_of_length_le (show A.length≤16*j by omega),List.nil_append,ha]
  by_cases h1:j / 4=1
  ·rw [if_pos h1,List.drop_append_of_le_length (by omega),List.take_append_of_le_length (by rw [List.length_drop];omega)]
   rw [show 16*j-64=j % 4*16 by omega]
  ·rw [if_neg h1,List.drop_append,List.drop_of_length_le (show B.length≤16*j-64 by omega),List.nil_append,hb]
   rw [show 16*j-64-64=j % 4*16 by omega]
theorem Pl.at_ {m:DS} {p k:Int} (h:Pl m p k) {i:Int} (h0:0≤i) (h1:i < 3):0≤dAt p k i∧dAt p k i < (m.secs.length:Int):=by
 have:=h.room;have:=h.p0;have:=h.k0
 unfold dAt at *
 omega
theorem Pl.own {m:DS} {p k:Int} (h:Pl m p k):0≤sAt p k∧sAt p k < (m.secs.length:Int):=by
 have:=h.room;have:=h.p0;have:=h.k0
 unfold dAt at *
 unfold sAt
 omega
theorem Pl.len {m:DS} {p k:Int} (h:Pl m p k) {i:Int} (h0:0≤i) (h1:i < 3):(m.now (dAt p k i).toNat).length=64:=h.good.now_len (by have:=h.at_ h0 h1;omega)
theorem dblk_cat {m:DS} {p k:Int} (h:Pl m p k) {j:Nat} (hj:j < 12):dblk m p k j=((cat3 m p k).drop (16*j)).take 16:=by
 unfold cat3 dblk
 rw [chunk_cat (h.len (by omega) (by omega)) (h.len (by omega) (by omega)) (h.len (by omega) (by omega)) hj]
 by_cases h0:j / 4=0
 ·rw [if_pos h0,h0];rfl
 ·by_cases h1:j / 4=1
  ·rw [if_neg h0,if_pos h1,h1];rfl
  ·rw [if_neg h0,if_neg h1,show j / 4=2 by omega];rfl
theorem missing_iff {s:SlS} {R:RS} (h:RMem s R) (hh:s.has=true):(∃b∈R.blocks,b=[]) ↔ ¬allIn s:=by
 unfold allIn
 constructor
 ·rintro ⟨b,hb,rfl⟩ hall
  obtain ⟨j,hj,e⟩:=List.getElem_of_mem hb
  have h2:=(h.bit hh j (by rw [←h.len hh];exact hj)).1 (hall j (by rw [←h.len hh];exact hj))
  rw [List.getD_eq_getElem?_getD,List.getElem?_eq_getElem hj] at h2
  exact h2 e
 ·intro hn
  rw [Classical.not_forall] at hn
  obtain ⟨j,hn⟩:=hn
  rw [Classical.not_imp] at hn
  obtain ⟨hj,hb⟩:=hn
  have hjl:j < R.blocks.length:=by rw [h.len hh];exact hj
  refine ⟨R.blocks[j],List.getElem_mem hjl,?_⟩
  by_cases he:R.blocks[j]=[]
  ·exact he
  ·exact absurd ((h.bit hh j hj).2 (by rw [List.getD_eq_getElem?_getD,List.getElem?_eq_getElem hjl];exact he)) hb
theorem bytes_eq {m:DS} {p k:Int} {s:SlS} {R:RS} (hp:Pl m p k) (h:RMem s R) (hd:RDat m p k R) (hu:m.down=false):bytesM m p k s=bytesR R:=by
 unfold bytesM bytesR
 cases hh:s.has with
 | false=>rw [←h.has,hh];rfl
 | true =>
   rw [←h.has,hh,if_neg (show ¬(true=false) by decide),if_neg (show ¬(true=false) by decide)]
   by_cases ha:allIn s
   ·rw [if_neg (not_not_intro ha),if_neg fun x=>(missing_iff h hh).1 x ha,hu,if_neg (show ¬(false=true) by decide)]
    have h10:=h.blocks10
    have hf:R.blocks=(List.range R.blocks.length).map fun j=>((cat3 m p k).drop (16*j)).take 16:=by
     apply List.ext_getElem
     ·simp
     ·intro j h1 h2
      rw [List.getElem_map,List.getElem_range,←dblk_cat hp (by omega)]
      have hb:=(h.bit hh j (by rw [←h.len hh];exact h1)).1 (ha j (by rw [←h.len hh];exact h1))
      rw [hd j hb,List.getD_eq_getElem?_getD,List.getElem?_eq_getElem h1]
      rfl
    rw [hf,chunks,List.take_take,←h.st]
    have hle:s.st.size.toNat≤16*R.blocks.length:=by
     rw [h.len hh]
     have:=(stg_in (h.right hh)).2.1
     unfold blocksN;omega
    rw [Nat.min_eq_left hle]
   ·rw [if_pos ha,if_pos ((missing_iff h hh).2 ha)]
theorem now_other {m m':DS} {i:Nat} {bs:List Int} (hs:m'.secs=m.secs) (hw:m'.waits=m.waits∨m'.waits=m.waits++[(i,bs)]) {j:Nat} (hj:j≠i):m'.now j=m.now j:=by
 unfold DS.now
 rw [hs]
 rcases hw with hw|hw
 ·rw [hw]
 ·rw [hw,List.length_append,List.length_singleton,nowTo_miss (by simp) (by simpa using fun e=>hj e.symm),nowTo_snoc _ _ _ _ _ (Nat.le_refl _)]
theorem wf_other {m:DS} (hg:m.Good) {i:Int} {bs:List Int} (h0:0≤i) (h1:i < m.secs.length) (hb:bs.length=64) {j:Nat} (hj:j≠i.toNat):(wf m i bs).2.now j=m.now j:=by
 by_cases h:(wf m i bs).1=0
 ·rw [(wf_ok hg h0 h1 hb h).2.2,if_neg hj]
 ·obtain ⟨_,_,h3,h4⟩:=wf_err h0 h1 hb h
  exact now_other h3 h4 hj
theorem Pl.wf {m:DS} {p k:Int} (h:Pl m p k) (i:Int) {bs:List Int} (hb:Byt bs):Pl (disk.wf m i bs).2 p k :=
 ⟨h.good.wf i bs,h.bts.wf i hb,h.p0,h.p1,h.k0,h.k1,by rw [wf_slen];exact h.room⟩
theorem splice_length {b data:List Int} (hb:b.length=64) (no:Nat) (hd:data.length=16):(splice b no data).length=64:=by
 unfold splice
 simp [hb,hd]
 omega
theorem splice_byt {b data:List Int} (hb:Byt b) (no:Nat) (hd:Byt data):Byt (splice b no data):=by
 intro z hz
 unfold splice at hz
 rcases List.mem_append.1 hz with hz|hz
 ·rcases List.mem_append.1 hz with hz|hz
  ·exact hb z (List.mem_of_mem_take hz)
  ·exact hd z hz
 ·exact hb z (List.mem_of_mem_drop hz)
theorem splice_at {b data:List Int} (hb:b.length=64) {no:Nat} (hd:data.length=16) {j:Nat} (hj:j < 4):((splice b no data).drop (j*16)).take 16=if j=no % 4 then data else (b.drop (j*16)).take 16:=by
 have hl:(b.take (no % 4*16)).length=no % 4*16:=by rw [List.length_take];omega
 unfold splice
 rw [List.append_assoc]
 by_cases h:j=no % 4
 ·rw [if_pos h,h,List.drop_append,hl,Nat.sub_self,List.drop_of_length_le (by omega),List.nil_append,List.drop_zero,List.take_append_of_le_length (by omega),List.take_of_length_le (by omega)]
 ·rw [if_neg h]
  rcases Nat.lt_or_gt_of_ne h with h|h
  ·rw [List.drop_append_of_le_length (by omega),List.take_append_of_le_length (by rw [List.length_drop];omega),List.drop_take,List.take_take,Nat.min_eq_left (by omega)]
  ·rw [List.drop_append,hl,List.drop_of_length_le (by omega),List.nil_append,List.drop_append,hd,List.drop_of_length_le (by omega),List.nil_append,List.drop_drop]
   rw [show no % 4*16+16+(j*16-no % 4*16-16)=j*16 by omega]
theorem dat_own {m m':DS} {p k:Int} {R:RS} (hp:Pl m p k) (h:RDat m p k R) (h10:R.blocks.length≤10) (hn:∀j,j≠(sAt p k).toNat→m'.now j=m.now j):RDat m' p k R:=by
 intro j hj
 have hjl:=getD_ne hj
 rw [←h j hj]
 unfold dblk
 rw [hn _ (by have:=hp.p0;have:=hp.k0;unfold dAt sAt;omega)]
theorem dat_data {m m':DS} {p k:Int} {R:RS} (hp:Pl m p k) (h:RDat m p k R) (h10:R.blocks.length≤10) {no:Nat} {data:List Int} (hd:data.length=16) (hno:no < 10)
  (hn:∀j,m'.now j=if j=(dAt p k ((no / 4:Nat):Int)).toNat then splice (m.now (dAt p k ((no / 4:Nat):Int)).toNat) no data else m.now j) (hb:R.blocks.getD no []=[]):RDat m' p k R∧RDat m' p k ⟨R.has,R.st,R.blocks.set no data⟩:=by
 have p0:=hp.p0;have k0:=hp.k0
 have hl:=hp.len (i:=((no / 4:Nat):Int)) (by omega) (by omega)
 have key:∀j,j < 10→dblk m' p k j=if j=no then data else dblk m p k j:=by
  intro j hj
  unfold dblk
  rw [hn]
  by_cases hq:j / 4=no / 4
  ·rw [hq,if_pos rfl,splice_at hl hd (Nat.mod_lt _ (by omega))]
   by_cases hr:j=no
   ·rw [if_pos (by rw [hr]),if_pos hr]
   ·rw [if_neg (by omega),if_neg hr]
  ·rw [if_neg (by unfold dAt;omega),if_neg (by intro e;exact hq (by rw [e]))]
 constructor
 ·intro j hj
  have hjl:=getD_ne hj
  rw [key j (by omega),if_neg (by rintro rfl;exact hj hb),h j hj]
 ·intro j hj
  have hjl:=getD_ne hj
  rw [List.length_set] at hjl
  rw [key j (by omega)]
  simp only at hj ⊢
  rw [getD_set] at hj ⊢
  by_cases e:j=no
  ·rw [if_pos e,if_pos ⟨e,by omega⟩]
  ·rw [if_neg e,if_neg fun x=>e x.1]
   rw [if_neg fun x=>e x.1] at hj
   exact h j hj
theorem getStg_zero:(getStg zeroSec).2≠0:=by decide +kernel
theorem open_stg {m:DS} {p k:Int} {st:Stg} (h:m.now (sAt p k).toNat=st.bytes) (hr:st.right=true):openS m p k=⟨true,st⟩:=by
 unfold openS
 rw [h,getStg_bytes hr,if_pos rfl]
theorem open_zero {m:DS} {p k:Int} (h:m.now (sAt p k).toNat=zeroSec):openS m p k=SlS.none:=by
 unfold openS
 rw [h,if_neg getStg_zero]
theorem open_same {m m':DS} {p k:Int} (h:m'.now (sAt p k).toNat=m.now (sAt p k).toNat):openS m' p k=openS m p k:=by
 unfold openS
 rw [h]
theorem nxt_right {st:Stg} (h:st.right=true) {no:Nat} (hno:no < blocksN st.size):(nxt st no).right=true:=by
 obtain ⟨⟨h1,h2⟩,⟨h3,h4⟩,h5,h6⟩:=stg_in h
 have hb:blocksN st.size≤10:=by unfold blocksN;omega
 have hh:st.have_≤2 ^ blocksN st.size-1:=by
  simp [Stg.right] at h
  exact h.2.2
 unfold Stg.right nxt
 simp only [Bool.and_eq_true,decide_eq_true_eq]
 refine ⟨⟨⟨h1,h2⟩,h3,h4⟩,?_⟩
 unfold withB
 split
 ·exact ⟨h5,hh⟩
 ·rename_i hbit
  have hbit':bitb st.have_ no=false:=by simpa using hbit
  generalize blocksN st.size=n at *
  obtain ⟨x,hx⟩:=Int.eq_ofNat_of_zero_le h5
  rw [hx] at hbit' hh ⊢
  rw [bitb_nat] at hbit'
  have hlt:x < 2 ^ n:=by
   have:((2 ^ n:Nat):Int)=(2:Int) ^ n:=by simp
   omega
  have h7:x+2 ^ no < 2 ^ n:=by
   have e:x ||| 2 ^ no=x+2 ^ no:=by
    rw [or_pow,if_neg]
    rw [Nat.testBit_eq_decide_div_mod_eq] at hbit'
    simpa using hbit'
   rw [←e]
   exact Nat.or_lt_two_pow hlt (Nat.pow_lt_pow_right (by omega) hno)
  have h8:((x+2 ^ no:Nat):Int)=(x:Int)+2 ^ no:=by simp
  have h9:((2 ^ n:Nat):Int)=(2:Int) ^ n:=by simp
  constructor
  ·have:(0:Int)≤2 ^ no:=Int.le_of_lt (Int.pow_pos (by decide))
   omega
  ·omega
end stage
namespace stage

open crc disk record Go.Proofs.YtdldkkoplgkloaaGreat.bits
def OutOf (m m':DS):Prop:=m'.waits=[]∧(m'.secs=m.secs∨∃i bs,m.waits=[(i,bs)]∧m'.secs=m.secs.set i bs)
theorem power_out {m:DS} (h:m.waits.length≤1) (keep:Int):OutOf m (m.power keep):=by
 refine ⟨rfl,?_⟩
 match hw:m.waits with
 | [] =>
   rcases power_one (m:=m) (i:=0) (bs:=[]) (.inl hw) keep with e|⟨e,_⟩
   ·exact .inl e
   ·rw [hw] at e;exact absurd e (by simp)
 | [(i,bs)] =>
   rcases power_one (m:=m) (i:=i) (bs:=bs) (.inr hw) keep with e|⟨_,e⟩
   ·exact .inl e
   ·exact .inr ⟨i,bs,rfl,e⟩
 | _::_::_=>rw [hw] at h;simp at h
theorem out_now {m m':DS} (hw:m.waits=[]) (ho:OutOf m m') (j:Nat):m'.now j=m.now j:=by
 obtain ⟨h1,h2⟩:=ho
 rw [DS.now_nil h1,DS.now_nil hw]
 rcases h2 with h2|⟨i,bs,h2,_⟩
 ·rw [h2]
 ·rw [hw] at h2;exact absurd h2 (by simp)
theorem fail_out {m:DS} (hw:m.waits=[]) {i:Int} {bs:List Int} (h0:0≤i) (h1:i < m.secs.length) (hb:bs.length=64) (h:(wf m i bs).1≠0) {m':DS} (ho:OutOf (wf m i bs).2 m') :
  (∀j,m'.now j=m.now j)∨(∀j,m'.now j=if j=i.toNat then bs else m.now j):=by
 obtain ⟨_,_,h3,h4⟩:=wf_err h0 h1 hb h
 obtain ⟨o1,o2⟩:=ho
 rw [hw,List.nil_append] at h4
 have key:m'.secs=m.secs∨m'.secs=m.secs.set i.toNat bs:=by
  rcases o2 with o2|⟨i',bs',o2,o3⟩
  ·exact .inl (o2.trans h3)
  ·rcases h4 with h4|h4
   ·rw [h4] at o2;exact absurd o2 (by simp)
   ·rw [h4] at o2
    injection o2 with o2 _
    injection o2 with o4 o5
    rw [←o4,←o5,h3] at o3
    exact .inr o3
 rcases key with e|e
 ·exact .inl fun j=>by rw [DS.now_nil o1,DS.now_nil hw,e]
 ·refine .inr fun j=>?_
  rw [DS.now_nil o1,DS.now_nil hw,e,getD_set]
  by_cases hj:j=i.toNat
  ·rw [if_pos ⟨hj,by omega⟩,if_pos hj]
  ·rw [if_neg fun x=>hj x.1,if_neg hj]
structure SI (m:DS) (p k:Int) (s:SlS) (R:RS) (might:Option RS):Prop where
 pl:Pl m p k
 mem:RMem s R
 few:m.waits.length≤1
 up:m.down=false→might=Option.none∧m.waits=[]∧RDat m p k R∧openS m p k=s
 dn:m.down=true→∃R',might=some R'∧(R'.has=R.has→R'.st=R.st→R'=R)∧
  ∀m',OutOf m m'→Pl m' p k→(RDat m' p k R∧openS m' p k=s)∨(∃s',RMem s' R'∧RDat m' p k R'∧openS m' p k=s')
inductive Stepped (m:DS) (p k:Int) (s:SlS) (R:RS) (might:Option RS) (x:Int×DS×SlS) (y:Int×RS):Prop
 | same (h1:x.1=y.1) (h2:x.1≠8) (h3:SI x.2.1 p k x.2.2 y.2 might)
 | down (h1:x.1=8) (h2:y.1=0) (h3:x.2.2=s) (h4:SI x.2.1 p k s R (might.or (some y.2)))
section
variable {m : DS} {p k : Int} {s : SlS} {R : RS} {might : Option RS}
theorem some_or_self {a:RS} {x:Option RS} (h:x=some a) (y:RS):x.or (some y)=x:=by rw [h];rfl
theorem SI.begin (h:SI m p k s R might) (se sz:Int):Stepped m p k s R might (beginM m p k s se sz) (beginR R se sz):=by
 unfold beginM beginR
 by_cases hr:(Stg.mk se sz 0).right=true
 ·rw [if_pos hr,if_pos hr]
  obtain ⟨a0,a1⟩:=h.pl.own
  have hl:=Stg.bytes_length ⟨se,sz,0⟩
  have hmem:RMem ⟨true,⟨se,sz,0⟩⟩ ⟨true,⟨se,sz,0⟩,List.replicate (blocksN sz) []⟩:=by
   refine ⟨rfl,rfl,fun h=>absurd (show true=false from h) (by decide),fun _=>hr,fun _=>by simp,fun _ j hj=>?_,fun b hb=>.inl (List.mem_replicate.1 hb).2⟩
   simp [bitb_zero,List.getD_eq_getElem?_getD,List.getElem?_replicate]
   split<;>rfl
  have hdat:∀m',RDat m' p k ⟨true,⟨se,sz,0⟩,List.replicate (blocksN sz) []⟩:=by
   intro m' j hj
   refine absurd ?_ hj
   simp [List.getD_eq_getElem?_getD,List.getElem?_replicate]
   split<;>rfl
  cases hd:m.down with
  | true =>
    rw [wf_down a0 a1 hl hd,if_neg (show ¬((8:Int)=0) by decide)]
    obtain ⟨R',e,_⟩:=h.dn hd
    exact .down rfl rfl rfl (by rw [some_or_self e];exact h)
  | false =>
    obtain ⟨u1,u2,u3,u4⟩:=h.up hd
    have hpl:=h.pl.wf (sAt p k) (Stg.bytes_byt ⟨se,sz,0⟩)
    by_cases hw:(wf m (sAt p k) (Stg.mk se sz 0).bytes).1=0
    ·rw [if_pos hw]
     obtain ⟨w1,w2,w3⟩:=wf_ok h.pl.good a0 a1 hl hw
     refine .same rfl (show (0:Int)≠8 by decide) ⟨hpl,hmem,by rw [w1];simp,fun _=>⟨u1,w1,hdat _,?_⟩,fun h'=>absurd (w2.symm.trans h') (by decide)⟩
     exact open_stg (by rw [w3,if_pos rfl]) hr
    ·rw [if_neg hw]
     obtain ⟨e1,e2,e3,e4⟩:=wf_err a0 a1 hl hw
     refine .down e1 rfl rfl ?_
     rw [u1]
     refine ⟨hpl,h.mem,?_,fun h'=>absurd (e2.symm.trans h') (by decide),fun _=>⟨_,rfl,?_,fun m' ho hp'=>?_⟩⟩
     ·rw [u2] at e4;rcases e4 with e|e<;>rw [e]<;>simp
     ·intro h1 h2
      have hs:s.has=true:=by rw [h.mem.has,←h1]
      have hst:s.st=⟨se,sz,0⟩:=by rw [h.mem.st,←h2]
      obtain ⟨rh,rst,rb⟩:=R
      simp only at h1 h2
      subst h1;subst h2
      show RS.mk true ⟨se,sz,0⟩ (List.replicate (blocksN sz) [])=RS.mk true ⟨se,sz,0⟩ rb
      congr 1
      have hlen:=h.mem.len hs
      rw [hst] at hlen
      simp only at hlen
      apply List.ext_getElem
      ·simp [hlen]
      ·intro j j1 j2
       rw [List.getElem_replicate]
       have hb:=h.mem.bit hs j (by rw [hst];simp only;omega)
       rw [hst] at hb
       simp only [bitb_zero,List.getD_eq_getElem?_getD,List.getElem?_eq_getElem j2,Option.getD_some] at hb
       by_cases he:rb[j]=[]
       ·exact he.symm
       ·exact absurd (hb.2 he) (by decide)
     ·rcases fail_out u2 a0 a1 hl hw ho with hn|hn
      ·exact .inl ⟨dat_own h.pl u3 h.mem.blocks10 fun j _=>hn j,(open_same (hn _)).trans u4⟩
      ·exact .inr ⟨_,hmem,hdat _,open_stg (by rw [hn,if_pos rfl]) hr⟩
 ·rw [if_neg hr,if_neg hr]
  exact .same rfl (by show (3:Int)≠8;decide) h
theorem SI.clear (h:SI m p k s R might):Stepped m p k s R might (clearM m p k s) (0,RS.none):=by
 unfold clearM
 obtain ⟨a0,a1⟩:=h.pl.own
 have hl:zeroSec.length=64:=rfl
 cases hd:m.down with
 | true =>
   rw [wf_down a0 a1 hl hd,if_neg (show ¬((8:Int)=0) by decide)]
   obtain ⟨R',e,_⟩:=h.dn hd
   exact .down rfl rfl rfl (by rw [some_or_self e];exact h)
 | false =>
   obtain ⟨u1,u2,u3,u4⟩:=h.up hd
   have hpl:=h.pl.wf (sAt p k) byt_zero
   by_cases hw:(wf m (sAt p k) zeroSec).1=0
   ·rw [if_pos hw]
    obtain ⟨w1,w2,w3⟩:=wf_ok h.pl.good a0 a1 hl hw
    exact .same rfl (show (0:Int)≠8 by decide) ⟨hpl,none_mem,by rw [w1];simp,fun _=>⟨u1,w1,none_dat _ _ _,open_zero (by rw [w3,if_pos rfl])⟩,fun h'=>absurd (w2.symm.trans h') (by decide)⟩
   ·rw [if_neg hw]
    obtain ⟨e1,e2,e3,e4⟩:=wf_err a0 a1 hl hw
    refine .down e1 rfl rfl ?_
    rw [u1]
    refine ⟨hpl,h.mem,?_,fun h'=>absurd (e2.symm.trans h') (by decide),fun _=>⟨_,rfl,?_,fun m' ho hp'=>?_⟩⟩
    ·rw [u2] at e4;rcases e4 with e|e<;>rw [e]<;>simp
    ·intro h1 h2
     exact (h.mem.none (by rw [h.mem.has,←h1];rfl)).symm
    ·rcases fail_out u2 a0 a1 hl hw ho with hn|hn
     ·exact .inl ⟨dat_own h.pl u3 h.mem.blocks10 fun j _=>hn j,(open_same (hn _)).trans u4⟩
     ·exact .inr ⟨_,none_mem,none_dat _ _ _,open_zero (by rw [hn,if_pos rfl])⟩
theorem RMem.wrong (h:RMem s R) (se no:Int) (n:Nat):wrongE s se no n=wrongR R se no n:=by
 unfold wrongE wrongR
 cases hh:s.has with
 | false=>rw [←h.has,hh];rfl
 | true=>rw [←h.has,hh,h.len hh,←h.st]
theorem wrong_yes {se no:Int} {n:Nat} (h:wrongE s se no n=0):s.has=true∧se=s.st.session∧0≤no∧no < blocksN s.st.size∧n=16:=by
 unfold wrongE at h
 split at h
 ·exact absurd h (by decide)
 ·split at h
  ·exact absurd h (by decide)
  ·split at h
   ·exact absurd h (by decide)
   ·split at h
    ·exact absurd h (by decide)
    ·rename_i h1 h2 h3 h4
     refine ⟨by simpa using h1,by simpa using h2,by omega,by omega,by omega⟩
theorem wrong_8 (s:SlS) (se no:Int) (n:Nat):wrongE s se no n≠8:=by
 unfold wrongE
 split
 ·decide
 ·split
  ·decide
  ·split
   ·decide
   ·split<;>decide
theorem RMem.more (h:RMem s R) (hh:s.has=true) {no:Nat} (hno:no < blocksN s.st.size) (hb:bitb s.st.have_ no=false) {data:List Int} (hd:data.length=16) :
  RMem ⟨true,nxt s.st no⟩ ⟨R.has,⟨R.st.session,R.st.size,R.st.have_+2 ^ no⟩,R.blocks.set no data⟩:=by
 have hl:=h.len hh
 refine ⟨by rw [←h.has,hh],?_,fun h=>absurd (show true=false from h) (by decide),fun _=>nxt_right (h.right hh) hno,fun _=>by rw [List.length_set,hl];rfl,fun _ j hj=>?_,fun b hb'=>?_⟩
 ·rw [←h.st]
  unfold nxt withB
  rw [hb]
  rfl
 ·have hj':j < blocksN s.st.size:=hj
  show bitb (withB s.st.have_ no) j=true ↔ (R.blocks.set no data).getD j []≠[]
  rw [bitb_withB,getD_set]
  by_cases e:j=no
  ·rw [if_pos ⟨e,by omega⟩]
   subst e
   simp
   rintro rfl
   simp at hd
  ·rw [if_neg fun x=>e x.1,←h.bit hh j hj']
   simp [e]
 ·rcases List.mem_or_eq_of_mem_set hb' with hb'|hb'
  ·exact h.b16 b hb'
  ·exact .inr (by rw [hb'];exact hd)
theorem SI.put (h:SI m p k s R might) (se no:Int) {data:List Int} (hdb:Byt data):Stepped m p k s R might (putM m p k s se no data) (putR R se no data):=by
 unfold putM putR
 rw [←h.mem.wrong]
 by_cases hw:wrongE s se no data.length=0
 ·rw [if_neg (not_not_intro hw),if_neg (not_not_intro hw)]
  obtain ⟨hh,w1,w2,w3,w4⟩:=wrong_yes hw
  obtain ⟨n,rfl⟩:=Int.eq_ofNat_of_zero_le w2
  have hn:n < blocksN s.st.size:=by omega
  have hbit:=h.mem.bit hh n hn
  rw [Int.toNat_natCast]
  cases hb:bitb s.st.have_ n with
  | true =>
    rw [if_pos rfl,if_pos (hbit.1 hb)]
    exact .same rfl (by show (0:Int)≠8;decide) h
  | false =>
    have hb0:R.blocks.getD n []=[]:=by
     by_cases e:R.blocks.getD n []=[]
     ·exact e
     ·rw [hbit.2 e] at hb;exact absurd hb (by decide)
    rw [if_neg (by decide),if_neg (not_not_intro hb0)]
    cases hd:m.down with
    | true =>
      rw [if_pos rfl]
      obtain ⟨R',e,_⟩:=h.dn hd
      exact .down rfl rfl rfl (by rw [some_or_self e];exact h)
    | false =>
      rw [if_neg (by decide)]
      obtain ⟨u1,u2,u3,u4⟩:=h.up hd
      have hn10:n < 10:=by
       have:=(stg_in (h.mem.right hh)).2.1
       unfold blocksN at hn;omega
      have hq:((n:Int) / 4)=((n / 4:Nat):Int):=by omega
      rw [hq]
      obtain ⟨d0,d1⟩:=h.pl.at_ (i:=((n / 4:Nat):Int)) (by omega) (by omega)
      obtain ⟨a0,a1⟩:=h.pl.own
      have hsl:=splice_length (h.pl.len (i:=((n / 4:Nat):Int)) (by omega) (by omega)) n w4
      have hsb:=splice_byt (h.pl.bts.now (dAt p k ((n / 4:Nat):Int)).toNat) n hdb
      have hbl:=Stg.bytes_length (nxt s.st n)
      have hmem:=h.mem.more hh hn hb w4
      have hrt:=nxt_right (h.mem.right hh) hn
      have hdiff:∀R':RS,R'=⟨R.has,⟨R.st.session,R.st.size,R.st.have_+2 ^ n⟩,R.blocks.set n data⟩→R'.has=R.has→R'.st=R.st→R'=R:=by
       rintro R' rfl _ h2
       have h3:R.st.have_+2 ^ n=R.st.have_:=congrArg Stg.have_ h2
       have:(0:Int) < 2 ^ n:=Int.pow_pos (by decide)
       omega
      have hpl1:=h.pl.wf (dAt p k ((n / 4:Nat):Int)) hsb
      have hpl2:=hpl1.wf (sAt p k) (Stg.bytes_byt (nxt s.st n))
      unfold wf2
      by_cases e1:(wf m (dAt p k ((n / 4:Nat):Int)) (splice (m.now (dAt p k ((n / 4:Nat):Int)).toNat) n data)).1=0
      ·rw [if_pos e1]
       obtain ⟨x1,x2,x3⟩:=wf_ok h.pl.good d0 d1 hsl e1
       obtain ⟨y1,y2⟩:=dat_data h.pl u3 h.mem.blocks10 w4 hn10 x3 hb0
       have hown:(wf m (dAt p k ((n / 4:Nat):Int)) (splice (m.now (dAt p k ((n / 4:Nat):Int)).toNat) n data)).2.now (sAt p k).toNat=m.now (sAt p k).toNat:=by
        rw [x3,if_neg (by have:=h.pl.p0;have:=h.pl.k0;unfold dAt sAt;omega)]
       generalize (wf m (dAt p k ((n / 4:Nat):Int)) (splice (m.now (dAt p k ((n / 4:Nat):Int)).toNat) n data)).2=m1 at *
       obtain ⟨a0',a1'⟩:=hpl1.own
       have h10':(R.blocks.set n data).length≤10:=by rw [List.length_set];exact h.mem.blocks10
       by_cases e2:(wf m1 (sAt p k) (nxt s.st n).bytes).1=0
       ·rw [if_pos e2]
        obtain ⟨z1,z2,z3⟩:=wf_ok hpl1.good a0' a1' hbl e2
        refine .same rfl (by show (0:Int)≠8;decide) ⟨hpl2,hmem,by rw [z1];simp,fun _=>⟨u1,z1,?_,open_stg (by rw [z3,if_pos rfl]) hrt⟩,fun h'=>absurd (z2.symm.trans h') (by decide)⟩
        exact dat_own hpl1 y2 h10' fun j hj=>by rw [z3,if_neg hj]
       ·rw [if_neg e2]
        obtain ⟨f1,f2,f3,f4⟩:=wf_err a0' a1' hbl e2
        refine .down f1 rfl rfl ?_
        rw [u1]
        refine ⟨hpl2,h.mem,?_,fun h'=>absurd (f2.symm.trans h') (by decide),fun _=>⟨_,rfl,hdiff _ rfl,fun m' ho hp'=>?_⟩⟩
        ·rw [x1] at f4;rcases f4 with e|e<;>rw [e]<;>simp
        ·rcases fail_out x1 a0' a1' hbl e2 ho with hn'|hn'
         ·exact .inl ⟨dat_own hpl1 y1 h.mem.blocks10 fun j _=>hn' j,(open_same ((hn' _).trans hown)).trans u4⟩
         ·exact .inr ⟨_,hmem,dat_own hpl1 y2 h10' fun j hj=>by rw [hn',if_neg hj],open_stg (by rw [hn',if_pos rfl]) hrt⟩
      ·rw [if_neg e1,if_neg e1]
       obtain ⟨f1,f2,f3,f4⟩:=wf_err d0 d1 hsl e1
       refine .down f1 rfl rfl ?_
       rw [u1]
       refine ⟨hpl1,h.mem,?_,fun h'=>absurd (f2.symm.trans h') (by decide),fun _=>⟨_,rfl,hdiff _ rfl,fun m' ho hp'=>.inl ?_⟩⟩
       ·rw [u2] at f4;rcases f4 with e|e<;>rw [e]<;>simp
       ·have hne:(sAt p k).toNat≠(dAt p k ((n / 4:Nat):Int)).toNat:=by have:=h.pl.p0;have:=h.pl.k0;unfold dAt sAt;omega
        rcases fail_out u2 d0 d1 hsl e1 ho with hn'|hn'
        ·exact ⟨dat_own h.pl u3 h.mem.blocks10 fun j _=>hn' j,(open_same (hn' _)).trans u4⟩
        ·exact ⟨(dat_data h.pl u3 h.mem.blocks10 w4 hn10 hn' hb0).1,(open_same (by rw [hn',if_neg hne])).trans u4⟩
 ·rw [if_pos hw,if_pos hw]
  exact .same rfl (wrong_8 _ _ _ _) h
theorem SI.fuse (h:SI m p k s R Option.none) (n:Int) (hn:n≤9223372036854775807):SI (m.setFuse n) p k s R Option.none:=by
 cases hd:m.down with
 | true =>
   obtain ⟨R',e,_⟩:=h.dn hd
   exact absurd e (by simp)
 | false =>
   obtain ⟨u1,u2,u3,u4⟩:=h.up hd
   have e:m.setFuse n={ m with fuse:=max n (-1) }:=by unfold DS.setFuse;rw [hd];rfl
   have hg:=DS.setFuse_good h.pl.good hn
   have hb:=h.pl.bts.setFuse n
   rw [e] at hg hb ⊢
   exact ⟨⟨hg,hb,h.pl.p0,h.pl.p1,h.pl.k0,h.pl.k1,h.pl.room⟩,h.mem,h.few,fun _=>⟨rfl,u2,u3,u4⟩,fun h'=>absurd (hd.symm.trans h') (by decide)⟩
theorem SI.power (h:SI m p k s R might) (keep:Int):∃s',openS (m.power keep) p k=s'∧
  ((SI (m.power keep) p k s' R Option.none∧∀R',might=some R'→s'.has=R'.has→s'.st=R'.st→R'=R)∨∃R',might=some R'∧SI (m.power keep) p k s' R' Option.none):=by
 have ho:=power_out h.few keep
 have hpl:Pl (m.power keep) p k:=⟨DS.power_good h.pl.good keep,h.pl.bts.power keep,h.pl.p0,h.pl.p1,h.pl.k0,h.pl.k1,by rw [DS.power_slen];exact h.pl.room⟩
 have mk:∀(s':SlS) (R':RS),RMem s' R'→RDat (m.power keep) p k R'→openS (m.power keep) p k=s'→SI (m.power keep) p k s' R' Option.none :=
  fun s' R' h1 h2 h3=>⟨hpl,h1,by rw [DS.power_waits];simp,fun _=>⟨rfl,rfl,h2,h3⟩,fun h'=>absurd (show false=true from h') (by decide)⟩
 cases hd:m.down with
 | false =>
   obtain ⟨u1,u2,u3,u4⟩:=h.up hd
   have hn:=out_now u2 ho
   have h3:openS (m.power keep) p k=s:=(open_same (hn _)).trans u4
   refine ⟨s,h3,.inl ⟨mk s R h.mem (dat_own h.pl u3 h.mem.blocks10 fun j _=>hn j) h3,fun R' e=>?_⟩⟩
   rw [u1] at e
   exact absurd e (by simp)
 | true =>
   obtain ⟨R',e,hsame,hall⟩:=h.dn hd
   rcases hall _ ho hpl with ⟨h1,h2⟩|⟨s',h1,h2,h3⟩
   ·refine ⟨s,h2,.inl ⟨mk s R h.mem h1 h2,fun R2 e2 g1 g2=>?_⟩⟩
    rw [e] at e2
    injection e2 with e2
    subst e2
    exact hsame (g1.symm.trans h.mem.has) (g2.symm.trans h.mem.st)
   ·exact ⟨s',h3,.inr ⟨R',e,mk s' R' h1 h2 h3⟩⟩
end
theorem begin_up {m:DS} {p k:Int} (h:Pl m p k) (hu:m.Up) (s:SlS) (se sz:Int):(beginM m p k s se sz).2.1.Up:=by
 unfold beginM
 split
 ·have:=(wf_up h.own.1 h.own.2 (Stg.bytes_length ⟨se,sz,0⟩) hu).2
  split<;>exact this
 ·exact hu
theorem clear_up {m:DS} {p k:Int} (h:Pl m p k) (hu:m.Up) (s:SlS):(clearM m p k s).2.1.Up:=by
 unfold clearM
 have:=(wf_up h.own.1 h.own.2 (show zeroSec.length=64 from rfl) hu).2
 split<;>exact this
theorem put_up {m:DS} {p k:Int} (h:Pl m p k) (hu:m.Up) {s:SlS} (hs:s.has=true→s.st.right=true) (se no:Int) {data:List Int} (hdb:Byt data):(putM m p k s se no data).2.1.Up:=by
 unfold putM
 by_cases hw:wrongE s se no data.length=0
 ·rw [if_neg (not_not_intro hw)]
  obtain ⟨hh,w1,w2,w3,w4⟩:=wrong_yes hw
  obtain ⟨n,rfl⟩:=Int.eq_ofNat_of_zero_le w2
  rw [Int.toNat_natCast]
  split
  ·exact hu
  ·rw [hu.1,if_neg (by decide)]
   have hn10:n < 10:=by
    have:=(stg_in (hs hh)).2.1
    unfold blocksN at w3;omega
   have hq:((n:Int) / 4)=((n / 4:Nat):Int):=by omega
   rw [hq]
   obtain ⟨d0,d1⟩:=h.at_ (i:=((n / 4:Nat):Int)) (by omega) (by omega)
   have hsl:=splice_length (h.len (i:=((n / 4:Nat):Int)) (by omega) (by omega)) n w4
   have hsb:=splice_byt (h.bts.now (dAt p k ((n / 4:Nat):Int)).toNat) n hdb
   obtain ⟨x1,x2⟩:=wf_up d0 d1 hsl hu
   have hpl1:=h.wf (dAt p k ((n / 4:Nat):Int)) hsb
   have y2:=(wf_up hpl1.own.1 hpl1.own.2 (Stg.bytes_length (nxt s.st n)) x2).2
   have key:(wf2 m (dAt p k ((n / 4:Nat):Int)) (splice (m.now (dAt p k ((n / 4:Nat):Int)).toNat) n data) (sAt p k) (nxt s.st n).bytes).2.Up:=by
    unfold wf2
    split
    ·exact y2
    ·exact x2
   split<;>exact key
 ·rw [if_pos hw]
  exact hu
theorem Stepped.up {m:DS} {p k:Int} {s:SlS} {R:RS} {x:Int×DS×SlS} {y:Int×RS} (h:Stepped m p k s R Option.none x y) (hu:x.2.1.Up):x.1=y.1∧SI x.2.1 p k x.2.2 y.2 Option.none:=by
 cases h with
 | same h1 h2 h3=>exact ⟨h1,h3⟩
 | down h1 h2 h3 h4 =>
   have:=(h4.up hu.1).1
   exact absurd this (by simp)
end stage
namespace same

open Go.RowKit base
theorem take_eq_succ {xs ys:List Int} {k:Nat} (hx:k < xs.length) (hy:k < ys.length) (h:xs.take k=ys.take k) (e:xs[k]=ys[k]):xs.take (k+1)=ys.take (k+1):=by
 rw [List.take_succ_eq_append_getElem hx,List.take_succ_eq_append_getElem hy,h,e]
theorem same_any (xs ys:List Int) (A A':Option Addr) (n m c c':Nat) (w:World) (hn:n=xs.length) (hm:m=ys.length) (hn2:n≤1000000) (hm2:m≤1000000)
  (hs:Sl w w.heap.size 1 A n (xs.map (Value.int .u8))) (ht:Sl w w.heap.size 1 A' m (ys.map (Value.int .u8))) :
  Calls Tryz.prog 114 #[.slice A n c,.slice A' m c'] w fun e w'=>e=.returned (.bool (decide (xs=ys)))∧Below w.heap.size w w':=by
 by_cases hl:n=m
 ·subst hl
  have HN:=Lib.hid hn;have HM:=Lib.hid hm;have HS:=Lib.hid hs;have HT:=Lib.hid ht
  clear hn hm hs ht
  go_enter Tryz.func114,Tryz.ntmps114
  go_wp2_with (fail)
  go_loopw [5] (fun i wr=>∃k:Nat,k≤n∧i=.int .i64 k∧xs.take k=ys.take k∧Below w.heap.size w wr) (fun i _=>n-(intOf i).toNat)
  case atStart=>exact ⟨0,by omega,rfl,by simp,Below.refl _ _⟩
  case round =>
   obtain ⟨k,hk,rfl,heq,hb⟩:=hrel
   have HE:=Lib.hid heq;have HB:=Lib.hid hb
   clear heq hb
   by_cases hlt:k < n
   ·have hx:k < xs.length:=by rw [←HN.out];exact hlt
    have hy:k < ys.length:=by rw [←HM.out];exact hlt
    obtain ⟨b,off,rfl,hbl,hc⟩:=HS.out.2 (by omega)
    obtain ⟨b',off',rfl,hbl',hc'⟩:=HT.out.2 (by omega)
    have c1:wr.cell? ⟨b,off+k,none⟩=some (.int .u8 xs[k]):=(HB.out.cell (p:=⟨b,off+k,none⟩) hbl).trans (hc k _ (by simp [hx]))
    have c2:wr.cell? ⟨b',off'+k,none⟩=some (.int .u8 ys[k]):=(HB.out.cell (p:=⟨b',off'+k,none⟩) hbl').trans (hc' k _ (by simp [hy]))
    have HX:=Lib.hid hx;have HY:=Lib.hid hy
    have i0:(0:Int)≤(k:Int):=by omega
    have i1:(k:Int) < (n:Int):=by omega
    clear hc hc'
    generalize hex:xs[k]=x at *
    generalize hey:ys[k]=y at *
    have HEX:=Lib.hid hex;have HEY:=Lib.hid hey
    clear hex hey
    by_cases hxy:x=y
    ·have b1:(x != y)=false:=by simp [hxy]
     have HXY:=Lib.hid hxy
     clear hxy
     go_wp2_with (fail)
     go_quiet (fail)
     go_wp2_with (fail)
     go_roundw
     case rel=>exact ⟨k+1,by omega,by go_num,take_eq_succ HX.out HY.out HE.out (HEX.out.trans (HXY.out.trans HEY.out.symm)),below_drewN HB.out _⟩
     case measure=>simp [intOf];omega
    ·have b1:(x != y)=true:=by simp [hxy]
     have hf:decide (xs=ys)=false:=by
      simp only [decide_eq_false_iff_not]
      intro h;subst h
      exact hxy (HEX.out.symm.trans HEY.out)
     have HF:=Lib.hid hf
     clear hxy hf
     go_wp2_with (fail)
     go_quiet (fail)
     go_wp2_with (fail)
     go_ret
     exact ⟨ret_bool HF.out.symm,below_drewN HB.out _⟩
   ·have hf:decide (xs=ys)=true:=by
     have:=HE.out
     rw [List.take_of_length_le (by rw [←HN.out];omega),List.take_of_length_le (by rw [←HM.out];omega)] at this
     simpa using this
    have HF:=Lib.hid hf
    clear hf
    go_wp2_with (fail)
    go_ret
    exact ⟨ret_bool HF.out.symm,HB.out⟩
 ·have hf:decide (xs=ys)=false:=by
   simp only [decide_eq_false_iff_not]
   intro h;subst h;omega
  have HF:=Lib.hid hf
  have b1:((n:Int) != (m:Int))=true:=by simp;omega
  clear hf hn hm hs ht
  go_enter Tryz.func114,Tryz.ntmps114
  go_wp2_with (fail)
  go_ret
  exact ⟨ret_bool HF.out.symm,Below.refl _ _⟩
end same
namespace lift

open Go.RowKit Go.ChangeShapes Go.WideShapes Go.Deep base
section
variable {H : Type} {enc : TypeId × Value → H} {P : Program}
theorem field_row {W:World} {t e s:TypeId} {v:Value} {fuel:Nat} {x:DataW H×List MemPlace} (ht:P.underlying t=some (.slice e)) (hc:P.cellsOf e=s) (hs:0 < s)
  (hf:DataW.trod enc P W 0 (fun _=>true) true fuel t [v]=some x) :
  ∃(A:Option Addr) (n c:Nat) (q:Nat→List Value),v=.slice A n c∧n≤c∧n≤maxLen∧Sl W W.heap.size s A n ((List.range n).flatMap q)∧
   ∀i,i < n→(q i).length=s∧∃m x,DataW.trod enc P W 0 (fun _=>true) true m e (q i)=some x:=by
 rcases open_slice ht hf with ⟨hcs,_⟩|⟨a,len,cap,m,k,D,Pl,hcs,_,hl,hm,hmm,_,hx⟩
 ·simp at hcs
  subst hcs
  exact ⟨none,0,0,fun _=>[],rfl,Nat.le_refl _,by simp [maxLen],⟨by simp,fun h=>absurd h (by omega)⟩,fun i hi=>absurd hi (by omega)⟩
 ·simp at hcs
  subst hcs
  simp only [if_true] at hmm
  subst hmm
  rw [hc] at hx
  obtain ⟨q,hq⟩:=choose_lt hx
  have hlen:∀i,i < len→(q i).length=s∧∀j,j < s→W.cell? (a.add (i*s+j))=(q i)[j]?:=by
   intro i hi
   obtain ⟨_,h1,h2⟩:=World.cells?_some (hq i (by omega)).1
   exact ⟨h1,fun j hj=>by rw [←h2 j hj,add_add']⟩
  obtain ⟨f1,f2⟩:=flat_get q s hs len (fun i hi=>(hlen i hi).1)
  have hlm:len≤maxLen:=Nat.le_trans hl hm
  have hrd:∀i,i < len→(q i).length=s∧∃m x,DataW.trod enc P W 0 (fun _=>true) true m e (q i)=some x:=fun i hi=>⟨(hlen i hi).1,k,_,(hq i (Nat.lt_of_lt_of_le hi hl)).2⟩
  refine ⟨some a,len,_,q,rfl,hl,hlm,⟨f1,fun hn=>?_⟩,hrd⟩
  have cell0:=(hlen 0 (by omega)).2 0 hs
  have h0l:=(hlen 0 (by omega)).1
  obtain ⟨b,off,spot⟩:=a
  have hsome:W.cell? ((⟨b,off,spot⟩:Addr).add (0*s+0))=some ((q 0)[0]'(by rw [h0l];exact hs)):=by rw [cell0];exact List.getElem?_eq_getElem (by rw [h0l];exact hs)
  have hspot:spot=none:=by simpa [Addr.add] using World.cell?_spot hsome
  subst hspot
  have hadd:∀k,(⟨b,off,none⟩:Addr).add k=⟨b,off+k,none⟩:=fun k=>by unfold Addr.add;split<;>simp_all
  refine ⟨b,off,rfl,?_,fun k u hu=>?_⟩
  ·have:=World.block_lt_of_cell? W _ hsome
   rw [hadd] at this
   exact this
  ·have hk:k < len*s:=by
    have:=(List.getElem?_eq_some_iff.1 hu).1
    omega
   have hi:k / s < len:=Nat.div_lt_of_lt_mul (by rw [Nat.mul_comm];exact hk)
   have hj:k % s < s:=Nat.mod_lt _ hs
   have hk2:k / s*s+k % s=k:=by rw [Nat.mul_comm];exact Nat.div_add_mod k s
   have g:=f2 (k / s) (k % s) hi hj
   rw [hk2] at g
   have c:=(hlen (k / s) hi).2 (k % s) hj
   rw [hk2,hadd] at c
   rw [c,←g]
   exact hu
theorem field_ints {W:World} {t e:TypeId} {k:IntKind} {v:Value} {fuel:Nat} {x:DataW H×List MemPlace} (ht:P.underlying t=some (.slice e)) (he:P.underlying e=some (.int k)) (hc:P.cellsOf e=1)
  (h:DataW.trod enc P W 0 (fun _=>true) true fuel t [v]=some x) :
  ∃(A:Option Addr) (c:Nat) (zs:List Int),v=.slice A zs.length c∧zs.length≤c∧zs.length≤maxLen∧Sl W W.heap.size 1 A zs.length (zs.map (.int k))∧∀z∈zs,(Lit.int k z).wf=true:=by
 obtain ⟨A,n,c,q,rfl,hnc,hn,hs,hq⟩:=field_row ht hc (by decide) h
 have each:∀i,i < n→∃z:Int,q i=[.int k z]∧(Lit.int k z).wf=true:=by
  intro i hi
  obtain ⟨_,m,x,hx⟩:=hq i hi
  obtain ⟨z,h1,_,h3⟩:=DataW.trod_int he hx
  exact ⟨z,h1,h3⟩
 obtain ⟨z,hz⟩:=choose_lt each
 have e1:∀m,m≤n→(List.range m).flatMap q=((List.range m).map z).map (Value.int k):=by
  intro m
  induction m with
  | zero=>intro _;simp
  | succ m ih =>
    intro hm
    rw [List.range_succ,List.flatMap_append,List.map_append,List.map_append,ih (by omega)]
    simp [(hz m (by omega)).1]
 rw [e1 n (Nat.le_refl _)] at hs
 have hl:((List.range n).map z).length=n:=by simp
 refine ⟨A,c,(List.range n).map z,by rw [hl],by rw [hl];exact hnc,by rw [hl];exact hn,by rw [hl];exact hs,fun y hy=>?_⟩
 obtain ⟨i,hi,rfl⟩:=List.mem_map.1 hy
 exact (hz i (List.mem_range.1 hi)).2
end
end lift
namespace record

open Go.RowKit Go.ChangeShapes Go.WideShapes Go.ChangeAt Go.Deep Go.Joins base obj mem
def InI (n:Int):Prop:=-9223372036854775808≤n∧n≤9223372036854775807
structure Rec.In (r:Rec):Prop where
 part:InI r.part
 seq:InI r.seq
 active:InI r.active
 confirmed:InI r.confirmed
 left:InI r.left
 bad:InI r.bad
structure Stg.In (s:Stg):Prop where
 session:InI s.session
 size:InI s.size
 have_:InI s.have_
theorem Rec.read {w:World} {g:Nat} {t:TypeId} {r:Rec} (h:Row w g t r.cells.toList):w.cell? ⟨g,0,none⟩=some (.int .i64 r.part)∧w.cell? ⟨g,1,none⟩=some (.int .i64 r.seq)∧w.cell? ⟨g,2,none⟩=some (.int .i64 r.active)∧
  w.cell? ⟨g,3,none⟩=some (.int .i64 r.confirmed)∧w.cell? ⟨g,4,none⟩=some (.int .i64 r.left)∧w.cell? ⟨g,5,none⟩=some (.int .i64 r.bad):=⟨h.cell 0,h.cell 1,h.cell 2,h.cell 3,h.cell 4,h.cell 5⟩
theorem Rec.val_eq (r:Rec):r.val=.agg #[.int .i64 r.part,.int .i64 r.seq,.int .i64 r.active,.int .i64 r.confirmed,.int .i64 r.left,.int .i64 r.bad]:=rfl
theorem Stg.read {w:World} {g:Nat} {t:TypeId} {s:Stg} (h:Row w g t s.cells.toList):w.cell? ⟨g,0,none⟩=some (.int .i64 s.session)∧w.cell? ⟨g,1,none⟩=some (.int .i64 s.size)∧w.cell? ⟨g,2,none⟩=some (.int .i64 s.have_):=⟨h.cell 0,h.cell 1,h.cell 2⟩
theorem Stg.val_eq (s:Stg):s.val=.agg #[.int .i64 s.session,.int .i64 s.size,.int .i64 s.have_]:=rfl
end record
end Go.Proofs.YtdldkkoplgkloaaGreat
