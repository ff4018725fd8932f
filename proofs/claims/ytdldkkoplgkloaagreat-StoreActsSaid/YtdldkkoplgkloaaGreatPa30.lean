/- PROVED HERE: lemmas of the law. CONDITIONS: each names its own. -/
import Derived.Test.YtdldkkoplgkloaaGreatPa29
namespace Go.Proofs.YtdldkkoplgkloaaGreat
set_option linter.unusedVariables false
set_option linter.unusedSimpArgs false
set_option maxRecDepth 100000
set_option maxHeartbeats 32000000
open Go.Value renaming int → ae
open Go.IntKind renaming i64 → aa
namespace store
open Go.RowKit Go.Deep base bC aX record bD aG image bN bL
section
variable {m m':DS} {xs:List PP} {n p:Nat} {x:PP} {t:aY}
structure DP where
 r:Rec
 s0:RS
 s1:RS
instance:Inhabited DP:=⟨⟨Rec.zero,RS.none,RS.none⟩⟩
def DP.slot (x:DP) (k:Int):RS:=if k=0 then x.s0 else x.s1
def DP.bj (x:DP) (k:Int) (s:RS):DP:=if k=0 then ⟨x.r,s,x.s1⟩ else ⟨x.r,x.s0,s⟩
def DP.ay (x:DP):Bool:=!(x.r.au==x.r.aj)
def DP.sp (x:DP):Int:=1-x.r.aj
structure UP (m:DS) (p:Nat) (x:PP) (X:DP):Prop where
 inv:Mj m p x (X.s0,X.s1)
 now:x.log.now=X.r
structure cE (m:DS) (xs:List PP) (D:List DP):Prop where
 calm:Calm m
 len:D.length=xs.length
 parts:∀p,p < xs.length→UP m p (xs.getD p default) (D.getD p default)
theorem en {α:Type} {l:List α} (h:n < l.length) (a d:α):(l.set n a).getD n d=a:=by simp [dD,h]
theorem gK {α:Type} {l:List α} {k:Nat} (h:n≠k) (a d:α):(l.set n a).getD k d=l.getD k d:=by simp [dD,List.getElem?_set,h]
theorem UP.ay {m:DS} {p:Nat} {x:PP} {X:DP} (h:UP m p x X):x.ay=X.ay:=by unfold PP.ay DP.ay;rw [h.now]
theorem UP.sp {m:DS} {p:Nat} {x:PP} {X:DP} (h:UP m p x X):x.sp=X.sp:=by unfold PP.sp DP.sp;rw [h.now]
theorem UP.right {m:DS} {p:Nat} {x:PP} {X:DP} (h:UP m p x X):X.r.right=true:=by rw [←h.now];exact h.inv.log.right
theorem UP.pH {X:DP} (h:UP m p x X):X.sp=0∨X.sp=1:=by
 have:=eu.iZ h.right;unfold DP.sp;omega
theorem UP.QD {X:DP} (h:UP m p x X):X.r.au=0∨X.r.au=1:=by
 have:=eu.iZ h.right;omega
theorem UP.si {X:DP} (h:UP m p x X) {k:Int} (hk:k=0∨k=1):SI m p k (x.slot k) (X.slot k) Option.none:=by
 rcases hk with rfl|rfl
 ·exact h.inv.s0
 ·exact h.inv.s1
theorem UP.other {m m':DS} {p:Nat} {x:PP} {X:DP} (h:UP m p x X) (hc:Calm m) (cZ:Calm m') (hl:m'.ar.length=m.ar.length) (hn:∀j:Nat,10*p≤j→j < 10*p+10→m'.now j=m.now j):UP m' p x X:=⟨h.inv.other hc cZ hl hn,h.now⟩
theorem zV {s:wU} (h:kE m p s) (hg:m'.Good) (hb:m'.ia) (hl:m'.ar.length=m.ar.length) (h0:m'.now (10*p)=m.now (10*p)) (h1:m'.now (10*p+1)=m.now (10*p+1)):kE m' p s:=by
 have hh:=h.held
 have e0:∀c:Int,c=0∨c=1→m'.now ((p:Int)*10+c).toNat=m.now ((p:Int)*10+c).toNat:=fun c hc=>by
  rcases hc with rfl|rfl
  ·rw [show ((p:Int)*10+0).toNat=10*p by omega];exact h0
  ·rw [show ((p:Int)*10+1).toNat=10*p+1 by omega];exact h1
 refine ⟨hg,hb,h.p0,h.p1,by rw [hl];exact h.room,hh,h.right,h.part,?_,?_⟩
 ·rw [e0 _ hh];exact h.cur
 ·intro r;rw [e0 _ (by omega)];exact h.old r
theorem cE.slot {D:List DP} (h:cE m xs D) {p:Nat} (hp:p < xs.length) {k:Int} (hk:k=0∨k=1) {s:cy} {R:RS} (hs:SI m' p k s R Option.none) (hu:m'.Up) (hl:m'.ar.length=m.ar.length) (ho:∀j,aG.Outside p k j→m'.now j=m.now j) :
  cE m' (xs.set p ((xs.getD p default).bj k s)) (D.set p ((D.getD p default).bj k R)):=by
 have cZ:Calm m':=⟨hu,(hs.up hu.1).2.1,hs.pl.bu,hs.pl.eQ⟩
 refine ⟨cZ,by simp [h.len],fun q hq=>?_⟩;rw [List.length_set] at hq;by_cases sD:p=q
 ·subst sD;rw [en hp,en (by rw [h.len];exact hp)];have qI:=h.parts p hp;have Ln:kE m' p (xs.getD p default).log:=zV qI.inv.log cZ.bu cZ.eQ hl (ho _ (by unfold aG.Outside bz;omega)) (ho _ (by unfold aG.Outside bz;omega));rcases hk with rfl|rfl
  ·exact ⟨⟨Ln,hs,qI.inv.s1.other h.calm.up.1 cZ.bu cZ.eQ hl cZ.waits cZ.up.1 fun j hj=>ho j (by unfold aG.Outside bz at hj ⊢;omega)⟩,qI.now⟩
  ·exact ⟨⟨Ln,qI.inv.s0.other h.calm.up.1 cZ.bu cZ.eQ hl cZ.waits cZ.up.1 fun j hj=>ho j (by unfold aG.Outside bz at hj ⊢;omega),hs⟩,qI.now⟩
 ·rw [gK sD,gK sD];exact (h.parts q hq).other h.calm cZ hl fun j h1 h2=>ho j (by unfold aG.Outside bz;omega)
theorem cE.log {D:List DP} (h:cE m xs D) {p:Nat} (hp:p < xs.length) {y:wU} (hy:kE m' p y) (hu:m'.Up) (hw:m'.waits=[]) (hl:m'.ar.length=m.ar.length) (ho:∀j:Nat,j≠10*p→j≠10*p+1→m'.now j=m.now j) :
  cE m' (xs.set p ⟨y,(xs.getD p default).s0,(xs.getD p default).s1⟩) (D.set p ⟨y.now,(D.getD p default).s0,(D.getD p default).s1⟩):=by
 have cZ:Calm m':=⟨hu,hw,hy.bu,hy.eQ⟩
 refine ⟨cZ,by simp [h.len],fun q hq=>?_⟩;rw [List.length_set] at hq;by_cases sD:p=q
 ·subst sD;rw [en hp,en (by rw [h.len];exact hp)];have qI:=h.parts p hp;exact ⟨⟨hy,qI.inv.s0.other h.calm.up.1 cZ.bu cZ.eQ hl cZ.waits cZ.up.1 fun j hj=>ho j (by unfold aG.Outside bz at hj;omega) (by unfold aG.Outside bz at hj;omega),qI.inv.s1.other h.calm.up.1 cZ.bu cZ.eQ hl cZ.waits cZ.up.1 fun j hj=>ho j (by unfold aG.Outside bz at hj;omega) (by unfold aG.Outside bz at hj;omega)⟩,rfl⟩
 ·rw [gK sD,gK sD];exact (h.parts q hq).other h.calm cZ hl fun j h1 h2=>ho j (by omega) (by omega)
theorem cE.Hy {D:List DP} (h:cE m xs D) (hr:t.right=true) (hl:xs.length=t.parts.length) (gH:10*xs.length≤m.ar.length):iJ t m xs:=by
 refine ⟨hr,hl,h.calm.eQ,h.calm.bu,gH,by rw [h.calm.waits];simp,fun x hx=>?_⟩;obtain ⟨p,hp,rfl⟩:=List.mem_iff_getElem.1 hx;have hi:=(h.parts p hp).inv;rw [qM hp] at hi;have hr:=eu.iZ hi.log.right;exact ⟨by omega,by omega,hi.log.held,by omega,by omega,hi.s0.right,hi.s1.right⟩
def bU (D:List DP) (q:Int):Int:=if q < 0∨(D.length:Int)≤q then 3 else if (D.getD q.toNat default).ay then 18 else 0
def ky (D:List DP) (q se sz:Int):Int×List DP :=
 if bU D q≠0 then (bU D q,D)
 else ((fk ((D.getD q.toNat default).slot (D.getD q.toNat default).sp) se sz).1,D.set q.toNat ((D.getD q.toNat default).bj (D.getD q.toNat default).sp (fk ((D.getD q.toNat default).slot (D.getD q.toNat default).sp) se sz).2))
def mW (D:List DP) (q se no:Int) (data:List Int):Int×List DP :=
 if bU D q≠0 then (bU D q,D)
 else ((ja ((D.getD q.toNat default).slot (D.getD q.toNat default).sp) se no data).1,D.set q.toNat ((D.getD q.toNat default).bj (D.getD q.toNat default).sp (ja ((D.getD q.toNat default).slot (D.getD q.toNat default).sp) se no data).2))
def cM (D:List DP) (q se:Int):Int :=
 if bU D q≠0 then bU D q
 else if ((D.getD q.toNat default).slot (D.getD q.toNat default).sp).has=false then 16 else if ((D.getD q.toNat default).slot (D.getD q.toNat default).sp).st.aC≠se then 17 else 0
def tQ (D:List DP) (q se:Int):Int×List DP :=
 if cM D q se≠0 then (cM D q se,D)
 else (0,D.set q.toNat ((D.getD q.toNat default).bj (D.getD q.toNat default).sp RS.none))
def fv (t:aY) (p:Nat) (R:RS):aq×Int :=
 if (dm R).2≠0 then (aq.none,(dm R).2)
 else if (b8 (dm R).1).2≠0 then (aq.none,(b8 (dm R).1).2)
 else if bX t p (b8 (dm R).1).1 0≠0 then (aq.none,bX t p (b8 (dm R).1).1 0)
 else ((b8 (dm R).1).1,0)
def eF (D:List DP) (p:Nat) (r:Rec):Int×List DP :=
 if 4294967295≤(D.getD p default).r.seq then (4,D)
 else if (bq p (D.getD p default).r r).right then (0,D.set p ⟨bq p (D.getD p default).r r,(D.getD p default).s0,(D.getD p default).s1⟩)
 else (3,D)
def mG (D:List DP) (q:Int):Int×List DP :=
 if q < 0∨(D.length:Int)≤q then (3,D)
 else if (D.getD q.toNat default).ay=false then (16,D)
 else eF D q.toNat (Rec.oZ (D.getD q.toNat default).r)
def rm (t:aY) (D:List DP) (p:Nat):aq×Int:=fv t p ((D.getD p default).slot (D.getD p default).r.au)
def jA (t:aY) (D:List DP) (q:Int):aq×Int:=if q < 0∨(D.length:Int)≤q then (aq.none,3) else rm t D q.toNat
def iu (t:aY) (D:List DP) (q:Int):(aq×Int)×List DP :=
 if q < 0∨(D.length:Int)≤q then ((aq.none,3),D)
 else if (D.getD q.toNat default).ay=false then (rm t D q.toNat,D)
 else if (eF D q.toNat (aN (D.getD q.toNat default).r)).1≠0 then ((aq.none,(eF D q.toNat (aN (D.getD q.toNat default).r)).1),(eF D q.toNat (aN (D.getD q.toNat default).r)).2)
 else (fv t q.toNat (((eF D q.toNat (aN (D.getD q.toNat default).r)).2.getD q.toNat default).slot (aN (D.getD q.toNat default).r).au),(eF D q.toNat (aN (D.getD q.toNat default).r)).2)
def qN (D:List DP) (p:Nat):List Int×Int:=dm ((D.getD p default).slot (D.getD p default).sp)
def mV (t:aY) (D:List DP) (q se:Int):Int×List DP :=
 if cM D q se≠0 then (cM D q se,D)
 else if (qN D q.toNat).2≠0 then ((qN D q.toNat).2,D)
 else if (b8 (qN D q.toNat).1).2≠0 then ((b8 (qN D q.toNat).1).2,D)
 else if (rm t D q.toNat).2≠0 then ((rm t D q.toNat).2,D)
 else if bX t q (b8 (qN D q.toNat).1).1 (rm t D q.toNat).1.version≠0 then (bX t q (b8 (qN D q.toNat).1).1 (rm t D q.toNat).1.version,D)
 else eF D q.toNat (fL t (D.getD q.toNat default).r)
section
variable {m : DS} {xs : List PP} {D : List DP}
theorem cE.free (h:cE m xs D) (q:Int):gL xs q=bU D q:=by
 unfold gL bU;rw [h.len];by_cases hq:q < 0∨(xs.length:Int)≤q
 ·rw [if_pos hq,if_pos hq]
 ·rw [if_neg hq,if_neg hq,(h.parts q.toNat (by omega)).ay]
theorem iA {q:Int} (h:bU D q=0):∃p:Nat,q=p∧p < D.length:=by
 unfold bU at h;by_cases hq:q < 0∨(D.length:Int)≤q
 ·rw [if_pos hq] at h;simp at h
 ·exact ⟨q.toNat,by omega,by omega⟩
theorem cE.begin (h:cE m xs D) (q se sz:Int):(jv m xs q se sz).1=(ky D q se sz).1∧cE (jv m xs q se sz).2.1 (jv m xs q se sz).2.2 (ky D q se sz).2∧(jv m xs q se sz).2.1.ar.length=m.ar.length:=by
 unfold jv ky;rw [h.free q];by_cases h0:bU D q≠0
 ·rw [if_pos h0,if_pos h0];exact ⟨rfl,h,rfl⟩
 ·rw [if_neg h0,if_neg h0];obtain ⟨p,rfl,hp⟩:=iA (by simpa using h0);rw [h.len] at hp;have hu:=h.parts p hp;simp only [dC];rw [hu.sp];have hs:=hu.si hu.pH;obtain ⟨e1,e2,e3⟩:=hs.TB h.calm.up se sz
  have hl:(eL m p (D.getD p default).sp ((xs.getD p default).slot (D.getD p default).sp) se sz).2.1.ar.length=m.ar.length:=by
   unfold eL;split
   ·split<;>exact iC _ _ _
   ·rfl
  exact ⟨e1,h.slot hp hu.pH e2 e3 hl fun j hj=>Jq hs.pl _ se sz hj,hl⟩
theorem cE.load (h:cE m xs D) (q se no:Int) {data:List Int} (hb:bn data):(lf m xs q se no data).1=(mW D q se no data).1∧cE (lf m xs q se no data).2.1 (lf m xs q se no data).2.2 (mW D q se no data).2∧(lf m xs q se no data).2.1.ar.length=m.ar.length:=by
 unfold lf mW;rw [h.free q];by_cases h0:bU D q≠0
 ·rw [if_pos h0,if_pos h0];exact ⟨rfl,h,rfl⟩
 ·rw [if_neg h0,if_neg h0];obtain ⟨p,rfl,hp⟩:=iA (by simpa using h0);rw [h.len] at hp;have hu:=h.parts p hp;simp only [dC];rw [hu.sp];have hs:=hu.si hu.pH;obtain ⟨e1,e2,e3⟩:=hs.ZK h.calm.up se no hb;exact ⟨e1,h.slot hp hu.pH e2 e3 (xx _ _ _ _ _ _ _) fun j hj=>Nw hs.pl hs.right se no hb hj,xx _ _ _ _ _ _ _⟩
theorem cE.begun (h:cE m xs D) (q se:Int):gR xs q se=cM D q se:=by
 unfold gR cM;rw [h.free q];by_cases h0:bU D q≠0
 ·rw [if_pos h0,if_pos h0]
 ·rw [if_neg h0,if_neg h0];obtain ⟨p,rfl,hp⟩:=iA (by simpa using h0);rw [h.len] at hp;have hu:=h.parts p hp;simp only [dC];simp only [hu.sp];have hm:=(hu.si hu.pH).mem;simp only [hm.has,hm.st]
theorem cE.hold (h:cE m xs D) {p:Nat} (hp:p < xs.length) {k:Int} (hk:k=0∨k=1):dq t m p (xs.getD p default) k=fv t p ((D.getD p default).slot k):=by
 unfold dq fv;rw [((h.parts p hp).si hk).Cc h.calm.up.1]
theorem cE.zZ (h:cE m xs D) {p:Nat} (hp:p < xs.length):dq t m p (xs.getD p default) (xs.getD p default).log.now.au=rm t D p:=by
 rw [(h.parts p hp).now];exact h.hold hp (h.parts p hp).QD
theorem cE.save (h:cE m xs D) {p:Nat} (hp:p < xs.length) (r:Rec):(dB m xs p r).1=(eF D p r).1∧cE (dB m xs p r).2.1 (dB m xs p r).2.2 (eF D p r).2∧(dB m xs p r).2.1.ar.length=m.ar.length:=by
 have hu:=h.parts p hp;have hl:=hu.inv.log;unfold dB eF qk;rw [hu.now];by_cases h1:4294967295≤(D.getD p default).r.seq
 ·rw [if_pos h1,if_pos h1];refine ⟨rfl,?_,rfl⟩;have e:xs.set p ⟨(xs.getD p default).log,(xs.getD p default).s0,(xs.getD p default).s1⟩=xs:=vW hp;simp only [e];exact h
 ·rw [if_neg h1,if_neg h1];by_cases h2:(bq p (D.getD p default).r r).right=true
  ·rw [if_pos h2,if_pos h2];obtain ⟨a0,a1⟩:=hl.QB;obtain ⟨w1,w2⟩:=zz (m:=m) (i:=(p:Int)*10+(1-(xs.getD p default).log.held)) (bs:=(bq p (D.getD p default).r r).bytes) a0 a1 (Rec.bY _) h.calm.up;have w3:(wf m ((p:Int)*10+(1-(xs.getD p default).log.held)) (bq p (D.getD p default).r r).bytes).1=0:=by rw [w1]
   obtain ⟨v1,v2,v3⟩:=qR h.calm.bu a0 a1 (Rec.bY _) w3;have ud:=hl.save (nx:=bq p (D.getD p default).r r) (r:=r) (by rw [hu.now]) h2 w3;rw [if_pos w3];have hh:=hl.held;exact ⟨rfl,h.log hp ud.1 w2 v1 (iC _ _ _) fun j h1 h2=>by rw [v3,if_neg (by omega)],iC _ _ _⟩
  ·rw [if_neg h2,if_neg h2];refine ⟨rfl,?_,rfl⟩;have e:xs.set p ⟨(xs.getD p default).log,(xs.getD p default).s0,(xs.getD p default).s1⟩=xs:=vW hp;simp only [e];exact h
theorem cE.drop (h:cE m xs D) (q se:Int):(lh m xs q se).1=(tQ D q se).1∧cE (lh m xs q se).2.1 (lh m xs q se).2.2 (tQ D q se).2∧(lh m xs q se).2.1.ar.length=m.ar.length:=by
 unfold lh tQ;rw [h.begun q se];by_cases h0:cM D q se≠0
 ·rw [if_pos h0,if_pos h0];exact ⟨rfl,h,rfl⟩
 ·rw [if_neg h0,if_neg h0]
  have hf:bU D q=0:=by
   by_cases h1:bU D q=0
   ·exact h1
   ·exfalso;apply h0;unfold cM;rw [if_pos h1];exact h1
  obtain ⟨p,rfl,hp⟩:=iA hf;rw [h.len] at hp;have hu:=h.parts p hp;simp only [dC];rw [hu.sp];have hs:=hu.si hu.pH;have wG:=Wj hs.pl h.calm.up ((xs.getD p default).slot (D.getD p default).sp);obtain ⟨e1,e2⟩:=hs.clear.up wG
  have hl:(gy m p (D.getD p default).sp ((xs.getD p default).slot (D.getD p default).sp)).2.1.ar.length=m.ar.length:=by
   unfold gy;split<;>exact iC _ _ _
  exact ⟨e1,h.slot hp hu.pH e2 wG hl fun j hj=>Tv hs.pl _ hj,hl⟩
theorem cE.C7 (h:cE m xs D) (q:Int):(fQ m xs q).1=(mG D q).1∧cE (fQ m xs q).2.1 (fQ m xs q).2.2 (mG D q).2∧(fQ m xs q).2.1.ar.length=m.ar.length:=by
 unfold fQ mG;rw [h.len];by_cases hq:q < 0∨(xs.length:Int)≤q
 ·rw [if_pos hq,if_pos hq];exact ⟨rfl,h,rfl⟩
 ·rw [if_neg hq,if_neg hq];have hp:q.toNat < xs.length:=by omega
  have hu:=h.parts q.toNat hp;rw [hu.ay,hu.now];by_cases h2:(D.getD q.toNat default).ay=false
  ·rw [if_pos h2,if_pos h2];exact ⟨rfl,h,rfl⟩
  ·rw [if_neg h2,if_neg h2];exact h.save hp _
theorem cE.image (h:cE m xs D) (q:Int):tY t m xs q=jA t D q:=by
 unfold tY jA;rw [h.len];by_cases hq:q < 0∨(xs.length:Int)≤q
 ·rw [if_pos hq,if_pos hq]
 ·rw [if_neg hq,if_neg hq];exact h.zZ (by omega)
theorem Mb {X:Rec} (h:X.right=true):(aN X).au=0∨(aN X).au=1:=by
 have:=eu.iZ h;unfold aN;split
 ·show X.aj=0∨X.aj=1;omega
 ·show X.au=0∨X.au=1;omega
theorem cE.Mc (h:cE m xs D) (q:Int):(iY t m xs q).1=(iu t D q).1∧cE (iY t m xs q).2.1 (iY t m xs q).2.2 (iu t D q).2∧(iY t m xs q).2.1.ar.length=m.ar.length:=by
 unfold iY iu;rw [h.len];by_cases hq:q < 0∨(xs.length:Int)≤q
 ·rw [if_pos hq,if_pos hq];exact ⟨rfl,h,rfl⟩
 ·rw [if_neg hq,if_neg hq];have hp:q.toNat < xs.length:=by omega
  have hu:=h.parts q.toNat hp;rw [hu.ay];by_cases h2:(D.getD q.toNat default).ay=false
  ·rw [if_pos h2,if_pos h2];exact ⟨h.zZ hp,h,rfl⟩
  ·rw [if_neg h2,if_neg h2,hu.now];obtain ⟨s1,s2,s3⟩:=h.save hp (aN (D.getD q.toNat default).r);rw [s1];by_cases h3:(eF D q.toNat (aN (D.getD q.toNat default).r)).1≠0
   ·rw [if_pos h3,if_pos h3];exact ⟨rfl,s2,s3⟩
   ·rw [if_neg h3,if_neg h3];exact ⟨s2.hold (by simpa [dB] using hp) (Mb hu.right),s2,s3⟩
theorem cE.E9 (h:cE m xs D) (q se:Int):(la t m xs q se).1=(mV t D q se).1∧cE (la t m xs q se).2.1 (la t m xs q se).2.2 (mV t D q se).2∧(la t m xs q se).2.1.ar.length=m.ar.length:=by
 unfold la mV;rw [h.begun q se];by_cases h0:cM D q se≠0
 ·rw [if_pos h0,if_pos h0];exact ⟨rfl,h,rfl⟩
 ·rw [if_neg h0,if_neg h0]
  have hf:bU D q=0:=by
   by_cases h1:bU D q=0
   ·exact h1
   ·exfalso;apply h0;unfold cM;rw [if_pos h1];exact h1
  obtain ⟨p,rfl,hp⟩:=iA hf;rw [h.len] at hp;have hu:=h.parts p hp;simp only [dC]
  have e1:rE m p (xs.getD p default)=qN D p:=by
   unfold rE qN;rw [hu.sp];exact (hu.si hu.pH).Cc h.calm.up.1
  rw [e1,h.zZ hp];by_cases h1:(qN D p).2≠0
  ·rw [if_pos h1,if_pos h1];exact ⟨rfl,h,rfl⟩
  rw [if_neg h1,if_neg h1];by_cases h2:(b8 (qN D p).1).2≠0
  ·rw [if_pos h2,if_pos h2];exact ⟨rfl,h,rfl⟩
  rw [if_neg h2,if_neg h2];by_cases h3:(rm t D p).2≠0
  ·rw [if_pos h3,if_pos h3];exact ⟨rfl,h,rfl⟩
  rw [if_neg h3,if_neg h3];by_cases h4:bX t p (b8 (qN D p).1).1 (rm t D p).1.version≠0
  ·rw [if_pos h4,if_pos h4];exact ⟨rfl,h,rfl⟩
  rw [if_neg h4,if_neg h4,hu.now];exact h.save hp _
end
def xC (js:List aq):List DP:=(List.range js.length).map fun (p:Nat)=>⟨bd p,fU (js.getD p aq.none).bytes,RS.none⟩
theorem sK.made {js:List aq} (h:sK m xs (sx js)):cE m xs (xC js):=by
 have hl:js.length=xs.length:=by have:=h.len;simpa [sx] using this
 refine ⟨h.calm,by simp [xC,hl],fun p hp=>?_⟩
 have e1:(sx js).getD p default=(fU (js.getD p aq.none).bytes,RS.none):=by
  simp only [sx,dD,List.getElem?_map];rw [cN (by omega)];rfl
 have e2:(xC js).getD p default=⟨bd p,fU (js.getD p aq.none).bytes,RS.none⟩:=by
  simp [xC,dD,List.getElem?_map,show p < js.length by omega]
 have:=h.parts p hp;rw [e1] at this;rw [e2];exact ⟨this,h.recs p hp⟩
end
section
variable {i:aq} {se:Int} {bs:List Int} {no:Nat}
def dH (se:Int) (bs:List Int) (no:Nat):RS:=⟨true,⟨se,bs.length,2 ^ no-1⟩,(List.range no).map (fc bs)++List.replicate (ec bs-no) []⟩
theorem M4 (R:RS) {bs:List Int} {se:Int} (h:(aR.mk se bs.length 0).right=true):fk R se bs.length=(0,dH se bs 0):=by
 unfold fk;rw [if_pos h,yx];simp [dH]
theorem R9 (hn:no < ec bs):ja (dH se bs no) se no (fc bs no)=(0,dH se bs (no+1)):=by
 have hl:(dH se bs no).blocks.length=ec bs:=by simp [dH];omega
 have hw:ju (dH se bs no) se no (fc bs no).length=0:=by
  unfold ju;rw [if_neg (by simp [dH]),if_neg (by simp [dH]),if_neg (by rw [hl];omega),if_neg (by rw [pW hn];simp)]
 have hg:(dH se bs no).blocks.getD no []=[]:=by
  have e:((List.range no).map (fc bs)++List.replicate (ec bs-no) ([]:List Int)).getD no []=[]:=by
   rw [dD,List.getElem?_append_right (by simp)];simp;cases h:(List.replicate (ec bs-no) ([]:List Int))[0]? with
   | none=>rfl
   | some x =>
     have:=List.eq_of_mem_replicate (List.mem_of_getElem? h);simp [this]
  exact e
 unfold ja;rw [hw,if_neg (by simp),dC,if_neg (by rw [hg];simp)]
 have kT:(dH se bs no).blocks.set no (fc bs no)=(List.range (no+1)).map (fc bs)++List.replicate (ec bs-(no+1)) []:=by
  obtain ⟨k,hk⟩:∃k,ec bs-no=k+1:=⟨ec bs-no-1,by omega⟩
  have:ec bs-(no+1)=k:=by omega
  simp only [dH,hk,this,List.replicate_succ,List.range_succ,List.map_append,List.map_cons,List.map_nil,List.append_assoc,List.cons_append,List.nil_append];rw [List.set_append_right _ _ (by simp)];simp
 rw [kT];simp only [dH,Prod.mk.injEq,true_and,RS.mk.injEq,aR.mk.injEq];refine ⟨?_,trivial⟩;have:(2:Int) ^ (no+1)=2 ^ no*2:=by rw [Int.pow_succ]
 omega
theorem Dr :dm (dH se bs (ec bs))=(bs,0):=by
 unfold dm;have hb:(dH se bs (ec bs)).blocks=(List.range (ec bs)).map (fc bs):=by simp [dH]
 rw [if_neg (by simp [dH]),if_neg (by
  rw [hb];rintro ⟨b,hb,rfl⟩;obtain ⟨j,hj,e⟩:=List.mem_map.1 hb;have:=pW (List.mem_range.1 hj);rw [e] at this
  simp at this),hb]
 have h2:=chunks (uE bs) (ec bs);rw [show ((List.range (ec bs)).map (fc bs))=((List.range (ec bs)).map fun j=>((uE bs).drop (16*j)).take 16) from rfl,h2,←El,List.take_length];simp [dH,uE]
theorem Jl (hr:i.right) {no:Nat} (h:16*no < i.bytes.length):iI i no false=fc i.bytes no:=by
 have hb:=nS i;have h96:i.code.length≤96:=by obtain ⟨_,_,_,_,_,_,_,h⟩:=hr;omega
 show mm i no=_
 unfold mm;rw [if_pos ⟨hr,by omega,by omega,by omega⟩,dC]
theorem EI {t:aY} {p:Nat} {R:RS} (hr:i.right) (hb:dm R=(i.bytes,0)) (hc:bX t p i 0=0):fv t p R=(i,0):=by
 unfold fv;rw [hb];simp only [IM i hr];rw [if_neg (by simp),if_neg (by simp),if_neg (by simpa using hc)]
theorem Ds (i:aq):dm (fU i.bytes)=(i.bytes,0):=PB (by rw [nS];omega)
def gQ (r:Rec) (R:RS):List DP:=[⟨r,fU uR.bytes,R⟩,⟨bd 1,fU exJ.bytes,RS.none⟩]
theorem Tl:uR.right:=by unfold aq.right uR;decide
theorem xY:gu.right:=by unfold aq.right gu;decide
theorem zk:gu.bytes.length=50:=by rw [nS];rfl
theorem LS:ec gu.bytes=4:=by unfold ec;rw [zk]
theorem XC:xC (F5.take 2)=gQ (bd 0) RS.none:=by simp [xC,F5,gQ,List.range_succ]
theorem Ut:ky (gQ (bd 0) RS.none) 0 5 50=(0,gQ (bd 0) (dH 5 gu.bytes 0)):=by
 have h:fk RS.none 5 50=(0,dH 5 gu.bytes 0):=by
  have h:=M4 (bs:=gu.bytes) (se:=5) RS.none (by rw [zk];decide);rw [zk] at h;exact h
 generalize dH 5 gu.bytes 0=S at *;simp [ky,bU,gQ,DP.ay,DP.sp,DP.slot,DP.bj,bd];exact ⟨by rw [h],by rw [h]⟩
theorem XE (h:no < 4):mW (gQ (bd 0) (dH 5 gu.bytes no)) 0 5 no (iI gu no false)=(0,gQ (bd 0) (dH 5 gu.bytes (no+1))):=by
 have h1:=R9 (bs:=gu.bytes) (se:=5) (no:=no) (by rw [LS];exact h);rw [←Jl xY (by rw [zk];omega)] at h1;generalize dH 5 gu.bytes no=S,dH 5 gu.bytes (no+1)=S',iI gu no false=dd at *;simp [mW,bU,gQ,DP.ay,DP.sp,DP.slot,DP.bj,bd];exact ⟨by rw [h1],by rw [h1]⟩
def lu (n:Nat):Rec:=match n with
 | 0=>⟨0,2,1,0,2,0⟩
 | 1=>⟨0,3,1,0,1,0⟩
 | 2=>⟨0,4,1,0,0,0⟩
 | _=>⟨0,5,0,0,0,2⟩
theorem Kd:fv sV 0 (fU uR.bytes)=(uR,0):=EI Tl (Ds uR) (by decide +kernel)
theorem Us:fv sV 0 (dH 5 gu.bytes 4)=(gu,0):=EI xY (by have:=Dr (bs:=gu.bytes) (se:=5);rwa [LS] at this) (by decide +kernel)
theorem XB (R r:Rec) (S:RS) (h1:¬4294967295≤R.seq) (h2:(bq 0 R r).right=true):eF (gQ R S) 0 r=(0,gQ (bq 0 R r) S):=by
 unfold eF;rw [show ((gQ R S).getD 0 default)=⟨R,fU uR.bytes,S⟩ from rfl,if_neg h1,if_pos (by exact h2)];rfl
theorem zw {R r R':Rec} (S:RS) (h1:¬4294967295≤R.seq) (h2:bq 0 R r=R') (h3:R'.right=true):eF (gQ R S) 0 r=(0,gQ R' S):=by
 have:=XB R r S h1 (by rw [h2];exact h3)
 rwa [h2] at this
theorem XA:mV sV (gQ (bd 0) (dH 5 gu.bytes 4)) 0 5=(0,gQ (lu 0) (dH 5 gu.bytes 4)):=by
 have hb:dm (dH 5 gu.bytes 4)=(gu.bytes,0):=by have:=Dr (bs:=gu.bytes) (se:=5);rwa [LS] at this
 have h1:(dH 5 gu.bytes 4).has=true:=rfl;have h2:(dH 5 gu.bytes 4).st.aC=5:=rfl;have h0:=Kd;have hg:=IM gu xY;have hc:bX sV 0 gu uR.version=0:=by decide +kernel
 generalize dH 5 gu.bytes 4=S at *;have hB:cM (gQ (bd 0) S) 0 5=0:=by simp [cM,bU,gQ,DP.ay,DP.sp,DP.slot,bd,h1,h2]
 have hS:qN (gQ (bd 0) S) 0=(gu.bytes,0):=hb;have hA:rm sV (gQ (bd 0) S) 0=(uR,0):=h0;unfold mV;rw [hB,if_neg (by simp),show (0:Int).toNat=0 from rfl,hS,hA,hg,if_neg (by simp),if_neg (by simp),if_neg (by simp),if_neg (by simpa using hc)];exact zw S (by decide) (by simp [bq,fL,lu,gQ,bd,sV]) (by decide)
theorem XF (n:Nat) (h:n < 4):iu sV (gQ (lu n) (dH 5 gu.bytes 4)) 0=((if n < 2 then gu else uR,0),gQ (lu (n+1)) (dH 5 gu.bytes 4)):=by
 have h0:=Kd;have h1:=Us;generalize dH 5 gu.bytes 4=S at *;generalize hA:fU uR.bytes=A at *;rcases (by omega:n=0∨n=1∨n=2∨n=3) with rfl|rfl|rfl|rfl
 ·have e:eF (gQ (lu 0) S) 0 (aN (lu 0))=(0,gQ (lu 1) S):=zw S (by decide) (by simp [bq,aN,lu]) (by decide);unfold iu;rw [if_neg (by simp [gQ]),if_neg (by simp [gQ,lu,DP.ay]),show ((gQ (lu 0) S).getD (0:Int).toNat default).r=lu 0 from rfl,show (0:Int).toNat=0 from rfl,e,if_neg (by simp)];show (fv sV 0 S,_)=_
  rw [h1];rfl
 ·have e:eF (gQ (lu 1) S) 0 (aN (lu 1))=(0,gQ (lu 2) S):=zw S (by decide) (by simp [bq,aN,lu]) (by decide);unfold iu;rw [if_neg (by simp [gQ]),if_neg (by simp [gQ,lu,DP.ay]),show ((gQ (lu 1) S).getD (0:Int).toNat default).r=lu 1 from rfl,show (0:Int).toNat=0 from rfl,e,if_neg (by simp)];show (fv sV 0 S,_)=_
  rw [h1];rfl
 ·have e:eF (gQ (lu 2) S) 0 (aN (lu 2))=(0,gQ (lu 3) S):=zw S (by decide) (by simp [bq,aN,lu]) (by decide);unfold iu;rw [if_neg (by simp [gQ]),if_neg (by simp [gQ,lu,DP.ay]),show ((gQ (lu 2) S).getD (0:Int).toNat default).r=lu 2 from rfl,show (0:Int).toNat=0 from rfl,e,if_neg (by simp)];show (fv sV 0 (fU uR.bytes),_)=_
  rw [hA,h0];rfl
 ·unfold iu;rw [if_neg (by simp [gQ]),if_pos (by simp [gQ,lu,DP.ay])];show (fv sV 0 (fU uR.bytes),_)=_
  rw [hA,h0];rfl
end
end store
namespace store
open Go.RowKit Go.Deep base obj mem sep aW aX record bD aG image bN bL chain bC
structure kD (w0 w:World) (ad:fy) (t:aY) (d:Nat) (m:DS) (xs:List PP) (D:List DP) (l:List aI):Prop where
 st:St w0 w (aZ ad t d m xs::l)
 inv:cE m xs D
 len:xs.length=t.parts.length
 room:10*xs.length≤m.ar.length
 right:t.right=true
section
variable {w0 w : World} {ad : fy} {t : aY} {d : Nat} {m : DS} {xs : List PP} {D : List DP} {l : List aI}
theorem kD.ok (h:kD w0 w ad t d m xs D l):iJ t m xs:=h.inv.Hy h.right h.len h.room
theorem kD.step (h:kD w0 w ad t d m xs D l) {w':World} {m':DS} {qv:List PP} {D':List DP} {l':List aI} (ak:St w0 w' (aZ ad t d m' qv::l')) (hi:cE m' qv D') (hD:D'.length=D.length) (hl:m'.ar.length=m.ar.length):kD w0 w' ad t d m' qv D' l':=by
 have e:qv.length=xs.length:=by rw [←hi.len,hD,h.inv.len]
 exact ⟨ak,hi,by rw [e];exact h.len,by rw [e,hl];exact h.room,h.right⟩
theorem kD.move (h:kD w0 w ad t d m xs D l) {w':World} {l':List aI} (ak:St w0 w' (aZ ad t d m xs::l')):kD w0 w' ad t d m xs D l':=⟨ak,h.inv,h.len,h.room,h.right⟩
theorem kD.below {w':World} (h:kD w0 w ad t d m xs D l) (hb:Below w.heap.size w w'):kD w0 w' ad t d m xs D l:=h.move (h.st.below hb)
theorem Qo (q se sz:Int):(ky D q se sz).2.length=D.length:=by unfold ky;split<;>simp
theorem Tp (q se no:Int) (data:List Int):(mW D q se no data).2.length=D.length:=by unfold mW;split<;>simp
theorem Ja (p:Nat) (r:Rec):(eF D p r).2.length=D.length:=by unfold eF;split;rfl;split<;>simp
theorem Tq (q:Int):(iu t D q).2.length=D.length:=by unfold iu;split;rfl;split;rfl;split<;>exact Ja _ _
theorem To (q se:Int):(mV t D q se).2.length=D.length:=by
 unfold mV;split;rfl;split;rfl;split;rfl;split;rfl;split;rfl;exact Ja _ _
theorem Y8 (h:kD w0 w ad t d m xs D l) (q se sz:Int):Calls Tryz.prog 14 #[.pointer (some ⟨ad.S,0,none⟩),ae aa q,ae aa se,ae aa sz] w fun e w'=>e=.returned (ae aa (ky D q se sz).1)∧∃m' qv,kD w0 w' ad t d m' qv (ky D q se sz).2 l:=by
 obtain ⟨h1,h2,h3⟩:=h.inv.begin q se sz;exact (Jp h.st h.ok q se sz).mono fun e w' ⟨e1,e2⟩=>⟨by rw [e1,h1],_,_,h.step e2 h2 (Qo _ _ _) h3⟩
theorem ZX {B:aI} {A:Option Addr} {n c:Nat} {data:List Int} (h:kD w0 w ad t d m xs D (B::l)) (hg:qV w0 B A n data) (hb:bn data) (q se no:Int):Calls Tryz.prog 15 #[.pointer (some ⟨ad.S,0,none⟩),ae aa q,ae aa se,ae aa no,.slice A n c] w fun e w'=>e=.returned (ae aa (mW D q se no data).1)∧∃m' qv,kD w0 w' ad t d m' qv (mW D q se no data).2 (B::l):=by
 obtain ⟨h1,h2,h3⟩:=h.inv.load q se no hb;exact (KW h.st h.ok q se no hg).mono fun e w' ⟨e1,e2⟩=>⟨by rw [e1,h1],_,_,h.step e2 h2 (Tp _ _ _ _) h3⟩
theorem ZD (h:kD w0 w ad t d m xs D l) (q se:Int):Calls Tryz.prog 16 #[.pointer (some ⟨ad.S,0,none⟩),ae aa q,ae aa se] w fun e w'=>e=.returned (ae aa (mV t D q se).1)∧∃m' qv,kD w0 w' ad t d m' qv (mV t D q se).2 l:=by
 obtain ⟨h1,h2,h3⟩:=h.inv.E9 (t:=t) q se;exact (Hx h.st h.ok q se).mono fun e w' ⟨e1,e2⟩=>⟨by rw [e1,h1],_,_,h.step e2 h2 (To _ _) h3⟩
theorem aa2 (h:kD w0 w ad t d m xs D l) (q:Int):Calls Tryz.prog 10 #[.pointer (some ⟨ad.S,0,none⟩),ae aa q] w fun e w'=>∃(A:Option Addr) (c:Nat),e=.returned (.tuple #[(iu t D q).1.1.val A c,ae aa (iu t D q).1.2])∧∃m' qv,kD w0 w' ad t d m' qv (iu t D q).2 (own 5 1 (.slice A (iu t D q).1.1.code.length c) (iu t D q).1.1.code.length (aP (iu t D q).1.1.code)::l):=by
 obtain ⟨h1,h2,h3⟩:=h.inv.Mc (t:=t) q;refine (Ma h.st h.ok q).mono fun e w' ⟨i,A,c,er,e1,e2,e3⟩=>?_;rw [h1] at e2;rw [←e2];exact ⟨A,c,e1,_,_,h.step e3.swap h2 (Tq _) h3⟩
def lW (D:List DP) (q:Int):Rec:=if q < 0∨(D.length:Int)≤q then Rec.zero else (D.getD q.toNat default).r
theorem U3 (h:kD w0 w ad t d m xs D l) (q:Int):Calls Tryz.prog 13 #[.pointer (some ⟨ad.S,0,none⟩),ae aa q] w fun e w'=>e=.returned (lW D q).val∧Below w.heap.size w w':=by
 have e:recAt xs q=lW D q:=by
  unfold recAt lW;rw [h.inv.len];by_cases hq:q < 0∨(xs.length:Int)≤q
  ·rw [if_pos hq,if_pos hq]
  ·rw [if_neg hq,if_neg hq,(h.inv.parts q.toNat (by omega)).now]
 rw [←e];exact Fg h.st q
def E3 (R:RS):aR:=if R.has then R.st else aR.zero
def nE (D:List DP) (q:Int):aR×Bool:=if q < 0∨(D.length:Int)≤q then (aR.zero,false) else (E3 ((D.getD q.toNat default).slot (D.getD q.toNat default).sp),((D.getD q.toNat default).slot (D.getD q.toNat default).sp).has)
end
theorem abw (r:Rec) (w:World):(Instr.field 35 r.val 5).run Tryz.prog w=.ok (ae aa r.bad) w:=by kernel_rfl
theorem LR:sV.right=true:=by decide +kernel
theorem YU {w0 w:World} {l:List aI} {gP gW gI g2:Nat} (h:St w0 w (F6 gP gW gI g2::l)) :
  Calls Tryz.prog 20 #[.agg #[ae aa 4,.slice (some ⟨gP,0,none⟩) 2 2,.slice (some ⟨gW,0,none⟩) 1 1,.slice none 0 0,ae aa 2,.slice (some ⟨gI,0,none⟩) 3 3]] w fun e w'=>∃(ad:fy) (d X:Nat),e=.returned (.tuple #[.pointer (some ⟨ad.S,0,none⟩),.pointer (some ⟨d,0,none⟩),.pointer (some ⟨X,0,none⟩)])∧∃(m:DS) (xs:List PP) (R:aI),kD w0 w' ad sV d m xs (gQ (bd 0) RS.none) (F6 gP gW gI g2::R::l):=by
 have hm:=NF (js:=F5) (AI:=some ⟨gI,0,none⟩) (nI:=3) (cI:=3) (K:=fun _=>(some ⟨g2,0,none⟩,1)) (a:=exA gP gW) (t:=sV) h (YV w0 gP gW gI g2 3 (by omega)) (fun w' l' h'=>aaU h') (Nat.le_refl _) LR (by decide) (by decide) (fun p hp=>by
  have uh:p < 2:=hp
  rcases (by omega:p=0∨p=1) with rfl|rfl<;>decide +kernel)
 refine hm.mono fun e w' ⟨ad,d,X,h1,m,xs,v,P,ys,h2,h3,h4,h5,_,_⟩=>⟨ad,d,X,h1,m,xs,_,(h2.pick 1 rfl).perm (.cons _ (List.Perm.swap _ _ _)),?_,h4,by rw [h4,h5];exact Nat.le_refl _,LR⟩
 have:=h3.made
 rwa [show sV.parts.length=2 from rfl,XC] at this
theorem Ux (w:World):Calls Tryz.prog 9 #[] w fun e w'=>e=.returned (.bool true)∧Below w.heap.size w w':=by
 go_enter Tryz.func9,Tryz.ntmps9;go_wp2_with fail;refine (Qk (St.nil w)).mono ?_;rintro e w1 ⟨gP,gW,gI,rfl,g2,ak⟩;obtain ⟨Z,hZ⟩:=xE w1.heap.size;obtain ⟨w2,eh⟩:=xE (w1.alloc (.cells #[ae aa 4,.slice (some ⟨gP,0,none⟩) 2 2,.slice (some ⟨gW,0,none⟩) 1 1,.slice none 0 0,ae aa 2,.slice (some ⟨gI,0,none⟩) 3 3] 49));have h2:=(ak.new 49 #[ae aa 4,.slice (some ⟨gP,0,none⟩) 2 2,.slice (some ⟨gW,0,none⟩) 1 1,.slice none 0 0,ae aa 2,.slice (some ⟨gI,0,none⟩) 3 3])
 rw [←eh,←hZ] at h2;have h3:=Wa (h2.perm (List.perm_append_singleton _ [_,_,_,_]).symm);have H3:=af h3;have HZ:=af hZ;have jf:=af eh;have Ir:=(h3.pick 1 rfl).row.1;have z0:=Ir.c0;have z1:=Ir.c1;have z2:=Ir.c2;have z3:=Ir.c3;have z4:=Ir.c4;have z5:=Ir.c5;have lZ:=Ir.lt;clear ak h2 h3 Ir hZ eh;go_upto_region 2 with fail;rw [←jf.o,←HZ.o];go_wp2_with fail;refine (YU H3.o).mono ?_;rintro e w3 ⟨ad,d,X,rfl,m,xs,R,hs⟩;have HS:=af (Y8 hs 0 5 50);rw [Ut] at HS;clear hs z0 z1 z2 z3 z4 z5 lZ H3 HZ jf;obtain ⟨S,hS⟩:=xE ad.S;rw [←hS] at HS ⊢;have yd:=af hS;clear hS;go_wp2_with fail;refine HS.o.mono ?_;rintro e w4 ⟨rfl,m',qv,hs⟩;have H4:=af hs;clear hs HS;dsimp only;go_wp2_with fail;go_loopw [24] (fun x wr=>∃(no:Nat) (m:DS) (xs:List PP),no≤4∧x=ae aa (no:Int)∧kD w wr ad sV d m xs (gQ (bd 0) (dH 5 gu.bytes no)) (F6 gP gW gI g2::R::[row Z 49 [ae aa 4,.slice (some ⟨gP,0,none⟩) 2 2,.slice (some ⟨gW,0,none⟩) 1 1,.slice none 0 0,ae aa 2,.slice (some ⟨gI,0,none⟩) 3 3]])) (fun x _=>4-(intOf x).toNat)
 case atStart=>exact ⟨0,_,_,by omega,rfl,H4.o⟩
 case round =>
  obtain ⟨no,m,xs,jS,rfl,hs⟩:=hrel;have HS:=af hs;clear H4 hs;by_cases aH:no < 4
  ·have hz:=(HS.o.st.pick 3 rfl).row.1;have z5:=hz.c5;have lZ:=hz.lt;have hi:=(Aj (HS.o.st.pick 1 rfl)).row.1;have i0:wr.cell? ⟨gI,16,none⟩=some (ae aa 0):=hi.cell 16;have i1:wr.cell? ⟨gI,17,none⟩=some (ae aa 2):=hi.cell 17;have i2:wr.cell? ⟨gI,18,none⟩=some (ae aa 0):=hi.cell 18;have i3:wr.cell? ⟨gI,19,none⟩=some (ae aa 1):=hi.cell 19;have i4:wr.cell? ⟨gI,20,none⟩=some (ae aa 1):=hi.cell 20;have i5:wr.cell? ⟨gI,21,none⟩=some (ae aa 0):=hi.cell 21;have i6:wr.cell? ⟨gI,22,none⟩=some (ae aa 0):=hi.cell 22;have i7:wr.cell? ⟨gI,23,none⟩=some (.slice (some ⟨g2,0,none⟩) 1 1):=hi.cell 23;have lI:=hi.lt;have iS:=af (Md HS.o.st gu (fun z hz=>by simp [gu] at hz;subst hz;omega) (some ⟨g2,0,none⟩) 1 (Nat.le_refl _) (by decide) (Xm (HS.o.st.pick 1 rfl)) (no:Int) false);have lL:=af aH;have k1:(no:Int) < 4:=by omega
   rw [show gu.val (some ⟨g2,0,none⟩) 1=.agg #[ae aa 0,ae aa 2,ae aa 0,ae aa 1,ae aa 1,ae aa 0,ae aa 0,.slice (some ⟨g2,0,none⟩) 1 1] from rfl] at iS;clear hz hi;go_wp2_with fail;refine iS.o.mono ?_;rintro e w5 ⟨D,rfl,h5⟩;have JE:=af (ZX (HS.o.move h5.swap) (pP (bs:=iI gu no false) (vu _ _ _) (by rw [List.take_of_length_le (by simp [aP,vu])])) (by rw [Jl xY (by rw [zk];omega)];exact Me (vd _ (tE gu (fun z hz=>by simp [gu] at hz;subst hz;omega))) no) 0 5 (no:Int) (c:=16));rw [XE lL.o,←yd.o] at JE;clear h5 z5 lZ i0 i1 i2 i3 i4 i5 i6 i7 lI iS;go_wp2_with fail;refine JE.o.mono ?_;rintro e w6 ⟨rfl,m6,xs6,hs⟩;have H6:=af (hs.move ((hs.st.pick 1 rfl).drop));clear hs JE;dsimp only;go_wp2_with fail;go_roundw;case rel=>exact ⟨no+1,m6,xs6,by omega,by go_num,H6.o⟩
   case measure=>simp [intOf];omega
  ·have y9:no=4:=by omega
   subst y9;have lJ:=af (ZD HS.o 0 5);rw [XA,←yd.o] at lJ;have k1:¬((4:Nat):Int) < 4:=by omega
   clear HS;go_wp2_with fail;refine lJ.o.mono ?_;rintro e w5 ⟨rfl,m5,xs5,hs⟩;have H5:=af hs;clear hs lJ;dsimp only;obtain ⟨Q,hQ⟩:=xE w5.heap.size;obtain ⟨w6,mK⟩:=xE (w5.alloc (.cells #[ae aa 2,ae aa 2,ae aa 1,ae aa 1] 3));have h6:=H5.o.st.new 3 #[ae aa 2,ae aa 2,ae aa 1,ae aa 1];rw [←hQ,←mK] at h6;have H6:=af (H5.o.move h6.swap);have HQ:=af hQ;have Ck:=af mK;clear h6 hQ mK H5;go_upto_region 14 with fail;rw [←Ck.o,←HQ.o];clear k1;go_loopw [43] (fun x wr=>∃(n:Nat) (m:DS) (xs:List PP),n≤4∧x=ae aa (n:Int)∧kD w wr ad sV d m xs (gQ (lu n) (dH 5 gu.bytes 4)) (row Q 3 [ae aa 2,ae aa 2,ae aa 1,ae aa 1]::F6 gP gW gI g2::R::[row Z 49 [ae aa 4,.slice (some ⟨gP,0,none⟩) 2 2,.slice (some ⟨gW,0,none⟩) 1 1,.slice none 0 0,ae aa 2,.slice (some ⟨gI,0,none⟩) 3 3]])) (fun x _=>4-(intOf x).toNat)
   case atStart=>exact ⟨0,_,_,by omega,rfl,H6.o⟩
   case round =>
    obtain ⟨n,m,xs,hn,rfl,hs⟩:=hrel;have HS:=af hs;clear H6 hs;by_cases qF:n < 4
    ·have hq:=(HS.o.st.pick 1 rfl).row.1;obtain ⟨vv,hvv⟩:∃v:Int,v=if n < 2 then 2 else 1:=⟨_,rfl⟩
     have cq:wr.cell? ⟨Q,n,none⟩=some (ae aa vv):=by
      rw [hvv];rcases (by omega:n=0∨n=1∨n=2∨n=3) with rfl|rfl|rfl|rfl
      ·exact hq.cell 0
      ·exact hq.cell 1
      ·exact hq.cell 2
      ·exact hq.cell 3
     have lQ:=hq.lt;obtain ⟨ki,FO⟩:∃i:aq,i=if n < 2 then gu else uR:=⟨_,rfl⟩
     have HVV:=af (show ki.version=vv by rw [FO,hvv];split<;>rfl);have Cw:=af (aa2 HS.o 0);rw [XF n qF,←yd.o,←FO] at Cw;have k1:(n:Int) < 4:=by omega
     have k0:(0:Int)≤(n:Int):=by omega
     clear hq hvv FO;go_wp2_with fail;refine Cw.o.mono ?_;rintro e w7 ⟨KA,Kc,rfl,m7,xs7,hs⟩;have H7:=af (hs.move ((hs.st.pick 1 rfl).drop));dsimp only;simp only [aq.val];rw [HVV.o];generalize ki.part=j0,ki.aV=j2,ki.mem=j3,ki.fuel=j4,ki.aM=j5,ki.ax=j6,ki.code.length=j7;obtain ⟨I,hI⟩:=xE w7.heap.size;obtain ⟨w8,wF⟩:=xE (w7.alloc (.cells #[ae aa j0,ae aa vv,ae aa j2,ae aa j3,ae aa j4,ae aa j5,ae aa j6,.slice KA j7 Kc] 26));have h8:=H7.o.st.new 26 #[ae aa j0,ae aa vv,ae aa j2,ae aa j3,ae aa j4,ae aa j5,ae aa j6,.slice KA j7 Kc];rw [←hI,←wF] at h8;have c1:=h8.row.1.c1;have lI:=h8.row.1.lt;have H8:=af (H7.o.move h8.drop);have HI:=af hI;have Mr:=af wF;clear hs h8 hI wF Cw cq lQ;go_upto_region 17 with fail;rw [←Mr.o,←HI.o];go_wp2_with fail;go_roundw;case rel=>exact ⟨n+1,m7,xs7,by omega,by go_num,H8.o⟩
     case measure=>simp [intOf];omega
    ·have y9:n=4:=by omega
     subst y9;have mO:=af (U3 HS.o 0);have HB:=af HS.o.st.aE;have r5:=abw (lW (gQ (lu 4) (dH 5 gu.bytes 4)) 0);rw [show (lW (gQ (lu 4) (dH 5 gu.bytes 4)) 0).bad=2 from rfl] at r5;rw [←yd.o] at mO;generalize (lW (gQ (lu 4) (dH 5 gu.bytes 4)) 0).val=rv at *;have k1:¬((4:Nat):Int) < 4:=by omega
     clear HS;go_wp2_with fail;refine mO.o.mono ?_;rintro e w7 ⟨rfl,hb⟩;have xn:=af (HB.o.trans (hb.mono HB.o.size));clear hb;go_wp2_with fail;go_ret;exact ⟨rfl,xn.o⟩
end store
end Go.Proofs.YtdldkkoplgkloaaGreat
