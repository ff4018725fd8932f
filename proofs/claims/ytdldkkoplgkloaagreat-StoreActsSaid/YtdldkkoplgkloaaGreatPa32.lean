/- PROVED HERE: lemmas of the law. CONDITIONS: each names its own. -/
import Derived.Test.YtdldkkoplgkloaaGreatPa31
namespace Go.Proofs.YtdldkkoplgkloaaGreat
set_option linter.unusedVariables false
set_option linter.unusedSimpArgs false
set_option maxRecDepth 100000
set_option maxHeartbeats 32000000
open Go.Value renaming int → ae
open Go.IntKind renaming i64 → aa
namespace store
open Go.RowKit Go.ChangeShapes Go.WideShapes Go.ChangeAt Go.Deep Go.Joins base obj mem sep aW aG record
section
variable {w:World}
structure dU where
 kind:Int
 part:Int
 n:Int
 i:Int
 no:Int
 dL:Bool
 keep:Int
instance:Inhabited dU:=⟨⟨0,0,0,0,0,false,0⟩⟩
def dU.cells (a:dU):List Value:=[ae aa a.kind,ae aa a.part,ae aa a.n,ae aa a.i,ae aa a.no,.bool a.dL,.int .u64 a.keep]
def jR (l:List dU):List Value:=(l.map dU.cells).flatten
theorem Aq (l:List dU) (a:dU):jR (l++[a])=jR l++a.cells:=by simp [jR]
theorem km {g:Nat} {t:TypeId} {a:dU} (h:Row w g t a.cells):w.cell? ⟨g,0,none⟩=some (ae aa a.kind)∧w.cell? ⟨g,1,none⟩=some (ae aa a.part)∧w.cell? ⟨g,2,none⟩=some (ae aa a.n)∧w.cell? ⟨g,3,none⟩=some (ae aa a.i)∧w.cell? ⟨g,4,none⟩=some (ae aa a.no)∧w.cell? ⟨g,5,none⟩=some (.bool a.dL)∧w.cell? ⟨g,6,none⟩=some (.int .u64 a.keep)∧g < w.heap.size :=
 ⟨h.cell 0,h.cell 1,h.cell 2,h.cell 3,h.cell 4,h.cell 5,h.cell 6,h.lt⟩
theorem TI (l:List dU):∀u∈jR l,u.oneCell'=true:=by
 intro u hu;obtain ⟨x,hx,h⟩:=List.mem_flatten.1 hu;obtain ⟨a,_,rfl⟩:=List.mem_map.1 hx;simp only [dU.cells,List.mem_cons,List.not_mem_nil,or_false] at h;rcases h with rfl|rfl|rfl|rfl|rfl|rfl|rfl<;>rfl
def sy (a:dU) (k:Nat):List dU:={ a with kind:=0 }::((List.range k).map fun (no:Nat)=>{ a with kind:=1,no:=(no:Int) })
def na (a:dU):List dU:=if a.kind=8 then sy a 10++[{ a with kind:=2 }] else [a]
def iF (l:List dU):List dU:=(l.map na).flatten
theorem EX (a:dU):(na a).length≤12∧0 < (na a).length:=by
 unfold na sy;split<;>simp
theorem Dk (l:List dU):(iF l).length≤l.length*12:=by
 induction l with
 | nil=>simp [iF]
 | cons a l ih =>
   have h:iF (a::l)=na a++iF l:=by simp [iF]
   have:=EX a;rw [h,gC,List.length_cons];omega
theorem Ze {H:Type} {enc:TypeId×Value→H} {W:World} {r:Reach} {b0:Nat} {v:Value} {d:DataW H} {ps:List MemPlace} (hval:Value.okWide Tryz.prog W r b0 50 v)
  (h:DataW.Trod enc Tryz.prog W 0 (fun _=>true) true 50 v d ps):∃(A:Option Addr) (c:Nat) (l:List dU),v=.slice A l.length c∧Sl W W.heap.size 7 A l.length (jR l)∧∀a∈l,pZ a.n∧pZ a.no∧0≤a.keep∧a.keep≤18446744073709551615:=by
 obtain ⟨A,n,c,q,rfl,hn,hs,hq⟩:=lift.Zc Tryz.underlying50 (s:=7) (by kernel_rfl) (by decide) hval h
 have each:∀i,i < n→∃p:dU,q i=p.cells∧pZ p.n∧pZ p.no∧0≤p.keep∧p.keep≤18446744073709551615:=by
  intro i hi;obtain ⟨hl,m,x,hx⟩:=hq i hi
  obtain ⟨u0,u1,u2,u3,u4,u5,u6,BN⟩:∃u0 u1 u2 u3 u4 u5 u6,q i=[u0,u1,u2,u3,u4,u5,u6]:=by
   match BN:q i,hl with
   | [u0,u1,u2,u3,u4,u5,u6],_=>exact ⟨_,_,_,_,_,_,_,rfl⟩
  rw [BN] at hx ⊢;have hf:=Ro Tryz.underlying58 hx;obtain ⟨k0,y0,t0⟩:=hf 0 _ 1 rfl (by kernel_rfl);obtain ⟨k1,y1,t1⟩:=hf 1 _ 1 rfl (by kernel_rfl);obtain ⟨k2,y2,t2⟩:=hf 2 _ 1 rfl (by kernel_rfl);obtain ⟨k3,y3,t3⟩:=hf 3 _ 1 rfl (by kernel_rfl);obtain ⟨k4,y4,t4⟩:=hf 4 _ 1 rfl (by kernel_rfl);obtain ⟨k5,y5,t5⟩:=hf 5 _ 1 rfl (by kernel_rfl);obtain ⟨k6,y6,t6⟩:=hf 6 _ 1 rfl (by kernel_rfl);obtain ⟨a0,h0,_,_⟩:=DataW.trod_int Tryz.underlying3 t0;obtain ⟨a1,h1,_,_⟩:=DataW.trod_int Tryz.underlying3 t1;obtain ⟨a2,h2,_,w2⟩:=DataW.trod_int Tryz.underlying3 t2;obtain ⟨a3,h3,_,_⟩:=DataW.trod_int Tryz.underlying3 t3;obtain ⟨a4,h4,_,w4⟩:=DataW.trod_int Tryz.underlying3 t4;obtain ⟨a5,h5,_⟩:=DataW.trod_bool Tryz.underlying4 t5;obtain ⟨a6,h6,_,w6⟩:=DataW.trod_int Tryz.underlying56 t6;simp at h0 h1 h2 h3 h4 h5 h6
  exact ⟨⟨a0,a1,a2,a3,a4,a5,a6⟩,by rw [h0,h1,h2,h3,h4,h5,h6];rfl,Sg w2,Sg w4,by
   show 0≤a6∧a6≤18446744073709551615
   have e1:IntKind.u64.min=0:=rfl;have e2:IntKind.u64.max=18446744073709551615:=rfl;simp only [Lit.wf,Bool.and_eq_true,decide_eq_true_eq] at w6
   omega⟩
 obtain ⟨z,hz⟩:=choose_lt each
 have e1:∀m,m≤n→(List.range m).flatMap q=jR ((List.range m).map z):=by
  intro m
  induction m with
  | zero=>intro _;simp [jR]
  | succ m ih =>
    intro hm;rw [List.range_succ,List.flatMap_append,List.map_append,ih (by omega),List.map_cons,List.map_nil,Aq];simp [(hz m (by omega)).1]
 rw [e1 n (Nat.le_refl _)] at hs;have hl:((List.range n).map z).length=n:=by simp
 refine ⟨A,c,(List.range n).map z,by rw [hl],by rw [hl];exact hs,fun a ha=>?_⟩;obtain ⟨i,hi,rfl⟩:=List.mem_map.1 ha;exact (hz i (List.mem_range.1 hi)).2
theorem Oy {A:Option Addr} {l:List dU} (h:Sl w w.heap.size 7 A l.length (jR l)) {k:Nat} (hk:k < l.length):∃b off,A=some ⟨b,off,none⟩∧b < w.heap.size∧w.cell? ⟨b,off+k*7,none⟩=some (ae aa l[k].kind)∧w.cell? ⟨b,off+k*7+1,none⟩=some (ae aa l[k].part)∧w.cell? ⟨b,off+k*7+2,none⟩=some (ae aa l[k].n)∧w.cell? ⟨b,off+k*7+3,none⟩=some (ae aa l[k].i)∧w.cell? ⟨b,off+k*7+4,none⟩=some (ae aa l[k].no)∧w.cell? ⟨b,off+k*7+5,none⟩=some (.bool l[k].dL)∧w.cell? ⟨b,off+k*7+6,none⟩=some (.int .u64 l[k].keep):=by
 obtain ⟨b,off,rfl,cm,hc⟩:=h.2 (by omega)
 have h9:∀x∈l.map dU.cells,x.length=7:=by
  intro x hx;obtain ⟨a,_,rfl⟩:=List.mem_map.1 hx;rfl
 have e:=rQ h9 (i:=k) (by simpa using hk)
 have g:∀j u,j < 7→l[k].cells[j]?=some u→w.cell? ⟨b,off+k*7+j,none⟩=some u:=fun j u hj hu=>by
  have e2:(((l.map dU.cells).flatten.drop (k*7)).take 7)[j]?=(l.map dU.cells).flatten[k*7+j]?:=by
   rw [List.getElem?_take,if_pos hj,List.getElem?_drop]
  rw [e] at e2;rw [Nat.add_assoc];refine hc _ _ ?_;rw [jR,←e2];simpa using hu
 exact ⟨b,off,rfl,cm,g 0 _ (by omega) rfl,g 1 _ (by omega) rfl,g 2 _ (by omega) rfl,g 3 _ (by omega) rfl,g 4 _ (by omega) rfl,g 5 _ (by omega) rfl,g 6 _ (by omega) rfl⟩
end
end store
namespace store
open Go.RowKit Go.Deep base obj mem sep aW aX record bD aG image bN bL chain bC
def fo (js:List aq) (i:Int):aq:=if i < 0∨(js.length:Int)≤i then aq.none else js.getD i.toNat aq.none
def o7 (i:aq):Int:=if i.right then i.bytes.length else 30
def oD (t:aY) (m:DS) (xs:List PP) (js:List aq) (a:dU):Int×DS×List PP :=
 if a.kind=0 then jv m xs a.part a.n (o7 (fo js a.i)) else if a.kind=1 then lf m xs a.part a.n a.no (iI (fo js a.i) a.no a.dL) else if a.kind=2 then la t m xs a.part a.n
 else if a.kind=3 then lh m xs a.part a.n else if a.kind=4 then ((iY t m xs a.part).1.2,(iY t m xs a.part).2) else fQ m xs a.part
def pB (t:aY) (L:List RP) (js:List aq) (a:dU):Int×List RP :=
 if a.kind=0 then mY L a.part a.n (o7 (fo js a.i)) else if a.kind=1 then qe L a.part a.n a.no (iI (fo js a.i) a.no a.dL) else if a.kind=2 then n8 t L a.part a.n
 else if a.kind=3 then qf L a.part a.n else if a.kind=4 then qg L a.part else jC L a.part
theorem Qw {i:aq} (h:bn i.code) (no:Int) (s:Bool):bn (iI i no s):=by
 have h1:bn (mm i no):=by
  unfold mm;split
  ·have hb:bn i.bytes:=vd _ (tE i h);intro z hz;unfold fc uE at hz;rcases List.mem_append.1 (List.mem_of_mem_drop (List.mem_of_mem_take hz)) with hz|hz
   ·exact hb z hz
   ·obtain ⟨_,rfl⟩:=List.mem_replicate.1 hz;omega
  ·intro z hz;obtain ⟨_,rfl⟩:=List.mem_replicate.1 hz;omega
 unfold iI;split
 ·intro z hz;rcases List.mem_or_eq_of_mem_set hz with hz|rfl
  ·exact h1 z hz
  ·obtain ⟨z0,z1⟩:=h1 ((mm i no).getD 3 0) (by rw [qM (by rw [zN];omega)];exact List.getElem_mem _);obtain ⟨n,hn⟩:=Int.eq_ofNat_of_zero_le z0;rw [hn] at z1 ⊢;have hx:=Zj n 64 (by omega) (by decide);have hl:n ^^^ 64 < 2 ^ 8:=Nat.xor_lt_two_pow (by omega) (by decide);have e:Go.bits .xor .u8 (n:Int) 64=((n ^^^ 64:Nat):Int):=hx;rw [e];omega
 ·exact h1
theorem Zm (t:aY) (L:List RP) (js:List aq) (a:dU):(pB t L js a).2=L∨∃x,(pB t L js a).2=L.set a.part.toNat x:=by
 unfold pB;split
 ·unfold mY;split
  ·exact .inl rfl
  ·exact .inr ⟨_,rfl⟩
 split
 ·unfold qe;split
  ·exact .inl rfl
  ·exact .inr ⟨_,rfl⟩
 split
 ·unfold n8;split;exact .inl rfl;split;exact .inl rfl;split;exact .inl rfl;split;exact .inl rfl;exact .inr ⟨_,rfl⟩
 split
 ·unfold qf;split
  ·exact .inl rfl
  ·exact .inr ⟨_,rfl⟩
 split
 ·unfold qg;split;exact .inl rfl;split;exact .inl rfl;exact .inr ⟨_,rfl⟩
 ·unfold jC;split;exact .inl rfl;split;exact .inl rfl;exact .inr ⟨_,rfl⟩
theorem Xx (t:aY) (L:List RP) (js:List aq) (a:dU):(pB t L js a).2.length=L.length:=by
 rcases Zm t L js a with e|⟨x,e⟩<;>rw [e]
 exact List.length_set
end store
namespace store
open Go.RowKit Go.Deep base bC aX record bD aG image bN bL
section
variable {X:DP} {p:Nat} {x:PP} {s:cy}
structure Lit (m:DS):Prop where
 on:m.down=false
 waits:m.waits=[]
 bu:m.Good
 eQ:m.ia
structure dh (m:DS) (xs:List PP) (D:List DP):Prop where
 lit:Lit m
 len:D.length=xs.length
 parts:∀p,p < xs.length→UP m p (xs.getD p default) (D.getD p default)
section
variable {m m' : DS} {xs : List PP} {D : List DP}
theorem cE.fin (h:cE m xs D):dh m xs D:=⟨⟨h.calm.up.1,h.calm.waits,h.calm.bu,h.calm.eQ⟩,h.len,h.parts⟩
theorem dh.Kh (h:dh m xs D) (hu:m.Up):cE m xs D:=⟨⟨hu,h.lit.waits,h.lit.bu,h.lit.eQ⟩,h.len,h.parts⟩
theorem UP.lit (h:UP m p x X) (hc:Lit m) (cZ:Lit m') (hl:m'.ar.length=m.ar.length) (hn:∀j:Nat,10*p≤j→j < 10*p+10→m'.now j=m.now j):UP m' p x X :=
 ⟨⟨zV h.inv.log cZ.bu cZ.eQ hl (hn _ (by omega) (by omega)) (hn _ (by omega) (by omega)),h.inv.s0.other hc.on cZ.bu cZ.eQ hl cZ.waits cZ.on fun j hj=>hn j (by unfold aG.Outside bz at hj;omega) (by unfold aG.Outside bz at hj;omega),h.inv.s1.other hc.on cZ.bu cZ.eQ hl cZ.waits cZ.on fun j hj=>hn j (by unfold aG.Outside bz at hj;omega) (by unfold aG.Outside bz at hj;omega)⟩,h.now⟩
theorem dh.O3 (h:dh m xs D) {p:Nat} (hp:p < xs.length) {k:Int} (hk:k=0∨k=1) {s:cy} {R:RS} (hs:SI m' p k s R Option.none) (hd:m'.down=false) (hl:m'.ar.length=m.ar.length) (ho:∀j,aG.Outside p k j→m'.now j=m.now j) :
  dh m' (xs.set p ((xs.getD p default).bj k s)) (D.set p ((D.getD p default).bj k R)):=by
 have cZ:Lit m':=⟨hd,(hs.up hd).2.1,hs.pl.bu,hs.pl.eQ⟩
 refine ⟨cZ,by simp [h.len],fun q hq=>?_⟩;rw [List.length_set] at hq;by_cases sD:p=q
 ·subst sD;rw [en hp,en (by rw [h.len];exact hp)];have qI:=h.parts p hp;have Ln:kE m' p (xs.getD p default).log:=zV qI.inv.log cZ.bu cZ.eQ hl (ho _ (by unfold aG.Outside bz;omega)) (ho _ (by unfold aG.Outside bz;omega));rcases hk with rfl|rfl
  ·exact ⟨⟨Ln,hs,qI.inv.s1.other h.lit.on cZ.bu cZ.eQ hl cZ.waits cZ.on fun j hj=>ho j (by unfold aG.Outside bz at hj ⊢;omega)⟩,qI.now⟩
  ·exact ⟨⟨Ln,qI.inv.s0.other h.lit.on cZ.bu cZ.eQ hl cZ.waits cZ.on fun j hj=>ho j (by unfold aG.Outside bz at hj ⊢;omega),hs⟩,qI.now⟩
 ·rw [gK sD,gK sD];exact (h.parts q hq).lit h.lit cZ hl fun j h1 h2=>ho j (by unfold aG.Outside bz;omega)
theorem dh.ZW (h:dh m xs D) {p:Nat} (hp:p < xs.length) {y:wU} (hy:kE m' p y) (hd:m'.down=false) (hw:m'.waits=[]) (hl:m'.ar.length=m.ar.length) (ho:∀j:Nat,j≠10*p→j≠10*p+1→m'.now j=m.now j) :
  dh m' (xs.set p ⟨y,(xs.getD p default).s0,(xs.getD p default).s1⟩) (D.set p ⟨y.now,(D.getD p default).s0,(D.getD p default).s1⟩):=by
 have cZ:Lit m':=⟨hd,hw,hy.bu,hy.eQ⟩
 refine ⟨cZ,by simp [h.len],fun q hq=>?_⟩;rw [List.length_set] at hq;by_cases sD:p=q
 ·subst sD;rw [en hp,en (by rw [h.len];exact hp)];have qI:=h.parts p hp;exact ⟨⟨hy,qI.inv.s0.other h.lit.on cZ.bu cZ.eQ hl cZ.waits cZ.on fun j hj=>ho j (by unfold aG.Outside bz at hj;omega) (by unfold aG.Outside bz at hj;omega),qI.inv.s1.other h.lit.on cZ.bu cZ.eQ hl cZ.waits cZ.on fun j hj=>ho j (by unfold aG.Outside bz at hj;omega) (by unfold aG.Outside bz at hj;omega)⟩,rfl⟩
 ·rw [gK sD,gK sD];exact (h.parts q hq).lit h.lit cZ hl fun j h1 h2=>ho j (by omega) (by omega)
theorem dh.Hy {t:aY} (h:dh m xs D) (hr:t.right=true) (hl:xs.length=t.parts.length) (gH:10*xs.length≤m.ar.length):iJ t m xs:=by
 refine ⟨hr,hl,h.lit.eQ,h.lit.bu,gH,by rw [h.lit.waits];simp,fun x hx=>?_⟩;obtain ⟨p,hp,rfl⟩:=List.mem_iff_getElem.1 hx;have hi:=(h.parts p hp).inv;rw [qM hp] at hi;have hr:=eu.iZ hi.log.right;exact ⟨by omega,by omega,hi.log.held,by omega,by omega,hi.s0.right,hi.s1.right⟩
theorem dh.jH (h:dh m xs D) {n:Int} (hn:n≤9223372036854775807):dh (m.eV n) xs D:=by
 have e:m.eV n={ m with jH:=max n (-1) }:=by unfold DS.eV;rw [h.lit.on];rfl
 have hg:=DS.wh h.lit.bu hn;have hb:=h.lit.eQ.eV n;rw [e] at hg hb ⊢;have hc:Lit { m with jH:=max n (-1) }:=⟨h.lit.on,h.lit.waits,hg,hb⟩
 exact ⟨hc,h.len,fun p hp=>(h.parts p hp).lit h.lit hc rfl fun j _ _=>by rw [DS.kN h.lit.waits,DS.kN (show ({ m with jH:=max n (-1) }:DS).waits=[] from h.lit.waits)]⟩
theorem Lit.bZ (h:Lit m) (k:Int):Lit (m.bZ k)∧∀j,(m.bZ k).now j=m.now j:=by
 have hs:(m.bZ k).ar=m.ar:=by
  rcases xy (i:=0) (bs:=[]) (.inl h.waits) k with e|⟨e,_⟩
  ·exact e
  ·rw [h.waits] at e;cases e
 exact ⟨⟨(DS.tw m k).1,DS.oR m k,DS.sr h.bu k,h.eQ.bZ k⟩,fun j=>by rw [DS.kN h.waits,DS.kN (DS.oR m k),hs]⟩
theorem dh.bZ (h:dh m xs D) (k:Int):cE (m.bZ k) xs D :=
 dh.Kh ⟨(h.lit.bZ k).1,h.len,fun p hp=>(h.parts p hp).lit h.lit (h.lit.bZ k).1 (DS.qm m k) fun j _ _=>(h.lit.bZ k).2 j⟩ (DS.tw m k)
end
section
variable {m : DS}
theorem CC (hw:m.waits=[]) (hg:m.Good) {i:Int} {bs:List Int} (h0:0≤i) (h1:i < m.ar.length) (hb:bs.length=64) {m':DS} (ho:tS (wf m i bs).2 m') {j:Nat} (hj:j≠i.toNat):m'.now j=m.now j:=by
 by_cases h:(wf m i bs).1=0
 ·obtain ⟨w1,_,w3⟩:=qR hg h0 h1 hb h;rw [vF w1 ho,w3,if_neg hj]
 ·rcases tG hw h0 h1 hb h ho with e|e
  ·exact e j
  ·rw [e,if_neg hj]
variable {p k : Int} (h : Pl m p k) (hw : m.waits = [])
include h hw
theorem Qz (s:cy) (se sz:Int) {m':DS} (ho:tS (eL m p k s se sz).2.1 m') {j:Nat} (hj:aG.Outside p k j):m'.now j=m.now j:=by
 have key:=fun ho=>CC (m':=m') hw h.bu h.own.1 h.own.2 (aR.bY ⟨se,sz,0⟩) ho (tz hj h.own.1);unfold eL at ho;split at ho
 ·split at ho<;>exact key ho
 ·exact vF hw ho j
theorem Qq (s:cy) {m':DS} (ho:tS (gy m p k s).2.1 m') {j:Nat} (hj:aG.Outside p k j):m'.now j=m.now j:=by
 have key:=fun ho=>CC (m':=m') hw h.bu h.own.1 h.own.2 (show bt.length=64 from rfl) ho (tz hj h.own.1);unfold gy at ho;split at ho<;>exact key ho
theorem U8 (hs:s.has=true→s.st.right=true) (se no:Int) {data:List Int} (AT:bn data) {m':DS} (ho:tS (gU m p k s se no data).2.1 m') {j:Nat} (hj:aG.Outside p k j):m'.now j=m.now j:=by
 unfold gU at ho;by_cases Fx:gN s se no data.length=0
 ·rw [if_neg (not_not_intro Fx)] at ho;obtain ⟨hh,w1,w2,w3,w4⟩:=pC Fx;obtain ⟨n,rfl⟩:=Int.eq_ofNat_of_zero_le w2;rw [dC] at ho;split at ho
  ·exact vF hw ho j
  split at ho
  ·exact vF hw ho j
  have EB:n < 10:=by
   have:=(iD (hs hh)).2.1;unfold aQ at w3;omega
  have hq:((n:Int) / 4)=((n / 4:Nat):Int):=by omega
  rw [hq] at ho;obtain ⟨d0,d1⟩:=h.at_ (i:=((n / 4:Nat):Int)) (by omega) (by omega);have dk:=oz (h.len (i:=((n / 4:Nat):Int)) (by omega) (by omega)) n w4;have rM:=u9 (h.eQ.now (eg p k ((n / 4:Nat):Int)).toNat) n AT;have NZ:=Em hj h.own.1 (i:=((n / 4:Nat):Int)) (by omega) (by omega)
  have key:tS (vR m (eg p k ((n / 4:Nat):Int)) (aG.splice (m.now (eg p k ((n / 4:Nat):Int)).toNat) n data) (bz p k) (sw s.st n).bytes).2 m'→m'.now j=m.now j:=by
   intro ho;unfold vR at ho;split at ho
   ·rename_i h1
    obtain ⟨v1,v2,v3⟩:=qR h.bu d0 d1 dk h1;have oU:=h.wf (eg p k ((n / 4:Nat):Int)) rM;rw [CC v1 oU.bu oU.own.1 oU.own.2 (aR.bY (sw s.st n)) ho (tz hj h.own.1),v3,if_neg NZ]
   ·exact CC hw h.bu d0 d1 dk ho NZ
  split at ho<;>exact key ho
 ·rw [if_pos Fx] at ho;exact vF hw ho j
end
theorem pH (h:X.r.right=true):X.sp=0∨X.sp=1:=by
 have:=eu.iZ h;unfold DP.sp;omega
structure MP (x:PP) (X:DP):Prop where
 now:x.log.now=X.r
 m0:nH x.s0 X.s0
 m1:nH x.s1 X.s1
 right:X.r.right=true
theorem MP.ay {x:PP} {X:DP} (h:MP x X):x.ay=X.ay:=by unfold PP.ay DP.ay;rw [h.now]
theorem MP.sp {x:PP} {X:DP} (h:MP x X):x.sp=X.sp:=by unfold PP.sp DP.sp;rw [h.now]
theorem MP.slot {x:PP} {X:DP} (h:MP x X) (k:Int):nH (x.slot k) (X.slot k):=by
 unfold PP.slot DP.slot;split
 ·exact h.m0
 ·exact h.m1
theorem MP.spm (h:MP x X):nH (x.slot x.sp) (X.slot X.sp):=by rw [h.sp];exact h.slot _
def Alike (D E:List DP):Prop:=∀p,p < D.length→(D.getD p default).r=(E.getD p default).r∧(let k:=(E.getD p default).sp;((D.getD p default).slot k).has=((E.getD p default).slot k).has∧(((E.getD p default).slot k).has=true→((D.getD p default).slot k).st=((E.getD p default).slot k).st))
structure mJ (t:aY) (m:DS) (xs:List PP) (D E:List DP):Prop where
 down:m.down=true
 ok:iJ t m xs
 len:D.length=xs.length
 mem:∀p,p < xs.length→MP (xs.getD p default) (D.getD p default)
 out:∀keep,∃qv,qv.length=xs.length∧((cE (m.bZ keep) qv D∧(Alike D E→D=E))∨cE (m.bZ keep) qv E)
inductive Cg (t:aY) (m:DS) (xs:List PP) (D:List DP) (x:Int×DS×List PP) (y:Int×List DP):Prop
 | same (h1:x.1=y.1) (h2:x.1=8→y.2=D) (h3:dh x.2.1 x.2.2 y.2) (h4:x.2.1.ar.length=m.ar.length)
 | fell (h1:x.1=8) (h2:y.1=0) (h3:x.2.2=xs) (h4:mJ t x.2.1 xs D y.2) (h5:x.2.1.ar.length=m.ar.length)
section
variable {t : aY} {m : DS} {xs : List PP} {D : List DP}
theorem dh.mem (h:dh m xs D):∀p,p < xs.length→MP (xs.getD p default) (D.getD p default):=fun p hp=>⟨(h.parts p hp).now,(h.parts p hp).inv.s0.mem,(h.parts p hp).inv.s1.mem,(h.parts p hp).right⟩
theorem iJ.to {m':DS} (h:iJ t m xs) (hg:m'.Good) (hb:m'.ia) (hl:m'.ar.length=m.ar.length) (hw:m'.waits.length≤1):iJ t m' xs:=⟨h.right,h.len,hb,hg,by rw [hl];exact h.room,by omega,h.ok⟩
theorem uC (X:DP) {k:Int}:X.bj k (X.slot k)=X:=by unfold DP.bj DP.slot;split<;>rfl
theorem Dp (x:PP) {k:Int}:x.bj k (x.slot k)=x:=by unfold PP.bj PP.slot;split<;>rfl
theorem wg {α:Type} {l:List α} (h:p < l.length) (d:α):l.set p (l.getD p d)=l:=by
 rw [dD,cN h];exact List.set_getElem_self h
theorem UM (X:DP) (k:Int) (R:RS):(X.bj k R).slot k=R:=by unfold DP.bj DP.slot;split<;>rfl
theorem dh.Kq (h:dh m xs D) (hk:iJ t m xs) {p:Nat} (hp:p < xs.length) {r:Int×DS×cy} {y:Int×RS} (ak:aG.Stepped m p (D.getD p default).sp ((xs.getD p default).slot (D.getD p default).sp) ((D.getD p default).slot (D.getD p default).sp) Option.none r y)
  (ho:∀m',tS r.2.1 m'→∀j,aG.Outside p (D.getD p default).sp j→m'.now j=m.now j) (hl:r.2.1.ar.length=m.ar.length) (hR:y.2.has=false→y.2=RS.none) :
  Cg t m xs D (r.1,r.2.1,xs.set p ((xs.getD p default).bj (D.getD p default).sp r.2.2)) (y.1,D.set p ((D.getD p default).bj (D.getD p default).sp y.2)):=by
 have hu:=h.parts p hp;have Lf:p < D.length:=by rw [h.len];exact hp
 have h01:=hu.pH;cases ak with
 | same h1 h2 h3 =>
   cases hd:r.2.1.down with
   | true=>obtain ⟨R',e,_⟩:=h3.dn hd;exact absurd e (by simp)
   | false=>exact .same h1 (fun e=>absurd e h2) (h.O3 hp h01 h3 hd hl fun j hj=>ho _ ⟨(h3.up hd).2.1,.inl rfl⟩ j hj) hl
 | down h1 h2 h3 h4 =>
   have hdn:r.2.1.down=true:=by
    cases hd:r.2.1.down with
    | true=>rfl
    | false=>exact absurd (h4.up hd).1 (by simp)
   refine .fell h1 h2 ?_ ⟨hdn,hk.to h4.pl.bu h4.pl.eQ hl h4.pR,h.len,h.mem,fun keep=>?_⟩ hl
   ·show xs.set p _=xs
    rw [h3,Dp,wg hp]
   ·have hou:=ho _ (BD h4.pR keep);have AK:(r.2.1.bZ keep).ar.length=m.ar.length:=(DS.qm _ _).trans hl;obtain ⟨s',_,hc⟩:=h4.bZ keep;rcases hc with ⟨hs,AU⟩|⟨R',e,hs⟩
    ·have hf:=(h.O3 hp h01 hs rfl AK hou).Kh (DS.tw _ _);rw [uC,wg Lf] at hf;refine ⟨_,List.length_set,.inl ⟨hf,fun ha=>?_⟩⟩;obtain ⟨_,a2⟩:=ha p Lf;rw [en Lf] at a2;have esp:((D.getD p default).bj (D.getD p default).sp y.2).sp=(D.getD p default).sp:=by unfold DP.bj DP.sp;split<;>rfl
     rw [esp] at a2;simp only [UM] at a2;obtain ⟨a2,a3⟩:=a2;have hm:=hs.mem
     have:y.2=(D.getD p default).slot (D.getD p default).sp:=by
      cases hy:y.2.has with
      | true=>exact AU y.2 rfl (hm.has.trans a2) (hm.st.trans (a3 hy))
      | false =>
        rw [hR hy];rw [hy] at a2;exact (hm.none (hm.has.trans a2)).symm
     rw [this,uC,wg Lf]
    ·have e2:y.2=R':=by simpa using e
     subst e2;exact ⟨_,List.length_set,.inr ((h.O3 hp h01 hs rfl AK hou).Kh (DS.tw _ _))⟩
theorem dh.Kw (h:dh m xs D) (hk:iJ t m xs) {p:Nat} (hp:p < xs.length) (r:Rec):Cg t m xs D (dB m xs p r) (eF D p r):=by
 have hu:=h.parts p hp;have hl:=hu.inv.log;have Lf:p < D.length:=by rw [h.len];exact hp
 have eX:xs.set p ⟨(xs.getD p default).log,(xs.getD p default).s0,(xs.getD p default).s1⟩=xs:=vW hp;have hh:=hl.held;unfold dB eF qk;rw [hu.now];by_cases h1:4294967295≤(D.getD p default).r.seq
 ·rw [if_pos h1,if_pos h1];refine .same rfl (fun _=>rfl) ?_ rfl;simp only [eX];exact h
 ·rw [if_neg h1,if_neg h1];by_cases h2:(bq p (D.getD p default).r r).right=true
  ·rw [if_pos h2,if_pos h2];obtain ⟨a0,a1⟩:=hl.QB;have hb:=Rec.bY (bq p (D.getD p default).r r);have dk:=iC m ((p:Int)*10+(1-(xs.getD p default).log.held)) (bq p (D.getD p default).r r).bytes;have hg:=h.lit.bu.wf ((p:Int)*10+(1-(xs.getD p default).log.held)) (bq p (D.getD p default).r r).bytes;have Lx:=h.lit.eQ.wf ((p:Int)*10+(1-(xs.getD p default).log.held)) (Rec.pT (bq p (D.getD p default).r r));by_cases w:(wf m ((p:Int)*10+(1-(xs.getD p default).log.held)) (bq p (D.getD p default).r r).bytes).1=0
   ·rw [if_pos w];obtain ⟨v1,v2,v3⟩:=qR h.lit.bu a0 a1 hb w;have ud:=hl.save (nx:=bq p (D.getD p default).r r) (r:=r) (by rw [hu.now]) h2 w;exact .same rfl (by simp) (h.ZW hp ud.1 v2 v1 dk fun j h1 h2=>by rw [v3,if_neg (by omega)]) dk
   ·rw [if_neg w];obtain ⟨e1,e2,e3,e4⟩:=vQ a0 a1 hb w
    have pR:(wf m ((p:Int)*10+(1-(xs.getD p default).log.held)) (bq p (D.getD p default).r r).bytes).2.waits.length≤1:=by
     rcases e4 with e|e<;>rw [e,h.lit.waits]<;>simp
    refine .fell e1 rfl eX ⟨e2,hk.to hg Lx dk pR,h.len,h.mem,fun keep=>?_⟩ dk;have yW:=BD pR keep;have AK:=(DS.qm (wf m ((p:Int)*10+(1-(xs.getD p default).log.held)) (bq p (D.getD p default).r r).bytes).2 keep).trans dk;have hgp:=DS.sr hg keep;have SW:=Lx.bZ keep;have wG:=DS.tw (wf m ((p:Int)*10+(1-(xs.getD p default).log.held)) (bq p (D.getD p default).r r).bytes).2 keep;have Sk:=DS.oR (wf m ((p:Int)*10+(1-(xs.getD p default).log.held)) (bq p (D.getD p default).r r).bytes).2 keep
    have rN:Alike D (D.set p ⟨bq p (D.getD p default).r r,(D.getD p default).s0,(D.getD p default).s1⟩)→D=D.set p ⟨bq p (D.getD p default).r r,(D.getD p default).s0,(D.getD p default).s1⟩:=fun ha=>by
     obtain ⟨a,_⟩:=ha p Lf;rw [en Lf] at a;have:=congrArg Rec.seq a;simp only [bq] at this;omega
    have hfo:=tG h.lit.waits a0 a1 hb w yW;generalize (wf m ((p:Int)*10+(1-(xs.getD p default).log.held)) (bq p (D.getD p default).r r).bytes).2.bZ keep=m' at *;have hc:Lit m':=⟨wG.1,Sk,hgp,SW⟩
    rcases hfo with e|e
    ·exact ⟨xs,rfl,.inl ⟨(⟨hc,h.len,fun q hq=>(h.parts q hq).lit h.lit hc AK fun j _ _=>e j⟩:dh m' xs D).Kh wG,rN⟩⟩
    ·have hn:=hl.next (m':=m') h2 rfl (by rw [hu.now];rfl) hgp SW AK e;exact ⟨_,List.length_set,.inr ((h.ZW hp hn.1 wG.1 Sk AK fun j h1 h2=>by rw [e,if_neg (by omega)]).Kh wG)⟩
  ·rw [if_neg h2,if_neg h2];refine .same rfl (fun _=>rfl) ?_ rfl;simp only [eX];exact h
theorem zU (hl:D.length=xs.length) (h:∀p,p < xs.length→MP (xs.getD p default) (D.getD p default)) (q:Int):gL xs q=bU D q:=by
 unfold gL bU;rw [hl];by_cases hq:q < 0∨(xs.length:Int)≤q
 ·rw [if_pos hq,if_pos hq]
 ·rw [if_neg hq,if_neg hq,(h q.toNat (by omega)).ay]
theorem BI (hl:D.length=xs.length) (h:∀p,p < xs.length→MP (xs.getD p default) (D.getD p default)) (q se:Int):gR xs q se=cM D q se:=by
 unfold gR cM;rw [zU hl h q];by_cases h0:bU D q≠0
 ·rw [if_pos h0,if_pos h0]
 ·rw [if_neg h0,if_neg h0];obtain ⟨p,rfl,hp⟩:=iA (by simpa using h0);rw [hl] at hp;have hm:=(h p hp).spm;simp only [dC];simp only [hm.has,hm.st]
theorem dh.free (h:dh m xs D) (q:Int):gL xs q=bU D q:=zU h.len h.mem q
theorem dh.begun (h:dh m xs D) (q se:Int):gR xs q se=cM D q se:=BI h.len h.mem q se
theorem Nf (m:DS) (p k:Int) (s:cy) (se sz:Int):(eL m p k s se sz).2.1.ar.length=m.ar.length:=by
 unfold eL;split
 ·split<;>exact iC _ _ _
 ·rfl
theorem Nd (m:DS) (p k:Int) (s:cy):(gy m p k s).2.1.ar.length=m.ar.length:=by
 unfold gy;split<;>exact iC _ _ _
theorem dh.begin (h:dh m xs D) (hk:iJ t m xs) (q se sz:Int):Cg t m xs D (jv m xs q se sz) (ky D q se sz):=by
 unfold jv ky;rw [h.free q];by_cases h0:bU D q≠0
 ·rw [if_pos h0,if_pos h0];exact .same rfl (fun _=>rfl) h rfl
 ·rw [if_neg h0,if_neg h0];obtain ⟨p,rfl,hp⟩:=iA (by simpa using h0);rw [h.len] at hp;have hu:=h.parts p hp;simp only [dC];rw [hu.sp];have hs:=hu.si hu.pH;refine h.Kq hk hp (hs.begin se sz) (fun m' ho j hj=>Qz hs.pl h.lit.waits _ se sz ho hj) (Nf _ _ _ _ _ _) fun hh=>?_;unfold fk at hh ⊢;split
  ·rename_i hr;rw [if_pos hr] at hh;exact absurd hh (by simp)
  ·rename_i hr;rw [if_neg hr] at hh;exact hs.mem.none (hs.mem.has.trans hh)
theorem dh.load (h:dh m xs D) (hk:iJ t m xs) (q se no:Int) {data:List Int} (hb:bn data):Cg t m xs D (lf m xs q se no data) (mW D q se no data):=by
 unfold lf mW;rw [h.free q];by_cases h0:bU D q≠0
 ·rw [if_pos h0,if_pos h0];exact .same rfl (fun _=>rfl) h rfl
 ·rw [if_neg h0,if_neg h0];obtain ⟨p,rfl,hp⟩:=iA (by simpa using h0);rw [h.len] at hp;have hu:=h.parts p hp;simp only [dC];rw [hu.sp];have hs:=hu.si hu.pH;refine h.Kq hk hp (hs.put se no hb) (fun m' ho j hj=>U8 hs.pl h.lit.waits hs.right se no hb ho hj) (xx _ _ _ _ _ _ _) fun hh=>?_
  have hn:((D.getD p default).slot (D.getD p default).sp).has=false→(ja ((D.getD p default).slot (D.getD p default).sp) se no data).2=RS.none:=fun hf=>by
   have e:(ja ((D.getD p default).slot (D.getD p default).sp) se no data).2=(D.getD p default).slot (D.getD p default).sp:=by
    unfold ja;rw [if_pos (by unfold ju;rw [if_pos hf];decide)]
   rw [e];exact hs.mem.none (hs.mem.has.trans hf)
  refine hn ?_;rw [←hh];unfold ja;split
  ·rfl
  ·split<;>rfl
theorem dh.drop (h:dh m xs D) (hk:iJ t m xs) (q se:Int):Cg t m xs D (lh m xs q se) (tQ D q se):=by
 unfold lh tQ;rw [h.begun q se];by_cases h0:cM D q se≠0
 ·rw [if_pos h0,if_pos h0];exact .same rfl (fun _=>rfl) h rfl
 ·rw [if_neg h0,if_neg h0]
  have hf:bU D q=0:=by
   by_cases h1:bU D q=0
   ·exact h1
   ·exfalso;apply h0;unfold cM;rw [if_pos h1];exact h1
  obtain ⟨p,rfl,hp⟩:=iA hf;rw [h.len] at hp;have hu:=h.parts p hp;simp only [dC];rw [hu.sp];have hs:=hu.si hu.pH;exact h.Kq hk hp hs.clear (fun m' ho j hj=>Qq hs.pl h.lit.waits _ ho hj) (Nd _ _ _ _) fun _=>rfl
theorem dh.C7 (h:dh m xs D) (hk:iJ t m xs) (q:Int):Cg t m xs D (fQ m xs q) (mG D q):=by
 unfold fQ mG;rw [h.len];by_cases hq:q < 0∨(xs.length:Int)≤q
 ·rw [if_pos hq,if_pos hq];exact .same rfl (fun _=>rfl) h rfl
 ·rw [if_neg hq,if_neg hq];have hp:q.toNat < xs.length:=by omega
  have hu:=h.parts q.toNat hp;rw [hu.ay,hu.now];by_cases h2:(D.getD q.toNat default).ay=false
  ·rw [if_pos h2,if_pos h2];exact .same rfl (fun _=>rfl) h rfl
  ·rw [if_neg h2,if_neg h2];exact h.Kw hk hp _
theorem dh.hold (h:dh m xs D) {p:Nat} (hp:p < xs.length) {k:Int} (hk:k=0∨k=1):dq t m p (xs.getD p default) k=fv t p ((D.getD p default).slot k):=by
 unfold dq fv;rw [((h.parts p hp).si hk).Cc h.lit.on]
theorem dh.zZ (h:dh m xs D) {p:Nat} (hp:p < xs.length):dq t m p (xs.getD p default) (xs.getD p default).log.now.au=rm t D p:=by
 rw [(h.parts p hp).now];exact h.hold hp (h.parts p hp).QD
theorem dh.image (h:dh m xs D) (q:Int):tY t m xs q=jA t D q:=by
 unfold tY jA;rw [h.len];by_cases hq:q < 0∨(xs.length:Int)≤q
 ·rw [if_pos hq,if_pos hq]
 ·rw [if_neg hq,if_neg hq];exact h.zZ (by omega)
theorem dh.E9 (h:dh m xs D) (hk:iJ t m xs) (q se:Int):Cg t m xs D (la t m xs q se) (mV t D q se):=by
 unfold la mV;rw [h.begun q se];by_cases h0:cM D q se≠0
 ·rw [if_pos h0,if_pos h0];exact .same rfl (fun _=>rfl) h rfl
 ·rw [if_neg h0,if_neg h0]
  have hf:bU D q=0:=by
   by_cases h1:bU D q=0
   ·exact h1
   ·exfalso;apply h0;unfold cM;rw [if_pos h1];exact h1
  obtain ⟨p,rfl,hp⟩:=iA hf;rw [h.len] at hp;have hu:=h.parts p hp;simp only [dC]
  have e1:rE m p (xs.getD p default)=qN D p:=by
   unfold rE qN;rw [hu.sp];exact (hu.si hu.pH).Cc h.lit.on
  rw [e1,h.zZ hp];by_cases h1:(qN D p).2≠0
  ·rw [if_pos h1,if_pos h1];exact .same rfl (fun _=>rfl) h rfl
  rw [if_neg h1,if_neg h1];by_cases h2:(b8 (qN D p).1).2≠0
  ·rw [if_pos h2,if_pos h2];exact .same rfl (fun _=>rfl) h rfl
  rw [if_neg h2,if_neg h2];by_cases h3:(rm t D p).2≠0
  ·rw [if_pos h3,if_pos h3];exact .same rfl (fun _=>rfl) h rfl
  rw [if_neg h3,if_neg h3];by_cases h4:bX t p (b8 (qN D p).1).1 (rm t D p).1.version≠0
  ·rw [if_pos h4,if_pos h4];exact .same rfl (fun _=>rfl) h rfl
  rw [if_neg h4,if_neg h4,hu.now];exact h.Kw hk hp _
theorem Qn (D:List DP) (p:Nat) (r:Rec) (k:Int):((eF D p r).2.getD p default).slot k=(D.getD p default).slot k:=by
 unfold eF;split
 ·rfl
 ·split
  ·by_cases hp:p < D.length
   ·rw [en hp];rfl
   ·rw [List.set_eq_of_length_le (by omega)]
  ·rfl
theorem dh.Mc (h:dh m xs D) (hk:iJ t m xs) (hH:vy t D) (q:Int):Cg t m xs D ((iY t m xs q).1.2,(iY t m xs q).2) ((iu t D q).1.2,(iu t D q).2):=by
 unfold iY iu;rw [h.len];by_cases hq:q < 0∨(xs.length:Int)≤q
 ·rw [if_pos hq,if_pos hq];exact .same rfl (fun _=>rfl) h rfl
 ·rw [if_neg hq,if_neg hq];have hp:q.toNat < xs.length:=by omega
  have hu:=h.parts q.toNat hp;rw [hu.ay];by_cases h2:(D.getD q.toNat default).ay=false
  ·rw [if_pos h2,if_pos h2];exact .same (congrArg Prod.snd (h.zZ hp)) (fun _=>rfl) h rfl
  ·rw [if_neg h2,if_neg h2,hu.now]
   have hc:(fv t q.toNat (((eF D q.toNat (aN (D.getD q.toNat default).r)).2.getD q.toNat default).slot (aN (D.getD q.toNat default).r).au)).2=0:=by
    rw [Qn];obtain ⟨a1,a2⟩:=hH q.toNat (by rw [h.len];exact hp);unfold aN;split
    ·exact a2
    ·exact a1
   have Hc:=Mb hu.right;have jy:((dB m xs q.toNat (aN (D.getD q.toNat default).r)).2.2).length=xs.length:=by simp [dB]
   cases h.Kw hk hp (aN (D.getD q.toNat default).r) with
   | same s1 s2 s3 s4 =>
     rw [s1];by_cases h3:(eF D q.toNat (aN (D.getD q.toNat default).r)).1≠0
     ·rw [if_pos h3,if_pos h3];exact .same rfl (fun e=>s2 (s1.trans e)) s3 s4
     ·rw [if_neg h3,if_neg h3];have e:=s3.hold (t:=t) (p:=q.toNat) (by rw [jy];exact hp) Hc;refine .same (congrArg Prod.snd e) (fun e8=>?_) s3 s4;have e9:(dq t (dB m xs q.toNat (aN (D.getD q.toNat default).r)).2.1 q.toNat ((dB m xs q.toNat (aN (D.getD q.toNat default).r)).2.2.getD q.toNat default) (aN (D.getD q.toNat default).r).au).2=8:=e8;rw [e,hc] at e9;exact absurd e9 (by decide)
   | fell s1 s2 s3 s4 s5 =>
     rw [if_pos (by rw [s1];decide),if_neg (by rw [s2];simp)];exact .fell s1 hc s3 s4 s5
end
section
variable {t : aY} {m : DS} {xs : List PP} {D E : List DP}
def Idle (m:DS) (xs:List PP) (D:List DP) (x:Int×DS×List PP) (y:Int×List DP):Prop:=x=(8,m,xs)∨(x=(y.1,m,xs)∧y.2=D)
theorem L7 {p k:Int} {R:RS} (h:nH s R) (hd:m.down=true):b9 m p k s=([],8)∨((b9 m p k s).2=(dm R).2∧(dm R).2≠0):=by
 unfold b9 dm;cases hh:s.has with
 | false =>
   right
   rw [if_pos rfl,if_pos (h.has.symm.trans hh)];exact ⟨rfl,by decide⟩
 | true =>
   rw [if_neg (show ¬(true=false) by decide),if_neg (show ¬R.has=false by rw [←h.has,hh];decide)];by_cases ha:qu s
   ·rw [if_neg (not_not_intro ha),if_pos hd];exact .inl rfl
   ·right
    rw [if_pos ha,if_pos ((yq h hh).2 ha)];exact ⟨rfl,by decide⟩
theorem NW (h:MP x X) (hd:m.down=true) (k:Int) (hc:(fv t p (X.slot k)).2=0):dq t m p x k=(aq.none,8):=by
 have hb:(dm (X.slot k)).2=0:=by
  unfold fv at hc;split at hc
  ·rename_i h1;exact absurd hc h1
  ·rename_i h1;simpa using h1
 unfold dq;rcases L7 (m:=m) (p:=p) (k:=k) (h.slot k) hd with e|⟨_,e⟩
 ·rw [e];rfl
 ·exact absurd hb e
theorem mJ.tq (h:mJ t m xs D E) {p:Nat} (hp:p < xs.length):xs.set p ((xs.getD p default).bj (D.getD p default).sp ((xs.getD p default).slot (D.getD p default).sp))=xs:=by rw [Dp,wg hp]
theorem mJ.Gw (h:mJ t m xs D E) {p:Nat} (hp:p < xs.length):D.set p ((D.getD p default).bj (D.getD p default).sp ((D.getD p default).slot (D.getD p default).sp))=D:=by rw [uC,wg (by rw [h.len];exact hp)]
theorem mJ.begin (h:mJ t m xs D E) (q se sz:Int):Idle m xs D (jv m xs q se sz) (ky D q se sz):=by
 unfold jv ky;rw [zU h.len h.mem q];by_cases h0:bU D q≠0
 ·rw [if_pos h0,if_pos h0];exact .inr ⟨rfl,rfl⟩
 ·rw [if_neg h0,if_neg h0];obtain ⟨p,rfl,hp⟩:=iA (by simpa using h0);rw [h.len] at hp;have hu:=h.mem p hp;simp only [dC];rw [hu.sp];have iQ:=h.ok.pl hp (k:=(D.getD p default).sp) (pH hu.right);unfold eL fk;by_cases hr:(aR.mk se sz 0).right=true
  ·rw [if_pos hr,yB iQ.own.1 iQ.own.2 (aR.bY _) h.down]
   left
   simp only [show ¬(8:Int)=0 by decide,if_false];rw [h.tq hp]
  ·rw [if_neg hr,if_neg hr]
   right
   simp only [];rw [h.tq hp,h.Gw hp];exact ⟨rfl,rfl⟩
theorem mJ.load (h:mJ t m xs D E) (q se no:Int) (data:List Int):Idle m xs D (lf m xs q se no data) (mW D q se no data):=by
 unfold lf mW;rw [zU h.len h.mem q];by_cases h0:bU D q≠0
 ·rw [if_pos h0,if_pos h0];exact .inr ⟨rfl,rfl⟩
 ·rw [if_neg h0,if_neg h0];obtain ⟨p,rfl,hp⟩:=iA (by simpa using h0);rw [h.len] at hp;have hu:=h.mem p hp;simp only [dC];rw [hu.sp];have hm:=hu.slot (D.getD p default).sp;unfold gU ja;rw [←hm.WR se no data.length];by_cases hw:gN ((xs.getD p default).slot (D.getD p default).sp) se no data.length≠0
  ·rw [if_pos hw,if_pos hw]
   right
   simp only [];rw [h.tq hp,h.Gw hp];exact ⟨rfl,rfl⟩
  ·rw [if_neg hw,if_neg hw];obtain ⟨hh,w1,w2,w3,w4⟩:=pC (Decidable.not_not.1 hw);have Ha:=hm.bit hh no.toNat (by omega);by_cases hb:bits.dg ((xs.getD p default).slot (D.getD p default).sp).st.bf no.toNat=true
   ·rw [if_pos hb,if_pos (Ha.1 hb)]
    right
    simp only [];rw [h.tq hp,h.Gw hp];exact ⟨rfl,rfl⟩
   ·rw [if_neg hb,if_pos h.down]
    left
    simp only [];rw [h.tq hp]
theorem mJ.drop (h:mJ t m xs D E) (q se:Int):Idle m xs D (lh m xs q se) (tQ D q se):=by
 unfold lh tQ;rw [BI h.len h.mem q se];by_cases h0:cM D q se≠0
 ·rw [if_pos h0,if_pos h0];exact .inr ⟨rfl,rfl⟩
 ·rw [if_neg h0,if_neg h0]
  have hf:bU D q=0:=by
   by_cases h1:bU D q=0
   ·exact h1
   ·exfalso;apply h0;unfold cM;rw [if_pos h1];exact h1
  obtain ⟨p,rfl,hp⟩:=iA hf;rw [h.len] at hp;have hu:=h.mem p hp;simp only [dC];rw [hu.sp];have iQ:=h.ok.pl hp (k:=(D.getD p default).sp) (pH hu.right);unfold gy;rw [yB iQ.own.1 iQ.own.2 (show bt.length=64 from rfl) h.down]
  left
  simp only [show ¬(8:Int)=0 by decide,if_false];rw [h.tq hp]
theorem mJ.save (h:mJ t m xs D E) {p:Nat} (hp:p < xs.length) (r:Rec):Idle m xs D (dB m xs p r) (eF D p r):=by
 have hu:=h.mem p hp;have jL:=h.ok.at_ hp;have iQ:=h.ok.pl hp (k:=0) (.inl rfl);have hh:=jL.held;have h4:=h.ok.n4;have NQ:=h.ok.room;have eX:xs.set p ⟨(xs.getD p default).log,(xs.getD p default).s0,(xs.getD p default).s1⟩=xs:=vW hp;unfold dB eF qk;rw [hu.now];by_cases h1:4294967295≤(D.getD p default).r.seq
 ·rw [if_pos h1,if_pos h1]
  right
  simp only [eX];exact ⟨trivial,trivial⟩
 ·rw [if_neg h1,if_neg h1];by_cases h2:(bq p (D.getD p default).r r).right=true
  ·rw [if_pos h2,if_pos h2,yB (by omega) (by omega) (Rec.bY _) h.down]
   left
   simp only [show ¬(8:Int)=0 by decide,if_false,eX]
  ·rw [if_neg h2,if_neg h2]
   right
   simp only [eX];exact ⟨trivial,trivial⟩
theorem mJ.C7 (h:mJ t m xs D E) (q:Int):Idle m xs D (fQ m xs q) (mG D q):=by
 unfold fQ mG;rw [h.len];by_cases hq:q < 0∨(xs.length:Int)≤q
 ·rw [if_pos hq,if_pos hq];exact .inr ⟨rfl,rfl⟩
 ·rw [if_neg hq,if_neg hq];have hp:q.toNat < xs.length:=by omega
  have hu:=h.mem q.toNat hp;rw [hu.ay,hu.now];by_cases h2:(D.getD q.toNat default).ay=false
  ·rw [if_pos h2,if_pos h2];exact .inr ⟨rfl,rfl⟩
  ·rw [if_neg h2,if_neg h2];exact h.save hp _
theorem mJ.Mc (h:mJ t m xs D E) (hH:vy t D) (q:Int):Idle m xs D ((iY t m xs q).1.2,(iY t m xs q).2) ((iu t D q).1.2,(iu t D q).2):=by
 unfold iY iu;rw [h.len];by_cases hq:q < 0∨(xs.length:Int)≤q
 ·rw [if_pos hq,if_pos hq];exact .inr ⟨rfl,rfl⟩
 ·rw [if_neg hq,if_neg hq];have hp:q.toNat < xs.length:=by omega
  have hu:=h.mem q.toNat hp;obtain ⟨a1,a2⟩:=hH q.toNat (by rw [h.len];exact hp);rw [hu.ay];by_cases h2:(D.getD q.toNat default).ay=false
  ·rw [if_pos h2,if_pos h2,hu.now,NW hu h.down _ a1];exact .inl rfl
  ·rw [if_neg h2,if_neg h2,hu.now];rcases h.save hp (aN (D.getD q.toNat default).r) with e|⟨e,e2⟩
   ·rw [e]
    left
    simp only [ne_eq,show ¬(8:Int)=0 by decide,not_false_eq_true,if_true]
   ·rw [e];by_cases h3:(eF D q.toNat (aN (D.getD q.toNat default).r)).1≠0
    ·rw [if_pos h3,if_pos h3];exact .inr ⟨rfl,e2⟩
    ·rw [if_neg h3,if_neg h3]
     left
     have hb:(fv t q.toNat ((D.getD q.toNat default).slot (aN (D.getD q.toNat default).r).au)).2=0:=by
      unfold aN;split
      ·exact a2
      ·exact a1
     simp only [];rw [NW hu h.down _ hb]
theorem mJ.E9 (h:mJ t m xs D E) (hH:vy t D) (q se:Int):Idle m xs D (la t m xs q se) (mV t D q se):=by
 unfold la mV;rw [BI h.len h.mem q se];by_cases h0:cM D q se≠0
 ·rw [if_pos h0,if_pos h0];exact .inr ⟨rfl,rfl⟩
 ·rw [if_neg h0,if_neg h0]
  have hf:bU D q=0:=by
   by_cases h1:bU D q=0
   ·exact h1
   ·exfalso;apply h0;unfold cM;rw [if_pos h1];exact h1
  obtain ⟨p,rfl,hp⟩:=iA hf;rw [h.len] at hp;have hu:=h.mem p hp;simp only [dC];rcases L7 (m:=m) (p:=p) (k:=(xs.getD p default).sp) hu.spm h.down with e|⟨e1,e2⟩
  ·have e3:rE m p (xs.getD p default)=([],8):=e;rw [e3];exact .inl rfl
  ·have e3:(rE m p (xs.getD p default)).2=(qN D p).2:=e1;have e4:(qN D p).2≠0:=e2;rw [e3,if_pos e4,if_pos e4];exact .inr ⟨rfl,rfl⟩
end
end
section
variable {t : aY} {m : DS} {xs : List PP} {L : List RP} {js : List aq}
theorem jI.holds (hx:jI t L):vy t (bw L):=by
 intro p hp;rw [rR] at hp;rw [kY];obtain ⟨_,_,h1,h2⟩:=hx p hp;exact ⟨congrArg Prod.snd h1,congrArg Prod.snd h2⟩
theorem Zl (hx:jI t L) (a:dU):jI t (pB t L js a).2:=by
 unfold pB;split
 ·exact (Bg hx a.part a.n (o7 (fo js a.i))).2.2
 split
 ·exact (D7 hx a.part a.n a.no (iI (fo js a.i) a.no a.dL)).2.2
 split
 ·exact (D5 hx a.part a.n).2.2
 split
 ·exact (D8 hx a.part a.n).2.2
 split
 ·exact (D9 hx a.part).2.2
 ·exact (yp hx a.part).2.2
theorem Zi (h:dh m xs (bw L)) (hk:iJ t m xs) (hx:jI t L) (hb:∀i,bn (fo js i).code) (a:dU):Cg t m xs (bw L) (oD t m xs js a) ((pB t L js a).1,bw (pB t L js a).2):=by
 have go:∀{x:Int×DS×List PP} {y:Int×List DP} {z:Int×List RP},Cg t m xs (bw L) x y→z.1=y.1→bw z.2=y.2→Cg t m xs (bw L) x (z.1,bw z.2):=fun h e1 e2=>by rw [e1,e2];exact h
 unfold oD pB;split
 ·obtain ⟨x1,x2,_⟩:=Bg hx a.part a.n (o7 (fo js a.i));exact go (h.begin hk _ _ _) x1 x2
 split
 ·obtain ⟨x1,x2,_⟩:=D7 hx a.part a.n a.no (iI (fo js a.i) a.no a.dL);exact go (h.load hk _ _ _ (Qw (hb a.i) a.no a.dL)) x1 x2
 split
 ·obtain ⟨x1,x2,_⟩:=D5 hx a.part a.n;exact go (h.E9 hk _ _) x1 x2
 split
 ·obtain ⟨x1,x2,_⟩:=D8 hx a.part a.n;exact go (h.drop hk _ _) x1 x2
 split
 ·obtain ⟨x1,x2,_⟩:=D9 hx a.part;exact go (h.Mc hk hx.holds _) x1 x2
 ·obtain ⟨x1,x2,_⟩:=yp hx a.part;exact go (h.C7 hk _) x1 x2
theorem Wy {E:List DP} (h:mJ t m xs (bw L) E) (hx:jI t L) (a:dU):Idle m xs (bw L) (oD t m xs js a) ((pB t L js a).1,bw (pB t L js a).2):=by
 have go:∀{x:Int×DS×List PP} {y:Int×List DP} {z:Int×List RP},Idle m xs (bw L) x y→z.1=y.1→bw z.2=y.2→Idle m xs (bw L) x (z.1,bw z.2):=fun h e1 e2=>by rw [e1,e2];exact h
 unfold oD pB;split
 ·obtain ⟨x1,x2,_⟩:=Bg hx a.part a.n (o7 (fo js a.i));exact go (h.begin _ _ _) x1 x2
 split
 ·obtain ⟨x1,x2,_⟩:=D7 hx a.part a.n a.no (iI (fo js a.i) a.no a.dL);exact go (h.load _ _ _ _) x1 x2
 split
 ·obtain ⟨x1,x2,_⟩:=D5 hx a.part a.n;exact go (h.E9 hx.holds _ _) x1 x2
 split
 ·obtain ⟨x1,x2,_⟩:=D8 hx a.part a.n;exact go (h.drop _ _) x1 x2
 split
 ·obtain ⟨x1,x2,_⟩:=D9 hx a.part;exact go (h.Mc hx.holds _) x1 x2
 ·obtain ⟨x1,x2,_⟩:=yp hx a.part;exact go (h.C7 _) x1 x2
end
end store
end Go.Proofs.YtdldkkoplgkloaaGreat
