/- PROVED HERE: lemmas of the law. CONDITIONS: each names its own. -/
import Derived.Test.YtdldkkoplgkloaaGreatPa24
namespace Go.Proofs.YtdldkkoplgkloaaGreat
set_option linter.unusedVariables false
set_option linter.unusedSimpArgs false
set_option maxRecDepth 100000
set_option maxHeartbeats 32000000
open Go.Value renaming int → ae
open Go.IntKind renaming i64 → aa
namespace store
open Go.RowKit Go.Deep base obj mem sep aW aX record bD aG image bN bL chain bC
section
variable {m:DS} {l:List aI} {xs:List PP} {d n q:Nat} {ad:fy} {t:aY} {w w0:World}
structure Dd (w:World) (B:Nat) (js:List aq) (A:Option Addr) (n:Nat) (K:Nat→Option Addr×Nat):Prop where
 len:js.length=n
 jo:∀i∈js,bn i.code
 at_:∀k,k < n→∃b off,A=some ⟨b,off,none⟩∧b < B∧w.cell? ⟨b,off+k*8,none⟩=some (ae aa (js.getD k aq.none).part)∧w.cell? ⟨b,off+k*8+1,none⟩=some (ae aa (js.getD k aq.none).version)∧w.cell? ⟨b,off+k*8+2,none⟩=some (ae aa (js.getD k aq.none).aV)∧w.cell? ⟨b,off+k*8+3,none⟩=some (ae aa (js.getD k aq.none).mem)∧w.cell? ⟨b,off+k*8+4,none⟩=some (ae aa (js.getD k aq.none).fuel)∧w.cell? ⟨b,off+k*8+5,none⟩=some (ae aa (js.getD k aq.none).aM)∧w.cell? ⟨b,off+k*8+6,none⟩=some (ae aa (js.getD k aq.none).ax)∧w.cell? ⟨b,off+k*8+7,none⟩=some (.slice (K k).1 (js.getD k aq.none).code.length (K k).2)∧(js.getD k aq.none).code.length≤(K k).2∧Sl w B 1 (K k).1 (js.getD k aq.none).code.length (aP (js.getD k aq.none).code)
theorem Dd.over {w':World} {js:List aq} {A:Option Addr} {K:Nat→Option Addr×Nat} (h:Dd w w.heap.size js A n K) (k:Below w.heap.size w w'):Dd w' w'.heap.size js A n K:=by
 refine ⟨h.len,h.jo,fun j hj=>?_⟩;obtain ⟨b,off,e,hb,c0,c1,c2,c3,c4,c5,c6,c7,hc,hs⟩:=h.at_ j hj;exact ⟨b,off,e,Nat.lt_of_lt_of_le hb k.size,(k.cell hb).trans c0,(k.cell hb).trans c1,(k.cell hb).trans c2,(k.cell hb).trans c3,(k.cell hb).trans c4,(k.cell hb).trans c5,(k.cell hb).trans c6,(k.cell hb).trans c7,hc,(hs.below k).more k.size⟩
def At (w0:World) (B:aI) (js:List aq) (A:Option Addr) (n:Nat) (K:Nat→Option Addr×Nat):Prop:=∀w l,St w0 w (B::l)→Dd w w.heap.size js A n K
def uq (t:aY):Nat→List aq→Int
 | _,[]=>0
 | p,i::r=>if bX t p i 0≠0 then bX t p i 0 else uq t (p+1) r
theorem FZ {t:aY}:∀(r:List aq) (p:Nat),(∀k,k < r.length→bX t ((p+k:Nat):Int) (r.getD k aq.none) 0=0)→uq t p r=0
 | [],_,_=>rfl
 | i::r,p,h=>by
   have h0:=h 0 (by simp);simp only [Nat.add_zero,List.getD_cons_zero] at h0;rw [uq,if_neg (by simpa using h0)];refine FZ r (p+1) fun k hk=>?_;have:=h (k+1) (by simpa using hk);rw [show p+1+k=p+(k+1) by omega];simpa using this
theorem IX {t:aY}:∀(r:List aq) (p j:Nat),j < r.length→(∀k,k < j→bX t ((p+k:Nat):Int) (r.getD k aq.none) 0=0)→bX t ((p+j:Nat):Int) (r.getD j aq.none) 0≠0→uq t p r=bX t ((p+j:Nat):Int) (r.getD j aq.none) 0
 | [],_,j,hj,_,_=>absurd hj (by simp)
 | i::r,p,0,_,_,hn=>by
   simp only [Nat.add_zero,List.getD_cons_zero] at hn ⊢;rw [uq,if_pos hn]
 | i::r,p,j+1,hj,h,hn=>by
   have h0:=h 0 (by omega);simp only [Nat.add_zero,List.getD_cons_zero] at h0
   rw [uq,if_neg (by simpa using h0),IX r (p+1) j (by simpa using hj) (fun k hk=>by
    have:=h (k+1) (by omega);rw [show p+1+k=p+(k+1) by omega]
    simpa using this) (by rw [show p+1+j=p+(j+1) by omega];simpa using hn)]
   rw [show p+1+j=p+(j+1) by omega];simp
def CR (n:Nat) (t:aY) (js:List aq):Int:=if m9 n t≠0 then m9 n t else if js.length≠t.parts.length then 3 else uq t 0 js
theorem Um (h:m9 n t=0):t.right=true∧10*t.parts.length≤n:=by
 unfold m9 at h;split at h
 ·simp at h
 ·split at h
  ·simp at h
  ·rename_i h1 h2
   exact ⟨by simpa using h1,by omega⟩
theorem pS {p:Int} {i:aq} {v:Int} (h:bX t p i v=0):i.right:=by
 unfold bX at h;split at h
 ·simp at h
 ·split at h
  ·simp at h
  ·rename_i h1 h2
   exact Classical.byContradiction fun hn=>h2 (.inr hn)
theorem Bu (hq:xs.length=q) (h:St w0 w (row ad.S 114 (uZ ad t q)::own 94 1 (.slice ad.AL q ad.cL) q (nt ad.al)::Dj ad.bN t::bE d m::du (fT d ad.al xs)::l)) (hl:ad.al.length=xs.length):St w0 w (aZ ad t d m xs::l):=by
 subst hq;refine St.eJ ((h.addFact hl).perm ?_);simp only [Eg,List.cons_append,List.nil_append];exact (List.perm_middle (l₁:=[_,_,_,_,_]) (l₂:=l)).symm
theorem Bq (h:St w0 w (aZ ad t d m xs::l)):St w0 w (row ad.S 114 (uZ ad t xs.length)::own 94 1 (.slice ad.AL xs.length ad.cL) xs.length (nt ad.al)::Dj ad.bN t::bE d m::du (fT d ad.al xs)::l)∧ad.al.length=xs.length:=by
 have h1:=h.fI;simp only [Eg,List.cons_append,List.nil_append] at h1;have h2:=h1.pick 5 rfl;exact ⟨h2.drop,h2.fact⟩
theorem Pr {al:List nT} (hl:al.length=xs.length) (a:nT) (x:PP):fT d (al++[a]) (xs++[x])=fT d al xs++[CN d xs.length a x]:=by
 simp only [fT,gC,List.length_singleton,List.range_succ,List.map_append,List.map_cons,List.map_nil]
 congr 1
 ·refine List.map_congr_left fun p hp=>?_;have uh:=List.mem_range.1 hp;rw [B4 (by omega),B4 uh]
 ·rw [B3 (by omega),B3 (Nat.le_refl _),hl,Nat.sub_self];rfl
theorem Ig {al:List nT} (hl:al.length=xs.length) {a:nT} {x:PP} {q:Nat} (hq:xs.length=q) (h:St w0 w (du (fT d al xs)::row a.O 102 (ownRow a)::log a.L d q x.log.held x.log.now::slt a.S0 d q 0 x.s0::slt a.S1 d q 1 x.s1::l)):St w0 w (du (fT d (al++[a]) (xs++[x]))::l):=by
 subst hq;rw [Pr hl];have h1:=h.swap
 have h2:St w0 w (CN d xs.length a x::du (fT d al xs)::l):=St.eJ (L:=[row a.O 102 (ownRow a),log a.L d xs.length x.log.held x.log.now,slt a.S0 d xs.length 0 x.s0,slt a.S1 d xs.length 1 x.s1]) (h.perm (by
  simp only [List.cons_append,List.nil_append]
  exact (List.perm_middle (l₁:=[_,_,_,_]) (l₂:=l)).symm))
 have h3:=h2.swap.fI;refine St.eJ (h3.perm ?_);rw [List.append_assoc];exact List.Perm.refl _
theorem Va:(Tryz.prog.info? 94).map (fun i=>(i.zero,i.size,i.bytes))=some (some (.pointer none),1,8):=by kernel_rfl
theorem WS:qP Tryz.prog 112 94 1 8:=by
 obtain ⟨i0,hi,kJ,ny,gm⟩:=info_parts Va;exact ⟨Tryz.underlying112,⟨i0,_,hi,kJ,ny,gm,rfl⟩,by decide⟩
def sx (js:List aq):List (RS×RS):=js.map fun i=>(fU i.bytes,RS.none)
theorem Py {js:List aq} (hq:q < js.length):sx (js.take (q+1))=sx (js.take q)++[(fU (js.getD q aq.none).bytes,RS.none)]:=by
 simp only [sx];rw [kr hq,List.map_append,qM hq];rfl
theorem yN {B:aI} {js:List aq} {AI:Option Addr} {cI:Nat} {K:Nat→Option Addr×Nat} (h:St w0 w (bE d m::B::l)) (hg:At w0 B js AI n K) {a:dF} {t:aY} (ht:ko w a t) (hE:CR m.ar.length t js=0) (hc:Calm m) (hz:∀j:Nat,j < m.ar.length→m.now j=bt) :
  Calls Tryz.prog 33 #[.pointer (some ⟨d,0,none⟩),a.val t,.slice AI n cI] w fun e w'=>∃(ad:fy),e=.returned (.tuple #[.pointer (some ⟨ad.S,0,none⟩),ae aa 0])∧∃(m':DS) (xs:List PP),St w0 w' (aZ ad t d m' xs::B::l)∧sK m' xs (sx js)∧xs.length=t.parts.length∧m'.ar.length=m.ar.length:=by
 have AV:=hg w _ (h.pick 1 rfl);have BQ:=AV.len
 have pg:m9 m.ar.length t=0:=by
  by_cases h0:m9 m.ar.length t=0
  ·exact h0
  ·rw [CR,if_pos h0] at hE;exact absurd hE h0
 have AK:js.length=t.parts.length:=by
  by_cases h0:js.length=t.parts.length
  ·exact h0
  ·rw [CR,if_neg (by simpa using pg),if_pos h0] at hE;simp at hE
 have hfe:uq t 0 js=0:=by rwa [CR,if_neg (by simpa using pg),if_neg (by simpa using AK)] at hE
 have PT:∀k,k < n→bX t (k:Int) (js.getD k aq.none) 0=0:=fun k hk=>by
  induction k using Nat.strongRecOn with
  | _ k ih =>
    by_cases h0:bX t (k:Int) (js.getD k aq.none) 0=0
    ·exact h0
    ·have:=IX js 0 k (by omega) (fun i hi=>by rw [Nat.zero_add];exact ih i hi (by omega)) (by rw [Nat.zero_add];exact h0);rw [hfe,Nat.zero_add] at this;exact absurd this.symm h0
 obtain ⟨xH,gH⟩:=Um pg;have VL:=(aY.r xH).np;have sN:=af (kO h ht);rw [pg] at sN;obtain ⟨Z,hZ⟩:=xE w.heap.size;obtain ⟨w1,aF⟩:=xE (w.alloc (.cells #[ae aa t.frame,.slice a.AP t.parts.length a.cP,.slice a.AW t.aJ.length a.cW,.slice a.AC t.av.length a.cC,ae aa t.ay] 46));have BX:Below w.heap.size w w1:=by rw [aF];exact (Below.refl _ w).alloc (Nat.le_refl _) _
 have Mq:=af (by have:=kO (h.below BX) (ht.over BX);rw [pg] at this;exact this)
 have H1:=af (show St w w1 [row Z 46 [ae aa t.frame,.slice a.AP t.parts.length a.cP,.slice a.AW t.aJ.length a.cW,.slice a.AC t.av.length a.cC,ae aa t.ay]] by
  have h:=(St.nil w).new 46 #[ae aa t.frame,.slice a.AP t.parts.length a.cP,.slice a.AW t.aJ.length a.cW,.slice a.AC t.av.length a.cC,ae aa t.ay];rw [←hZ,←aF] at h
  exact h)
 have H:=af h;have HIV:=af (fun (w':World) (hb:Below w.heap.size w w')=>AV.over hb)
 have mP:=af (fun (w':World) (hb:Below w.heap.size w w') (k:Nat) (hk:k < n) (Ak:Option Addr) (ck:Nat)=>by
  have hh:=EL (bG:=0) (i:=js.getD k aq.none) (A:=Ak) (c:=ck) (ht.over hb) (k:Int) (by
   have:=pS (PT k hk);obtain ⟨_,_,_,_,_,_,_,h8⟩:=this
   omega)
  rw [PT k hk] at hh
  exact hh)
 have yj:=af (fun k hk=>pS (PT k hk));have ke:=af (fun (w':World) (hb:Below w.heap.size w w')=>Nz (H.o.below hb) (ht.over hb) xH);have dr:=af (fun (w':World) (hb:Below w1.heap.size w1 w')=>(H1.o.below hb).row.1);have Cp:=af AK;have HJN:=af BQ;have HZ:=af hZ;have br:=af aF;have HC:=af hc;have TJ:=af hz;have Gh:=af gH;have HG:=af hg;have bh:=af BX;have Lj:n=t.parts.length:=by omega
 have sP:=af Lj;have y9:2≤n∧n≤4:=by omega
 simp only [dF.val] at Mq mP ke br ⊢;clear h ht hE hc hz AV pg AK hfe PT aF hZ BQ gH hg BX Lj VL;have t0:=H1.o.row.1.c0;have t1:=H1.o.row.1.c1;have t2:=H1.o.row.1.c2;have t3:=H1.o.row.1.c3;have t4:=H1.o.row.1.c4;have lT:=H1.o.row.1.lt;go_enter Tryz.func33,Tryz.ntmps33;go_upto_region 1 with fail;rw [←br.o,←HZ.o];go_wp2_with fail;refine Mq.o.mono ?_;rintro e w2 ⟨rfl,hb⟩;have aO:=af hb;clear hb t0 t1 t2 t3 t4 lT;have t1:=(dr.o w2 aO.o).c1;have lT:=(dr.o w2 aO.o).lt;have e0:((n:Int) != (t.parts.length:Int))=false:=by rw [sP.o];simp
 go_wp2_with fail;clear t1 lT e0;go_loopw [34] (fun x wr=>∃q:Nat,q≤n∧x=ae aa q∧Below w1.heap.size w1 wr) (fun x _=>n-(intOf x).toNat)
 case atStart=>exact ⟨0,by omega,rfl,aO.o⟩
 case round =>
  obtain ⟨q,hq,rfl,qL⟩:=hrel;have dz:=af qL;have Bd:=af (bh.o.trans (qL.mono bh.o.size));clear aO qL;by_cases aH:q < n
  ·obtain ⟨b,off,hA,cm,c0,c1,c2,c3,c4,c5,c6,c7,j9,FD⟩:=(HIV.o wr Bd.o).at_ q aH;generalize (K q).1=Ak,(K q).2=ck at *;have zg:Below w.heap.size w (wr.alloc (.cells #[ae aa (js.getD q aq.none).part,ae aa (js.getD q aq.none).version,ae aa (js.getD q aq.none).aV,ae aa (js.getD q aq.none).mem,ae aa (js.getD q aq.none).fuel,ae aa (js.getD q aq.none).aM,ae aa (js.getD q aq.none).ax,.slice Ak (js.getD q aq.none).code.length ck] 26)):=Bd.o.trans (((Below.refl wr.heap.size wr).alloc (Nat.le_refl _) _).mono Bd.o.size);have HCQ:=af (mP.o _ zg q aH Ak ck);have uy:=af (show Below w1.heap.size w1 (wr.alloc (.cells #[ae aa (js.getD q aq.none).part,ae aa (js.getD q aq.none).version,ae aa (js.getD q aq.none).aV,ae aa (js.getD q aq.none).mem,ae aa (js.getD q aq.none).fuel,ae aa (js.getD q aq.none).aM,ae aa (js.getD q aq.none).ax,.slice Ak (js.getD q aq.none).code.length ck] 26)) from dz.o.trans (((Below.refl wr.heap.size wr).alloc (Nat.le_refl _) _).mono dz.o.size));have HA:=af hA;simp only [aq.val] at HCQ;generalize js.getD q aq.none=j at *;have hr:=dr.o wr dz.o;have t0:=hr.c0;have t1:=hr.c1;have t2:=hr.c2;have t3:=hr.c3;have t4:=hr.c4;have lT:=hr.lt;have k0:(0:Int)≤(q:Int):=by omega
   have k1:(q:Int) < (n:Int):=by omega
   clear hA hr zg j9 FD;rw [HA.o];go_wp2_with fail;refine HCQ.o.mono ?_;rintro e w3 ⟨rfl,hb⟩;have bM:=af (uy.o.trans (hb.mono uy.o.size));clear hb t0 t1 t2 t3 t4 lT c0 c1 c2 c3 c4 c5 c6 c7;go_wp2_with fail;go_roundw;case rel=>exact ⟨q+1,by omega,by go_num,bM.o⟩
   case measure=>simp [intOf];omega
  ·have k1:¬(q:Int) < (n:Int):=by omega
   have hr:=dr.o wr dz.o;have t0:=hr.c0;have t1:=hr.c1;have t2:=hr.c2;have t3:=hr.c3;have t4:=hr.c4;have lT:=hr.lt;clear hr;go_wp2_with fail;refine (ke.o wr Bd.o).mono ?_;rintro e w3 ⟨a',rfl,ak⟩;have H3:=af ak;clear ak t0 t1 t2 t3 t4 lT;simp only [dF.val];obtain ⟨S,hS⟩:=xE w3.heap.size;obtain ⟨w4,dW⟩:=xE (w3.alloc (.cells #[ae aa t.frame,.slice a'.AP t.parts.length a'.cP,.slice a'.AW t.aJ.length a'.cW,.slice a'.AC t.av.length a'.cC,ae aa t.ay,.slice none 0 0] 114));have h4:=H3.o.new 114 #[ae aa t.frame,.slice a'.AP t.parts.length a'.cP,.slice a'.AW t.aJ.length a'.cW,.slice a'.AC t.av.length a'.cC,ae aa t.ay,.slice none 0 0];rw [←hS,←dW] at h4
   have GQ:St w0 w4 (aZ ⟨S,a',none,0,[]⟩ t d m []::B::l) :=
    Bu (q:=0) rfl (by
     have h5:=((h4.cX (Below.refl _ _) (show w4.ownsRow w4.heap.size 94 1 (.slice none 0 0) 0 [] from ⟨rfl,.inl ⟨rfl,rfl⟩⟩)).swap)
     have h6:=(St.eJ (L:=[]) h5)
     exact h6.perm (List.perm_middle (l₁:=[_,_,_,_]) (l₂:=B::l)).symm) rfl
   have H4:=af GQ;have wY:=af (sK.start HC.o);clear GQ h4;go_upto_region 14 with fail;rw [←hS,←dW];clear dW hS;have HZ0:=af (fun (x:Nat) (hx:10*0≤x) (hl:x < m.ar.length)=>TJ.o x hl);have s9:=af (show m.ar.length=m.ar.length from rfl);obtain ⟨sl,dk⟩:=xE m.ar.length;rw [←dk] at Gh;have lJ:=af dk.symm;have HMR:=af (show sK m [] (sx (js.take 0)) from wY.o);clear wY s9 dk;go_wp2_with fail;go_loopw [53] (fun x wr=>∃(q:Nat) (ad:fy) (m':DS) (xs:List PP),q≤n∧x=ae aa q∧ad.S=S∧xs.length=q∧St w0 wr (aZ ad t d m' xs::B::l)∧sK m' xs (sx (js.take q))∧m'.ar.length=sl∧∀j:Nat,10*q≤j→j < m'.ar.length→m'.now j=bt) (fun x _=>n-(intOf x).toNat)
   case atStart=>exact ⟨0,_,m,[],by omega,rfl,rfl,rfl,H4.o,HMR.o,lJ.o,HZ0.o⟩
   case round =>
    obtain ⟨q,ad,m',xs,uf,rfl,hS,jy,ak,Dx,dk,NL⟩:=hrel;have bH:=af ak;have ye:=af Dx;clear H4 HMR HZ0 ak Dx;by_cases aH:q < n
    ·have hqj:q < js.length:=by have:=HJN.o;omega
     have HIQ:=af (fun (w':World) (l':List aI) (hb:St w0 w' (B::l'))=>(HG.o w' l' hb).at_ q aH);obtain ⟨b,off,hA,cm,c0,c1,c2,c3,c4,c5,c6,c7,j9,FD⟩:=HIQ.o wr _ bH.o.swap;have WD:=af (fun (w':World) (l':List aI) (hb:St w0 w' (B::l'))=>show Sl w' w'.heap.size 1 (K q).1 (js.getD q aq.none).code.length (aP (js.getD q aq.none).code) from by obtain ⟨_,_,_,_,_,_,_,_,_,_,_,_,_,h⟩:=HIQ.o w' l' hb;exact h);have HJR:=af (yj.o q aH);have HJB:=af (show bn (js.getD q aq.none).code by rw [qM hqj];exact (HG.o wr _ bH.o.swap).jo _ (List.getElem_mem hqj));have HMT:=af (Py hqj);have HA:=af hA;have Hl:=af j9;generalize js.getD q aq.none=j at *;generalize (K q).1=Ak,(K q).2=ck at *;obtain ⟨Q,hQ⟩:=xE wr.heap.size;obtain ⟨w5,eD⟩:∃v,v=(wr.alloc (.cells #[ae aa j.part,ae aa j.version,ae aa j.aV,ae aa j.mem,ae aa j.fuel,ae aa j.aM,ae aa j.ax,.slice Ak j.code.length ck] 26)).alloc (.cells #[.pointer none,.pointer none,.pointer none] 102):=⟨_,rfl⟩
     have h5:=(bH.o.new 26 #[ae aa j.part,ae aa j.version,ae aa j.aV,ae aa j.mem,ae aa j.fuel,ae aa j.aM,ae aa j.ax,.slice Ak j.code.length ck]).new 102 #[.pointer none,.pointer none,.pointer none];rw [show (wr.alloc (.cells #[ae aa j.part,ae aa j.version,ae aa j.aV,ae aa j.mem,ae aa j.fuel,ae aa j.aM,ae aa j.ax,.slice Ak j.code.length ck] 26)).heap.size=Q+1 by rw [hQ];exact Array.size_push _,←hQ,←eD] at h5;have qw:=Bq (h5.pick 2 rfl);have cH:=qw.2;have H5:=af ((qw.1.pick 3 rfl).pick 5 rfl);have HQ:=af hQ;have sO:=af eD;have k0:(0:Int)≤(q:Int):=by omega
     have k1:(q:Int) < (n:Int):=by omega
     have iP:10*(q+1)≤m'.ar.length:=by have:=Gh.o;have:=sP.o;omega
     clear hA j9 FD h5 qw hQ eD;rw [HA.o];go_upto_region 18 with fail;rw [←sO.o,←HQ.o];clear c0 c1 c2 c3 c4 c5 c6 c7;have ph:nD (q:Int) 0 m'.ar.length=true:=by unfold nD eg;simp;omega
     have wK:nD (q:Int) 1 m'.ar.length=true:=by unfold nD eg;simp;omega
     have Cm:=af (RQ H5.o ph wK ye.o.calm.up.1 (by rw [ye.o.calm.waits];simp) ye.o.calm.eQ);have kJ:eU m' (q:Int) 0=cy.none:=ua (NL _ (by unfold bz;omega) (by unfold bz;omega));have ny:eU m' (q:Int) 1=cy.none:=ua (NL _ (by unfold bz;omega) (by unfold bz;omega));rw [kJ,ny] at Cm;clear ph wK kJ ny;go_wp2_with fail;refine Cm.o.mono ?_;rintro e w6 ⟨rfl,g0,g1,ak⟩;have H6:=af ak;have o1:=ak.row.1.c1;have o2:=ak.row.1.lt;have xI:=(ak.pick 8 rfl).row.1;have q0:=xI.c0;have q1:=xI.c1;have q2:=xI.c2;have q3:=xI.c3;have q4:=xI.c4;have q5:=xI.c5;have q6:=xI.c6;have q7:=xI.c7;have q8:=xI.lt;have IE:sL w0 w6.drew g0 d q 0 m' m' cy.none RS.none _:=⟨(ak.drew.pick 3 rfl).pick 2 rfl,Mf ye.o.calm ⟨ye.o.calm.bu,ye.o.calm.eQ,by omega,by omega,by omega,by omega,by unfold eg;omega⟩ (NL _ (by unfold bz;omega) (by unfold bz;omega)),ye.o.calm.up,rfl,fun _ _=>rfl⟩
     have JE:=af (Yw IE j HJR.o HJB.o Ak ck Hl.o (WD.o w6.drew _ (ak.drew.pick 9 rfl)));simp only [aq.val] at JE;clear ak xI IE Cm;go_upto_region 21 with fail;refine dN ?_;(refine bk [0,1,2,3,4,5] ?_;simp only [pick,xG];(iterate 6 still_step);refine wpStill_nil ?_);(try simp only [ai]);(refine aK 6 ?_;(try simp only [xG]);go_simp);refine JE.o.mono ?_;rintro e w7 ⟨rfl,m7,s7,h7⟩;have H7:=af h7;clear h7 q0 q1 q2 q3 q4 q5 q6 q7 q8 o1 o2;dsimp only;(try simp only [ai]);(refine bk [7] ?_;simp only [pick,xG];(iterate 1 still_step);refine wpStill_nil ?_);refine cw ?_;have Lv:=H7.o.calm;have hrf:roomFor (q:Int) m7.ar.length=true:=by unfold roomFor;have:=H7.o.len;simp;omega
     obtain ⟨f1,f2,f3,f4,f5,f6⟩:=Td Lv.bu Lv.eQ Lv.up hrf;have HFM:=af ((Te (H7.o.st.pick 1 rfl) (q:Int) hrf (by rw [Lv.waits];simp)).mono fun e w' h=>h.1 f1);have HMK:=af (ye.o.make jy (by omega) iP (fun x h1 h2=>NL x h1 h2) H7.o.si H7.o.up H7.o.len H7.o.out f2 f3 f4 f5 (fun x h1 h2=>by rw [f6,if_neg (by omega),if_neg (by omega)]));have HL8:=af (show (iH m7 (q:Int)).2.ar.length=sl by rw [f5,H7.o.len,dk]);generalize (iH m7 (q:Int)).1=fe,(iH m7 (q:Int)).2=m8 at *;clear Lv hrf f1 f2 f3 f4 f5 f6;go_wp2_with fail;refine HFM.o.mono ?_;rintro e w8 ⟨g,rfl,ak⟩;have h8:=ak.pick 3 rfl;have H8:=af h8;have z0:=h8.row.1.c0;have z1:w8.frozen? ⟨Q+1,0,none⟩=false:=h8.row.1.frozen 0;have z2:=h8.row.1.lt;clear ak h8;go_upto_region 28 with fail;obtain ⟨w9,hw9⟩:=xE (w8.setCell ⟨Q+1,0,none⟩ (.pointer (some ⟨g,0,none⟩)));rw [←hw9];have h9:=H8.o.set 0 (.pointer (some ⟨g,0,none⟩));rw [←hw9] at h9;simp only [List.set_cons_zero] at h9;have H9:=af (h9.pick 5 rfl);have FW:=(h9.pick 5 rfl).row.1;rw [jy,hS] at FW;have s5:=FW.c5;have s6:=FW.lt;clear z0 z1 z2 hw9 h9 FW H8;have ft:=(H9.o.pick 6 rfl)
     rw [jy] at ft;have Ba:=af ft;clear ft;obtain ⟨wb,uL⟩:=xE (w9.alloc (.cells #[.pointer (some ⟨Q+1,0,none⟩)] 94));obtain ⟨D,hD⟩:=xE w9.heap.size;have kV:=Ba.o.new 94 #[.pointer (some ⟨Q+1,0,none⟩)];rw [←uL,←hD] at kV;have xh:=af kV;have rM:Sl wb wb.heap.size 1 (some ⟨D,0,none⟩) 1 [.pointer (some ⟨Q+1,0,none⟩)]:=kV.row.1.sl kV.row.1.lt rfl rfl;have Ge:=af rM;have OC:=af kV.swap.own;have DY:=af kV.aE.size;have HD:=af hD;have TO:=af uL;clear kV rM hD uL
     go_upto_region 29 with (first
      | (at_builtin;rw [←TO.o,←HD.o];refine nG WS rfl (.tmp 94) (.tmp 96) rfl OC.o rfl rfl (fun h=>by cases h) Ge.o (by simp [Value.oneCell']) (by omega) (by unfold maxLen;omega) DY.o ?_;intro v' wc ho hg hl;have sU:=xh.o.swap.grown hg ho hl;obtain ⟨A9,c9,rfl,_,_⟩:=aD ho;have yn:=af sU;have wJ:=(sU.pick 2 rfl).row.1;have y5:=wJ.c5;have y6:wc.frozen? ⟨ad.S,5,none⟩=false:=wJ.frozen 5;have y7:=wJ.lt;rw [hS] at y5 y6 y7;clear wJ ho hg hl sU))
     go_wp2_with fail;go_roundw
     case rel =>
      refine ⟨q+1,⟨ad.S,ad.bN,A9,c9,ad.al++[⟨Q+1,g,g0,g1⟩]⟩,m8,xs++[Pz q s7],by omega,by go_num,hS,by rw [gC,jy];rfl,?_,by rw [HMT.o];exact HMK.o.1,HL8.o,HMK.o.2⟩;have h:=(yn.o.pick 2 rfl).set 5 (.slice A9 (q+1) c9);rw [hS] at h;have h2:=((((((((((((h.pick 11 rfl).pick 6 rfl).pick 9 rfl).pick 4 rfl).pick 4 rfl).pick 9 rfl).pick 9 rfl).pick 9 rfl).pick 9 rfl).pick 10 rfl).pick 11 rfl).pick 11 rfl).drop.drop;have h3:=Ig (a:=⟨Q+1,g,g0,g1⟩) (x:=Pz q s7) cH jy h2;have h4:=((((((h3.pick 5 rfl).pick 1 rfl).pick 5 rfl).pick 5 rfl).pick 5 rfl).pick 5 rfl)
      refine Bu (q:=q+1) (by rw [gC,jy];rfl) ?_ (by rw [gC,gC,cH];rfl);rw [hS];have NU:nt (ad.al++[⟨Q+1,g,g0,g1⟩])=nt ad.al++[.pointer (some ⟨Q+1,0,none⟩)]:=by simp [nt]
      rw [NU];exact h4
     case measure=>simp [intOf];omega
    ·have HE:=af (show js.take q=js by rw [List.take_of_length_le];have:=HJN.o;omega);have k1:¬(q:Int) < (n:Int):=by omega
     go_wp2_with fail;go_ret2;have h:=ye.o;rw [HE.o] at h;exact ⟨ad,by rw [hS];rfl,m',xs,bH.o,h,by have:=sP.o;omega,by rw [dk,lJ.o]⟩
end
end store
namespace tt
open Go.RowKit Go.Deep base obj mem sep bC num bytes aW chain image
theorem ji (l:List Int):∀v∈aP l,v.oneCell'=true:=fun v hv=>by
 obtain ⟨z,_,rfl⟩:=List.mem_map.1 hv;rfl
theorem Ei (w:World) (m c:Nat) (A:Option Addr) (bs:List Int) (BP:0 < m) (hm:m≤1000) (hmc:m≤c) (hs:Sl w w.heap.size 1 A m (aP bs)) :
  Calls Tryz.prog 200 #[.slice A m c] w fun e w'=>∃v,e=.returned v∧w'.ownsRow w.heap.size 5 1 v (2+m) (aP (be 2 m++bs))∧Below w.heap.size w w':=by
 obtain ⟨B,off,rfl,_,_⟩:=hs.2 BP;have c0:¬((m:Int) > 65535):=by omega
 have c1:(0:Int)≤(m:Int):=by omega
 have c2:(m:Int)≤(c:Int):=by omega
 have HS:=af hs;have HP:=af (oH.jw w m (by omega) 2 (by omega) (by omega));have HH:=af (EE 2 m (by omega));clear hs;go_enter Tryz.func200,Tryz.ntmps200;go_wp2_with fail;refine HP.o.mono ?_;rintro e w1 ⟨g,rfl,hg,hr,hb⟩;rw [HH.o] at hr
 have ho:w1.ownsRow w.heap.size 5 1 (.slice (some ⟨g,0,none⟩) 2 2) 2 (aP (be 2 m)):=by
  have h:=hr.own (size:=1) (n:=2) (cap:=2) hg (Nat.le_refl _) (by decide) (by simp [bp])
  rwa [List.take_of_length_le (by simp [bp])] at h
 have HO:=af ho;have HB:=af hb;have nX:=af ((HS.o.below hb).more hb.size);clear hg hr hb ho;go_wp2_with (at_builtin;refine nG sn rfl (.tmp 11) (.tmp 14) rfl HO.o rfl rfl (fun h=>by cases h) nX.o (ji _) (by omega) (by unfold maxLen;omega) HB.o.size ?_;intro v3 w3 xK wO FN;have zq:=af xK;have bM:=af (jq HB.o HO.o wO HB.o.size);clear xK wO FN);go_ret;exact ⟨_,rfl,by rw [aP,List.map_append];exact zq.o,bM.o⟩
theorem rG (w:World) (i:aq) (A:Option Addr) (c:Nat) (hc:i.code.length≤9223372036854775807):Calls Tryz.prog 83 #[i.val A c] w fun e w'=>e=.returned (.bool (decide i.right))∧Below w.heap.size w w':=by
 obtain ⟨part,version,aV,mem,fuel,aM,ax,code⟩:=i;simp only [aq.val];have hb:Below w.heap.size w (w.alloc (.cells #[ae aa part,ae aa version,ae aa aV,ae aa mem,ae aa fuel,ae aa aM,ae aa ax,.slice A code.length c] 26)):=(Below.refl _ w).alloc (Nat.le_refl _) _;have HB:=af hb;generalize hn:code.length=n
 have hd:decide (aq.right ⟨part,version,aV,mem,fuel,aM,ax,code⟩)=decide ((0≤part∧part≤3)∧(1≤version∧version≤65535)∧(0≤aV∧aV≤65535)∧(1≤mem∧mem≤16)∧(1≤fuel∧fuel≤32)∧(0≤aM∧aM≤15)∧(0≤ax∧ax≤15)∧(1≤(n:Int)∧(n:Int)≤96)):=by
  simp only [aq.right,hn]
 rw [hd,←hn];have HN:=af hn;clear hd hb hn;rw [HN.o] at *;go_enter Tryz.func83,Tryz.ntmps83;go_wp2_with fail;all_goals (go_ret;refine ⟨?_,(Below.refl _ w).alloc (Nat.le_refl _) _⟩;first|(simp;omega)|rfl|(simp;done)|(simp;intros;omega)|(simp;constructor<;>omega)|skip)
theorem TC (n:Nat) (h:n < 256):be 1 n=[(n:Int)]:=by
 simp only [be,List.range_one,List.map_cons,List.map_nil,digit];simp;omega
theorem be2 (n:Nat) (h:n < 65536):be 2 n=[((n / 256:Nat):Int),((n % 256:Nat):Int)]:=by
 simp only [be,List.range,List.range.loop,List.map_cons,List.map_nil,digit];simp;omega
theorem U2 (w:World) (i:aq) (hr:i.right) (cG:bn i.code) (A:Option Addr) (c:Nat) (hc:i.code.length≤c) (hs:Sl w w.heap.size 1 A i.code.length (aP i.code)) :
  Calls Tryz.prog 175 #[i.val A c] w fun e w'=>∃v,e=.returned v∧w'.ownsRow w.heap.size 5 1 v (13+i.code.length) (aP i.head)∧Below w.heap.size w w':=by
 obtain ⟨part,version,aV,mem,fuel,aM,ax,code⟩:=i;obtain ⟨⟨a0,a1⟩,⟨b0,b1⟩,⟨c0,c1⟩,⟨d0,d1⟩,⟨e0,e1⟩,⟨f0,f1⟩,⟨g0,g1⟩,⟨h0,h1⟩⟩:=hr;simp only at *;obtain ⟨p,rfl⟩:∃p:Nat,part=p:=⟨part.toNat,by omega⟩
 obtain ⟨ve,rfl⟩:∃p:Nat,version=p:=⟨version.toNat,by omega⟩
 obtain ⟨ha,rfl⟩:∃p:Nat,aV=p:=⟨aV.toNat,by omega⟩
 obtain ⟨me,rfl⟩:∃p:Nat,mem=p:=⟨mem.toNat,by omega⟩
 obtain ⟨fu,rfl⟩:∃p:Nat,fuel=p:=⟨fuel.toNat,by omega⟩
 obtain ⟨se,rfl⟩:∃p:Nat,aM=p:=⟨aM.toNat,by omega⟩
 obtain ⟨re,rfl⟩:∃p:Nat,ax=p:=⟨ax.toNat,by omega⟩
 have hH:aP (aq.head ⟨(p:Int),(ve:Int),(ha:Int),(me:Int),(fu:Int),(se:Int),(re:Int),code⟩)=([.int .u8 76,.int .u8 73,.int .u8 p,.int .u8 ((ve:Int) / 256),.int .u8 ((ve:Int) % 256),.int .u8 ((ha:Int) / 256),.int .u8 ((ha:Int) % 256),.int .u8 me,.int .u8 fu,.int .u8 se,.int .u8 re]:List Value)++aP (be 2 code.length++code):=by
  simp only [aq.head,dC,List.append_assoc];rw [be2 19529 (by omega),TC p (by omega),be2 ve (by omega),be2 ha (by omega),TC me (by omega),TC fu (by omega),TC se (by omega),TC re (by omega)];simp [aP]
 have W:∀n:Nat,n < 256→IntKind.u8.wrap (n:Int)=n:=fun n h=>by rw [IntKind.wrap_u8];omega
 have w0:=W p (by omega);have w1:=W me (by omega);have w2:=W fu (by omega);have w3:=W se (by omega);have w4:=W re (by omega);have w5:IntKind.u8.wrap ((ve:Int).tdiv 256)=(ve:Int) / 256:=W (ve / 256) (by omega);have w6:IntKind.u8.wrap ((ve:Int).tmod 256)=(ve:Int) % 256:=W (ve % 256) (by omega);have w7:IntKind.u8.wrap ((ha:Int).tdiv 256)=(ha:Int) / 256:=W (ha / 256) (by omega);have w8:IntKind.u8.wrap ((ha:Int).tmod 256)=(ha:Int) % 256:=W (ha % 256) (by omega);have HT:=af (fun w' (hb:Below w.heap.size w w')=>Ei w' code.length c A code (by omega) (by omega) hc ((hs.below hb).more hb.size));simp only [aq.val];go_enter Tryz.func175,Tryz.ntmps175;have HH:=af hH;clear hH;go_wp2_with fail;obtain ⟨w1,aF⟩:=xE (w.alloc (.cells #[ae aa p,ae aa ve,ae aa ha,ae aa me,ae aa fu,ae aa se,ae aa re,.slice A code.length c] 26));have hz:w1.heap.size=w.heap.size+1:=by rw [aF];exact Array.size_push _
 have f7:Row w1 w.heap.size 26 [ae aa p,ae aa ve,ae aa ha,ae aa me,ae aa fu,ae aa se,ae aa re,.slice A code.length c]:=by rw [aF];exact Row.new w _ _
 have kb:Below w.heap.size w w1:=by rw [aF];exact (Below.refl _ w).alloc (Nat.le_refl _) _
 rw [←aF];clear aF;obtain ⟨w2,eh⟩:=xE (w1.alloc (.cells #[.int .u8 76,.int .u8 73,.int .u8 p,.int .u8 ((ve:Int) / 256),.int .u8 ((ve:Int) % 256),.int .u8 ((ha:Int) / 256),.int .u8 ((ha:Int) % 256),.int .u8 me,.int .u8 fu,.int .u8 se,.int .u8 re] 5));have mL:Row w2 (w.heap.size+1) 5 [.int .u8 76,.int .u8 73,.int .u8 p,.int .u8 ((ve:Int) / 256),.int .u8 ((ve:Int) % 256),.int .u8 ((ha:Int) / 256),.int .u8 ((ha:Int) % 256),.int .u8 me,.int .u8 fu,.int .u8 se,.int .u8 re]:=by rw [eh,←hz];exact Row.new w1 _ _
 have bT:Below w.heap.size w w2:=by rw [eh];exact kb.alloc kb.size _
 rw [←eh];clear eh f7 kb hz w1;refine (HT.o w2 bT).mono ?_;rintro e w3 ⟨v,rfl,ho,hb⟩;obtain ⟨g3,c3,rfl,_,_⟩:=ho.form (by omega);have lA:=bT.trans (hb.mono bT.size);have xK:=(mL.below hb mL.lt).own (base:=w.heap.size) (size:=1) (n:=11) (cap:=11) (Nat.le_succ _) (Nat.le_refl _) (by decide) rfl;have HS:=af (Sl.bP ho);have HO:=af xK;have HB:=af lA;clear ho hb bT mL lA xK;go_wp2_with (at_builtin;refine nG sn rfl (.tmp 36) (.tmp 39) rfl HO.o rfl rfl (fun h=>by cases h) HS.o (ji _) (by omega) (by unfold maxLen;omega) HB.o.size ?_;intro v3 w3 xK wO FN;have zq:=af xK;have bM:=af (jq HB.o HO.o wO HB.o.size);clear xK wO FN);go_ret;refine ⟨_,rfl,?_,bM.o⟩;have h:=zq.o;rw [HH.o];rw [show 11+(2+code.length)=13+code.length by omega] at h;exact h
theorem C8 {a b:List Int} (ha:bn a) (hb:bn b):bn (a++b):=fun z hz=>by
 rcases List.mem_append.1 hz with h|h
 ·exact ha z h
 ·exact hb z h
theorem jk (w:World) (B:Nat):w.ownsRow B 5 1 (.slice none 0 0) 0 (aP []):=⟨rfl,.inl ⟨rfl,rfl⟩⟩
theorem Kx (w:World) (A:Option Addr) (n c:Nat) (bs:List Int) (hn:bs.length=n) (hA:∃B off,A=some ⟨B,off,none⟩) (hm:n≤90000) (cG:bn bs) (hs:Sl w w.heap.size 1 A n (aP bs)) :
  Calls Tryz.prog 160 #[.slice A n c] w fun e w'=>∃v,e=.returned v∧w'.ownsRow w.heap.size 5 1 v (n+36) (aP (fS bs))∧Below w.heap.size w w':=by
 obtain ⟨B,off,rfl⟩:=hA;have HS:=af hs;have HN:=af hn;have HY:=af cG;have H0:=af (jk w w.heap.size);have fE:=af (Below.refl w.heap.size w);clear hs hn cG;go_enter Tryz.func160,Tryz.ntmps160;go_wp2_with (at_builtin;refine nG sn rfl (.tmp 4) (.tmp 5) rfl H0.o rfl rfl (fun h=>by cases h) HS.o (ji _) (by omega) (by unfold maxLen;omega) fE.o.size ?_;intro v3 w3 xK wO FN;have zq:=af xK;have bM:=af (jq fE.o H0.o wO fE.o.size);clear xK wO FN);have adl:=af (show w3.ownsRow w.heap.size 5 1 v3 n (aP bs) by have h:=zq.o;rwa [Nat.zero_add] at h);clear zq H0 fE;refine (fZ.YD w3).mono ?_;rintro e w4 ⟨v1,v2,rfl,ak⟩;have AF:=ak.own;have uf:=(ak.pick 1 rfl).own;obtain ⟨A1,c1,rfl,j8⟩:=KN AF;obtain ⟨A2,c2,rfl,pK⟩:=KN uf;have pO:=ak.aE;have HQ1:=af j8;have kd:=af pK;have fD:=af (bM.o.trans (pO.mono bM.o.size));have Cn:=af (mn adl.o pO);have uw:=af ((HS.o.below fD.o).more fD.o.size);clear ak AF uf j8 pK pO;go_wp2_with fail;refine (fZ.aby w4 A1 A2 _ c1 c2 n c bs HY.o HN.o (by omega) HQ1.o kd.o uw.o (fun h=>by cases h)).mono ?_;rintro e w5 ⟨r,rfl,ho,hb⟩;obtain ⟨g5,c5,rfl,_,_⟩:=ho.form (by omega);have lN:=af (fD.o.trans (hb.mono fD.o.size));have DT:=af (mn Cn.o hb);have sY:=af (Sl.bP ho);clear ho hb;go_wp2_with (at_builtin;refine nG sn rfl (.tmp 7) (.tmp 10) rfl DT.o rfl rfl (fun h=>by cases h) sY.o (ji _) (by omega) (by unfold maxLen;omega) lN.o.size ?_;intro v6 w6 fC gq FM;have DR:=af fC;have pA:=af (jq lN.o DT.o gq lN.o.size);clear fC gq FM;obtain ⟨A6,c6,rfl,_⟩:=aD DR.o);have sX:=af (Sl.bP DR.o);have HY6:=af (C8 HY.o (fZ.CZ bs));have HU6:=af (show aP bs++aP (gG bs)=aP (bs++gG bs) by simp [aP]);refine (Rw.vV w6 A6 (n+32) c6 (bs++gG bs) (by rw [gC,HN.o,fZ.rS]) (by omega) HY6.o (by rw [←aP,←HU6.o];exact sX.o)).mono ?_;rintro e w6' ⟨rfl,rfl⟩;have PH:sum (bs++gG bs) < 4294967296:=Bp;obtain ⟨q,hq⟩:=xE (sum (bs++gG bs));rw [←hq] at PH ⊢;have HQ:=af hq;clear hq;have Fx:IntKind.i64.wrap (q:Int)=q:=IntWalk.i64_in _ (by omega);go_wp2_with fail;refine (oH.jw w6' q (by omega) 4 (by omega) (by omega)).mono ?_;rintro e w7 ⟨g7,rfl,hg7,NR,hb7⟩;rw [EE 4 q (by omega)] at NR;have HS7:=af (show Sl w7 w7.heap.size 1 (some ⟨g7,0,none⟩) 4 (aP (be 4 q)) from NR.sl NR.lt (by rw [List.drop_zero,List.take_of_length_le (by simp [bp])]) (by simp [bp,aP]));have xn:=af (pA.o.trans (hb7.mono pA.o.size));have Gl:=af (mn DR.o hb7);clear NR hb7 hg7;go_wp2_with (at_builtin;refine nG sn rfl (.tmp 12) (.tmp 16) rfl Gl.o rfl rfl (fun h=>by cases h) HS7.o (ji _) (by omega) (by unfold maxLen;omega) xn.o.size ?_;intro v8 w8 ho8 hg8 hl8;have HO8:=af ho8;have HB8:=af (jq xn.o Gl.o hg8 xn.o.size);clear ho8 hg8 hl8);go_ret;refine ⟨_,rfl,?_,HB8.o⟩;have h:=HO8.o;rw [HU6.o,HQ.o,←List.map_append] at h;exact h
theorem U1 (w:World) (i:aq) (hr:i.right) (cG:bn i.code) (A:Option Addr) (c:Nat) (hc:i.code.length≤c) (hs:Sl w w.heap.size 1 A i.code.length (aP i.code)) :
  Calls Tryz.prog 132 #[i.val A c] w fun e w'=>∃v,e=.returned v∧w'.ownsRow w.heap.size 5 1 v (49+i.code.length) (aP i.bytes)∧Below w.heap.size w w':=by
 have hl:i.code.length≤96:=by obtain ⟨_,_,_,_,_,_,_,h⟩:=hr;omega
 have HY:=af (tE i cG);have HB:=af (show i.bytes=fS i.head from rfl);have hh:=fun w' (hb:Below w.heap.size w w')=>U2 w' i hr cG A c hc ((hs.below hb).more hb.size);have MF:=af (wP i);obtain ⟨n,hn⟩:=xE i.code.length;obtain ⟨hd,N7⟩:=xE i.head;rw [←N7] at hh HY HB MF;rw [←hn] at hh MF hl ⊢;rw [HB.o];have hv:i.val A c=.agg #[ae aa i.part,ae aa i.version,ae aa i.aV,ae aa i.mem,ae aa i.fuel,ae aa i.aM,ae aa i.ax,.slice A n c]:=by rw [hn];rfl
 rw [hv] at hh ⊢;have HH:=af hh;generalize i.part=p1,i.version=p2,i.aV=p3,i.mem=p4,i.fuel=p5,i.aM=p6,i.ax=p7 at HH ⊢;clear hr hs hn N7 hv hh;go_enter Tryz.func132,Tryz.ntmps132;go_wp2_with fail;refine (HH.o _ ((Below.refl _ w).alloc (Nat.le_refl _) _)).mono ?_;rintro e w1 ⟨v,rfl,ho,hb⟩;obtain ⟨A1,c1,rfl,_,_⟩:=aD ho;have bh:=af (((Below.refl _ w).alloc (Nat.le_refl _) _).trans (hb.mono (by simp)));have nX:=af (Sl.bP ho);clear ho hb;go_wp2_with fail;refine (Kx w1 A1 (13+n) c1 hd MF.o (let ⟨B,o,e,_⟩:=nX.o.2 (by omega);⟨B,o,e⟩) (by omega) HY.o (nX.o)).mono ?_;rintro e w2 ⟨v,rfl,ho,hb⟩;have HO:=af ho;have aO:=af (bh.o.trans (hb.mono bh.o.size));have mv:=af bh.o.size;clear ho hb;go_wp2_with fail;go_ret;refine ⟨_,rfl,?_,aO.o⟩;have h:=HO.o.mono mv.o
 rwa [show 13+n+36=49+n by omega] at h
end tt
end Go.Proofs.YtdldkkoplgkloaaGreat
