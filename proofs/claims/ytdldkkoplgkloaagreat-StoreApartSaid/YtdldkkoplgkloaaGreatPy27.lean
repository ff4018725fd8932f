/-
  PROVED HERE: lemmas that the law leans on.
  CONDITIONS: each names its own.
-/
import Derived.Test.YtdldkkoplgkloaaGreatPy0
import Derived.Test.YtdldkkoplgkloaaGreatPy4
import Derived.Test.YtdldkkoplgkloaaGreatPy9
import Derived.Test.YtdldkkoplgkloaaGreatPy19
import Derived.Test.YtdldkkoplgkloaaGreatPy26
namespace Go.Proofs.YtdldkkoplgkloaaGreat
set_option linter.unusedVariables false
set_option linter.unusedSimpArgs false
set_option maxRecDepth 100000
set_option maxHeartbeats 32000000
namespace store


open Go.RowKit Go.Deep base obj mem sep bf bk record bP aU image bK bR chain bw
structure B2 (w:World) (B:Nat) (js:List aw) (A:Option Addr) (n:Nat) (K:Nat→Option Addr×Nat):Prop where
 len:js.length=n
 iS:∀i∈js,bo i.code
 at_:∀k,k < n→∃b off,A=some ⟨b,off,none⟩∧b < B∧w.cell? ⟨b,off+k*8,none⟩=some (.int .i64 (js.getD k aw.none).part)∧w.cell? ⟨b,off+k*8+1,none⟩=some (.int .i64 (js.getD k aw.none).version)∧w.cell? ⟨b,off+k*8+2,none⟩=some (.int .i64 (js.getD k aw.none).aY)∧w.cell? ⟨b,off+k*8+3,none⟩=some (.int .i64 (js.getD k aw.none).mem)∧w.cell? ⟨b,off+k*8+4,none⟩=some (.int .i64 (js.getD k aw.none).fuel)∧w.cell? ⟨b,off+k*8+5,none⟩=some (.int .i64 (js.getD k aw.none).aN)∧w.cell? ⟨b,off+k*8+6,none⟩=some (.int .i64 (js.getD k aw.none).aB)∧w.cell? ⟨b,off+k*8+7,none⟩=some (.slice (K k).1 (js.getD k aw.none).code.length (K k).2)∧(js.getD k aw.none).code.length≤(K k).2∧Sl w B 1 (K k).1 (js.getD k aw.none).code.length (aP (js.getD k aw.none).code)
theorem B2.over {w w':World} {js:List aw} {A:Option Addr} {n:Nat} {K:Nat→Option Addr×Nat} (h:B2 w w.heap.size js A n K) (k:Below w.heap.size w w'):B2 w' w'.heap.size js A n K:=by
 refine ⟨h.len,h.iS,fun j hj=>?_⟩;obtain ⟨b,off,e,hb,c0,c1,c2,c3,c4,c5,c6,c7,hc,hs⟩:=h.at_ j hj;exact ⟨b,off,e,Nat.lt_of_lt_of_le hb k.size,(k.cell hb).trans c0,(k.cell hb).trans c1,(k.cell hb).trans c2,(k.cell hb).trans c3,(k.cell hb).trans c4,(k.cell hb).trans c5,(k.cell hb).trans c6,(k.cell hb).trans c7,hc,(hs.below k).more k.size⟩
def zd (w0:World) (B:aD) (js:List aw) (A:Option Addr) (n:Nat) (K:Nat→Option Addr×Nat):Prop:=∀w l,St w0 w (B::l)→B2 w w.heap.size js A n K
def tw (t:aQ):Nat→List aw→Int
 | _,[]=>0
 | p,i::r=>if bX t p i 0≠0 then bX t p i 0 else tw t (p+1) r
theorem EE {t:aQ}:∀(r:List aw) (p:Nat),(∀k,k < r.length→bX t ((p+k:Nat):Int) (r.getD k aw.none) 0=0)→tw t p r=0
 | [],_,_=>rfl
 | i::r,p,h=>by
   have h0:=h 0 (by simp);simp only [Nat.add_zero,List.getD_cons_zero] at h0;rw [tw,if_neg (by simpa using h0)];refine EE r (p+1) fun k hk=>?_;have:=h (k+1) (by simpa using hk);rw [show p+1+k=p+(k+1) by omega];simpa using this
theorem GQ {t:aQ}:∀(r:List aw) (p j:Nat),j < r.length→(∀k,k < j→bX t ((p+k:Nat):Int) (r.getD k aw.none) 0=0)→bX t ((p+j:Nat):Int) (r.getD j aw.none) 0≠0→tw t p r=bX t ((p+j:Nat):Int) (r.getD j aw.none) 0
 | [],_,j,hj,_,_=>absurd hj (by simp)
 | i::r,p,0,_,_,hn=>by
   simp only [Nat.add_zero,List.getD_cons_zero] at hn ⊢;rw [tw,if_pos hn]
 | i::r,p,j+1,hj,h,hn=>by
   have h0:=h 0 (by omega);simp only [Nat.add_zero,List.getD_cons_zero] at h0
   rw [tw,if_neg (by simpa using h0),GQ r (p+1) j (by simpa using hj) (fun k hk=>by
    have:=h (k+1) (by omega);rw [show p+1+k=p+(k+1) by omega]
    simpa using this) (by rw [show p+1+j=p+(j+1) by omega];simpa using hn)]
   rw [show p+1+j=p+(j+1) by omega];simp
def BK (n:Nat) (t:aQ) (js:List aw):Int:=if oh n t≠0 then oh n t else if js.length≠t.parts.length then 3 else tw t 0 js
theorem Sk {n:Nat} {t:aQ} (h:oh n t=0):t.right=true∧10*t.parts.length≤n:=by
 unfold oh at h;split at h
 ·simp at h
 ·split at h
  ·simp at h
  ·rename_i h1 h2
   exact ⟨by simpa using h1,by omega⟩
theorem oQ {t:aQ} {p:Int} {i:aw} {v:Int} (h:bX t p i v=0):i.right:=by
 unfold bX at h;split at h
 ·simp at h
 ·split at h
  ·simp at h
  ·rename_i h1 h2
   exact Classical.byContradiction fun hn=>h2 (.inr hn)

theorem Pk {w0 w:World} {l:List aD} {ad:du} {t:aQ} {d:Nat} {m:DS} {xs:List PP} {q:Nat} (hq:xs.length=q) (h:St w0 w (row ad.S 114 (vH ad t q)::own 94 1 (.slice ad.AL q ad.cL) q (qm ad.al)::DK ad.bK t::bU d m::dr (fN d ad.al xs)::l)) (hl:ad.al.length=xs.length):St w0 w (bL ad t d m xs::l):=by
 subst hq;refine St.eR ((h.addFact hl).perm ?_);simp only [CY,List.cons_append,List.nil_append];exact (List.perm_middle (l₁:=[_,_,_,_,_]) (l₂:=l)).symm
theorem XM {w0 w:World} {l:List aD} {ad:du} {t:aQ} {d:Nat} {m:DS} {xs:List PP} (h:St w0 w (bL ad t d m xs::l)):St w0 w (row ad.S 114 (vH ad t xs.length)::own 94 1 (.slice ad.AL xs.length ad.cL) xs.length (qm ad.al)::DK ad.bK t::bU d m::dr (fN d ad.al xs)::l)∧ad.al.length=xs.length:=by
 have h1:=h.fI;simp only [CY,List.cons_append,List.nil_append] at h1;have h2:=h1.pick 5 rfl;exact ⟨h2.drop,h2.fact⟩
theorem Nz {d:Nat} {al:List mT} {xs:List PP} (hl:al.length=xs.length) (a:mT) (x:PP):fN d (al++[a]) (xs++[x])=fN d al xs++[BF d xs.length a x]:=by
 simp only [fN,gA,List.length_singleton,List.range_succ,List.map_append,List.map_cons,List.map_nil]
 congr 1
 ·refine List.map_congr_left fun p hp=>?_;have th:=List.mem_range.1 hp;rw [AM (by omega),AM th]
 ·rw [AK (by omega),AK (Nat.le_refl _),hl,Nat.sub_self];rfl
theorem PY {w0 w:World} {l:List aD} {d:Nat} {al:List mT} {xs:List PP} (hl:al.length=xs.length) {a:mT} {x:PP} {q:Nat} (hq:xs.length=q) (h:St w0 w (dr (fN d al xs)::row a.O 102 (ownRow a)::log a.L d q x.log.held x.log.now::slt a.S0 d q 0 x.s0::slt a.S1 d q 1 x.s1::l)):St w0 w (dr (fN d (al++[a]) (xs++[x]))::l):=by
 subst hq;rw [Nz hl];have h1:=h.swap
 have h2:St w0 w (BF d xs.length a x::dr (fN d al xs)::l):=St.eR (L:=[row a.O 102 (ownRow a),log a.L d xs.length x.log.held x.log.now,slt a.S0 d xs.length 0 x.s0,slt a.S1 d xs.length 1 x.s1]) (h.perm (by
  simp only [List.cons_append,List.nil_append]
  exact (List.perm_middle (l₁:=[_,_,_,_]) (l₂:=l)).symm))
 have h3:=h2.swap.fI;refine St.eR (h3.perm ?_);rw [List.append_assoc];exact List.Perm.refl _
theorem S5:(Tryz.prog.info? 94).map (fun i=>(i.zero,i.size,i.bytes))=some (some (.pointer none),1,8):=by kernel_rfl
theorem ZO:pX Tryz.prog 112 94 1 8:=by
 obtain ⟨i0,hi,j8,mF,iq⟩:=info_parts S5;exact ⟨Tryz.underlying112,⟨i0,_,hi,j8,mF,iq,rfl⟩,by decide⟩
def rj (js:List aw):List (RS×RS):=js.map fun i=>(fD i.bytes,RS.none)
theorem NK {js:List aw} {q:Nat} (hq:q < js.length):rj (js.take (q+1))=rj (js.take q)++[(fD (js.getD q aw.none).bytes,RS.none)]:=by
 simp only [rj];rw [jz hq,List.map_append,tu hq];rfl
theorem xA {w0 w:World} {l:List aD} {d:Nat} {m:DS} {B:aD} {js:List aw} {AI:Option Addr} {n cI:Nat} {K:Nat→Option Addr×Nat} (h:St w0 w (bU d m::B::l)) (hg:zd w0 B js AI n K) {a:en} {t:aQ} (ht:ma w a t) (hE:BK m.az.length t js=0) (hc:Calm m) (hz:∀j:Nat,j < m.az.length→m.now j=br) :
  Calls Tryz.prog 33 #[.pointer (some ⟨d,0,none⟩),a.val t,.slice AI n cI] w fun e w'=>∃(ad:du),e=.returned (.tuple #[.pointer (some ⟨ad.S,0,none⟩),.int .i64 0])∧∃(m':DS) (xs:List PP),St w0 w' (bL ad t d m' xs::B::l)∧rJ m' xs (rj js)∧xs.length=t.parts.length∧m'.az.length=m.az.length:=by
 have zz:=hg w _ (h.pick 1 rfl);have Aw:=zz.len
 have pR:oh m.az.length t=0:=by
  by_cases h0:oh m.az.length t=0
  ·exact h0
  ·rw [BK,if_pos h0] at hE;exact absurd hE h0
 have QC:js.length=t.parts.length:=by
  by_cases h0:js.length=t.parts.length
  ·exact h0
  ·rw [BK,if_neg (by simpa using pR),if_pos h0] at hE;simp at hE
 have hfe:tw t 0 js=0:=by rwa [BK,if_neg (by simpa using pR),if_neg (by simpa using QC)] at hE
 have N8:∀k,k < n→bX t (k:Int) (js.getD k aw.none) 0=0:=fun k hk=>by
  induction k using Nat.strongRecOn with
  | _ k ih =>
    by_cases h0:bX t (k:Int) (js.getD k aw.none) 0=0
    ·exact h0
    ·have:=GQ js 0 k (by omega) (fun i hi=>by rw [Nat.zero_add];exact ih i hi (by omega)) (by rw [Nat.zero_add];exact h0);rw [hfe,Nat.zero_add] at this;exact absurd this.symm h0
 obtain ⟨vR,ll⟩:=Sk pR;have aaM:=(aQ.r vR).np;have rM:=aa (lK h ht);rw [pR] at rM;obtain ⟨Z,hZ⟩:∃Z,Z=w.heap.size:=⟨_,rfl⟩
 obtain ⟨w1,aJ⟩:∃w1,w1=w.alloc (.cells #[.int .i64 t.frame,.slice a.AP t.parts.length a.cP,.slice a.AW t.aC.length a.cW,.slice a.AC t.au.length a.cC,.int .i64 t.ay] 46):=⟨_,rfl⟩
 have Oa:Below w.heap.size w w1:=by rw [aJ];exact (Below.refl _ w).alloc (Nat.le_refl _) _
 have Zp:=aa (by have:=lK (h.below Oa) (ht.over Oa);rw [pR] at this;exact this)
 have H1:=aa (show St w w1 [row Z 46 [.int .i64 t.frame,.slice a.AP t.parts.length a.cP,.slice a.AW t.aC.length a.cW,.slice a.AC t.au.length a.cC,.int .i64 t.ay]] by
  have h:=(St.nil w).new 46 #[.int .i64 t.frame,.slice a.AP t.parts.length a.cP,.slice a.AW t.aC.length a.cW,.slice a.AC t.au.length a.cC,.int .i64 t.ay];rw [←hZ,←aJ] at h
  exact h)
 have H:=aa h;have HIV:=aa (fun (w':World) (hb:Below w.heap.size w w')=>zz.over hb)
 have mj:=aa (fun (w':World) (hb:Below w.heap.size w w') (k:Nat) (hk:k < n) (Ak:Option Addr) (ck:Nat)=>by
  have hh:=Dt (bu:=0) (i:=js.getD k aw.none) (A:=Ak) (c:=ck) (ht.over hb) (k:Int) (by
   have:=oQ (N8 k hk);obtain ⟨_,_,_,_,_,_,_,h8⟩:=this
   omega)
  rw [N8 k hk] at hh
  exact hh)
 have wN:=aa (fun k hk=>oQ (N8 k hk));have kG:=aa (fun (w':World) (hb:Below w.heap.size w w')=>Wp (H.o.below hb) (ht.over hb) vR);have dO:=aa (fun (w':World) (hb:Below w1.heap.size w1 w')=>(H1.o.below hb).row.1);have Bg:=aa QC;have HJN:=aa Aw;have HZ:=aa hZ;have bq:=aa aJ;have HC:=aa hc;have KO:=aa hz;have EW:=aa ll;have HG:=aa hg;have bn:=aa Oa;have JT:n=t.parts.length:=by omega
 have rV:=aa JT;have zr:2≤n∧n≤4:=by omega
 simp only [en.val] at Zp mj kG bq ⊢;clear h ht hE hc hz zz pR QC hfe N8 aJ hZ Aw ll hg Oa JT aaM;have t0:w1.cell? ⟨Z,0,none⟩=some (.int .i64 t.frame):=H1.o.row.1.cell 0;have t1:w1.cell? ⟨Z,1,none⟩=some (.slice a.AP t.parts.length a.cP):=H1.o.row.1.cell 1;have t2:w1.cell? ⟨Z,2,none⟩=some (.slice a.AW t.aC.length a.cW):=H1.o.row.1.cell 2;have t3:w1.cell? ⟨Z,3,none⟩=some (.slice a.AC t.au.length a.cC):=H1.o.row.1.cell 3;have t4:w1.cell? ⟨Z,4,none⟩=some (.int .i64 t.ay):=H1.o.row.1.cell 4;have lT:=H1.o.row.1.lt;go_enter Tryz.func33,Tryz.ntmps33;go_upto_region 1 with fail;rw [←bq.o,←HZ.o];go_wp2_with fail;refine Zp.o.mono ?_;rintro e w2 ⟨rfl,hb⟩;have aO:=aa hb;clear hb t0 t1 t2 t3 t4 lT;have t1:w2.cell? ⟨Z,1,none⟩=some (.slice a.AP t.parts.length a.cP):=(dO.o w2 aO.o).cell 1;have lT:=(dO.o w2 aO.o).lt;have e0:((n:Int) != (t.parts.length:Int))=false:=by rw [rV.o];simp
 go_wp2_with fail;clear t1 lT e0;go_loopw [34] (fun x wr=>∃q:Nat,q≤n∧x=.int .i64 q∧Below w1.heap.size w1 wr) (fun x _=>n-(intOf x).toNat)
 case atStart=>exact ⟨0,by omega,rfl,aO.o⟩
 case round =>
  obtain ⟨q,hq,rfl,pU⟩:=hrel;have dv:=aa pU;have zH:=aa (bn.o.trans (pU.mono bn.o.size));clear aO pU;by_cases aK:q < n
  ·obtain ⟨b,off,hA,cy,c0,c1,c2,c3,c4,c5,c6,c7,jF,Ej⟩:=(HIV.o wr zH.o).at_ q aK;generalize (K q).1=Ak,(K q).2=ck at *;have xR:Below w.heap.size w (wr.alloc (.cells #[.int .i64 (js.getD q aw.none).part,.int .i64 (js.getD q aw.none).version,.int .i64 (js.getD q aw.none).aY,.int .i64 (js.getD q aw.none).mem,.int .i64 (js.getD q aw.none).fuel,.int .i64 (js.getD q aw.none).aN,.int .i64 (js.getD q aw.none).aB,.slice Ak (js.getD q aw.none).code.length ck] 26)):=zH.o.trans (((Below.refl wr.heap.size wr).alloc (Nat.le_refl _) _).mono zH.o.size);have HCQ:=aa (mj.o _ xR q aK Ak ck);have tF:=aa (show Below w1.heap.size w1 (wr.alloc (.cells #[.int .i64 (js.getD q aw.none).part,.int .i64 (js.getD q aw.none).version,.int .i64 (js.getD q aw.none).aY,.int .i64 (js.getD q aw.none).mem,.int .i64 (js.getD q aw.none).fuel,.int .i64 (js.getD q aw.none).aN,.int .i64 (js.getD q aw.none).aB,.slice Ak (js.getD q aw.none).code.length ck] 26)) from dv.o.trans (((Below.refl wr.heap.size wr).alloc (Nat.le_refl _) _).mono dv.o.size));have HA:=aa hA;simp only [aw.val] at HCQ;generalize js.getD q aw.none=j at *;have hr:=dO.o wr dv.o;have t0:wr.cell? ⟨Z,0,none⟩=some (.int .i64 t.frame):=hr.cell 0;have t1:wr.cell? ⟨Z,1,none⟩=some (.slice a.AP t.parts.length a.cP):=hr.cell 1;have t2:wr.cell? ⟨Z,2,none⟩=some (.slice a.AW t.aC.length a.cW):=hr.cell 2;have t3:wr.cell? ⟨Z,3,none⟩=some (.slice a.AC t.au.length a.cC):=hr.cell 3;have t4:wr.cell? ⟨Z,4,none⟩=some (.int .i64 t.ay):=hr.cell 4;have lT:=hr.lt;have k0:(0:Int)≤(q:Int):=by omega
   have k1:(q:Int) < (n:Int):=by omega
   clear hA hr xR jF Ej;rw [HA.o];go_wp2_with fail;refine HCQ.o.mono ?_;rintro e w3 ⟨rfl,hb⟩;have bD:=aa (tF.o.trans (hb.mono tF.o.size));clear hb t0 t1 t2 t3 t4 lT c0 c1 c2 c3 c4 c5 c6 c7;go_wp2_with fail;go_roundw;case rel=>exact ⟨q+1,by omega,by go_num,bD.o⟩
   case measure=>simp [intOf];omega
  ·have k1:¬(q:Int) < (n:Int):=by omega
   have hr:=dO.o wr dv.o;have t0:wr.cell? ⟨Z,0,none⟩=some (.int .i64 t.frame):=hr.cell 0;have t1:wr.cell? ⟨Z,1,none⟩=some (.slice a.AP t.parts.length a.cP):=hr.cell 1;have t2:wr.cell? ⟨Z,2,none⟩=some (.slice a.AW t.aC.length a.cW):=hr.cell 2;have t3:wr.cell? ⟨Z,3,none⟩=some (.slice a.AC t.au.length a.cC):=hr.cell 3;have t4:wr.cell? ⟨Z,4,none⟩=some (.int .i64 t.ay):=hr.cell 4;have lT:=hr.lt;clear hr;go_wp2_with fail;refine (kG.o wr zH.o).mono ?_;rintro e w3 ⟨a',rfl,av⟩;have H3:=aa av;clear av t0 t1 t2 t3 t4 lT;simp only [en.val];obtain ⟨S,hS⟩:∃S,S=w3.heap.size:=⟨_,rfl⟩
   obtain ⟨w4,dX⟩:∃v,v=w3.alloc (.cells #[.int .i64 t.frame,.slice a'.AP t.parts.length a'.cP,.slice a'.AW t.aC.length a'.cW,.slice a'.AC t.au.length a'.cC,.int .i64 t.ay,.slice none 0 0] 114):=⟨_,rfl⟩
   have h4:=H3.o.new 114 #[.int .i64 t.frame,.slice a'.AP t.parts.length a'.cP,.slice a'.AW t.aC.length a'.cW,.slice a'.AC t.au.length a'.cC,.int .i64 t.ay,.slice none 0 0];rw [←hS,←dX] at h4
   have Yz:St w0 w4 (bL ⟨S,a',none,0,[]⟩ t d m []::B::l) :=
    Pk (q:=0) rfl (by
     have h5:=((h4.cQ (Below.refl _ _) (show w4.ownsRow w4.heap.size 94 1 (.slice none 0 0) 0 [] from ⟨rfl,.inl ⟨rfl,rfl⟩⟩)).swap)
     have h6:=(St.eR (L:=[]) h5)
     exact h6.perm (List.perm_middle (l₁:=[_,_,_,_]) (l₂:=B::l)).symm) rfl
   have H4:=aa Yz;have vr:=aa (rJ.start HC.o);clear Yz h4;go_upto_region 14 with fail;rw [←hS,←dX];clear dX hS;have HZ0:=aa (fun (x:Nat) (hx:10*0≤x) (hl:x < m.az.length)=>KO.o x hl);have rW:=aa (show m.az.length=m.az.length from rfl);obtain ⟨sl,dB⟩:∃v,v=m.az.length:=⟨_,rfl⟩
   rw [←dB] at EW;have kL:=aa dB.symm;have HMR:=aa (show rJ m [] (rj (js.take 0)) from vr.o);clear vr rW dB;go_wp2_with fail;go_loopw [53] (fun x wr=>∃(q:Nat) (ad:du) (m':DS) (xs:List PP),q≤n∧x=.int .i64 q∧ad.S=S∧xs.length=q∧St w0 wr (bL ad t d m' xs::B::l)∧rJ m' xs (rj (js.take q))∧m'.az.length=sl∧∀j:Nat,10*q≤j→j < m'.az.length→m'.now j=br) (fun x _=>n-(intOf x).toNat)
   case atStart=>exact ⟨0,_,m,[],by omega,rfl,rfl,rfl,H4.o,HMR.o,kL.o,HZ0.o⟩
   case round =>
    obtain ⟨q,ad,m',xs,vU,rfl,hS,nT,av,Cl,dB,L5⟩:=hrel;have bJ:=aa av;have wK:=aa Cl;clear H4 HMR HZ0 av Cl;by_cases aK:q < n
    ·have hqj:q < js.length:=by have:=HJN.o;omega
     have HIQ:=aa (fun (w':World) (l':List aD) (hb:St w0 w' (B::l'))=>(HG.o w' l' hb).at_ q aK);obtain ⟨b,off,hA,cy,c0,c1,c2,c3,c4,c5,c6,c7,jF,Ej⟩:=HIQ.o wr _ bJ.o.swap;have Uw:=aa (fun (w':World) (l':List aD) (hb:St w0 w' (B::l'))=>show Sl w' w'.heap.size 1 (K q).1 (js.getD q aw.none).code.length (aP (js.getD q aw.none).code) from by obtain ⟨_,_,_,_,_,_,_,_,_,_,_,_,_,h⟩:=HIQ.o w' l' hb;exact h);have HJR:=aa (wN.o q aK);have HJB:=aa (show bo (js.getD q aw.none).code by rw [tu hqj];exact (HG.o wr _ bJ.o.swap).iS _ (List.getElem_mem hqj));have HMT:=aa (NK hqj);have HA:=aa hA;have FV:=aa jF;generalize js.getD q aw.none=j at *;generalize (K q).1=Ak,(K q).2=ck at *;obtain ⟨Q,hQ⟩:∃Q,Q=wr.heap.size:=⟨_,rfl⟩
     obtain ⟨w5,dQ⟩:∃v,v=(wr.alloc (.cells #[.int .i64 j.part,.int .i64 j.version,.int .i64 j.aY,.int .i64 j.mem,.int .i64 j.fuel,.int .i64 j.aN,.int .i64 j.aB,.slice Ak j.code.length ck] 26)).alloc (.cells #[.pointer none,.pointer none,.pointer none] 102):=⟨_,rfl⟩
     have h5:=(bJ.o.new 26 #[.int .i64 j.part,.int .i64 j.version,.int .i64 j.aY,.int .i64 j.mem,.int .i64 j.fuel,.int .i64 j.aN,.int .i64 j.aB,.slice Ak j.code.length ck]).new 102 #[.pointer none,.pointer none,.pointer none];rw [show (wr.alloc (.cells #[.int .i64 j.part,.int .i64 j.version,.int .i64 j.aY,.int .i64 j.mem,.int .i64 j.fuel,.int .i64 j.aN,.int .i64 j.aB,.slice Ak j.code.length ck] 26)).heap.size=Q+1 by rw [hQ];exact Array.size_push _,←hQ,←dQ] at h5;have rP:=XM (h5.pick 2 rfl);have cN:=rP.2;have H5:=aa ((rP.1.pick 3 rfl).pick 5 rfl);have HQ:=aa hQ;have pZ:=aa dQ;have k0:(0:Int)≤(q:Int):=by omega
     have k1:(q:Int) < (n:Int):=by omega
     have iu:10*(q+1)≤m'.az.length:=by have:=EW.o;have:=rV.o;omega
     clear hA jF Ej h5 rP hQ dQ;rw [HA.o];go_upto_region 18 with fail;rw [←pZ.o,←HQ.o];clear c0 c1 c2 c3 c4 c5 c6 c7;have oz:pB (q:Int) 0 m'.az.length=true:=by unfold pB eH;simp;omega
     have vT:pB (q:Int) 1 m'.az.length=true:=by unfold pB eH;simp;omega
     have HOP:=aa (Ya H5.o oz vT wK.o.calm.up.1 (by rw [wK.o.calm.waits];simp) wK.o.calm.jm);have j8:iV m' (q:Int) 0=bC.none:=sX (L5 _ (by unfold bM;omega) (by unfold bM;omega));have mF:iV m' (q:Int) 1=bC.none:=sX (L5 _ (by unfold bM;omega) (by unfold bM;omega));rw [j8,mF] at HOP;clear oz vT j8 mF;go_wp2_with fail;refine HOP.o.mono ?_;rintro e w6 ⟨rfl,g0,g1,av⟩;have H6:=aa av;have o1:w6.cell? ⟨Q+1,1,none⟩=some (.pointer (some ⟨g0,0,none⟩)):=av.row.1.cell 1;have o2:=av.row.1.lt;have Ap:=(av.pick 8 rfl).row.1;have q0:w6.cell? ⟨Q,0,none⟩=some (.int .i64 j.part):=Ap.cell 0;have q1:w6.cell? ⟨Q,1,none⟩=some (.int .i64 j.version):=Ap.cell 1;have q2:w6.cell? ⟨Q,2,none⟩=some (.int .i64 j.aY):=Ap.cell 2;have q3:w6.cell? ⟨Q,3,none⟩=some (.int .i64 j.mem):=Ap.cell 3;have q4:w6.cell? ⟨Q,4,none⟩=some (.int .i64 j.fuel):=Ap.cell 4;have q5:w6.cell? ⟨Q,5,none⟩=some (.int .i64 j.aN):=Ap.cell 5;have q6:w6.cell? ⟨Q,6,none⟩=some (.int .i64 j.aB):=Ap.cell 6;have q7:w6.cell? ⟨Q,7,none⟩=some (.slice Ak j.code.length ck):=Ap.cell 7;have q8:=Ap.lt;have GA:rK w0 w6.drew g0 d q 0 m' m' bC.none RS.none _:=⟨(av.drew.pick 3 rfl).pick 2 rfl,KG wK.o.calm ⟨wK.o.calm.b8,wK.o.calm.jm,by omega,by omega,by omega,by omega,by unfold eH;omega⟩ (L5 _ (by unfold bM;omega) (by unfold bM;omega)),wK.o.calm.up,rfl,fun _ _=>rfl⟩
     have Hx:=aa (WE GA j HJR.o HJB.o Ak ck FV.o (Uw.o w6.drew _ (av.drew.pick 9 rfl)));simp only [aw.val] at Hx;clear av Ap GA HOP;go_upto_region 21 with fail;refine dA ?_;(refine bj [0,1,2,3,4,5] ?_;simp only [pick,af,ae,ah];(iterate 6 still_step);refine wpStill_nil ?_);(try simp only [af,ae,ah,Act.put,aq,ak,ao]);(refine aL 6 ?_;(try simp only [af,ae,ah]);go_simp);refine Hx.o.mono ?_;rintro e w7 ⟨rfl,m7,s7,h7⟩;have H7:=aa h7;clear h7 q0 q1 q2 q3 q4 q5 q6 q7 q8 o1 o2;dsimp only;(try simp only [af,ae,ah,Act.put,aq,ak,ao]);(refine bj [7] ?_;simp only [pick,af,ae,ah];(iterate 1 still_step);refine wpStill_nil ?_);refine bZ ?_;have J2:=H7.o.calm;have hrf:roomFor (q:Int) m7.az.length=true:=by unfold roomFor;have:=H7.o.len;simp;omega
     obtain ⟨f1,f2,f3,f4,f5,f6⟩:=Q6 J2.b8 J2.jm J2.up hrf;have HFM:=aa ((Q7 (H7.o.st.pick 1 rfl) (q:Int) hrf (by rw [J2.waits];simp)).mono fun e w' h=>h.1 f1);have HMK:=aa (wK.o.make nT (by omega) iu (fun x h1 h2=>L5 x h1 h2) H7.o.si H7.o.up H7.o.len H7.o.out f2 f3 f4 f5 (fun x h1 h2=>by rw [f6,if_neg (by omega),if_neg (by omega)]));have HL8:=aa (show (hM m7 (q:Int)).2.az.length=sl by rw [f5,H7.o.len,dB]);generalize (hM m7 (q:Int)).1=fe,(hM m7 (q:Int)).2=m8 at *;clear J2 hrf f1 f2 f3 f4 f5 f6;go_wp2_with fail;refine HFM.o.mono ?_;rintro e w8 ⟨g,rfl,av⟩;have h8:=av.pick 3 rfl;have H8:=aa h8;have z0:w8.cell? ⟨Q+1,0,none⟩=some (.pointer none):=h8.row.1.cell 0;have z1:w8.frozen? ⟨Q+1,0,none⟩=false:=h8.row.1.frozen 0;have z2:=h8.row.1.lt;clear av h8;go_upto_region 28 with fail;obtain ⟨w9,hw9⟩:∃v,v=w8.setCell ⟨Q+1,0,none⟩ (.pointer (some ⟨g,0,none⟩)):=⟨_,rfl⟩
     rw [←hw9];have h9:=H8.o.set 0 (.pointer (some ⟨g,0,none⟩));rw [←hw9] at h9;simp only [List.set_cons_zero] at h9;have H9:=aa (h9.pick 5 rfl);have hS9:=(h9.pick 5 rfl).row.1;rw [nT,hS] at hS9;have s5:w9.cell? ⟨S,5,none⟩=some (.slice ad.AL q ad.cL):=hS9.cell 5;have s6:=hS9.lt;clear z0 z1 z2 hw9 h9 hS9 H8;have fP:=(H9.o.pick 6 rfl)
     rw [nT] at fP;have CF:=aa fP;clear fP;obtain ⟨wb,zn⟩:∃v,v=w9.alloc (.cells #[.pointer (some ⟨Q+1,0,none⟩)] 94):=⟨_,rfl⟩
     obtain ⟨D,hD⟩:∃D,D=w9.heap.size:=⟨_,rfl⟩
     have oD:=CF.o.new 94 #[.pointer (some ⟨Q+1,0,none⟩)];rw [←zn,←hD] at oD;have yb:=aa oD;have uW:Sl wb wb.heap.size 1 (some ⟨D,0,none⟩) 1 [.pointer (some ⟨Q+1,0,none⟩)]:=oD.row.1.sl oD.row.1.lt rfl rfl;have KX:=aa uW;have HOB:=aa oD.swap.own;have Ia:=aa oD.aI.size;have HD:=aa hD;have HWB:=aa zn;clear oD uW hD zn
     go_upto_region 29 with (first
      | (at_builtin;rw [←HWB.o,←HD.o];refine nK ZO rfl (.tmp 94) (.tmp 96) rfl HOB.o rfl rfl (fun h=>by cases h) KX.o (by simp [Value.oneCell']) (by omega) (by unfold maxLen;omega) Ia.o ?_;intro v' wc ho hg hl;have wo:=yb.o.swap.grown hg ho hl;obtain ⟨A9,c9,rfl,_,_⟩:=aH ho;have zG:=aa wo;have Cm:=(wo.pick 2 rfl).row.1;have y5:wc.cell? ⟨ad.S,5,none⟩=some (.slice ad.AL q ad.cL):=Cm.cell 5;have y6:wc.frozen? ⟨ad.S,5,none⟩=false:=Cm.frozen 5;have y7:=Cm.lt;rw [hS] at y5 y6 y7;clear Cm ho hg hl wo))
     go_wp2_with fail;go_roundw
     case rel =>
      refine ⟨q+1,⟨ad.S,ad.bK,A9,c9,ad.al++[⟨Q+1,g,g0,g1⟩]⟩,m8,xs++[NL q s7],by omega,by go_num,hS,by rw [gA,nT];rfl,?_,by rw [HMT.o];exact HMK.o.1,HL8.o,HMK.o.2⟩;have h:=(zG.o.pick 2 rfl).set 5 (.slice A9 (q+1) c9);rw [hS] at h;have h2:=((((((((((((h.pick 11 rfl).pick 6 rfl).pick 9 rfl).pick 4 rfl).pick 4 rfl).pick 9 rfl).pick 9 rfl).pick 9 rfl).pick 9 rfl).pick 10 rfl).pick 11 rfl).pick 11 rfl).drop.drop;have h3:=PY (a:=⟨Q+1,g,g0,g1⟩) (x:=NL q s7) cN nT h2;have h4:=((((((h3.pick 5 rfl).pick 1 rfl).pick 5 rfl).pick 5 rfl).pick 5 rfl).pick 5 rfl)
      refine Pk (q:=q+1) (by rw [gA,nT];rfl) ?_ (by rw [gA,gA,cN];rfl);rw [hS];have Vf:qm (ad.al++[⟨Q+1,g,g0,g1⟩])=qm ad.al++[.pointer (some ⟨Q+1,0,none⟩)]:=by simp [qm]
      rw [Vf];exact h4
     case measure=>simp [intOf];omega
    ·have HE:=aa (show js.take q=js by rw [List.take_of_length_le];have:=HJN.o;omega);have k1:¬(q:Int) < (n:Int):=by omega
     go_wp2_with fail;go_ret2;have h:=wK.o;rw [HE.o] at h;exact ⟨ad,by rw [hS];rfl,m',xs,bJ.o,h,by have:=rV.o;omega,by rw [dB,kL.o]⟩
end store
namespace sk


open Go.RowKit Go.Deep base obj mem sep bw num bytes bf chain image
theorem iO (l:List Int):∀v∈aP l,v.oneCell'=true:=fun v hv=>by
 obtain ⟨z,_,rfl⟩:=List.mem_map.1 hv;rfl
theorem CZ (w:World) (m c:Nat) (A:Option Addr) (bs:List Int) (Au:0 < m) (hm:m≤1000) (hmc:m≤c) (hs:Sl w w.heap.size 1 A m (aP bs)) :
  Calls Tryz.prog 200 #[.slice A m c] w fun e w'=>∃v,e=.returned v∧w'.ownsRow w.heap.size 5 1 v (2+m) (aP (be 2 m++bs))∧Below w.heap.size w w':=by
 obtain ⟨B,off,rfl,_,_⟩:=hs.2 Au;have c0:¬((m:Int) > 65535):=by omega
 have c1:(0:Int)≤(m:Int):=by omega
 have c2:(m:Int)≤(c:Int):=by omega
 have HS:=aa hs;have HP:=aa (nE.iX w m (by omega) 2 (by omega) (by omega));have HH:=aa (Dm 2 m (by omega));clear hs;go_enter Tryz.func200,Tryz.ntmps200;go_wp2_with fail;refine HP.o.mono ?_;rintro e w1 ⟨g,rfl,hg,hr,hb⟩;rw [HH.o] at hr
 have ho:w1.ownsRow w.heap.size 5 1 (.slice (some ⟨g,0,none⟩) 2 2) 2 (aP (be 2 m)):=by
  have h:=hr.own (size:=1) (n:=2) (cap:=2) hg (Nat.le_refl _) (by decide) (by simp [bp])
  rwa [List.take_of_length_le (by simp [bp])] at h
 have HO:=aa ho;have HB:=aa hb;have mU:=aa ((HS.o.below hb).more hb.size);clear hg hr hb ho;go_wp2_with (at_builtin;refine nK qW rfl (.tmp 11) (.tmp 14) rfl HO.o rfl rfl (fun h=>by cases h) mU.o (iO _) (by omega) (by unfold maxLen;omega) HB.o.size ?_;intro v3 w3 vX vd Et;have ya:=aa vX;have bD:=aa (iT HB.o HO.o vd HB.o.size);clear vX vd Et);go_ret;exact ⟨_,rfl,by rw [aP,List.map_append];exact ya.o,bD.o⟩
theorem qB (w:World) (i:aw) (A:Option Addr) (c:Nat) (hc:i.code.length≤9223372036854775807):Calls Tryz.prog 83 #[i.val A c] w fun e w'=>e=.returned (.bool (decide i.right))∧Below w.heap.size w w':=by
 obtain ⟨part,version,aY,mem,fuel,aN,aB,code⟩:=i;simp only [aw.val];have hb:Below w.heap.size w (w.alloc (.cells #[.int .i64 part,.int .i64 version,.int .i64 aY,.int .i64 mem,.int .i64 fuel,.int .i64 aN,.int .i64 aB,.slice A code.length c] 26)):=(Below.refl _ w).alloc (Nat.le_refl _) _;have HB:=aa hb;generalize hn:code.length=n
 have hd:decide (aw.right ⟨part,version,aY,mem,fuel,aN,aB,code⟩)=decide ((0≤part∧part≤3)∧(1≤version∧version≤65535)∧(0≤aY∧aY≤65535)∧(1≤mem∧mem≤16)∧(1≤fuel∧fuel≤32)∧(0≤aN∧aN≤15)∧(0≤aB∧aB≤15)∧(1≤(n:Int)∧(n:Int)≤96)):=by
  simp only [aw.right,hn]
 rw [hd,←hn];have HN:=aa hn;clear hd hb hn;rw [HN.o] at *;go_enter Tryz.func83,Tryz.ntmps83;go_wp2_with fail;all_goals (go_ret;refine ⟨?_,(Below.refl _ w).alloc (Nat.le_refl _) _⟩;first|(simp;omega)|rfl|(simp;done)|(simp;intros;omega)|(simp;constructor<;>omega)|skip)
theorem Rw (n:Nat) (h:n < 256):be 1 n=[(n:Int)]:=by
 simp only [be,List.range_one,List.map_cons,List.map_nil,digit];simp;omega
theorem be2 (n:Nat) (h:n < 65536):be 2 n=[((n / 256:Nat):Int),((n % 256:Nat):Int)]:=by
 simp only [be,List.range,List.range.loop,List.map_cons,List.map_nil,digit];simp;omega
theorem SY (w:World) (i:aw) (hr:i.right) (cu:bo i.code) (A:Option Addr) (c:Nat) (hc:i.code.length≤c) (hs:Sl w w.heap.size 1 A i.code.length (aP i.code)) :
  Calls Tryz.prog 175 #[i.val A c] w fun e w'=>∃v,e=.returned v∧w'.ownsRow w.heap.size 5 1 v (13+i.code.length) (aP i.head)∧Below w.heap.size w w':=by
 obtain ⟨part,version,aY,mem,fuel,aN,aB,code⟩:=i;obtain ⟨⟨a0,a1⟩,⟨b0,b1⟩,⟨c0,c1⟩,⟨d0,d1⟩,⟨e0,e1⟩,⟨f0,f1⟩,⟨g0,g1⟩,⟨h0,h1⟩⟩:=hr;simp only at *;obtain ⟨p,rfl⟩:∃p:Nat,part=p:=⟨part.toNat,by omega⟩
 obtain ⟨ve,rfl⟩:∃p:Nat,version=p:=⟨version.toNat,by omega⟩
 obtain ⟨ha,rfl⟩:∃p:Nat,aY=p:=⟨aY.toNat,by omega⟩
 obtain ⟨me,rfl⟩:∃p:Nat,mem=p:=⟨mem.toNat,by omega⟩
 obtain ⟨fu,rfl⟩:∃p:Nat,fuel=p:=⟨fuel.toNat,by omega⟩
 obtain ⟨se,rfl⟩:∃p:Nat,aN=p:=⟨aN.toNat,by omega⟩
 obtain ⟨re,rfl⟩:∃p:Nat,aB=p:=⟨aB.toNat,by omega⟩
 have hH:aP (aw.head ⟨(p:Int),(ve:Int),(ha:Int),(me:Int),(fu:Int),(se:Int),(re:Int),code⟩)=([.int .u8 76,.int .u8 73,.int .u8 p,.int .u8 ((ve:Int) / 256),.int .u8 ((ve:Int) % 256),.int .u8 ((ha:Int) / 256),.int .u8 ((ha:Int) % 256),.int .u8 me,.int .u8 fu,.int .u8 se,.int .u8 re]:List Value)++aP (be 2 code.length++code):=by
  simp only [aw.head,ea,List.append_assoc];rw [be2 19529 (by omega),Rw p (by omega),be2 ve (by omega),be2 ha (by omega),Rw me (by omega),Rw fu (by omega),Rw se (by omega),Rw re (by omega)];simp [aP]
 have W:∀n:Nat,n < 256→IntKind.u8.wrap (n:Int)=n:=fun n h=>by rw [IntKind.wrap_u8];omega
 have w0:=W p (by omega);have w1:=W me (by omega);have w2:=W fu (by omega);have w3:=W se (by omega);have w4:=W re (by omega);have w5:IntKind.u8.wrap ((ve:Int).tdiv 256)=(ve:Int) / 256:=W (ve / 256) (by omega);have w6:IntKind.u8.wrap ((ve:Int).tmod 256)=(ve:Int) % 256:=W (ve % 256) (by omega);have w7:IntKind.u8.wrap ((ha:Int).tdiv 256)=(ha:Int) / 256:=W (ha / 256) (by omega);have w8:IntKind.u8.wrap ((ha:Int).tmod 256)=(ha:Int) % 256:=W (ha % 256) (by omega);have HT:=aa (fun w' (hb:Below w.heap.size w w')=>CZ w' code.length c A code (by omega) (by omega) hc ((hs.below hb).more hb.size));simp only [aw.val];go_enter Tryz.func175,Tryz.ntmps175;have HH:=aa hH;clear hH;go_wp2_with fail;obtain ⟨w1,aJ⟩:∃v,v=w.alloc (.cells #[.int .i64 p,.int .i64 ve,.int .i64 ha,.int .i64 me,.int .i64 fu,.int .i64 se,.int .i64 re,.slice A code.length c] 26):=⟨_,rfl⟩
 have hz:w1.heap.size=w.heap.size+1:=by rw [aJ];exact Array.size_push _
 have f7:Row w1 w.heap.size 26 [.int .i64 p,.int .i64 ve,.int .i64 ha,.int .i64 me,.int .i64 fu,.int .i64 se,.int .i64 re,.slice A code.length c]:=by rw [aJ];exact Row.new w _ _
 have ku:Below w.heap.size w w1:=by rw [aJ];exact (Below.refl _ w).alloc (Nat.le_refl _) _
 rw [←aJ];clear aJ;obtain ⟨w2,dY⟩:∃v,v=w1.alloc (.cells #[.int .u8 76,.int .u8 73,.int .u8 p,.int .u8 ((ve:Int) / 256),.int .u8 ((ve:Int) % 256),.int .u8 ((ha:Int) / 256),.int .u8 ((ha:Int) % 256),.int .u8 me,.int .u8 fu,.int .u8 se,.int .u8 re] 5):=⟨_,rfl⟩
 have mG:Row w2 (w.heap.size+1) 5 [.int .u8 76,.int .u8 73,.int .u8 p,.int .u8 ((ve:Int) / 256),.int .u8 ((ve:Int) % 256),.int .u8 ((ha:Int) / 256),.int .u8 ((ha:Int) % 256),.int .u8 me,.int .u8 fu,.int .u8 se,.int .u8 re]:=by rw [dY,←hz];exact Row.new w1 _ _
 have bN:Below w.heap.size w w2:=by rw [dY];exact ku.alloc ku.size _
 rw [←dY];clear dY f7 ku hz w1;refine (HT.o w2 bN).mono ?_;rintro e w3 ⟨v,rfl,ho,hb⟩;obtain ⟨g3,c3,rfl,_,_⟩:=ho.form (by omega);have mJ:=bN.trans (hb.mono bN.size);have vX:=(mG.below hb mG.lt).own (base:=w.heap.size) (size:=1) (n:=11) (cap:=11) (Nat.le_succ _) (Nat.le_refl _) (by decide) rfl;have HS:=aa (Sl.bz ho);have HO:=aa vX;have HB:=aa mJ;clear ho hb bN mG mJ vX;go_wp2_with (at_builtin;refine nK qW rfl (.tmp 36) (.tmp 39) rfl HO.o rfl rfl (fun h=>by cases h) HS.o (iO _) (by omega) (by unfold maxLen;omega) HB.o.size ?_;intro v3 w3 vX vd Et;have ya:=aa vX;have bD:=aa (iT HB.o HO.o vd HB.o.size);clear vX vd Et);go_ret;refine ⟨_,rfl,?_,bD.o⟩;have h:=ya.o;rw [HH.o];rw [show 11+(2+code.length)=13+code.length by omega] at h;exact h
theorem BW {a b:List Int} (ha:bo a) (hb:bo b):bo (a++b):=fun z hz=>by
 rcases List.mem_append.1 hz with h|h
 ·exact ha z h
 ·exact hb z h
theorem iP (w:World) (B:Nat):w.ownsRow B 5 1 (.slice none 0 0) 0 (aP []):=⟨rfl,.inl ⟨rfl,rfl⟩⟩
theorem Jf (w:World) (A:Option Addr) (n c:Nat) (bs:List Int) (hn:bs.length=n) (hA:∃B off,A=some ⟨B,off,none⟩) (hm:n≤90000) (cu:bo bs) (hs:Sl w w.heap.size 1 A n (aP bs)) :
  Calls Tryz.prog 160 #[.slice A n c] w fun e w'=>∃v,e=.returned v∧w'.ownsRow w.heap.size 5 1 v (n+36) (aP (fy bs))∧Below w.heap.size w w':=by
 obtain ⟨B,off,rfl⟩:=hA;have HS:=aa hs;have HN:=aa hn;have HY:=aa cu;have H0:=aa (iP w w.heap.size);have eZ:=aa (Below.refl w.heap.size w);clear hs hn cu;go_enter Tryz.func160,Tryz.ntmps160;go_wp2_with (at_builtin;refine nK qW rfl (.tmp 4) (.tmp 5) rfl H0.o rfl rfl (fun h=>by cases h) HS.o (iO _) (by omega) (by unfold maxLen;omega) eZ.o.size ?_;intro v3 w3 vX vd Et;have ya:=aa vX;have bD:=aa (iT eZ.o H0.o vd eZ.o.size);clear vX vd Et);have abF:=aa (show w3.ownsRow w.heap.size 5 1 v3 n (aP bs) by have h:=ya.o;rwa [Nat.zero_add] at h);clear ya H0 eZ;refine (fH.WN w3).mono ?_;rintro e w4 ⟨v1,v2,rfl,av⟩;have El:=av.own;have vU:=(av.pick 1 rfl).own;obtain ⟨A1,c1,rfl,jE⟩:=Jt El;obtain ⟨A2,c2,rfl,oy⟩:=Jt vU;have oH:=av.aI;have HQ1:=aa jE;have jK:=aa oy;have eV:=aa (bD.o.trans (oH.mono bD.o.size));have Bf:=aa (lj abF.o oH);have tC:=aa ((HS.o.below eV.o).more eV.o.size);clear av El vU jE oy oH;go_wp2_with fail;refine (fH.ZT w4 A1 A2 _ c1 c2 n c bs HY.o HN.o (by omega) HQ1.o jK.o tC.o (fun h=>by cases h)).mono ?_;rintro e w5 ⟨r,rfl,ho,hb⟩;obtain ⟨g5,c5,rfl,_,_⟩:=ho.form (by omega);have nL:=aa (eV.o.trans (hb.mono eV.o.size));have CH:=aa (lj Bf.o hb);have rT:=aa (Sl.bz ho);clear ho hb;go_wp2_with (at_builtin;refine nK qW rfl (.tmp 7) (.tmp 10) rfl CH.o rfl rfl (fun h=>by cases h) rT.o (iO _) (by omega) (by unfold maxLen;omega) nL.o.size ?_;intro v6 w6 eU fR Es;have CG:=aa eU;have qb:=aa (iT nL.o CH.o fR nL.o.size);clear eU fR Es;obtain ⟨A6,c6,rfl,_⟩:=aH CG.o);have vu:=aa (Sl.bz CG.o);have HY6:=aa (BW HY.o (fH.BR bs));have HU6:=aa (show aP bs++aP (gh bs)=aP (bs++gh bs) by simp [aP]);refine (PF.uJ w6 A6 (n+32) c6 (bs++gh bs) (by rw [gA,HN.o,fH.qI]) (by omega) HY6.o (by rw [←aP,←HU6.o];exact vu.o)).mono ?_;rintro e w6' ⟨rfl,rfl⟩;have NT:sum (bs++gh bs) < 4294967296:=zQ;obtain ⟨q,hq⟩:∃q,q=sum (bs++gh bs):=⟨_,rfl⟩
 rw [←hq] at NT ⊢;have HQ:=aa hq;clear hq;have Qt:IntKind.i64.wrap (q:Int)=q:=IntWalk.i64_in _ (by omega);go_wp2_with fail;refine (nE.iX w6' q (by omega) 4 (by omega) (by omega)).mono ?_;rintro e w7 ⟨g7,rfl,hg7,Ma,hb7⟩;rw [Dm 4 q (by omega)] at Ma;have HS7:=aa (show Sl w7 w7.heap.size 1 (some ⟨g7,0,none⟩) 4 (aP (be 4 q)) from Ma.sl Ma.lt (by rw [List.drop_zero,List.take_of_length_le (by simp [bp])]) (by simp [bp,aP]));have wQ:=aa (qb.o.trans (hb7.mono qb.o.size));have E3:=aa (lj CG.o hb7);clear Ma hb7 hg7;go_wp2_with (at_builtin;refine nK qW rfl (.tmp 12) (.tmp 16) rfl E3.o rfl rfl (fun h=>by cases h) HS7.o (iO _) (by omega) (by unfold maxLen;omega) wQ.o.size ?_;intro v8 w8 ho8 hg8 hl8;have HO8:=aa ho8;have HB8:=aa (iT wQ.o E3.o hg8 wQ.o.size);clear ho8 hg8 hl8);go_ret;refine ⟨_,rfl,?_,HB8.o⟩;have h:=HO8.o;rw [HU6.o,HQ.o,←List.map_append] at h;exact h
theorem SX (w:World) (i:aw) (hr:i.right) (cu:bo i.code) (A:Option Addr) (c:Nat) (hc:i.code.length≤c) (hs:Sl w w.heap.size 1 A i.code.length (aP i.code)) :
  Calls Tryz.prog 132 #[i.val A c] w fun e w'=>∃v,e=.returned v∧w'.ownsRow w.heap.size 5 1 v (49+i.code.length) (aP i.bytes)∧Below w.heap.size w w':=by
 have hl:i.code.length≤96:=by obtain ⟨_,_,_,_,_,_,_,h⟩:=hr;omega
 have HY:=aa (sy i cu);have HB:=aa (show i.bytes=fy i.head from rfl);have hh:=fun w' (hb:Below w.heap.size w w')=>SY w' i hr cu A c hc ((hs.below hb).more hb.size);have Lb:=aa (vg i);obtain ⟨n,hn⟩:∃n,n=i.code.length:=⟨_,rfl⟩
 obtain ⟨hd,Mi⟩:∃v,v=i.head:=⟨_,rfl⟩
 rw [←Mi] at hh HY HB Lb;rw [←hn] at hh Lb hl ⊢;rw [HB.o];have hv:i.val A c=.agg #[.int .i64 i.part,.int .i64 i.version,.int .i64 i.aY,.int .i64 i.mem,.int .i64 i.fuel,.int .i64 i.aN,.int .i64 i.aB,.slice A n c]:=by rw [hn];rfl
 rw [hv] at hh ⊢;have HH:=aa hh;generalize i.part=p1,i.version=p2,i.aY=p3,i.mem=p4,i.fuel=p5,i.aN=p6,i.aB=p7 at HH ⊢;clear hr hs hn Mi hv hh;go_enter Tryz.func132,Tryz.ntmps132;go_wp2_with fail;refine (HH.o _ ((Below.refl _ w).alloc (Nat.le_refl _) _)).mono ?_;rintro e w1 ⟨v,rfl,ho,hb⟩;obtain ⟨A1,c1,rfl,_,_⟩:=aH ho;have bn:=aa (((Below.refl _ w).alloc (Nat.le_refl _) _).trans (hb.mono (by simp)));have mU:=aa (Sl.bz ho);clear ho hb;go_wp2_with fail;refine (Jf w1 A1 (13+n) c1 hd Lb.o (let ⟨B,o,e,_⟩:=mU.o.2 (by omega);⟨B,o,e⟩) (by omega) HY.o (mU.o)).mono ?_;rintro e w2 ⟨v,rfl,ho,hb⟩;have HO:=aa ho;have aO:=aa (bn.o.trans (hb.mono bn.o.size));have lv:=aa bn.o.size;clear ho hb;go_wp2_with fail;go_ret;refine ⟨_,rfl,?_,aO.o⟩;have h:=HO.o.mono lv.o
 rwa [show 13+n+36=49+n by omega] at h
end sk
end Go.Proofs.YtdldkkoplgkloaaGreat
