/- PROVED HERE: lemmas of the law. CONDITIONS: each names its own. -/
import Derived.Test.YtdldkkoplgkloaaGreatPa30
namespace Go.Proofs.YtdldkkoplgkloaaGreat
set_option linter.unusedVariables false
set_option linter.unusedSimpArgs false
set_option maxRecDepth 100000
set_option maxHeartbeats 32000000
open Go.Value renaming int → ae
open Go.IntKind renaming i64 → aa
namespace store
open Go.RowKit Go.Deep base obj mem sep aW aX record bD aG image bN bL chain bC
section
variable {m:DS} {c part:Int} {bs:List Int} {n p:Nat}
def ew (m:DS) (p:Nat):PP:=⟨⟨(dO m p 2).2,(dO m p 2).1⟩,eU m p 0,eU m p 1⟩
def oe (m:DS) (n:Nat):List PP:=(List.range n).map (ew m)
theorem qZ (m:DS) (n:Nat):(oe m n).length=n:=by simp [oe]
theorem CO (h:p < n):(oe m n).getD p default=ew m p:=by simp [oe,dD,h]
theorem RT (m:DS) (n:Nat):oe m (n+1)=oe m n++[ew m n]:=by simp [oe,List.range_succ]
def wo (m:DS) (n:Nat):Prop:=∀p,p < n→¬(dO m p 2).2 < 0
def tZ (t:aY) (m:DS) (p:Nat):Prop:=(dq t m p (ew m p) (ew m p).log.now.au).2=0∧(dq t m p (ew m p) (ew m p).log.now.aj).2=0
theorem Ta {r:Rec} (h:dS bs=(r,0)):r.right=true:=by
 unfold dS at h;split at h
 ·split at h
  ·split at h
   ·rename_i hr
    injection h with h _
    rw [←h];exact hr
   ·injection h with _ h
    exact absurd h (by decide)
  ·rename_i he
   injection h with _ h
   exact absurd h he
 ·injection h with _ h
  exact absurd h (by decide)
theorem S9 {r:aR} (h:jb bs=(r,0)):r.right=true:=by
 unfold jb at h;split at h
 ·split at h
  ·split at h
   ·rename_i hr
    injection h with h _
    rw [←h];exact hr
   ·injection h with _ h
    exact absurd h (by decide)
  ·rename_i he
   injection h with _ h
   exact absurd h he
 ·injection h with _ h
  exact absurd h (by decide)
theorem Dq (m:DS) (p k:Int):(eU m p k).has=true→(eU m p k).st.right=true:=by
 unfold eU;split
 ·rename_i h0
  intro _;exact S9 (bs:=m.now (bz p k).toNat) (by rw [←h0])
 ·intro h;exact absurd h (by decide)
theorem Ny {x:Rec×Int} (hb:bn bs) (hx:¬x.2 < 0→x.1.right=true) (h:¬(jF part c bs x).2 < 0):(jF part c bs x).1.right=true:=by
 unfold jF at h ⊢;by_cases h0:(dS bs).2=0∧(dS bs).1.part=part∧x.1.seq < (dS bs).1.seq
 ·rw [if_pos h0];exact Ta (bs:=bs) (by rw [←h0.1])
 ·rw [if_neg h0] at h ⊢;exact hx h
theorem Ic {x:Rec×Int} (hc:0≤c):(jF part c bs x).2=x.2∨(jF part c bs x).2=c:=by
 unfold jF;split
 ·exact .inr rfl
 ·exact .inl rfl
theorem KO (hb:m.ia) (h:¬(dO m p 2).2 < 0):(dO m p 2).1.right=true :=
 Ny (hb.now _) (Ny (hb.now _) (fun h=>absurd (show ((-1:Int)) < 0 by decide) h)) h
theorem M3 (m:DS) (p:Nat):(dO m p 2).2 < 0∨(dO m p 2).2=0∨(dO m p 2).2=1:=by
 have h0:(dO m p 1).2=-1∨(dO m p 1).2=0:=Ic (x:=(Rec.zero,-1)) (by decide);have h1:(dO m p 2).2=(dO m p 1).2∨(dO m p 2).2=1:=Ic (x:=dO m p 1) (by decide);omega
theorem Vl (hb:m.ia) (h:¬(dO m p 2).2 < 0):yy (ew m p):=by
 have hr:=eu.iZ (KO hb h);have hh:=M3 m p;refine ⟨by simp only [ew];omega,by simp only [ew];omega,by simp only [ew];omega,by simp only [ew];omega,by simp only [ew];omega,?_,?_⟩
 ·exact Dq m p 0
 ·exact Dq m p 1
theorem Yj {t:aY} (hr:t.right=true) (hn:n=t.parts.length) (hb:m.ia) (hg:m.Good) (gH:10*n≤m.ar.length) (hw:m.waits.length≤700) (h:wo m n):iJ t m (oe m n):=by
 refine ⟨hr,by rw [qZ,hn],hb,hg,by rw [qZ];exact gH,hw,fun x hx=>?_⟩;obtain ⟨p,hp,rfl⟩:=List.mem_map.1 hx;exact Vl hb (h p (List.mem_range.1 hp))
theorem abH (a b:Int) (w:World):(Instr.index 131 (.agg #[ae aa a,ae aa b]) (ae aa 0)).run Tryz.prog w=.ok (ae aa a) w:=by kernel_rfl
theorem abG (a b:Int) (w:World):(Instr.index 131 (.agg #[ae aa a,ae aa b]) (ae aa 1)).run Tryz.prog w=.ok (ae aa b) w:=by kernel_rfl
def ab0 (w0:World) (l:List aI) (t:aY) (d:Nat) (m:DS) (n:Nat) (e:Ending) (w':World):Prop :=
 (∃ad,e=.returned (.tuple #[.pointer (some ⟨fy.S ad,0,none⟩),ae aa 0])∧wo m n∧(∀p,p < n→tZ t m p)∧St w0 w' (aZ ad t d m (oe m n)::l))∨
 (e=.returned (.tuple #[.pointer none,ae aa 5])∧(∃p,p < n∧(dO m p 2).2 < 0)∧St w0 w' (bE d m::l))∨
 (∃c:Int,e=.returned (.tuple #[.pointer none,ae aa c])∧wo m n∧(∃(p:Nat) (k:Int),p < n∧(k=0∨k=1)∧¬tZ t m p∧(dq t m p (ew m p) k).2≠0∧c=if (dq t m p (ew m p) k).2=8 then 8 else 2)∧St w0 w' (bE d m::l))
theorem Vm {w0 w:World} {l:List aI} {d:Nat} (h:St w0 w (bE d m::l)) {a:dF} {t:aY} (ht:ko w a t) {n:Nat} (hn:n=t.parts.length) (hr:t.right=true) (gH:10*n≤m.ar.length) (hd:m.down=false) (fF:m.waits.length≤700) (hb:m.ia) (hg:m.Good) :
  Calls Tryz.prog 25 #[.pointer (some ⟨d,0,none⟩),a.val t] w (ab0 w0 l t d m n):=by
 have VL:=(aY.r hr).np;have y9:2≤n∧n≤4:=by omega
 have pg:m9 m.ar.length t=0:=by
  unfold m9;rw [if_neg (by rw [hr];simp),if_neg (by omega)]
 obtain ⟨Z,hZ⟩:=xE w.heap.size;obtain ⟨w1,aF⟩:=xE (w.alloc (.cells #[ae aa t.frame,.slice a.AP t.parts.length a.cP,.slice a.AW t.aJ.length a.cW,.slice a.AC t.av.length a.cC,ae aa t.ay] 46));have BX:Below w.heap.size w w1:=by rw [aF];exact (Below.refl _ w).alloc (Nat.le_refl _) _
 have h1:St w0 w1 (bE d m::row Z 46 [ae aa t.frame,.slice a.AP t.parts.length a.cP,.slice a.AW t.aJ.length a.cW,.slice a.AC t.av.length a.cC,ae aa t.ay]::l):=by
  have h:=(h.new 46 #[ae aa t.frame,.slice a.AP t.parts.length a.cP,.slice a.AW t.aJ.length a.cW,.slice a.AC t.av.length a.cC,ae aa t.ay]).swap;rw [←hZ,←aF] at h;exact h
 have Mq:=af (by have:=kO h1 (ht.over BX);rw [pg] at this;exact this);have H:=af h1;have ke:=af (fun (w':World) (hb:Below w1.heap.size w1 w')=>Nz (H.o.below hb) ((ht.over BX).over hb) hr);have dr:=af (fun (w':World) (hb:Below w1.heap.size w1 w')=>(H.o.below hb).swap.row.1);have HZ:=af hZ;have br:=af aF;have sP:=af hn;have fb:=af (fun (h:wo m n)=>Yj hr hn hb hg gH fF h);have HCO:=af (fun (w':World) (l':List aI) (p:Nat) (hp:p < n) (ak:St w0 w' (bE d m::l'))=>bD.rL ak (p:Int) (by unfold roomFor;simp;omega) hd (by omega) (fun i=>hb.now i) (fun i hi=>hg.yK hi));have Cm:=af (fun (w':World) (l':List aI) (p:Nat) (hp:p < n) (O:Nat) (v0 c1 c2:Value) (ak:St w0 w' (row O 102 [v0,c1,c2]::bE d m::l'))=>RQ (p:=(p:Int)) ak (by unfold nD eg;simp;omega) (by unfold nD eg;simp;omega) hd (by omega) hb);simp only [dF.val] at Mq ke br ⊢;clear h h1 ht aF hZ BX pg gH hd fF hb hg hr VL hn;have t0:=H.o.swap.row.1.c0;have t1:=H.o.swap.row.1.c1;have t2:=H.o.swap.row.1.c2;have t3:=H.o.swap.row.1.c3;have t4:=H.o.swap.row.1.c4;have lT:=H.o.swap.row.1.lt;go_enter Tryz.func25,Tryz.ntmps25;go_upto_region 1 with fail;rw [←br.o,←HZ.o];go_wp2_with fail;refine Mq.o.mono ?_;rintro e w2 ⟨rfl,hb⟩;have aO:=af hb;clear hb t0 t1 t2 t3 t4 lT;have t0:=(dr.o w2 aO.o).c0;have t1:=(dr.o w2 aO.o).c1;have t2:=(dr.o w2 aO.o).c2;have t3:=(dr.o w2 aO.o).c3;have t4:=(dr.o w2 aO.o).c4;have lT:=(dr.o w2 aO.o).lt;go_wp2_with fail;refine (ke.o w2 aO.o).mono ?_;rintro e w3 ⟨a',rfl,ak⟩;have H3:=af ak;clear ak t0 t1 t2 t3 t4 lT;simp only [dF.val];obtain ⟨S,hS⟩:=xE w3.heap.size;obtain ⟨w4,dW⟩:=xE (w3.alloc (.cells #[ae aa t.frame,.slice a'.AP t.parts.length a'.cP,.slice a'.AW t.aJ.length a'.cW,.slice a'.AC t.av.length a'.cC,ae aa t.ay,.slice none 0 0] 114));have h4:=H3.o.new 114 #[ae aa t.frame,.slice a'.AP t.parts.length a'.cP,.slice a'.AW t.aJ.length a'.cW,.slice a'.AC t.av.length a'.cC,ae aa t.ay,.slice none 0 0];rw [←hS,←dW] at h4
 have GQ:St w0 w4 (aZ ⟨S,a',none,0,[]⟩ t d m []::row Z 46 [ae aa t.frame,.slice a.AP t.parts.length a.cP,.slice a.AW t.aJ.length a.cW,.slice a.AC t.av.length a.cC,ae aa t.ay]::l) :=
  Bu (q:=0) rfl (by
   have h5:=((h4.cX (Below.refl _ _) (show w4.ownsRow w4.heap.size 94 1 (.slice none 0 0) 0 [] from ⟨rfl,.inl ⟨rfl,rfl⟩⟩)).swap)
   have h6:=(St.eJ (L:=[]) h5)
   exact h6.perm (List.perm_middle (l₁:=[_,_,_,_]) (l₂:=row Z 46 [ae aa t.frame,.slice a.AP t.parts.length a.cP,.slice a.AW t.aJ.length a.cW,.slice a.AC t.av.length a.cC,ae aa t.ay]::l)).symm) rfl
 have H4:=af GQ;have hz4:=(GQ.pick 1 rfl).row.1;have t1:=hz4.c1;have lT:=hz4.lt;clear h4 GQ hz4;have AG:=sP.o;rw [←AG] at t1;clear AG;go_upto_region 5 with fail;rw [←hS,←dW];clear dW hS;go_wp2_with fail;go_loopw [32] (fun x wr=>∃(q:Nat) (ad:fy),q≤n∧x=ae aa (q:Int)∧ad.S=S∧St w0 wr (aZ ad t d m (oe m q)::row Z 46 [ae aa t.frame,.slice a.AP t.parts.length a.cP,.slice a.AW t.aJ.length a.cW,.slice a.AC t.av.length a.cC,ae aa t.ay]::l)∧wo m q) (fun x _=>n-(intOf x).toNat)
 case atStart=>exact ⟨0,_,by omega,rfl,rfl,H4.o,fun p hp=>absurd hp (by omega)⟩
 case round =>
  obtain ⟨q,ad,hq,rfl,hS,ak,aao⟩:=hrel;have bH:=af ak;have mO:=af aao;clear H4 ak aao t1 lT;by_cases aH:q < n
  ·have qw:=Bq bH.o;have cH:=qw.2;have jy:(oe m q).length=q:=qZ m q;have HC:=af (HCO.o wr _ q aH (qw.1.pick 3 rfl));have k1:(q:Int) < (n:Int):=by omega
   clear qw;go_wp2_with fail;refine HC.o.mono ?_;rintro e w5 ⟨Li,Su⟩;have HP:=af (show ew m q=⟨⟨(dO m q 2).2,(dO m q 2).1⟩,eU m q 0,eU m q 1⟩ from rfl);by_cases uI:(dO m q 2).2 < 0
   ·obtain ⟨rfl,ak⟩:=Li uI;have HE:=af ak;have HN:=af uI;clear Li Su ak uI HP;go_wp2_with fail;go_ret2;exact .inr (.inl ⟨rfl,⟨q,aH,HN.o⟩,(((((HE.o.pick 1 rfl).drop.pick 1 rfl).drop.pick 1 rfl).drop.pick 1 rfl).drop.pick 1 rfl).drop⟩)
   ·obtain ⟨g,rfl,ak⟩:=Su uI
    have HN:=af (show wo m (q+1) from fun p hp=>by
     by_cases Dy:p < q
     ·exact mO.o p Dy
     ·rw [show p=q by omega];exact uI)
    generalize (dO m q 2).2=hld,(dO m q 2).1=now at *;obtain ⟨O,hO⟩:=xE w5.heap.size;obtain ⟨w6,mK⟩:=xE (w5.alloc (.cells #[.pointer (some ⟨g,0,none⟩),.pointer none,.pointer none] 102));have h6:=ak.new 102 #[.pointer (some ⟨g,0,none⟩),.pointer none,.pointer none];rw [←hO,←mK] at h6;have H6:=af ((h6.pick 2 rfl).swap);have HO:=af hO;have Ck:=af mK;clear Li Su ak uI h6 hO mK;go_upto_region 12 with fail;rw [←Ck.o,←HO.o];have TV:=af (Cm.o w6 _ q aH O _ _ _ H6.o);go_wp2_with fail;refine TV.o.mono ?_;rintro e w9 ⟨rfl,g0,g1,ak⟩;have H9:=af ak;have FW:=(ak.pick 5 rfl).row.1;rw [jy,hS] at FW;have s5:=FW.c5;have s6:=FW.lt;clear ak FW;have ft:=(H9.o.pick 6 rfl)
    rw [jy] at ft;have Ba:=af ft;clear ft;obtain ⟨wb,uL⟩:=xE (w9.alloc (.cells #[.pointer (some ⟨O,0,none⟩)] 94));obtain ⟨D,hD⟩:=xE w9.heap.size;have kV:=Ba.o.new 94 #[.pointer (some ⟨O,0,none⟩)];rw [←uL,←hD] at kV;have xh:=af kV;have rM:Sl wb wb.heap.size 1 (some ⟨D,0,none⟩) 1 [.pointer (some ⟨O,0,none⟩)]:=kV.row.1.sl kV.row.1.lt rfl rfl;have Ge:=af rM;have OC:=af kV.swap.own;have DY:=af kV.aE.size;have HD:=af hD;have TO:=af uL;clear kV rM hD uL
    go_upto_region 16 with (first
     | (at_builtin;rw [←TO.o,←HD.o];refine nG WS rfl (.tmp 58) (.tmp 60) rfl OC.o rfl rfl (fun h=>by cases h) Ge.o (by simp [Value.oneCell']) (by omega) (by unfold maxLen;omega) DY.o ?_;intro v' wc ho hg hl;have sU:=xh.o.swap.grown hg ho hl;obtain ⟨A9,c9,rfl,_,_⟩:=aD ho;have yn:=af sU;have wJ:=(sU.pick 7 rfl).row.1;have y5:=wJ.c5;have y6:wc.frozen? ⟨ad.S,5,none⟩=false:=wJ.frozen 5;have y7:=wJ.lt;rw [hS] at y5 y6 y7;clear wJ ho hg hl sU))
    go_wp2_with fail;go_roundw
    case rel =>
     refine ⟨q+1,⟨ad.S,ad.bN,A9,c9,ad.al++[⟨O,g,g0,g1⟩]⟩,by omega,by go_num,hS,?_,HN.o⟩;have h:=(yn.o.pick 7 rfl).set 5 (.slice A9 (q+1) c9);rw [hS] at h;have h2:=((((((((((h.pick 2 rfl).drop.pick 5 rfl).pick 7 rfl).pick 3 rfl).pick 3 rfl).pick 6 rfl).pick 6 rfl).pick 7 rfl).pick 7 rfl).pick 8 rfl)
     have h3:=Ig (a:=⟨O,g,g0,g1⟩) (x:=⟨⟨hld,now⟩,eU m q 0,eU m q 1⟩) cH jy h2;have h4:=(((h3.pick 4 rfl).pick 4 rfl).pick 4 rfl).pick 4 rfl;rw [RT,HP.o];refine Bu (q:=q+1) (by rw [gC,jy];rfl) ?_ (by rw [gC,gC,cH];rfl);rw [hS];have NU:nt (ad.al++[⟨O,g,g0,g1⟩])=nt ad.al++[.pointer (some ⟨O,0,none⟩)]:=by simp [nt]
     rw [NU];exact h4
    case measure=>simp [intOf];omega
  ·have FF:q=n:=by omega
   subst FF;have k1:¬(q:Int) < (q:Int):=by omega
   have jL:=fb.o mO.o;have HSK:=af jL;obtain ⟨s1,s2,s3⟩:=nh bH.o;rw [qZ,hS] at s1;have c5:=s1.c5;have lS:=s1.lt;clear jL s1 s2 s3;go_wp2_with fail;clear c5 lS;go_loopw [70] (fun x wr=>∃(p:Nat),p≤q∧x=ae aa (p:Int)∧St w0 wr (aZ ad t d m (oe m q)::row Z 46 [ae aa t.frame,.slice a.AP t.parts.length a.cP,.slice a.AW t.aJ.length a.cW,.slice a.AC t.av.length a.cC,ae aa t.ay]::l)∧∀k,k < p→tZ t m k) (fun x _=>q-(intOf x).toNat)
   case atStart=>exact ⟨0,by omega,rfl,bH.o,fun p hp=>absurd hp (by omega)⟩
   case round =>
    obtain ⟨p,hp,rfl,ak,WY⟩:=hrel;clear bH;have bH:=af ak;have HRU:=af WY;clear ak WY;by_cases qF:p < q
    ·have iQ:p < (oe m q).length:=by rw [qZ];exact qF
     have ez:=HSK.o.at_ iQ;rw [CO qF] at ez;have HPA:=af ez.act;have HPC:=af ez.oZ;obtain ⟨s1,s2,s3⟩:=nh bH.o;rw [qZ] at s2 s3;obtain ⟨b,off,S4,cm,pN⟩:=s2.2 (by omega);have cp:wr.cell? ⟨b,off+p,none⟩=some (.pointer (some ⟨(ad.al.getD p default).O,0,none⟩)):=pN p _ (by simp [nt,show p < ad.al.length by omega]);have yY:=iX bH.o iQ;rw [CO qF] at yY;obtain ⟨O,hO⟩:∃O,O=(ad.al.getD p default).O:=⟨_,rfl⟩
     obtain ⟨L,hL⟩:∃L,L=(ad.al.getD p default).L:=⟨_,rfl⟩
     have HRO:=af (fun (w':World) (hb:Below wr.heap.size wr w')=>(⟨by rw [hO,hL];exact (yY.below hb).row.1.cell 0,by rw [hO];exact (yY.below hb).row.1.lt⟩:w'.cell? ⟨O,0,none⟩=some (.pointer (some ⟨L,0,none⟩))∧O < w'.heap.size));have yi:=af (fun (w':World) (hb:Below wr.heap.size wr w')=>nN ((yY.below hb).pick 1 rfl));rw [←hO] at cp;rw [←hL] at yi;have HHO:=af (fun (w':World) (l':List aI) (k:Int) (hk:k=0∨k=1) (h':St w0 w' (aZ ad t d m (oe m q)::l'))=>ui h' HSK.o iQ hk);rw [CO qF] at HHO;have HRK:=af (show (dq t m p (ew m p) (ew m p).log.now.au).2=0∧(dq t m p (ew m p) (ew m p).log.now.aj).2=0→tZ t m p from id);have HRN:=af (show tZ t m p→(dq t m p (ew m p) (ew m p).log.now.au).2=0∧(dq t m p (ew m p) (ew m p).log.now.aj).2=0 from id);have r2:=JX (ew m p).log.now;have r3:=Pj (ew m p).log.now;generalize (ew m p).log.now.val=rv at *;generalize (ew m p).log.now.au=ra,(ew m p).log.now.aj=rc at *;have i0:=abH ra rc;have i1:=abG ra rc;have k2:(p:Int) < (q:Int):=by omega
     have k0:(0:Int)≤(p:Int):=by omega
     have HA:=af S4;have EF:b < wr.heap.size:=cm;clear s1 s2 s3 pN yY hO hL ez S4 cm;rw [HA.o];go_upto_region 20 with fail;refine eb (fun w'=>w'.cell? ⟨O,0,none⟩=some (.pointer (some ⟨L,0,none⟩))∧O < w'.heap.size) (by kernel_rfl) (HRO.o wr.drew (Below.refl wr.heap.size wr).drew) (fun bJ=>?_);(refine ah 0 ?_;(try simp only [ai]));(refine ah 1 ?_;(try simp only [ai]));(refine ah 2 ?_;(try simp only [ai]));(refine ah 3 ?_;(try simp only [ai]));(refine ah 6 ?_;(try simp only [ai]));(refine ah 7 ?_;(try simp only [ai]));(refine ah 8 ?_;(try simp only [ai]));(refine ah 9 ?_;(try simp only [ai]));(refine ah 13 ?_;(try simp only [ai]));(refine dQ 4 ?_;(try simp only [xG]);go_simp);refine (yi.o _ (Below.refl wr.heap.size wr).drew).mono ?_;rintro e w5 ⟨rfl,hb⟩;have lN:=af ((Below.refl wr.heap.size wr).drew.trans hb);clear hb;dsimp only;(refine cu (HRO.o w5 lN.o) (fun bJ=>?_);(try simp only [ai]));(refine ah 5 ?_;(try simp only [ai]));(refine dQ 10 ?_;(try simp only [xG]);go_simp);refine (yi.o w5 lN.o).mono ?_;rintro e w6 ⟨rfl,hb⟩;have pA:=af (lN.o.trans (hb.mono lN.o.size));clear hb;dsimp only;(refine cu (HRO.o w6 pA.o) (fun bJ=>?_);(try simp only [ai]));(refine ah 11 ?_;(try simp only [ai]));(refine ah 12 ?_;(try simp only [ai]));refine dw (by kernel_rfl) ?_;go_wp2_with fail;have sX:=af (bH.o.below pA.o);clear r2 r3 cp EF HRO yi bJ k0;go_loopw [88] (fun x wr=>∃(k:Nat),k≤2∧x=ae aa (k:Int)∧St w0 wr (aZ ad t d m (oe m q)::row Z 46 [ae aa t.frame,.slice a.AP t.parts.length a.cP,.slice a.AW t.aJ.length a.cW,.slice a.AC t.av.length a.cC,ae aa t.ay]::l)∧(1≤k→(dq t m p (ew m p) ra).2=0)∧(2≤k→(dq t m p (ew m p) rc).2=0)) (fun x _=>2-(intOf x).toNat)
     case atStart=>exact ⟨0,by omega,rfl,sX.o,fun h=>absurd h (by omega),fun h=>absurd h (by omega)⟩
     case round =>
      obtain ⟨k,hk,rfl,ak,jm,dy⟩:=hrel;clear bH sX;have bH:=af ak;have MC:=af jm;have nY:=af dy;clear ak jm dy;by_cases EC:k < 2
      ·obtain ⟨rk,Sq⟩:=xE (if k=0 then ra else rc)
       have ik:∀w',(Instr.index 131 (.agg #[ae aa ra,ae aa rc]) (ae aa (k:Int))).run Tryz.prog w'=.ok (ae aa rk) w':=fun w'=>by
        rcases (by omega:k=0∨k=1) with rfl|rfl
        ·rw [Sq];exact i0 w'
        ·rw [Sq];exact i1 w'
       have VM:rk=0∨rk=1:=by
        have:=HPA.o;have:=HPC.o;rw [Sq];split<;>assumption
       have HH:=af (by have hh:=HHO.o wr _ rk VM bH.o;rw [hS] at hh;exact hh);have abd:=af VM;have WE:=af Sq;have k3:(k:Int) < 2:=by omega
       clear VM Sq i0 i1;go_wp2_with fail;refine HH.o.mono ?_;rintro e w7 ⟨j,KA,Kc,er,rfl,SA,ak⟩;have H7:=af ak.drop;have MD:=af (show (dq t m p (ew m p) rk).2=er by rw [←SA]);clear ak SA ik HH
       have lL:=af (fun (rN:er≠0) (NQ:tZ t m p)=>show False from by
        have h0:=HRN.o NQ;have h1:=MD.o;have h2:=WE.o;by_cases mM:k=0
        ·rw [if_pos mM] at h2;rw [h2,h0.1] at h1;exact rN h1.symm
        ·rw [if_neg mM] at h2;rw [h2,h0.2] at h1;exact rN h1.symm)
       simp only [aq.val];generalize j.part=j0,j.version=j1,j.aV=j2,j.mem=j3,j.fuel=j4,j.aM=j5,j.ax=j6,j.code.length=j7;obtain ⟨w8,wF⟩:=xE (w7.alloc (.cells #[ae aa j0,ae aa j1,ae aa j2,ae aa j3,ae aa j4,ae aa j5,ae aa j6,.slice KA j7 Kc] 26))
       have H8:=af (show St w0 w8 (aZ ad t d m (oe m q)::row Z 46 [ae aa t.frame,.slice a.AP t.parts.length a.cP,.slice a.AW t.aJ.length a.cW,.slice a.AC t.av.length a.cC,ae aa t.ay]::l) by
        rw [wF]
        exact (H7.o.new 26 #[ae aa j0,ae aa j1,ae aa j2,ae aa j3,ae aa j4,ae aa j5,ae aa j6,.slice KA j7 Kc]).drop)
       have Mr:=af wF;clear wF;go_upto_region 24 with fail;rw [←Mr.o];by_cases he8:er=8
       ·subst he8;go_wp2_with fail;go_ret2;refine .inr (.inr ⟨8,rfl,mO.o,⟨p,rk,qF,abd.o,fun h=>lL.o (by decide) h,by rw [MD.o];decide,by rw [MD.o];rfl⟩,?_⟩);exact ((((Bq (H8.o.pick 1 rfl).drop).1.pick 3 rfl).pick 1 rfl).drop.pick 1 rfl).drop |> fun h=>((h.pick 1 rfl).drop.pick 1 rfl).drop
       ·by_cases Oc:er=0
        ·subst Oc;go_wp2_with fail;go_roundw
         case rel =>
          refine ⟨k+1,by omega,by go_num,H8.o,fun _=>?_,fun h=>?_⟩
          ·by_cases mM:k=0
           ·have:=WE.o;rw [if_pos mM] at this;rw [←this];exact MD.o
           ·exact MC.o (by omega)
          ·have:=WE.o;rw [if_neg (by omega)] at this;rw [←this];exact MD.o
         case measure=>simp [intOf];omega
        ·have e8:(er==8)=false:=by simpa using he8
         have e0:(er != 0)=true:=by simpa using Oc
         have HE8:=af he8;have HE0:=af Oc;clear he8 Oc;go_wp2_with fail;go_ret2;refine .inr (.inr ⟨2,rfl,mO.o,⟨p,rk,qF,abd.o,fun h=>lL.o (by simpa using HE0.o) h,by rw [MD.o];simpa using HE0.o,by rw [MD.o,if_neg HE8.o]⟩,?_⟩);exact ((((Bq (H8.o.pick 1 rfl).drop).1.pick 3 rfl).pick 1 rfl).drop.pick 1 rfl).drop |> fun h=>((h.pick 1 rfl).drop.pick 1 rfl).drop
      ·have dy:k=2:=by omega
       subst dy;have k3:¬((2:Nat):Int) < 2:=by omega
       have HKB:=af (HRK.o ⟨MC.o (by omega),nY.o (by omega)⟩);clear i0 i1;go_wp2_with fail;go_roundw
       case rel =>
        refine ⟨p+1,by omega,by go_num,bH.o,fun j hj=>?_⟩;by_cases hjp:j < p
        ·exact HRU.o j hjp
        ·rw [show j=p by omega];exact HKB.o
       case measure=>simp [intOf];omega
    ·have Dy:p=q:=by omega
     subst Dy;have k2:¬(p:Int) < (p:Int):=by omega
     go_wp2_with fail;go_ret2;exact .inl ⟨ad,by rw [hS];rfl,mO.o,HRU.o,(bH.o.pick 1 rfl).drop⟩
end
section
variable {t:aY}
theorem F8 {p:Int} {i:aq} {v:Int} :bX t p i v=0 ↔ t.right=true∧(0≤p∧p < t.parts.length)∧i.right∧∀j,j < 4→fV t p.toNat i v j=true:=by
 unfold bX;cases hr:t.right
 ·simp
 ·by_cases h1:¬(0≤p∧p < t.parts.length)∨¬i.right
  ·rw [if_neg (by simp),if_pos h1]
   constructor
   ·intro h;simp at h
   ·rintro ⟨_,a,b,_⟩;exact absurd h1 (by simp only [a,b];simp)
  ·rw [if_neg (by simp),if_neg h1]
   have ha:(0≤p∧p < t.parts.length)∧i.right:=by
    constructor
    ·exact Classical.byContradiction fun h=>h1 (.inl h)
    ·exact Classical.byContradiction fun h=>h1 (.inr h)
   have e:ot t p.toNat i v 4=if fV t p.toNat i v 0 then (if fV t p.toNat i v 1 then (if fV t p.toNat i v 2 then (if fV t p.toNat i v 3 then 0 else 13) else 15) else 14) else 12:=rfl;rw [e]
   constructor
   ·intro h;refine ⟨rfl,ha.1,ha.2,fun j hj=>?_⟩;split at h
    ·split at h
     ·split at h
      ·split at h
       ·rcases (by omega:j=0∨j=1∨j=2∨j=3) with rfl|rfl|rfl|rfl<;>assumption
       ·simp at h
      ·simp at h
     ·simp at h
    ·simp at h
   ·rintro ⟨_,_,_,h⟩;rw [if_pos (h 0 (by omega)),if_pos (h 1 (by omega)),if_pos (h 2 (by omega)),if_pos (h 3 (by omega))]
section
variable {m : DS} {xs : List PP} {D : List DP}
theorem Calm.bZ {m:DS} (h:Calm m) (k:Int):Calm (m.bZ k)∧∀j,(m.bZ k).now j=m.now j:=by
 have hs:(m.bZ k).ar=m.ar:=by
  rcases xy (i:=0) (bs:=[]) (.inl h.waits) k with e|⟨e,_⟩
  ·exact e
  ·rw [h.waits] at e;cases e
 exact ⟨⟨DS.tw m k,DS.oR m k,DS.sr h.bu k,h.eQ.bZ k⟩,fun j=>by rw [DS.kN h.waits,DS.kN (DS.oR m k),hs]⟩
theorem cE.bZ (h:cE m xs D) (k:Int):cE (m.bZ k) xs D :=
 ⟨(h.calm.bZ k).1,h.len,fun p hp=>(h.parts p hp).other h.calm (h.calm.bZ k).1 (DS.qm m k) fun j _ _=>(h.calm.bZ k).2 j⟩
theorem cE.opn (h:cE m xs D):oe m xs.length=xs∧wo m xs.length:=by
 have each:∀p,p < xs.length→dO m p 2=((xs.getD p default).log.now,(xs.getD p default).log.held)∧eU m p 0=(xs.getD p default).s0∧eU m p 1=(xs.getD p default).s1:=fun p hp =>
  ⟨(h.parts p hp).inv.log.open_,((h.parts p hp).inv.s0.up h.calm.up.1).2.2.2,((h.parts p hp).inv.s1.up h.calm.up.1).2.2.2⟩
 constructor
 ·refine List.ext_getElem (qZ _ _) fun p h1 h2=>?_;obtain ⟨e1,e2,e3⟩:=each p h2;have e4:(oe m xs.length)[p]=ew m p:=by simp [oe]
  rw [e4];unfold ew;rw [e1,e2,e3,qM h2]
 ·intro p hp uI;rw [(each p hp).1] at uI;have:=(h.parts p hp).inv.log.held;omega
def vy (t:aY) (D:List DP):Prop:=∀p,p < D.length→(fv t p ((D.getD p default).slot (D.getD p default).r.au)).2=0∧(fv t p ((D.getD p default).slot (D.getD p default).r.aj)).2=0
theorem cE.aa0 (h:cE m xs D) {p:Nat} (hp:p < xs.length):(D.getD p default).r.aj=0∨(D.getD p default).r.aj=1:=by
 have:=eu.iZ (h.parts p hp).right;omega
theorem cE.runs (h:cE m xs D) (hr:vy t D) {p:Nat} (hp:p < xs.length):tZ t m p:=by
 have hx:ew m p=xs.getD p default:=by
  have e:=CO (m:=m) hp;rw [h.opn.1] at e;exact e.symm
 unfold tZ;rw [hx,(h.parts p hp).now,h.hold hp (h.parts p hp).QD,h.hold hp (h.aa0 hp)];exact hr p (by rw [h.len];exact hp)
theorem ZQ {w0 w:World} {l:List aI} {d:Nat} {a:dF} (ak:St w0 w (bE d m::l)) (h:cE m xs D) (ht:ko w a t) (hr:t.right=true) (hl:xs.length=t.parts.length) (gH:10*xs.length≤m.ar.length) (hd:vy t D) :
  Calls Tryz.prog 25 #[.pointer (some ⟨d,0,none⟩),a.val t] w fun e w'=>∃ad:fy,e=.returned (.tuple #[.pointer (some ⟨ad.S,0,none⟩),ae aa 0])∧kD w0 w' ad t d m xs D l:=by
 refine (Vm ak ht hl hr gH h.calm.up.1 (by rw [h.calm.waits];simp) h.calm.eQ h.calm.bu).mono fun e w' hE=>?_;rcases hE with ⟨ad,e1,_,_,e2⟩|⟨_,⟨p,hp,uI⟩,_⟩|⟨c,_,_,⟨p,k,hp,hk,hn,he,hce⟩,_⟩
 ·rw [h.opn.1] at e2;exact ⟨ad,e1,e2,h,hl,gH,hr⟩
 ·exact absurd uI (h.opn.2 p hp)
 ·exact absurd (h.runs hd hp) hn
end
section
variable {D0 : List DP} {R0 R1 : RS} {t : aY} {r : Rec}
end
end
def Fa (i j:aq):Bool:=decide (i.part=j.part∧i.version=j.version∧i.aV=j.aV∧i.mem=j.mem∧i.fuel=j.fuel∧i.aM=j.aM∧i.ax=j.ax∧i.code=j.code)
theorem Rk {i j:aq}:Fa i j=true ↔ i=j:=by
 obtain ⟨i0,i1,i2,i3,i4,i5,i6,ic⟩:=i;obtain ⟨j0,j1,j2,j3,j4,j5,j6,jc⟩:=j;simp only [Fa,decide_eq_true_eq,aq.mk.injEq]
theorem UW (w:World) (i j:aq) (A A':Option Addr) (c c':Nat) (hs:Sl w w.heap.size 1 A i.code.length (aP i.code)) (ht:Sl w w.heap.size 1 A' j.code.length (aP j.code)) (hi:i.code.length≤1000000) (hj:j.code.length≤1000000) :
  Calls Tryz.prog 66 #[i.val A c,j.val A' c'] w fun e w'=>e=.returned (.bool (Fa i j))∧Below w.heap.size w w':=by
 obtain ⟨i0,i1,i2,i3,i4,i5,i6,ic⟩:=i;obtain ⟨j0,j1,j2,j3,j4,j5,j6,jc⟩:=j;simp only at hs ht hi hj;simp only [aq.val,Fa];have hb:Below w.heap.size w ((w.alloc (.cells #[ae aa i0,ae aa i1,ae aa i2,ae aa i3,ae aa i4,ae aa i5,ae aa i6,.slice A ic.length c] 26)).alloc (.cells #[ae aa j0,ae aa j1,ae aa j2,ae aa j3,ae aa j4,ae aa j5,ae aa j6,.slice A' jc.length c'] 26)):=((Below.refl _ w).alloc (Nat.le_refl _) _).alloc (by simp) _;have HB:=af hb;have jU:=af (same.zH ic jc A A' ic.length jc.length c c' _ rfl rfl hi hj ((hs.below hb).more hb.size) ((ht.below hb).more hb.size));clear hb hs ht hi hj;by_cases h0:i0=j0
 case neg =>
  have e0:(i0==j0)=false:=by simpa using h0
  have hd:decide (i0=j0∧i1=j1∧i2=j2∧i3=j3∧i4=j4∧i5=j5∧i6=j6∧ic=jc)=false:=by simp [h0]
  rw [hd];clear hd h0 jU;generalize ic.length=ni,jc.length=nj at *;go_enter Tryz.func66,Tryz.ntmps66;go_wp2_with fail;go_ret;exact ⟨rfl,HB.o⟩
 case pos =>
  subst h0;by_cases h1:i1=j1
  case neg =>
   have e1:(i1==j1)=false:=by simpa using h1
   have hd:decide (i0=i0∧i1=j1∧i2=j2∧i3=j3∧i4=j4∧i5=j5∧i6=j6∧ic=jc)=false:=by simp [h1]
   rw [hd];clear hd h1 jU;generalize ic.length=ni,jc.length=nj at *;go_enter Tryz.func66,Tryz.ntmps66;go_wp2_with fail;go_ret;exact ⟨rfl,HB.o⟩
  case pos =>
   subst h1;by_cases h2:i2=j2
   case neg =>
    have e2:(i2==j2)=false:=by simpa using h2
    have hd:decide (i0=i0∧i1=i1∧i2=j2∧i3=j3∧i4=j4∧i5=j5∧i6=j6∧ic=jc)=false:=by simp [h2]
    rw [hd];clear hd h2 jU;generalize ic.length=ni,jc.length=nj at *;go_enter Tryz.func66,Tryz.ntmps66;go_wp2_with fail;go_ret;exact ⟨rfl,HB.o⟩
   case pos =>
    subst h2;by_cases h3:i3=j3
    case neg =>
     have e3:(i3==j3)=false:=by simpa using h3
     have hd:decide (i0=i0∧i1=i1∧i2=i2∧i3=j3∧i4=j4∧i5=j5∧i6=j6∧ic=jc)=false:=by simp [h3]
     rw [hd];clear hd h3 jU;generalize ic.length=ni,jc.length=nj at *;go_enter Tryz.func66,Tryz.ntmps66;go_wp2_with fail;go_ret;exact ⟨rfl,HB.o⟩
    case pos =>
     subst h3;by_cases h4:i4=j4
     case neg =>
      have e4:(i4==j4)=false:=by simpa using h4
      have hd:decide (i0=i0∧i1=i1∧i2=i2∧i3=i3∧i4=j4∧i5=j5∧i6=j6∧ic=jc)=false:=by simp [h4]
      rw [hd];clear hd h4 jU;generalize ic.length=ni,jc.length=nj at *;go_enter Tryz.func66,Tryz.ntmps66;go_wp2_with fail;go_ret;exact ⟨rfl,HB.o⟩
     case pos =>
      subst h4;by_cases h5:i5=j5
      case neg =>
       have e5:(i5==j5)=false:=by simpa using h5
       have hd:decide (i0=i0∧i1=i1∧i2=i2∧i3=i3∧i4=i4∧i5=j5∧i6=j6∧ic=jc)=false:=by simp [h5]
       rw [hd];clear hd h5 jU;generalize ic.length=ni,jc.length=nj at *;go_enter Tryz.func66,Tryz.ntmps66;go_wp2_with fail;go_ret;exact ⟨rfl,HB.o⟩
      case pos =>
       subst h5;by_cases h6:i6=j6
       case neg =>
        have e6:(i6==j6)=false:=by simpa using h6
        have hd:decide (i0=i0∧i1=i1∧i2=i2∧i3=i3∧i4=i4∧i5=i5∧i6=j6∧ic=jc)=false:=by simp [h6]
        rw [hd];clear hd h6 jU;generalize ic.length=ni,jc.length=nj at *;go_enter Tryz.func66,Tryz.ntmps66;go_wp2_with fail;go_ret;exact ⟨rfl,HB.o⟩
       case pos =>
        subst h6;have hd:decide (i0=i0∧i1=i1∧i2=i2∧i3=i3∧i4=i4∧i5=i5∧i6=i6∧ic=jc)=decide (ic=jc):=by simp
        rw [hd];clear hd;generalize ic.length=ni,jc.length=nj at *;go_enter Tryz.func66,Tryz.ntmps66;go_wp2_with fail;refine jU.o.mono ?_;rintro e w2 ⟨rfl,hb⟩;have aO:=af (HB.o.trans (hb.mono HB.o.size));clear hb;go_wp2_with fail;go_ret;exact ⟨rfl,aO.o⟩
theorem MX (y:dv×RP):(l6 y).length=8:=rfl
structure uS (w:World) (X:Nat) (n p:Nat) (y:dv×RP) (b off c bS oS cS bI oI cI:Nat):Prop where
 x5:w.cell? ⟨X,5,none⟩=some (.slice (some ⟨b,off,none⟩) n c)
 lX:X < w.heap.size
 lb:b < w.heap.size
 row:∀j u,j < 8→(l6 y)[j]?=some u→w.cell? ⟨b,off+p*8+j,none⟩=some u
 eS:y.1.vS=.slice (some ⟨bS,oS,none⟩) 2 cS
 lS:bS < w.heap.size
 slots:∀j u,(bO y.2.s0 y.1.v0++bO y.2.s1 y.1.v1)[j]?=some u→w.cell? ⟨bS,oS+j,none⟩=some u
 eI:y.1.vI=.slice (some ⟨bI,oI,none⟩) 2 cI
 lI:bI < w.heap.size
 iO:∀j u,(aq.row y.2.i0 y.1.K0++aq.row y.2.i1 y.1.K1)[j]?=some u→w.cell? ⟨bI,oI+j,none⟩=some u
theorem vC {w0 w:World} {l:List aI} {X:Nat} {tv:List Value} {v:Value} {P:List (Nat×List Value)} {ys:List (dv×RP)} (h:St w0 w (bK X tv v P ys::l)) (il:tv.length=5) {p:Nat} (hp:p < ys.length) :
  ∃b off c bS oS cS bI oI cI,uS w X ys.length p ys[p] b off c bS oS cS bI oI cI:=by
 have h1:=et h;have hX:=h1.row.1;have hO:=(h1.pick 1 rfl).own;obtain ⟨A,c,hv,_,_⟩:=aD hO;rw [hv] at hO;have dk:=Sl.bP hO;obtain ⟨b,off,rfl,cm,pN⟩:=dk.2 (by omega)
 have h9:∀x∈ys.map l6,x.length=8:=by
  intro x hx;obtain ⟨a,_,rfl⟩:=List.mem_map.1 hx;rfl
 have abM:St w0 w (mj P ys[p].1 ys[p].2::_):=(h1.pick 3 rfl).PA (k:=p) (by simp [hp]);have h2:=abM.fI;simp only [List.cons_append,List.nil_append] at h2;have hS:=(h2.pick 1 rfl).own;obtain ⟨AS,cS,hvS,_,_⟩:=aD hS;rw [hvS] at hS;obtain ⟨bS,oS,rfl,lS,hcS⟩:=(Sl.bP hS).2 (by omega);have hI:=(h2.pick 4 rfl).own;obtain ⟨AI,cI,hvI,_,_⟩:=aD hI;rw [hvI] at hI;obtain ⟨bI,oI,rfl,lI,hcI⟩:=(Sl.bP hI).2 (by omega);refine ⟨b,off,c,bS,oS,cS,bI,oI,cI,?_,hX.lt,cm,?_,hvS,lS,hcS,hvI,lI,hcI⟩
 ·rw [hX.cell 5,List.getElem?_append_right (by omega),il,hv];rfl
 ·intro j u hj hu;have e:=rQ h9 (i:=p) (by simpa using hp);rw [Nat.add_assoc];refine pN _ _ ?_
  have e2:(((ys.map l6).flatten.drop (p*8)).take 8)[j]?=(ys.map l6).flatten[p*8+j]?:=by
   rw [List.getElem?_take,if_pos hj,List.getElem?_drop]
  rw [e] at e2;show (dG ys)[p*8+j]?=some u
  unfold dG;rw [←e2];simpa using hu
def RP.ee (x:RP) (k:Int):aq:=if k=0 then x.i0 else x.i1
def dv.K (a:dv) (k:Int):Option Addr×Nat:=if k=0 then a.K0 else a.K1
theorem Rr {w:World} {X n p:Nat} {y:dv×RP} {b off c bS oS cS bI oI cI:Nat} (h:uS w X n p y b off c bS oS cS bI oI cI) (hp:p < n) (hk:y.2.aw.au=0∨y.2.aw.au=1) :
  Calls Tryz.prog 67 #[.pointer (some ⟨X,0,none⟩),ae aa p] w fun e w'=>e=.returned ((y.2.ee y.2.aw.au).val (y.1.K y.2.aw.au).1 (y.1.K y.2.aw.au).2)∧Below w.heap.size w w':=by
 obtain ⟨k,mM,dy⟩:∃k:Nat,y.2.aw.au=k∧k < 2:=⟨y.2.aw.au.toNat,by omega,by omega⟩
 obtain ⟨j,hj⟩:=xE (y.2.ee y.2.aw.au);obtain ⟨KK,hKK⟩:=xE (y.1.K y.2.aw.au)
 have fJ:∀m u,m < 8→(aq.row j KK)[m]?=some u→w.cell? ⟨bI,oI+k*8+m,none⟩=some u:=fun m u hm hu=>by
  rw [Nat.add_assoc];refine h.iO _ _ ?_;rcases (by omega:k=0∨k=1) with rfl|rfl
  ·rw [List.getElem?_append_left (by show 0*8+m < 8;omega),Nat.zero_mul,Nat.zero_add];rw [hj,hKK,mM] at hu;exact hu
  ·rw [List.getElem?_append_right (by show 8≤1*8+m;omega),show 1*8+m-(aq.row y.2.i0 y.1.K0).length=m by show 1*8+m-8=m;omega];rw [hj,hKK,mM] at hu;exact hu
 have c0:w.cell? ⟨bI,oI+k*8,none⟩=some (ae aa j.part):=fJ 0 _ (by omega) rfl;have c1:w.cell? ⟨bI,oI+k*8+1,none⟩=some (ae aa j.version):=fJ 1 _ (by omega) rfl;have c2:w.cell? ⟨bI,oI+k*8+2,none⟩=some (ae aa j.aV):=fJ 2 _ (by omega) rfl;have c3:w.cell? ⟨bI,oI+k*8+3,none⟩=some (ae aa j.mem):=fJ 3 _ (by omega) rfl;have c4:w.cell? ⟨bI,oI+k*8+4,none⟩=some (ae aa j.fuel):=fJ 4 _ (by omega) rfl;have c5:w.cell? ⟨bI,oI+k*8+5,none⟩=some (ae aa j.aM):=fJ 5 _ (by omega) rfl;have c6:w.cell? ⟨bI,oI+k*8+6,none⟩=some (ae aa j.ax):=fJ 6 _ (by omega) rfl;have c7:w.cell? ⟨bI,oI+k*8+7,none⟩=some (.slice KK.1 j.code.length KK.2):=fJ 7 _ (by omega) rfl;have x5:=h.x5;have lX:=h.lX;have lb:=h.lb;have lI:=h.lI;have r2:w.cell? ⟨b,off+p*8+2,none⟩=some (ae aa k):=h.row 2 _ (by omega) (by rw [←mM];rfl);have r7:w.cell? ⟨b,off+p*8+7,none⟩=some (.slice (some ⟨bI,oI,none⟩) 2 cI):=h.row 7 _ (by omega) (by rw [←h.eI];rfl);rw [←hj,←hKK];simp only [aq.val];generalize j.part=j0,j.version=j1,j.aV=j2,j.mem=j3,j.fuel=j4,j.aM=j5,j.ax=j6,j.code.length=j7 at *;generalize KK.1=KA,KK.2=Kc at *;have p0:(0:Int)≤(p:Int):=by omega
 have p1:(p:Int) < (n:Int):=by omega
 have q0:(0:Int)≤(k:Int):=by omega
 have q1:(k:Int) < 2:=by omega
 have yu:∀v,Below w.heap.size w (w.alloc v):=fun v=>(Below.refl _ w).alloc (Nat.le_refl _) v;obtain ⟨w1,aF⟩:=xE (w.alloc (.cells gA 26));have HB:=af (show Below w.heap.size w w1.drew by rw [aF];exact (yu _).drew);have HR:=af (show Row w1.drew w.heap.size 26 eo by rw [aF];exact (Row.new w _ _).drew);have iP:=HB.o.size;clear hj hKK fJ mM hk h yu;have MS:=af (show (Tryz.prog.info? 26).map (·.size)=some (#[Value.int .i64 j0,ae aa j1,ae aa j2,ae aa j3,ae aa j4,ae aa j5,ae aa j6,.slice KA j7 Kc]:Array Value).size from by kernel_rfl);have y0:w1.drew.cell? ⟨bI,oI+k*8,none⟩=some (ae aa j0):=(HB.o.cell lI).trans c0;have y1:w1.drew.cell? ⟨bI,oI+k*8+1,none⟩=some (ae aa j1):=(HB.o.cell lI).trans c1;have y2:w1.drew.cell? ⟨bI,oI+k*8+2,none⟩=some (ae aa j2):=(HB.o.cell lI).trans c2;have y3:w1.drew.cell? ⟨bI,oI+k*8+3,none⟩=some (ae aa j3):=(HB.o.cell lI).trans c3;have y4:w1.drew.cell? ⟨bI,oI+k*8+4,none⟩=some (ae aa j4):=(HB.o.cell lI).trans c4;have y5:w1.drew.cell? ⟨bI,oI+k*8+5,none⟩=some (ae aa j5):=(HB.o.cell lI).trans c5;have y6:w1.drew.cell? ⟨bI,oI+k*8+6,none⟩=some (ae aa j6):=(HB.o.cell lI).trans c6;have y7:w1.drew.cell? ⟨bI,oI+k*8+7,none⟩=some (.slice KA j7 Kc):=(HB.o.cell lI).trans c7;have z5:w1.drew.cell? ⟨X,5,none⟩=some (.slice (some ⟨b,off,none⟩) n c):=(HB.o.cell lX).trans x5;have s2:w1.drew.cell? ⟨b,off+p*8+2,none⟩=some (ae aa k):=(HB.o.cell lb).trans r2;have s7:w1.drew.cell? ⟨b,off+p*8+7,none⟩=some (.slice (some ⟨bI,oI,none⟩) 2 cI):=(HB.o.cell lb).trans r7;have mX:X < w1.drew.heap.size:=Nat.lt_of_lt_of_le lX iP;have mb:b < w1.drew.heap.size:=Nat.lt_of_lt_of_le lb iP;have mI:bI < w1.drew.heap.size:=Nat.lt_of_lt_of_le lI iP;clear c0 c1 c2 c3 c4 c5 c6 c7 x5 lX lb lI r2 r7 iP;have bH:=af (show St w w1.drew [row w.heap.size 26 eo] by rw [aF];exact ((St.nil w).new 26 gA).drew);have br:=af aF;clear aF;go_enter Tryz.func67,Tryz.ntmps67;go_upto_region 1 with fail;rw [←br.o];refine dN ?_;(refine bk [0,1,2,3,4,5,6,7,8,9,10,11,12,13,14,15,16,17,18] ?_;simp only [pick,xG];(iterate 19 still_step);refine wpStill_nil ?_);(try simp only [ai]);(refine aK 19 ?_;(try simp only [xG]));refine fZ.tj 26 (.tmp 4) (.tmp 23) rfl w.heap.size 0 #[ae aa j0,ae aa j1,ae aa j2,ae aa j3,ae aa j4,ae aa j5,ae aa j6,.slice KA j7 Kc] rfl rfl HR.o MS.o (by simp) (by simp [Value.oneCell']) [ae aa j0,ae aa j1,ae aa j2,ae aa j3,ae aa j4,ae aa j5,ae aa j6,.slice KA j7 Kc] rfl ?_;have kT:=bH.o.setRow [ae aa j0,ae aa j1,ae aa j2,ae aa j3,ae aa j4,ae aa j5,ae aa j6,.slice KA j7 Kc];have bM:=af kT.aE;have zp:=af kT.row.1;clear kT;(try simp only [ai]);refine cw ?_;go_wp2_with fail;refine bodyPost_ret (results_cell_row rfl _ _ w.heap.size _ _ _ _ rfl zp.o Tryz.underlying26 rfl (by kernel_rfl)) rfl ?_;exact ⟨rfl,bM.o⟩
theorem uS.over {w w':World} {X n p:Nat} {y:dv×RP} {b off c bS oS cS bI oI cI:Nat} (h:uS w X n p y b off c bS oS cS bI oI cI) (k:Below w.heap.size w w'):uS w' X n p y b off c bS oS cS bI oI cI :=
 ⟨(k.cell h.lX).trans h.x5,Nat.lt_of_lt_of_le h.lX k.size,Nat.lt_of_lt_of_le h.lb k.size,fun j u hj hu=>(k.cell h.lb).trans (h.row j u hj hu),h.eS,Nat.lt_of_lt_of_le h.lS k.size,fun j u hu=>(k.cell h.lS).trans (h.slots j u hu),h.eI,Nat.lt_of_lt_of_le h.lI k.size,fun j u hu=>(k.cell h.lI).trans (h.iO j u hu)⟩
section
variable {w0 w : World} {ad : fy} {t : aY} {d : Nat} {m : DS} {xs : List PP} {D : List DP} {l : List aI}
end
def RP.sp (x:RP):RS:=if 1-x.aw.aj=0 then x.s0 else x.s1
def Pc (t:aY) (D:List DP) (p:Nat) (x:RP):Prop:=(jA t D p).2=0∧(jA t D p).1=x.ee x.aw.au∧lW D p=x.aw∧(nE D p).2=x.sp.has∧((nE D p).2=true→(nE D p).1=x.sp.st)
section
variable {q:Int} {p:Nat} {t:aY}
instance:Inhabited RP:=⟨⟨Rec.zero,RS.none,RS.none,aq.none,aq.none⟩⟩
def RP.slot (x:RP) (k:Int):RS:=if k=0 then x.s0 else x.s1
def RP.bj (x:RP) (k:Int) (s:RS):RP:=if k=0 then { x with s0:=s } else { x with s1:=s }
def RP.nn (x:RP) (k:Int) (i:aq):RP:=if k=0 then { x with i0:=i } else { x with i1:=i }
def RP.pG (x:RP):Int:=1-x.aw.aj
def RP.dp (x:RP):DP:=⟨x.aw,x.s0,x.s1⟩
def bw (L:List RP):List DP:=L.map RP.dp
def jX (L:List RP) (q:Int):RP:=L.getD q.toNat default
def mY (L:List RP) (q se sz:Int):Int×List RP :=
 if bU (bw L) q≠0 then (bU (bw L) q,L)
 else ((fk ((jX L q).slot (jX L q).pG) se sz).1,L.set q.toNat ((jX L q).bj (jX L q).pG (fk ((jX L q).slot (jX L q).pG) se sz).2))
def qe (L:List RP) (q se no:Int) (data:List Int):Int×List RP :=
 if bU (bw L) q≠0 then (bU (bw L) q,L)
 else ((ja ((jX L q).slot (jX L q).pG) se no data).1,L.set q.toNat ((jX L q).bj (jX L q).pG (ja ((jX L q).slot (jX L q).pG) se no data).2))
def qf (L:List RP) (q se:Int):Int×List RP :=
 if cM (bw L) q se≠0 then (cM (bw L) q se,L) else (0,L.set q.toNat ((jX L q).bj (jX L q).pG RS.none))
def eH (x:RP) (r:Rec):Int×RP :=
 if 4294967295≤x.aw.seq then (4,x) else if (bq x.aw.part x.aw r).right then (0,{ x with aw:=bq x.aw.part x.aw r }) else (3,x)
def jC (L:List RP) (q:Int):Int×List RP :=
 if q < 0∨(L.length:Int)≤q then (3,L) else if (jX L q).dp.ay=false then (16,L)
 else ((eH (jX L q) (Rec.oZ (jX L q).aw)).1,L.set q.toNat (eH (jX L q) (Rec.oZ (jX L q).aw)).2)
def qg (L:List RP) (q:Int):Int×List RP :=
 if q < 0∨(L.length:Int)≤q then (3,L) else if (jX L q).dp.ay=false then (0,L)
 else ((eH (jX L q) (aN (jX L q).aw)).1,L.set q.toNat (eH (jX L q) (aN (jX L q).aw)).2)
def mA (L:List RP) (q:Int):List Int×Int:=dm ((jX L q).slot (jX L q).pG)
def rB (t:aY) (x:RP) (i:aq):Int×RP:=((eH x (fL t x.aw)).1,if (eH x (fL t x.aw)).1=0 then (eH x (fL t x.aw)).2.nn x.pG i else (eH x (fL t x.aw)).2)
def n8 (t:aY) (L:List RP) (q se:Int):Int×List RP :=
 if cM (bw L) q se≠0 then (cM (bw L) q se,L)
 else if (mA L q).2≠0 then ((mA L q).2,L)
 else if (b8 (mA L q).1).2≠0 then ((b8 (mA L q).1).2,L)
 else if bX t q (b8 (mA L q).1).1 ((jX L q).ee (jX L q).aw.au).version≠0 then (bX t q (b8 (mA L q).1).1 ((jX L q).ee (jX L q).aw.au).version,L)
 else ((rB t (jX L q) (b8 (mA L q).1).1).1,L.set q.toNat (rB t (jX L q) (b8 (mA L q).1).1).2)
structure XP (t:aY) (p:Nat) (x:RP):Prop where
 part:x.aw.part=p
 right:x.aw.right=true
 act:fv t p (x.slot x.aw.au)=(x.ee x.aw.au,0)
 Tt:fv t p (x.slot x.aw.aj)=(x.ee x.aw.aj,0)
def jI (t:aY) (L:List RP):Prop:=∀p,p < L.length→XP t p (L.getD p default)
theorem rR (L:List RP):(bw L).length=L.length:=by simp [bw]
theorem kY (L:List RP) (p:Nat):(bw L).getD p default=(L.getD p default).dp:=by
 simp only [bw,dD,List.getElem?_map];cases L[p]?<;>rfl
theorem vL (L:List RP) (p:Nat) (x:RP):bw (L.set p x)=(bw L).set p x.dp:=by simp [bw,List.map_set]
theorem Am (x:RP) (k:Int) (s:RS):(x.bj k s).dp=x.dp.bj k s:=by unfold RP.bj DP.bj;split<;>rfl
theorem Tn (x:RP) (k:Int) (i:aq):(x.nn k i).dp=x.dp:=by unfold RP.nn;split<;>rfl
theorem Dl {L:List RP} (h:p < L.length):L.set p (L.getD p default)=L:=by
 refine List.ext_getElem (by simp) fun i h1 h2=>?_;rw [List.getElem_set];split
 ·subst_vars;exact qM h _
 ·rfl
theorem XP.c01 {x:RP} (h:XP t p x):(x.aw.aj=0∨x.aw.aj=1)∧(x.aw.au=0∨x.aw.au=1):=by
 have:=eu.iZ h.right;omega
theorem O0 {x:RP} {c:Int} (hc:c=0∨c=1) (s:RS):(x.bj (1-c) s).slot c=x.slot c∧(x.bj (1-c) s).ee c=x.ee c∧(x.bj (1-c) s).aw=x.aw:=by
 rcases hc with rfl|rfl
 ·exact ⟨rfl,rfl,rfl⟩
 ·exact ⟨rfl,rfl,rfl⟩
theorem XP.spare {x:RP} (h:XP t p x) (hn:x.dp.ay=false) (s:RS):XP t p (x.bj x.pG s):=by
 have wQ:x.aw.au=x.aw.aj:=by simpa [DP.ay,RP.dp] using hn
 obtain ⟨h1,h2,h3⟩:=O0 (x:=x) h.c01.1 s;unfold RP.pG;refine ⟨by rw [h3];exact h.part,by rw [h3];exact h.right,?_,?_⟩
 ·rw [h3,wQ,h1,h2];exact h.Tt
 ·rw [h3,h1,h2];exact h.Tt
theorem J8 {x:RP} (h:XP t p x) {r:Rec} (ha:r.au=x.aw.au∨r.au=x.aw.aj) (hc:r.aj=x.aw.au∨r.aj=x.aw.aj):XP t p (eH x r).2:=by
 unfold eH;split
 ·exact h
 ·split
  ·rename_i hr
   refine ⟨h.part,hr,?_,?_⟩
   ·show fv t p (x.slot r.au)=(x.ee r.au,0)
    rcases ha with e|e<;>rw [e]
    ·exact h.act
    ·exact h.Tt
   ·show fv t p (x.slot r.aj)=(x.ee r.aj,0)
    rcases hc with e|e<;>rw [e]
    ·exact h.act
    ·exact h.Tt
  ·exact h
theorem jI.set {t:aY} {L:List RP} (h:jI t L) {p:Nat} (hp:p < L.length) {x:RP} (hx:XP t p x):jI t (L.set p x):=by
 intro i hi;rw [List.length_set] at hi;by_cases hpi:p=i
 ·subst hpi;rw [en hp];exact hx
 ·rw [gK hpi];exact h i hi
theorem mg {L:List RP} (h:bU (bw L) q=0):∃p:Nat,q=p∧p < L.length∧(L.getD p default).dp.ay=false:=by
 obtain ⟨p,rfl,hp⟩:=iA h;rw [rR] at hp;refine ⟨p,rfl,hp,?_⟩;unfold bU at h;rw [if_neg (by rw [rR];omega),dC,kY] at h;cases e:(L.getD p default).dp.ay
 ·rfl
 ·rw [e] at h;simp at h
theorem vx {D:List DP} {se:Int} (h:cM D q se=0):bU D q=0:=by
 by_cases h1:bU D q=0
 ·exact h1
 ·unfold cM at h;rw [if_pos h1] at h;exact h
theorem jD (L:List RP) (p:Nat):jX L (p:Int)=L.getD p default:=by unfold jX;rw [dC]
section
variable {t : aY} {L : List RP} (h : jI t L)
include h
theorem Bg (q se sz:Int):(mY L q se sz).1=(ky (bw L) q se sz).1∧bw (mY L q se sz).2=(ky (bw L) q se sz).2∧jI t (mY L q se sz).2:=by
 unfold mY ky;by_cases h0:bU (bw L) q≠0
 ·rw [if_pos h0,if_pos h0];exact ⟨rfl,rfl,h⟩
 ·rw [if_neg h0,if_neg h0];obtain ⟨p,rfl,hp,ht⟩:=mg (by simpa using h0);rw [dC,jD,kY];refine ⟨rfl,?_,h.set hp ((h p hp).spare ht _)⟩;rw [vL,Am];rfl
theorem D7 (q se no:Int) (data:List Int):(qe L q se no data).1=(mW (bw L) q se no data).1∧bw (qe L q se no data).2=(mW (bw L) q se no data).2∧jI t (qe L q se no data).2:=by
 unfold qe mW;by_cases h0:bU (bw L) q≠0
 ·rw [if_pos h0,if_pos h0];exact ⟨rfl,rfl,h⟩
 ·rw [if_neg h0,if_neg h0];obtain ⟨p,rfl,hp,ht⟩:=mg (by simpa using h0);rw [dC,jD,kY];refine ⟨rfl,?_,h.set hp ((h p hp).spare ht _)⟩;rw [vL,Am];rfl
theorem D8 (q se:Int):(qf L q se).1=(tQ (bw L) q se).1∧bw (qf L q se).2=(tQ (bw L) q se).2∧jI t (qf L q se).2:=by
 unfold qf tQ;by_cases h0:cM (bw L) q se≠0
 ·rw [if_pos h0,if_pos h0];exact ⟨rfl,rfl,h⟩
 ·rw [if_neg h0,if_neg h0];obtain ⟨p,rfl,hp,ht⟩:=mg (vx (by simpa using h0));rw [dC,jD,kY];refine ⟨rfl,?_,h.set hp ((h p hp).spare ht _)⟩;rw [vL,Am];rfl
theorem D6 (hp:p < L.length) (r:Rec):(eH (L.getD p default) r).1=(eF (bw L) p r).1∧bw (L.set p (eH (L.getD p default) r).2)=(eF (bw L) p r).2:=by
 unfold eH eF;rw [kY,(h p hp).part];show _=(if 4294967295≤(L.getD p default).aw.seq then _ else if (bq p (L.getD p default).aw r).right then _ else _:Int×List DP).1∧_
 by_cases h1:4294967295≤(L.getD p default).aw.seq
 ·rw [if_pos h1,if_pos h1,Dl hp,if_pos (show 4294967295≤(L.getD p default).dp.r.seq from h1)];exact ⟨rfl,rfl⟩
 ·rw [if_neg h1,if_neg h1,if_neg (show ¬4294967295≤(L.getD p default).dp.r.seq from h1)];by_cases h2:(bq p (L.getD p default).aw r).right=true
  ·rw [if_pos h2,if_pos h2,if_pos (show (bq p (L.getD p default).dp.r r).right=true from h2),vL];exact ⟨rfl,rfl⟩
  ·rw [if_neg h2,if_neg h2,Dl hp,if_neg (show ¬(bq p (L.getD p default).dp.r r).right=true from h2)];exact ⟨rfl,rfl⟩
theorem yp (q:Int):(jC L q).1=(mG (bw L) q).1∧bw (jC L q).2=(mG (bw L) q).2∧jI t (jC L q).2:=by
 unfold jC mG;rw [rR];by_cases hq:q < 0∨(L.length:Int)≤q
 ·rw [if_pos hq,if_pos hq];exact ⟨rfl,rfl,h⟩
 ·rw [if_neg hq,if_neg hq];obtain ⟨p,rfl⟩:=Int.eq_ofNat_of_zero_le (by omega:0≤q);have hp:p < L.length:=by omega
  simp only [Int.ofNat_eq_natCast,dC,jD,kY] at *;by_cases h2:(L.getD p default).dp.ay=false
  ·rw [if_pos h2,if_pos h2];exact ⟨rfl,rfl,h⟩
  ·rw [if_neg h2,if_neg h2];obtain ⟨e1,e2⟩:=D6 h hp (Rec.oZ (L.getD p default).aw);exact ⟨e1,e2,h.set hp (J8 (h p hp) (.inl rfl) (.inl rfl))⟩
theorem Ey (hp:p < L.length):rm t (bw L) p=((L.getD p default).ee (L.getD p default).aw.au,0):=by
 unfold rm;rw [kY];exact (h p hp).act
theorem D9 (q:Int):(qg L q).1=(iu t (bw L) q).1.2∧bw (qg L q).2=(iu t (bw L) q).2∧jI t (qg L q).2:=by
 unfold qg iu;rw [rR];by_cases hq:q < 0∨(L.length:Int)≤q
 ·rw [if_pos hq,if_pos hq];exact ⟨rfl,rfl,h⟩
 ·rw [if_neg hq,if_neg hq];obtain ⟨p,rfl⟩:=Int.eq_ofNat_of_zero_le (by omega:0≤q);have hp:p < L.length:=by omega
  simp only [Int.ofNat_eq_natCast,dC,jD,kY] at *;by_cases h2:(L.getD p default).dp.ay=false
  ·rw [if_pos h2,if_pos h2,Ey h hp];exact ⟨rfl,rfl,h⟩
  ·rw [if_neg h2,if_neg h2];obtain ⟨e1,e2⟩:=D6 h hp (aN (L.getD p default).aw);have hx:XP t p (eH (L.getD p default) (aN (L.getD p default).aw)).2:=J8 (h p hp) (by unfold aN;split<;>simp) (by unfold aN;split<;>simp);show _=(if (eF (bw L) p (aN (L.getD p default).aw)).1≠0 then _ else _:(aq×Int)×List DP).1.2∧bw _=(if (eF (bw L) p (aN (L.getD p default).aw)).1≠0 then _ else _:(aq×Int)×List DP).2∧_
   by_cases h3:(eF (bw L) p (aN (L.getD p default).aw)).1≠0
   ·rw [if_pos h3];exact ⟨e1,e2,h.set hp hx⟩
   ·rw [if_neg h3];refine ⟨?_,e2,h.set hp hx⟩;show (eH (L.getD p default) (aN (L.getD p default).aw)).1=(fv t p (((eF (bw L) p (aN (L.getD p default).aw)).2.getD p default).slot (aN (L.getD p default).aw).au)).2
    rw [←e2,kY,en hp,e1];have jL:(eH (L.getD p default) (aN (L.getD p default).aw)).1=0:=by rw [e1];simpa using h3
    have qy:(eH (L.getD p default) (aN (L.getD p default).aw)).2.aw.au=(aN (L.getD p default).aw).au:=by
     unfold eH at jL ⊢;split at jL
     ·simp at jL
     ·split at jL
      ·rename_i g1 g2;rw [if_neg g1,if_pos g2];rfl
      ·simp at jL
    have ha:=hx.act;rw [qy] at ha;rw [←e1,jL];exact (congrArg Prod.snd ha).symm
theorem D5 (q se:Int):(n8 t L q se).1=(mV t (bw L) q se).1∧bw (n8 t L q se).2=(mV t (bw L) q se).2∧jI t (n8 t L q se).2:=by
 unfold n8 mV;by_cases h0:cM (bw L) q se≠0
 ·rw [if_pos h0,if_pos h0];exact ⟨rfl,rfl,h⟩
 ·rw [if_neg h0,if_neg h0];obtain ⟨p,rfl,hp,ht⟩:=mg (vx (by simpa using h0));have e0:qN (bw L) p=mA L p:=by unfold qN mA;rw [kY,jD];rfl
  rw [dC,e0,Ey h hp];simp only [jD];by_cases h1:(mA L p).2≠0
  ·rw [if_pos h1,if_pos h1];exact ⟨rfl,rfl,h⟩
  rw [if_neg h1,if_neg h1];by_cases h2:(b8 (mA L p).1).2≠0
  ·rw [if_pos h2,if_pos h2];exact ⟨rfl,rfl,h⟩
  rw [if_neg h2,if_neg h2,if_neg (show ¬((0:Int)≠0) by simp)];by_cases h4:bX t p (b8 (mA L p).1).1 ((L.getD p default).ee (L.getD p default).aw.au).version≠0
  ·rw [if_pos h4,if_pos h4];exact ⟨rfl,rfl,h⟩
  rw [if_neg h4,if_neg h4,kY];obtain ⟨e1,e2⟩:=D6 h hp (fL t (L.getD p default).aw);have yR:=h p hp;generalize hL:L.getD p default=x at *;have hg:b8 (mA L p).1=((b8 (mA L p).1).1,0):=Prod.ext rfl (by simpa using h2)
  have hB:dm (x.slot x.pG)=((mA L p).1,0):=by
   have:mA L p=dm (x.slot x.pG):=by unfold mA;rw [jD,hL]
   rw [←this];exact Prod.ext rfl (by simpa using h1)
  generalize (mA L p).1=b at *;obtain ⟨i,hi⟩:∃i,i=(b8 b).1:=⟨_,rfl⟩
  rw [←hi] at h4 hg ⊢
  have uQ:bX t p i 0=0:=by
   obtain ⟨c1,c2,c3,c4⟩:=F8.1 (by simpa using h4);refine F8.2 ⟨c1,c2,c3,fun j hj=>?_⟩;rcases (by omega:j=0∨j=1∨j=2∨j=3) with rfl|rfl|rfl|rfl
   ·exact c4 0 (by omega)
   ·exact c4 1 (by omega)
   ·exact c4 2 (by omega)
   ·obtain ⟨_,⟨a0,_⟩,_⟩:=c3;simp only [fV,decide_eq_true_eq];omega
  have hh:fv t p (x.slot x.pG)=(i,0):=by
   unfold fv;rw [hB];simp only [hg];rw [if_neg (by simp),if_neg (by simp),if_neg (by simpa using uQ)]
  refine ⟨e1,?_,?_⟩
  ·rw [vL];refine Eq.trans ?_ e2;rw [vL];unfold rB
   congr 1
   dsimp only;split
   ·exact Tn _ _ _
   ·rfl
  ·refine h.set hp ?_;show XP t p (rB t x i).2
   unfold rB;dsimp only;have wQ:x.aw.au=x.aw.aj:=by simpa [DP.ay,RP.dp] using ht
   by_cases hz:(eH x (fL t x.aw)).1=0
   ·rw [if_pos hz];unfold eH at hz ⊢;split at hz
    ·simp at hz
    ·split at hz
     ·rename_i g1 g2
      rw [if_neg g1,if_pos g2];have c01:=yR.c01.1;have PR:=yR.Tt;have NU:=yR.part;obtain ⟨r,s0,s1,j0,j1⟩:=x;simp only [RP.pG] at *;have hk:(1-r.aj=0∧r.aj=1)∨(1-r.aj=1∧r.aj=0):=by omega
      unfold RP.nn;rcases hk with ⟨k1,k2⟩|⟨k1,k2⟩
      ·simp only [k1] at hh ⊢;refine ⟨NU,g2,?_,?_⟩
       ·show fv t p (RP.slot _ (1-r.aj))=(RP.ee _ (1-r.aj),0)
        rw [k1];exact hh
       ·show fv t p (RP.slot _ r.aj)=(RP.ee _ r.aj,0)
        simp only [k2] at PR ⊢;exact PR
      ·simp only [k1] at hh ⊢;refine ⟨NU,g2,?_,?_⟩
       ·show fv t p (RP.slot _ (1-r.aj))=(RP.ee _ (1-r.aj),0)
        rw [k1];exact hh
       ·show fv t p (RP.slot _ r.aj)=(RP.ee _ r.aj,0)
        simp only [k2] at PR ⊢;exact PR
     ·simp at hz
   ·rw [if_neg hz];unfold eH at hz ⊢;split
    ·exact yR
    ·split
     ·rename_i g1 g2;rw [if_neg g1,if_pos g2] at hz;exact absurd rfl hz
     ·exact yR
theorem jI.same (hp:p < L.length):Pc t (bw L) p (L.getD p default):=by
 have hx:=h p hp;have eE:¬((p:Int) < 0∨((bw L).length:Int)≤p):=by rw [rR];omega
 have hI:jA t (bw L) (p:Int)=((L.getD p default).ee (L.getD p default).aw.au,0):=by
  unfold jA;rw [if_neg eE,dC];exact Ey h hp
 have hS:nE (bw L) (p:Int)=(E3 (L.getD p default).sp,(L.getD p default).sp.has):=by
  unfold nE;rw [if_neg eE,dC,kY];rfl
 refine ⟨by rw [hI],by rw [hI],?_,by rw [hS],fun hh=>?_⟩
 ·unfold lW;rw [if_neg eE,dC,kY];rfl
 ·rw [hS] at hh ⊢;simp only at hh;unfold E3;rw [if_pos hh]
end
end
end store
end Go.Proofs.YtdldkkoplgkloaaGreat
