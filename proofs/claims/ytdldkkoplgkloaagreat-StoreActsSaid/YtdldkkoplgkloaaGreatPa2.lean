/- PROVED HERE: lemmas of the law. CONDITIONS: each names its own. -/
import Derived.BigQuiet
import Derived.Deep.CutBlock
import Derived.Deep.DeepCutAuto
import Derived.Deep.RegionWith
import Derived.IntWalk
import Derived.OwnWalk
import Derived.Test.YtdldkkoplgkloaaGreatPa0
import Derived.Test.YtdldkkoplgkloaaGreatPa1
namespace Go.Proofs.YtdldkkoplgkloaaGreat
set_option linter.unusedVariables false
set_option linter.unusedSimpArgs false
set_option maxRecDepth 100000
set_option maxHeartbeats 32000000
open Go.Value renaming int → ae
open Go.IntKind renaming i64 → aa
namespace bN
open Go.RowKit base obj mem sep aW
section
variable {e:Int} {k n:Nat} {w:World}
structure T3 where
 a:Int
 b:Int
 c:Int
deriving DecidableEq
instance:Inhabited T3:=⟨⟨0,0,0⟩⟩
def T3.cells (x:T3):List Value:=[ae aa x.a,ae aa x.b,ae aa x.c]
abbrev T3.agg (x:T3):Value:=.agg #[ae aa x.a,ae aa x.b,ae aa x.c]
def gD (l:List T3):List Value:=(l.map T3.cells).flatten
theorem zE (l:List T3) (x:T3):gD (l++[x])=gD l++x.cells:=by simp [gD]
theorem jE {B:Nat} {A:Option Addr} {l:List T3} (h:Sl w B 3 A n (gD l)) (hn:n=l.length) {k:Nat} (hk:k < l.length) :
  ∃b off,A=some ⟨b,off,none⟩∧b < B∧w.cell? ⟨b,off+k*3,none⟩=some (ae aa l[k].a)∧w.cell? ⟨b,off+k*3+1,none⟩=some (ae aa l[k].b)∧w.cell? ⟨b,off+k*3+2,none⟩=some (ae aa l[k].c):=by
 obtain ⟨b,off,rfl,cm,hc⟩:=h.2 (by omega)
 have h9:∀x∈l.map T3.cells,x.length=3:=by
  intro x hx;obtain ⟨a,_,rfl⟩:=List.mem_map.1 hx;rfl
 have e:=rQ h9 (i:=k) (by simpa using hk)
 have g:∀j,j < 3→(gD l)[k*3+j]?=(T3.cells l[k])[j]?:=by
  intro j hj
  have e2:(((l.map T3.cells).flatten.drop (k*3)).take 3)[j]?=(l.map T3.cells).flatten[k*3+j]?:=by
   rw [List.getElem?_take,if_pos hj,List.getElem?_drop]
  rw [e] at e2;rw [gD,←e2];simp
 refine ⟨b,off,rfl,cm,?_,?_,?_⟩
 ·exact hc (k*3) _ ((g 0 (by omega)).trans rfl)
 ·rw [Nat.add_assoc];exact hc (k*3+1) _ ((g 1 (by omega)).trans rfl)
 ·rw [Nat.add_assoc];exact hc (k*3+2) _ ((g 2 (by omega)).trans rfl)
structure aY where
 frame:Int
 parts:List T3
 aJ:List T3
 av:List T3
 ay:Int
structure pX (w:World) (B:Nat) (t:aY) (AP:Option Addr) (nP cP:Nat) (AW:Option Addr) (nW cW:Nat) (AC:Option Addr) (nC cC:Nat):Prop where
 ps:Sl w B 3 AP nP (gD t.parts)
 ws:Sl w B 3 AW nW (gD t.aJ)
 cs:Sl w B 3 AC nC (gD t.av)
 lp:nP=t.parts.length
 lw:nW=t.aJ.length
 lc:nC=t.av.length
 mp:nP≤maxLen
 mw:nW≤maxLen
 mc:nC≤maxLen
abbrev tW (f:Int) (AP:Option Addr) (nP cP:Nat) (AW:Option Addr) (nW cW:Nat) (AC:Option Addr) (nC cC:Nat) (tr:Int):Value :=
 .agg #[ae aa f,.slice AP nP cP,.slice AW nW cW,.slice AC nC cC,ae aa tr]
theorem pX.below {w w':World} {B:Nat} {t:aY} {AP AW AC:Option Addr} {nP cP nW cW nC cC:Nat} (h:pX w B t AP nP cP AW nW cW AC nC cC) (k:Below B w w'):pX w' B t AP nP cP AW nW cW AC nC cC :=
 ⟨h.ps.below k,h.ws.below k,h.cs.below k,h.lp,h.lw,h.lc,h.mp,h.mw,h.mc⟩
theorem pX.more {w:World} {B B':Nat} {t:aY} {AP AW AC:Option Addr} {nP cP nW cW nC cC:Nat} (h:pX w B t AP nP cP AW nW cW AC nC cC) (k:B≤B'):pX w B' t AP nP cP AW nW cW AC nC cC :=
 ⟨h.ps.more k,h.ws.more k,h.cs.more k,h.lp,h.lw,h.lc,h.mp,h.mw,h.mc⟩
theorem pX.over {w':World} {t:aY} {AP AW AC:Option Addr} {nP cP nW cW nC cC:Nat} (h:pX w w.heap.size t AP nP cP AW nW cW AC nC cC) (k:Below w.heap.size w w'):pX w' w'.heap.size t AP nP cP AW nW cW AC nC cC :=
 (h.below k).more k.size
def cQ (n a b:Int):Bool:=decide (a≤n∧n≤b)
theorem vp (w:World) (n a b:Int):Calls Tryz.prog 147 #[ae aa n,ae aa a,ae aa b] w fun e w'=>e=.returned (.bool (cQ n a b))∧w'=w:=by
 have HK:=af (show cQ n a b=decide (a≤n∧n≤b) from rfl);go_enter Tryz.func147,Tryz.ntmps147;by_cases h1:n≥a
 ·by_cases h2:n≤b
  ·go_wp2_with fail;go_ret;exact ⟨aA (by rw [HK.o,decide_eq_true ⟨h1,h2⟩]),rfl⟩
  ·go_wp2_with fail;go_ret;exact ⟨aA (by rw [HK.o,decide_eq_false (by omega)]),rfl⟩
 ·go_wp2_with fail;go_ret;exact ⟨aA (by rw [HK.o,decide_eq_false (by omega)]),rfl⟩
def T3.part (x:T3):Bool:=cQ x.a 1 16&&(cQ x.b 1 32&&cQ x.c 0 65535)
theorem aa5 (w:World) (x:T3):Calls Tryz.prog 149 #[x.agg] w fun e w'=>e=.returned (.bool (!x.part))∧Below w.heap.size w w':=by
 obtain ⟨a,b,c⟩:=x;have HK:=af (show T3.part ⟨a,b,c⟩=(cQ a 1 16&&(cQ b 1 32&&cQ c 0 65535)) from rfl);have HB:=af ((Below.refl w.heap.size w).alloc (Nat.le_refl _) (.cells #[ae aa a,ae aa b,ae aa c] 147));cases h1:cQ a 1 16
 ·have HR:=af (show (!T3.part ⟨a,b,c⟩)=true by rw [HK.o,h1];rfl);go_enter Tryz.func149,Tryz.ntmps149;go_wp2_with (go_at_call 147;refine (vp _ _ _ _).mono ?_;rintro e w' ⟨rfl,rfl⟩);go_ret;exact ⟨aA HR.o.symm,HB.o⟩
 ·cases h2:cQ b 1 32
  ·have HR:=af (show (!T3.part ⟨a,b,c⟩)=true by rw [HK.o,h1,h2];rfl);go_enter Tryz.func149,Tryz.ntmps149;go_wp2_with (go_at_call 147;refine (vp _ _ _ _).mono ?_;rintro e w' ⟨rfl,rfl⟩);go_ret;exact ⟨aA HR.o.symm,HB.o⟩
  ·have HR:=af (show (!T3.part ⟨a,b,c⟩)=!cQ c 0 65535 by rw [HK.o,h1,h2];rfl);go_enter Tryz.func149,Tryz.ntmps149;go_wp2_with (go_at_call 147;refine (vp _ _ _ _).mono ?_;rintro e w' ⟨rfl,rfl⟩);go_ret;exact ⟨aA HR.o.symm,HB.o⟩
section
variable {w : World} {t : aY} {AP AW AC : Option Addr} {nP cP nW cW nC cC : Nat}
theorem B0 (h:pX w w.heap.size t AP nP cP AW nW cW AC nC cC) (p:Int):Calls Tryz.prog 153 #[tW t.frame AP nP cP AW nW cW AC nC cC t.ay,ae aa p] w fun e w'=>e=.returned (.bool (cQ p 0 (t.parts.length-1)))∧Below w.heap.size w w':=by
 have hm:=h.mp;have HL:=af h.lp
 have hw:wrap64 ((nP:Int)-1)=(nP:Int)-1:=by
  unfold maxLen at hm;exact IntWalk.wrap64_in _ (by omega)
 clear h;have HB:=af ((Below.refl w.heap.size w).alloc (Nat.le_refl _) (.cells #[ae aa t.frame,.slice AP nP cP,.slice AW nW cW,.slice AC nC cC,ae aa t.ay] 46));go_enter Tryz.func153,Tryz.ntmps153;go_wp2_with fail;refine (vp _ _ _ _).mono ?_;rintro e w' ⟨rfl,rfl⟩;rw [hw];go_wp2_with fail;go_ret;exact ⟨aA (by rw [HL.o]),HB.o⟩
abbrev di (f:Int) (AP:Option Addr) (nP cP:Nat) (AW:Option Addr) (nW cW:Nat) (AC:Option Addr) (nC cC:Nat) (tr:Int):List Value :=
 [ae aa f,.slice AP nP cP,.slice AW nW cW,.slice AC nC cC,ae aa tr]
def ma (n:Nat) (fr e:Int) (x:T3):Bool:=cQ x.a 0 ((n:Int)-1)&&(decide (e≤x.b)&&(decide (x.b≤fr)&&(decide (1≤x.c)&&decide (x.c≤fr-x.b))))
def sf (n:Nat) (fr:Int):Int→List T3→Bool
 | _,[]=>true
 | e,x::l=>ma n fr e x&&sf n fr (x.b+x.c) l
def aY.mS (t:aY):Bool:=sf t.parts.length t.frame 0 t.aJ&&((t.aJ.any fun x=>x.a==0)&&decide (t.aJ.length≤8))
structure WI (t:aY) (k:Nat) (e:Int) (je:Bool):Prop where
 ok:sf t.parts.length t.frame 0 t.aJ=sf t.parts.length t.frame e (t.aJ.drop k)
 je:je=(t.aJ.take k).any fun x=>x.a==0
 e0:0≤e
 e1:e≤64
theorem WI.start (t:aY):WI t 0 0 false:=⟨by simp,by simp,by omega,by omega⟩
theorem WI.bad {t:aY} {je:Bool} (h:WI t k e je) (hk:k < t.aJ.length) (hb:ma t.parts.length t.frame e t.aJ[k]=false):t.mS=false:=by
 unfold aY.mS;rw [h.ok,List.drop_eq_getElem_cons hk];simp [sf,hb]
theorem zx {fr:Int} {x:T3} (h:ma n fr e x=true):cQ x.a 0 ((n:Int)-1)=true∧e≤x.b∧x.b≤fr∧1≤x.c∧x.c≤fr-x.b:=by
 simpa [ma] using h
theorem WI.go {t:aY} {je:Bool} (h:WI t k e je) (hk:k < t.aJ.length) (hb:ma t.parts.length t.frame e t.aJ[k]=true) (hf:t.frame≤64):WI t (k+1) (t.aJ[k].b+t.aJ[k].c) (je||(t.aJ[k].a==0)):=by
 obtain ⟨_,h2,h3,h4,h5⟩:=zx hb;have:=h.e0;refine ⟨?_,?_,by omega,by omega⟩
 ·rw [h.ok,List.drop_eq_getElem_cons hk];simp [sf,hb]
 ·rw [kr hk,List.any_append,←h.je];simp
theorem WI.end_ {t:aY} {je:Bool} (h:WI t t.aJ.length e je):t.mS=(je&&decide (t.aJ.length≤8)):=by
 have hc:=h.je;rw [List.take_length] at hc;unfold aY.mS;rw [h.ok,hc];simp [sf]
theorem OQ (h:pX w w.heap.size t AP nP cP AW nW cW AC nC cC) (hf:cQ t.frame 1 64=true):Calls Tryz.prog 150 #[tW t.frame AP nP cP AW nW cW AC nC cC t.ay] w fun e w'=>e=.returned (.bool t.mS)∧Below w.heap.size w w':=by
 have HV:=af h;have hm:=h.mw;obtain ⟨f1,f2⟩:1≤t.frame∧t.frame≤64:=by simpa [cQ] using hf
 obtain ⟨fr,ku⟩:=xE t.frame;obtain ⟨tr,jJ⟩:=xE t.ay;have qH:=af (fun (w':World) (hb:Below w.heap.size w w') (p:Int)=>by have h1:=B0 (h.over hb) p;rw [←ku,←jJ] at h1;exact h1);rw [←ku,←jJ];rw [←ku] at f1 f2;have HF:=af ku;clear h hf ku jJ;go_enter Tryz.func150,Tryz.ntmps150;go_upto_region 2 with fail;obtain ⟨T,hT⟩:=xE w.heap.size;obtain ⟨w1,aF⟩:=xE (w.alloc (.cells #[ae aa fr,.slice AP nP cP,.slice AW nW cW,.slice AC nC cC,ae aa tr] 46));have H1:=af (show St w w1 [row T 46 (di fr AP nP cP AW nW cW AC nC cC tr)] by rw [aF,hT];exact (St.nil w).new _ _);have br:=af aF;have HT:=af hT;clear aF hT;rw [←br.o,←HT.o];have k2:=H1.o.row.1.c2;have lT:=H1.o.row.1.lt;go_wp2_with fail;clear k2 lT;go_loopw [3,4,10] (fun s3 s4 i wr=>∃(k:Nat) (e:Int) (je:Bool),k≤nW∧i=ae aa k∧s3=ae aa e∧s4=.bool je∧WI t k e je∧St w wr [row T 46 (di fr AP nP cP AW nW cW AC nC cC tr)]) (fun _ _ i _=>nW-(intOf i).toNat)
 case atStart=>exact ⟨0,0,false,by omega,rfl,rfl,rfl,WI.start t,H1.o⟩
 case round =>
  obtain ⟨k,e,je,hk,rfl,rfl,rfl,yS,ak⟩:=hrel;have zo:=af yS;have bH:=af ak;have Oc:=yS.e0;have SP:=yS.e1;clear yS ak H1;have t0:=bH.o.row.1.c0;have t1:=bH.o.row.1.c1;have t2:=bH.o.row.1.c2;have t3:=bH.o.row.1.c3;have t4:=bH.o.row.1.c4;have lT:=bH.o.row.1.lt;by_cases aH:k < nW
  ·have df:(k:Int) < (nW:Int):=by omega
   have mM:(0:Int)≤(k:Int):=by omega
   have iG:k < t.aJ.length:=by rw [←HV.o.lw];exact aH
   obtain ⟨b,off,rfl,lb,c0,c1,c2⟩:=jE (HV.o.over bH.o.aE).ws HV.o.lw iG;have cK:=af (zo.o.bad iG);have jh:=af (fun hb=>zo.o.go iG hb (by rw [←HF.o];exact f2));have fb:=af (show ma t.parts.length t.frame e t.aJ[k]=_ from rfl);generalize t.aJ[k]=x at c0 c1 c2 cK jh fb;obtain ⟨xa,xb,xc⟩:=x;dsimp only at c0 c1 c2;go_upto_region 5 with fail;obtain ⟨Z,hZ⟩:=xE wr.heap.size;obtain ⟨w2,eh⟩:=xE (wr.alloc (.cells #[ae aa xa,ae aa xb,ae aa xc] 150));have H2:=af (show St w w2 [row Z 150 [ae aa xa,ae aa xb,ae aa xc],row T 46 (di fr AP nP cP (some ⟨b,off,none⟩) nW cW AC nC cC tr)] by rw [eh,hZ];exact bH.o.new _ _);have jf:=af eh;have HZ:=af hZ;clear eh hZ c0 c1 c2 lb t0 t1 t2 t3 t4 lT;rw [←jf.o,←HZ.o]
   go_cut [46] (fun s wc=>s=.bool (!ma t.parts.length t.frame e ⟨xa,xb,xc⟩)∧St w wc [row Z 150 [ae aa xa,ae aa xb,ae aa xc],row T 46 (di fr AP nP cP (some ⟨b,off,none⟩) nW cW AC nC cC tr)])
   case first =>
    have t0:=(H2.o.pick 1 rfl).row.1.c0;have t1:=(H2.o.pick 1 rfl).row.1.c1;have t2:=(H2.o.pick 1 rfl).row.1.c2;have t3:=(H2.o.pick 1 rfl).row.1.c3;have t4:=(H2.o.pick 1 rfl).row.1.c4;have lT:T < w2.heap.size:=(H2.o.pick 1 rfl).row.1.lt;have z0:=H2.o.row.1.c0;have lz:Z < w2.heap.size:=H2.o.row.1.lt;go_wp2_with fail;refine (qH.o w2 H2.o.aE xa).mono ?_;rintro e' w3 ⟨rfl,lA⟩;have H3:=af (H2.o.below lA);clear lA t0 t1 t2 t3 t4 lT z0 lz;have t0:=(H3.o.pick 1 rfl).row.1.c0;have lT:T < w3.heap.size:=(H3.o.pick 1 rfl).row.1.lt;have z0:=H3.o.row.1.c0;have z1:=H3.o.row.1.c1;have z2:=H3.o.row.1.c2;have lz:Z < w3.heap.size:=H3.o.row.1.lt;have HW:=af (show ma t.parts.length t.frame e ⟨xa,xb,xc⟩=(cQ xa 0 (t.parts.length-1)&&(decide (e≤xb)&&(decide (xb≤fr)&&(decide (1≤xc)&&decide (xc≤fr-xb))))) by rw [HF.o];rfl);clear fb cK jh zo;cases h1:cQ xa 0 ((t.parts.length:Int)-1)
    ·have HR:=af (show ma t.parts.length t.frame e ⟨xa,xb,xc⟩=false by rw [HW.o,h1];rfl);go_wp2_with fail;go_meet;exact ⟨by rw [HR.o];rfl,H3.o⟩
    ·rw [h1,Bool.true_and] at HW;by_cases h2:xb < e
     ·have HR:=af (show ma t.parts.length t.frame e ⟨xa,xb,xc⟩=false by rw [HW.o,decide_eq_false (by omega:¬e≤xb)];rfl);go_wp2_with fail;go_meet;exact ⟨by rw [HR.o];rfl,H3.o⟩
     ·rw [decide_eq_true (by omega:e≤xb),Bool.true_and] at HW;by_cases h3:xb > fr
      ·have HR:=af (show ma t.parts.length t.frame e ⟨xa,xb,xc⟩=false by rw [HW.o,decide_eq_false (by omega:¬xb≤fr)];rfl);go_wp2_with fail;go_meet;exact ⟨by rw [HR.o];rfl,H3.o⟩
      ·rw [decide_eq_true (by omega:xb≤fr),Bool.true_and] at HW;by_cases h4:xc < 1
       ·have HR:=af (show ma t.parts.length t.frame e ⟨xa,xb,xc⟩=false by rw [HW.o,decide_eq_false (by omega:¬1≤xc)];rfl);go_wp2_with fail;go_meet;exact ⟨by rw [HR.o];rfl,H3.o⟩
       ·rw [decide_eq_true (by omega:1≤xc),Bool.true_and] at HW;have PI:wrap64 (fr-xb)=fr-xb:=IntWalk.wrap64_in _ (by omega);by_cases h5:xc > fr-xb
        ·have HR:=af (show ma t.parts.length t.frame e ⟨xa,xb,xc⟩=false by rw [HW.o,decide_eq_false (by omega:¬xc≤fr-xb)]);go_wp2_with fail;go_meet;exact ⟨by rw [HR.o];rfl,H3.o⟩
        ·have HR:=af (show ma t.parts.length t.frame e ⟨xa,xb,xc⟩=true by rw [HW.o,decide_eq_true (by omega:xc≤fr-xb)]);go_wp2_with fail;go_meet;exact ⟨by rw [HR.o];simp;omega,H3.o⟩
   case rest =>
    obtain ⟨rfl,ak⟩:=hcut;have H3:=af ak;clear ak H2 jf HZ;cases hw:ma t.parts.length t.frame e ⟨xa,xb,xc⟩
    ·have HR:=af (cK.o hw);clear cK jh fb hw;go_wp2_with fail;go_ret;exact ⟨aA HR.o.symm,H3.o.aE⟩
    ·obtain ⟨g1,g2,g3,g4,g5⟩:=zx hw;rw [←HF.o] at g3 g5;have HR:=af (jh.o hw);have WQ:=af (show wrap64 (xb+xc)=xb+xc from IntWalk.wrap64_in _ (by dsimp only at g2 g3 g4 g5;omega));clear cK jh fb hw g1 g2 g3 g4 g5;have z0:=H3.o.row.1.c0;have z1:=H3.o.row.1.c1;have z2:=H3.o.row.1.c2;have lz:Z < wc.heap.size:=H3.o.row.1.lt;have H4:=af H3.o.drop;have Ly:k+1≤9223372036854775807:=by unfold maxLen at hm;omega
     cases je
     ·cases It:(xa==0)
      ·have dK:=af (show WI t (k+1) (xb+xc) false by have h:=HR.o;simp only [It] at h;exact h);go_wp2_with fail;go_roundw;case rel=>exact ⟨k+1,xb+xc,false,by omega,by go_num,by rw [WQ.o],rfl,dK.o,H4.o⟩
       case measure=>simp [intOf]<;>omega
      ·have dK:=af (show WI t (k+1) (xb+xc) true by have h:=HR.o;simp only [It] at h;exact h);go_wp2_with fail;go_roundw;case rel=>exact ⟨k+1,xb+xc,true,by omega,by go_num,by rw [WQ.o],rfl,dK.o,H4.o⟩
       case measure=>simp [intOf]<;>omega
     ·have dK:=af (show WI t (k+1) (xb+xc) true by have h:=HR.o;simp only [Bool.true_or] at h;exact h);go_wp2_with fail;go_roundw;case rel=>exact ⟨k+1,xb+xc,true,by omega,by go_num,by rw [WQ.o],rfl,dK.o,H4.o⟩
      case measure=>simp [intOf]<;>omega
  ·have lv:k=nW:=by omega
   have df:¬(k:Int) < (nW:Int):=by omega
   have HE:=af (show t.mS=(je&&decide (nW≤8)) by
    have h:=zo.o;rw [lv,HV.o.lw] at h
    rw [h.end_,←HV.o.lw])
   clear lv zo;cases je
   ·have HR:=af (show t.mS=false by rw [HE.o];rfl);go_wp2_with fail;go_ret;exact ⟨aA HR.o.symm,bH.o.aE⟩
   ·have HR:=af (show t.mS=decide (nW≤8) by rw [HE.o];rfl);by_cases h8:nW≤8
    ·have h8':(nW:Int)≤8:=by omega
     have dK:=af (show t.mS=true by rw [HR.o,decide_eq_true h8]);go_wp2_with fail;go_ret;exact ⟨aA dK.o.symm,bH.o.aE⟩
    ·have h8':¬(nW:Int)≤8:=by omega
     have dK:=af (show t.mS=false by rw [HR.o,decide_eq_false h8]);go_wp2_with fail;go_ret;exact ⟨aA dK.o.symm,bH.o.aE⟩
end
end
def tP (p:T3→Bool) (l:List T3):Int:=match l.findIdx? p with
 | some i=>i
 | none=>-1
theorem Ah {p:T3→Bool} {l:List T3} (h:l.any p=false):tP p l=-1:=by
 have:l.findIdx? p=none:=by
  rw [List.findIdx?_eq_none_iff];intro x hx;rw [List.any_eq_false] at h;simpa using h x hx
 unfold tP;rw [this]
theorem IY {p:T3→Bool} {l:List T3} {k:Nat} (h:(l.take k).any p=false) (hk:k < l.length) (hp:p l[k]=true):tP p l=k:=by
 have:l.findIdx? p=some k:=by
  rw [List.findIdx?_eq_some_iff_getElem];refine ⟨hk,hp,fun j hj=>?_⟩;rw [List.any_eq_false] at h;exact h l[j] (by rw [List.mem_take_iff_getElem];exact ⟨j,by omega,rfl⟩)
 unfold tP;rw [this]
theorem xX {p:T3→Bool} {l:List T3} {k:Nat} (h:(l.take k).any p=false) (hk:k < l.length) (hp:p l[k]=false):(l.take (k+1)).any p=false:=by
 rw [kr hk,List.any_append,h];simp [hp]
theorem IZ (p:T3→Bool) (l:List T3):decide (tP p l≥0)=l.any p:=by
 cases h:l.any p
 ·rw [Ah h];rfl
 ·unfold tP;cases e:l.findIdx? p with
  | none =>
    rw [List.findIdx?_eq_none_iff] at e;rw [List.any_eq_true] at h;obtain ⟨x,hx,h2⟩:=h;have:=e x hx;simp [h2] at this
  | some i=>simp
theorem PE (w:World) (A:Option Addr) (n c:Nat) (l:List T3) (hn:n=l.length) (hm:n≤maxLen) (hs:Sl w w.heap.size 3 A n (gD l)) (f:Nat) (jT:Array Value) (p:T3→Bool)
  (pM:∀(w:World) (x:T3),(callFunc f (#[x.agg]++jT)).run Tryz.prog w=.ok (.enter f (#[x.agg]++jT)) w)
  (hf:∀w' (x:T3),Below w.heap.size w w'→Calls Tryz.prog f (#[x.agg]++jT) w' fun e mf=>e=.returned (.bool (p x))∧Below w'.heap.size w' mf) :
  Calls Tryz.prog 184 #[.slice A n c,.func (.func f) #[] jT] w fun e w'=>e=.returned (ae aa (tP p l))∧Below w.heap.size w w':=by
 have HN:=af hn;have HS:=af hs;have HF:=af hf;clear hn hs hf;go_enter Tryz.func184,Tryz.ntmps184;go_wp2_with fail;go_loopw [8] (fun i wr=>∃k:Nat,k≤n∧i=ae aa k∧(l.take k).any p=false∧Below w.heap.size w wr) (fun i _=>n-(intOf i).toNat)
 case atStart=>exact ⟨0,by omega,rfl,by simp,Below.refl _ _⟩
 case round =>
  obtain ⟨k,hk,rfl,jS,hb⟩:=hrel;have lL:=af jS;have HB:=af hb;clear jS hb;by_cases aH:k < n
  ·have df:(k:Int) < (n:Int):=by omega
   have mM:(0:Int)≤(k:Int):=by omega
   have iG:k < l.length:=by rw [←HN.o];exact aH
   obtain ⟨b,off,rfl,lb,c0,c1,c2⟩:=jE (HS.o.below HB.o) HN.o iG;have lb':b < wr.heap.size:=Nat.lt_of_lt_of_le lb HB.o.size;have HC:=af (HF.o wr l[k] HB.o);have HY:=af (fun h=>IY lL.o iG h);have HZ:=af (fun h=>xX lL.o iG h);generalize l[k]=x at c0 c1 c2 HC HY HZ;have SR:=pM wr x;have hc9:k+1≤9223372036854775807:=by unfold maxLen at hm;omega
   obtain ⟨xa,xb,xc⟩:=x;dsimp only at c0 c1 c2;cases hp:p ⟨xa,xb,xc⟩
   ·rw [hp] at HC;have HQ:=af (HZ.o hp);clear hp HY HZ;go_wp2_with fail;refine HC.o.mono ?_;rintro e w2 ⟨rfl,bT⟩;have aO:=af (HB.o.trans (bT.mono HB.o.size));clear bT;go_wp2_with fail;go_roundw;case rel=>exact ⟨k+1,by omega,by go_num,HQ.o,aO.o⟩
    case measure=>simp [intOf]<;>omega
   ·rw [hp] at HC;have HQ:=af (HY.o hp);clear hp HY HZ;go_wp2_with fail;refine HC.o.mono ?_;rintro e w2 ⟨rfl,bT⟩;have aO:=af (HB.o.trans (bT.mono HB.o.size));clear bT;go_wp2_with fail;go_ret;exact ⟨bx HQ.o.symm,aO.o⟩
  ·have lv:k=n:=by omega
   have df:¬(k:Int) < (n:Int):=by omega
   have HQ:=af (show tP p l=-1 by
    have h:=lL.o;rw [List.take_of_length_le (by rw [←HN.o];omega)] at h
    exact Ah h)
   clear lv;go_wp2_with fail;go_ret;exact ⟨bx HQ.o.symm,HB.o⟩
theorem PF (w:World) (A:Option Addr) (n c:Nat) (l:List T3) (hn:n=l.length) (hm:n≤maxLen) (hs:Sl w w.heap.size 3 A n (gD l)) (f:Nat) (jT:Array Value) (p:T3→Bool)
  (pM:∀(w:World) (x:T3),(callFunc f (#[x.agg]++jT)).run Tryz.prog w=.ok (.enter f (#[x.agg]++jT)) w)
  (hf:∀w' (x:T3),Below w.heap.size w w'→Calls Tryz.prog f (#[x.agg]++jT) w' fun e mf=>e=.returned (.bool (p x))∧Below w'.heap.size w' mf) :
  Calls Tryz.prog 185 #[.slice A n c,.func (.func f) #[] jT] w fun e w'=>e=.returned (ae aa (tP p l))∧Below w.heap.size w w':=by
 have HN:=af hn;have HS:=af hs;have HF:=af hf;clear hn hs hf;go_enter Tryz.func185,Tryz.ntmps185;go_wp2_with fail;go_loopw [8] (fun i wr=>∃k:Nat,k≤n∧i=ae aa k∧(l.take k).any p=false∧Below w.heap.size w wr) (fun i _=>n-(intOf i).toNat)
 case atStart=>exact ⟨0,by omega,rfl,by simp,Below.refl _ _⟩
 case round =>
  obtain ⟨k,hk,rfl,jS,hb⟩:=hrel;have lL:=af jS;have HB:=af hb;clear jS hb;by_cases aH:k < n
  ·have df:(k:Int) < (n:Int):=by omega
   have mM:(0:Int)≤(k:Int):=by omega
   have iG:k < l.length:=by rw [←HN.o];exact aH
   obtain ⟨b,off,rfl,lb,c0,c1,c2⟩:=jE (HS.o.below HB.o) HN.o iG;have lb':b < wr.heap.size:=Nat.lt_of_lt_of_le lb HB.o.size;have HC:=af (HF.o wr l[k] HB.o);have HY:=af (fun h=>IY lL.o iG h);have HZ:=af (fun h=>xX lL.o iG h);generalize l[k]=x at c0 c1 c2 HC HY HZ;have SR:=pM wr x;have hc9:k+1≤9223372036854775807:=by unfold maxLen at hm;omega
   obtain ⟨xa,xb,xc⟩:=x;dsimp only at c0 c1 c2;cases hp:p ⟨xa,xb,xc⟩
   ·rw [hp] at HC;have HQ:=af (HZ.o hp);clear hp HY HZ;go_wp2_with fail;refine HC.o.mono ?_;rintro e w2 ⟨rfl,bT⟩;have aO:=af (HB.o.trans (bT.mono HB.o.size));clear bT;go_wp2_with fail;go_roundw;case rel=>exact ⟨k+1,by omega,by go_num,HQ.o,aO.o⟩
    case measure=>simp [intOf]<;>omega
   ·rw [hp] at HC;have HQ:=af (HY.o hp);clear hp HY HZ;go_wp2_with fail;refine HC.o.mono ?_;rintro e w2 ⟨rfl,bT⟩;have aO:=af (HB.o.trans (bT.mono HB.o.size));clear bT;go_wp2_with fail;go_ret;exact ⟨bx HQ.o.symm,aO.o⟩
  ·have lv:k=n:=by omega
   have df:¬(k:Int) < (n:Int):=by omega
   have HQ:=af (show tP p l=-1 by
    have h:=lL.o;rw [List.take_of_length_le (by rw [←HN.o];omega)] at h
    exact Ah h)
   clear lv;go_wp2_with fail;go_ret;exact ⟨bx HQ.o.symm,HB.o⟩
theorem JR (w:World) (A:Option Addr) (n c:Nat) (l:List T3) (hn:n=l.length) (hm:n≤maxLen) (hs:Sl w w.heap.size 3 A n (gD l)) (f:Nat) (jT:Array Value) (p:T3→Bool)
  (pM:∀(w:World) (x:T3),(callFunc f (#[x.agg]++jT)).run Tryz.prog w=.ok (.enter f (#[x.agg]++jT)) w)
  (hf:∀w' (x:T3),Below w.heap.size w w'→Calls Tryz.prog f (#[x.agg]++jT) w' fun e mf=>e=.returned (.bool (p x))∧Below w'.heap.size w' mf) :
  Calls Tryz.prog 148 #[.slice A n c,.func (.func f) #[] jT] w fun e w'=>e=.returned (.bool (l.any p))∧Below w.heap.size w w':=by
 have HI:=af (PE w A n c l hn hm hs f jT p pM hf);have HQ:=af (IZ p l);clear hn hm hs hf pM;go_enter Tryz.func148,Tryz.ntmps148;go_wp2_with fail;refine HI.o.mono ?_;rintro e w2 ⟨rfl,bT⟩;have aO:=af bT;clear bT;go_wp2_with fail;go_ret;exact ⟨aA HQ.o,aO.o⟩
theorem JS (w:World) (A:Option Addr) (n c:Nat) (l:List T3) (hn:n=l.length) (hm:n≤maxLen) (hs:Sl w w.heap.size 3 A n (gD l)) (f:Nat) (jT:Array Value) (p:T3→Bool)
  (pM:∀(w:World) (x:T3),(callFunc f (#[x.agg]++jT)).run Tryz.prog w=.ok (.enter f (#[x.agg]++jT)) w)
  (hf:∀w' (x:T3),Below w.heap.size w w'→Calls Tryz.prog f (#[x.agg]++jT) w' fun e mf=>e=.returned (.bool (p x))∧Below w'.heap.size w' mf) :
  Calls Tryz.prog 151 #[.slice A n c,.func (.func f) #[] jT] w fun e w'=>e=.returned (.bool (l.any p))∧Below w.heap.size w w':=by
 have HI:=af (PF w A n c l hn hm hs f jT p pM hf);have HQ:=af (IZ p l);clear hn hm hs hf pM;go_enter Tryz.func151,Tryz.ntmps151;go_wp2_with fail;refine HI.o.mono ?_;rintro e w2 ⟨rfl,bT⟩;have aO:=af bT;clear bT;go_wp2_with fail;go_ret;exact ⟨aA HQ.o,aO.o⟩
def jB (n:Nat) (x:T3):Bool:=cQ x.a 0 ((n:Int)-1)&&(cQ x.b 0 ((n:Int)-1)&&(!(x.a==x.b)&&cQ x.c 0 4))
def aY.right (t:aY):Bool:=cQ t.frame 1 64&&(cQ t.ay 1 7&&(cQ t.parts.length 2 4&&(!(t.parts.any fun x=>!x.part)&&(t.mS&&(decide (t.av.length≤4)&&!(t.av.any fun x=>!jB t.parts.length x))))))
theorem YL (w:World) (x:T3):(callFunc 149 (#[x.agg]++#[])).run Tryz.prog w=.ok (.enter 149 (#[x.agg]++#[])) w:=by kernel_rfl
theorem VY (T:Nat) (w:World) (x:T3):(callFunc 152 (#[x.agg]++#[.pointer (some ⟨T,0,none⟩)])).run Tryz.prog w=.ok (.enter 152 (#[x.agg]++#[.pointer (some ⟨T,0,none⟩)])) w:=by kernel_rfl
section
variable {w : World} {t : aY} {AP AW AC : Option Addr} {nP cP nW cW nC cC : Nat}
theorem Y3 (h:pX w w.heap.size t AP nP cP AW nW cW AC nC cC) {T:Nat} (hr:Row w T 46 (di t.frame AP nP cP AW nW cW AC nC cC t.ay)) (x:T3) :
  Calls Tryz.prog 152 #[x.agg,.pointer (some ⟨T,0,none⟩)] w fun e w'=>e=.returned (.bool (!jB t.parts.length x))∧Below w.heap.size w w':=by
 obtain ⟨xa,xb,xc⟩:=x;have HK:=af (show jB t.parts.length ⟨xa,xb,xc⟩=(cQ xa 0 ((t.parts.length:Int)-1)&&(cQ xb 0 ((t.parts.length:Int)-1)&&(!(xa==xb)&&cQ xc 0 4))) from rfl);obtain ⟨Z,hZ⟩:=xE w.heap.size;obtain ⟨w1,aF⟩:=xE (w.alloc (.cells #[ae aa xa,ae aa xb,ae aa xc] 152));have H1:=af (show St w w1 [row Z 152 [ae aa xa,ae aa xb,ae aa xc]] by rw [aF,hZ];exact (St.nil w).new _ _);have HR:=af (fun (w':World) (hb:Below w.heap.size w w')=>hr.below hb hr.lt);have qH:=af (fun (w':World) (hb:Below w.heap.size w w') (p:Int)=>B0 (h.over hb) p);obtain ⟨fr,ku⟩:=xE t.frame;obtain ⟨tr,jJ⟩:=xE t.ay;rw [←ku,←jJ] at qH HR;have HZ:=af hZ;have br:=af aF;have lT:=af hr.lt;clear h hr hZ aF ku jJ;go_enter Tryz.func152,Tryz.ntmps152;go_upto_region 1 with fail;rw [←br.o,←HZ.o]
 have rows:∀w',Below w.heap.size w w'→w'.cell? ⟨T,0,none⟩=some (ae aa fr)∧w'.cell? ⟨T,1,none⟩=some (.slice AP nP cP)∧w'.cell? ⟨T,2,none⟩=some (.slice AW nW cW)∧w'.cell? ⟨T,3,none⟩=some (.slice AC nC cC)∧w'.cell? ⟨T,4,none⟩=some (ae aa tr) :=
  fun w' hb=>⟨(HR.o w' hb).cell 0,(HR.o w' hb).cell 1,(HR.o w' hb).cell 2,(HR.o w' hb).cell 3,(HR.o w' hb).cell 4⟩
 obtain ⟨t0,t1,t2,t3,t4⟩:=rows w1 H1.o.aE;have lt:T < w1.heap.size:=(HR.o w1 H1.o.aE).lt;have dr:=af rows;clear rows;have z0:=H1.o.row.1.c0;have lz:Z < w1.heap.size:=H1.o.row.1.lt;go_wp2_with fail;refine (qH.o w1 H1.o.aE xa).mono ?_;rintro e w2 ⟨rfl,hb⟩;have H2:=af (H1.o.below hb);clear hb t0 t1 t2 t3 t4 lt z0 lz H1;obtain ⟨t0,t1,t2,t3,t4⟩:=dr.o w2 H2.o.aE;have lt:T < w2.heap.size:=(HR.o w2 H2.o.aE).lt;have z0:=H2.o.row.1.c0;have z1:=H2.o.row.1.c1;have lz:Z < w2.heap.size:=H2.o.row.1.lt;cases h1:cQ xa 0 ((t.parts.length:Int)-1)
 ·have HQ:=af (show (!jB t.parts.length ⟨xa,xb,xc⟩)=true by rw [HK.o,h1];rfl);go_wp2_with fail;go_ret;exact ⟨aA HQ.o.symm,H2.o.aE⟩
 ·rw [h1,Bool.true_and] at HK;go_wp2_with fail;refine (qH.o w2 H2.o.aE xb).mono ?_;rintro e w3 ⟨rfl,hb⟩;have H3:=af (H2.o.below hb);clear hb t0 t1 t2 t3 t4 lt z0 z1 lz H2;have z0:=H3.o.row.1.c0;have z1:=H3.o.row.1.c1;have z2:=H3.o.row.1.c2;have lz:Z < w3.heap.size:=H3.o.row.1.lt;cases h2:cQ xb 0 ((t.parts.length:Int)-1)
  ·have HQ:=af (show (!jB t.parts.length ⟨xa,xb,xc⟩)=true by rw [HK.o,h2];rfl);go_wp2_with fail;go_ret;exact ⟨aA HQ.o.symm,H3.o.aE⟩
  ·rw [h2,Bool.true_and] at HK;cases h3:(xa==xb)
   ·rw [h3,Bool.not_false,Bool.true_and] at HK;have HQ:=af (show (!jB t.parts.length ⟨xa,xb,xc⟩)=!cQ xc 0 4 by rw [HK.o]);go_wp2_with fail;refine (vp _ _ _ _).mono ?_;rintro e w4 ⟨rfl,rfl⟩;go_wp2_with fail;go_ret;exact ⟨aA HQ.o.symm,H3.o.aE⟩
   ·have HQ:=af (show (!jB t.parts.length ⟨xa,xb,xc⟩)=true by rw [HK.o,h3];rfl);go_wp2_with fail;go_ret;exact ⟨aA HQ.o.symm,H3.o.aE⟩
theorem fR (h:pX w w.heap.size t AP nP cP AW nW cW AC nC cC):Calls Tryz.prog 100 #[tW t.frame AP nP cP AW nW cW AC nC cC t.ay] w fun e w'=>e=.returned (.bool t.right)∧Below w.heap.size w w':=by
 have HV:=af h;have HK:=af (show t.right=(cQ t.frame 1 64&&(cQ t.ay 1 7&&(cQ t.parts.length 2 4&&(!(t.parts.any fun x=>!x.part)&&(t.mS&&(decide (t.av.length≤4)&&!(t.av.any fun x=>!jB t.parts.length x))))))) from rfl);rw [←h.lp,←h.lc] at HK;obtain ⟨T,hT⟩:=xE w.heap.size;obtain ⟨w1,aF⟩:=xE (w.alloc (.cells #[ae aa t.frame,.slice AP nP cP,.slice AW nW cW,.slice AC nC cC,ae aa t.ay] 46));have H1:=af (show St w w1 [row T 46 (di t.frame AP nP cP AW nW cW AC nC cC t.ay)] by rw [aF,hT];exact (St.nil w).new _ _);have JG:=af (fun (w':World) (hs:St w w' [row T 46 (di t.frame AP nP cP AW nW cW AC nC cC t.ay)]) (x:T3)=>Y3 (h.over hs.aE) hs.row.1 x);have zo:=af (fun (w':World) (hb:Below w.heap.size w w') (hf:cQ t.frame 1 64=true)=>OQ (h.over hb) hf);obtain ⟨fr,ku⟩:=xE t.frame;obtain ⟨tr,jJ⟩:=xE t.ay;rw [←ku,←jJ] at JG H1 HK zo aF ⊢;have br:=af aF;have HT:=af hT;clear h aF hT ku jJ;go_enter Tryz.func100,Tryz.ntmps100;go_upto_region 1 with fail;rw [←br.o,←HT.o];have t0:=H1.o.row.1.c0;have t1:=H1.o.row.1.c1;have t2:=H1.o.row.1.c2;have t3:=H1.o.row.1.c3;have t4:=H1.o.row.1.c4;have lT:=H1.o.row.1.lt;cases h1:cQ fr 1 64
 ·have HQ:=af (show t.right=false by rw [HK.o,h1];rfl);go_wp2_with (go_at_call 147;refine (vp _ _ _ _).mono ?_;rintro e w' ⟨rfl,rfl⟩);go_ret;exact ⟨aA HQ.o.symm,H1.o.aE⟩
 rw [h1,Bool.true_and] at HK;cases h2:cQ tr 1 7
 ·have HQ:=af (show t.right=false by rw [HK.o,h2];rfl);go_wp2_with (go_at_call 147;refine (vp _ _ _ _).mono ?_;rintro e w' ⟨rfl,rfl⟩);go_ret;exact ⟨aA HQ.o.symm,H1.o.aE⟩
 rw [h2,Bool.true_and] at HK;cases h3:cQ nP 2 4
 ·have HQ:=af (show t.right=false by rw [HK.o,h3];rfl);go_wp2_with (go_at_call 147;refine (vp _ _ _ _).mono ?_;rintro e w' ⟨rfl,rfl⟩);go_ret;exact ⟨aA HQ.o.symm,H1.o.aE⟩
 rw [h3,Bool.true_and] at HK;have acX:=af (fun (w':World) (hb:Below w.heap.size w w')=>zo.o w' hb h1);go_upto_region 3 with (go_at_call 147;refine (vp _ _ _ _).mono ?_;rintro e w' ⟨rfl,rfl⟩)
 clear h1 h2 h3;go_wp2_with fail;refine (JR w' AP nP cP t.parts HV.o.lp HV.o.mp (HV.o.over H1.o.aE).ps 149 #[] (fun x=>!x.part) YL (fun w2 x _=>aa5 w2 x)).mono ?_;rintro e w2 ⟨rfl,bT⟩;have H2:=af (H1.o.below bT);clear bT t0 t1 t2 t3 t4 lT;by_cases h4:(t.parts.any fun x=>!x.part)=true
 ·have HQ:=af (show t.right=false by rw [HK.o,h4];rfl);rw [h4];clear h4;go_wp2_with fail;go_ret;exact ⟨aA HQ.o.symm,H2.o.aE⟩
 rw [Bool.not_eq_true] at h4;rw [h4];rw [h4,Bool.not_false,Bool.true_and] at HK;clear h4;have t0:=H2.o.row.1.c0;have t1:=H2.o.row.1.c1;have t2:=H2.o.row.1.c2;have t3:=H2.o.row.1.c3;have t4:=H2.o.row.1.c4;have lT:=H2.o.row.1.lt;go_wp2_with fail;refine (acX.o w2 H2.o.aE).mono ?_;rintro e w3 ⟨rfl,lA⟩;have H3:=af (H2.o.below lA);clear lA t0 t1 t2 t3 t4 lT;cases h5:t.mS
 ·have HQ:=af (show t.right=false by rw [HK.o,h5];rfl);clear h5;go_wp2_with fail;go_ret;exact ⟨aA HQ.o.symm,H3.o.aE⟩
 rw [h5,Bool.true_and] at HK;clear h5;have t3:=H3.o.row.1.c3;have lT:=H3.o.row.1.lt;by_cases h6:nC≤4
 ·have h6':¬(nC:Int) > 4:=by omega
  rw [decide_eq_true h6,Bool.true_and] at HK;go_wp2_with fail;refine (JS w3 AC nC cC t.av HV.o.lc HV.o.mc (HV.o.over H3.o.aE).cs 152 #[.pointer (some ⟨T,0,none⟩)] (fun x=>!jB t.parts.length x) (VY T) (fun w4 x hb=>JG.o w4 (H3.o.below hb) x)).mono ?_;rintro e w4 ⟨rfl,pO⟩;have H4:=af (H3.o.below pO);clear pO t3 lT;go_wp2_with fail;go_ret;exact ⟨aA (by rw [HK.o,HV.o.lp]),H4.o.aE⟩
 ·have h6':(nC:Int) > 4:=by omega
  have HQ:=af (show t.right=false by rw [HK.o,decide_eq_false h6];rfl);go_wp2_with fail;go_ret;exact ⟨aA HQ.o.symm,H3.o.aE⟩
end
end bN
namespace bC
section
variable {bs:List Int} {x:Nat}
abbrev Pp:Nat:=3988292384
def dn (x:Nat):Nat:=(x / 2) ^^^ (if x % 2=1 then Pp else 0)
def it:Nat→Nat→Nat
 | 0,x=>x
 | k+1,x=>dn (it k x)
theorem OT (x i:Nat):(dn x).testBit i=((x.testBit (i+1)) ^^ (x.testBit 0&&Pp.testBit i)):=by
 unfold dn;rw [Nat.testBit_xor,Nat.testBit_div_two]
 congr 1
 rw [Nat.testBit_zero];by_cases h:x % 2=1
 ·rw [if_pos h];simp [h]
 ·rw [if_neg h];simp [h]
theorem aaY (x y:Nat):dn (x ^^^ y)=dn x ^^^ dn y:=by
 apply Nat.eq_of_testBit_eq;intro i;rw [Nat.testBit_xor,OT,OT,OT,Nat.testBit_xor,Nat.testBit_xor];cases x.testBit (i+1)<;>cases y.testBit (i+1)<;>cases x.testBit 0<;>cases y.testBit 0<;>cases Pp.testBit i<;>rfl
theorem Z9 (k x y:Nat):it k (x ^^^ y)=it k x ^^^ it k y:=by
 induction k with
 | zero=>rfl
 | succ k ih=>rw [it,ih,aaY];rfl
theorem abC (k x:Nat):it k (dn x)=dn (it k x):=by
 induction k with
 | zero=>rfl
 | succ k ih=>rw [it,ih];rfl
theorem VB (k m:Nat):it k (m*2 ^ k)=m:=by
 induction k with
 | zero=>simp [it]
 | succ k ih =>
   rw [it,←abC]
   have:dn (m*2 ^ (k+1))=m*2 ^ k:=by
    unfold dn;rw [Nat.pow_succ,←Nat.mul_assoc,Nat.mul_mod_left,if_neg (by decide),Nat.mul_div_cancel _ (by decide)];exact Nat.xor_zero _
   rw [this,ih]
theorem Zz (x:Nat):x=(x / 256*2 ^ 8) ^^^ (x % 256):=by
 apply Nat.eq_of_testBit_eq;intro i;rw [Nat.testBit_xor,Nat.testBit_mul_two_pow,show 256=2 ^ 8 from rfl,Nat.testBit_div_two_pow,Nat.testBit_mod_two_pow];by_cases h:8≤i
 ·have h2:¬i < 8:=by omega
  simp [h,h2,Nat.sub_add_cancel h]
 ·have h2:i < 8:=by omega
  simp [h,h2]
def feed (x c:Nat):Nat:=it 8 (x ^^^ c)
theorem Qj (x c:Nat) (hc:c < 256):feed x c=(x / 256) ^^^ it 8 ((x % 256) ^^^ c):=by
 unfold feed
 conv=>lhs;rw [Zz x]
 rw [Nat.xor_assoc,Z9,VB]
theorem abV (h:x < 2 ^ 32):dn x < 2 ^ 32:=by
 unfold dn;refine Nat.xor_lt_two_pow (by omega) ?_;split<;>decide
theorem JZ (k:Nat) (h:x < 2 ^ 32):it k x < 2 ^ 32:=by
 induction k with
 | zero=>exact h
 | succ k ih=>exact abV ih
theorem YS {c:Nat} (h:x < 2 ^ 32) (hc:c < 256):feed x c < 2 ^ 32:=JZ 8 (Nat.xor_lt_two_pow h (by omega))
def fold (x:Nat) (bs:List Int):Nat:=bs.foldl (fun x z=>feed x z.toNat) x
def bn (bs:List Int):Prop:=∀z∈bs,0≤z∧z≤255
theorem CY :∀{x:Nat},x < 2 ^ 32→bn bs→fold x bs < 2 ^ 32:=by
 induction bs with
 | nil=>intro x h _;exact h
 | cons z bs ih =>
   intro x h hb;have hz:=hb z (by simp);exact ih (YS h (by omega)) fun y hy=>hb y (by simp [hy])
theorem zi (x:Nat) (bs:List Int) (k:Nat) (hk:k < bs.length):fold x (bs.take (k+1))=feed (fold x (bs.take k)) bs[k].toNat:=by
 unfold fold;rw [kr hk,List.foldl_append];rfl
def sum (bs:List Int):Nat:=4294967295-fold 4294967295 bs
theorem Bp :sum bs < 2 ^ 32:=by unfold sum;omega
end
end bC
namespace num
open bC
def digit (w:Nat) (n:Nat) (j:Nat):Int:=((n / 256 ^ (w-1-j) % 256:Nat):Int)
def be (w n:Nat):List Int:=(List.range w).map (digit w n)
theorem bp (w n:Nat):(be w n).length=w:=by simp [be]
theorem qO (w n:Nat):bn (be w n):=by
 intro z hz;obtain ⟨j,_,rfl⟩:=List.mem_map.1 hz;unfold digit;omega
def val (bs:List Int):Nat:=bs.foldl (fun n z=>256*n+z.toNat) 0
theorem Ec (bs:List Int) (z:Int):val (bs++[z])=256*val bs+z.toNat:=by simp [val]
theorem Y9 (w n:Nat):be (w+1) n=be w (n / 256)++[((n % 256:Nat):Int)]:=by
 unfold be;rw [List.range_succ,List.map_append]
 congr 1
 ·apply List.map_congr_left;intro j hj;have SB:j < w:=List.mem_range.1 hj;unfold digit;rw [Nat.div_div_eq_div_mul,show w+1-1-j=(w-1-j)+1 from by omega,Nat.pow_succ,Nat.mul_comm]
 ·simp [digit]
theorem Bm (w:Nat):∀n,n < 256 ^ w→val (be w n)=n:=by
 induction w with
 | zero=>intro n h;simp at h;subst h;rfl
 | succ w ih =>
   intro n h;rw [Y9,Ec,ih (n / 256) (by rw [Nat.pow_succ] at h;omega)];simp;omega
theorem UK {p:List Int→Prop} (h0:p []) (h1:∀bs z,p bs→p (bs++[z])) (bs:List Int):p bs:=by
 rw [←List.reverse_reverse bs]
 induction bs.reverse with
 | nil=>exact h0
 | cons z l ih=>rw [List.reverse_cons];exact h1 _ _ ih
theorem sj (bs:List Int) (h:bn bs):val bs < 256 ^ bs.length:=by
 revert h
 induction bs using UK with
 | h0=>intro h;simp [val]
 | h1 bs z ih =>
   intro h;rw [Ec,gC,List.length_singleton,Nat.pow_succ];have h1:=ih fun y hy=>h y (by simp [hy]);have h2:=h z (by simp);omega
theorem uB (bs:List Int) (k:Nat) (hk:k < bs.length):val (bs.take (k+1))=256*val (bs.take k)+bs[k].toNat:=by
 rw [kr hk,Ec]
def dE (w:Nat) (n:Int):Nat:=if n < 0 then 0 else if (256 ^ w:Nat)≤n.toNat then 256 ^ w-1 else n.toNat
theorem EE (w:Nat) (n:Nat) (h:n < 256 ^ w):dE w n=n:=by
 unfold dE;rw [if_neg (by omega),if_neg (by rw [dC];exact Nat.not_le.2 h),dC]
end num
namespace bytes
open Go.RowKit base obj mem
theorem PD:(Tryz.prog.info? 5).map (fun i=>(i.zero,i.size,i.bytes))=some (some (.int .u8 0),1,1):=by kernel_rfl
theorem sn:qP Tryz.prog 24 5 1 1:=by
 obtain ⟨i0,hi,kJ,ny,gm⟩:=info_parts PD;exact ⟨Tryz.underlying24,⟨i0,_,hi,kJ,ny,gm,rfl⟩,by decide⟩
theorem yM (bs:List Int):∀v∈bs.map (Value.int .u8),v.oneCell'=true:=by
 intro v hv;obtain ⟨_,_,rfl⟩:=List.mem_map.1 hv;rfl
theorem Ca (w:World) (A:Option Addr) (n c:Nat) (xs:List Value) (hs:Sl w w.heap.size 1 A n xs) (h1:∀v∈xs,v.oneCell'=true) (hn:n≤1000000) :
  Calls Tryz.prog 170 #[.slice A n c] w fun e w'=>∃v,e=.returned v∧w'.ownsRow w.heap.size 5 1 v n xs∧Below w.heap.size w w':=by
 cases A with
 | none =>
   have hn0:n=0:=by
    rcases Nat.eq_zero_or_pos n with h|h
    ·exact h
    ·obtain ⟨b,o,e,_⟩:=hs.2 h;cases e
   subst hn0;have HS:=af hs.1;clear hs h1 hn;have he:∀w:World,(binOp BinOp.eql 24 (Value.slice none 0 c) (Value.slice none 0 0)).run Tryz.prog w=.ok (.bool true) w:=fun w=>by kernel_rfl
   go_enter Tryz.func170,Tryz.ntmps170;go_wp2_with fail;go_ret;exact ⟨_,rfl,⟨HS.o,.inl ⟨rfl,rfl⟩⟩,Below.refl _ _⟩
 | some a =>
   have HS:=af hs;have H1:=af h1;clear hs h1;have he:∀w:World,(binOp BinOp.eql 24 (Value.slice (some a) n c) (Value.slice none 0 0)).run Tryz.prog w=.ok (.bool false) w:=fun w=>by kernel_rfl
   have fE:=af ((Below.refl w.heap.size w).alloc (Nat.le_refl _) (.cells #[] 5));have Ba:=af ((Row.new w 5 #[]).own (base:=w.heap.size) (size:=1) (n:=0) (cap:=0) (Nat.le_refl _) (Nat.le_refl _) (by decide) rfl);have Mv:=af (HS.o.below fE.o);go_enter Tryz.func170,Tryz.ntmps170;go_wp2_with (refine TG sn rfl (.tmp 5) (.tmp 6) rfl Ba.o rfl rfl (by simp) Mv.o H1.o (by omega) (by unfold maxLen;omega) (by simp) ?_;intro v2 w2 ho hg;have ke:=af ho;have aO:=af (jq fE.o Ba.o hg (by simp));clear ho hg);go_ret;refine ⟨v2,rfl,?_,aO.o⟩;have h:=ke.o;simpa using h
end bytes
namespace num
open Go.RowKit base obj mem bC bytes
theorem GZ (w:World) (k:Nat) (h1:1≤k) (h2:k≤6):Calls Tryz.prog 169 #[ae aa k] w fun e w'=>e=.returned (ae aa k)∧w'=w:=by
 go_enter Tryz.func169,Tryz.ntmps169;go_wp2_with fail;go_ret;exact ⟨rfl,rfl⟩
theorem jw (w:World) (A:Option Addr) (n c:Nat) (xs:List Value) (hs:Sl w w.heap.size 1 A n xs) (h1:∀v∈xs,v.oneCell'=true) (hn:n≤100000) (m k:Nat) (jm:1≤k) (dy:k≤6) (hm:m < 256 ^ k) :
  Calls Tryz.prog 123 #[.slice A n c,ae aa m,ae aa k] w fun e w'=>∃v,e=.returned v∧w'.ownsRow w.heap.size 5 1 v (n+k) (xs++(be k m).map (.int .u8))∧Below w.heap.size w w':=by
 have HC:=af (Ca w A n c xs hs h1 (by omega));clear hs h1;go_enter Tryz.func123,Tryz.ntmps123;go_wp2_with fail;refine (GZ _ k jm dy).mono ?_;rintro e w' ⟨rfl,rfl⟩
 have hle:(m:Int)≤wrap64 (wrap64 (2 ^ (8*k))-1):=by
  have h:(m:Int)≤256 ^ k-1:=by
   have e:((256 ^ k:Nat):Int)=(256:Int) ^ k:=by simp
   rw [←e];omega
  have h6:k=1∨k=2∨k=3∨k=4∨k=5∨k=6:=by omega
  rcases h6 with rfl|rfl|rfl|rfl|rfl|rfl<;>exact Int.le_trans h (by decide +kernel)
 go_wp2_with fail;refine HC.o.mono ?_;rintro e w1 ⟨v,rfl,ho,hb⟩;have HI:=af (And.intro ho hb);clear ho hb HC hle;have HM:=af hm;clear hm;go_wp2_with fail;go_loopw [8,7] (fun i v wr=>∃r:Nat,r≤k∧i=ae aa r∧wr.ownsRow w'.heap.size 5 1 v (n+(k-r)) (xs++((be k m).take (k-r)).map (.int .u8))∧Below w'.heap.size w' wr) (fun i _ _=>(intOf i).toNat)
 case atStart=>exact ⟨k,Nat.le_refl _,rfl,by rw [Nat.sub_self,List.take_zero,List.map_nil,List.append_nil];exact HI.o.1,HI.o.2⟩
 case round =>
  obtain ⟨r,hr,rfl,ho,hb⟩:=hrel;have HO:=af ho;have HB:=af hb;clear ho hb;by_cases h0:0 < r
  ·have h0':(0:Int) < (r:Int):=by omega
   obtain ⟨d,hd⟩:=xE (digit k m (k-r))
   have heb:(m:Int) / 2 ^ (8*(r-1)) % 256=d:=by
    rw [hd];unfold digit;rw [show k-1-(k-r)=r-1 by omega,show (256:Nat)=2 ^ 8 from rfl,←Nat.pow_mul];simp
   have xM:(be k m).take (k-(r-1))=(be k m).take (k-r)++[d]:=by
    rw [show k-(r-1)=(k-r)+1 by omega,kr (by rw [bp];omega),hd]
    congr 2
    simp [be]
   have HD:=af xM;clear hd xM;obtain ⟨A2,c2,e2,BW,_⟩:=aD HO.o;have mv:=af HB.o.size;subst e2;go_wp2_with (at_builtin;refine Ox sn rfl (.tmp 25) (.tmp 32) rfl HO.o rfl rfl rfl (by simp [Value.oneCell']) (by omega) (by unfold maxLen;omega) mv.o ?_;intro v2 w2 FI uP;have aO:=af (jq HB.o HO.o uP mv.o);have ke:=af FI;clear uP FI);go_roundw
   case rel =>
    refine ⟨r-1,by omega,by congr 1;omega,?_,aO.o⟩;have h:=ke.o;rw [show n+(k-r)+1=n+(k-(r-1)) by omega] at h;rw [HD.o,List.map_append,←List.append_assoc];exact h
   case measure=>simp [intOf];omega
  ·have ph:r=0:=by omega
   have h0':¬(0:Int) < (r:Int):=by omega
   have HR:=af ph;clear ph;go_wp2_with fail;go_ret;refine ⟨_,rfl,?_,HB.o⟩;have h:=HO.o;rw [HR.o,Nat.sub_zero,List.take_of_length_le (by rw [bp];exact Nat.le_refl _)] at h;exact h
end num
end Go.Proofs.YtdldkkoplgkloaaGreat
