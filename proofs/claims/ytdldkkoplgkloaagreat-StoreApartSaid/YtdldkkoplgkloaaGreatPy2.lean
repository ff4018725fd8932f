/-
  PROVED HERE: lemmas that the law leans on.
  CONDITIONS: each names its own.
-/
import Derived.BigQuiet
import Derived.Deep.CutBlock
import Derived.Deep.DeepCutAuto
import Derived.Deep.RegionWith
import Derived.IntWalk
import Derived.OwnWalk
import Derived.Test.YtdldkkoplgkloaaGreatPy0
import Derived.Test.YtdldkkoplgkloaaGreatPy1
namespace Go.Proofs.YtdldkkoplgkloaaGreat
set_option linter.unusedVariables false
set_option linter.unusedSimpArgs false
set_option maxRecDepth 100000
set_option maxHeartbeats 32000000
namespace bK

open Go.RowKit base obj mem sep bf
structure T3 where
 a:Int
 b:Int
 c:Int
deriving DecidableEq
instance:Inhabited T3:=⟨⟨0,0,0⟩⟩
def T3.cells (x:T3):List Value:=[.int .i64 x.a,.int .i64 x.b,.int .i64 x.c]
abbrev T3.agg (x:T3):Value:=.agg #[.int .i64 x.a,.int .i64 x.b,.int .i64 x.c]
def fW (l:List T3):List Value:=(l.map T3.cells).flatten
theorem yp (l:List T3) (x:T3):fW (l++[x])=fW l++x.cells:=by simp [fW]
theorem jh {w:World} {B n:Nat} {A:Option Addr} {l:List T3} (h:Sl w B 3 A n (fW l)) (hn:n=l.length) {k:Nat} (hk:k < l.length) :
  ∃b off,A=some ⟨b,off,none⟩∧b < B∧w.cell? ⟨b,off+k*3,none⟩=some (.int .i64 l[k].a)∧w.cell? ⟨b,off+k*3+1,none⟩=some (.int .i64 l[k].b)∧w.cell? ⟨b,off+k*3+2,none⟩=some (.int .i64 l[k].c):=by
 obtain ⟨b,off,rfl,cy,hc⟩:=h.2 (by omega)
 have h9:∀x∈l.map T3.cells,x.length=3:=by
  intro x hx;obtain ⟨a,_,rfl⟩:=List.mem_map.1 hx;rfl
 have e:=qH h9 (i:=k) (by simpa using hk)
 have g:∀j,j < 3→(fW l)[k*3+j]?=(T3.cells l[k])[j]?:=by
  intro j hj
  have e2:(((l.map T3.cells).flatten.drop (k*3)).take 3)[j]?=(l.map T3.cells).flatten[k*3+j]?:=by
   rw [List.getElem?_take,if_pos hj,List.getElem?_drop]
  rw [e] at e2;rw [fW,←e2];simp
 refine ⟨b,off,rfl,cy,?_,?_,?_⟩
 ·exact hc (k*3) _ ((g 0 (by omega)).trans rfl)
 ·rw [Nat.add_assoc];exact hc (k*3+1) _ ((g 1 (by omega)).trans rfl)
 ·rw [Nat.add_assoc];exact hc (k*3+2) _ ((g 2 (by omega)).trans rfl)
structure aQ where
 frame:Int
 parts:List T3
 aC:List T3
 au:List T3
 ay:Int
structure oZ (w:World) (B:Nat) (t:aQ) (AP:Option Addr) (nP cP:Nat) (AW:Option Addr) (nW cW:Nat) (AC:Option Addr) (nC cC:Nat):Prop where
 ps:Sl w B 3 AP nP (fW t.parts)
 ws:Sl w B 3 AW nW (fW t.aC)
 cs:Sl w B 3 AC nC (fW t.au)
 lp:nP=t.parts.length
 lw:nW=t.aC.length
 lc:nC=t.au.length
 mp:nP≤maxLen
 mw:nW≤maxLen
 mc:nC≤maxLen
abbrev sV (f:Int) (AP:Option Addr) (nP cP:Nat) (AW:Option Addr) (nW cW:Nat) (AC:Option Addr) (nC cC:Nat) (tr:Int):Value :=
 .agg #[.int .i64 f,.slice AP nP cP,.slice AW nW cW,.slice AC nC cC,.int .i64 tr]
theorem oZ.below {w w':World} {B:Nat} {t:aQ} {AP AW AC:Option Addr} {nP cP nW cW nC cC:Nat} (h:oZ w B t AP nP cP AW nW cW AC nC cC) (k:Below B w w'):oZ w' B t AP nP cP AW nW cW AC nC cC :=
 ⟨h.ps.below k,h.ws.below k,h.cs.below k,h.lp,h.lw,h.lc,h.mp,h.mw,h.mc⟩
theorem oZ.more {w:World} {B B':Nat} {t:aQ} {AP AW AC:Option Addr} {nP cP nW cW nC cC:Nat} (h:oZ w B t AP nP cP AW nW cW AC nC cC) (k:B≤B'):oZ w B' t AP nP cP AW nW cW AC nC cC :=
 ⟨h.ps.more k,h.ws.more k,h.cs.more k,h.lp,h.lw,h.lc,h.mp,h.mw,h.mc⟩
theorem oZ.over {w w':World} {t:aQ} {AP AW AC:Option Addr} {nP cP nW cW nC cC:Nat} (h:oZ w w.heap.size t AP nP cP AW nW cW AC nC cC) (k:Below w.heap.size w w'):oZ w' w'.heap.size t AP nP cP AW nW cW AC nC cC :=
 (h.below k).more k.size
def cH (n a b:Int):Bool:=decide (a≤n∧n≤b)
theorem uj (w:World) (n a b:Int):Calls Tryz.prog 147 #[.int .i64 n,.int .i64 a,.int .i64 b] w fun e w'=>e=.returned (.bool (cH n a b))∧w'=w:=by
 have HK:=aa (show cH n a b=decide (a≤n∧n≤b) from rfl);go_enter Tryz.func147,Tryz.ntmps147;by_cases h1:n≥a
 ·by_cases h2:n≤b
  ·go_wp2_with fail;go_ret;exact ⟨aE (by rw [HK.o,decide_eq_true ⟨h1,h2⟩]),rfl⟩
  ·go_wp2_with fail;go_ret;exact ⟨aE (by rw [HK.o,decide_eq_false (by omega)]),rfl⟩
 ·go_wp2_with fail;go_ret;exact ⟨aE (by rw [HK.o,decide_eq_false (by omega)]),rfl⟩
def T3.part (x:T3):Bool:=cH x.a 1 16&&(cH x.b 1 32&&cH x.c 0 65535)
theorem Zl (w:World) (x:T3):Calls Tryz.prog 149 #[x.agg] w fun e w'=>e=.returned (.bool (!x.part))∧Below w.heap.size w w':=by
 obtain ⟨a,b,c⟩:=x;have HK:=aa (show T3.part ⟨a,b,c⟩=(cH a 1 16&&(cH b 1 32&&cH c 0 65535)) from rfl);have HB:=aa ((Below.refl w.heap.size w).alloc (Nat.le_refl _) (.cells #[.int .i64 a,.int .i64 b,.int .i64 c] 147));cases h1:cH a 1 16
 ·have HR:=aa (show (!T3.part ⟨a,b,c⟩)=true by rw [HK.o,h1];rfl);go_enter Tryz.func149,Tryz.ntmps149;go_wp2_with (go_at_call 147;refine (uj _ _ _ _).mono ?_;rintro e w' ⟨rfl,rfl⟩);go_ret;exact ⟨aE HR.o.symm,HB.o⟩
 ·cases h2:cH b 1 32
  ·have HR:=aa (show (!T3.part ⟨a,b,c⟩)=true by rw [HK.o,h1,h2];rfl);go_enter Tryz.func149,Tryz.ntmps149;go_wp2_with (go_at_call 147;refine (uj _ _ _ _).mono ?_;rintro e w' ⟨rfl,rfl⟩);go_ret;exact ⟨aE HR.o.symm,HB.o⟩
  ·have HR:=aa (show (!T3.part ⟨a,b,c⟩)=!cH c 0 65535 by rw [HK.o,h1,h2];rfl);go_enter Tryz.func149,Tryz.ntmps149;go_wp2_with (go_at_call 147;refine (uj _ _ _ _).mono ?_;rintro e w' ⟨rfl,rfl⟩);go_ret;exact ⟨aE HR.o.symm,HB.o⟩
section
variable {w : World} {t : aQ} {AP AW AC : Option Addr} {nP cP nW cW nC cC : Nat}
theorem AE (h:oZ w w.heap.size t AP nP cP AW nW cW AC nC cC) (p:Int):Calls Tryz.prog 153 #[sV t.frame AP nP cP AW nW cW AC nC cC t.ay,.int .i64 p] w fun e w'=>e=.returned (.bool (cH p 0 (t.parts.length-1)))∧Below w.heap.size w w':=by
 have hm:=h.mp;have HL:=aa h.lp
 have hw:wrap64 ((nP:Int)-1)=(nP:Int)-1:=by
  unfold maxLen at hm;exact IntWalk.wrap64_in _ (by omega)
 clear h;have HB:=aa ((Below.refl w.heap.size w).alloc (Nat.le_refl _) (.cells #[.int .i64 t.frame,.slice AP nP cP,.slice AW nW cW,.slice AC nC cC,.int .i64 t.ay] 46));go_enter Tryz.func153,Tryz.ntmps153;go_wp2_with fail;refine (uj _ _ _ _).mono ?_;rintro e w' ⟨rfl,rfl⟩;rw [hw];go_wp2_with fail;go_ret;exact ⟨aE (by rw [HL.o]),HB.o⟩
abbrev da (f:Int) (AP:Option Addr) (nP cP:Nat) (AW:Option Addr) (nW cW:Nat) (AC:Option Addr) (nC cC:Nat) (tr:Int):List Value :=
 [.int .i64 f,.slice AP nP cP,.slice AW nW cW,.slice AC nC cC,.int .i64 tr]
def kU (n:Nat) (fr e:Int) (x:T3):Bool:=cH x.a 0 ((n:Int)-1)&&(decide (e≤x.b)&&(decide (x.b≤fr)&&(decide (1≤x.c)&&decide (x.c≤fr-x.b))))
def qR (n:Nat) (fr:Int):Int→List T3→Bool
 | _,[]=>true
 | e,x::l=>kU n fr e x&&qR n fr (x.b+x.c) l
def aQ.mn (t:aQ):Bool:=qR t.parts.length t.frame 0 t.aC&&((t.aC.any fun x=>x.a==0)&&decide (t.aC.length≤8))
structure WI (t:aQ) (k:Nat) (e:Int) (iJ:Bool):Prop where
 ok:qR t.parts.length t.frame 0 t.aC=qR t.parts.length t.frame e (t.aC.drop k)
 iJ:iJ=(t.aC.take k).any fun x=>x.a==0
 e0:0≤e
 e1:e≤64
theorem WI.start (t:aQ):WI t 0 0 false:=⟨by simp,by simp,by omega,by omega⟩
theorem WI.bad {t:aQ} {k:Nat} {e:Int} {iJ:Bool} (h:WI t k e iJ) (hk:k < t.aC.length) (hb:kU t.parts.length t.frame e t.aC[k]=false):t.mn=false:=by
 unfold aQ.mn;rw [h.ok,List.drop_eq_getElem_cons hk];simp [qR,hb]
theorem yh {n:Nat} {fr e:Int} {x:T3} (h:kU n fr e x=true):cH x.a 0 ((n:Int)-1)=true∧e≤x.b∧x.b≤fr∧1≤x.c∧x.c≤fr-x.b:=by
 simpa [kU] using h
theorem WI.go {t:aQ} {k:Nat} {e:Int} {iJ:Bool} (h:WI t k e iJ) (hk:k < t.aC.length) (hb:kU t.parts.length t.frame e t.aC[k]=true) (hf:t.frame≤64):WI t (k+1) (t.aC[k].b+t.aC[k].c) (iJ||(t.aC[k].a==0)):=by
 obtain ⟨_,h2,h3,h4,h5⟩:=yh hb;have:=h.e0;refine ⟨?_,?_,by omega,by omega⟩
 ·rw [h.ok,List.drop_eq_getElem_cons hk];simp [qR,hb]
 ·rw [jz hk,List.any_append,←h.iJ];simp
theorem WI.end_ {t:aQ} {e:Int} {iJ:Bool} (h:WI t t.aC.length e iJ):t.mn=(iJ&&decide (t.aC.length≤8)):=by
 have hc:=h.iJ;rw [List.take_length] at hc;unfold aQ.mn;rw [h.ok,hc];simp [qR]
theorem M5 (h:oZ w w.heap.size t AP nP cP AW nW cW AC nC cC) (hf:cH t.frame 1 64=true):Calls Tryz.prog 150 #[sV t.frame AP nP cP AW nW cW AC nC cC t.ay] w fun e w'=>e=.returned (.bool t.mn)∧Below w.heap.size w w':=by
 have HV:=aa h;have hm:=h.mw;obtain ⟨f1,f2⟩:1≤t.frame∧t.frame≤64:=by simpa [cH] using hf
 obtain ⟨fr,jR⟩:∃fr,fr=t.frame:=⟨_,rfl⟩
 obtain ⟨tr,jl⟩:∃tr,tr=t.ay:=⟨_,rfl⟩
 have pP:=aa (fun (w':World) (hb:Below w.heap.size w w') (p:Int)=>by have h1:=AE (h.over hb) p;rw [←jR,←jl] at h1;exact h1);rw [←jR,←jl];rw [←jR] at f1 f2;have HF:=aa jR;clear h hf jR jl;go_enter Tryz.func150,Tryz.ntmps150;go_upto_region 2 with fail;obtain ⟨T,hT⟩:∃T,T=w.heap.size:=⟨_,rfl⟩
 obtain ⟨w1,aJ⟩:∃w1,w1=w.alloc (.cells #[.int .i64 fr,.slice AP nP cP,.slice AW nW cW,.slice AC nC cC,.int .i64 tr] 46):=⟨_,rfl⟩
 have H1:=aa (show St w w1 [row T 46 (da fr AP nP cP AW nW cW AC nC cC tr)] by rw [aJ,hT];exact (St.nil w).new _ _);have bq:=aa aJ;have HT:=aa hT;clear aJ hT;rw [←bq.o,←HT.o];have k2:w1.cell? ⟨T,2,none⟩=some (.slice AW nW cW):=H1.o.row.1.cell 2;have lT:=H1.o.row.1.lt;go_wp2_with fail;clear k2 lT;go_loopw [3,4,10] (fun s3 s4 i wr=>∃(k:Nat) (e:Int) (iJ:Bool),k≤nW∧i=.int .i64 k∧s3=.int .i64 e∧s4=.bool iJ∧WI t k e iJ∧St w wr [row T 46 (da fr AP nP cP AW nW cW AC nC cC tr)]) (fun _ _ i _=>nW-(intOf i).toNat)
 case atStart=>exact ⟨0,0,false,by omega,rfl,rfl,rfl,WI.start t,H1.o⟩
 case round =>
  obtain ⟨k,e,iJ,hk,rfl,rfl,rfl,xE,av⟩:=hrel;have xY:=aa xE;have bJ:=aa av;have he0:=xE.e0;have QP:=xE.e1;clear xE av H1;have t0:wr.cell? ⟨T,0,none⟩=some (.int .i64 fr):=bJ.o.row.1.cell 0;have t1:wr.cell? ⟨T,1,none⟩=some (.slice AP nP cP):=bJ.o.row.1.cell 1;have t2:wr.cell? ⟨T,2,none⟩=some (.slice AW nW cW):=bJ.o.row.1.cell 2;have t3:wr.cell? ⟨T,3,none⟩=some (.slice AC nC cC):=bJ.o.row.1.cell 3;have t4:wr.cell? ⟨T,4,none⟩=some (.int .i64 tr):=bJ.o.row.1.cell 4;have lT:=bJ.o.row.1.lt;by_cases aK:k < nW
  ·have cZ:(k:Int) < (nW:Int):=by omega
   have rQ:(0:Int)≤(k:Int):=by omega
   have gZ:k < t.aC.length:=by rw [←HV.o.lw];exact aK
   obtain ⟨b,off,rfl,lb,c0,c1,c2⟩:=jh (HV.o.over bJ.o.aI).ws HV.o.lw gZ;have cx:=aa (xY.o.bad gZ);have iN:=aa (fun hb=>xY.o.go gZ hb (by rw [←HF.o];exact f2));have fG:=aa (show kU t.parts.length t.frame e t.aC[k]=_ from rfl);generalize t.aC[k]=x at c0 c1 c2 cx iN fG;obtain ⟨xa,xb,xc⟩:=x;dsimp only at c0 c1 c2;go_upto_region 5 with fail;obtain ⟨Z,hZ⟩:∃Z,Z=wr.heap.size:=⟨_,rfl⟩
   obtain ⟨w2,dY⟩:∃w2,w2=wr.alloc (.cells #[.int .i64 xa,.int .i64 xb,.int .i64 xc] 150):=⟨_,rfl⟩
   have H2:=aa (show St w w2 [row Z 150 [.int .i64 xa,.int .i64 xb,.int .i64 xc],row T 46 (da fr AP nP cP (some ⟨b,off,none⟩) nW cW AC nC cC tr)] by rw [dY,hZ];exact bJ.o.new _ _);have iL:=aa dY;have HZ:=aa hZ;clear dY hZ c0 c1 c2 lb t0 t1 t2 t3 t4 lT;rw [←iL.o,←HZ.o]
   go_cut [46] (fun s wc=>s=.bool (!kU t.parts.length t.frame e ⟨xa,xb,xc⟩)∧St w wc [row Z 150 [.int .i64 xa,.int .i64 xb,.int .i64 xc],row T 46 (da fr AP nP cP (some ⟨b,off,none⟩) nW cW AC nC cC tr)])
   case first =>
    have t0:w2.cell? ⟨T,0,none⟩=some (.int .i64 fr):=(H2.o.pick 1 rfl).row.1.cell 0;have t1:w2.cell? ⟨T,1,none⟩=some (.slice AP nP cP):=(H2.o.pick 1 rfl).row.1.cell 1;have t2:w2.cell? ⟨T,2,none⟩=some (.slice (some ⟨b,off,none⟩) nW cW):=(H2.o.pick 1 rfl).row.1.cell 2;have t3:w2.cell? ⟨T,3,none⟩=some (.slice AC nC cC):=(H2.o.pick 1 rfl).row.1.cell 3;have t4:w2.cell? ⟨T,4,none⟩=some (.int .i64 tr):=(H2.o.pick 1 rfl).row.1.cell 4;have lT:T < w2.heap.size:=(H2.o.pick 1 rfl).row.1.lt;have z0:w2.cell? ⟨Z,0,none⟩=some (.int .i64 xa):=H2.o.row.1.cell 0;have lz:Z < w2.heap.size:=H2.o.row.1.lt;go_wp2_with fail;refine (pP.o w2 H2.o.aI xa).mono ?_;rintro e' w3 ⟨rfl,mJ⟩;have H3:=aa (H2.o.below mJ);clear mJ t0 t1 t2 t3 t4 lT z0 lz;have t0:w3.cell? ⟨T,0,none⟩=some (.int .i64 fr):=(H3.o.pick 1 rfl).row.1.cell 0;have lT:T < w3.heap.size:=(H3.o.pick 1 rfl).row.1.lt;have z0:w3.cell? ⟨Z,0,none⟩=some (.int .i64 xa):=H3.o.row.1.cell 0;have z1:w3.cell? ⟨Z,1,none⟩=some (.int .i64 xb):=H3.o.row.1.cell 1;have z2:w3.cell? ⟨Z,2,none⟩=some (.int .i64 xc):=H3.o.row.1.cell 2;have lz:Z < w3.heap.size:=H3.o.row.1.lt;have HW:=aa (show kU t.parts.length t.frame e ⟨xa,xb,xc⟩=(cH xa 0 (t.parts.length-1)&&(decide (e≤xb)&&(decide (xb≤fr)&&(decide (1≤xc)&&decide (xc≤fr-xb))))) by rw [HF.o];rfl);clear fG cx iN xY;cases h1:cH xa 0 ((t.parts.length:Int)-1)
    ·have HR:=aa (show kU t.parts.length t.frame e ⟨xa,xb,xc⟩=false by rw [HW.o,h1];rfl);go_wp2_with fail;go_meet;exact ⟨by rw [HR.o];rfl,H3.o⟩
    ·rw [h1,Bool.true_and] at HW;by_cases h2:xb < e
     ·have HR:=aa (show kU t.parts.length t.frame e ⟨xa,xb,xc⟩=false by rw [HW.o,decide_eq_false (by omega:¬e≤xb)];rfl);go_wp2_with fail;go_meet;exact ⟨by rw [HR.o];rfl,H3.o⟩
     ·rw [decide_eq_true (by omega:e≤xb),Bool.true_and] at HW;by_cases h3:xb > fr
      ·have HR:=aa (show kU t.parts.length t.frame e ⟨xa,xb,xc⟩=false by rw [HW.o,decide_eq_false (by omega:¬xb≤fr)];rfl);go_wp2_with fail;go_meet;exact ⟨by rw [HR.o];rfl,H3.o⟩
      ·rw [decide_eq_true (by omega:xb≤fr),Bool.true_and] at HW;by_cases h4:xc < 1
       ·have HR:=aa (show kU t.parts.length t.frame e ⟨xa,xb,xc⟩=false by rw [HW.o,decide_eq_false (by omega:¬1≤xc)];rfl);go_wp2_with fail;go_meet;exact ⟨by rw [HR.o];rfl,H3.o⟩
       ·rw [decide_eq_true (by omega:1≤xc),Bool.true_and] at HW;have NU:wrap64 (fr-xb)=fr-xb:=IntWalk.wrap64_in _ (by omega);by_cases h5:xc > fr-xb
        ·have HR:=aa (show kU t.parts.length t.frame e ⟨xa,xb,xc⟩=false by rw [HW.o,decide_eq_false (by omega:¬xc≤fr-xb)]);go_wp2_with fail;go_meet;exact ⟨by rw [HR.o];rfl,H3.o⟩
        ·have HR:=aa (show kU t.parts.length t.frame e ⟨xa,xb,xc⟩=true by rw [HW.o,decide_eq_true (by omega:xc≤fr-xb)]);go_wp2_with fail;go_meet;exact ⟨by rw [HR.o];simp;omega,H3.o⟩
   case rest =>
    obtain ⟨rfl,av⟩:=hcut;have H3:=aa av;clear av H2 iL HZ;cases hw:kU t.parts.length t.frame e ⟨xa,xb,xc⟩
    ·have HR:=aa (cx.o hw);clear cx iN fG hw;go_wp2_with fail;go_ret;exact ⟨aE HR.o.symm,H3.o.aI⟩
    ·obtain ⟨g1,g2,g3,g4,g5⟩:=yh hw;rw [←HF.o] at g3 g5;have HR:=aa (iN.o hw);have UG:=aa (show wrap64 (xb+xc)=xb+xc from IntWalk.wrap64_in _ (by dsimp only at g2 g3 g4 g5;omega));clear cx iN fG hw g1 g2 g3 g4 g5;have z0:wc.cell? ⟨Z,0,none⟩=some (.int .i64 xa):=H3.o.row.1.cell 0;have z1:wc.cell? ⟨Z,1,none⟩=some (.int .i64 xb):=H3.o.row.1.cell 1;have z2:wc.cell? ⟨Z,2,none⟩=some (.int .i64 xc):=H3.o.row.1.cell 2;have lz:Z < wc.heap.size:=H3.o.row.1.lt;have H4:=aa H3.o.drop;have Cu:k+1≤9223372036854775807:=by unfold maxLen at hm;omega
     cases iJ
     ·cases Gr:(xa==0)
      ·have dI:=aa (show WI t (k+1) (xb+xc) false by have h:=HR.o;simp only [Gr] at h;exact h);go_wp2_with fail;go_roundw;case rel=>exact ⟨k+1,xb+xc,false,by omega,by go_num,by rw [UG.o],rfl,dI.o,H4.o⟩
       case measure=>simp [intOf]<;>omega
      ·have dI:=aa (show WI t (k+1) (xb+xc) true by have h:=HR.o;simp only [Gr] at h;exact h);go_wp2_with fail;go_roundw;case rel=>exact ⟨k+1,xb+xc,true,by omega,by go_num,by rw [UG.o],rfl,dI.o,H4.o⟩
       case measure=>simp [intOf]<;>omega
     ·have dI:=aa (show WI t (k+1) (xb+xc) true by have h:=HR.o;simp only [Bool.true_or] at h;exact h);go_wp2_with fail;go_roundw;case rel=>exact ⟨k+1,xb+xc,true,by omega,by go_num,by rw [UG.o],rfl,dI.o,H4.o⟩
      case measure=>simp [intOf]<;>omega
  ·have kJ:k=nW:=by omega
   have cZ:¬(k:Int) < (nW:Int):=by omega
   have HE:=aa (show t.mn=(iJ&&decide (nW≤8)) by
    have h:=xY.o;rw [kJ,HV.o.lw] at h
    rw [h.end_,←HV.o.lw])
   clear kJ xY;cases iJ
   ·have HR:=aa (show t.mn=false by rw [HE.o];rfl);go_wp2_with fail;go_ret;exact ⟨aE HR.o.symm,bJ.o.aI⟩
   ·have HR:=aa (show t.mn=decide (nW≤8) by rw [HE.o];rfl);by_cases h8:nW≤8
    ·have h8':(nW:Int)≤8:=by omega
     have dI:=aa (show t.mn=true by rw [HR.o,decide_eq_true h8]);go_wp2_with fail;go_ret;exact ⟨aE dI.o.symm,bJ.o.aI⟩
    ·have h8':¬(nW:Int)≤8:=by omega
     have dI:=aa (show t.mn=false by rw [HR.o,decide_eq_false h8]);go_wp2_with fail;go_ret;exact ⟨aE dI.o.symm,bJ.o.aI⟩
end
end bK
namespace bK

open Go.RowKit base obj mem sep bf
def sO (p:T3→Bool) (l:List T3):Int:=match l.findIdx? p with
 | some i=>i
 | none=>-1
theorem yT {p:T3→Bool} {l:List T3} (h:l.any p=false):sO p l=-1:=by
 have:l.findIdx? p=none:=by
  rw [List.findIdx?_eq_none_iff];intro x hx;rw [List.any_eq_false] at h;simpa using h x hx
 unfold sO;rw [this]
theorem GR {p:T3→Bool} {l:List T3} {k:Nat} (h:(l.take k).any p=false) (hk:k < l.length) (hp:p l[k]=true):sO p l=k:=by
 have:l.findIdx? p=some k:=by
  rw [List.findIdx?_eq_some_iff_getElem];refine ⟨hk,hp,fun j hj=>?_⟩;rw [List.any_eq_false] at h;exact h l[j] (by rw [List.mem_take_iff_getElem];exact ⟨j,by omega,rfl⟩)
 unfold sO;rw [this]
theorem wB {p:T3→Bool} {l:List T3} {k:Nat} (h:(l.take k).any p=false) (hk:k < l.length) (hp:p l[k]=false):(l.take (k+1)).any p=false:=by
 rw [jz hk,List.any_append,h];simp [hp]
theorem GS (p:T3→Bool) (l:List T3):decide (sO p l≥0)=l.any p:=by
 cases h:l.any p
 ·rw [yT h];rfl
 ·unfold sO;cases e:l.findIdx? p with
  | none =>
    rw [List.findIdx?_eq_none_iff] at e;rw [List.any_eq_true] at h;obtain ⟨x,hx,h2⟩:=h;have:=e x hx;simp [h2] at this
  | some i=>simp
theorem NQ (w:World) (A:Option Addr) (n c:Nat) (l:List T3) (hn:n=l.length) (hm:n≤maxLen) (hs:Sl w w.heap.size 3 A n (fW l)) (f:Nat) (jx:Array Value) (p:T3→Bool)
  (oG:∀(w:World) (x:T3),(callFunc f (#[x.agg]++jx)).run Tryz.prog w=.ok (.enter f (#[x.agg]++jx)) w)
  (hf:∀w' (x:T3),Below w.heap.size w w'→Calls Tryz.prog f (#[x.agg]++jx) w' fun e kV=>e=.returned (.bool (p x))∧Below w'.heap.size w' kV) :
  Calls Tryz.prog 184 #[.slice A n c,.func (.func f) #[] jx] w fun e w'=>e=.returned (.int .i64 (sO p l))∧Below w.heap.size w w':=by
 have HN:=aa hn;have HS:=aa hs;have HF:=aa hf;clear hn hs hf;go_enter Tryz.func184,Tryz.ntmps184;go_wp2_with fail;go_loopw [8] (fun i wr=>∃k:Nat,k≤n∧i=.int .i64 k∧(l.take k).any p=false∧Below w.heap.size w wr) (fun i _=>n-(intOf i).toNat)
 case atStart=>exact ⟨0,by omega,rfl,by simp,Below.refl _ _⟩
 case round =>
  obtain ⟨k,hk,rfl,kt,hb⟩:=hrel;have qa:=aa kt;have HB:=aa hb;clear kt hb;by_cases aK:k < n
  ·have cZ:(k:Int) < (n:Int):=by omega
   have rQ:(0:Int)≤(k:Int):=by omega
   have gZ:k < l.length:=by rw [←HN.o];exact aK
   obtain ⟨b,off,rfl,lb,c0,c1,c2⟩:=jh (HS.o.below HB.o) HN.o gZ;have lb':b < wr.heap.size:=Nat.lt_of_lt_of_le lb HB.o.size;have HC:=aa (HF.o wr l[k] HB.o);have HY:=aa (fun h=>GR qa.o gZ h);have HZ:=aa (fun h=>wB qa.o gZ h);generalize l[k]=x at c0 c1 c2 HC HY HZ;have QR:=oG wr x;have hc9:k+1≤9223372036854775807:=by unfold maxLen at hm;omega
   obtain ⟨xa,xb,xc⟩:=x;dsimp only at c0 c1 c2;cases hp:p ⟨xa,xb,xc⟩
   ·rw [hp] at HC;have HQ:=aa (HZ.o hp);clear hp HY HZ;go_wp2_with fail;refine HC.o.mono ?_;rintro e w2 ⟨rfl,bN⟩;have aO:=aa (HB.o.trans (bN.mono HB.o.size));clear bN;go_wp2_with fail;go_roundw;case rel=>exact ⟨k+1,by omega,by go_num,HQ.o,aO.o⟩
    case measure=>simp [intOf]<;>omega
   ·rw [hp] at HC;have HQ:=aa (HY.o hp);clear hp HY HZ;go_wp2_with fail;refine HC.o.mono ?_;rintro e w2 ⟨rfl,bN⟩;have aO:=aa (HB.o.trans (bN.mono HB.o.size));clear bN;go_wp2_with fail;go_ret;exact ⟨bt HQ.o.symm,aO.o⟩
  ·have kJ:k=n:=by omega
   have cZ:¬(k:Int) < (n:Int):=by omega
   have HQ:=aa (show sO p l=-1 by
    have h:=qa.o;rw [List.take_of_length_le (by rw [←HN.o];omega)] at h
    exact yT h)
   clear kJ;go_wp2_with fail;go_ret;exact ⟨bt HQ.o.symm,HB.o⟩
theorem NR (w:World) (A:Option Addr) (n c:Nat) (l:List T3) (hn:n=l.length) (hm:n≤maxLen) (hs:Sl w w.heap.size 3 A n (fW l)) (f:Nat) (jx:Array Value) (p:T3→Bool)
  (oG:∀(w:World) (x:T3),(callFunc f (#[x.agg]++jx)).run Tryz.prog w=.ok (.enter f (#[x.agg]++jx)) w)
  (hf:∀w' (x:T3),Below w.heap.size w w'→Calls Tryz.prog f (#[x.agg]++jx) w' fun e kV=>e=.returned (.bool (p x))∧Below w'.heap.size w' kV) :
  Calls Tryz.prog 185 #[.slice A n c,.func (.func f) #[] jx] w fun e w'=>e=.returned (.int .i64 (sO p l))∧Below w.heap.size w w':=by
 have HN:=aa hn;have HS:=aa hs;have HF:=aa hf;clear hn hs hf;go_enter Tryz.func185,Tryz.ntmps185;go_wp2_with fail;go_loopw [8] (fun i wr=>∃k:Nat,k≤n∧i=.int .i64 k∧(l.take k).any p=false∧Below w.heap.size w wr) (fun i _=>n-(intOf i).toNat)
 case atStart=>exact ⟨0,by omega,rfl,by simp,Below.refl _ _⟩
 case round =>
  obtain ⟨k,hk,rfl,kt,hb⟩:=hrel;have qa:=aa kt;have HB:=aa hb;clear kt hb;by_cases aK:k < n
  ·have cZ:(k:Int) < (n:Int):=by omega
   have rQ:(0:Int)≤(k:Int):=by omega
   have gZ:k < l.length:=by rw [←HN.o];exact aK
   obtain ⟨b,off,rfl,lb,c0,c1,c2⟩:=jh (HS.o.below HB.o) HN.o gZ;have lb':b < wr.heap.size:=Nat.lt_of_lt_of_le lb HB.o.size;have HC:=aa (HF.o wr l[k] HB.o);have HY:=aa (fun h=>GR qa.o gZ h);have HZ:=aa (fun h=>wB qa.o gZ h);generalize l[k]=x at c0 c1 c2 HC HY HZ;have QR:=oG wr x;have hc9:k+1≤9223372036854775807:=by unfold maxLen at hm;omega
   obtain ⟨xa,xb,xc⟩:=x;dsimp only at c0 c1 c2;cases hp:p ⟨xa,xb,xc⟩
   ·rw [hp] at HC;have HQ:=aa (HZ.o hp);clear hp HY HZ;go_wp2_with fail;refine HC.o.mono ?_;rintro e w2 ⟨rfl,bN⟩;have aO:=aa (HB.o.trans (bN.mono HB.o.size));clear bN;go_wp2_with fail;go_roundw;case rel=>exact ⟨k+1,by omega,by go_num,HQ.o,aO.o⟩
    case measure=>simp [intOf]<;>omega
   ·rw [hp] at HC;have HQ:=aa (HY.o hp);clear hp HY HZ;go_wp2_with fail;refine HC.o.mono ?_;rintro e w2 ⟨rfl,bN⟩;have aO:=aa (HB.o.trans (bN.mono HB.o.size));clear bN;go_wp2_with fail;go_ret;exact ⟨bt HQ.o.symm,aO.o⟩
  ·have kJ:k=n:=by omega
   have cZ:¬(k:Int) < (n:Int):=by omega
   have HQ:=aa (show sO p l=-1 by
    have h:=qa.o;rw [List.take_of_length_le (by rw [←HN.o];omega)] at h
    exact yT h)
   clear kJ;go_wp2_with fail;go_ret;exact ⟨bt HQ.o.symm,HB.o⟩
theorem Il (w:World) (A:Option Addr) (n c:Nat) (l:List T3) (hn:n=l.length) (hm:n≤maxLen) (hs:Sl w w.heap.size 3 A n (fW l)) (f:Nat) (jx:Array Value) (p:T3→Bool)
  (oG:∀(w:World) (x:T3),(callFunc f (#[x.agg]++jx)).run Tryz.prog w=.ok (.enter f (#[x.agg]++jx)) w)
  (hf:∀w' (x:T3),Below w.heap.size w w'→Calls Tryz.prog f (#[x.agg]++jx) w' fun e kV=>e=.returned (.bool (p x))∧Below w'.heap.size w' kV) :
  Calls Tryz.prog 148 #[.slice A n c,.func (.func f) #[] jx] w fun e w'=>e=.returned (.bool (l.any p))∧Below w.heap.size w w':=by
 have HI:=aa (NQ w A n c l hn hm hs f jx p oG hf);have HQ:=aa (GS p l);clear hn hm hs hf oG;go_enter Tryz.func148,Tryz.ntmps148;go_wp2_with fail;refine HI.o.mono ?_;rintro e w2 ⟨rfl,bN⟩;have aO:=aa bN;clear bN;go_wp2_with fail;go_ret;exact ⟨aE HQ.o,aO.o⟩
theorem Im (w:World) (A:Option Addr) (n c:Nat) (l:List T3) (hn:n=l.length) (hm:n≤maxLen) (hs:Sl w w.heap.size 3 A n (fW l)) (f:Nat) (jx:Array Value) (p:T3→Bool)
  (oG:∀(w:World) (x:T3),(callFunc f (#[x.agg]++jx)).run Tryz.prog w=.ok (.enter f (#[x.agg]++jx)) w)
  (hf:∀w' (x:T3),Below w.heap.size w w'→Calls Tryz.prog f (#[x.agg]++jx) w' fun e kV=>e=.returned (.bool (p x))∧Below w'.heap.size w' kV) :
  Calls Tryz.prog 151 #[.slice A n c,.func (.func f) #[] jx] w fun e w'=>e=.returned (.bool (l.any p))∧Below w.heap.size w w':=by
 have HI:=aa (NR w A n c l hn hm hs f jx p oG hf);have HQ:=aa (GS p l);clear hn hm hs hf oG;go_enter Tryz.func151,Tryz.ntmps151;go_wp2_with fail;refine HI.o.mono ?_;rintro e w2 ⟨rfl,bN⟩;have aO:=aa bN;clear bN;go_wp2_with fail;go_ret;exact ⟨aE HQ.o,aO.o⟩
end bK
namespace bK

open Go.RowKit base obj mem sep bf
def jb (n:Nat) (x:T3):Bool:=cH x.a 0 ((n:Int)-1)&&(cH x.b 0 ((n:Int)-1)&&(!(x.a==x.b)&&cH x.c 0 4))
def aQ.right (t:aQ):Bool:=cH t.frame 1 64&&(cH t.ay 1 7&&(cH t.parts.length 2 4&&(!(t.parts.any fun x=>!x.part)&&(t.mn&&(decide (t.au.length≤4)&&!(t.au.any fun x=>!jb t.parts.length x))))))
theorem WW (w:World) (x:T3):(callFunc 149 (#[x.agg]++#[])).run Tryz.prog w=.ok (.enter 149 (#[x.agg]++#[])) w:=by kernel_rfl
theorem TP (T:Nat) (w:World) (x:T3):(callFunc 152 (#[x.agg]++#[.pointer (some ⟨T,0,none⟩)])).run Tryz.prog w=.ok (.enter 152 (#[x.agg]++#[.pointer (some ⟨T,0,none⟩)])) w:=by kernel_rfl
section
variable {w : World} {t : aQ} {AP AW AC : Option Addr} {nP cP nW cW nC cC : Nat}
theorem Xn (h:oZ w w.heap.size t AP nP cP AW nW cW AC nC cC) {T:Nat} (hr:Row w T 46 (da t.frame AP nP cP AW nW cW AC nC cC t.ay)) (x:T3) :
  Calls Tryz.prog 152 #[x.agg,.pointer (some ⟨T,0,none⟩)] w fun e w'=>e=.returned (.bool (!jb t.parts.length x))∧Below w.heap.size w w':=by
 obtain ⟨xa,xb,xc⟩:=x;have HK:=aa (show jb t.parts.length ⟨xa,xb,xc⟩=(cH xa 0 ((t.parts.length:Int)-1)&&(cH xb 0 ((t.parts.length:Int)-1)&&(!(xa==xb)&&cH xc 0 4))) from rfl);obtain ⟨Z,hZ⟩:∃Z,Z=w.heap.size:=⟨_,rfl⟩
 obtain ⟨w1,aJ⟩:∃w1,w1=w.alloc (.cells #[.int .i64 xa,.int .i64 xb,.int .i64 xc] 152):=⟨_,rfl⟩
 have H1:=aa (show St w w1 [row Z 152 [.int .i64 xa,.int .i64 xb,.int .i64 xc]] by rw [aJ,hZ];exact (St.nil w).new _ _);have HR:=aa (fun (w':World) (hb:Below w.heap.size w w')=>hr.below hb hr.lt);have pP:=aa (fun (w':World) (hb:Below w.heap.size w w') (p:Int)=>AE (h.over hb) p);obtain ⟨fr,jR⟩:∃fr,fr=t.frame:=⟨_,rfl⟩
 obtain ⟨tr,jl⟩:∃tr,tr=t.ay:=⟨_,rfl⟩
 rw [←jR,←jl] at pP HR;have HZ:=aa hZ;have bq:=aa aJ;have lT:=aa hr.lt;clear h hr hZ aJ jR jl;go_enter Tryz.func152,Tryz.ntmps152;go_upto_region 1 with fail;rw [←bq.o,←HZ.o]
 have rows:∀w',Below w.heap.size w w'→w'.cell? ⟨T,0,none⟩=some (.int .i64 fr)∧w'.cell? ⟨T,1,none⟩=some (.slice AP nP cP)∧w'.cell? ⟨T,2,none⟩=some (.slice AW nW cW)∧w'.cell? ⟨T,3,none⟩=some (.slice AC nC cC)∧w'.cell? ⟨T,4,none⟩=some (.int .i64 tr) :=
  fun w' hb=>⟨(HR.o w' hb).cell 0,(HR.o w' hb).cell 1,(HR.o w' hb).cell 2,(HR.o w' hb).cell 3,(HR.o w' hb).cell 4⟩
 obtain ⟨t0,t1,t2,t3,t4⟩:=rows w1 H1.o.aI;have lt:T < w1.heap.size:=(HR.o w1 H1.o.aI).lt;have dO:=aa rows;clear rows;have z0:w1.cell? ⟨Z,0,none⟩=some (.int .i64 xa):=H1.o.row.1.cell 0;have lz:Z < w1.heap.size:=H1.o.row.1.lt;go_wp2_with fail;refine (pP.o w1 H1.o.aI xa).mono ?_;rintro e w2 ⟨rfl,hb⟩;have H2:=aa (H1.o.below hb);clear hb t0 t1 t2 t3 t4 lt z0 lz H1;obtain ⟨t0,t1,t2,t3,t4⟩:=dO.o w2 H2.o.aI;have lt:T < w2.heap.size:=(HR.o w2 H2.o.aI).lt;have z0:w2.cell? ⟨Z,0,none⟩=some (.int .i64 xa):=H2.o.row.1.cell 0;have z1:w2.cell? ⟨Z,1,none⟩=some (.int .i64 xb):=H2.o.row.1.cell 1;have lz:Z < w2.heap.size:=H2.o.row.1.lt;cases h1:cH xa 0 ((t.parts.length:Int)-1)
 ·have HQ:=aa (show (!jb t.parts.length ⟨xa,xb,xc⟩)=true by rw [HK.o,h1];rfl);go_wp2_with fail;go_ret;exact ⟨aE HQ.o.symm,H2.o.aI⟩
 ·rw [h1,Bool.true_and] at HK;go_wp2_with fail;refine (pP.o w2 H2.o.aI xb).mono ?_;rintro e w3 ⟨rfl,hb⟩;have H3:=aa (H2.o.below hb);clear hb t0 t1 t2 t3 t4 lt z0 z1 lz H2;have z0:w3.cell? ⟨Z,0,none⟩=some (.int .i64 xa):=H3.o.row.1.cell 0;have z1:w3.cell? ⟨Z,1,none⟩=some (.int .i64 xb):=H3.o.row.1.cell 1;have z2:w3.cell? ⟨Z,2,none⟩=some (.int .i64 xc):=H3.o.row.1.cell 2;have lz:Z < w3.heap.size:=H3.o.row.1.lt;cases h2:cH xb 0 ((t.parts.length:Int)-1)
  ·have HQ:=aa (show (!jb t.parts.length ⟨xa,xb,xc⟩)=true by rw [HK.o,h2];rfl);go_wp2_with fail;go_ret;exact ⟨aE HQ.o.symm,H3.o.aI⟩
  ·rw [h2,Bool.true_and] at HK;cases h3:(xa==xb)
   ·rw [h3,Bool.not_false,Bool.true_and] at HK;have HQ:=aa (show (!jb t.parts.length ⟨xa,xb,xc⟩)=!cH xc 0 4 by rw [HK.o]);go_wp2_with fail;refine (uj _ _ _ _).mono ?_;rintro e w4 ⟨rfl,rfl⟩;go_wp2_with fail;go_ret;exact ⟨aE HQ.o.symm,H3.o.aI⟩
   ·have HQ:=aa (show (!jb t.parts.length ⟨xa,xb,xc⟩)=true by rw [HK.o,h3];rfl);go_wp2_with fail;go_ret;exact ⟨aE HQ.o.symm,H3.o.aI⟩
theorem ft (h:oZ w w.heap.size t AP nP cP AW nW cW AC nC cC):Calls Tryz.prog 100 #[sV t.frame AP nP cP AW nW cW AC nC cC t.ay] w fun e w'=>e=.returned (.bool t.right)∧Below w.heap.size w w':=by
 have HV:=aa h;have HK:=aa (show t.right=(cH t.frame 1 64&&(cH t.ay 1 7&&(cH t.parts.length 2 4&&(!(t.parts.any fun x=>!x.part)&&(t.mn&&(decide (t.au.length≤4)&&!(t.au.any fun x=>!jb t.parts.length x))))))) from rfl);rw [←h.lp,←h.lc] at HK;obtain ⟨T,hT⟩:∃T,T=w.heap.size:=⟨_,rfl⟩
 obtain ⟨w1,aJ⟩:∃w1,w1=w.alloc (.cells #[.int .i64 t.frame,.slice AP nP cP,.slice AW nW cW,.slice AC nC cC,.int .i64 t.ay] 46):=⟨_,rfl⟩
 have H1:=aa (show St w w1 [row T 46 (da t.frame AP nP cP AW nW cW AC nC cC t.ay)] by rw [aJ,hT];exact (St.nil w).new _ _);have Hz:=aa (fun (w':World) (hs:St w w' [row T 46 (da t.frame AP nP cP AW nW cW AC nC cC t.ay)]) (x:T3)=>Xn (h.over hs.aI) hs.row.1 x);have xY:=aa (fun (w':World) (hb:Below w.heap.size w w') (hf:cH t.frame 1 64=true)=>M5 (h.over hb) hf);obtain ⟨fr,jR⟩:∃fr,fr=t.frame:=⟨_,rfl⟩
 obtain ⟨tr,jl⟩:∃tr,tr=t.ay:=⟨_,rfl⟩
 rw [←jR,←jl] at Hz H1 HK xY aJ ⊢;have bq:=aa aJ;have HT:=aa hT;clear h aJ hT jR jl;go_enter Tryz.func100,Tryz.ntmps100;go_upto_region 1 with fail;rw [←bq.o,←HT.o];have t0:w1.cell? ⟨T,0,none⟩=some (.int .i64 fr):=H1.o.row.1.cell 0;have t1:w1.cell? ⟨T,1,none⟩=some (.slice AP nP cP):=H1.o.row.1.cell 1;have t2:w1.cell? ⟨T,2,none⟩=some (.slice AW nW cW):=H1.o.row.1.cell 2;have t3:w1.cell? ⟨T,3,none⟩=some (.slice AC nC cC):=H1.o.row.1.cell 3;have t4:w1.cell? ⟨T,4,none⟩=some (.int .i64 tr):=H1.o.row.1.cell 4;have lT:=H1.o.row.1.lt;cases h1:cH fr 1 64
 ·have HQ:=aa (show t.right=false by rw [HK.o,h1];rfl);go_wp2_with (go_at_call 147;refine (uj _ _ _ _).mono ?_;rintro e w' ⟨rfl,rfl⟩);go_ret;exact ⟨aE HQ.o.symm,H1.o.aI⟩
 rw [h1,Bool.true_and] at HK;cases h2:cH tr 1 7
 ·have HQ:=aa (show t.right=false by rw [HK.o,h2];rfl);go_wp2_with (go_at_call 147;refine (uj _ _ _ _).mono ?_;rintro e w' ⟨rfl,rfl⟩);go_ret;exact ⟨aE HQ.o.symm,H1.o.aI⟩
 rw [h2,Bool.true_and] at HK;cases h3:cH nP 2 4
 ·have HQ:=aa (show t.right=false by rw [HK.o,h3];rfl);go_wp2_with (go_at_call 147;refine (uj _ _ _ _).mono ?_;rintro e w' ⟨rfl,rfl⟩);go_ret;exact ⟨aE HQ.o.symm,H1.o.aI⟩
 rw [h3,Bool.true_and] at HK;have abj:=aa (fun (w':World) (hb:Below w.heap.size w w')=>xY.o w' hb h1);go_upto_region 3 with (go_at_call 147;refine (uj _ _ _ _).mono ?_;rintro e w' ⟨rfl,rfl⟩)
 clear h1 h2 h3;go_wp2_with fail;refine (Il w' AP nP cP t.parts HV.o.lp HV.o.mp (HV.o.over H1.o.aI).ps 149 #[] (fun x=>!x.part) WW (fun w2 x _=>Zl w2 x)).mono ?_;rintro e w2 ⟨rfl,bN⟩;have H2:=aa (H1.o.below bN);clear bN t0 t1 t2 t3 t4 lT;by_cases h4:(t.parts.any fun x=>!x.part)=true
 ·have HQ:=aa (show t.right=false by rw [HK.o,h4];rfl);rw [h4];clear h4;go_wp2_with fail;go_ret;exact ⟨aE HQ.o.symm,H2.o.aI⟩
 rw [Bool.not_eq_true] at h4;rw [h4];rw [h4,Bool.not_false,Bool.true_and] at HK;clear h4;have t0:w2.cell? ⟨T,0,none⟩=some (.int .i64 fr):=H2.o.row.1.cell 0;have t1:w2.cell? ⟨T,1,none⟩=some (.slice AP nP cP):=H2.o.row.1.cell 1;have t2:w2.cell? ⟨T,2,none⟩=some (.slice AW nW cW):=H2.o.row.1.cell 2;have t3:w2.cell? ⟨T,3,none⟩=some (.slice AC nC cC):=H2.o.row.1.cell 3;have t4:w2.cell? ⟨T,4,none⟩=some (.int .i64 tr):=H2.o.row.1.cell 4;have lT:=H2.o.row.1.lt;go_wp2_with fail;refine (abj.o w2 H2.o.aI).mono ?_;rintro e w3 ⟨rfl,mJ⟩;have H3:=aa (H2.o.below mJ);clear mJ t0 t1 t2 t3 t4 lT;cases h5:t.mn
 ·have HQ:=aa (show t.right=false by rw [HK.o,h5];rfl);clear h5;go_wp2_with fail;go_ret;exact ⟨aE HQ.o.symm,H3.o.aI⟩
 rw [h5,Bool.true_and] at HK;clear h5;have t3:w3.cell? ⟨T,3,none⟩=some (.slice AC nC cC):=H3.o.row.1.cell 3;have lT:=H3.o.row.1.lt;by_cases h6:nC≤4
 ·have h6':¬(nC:Int) > 4:=by omega
  rw [decide_eq_true h6,Bool.true_and] at HK;go_wp2_with fail;refine (Im w3 AC nC cC t.au HV.o.lc HV.o.mc (HV.o.over H3.o.aI).cs 152 #[.pointer (some ⟨T,0,none⟩)] (fun x=>!jb t.parts.length x) (TP T) (fun w4 x hb=>Hz.o w4 (H3.o.below hb) x)).mono ?_;rintro e w4 ⟨rfl,oH⟩;have H4:=aa (H3.o.below oH);clear oH t3 lT;go_wp2_with fail;go_ret;exact ⟨aE (by rw [HK.o,HV.o.lp]),H4.o.aI⟩
 ·have h6':(nC:Int) > 4:=by omega
  have HQ:=aa (show t.right=false by rw [HK.o,decide_eq_false h6];rfl);go_wp2_with fail;go_ret;exact ⟨aE HQ.o.symm,H3.o.aI⟩
end
end bK
namespace bw

abbrev Ny:Nat:=3988292384
def dn (x:Nat):Nat:=(x / 2) ^^^ (if x % 2=1 then Ny else 0)
def it:Nat→Nat→Nat
 | 0,x=>x
 | k+1,x=>dn (it k x)
theorem M8 (x i:Nat):(dn x).testBit i=((x.testBit (i+1)) ^^ (x.testBit 0&&Ny.testBit i)):=by
 unfold dn;rw [Nat.testBit_xor,Nat.testBit_div_two]
 congr 1
 rw [Nat.testBit_zero];by_cases h:x % 2=1
 ·rw [if_pos h];simp [h]
 ·rw [if_neg h];simp [h]
theorem Ze (x y:Nat):dn (x ^^^ y)=dn x ^^^ dn y:=by
 apply Nat.eq_of_testBit_eq;intro i;rw [Nat.testBit_xor,M8,M8,M8,Nat.testBit_xor,Nat.testBit_xor];cases x.testBit (i+1)<;>cases y.testBit (i+1)<;>cases x.testBit 0<;>cases y.testBit 0<;>cases Ny.testBit i<;>rfl
theorem Yn (k x y:Nat):it k (x ^^^ y)=it k x ^^^ it k y:=by
 induction k with
 | zero=>rfl
 | succ k ih=>rw [it,ih,Ze];rfl
theorem ZX (k x:Nat):it k (dn x)=dn (it k x):=by
 induction k with
 | zero=>rfl
 | succ k ih=>rw [it,ih];rfl
theorem Tt (k m:Nat):it k (m*2 ^ k)=m:=by
 induction k with
 | zero=>simp [it]
 | succ k ih =>
   rw [it,←ZX]
   have:dn (m*2 ^ (k+1))=m*2 ^ k:=by
    unfold dn;rw [Nat.pow_succ,←Nat.mul_assoc,Nat.mul_mod_left,if_neg (by decide),Nat.mul_div_cancel _ (by decide)];exact Nat.xor_zero _
   rw [this,ih]
theorem XQ (x:Nat):x=(x / 256*2 ^ 8) ^^^ (x % 256):=by
 apply Nat.eq_of_testBit_eq;intro i;rw [Nat.testBit_xor,Nat.testBit_mul_two_pow,show 256=2 ^ 8 from rfl,Nat.testBit_div_two_pow,Nat.testBit_mod_two_pow];by_cases h:8≤i
 ·have h2:¬i < 8:=by omega
  simp [h,h2,Nat.sub_add_cancel h]
 ·have h2:i < 8:=by omega
  simp [h,h2]
def feed (x c:Nat):Nat:=it 8 (x ^^^ c)
theorem Ou (x c:Nat) (hc:c < 256):feed x c=(x / 256) ^^^ it 8 ((x % 256) ^^^ c):=by
 unfold feed
 conv=>lhs;rw [XQ x]
 rw [Nat.xor_assoc,Yn,Tt]
theorem aaj {x:Nat} (h:x < 2 ^ 32):dn x < 2 ^ 32:=by
 unfold dn;refine Nat.xor_lt_two_pow (by omega) ?_;split<;>decide
theorem Iu {x:Nat} (k:Nat) (h:x < 2 ^ 32):it k x < 2 ^ 32:=by
 induction k with
 | zero=>exact h
 | succ k ih=>exact aaj ih
theorem Xc {x c:Nat} (h:x < 2 ^ 32) (hc:c < 256):feed x c < 2 ^ 32:=Iu 8 (Nat.xor_lt_two_pow h (by omega))
def fold (x:Nat) (bs:List Int):Nat:=bs.foldl (fun x z=>feed x z.toNat) x
def bo (bs:List Int):Prop:=∀z∈bs,0≤z∧z≤255
theorem BQ {bs:List Int}:∀{x:Nat},x < 2 ^ 32→bo bs→fold x bs < 2 ^ 32:=by
 induction bs with
 | nil=>intro x h _;exact h
 | cons z bs ih =>
   intro x h hb;have hz:=hb z (by simp);exact ih (Xc h (by omega)) fun y hy=>hb y (by simp [hy])
theorem xS (x:Nat) (bs:List Int) (k:Nat) (hk:k < bs.length):fold x (bs.take (k+1))=feed (fold x (bs.take k)) bs[k].toNat:=by
 unfold fold;rw [jz hk,List.foldl_append];rfl
def sum (bs:List Int):Nat:=4294967295-fold 4294967295 bs
theorem zQ {bs:List Int}:sum bs < 2 ^ 32:=by unfold sum;omega
end bw
namespace num

open bw
def digit (w:Nat) (n:Nat) (j:Nat):Int:=((n / 256 ^ (w-1-j) % 256:Nat):Int)
def be (w n:Nat):List Int:=(List.range w).map (digit w n)
theorem bp (w n:Nat):(be w n).length=w:=by simp [be]
theorem pW (w n:Nat):bo (be w n):=by
 intro z hz;obtain ⟨j,_,rfl⟩:=List.mem_map.1 hz;unfold digit;omega
def val (bs:List Int):Nat:=bs.foldl (fun n z=>256*n+z.toNat) 0
theorem CT (bs:List Int) (z:Int):val (bs++[z])=256*val bs+z.toNat:=by simp [val]
theorem Xt (w n:Nat):be (w+1) n=be w (n / 256)++[((n % 256:Nat):Int)]:=by
 unfold be;rw [List.range_succ,List.map_append]
 congr 1
 ·apply List.map_congr_left;intro j hj;have QF:j < w:=List.mem_range.1 hj;unfold digit;rw [Nat.div_div_eq_div_mul,show w+1-1-j=(w-1-j)+1 from by omega,Nat.pow_succ,Nat.mul_comm]
 ·simp [digit]
theorem zO (w:Nat):∀n,n < 256 ^ w→val (be w n)=n:=by
 induction w with
 | zero=>intro n h;simp at h;subst h;rfl
 | succ w ih =>
   intro n h;rw [Xt,CT,ih (n / 256) (by rw [Nat.pow_succ] at h;omega)];simp;omega
theorem SE {p:List Int→Prop} (h0:p []) (h1:∀bs z,p bs→p (bs++[z])) (bs:List Int):p bs:=by
 rw [←List.reverse_reverse bs]
 induction bs.reverse with
 | nil=>exact h0
 | cons z l ih=>rw [List.reverse_cons];exact h1 _ _ ih
theorem qU (bs:List Int) (h:bo bs):val bs < 256 ^ bs.length:=by
 revert h
 induction bs using SE with
 | h0=>intro h;simp [val]
 | h1 bs z ih =>
   intro h;rw [CT,gA,List.length_singleton,Nat.pow_succ];have h1:=ih fun y hy=>h y (by simp [hy]);have h2:=h z (by simp);omega
theorem tI (bs:List Int) (k:Nat) (hk:k < bs.length):val (bs.take (k+1))=256*val (bs.take k)+bs[k].toNat:=by
 rw [jz hk,CT]
def dw (w:Nat) (n:Int):Nat:=if n < 0 then 0 else if (256 ^ w:Nat)≤n.toNat then 256 ^ w-1 else n.toNat
theorem Dm (w:Nat) (n:Nat) (h:n < 256 ^ w):dw w n=n:=by
 unfold dw;rw [if_neg (by omega),if_neg (by rw [ea];exact Nat.not_le.2 h),ea]
end num
namespace bytes

open Go.RowKit base obj mem
theorem NP:(Tryz.prog.info? 5).map (fun i=>(i.zero,i.size,i.bytes))=some (some (.int .u8 0),1,1):=by kernel_rfl
theorem qW:pX Tryz.prog 24 5 1 1:=by
 obtain ⟨i0,hi,j8,mF,iq⟩:=info_parts NP;exact ⟨Tryz.underlying24,⟨i0,_,hi,j8,mF,iq,rfl⟩,by decide⟩
theorem xz (bs:List Int):∀v∈bs.map (Value.int .u8),v.oneCell'=true:=by
 intro v hv;obtain ⟨_,_,rfl⟩:=List.mem_map.1 hv;rfl
theorem AY (w:World) (A:Option Addr) (n c:Nat) (xs:List Value) (hs:Sl w w.heap.size 1 A n xs) (h1:∀v∈xs,v.oneCell'=true) (hn:n≤1000000) :
  Calls Tryz.prog 170 #[.slice A n c] w fun e w'=>∃v,e=.returned v∧w'.ownsRow w.heap.size 5 1 v n xs∧Below w.heap.size w w':=by
 cases A with
 | none =>
   have Md:n=0:=by
    rcases Nat.eq_zero_or_pos n with h|h
    ·exact h
    ·obtain ⟨b,o,e,_⟩:=hs.2 h;cases e
   subst Md;have HS:=aa hs.1;clear hs h1 hn;have he:∀w:World,(binOp BinOp.eql 24 (Value.slice none 0 c) (Value.slice none 0 0)).run Tryz.prog w=.ok (.bool true) w:=fun w=>by kernel_rfl
   go_enter Tryz.func170,Tryz.ntmps170;go_wp2_with fail;go_ret;exact ⟨_,rfl,⟨HS.o,.inl ⟨rfl,rfl⟩⟩,Below.refl _ _⟩
 | some a =>
   have HS:=aa hs;have H1:=aa h1;clear hs h1;have he:∀w:World,(binOp BinOp.eql 24 (Value.slice (some a) n c) (Value.slice none 0 0)).run Tryz.prog w=.ok (.bool false) w:=fun w=>by kernel_rfl
   have eZ:=aa ((Below.refl w.heap.size w).alloc (Nat.le_refl _) (.cells #[] 5));have CF:=aa ((Row.new w 5 #[]).own (base:=w.heap.size) (size:=1) (n:=0) (cap:=0) (Nat.le_refl _) (Nat.le_refl _) (by decide) rfl);have KZ:=aa (HS.o.below eZ.o);go_enter Tryz.func170,Tryz.ntmps170;go_wp2_with (refine Ry qW rfl (.tmp 5) (.tmp 6) rfl CF.o rfl rfl (by simp) KZ.o H1.o (by omega) (by unfold maxLen;omega) (by simp) ?_;intro v2 w2 ho hg;have kG:=aa ho;have aO:=aa (iT eZ.o CF.o hg (by simp));clear ho hg);go_ret;refine ⟨v2,rfl,?_,aO.o⟩;have h:=kG.o;simpa using h
end bytes
namespace num

open Go.RowKit base obj mem bw bytes
theorem FK (w:World) (k:Nat) (h1:1≤k) (h2:k≤6):Calls Tryz.prog 169 #[.int .i64 k] w fun e w'=>e=.returned (.int .i64 k)∧w'=w:=by
 go_enter Tryz.func169,Tryz.ntmps169;go_wp2_with fail;go_ret;exact ⟨rfl,rfl⟩
theorem iX (w:World) (A:Option Addr) (n c:Nat) (xs:List Value) (hs:Sl w w.heap.size 1 A n xs) (h1:∀v∈xs,v.oneCell'=true) (hn:n≤100000) (m k:Nat) (jP:1≤k) (dC:k≤6) (hm:m < 256 ^ k) :
  Calls Tryz.prog 123 #[.slice A n c,.int .i64 m,.int .i64 k] w fun e w'=>∃v,e=.returned v∧w'.ownsRow w.heap.size 5 1 v (n+k) (xs++(be k m).map (.int .u8))∧Below w.heap.size w w':=by
 have HC:=aa (AY w A n c xs hs h1 (by omega));clear hs h1;go_enter Tryz.func123,Tryz.ntmps123;go_wp2_with fail;refine (FK _ k jP dC).mono ?_;rintro e w' ⟨rfl,rfl⟩
 have hle:(m:Int)≤wrap64 (wrap64 (2 ^ (8*k))-1):=by
  have h:(m:Int)≤256 ^ k-1:=by
   have e:((256 ^ k:Nat):Int)=(256:Int) ^ k:=by simp
   rw [←e];omega
  have h6:k=1∨k=2∨k=3∨k=4∨k=5∨k=6:=by omega
  rcases h6 with rfl|rfl|rfl|rfl|rfl|rfl<;>exact Int.le_trans h (by decide +kernel)
 go_wp2_with fail;refine HC.o.mono ?_;rintro e w1 ⟨v,rfl,ho,hb⟩;have HI:=aa (And.intro ho hb);clear ho hb HC hle;have HM:=aa hm;clear hm;go_wp2_with fail;go_loopw [8,7] (fun i v wr=>∃r:Nat,r≤k∧i=.int .i64 r∧wr.ownsRow w'.heap.size 5 1 v (n+(k-r)) (xs++((be k m).take (k-r)).map (.int .u8))∧Below w'.heap.size w' wr) (fun i _ _=>(intOf i).toNat)
 case atStart=>exact ⟨k,Nat.le_refl _,rfl,by rw [Nat.sub_self,List.take_zero,List.map_nil,List.append_nil];exact HI.o.1,HI.o.2⟩
 case round =>
  obtain ⟨r,hr,rfl,ho,hb⟩:=hrel;have HO:=aa ho;have HB:=aa hb;clear ho hb;by_cases h0:0 < r
  ·have h0':(0:Int) < (r:Int):=by omega
   obtain ⟨d,hd⟩:∃d,d=digit k m (k-r):=⟨_,rfl⟩
   have heb:(m:Int) / 2 ^ (8*(r-1)) % 256=d:=by
    rw [hd];unfold digit;rw [show k-1-(k-r)=r-1 by omega,show (256:Nat)=2 ^ 8 from rfl,←Nat.pow_mul];simp
   have vZ:(be k m).take (k-(r-1))=(be k m).take (k-r)++[d]:=by
    rw [show k-(r-1)=(k-r)+1 by omega,jz (by rw [bp];omega),hd]
    congr 2
    simp [be]
   have HD:=aa vZ;clear hd vZ;obtain ⟨A2,c2,e2,AB,_⟩:=aH HO.o;have lv:=aa HB.o.size;subst e2;go_wp2_with (at_builtin;refine MG qW rfl (.tmp 25) (.tmp 32) rfl HO.o rfl rfl rfl (by simp [Value.oneCell']) (by omega) (by unfold maxLen;omega) lv.o ?_;intro v2 w2 En tU;have aO:=aa (iT HB.o HO.o tU lv.o);have kG:=aa En;clear tU En);go_roundw
   case rel =>
    refine ⟨r-1,by omega,by congr 1;omega,?_,aO.o⟩;have h:=kG.o;rw [show n+(k-r)+1=n+(k-(r-1)) by omega] at h;rw [HD.o,List.map_append,←List.append_assoc];exact h
   case measure=>simp [intOf];omega
  ·have oz:r=0:=by omega
   have h0':¬(0:Int) < (r:Int):=by omega
   have HR:=aa oz;clear oz;go_wp2_with fail;go_ret;refine ⟨_,rfl,?_,HB.o⟩;have h:=HO.o;rw [HR.o,Nat.sub_zero,List.take_of_length_le (by rw [bp];exact Nat.le_refl _)] at h;exact h
end num
end Go.Proofs.YtdldkkoplgkloaaGreat
