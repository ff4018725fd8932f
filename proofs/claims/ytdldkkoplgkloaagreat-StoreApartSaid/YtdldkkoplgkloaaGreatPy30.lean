/-
  PROVED HERE: lemmas that the law leans on.
  CONDITIONS: each names its own.
-/
import Derived.Test.YtdldkkoplgkloaaGreatPy0
import Derived.Test.YtdldkkoplgkloaaGreatPy2
namespace Go.Proofs.YtdldkkoplgkloaaGreat
set_option linter.unusedVariables false
set_option linter.unusedSimpArgs false
set_option maxRecDepth 100000
set_option maxHeartbeats 32000000
namespace bK

open Go.RowKit base obj mem sep bf
def EN (U:List Bool):Array Value:=(U.map Value.bool).toArray
theorem Tv:(Tryz.prog.info? 4).map (fun i=>(i.zero,i.size,i.bytes))=some (some (.bool false),1,1):=by kernel_rfl
theorem NJ (k:Nat) (hk:k≤1000000) (w:World):(Instr.makeSlice 148 (.int .i64 (k:Int)) (.int .i64 (k:Int))).run Tryz.prog w=.ok (.slice (some ⟨w.heap.size,0,none⟩) k k) (w.alloc (.cells (EN (List.replicate k false)) 4)):=by
 obtain ⟨i0,hi,j8,mF,iq⟩:=info_parts Tv;have h:=zi (P:=Tryz.prog) 148 4 i0 _ Tryz.underlying148 hi j8 .i64 .i64 k k (Nat.le_refl _) (by rw [iq];omega) (by omega) w;rw [h,mF]
 have e:madeCells (Value.bool false).cells (k*1)=EN (List.replicate k false):=by
  unfold EN;apply Array.ext';rw [zk (v:=.bool false) (by decide) (by simp [Value.cells])];simp
 rw [e]
def uL (t:aQ):Bool:=cH t.frame 1 64&&(cH t.ay 1 7&&(cH t.parts.length 2 4&&(decide (t.aC.length≤8)&&decide (t.au.length≤4))))
theorem jY {t:aQ} (h:uL t=false):t.right=false:=by
 cases hr:t.right with
 | false=>rfl
 | true =>
   simp [aQ.right,aQ.mn] at hr;simp [uL,hr] at h
theorem DV {t:aQ} {k:Nat} (hk:k < t.parts.length) (h:t.parts[k].part=false):t.right=false:=by
 have h1:(t.parts.any fun x=>!x.part)=true:=List.any_eq_true.2 ⟨_,List.getElem_mem hk,by rw [h];rfl⟩;unfold aQ.right;rw [h1];simp
theorem PD {t:aQ} (h:t.mn=false):t.right=false:=by
 unfold aQ.right;rw [h];simp
theorem Nr {t:aQ} {k:Nat} (hk:k < t.au.length) (h:jb t.parts.length t.au[k]=false):t.right=false:=by
 have h1:(t.au.any fun x=>!jb t.parts.length x)=true:=List.any_eq_true.2 ⟨_,List.getElem_mem hk,by rw [h];rfl⟩;unfold aQ.right;rw [h1];simp
theorem PE {t:aQ} {e:Int} {iJ:Bool} (hs:uL t=true) (hp:(t.parts.any fun x=>!x.part)=false) (hw:WI t t.aC.length e iJ) (hc:(t.au.any fun x=>!jb t.parts.length x)=false):t.right=iJ:=by
 simp [uL] at hs;unfold aQ.right;rw [hw.end_,hp,hc];simp [hs]
structure UI (U:List Bool) (f:Nat) (last e:Int):Prop where
 len:U.length=f
 free:∀j (h:j < U.length),e≤j→U[j]=false
 used:∀j (h:j < U.length),last≤j→(j:Int) < e→U[j]=true
 le:last < e∨(last=-1∧e=0)
theorem UI.start (f:Nat):UI (List.replicate f false) f (-1) 0:=⟨by simp,fun j h _=>by simp,fun j h h1 h2=>by omega,.inr ⟨rfl,rfl⟩⟩
structure UJ (U:List Bool) (f:Nat) (b j:Nat):Prop where
 len:U.length=f
 free:∀i (h:i < U.length),j≤i→U[i]=false
 used:∀i (h:i < U.length),b≤i→i < j→U[i]=true
theorem UJ.start {U:List Bool} {f:Nat} {last e:Int} (h:UI U f last e) {b:Nat} (hb:e≤b):UJ U f b b:=⟨h.len,fun i hi hbi=>h.free i hi (by omega),fun i hi h1 h2=>by omega⟩
theorem UJ.step {U:List Bool} {f b j:Nat} (h:UJ U f b j) (hj:j < f):UJ (U.set j true) f b (j+1):=⟨by rw [List.length_set];exact h.len,fun i hi jQ=>by
 rw [List.getElem_set_ne (by omega)];exact h.free i (by rw [List.length_set] at hi;exact hi) (by omega),fun i hi h1 h2=>by
 by_cases e:j=i
 ·subst e;simp
 ·rw [List.getElem_set_ne e]
  exact h.used i (by rw [List.length_set] at hi;exact hi) h1 (by omega)⟩
theorem UJ.end_ {U:List Bool} {f b j:Nat} (h:UJ U f b j) (hbj:b < j):UI U f b j:=⟨h.len,fun i hi h1=>h.free i hi (by omega),fun i hi h1 h2=>h.used i hi (by omega) (by omega),.inl (by omega)⟩
section
variable {w : World} {t : aQ} {AP AW AC : Option Addr} {nP cP nW cW nC cC : Nat}
theorem qB (h:oZ w w.heap.size t AP nP cP AW nW cW AC nC cC):Calls Tryz.prog 34 #[sV t.frame AP nP cP AW nW cW AC nC cC t.ay] w fun e w'=>e=.returned (.bool t.right)∧Below w.heap.size w w':=by
 have HV:=aa h;have mp:=h.mp;have mw:=h.mw;have mc:=h.mc;obtain ⟨T,hT⟩:∃T,T=w.heap.size:=⟨_,rfl⟩
 obtain ⟨w1,aJ⟩:∃w1,w1=w.alloc (.cells #[.int .i64 t.frame,.slice AP nP cP,.slice AW nW cW,.slice AC nC cC,.int .i64 t.ay] 46):=⟨_,rfl⟩
 have H1:=aa (show St w w1 [row T 46 (da t.frame AP nP cP AW nW cW AC nC cC t.ay)] by rw [aJ,hT];exact (St.nil w).new _ _);have kE:=aa (show uL t=(cH t.frame 1 64&&(cH t.ay 1 7&&(cH nP 2 4&&(decide (nW≤8)&&decide (nC≤4))))) by unfold uL;rw [h.lp,h.lw,h.lc]);obtain ⟨fr,jR⟩:∃fr,fr=t.frame:=⟨_,rfl⟩
 obtain ⟨tr,jl⟩:∃tr,tr=t.ay:=⟨_,rfl⟩
 rw [←jR,←jl] at H1 kE aJ ⊢;have HF:=aa jR;have bq:=aa aJ;have HT:=aa hT;clear h aJ hT jR jl;go_enter Tryz.func34,Tryz.ntmps34;go_upto_region 1 with fail;rw [←bq.o,←HT.o];have t0:w1.cell? ⟨T,0,none⟩=some (.int .i64 fr):=H1.o.row.1.cell 0;have t1:w1.cell? ⟨T,1,none⟩=some (.slice AP nP cP):=H1.o.row.1.cell 1;have t2:w1.cell? ⟨T,2,none⟩=some (.slice AW nW cW):=H1.o.row.1.cell 2;have t3:w1.cell? ⟨T,3,none⟩=some (.slice AC nC cC):=H1.o.row.1.cell 3;have t4:w1.cell? ⟨T,4,none⟩=some (.int .i64 tr):=H1.o.row.1.cell 4;have lT:T < w1.heap.size:=H1.o.row.1.lt;by_cases q0:fr < 1
 ·have HQ:=aa (show t.right=false from jY (by rw [kE.o];unfold cH;simp;omega));go_wp2_with fail;go_ret;exact ⟨aE HQ.o.symm,H1.o.aI⟩
 ·by_cases q1:fr > 64
  ·have HQ:=aa (show t.right=false from jY (by rw [kE.o];unfold cH;simp;omega));go_wp2_with fail;go_ret;exact ⟨aE HQ.o.symm,H1.o.aI⟩
  ·by_cases q2:(nP:Int) < 2
   ·have HQ:=aa (show t.right=false from jY (by rw [kE.o];unfold cH;simp;omega));go_wp2_with fail;go_ret;exact ⟨aE HQ.o.symm,H1.o.aI⟩
   ·by_cases q3:(nP:Int) > 4
    ·have HQ:=aa (show t.right=false from jY (by rw [kE.o];unfold cH;simp;omega));go_wp2_with fail;go_ret;exact ⟨aE HQ.o.symm,H1.o.aI⟩
    ·by_cases q4:tr < 1
     ·have HQ:=aa (show t.right=false from jY (by rw [kE.o];unfold cH;simp;omega));go_wp2_with fail;go_ret;exact ⟨aE HQ.o.symm,H1.o.aI⟩
     ·by_cases q5:tr > 7
      ·have HQ:=aa (show t.right=false from jY (by rw [kE.o];unfold cH;simp;omega));go_wp2_with fail;go_ret;exact ⟨aE HQ.o.symm,H1.o.aI⟩
      ·by_cases q6:(nW:Int) > 8
       ·have HQ:=aa (show t.right=false from jY (by rw [kE.o];unfold cH;simp;omega));go_wp2_with fail;go_ret;exact ⟨aE HQ.o.symm,H1.o.aI⟩
       ·by_cases q7:(nC:Int) > 4
        ·have HQ:=aa (show t.right=false from jY (by rw [kE.o];unfold cH;simp;omega));go_wp2_with fail;go_ret;exact ⟨aE HQ.o.symm,H1.o.aI⟩
        ·have HSQ:=aa (show uL t=true by rw [kE.o];unfold cH;simp;omega);clear kE;obtain ⟨f,hf⟩:∃f:Nat,(f:Int)=fr:=⟨fr.toNat,by omega⟩
         have hf1:1≤f:=by omega
         have acs:f≤64:=by omega
         have JT:nP≤4:=by omega
         have hnw:nW≤8:=by omega
         have vY:nC≤4:=by omega
         have R3:=aa hf;clear hf;go_upto_region 4 with fail;clear t0 t1 t2 t3 t4 lT;go_wp2_with fail;go_loopw [4] (fun i wr=>∃k:Nat,k≤nP∧i=.int .i64 k∧((t.parts.take k).any fun x=>!x.part)=false∧St w wr [row T 46 (da fr AP nP cP AW nW cW AC nC cC tr)]) (fun i _=>nP-(intOf i).toNat)
         case atStart=>exact ⟨0,by omega,rfl,by simp,H1.o⟩
         case round =>
          obtain ⟨k,hk,rfl,kt,av⟩:=hrel;have bJ:=aa av;have qa:=aa kt;clear av kt H1;have t0:wr.cell? ⟨T,0,none⟩=some (.int .i64 fr):=bJ.o.row.1.cell 0;have t1:wr.cell? ⟨T,1,none⟩=some (.slice AP nP cP):=bJ.o.row.1.cell 1;have lT:T < wr.heap.size:=bJ.o.row.1.lt;by_cases aK:k < nP
          ·have cZ:(k:Int) < (nP:Int):=by omega
           have rQ:(0:Int)≤(k:Int):=by omega
           have gZ:k < t.parts.length:=by rw [←HV.o.lp];exact aK
           obtain ⟨b,off,rfl,lb,c0,c1,c2⟩:=jh (HV.o.over bJ.o.aI).ps HV.o.lp gZ;have cx:=aa (fun h=>DV gZ h);have iN:=aa (fun (h:t.parts[k].part=true)=>wB (p:=fun x=>!x.part) qa.o gZ (by simp [h]));have gq:=aa (show t.parts[k].part=(cH t.parts[k].a 1 16&&(cH t.parts[k].b 1 32&&cH t.parts[k].c 0 65535)) from rfl);generalize t.parts[k]=x at c0 c1 c2 cx iN gq;obtain ⟨xa,xb,xc⟩:=x;dsimp only at c0 c1 c2 gq;go_upto_region 8 with fail;obtain ⟨Z,hZ⟩:∃Z,Z=wr.heap.size:=⟨_,rfl⟩
           obtain ⟨w2,dY⟩:∃w2,w2=wr.alloc (.cells #[.int .i64 xa,.int .i64 xb,.int .i64 xc] 147):=⟨_,rfl⟩
           have H2:=aa (show St w w2 [row Z 147 [.int .i64 xa,.int .i64 xb,.int .i64 xc],row T 46 (da fr (some ⟨b,off,none⟩) nP cP AW nW cW AC nC cC tr)] by rw [dY,hZ];exact bJ.o.new _ _);have iL:=aa dY;have HZ:=aa hZ;clear dY hZ c0 c1 c2 lb t0 t1 lT;rw [←iL.o,←HZ.o];have z0:w2.cell? ⟨Z,0,none⟩=some (.int .i64 xa):=H2.o.row.1.cell 0;have z1:w2.cell? ⟨Z,1,none⟩=some (.int .i64 xb):=H2.o.row.1.cell 1;have z2:w2.cell? ⟨Z,2,none⟩=some (.int .i64 xc):=H2.o.row.1.cell 2;have lz:Z < w2.heap.size:=H2.o.row.1.lt;by_cases q0:xa < 1
           ·have HQ:=aa (cx.o (by rw [gq.o];unfold cH;simp;omega));clear gq cx iN;go_wp2_with fail;go_ret;exact ⟨aE HQ.o.symm,H2.o.aI⟩
           ·by_cases q1:xa > 16
            ·have HQ:=aa (cx.o (by rw [gq.o];unfold cH;simp;omega));clear gq cx iN;go_wp2_with fail;go_ret;exact ⟨aE HQ.o.symm,H2.o.aI⟩
            ·by_cases q2:xb < 1
             ·have HQ:=aa (cx.o (by rw [gq.o];unfold cH;simp;omega));clear gq cx iN;go_wp2_with fail;go_ret;exact ⟨aE HQ.o.symm,H2.o.aI⟩
             ·by_cases q3:xb > 32
              ·have HQ:=aa (cx.o (by rw [gq.o];unfold cH;simp;omega));clear gq cx iN;go_wp2_with fail;go_ret;exact ⟨aE HQ.o.symm,H2.o.aI⟩
              ·by_cases q4:xc < 0
               ·have HQ:=aa (cx.o (by rw [gq.o];unfold cH;simp;omega));clear gq cx iN;go_wp2_with fail;go_ret;exact ⟨aE HQ.o.symm,H2.o.aI⟩
               ·by_cases q5:xc > 65535
                ·have HQ:=aa (cx.o (by rw [gq.o];unfold cH;simp;omega));clear gq cx iN;go_wp2_with fail;go_ret;exact ⟨aE HQ.o.symm,H2.o.aI⟩
                ·have HQ:=aa (iN.o (by rw [gq.o];unfold cH;simp;omega));clear gq cx iN;have H3:=aa H2.o.drop;go_wp2_with fail;go_roundw;case rel=>exact ⟨k+1,by omega,by go_num,HQ.o,H3.o⟩
                 case measure=>simp [intOf]<;>omega
          ·have kJ:k=nP:=by omega
           have cZ:¬(k:Int) < (nP:Int):=by omega
           have rV:=aa (show (t.parts.any fun x=>!x.part)=false by
            have h:=qa.o;rw [List.take_of_length_le (by rw [←HV.o.lp];omega)] at h
            exact h)
           clear kJ qa;go_upto_region 10 with fail;clear t0 t1 lT aK cZ;have t0:wr.cell? ⟨T,0,none⟩=some (.int .i64 (f:Int)):=by rw [R3.o];exact bJ.o.row.1.cell 0
           have lT:T < wr.heap.size:=bJ.o.row.1.lt;have pL:=NJ f (by omega) wr;go_upto_region 11 with fail;obtain ⟨G,hG⟩:∃G,G=wr.heap.size:=⟨_,rfl⟩
           obtain ⟨w5,dQ⟩:∃w5,w5=wr.alloc (.cells (EN (List.replicate f false)) 4):=⟨_,rfl⟩
           have H5:=aa (show St w w5 [row G 4 ((List.replicate f false).map Value.bool),row T 46 (da fr AP nP cP AW nW cW AC nC cC tr)] by
            rw [dQ,hG];have h:=bJ.o.new 4 (EN (List.replicate f false))
            exact h)
           have pZ:=aa dQ;have HG:=aa hG;clear dQ hG pL t0 lT;rw [←pZ.o,←HG.o];clear bJ;go_wp2_with fail;go_loopw [7,8,9] (fun s7 s8 i wr=>∃(k:Nat) (e:Int) (iJ:Bool) (last:Int) (U:List Bool),k≤nW∧i=.int .i64 k∧s7=.int .i64 last∧s8=.bool iJ∧WI t k e iJ∧UI U f last e∧St w wr [row G 4 (U.map Value.bool),row T 46 (da fr AP nP cP AW nW cW AC nC cC tr)]) (fun _ _ i _=>nW-(intOf i).toNat)
           case atStart=>exact ⟨0,0,false,-1,List.replicate f false,by omega,rfl,rfl,rfl,WI.start t,UI.start f,H5.o⟩
           case round =>
            obtain ⟨k,e,iJ,last,U,hk,rfl,rfl,rfl,xE,hui,av⟩:=hrel;have bJ:=aa av;have xY:=aa xE;have KU:=aa hui;have he0:=xE.e0;have QP:=xE.e1;have hle:=hui.le;clear av xE hui H5;have t0:wr.cell? ⟨T,0,none⟩=some (.int .i64 fr):=(bJ.o.pick 1 rfl).row.1.cell 0;have t2:wr.cell? ⟨T,2,none⟩=some (.slice AW nW cW):=(bJ.o.pick 1 rfl).row.1.cell 2;have lT:T < wr.heap.size:=(bJ.o.pick 1 rfl).row.1.lt;by_cases aK:k < nW
            ·have cZ:(k:Int) < (nW:Int):=by omega
             have rQ:(0:Int)≤(k:Int):=by omega
             have gZ:k < t.aC.length:=by rw [←HV.o.lw];exact aK
             obtain ⟨b,off,rfl,lb,c0,c1,c2⟩:=jh (HV.o.over bJ.o.aI).ws HV.o.lw gZ;have cx:=aa (fun h=>PD (xY.o.bad gZ h));have iN:=aa (fun h=>xY.o.go gZ h (by rw [←HF.o];exact q1));have fG:=aa (show kU t.parts.length t.frame e t.aC[k]=(cH t.aC[k].a 0 ((nP:Int)-1)&&(decide (e≤t.aC[k].b)&&(decide (t.aC[k].b≤fr)&&(decide (1≤t.aC[k].c)&&decide (t.aC[k].c≤fr-t.aC[k].b))))) by rw [HF.o,HV.o.lp];rfl);generalize t.aC[k]=x at c0 c1 c2 cx iN fG;obtain ⟨xa,xb,xc⟩:=x;dsimp only at c0 c1 c2 fG;go_upto_region 17 with fail;obtain ⟨Z,hZ⟩:∃Z,Z=wr.heap.size:=⟨_,rfl⟩
             obtain ⟨w2,dY⟩:∃w2,w2=wr.alloc (.cells #[.int .i64 xa,.int .i64 xb,.int .i64 xc] 150):=⟨_,rfl⟩
             have H2:=aa (show St w w2 [row G 4 (U.map Value.bool),row Z 150 [.int .i64 xa,.int .i64 xb,.int .i64 xc],row T 46 (da fr AP nP cP (some ⟨b,off,none⟩) nW cW AC nC cC tr)] by rw [dY,hZ];exact (bJ.o.new 150 #[.int .i64 xa,.int .i64 xb,.int .i64 xc]).swap);have iL:=aa dY;have HZ:=aa hZ;clear dY hZ c0 c1 c2 lb t0 t2 lT;rw [←iL.o,←HZ.o];have t0:w2.cell? ⟨T,0,none⟩=some (.int .i64 fr):=(H2.o.pick 2 rfl).row.1.cell 0;have lT:T < w2.heap.size:=(H2.o.pick 2 rfl).row.1.lt;have z0:w2.cell? ⟨Z,0,none⟩=some (.int .i64 xa):=(H2.o.pick 1 rfl).row.1.cell 0;have z1:w2.cell? ⟨Z,1,none⟩=some (.int .i64 xb):=(H2.o.pick 1 rfl).row.1.cell 1;have z2:w2.cell? ⟨Z,2,none⟩=some (.int .i64 xc):=(H2.o.pick 1 rfl).row.1.cell 2;have lz:Z < w2.heap.size:=(H2.o.pick 1 rfl).row.1.lt;by_cases p0:xa < 0
             ·have HQ:=aa (cx.o (by rw [fG.o];unfold cH;simp;omega));clear fG cx iN;go_wp2_with fail;go_ret;exact ⟨aE HQ.o.symm,H2.o.aI⟩
             ·by_cases p1:xa≥(nP:Int)
              ·have HQ:=aa (cx.o (by rw [fG.o];unfold cH;simp;omega));clear fG cx iN;go_wp2_with fail;go_ret;exact ⟨aE HQ.o.symm,H2.o.aI⟩
              ·by_cases p2:xb < 0
               ·have HQ:=aa (cx.o (by rw [fG.o];unfold cH;simp;omega));clear fG cx iN;go_wp2_with fail;go_ret;exact ⟨aE HQ.o.symm,H2.o.aI⟩
               ·by_cases p3:xb≥fr
                ·have HQ:=aa (cx.o (by rw [fG.o];unfold cH;simp;omega));clear fG cx iN;go_wp2_with fail;go_ret;exact ⟨aE HQ.o.symm,H2.o.aI⟩
                ·by_cases p4:xc < 1
                 ·have HQ:=aa (cx.o (by rw [fG.o];unfold cH;simp;omega));clear fG cx iN;go_wp2_with fail;go_ret;exact ⟨aE HQ.o.symm,H2.o.aI⟩
                 ·by_cases p5:xc > 64
                  ·have HQ:=aa (cx.o (by rw [fG.o];unfold cH;simp;omega));clear fG cx iN;go_wp2_with fail;go_ret;exact ⟨aE HQ.o.symm,H2.o.aI⟩
                  ·by_cases p6:xb+xc > fr
                   ·have HQ:=aa (cx.o (by rw [fG.o];unfold cH;simp;omega));clear fG cx iN;go_wp2_with fail;go_ret;exact ⟨aE HQ.o.symm,H2.o.aI⟩
                   ·by_cases p7:xb≤last
                    ·have HQ:=aa (cx.o (by rw [fG.o];unfold cH;simp;omega));clear fG cx iN;go_wp2_with fail;go_ret;exact ⟨aE HQ.o.symm,H2.o.aI⟩
                    ·skip
                     obtain ⟨B,hB⟩:∃B:Nat,(B:Int)=xb:=⟨xb.toNat,by omega⟩
                     obtain ⟨C,hC⟩:∃C:Nat,(C:Int)=xb+xc:=⟨(xb+xc).toNat,by omega⟩
                     have hBf:B < f:=by have:=R3.o;omega
                     have acx:(B:Int) < (f:Int):=by omega
                     have hB0:(0:Int)≤(B:Int):=by omega
                     by_cases hbe:xb < e
                     ·have HQ:=aa (cx.o (by rw [fG.o];simp;omega));have hBU:B < U.length:=by rw [KU.o.len];exact hBf
                      have gB:w2.cell? ⟨G,B,none⟩=some (.bool true):=by
                       have h1:w2.cell? ⟨G,B,none⟩=(U.map Value.bool)[B]?:=H2.o.row.1.cell B;rw [h1,List.getElem?_map,cM hBU,KU.o.used B hBU (by omega) (by omega)];rfl
                      have lG:G < w2.heap.size:=H2.o.row.1.lt;have aaX:xb < xb+xc:=by omega
                      have HB:=aa hB;clear fG cx iN hB hC;go_upto_region 20 with fail;go_loopw [11] (fun s wr=>s=.int .i64 xb∧wr=w2) (fun _ _=>0)
                      case atStart=>exact ⟨rfl,rfl⟩
                      case round =>
                       obtain ⟨rfl,hw⟩:=hrel;rw [hw,←HB.o];rw [←HB.o] at z1 aaX;clear hw;go_wp2_with fail;go_ret;exact ⟨aE HQ.o.symm,H2.o.aI⟩
                     ·have HWO:=aa (show kU t.parts.length t.frame e ⟨xa,xb,xc⟩=true by rw [fG.o];unfold cH;simp;omega);have UB:=aa (iN.o HWO.o);have HUJ:=aa (UJ.start KU.o (b:=B) (by omega));have hBC:B < C:=by omega
                      have hCf:C≤f:=by have:=R3.o;omega
                      have acw:C≤64:=by omega
                      have HB:=aa hB;have HC:=aa hC;clear fG cx iN HWO hB hC;go_upto_region 20 with fail;rw [←HB.o];go_loopw [11] (fun s wr=>∃(j:Nat) (V:List Bool),B≤j∧j≤C∧s=.int .i64 j∧UJ V f B j∧St w wr [row G 4 (V.map Value.bool),row Z 150 [.int .i64 xa,.int .i64 xb,.int .i64 xc],row T 46 (da fr AP nP cP (some ⟨b,off,none⟩) nW cW AC nC cC tr)]) (fun s _=>C-(intOf s).toNat)
                      case atStart=>exact ⟨B,U,by omega,by omega,rfl,HUJ.o,H2.o⟩
                      case round =>
                       obtain ⟨j,V,hBj,hjC,rfl,huj,av⟩:=hrel;have HJ:=aa huj;have ET:=aa av;clear huj av H2 HUJ t0 lT z0 z1 z2 lz;have z0:wr.cell? ⟨Z,0,none⟩=some (.int .i64 xa):=(ET.o.pick 1 rfl).row.1.cell 0;have z1:wr.cell? ⟨Z,1,none⟩=some (.int .i64 xb):=(ET.o.pick 1 rfl).row.1.cell 1;have z2:wr.cell? ⟨Z,2,none⟩=some (.int .i64 xc):=(ET.o.pick 1 rfl).row.1.cell 2;have lz:Z < wr.heap.size:=(ET.o.pick 1 rfl).row.1.lt;have hCC:xb+xc=(C:Int):=HC.o.symm;by_cases iZ:j < C
                       ·have aa3:(j:Int) < (C:Int):=by omega
                        have hj0:(0:Int)≤(j:Int):=by omega
                        have hjf:(j:Int) < (f:Int):=by omega
                        have YT:j < f:=by omega
                        have hjV:j < V.length:=by rw [HJ.o.len];exact YT
                        have gj:wr.cell? ⟨G,j,none⟩=some (.bool false):=by
                         have h1:wr.cell? ⟨G,j,none⟩=(V.map Value.bool)[j]?:=ET.o.row.1.cell j;rw [h1,List.getElem?_map,cM hjV,HJ.o.free j hjV (Nat.le_refl _)];rfl
                        have fj:=ET.o.row.1.frozen j;have lG:G < wr.heap.size:=ET.o.row.1.lt
                        have H6:=aa (show St w (wr.setCell ⟨G,j,none⟩ (.bool true)) (row G 4 ((V.set j true).map Value.bool)::_) by
                         rw [List.map_set]
                         exact ET.o.set j (.bool true))
                        have HJ2:=aa (HJ.o.step YT);go_wp2_with fail;go_roundw;case rel=>exact ⟨j+1,V.set j true,by omega,by omega,by go_num,HJ2.o,H6.o⟩
                        case measure=>simp [intOf]<;>omega
                       ·have YU:j=C:=by omega
                        have aa3:¬(j:Int) < (C:Int):=by omega
                        have HU2:=aa (show UI V f xb (xb+xc) by
                         have h:=HJ.o;rw [YU] at h;have h2:=h.end_ hBC;rw [HB.o,HC.o] at h2
                         exact h2)
                        have H7:=aa ((ET.o.pick 1 rfl).drop);clear YU HJ;cases iJ
                        ·cases Gr:(xa==0)
                         ·have dI:=aa (show WI t (k+1) (xb+xc) false by have h:=UB.o;simp only [Gr] at h;exact h);go_wp2_with fail;go_roundw;case rel=>exact ⟨k+1,xb+xc,false,xb,V,by omega,by go_num,rfl,rfl,dI.o,HU2.o,H7.o⟩
                          case measure=>simp [intOf]<;>omega
                         ·have dI:=aa (show WI t (k+1) (xb+xc) true by have h:=UB.o;simp only [Gr] at h;exact h);go_wp2_with fail;go_roundw;case rel=>exact ⟨k+1,xb+xc,true,xb,V,by omega,by go_num,rfl,rfl,dI.o,HU2.o,H7.o⟩
                          case measure=>simp [intOf]<;>omega
                        ·have dI:=aa (show WI t (k+1) (xb+xc) true by have h:=UB.o;simp only [Bool.true_or] at h;exact h);go_wp2_with fail;go_roundw;case rel=>exact ⟨k+1,xb+xc,true,xb,V,by omega,by go_num,rfl,rfl,dI.o,HU2.o,H7.o⟩
                         case measure=>simp [intOf]<;>omega
            ·have kJ:k=nW:=by omega
             have cZ:¬(k:Int) < (nW:Int):=by omega
             have HWE:=aa (show WI t t.aC.length e iJ by rw [←HV.o.lw,←kJ];exact xY.o);have H8:=aa bJ.o.drop;clear kJ xY KU hle;go_upto_region 28 with fail;clear t0 t2 lT aK cZ bJ;go_loopw [12] (fun i wr=>∃k:Nat,k≤nC∧i=.int .i64 k∧((t.au.take k).any fun x=>!jb t.parts.length x)=false∧St w wr [row T 46 (da fr AP nP cP AW nW cW AC nC cC tr)]) (fun i _=>nC-(intOf i).toNat)
             case atStart=>exact ⟨0,by omega,rfl,by simp,H8.o⟩
             case round =>
             obtain ⟨k,hk,rfl,kt,av⟩:=hrel;have bJ:=aa av;have qa:=aa kt;clear av kt H8;have t3:wr.cell? ⟨T,3,none⟩=some (.slice AC nC cC):=bJ.o.row.1.cell 3;have lT:T < wr.heap.size:=bJ.o.row.1.lt;by_cases aK:k < nC
             ·have cZ:(k:Int) < (nC:Int):=by omega
              have rQ:(0:Int)≤(k:Int):=by omega
              have gZ:k < t.au.length:=by rw [←HV.o.lc];exact aK
              obtain ⟨b,off,rfl,lb,c0,c1,c2⟩:=jh (HV.o.over bJ.o.aI).cs HV.o.lc gZ;have cx:=aa (fun h=>Nr gZ h);have iN:=aa (fun (h:jb t.parts.length t.au[k]=true)=>wB (p:=fun x=>!jb t.parts.length x) qa.o gZ (by simp [h]));have gq:=aa (show jb t.parts.length t.au[k]=(cH t.au[k].a 0 ((nP:Int)-1)&&(cH t.au[k].b 0 ((nP:Int)-1)&&(!(t.au[k].a==t.au[k].b)&&cH t.au[k].c 0 4))) by rw [HV.o.lp];rfl);generalize t.au[k]=x at c0 c1 c2 cx iN gq;obtain ⟨xa,xb,xc⟩:=x;dsimp only at c0 c1 c2 gq;go_upto_region 31 with fail;obtain ⟨Z,hZ⟩:∃Z,Z=wr.heap.size:=⟨_,rfl⟩
              obtain ⟨w2,dY⟩:∃w2,w2=wr.alloc (.cells #[.int .i64 xa,.int .i64 xb,.int .i64 xc] 152):=⟨_,rfl⟩
              have H2:=aa (show St w w2 [row Z 152 [.int .i64 xa,.int .i64 xb,.int .i64 xc],row T 46 (da fr AP nP cP AW nW cW (some ⟨b,off,none⟩) nC cC tr)] by rw [dY,hZ];exact bJ.o.new _ _);have iL:=aa dY;have HZ:=aa hZ;clear dY hZ c0 c1 c2 lb t3 lT;rw [←iL.o,←HZ.o];have z0:w2.cell? ⟨Z,0,none⟩=some (.int .i64 xa):=H2.o.row.1.cell 0;have z1:w2.cell? ⟨Z,1,none⟩=some (.int .i64 xb):=H2.o.row.1.cell 1;have z2:w2.cell? ⟨Z,2,none⟩=some (.int .i64 xc):=H2.o.row.1.cell 2;have lz:Z < w2.heap.size:=H2.o.row.1.lt;by_cases p0:xa < 0
              ·have HQ:=aa (cx.o (by rw [gq.o];unfold cH;simp;omega));clear gq cx iN;go_wp2_with fail;go_ret;exact ⟨aE HQ.o.symm,H2.o.aI⟩
              ·by_cases p1:xa≥(nP:Int)
               ·have HQ:=aa (cx.o (by rw [gq.o];unfold cH;simp;omega));clear gq cx iN;go_wp2_with fail;go_ret;exact ⟨aE HQ.o.symm,H2.o.aI⟩
               ·by_cases p2:xb < 0
                ·have HQ:=aa (cx.o (by rw [gq.o];unfold cH;simp;omega));clear gq cx iN;go_wp2_with fail;go_ret;exact ⟨aE HQ.o.symm,H2.o.aI⟩
                ·by_cases p3:xb≥(nP:Int)
                 ·have HQ:=aa (cx.o (by rw [gq.o];unfold cH;simp;omega));clear gq cx iN;go_wp2_with fail;go_ret;exact ⟨aE HQ.o.symm,H2.o.aI⟩
                 ·skip
                  by_cases Mo:xa=xb
                  ·have b1:(xa==xb)=true:=by simpa using Mo
                   have HQ:=aa (cx.o (by rw [gq.o,b1];simp));clear gq cx iN Mo;go_wp2_with fail;go_ret;exact ⟨aE HQ.o.symm,H2.o.aI⟩
                  ·have b1:(xa==xb)=false:=by simpa using Mo
                   rw [b1] at gq;clear Mo;by_cases p5:xc < 0
                   ·have HQ:=aa (cx.o (by rw [gq.o];unfold cH;simp;omega));clear gq cx iN;go_wp2_with fail;go_ret;exact ⟨aE HQ.o.symm,H2.o.aI⟩
                   ·by_cases p6:xc > 4
                    ·have HQ:=aa (cx.o (by rw [gq.o];unfold cH;simp;omega));clear gq cx iN;go_wp2_with fail;go_ret;exact ⟨aE HQ.o.symm,H2.o.aI⟩
                    ·have HQ:=aa (iN.o (by rw [gq.o];unfold cH;simp;omega));clear gq cx iN;have H3:=aa H2.o.drop;go_wp2_with fail;go_roundw;case rel=>exact ⟨k+1,by omega,by go_num,HQ.o,H3.o⟩
                     case measure=>simp [intOf]<;>omega
             ·have kJ:k=nC:=by omega
              have cZ:¬(k:Int) < (nC:Int):=by omega
              have HR:=aa (show t.right=iJ from PE HSQ.o rV.o HWE.o (by
               have h:=qa.o;rw [List.take_of_length_le (by rw [←HV.o.lc];omega)] at h
               exact h))
              clear kJ qa;go_wp2_with fail;go_ret;exact ⟨aE HR.o.symm,bJ.o.aI⟩
end
end bK
end Go.Proofs.YtdldkkoplgkloaaGreat
