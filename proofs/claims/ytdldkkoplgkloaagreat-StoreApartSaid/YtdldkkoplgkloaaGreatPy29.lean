/-
  PROVED HERE: lemmas that the law leans on.
  CONDITIONS: each names its own.
-/
import Derived.Test.YtdldkkoplgkloaaGreatPy0
import Derived.Test.YtdldkkoplgkloaaGreatPy28
namespace Go.Proofs.YtdldkkoplgkloaaGreat
set_option linter.unusedVariables false
set_option linter.unusedSimpArgs false
set_option maxRecDepth 100000
set_option maxHeartbeats 32000000
namespace store


open Go.RowKit Go.Deep base obj mem sep bf bk record bP aU image bK bR chain bw
def oq (xs:List Int):List Int:=xs.set 3 (Go.bits .xor .u8 (xs.getD 3 0) 64)
def lh (i:aw) (no:Int):List Int:=if i.right∧0≤no∧no < 20∧16*no < i.bytes.length then eO i.bytes no.toNat else List.replicate 16 0
def jd (i:aw) (no:Int) (dL:Bool):List Int:=if dL then oq (lh i no) else lh i no
theorem yD (i:aw) (no:Int):(lh i no).length=16:=by
 unfold lh;split
 ·rename_i h;exact oU (by unfold dU;omega)
 ·simp
theorem uq (i:aw) (no:Int) (s:Bool):(jd i no s).length=16:=by
 unfold jd oq;split
 ·simp [yD]
 ·exact yD i no
theorem KE {w0 w:World} {l:List aD} (h:St w0 w l) (i:aw) (cu:bo i.code) (A:Option Addr) (c:Nat) (hc:i.code.length≤c) (tk:i.code.length≤9223372036854775807) (hs:Sl w w.heap.size 1 A i.code.length (aP i.code)) (no:Int) (dL:Bool) :
  Calls Tryz.prog 31 #[i.val A c,.int .i64 no,.bool dL] w fun e w'=>∃D,e=.returned (.slice (some ⟨D,0,none⟩) 16 16)∧St w0 w' (row D 5 (aP (jd i no dL))::l):=by
 have HP:=aa (fun (w':World) (hb:Below w.heap.size w w') (hr:i.right)=>FC w' i hr A c hc cu ((hs.below hb).more hb.size));have HPN:=aa (fun (w':World) (hr:¬i.right)=>L3 w' i hr A c tk);have ch:=aa (mS i);have Zw:=aa (show i.right→i.code.length≤96 from fun ⟨_,_,_,_,_,_,_,h⟩=>by omega);have CE:=aa (fun (h:i.right∧0≤no∧no < 20∧16*no < i.bytes.length)=>show lh i no=eO i.bytes no.toNat from if_pos h);have OQ:=aa (fun (h:¬(i.right∧0≤no∧no < 20∧16*no < i.bytes.length))=>show lh i no=List.replicate 16 0 from if_neg h);have UD:=aa (show jd i no dL=if dL then oq (lh i no) else lh i no from rfl);generalize jd i no dL=bl at *;generalize lh i no=pb at *;obtain ⟨bs,fZ⟩:∃v,v=i.bytes:=⟨_,rfl⟩
 rw [←fZ] at HP ch CE OQ;obtain ⟨rr,nX⟩:∃p:Prop,p=i.right:=⟨_,rfl⟩
 rw [←nX] at HP HPN Zw CE OQ;obtain ⟨n,hn⟩:∃n,n=49+i.code.length:=⟨_,rfl⟩
 rw [←hn] at HP ch;have HN:=aa hn;simp only [aw.val] at HP HPN ⊢;obtain ⟨Z,hZ⟩:∃Z,Z=w.heap.size:=⟨_,rfl⟩
 obtain ⟨D,hD⟩:∃D,D=Z+1:=⟨_,rfl⟩
 obtain ⟨w1,aJ⟩:∃w1,w1=(w.alloc (.cells #[.int .i64 i.part,.int .i64 i.version,.int .i64 i.aY,.int .i64 i.mem,.int .i64 i.fuel,.int .i64 i.aN,.int .i64 i.aB,.slice A i.code.length c] 26)).alloc (.cells (Array.replicate 16 (.int .u8 0)) 5):=⟨_,rfl⟩
 have bn:=aa (show Below w.heap.size w w1 by rw [aJ];exact (((St.nil w).new _ _).new _ _).aI)
 have H1:=aa (show St w0 w1 (row D 5 (Array.replicate 16 (Value.int .u8 0)).toList::row Z 26 [.int .i64 i.part,.int .i64 i.version,.int .i64 i.aY,.int .i64 i.mem,.int .i64 i.fuel,.int .i64 i.aN,.int .i64 i.aB,.slice A i.code.length c]::l) by
  have h3:=(h.new 26 #[.int .i64 i.part,.int .i64 i.version,.int .i64 i.aY,.int .i64 i.mem,.int .i64 i.fuel,.int .i64 i.aN,.int .i64 i.aB,.slice A i.code.length c]).new 5 (Array.replicate 16 (Value.int .u8 0));rw [←aJ] at h3;simp only [World.alloc,Array.size_push,←hZ,←hD] at h3
  exact h3)
 have bq:=aa aJ;have HZ:=aa hZ;have HD:=aa hD;generalize i.part=i0,i.version=i1,i.aY=i2,i.mem=i3,i.fuel=i4,i.aN=i5,i.aB=i6,i.code.length=i7 at *;clear h hs hn fZ cu hc aJ hZ hD nX;have pL:=Jz;go_enter Tryz.func31,Tryz.ntmps31;go_upto_region 2 with fail;rw [←bq.o,←HZ.o,←HD.o];clear pL;have r3:=(H1.o.pick 1 rfl).row.1;have t0:=r3.cell 0;have t1:=r3.cell 1;have t2:=r3.cell 2;have t3:=r3.cell 3;have t4:=r3.cell 4;have t5:=r3.cell 5;have t6:=r3.cell 6;have t7:=r3.cell 7;have lZ:=r3.lt;clear r3;by_cases hr:rr
 ·go_wp2_with fail;refine (HP.o _ bn.o hr).mono ?_;rintro e w2 ⟨v,rfl,ho,hb⟩;obtain ⟨A2,c2,rfl,AB,At⟩:=aH ho;have H2:=aa (((H1.o.pick 1 rfl).drop).cQ hb ho);have Gz:n≤145:=by have:=Zw.o hr;have:=HN.o;omega
  have Er:49≤n:=by have:=HN.o;omega
  clear t0 t1 t2 t3 t4 t5 t6 t7 lZ ho hb;by_cases et:0≤no∧no < 20∧16*no < n
  ·obtain ⟨g0,g1,g2⟩:=et;obtain ⟨q,rfl⟩:∃q:Nat,no=q:=⟨no.toNat,by omega⟩
   have vU:16*q < n:=by omega
   have EZ:=aa (show pb=eO bs q from CE.o ⟨hr,g0,g1,by rw [ch.o];exact g2⟩);obtain ⟨f,hf⟩:∃f,f=16*q:=⟨_,rfl⟩
   have W1:IntKind.i64.wrap ((q:Int)*16)=(f:Int):=by rw [IntWalk.i64_in _ (by omega)];omega
   have k0:(q:Int)≥0:=by omega
   have k1:(f:Int) < (n:Int):=by omega
   have k2:(0:Int)≤(f:Int):=by omega
   have k3:(f:Int)≤(n:Int):=by omega
   have k4:(n:Int)≤(c2:Int):=by omega
   have k5:(f:Int)≤(c2:Int):=by omega
   have k6:¬c2=f:=by omega
   obtain ⟨b,off,hA,cy,qF⟩:=(Sl.bz (H2.o.own)).2 (by omega);have HA:=aa hA;obtain ⟨cs,cX⟩:∃v,v=aP ((bs.drop (16*q)).take 16):=⟨_,rfl⟩
   have pM:cs.length=Nat.min (n-16*q) 16:=by
    rw [cX];simp [aP,ch.o,Nat.min_comm]
   have HCN:=aa pM
   have KW:=aa (show ∀j v,cs[j]?=some v→w2.cell? ((⟨b,off+f,none⟩:Addr).add j)=some v from fun j v hv=>by
    rw [show (⟨b,off+f,none⟩:Addr).add j=⟨b,off+(16*q+j),none⟩ by rw [hf];unfold Addr.add;split<;>simp_all [Nat.add_assoc]];refine qF (16*q+j) v ?_;rw [cX,aP,List.map_take,List.getElem?_take] at hv;split at hv
    ·rwa [List.map_drop,List.getElem?_drop] at hv
    ·simp at hv)
   have Lc:=aa (show 0+cs.length≤(Array.replicate 16 (Value.int .u8 0)).toList.length by rw [pM];simp only [Nat.zero_add,Array.toList_replicate,zI];exact Nat.min_le_right _ _);have zG:=aa (show ∀v∈cs,v.oneCell'=true by rw [cX];exact iO _)
   have qM:=aa (show (Array.replicate 16 (Value.int .u8 0)).toList.take 0++(cs++(Array.replicate 16 (Value.int .u8 0)).toList.drop (0+cs.length))=aP (eO bs q) by
    rw [FT (by rw [ch.o];exact vU),pM,cX,ch.o];simp only [List.take_zero,List.nil_append,Nat.zero_add,Array.toList_replicate,List.drop_replicate,aP,List.map_append,List.map_replicate]
    rw [show Nat.min (n-16*q) 16=min 16 (n-16*q) from Nat.min_comm _ _])
   have abS:=aa (show cs.length=Nat.min (n-f) 16 by rw [hf];exact pM);have oc:=aa (H2.o.pick 1 rfl).row.1;have iM:=aa (show (eO bs q).length=16 from oU (by unfold dU;rw [ch.o];omega));clear cX pM qF hA g0 g2 hf vU;rw [HA.o];go_upto_region 6 with (refine zK rfl (.tmp 31) (.tmp 35) 24 24 rfl 5 Tryz.underlying24 CU D 0 16 16 ⟨b,off+f,none⟩ (n-f) (c2-f) rfl rfl oc.o cs abS.o KW.o Lc.o zG.o _ qM.o ?_)
   have HT:=aa ((((H2.o.pick 1 rfl).setRow (aP (eO bs q))).swap).drop);have ix:=aa (show (if dL then oq (eO bs q) else eO bs q)=bl by rw [UD.o,EZ.o]);clear k0 k1 k2 k3 k4 k5 k6 W1;obtain ⟨wX,Qu⟩:∃v,v=w2.setRow D (aP (eO bs q)).toArray:=⟨_,rfl⟩
   rw [←Qu] at HT ⊢;clear Qu;generalize eO bs q=xs at *;have r:=HT.o.row.1;have lD:=r.lt;have fz:wX.frozen? ⟨D,3,none⟩=false:=r.frozen 3;obtain ⟨x3,pG⟩:∃x,xs[3]?=some x:=⟨_,cM (by rw [iM.o];omega)⟩
   have cD:wX.cell? ⟨D,3,none⟩=some (.int .u8 x3):=by rw [r.cell 3];simp [aP,pG]
   have Bd:=aa pG;clear r pG;cases dL with
   | false =>
     go_wp2_with fail;go_ret;exact ⟨D,rfl,by rw [←ix.o];exact HT.o⟩
   | true =>
     go_wp2_with fail;go_ret;refine ⟨D,rfl,?_⟩;have h:=HT.o.set 3 (.int .u8 (Go.bits .xor .u8 x3 64));rw [uv] at h;rw [←ix.o,oq,dz,Bd.o];exact h
  ·have EZ:=aa (show pb=List.replicate 16 0 from OQ.o fun h=>et ⟨h.2.1,h.2.2.1,by have:=h.2.2.2;rw [ch.o] at this;exact this⟩);have HT:=aa (show St w0 w2 (row D 5 (aP (List.replicate 16 0))::l) from (H2.o.drop).conv fun _ _ h=>h);have ix:=aa (show (if dL then oq (List.replicate 16 0) else List.replicate 16 0)=bl by rw [UD.o,EZ.o]);have iM:=aa (show (List.replicate 16 (0:Int)).length=16 by simp);generalize hgx:List.replicate 16 (0:Int)=xs at *;clear hgx;obtain ⟨wX,Qu⟩:∃v,v=w2:=⟨_,rfl⟩
   rw [←Qu] at HT ⊢;clear Qu;by_cases g0:no≥0
   ·by_cases g1:no < 20
    ·have g2:¬16*no < (n:Int):=fun h=>et ⟨g0,g1,h⟩;obtain ⟨q,rfl⟩:∃q:Nat,no=q:=⟨no.toNat,by omega⟩
     obtain ⟨f,hf⟩:∃f,f=16*q:=⟨_,rfl⟩
     have W1:IntKind.i64.wrap ((q:Int)*16)=(f:Int):=by rw [IntWalk.i64_in _ (by omega)];omega
     have k1:¬(f:Int) < (n:Int):=by omega
     clear g2 hf et;have r:=HT.o.row.1;have lD:=r.lt;have fz:wX.frozen? ⟨D,3,none⟩=false:=r.frozen 3;obtain ⟨x3,pG⟩:∃x,xs[3]?=some x:=⟨_,cM (by rw [iM.o];omega)⟩
     have cD:wX.cell? ⟨D,3,none⟩=some (.int .u8 x3):=by rw [r.cell 3];simp [aP,pG]
     have Bd:=aa pG;clear r pG;cases dL with
     | false =>
       go_wp2_with fail;go_ret;exact ⟨D,rfl,by rw [←ix.o];exact HT.o⟩
     | true =>
       go_wp2_with fail;go_ret;refine ⟨D,rfl,?_⟩;have h:=HT.o.set 3 (.int .u8 (Go.bits .xor .u8 x3 64));rw [uv] at h;rw [←ix.o,oq,dz,Bd.o];exact h
    ·clear et;have r:=HT.o.row.1;have lD:=r.lt;have fz:wX.frozen? ⟨D,3,none⟩=false:=r.frozen 3;obtain ⟨x3,pG⟩:∃x,xs[3]?=some x:=⟨_,cM (by rw [iM.o];omega)⟩
     have cD:wX.cell? ⟨D,3,none⟩=some (.int .u8 x3):=by rw [r.cell 3];simp [aP,pG]
     have Bd:=aa pG;clear r pG;cases dL with
     | false =>
       go_wp2_with fail;go_ret;exact ⟨D,rfl,by rw [←ix.o];exact HT.o⟩
     | true =>
       go_wp2_with fail;go_ret;refine ⟨D,rfl,?_⟩;have h:=HT.o.set 3 (.int .u8 (Go.bits .xor .u8 x3 64));rw [uv] at h;rw [←ix.o,oq,dz,Bd.o];exact h
   ·clear et;have r:=HT.o.row.1;have lD:=r.lt;have fz:wX.frozen? ⟨D,3,none⟩=false:=r.frozen 3;obtain ⟨x3,pG⟩:∃x,xs[3]?=some x:=⟨_,cM (by rw [iM.o];omega)⟩
    have cD:wX.cell? ⟨D,3,none⟩=some (.int .u8 x3):=by rw [r.cell 3];simp [aP,pG]
    have Bd:=aa pG;clear r pG;cases dL with
    | false =>
      go_wp2_with fail;go_ret;exact ⟨D,rfl,by rw [←ix.o];exact HT.o⟩
    | true =>
      go_wp2_with fail;go_ret;refine ⟨D,rfl,?_⟩;have h:=HT.o.set 3 (.int .u8 (Go.bits .xor .u8 x3 64));rw [uv] at h;rw [←ix.o,oq,dz,Bd.o];exact h
 ·go_wp2_with fail;refine (HPN.o _ hr).mono ?_;rintro e wX ⟨rfl,hb⟩;have EZ:=aa (show pb=List.replicate 16 0 from OQ.o fun h=>hr h.1);have HT:=aa (show St w0 wX (row D 5 (aP (List.replicate 16 0))::l) from ((((H1.o.below hb).pick 1 rfl).drop)).conv fun _ _ h=>h);have ix:=aa (show (if dL then oq (List.replicate 16 0) else List.replicate 16 0)=bl by rw [UD.o,EZ.o]);have iM:=aa (show (List.replicate 16 (0:Int)).length=16 by simp);generalize hgx:List.replicate 16 (0:Int)=xs at *;clear hgx t0 t1 t2 t3 t4 t5 t6 t7 lZ hb;have r:=HT.o.row.1;have lD:=r.lt;have fz:wX.frozen? ⟨D,3,none⟩=false:=r.frozen 3;obtain ⟨x3,pG⟩:∃x,xs[3]?=some x:=⟨_,cM (by rw [iM.o];omega)⟩
  have cD:wX.cell? ⟨D,3,none⟩=some (.int .u8 x3):=by rw [r.cell 3];simp [aP,pG]
  have Bd:=aa pG;clear r pG;cases dL with
  | false =>
    go_wp2_with fail;go_ret;exact ⟨D,rfl,by rw [←ix.o];exact HT.o⟩
  | true =>
    go_wp2_with fail;go_ret;refine ⟨D,rfl,?_⟩;have h:=HT.o.set 3 (.int .u8 (Go.bits .xor .u8 x3 64));rw [uv] at h;rw [←ix.o,oq,dz,Bd.o];exact h
end store
namespace store


open Go.RowKit Go.Deep base obj mem sep bf bk record bP aU image bK bR chain bw
def tW:aw:=⟨0,1,0,1,1,0,0,[0]⟩
def exJ:aw:=⟨1,1,0,1,1,0,0,[0]⟩
def fT:aw:=⟨0,2,0,1,1,0,0,[0]⟩
def rR:aQ:=⟨4,[⟨4,4,0⟩,⟨4,4,0⟩],[⟨0,0,1⟩],[],2⟩
def aw.row (i:aw) (K:Option Addr×Nat):List Value:=[.int .i64 i.part,.int .i64 i.version,.int .i64 i.aY,.int .i64 i.mem,.int .i64 i.fuel,.int .i64 i.aN,.int .i64 i.aB,.slice K.1 i.code.length K.2]
theorem Ov {w0 w:World} {l:List aD} (h:St w0 w l):Calls Tryz.prog 41 #[] w fun e w'=>∃gP gW gI,e=.returned (.agg #[.int .i64 4,.slice (some ⟨gP,0,none⟩) 2 2,.slice (some ⟨gW,0,none⟩) 1 1,.slice none 0 0,.int .i64 2,.slice (some ⟨gI,0,none⟩) 3 3])∧∃g2,St w0 w' (row gI 26 [.int .i64 0,.int .i64 1,.int .i64 0,.int .i64 1,.int .i64 1,.int .i64 0,.int .i64 0,.slice (some ⟨g2,0,none⟩) 1 1,.int .i64 1,.int .i64 1,.int .i64 0,.int .i64 1,.int .i64 1,.int .i64 0,.int .i64 0,.slice (some ⟨g2,0,none⟩) 1 1,.int .i64 0,.int .i64 2,.int .i64 0,.int .i64 1,.int .i64 1,.int .i64 0,.int .i64 0,.slice (some ⟨g2,0,none⟩) 1 1]::row gW 150 [.int .i64 0,.int .i64 0,.int .i64 1]::row gP 147 [.int .i64 4,.int .i64 4,.int .i64 0,.int .i64 4,.int .i64 4,.int .i64 0]::row g2 5 [.int .u8 0]::l):=by
 have H:=aa h;clear h;obtain ⟨g0,wy⟩:∃g,g=w.heap.size:=⟨_,rfl⟩
 obtain ⟨g1,hg1⟩:∃g,g=g0+1:=⟨_,rfl⟩
 obtain ⟨g2,tU⟩:∃g,g=g1+1:=⟨_,rfl⟩
 obtain ⟨g3,vd⟩:∃g,g=g2+1:=⟨_,rfl⟩
 obtain ⟨wd,xF⟩:∃wd,wd=(((w.alloc (.cells #[.int .i64 0,.slice none 0 0,.slice none 0 0,.slice none 0 0,.int .i64 0,.slice none 0 0] 49)).alloc (.cells #[.int .i64 4,.int .i64 4,.int .i64 0] 147)).alloc (.cells #[.int .u8 0] 5)).alloc (.cells #[.int .i64 0,.int .i64 1,.int .i64 0,.int .i64 1,.int .i64 1,.int .i64 0,.int .i64 0,.slice (some ⟨g2,0,none⟩) 1 1] 26):=⟨_,rfl⟩
 have HD:=aa (show St w0 wd (row g3 26 [.int .i64 0,.int .i64 1,.int .i64 0,.int .i64 1,.int .i64 1,.int .i64 0,.int .i64 0,.slice (some ⟨g2,0,none⟩) 1 1]::row g2 5 [.int .u8 0]::row g1 147 [.int .i64 4,.int .i64 4,.int .i64 0]::row g0 49 [.int .i64 0,.slice none 0 0,.slice none 0 0,.slice none 0 0,.int .i64 0,.slice none 0 0]::l) by
  have h:=(((H.o.new 49 #[.int .i64 0,.slice none 0 0,.slice none 0 0,.slice none 0 0,.int .i64 0,.slice none 0 0]).new 147 #[.int .i64 4,.int .i64 4,.int .i64 0]).new 5 #[.int .u8 0]).new 26 #[.int .i64 0,.int .i64 1,.int .i64 0,.int .i64 1,.int .i64 1,.int .i64 0,.int .i64 0,.slice (some ⟨g2,0,none⟩) 1 1];rw [←xF] at h;simp only [World.size_alloc,←wy,←hg1,←tU,←vd] at h
  exact h)
 have RI:=aa xF;have HG0:=aa wy;have HG1:=aa hg1;have HG2:=aa tU;have HG3:=aa vd;clear xF wy hg1 tU vd;go_enter Tryz.func41,Tryz.ntmps41;go_upto_region 3 with fail;rw [←HG0.o,←HG1.o,←HG2.o,←HG3.o,←RI.o]
 go_cut [3,4] (fun s3 s4 wc=>∃g4 g5,s3=.pointer (some ⟨g4,0,none⟩)∧s4=.pointer (some ⟨g5,0,none⟩)∧St w0 wc (row g5 26 [.int .i64 0,.int .i64 1,.int .i64 0,.int .i64 1,.int .i64 1,.int .i64 0,.int .i64 0,.slice (some ⟨g2,0,none⟩) 1 1]::row g4 26 [.int .i64 0,.int .i64 1,.int .i64 0,.int .i64 1,.int .i64 1,.int .i64 0,.int .i64 0,.slice (some ⟨g2,0,none⟩) 1 1]::row g3 26 [.int .i64 0,.int .i64 1,.int .i64 0,.int .i64 1,.int .i64 1,.int .i64 0,.int .i64 0,.slice (some ⟨g2,0,none⟩) 1 1]::row g2 5 [.int .u8 0]::row g1 147 [.int .i64 4,.int .i64 4,.int .i64 0]::row g0 49 [.int .i64 0,.slice none 0 0,.slice none 0 0,.slice none 0 0,.int .i64 0,.slice none 0 0]::l))
 case first =>
  have r3:=HD.o.row.1;have t0:=r3.cell 0;have t1:=r3.cell 1;have t2:=r3.cell 2;have t3:=r3.cell 3;have t4:=r3.cell 4;have t5:=r3.cell 5;have t6:=r3.cell 6;have t7:=r3.cell 7;have l3:=r3.lt;clear r3
  have HN:=aa (show St w0 ((wd.alloc (.cells #[.int .i64 0,.int .i64 1,.int .i64 0,.int .i64 1,.int .i64 1,.int .i64 0,.int .i64 0,.slice (some ⟨g2,0,none⟩) 1 1] 26)).alloc (.cells #[.int .i64 0,.int .i64 1,.int .i64 0,.int .i64 1,.int .i64 1,.int .i64 0,.int .i64 0,.slice (some ⟨g2,0,none⟩) 1 1] 26)).drew (row (wd.heap.size+1) 26 [.int .i64 0,.int .i64 1,.int .i64 0,.int .i64 1,.int .i64 1,.int .i64 0,.int .i64 0,.slice (some ⟨g2,0,none⟩) 1 1]::row wd.heap.size 26 [.int .i64 0,.int .i64 1,.int .i64 0,.int .i64 1,.int .i64 1,.int .i64 0,.int .i64 0,.slice (some ⟨g2,0,none⟩) 1 1]::row g3 26 [.int .i64 0,.int .i64 1,.int .i64 0,.int .i64 1,.int .i64 1,.int .i64 0,.int .i64 0,.slice (some ⟨g2,0,none⟩) 1 1]::row g2 5 [.int .u8 0]::row g1 147 [.int .i64 4,.int .i64 4,.int .i64 0]::row g0 49 [.int .i64 0,.slice none 0 0,.slice none 0 0,.slice none 0 0,.int .i64 0,.slice none 0 0]::l) by
   have h:=(((HD.o.new 26 #[.int .i64 0,.int .i64 1,.int .i64 0,.int .i64 1,.int .i64 1,.int .i64 0,.int .i64 0,.slice (some ⟨g2,0,none⟩) 1 1]).new 26 #[.int .i64 0,.int .i64 1,.int .i64 0,.int .i64 1,.int .i64 1,.int .i64 0,.int .i64 0,.slice (some ⟨g2,0,none⟩) 1 1])).drew;simp only [World.size_alloc] at h
   exact h)
  go_region
  ·go_wp2_with fail;go_meet;exact ⟨_,_,rfl,rfl,HN.o⟩
  ·go_wp2_with fail;go_meet;exact ⟨_,_,rfl,rfl,HN.o.swap⟩
 case rest =>
 obtain ⟨g4,g5,rfl,rfl,av⟩:=hcut;obtain ⟨w6,hw⟩:∃x,x=wc:=⟨_,rfl⟩
 subst hw;have bJ:=aa av;have r5:=av.row.1;have r4:=(av.pick 1 rfl).row.1;have f5:=r5.frozen 1;have f4:=r4.frozen 0;have c5:=r5.cell 1;have c4:=r4.cell 0;have l5:=r5.lt;have l4:=r4.lt;clear av r5 r4;go_upto_region 5 with fail;have h7:=(((bJ.o.pick 1 rfl).set 0 (.int .i64 1)).swap).set 1 (.int .i64 2);obtain ⟨w7,vO⟩:∃x,x=(w6.setCell ⟨g4,0,none⟩ (.int .i64 1)).setCell ⟨g5,1,none⟩ (.int .i64 2):=⟨_,rfl⟩
 rw [←vO] at h7 ⊢;have H7:=aa h7;have r5:=h7.row.1;have r4:=(h7.pick 1 rfl).row.1;have r3:=(h7.pick 2 rfl).row.1;have r1:=(h7.pick 4 rfl).row.1;clear f5 f4 c5 c4 l5 l4 vO h7;simp only [List.set_cons_zero,List.set_cons_succ] at r5 r4;have x0:=r5.cell 0;have x1:=r5.cell 1;have x2:=r5.cell 2;have x3:=r5.cell 3;have x4:=r5.cell 4;have x5:=r5.cell 5;have x6:=r5.cell 6;have x7:=r5.cell 7;have l5:=r5.lt;have y0:=r4.cell 0;have y1:=r4.cell 1;have y2:=r4.cell 2;have y3:=r4.cell 3;have y4:=r4.cell 4;have y5:=r4.cell 5;have y6:=r4.cell 6;have y7:=r4.cell 7;have l4:=r4.lt;have z0:=r3.cell 0;have z1:=r3.cell 1;have z2:=r3.cell 2;have z3:=r3.cell 3;have z4:=r3.cell 4;have z5:=r3.cell 5;have z6:=r3.cell 6;have z7:=r3.cell 7;have l3:=r3.lt;have p0:=r1.cell 0;have p1:=r1.cell 1;have p2:=r1.cell 2;have l1:=r1.lt;clear r5 r4 r3 r1;obtain ⟨gP,hgP⟩:∃g,g=w7.heap.size:=⟨_,rfl⟩
 obtain ⟨gW,hgW⟩:∃g,g=gP+1:=⟨_,rfl⟩
 obtain ⟨gI,hgI⟩:∃g,g=gW+1:=⟨_,rfl⟩
 have HX:=aa (show St w0 (((w7.alloc (.cells #[.int .i64 4,.int .i64 4,.int .i64 0,.int .i64 4,.int .i64 4,.int .i64 0] 147)).alloc (.cells #[.int .i64 0,.int .i64 0,.int .i64 1] 150)).alloc (.cells #[.int .i64 0,.int .i64 1,.int .i64 0,.int .i64 1,.int .i64 1,.int .i64 0,.int .i64 0,.slice (some ⟨g2,0,none⟩) 1 1,.int .i64 1,.int .i64 1,.int .i64 0,.int .i64 1,.int .i64 1,.int .i64 0,.int .i64 0,.slice (some ⟨g2,0,none⟩) 1 1,.int .i64 0,.int .i64 2,.int .i64 0,.int .i64 1,.int .i64 1,.int .i64 0,.int .i64 0,.slice (some ⟨g2,0,none⟩) 1 1] 26)) (row gI 26 [.int .i64 0,.int .i64 1,.int .i64 0,.int .i64 1,.int .i64 1,.int .i64 0,.int .i64 0,.slice (some ⟨g2,0,none⟩) 1 1,.int .i64 1,.int .i64 1,.int .i64 0,.int .i64 1,.int .i64 1,.int .i64 0,.int .i64 0,.slice (some ⟨g2,0,none⟩) 1 1,.int .i64 0,.int .i64 2,.int .i64 0,.int .i64 1,.int .i64 1,.int .i64 0,.int .i64 0,.slice (some ⟨g2,0,none⟩) 1 1]::row gW 150 [.int .i64 0,.int .i64 0,.int .i64 1]::row gP 147 [.int .i64 4,.int .i64 4,.int .i64 0,.int .i64 4,.int .i64 4,.int .i64 0]::_) by
  have h:=((H7.o.new 147 #[.int .i64 4,.int .i64 4,.int .i64 0,.int .i64 4,.int .i64 4,.int .i64 0]).new 150 #[.int .i64 0,.int .i64 0,.int .i64 1]).new 26 #[.int .i64 0,.int .i64 1,.int .i64 0,.int .i64 1,.int .i64 1,.int .i64 0,.int .i64 0,.slice (some ⟨g2,0,none⟩) 1 1,.int .i64 1,.int .i64 1,.int .i64 0,.int .i64 1,.int .i64 1,.int .i64 0,.int .i64 0,.slice (some ⟨g2,0,none⟩) 1 1,.int .i64 0,.int .i64 2,.int .i64 0,.int .i64 1,.int .i64 1,.int .i64 0,.int .i64 0,.slice (some ⟨g2,0,none⟩) 1 1];simp only [World.size_alloc,←hgP,←hgW,←hgI] at h
  exact h)
 have HR:=aa (HX.o.pick 8 rfl).row.1;have MS:=aa (show (Tryz.prog.info? 49).map (·.size)=some (#[.int .i64 4,.slice (some ⟨gP,0,none⟩) 2 2,.slice (some ⟨gW,0,none⟩) 1 1,.slice none 0 0,.int .i64 2,.slice (some ⟨gI,0,none⟩) 3 3]:Array Value).size from by kernel_rfl);have HS:=aa ((HX.o.pick 8 rfl).setRow [.int .i64 4,.slice (some ⟨gP,0,none⟩) 2 2,.slice (some ⟨gW,0,none⟩) 1 1,.slice none 0 0,.int .i64 2,.slice (some ⟨gI,0,none⟩) 3 3]);have MT:=aa hgP;have HGW:=aa hgW;have HGI:=aa hgI;clear hgP hgW hgI;go_wp2_with ((rw [←MT.o,←HGW.o,←HGI.o]);with_reducible refine aF rfl 49 (.tmp 0) (.tmp 22) rfl g0 0 #[.int .i64 4,.slice (some ⟨gP,0,none⟩) 2 2,.slice (some ⟨gW,0,none⟩) 1 1,.slice none 0 0,.int .i64 2,.slice (some ⟨gI,0,none⟩) 3 3] rfl rfl HR.o MS.o (Nat.le_refl _) (by simp [Value.oneCell']) [.int .i64 4,.slice (some ⟨gP,0,none⟩) 2 2,.slice (some ⟨gW,0,none⟩) 1 1,.slice none 0 0,.int .i64 2,.slice (some ⟨gI,0,none⟩) 3 3] rfl ?_);refine bodyPost_ret (results_cell_row rfl _ _ g0 _ _ _ _ rfl HS.o.row.1 Tryz.underlying49 rfl (by kernel_rfl)) rfl ?_;refine ⟨gP,gW,gI,rfl,g2,?_⟩;have h1:=HS.o.drop;have h2:=(h1.pick 7 rfl).drop;have h3:=(h2.pick 3 rfl).drop;have h4:=(h3.pick 3 rfl).drop;have h5:=(h4.pick 3 rfl).drop;exact h5
end store
namespace store


open Go.RowKit Go.Deep base obj mem sep bf bk record bP aU image bK bR chain bw
def exA (gP gW:Nat):en:=⟨some ⟨gP,0,none⟩,2,some ⟨gW,0,none⟩,1,none,0⟩
def EG:List aw:=[tW,exJ,fT]
def Ow (g2:Nat):List Value:=[.int .i64 0,.int .i64 1,.int .i64 0,.int .i64 1,.int .i64 1,.int .i64 0,.int .i64 0,.slice (some ⟨g2,0,none⟩) 1 1,.int .i64 1,.int .i64 1,.int .i64 0,.int .i64 1,.int .i64 1,.int .i64 0,.int .i64 0,.slice (some ⟨g2,0,none⟩) 1 1,.int .i64 0,.int .i64 2,.int .i64 0,.int .i64 1,.int .i64 1,.int .i64 0,.int .i64 0,.slice (some ⟨g2,0,none⟩) 1 1]
def EH (gP gW gI g2:Nat):aD:=dr [row gI 26 (Ow g2),row gW 150 [.int .i64 0,.int .i64 0,.int .i64 1],row gP 147 [.int .i64 4,.int .i64 4,.int .i64 0,.int .i64 4,.int .i64 4,.int .i64 0],row g2 5 [.int .u8 0]]
theorem Ua {w0 w:World} {l:List aD} {gP gW gI g2:Nat} (h:St w0 w (row gI 26 (Ow g2)::row gW 150 [.int .i64 0,.int .i64 0,.int .i64 1]::row gP 147 [.int .i64 4,.int .i64 4,.int .i64 0,.int .i64 4,.int .i64 4,.int .i64 0]::row g2 5 [.int .u8 0]::l)):St w0 w (EH gP gW gI g2::l) :=
 St.eR (L:=[row gI 26 (Ow g2),row gW 150 [.int .i64 0,.int .i64 0,.int .i64 1],row gP 147 [.int .i64 4,.int .i64 4,.int .i64 0,.int .i64 4,.int .i64 4,.int .i64 0],row g2 5 [.int .u8 0]]) h
theorem yW {w0 w:World} {l:List aD} {gP gW gI g2:Nat} (h:St w0 w (EH gP gW gI g2::l)):St w0 w (row gI 26 (Ow g2)::row gW 150 [.int .i64 0,.int .i64 0,.int .i64 1]::row gP 147 [.int .i64 4,.int .i64 4,.int .i64 0,.int .i64 4,.int .i64 4,.int .i64 0]::row g2 5 [.int .u8 0]::l):=h.fI
theorem Za {w0 w:World} {l:List aD} {gP gW gI g2:Nat} (h:St w0 w (EH gP gW gI g2::l)):ma w (exA gP gW) rR:=by
 have h1:=yW h;have hW:=(h1.pick 1 rfl).row.1;have hP:=(h1.pick 2 rfl).row.1;exact ⟨hP.sl (size:=3) (n:=2) (o:=0) hP.lt rfl rfl,hW.sl (size:=3) (n:=1) (o:=0) hW.lt rfl rfl,Sl.Fy _ _ _,rfl,rfl,rfl,by show 2≤maxLen;unfold maxLen;omega,by show 1≤maxLen;unfold maxLen;omega,Nat.zero_le _⟩
theorem Vu {w0 w:World} {l:List aD} {gP gW gI g2:Nat} (h:St w0 w (EH gP gW gI g2::l)):Sl w w.heap.size 1 (some ⟨g2,0,none⟩) 1 (aP [0]):=by
 have h2:=((yW h).pick 3 rfl).row.1;exact h2.sl (size:=1) (n:=1) (o:=0) h2.lt rfl rfl
theorem Xf (w0:World) (gP gW gI g2 n:Nat) (hn:n≤3):zd w0 (EH gP gW gI g2) (EG.take n) (some ⟨gI,0,none⟩) n (fun _=>(some ⟨g2,0,none⟩,1)):=by
 intro w l h;have hI:=(yW h).row.1;have hs:=Vu h;have hc:=fun k=>hI.cell k;refine ⟨by simp [EG];omega,?_,fun k hk=>⟨gI,0,rfl,hI.lt,?_⟩⟩
 ·intro i hi;have:i∈EG:=List.mem_of_mem_take hi;simp only [EG,List.mem_cons,List.not_mem_nil,or_false] at this;rcases this with rfl|rfl|rfl<;>(intro z hz;simp [tW,exJ,fT] at hz;subst hz;omega)
 ·have hg:(EG.take n).getD k aw.none=EG.getD k aw.none:=by
   simp only [dz,List.getElem?_take,if_pos hk]
  rw [hg];rcases (by omega:k=0∨k=1∨k=2) with rfl|rfl|rfl
  ·exact ⟨hc 0,hc 1,hc 2,hc 3,hc 4,hc 5,hc 6,hc 7,Nat.le_refl _,hs⟩
  ·exact ⟨hc 8,hc 9,hc 10,hc 11,hc 12,hc 13,hc 14,hc 15,Nat.le_refl _,hs⟩
  ·exact ⟨hc 16,hc 17,hc 18,hc 19,hc 20,hc 21,hc 22,hc 23,Nat.le_refl _,hs⟩
end store
namespace store


open Go.RowKit Go.Deep base obj mem sep bf bk record bP aU image bK bR chain bw
theorem Po:(Tryz.prog.info? 118).map (fun i=>(i.zero,i.size,i.bytes))=some (some (.agg #[.bool false,.int .i64 0,.int .i64 0,.int .i64 0,.slice none 0 0]),5,56):=by kernel_rfl
theorem DO:pX Tryz.prog 63 118 5 56:=by
 obtain ⟨i0,hi,j8,mF,iq⟩:=info_parts Po;exact ⟨Tryz.underlying63,⟨i0,_,hi,j8,mF,iq,rfl⟩,by decide⟩
theorem Tw:(Tryz.prog.info? 26).map (fun i=>(i.zero,i.size,i.bytes))=some (some (.agg #[.int .i64 0,.int .i64 0,.int .i64 0,.int .i64 0,.int .i64 0,.int .i64 0,.int .i64 0,.slice none 0 0]),8,80):=by kernel_rfl
theorem Ng:pX Tryz.prog 47 26 8 80:=by
 obtain ⟨i0,hi,j8,mF,iq⟩:=info_parts Tw;exact ⟨Tryz.underlying47,⟨i0,_,hi,j8,mF,iq,rfl⟩,by decide⟩
theorem Py:(Tryz.prog.info? 65).map (fun i=>(i.zero,i.size,i.bytes))=some (some (.agg #[.int .i64 0,.int .i64 0,.int .i64 0,.int .i64 0,.int .i64 0,.int .i64 0,.slice none 0 0,.slice none 0 0]),8,96):=by kernel_rfl
theorem I8:pX Tryz.prog 66 65 8 96:=by
 obtain ⟨i0,hi,j8,mF,iq⟩:=info_parts Py;exact ⟨Tryz.underlying66,⟨i0,_,hi,j8,mF,iq,rfl⟩,by decide⟩
theorem xV {t e size bytes:Nat} (T:pX Tryz.prog t e size bytes) {ops:Array Oper} {rest:List Oper} {o:Oper} {a:Act} {Q:Exit→Act→World→Prop} {w0 w:World} {l:List aD} (ew:o.guard=none) (s x:Operand)
  (ho:o.op=.call { callee:=.builtin .append,args:=#[s,x],argTypes:=#[t,t] }) {v:Value} {n:Nat} {xs:List Value} (H:St w0 w (own e size v n xs::l)) (hs:a.eval s=v) {m:Nat} (zs:List Value) (hz:zs.length=m*size) (h1:∀u∈zs,u.oneCell'=true)
  (hx:a.eval x=.slice (some ⟨w.heap.size,0,none⟩) m m) (hm:0 < m) (hb:(n+m)*bytes≤140737488355328) (qG:n+m≤maxLen)
  (h:∀g c w',St w0 w' (own e size (.slice (some ⟨g,0,none⟩) (n+m) c) (n+m) (xs++zs)::l)→wpList Tryz.prog ops Q rest (a.put o.dst (.slice (some ⟨g,0,none⟩) (n+m) c)) w'):wpList Tryz.prog ops Q (o::rest) a (w.alloc (.cells zs.toArray e)):=by
 have HX:=(H.new e zs.toArray).swap;exact sI T ew s x ho HX.own hs hx ((Row.new w e zs.toArray).sl (B:=w.heap.size+1) (size:=size) (n:=m) (o:=0) (ys:=zs) (Nat.lt_succ_self _) (by rw [List.drop_zero,List.take_of_length_le (by simp [hz])]) hz) h1 hm hb qG HX.aI.size fun g cap w' ho hg kr _=>h g cap w' ((HX.grown hg ho (fun g' wz=>by cases wz;exact kr)).swap.drop)
end store
namespace store


open Go.RowKit Go.Deep base obj mem sep bf bk record bP aU image bK bR chain bw
structure RP where
 aA:Rec
 s0:RS
 s1:RS
 i0:aw
 i1:aw
structure dH where
 vS:Value
 vI:Value
 v0:Value
 v1:Value
 oo:List Value
 sS:List Value
 K0:Option Addr×Nat
 K1:Option Addr×Nat
def iF (P:List (Nat×List Value)) (a:dH) (x:RP):aD:=dr [fact (o8 P x.s0.blocks a.oo∧o8 P x.s1.blocks a.sS),own 118 5 a.vS 2 (bE x.s0 a.v0++bE x.s1 a.v1),own 24 1 a.v0 x.s0.blocks.length a.oo,own 24 1 a.v1 x.s1.blocks.length a.sS,own 26 8 a.vI 2 (aw.row x.i0 a.K0++aw.row x.i1 a.K1)]
def eE (y:dH×RP):List Value:=y.2.aA.cells.toList++[y.1.vS,y.1.vI]
def dg (ys:List (dH×RP)):List Value:=(ys.map eE).flatten
def ee (P:List (Nat×List Value)) (ys:List (dH×RP)):aD:=dr (ys.map fun y=>iF P y.1 y.2)
def cw (X:Nat) (tv:List Value) (v:Value) (P:List (Nat×List Value)) (ys:List (dH×RP)):aD:=dr [row X 68 (tv++[v]),own 65 8 v ys.length (dg ys),eL P,ee P ys]
theorem ec {w0 w:World} {l:List aD} {X:Nat} {tv:List Value} {v:Value} {P:List (Nat×List Value)} {ys:List (dH×RP)} (h:St w0 w (cw X tv v P ys::l)):St w0 w (row X 68 (tv++[v])::own 65 8 v ys.length (dg ys)::eL P::ee P ys::l):=h.fI
theorem qA {w0 w:World} {l:List aD} {X:Nat} {tv:List Value} {v:Value} {P:List (Nat×List Value)} {ys:List (dH×RP)} (h:St w0 w (row X 68 (tv++[v])::own 65 8 v ys.length (dg ys)::eL P::ee P ys::l)):St w0 w (cw X tv v P ys::l) :=
 St.eR (L:=[row X 68 (tv++[v]),own 65 8 v ys.length (dg ys),eL P,ee P ys]) h
theorem PW {w0 w:World} {l:List aD} {P P':List (Nat×List Value)} (h:St w0 w (eL P::eL P'::l)):St w0 w (eL (P++P')::l):=by
 have h1:=h.fI;have h2:St w0 w (eL P'::((P.map fun x=>row x.1 5 x.2)++l)):=h1.perm (List.perm_middle);have h3:=h2.fI;refine St.eR (h3.perm ?_);rw [List.map_append,List.append_assoc,←List.append_assoc,←List.append_assoc];exact List.Perm.append_right l List.perm_append_comm
theorem Nn {P P':List (Nat×List Value)} (hp:∀x∈P,x∈P') (a:dH) (x:RP) (w:World) (F:Nat→Prop) (h:(iF P a x).on w F):(iF P' a x).on w F:=by
 obtain ⟨F1,F2,⟨⟨h1,h2⟩,h3⟩,h4⟩:=h;exact ⟨F1,F2,⟨⟨h1.mono hp,h2.mono hp⟩,h3⟩,h4⟩
theorem zV {P P':List (Nat×List Value)} (hp:∀x∈P,x∈P'):∀(ys:List (dH×RP)) (w:World) (F:Nat→Prop),all (ys.map fun y=>iF P y.1 y.2) w F→all (ys.map fun y=>iF P' y.1 y.2) w F
 | [],_,_,h=>h
 | y::r,w,F,⟨F1,F2,h1,h2,h3,h4⟩=>⟨F1,F2,Nn hp y.1 y.2 w F1 h1,zV hp r w F2 h2,h3,h4⟩
theorem sL {w0 w:World} {l:List aD} {P P':List (Nat×List Value)} (hp:∀x∈P,x∈P') {ys:List (dH×RP)} (h:St w0 w (ee P ys::l)):St w0 w (ee P' ys::l):=h.conv fun w F h=>zV hp ys w F h
theorem DT {w0 w:World} {l:List aD} {P:List (Nat×List Value)} {ys:List (dH×RP)} {a:dH} {x:RP} (h:St w0 w (ee P ys::iF P a x::l)):St w0 w (ee P (ys++[(a,x)])::l):=by
 have h1:=h.fI;refine St.eR (h1.perm ?_);rw [List.map_append,List.append_assoc];exact List.Perm.refl _
theorem DR {w0 w:World} {l:List aD} {P:List (Nat×List Value)} (h:St w0 w l):St w0 w (ee P []::l):=St.eR (L:=[]) h
end store
namespace store


open Go.RowKit Go.Deep base obj mem sep bf bk record bP aU image bK bR chain bw
def nF (js:List aw) (p:Nat):RP:=⟨bh p,fD (js.getD p aw.none).bytes,RS.none,js.getD p aw.none,aw.none⟩
theorem SV {w0 w:World} {l:List aD} {B:aD} (h:St w0 w (B::l)) {js:List aw} {AI:Option Addr} {n cI:Nat} {K:Nat→Option Addr×Nat} (hg:zd w0 B js AI n K) (hr:∀k,k < n→(js.getD k aw.none).right) (hn:n≤4) (fr tr:Int) (AP AW AC:Option Addr) (nP cP nW cW nC cC:Nat) :
  Calls Tryz.prog 38 #[sV fr AP nP cP AW nW cW AC nC cC tr,.slice AI n cI] w fun e w'=>∃X,e=.returned (.pointer (some ⟨X,0,none⟩))∧∃v P ys,St w0 w' (cw X [.int .i64 fr,.slice AP nP cP,.slice AW nW cW,.slice AC nC cC,.int .i64 tr] v P ys::B::l)∧ys.map (·.2)=(List.range n).map (nF js)∧∀k (hk:k < ys.length),ys[k].1.K0=K k∧ys[k].1.K1=(none,0):=by
 obtain ⟨Z,hZ⟩:∃Z,Z=w.heap.size:=⟨_,rfl⟩
 obtain ⟨X,hX⟩:∃X,X=Z+1:=⟨_,rfl⟩
 obtain ⟨w1,aJ⟩:∃w1,w1=(w.alloc (.cells #[.int .i64 fr,.slice AP nP cP,.slice AW nW cW,.slice AC nC cC,.int .i64 tr] 46)).alloc (.cells #[.int .i64 fr,.slice AP nP cP,.slice AW nW cW,.slice AC nC cC,.int .i64 tr,.slice none 0 0] 68):=⟨_,rfl⟩
 have H1:=aa (show St w0 w1 (cw X [.int .i64 fr,.slice AP nP cP,.slice AW nW cW,.slice AC nC cC,.int .i64 tr] (.slice none 0 0) [] []::B::l) by
  have h3:=(((h.new 46 #[.int .i64 fr,.slice AP nP cP,.slice AW nW cW,.slice AC nC cC,.int .i64 tr]).new 68 #[.int .i64 fr,.slice AP nP cP,.slice AW nW cW,.slice AC nC cC,.int .i64 tr,.slice none 0 0]).pick 1 rfl).drop;rw [←aJ] at h3;simp only [World.size_alloc,←hZ,←hX] at h3;have h4:=h3.cQ (e:=65) (size:=8) (v:=.slice none 0 0) (n:=0) (xs:=[]) (Below.refl _ _) ⟨rfl,.inl ⟨rfl,rfl⟩⟩;have h5:St w0 w1 (eL []::_):=St.eR (L:=[]) h4;have h6:=DR (P:=[]) h5;have h7:=(h6.pick 1 rfl)
  have h8:=(h7.pick 2 rfl)
  have h9:=(h8.pick 3 rfl)
  exact qA h9)
 have bq:=aa aJ;have HZ:=aa hZ;have HX:=aa hX;clear h aJ hZ hX;go_enter Tryz.func38,Tryz.ntmps38;go_upto_region 2 with fail;rw [←HZ.o,←HX.o,←bq.o];go_wp2_with fail;go_loopw [6] (fun x wr=>∃(p:Nat) (v:Value) (P:List (Nat×List Value)) (ys:List (dH×RP)),p≤n∧x=.int .i64 (p:Int)∧St w0 wr (cw X [.int .i64 fr,.slice AP nP cP,.slice AW nW cW,.slice AC nC cC,.int .i64 tr] v P ys::B::l)∧ys.map (·.2)=(List.range p).map (nF js)∧∀k (hk:k < ys.length),ys[k].1.K0=K k∧ys[k].1.K1=(none,0)) (fun x _=>n-(intOf x).toNat)
 case atStart=>exact ⟨0,_,_,_,by omega,rfl,H1.o,rfl,fun k hk=>absurd hk (by simp)⟩
 case round =>
  obtain ⟨p,v,P,ys,hp,rfl,av,rq,hK⟩:=hrel;by_cases aK:p < n
  ·have k1:(p:Int) < (n:Int):=by omega
   have k0:(0:Int)≤(p:Int):=by omega
   have hI:=hg wr _ (av.pick 1 rfl);obtain ⟨b,off,hA,cy,c0,c1,c2,c3,c4,c5,c6,c7,hc,hs⟩:=hI.at_ p aK
   have cu:bo (js.getD p aw.none).code:=by
    rw [tu (by rw [hI.len];exact aK)];exact hI.iS _ (List.getElem_mem _)
   have vx:=aa (SW av (js.getD p aw.none) (hr p aK) cu (K p).1 (K p).2 hc hs);have HA:=aa hA;have MH:=aa rq;have CJ:=aa hK;have HP:=aa aK;have HS:=aa hs;have MP:=aa (show nF js p=⟨bh p,fD (js.getD p aw.none).bytes,RS.none,js.getD p aw.none,aw.none⟩ from rfl);generalize hI0:js.getD p aw.none=i at *;have ua:=aa hI0;simp only [aw.val] at vx;obtain ⟨KA,GI⟩:∃v,v=(K p).1:=⟨_,rfl⟩
   obtain ⟨Kc,Ka⟩:∃v,v=(K p).2:=⟨_,rfl⟩
   rw [←GI,←Ka] at vx;rw [←GI,←Ka] at c7;have HKE:=aa (show K p=(KA,Kc) by rw [GI,Ka]);clear av hI hA hc hs cu rq hK hI0 GI Ka H1;rw [HA.o];go_wp2_with fail;refine vx.o.mono ?_;rintro e w3 ⟨v0,rfl,P2,oo,L7,h3⟩;obtain ⟨A0,Mx,rfl,_,_⟩:=aH h3.own;obtain ⟨R,hR⟩:∃R,R=fD i.bytes:=⟨_,rfl⟩
   rw [←hR] at L7 h3 MP ⊢;have HVB:=aa L7;obtain ⟨sb,uW⟩:∃v,v=R.has:=⟨_,rfl⟩
   obtain ⟨s1,jE⟩:∃v,v=R.st.aG:=⟨_,rfl⟩
   obtain ⟨s2,oy⟩:∃v,v=R.st.size:=⟨_,rfl⟩
   obtain ⟨s3,xH⟩:∃v,v=R.st.bd:=⟨_,rfl⟩
   obtain ⟨nb,oD⟩:∃v,v=R.blocks.length:=⟨_,rfl⟩
   have pN:=aa (show bE R (.slice A0 nb Mx)++bE RS.none (.slice none 0 0)=[.bool sb,.int .i64 s1,.int .i64 s2,.int .i64 s3,.slice A0 nb Mx,.bool false,.int .i64 0,.int .i64 0,.int .i64 0,.slice none 0 0] by rw [uW,jE,oy,xH];rfl);rw [←oD] at h3 ⊢;simp only [bE,←uW,←jE,←oy,←xH];have H3:=aa (h3.cQ (e:=118) (size:=5) (v:=.slice none 0 0) (n:=0) (xs:=[]) (Below.refl _ _) ⟨rfl,.inl ⟨rfl,rfl⟩⟩);have HR:=aa hR;have yb:=aa oD;clear h3 L7 hR uW jE oy xH oD c0 c1 c2 c3 c4 c5 c6 c7;go_upto_region 7 with (refine xV DO rfl (.tmp 18) (.tmp 25) rfl H3.o rfl (m:=2) [.bool sb,.int .i64 s1,.int .i64 s2,.int .i64 s3,.slice A0 nb Mx,.bool false,.int .i64 0,.int .i64 0,.int .i64 0,.slice none 0 0] rfl (by simp [Value.oneCell']) rfl (by omega) (by omega) (by unfold maxLen;omega) ?_;rintro gS cS w4 h4)
   have H4:=aa h4;have hI4:=hg w4 _ (h4.pick 4 rfl);obtain ⟨b2,aaA,Q1,acv,c0,c1,c2,c3,c4,c5,c6,c7,AB,oy⟩:=hI4.at_ p HP.o;rw [HA.o] at Q1;obtain ⟨rfl,rfl⟩:b=b2∧off=aaA:=by injection Q1 with e;injection e with e1 e2 _;exact ⟨e1,e2⟩
   rw [ua.o] at c0 c1 c2 c3 c4 c5 c6 c7;rw [HKE.o] at c7;have H5:=aa (h4.cQ (e:=26) (size:=8) (v:=.slice none 0 0) (n:=0) (xs:=[]) (Below.refl _ _) ⟨rfl,.inl ⟨rfl,rfl⟩⟩);clear h4 hI4 Q1 oy;go_upto_region 9 with (refine xV Ng rfl (.tmp 27) (.tmp 33) rfl H5.o rfl (m:=2) [.int .i64 i.part,.int .i64 i.version,.int .i64 i.aY,.int .i64 i.mem,.int .i64 i.fuel,.int .i64 i.aN,.int .i64 i.aB,.slice KA i.code.length Kc,.int .i64 0,.int .i64 0,.int .i64 0,.int .i64 0,.int .i64 0,.int .i64 0,.int .i64 0,.slice none 0 0] rfl (by simp [Value.oneCell']) rfl (by omega) (by omega) (by unfold maxLen;omega) ?_;rintro gJ cJ w6 h6)
   have h7:=ec (h6.pick 4 rfl);obtain ⟨Av,cv,rfl,_,_⟩:=aH (h7.pick 1 rfl).own
   have ru:ys.length=p:=by
    have:=congrArg List.length MH.o;simpa using this
   have EP:=aa ru;rw [ru] at h7;have H7:=aa (h7.pick 1 rfl);have rX:=h7.row.1;simp only [List.cons_append,List.nil_append] at rX;have x5:w6.cell? ⟨X,5,none⟩=some (.slice Av p cv):=rX.cell 5;have lX:=rX.lt;clear h6 h7 rX ru c0 c1 c2 c3 c4 c5 c6 c7;go_upto_region 4 with (refine xV I8 rfl (.tmp 39) (.tmp 45) rfl H7.o rfl (m:=1) [.int .i64 p,.int .i64 1,.int .i64 0,.int .i64 0,.int .i64 0,.int .i64 0,.slice (some ⟨gS,0,none⟩) 2 cS,.slice (some ⟨gJ,0,none⟩) 2 cJ] rfl (by simp [Value.oneCell']) rfl (by omega) (by omega) (by unfold maxLen;omega) ?_;rintro gO cO w8 h8;have H8:=aa h8;have rX:=(h8.pick 1 rfl).row.1;have fX:=rX.frozen 5;have x5:=rX.cell 5;have lX:=rX.lt;clear h8 rX)
   have HE:=aa (show St w0 (w8.setCell ⟨X,5,none⟩ (.slice (some ⟨gO,0,none⟩) (p+1) cO)) (cw X [.int .i64 fr,.slice AP nP cP,.slice AW nW cW,.slice AC nC cC,.int .i64 tr] (.slice (some ⟨gO,0,none⟩) (p+1) cO) (P++P2) (ys++[(⟨.slice (some ⟨gS,0,none⟩) 2 cS,.slice (some ⟨gJ,0,none⟩) 2 cJ,.slice A0 nb Mx,.slice none 0 0,oo,[],(KA,Kc),(none,0)⟩,nF js p)])::B::l) by
    rw [MP.o];have oD:=yb.o;subst oD;have a1:=(H8.o.pick 1 rfl).set 5 (.slice (some ⟨gO,0,none⟩) (p+1) cO);have a2:=a1.pick 7 rfl;have a3:=a2.pick 3 rfl;have a4:=PW a3;have a5:=sL (P':=P++P2) (fun x hx=>List.mem_append_left _ hx) (a4.pick 3 rfl);have a6:=a5.cQ (e:=24) (size:=1) (v:=.slice none 0 0) (n:=0) (xs:=[]) (Below.refl _ _) ⟨rfl,.inl ⟨rfl,rfl⟩⟩;have a7:=a6.pick 5 rfl;have a8:=a7.pick 1 rfl;have a9:=a8.pick 7 rfl;have a10:=a9.pick 7 rfl;have a11:=a10.addFact (p:=o8 (P++P2) R.blocks oo∧o8 (P++P2) RS.none.blocks []) ⟨HVB.o.mono (fun x hx=>List.mem_append_right _ hx),⟨rfl,fun i b v h=>by simp [RS.none] at h⟩⟩
    have a12:St w0 _ (iF (P++P2) ⟨.slice (some ⟨gS,0,none⟩) 2 cS,.slice (some ⟨gJ,0,none⟩) 2 cJ,.slice A0 R.blocks.length Mx,.slice none 0 0,oo,[],(KA,Kc),(none,0)⟩ ⟨bh p,R,RS.none,i,aw.none⟩::_):=St.eR (L:=[_,_,_,_,_]) (by
     rw [←pN.o] at a11
     exact a11)
    have a13:=DT a12.swap;have a14:=((a13.pick 1 rfl).pick 3 rfl).pick 3 rfl;refine qA ?_;rw [gA,List.length_singleton,EP.o,show dg (ys++[(⟨.slice (some ⟨gS,0,none⟩) 2 cS,.slice (some ⟨gJ,0,none⟩) 2 cJ,.slice A0 R.blocks.length Mx,.slice none 0 0,oo,[],(KA,Kc),(none,0)⟩,⟨bh p,R,RS.none,i,aw.none⟩)])=dg ys++[.int .i64 p,.int .i64 1,.int .i64 0,.int .i64 0,.int .i64 0,.int .i64 0,.slice (some ⟨gS,0,none⟩) 2 cS,.slice (some ⟨gJ,0,none⟩) 2 cJ] by simp [dg,eE,bh,Rec.cells]]
    exact a14)
   go_wp2_with fail;go_roundw
   case rel =>
    refine ⟨p+1,_,_,_,by omega,by go_num,HE.o,?_,fun k hk=>?_⟩
    ·rw [List.map_append,MH.o,List.range_succ,List.map_append];rfl
    ·by_cases zv:k < ys.length
     ·rw [List.getElem_append_left zv];exact CJ.o k zv
     ·have hke:k=ys.length:=by simp at hk;omega
      subst hke;rw [List.getElem_append_right (Nat.le_refl _)];simp only [Nat.sub_self,List.getElem_cons_zero];rw [EP.o,HKE.o];exact ⟨rfl,trivial⟩
   case measure=>simp [intOf];omega
  ·have k1:¬(p:Int) < (n:Int):=by omega
   have Mc:p=n:=by omega
   have bJ:=aa av;have MH:=aa rq;have HK:=aa hK;have EZ:=aa Mc;clear av rq hK Mc H1;go_wp2_with fail;go_ret;exact ⟨X,rfl,v,P,ys,bJ.o,by rw [MH.o,EZ.o],HK.o⟩
end store
end Go.Proofs.YtdldkkoplgkloaaGreat
