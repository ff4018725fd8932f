/- PROVED HERE: lemmas of the law. CONDITIONS: each names its own. -/
import Derived.Test.YtdldkkoplgkloaaGreatPa36
namespace Go.Proofs.YtdldkkoplgkloaaGreat
set_option linter.unusedVariables false
set_option linter.unusedSimpArgs false
set_option maxRecDepth 100000
set_option maxHeartbeats 32000000
open Go.Value renaming int → ae
open Go.IntKind renaming i64 → aa
namespace store
open Go.RowKit Go.Deep base obj mem sep aW aX record bD aG image bN bL chain bC
structure Fits (t:aY) (js:List aq) (nI:Nat):Prop where
 right:t.right=true
 LU:t.parts.length≤nI
 pR:nI≤10
 fV:∀p:Nat,p < t.parts.length→bX t p (js.getD p aq.none) 0=0
 short:∀k:Nat,k < nI→(js.getD k aq.none).code.length≤200
theorem He {w:World} {a:dF} {t:aY} {AI:Option Addr} {nI cI:Nat} {js:List aq} {K:Nat→Option Addr×Nat} (h:ya w a t AI nI cI js K) :
  Calls Tryz.prog 19 #[.agg (oK a t AI nI cI).toArray] w fun e w'=>(∃b:Bool,e=.returned (.bool b)∧(b=true→Fits t js nI))∧Below w.heap.size w w':=by
 obtain ⟨Z,hZ⟩:=xE w.heap.size;obtain ⟨w1,aF⟩:=xE (w.alloc (.cells (oK a t AI nI cI).toArray 49));have kb:Below w.heap.size w w1:=by rw [aF];exact (Below.refl _ w).alloc (Nat.le_refl _) _
 have h1:St w w1 [row Z 49 (oK a t AI nI cI)]:=by
  have h3:=(St.nil w).new 49 (oK a t AI nI cI).toArray;rw [←aF,←hZ] at h3;exact h3
 have bh:=af kb;have eR:=af (fun (w':World) (hb:Below w1.heap.size w1 w')=>bN.rG ((h.bN.over kb).over hb));have ME:=af (fun (w':World) (hb:Below w1.heap.size w1 w')=>(h.over kb).iO.over hb);have mP:=af (fun (w':World) (hb:Below w1.heap.size w1 w') (p:Nat) (uh:p < nI) (A:Option Addr) (c:Nat)=>BC (A:=A) (c:=c) (bG:=0) (i:=js.getD p aq.none) ((h.bN.over kb).over hb) (p:Int) (h.lens p uh));have HR:=af (fun (w':World) (hb:Below w1.heap.size w1 w')=>h1.row.1.below hb h1.row.1.lt);have JA:=af (fun (h:t.right=true)=>(aY.r h).np);have HFT:=af (fun (a1:t.right=true) (a2:t.parts.length≤nI) (a3:nI≤10) (a4:∀p:Nat,p < t.parts.length→bX t p (js.getD p aq.none) 0=0) (a5:∀k:Nat,k < nI→(js.getD k aq.none).code.length≤200)=>(⟨a1,a2,a3,a4,a5⟩:Fits t js nI));have br:=af aF;have HZ:=af hZ;simp only [oK,dF.val,aq.val] at eR mP HR br ⊢;obtain ⟨nP,pL⟩:=xE t.parts.length;simp only [←pL] at eR mP HR br JA HFT ⊢;clear h h1 kb aF hZ pL;generalize ku:t.frame=fr at *;generalize jJ:t.ay=tr at *;generalize y8:t.aJ.length=nW at *;generalize qA:t.av.length=nC at *;clear ku jJ y8 qA;have rows:∀w':World,Below w1.heap.size w1 w'→w'.cell? ⟨Z,0,none⟩=some (ae aa fr)∧w'.cell? ⟨Z,1,none⟩=some (.slice a.AP nP a.cP)∧w'.cell? ⟨Z,2,none⟩=some (.slice a.AW nW a.cW)∧w'.cell? ⟨Z,3,none⟩=some (.slice a.AC nC a.cC)∧w'.cell? ⟨Z,4,none⟩=some (ae aa tr)∧w'.cell? ⟨Z,5,none⟩=some (.slice AI nI cI)∧Z < w'.heap.size:=fun w' hb=>⟨(HR.o w' hb).cell 0,(HR.o w' hb).cell 1,(HR.o w' hb).cell 2,(HR.o w' hb).cell 3,(HR.o w' hb).cell 4,(HR.o w' hb).cell 5,(HR.o w' hb).lt⟩
 have dr:=af rows;clear rows;obtain ⟨z0,z1,z2,z3,z4,z5,lZ⟩:=dr.o w1 (Below.refl _ _);generalize hF:Fits t js nI=F at *;cases hr:t.right
 case false =>
  rw [hr] at eR;clear HFT JA hr hF;go_enter Tryz.func19,Tryz.ntmps19;go_upto_region 1 with fail;rw [←br.o,←HZ.o];go_wp2_with fail;refine (eR.o w1 (Below.refl _ _)).mono ?_;rintro e w2 ⟨rfl,bT⟩;have aO:=af (bh.o.trans (bT.mono bh.o.size));clear bT;go_wp2_with fail;go_ret;exact ⟨⟨false,rfl,fun h=>by cases h⟩,aO.o⟩
 case true =>
  rw [hr] at eR;have adX:=JA.o hr;have rV:=af hr;clear JA hr;by_cases Oa:nP≤nI∧nI≤10
  case neg =>
   go_enter Tryz.func19,Tryz.ntmps19;go_upto_region 1 with fail;rw [←br.o,←HZ.o];go_wp2_with fail;refine (eR.o w1 (Below.refl _ _)).mono ?_;rintro e w2 ⟨rfl,bT⟩;have aO:=af (bh.o.trans (bT.mono bh.o.size));clear z0 z1 z2 z3 z4 z5 lZ;obtain ⟨z0,z1,z2,z3,z4,z5,lZ⟩:=dr.o w2 bT;clear bT;by_cases he:nP≤nI
   ·have k1:decide (nI < nP)=false:=by simp;omega
    have k2:decide ((10:Int) < (nI:Int))=true:=by simp;omega
    have k3:decide ((nI:Int) < (nP:Int))=false:=by simp;omega
    clear he Oa;go_wp2_with fail;go_ret;exact ⟨⟨false,rfl,fun h=>by cases h⟩,aO.o⟩
   ·have k1:decide (nI < nP)=true:=by simp;omega
    have k3:decide ((nI:Int) < (nP:Int))=true:=by simp;omega
    clear he Oa;go_wp2_with fail;go_ret;exact ⟨⟨false,rfl,fun h=>by cases h⟩,aO.o⟩
  case pos =>
   obtain ⟨Oa,dR⟩:=Oa;have AV:=ME.o w1 (Below.refl _ _);obtain ⟨b0,o0,S6,_⟩:=AV.at_ 0 (by omega);subst S6;clear AV;have abk:=af (HFT.o rV.o Oa dR);have HEN:=af Oa;have mR:=af dR;clear HFT;go_enter Tryz.func19,Tryz.ntmps19;go_upto_region 1 with fail;rw [←br.o,←HZ.o];go_wp2_with fail;refine (eR.o w1 (Below.refl _ _)).mono ?_;rintro e w2 ⟨rfl,bT⟩;have aO:=af bT;clear z0 z1 z2 z3 z4 z5 lZ;obtain ⟨z0,z1,z2,z3,z4,z5,lZ⟩:=dr.o w2 bT;clear bT;have k1:decide (nI < nP)=false:=by simp;omega
   have k2:decide ((10:Int) < (nI:Int))=false:=by simp;omega
   have k3:decide ((nI:Int) < (nP:Int))=false:=by simp;omega
   go_wp2_with fail;clear z0 z1 z2 z3 z4 z5 lZ;clear k1 k2 k3;go_loopw [30] (fun x wr=>∃p:Nat,p≤nP∧x=ae aa (p:Int)∧Below w1.heap.size w1 wr∧∀k:Nat,k < p→bX t k (js.getD k aq.none) 0=0) (fun x _=>nP-(intOf x).toNat)
   case atStart=>exact ⟨0,by omega,rfl,aO.o,fun k hk=>absurd hk (by omega)⟩
   case round =>
    obtain ⟨p,Lg,rfl,qL,j9⟩:=hrel;have dz:=af qL;have HC:=af j9;clear aO qL j9;by_cases aH:p < nP
    ·obtain ⟨b,off,hA,cm,c0,c1,c2,c3,c4,c5,c6,c7,j9,FD⟩:=(ME.o wr dz.o).at_ p (by omega);obtain ⟨rfl,rfl⟩:b0=b∧o0=off:=by injection hA with e;injection e with e1 e2 _;exact ⟨e1,e2⟩
     generalize (K p).1=KA,(K p).2=Kc at *;have Bc:=af (mP.o wr.drew dz.o.drew p (by omega) KA Kc);have HJP:=af (show js.getD p aq.none=js.getD p aq.none from rfl);obtain ⟨ck,VW⟩:=xE (bX t p (js.getD p aq.none) 0);rw [←VW] at Bc;have HCV:=af VW;obtain ⟨i0,SJ⟩:∃v,v=(js.getD p aq.none).part:=⟨_,rfl⟩
     obtain ⟨i1,SH⟩:∃v,v=(js.getD p aq.none).version:=⟨_,rfl⟩
     obtain ⟨i2,BU⟩:∃v,v=(js.getD p aq.none).aV:=⟨_,rfl⟩
     obtain ⟨i3,SG⟩:∃v,v=(js.getD p aq.none).mem:=⟨_,rfl⟩
     obtain ⟨i4,SF⟩:∃v,v=(js.getD p aq.none).fuel:=⟨_,rfl⟩
     obtain ⟨i5,SE⟩:∃v,v=(js.getD p aq.none).aM:=⟨_,rfl⟩
     obtain ⟨i6,zd⟩:∃v,v=(js.getD p aq.none).ax:=⟨_,rfl⟩
     obtain ⟨i7,SC⟩:∃v,v=(js.getD p aq.none).code.length:=⟨_,rfl⟩
     simp only [←SJ,←SH,←BU,←SG,←SF,←SE,←zd,←SC] at Bc c0 c1 c2 c3 c4 c5 c6 c7;clear SJ SH BU SG SF SE zd SC j9 FD hA VW HJP;have k0:(0:Int)≤(p:Int):=by omega
     have k1:(p:Int) < (nP:Int):=by omega
     have k2:(p:Int) < (nI:Int):=by omega
     have Cs:=af (fun (w':World) (hb:Below wr.heap.size wr w')=>show w'.cell? ⟨b0,o0+p*8,none⟩=some (ae aa i0)∧w'.cell? ⟨b0,o0+p*8+1,none⟩=some (ae aa i1)∧w'.cell? ⟨b0,o0+p*8+2,none⟩=some (ae aa i2)∧w'.cell? ⟨b0,o0+p*8+3,none⟩=some (ae aa i3)∧w'.cell? ⟨b0,o0+p*8+4,none⟩=some (ae aa i4)∧w'.cell? ⟨b0,o0+p*8+5,none⟩=some (ae aa i5)∧w'.cell? ⟨b0,o0+p*8+6,none⟩=some (ae aa i6)∧w'.cell? ⟨b0,o0+p*8+7,none⟩=some (.slice KA i7 Kc)∧b0 < w'.heap.size from ⟨(hb.cell cm).trans c0,(hb.cell cm).trans c1,(hb.cell cm).trans c2,(hb.cell cm).trans c3,(hb.cell cm).trans c4,(hb.cell cm).trans c5,(hb.cell cm).trans c6,(hb.cell cm).trans c7,Nat.lt_of_lt_of_le cm hb.size⟩);clear c0 c1 c2 c3 c4 c5 c6 c7 cm;go_upto_region 6 with fail;refine eb (fun w'=>(w'.cell? ⟨Z,0,none⟩=some (ae aa fr)∧w'.cell? ⟨Z,1,none⟩=some (.slice a.AP nP a.cP)∧w'.cell? ⟨Z,2,none⟩=some (.slice a.AW nW a.cW)∧w'.cell? ⟨Z,3,none⟩=some (.slice a.AC nC a.cC)∧w'.cell? ⟨Z,4,none⟩=some (ae aa tr)∧w'.cell? ⟨Z,5,none⟩=some (.slice (some ⟨b0,o0,none⟩) nI cI)∧Z < w'.heap.size)∧(w'.cell? ⟨b0,o0+p*8,none⟩=some (ae aa i0)∧w'.cell? ⟨b0,o0+p*8+1,none⟩=some (ae aa i1)∧w'.cell? ⟨b0,o0+p*8+2,none⟩=some (ae aa i2)∧w'.cell? ⟨b0,o0+p*8+3,none⟩=some (ae aa i3)∧w'.cell? ⟨b0,o0+p*8+4,none⟩=some (ae aa i4)∧w'.cell? ⟨b0,o0+p*8+5,none⟩=some (ae aa i5)∧w'.cell? ⟨b0,o0+p*8+6,none⟩=some (ae aa i6)∧w'.cell? ⟨b0,o0+p*8+7,none⟩=some (.slice KA i7 Kc)∧b0 < w'.heap.size)) (by kernel_rfl) (⟨dr.o wr.drew dz.o.drew,Cs.o wr.drew (Below.refl wr.heap.size wr).drew⟩) (fun bJ=>?_);(refine ah 0 ?_;(try simp only [ai]));(refine ah 1 ?_;(try simp only [ai]));(refine ah 2 ?_;(try simp only [ai]));(refine ah 3 ?_;(try simp only [ai]));(refine ah 4 ?_;(try simp only [ai]));(refine ah 5 ?_;(try simp only [ai]));(refine ah 6 ?_;(try simp only [ai]));(refine ah 7 ?_;(try simp only [ai]));(refine dQ 8 ?_;(try simp only [xG]);go_simp);refine Bc.o.mono ?_;rintro e w3 ⟨rfl,hb⟩;have bM:=af (dz.o.drew.trans (hb.mono dz.o.drew.size));have WO:=af ((Below.refl wr.heap.size wr).drew.trans hb);clear hb;dsimp only;(refine cu (⟨dr.o w3 bM.o,Cs.o w3 WO.o⟩) (fun bJ=>?_);(try simp only [ai]));by_cases uQ:ck=0
     ·subst uQ;(refine ah 9 ?_;(try simp only [ai]));refine dw (by kernel_rfl) ?_;clear bJ;go_wp2_with fail;go_roundw
      case rel =>
       refine ⟨p+1,by omega,by go_num,bM.o,fun k hk=>?_⟩;by_cases AN:k < p
       ·exact HC.o k AN
       ·rw [show k=p by omega];exact HCV.o.symm
      case measure=>simp [intOf];omega
     ·have e0:(ck != 0)=true:=by simpa using uQ
      clear uQ;(refine ah 9 ?_;(try simp only [ai]));refine dw (by kernel_rfl) ?_;clear bJ;go_wp2_with fail;go_ret;exact ⟨⟨false,rfl,fun h=>by cases h⟩,bh.o.trans (bM.o.mono bh.o.size)⟩
    ·have Dz:p=nP:=by omega
     subst Dz;have abj:=af (abk.o HC.o);have k1:¬(p:Int) < (p:Int):=by omega
     obtain ⟨z0,z1,z2,z3,z4,z5,lZ⟩:=dr.o wr dz.o;clear abk HC;go_wp2_with fail;clear z0 z1 z2 z3 z4 z5 lZ;go_loopw [47] (fun x wr=>∃q:Nat,q≤nI∧x=ae aa (q:Int)∧Below w1.heap.size w1 wr∧∀k:Nat,k < q→(js.getD k aq.none).code.length≤200) (fun x _=>nI-(intOf x).toNat)
     case atStart=>exact ⟨0,by omega,rfl,dz.o,fun k hk=>absurd hk (by omega)⟩
     case round =>
      obtain ⟨q,AF,rfl,qL,qx⟩:=hrel;clear dz;have dz:=af qL;have HS:=af qx;clear qL qx;by_cases qF:q < nI
      ·obtain ⟨b,off,hA,cm,c0,c1,c2,c3,c4,c5,c6,c7,j9,FD⟩:=(ME.o wr dz.o).at_ q qF;obtain ⟨rfl,rfl⟩:b0=b∧o0=off:=by injection hA with e;injection e with e1 e2 _;exact ⟨e1,e2⟩
       generalize (K q).1=KA,(K q).2=Kc at *
       have HLQ:=af (fun (h:(js.getD q aq.none).code.length≤200) (k:Nat) (hk:k < q+1)=>show (js.getD k aq.none).code.length≤200 from by
        by_cases hkq:k < q
        ·exact HS.o k hkq
        ·rw [show k=q by omega];exact h)
       generalize (js.getD q aq.none).part=i0,(js.getD q aq.none).version=i1,(js.getD q aq.none).aV=i2,(js.getD q aq.none).mem=i3,(js.getD q aq.none).fuel=i4,(js.getD q aq.none).aM=i5,(js.getD q aq.none).ax=i6,(js.getD q aq.none).code.length=i7 at *;have k0:(0:Int)≤(q:Int):=by omega
       have k1:(q:Int) < (nI:Int):=by omega
       have uy:=af (show Below w1.heap.size w1 (wr.alloc (.cells #[ae aa i0,ae aa i1,ae aa i2,ae aa i3,ae aa i4,ae aa i5,ae aa i6,.slice KA i7 Kc] 26)) from dz.o.trans (((Below.refl wr.heap.size wr).alloc (Nat.le_refl _) _).mono dz.o.size));clear j9 FD hA;by_cases V1:i7≤200
       ·have k3:decide ((200:Int) < (i7:Int))=false:=by simp;omega
        have HQ:=af (HLQ.o V1);clear HLQ V1;go_wp2_with fail;go_roundw;case rel=>exact ⟨q+1,by omega,by go_num,uy.o,HQ.o⟩
        case measure=>simp [intOf];omega
       ·have k3:decide ((200:Int) < (i7:Int))=true:=by simp;omega
        clear HLQ V1;go_wp2_with fail;go_ret;exact ⟨⟨false,rfl,fun h=>by cases h⟩,bh.o.trans (uy.o.mono bh.o.size)⟩
      ·have FF:q=nI:=by omega
       subst FF;have k1:¬(q:Int) < (q:Int):=by omega
       have Ua:=af (abj.o HS.o);clear abj HS;go_wp2_with fail;go_ret;exact ⟨.inr ⟨rfl,Ua.o⟩,bh.o.trans (dz.o.mono bh.o.size)⟩
end store
end Go.Proofs.YtdldkkoplgkloaaGreat
