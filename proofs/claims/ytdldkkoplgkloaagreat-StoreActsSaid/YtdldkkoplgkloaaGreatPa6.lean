/- PROVED HERE: lemmas of the law. CONDITIONS: each names its own. -/
import Derived.Deep.OwnRows
import Derived.Deep.RegionLaw
import Derived.Laws.BytesArg
import Derived.Lib.Bytes
import Derived.Maps.AppendAt
import Derived.Shelf.RegionOpen
import Derived.Test.YtdldkkoplgkloaaGreatPa0
import Derived.Test.YtdldkkoplgkloaaGreatPa1
import Derived.Test.YtdldkkoplgkloaaGreatPa2
import Derived.Test.YtdldkkoplgkloaaGreatPa3
import Derived.Test.YtdldkkoplgkloaaGreatPa4
namespace Go.Proofs.YtdldkkoplgkloaaGreat
set_option linter.unusedVariables false
set_option linter.unusedSimpArgs false
set_option maxRecDepth 100000
set_option maxHeartbeats 32000000
open Go.Value renaming int → ae
open Go.IntKind renaming i64 → aa
namespace fZ
open Go.RowKit Go.Deep base obj mem sep bC aW chain
theorem wA (w:World) (n:Nat) (hn:n≤62):Calls Tryz.prog 201 #[ae aa n] w fun e w'=>e=.returned (ae aa (2 ^ n:Nat))∧w'=w:=by
 go_enter Tryz.func201,Tryz.ntmps201;go_wp2_with fail;go_loopw [4,3] (fun i x wr=>∃k:Nat,k≤n∧i=ae aa k∧x=ae aa (2 ^ k:Nat)∧wr=w) (fun i _ _=>n-(intOf i).toNat)
 case atStart=>exact ⟨0,by omega,rfl,rfl,rfl⟩
 case round =>
  obtain ⟨k,hk,rfl,rfl,rfl⟩:=hrel;by_cases aH:k < n
  ·have df:(k:Int) < (n:Int):=by omega
   have hp:2 ^ k≤2 ^ 61:=Nat.pow_le_pow_right (by omega) (by omega);have hs:2 ^ (k+1)=2 ^ k+2 ^ k:=by rw [Nat.pow_succ];omega
   have HS:=af hs;clear hs;generalize 2 ^ k=p at *;go_wp2_with fail;go_roundw;case rel=>exact ⟨k+1,by omega,by go_num,by rw [HS.o];rfl,trivial⟩
   case measure=>simp [intOf];omega
  ·have df:¬(k:Int) < (n:Int):=by omega
   have lv:k=n:=by omega
   have HK:=af lv;clear lv;go_wp2_with fail;go_ret;exact ⟨by rw [HK.o];rfl,rfl⟩
theorem Fo (w:World) (n:Nat):Calls Tryz.prog 213 #[ae aa n] w fun e w'=>e=.returned (ae aa (n % M:Nat))∧w'=w:=by
 have h0:(0:Int)≤(n:Int):=by omega
 go_enter Tryz.func213,Tryz.ntmps213;go_wp2_with fail;go_ret;exact ⟨rfl,rfl⟩
theorem CF (w:World) (x n:Nat) (hx:x < 2 ^ 32) (h0:0 < n) (hn:n < 32):Calls Tryz.prog 214 #[ae aa x,ae aa n] w fun e w'=>e=.returned (ae aa (tn x n:Nat))∧∃j,w'=w.drewN j:=by
 have Cl:=af (fun w=>wA w n (by omega))
 have pz:RowKit.Hid (∀(w:World) (k:Nat),Calls Tryz.prog 201 #[ae aa (32-(n:Int))] (w.drewN k) fun e w'=>e=.returned (ae aa (2 ^ (32-n):Nat))∧∃j,w'=w.drewN j):=af fun w k=>by
  have h:=wA (w.drewN k) (32-n) (by omega);rw [show ((32-n:Nat):Int)=32-(n:Int) by omega] at h;exact h.mono fun e w' ⟨h1,h2⟩=>⟨h1,k,h2⟩
 have ug:0 < 2 ^ n:=Nat.two_pow_pos n;have Lg:(2 ^ n:Nat)≤2 ^ 32:=Nat.pow_le_pow_right (by omega) (by omega)
 have hm:x % 2 ^ n*2 ^ (32-n) < 2 ^ 32:=by
  have h:=eT x n hx hn;unfold tn at h;exact Nat.lt_of_le_of_lt (Nat.le_add_left _ _) h
 have hq:x / 2 ^ n≤x:=Nat.div_le_self _ _;have HT:RowKit.Hid (tn x n=x / 2 ^ n+x % 2 ^ n*2 ^ (32-n)):=af rfl;have wM:(n:Int) < 32:=by omega
 clear h0 hn;generalize 2 ^ n=p at *;generalize 2 ^ (32-n)=r at *;have p0:(0:Int) < (p:Int):=by omega
 obtain ⟨A,B,hA,hB,hT,eA,eB⟩:∃A B:Nat,A≤x∧B < 2 ^ 32∧tn x n=A+B∧(x:Int) / (p:Int)=(A:Int)∧((x:Int) % (p:Int))*(r:Int)=(B:Int):=⟨x / p,x % p*r,hq,hm,HT.o,by rw [Int.natCast_ediv],by rw [Int.natCast_mul,Int.natCast_emod]⟩
 have aF:IntKind.i64.wrap (((x:Int) % (p:Int))*(r:Int))=((x:Int) % (p:Int))*(r:Int):=by rw [eB];exact IntWalk.i64_in _ ⟨by omega,by omega⟩
 have nQ:wrap64 (wrap64 ((x:Int) / (p:Int))+((x:Int) % (p:Int))*(r:Int))=((A+B:Nat):Int):=by
  rw [eA,eB,IntWalk.wrap64_in (A:Int) ⟨by omega,by omega⟩,IntWalk.wrap64_in _ ⟨by omega,by omega⟩];rfl
 have wW:=af nQ;have JA:=af hT;have h32:(n:Int)≤32:=by omega
 have pne:¬(p:Int)=0:=by omega
 have x0:(0:Int)≤(x:Int):=by omega
 clear hm hq Lg nQ hA hB hT eA eB;go_enter Tryz.func214,Tryz.ntmps214;go_wp2_with fail;refine (Cl.o _).mono ?_;rintro e w' ⟨rfl,rfl⟩;go_wp2_with fail;go_quiet ((with_reducible exact pz.o _ _));go_wp2_with fail;go_ret;exact ⟨by rw [wW.o,JA.o];rfl,_,rfl⟩
theorem Cz (a b:Nat) (ha:a < 2 ^ 32) (hb:b < 2 ^ 32):Go.bits .xor .i64 (a:Int) (b:Int)=((a ^^^ b:Nat):Int):=by
 show IntKind.i64.wrap ((BitVec.ofInt 64 (a:Int) ^^^ BitVec.ofInt 64 (b:Int)).toNat:Int)=_
 have hx:a ^^^ b < 2 ^ 32:=Nat.xor_lt_two_pow ha hb;rw [BitVec.toNat_xor,BitVec.toNat_ofInt,BitVec.toNat_ofInt,show ((a:Int) % ((2 ^ 64:Nat):Int)).toNat=a by omega,show ((b:Int) % ((2 ^ 64:Nat):Int)).toNat=b by omega];exact IntWalk.i64_in _ ⟨by omega,by omega⟩
theorem Gb (a b:Nat) (ha:a < 2 ^ 32) (hb:b < 2 ^ 32):Go.bits .and .i64 (a:Int) (b:Int)=((a &&& b:Nat):Int):=by
 show IntKind.i64.wrap ((BitVec.ofInt 64 (a:Int) &&& BitVec.ofInt 64 (b:Int)).toNat:Int)=_
 have hx:a &&& b < 2 ^ 32:=Nat.and_lt_two_pow _ hb;rw [BitVec.toNat_and,BitVec.toNat_ofInt,BitVec.toNat_ofInt,show ((a:Int) % ((2 ^ 64:Nat):Int)).toNat=a by omega,show ((b:Int) % ((2 ^ 64:Nat):Int)).toNat=b by omega];exact IntWalk.i64_in _ ⟨by omega,by omega⟩
theorem Vj (a b:Nat) (ha:a < 2 ^ 32) (hb:b < 2 ^ 32):Go.bits .or .i64 (a:Int) (b:Int)=((a ||| b:Nat):Int):=by
 show IntKind.i64.wrap ((BitVec.ofInt 64 (a:Int) ||| BitVec.ofInt 64 (b:Int)).toNat:Int)=_
 have hx:a ||| b < 2 ^ 32:=Nat.or_lt_two_pow ha hb;rw [BitVec.toNat_or,BitVec.toNat_ofInt,BitVec.toNat_ofInt,show ((a:Int) % ((2 ^ 64:Nat):Int)).toNat=a by omega,show ((b:Int) % ((2 ^ 64:Nat):Int)).toNat=b by omega];exact IntWalk.i64_in _ ⟨by omega,by omega⟩
theorem R5 (w:World) (x a b c:Nat) (hx:x < 2 ^ 32) (a0:0 < a) (a1:a < 32) (b0:0 < b) (b1:b < 32) (c0:0 < c) (c1:c < 32):Calls Tryz.prog 215 #[ae aa x,ae aa a,ae aa b,ae aa c] w fun e w'=>e=.returned (ae aa (mix x a b c:Nat))∧∃j,w'=w.drewN j:=by
 have H1:=af (fun w=>CF w x a hx a0 a1);have H2:=af (fun w=>CF w x b hx b0 b1);have H3:=af (fun w=>CF w x c hx c0 c1);have e1:=Cz (tn x a) (tn x b) (eT x a hx a1) (eT x b hx b1);have e2:=Cz (tn x a ^^^ tn x b) (tn x c) (gM (eT x a hx a1) (eT x b hx b1)) (eT x c hx c1);clear hx a0 a1 b0 b1 c0 c1;go_enter Tryz.func215,Tryz.ntmps215;go_wp2_with fail;refine (H1.o _).mono ?_;rintro e w1 ⟨rfl,j1,rfl⟩;go_wp2_with fail;refine (H2.o _).mono ?_;rintro e w1 ⟨rfl,j2,rfl⟩;go_wp2_with fail;refine (H3.o _).mono ?_;rintro e w1 ⟨rfl,j3,rfl⟩;go_wp2_with fail;go_ret;exact ⟨rfl,_,rfl⟩
abbrev dZ (l:List Nat):List Value:=l.map fun n:Nat=>Value.int .i64 (n:Int)
theorem Et (l:List Nat) (i z:Nat):(dZ l).set i (ae aa (z:Int))=dZ (l.set i z):=by rw [dZ,dZ,List.map_set]
theorem jG (l:List Nat) (i:Nat) (h:i < l.length):(dZ l)[i]?=some (ae aa ((l.getD i 0:Nat):Int)):=by
 rw [dZ,List.getElem?_map,dD,cN h];rfl
theorem WU:(Tryz.prog.info? 3).map (fun i=>(i.zero,i.size,i.bytes))=some (some (ae aa 0),1,8):=by kernel_rfl
theorem R7 (k:Nat) (hk:k≤1000000) (w:World):(Instr.makeSlice 93 (ae aa (k:Int)) (ae aa (k:Int))).run Tryz.prog w=.ok (.slice (some ⟨w.heap.size,0,none⟩) k k) (w.alloc (.cells (dZ (List.replicate k 0)).toArray 3)):=by
 rw [run_make_row' (P:=Tryz.prog) 93 3 (ae aa 0) 8 Tryz.underlying93 WU rfl .i64 .i64 k (by omega) (by omega) w]
 congr 2
 congr 1
 apply Array.ext
 ·simp [madeCells]
 ·intro i h1 h2;simp [madeCells,Nat.mod_one]
theorem vG {w:World} {A:Option Addr} {n:Nat} {l:List Nat} (h:Sl w w.heap.size 1 A n (dZ l)) (hl:l.length=n) (i:Nat) (hi:i < n):∃b o,A=some ⟨b,o,none⟩∧b < w.heap.size∧w.cell? ⟨b,o+i,none⟩=some (ae aa ((l.getD i 0:Nat):Int)):=by
 obtain ⟨b,o,rfl,hb,hc⟩:=h.2 (by omega);exact ⟨b,o,rfl,hb,hc i _ (jG l i (by omega))⟩
theorem UD (w:World) (A:Option Addr) (c:Nat) (x:List Nat) (n:Nat) (hn:x.length=n) (DI:n≤13) (hx:xp x 65536) (m:Nat) (hm:m < 65536 ^ 3) (hs:Sl w w.heap.size 1 A n (dZ x)) :
  Calls Tryz.prog 220 #[.slice A n c,ae aa m] w fun e w'=>∃b,e=.returned (.slice (some ⟨b,0,none⟩) (n+4) (n+4))∧w.heap.size≤b∧Row w' b 3 (dZ (iV x m))∧Below w.heap.size w w':=by
 have qB:=R7 (n+4) (by omega);rw [show ((n+4:Nat):Int)=(n:Int)+4 by omega] at qB;have hr:=Row.new w 3 (dZ (List.replicate (n+4) 0)).toArray;have hb:=(Below.refl w.heap.size w).alloc (Nat.le_refl _) (.cells (dZ (List.replicate (n+4) 0)).toArray 3);generalize hZ:(dZ (List.replicate (n+4) 0)).toArray=Z at qB hr hb;have HZ:=af hZ;have HR:=af hr;have HB:=af hb;have HN:=af hn;have HX:=af hx;have HM:=af hm;have HS:=af hs;clear hZ hr hb hn hx hm hs;go_enter Tryz.func220,Tryz.ntmps220;go_wp2_with fail;go_loopw [6] (fun i wr=>∃(k:Nat) (out:List Nat),k≤n∧i=ae aa k∧out.length=n+4∧nv (x.drop k) k m out=nv x 0 m (List.replicate (n+4) 0)∧xp out (k*17179869184+1)∧Row wr w.heap.size 3 (dZ out)∧Below w.heap.size w wr) (fun i _=>n-(intOf i).toNat)
 case atStart =>
  refine ⟨0,List.replicate (n+4) 0,by omega,rfl,by simp,by rw [List.drop_zero],fun y hy=>by rw [(List.mem_replicate.1 hy).2];omega,?_,HB.o⟩;have h:=HR.o;rw [←HZ.o] at h ⊢;exact h
 case round =>
  obtain ⟨k,out,hk,rfl,uj,hmul,cH,hr,hb⟩:=hrel;have Gk:=af uj;have abe:=af hmul;have o6:=af cH;have iR:=af hr;have bh:=af hb;clear uj hmul cH hr hb;by_cases aH:k < n
  ·have df:(k:Int) < (n:Int):=by omega
   obtain ⟨bA,oA,rfl,Od,cA⟩:=vG HS.o HN.o k aH;have hxk:=HX.o.get (by omega) k
   have Aa:x.drop k=x.getD k 0::x.drop (k+1):=by
    rw [List.drop_eq_getElem_cons (by rw [HN.o];exact aH),dD,cN (by rw [HN.o];exact aH)];rfl
   have Xc:nv (x.drop (k+1)) (k+1) m (ow 64 out (k+0) (x.getD k 0) m)=nv x 0 m (List.replicate (n+4) 0):=by
    rw [←abe.o,Aa];rfl
   generalize x.getD k 0=xk at *;have HM1:=af Xc;clear Xc Aa;go_wp2_with fail;go_loopw [8,7] (fun i r wx=>∃(j:Nat) (ou:List Nat) (rest:Nat),j≤3∧rest < 65536 ^ (3-j)∧i=ae aa j∧r=ae aa rest∧ou.length=n+4∧nv (x.drop (k+1)) (k+1) m (ow (64-j) ou (k+j) xk rest)=nv x 0 m (List.replicate (n+4) 0)∧xp ou (k*17179869184+j*4294967296+1)∧Row wx w.heap.size 3 (dZ ou)∧Below w.heap.size w wx) (fun i _ _=>3-(intOf i).toNat)
   case atStart=>exact ⟨0,out,m,by omega,HM.o,rfl,rfl,Gk.o,HM1.o,by simpa using o6.o,iR.o,bh.o⟩
   case round =>
    obtain ⟨j,ou,rest,hj,Ix,rfl,rfl,uj,hmul,cH,hr,hb⟩:=hrel;rcases Nat.eq_zero_or_pos rest with h0|h0
    ·subst h0;have hn0:¬(0:Int) < ((0:Nat):Int):=by omega
     have hz:ow (64-j) ou (k+j) xk 0=ou:=by
      cases 64-j with
      | zero=>rfl
      | succ f=>simp [ow]
     rw [hz] at hmul;have adi:=af uj;have ab2:=af hmul;have ab6:=af cH;have dK:=af hr;have aO:=af hb;clear uj hmul cH hr hb hz Ix;go_wp2_with fail;go_roundw;case rel=>exact ⟨k+1,ou,by omega,by go_num,adi.o,ab2.o,ab6.o.mono (by omega),dK.o,aO.o⟩
     case measure=>simp [intOf];omega
    ·have ug:(0:Int) < (rest:Int):=by omega
     have hj3:j < 3:=by
      rcases Nat.lt_or_ge j 3 with h|h
      ·exact h
      ·rw [show 3-j=0 by omega] at Ix;omega
     have Xb:ow (64-j) ou (k+j) xk rest=ow (64-(j+1)) (ou.set (k+j) (ou.getD (k+j) 0+xk*(rest % 65536))) (k+(j+1)) xk (rest / 65536):=by
      rw [show 64-j=(64-(j+1))+1 by omega,ow,if_neg (by omega)];rfl
     rw [Xb] at hmul
     have aal:rest / 65536 < 65536 ^ (3-(j+1)):=by
      rw [show 3-j=(3-(j+1))+1 by omega,Nat.pow_succ] at Ix;omega
     have hrm:rest < 65536 ^ 3:=Nat.lt_of_lt_of_le Ix (Nat.pow_le_pow_right (by omega) (by omega));have abL:xk*(rest % 65536)≤65535*65535:=Nat.mul_le_mul (by omega) (by omega);have hold:=cH.get (by omega) (k+j);have c1:=(hr.cell (k+j)).trans (jG ou (k+j) (by omega));have f1:=hr.frozen (k+j);have l1:=hr.lt;have c2:=(hb.cell (p:=⟨bA,oA+k,none⟩) Od).trans cA;have kT:=hr.setCell (k+j) (ae aa ((ou.getD (k+j) 0+xk*(rest % 65536):Nat):Int));rw [Et] at kT;have CT:xp (ou.set (k+j) (ou.getD (k+j) 0+xk*(rest % 65536))) (k*17179869184+(j+1)*4294967296+1):=(cH.mono (by omega)).set (by omega) _;have uN:(ou.set (k+j) (ou.getD (k+j) 0+xk*(rest % 65536))).length=n+4:=by rw [List.length_set];exact uj
     have bT:=hb.setCell (p:=⟨w.heap.size,k+j,none⟩) (Nat.le_refl _) (ae aa ((ou.getD (k+j) 0+xk*(rest % 65536):Nat):Int));obtain ⟨P,hP⟩:∃P:Nat,P=xk*(rest % 65536):=⟨_,rfl⟩
     have hPi:(xk:Int)*((rest:Int) % 65536)=(P:Int):=by rw [hP,Int.natCast_mul,Int.natCast_emod];rfl
     rw [←hP] at kT CT uN bT hmul abL;generalize ou.getD (k+j) 0=old at *;have ab1:=af hmul;have wZ:=af kT;have ab5:=af CT;have Bb:=af uN;have aO:=af bT;have ac9:=af aal;have i1:IntKind.i64.wrap ((k:Int)+(j:Int))=(k:Int)+(j:Int):=IntWalk.i64_in _ ⟨by omega,by omega⟩;have i2:(0:Int)≤(k:Int)+(j:Int):=by omega
     have i3:(k:Int)+(j:Int) < (n:Int)+4:=by omega
     have i4:((k:Int)+(j:Int)).toNat=k+j:=by omega
     have i5:(0:Int)≤(k:Int):=by omega
     clear hmul kT CT uN bT aal Ix Xb cH hr hb uj hP;go_wp2_with fail
     go_region
     go_wp2_with fail;go_roundw;case rel=>exact ⟨j+1,_,rest / 65536,by omega,ac9.o,by go_num,rfl,Bb.o,ab1.o,ab5.o,wZ.o,aO.o.drew⟩
     case measure=>simp [intOf];omega
  ·have df:¬(k:Int) < (n:Int):=by omega
   have lv:k=n:=by omega
   have HK:=af lv;clear lv;have hmul:=abe.o;rw [HK.o,List.drop_of_length_le (by rw [HN.o];exact Nat.le_refl _)] at hmul
   have So:iV x m=carry (n+4) 0 out:=by
    unfold iV;rw [HN.o,←hmul];show carry out.length 0 out=_
    rw [Gk.o]
   have cH:=o6.o.mono (show k*17179869184+1≤1099511627776 by omega);have HT:=af So;have Xu:=af cH;clear hmul So cH;go_wp2_with fail;go_loopw [9] (fun i wx=>∃(j:Nat) (ou:List Nat),j+1≤n+4∧i=ae aa j∧ou.length=n+4∧iV x m=carry (n+4-j) j ou∧(∀p,j < p→ou.getD p 0 < 1099511627776)∧ou.getD j 0 < 2199023255552∧Row wx w.heap.size 3 (dZ ou)∧Below w.heap.size w wx) (fun i _=>n+4-(intOf i).toNat)
   case atStart=>exact ⟨0,out,by omega,rfl,Gk.o,HT.o,fun p _=>Xu.o.get (by omega) p,by have:=Xu.o.get (by omega) 0;omega,iR.o,bh.o⟩
   case round =>
    obtain ⟨j,ou,hj,rfl,uj,hca,hhi,hlo,hr,hb⟩:=hrel;by_cases uM:j+1 < n+4
    ·have tD:(j:Int)+1 < (n:Int)+4:=by omega
     have aaK:iV x m=carry (n+4-(j+1)) (j+1) ((ou.set (j+1) (ou.getD (j+1) 0+ou.getD j 0 / 65536)).set j (ou.getD j 0 % 65536)):=by
      rw [hca,show n+4-j=(n+4-(j+1))+1 by omega,carry,if_pos (by rw [uj];exact uM)]
     have c1:=(hr.cell (j+1)).trans (jG ou (j+1) (by omega));have c2:=(hr.cell j).trans (jG ou j (by omega));have f1:=hr.frozen (j+1);have f2:=hr.frozen j;have l1:=hr.lt;have hh1:=hhi (j+1) (by omega);have kT:=(hr.setCell (j+1) (ae aa ((ou.getD (j+1) 0+ou.getD j 0 / 65536:Nat):Int))).setCell j (ae aa ((ou.getD j 0 % 65536:Nat):Int));rw [Et,Et] at kT;have bT:=(hb.setCell (p:=⟨w.heap.size,j+1,none⟩) (Nat.le_refl _) (ae aa ((ou.getD (j+1) 0+ou.getD j 0 / 65536:Nat):Int))).setCell (p:=⟨w.heap.size,j,none⟩) (Nat.le_refl _) (ae aa ((ou.getD j 0 % 65536:Nat):Int));have uN:((ou.set (j+1) (ou.getD (j+1) 0+ou.getD j 0 / 65536)).set j (ou.getD j 0 % 65536)).length=n+4:=by simp [uj]
     have aay:((ou.set (j+1) (ou.getD (j+1) 0+ou.getD j 0 / 65536)).set j (ou.getD j 0 % 65536)).getD (j+1) 0 < 2199023255552:=by
      rw [kW,if_neg (by omega),kW,if_pos ⟨rfl,by omega⟩];omega
     have aaF:∀p,j+1 < p→((ou.set (j+1) (ou.getD (j+1) 0+ou.getD j 0 / 65536)).set j (ou.getD j 0 % 65536)).getD p 0 < 1099511627776:=fun p hp=>by
      rw [kW,if_neg (by omega),kW,if_neg (by omega)];exact hhi p (by omega)
     generalize ou.getD (j+1) 0=a at *;generalize ou.getD j 0=d at *;have HCA:=af aaK;have wZ:=af kT;have aO:=af bT;have Bb:=af uN;have HLO:=af aay;have HHI:=af aaF;have d0:(0:Int)≤(d:Int):=by omega
     have j0:(0:Int)≤(j:Int):=by omega
     have j1:(0:Int)≤(j:Int)+1:=by omega
     have j2:((j:Int)+1).toNat=j+1:=by omega
     have j3:(j:Int) < (n:Int)+4:=by omega
     clear hca aaK kT bT uN aay aaF hhi hr hb uj;go_wp2_with fail
     go_region
     go_wp2_with fail;go_roundw;case rel=>exact ⟨j+1,_,by omega,by go_num,Bb.o,HCA.o,HHI.o,HLO.o,wZ.o,aO.o.drew⟩
     case measure=>simp [intOf];omega
    ·have tD:¬(j:Int)+1 < (n:Int)+4:=by omega
     have aaH:iV x m=ou:=by
      rw [hca];cases hf:n+4-j with
      | zero=>rfl
      | succ f=>rw [carry,if_neg (by rw [uj];omega)]
     have HF:=af aaH;have zp:=af hr;have bM:=af hb;clear aaH hca hhi hlo hr hb uj;go_wp2_with fail;go_ret;exact ⟨w.heap.size,rfl,Nat.le_refl _,by rw [HF.o];exact zp.o,bM.o⟩
theorem rf {w w':World} {A:Option Addr} {n:Nat} {xs:List Value} (h:Sl w w.heap.size 1 A n xs) (hb:Below w.heap.size w w'):Sl w' w'.heap.size 1 A n xs:=(h.below hb).more hb.size
theorem He (w:World) (m p d:Nat) (hm:m < 65536 ^ 3) (hp:p≤1000) (d1:1≤d) (d3:d≤3) :
  Calls Tryz.prog 216 #[ae aa m,ae aa p,ae aa d] w fun e w'=>e=.returned (.bool (qp m p d))∧Below w.heap.size w w':=by
 have HM:=af hm;clear hm;go_enter Tryz.func216,Tryz.ntmps216;go_wp2_with fail;have fE:=af ((Below.refl w.heap.size w).alloc (Nat.le_refl _) (.cells #[ae aa 1] 3));have Mv:=af (ZB (w:=w) (e:=3) (n:=1) (size:=1) (cs:=#[ae aa 1]) rfl);go_loopw [8,7] (fun i v wr=>∃(k:Nat) (A:Option Addr) (c:Nat),k≤d∧i=ae aa k∧v=.slice A (4*k+1) c∧Sl wr wr.heap.size 1 A (4*k+1) (dZ (mD m k))∧Below w.heap.size w wr) (fun i _ _=>d-(intOf i).toNat)
 case atStart=>exact ⟨0,_,_,by omega,rfl,rfl,Mv.o.more (by show w.heap.size+1≤(w.heap.push _).size;rw [Array.size_push];omega),fE.o⟩
 case round =>
  obtain ⟨k,A,c,hk,rfl,rfl,hs,hb⟩:=hrel;have HS:=af hs;have HB:=af hb;clear hs hb;by_cases aH:k < d
  ·have df:(k:Int) < (d:Int):=by omega
   have HT:=af (UD wr A c (mD m k) (4*k+1) (rJ m k) (by omega) (GG HM.o k) m HM.o HS.o);go_wp2_with fail;refine HT.o.mono ?_;rintro e w2 ⟨b,rfl,hbw,hr,bT⟩;have dk:Sl w2 w2.heap.size 1 (some ⟨b,0,none⟩) (4*(k+1)+1) (dZ (mD m (k+1))):=hr.sl hr.lt (by rw [List.drop_zero,List.take_of_length_le (by rw [iB];have:=rJ m (k+1);show (iV (mD m k) m).length≤_;rw [Bo,rJ];omega)];rfl) (by rw [iB,rJ];omega);have lJ:=af dk;have aO:=af (HB.o.trans (bT.mono HB.o.size));clear hbw hr bT dk;go_wp2_with fail;go_roundw;case rel=>exact ⟨k+1,_,_,by omega,by go_num,by congr 1,lJ.o,aO.o⟩
   case measure=>simp [intOf];omega
  ·have df:¬(k:Int) < (d:Int):=by omega
   obtain rfl:k=d:=by omega
   have jy:=rJ m k;have It:=GG HM.o k;have zf:=Ti m p k;have qw:=Qf m p k;have hov:=fun i hi h=>Th m p k i hi h;generalize mD m k=x at *;have ak:=Ki x;have hte:=Np x (4*k+1) (by omega);have uv:=af jy;have HXA:=af It;have Ub:=af zf;have HUN:=af qw;have HOV:=af hov;have bH:=af ak;have HTE:=af hte;clear jy It zf qw hov ak hte;go_wp2_with fail;go_loopw [10,9] (fun i v wx=>∃q:Nat,2*k≤q∧q≤4*k+1∧i=ae aa ((q:Int)-1)∧v=ae aa (iU x q:Nat)∧iU x q≤p∧wx=wr) (fun i _ _=>(intOf i+1).toNat)
   case atStart=>exact ⟨4*k+1,by omega,by omega,by congr 1;omega,by rw [HTE.o];rfl,by rw [HTE.o];omega,rfl⟩
   case round =>
    obtain ⟨q,AF,uf,rfl,rfl,htp,rfl⟩:=hrel;by_cases hlq:2*k < q
    ·obtain ⟨r,rfl⟩:∃r,q=r+1:=⟨q-1,by omega⟩
     have wK:((r+1:Nat):Int)-1=(r:Int):=by omega
     rw [wK];clear wK;have AQ:2*(k:Int)≤(r:Int):=by omega
     obtain ⟨bA,oA,rfl,Od,cA⟩:=vG HS.o uv.o r (by omega);have hxr:=HXA.o.get (by omega) r;have jJ:=bH.o r (by rw [uv.o];omega);have VN:=HOV.o r (by omega);have r0:(0:Int)≤(r:Int):=by omega
     have r1:(r:Int) < 4*(k:Int)+1:=by omega
     generalize x.getD r 0=xr at *;generalize iU x (r+1)=t1 at *;by_cases FH:p < iU x r
     ·have aat:=VN FH;rw [jJ] at FH;have acu:(p:Int) < 65536*(t1:Int)+(xr:Int):=by omega
      have ke:=af aat;clear aat VN jJ;go_wp2_with fail;go_ret;exact ⟨by rw [ke.o];rfl,HB.o⟩
     ·have aai:iU x r≤p:=by omega
      rw [jJ] at FH;have acu:¬(p:Int) < 65536*(t1:Int)+(xr:Int):=by omega
      have Jy:=af jJ;have ac1:=af aai;clear VN jJ aai;go_wp2_with fail;go_roundw;case rel=>exact ⟨r,by omega,by omega,rfl,by rw [Jy.o];rfl,ac1.o,trivial⟩
      case measure=>simp [intOf]
    ·obtain rfl:q=2*k:=by omega
     have AQ:¬2*(k:Int)≤((2*k:Nat):Int)-1:=by omega
     generalize hT:iU x (2*k)=T at *;by_cases AK:T < p
     ·have acD:(T:Int) < (p:Int):=by omega
      have HU:=af (HUN.o AK);go_wp2_with fail;go_ret;exact ⟨by rw [HU.o];rfl,HB.o⟩
     ·have acD:¬(T:Int) < (p:Int):=by omega
      have HE:=af (Ub.o (by omega));go_wp2_with fail;go_loopw [11] (fun i wx=>∃j:Nat,j≤2*k∧i=ae aa j∧(x.take j).all (·==0)=true∧wx=wr) (fun i _=>2*k-(intOf i).toNat)
      case atStart=>exact ⟨0,by omega,rfl,by simp,rfl⟩
      case round =>
       obtain ⟨j,hj,rfl,cH,rfl⟩:=hrel;by_cases uM:j < 2*k
       ·have tD:(j:Int) < 2*(k:Int):=by omega
        have ad1:(j:Int) < 4*(k:Int)+1:=by omega
        obtain ⟨bA,oA,rfl,Od,cA⟩:=vG HS.o uv.o j (by omega);have j0:(0:Int)≤(j:Int):=by omega
        have qJ:x.take (j+1)=x.take j++[x.getD j 0]:=by
         rw [kr (by rw [uv.o];omega),dD,cN (by rw [uv.o];omega)];rfl
        by_cases hz:x.getD j 0=0
        ·have CT:(x.take (j+1)).all (·==0)=true:=by rw [qJ,List.all_append,cH,hz];rfl
         have yo:=af CT;have hz':¬(0:Int) < ((x.getD j 0:Nat):Int):=by omega
         generalize x.getD j 0=xj at *;clear qJ cH CT;go_wp2_with fail;go_roundw;case rel=>exact ⟨j+1,by omega,by go_num,yo.o,trivial⟩
         case measure=>simp [intOf];omega
        ·have hz':(0:Int) < ((x.getD j 0:Nat):Int):=by omega
         have jS:(x.take (2*k)).all (·==0)=false:=by
          rw [List.all_eq_false];refine ⟨x.getD j 0,?_,by simpa using hz⟩;rw [dD,cN (by rw [uv.o];omega)];rw [List.mem_take_iff_getElem];exact ⟨j,by rw [uv.o];omega,rfl⟩
         have lL:=af jS;generalize x.getD j 0=xj at *;clear qJ cH jS;go_wp2_with fail;go_ret;exact ⟨by rw [HE.o,lL.o];rfl,HB.o⟩
       ·obtain rfl:j=2*k:=by omega
        have tD:¬((2*k:Nat):Int) < 2*(k:Int):=by omega
        have o6:=af cH;clear cH;go_wp2_with fail;go_ret;exact ⟨by rw [HE.o,o6.o];rfl,HB.o⟩
theorem GB (w:World) (p d:Nat) (hp:p≤1000) (d1:1≤d) (d3:d≤3):Calls Tryz.prog 204 #[ae aa p,ae aa d] w fun e w'=>e=.returned (ae aa (o8 p d:Nat))∧Below w.heap.size w w':=by
 go_enter Tryz.func204,Tryz.ntmps204;go_wp2_with fail;go_loopw [5,6] (fun l h wr=>∃(f low high:Nat),low≤high∧high≤34359738368∧high-low≤2 ^ f∧l=ae aa low∧h=ae aa high∧o8 p d=oE f low high p d∧Below w.heap.size w wr) (fun l h _=>(intOf h-intOf l).toNat)
 case atStart=>exact ⟨64,0,34359738368,by omega,by omega,by decide,rfl,rfl,rfl,Below.refl _ _⟩
 case round =>
  obtain ⟨f,low,high,h1,h2,h3,rfl,rfl,h4,hb⟩:=hrel;have HB:=af hb;clear hb;by_cases hgt:high-low > 1
  ·have acI:(1:Int) < (high:Int)-(low:Int):=by omega
   obtain ⟨f,rfl⟩:∃f',f=f'+1:=⟨f-1,by
    rcases Nat.eq_zero_or_pos f with h|h
    ·subst h;simp at h3;omega
    ·omega⟩
   rw [MY f low high p d hgt] at h4;have aax:(((low+high) / 2:Nat):Int)=((low:Int)+(high:Int)) / 2:=by omega
   have HF:=af (fun w=>He w ((low+high) / 2) p d (by omega) hp d1 d3);have Sw:low≤(low+high) / 2∧(low+high) / 2≤high∧low < (low+high) / 2∧(low+high) / 2 < high:=by omega
   have yW:high-(low+high) / 2≤2 ^ f∧(low+high) / 2-low≤2 ^ f:=by
    rw [Nat.pow_succ] at h3;omega
   have s0:(0:Int)≤(low:Int)+(high:Int):=by omega
   generalize AH:(low+high) / 2=m at *;have HH4:=af h4;have adp:=af aax;have xg:=af yW;clear h4 yW aax AH h3;go_wp2_with fail;rw [←adp.o];refine (HF.o _).mono ?_;rintro e w2 ⟨rfl,bT⟩;have aO:=af (HB.o.trans (bT.mono HB.o.size));clear bT;cases xW:qp m p d
   ·have Lr:=HH4.o;rw [xW,if_neg (by decide)] at Lr;have HH5:=af Lr;clear Lr xW;go_wp2_with fail;go_roundw;case rel=>exact ⟨f,low,m,by omega,by omega,xg.o.2,rfl,rfl,HH5.o,aO.o⟩
    case measure=>simp [intOf];omega
   ·have Lr:=HH4.o;rw [xW,if_pos rfl] at Lr;have HH5:=af Lr;clear Lr xW;go_wp2_with fail;go_roundw;case rel=>exact ⟨f,m,high,by omega,by omega,xg.o.1,rfl,rfl,HH5.o,aO.o⟩
    case measure=>simp [intOf];omega
  ·have acI:¬(1:Int) < (high:Int)-(low:Int):=by omega
   rw [Pg f low high p d hgt] at h4;have HH4:=af h4;clear h4 h3;go_wp2_with fail;refine (Fo _ low).mono ?_;rintro e w2 ⟨rfl,rfl⟩;go_wp2_with fail;go_ret;exact ⟨by rw [HH4.o];rfl,HB.o⟩
theorem vZ:qP Tryz.prog 93 3 1 8:=by
 obtain ⟨i0,hi,kJ,ny,gm⟩:=info_parts WU;exact ⟨Tryz.underlying93,⟨i0,_,hi,kJ,ny,gm,rfl⟩,by decide⟩
end fZ
namespace mem
open Go.RowKit base obj
theorem nG {P:Program} {t e size bytes:Nat} (T:qP P t e size bytes) {ops:Array Oper} {rest:List Oper} {o:Oper} {a:Act} {Q:Exit→Act→World→Prop} {w:World} (eP:o.guard=none) (s x:Operand)
  (ho:o.op=.call { callee:=.builtin .append,args:=#[s,x],argTypes:=#[t,t] })
  {base:Nat} {v:Value} {n:Nat} {xs:List Value} (ft:w.ownsRow base e size v n xs) (hs:a.eval s=v) {B m c:Nat} {A:Option Addr} {ys:List Value} (hx:a.eval x=.slice A m c) (hA:A=none→c=0)
  (hr:Sl w B size A m ys) (h1:∀u∈ys,u.oneCell'=true) (hb:(n+m)*bytes≤140737488355328) (rP:n+m≤maxLen) (pj:base≤w.heap.size)
  (h:∀v' w',w'.ownsRow base e size v' (n+m) (xs++ys)→w.grownBy w' v.ownBlock→(∀g,v'.ownBlock=some g→v.ownBlock=some g∨w.heap.size≤g)→wpList P ops Q rest (a.put o.dst v') w') :
  wpList P ops Q (o::rest) a w:=by
 obtain ⟨i,z,hi,hz,h2,h3,h4⟩:=T.hi;rcases A with _|ad
 ·have hm:m=0:=by
   rcases Nat.eq_zero_or_pos m with h0|h0
   ·exact h0
   ·obtain ⟨b,off,h,_⟩:=hr.2 h0;cases h
  subst hm;obtain rfl:ys=[]:=List.eq_nil_of_length_eq_zero (by simpa using hr.1);rw [hA rfl] at hx;refine wpList_append_own_none eP s x t ho base e i size T.ht hi v n xs hs ft hx ?_;exact h v w (by simpa using ft) (World.grownBy.refl w _) fun g hg=>.inl hg
 ·refine wpList_append_own_at _ eP s x t ho base e i z size bytes T.ht hi hz h2 h3 h4 T.hs v n xs hs ft ad m c ys hx hr.1 ?_ h1 rP hb pj fun v' w' FJ hg _ acE=>h v' w' FJ hg fun g uP=>?_
  ·intro j u hu
   have hm:0 < m:=by
    rcases Nat.eq_zero_or_pos m with h0|h0
    ·subst h0;have hn:ys=[]:=List.eq_nil_of_length_eq_zero (by simpa using hr.1);subst hn;simp at hu
    ·exact h0
   obtain ⟨b,off,he,_,hc⟩:=hr.2 hm;injection he with he
   subst he;have Ad:(⟨b,off,none⟩:Addr).add j=⟨b,off+j,none⟩:=by unfold Addr.add;split<;>simp_all
   rw [Ad];exact hc j u hu
  ·rcases acE with h5|h5
   ·exact .inl (by rw [←h5];exact uP)
   ·rw [h5] at uP;injection uP with uP
    exact .inr (by omega)
end mem
namespace fZ
open Go.RowKit Go.Deep base obj mem sep bC aW chain
theorem RJ (w:World):Calls Tryz.prog 203 #[ae aa 64] w fun e w'=>∃v,e=.returned v∧w'.ownsRow w.heap.size 3 1 v 64 (dZ fi)∧Below w.heap.size w w':=by
 go_enter Tryz.func203,Tryz.ntmps203;go_wp2_with fail;have HO0:=af (World.ownsRow_nil w w.heap.size 3 1);go_loopw [3,4] (fun v i wr=>∃q:Nat,2≤q∧q < 313∧i=ae aa q∧wr.ownsRow w.heap.size 3 1 v (pl q).length (dZ (pl q))∧Below w.heap.size w wr) (fun _ i _=>313-(intOf i).toNat)
 case atStart=>exact ⟨2,by omega,by omega,rfl,HO0.o,Below.refl _ _⟩
 case round =>
  obtain ⟨q,uf,NS,rfl,ho,hb⟩:=hrel;have iQ:=ZM q NS;obtain ⟨A,c,rfl,hc,uk⟩:=aD ho;have HO:=af ho;have HB:=af hb;clear ho hb;by_cases aH:(pl q).length < 64
  ·have qz:=iQ.2.1 aH;have cH:=ZN q qz uf;have gp:=Yg q qz uf;have aaq:=ZL q;have dk:=Sl.bP HO.o;generalize hL:pl q=L at *;have df:((L.length:Nat):Int) < 64:=by omega
   have o6:=af cH;have lK:=af gp;have adf:=af aaq;have lJ:=af dk;have HL:=af hL;clear cH gp aaq dk hL iQ;go_wp2_with fail;go_loopw [6,5] (fun i b wx=>∃j:Nat,j≤L.length∧i=ae aa j∧b=.bool ((L.take j).all fun p=>decide (q % p≠0))∧wx=wr) (fun i _ _=>L.length-(intOf i).toNat)
   case atStart=>exact ⟨0,by omega,rfl,rfl,rfl⟩
   case round =>
    obtain ⟨j,hj,rfl,rfl,rfl⟩:=hrel;by_cases uM:j < L.length
    ·have tD:(j:Int) < (L.length:Int):=by omega
     obtain ⟨bA,oA,rfl,Od,cA⟩:=vG lJ.o rfl j uM
     have qJ:(L.take (j+1)).all (fun p=>decide (q % p≠0))=((L.take j).all (fun p=>decide (q % p≠0))&&decide (q % L.getD j 0≠0)):=by
      rw [kr uM,List.all_append,dD,cN uM];simp
     have hp:=adf.o (L.getD j 0) (by rw [dD,cN uM];exact List.getElem_mem uM);generalize L.getD j 0=z at *;have j0:(0:Int)≤(j:Int):=by omega
     have z0:(0:Int) < (z:Int):=by omega
     have q0:(0:Int)≤(q:Int):=by omega
     have aan:(q:Int) % (z:Int)=((q % z:Nat):Int):=by rw [Int.natCast_emod]
     have yc:=af qJ;have ada:=af aan;clear qJ aan;cases AU:(L.take j).all fun p=>decide (q % p≠0)
     ·have uY:=af AU;clear AU;go_wp2_with fail;go_roundw;case rel=>exact ⟨j+1,by omega,by go_num,by rw [yc.o,uY.o];rfl,trivial⟩
      case measure=>simp [intOf];omega
     ·have uY:=af AU;clear AU;go_wp2_with fail;go_roundw
      case rel=>exact ⟨j+1,by omega,by go_num,by
       rw [yc.o,uY.o,ada.o];generalize q % z=r;by_cases hr:r=0
       ·subst hr;rfl
       ·have h2:¬(r:Int)=0:=by omega
        simp [hr,h2],trivial⟩
      case measure=>simp [intOf];omega
    ·obtain jz:j=L.length:=by omega
     have tD:¬(j:Int) < (L.length:Int):=by omega
     have hjj:(L.take j).all (fun p=>decide (q % p≠0))=decide (q∈fi):=by
      rw [jz,List.take_length];exact o6.o
     rw [hjj];by_cases yX:q∈fi
     ·have hd:decide (q∈fi)=true:=by simpa using yX
      rw [hd];have Ez:=lK.o;rw [if_pos yX] at Ez;have zr:=af Ez;clear Ez hjj yX hd jz;have mv:=af HB.o.size;go_wp2_with (at_builtin;refine Ox vZ rfl (.tmp 30) (.tmp 32) rfl HO.o rfl rfl rfl (by simp [Value.oneCell']) (by omega) (by unfold maxLen;omega) mv.o ?_;intro v2 w2 FI uP;have aO:=af (jq HB.o HO.o uP mv.o);have ke:=af FI;clear uP FI);go_roundw
      case rel =>
       refine ⟨q+1,by omega,by omega,by go_num,?_,aO.o⟩;rw [zr.o,gC,dZ,List.map_append];exact ke.o
      case measure=>simp [intOf];omega
     ·have hd:decide (q∈fi)=false:=by simpa using yX
      rw [hd];have Ez:=lK.o;rw [if_neg yX] at Ez;have zr:=af Ez;clear Ez hjj yX hd jz;go_wp2_with fail;go_roundw;case rel=>exact ⟨q+1,by omega,by omega,by go_num,by rw [zr.o];exact HO.o,HB.o⟩
      case measure=>simp [intOf];omega
  ·have aaA:(pl q).length=64:=by omega
   have yX:=iQ.2.2 aaA;have df:¬(((pl q).length:Nat):Int) < 64:=by omega
   have HP:=af yX;clear yX iQ;go_wp2_with fail;go_ret;refine ⟨_,rfl,?_,HB.o⟩;have h:=HO.o;rw [aaA,HP.o] at h;exact h
end fZ
end Go.Proofs.YtdldkkoplgkloaaGreat
