/-
  PROVED HERE: lemmas that the law leans on.
  CONDITIONS: each names its own.
-/
import Derived.Deep.OwnRows
import Derived.Deep.RegionLaw
import Derived.Laws.BytesArg
import Derived.Lib.Bytes
import Derived.Maps.AppendAt
import Derived.Shelf.RegionOpen
import Derived.Test.YtdldkkoplgkloaaGreatPy0
import Derived.Test.YtdldkkoplgkloaaGreatPy1
import Derived.Test.YtdldkkoplgkloaaGreatPy2
import Derived.Test.YtdldkkoplgkloaaGreatPy3
import Derived.Test.YtdldkkoplgkloaaGreatPy4
namespace Go.Proofs.YtdldkkoplgkloaaGreat
set_option linter.unusedVariables false
set_option linter.unusedSimpArgs false
set_option maxRecDepth 100000
set_option maxHeartbeats 32000000
namespace fH

open Go.RowKit Go.Deep base obj mem sep bw bf chain
theorem yC (w:World) (n:Nat) (hn:n≤62):Calls Tryz.prog 201 #[.int .i64 n] w fun e w'=>e=.returned (.int .i64 (2 ^ n:Nat))∧w'=w:=by
 go_enter Tryz.func201,Tryz.ntmps201;go_wp2_with fail;go_loopw [4,3] (fun i x wr=>∃k:Nat,k≤n∧i=.int .i64 k∧x=.int .i64 (2 ^ k:Nat)∧wr=w) (fun i _ _=>n-(intOf i).toNat)
 case atStart=>exact ⟨0,by omega,rfl,rfl,rfl⟩
 case round =>
  obtain ⟨k,hk,rfl,rfl,rfl⟩:=hrel;by_cases aK:k < n
  ·have cZ:(k:Int) < (n:Int):=by omega
   have hp:2 ^ k≤2 ^ 61:=Nat.pow_le_pow_right (by omega) (by omega);have hs:2 ^ (k+1)=2 ^ k+2 ^ k:=by rw [Nat.pow_succ];omega
   have HS:=aa hs;clear hs;generalize 2 ^ k=p at *;go_wp2_with fail;go_roundw;case rel=>exact ⟨k+1,by omega,by go_num,by rw [HS.o];rfl,trivial⟩
   case measure=>simp [intOf];omega
  ·have cZ:¬(k:Int) < (n:Int):=by omega
   have kJ:k=n:=by omega
   have HK:=aa kJ;clear kJ;go_wp2_with fail;go_ret;exact ⟨by rw [HK.o];rfl,rfl⟩
theorem D6 (w:World) (n:Nat):Calls Tryz.prog 213 #[.int .i64 n] w fun e w'=>e=.returned (.int .i64 (n % M:Nat))∧w'=w:=by
 have h0:(0:Int)≤(n:Int):=by omega
 go_enter Tryz.func213,Tryz.ntmps213;go_wp2_with fail;go_ret;exact ⟨rfl,rfl⟩
theorem Bw (w:World) (x n:Nat) (hx:x < 2 ^ 32) (h0:0 < n) (hn:n < 32):Calls Tryz.prog 214 #[.int .i64 x,.int .i64 n] w fun e w'=>e=.returned (.int .i64 (tn x n:Nat))∧∃j,w'=w.drewN j:=by
 have Be:=aa (fun w=>yC w n (by omega))
 have tE:RowKit.Hid (∀(w:World) (k:Nat),Calls Tryz.prog 201 #[.int .i64 (32-(n:Int))] (w.drewN k) fun e w'=>e=.returned (.int .i64 (2 ^ (32-n):Nat))∧∃j,w'=w.drewN j):=aa fun w k=>by
  have h:=yC (w.drewN k) (32-n) (by omega);rw [show ((32-n:Nat):Int)=32-(n:Int) by omega] at h;exact h.mono fun e w' ⟨h1,h2⟩=>⟨h1,k,h2⟩
 have td:0 < 2 ^ n:=Nat.two_pow_pos n;have JR:(2 ^ n:Nat)≤2 ^ 32:=Nat.pow_le_pow_right (by omega) (by omega)
 have hm:x % 2 ^ n*2 ^ (32-n) < 2 ^ 32:=by
  have h:=eC x n hx hn;unfold tn at h;exact Nat.lt_of_le_of_lt (Nat.le_add_left _ _) h
 have hq:x / 2 ^ n≤x:=Nat.div_le_self _ _;have HT:RowKit.Hid (tn x n=x / 2 ^ n+x % 2 ^ n*2 ^ (32-n)):=aa rfl;have uZ:(n:Int) < 32:=by omega
 clear h0 hn;generalize 2 ^ n=p at *;generalize 2 ^ (32-n)=r at *;have p0:(0:Int) < (p:Int):=by omega
 obtain ⟨A,B,hA,hB,hT,eA,eB⟩:∃A B:Nat,A≤x∧B < 2 ^ 32∧tn x n=A+B∧(x:Int) / (p:Int)=(A:Int)∧((x:Int) % (p:Int))*(r:Int)=(B:Int):=⟨x / p,x % p*r,hq,hm,HT.o,by rw [Int.natCast_ediv],by rw [Int.natCast_mul,Int.natCast_emod]⟩
 have aJ:IntKind.i64.wrap (((x:Int) % (p:Int))*(r:Int))=((x:Int) % (p:Int))*(r:Int):=by rw [eB];exact IntWalk.i64_in _ ⟨by omega,by omega⟩
 have mR:wrap64 (wrap64 ((x:Int) / (p:Int))+((x:Int) % (p:Int))*(r:Int))=((A+B:Nat):Int):=by
  rw [eA,eB,IntWalk.wrap64_in (A:Int) ⟨by omega,by omega⟩,IntWalk.wrap64_in _ ⟨by omega,by omega⟩];rfl
 have vq:=aa mR;have Hu:=aa hT;have h32:(n:Int)≤32:=by omega
 have pne:¬(p:Int)=0:=by omega
 have x0:(0:Int)≤(x:Int):=by omega
 clear hm hq JR mR hA hB hT eA eB;go_enter Tryz.func214,Tryz.ntmps214;go_wp2_with fail;refine (Be.o _).mono ?_;rintro e w' ⟨rfl,rfl⟩;go_wp2_with fail;go_quiet ((with_reducible exact tE.o _ _));go_wp2_with fail;go_ret;exact ⟨by rw [vq.o,Hu.o];rfl,_,rfl⟩
theorem Br (a b:Nat) (ha:a < 2 ^ 32) (hb:b < 2 ^ 32):Go.bits .xor .i64 (a:Int) (b:Int)=((a ^^^ b:Nat):Int):=by
 show IntKind.i64.wrap ((BitVec.ofInt 64 (a:Int) ^^^ BitVec.ofInt 64 (b:Int)).toNat:Int)=_
 have hx:a ^^^ b < 2 ^ 32:=Nat.xor_lt_two_pow ha hb;rw [BitVec.toNat_xor,BitVec.toNat_ofInt,BitVec.toNat_ofInt,show ((a:Int) % ((2 ^ 64:Nat):Int)).toNat=a by omega,show ((b:Int) % ((2 ^ 64:Nat):Int)).toNat=b by omega];exact IntWalk.i64_in _ ⟨by omega,by omega⟩
theorem EO (a b:Nat) (ha:a < 2 ^ 32) (hb:b < 2 ^ 32):Go.bits .and .i64 (a:Int) (b:Int)=((a &&& b:Nat):Int):=by
 show IntKind.i64.wrap ((BitVec.ofInt 64 (a:Int) &&& BitVec.ofInt 64 (b:Int)).toNat:Int)=_
 have hx:a &&& b < 2 ^ 32:=Nat.and_lt_two_pow _ hb;rw [BitVec.toNat_and,BitVec.toNat_ofInt,BitVec.toNat_ofInt,show ((a:Int) % ((2 ^ 64:Nat):Int)).toNat=a by omega,show ((b:Int) % ((2 ^ 64:Nat):Int)).toNat=b by omega];exact IntWalk.i64_in _ ⟨by omega,by omega⟩
theorem Te (a b:Nat) (ha:a < 2 ^ 32) (hb:b < 2 ^ 32):Go.bits .or .i64 (a:Int) (b:Int)=((a ||| b:Nat):Int):=by
 show IntKind.i64.wrap ((BitVec.ofInt 64 (a:Int) ||| BitVec.ofInt 64 (b:Int)).toNat:Int)=_
 have hx:a ||| b < 2 ^ 32:=Nat.or_lt_two_pow ha hb;rw [BitVec.toNat_or,BitVec.toNat_ofInt,BitVec.toNat_ofInt,show ((a:Int) % ((2 ^ 64:Nat):Int)).toNat=a by omega,show ((b:Int) % ((2 ^ 64:Nat):Int)).toNat=b by omega];exact IntWalk.i64_in _ ⟨by omega,by omega⟩
theorem Qf (w:World) (x a b c:Nat) (hx:x < 2 ^ 32) (a0:0 < a) (a1:a < 32) (b0:0 < b) (b1:b < 32) (c0:0 < c) (c1:c < 32):Calls Tryz.prog 215 #[.int .i64 x,.int .i64 a,.int .i64 b,.int .i64 c] w fun e w'=>e=.returned (.int .i64 (mix x a b c:Nat))∧∃j,w'=w.drewN j:=by
 have H1:=aa (fun w=>Bw w x a hx a0 a1);have H2:=aa (fun w=>Bw w x b hx b0 b1);have H3:=aa (fun w=>Bw w x c hx c0 c1);have e1:=Br (tn x a) (tn x b) (eC x a hx a1) (eC x b hx b1);have e2:=Br (tn x a ^^^ tn x b) (tn x c) (gi (eC x a hx a1) (eC x b hx b1)) (eC x c hx c1);clear hx a0 a1 b0 b1 c0 c1;go_enter Tryz.func215,Tryz.ntmps215;go_wp2_with fail;refine (H1.o _).mono ?_;rintro e w1 ⟨rfl,j1,rfl⟩;go_wp2_with fail;refine (H2.o _).mono ?_;rintro e w1 ⟨rfl,j2,rfl⟩;go_wp2_with fail;refine (H3.o _).mono ?_;rintro e w1 ⟨rfl,j3,rfl⟩;go_wp2_with fail;go_ret;exact ⟨rfl,_,rfl⟩
abbrev dP (l:List Nat):List Value:=l.map fun n:Nat=>Value.int .i64 (n:Int)
theorem Dd (l:List Nat) (i z:Nat):(dP l).set i (.int .i64 (z:Int))=dP (l.set i z):=by rw [dP,dP,List.map_set]
theorem jk (l:List Nat) (i:Nat) (h:i < l.length):(dP l)[i]?=some (.int .i64 ((l.getD i 0:Nat):Int)):=by
 rw [dP,List.getElem?_map,dz,cM h];rfl
theorem U4:(Tryz.prog.info? 3).map (fun i=>(i.zero,i.size,i.bytes))=some (some (.int .i64 0),1,8):=by kernel_rfl
theorem Qh (k:Nat) (hk:k≤1000000) (w:World):(Instr.makeSlice 93 (.int .i64 (k:Int)) (.int .i64 (k:Int))).run Tryz.prog w=.ok (.slice (some ⟨w.heap.size,0,none⟩) k k) (w.alloc (.cells (dP (List.replicate k 0)).toArray 3)):=by
 rw [run_make_row' (P:=Tryz.prog) 93 3 (.int .i64 0) 8 Tryz.underlying93 U4 rfl .i64 .i64 k (by omega) (by omega) w]
 congr 2
 congr 1
 apply Array.ext
 ·simp [madeCells]
 ·intro i h1 h2;simp [madeCells,Nat.mod_one]
theorem uA {w:World} {A:Option Addr} {n:Nat} {l:List Nat} (h:Sl w w.heap.size 1 A n (dP l)) (hl:l.length=n) (i:Nat) (hi:i < n):∃b o,A=some ⟨b,o,none⟩∧b < w.heap.size∧w.cell? ⟨b,o+i,none⟩=some (.int .i64 ((l.getD i 0:Nat):Int)):=by
 obtain ⟨b,o,rfl,hb,hc⟩:=h.2 (by omega);exact ⟨b,o,rfl,hb,hc i _ (jk l i (by omega))⟩
theorem SA (w:World) (A:Option Addr) (c:Nat) (x:List Nat) (n:Nat) (hn:x.length=n) (Cx:n≤13) (hx:vB x 65536) (m:Nat) (hm:m < 65536 ^ 3) (hs:Sl w w.heap.size 1 A n (dP x)) :
  Calls Tryz.prog 220 #[.slice A n c,.int .i64 m] w fun e w'=>∃b,e=.returned (.slice (some ⟨b,0,none⟩) (n+4) (n+4))∧w.heap.size≤b∧Row w' b 3 (dP (iB x m))∧Below w.heap.size w w':=by
 have pL:=Qh (n+4) (by omega);rw [show ((n+4:Nat):Int)=(n:Int)+4 by omega] at pL;have hr:=Row.new w 3 (dP (List.replicate (n+4) 0)).toArray;have hb:=(Below.refl w.heap.size w).alloc (Nat.le_refl _) (.cells (dP (List.replicate (n+4) 0)).toArray 3);generalize hZ:(dP (List.replicate (n+4) 0)).toArray=Z at pL hr hb;have HZ:=aa hZ;have HR:=aa hr;have HB:=aa hb;have HN:=aa hn;have HX:=aa hx;have HM:=aa hm;have HS:=aa hs;clear hZ hr hb hn hx hm hs;go_enter Tryz.func220,Tryz.ntmps220;go_wp2_with fail;go_loopw [6] (fun i wr=>∃(k:Nat) (out:List Nat),k≤n∧i=.int .i64 k∧out.length=n+4∧mE (x.drop k) k m out=mE x 0 m (List.replicate (n+4) 0)∧vB out (k*17179869184+1)∧Row wr w.heap.size 3 (dP out)∧Below w.heap.size w wr) (fun i _=>n-(intOf i).toNat)
 case atStart =>
  refine ⟨0,List.replicate (n+4) 0,by omega,rfl,by simp,by rw [List.drop_zero],fun y hy=>by rw [(List.mem_replicate.1 hy).2];omega,?_,HB.o⟩;have h:=HR.o;rw [←HZ.o] at h ⊢;exact h
 case round =>
  obtain ⟨k,out,hk,rfl,tj,hmul,cN,hr,hb⟩:=hrel;have E2:=aa tj;have Zv:=aa hmul;have mf:=aa cN;have iw:=aa hr;have bn:=aa hb;clear tj hmul cN hr hb;by_cases aK:k < n
  ·have cZ:(k:Int) < (n:Int):=by omega
   obtain ⟨bA,oA,rfl,Mn,cA⟩:=uA HS.o HN.o k aK;have hxk:=HX.o.get (by omega) k
   have yO:x.drop k=x.getD k 0::x.drop (k+1):=by
    rw [List.drop_eq_getElem_cons (by rw [HN.o];exact aK),dz,cM (by rw [HN.o];exact aK)];rfl
   have Vk:mE (x.drop (k+1)) (k+1) m (nu 64 out (k+0) (x.getD k 0) m)=mE x 0 m (List.replicate (n+4) 0):=by
    rw [←Zv.o,yO];rfl
   generalize x.getD k 0=xk at *;have HM1:=aa Vk;clear Vk yO;go_wp2_with fail;go_loopw [8,7] (fun i r wx=>∃(j:Nat) (ou:List Nat) (rest:Nat),j≤3∧rest < 65536 ^ (3-j)∧i=.int .i64 j∧r=.int .i64 rest∧ou.length=n+4∧mE (x.drop (k+1)) (k+1) m (nu (64-j) ou (k+j) xk rest)=mE x 0 m (List.replicate (n+4) 0)∧vB ou (k*17179869184+j*4294967296+1)∧Row wx w.heap.size 3 (dP ou)∧Below w.heap.size w wx) (fun i _ _=>3-(intOf i).toNat)
   case atStart=>exact ⟨0,out,m,by omega,HM.o,rfl,rfl,E2.o,HM1.o,by simpa using mf.o,iw.o,bn.o⟩
   case round =>
    obtain ⟨j,ou,rest,hj,Gx,rfl,rfl,tj,hmul,cN,hr,hb⟩:=hrel;rcases Nat.eq_zero_or_pos rest with h0|h0
    ·subst h0;have Md:¬(0:Int) < ((0:Nat):Int):=by omega
     have hz:nu (64-j) ou (k+j) xk 0=ou:=by
      cases 64-j with
      | zero=>rfl
      | succ f=>simp [nu]
     rw [hz] at hmul;have abD:=aa tj;have aap:=aa hmul;have aat:=aa cN;have dI:=aa hr;have aO:=aa hb;clear tj hmul cN hr hb hz Gx;go_wp2_with fail;go_roundw;case rel=>exact ⟨k+1,ou,by omega,by go_num,abD.o,aap.o,aat.o.mono (by omega),dI.o,aO.o⟩
     case measure=>simp [intOf];omega
    ·have td:(0:Int) < (rest:Int):=by omega
     have hj3:j < 3:=by
      rcases Nat.lt_or_ge j 3 with h|h
      ·exact h
      ·rw [show 3-j=0 by omega] at Gx;omega
     have Vj:nu (64-j) ou (k+j) xk rest=nu (64-(j+1)) (ou.set (k+j) (ou.getD (k+j) 0+xk*(rest % 65536))) (k+(j+1)) xk (rest / 65536):=by
      rw [show 64-j=(64-(j+1))+1 by omega,nu,if_neg (by omega)];rfl
     rw [Vj] at hmul
     have YB:rest / 65536 < 65536 ^ (3-(j+1)):=by
      rw [show 3-j=(3-(j+1))+1 by omega,Nat.pow_succ] at Gx;omega
     have hrm:rest < 65536 ^ 3:=Nat.lt_of_lt_of_le Gx (Nat.pow_le_pow_right (by omega) (by omega));have Z7:xk*(rest % 65536)≤65535*65535:=Nat.mul_le_mul (by omega) (by omega);have hold:=cN.get (by omega) (k+j);have c1:=(hr.cell (k+j)).trans (jk ou (k+j) (by omega));have f1:=hr.frozen (k+j);have l1:=hr.lt;have c2:=(hb.cell (p:=⟨bA,oA+k,none⟩) Mn).trans cA;have km:=hr.setCell (k+j) (.int .i64 ((ou.getD (k+j) 0+xk*(rest % 65536):Nat):Int));rw [Dd] at km;have BM:vB (ou.set (k+j) (ou.getD (k+j) 0+xk*(rest % 65536))) (k*17179869184+(j+1)*4294967296+1):=(cN.mono (by omega)).set (by omega) _;have xL:(ou.set (k+j) (ou.getD (k+j) 0+xk*(rest % 65536))).length=n+4:=by rw [List.length_set];exact tj
     have bN:=hb.setCell (p:=⟨w.heap.size,k+j,none⟩) (Nat.le_refl _) (.int .i64 ((ou.getD (k+j) 0+xk*(rest % 65536):Nat):Int));obtain ⟨P,hP⟩:∃P:Nat,P=xk*(rest % 65536):=⟨_,rfl⟩
     have hPi:(xk:Int)*((rest:Int) % 65536)=(P:Int):=by rw [hP,Int.natCast_mul,Int.natCast_emod];rfl
     rw [←hP] at km BM xL bN hmul Z7;generalize ou.getD (k+j) 0=old at *;have aao:=aa hmul;have vt:=aa km;have aas:=aa BM;have zF:=aa xL;have aO:=aa bN;have abw:=aa YB;have i1:IntKind.i64.wrap ((k:Int)+(j:Int))=(k:Int)+(j:Int):=IntWalk.i64_in _ ⟨by omega,by omega⟩;have i2:(0:Int)≤(k:Int)+(j:Int):=by omega
     have i3:(k:Int)+(j:Int) < (n:Int)+4:=by omega
     have i4:((k:Int)+(j:Int)).toNat=k+j:=by omega
     have i5:(0:Int)≤(k:Int):=by omega
     clear hmul km BM xL bN YB Gx Vj cN hr hb tj hP;go_wp2_with fail
     go_region
     go_wp2_with fail;go_roundw;case rel=>exact ⟨j+1,_,rest / 65536,by omega,abw.o,by go_num,rfl,zF.o,aao.o,aas.o,vt.o,aO.o.drew⟩
     case measure=>simp [intOf];omega
  ·have cZ:¬(k:Int) < (n:Int):=by omega
   have kJ:k=n:=by omega
   have HK:=aa kJ;clear kJ;have hmul:=Zv.o;rw [HK.o,List.drop_of_length_le (by rw [HN.o];exact Nat.le_refl _)] at hmul
   have Qv:iB x m=carry (n+4) 0 out:=by
    unfold iB;rw [HN.o,←hmul];show carry out.length 0 out=_
    rw [E2.o]
   have cN:=mf.o.mono (show k*17179869184+1≤1099511627776 by omega);have HT:=aa Qv;have VE:=aa cN;clear hmul Qv cN;go_wp2_with fail;go_loopw [9] (fun i wx=>∃(j:Nat) (ou:List Nat),j+1≤n+4∧i=.int .i64 j∧ou.length=n+4∧iB x m=carry (n+4-j) j ou∧(∀p,j < p→ou.getD p 0 < 1099511627776)∧ou.getD j 0 < 2199023255552∧Row wx w.heap.size 3 (dP ou)∧Below w.heap.size w wx) (fun i _=>n+4-(intOf i).toNat)
   case atStart=>exact ⟨0,out,by omega,rfl,E2.o,HT.o,fun p _=>VE.o.get (by omega) p,by have:=VE.o.get (by omega) 0;omega,iw.o,bn.o⟩
   case round =>
    obtain ⟨j,ou,hj,rfl,tj,hca,hhi,hlo,hr,hb⟩:=hrel;by_cases tS:j+1 < n+4
    ·have sx:(j:Int)+1 < (n:Int)+4:=by omega
     have Y0:iB x m=carry (n+4-(j+1)) (j+1) ((ou.set (j+1) (ou.getD (j+1) 0+ou.getD j 0 / 65536)).set j (ou.getD j 0 % 65536)):=by
      rw [hca,show n+4-j=(n+4-(j+1))+1 by omega,carry,if_pos (by rw [tj];exact tS)]
     have c1:=(hr.cell (j+1)).trans (jk ou (j+1) (by omega));have c2:=(hr.cell j).trans (jk ou j (by omega));have f1:=hr.frozen (j+1);have f2:=hr.frozen j;have l1:=hr.lt;have hh1:=hhi (j+1) (by omega);have km:=(hr.setCell (j+1) (.int .i64 ((ou.getD (j+1) 0+ou.getD j 0 / 65536:Nat):Int))).setCell j (.int .i64 ((ou.getD j 0 % 65536:Nat):Int));rw [Dd,Dd] at km;have bN:=(hb.setCell (p:=⟨w.heap.size,j+1,none⟩) (Nat.le_refl _) (.int .i64 ((ou.getD (j+1) 0+ou.getD j 0 / 65536:Nat):Int))).setCell (p:=⟨w.heap.size,j,none⟩) (Nat.le_refl _) (.int .i64 ((ou.getD j 0 % 65536:Nat):Int));have xL:((ou.set (j+1) (ou.getD (j+1) 0+ou.getD j 0 / 65536)).set j (ou.getD j 0 % 65536)).length=n+4:=by simp [tj]
     have YO:((ou.set (j+1) (ou.getD (j+1) 0+ou.getD j 0 / 65536)).set j (ou.getD j 0 % 65536)).getD (j+1) 0 < 2199023255552:=by
      rw [kx,if_neg (by omega),kx,if_pos ⟨rfl,by omega⟩];omega
     have YV:∀p,j+1 < p→((ou.set (j+1) (ou.getD (j+1) 0+ou.getD j 0 / 65536)).set j (ou.getD j 0 % 65536)).getD p 0 < 1099511627776:=fun p hp=>by
      rw [kx,if_neg (by omega),kx,if_neg (by omega)];exact hhi p (by omega)
     generalize ou.getD (j+1) 0=a at *;generalize ou.getD j 0=d at *;have HCA:=aa Y0;have vt:=aa km;have aO:=aa bN;have zF:=aa xL;have HLO:=aa YO;have HHI:=aa YV;have d0:(0:Int)≤(d:Int):=by omega
     have j0:(0:Int)≤(j:Int):=by omega
     have j1:(0:Int)≤(j:Int)+1:=by omega
     have j2:((j:Int)+1).toNat=j+1:=by omega
     have j3:(j:Int) < (n:Int)+4:=by omega
     clear hca Y0 km bN xL YO YV hhi hr hb tj;go_wp2_with fail
     go_region
     go_wp2_with fail;go_roundw;case rel=>exact ⟨j+1,_,by omega,by go_num,zF.o,HCA.o,HHI.o,HLO.o,vt.o,aO.o.drew⟩
     case measure=>simp [intOf];omega
    ·have sx:¬(j:Int)+1 < (n:Int)+4:=by omega
     have YX:iB x m=ou:=by
      rw [hca];cases hf:n+4-j with
      | zero=>rfl
      | succ f=>rw [carry,if_neg (by rw [tj];omega)]
     have HF:=aa YX;have x9:=aa hr;have bD:=aa hb;clear YX hca hhi hlo hr hb tj;go_wp2_with fail;go_ret;exact ⟨w.heap.size,rfl,Nat.le_refl _,by rw [HF.o];exact x9.o,bD.o⟩
end fH
namespace fH


open Go.RowKit Go.Deep base obj mem sep bw bf chain
theorem qp {w w':World} {A:Option Addr} {n:Nat} {xs:List Value} (h:Sl w w.heap.size 1 A n xs) (hb:Below w.heap.size w w'):Sl w' w'.heap.size 1 A n xs:=(h.below hb).more hb.size
theorem FN (w:World) (m p d:Nat) (hm:m < 65536 ^ 3) (hp:p≤1000) (d1:1≤d) (d3:d≤3) :
  Calls Tryz.prog 216 #[.int .i64 m,.int .i64 p,.int .i64 d] w fun e w'=>e=.returned (.bool (pC m p d))∧Below w.heap.size w w':=by
 have HM:=aa hm;clear hm;go_enter Tryz.func216,Tryz.ntmps216;go_wp2_with fail;have eZ:=aa ((Below.refl w.heap.size w).alloc (Nat.le_refl _) (.cells #[.int .i64 1] 3));have KZ:=aa (XS (w:=w) (e:=3) (n:=1) (size:=1) (cs:=#[.int .i64 1]) rfl);go_loopw [8,7] (fun i v wr=>∃(k:Nat) (A:Option Addr) (c:Nat),k≤d∧i=.int .i64 k∧v=.slice A (4*k+1) c∧Sl wr wr.heap.size 1 A (4*k+1) (dP (lN m k))∧Below w.heap.size w wr) (fun i _ _=>d-(intOf i).toNat)
 case atStart=>exact ⟨0,_,_,by omega,rfl,rfl,KZ.o.more (by show w.heap.size+1≤(w.heap.push _).size;rw [Array.size_push];omega),eZ.o⟩
 case round =>
  obtain ⟨k,A,c,hk,rfl,rfl,hs,hb⟩:=hrel;have HS:=aa hs;have HB:=aa hb;clear hs hb;by_cases aK:k < d
  ·have cZ:(k:Int) < (d:Int):=by omega
   have HT:=aa (SA wr A c (lN m k) (4*k+1) (qD m k) (by omega) (Fs HM.o k) m HM.o HS.o);go_wp2_with fail;refine HT.o.mono ?_;rintro e w2 ⟨b,rfl,hbw,hr,bN⟩;have dB:Sl w2 w2.heap.size 1 (some ⟨b,0,none⟩) (4*(k+1)+1) (dP (lN m (k+1))):=hr.sl hr.lt (by rw [List.drop_zero,List.take_of_length_le (by rw [gN];have:=qD m (k+1);show (iB (lN m k) m).length≤_;rw [zP,qD];omega)];rfl) (by rw [gN,qD];omega);have kL:=aa dB;have aO:=aa (HB.o.trans (bN.mono HB.o.size));clear hbw hr bN dB;go_wp2_with fail;go_roundw;case rel=>exact ⟨k+1,_,_,by omega,by go_num,by congr 1,kL.o,aO.o⟩
   case measure=>simp [intOf];omega
  ·have cZ:¬(k:Int) < (d:Int):=by omega
   obtain rfl:k=d:=by omega
   have nT:=qD m k;have Gr:=Fs HM.o k;have xQ:=Rb m p k;have rP:=On m p k;have hov:=fun i hi h=>Ra m p k i hi h;generalize lN m k=x at *;have av:=IV x;have hte:=LJ x (4*k+1) (by omega);have tB:=aa nT;have HXA:=aa Gr;have R4:=aa xQ;have HUN:=aa rP;have HOV:=aa hov;have bJ:=aa av;have HTE:=aa hte;clear nT Gr xQ rP hov av hte;go_wp2_with fail;go_loopw [10,9] (fun i v wx=>∃q:Nat,2*k≤q∧q≤4*k+1∧i=.int .i64 ((q:Int)-1)∧v=.int .i64 (iA x q:Nat)∧iA x q≤p∧wx=wr) (fun i _ _=>(intOf i+1).toNat)
   case atStart=>exact ⟨4*k+1,by omega,by omega,by congr 1;omega,by rw [HTE.o];rfl,by rw [HTE.o];omega,rfl⟩
   case round =>
    obtain ⟨q,El,vU,rfl,rfl,htp,rfl⟩:=hrel;by_cases hlq:2*k < q
    ·obtain ⟨r,rfl⟩:∃r,q=r+1:=⟨q-1,by omega⟩
     have vT:((r+1:Nat):Int)-1=(r:Int):=by omega
     rw [vT];clear vT;have zx:2*(k:Int)≤(r:Int):=by omega
     obtain ⟨bA,oA,rfl,Mn,cA⟩:=uA HS.o tB.o r (by omega);have hxr:=HXA.o.get (by omega) r;have jl:=bJ.o r (by rw [tB.o];omega);have TD:=HOV.o r (by omega);have r0:(0:Int)≤(r:Int):=by omega
     have r1:(r:Int) < 4*(k:Int)+1:=by omega
     generalize x.getD r 0=xr at *;generalize iA x (r+1)=t1 at *;by_cases Em:p < iA x r
     ·have YI:=TD Em;rw [jl] at Em;have aaP:(p:Int) < 65536*(t1:Int)+(xr:Int):=by omega
      have kG:=aa YI;clear YI TD jl;go_wp2_with fail;go_ret;exact ⟨by rw [kG.o];rfl,HB.o⟩
     ·have Yw:iA x r≤p:=by omega
      rw [jl] at Em;have aaP:¬(p:Int) < 65536*(t1:Int)+(xr:Int):=by omega
      have Hs:=aa jl;have abn:=aa Yw;clear TD jl Yw;go_wp2_with fail;go_roundw;case rel=>exact ⟨r,by omega,by omega,rfl,by rw [Hs.o];rfl,abn.o,trivial⟩
      case measure=>simp [intOf]
    ·obtain rfl:q=2*k:=by omega
     have zx:¬2*(k:Int)≤((2*k:Nat):Int)-1:=by omega
     generalize hT:iA x (2*k)=T at *;by_cases QC:T < p
     ·have aaZ:(T:Int) < (p:Int):=by omega
      have HU:=aa (HUN.o QC);go_wp2_with fail;go_ret;exact ⟨by rw [HU.o];rfl,HB.o⟩
     ·have aaZ:¬(T:Int) < (p:Int):=by omega
      have HE:=aa (R4.o (by omega));go_wp2_with fail;go_loopw [11] (fun i wx=>∃j:Nat,j≤2*k∧i=.int .i64 j∧(x.take j).all (·==0)=true∧wx=wr) (fun i _=>2*k-(intOf i).toNat)
      case atStart=>exact ⟨0,by omega,rfl,by simp,rfl⟩
      case round =>
       obtain ⟨j,hj,rfl,cN,rfl⟩:=hrel;by_cases tS:j < 2*k
       ·have sx:(j:Int) < 2*(k:Int):=by omega
        have acm:(j:Int) < 4*(k:Int)+1:=by omega
        obtain ⟨bA,oA,rfl,Mn,cA⟩:=uA HS.o tB.o j (by omega);have j0:(0:Int)≤(j:Int):=by omega
        have pS:x.take (j+1)=x.take j++[x.getD j 0]:=by
         rw [jz (by rw [tB.o];omega),dz,cM (by rw [tB.o];omega)];rfl
        by_cases hz:x.getD j 0=0
        ·have BM:(x.take (j+1)).all (·==0)=true:=by rw [pS,List.all_append,cN,hz];rfl
         have wR:=aa BM;have hz':¬(0:Int) < ((x.getD j 0:Nat):Int):=by omega
         generalize x.getD j 0=xj at *;clear pS cN BM;go_wp2_with fail;go_roundw;case rel=>exact ⟨j+1,by omega,by go_num,wR.o,trivial⟩
         case measure=>simp [intOf];omega
        ·have hz':(0:Int) < ((x.getD j 0:Nat):Int):=by omega
         have kt:(x.take (2*k)).all (·==0)=false:=by
          rw [List.all_eq_false];refine ⟨x.getD j 0,?_,by simpa using hz⟩;rw [dz,cM (by rw [tB.o];omega)];rw [List.mem_take_iff_getElem];exact ⟨j,by rw [tB.o];omega,rfl⟩
         have qa:=aa kt;generalize x.getD j 0=xj at *;clear pS cN kt;go_wp2_with fail;go_ret;exact ⟨by rw [HE.o,qa.o];rfl,HB.o⟩
       ·obtain rfl:j=2*k:=by omega
        have sx:¬((2*k:Nat):Int) < 2*(k:Int):=by omega
        have mf:=aa cN;clear cN;go_wp2_with fail;go_ret;exact ⟨by rw [HE.o,mf.o];rfl,HB.o⟩
theorem Fm (w:World) (p d:Nat) (hp:p≤1000) (d1:1≤d) (d3:d≤3):Calls Tryz.prog 204 #[.int .i64 p,.int .i64 d] w fun e w'=>e=.returned (.int .i64 (nR p d:Nat))∧Below w.heap.size w w':=by
 go_enter Tryz.func204,Tryz.ntmps204;go_wp2_with fail;go_loopw [5,6] (fun l h wr=>∃(f low high:Nat),low≤high∧high≤34359738368∧high-low≤2 ^ f∧l=.int .i64 low∧h=.int .i64 high∧nR p d=nB f low high p d∧Below w.heap.size w wr) (fun l h _=>(intOf h-intOf l).toNat)
 case atStart=>exact ⟨64,0,34359738368,by omega,by omega,by decide,rfl,rfl,rfl,Below.refl _ _⟩
 case round =>
  obtain ⟨f,low,high,h1,h2,h3,rfl,rfl,h4,hb⟩:=hrel;have HB:=aa hb;clear hb;by_cases hgt:high-low > 1
  ·have aa4:(1:Int) < (high:Int)-(low:Int):=by omega
   obtain ⟨f,rfl⟩:∃f',f=f'+1:=⟨f-1,by
    rcases Nat.eq_zero_or_pos f with h|h
    ·subst h;simp at h3;omega
    ·omega⟩
   rw [Ln f low high p d hgt] at h4;have YM:(((low+high) / 2:Nat):Int)=((low:Int)+(high:Int)) / 2:=by omega
   have HF:=aa (fun w=>FN w ((low+high) / 2) p d (by omega) hp d1 d3);have QA:low≤(low+high) / 2∧(low+high) / 2≤high∧low < (low+high) / 2∧(low+high) / 2 < high:=by omega
   have Aq:high-(low+high) / 2≤2 ^ f∧(low+high) / 2-low≤2 ^ f:=by
    rw [Nat.pow_succ] at h3;omega
   have s0:(0:Int)≤(low:Int)+(high:Int):=by omega
   generalize zt:(low+high) / 2=m at *;have HH4:=aa h4;have abJ:=aa YM;have zE:=aa Aq;clear h4 Aq YM zt h3;go_wp2_with fail;rw [←abJ.o];refine (HF.o _).mono ?_;rintro e w2 ⟨rfl,bN⟩;have aO:=aa (HB.o.trans (bN.mono HB.o.size));clear bN;cases wA:pC m p d
   ·have JY:=HH4.o;rw [wA,if_neg (by decide)] at JY;have HH5:=aa JY;clear JY wA;go_wp2_with fail;go_roundw;case rel=>exact ⟨f,low,m,by omega,by omega,zE.o.2,rfl,rfl,HH5.o,aO.o⟩
    case measure=>simp [intOf];omega
   ·have JY:=HH4.o;rw [wA,if_pos rfl] at JY;have HH5:=aa JY;clear JY wA;go_wp2_with fail;go_roundw;case rel=>exact ⟨f,m,high,by omega,by omega,zE.o.1,rfl,rfl,HH5.o,aO.o⟩
    case measure=>simp [intOf];omega
  ·have aa4:¬(1:Int) < (high:Int)-(low:Int):=by omega
   rw [Nq f low high p d hgt] at h4;have HH4:=aa h4;clear h4 h3;go_wp2_with fail;refine (D6 _ low).mono ?_;rintro e w2 ⟨rfl,rfl⟩;go_wp2_with fail;go_ret;exact ⟨by rw [HH4.o];rfl,HB.o⟩
theorem uM:pX Tryz.prog 93 3 1 8:=by
 obtain ⟨i0,hi,j8,mF,iq⟩:=info_parts U4;exact ⟨Tryz.underlying93,⟨i0,_,hi,j8,mF,iq,rfl⟩,by decide⟩
end fH
namespace mem

open Go.RowKit base obj
theorem nK {P:Program} {t e size bytes:Nat} (T:pX P t e size bytes) {ops:Array Oper} {rest:List Oper} {o:Oper} {a:Act} {Q:Exit→Act→World→Prop} {w:World} (ew:o.guard=none) (s x:Operand)
  (ho:o.op=.call { callee:=.builtin .append,args:=#[s,x],argTypes:=#[t,t] })
  {base:Nat} {v:Value} {n:Nat} {xs:List Value} (fP:w.ownsRow base e size v n xs) (hs:a.eval s=v) {B m c:Nat} {A:Option Addr} {ys:List Value} (hx:a.eval x=.slice A m c) (hA:A=none→c=0)
  (hr:Sl w B size A m ys) (h1:∀u∈ys,u.oneCell'=true) (hb:(n+m)*bytes≤140737488355328) (qG:n+m≤maxLen) (nZ:base≤w.heap.size)
  (h:∀v' w',w'.ownsRow base e size v' (n+m) (xs++ys)→w.grownBy w' v.ownBlock→(∀g,v'.ownBlock=some g→v.ownBlock=some g∨w.heap.size≤g)→wpList P ops Q rest (a.put o.dst v') w') :
  wpList P ops Q (o::rest) a w:=by
 obtain ⟨i,z,hi,hz,h2,h3,h4⟩:=T.hi;rcases A with _|ad
 ·have hm:m=0:=by
   rcases Nat.eq_zero_or_pos m with h0|h0
   ·exact h0
   ·obtain ⟨b,off,h,_⟩:=hr.2 h0;cases h
  subst hm;obtain rfl:ys=[]:=List.eq_nil_of_length_eq_zero (by simpa using hr.1);rw [hA rfl] at hx;refine wpList_append_own_none ew s x t ho base e i size T.ht hi v n xs hs fP hx ?_;exact h v w (by simpa using fP) (World.grownBy.refl w _) fun g hg=>.inl hg
 ·refine wpList_append_own_at _ ew s x t ho base e i z size bytes T.ht hi hz h2 h3 h4 T.hs v n xs hs fP ad m c ys hx hr.1 ?_ h1 qG hb nZ fun v' w' Eo hg _ aa0=>h v' w' Eo hg fun g tU=>?_
  ·intro j u hu
   have hm:0 < m:=by
    rcases Nat.eq_zero_or_pos m with h0|h0
    ·subst h0;have hn:ys=[]:=List.eq_nil_of_length_eq_zero (by simpa using hr.1);subst hn;simp at hu
    ·exact h0
   obtain ⟨b,off,he,_,hc⟩:=hr.2 hm;injection he with he
   subst he;have yQ:(⟨b,off,none⟩:Addr).add j=⟨b,off+j,none⟩:=by unfold Addr.add;split<;>simp_all
   rw [yQ];exact hc j u hu
  ·rcases aa0 with h5|h5
   ·exact .inl (by rw [←h5];exact tU)
   ·rw [h5] at tU;injection tU with tU
    exact .inr (by omega)
end mem
namespace fH


open Go.RowKit Go.Deep base obj mem sep bw bf chain
theorem PS (w:World):Calls Tryz.prog 203 #[.int .i64 64] w fun e w'=>∃v,e=.returned v∧w'.ownsRow w.heap.size 3 1 v 64 (dP eQ)∧Below w.heap.size w w':=by
 go_enter Tryz.func203,Tryz.ntmps203;go_wp2_with fail;have HO0:=aa (World.ownsRow_nil w w.heap.size 3 1);go_loopw [3,4] (fun v i wr=>∃q:Nat,2≤q∧q < 313∧i=.int .i64 q∧wr.ownsRow w.heap.size 3 1 v (pl q).length (dP (pl q))∧Below w.heap.size w wr) (fun _ i _=>313-(intOf i).toNat)
 case atStart=>exact ⟨2,by omega,by omega,rfl,HO0.o,Below.refl _ _⟩
 case round =>
  obtain ⟨q,vU,hq3,rfl,ho,hb⟩:=hrel;have iG:=X6 q hq3;obtain ⟨A,c,rfl,hc,tk⟩:=aH ho;have HO:=aa ho;have HB:=aa hb;clear ho hb;by_cases aK:(pl q).length < 64
  ·have rB:=iG.2.1 aK;have cN:=X7 q rB vU;have fQ:=Wk q rB vU;have YF:=X5 q;have dB:=Sl.bz HO.o;generalize hL:pl q=L at *;have cZ:((L.length:Nat):Int) < 64:=by omega
   have mf:=aa cN;have kM:=aa fQ;have abA:=aa YF;have kL:=aa dB;have HL:=aa hL;clear cN fQ YF dB hL iG;go_wp2_with fail;go_loopw [6,5] (fun i b wx=>∃j:Nat,j≤L.length∧i=.int .i64 j∧b=.bool ((L.take j).all fun p=>decide (q % p≠0))∧wx=wr) (fun i _ _=>L.length-(intOf i).toNat)
   case atStart=>exact ⟨0,by omega,rfl,rfl,rfl⟩
   case round =>
    obtain ⟨j,hj,rfl,rfl,rfl⟩:=hrel;by_cases tS:j < L.length
    ·have sx:(j:Int) < (L.length:Int):=by omega
     obtain ⟨bA,oA,rfl,Mn,cA⟩:=uA kL.o rfl j tS
     have pS:(L.take (j+1)).all (fun p=>decide (q % p≠0))=((L.take j).all (fun p=>decide (q % p≠0))&&decide (q % L.getD j 0≠0)):=by
      rw [jz tS,List.all_append,dz,cM tS];simp
     have hp:=abA.o (L.getD j 0) (by rw [dz,cM tS];exact List.getElem_mem tS);generalize L.getD j 0=z at *;have j0:(0:Int)≤(j:Int):=by omega
     have z0:(0:Int) < (z:Int):=by omega
     have q0:(0:Int)≤(q:Int):=by omega
     have YD:(q:Int) % (z:Int)=((q % z:Nat):Int):=by rw [Int.natCast_emod]
     have wI:=aa pS;have abx:=aa YD;clear pS YD;cases J6:(L.take j).all fun p=>decide (q % p≠0)
     ·have tG:=aa J6;clear J6;go_wp2_with fail;go_roundw;case rel=>exact ⟨j+1,by omega,by go_num,by rw [wI.o,tG.o];rfl,trivial⟩
      case measure=>simp [intOf];omega
     ·have tG:=aa J6;clear J6;go_wp2_with fail;go_roundw
      case rel=>exact ⟨j+1,by omega,by go_num,by
       rw [wI.o,tG.o,abx.o];generalize q % z=r;by_cases hr:r=0
       ·subst hr;rfl
       ·have h2:¬(r:Int)=0:=by omega
        simp [hr,h2],trivial⟩
      case measure=>simp [intOf];omega
    ·obtain iZ:j=L.length:=by omega
     have sx:¬(j:Int) < (L.length:Int):=by omega
     have hjj:(L.take j).all (fun p=>decide (q % p≠0))=decide (q∈eQ):=by
      rw [iZ,List.take_length];exact mf.o
     rw [hjj];by_cases xI:q∈eQ
     ·have hd:decide (q∈eQ)=true:=by simpa using xI
      rw [hd];have Dj:=kM.o;rw [if_pos xI] at Dj;have yc:=aa Dj;clear Dj hjj xI hd iZ;have lv:=aa HB.o.size;go_wp2_with (at_builtin;refine MG uM rfl (.tmp 30) (.tmp 32) rfl HO.o rfl rfl rfl (by simp [Value.oneCell']) (by omega) (by unfold maxLen;omega) lv.o ?_;intro v2 w2 En tU;have aO:=aa (iT HB.o HO.o tU lv.o);have kG:=aa En;clear tU En);go_roundw
      case rel =>
       refine ⟨q+1,by omega,by omega,by go_num,?_,aO.o⟩;rw [yc.o,gA,dP,List.map_append];exact kG.o
      case measure=>simp [intOf];omega
     ·have hd:decide (q∈eQ)=false:=by simpa using xI
      rw [hd];have Dj:=kM.o;rw [if_neg xI] at Dj;have yc:=aa Dj;clear Dj hjj xI hd iZ;go_wp2_with fail;go_roundw;case rel=>exact ⟨q+1,by omega,by omega,by go_num,by rw [yc.o];exact HO.o,HB.o⟩
      case measure=>simp [intOf];omega
  ·have YQ:(pl q).length=64:=by omega
   have xI:=iG.2.2 YQ;have cZ:¬(((pl q).length:Nat):Int) < 64:=by omega
   have HP:=aa xI;clear xI iG;go_wp2_with fail;go_ret;refine ⟨_,rfl,?_,HB.o⟩;have h:=HO.o;rw [YQ,HP.o] at h;exact h
end fH
end Go.Proofs.YtdldkkoplgkloaaGreat
