/-
  PROVED HERE: lemmas that the law leans on.
  CONDITIONS: each names its own.
-/
import Derived.Test.YtdldkkoplgkloaaGreatPy0
import Derived.Test.YtdldkkoplgkloaaGreatPy15
import Derived.Test.YtdldkkoplgkloaaGreatPy17
import Derived.Test.YtdldkkoplgkloaaGreatPy23
import Derived.Test.YtdldkkoplgkloaaGreatPy27
import Derived.Test.YtdldkkoplgkloaaGreatPy29
import Derived.Test.YtdldkkoplgkloaaGreatPy30
namespace Go.Proofs.YtdldkkoplgkloaaGreat
set_option linter.unusedVariables false
set_option linter.unusedSimpArgs false
set_option maxRecDepth 100000
set_option maxHeartbeats 32000000
namespace bR


open Go.RowKit Go.Deep base obj mem sep bf num bytes bw chain image bK
section
variable {w : World} {a : en} {t : aQ} {p : Nat} {i : aw} {A : Option Addr} {c : Nat} {bu : Int}
open Go.Proofs.YtdldkkoplgkloaaGreat.bits (df Fp B1)
theorem Pj (s m:Nat) (hs:s < 16) (hm:m < 16):yq (s:Int) m=(List.range 4).all fun k=>!df s k||df m k:=by
 have:∀s:Nat,s < 16→∀m:Nat,m < 16→yq (s:Int) m=(List.range 4).all fun k=>!df s k||df m k:=by decide +kernel
 exact this s hs m hm
theorem Uo (n:Nat) (hn:n < 4) (s:Nat) (hs:s < 2 ^ n) (b:Bool) (k:Nat) (hk:k < 4):df ((s+(if b then 2 ^ n else 0):Nat):Int) k=(df s k||(k==n&&b)):=by
 have:∀n:Nat,n < 4→∀s:Nat,s < 2 ^ n→∀b:Bool,∀k:Nat,k < 4→df ((s+(if b then 2 ^ n else 0):Nat):Int) k=(df s k||(k==n&&b)):=by decide +kernel
 exact this n hn s hs b k hk
theorem Hl (f:T3→Int) (q:Int) (l:List T3):∀n,n≤4→∀k,k < 4→df (iI f q l n:Nat) k=decide (k < n∧f (l.getD k ⟨0,0,0⟩)=q)
 | 0,_,k,hk=>by
   have:∀k:Nat,k < 4→df ((0:Nat):Int) k=false:=by decide +kernel
   rw [iI,this k hk];simp
 | n+1,hn,k,hk=>by
   have h:=Uo n (by omega) (iI f q l n) (BV f q l n) (decide (f (l.getD n ⟨0,0,0⟩)=q)) k hk;rw [Hl f q l n (by omega) k hk] at h;simp only [decide_eq_true_eq] at h;rw [iI,h,Bool.eq_iff_iff];simp only [Bool.or_eq_true,Bool.and_eq_true,decide_eq_true_eq,beq_iff_eq]
   constructor
   ·rintro (⟨h1,h2⟩|⟨rfl,h2⟩)
    ·exact ⟨by omega,h2⟩
    ·exact ⟨by omega,h2⟩
   ·rintro ⟨h1,h2⟩;by_cases kJ:k=n
    ·subst kJ;exact .inr ⟨rfl,h2⟩
    ·exact .inl ⟨by omega,h2⟩
def gH (f:T3→Int) (s q:Int) (l:List T3) (k:Nat):Bool:=!(df s k&&(decide (l.length≤k)||decide (f (l.getD k ⟨0,0,0⟩)≠q)))
theorem DM (f:T3→Int) (s:Int) (h0:0≤s) (h1:s≤15) (q:Int) (l:List T3) (hl:l.length≤4):yq s (iI f q l l.length)=true ↔ ∀k,k < 4→gH f s q l k=true:=by
 obtain ⟨n,rfl⟩:∃n:Nat,s=n:=⟨s.toNat,by omega⟩
 have aK:=BV f q l l.length;have:2 ^ l.length≤2 ^ 4:=Nat.pow_le_pow_right (by omega) hl;rw [Pj n _ (by omega) (by omega),List.all_eq_true];simp only [List.mem_range];refine forall_congr' fun k=>forall_congr' fun hk=>?_;rw [Hl f q l l.length hl k hk];simp only [gH];cases df (n:Int) k<;>simp
theorem OA (hi:i.right) (hr:t.right=true):fE t p i bu 2=true ↔ ∀k,k < 4→(gH T3.a i.aN p t.au k&&gH T3.b i.aB p t.au k)=true:=by
 have zr:=(aQ.r hr).nc;obtain ⟨_,_,_,_,_,⟨f0,f1⟩,⟨g0,g1⟩,_⟩:=hi;rw [fE,Bool.and_eq_true,DM T3.a _ f0 f1 _ _ (by omega),DM T3.b _ g0 g1 _ _ (by omega)]
 constructor
 ·rintro ⟨h1,h2⟩ k hk;rw [h1 k hk,h2 k hk];rfl
 ·intro h;exact ⟨fun k hk=>by have:=h k hk;simp at this;exact this.1,fun k hk=>by have:=h k hk;simp at this;exact this.2⟩

theorem zZ (h:ma w a t) (q:Int) (hc:i.code.length≤9223372036854775807):Calls Tryz.prog 37 #[a.val t,.int .i64 q,i.val A c,.int .i64 bu] w fun e w'=>e=.returned (.int .i64 (bX t q i bu))∧Below w.heap.size w w':=by
 have ez:=aa (fun w' (hb:Below w.heap.size w w')=>bK.qB (h.over hb));have wN:=aa (fun w'=>sk.qB w' i A c hc);have MM:=aa (fun w' (hb:Below w.heap.size w w')=>(h.over hb).ps);have mW:=aa (fun w' (hb:Below w.heap.size w w')=>(h.over hb).cs);have HN4:=aa (fun (hr:t.right=true)=>(aQ.r hr).nc);obtain ⟨Z,hZ⟩:∃Z,Z=w.heap.size:=⟨_,rfl⟩
 obtain ⟨w1,aJ⟩:∃w1,w1=(w.alloc (.cells #[.int .i64 t.frame,.slice a.AP t.parts.length a.cP,.slice a.AW t.aC.length a.cW,.slice a.AC t.au.length a.cC,.int .i64 t.ay] 46)).alloc (.cells #[.int .i64 i.part,.int .i64 i.version,.int .i64 i.aY,.int .i64 i.mem,.int .i64 i.fuel,.int .i64 i.aN,.int .i64 i.aB,.slice A i.code.length c] 26):=⟨_,rfl⟩
 have H1:=aa (show St w w1 [row Z 46 [.int .i64 t.frame,.slice a.AP t.parts.length a.cP,.slice a.AW t.aC.length a.cW,.slice a.AC t.au.length a.cC,.int .i64 t.ay],row (Z+1) 26 [.int .i64 i.part,.int .i64 i.version,.int .i64 i.aY,.int .i64 i.mem,.int .i64 i.fuel,.int .i64 i.aN,.int .i64 i.aB,.slice A i.code.length c]] by
  have h:=((St.nil w).new 46 #[.int .i64 t.frame,.slice a.AP t.parts.length a.cP,.slice a.AW t.aC.length a.cW,.slice a.AC t.au.length a.cC,.int .i64 t.ay]).new 26 #[.int .i64 i.part,.int .i64 i.version,.int .i64 i.aY,.int .i64 i.mem,.int .i64 i.fuel,.int .i64 i.aN,.int .i64 i.aB,.slice A i.code.length c];rw [show (w.alloc (.cells #[.int .i64 t.frame,.slice a.AP t.parts.length a.cP,.slice a.AW t.aC.length a.cW,.slice a.AC t.au.length a.cC,.int .i64 t.ay] 46)).heap.size=Z+1 by rw [hZ];exact Array.size_push _,←hZ,←aJ] at h
  exact h.swap)
 have bq:=aa aJ;have HZ:=aa hZ;have HL:=aa (show bX t q i bu=if t.right=false then 9 else if ¬(0≤q∧q < t.parts.length)∨¬i.right then 3 else nr t q.toNat i bu 4 from rfl);obtain ⟨L,hL⟩:∃L,L=bX t q i bu:=⟨_,rfl⟩
 rw [←hL] at HL ⊢;simp only [en.val,aw.val,cY] at bq ez wN ⊢;obtain ⟨nP,oE⟩:∃v,v=t.parts.length:=⟨_,rfl⟩
 obtain ⟨nC,pK⟩:∃v,v=t.au.length:=⟨_,rfl⟩
 obtain ⟨rr,nX⟩:∃v,v=t.right:=⟨_,rfl⟩
 obtain ⟨ir,wh⟩:∃v:Bool,v=decide i.right:=⟨_,rfl⟩
 have Ht:=aa (fun (j:Nat) (hj:j < 4) (h:∀k,k < j→fE t q.toNat i bu k=true) (hn:fE t q.toNat i bu j=false)=>show nr t q.toNat i bu 4=FR j from Ds hj h hn 4 (by omega) (by omega));have mf:=aa (fun (h:∀k,k < 4→fE t q.toNat i bu k=true)=>show nr t q.toNat i bu 4=0 from Hc (by omega) (fun j _ hj=>h j hj));have Dz:=aa (show i.right ↔ ir=true by rw [wh];simp);have qM:=aa nX;have HPO:=aa (fun (hi:i.right) (hr:t.right=true)=>OA (t:=t) (p:=q.toNat) (i:=i) (bu:=bu) hi hr);have E8:=aa (show fE t q.toNat i bu 0=decide (i.part=(q.toNat:Int)∧i.aY=(partAt t q.toNat).c) from rfl);have zG:=aa (show fE t q.toNat i bu 1=decide (i.mem≤(partAt t q.toNat).a∧i.fuel≤(partAt t q.toNat).b) from rfl);have HC3:=aa (show fE t q.toNat i bu 3=decide (bu < i.version) from rfl);have Be:=aa (fun (k:Nat)=>show gH T3.a i.aN (q.toNat:Int) t.au k=!(df i.aN k&&(decide (t.au.length≤k)||decide ((t.au.getD k ⟨0,0,0⟩).a≠(q.toNat:Int)))) from rfl);have tE:=aa (fun (k:Nat)=>show gH T3.b i.aB (q.toNat:Int) t.au k=!(df i.aB k&&(decide (t.au.length≤k)||decide ((t.au.getD k ⟨0,0,0⟩).b≠(q.toNat:Int)))) from rfl);have je:=aa (show i.right→B1 i.aN∧B1 i.aB from fun ⟨_,_,_,_,_,f,g,_⟩=>by constructor<;>constructor<;>omega);have rV:=aa oE;have wM:=aa pK;rw [←nX] at ez HL;rw [←wh] at wN;simp only [←oE,←pK] at ez wN HL H1 bq MM mW Be tE ⊢;have gq:=aa (show partAt t q.toNat=t.parts.getD q.toNat ⟨0,0,0⟩ from rfl);generalize t.aC.length=nW,t.frame=fr,t.ay=tr,i.part=i0,i.version=i1,i.aY=i2,i.mem=i3,i.fuel=i4,i.aN=i5,i.aB=i6,i.code.length=i7,nr t q.toNat i bu 4=L4 at *;clear aJ hZ h hL oE nX wh pK;have lA:=aa (fun (w':World) (hb:Below w1.heap.size w1 w')=>H1.o.row.1.below hb H1.o.row.1.lt);have mi:=aa (fun (w':World) (hb:Below w1.heap.size w1 w')=>H1.o.swap.row.1.below hb H1.o.swap.row.1.lt)
 have rows:∀w',Below w1.heap.size w1 w'→(w'.cell? ⟨Z,0,none⟩=some (.int .i64 fr)∧w'.cell? ⟨Z,1,none⟩=some (.slice a.AP nP a.cP)∧w'.cell? ⟨Z,2,none⟩=some (.slice a.AW nW a.cW)∧w'.cell? ⟨Z,3,none⟩=some (.slice a.AC nC a.cC)∧w'.cell? ⟨Z,4,none⟩=some (.int .i64 tr)∧Z < w'.heap.size)∧
   (w'.cell? ⟨Z+1,0,none⟩=some (.int .i64 i0)∧w'.cell? ⟨Z+1,1,none⟩=some (.int .i64 i1)∧w'.cell? ⟨Z+1,2,none⟩=some (.int .i64 i2)∧w'.cell? ⟨Z+1,3,none⟩=some (.int .i64 i3)∧w'.cell? ⟨Z+1,4,none⟩=some (.int .i64 i4)∧w'.cell? ⟨Z+1,5,none⟩=some (.int .i64 i5)∧w'.cell? ⟨Z+1,6,none⟩=some (.int .i64 i6)∧w'.cell? ⟨Z+1,7,none⟩=some (.slice A i7 c)∧Z+1 < w'.heap.size) :=
  fun w' hb=>⟨⟨(lA.o w' hb).cell 0,(lA.o w' hb).cell 1,(lA.o w' hb).cell 2,(lA.o w' hb).cell 3,(lA.o w' hb).cell 4,(lA.o w' hb).lt⟩,
   (mi.o w' hb).cell 0,(mi.o w' hb).cell 1,(mi.o w' hb).cell 2,(mi.o w' hb).cell 3,(mi.o w' hb).cell 4,(mi.o w' hb).cell 5,(mi.o w' hb).cell 6,(mi.o w' hb).cell 7,(mi.o w' hb).lt⟩
 have dO:=aa rows;have bn:=aa H1.o.aI;clear rows H1 lA mi;obtain ⟨⟨t0,t1,t2,t3,t4,lZ⟩,u0,u1,u2,u3,u4,u5,u6,u7,lY⟩:=dO.o w1 (Below.refl _ _);go_enter Tryz.func37,Tryz.ntmps37;go_upto_region 1 with fail;rw [←bq.o,←HZ.o];go_wp2_with fail;refine (ez.o w1 bn.o).mono ?_;rintro e w2 ⟨rfl,bN⟩;have aO:=aa bN;clear t0 t1 t2 t3 t4 lZ u0 u1 u2 u3 u4 u5 u6 u7 lY bN;obtain ⟨⟨t0,t1,t2,t3,t4,lZ⟩,u0,u1,u2,u3,u4,u5,u6,u7,lY⟩:=dO.o w2 aO.o;have FW:=aa (bn.o.trans (aO.o.mono bn.o.size));cases rr with
 | false =>
   go_wp2_with fail;go_ret;exact ⟨bt (by rw [HL.o];rfl),FW.o⟩
 | true =>
   by_cases hq:0≤q∧q < (nP:Int)
   ·obtain ⟨q0,q1⟩:=hq;have q0':¬q < 0:=by omega
    have q1':¬q≥(nP:Int):=by omega
    have HQ:=aa (And.intro q0 q1);go_wp2_with fail;refine (wN.o w2).mono ?_;rintro e w4 ⟨rfl,oH⟩;have eV:=aa (aO.o.trans (oH.mono aO.o.size));clear t0 t1 t2 t3 t4 lZ u0 u1 u2 u3 u4 u5 u6 u7 lY oH;obtain ⟨⟨t0,t1,t2,t3,t4,lZ⟩,u0,u1,u2,u3,u4,u5,u6,u7,lY⟩:=dO.o w4 eV.o;have zf:=aa (bn.o.trans (eV.o.mono bn.o.size));cases ir with
    | false =>
      go_wp2_with fail;go_ret;exact ⟨bt (by rw [HL.o,if_neg (by simp),if_pos (.inr (by rw [Dz.o];simp))]),zf.o⟩
    | true =>
      have rW:=aa (show L=L4 by rw [HL.o,if_neg (by simp),if_neg (by rw [Dz.o];simp;exact HQ.o)]);have Uy:=aa (HPO.o (Dz.o.2 rfl) qM.o.symm);have Zx:=aa (je.o (Dz.o.2 rfl));have acz:=aa (show nC≤4 by rw [wM.o];exact HN4.o qM.o.symm);obtain ⟨qn,JP⟩:∃n,n=q.toNat:=⟨_,rfl⟩
      have Ve:(qn:Int)=q:=by omega
      rw [←JP] at Ht mf Uy E8 zG HC3 Be tE gq;subst Ve;clear JP;have An:qn < t.parts.length:=by have:=rV.o;omega
      have ew:t.parts.getD qn ⟨0,0,0⟩=t.parts[qn]:=by simp [An]
      rw [gq.o,ew] at E8 zG;have MT:=aa (fun (w':World) (hb:Below w1.heap.size w1 w')=>jh (MM.o w' (bn.o.trans (hb.mono bn.o.size))) rV.o An);generalize t.parts[qn]=pt at *;obtain ⟨pa,pb,pc⟩:=pt;simp only at MT E8 zG;obtain ⟨b,off,hA,cy,c0,c1,c2⟩:=MT.o w4 eV.o;have HA:=aa hA;clear ew An hA;rw [HA.o] at t1;go_wp2_with fail;have abh:∀{X:Bool},fE t qn i bu 0=X→X=false→L=12:=fun h1 h2=>by rw [rW.o,Ht.o 0 (by omega) (fun k hk=>absurd hk (by omega)) (h1.trans h2)];rfl
      have ZH:=aa (fun (h1:fE t qn i bu 0=false)=>show L=12 by rw [rW.o,Ht.o 0 (by omega) (fun k hk=>absurd hk (by omega)) h1];rfl)
      have ZG:=aa (fun (h0:fE t qn i bu 0=true) (h1:fE t qn i bu 1=false)=>show L=14 by
       rw [rW.o,Ht.o 1 (by omega) (fun k hk=>by rw [show k=0 by omega];exact h0) h1];rfl)
      have abY:=aa (fun (h0:fE t qn i bu 0=true) (h1:fE t qn i bu 1=true) (h2:fE t qn i bu 2=false)=>show L=15 by
       rw [rW.o,Ht.o 2 (by omega) (fun k hk=>by rcases (by omega:k=0∨k=1) with rfl|rfl<;>assumption) h2];rfl)
      have abX:=aa (fun (h0:fE t qn i bu 0=true) (h1:fE t qn i bu 1=true) (h2:fE t qn i bu 2=true) (h3:fE t qn i bu 3=false)=>show L=13 by
       rw [rW.o,Ht.o 3 (by omega) (fun k hk=>by rcases (by omega:k=0∨k=1∨k=2) with rfl|rfl|rfl<;>assumption) h3];rfl)
      have abW:=aa (fun (h0:fE t qn i bu 0=true) (h1:fE t qn i bu 1=true) (h2:fE t qn i bu 2=true) (h3:fE t qn i bu 3=true)=>show L=0 by
       rw [rW.o,mf.o (fun k hk=>by rcases (by omega:k=0∨k=1∨k=2∨k=3) with rfl|rfl|rfl|rfl<;>assumption)])
      clear abh;by_cases td:i0=(qn:Int)
      ·by_cases Mj:i2=pc
       ·have e0:(i0 != (qn:Int))=false:=by simp [td]
        have e1:(i2 != pc)=false:=by simp [Mj]
        have C0:=aa (show fE t qn i bu 0=true by rw [E8.o];exact decide_eq_true ⟨td,Mj⟩);clear td Mj;go_quiet (fail);go_wp2_with fail;by_cases hm:i3 > pa
        ·have C1:=aa (show fE t qn i bu 1=false by rw [zG.o];exact decide_eq_false fun h=>by omega);go_quiet (fail);go_wp2_with fail;go_ret;exact ⟨bt (ZG.o C0.o C1.o).symm,by first|exact below_drewN (below_drewN zf.o _) _|exact below_drewN zf.o _⟩
        ·by_cases hf:i4 > pb
         ·have C1:=aa (show fE t qn i bu 1=false by rw [zG.o];exact decide_eq_false fun h=>by omega);go_quiet (fail);go_wp2_with fail;go_ret;exact ⟨bt (ZG.o C0.o C1.o).symm,by first|exact below_drewN (below_drewN zf.o _) _|exact below_drewN zf.o _⟩
         ·have C1:=aa (show fE t qn i bu 1=true by rw [zG.o];exact decide_eq_true ⟨by omega,by omega⟩);go_quiet (fail);go_wp2_with fail;go_loopw [9] (fun x wr=>∃j:Nat,j≤4∧x=.int .i64 j∧Below w1.heap.size w1 wr∧∀k,k < j→(gH T3.a i5 (qn:Int) t.au k&&gH T3.b i6 (qn:Int) t.au k)=true) (fun x _=>4-(intOf x).toNat)
          case atStart=>exact ⟨0,by omega,rfl,by first|exact below_drewN (below_drewN eV.o _) _|exact below_drewN eV.o _,fun k hk=>absurd hk (by omega)⟩
          case round =>
           obtain ⟨j,hj,rfl,pU,cN⟩:=hrel;have dv:=aa pU;have tG:=aa cN;clear t0 t1 t2 t3 t4 lZ u0 u1 u2 u3 u4 u5 u6 u7 lY c0 c1 c2 pU cN e0 e1;by_cases aK:j < 4
           ·have rT:=aa (fun (w':World)=>show Calls Tryz.prog 84 #[.int .i64 i5,.int .i64 j] w' fun e kV=>e=.returned (.bool (df i5 j))∧w'=kV from Fp i5 j w' (by omega) Zx.o.1);have vu:=aa (fun (w':World)=>show Calls Tryz.prog 84 #[.int .i64 i6,.int .i64 j] w' fun e kV=>e=.returned (.bool (df i6 j))∧w'=kV from Fp i6 j w' (by omega) Zx.o.2);have Lf:=aa (Be.o j);have wR:=aa (tE.o j);have cx:=aa (fun (h:(gH T3.a i5 (qn:Int) t.au j&&gH T3.b i6 (qn:Int) t.au j)=false)=>abY.o C0.o C1.o (Bool.eq_false_iff.2 fun hc=>by have:=Uy.o.1 hc j aK;rw [h] at this;cases this));obtain ⟨b5,jG⟩:∃v,v=df i5 j:=⟨_,rfl⟩
            obtain ⟨b6,tq⟩:∃v,v=df i6 j:=⟨_,rfl⟩
            rw [←jG] at rT Lf;rw [←tq] at vu wR;clear jG tq;obtain ⟨⟨t0,t1,t2,t3,t4,lZ⟩,u0,u1,u2,u3,u4,u5,u6,u7,lY⟩:=dO.o wr dv.o;have k1:(j:Int) < 4:=by omega
            have k0:(0:Int)≤(j:Int):=by omega
            go_wp2_with fail;cases b5 with
            | false =>
              have O1:=aa (show gH T3.a i5 (qn:Int) t.au j=true by rw [Lf.o];rfl);refine (rT.o _).mono ?_;rintro e w' ⟨rfl,hw'⟩;subst hw';go_wp2_with fail;clear t0 t1 t2 t3 t4 lZ u0 u1 u2 u3 u4 u5 u6 u7 lY;obtain ⟨⟨t0,t1,t2,t3,t4,lZ⟩,u0,u1,u2,u3,u4,u5,u6,u7,lY⟩:=dO.o wr dv.o;cases b6 with
              | false =>
                have O2:=aa (show gH T3.b i6 (qn:Int) t.au j=true by rw [wR.o];rfl);refine (vu.o _).mono ?_;rintro e w' ⟨rfl,hw'⟩;subst hw';go_wp2_with fail;go_roundw
                case rel =>
                 refine ⟨j+1,by omega,by go_num,dv.o,fun k hk=>?_⟩;by_cases xM:k=j
                 ·rw [xM,O1.o,O2.o];rfl
                 ·exact tG.o k (by omega)
                case measure=>simp [intOf];omega
              | true =>
                by_cases Cs:j < nC
                ·have ge:¬(j:Int)≥(nC:Int):=by omega
                 have dF:j < t.au.length:=by have:=wM.o;omega
                 obtain ⟨b',C9,AG,J4,d0,d1,d2⟩:=jh (mW.o _ (bn.o.trans (dv.o.mono bn.o.size))) wM.o dF;have AA:t.au.getD j ⟨0,0,0⟩=t.au[j]:=by simp [dF]
                 rw [AA] at wR;obtain ⟨cv,GG⟩:∃v,v=(t.au[j]).b:=⟨_,rfl⟩
                 rw [←GG] at wR d1;rw [AG] at t3;have k2:(j:Int) < (nC:Int):=by omega
                 have HKJ:=aa dF;have CM:=aa AG;clear AA GG d0 d2 AG dF;by_cases hx:cv=(qn:Int)
                 ·have ex:(cv != (qn:Int))=false:=by simp [hx]
                  have O2:=aa (show gH T3.b i6 (qn:Int) t.au j=true by rw [wR.o,decide_eq_false (by omega),decide_eq_false (fun h=>h hx)];rfl);clear hx;refine (vu.o _).mono ?_;rintro e w' ⟨rfl,hw'⟩;subst hw';go_wp2_with fail;go_roundw
                  case rel =>
                   refine ⟨j+1,by omega,by go_num,dv.o,fun k hk=>?_⟩;by_cases xM:k=j
                   ·rw [xM,O1.o,O2.o];rfl
                   ·exact tG.o k (by omega)
                  case measure=>simp [intOf];omega
                 ·have ex:(cv != (qn:Int))=true:=by simp [hx]
                  have O2:=aa (show gH T3.b i6 (qn:Int) t.au j=false by rw [wR.o,decide_eq_true hx];simp);clear hx;refine (vu.o _).mono ?_;rintro e w' ⟨rfl,hw'⟩;subst hw';go_wp2_with fail;go_ret;exact ⟨bt (cx.o (by rw [O1.o,O2.o];rfl)).symm,bn.o.trans (dv.o.mono bn.o.size)⟩
                ·have ge:(j:Int)≥(nC:Int):=by omega
                 have O2:=aa (show gH T3.b i6 (qn:Int) t.au j=false by rw [wR.o,decide_eq_true (show nC≤j by omega)];simp);refine (vu.o _).mono ?_;rintro e w' ⟨rfl,hw'⟩;subst hw';go_wp2_with fail;go_ret;exact ⟨bt (cx.o (by rw [O1.o,O2.o];rfl)).symm,bn.o.trans (dv.o.mono bn.o.size)⟩
            | true =>
              by_cases Cs:j < nC
              ·have ge:¬(j:Int)≥(nC:Int):=by omega
               have dF:j < t.au.length:=by have:=wM.o;omega
               obtain ⟨b',C9,AG,J4,d0,d1,d2⟩:=jh (mW.o wr (bn.o.trans (dv.o.mono bn.o.size))) wM.o dF;have AA:t.au.getD j ⟨0,0,0⟩=t.au[j]:=by simp [dF]
               rw [AA] at Lf;obtain ⟨cv,GG⟩:∃v,v=(t.au[j]).a:=⟨_,rfl⟩
               rw [←GG] at Lf d0;rw [AG] at t3;have k2:(j:Int) < (nC:Int):=by omega
               have HKJ:=aa dF;have CM:=aa AG;clear AA GG d1 d2 AG dF;by_cases hx:cv=(qn:Int)
               ·have ex:(cv != (qn:Int))=false:=by simp [hx]
                have O1:=aa (show gH T3.a i5 (qn:Int) t.au j=true by rw [Lf.o,decide_eq_false (by omega),decide_eq_false (fun h=>h hx)];rfl);clear hx;refine (rT.o _).mono ?_;rintro e w' ⟨rfl,hw'⟩;subst hw';go_wp2_with fail;have QR:=Cs;clear d0 ge k2 ex CM HKJ J4 Cs;clear t0 t1 t2 t3 t4 lZ u0 u1 u2 u3 u4 u5 u6 u7 lY;obtain ⟨⟨t0,t1,t2,t3,t4,lZ⟩,u0,u1,u2,u3,u4,u5,u6,u7,lY⟩:=dO.o wr dv.o;cases b6 with
                | false =>
                  have O2:=aa (show gH T3.b i6 (qn:Int) t.au j=true by rw [wR.o];rfl);refine (vu.o _).mono ?_;rintro e w' ⟨rfl,hw'⟩;subst hw';go_wp2_with fail;go_roundw
                  case rel =>
                   refine ⟨j+1,by omega,by go_num,dv.o,fun k hk=>?_⟩;by_cases xM:k=j
                   ·rw [xM,O1.o,O2.o];rfl
                   ·exact tG.o k (by omega)
                  case measure=>simp [intOf];omega
                | true =>
                  by_cases Cs:j < nC
                  ·have ge:¬(j:Int)≥(nC:Int):=by omega
                   have dF:j < t.au.length:=by have:=wM.o;omega
                   obtain ⟨b',C9,AG,J4,d0,d1,d2⟩:=jh (mW.o _ (bn.o.trans (dv.o.mono bn.o.size))) wM.o dF;have AA:t.au.getD j ⟨0,0,0⟩=t.au[j]:=by simp [dF]
                   rw [AA] at wR;obtain ⟨cv,GG⟩:∃v,v=(t.au[j]).b:=⟨_,rfl⟩
                   rw [←GG] at wR d1;rw [AG] at t3;have k2:(j:Int) < (nC:Int):=by omega
                   have HKJ:=aa dF;have CM:=aa AG;clear AA GG d0 d2 AG dF;by_cases hx:cv=(qn:Int)
                   ·have ex:(cv != (qn:Int))=false:=by simp [hx]
                    have O2:=aa (show gH T3.b i6 (qn:Int) t.au j=true by rw [wR.o,decide_eq_false (by omega),decide_eq_false (fun h=>h hx)];rfl);clear hx;refine (vu.o _).mono ?_;rintro e w' ⟨rfl,hw'⟩;subst hw';go_wp2_with fail;go_roundw
                    case rel =>
                     refine ⟨j+1,by omega,by go_num,dv.o,fun k hk=>?_⟩;by_cases xM:k=j
                     ·rw [xM,O1.o,O2.o];rfl
                     ·exact tG.o k (by omega)
                    case measure=>simp [intOf];omega
                   ·have ex:(cv != (qn:Int))=true:=by simp [hx]
                    have O2:=aa (show gH T3.b i6 (qn:Int) t.au j=false by rw [wR.o,decide_eq_true hx];simp);clear hx;refine (vu.o _).mono ?_;rintro e w' ⟨rfl,hw'⟩;subst hw';go_wp2_with fail;go_ret;exact ⟨bt (cx.o (by rw [O1.o,O2.o];rfl)).symm,bn.o.trans (dv.o.mono bn.o.size)⟩
                  ·exact absurd QR Cs
               ·have ex:(cv != (qn:Int))=true:=by simp [hx]
                have O1:=aa (show gH T3.a i5 (qn:Int) t.au j=false by rw [Lf.o,decide_eq_true hx];simp);clear hx;refine (rT.o _).mono ?_;rintro e w' ⟨rfl,hw'⟩;subst hw';go_wp2_with fail;go_ret;exact ⟨bt (cx.o (by rw [O1.o];rfl)).symm,bn.o.trans (dv.o.mono bn.o.size)⟩
              ·have ge:(j:Int)≥(nC:Int):=by omega
               have O1:=aa (show gH T3.a i5 (qn:Int) t.au j=false by rw [Lf.o,decide_eq_true (show nC≤j by omega)];simp);refine (rT.o _).mono ?_;rintro e w' ⟨rfl,hw'⟩;subst hw';go_wp2_with fail;go_ret;exact ⟨bt (cx.o (by rw [O1.o];rfl)).symm,bn.o.trans (dv.o.mono bn.o.size)⟩
           ·have tT:j=4:=by omega
            have k1:¬(j:Int) < 4:=by omega
            have C2:=aa (Uy.o.2 (by rw [←tT];exact tG.o));obtain ⟨⟨t0,t1,t2,t3,t4,lZ⟩,u0,u1,u2,u3,u4,u5,u6,u7,lY⟩:=dO.o wr dv.o;clear tT;by_cases hv:i1≤bu
            ·have C3:=aa (show fE t qn i bu 3=false by rw [HC3.o];exact decide_eq_false (by omega));go_wp2_with fail;go_ret;exact ⟨bt (abX.o C0.o C1.o C2.o C3.o).symm,bn.o.trans (dv.o.mono bn.o.size)⟩
            ·have C3:=aa (show fE t qn i bu 3=true by rw [HC3.o];exact decide_eq_true (by omega));go_wp2_with fail;go_ret;exact ⟨bt (abW.o C0.o C1.o C2.o C3.o).symm,bn.o.trans (dv.o.mono bn.o.size)⟩
       ·have e0:(i0 != (qn:Int))=false:=by simp [td]
        have e1:(i2 != pc)=true:=by simp [Mj]
        have C0:=aa (show fE t qn i bu 0=false by rw [E8.o];exact decide_eq_false fun h=>Mj h.2);clear td Mj;go_quiet (fail);go_wp2_with fail;go_ret;exact ⟨bt (ZH.o C0.o).symm,below_drewN zf.o _⟩
      ·have e0:(i0 != (qn:Int))=true:=by simp [td]
       have C0:=aa (show fE t qn i bu 0=false by rw [E8.o];exact decide_eq_false fun h=>td h.1);clear td;go_quiet (fail);go_wp2_with fail;go_ret;exact ⟨bt (ZH.o C0.o).symm,below_drewN zf.o _⟩
   ·have HQ:=aa hq;by_cases q0:q < 0
    ·have q0':¬0≤q:=by omega
     clear hq;go_wp2_with fail;go_ret;exact ⟨bt (by rw [HL.o,if_neg (by simp),if_pos (.inl HQ.o)]),FW.o⟩
    ·have q1:q≥(nP:Int):=by omega
     clear hq;go_wp2_with fail;go_ret;exact ⟨bt (by rw [HL.o,if_neg (by simp),if_pos (.inl HQ.o)]),FW.o⟩
end
end bR
namespace Gd

open base Go.ChangeShapes Go.WideShapes Go.ChangeAt Go.RowKit place
theorem SQ (n:Int) (w:World):Calls Tryz.prog 36 #[.int .i64 n] w fun e w'=>(∃r,e=.returned (.int .i64 r)∧(n < 1∧r=10∨4 < n∧r=40∨1≤n∧n≤4∧r=10*n))∧w=w':=by
 by_cases h:n < 1
 ·go_enter Tryz.func36,Tryz.ntmps36
  go_wp2
  go_ret;exact ⟨⟨_,rfl,by omega⟩,rfl⟩
 ·by_cases h':4 < n
  ·have h2:1≤n:=by omega
   go_enter Tryz.func36,Tryz.ntmps36
   go_wp2
   go_ret;exact ⟨⟨_,rfl,by omega⟩,rfl⟩
  ·have h2:1≤n:=by omega
   have h3:n≤4:=by omega
   go_enter Tryz.func36,Tryz.ntmps36
   go_wp2
   go_ret;exact ⟨⟨_,rfl,by omega⟩,rfl⟩
end Gd
namespace store


open Go.RowKit Go.Deep base obj mem sep bf bk record bP aU image bK bR chain bw
theorem getD_take {α:Type} {l:List α} {n k:Nat} (h:k < n) (d:α):(l.take n).getD k d=l.getD k d:=by
 simp only [dz,List.getElem?_take,if_pos h]
theorem zd.take {w0:World} {B:aD} {js:List aw} {A:Option Addr} {n m:Nat} {K:Nat→Option Addr×Nat} (h:zd w0 B js A n K) (hm:m≤n):zd w0 B (js.take m) A m K:=by
 intro w l av;have hI:=h w l av;refine ⟨by rw [fv,hI.len];omega,fun i hi=>hI.iS i (List.mem_of_mem_take hi),fun k hk=>?_⟩;rw [getD_take hk];exact hI.at_ k (by omega)
theorem Rp {n:Nat} (h0:1≤n) (h1:n≤128):rH (n:Int)=n:=by unfold rH;rw [if_neg (by omega),if_neg (by omega)];omega
theorem Kx {n:Nat} (h0:1≤n) (h1:n≤128):Calm (DS.new n):=⟨DS.Yd n,rfl,DS.Jw h0 h1,DS.Ww n⟩
def nG (a:en) (t:aQ) (AI:Option Addr) (nI cI:Nat):List Value:=[.int .i64 t.frame,.slice a.AP t.parts.length a.cP,.slice a.AW t.aC.length a.cW,.slice a.AC t.au.length a.cC,.int .i64 t.ay,.slice AI nI cI]
theorem GN {t:aQ} {js:List aw} (hr:t.right=true) (hp:t.parts.length≤js.length) (hk:∀p:Nat,p < t.parts.length→bX t p (js.getD p aw.none) 0=0):BK (10*t.parts.length) t (js.take t.parts.length)=0:=by
 have hw:oh (10*t.parts.length) t=0:=by
  unfold oh;rw [if_neg (by rw [hr];simp),if_neg (by omega)]
 have hl:(js.take t.parts.length).length=t.parts.length:=by rw [fv];omega
 rw [BK,if_neg (by rw [hw];simp),if_neg (by rw [hl];simp)];refine EE _ 0 fun k dC=>?_;rw [hl] at dC;rw [Nat.zero_add,getD_take dC];exact hk k dC

theorem LW {w0 w:World} {l:List aD} {B:aD} (h:St w0 w (B::l)) {js:List aw} {AI:Option Addr} {nI cI:Nat} {K:Nat→Option Addr×Nat} (hg:zd w0 B js AI nI K) {a:en} {t:aQ} (ht:∀w' l',St w0 w' (B::l')→ma w' a t) (hc:nI≤cI) (hr:t.right=true) (hp:t.parts.length≤nI) (dG:nI≤10) (hk:∀p:Nat,p < t.parts.length→bX t p (js.getD p aw.none) 0=0) :
  Calls Tryz.prog 20 #[.agg (nG a t AI nI cI).toArray] w fun e w'=>∃(ad:du) (d X:Nat),e=.returned (.tuple #[.pointer (some ⟨ad.S,0,none⟩),.pointer (some ⟨d,0,none⟩),.pointer (some ⟨X,0,none⟩)])∧∃(m:DS) (xs:List PP) (v:Value) (P:List (Nat×List Value)) (ys:List (dH×RP)),
   St w0 w' (cw X [.int .i64 t.frame,.slice a.AP t.parts.length a.cP,.slice a.AW t.aC.length a.cW,.slice a.AC t.au.length a.cC,.int .i64 t.ay] v P ys::bL ad t d m xs::B::l)∧rJ m xs (rj (js.take t.parts.length))∧xs.length=t.parts.length∧m.az.length=10*t.parts.length∧ys.map (·.2)=(List.range t.parts.length).map (nF js)∧∀k (hk:k < ys.length),ys[k].1.K0=K k∧ys[k].1.K1=(none,0):=by
 have hP4:=(aQ.r hr).np;have zz:=hg w _ h;have HJL:=aa zz.len;obtain ⟨b0,o0,Q2,_⟩:=zz.at_ 0 (by have:=(aQ.r hr).np;omega);subst Q2;have HMK:=aa (GN hr (by rw [zz.len];exact hp) hk);have aar:=aa (Kx (n:=10*t.parts.length) (by omega) (by omega));obtain ⟨Z,hZ⟩:∃Z,Z=w.heap.size:=⟨_,rfl⟩
 obtain ⟨w1,aJ⟩:∃w1,w1=w.alloc (.cells (nG a t (some ⟨b0,o0,none⟩) nI cI).toArray 49):=⟨_,rfl⟩
 have h1:St w0 w1 (B::row Z 49 (nG a t (some ⟨b0,o0,none⟩) nI cI)::l):=by
  have h3:=(h.new 49 (nG a t (some ⟨b0,o0,none⟩) nI cI).toArray).swap;rw [←aJ,←hZ] at h3;exact h3
 have H1:=aa h1;have ez:=aa (fun (w':World) (hb:Below w1.heap.size w1 w')=>bK.qB ((ht w1 _ h1).over hb));rw [hr] at ez;have La:=aa (fun (w':World) (hb:Below w1.heap.size w1 w')=>hg w' _ (h1.below hb))
 have mj:=aa (fun (w':World) (hb:Below w1.heap.size w1 w') (p:Nat) (th:p < t.parts.length) (A:Option Addr) (c:Nat) (pM:(js.getD p aw.none).code.length≤9223372036854775807)=>by
  have hh:=zZ (A:=A) (c:=c) (bu:=0) ((ht w1 _ h1).over hb) (p:Int) pM;rw [hk p th] at hh
  exact hh)
 have mi:=aa (fun (p:Nat) (th:p < t.parts.length)=>oQ (hk p th));have OU:=aa (fun (w':World) (d:Nat) (l':List aD) (av:St w0 w' (bU d (DS.new (10*t.parts.length))::B::l'))=>xA (n:=t.parts.length) (cI:=cI) av (hg.take hp) (ht w' _ av.drop) (by have:=GN hr (by rw [zz.len];exact hp) hk;simpa [DS.new] using this) (Kx (by omega) (by omega)) (fun j hj=>DS.Wu (by simpa [DS.new] using hj)));have EW:=aa (fun (w':World) (l':List aD) (av:St w0 w' (B::l'))=>SV (cI:=cI) av (hg.take hp) (fun k dC=>by rw [getD_take dC];exact oQ (hk k dC)) (by omega) t.frame t.ay a.AP a.AW a.AC t.parts.length a.cP t.aC.length a.cW t.au.length a.cC);have HR:=aa (fun (w':World) (hb:Below w1.heap.size w1 w')=>(h1.pick 1 rfl).row.1.below hb (h1.pick 1 rfl).row.1.lt);have bq:=aa aJ;have HZ:=aa hZ;have rV:=aa (show t.parts.length=t.parts.length from rfl);simp only [nG,en.val,aw.val] at ez mj OU EW HR bq H1 ⊢;obtain ⟨nP,oE⟩:∃v,v=t.parts.length:=⟨_,rfl⟩
 have rV:=aa oE;simp only [←oE] at ez mj OU EW HR bq H1 mi HMK aar hP4 hp ⊢;have tE:=aa (show 2≤nP by omega);generalize jR:t.frame=fr at *;generalize jl:t.ay=tr at *;generalize xK:t.aC.length=nW at *;generalize pK:t.au.length=nC at *;have rows:∀w':World,Below w1.heap.size w1 w'→w'.cell? ⟨Z,0,none⟩=some (.int .i64 fr)∧w'.cell? ⟨Z,1,none⟩=some (.slice a.AP nP a.cP)∧w'.cell? ⟨Z,2,none⟩=some (.slice a.AW nW a.cW)∧w'.cell? ⟨Z,3,none⟩=some (.slice a.AC nC a.cC)∧w'.cell? ⟨Z,4,none⟩=some (.int .i64 tr)∧w'.cell? ⟨Z,5,none⟩=some (.slice (some ⟨b0,o0,none⟩) nI cI)∧Z < w'.heap.size:=fun w' hb=>⟨(HR.o w' hb).cell 0,(HR.o w' hb).cell 1,(HR.o w' hb).cell 2,(HR.o w' hb).cell 3,(HR.o w' hb).cell 4,(HR.o w' hb).cell 5,(HR.o w' hb).lt⟩
 have dO:=aa rows;clear rows aJ hZ h1 zz hg ht hk hr h jR jl xK pK oE;obtain ⟨z0,z1,z2,z3,z4,z5,lZ⟩:=dO.o w1 (Below.refl _ _);go_enter Tryz.func20,Tryz.ntmps20;go_upto_region 1 with fail;rw [←bq.o,←HZ.o];have k1:decide (nI < nP)=false:=by simp;omega
 have k2:decide ((10:Int) < (nI:Int))=false:=by simp;omega
 have k3:decide ((nI:Int) < (nP:Int))=false:=by simp;omega
 go_wp2_with fail;refine (ez.o w1 (Below.refl _ _)).mono ?_;rintro e w2 ⟨rfl,bN⟩;have aO:=aa bN;clear z0 z1 z2 z3 z4 z5 lZ;clear bN;obtain ⟨z0,z1,z2,z3,z4,z5,lZ⟩:=dO.o w2 aO.o;go_wp2_with fail;clear z0 z1 z2 z3 z4 z5 lZ k1 k2 k3;go_loopw [35] (fun x wr=>∃p:Nat,p≤nP∧x=.int .i64 (p:Int)∧Below w1.heap.size w1 wr) (fun x _=>nP-(intOf x).toNat)
 case atStart=>exact ⟨0,by omega,rfl,aO.o⟩
 case round =>
  obtain ⟨p,JR,rfl,pU⟩:=hrel;have dv:=aa pU;clear aO pU;by_cases aK:p < nP
  ·obtain ⟨b,off,hA,cy,c0,c1,c2,c3,c4,c5,c6,c7,jF,Ej⟩:=(La.o wr dv.o).at_ p (by omega);generalize (K p).1=KA,(K p).2=Kc at *;have vz:=aa (mj.o wr.drew dv.o.drew p aK KA Kc (by obtain ⟨_,_,_,_,_,_,_,h8⟩:=mi.o p aK;omega));obtain ⟨rfl,rfl⟩:b0=b∧o0=off:=by injection hA with e;injection e with e1 e2 _;exact ⟨e1,e2⟩
   clear hA;generalize js.getD p aw.none=j at *;obtain ⟨i0,QL⟩:∃v,v=j.part:=⟨_,rfl⟩
   obtain ⟨i1,QK⟩:∃v,v=j.version:=⟨_,rfl⟩
   obtain ⟨i2,Az⟩:∃v,v=j.aY:=⟨_,rfl⟩
   obtain ⟨i3,QJ⟩:∃v,v=j.mem:=⟨_,rfl⟩
   obtain ⟨i4,QI⟩:∃v,v=j.fuel:=⟨_,rfl⟩
   obtain ⟨i5,QH⟩:∃v,v=j.aN:=⟨_,rfl⟩
   obtain ⟨i6,xO⟩:∃v,v=j.aB:=⟨_,rfl⟩
   obtain ⟨i7,QG⟩:∃v,v=j.code.length:=⟨_,rfl⟩
   simp only [←QL,←QK,←Az,←QJ,←QI,←QH,←xO,←QG] at vz c0 c1 c2 c3 c4 c5 c6 c7;clear QL QK Az QJ QI QH xO QG jF Ej;have k0:(0:Int)≤(p:Int):=by omega
   have k1:(p:Int) < (nP:Int):=by omega
   have k2:(p:Int) < (nI:Int):=by omega
   have Bk:=aa (fun (w':World) (hb:Below wr.heap.size wr w')=>show w'.cell? ⟨b0,o0+p*8,none⟩=some (.int .i64 i0)∧w'.cell? ⟨b0,o0+p*8+1,none⟩=some (.int .i64 i1)∧w'.cell? ⟨b0,o0+p*8+2,none⟩=some (.int .i64 i2)∧w'.cell? ⟨b0,o0+p*8+3,none⟩=some (.int .i64 i3)∧w'.cell? ⟨b0,o0+p*8+4,none⟩=some (.int .i64 i4)∧w'.cell? ⟨b0,o0+p*8+5,none⟩=some (.int .i64 i5)∧w'.cell? ⟨b0,o0+p*8+6,none⟩=some (.int .i64 i6)∧w'.cell? ⟨b0,o0+p*8+7,none⟩=some (.slice KA i7 Kc)∧b0 < w'.heap.size from ⟨(hb.cell cy).trans c0,(hb.cell cy).trans c1,(hb.cell cy).trans c2,(hb.cell cy).trans c3,(hb.cell cy).trans c4,(hb.cell cy).trans c5,(hb.cell cy).trans c6,(hb.cell cy).trans c7,Nat.lt_of_lt_of_le cy hb.size⟩);clear c0 c1 c2 c3 c4 c5 c6 c7 cy;go_upto_region 7 with fail;refine eh (fun w'=>(w'.cell? ⟨Z,0,none⟩=some (.int .i64 fr)∧w'.cell? ⟨Z,1,none⟩=some (.slice a.AP nP a.cP)∧w'.cell? ⟨Z,2,none⟩=some (.slice a.AW nW a.cW)∧w'.cell? ⟨Z,3,none⟩=some (.slice a.AC nC a.cC)∧w'.cell? ⟨Z,4,none⟩=some (.int .i64 tr)∧w'.cell? ⟨Z,5,none⟩=some (.slice (some ⟨b0,o0,none⟩) nI cI)∧Z < w'.heap.size)∧(w'.cell? ⟨b0,o0+p*8,none⟩=some (.int .i64 i0)∧w'.cell? ⟨b0,o0+p*8+1,none⟩=some (.int .i64 i1)∧w'.cell? ⟨b0,o0+p*8+2,none⟩=some (.int .i64 i2)∧w'.cell? ⟨b0,o0+p*8+3,none⟩=some (.int .i64 i3)∧w'.cell? ⟨b0,o0+p*8+4,none⟩=some (.int .i64 i4)∧w'.cell? ⟨b0,o0+p*8+5,none⟩=some (.int .i64 i5)∧w'.cell? ⟨b0,o0+p*8+6,none⟩=some (.int .i64 i6)∧w'.cell? ⟨b0,o0+p*8+7,none⟩=some (.slice KA i7 Kc)∧b0 < w'.heap.size)) (by kernel_rfl) (⟨dO.o wr.drew dv.o.drew,Bk.o wr.drew (Below.refl wr.heap.size wr).drew⟩) (fun bQ=>?_);(refine ai 0 ?_;(try simp only [af,ae,ah,Act.put,aq,ak,ao]));(refine ai 1 ?_;(try simp only [af,ae,ah,Act.put,aq,ak,ao]));(refine ai 2 ?_;(try simp only [af,ae,ah,Act.put,aq,ak,ao]));(refine ai 3 ?_;(try simp only [af,ae,ah,Act.put,aq,ak,ao]));(refine ai 4 ?_;(try simp only [af,ae,ah,Act.put,aq,ak,ao]));(refine ai 5 ?_;(try simp only [af,ae,ah,Act.put,aq,ak,ao]));(refine ai 6 ?_;(try simp only [af,ae,ah,Act.put,aq,ak,ao]));(refine ai 7 ?_;(try simp only [af,ae,ah,Act.put,aq,ak,ao]));(refine dV 8 ?_;(try simp only [af,ae,ah]);go_simp);refine vz.o.mono ?_;rintro e w3 ⟨rfl,hb⟩;have bD:=aa (dv.o.drew.trans (hb.mono dv.o.drew.size));have UF:=aa ((Below.refl wr.heap.size wr).drew.trans hb);clear hb;dsimp only;(refine cG (⟨dO.o w3 bD.o,Bk.o w3 UF.o⟩) (fun bQ=>?_);(try simp only [af,ae,ah,Act.put,aq,ak,ao]));(refine ai 9 ?_;(try simp only [af,ae,ah,Act.put,aq,ak,ao]));refine dW (by kernel_rfl) ?_;clear bQ;go_wp2_with fail;go_roundw;case rel=>exact ⟨p+1,by omega,by go_num,bD.o⟩
   case measure=>simp [intOf];omega
  ·have k1:¬(p:Int) < (nP:Int):=by omega
   obtain ⟨z0,z1,z2,z3,z4,z5,lZ⟩:=dO.o wr dv.o;go_wp2_with fail;refine (Gd.SQ (nP:Int) wr).mono ?_;rintro e w3 ⟨⟨r,rfl,hr⟩,rfl⟩;obtain rfl:r=10*(nP:Int):=by omega
   clear hr;go_wp2_with fail;refine (Xi (H1.o.below dv.o) (10*(nP:Int))).mono ?_;rintro e w4 ⟨d,rfl,av⟩;rw [show (10*(nP:Int))=((10*nP:Nat):Int) by omega,Rp (by omega) (by omega)] at av;have bJ:=aa av;have hz:=(av.pick 2 rfl).row.1;clear z0 z1 z2 z3 z4 z5 lZ av;have KQ:=aa hz.drew;have z0:w4.drew.cell? ⟨Z,0,none⟩=some (.int .i64 fr):=KQ.o.cell 0;have z1:w4.drew.cell? ⟨Z,1,none⟩=some (.slice a.AP nP a.cP):=KQ.o.cell 1;have z2:w4.drew.cell? ⟨Z,2,none⟩=some (.slice a.AW nW a.cW):=KQ.o.cell 2;have z3:w4.drew.cell? ⟨Z,3,none⟩=some (.slice a.AC nC a.cC):=KQ.o.cell 3;have z4:w4.drew.cell? ⟨Z,4,none⟩=some (.int .i64 tr):=KQ.o.cell 4;have z5:w4.drew.cell? ⟨Z,5,none⟩=some (.slice (some ⟨b0,o0,none⟩) nI cI):=KQ.o.cell 5;have lZ:Z < w4.drew.heap.size:=KQ.o.lt;have hcp:nP≤cI:=by omega
   have tV:¬cI=0:=by omega
   have abI:=aa (OU.o w4.drew d _ bJ.o.drew);clear hz;go_upto_region 11 with fail;refine dA ?_;(refine bj [3,4,5] ?_;simp only [pick,af,ae,ah];(iterate 3 still_step);refine wpStill_nil ?_);(try simp only [af,ae,ah,Act.put,aq,ak,ao]);(refine fM 6 (.slice (some ⟨b0,o0,none⟩) nP cI) (by kernel_rfl) (fun _ _ _ _ _ h=>h) (by rfl) (by intro w2;(try simp only [af,ae,ah]);go_simp) ?_;(try simp only [af,ae,ah,Act.put,aq,ak,ao]));(refine bj [0,1,2] ?_;simp only [pick,af,ae,ah];(iterate 3 still_step);refine wpStill_nil ?_);(try simp only [af,ae,ah,Act.put,aq,ak,ao]);(refine aL 7 ?_;(try simp only [af,ae,ah]);go_simp);refine abI.o.mono ?_;rintro e w5 ⟨ad,rfl,m,xs,h5,Cl,nT,Qz⟩;have H5:=aa h5;have wK:=aa Cl;have tB:=aa nT;have HML:=aa (show m.az.length=10*nP by rw [Qz];simp [DS.new]);clear h5 Cl nT Qz z0 z1 z2 z3 z4 z5 lZ;dsimp only;(try simp only [af,ae,ah,Act.put,aq,ak,ao]);(refine bj [8] ?_;simp only [pick,af,ae,ah];(iterate 1 still_step);refine wpStill_nil ?_);(try simp only [af,ae,ah,Act.put,aq,ak,ao]);(refine fM 9 (.pointer (some ⟨ad.S,0,none⟩)) (by kernel_rfl) (fun _ _ _ _ _ h=>h) (by rfl) (by intro w2;(try simp only [af,ae,ah]);go_simp) ?_;(try simp only [af,ae,ah,Act.put,aq,ak,ao]));(refine fM 10 (.int .i64 0) (by kernel_rfl) (fun _ _ _ _ _ h=>h) (by rfl) (by intro w2;(try simp only [af,ae,ah]);go_simp) ?_;(try simp only [af,ae,ah,Act.put,aq,ak,ao]));(refine bj [11,12] ?_;simp only [pick,af,ae,ah];(iterate 2 still_step);refine wpStill_nil ?_);refine bZ ?_;have hz:=(H5.o.pick 2 rfl).row.1;have KP:=aa hz.drew;clear hz;have z0:w5.drew.cell? ⟨Z,0,none⟩=some (.int .i64 fr):=KP.o.cell 0;have z1:w5.drew.cell? ⟨Z,1,none⟩=some (.slice a.AP nP a.cP):=KP.o.cell 1;have z2:w5.drew.cell? ⟨Z,2,none⟩=some (.slice a.AW nW a.cW):=KP.o.cell 2;have z3:w5.drew.cell? ⟨Z,3,none⟩=some (.slice a.AC nC a.cC):=KP.o.cell 3;have z4:w5.drew.cell? ⟨Z,4,none⟩=some (.int .i64 tr):=KP.o.cell 4;have z5:w5.drew.cell? ⟨Z,5,none⟩=some (.slice (some ⟨b0,o0,none⟩) nI cI):=KP.o.cell 5;have lZ:Z < w5.drew.heap.size:=KP.o.lt;have HMR:=aa (EW.o w5.drew _ (H5.o.drew.pick 1 rfl));go_upto_region 14 with fail;refine dA ?_;(refine bj [4,5,6] ?_;simp only [pick,af,ae,ah];(iterate 3 still_step);refine wpStill_nil ?_);(try simp only [af,ae,ah,Act.put,aq,ak,ao]);(refine fM 7 (.slice (some ⟨b0,o0,none⟩) nP cI) (by kernel_rfl) (fun _ _ _ _ _ h=>h) (by rfl) (by intro w2;(try simp only [af,ae,ah]);go_simp) ?_;(try simp only [af,ae,ah,Act.put,aq,ak,ao]));(refine bj [0,1,2,3] ?_;simp only [pick,af,ae,ah];(iterate 4 still_step);refine wpStill_nil ?_);(try simp only [af,ae,ah,Act.put,aq,ak,ao]);(refine aL 8 ?_;(try simp only [af,ae,ah]);go_simp);refine HMR.o.mono ?_;rintro e w7 ⟨X,rfl,v,P,ys,h7,rq,hK⟩;have H7:=aa h7;have MH:=aa rq;have CJ:=aa hK;clear h7 rq hK z0 z1 z2 z3 z4 z5 lZ;dsimp only;(try simp only [af,ae,ah,Act.put,aq,ak,ao]);(refine bj [9,10,11] ?_;simp only [pick,af,ae,ah];(iterate 3 still_step);refine wpStill_nil ?_);refine bZ ?_;go_wp2_with fail
   go_ret3
   refine ⟨ad,d,X,rfl,m,xs,v,P,ys,((((H7.o.pick 3 rfl).drop).pick 2 rfl).swap),wK.o,tB.o,HML.o,?_,CJ.o⟩;rw [MH.o];refine List.map_congr_left fun k hk=>?_;simp only [nF,getD_take (List.mem_range.1 hk)]
end store
end Go.Proofs.YtdldkkoplgkloaaGreat
