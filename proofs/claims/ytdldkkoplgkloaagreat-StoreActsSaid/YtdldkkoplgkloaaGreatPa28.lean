/- PROVED HERE: lemmas of the law. CONDITIONS: each names its own. -/
import Derived.Test.YtdldkkoplgkloaaGreatPa27
namespace Go.Proofs.YtdldkkoplgkloaaGreat
set_option linter.unusedVariables false
set_option linter.unusedSimpArgs false
set_option maxRecDepth 100000
set_option maxHeartbeats 32000000
open Go.Value renaming int → ae
open Go.IntKind renaming i64 → aa
namespace bL
open Go.RowKit Go.Deep base obj mem sep aW num bytes bC chain image bN
section
variable {w : World} {a : dF} {t : aY} {p : Nat} {i : aq} {A : Option Addr} {c : Nat} {bG : Int}
open Go.Proofs.YtdldkkoplgkloaaGreat.bits (dg GD Dc)
theorem Q5 (s m:Nat) (hs:s < 16) (hm:m < 16):zF (s:Int) m=(List.range 4).all fun k=>!dg s k||dg m k:=by
 have:∀s:Nat,s < 16→∀m:Nat,m < 16→zF (s:Int) m=(List.range 4).all fun k=>!dg s k||dg m k:=by decide +kernel
 exact this s hs m hm
theorem Wt (n:Nat) (hn:n < 4) (s:Nat) (hs:s < 2 ^ n) (b:Bool) (k:Nat) (hk:k < 4):dg ((s+(if b then 2 ^ n else 0):Nat):Int) k=(dg s k||(k==n&&b)):=by
 have:∀n:Nat,n < 4→∀s:Nat,s < 2 ^ n→∀b:Bool,∀k:Nat,k < 4→dg ((s+(if b then 2 ^ n else 0):Nat):Int) k=(dg s k||(k==n&&b)):=by decide +kernel
 exact this n hn s hs b k hk
theorem Jn (f:T3→Int) (q:Int) (l:List T3):∀n,n≤4→∀k,k < 4→dg (jd f q l n:Nat) k=decide (k < n∧f (l.getD k ⟨0,0,0⟩)=q)
 | 0,_,k,hk=>by
   have:∀k:Nat,k < 4→dg ((0:Nat):Int) k=false:=by decide +kernel
   rw [jd,this k hk];simp
 | n+1,hn,k,hk=>by
   have h:=Wt n (by omega) (jd f q l n) (C6 f q l n) (decide (f (l.getD n ⟨0,0,0⟩)=q)) k hk;rw [Jn f q l n (by omega) k hk] at h;simp only [decide_eq_true_eq] at h;rw [jd,h,Bool.eq_iff_iff];simp only [Bool.or_eq_true,Bool.and_eq_true,decide_eq_true_eq,beq_iff_eq]
   constructor
   ·rintro (⟨h1,h2⟩|⟨rfl,h2⟩)
    ·exact ⟨by omega,h2⟩
    ·exact ⟨by omega,h2⟩
   ·rintro ⟨h1,h2⟩;by_cases lv:k=n
    ·subst lv;exact .inr ⟨rfl,h2⟩
    ·exact .inl ⟨by omega,h2⟩
def ij (f:T3→Int) (s q:Int) (l:List T3) (k:Nat):Bool:=!(dg s k&&(decide (l.length≤k)||decide (f (l.getD k ⟨0,0,0⟩)≠q)))
theorem E5 (f:T3→Int) (s:Int) (h0:0≤s) (h1:s≤15) (q:Int) (l:List T3) (hl:l.length≤4):zF s (jd f q l l.length)=true ↔ ∀k,k < 4→ij f s q l k=true:=by
 obtain ⟨n,rfl⟩:∃n:Nat,s=n:=⟨s.toNat,by omega⟩
 have aH:=C6 f q l l.length;have:2 ^ l.length≤2 ^ 4:=Nat.pow_le_pow_right (by omega) hl;rw [Q5 n _ (by omega) (by omega),List.all_eq_true];simp only [List.mem_range];refine forall_congr' fun k=>forall_congr' fun hk=>?_;rw [Jn f q l l.length hl k hk];simp only [ij];cases dg (n:Int) k<;>simp
theorem Qr (hi:i.right) (hr:t.right=true):fV t p i bG 2=true ↔ ∀k,k < 4→(ij T3.a i.aM p t.av k&&ij T3.b i.ax p t.av k)=true:=by
 have y9:=(aY.r hr).nc;obtain ⟨_,_,_,_,_,⟨f0,f1⟩,⟨g0,g1⟩,_⟩:=hi;rw [fV,Bool.and_eq_true,E5 T3.a _ f0 f1 _ _ (by omega),E5 T3.b _ g0 g1 _ _ (by omega)]
 constructor
 ·rintro ⟨h1,h2⟩ k hk;rw [h1 k hk,h2 k hk];rfl
 ·intro h;exact ⟨fun k hk=>by have:=h k hk;simp at this;exact this.1,fun k hk=>by have:=h k hk;simp at this;exact this.2⟩
theorem BC (h:ko w a t) (q:Int) (hc:i.code.length≤9223372036854775807):Calls Tryz.prog 37 #[a.val t,ae aa q,i.val A c,ae aa bG] w fun e w'=>e=.returned (ae aa (bX t q i bG))∧Below w.heap.size w w':=by
 have eR:=af (fun w' (hb:Below w.heap.size w w')=>bN.rG (h.over hb));have yj:=af (fun w'=>tt.rG w' i A c hc);have OA:=af (fun w' (hb:Below w.heap.size w w')=>(h.over hb).ps);have nZ:=af (fun w' (hb:Below w.heap.size w w')=>(h.over hb).cs);have HN4:=af (fun (hr:t.right=true)=>(aY.r hr).nc);obtain ⟨Z,hZ⟩:=xE w.heap.size;obtain ⟨w1,aF⟩:∃w1,w1=(w.alloc (.cells #[ae aa t.frame,.slice a.AP t.parts.length a.cP,.slice a.AW t.aJ.length a.cW,.slice a.AC t.av.length a.cC,ae aa t.ay] 46)).alloc (.cells #[ae aa i.part,ae aa i.version,ae aa i.aV,ae aa i.mem,ae aa i.fuel,ae aa i.aM,ae aa i.ax,.slice A i.code.length c] 26):=⟨_,rfl⟩
 have H1:=af (show St w w1 [row Z 46 [ae aa t.frame,.slice a.AP t.parts.length a.cP,.slice a.AW t.aJ.length a.cW,.slice a.AC t.av.length a.cC,ae aa t.ay],row (Z+1) 26 [ae aa i.part,ae aa i.version,ae aa i.aV,ae aa i.mem,ae aa i.fuel,ae aa i.aM,ae aa i.ax,.slice A i.code.length c]] by
  have h:=((St.nil w).new 46 #[ae aa t.frame,.slice a.AP t.parts.length a.cP,.slice a.AW t.aJ.length a.cW,.slice a.AC t.av.length a.cC,ae aa t.ay]).new 26 #[ae aa i.part,ae aa i.version,ae aa i.aV,ae aa i.mem,ae aa i.fuel,ae aa i.aM,ae aa i.ax,.slice A i.code.length c];rw [show (w.alloc (.cells #[ae aa t.frame,.slice a.AP t.parts.length a.cP,.slice a.AW t.aJ.length a.cW,.slice a.AC t.av.length a.cC,ae aa t.ay] 46)).heap.size=Z+1 by rw [hZ];exact Array.size_push _,←hZ,←aF] at h
  exact h.swap)
 have br:=af aF;have HZ:=af hZ;have HL:=af (show bX t q i bG=if t.right=false then 9 else if ¬(0≤q∧q < t.parts.length)∨¬i.right then 3 else ot t q.toNat i bG 4 from rfl);obtain ⟨L,hL⟩:=xE (bX t q i bG);rw [←hL] at HL ⊢;simp only [dF.val,aq.val,da] at br eR yj ⊢;obtain ⟨nP,pL⟩:=xE t.parts.length;obtain ⟨nC,qA⟩:=xE t.av.length;obtain ⟨rr,oM⟩:=xE t.right;obtain ⟨ir,xQ⟩:∃v:Bool,v=decide i.right:=⟨_,rfl⟩
 have Jz:=af (fun (j:Nat) (hj:j < 4) (h:∀k,k < j→fV t q.toNat i bG k=true) (hn:fV t q.toNat i bG j=false)=>show ot t q.toNat i bG 4=Hj j from EK hj h hn 4 (by omega) (by omega));have o6:=af (fun (h:∀k,k < 4→fV t q.toNat i bG k=true)=>show ot t q.toNat i bG 4=0 from Jc (by omega) (fun j _ hj=>h j hj));have ER:=af (show i.right ↔ ir=true by rw [xQ];simp);have rV:=af oM;have HPO:=af (fun (hi:i.right) (hr:t.right=true)=>Qr (t:=t) (p:=q.toNat) (i:=i) (bG:=bG) hi hr);have Gr:=af (show fV t q.toNat i bG 0=decide (i.part=(q.toNat:Int)∧i.aV=(partAt t q.toNat).c) from rfl);have yn:=af (show fV t q.toNat i bG 1=decide (i.mem≤(partAt t q.toNat).a∧i.fuel≤(partAt t q.toNat).b) from rfl);have HC3:=af (show fV t q.toNat i bG 3=decide (bG < i.version) from rfl);have Cl:=af (fun (k:Nat)=>show ij T3.a i.aM (q.toNat:Int) t.av k=!(dg i.aM k&&(decide (t.av.length≤k)||decide ((t.av.getD k ⟨0,0,0⟩).a≠(q.toNat:Int)))) from rfl);have pz:=af (fun (k:Nat)=>show ij T3.b i.ax (q.toNat:Int) t.av k=!(dg i.ax k&&(decide (t.av.length≤k)||decide ((t.av.getD k ⟨0,0,0⟩).b≠(q.toNat:Int)))) from rfl);have jg:=af (show i.right→Dc i.aM∧Dc i.ax from fun ⟨_,_,_,_,_,f,g,_⟩=>by constructor<;>constructor<;>omega);have sP:=af pL;have yg:=af qA;rw [←oM] at eR HL;rw [←xQ] at yj;simp only [←pL,←qA] at eR yj HL H1 br OA nZ Cl pz ⊢;have im:=af (show partAt t q.toNat=t.parts.getD q.toNat ⟨0,0,0⟩ from rfl);generalize t.aJ.length=nW,t.frame=fr,t.ay=tr,i.part=i0,i.version=i1,i.aV=i2,i.mem=i3,i.fuel=i4,i.aM=i5,i.ax=i6,i.code.length=i7,ot t q.toNat i bG 4=L4 at *;clear aF hZ h hL pL oM xQ qA;have pq:=af (fun (w':World) (hb:Below w1.heap.size w1 w')=>H1.o.row.1.below hb H1.o.row.1.lt);have mN:=af (fun (w':World) (hb:Below w1.heap.size w1 w')=>H1.o.swap.row.1.below hb H1.o.swap.row.1.lt)
 have rows:∀w',Below w1.heap.size w1 w'→(w'.cell? ⟨Z,0,none⟩=some (ae aa fr)∧w'.cell? ⟨Z,1,none⟩=some (.slice a.AP nP a.cP)∧w'.cell? ⟨Z,2,none⟩=some (.slice a.AW nW a.cW)∧w'.cell? ⟨Z,3,none⟩=some (.slice a.AC nC a.cC)∧w'.cell? ⟨Z,4,none⟩=some (ae aa tr)∧Z < w'.heap.size)∧
   (w'.cell? ⟨Z+1,0,none⟩=some (ae aa i0)∧w'.cell? ⟨Z+1,1,none⟩=some (ae aa i1)∧w'.cell? ⟨Z+1,2,none⟩=some (ae aa i2)∧w'.cell? ⟨Z+1,3,none⟩=some (ae aa i3)∧w'.cell? ⟨Z+1,4,none⟩=some (ae aa i4)∧w'.cell? ⟨Z+1,5,none⟩=some (ae aa i5)∧w'.cell? ⟨Z+1,6,none⟩=some (ae aa i6)∧w'.cell? ⟨Z+1,7,none⟩=some (.slice A i7 c)∧Z+1 < w'.heap.size) :=
  fun w' hb=>⟨⟨(pq.o w' hb).cell 0,(pq.o w' hb).cell 1,(pq.o w' hb).cell 2,(pq.o w' hb).cell 3,(pq.o w' hb).cell 4,(pq.o w' hb).lt⟩,
   (mN.o w' hb).cell 0,(mN.o w' hb).cell 1,(mN.o w' hb).cell 2,(mN.o w' hb).cell 3,(mN.o w' hb).cell 4,(mN.o w' hb).cell 5,(mN.o w' hb).cell 6,(mN.o w' hb).cell 7,(mN.o w' hb).lt⟩
 have dr:=af rows;have bh:=af H1.o.aE;clear rows H1 pq mN;obtain ⟨⟨t0,t1,t2,t3,t4,lZ⟩,u0,u1,u2,u3,u4,u5,u6,u7,lY⟩:=dr.o w1 (Below.refl _ _);go_enter Tryz.func37,Tryz.ntmps37;go_upto_region 1 with fail;rw [←br.o,←HZ.o];go_wp2_with fail;refine (eR.o w1 bh.o).mono ?_;rintro e w2 ⟨rfl,bT⟩;have aO:=af bT;clear t0 t1 t2 t3 t4 lZ u0 u1 u2 u3 u4 u5 u6 u7 lY bT;obtain ⟨⟨t0,t1,t2,t3,t4,lZ⟩,u0,u1,u2,u3,u4,u5,u6,u7,lY⟩:=dr.o w2 aO.o;have Hm:=af (bh.o.trans (aO.o.mono bh.o.size));cases rr with
 | false =>
   go_wp2_with fail;go_ret;exact ⟨bx (by rw [HL.o];rfl),Hm.o⟩
 | true =>
   by_cases hq:0≤q∧q < (nP:Int)
   ·obtain ⟨q0,q1⟩:=hq;have q0':¬q < 0:=by omega
    have q1':¬q≥(nP:Int):=by omega
    have HQ:=af (And.intro q0 q1);go_wp2_with fail;refine (yj.o w2).mono ?_;rintro e w4 ⟨rfl,pO⟩;have fD:=af (aO.o.trans (pO.mono aO.o.size));clear t0 t1 t2 t3 t4 lZ u0 u1 u2 u3 u4 u5 u6 u7 lY pO;obtain ⟨⟨t0,t1,t2,t3,t4,lZ⟩,u0,u1,u2,u3,u4,u5,u6,u7,lY⟩:=dr.o w4 fD.o;have Aw:=af (bh.o.trans (fD.o.mono bh.o.size));cases ir with
    | false =>
      go_wp2_with fail;go_ret;exact ⟨bx (by rw [HL.o,if_neg (by simp),if_pos (.inr (by rw [ER.o];simp))]),Aw.o⟩
    | true =>
      have s9:=af (show L=L4 by rw [HL.o,if_neg (by simp),if_neg (by rw [ER.o];simp;exact HQ.o)]);have WH:=af (HPO.o (ER.o.2 rfl) rV.o.symm);have abg:=af (jg.o (ER.o.2 rfl));have aed:=af (show nC≤4 by rw [yg.o];exact HN4.o rV.o.symm);obtain ⟨qn,FF⟩:=xE q.toNat;have hqq:(qn:Int)=q:=by omega
      rw [←FF] at Jz o6 WH Gr yn HC3 Cl pz im;subst hqq;clear FF;have sD:qn < t.parts.length:=by have:=sP.o;omega
      have eP:t.parts.getD qn ⟨0,0,0⟩=t.parts[qn]:=by simp [sD]
      rw [im.o,eP] at Gr yn;have OE:=af (fun (w':World) (hb:Below w1.heap.size w1 w')=>jE (OA.o w' (bh.o.trans (hb.mono bh.o.size))) sP.o sD);generalize t.parts[qn]=pt at *;obtain ⟨pa,pb,pc⟩:=pt;simp only at OE Gr yn;obtain ⟨b,off,hA,cm,c0,c1,c2⟩:=OE.o w4 fD.o;have HA:=af hA;clear eP sD hA;rw [HA.o] at t1;go_wp2_with fail;have acV:∀{X:Bool},fV t qn i bG 0=X→X=false→L=12:=fun h1 h2=>by rw [s9.o,Jz.o 0 (by omega) (fun k hk=>absurd hk (by omega)) (h1.trans h2)];rfl
      have abp:=af (fun (h1:fV t qn i bG 0=false)=>show L=12 by rw [s9.o,Jz.o 0 (by omega) (fun k hk=>absurd hk (by omega)) h1];rfl)
      have abo:=af (fun (h0:fV t qn i bG 0=true) (h1:fV t qn i bG 1=false)=>show L=14 by
       rw [s9.o,Jz.o 1 (by omega) (fun k hk=>by rw [show k=0 by omega];exact h0) h1];rfl)
      have adF:=af (fun (h0:fV t qn i bG 0=true) (h1:fV t qn i bG 1=true) (h2:fV t qn i bG 2=false)=>show L=15 by
       rw [s9.o,Jz.o 2 (by omega) (fun k hk=>by rcases (by omega:k=0∨k=1) with rfl|rfl<;>assumption) h2];rfl)
      have adE:=af (fun (h0:fV t qn i bG 0=true) (h1:fV t qn i bG 1=true) (h2:fV t qn i bG 2=true) (h3:fV t qn i bG 3=false)=>show L=13 by
       rw [s9.o,Jz.o 3 (by omega) (fun k hk=>by rcases (by omega:k=0∨k=1∨k=2) with rfl|rfl|rfl<;>assumption) h3];rfl)
      have adD:=af (fun (h0:fV t qn i bG 0=true) (h1:fV t qn i bG 1=true) (h2:fV t qn i bG 2=true) (h3:fV t qn i bG 3=true)=>show L=0 by
       rw [s9.o,o6.o (fun k hk=>by rcases (by omega:k=0∨k=1∨k=2∨k=3) with rfl|rfl|rfl|rfl<;>assumption)])
      clear acV;by_cases ug:i0=(qn:Int)
      ·by_cases N8:i2=pc
       ·have e0:(i0 != (qn:Int))=false:=by simp [ug]
        have e1:(i2 != pc)=false:=by simp [N8]
        have C0:=af (show fV t qn i bG 0=true by rw [Gr.o];exact decide_eq_true ⟨ug,N8⟩);clear ug N8;go_quiet (fail);go_wp2_with fail;by_cases hm:i3 > pa
        ·have C1:=af (show fV t qn i bG 1=false by rw [yn.o];exact decide_eq_false fun h=>by omega);go_quiet (fail);go_wp2_with fail;go_ret;exact ⟨bx (abo.o C0.o C1.o).symm,by first|exact below_drewN (below_drewN Aw.o _) _|exact below_drewN Aw.o _⟩
        ·by_cases hf:i4 > pb
         ·have C1:=af (show fV t qn i bG 1=false by rw [yn.o];exact decide_eq_false fun h=>by omega);go_quiet (fail);go_wp2_with fail;go_ret;exact ⟨bx (abo.o C0.o C1.o).symm,by first|exact below_drewN (below_drewN Aw.o _) _|exact below_drewN Aw.o _⟩
         ·have C1:=af (show fV t qn i bG 1=true by rw [yn.o];exact decide_eq_true ⟨by omega,by omega⟩);go_quiet (fail);go_wp2_with fail;go_loopw [9] (fun x wr=>∃j:Nat,j≤4∧x=ae aa j∧Below w1.heap.size w1 wr∧∀k,k < j→(ij T3.a i5 (qn:Int) t.av k&&ij T3.b i6 (qn:Int) t.av k)=true) (fun x _=>4-(intOf x).toNat)
          case atStart=>exact ⟨0,by omega,rfl,by first|exact below_drewN (below_drewN fD.o _) _|exact below_drewN fD.o _,fun k hk=>absurd hk (by omega)⟩
          case round =>
           obtain ⟨j,hj,rfl,qL,cH⟩:=hrel;have dz:=af qL;have uY:=af cH;clear t0 t1 t2 t3 t4 lZ u0 u1 u2 u3 u4 u5 u6 u7 lY c0 c1 c2 qL cH e0 e1;by_cases aH:j < 4
           ·have sY:=af (fun (w':World)=>show Calls Tryz.prog 84 #[ae aa i5,ae aa j] w' fun e mf=>e=.returned (.bool (dg i5 j))∧w'=mf from GD i5 j w' (by omega) abg.o.1);have sX:=af (fun (w':World)=>show Calls Tryz.prog 84 #[ae aa i6,ae aa j] w' fun e mf=>e=.returned (.bool (dg i6 j))∧w'=mf from GD i6 j w' (by omega) abg.o.2);have MM:=af (Cl.o j);have yo:=af (pz.o j);have cK:=af (fun (h:(ij T3.a i5 (qn:Int) t.av j&&ij T3.b i6 (qn:Int) t.av j)=false)=>adF.o C0.o C1.o (Bool.eq_false_iff.2 fun hc=>by have:=WH.o.1 hc j aH;rw [h] at this;cases this));obtain ⟨b5,ka⟩:=xE (dg i5 j);obtain ⟨b6,um⟩:=xE (dg i6 j);rw [←ka] at sY MM;rw [←um] at sX yo;clear ka um;obtain ⟨⟨t0,t1,t2,t3,t4,lZ⟩,u0,u1,u2,u3,u4,u5,u6,u7,lY⟩:=dr.o wr dz.o;have k1:(j:Int) < 4:=by omega
            have k0:(0:Int)≤(j:Int):=by omega
            go_wp2_with fail;cases b5 with
            | false =>
              have O1:=af (show ij T3.a i5 (qn:Int) t.av j=true by rw [MM.o];rfl);refine (sY.o _).mono ?_;rintro e w' ⟨rfl,hw'⟩;subst hw';go_wp2_with fail;clear t0 t1 t2 t3 t4 lZ u0 u1 u2 u3 u4 u5 u6 u7 lY;obtain ⟨⟨t0,t1,t2,t3,t4,lZ⟩,u0,u1,u2,u3,u4,u5,u6,u7,lY⟩:=dr.o wr dz.o;cases b6 with
              | false =>
                have O2:=af (show ij T3.b i6 (qn:Int) t.av j=true by rw [yo.o];rfl);refine (sX.o _).mono ?_;rintro e w' ⟨rfl,hw'⟩;subst hw';go_wp2_with fail;go_roundw
                case rel =>
                 refine ⟨j+1,by omega,by go_num,dz.o,fun k hk=>?_⟩;by_cases za:k=j
                 ·rw [za,O1.o,O2.o];rfl
                 ·exact uY.o k (by omega)
                case measure=>simp [intOf];omega
              | true =>
                by_cases DD:j < nC
                ·have ge:¬(j:Int)≥(nC:Int):=by omega
                 have dJ:j < t.av.length:=by have:=yg.o;omega
                 obtain ⟨b',Eo,B1,EF,d0,d1,d2⟩:=jE (nZ.o _ (bh.o.trans (dz.o.mono bh.o.size))) yg.o dJ;have BV:t.av.getD j ⟨0,0,0⟩=t.av[j]:=by simp [dJ]
                 rw [BV] at yo;obtain ⟨cv,IJ⟩:∃v,v=(t.av[j]).b:=⟨_,rfl⟩
                 rw [←IJ] at yo d1;rw [B1] at t3;have k2:(j:Int) < (nC:Int):=by omega
                 have HKJ:=af dJ;have zt:=af B1;clear BV IJ d0 d2 B1 dJ;by_cases hx:cv=(qn:Int)
                 ·have ex:(cv != (qn:Int))=false:=by simp [hx]
                  have O2:=af (show ij T3.b i6 (qn:Int) t.av j=true by rw [yo.o,decide_eq_false (by omega),decide_eq_false (fun h=>h hx)];rfl);clear hx;refine (sX.o _).mono ?_;rintro e w' ⟨rfl,hw'⟩;subst hw';go_wp2_with fail;go_roundw
                  case rel =>
                   refine ⟨j+1,by omega,by go_num,dz.o,fun k hk=>?_⟩;by_cases za:k=j
                   ·rw [za,O1.o,O2.o];rfl
                   ·exact uY.o k (by omega)
                  case measure=>simp [intOf];omega
                 ·have ex:(cv != (qn:Int))=true:=by simp [hx]
                  have O2:=af (show ij T3.b i6 (qn:Int) t.av j=false by rw [yo.o,decide_eq_true hx];simp);clear hx;refine (sX.o _).mono ?_;rintro e w' ⟨rfl,hw'⟩;subst hw';go_wp2_with fail;go_ret;exact ⟨bx (cK.o (by rw [O1.o,O2.o];rfl)).symm,bh.o.trans (dz.o.mono bh.o.size)⟩
                ·have ge:(j:Int)≥(nC:Int):=by omega
                 have O2:=af (show ij T3.b i6 (qn:Int) t.av j=false by rw [yo.o,decide_eq_true (show nC≤j by omega)];simp);refine (sX.o _).mono ?_;rintro e w' ⟨rfl,hw'⟩;subst hw';go_wp2_with fail;go_ret;exact ⟨bx (cK.o (by rw [O1.o,O2.o];rfl)).symm,bh.o.trans (dz.o.mono bh.o.size)⟩
            | true =>
              by_cases DD:j < nC
              ·have ge:¬(j:Int)≥(nC:Int):=by omega
               have dJ:j < t.av.length:=by have:=yg.o;omega
               obtain ⟨b',Eo,B1,EF,d0,d1,d2⟩:=jE (nZ.o wr (bh.o.trans (dz.o.mono bh.o.size))) yg.o dJ;have BV:t.av.getD j ⟨0,0,0⟩=t.av[j]:=by simp [dJ]
               rw [BV] at MM;obtain ⟨cv,IJ⟩:∃v,v=(t.av[j]).a:=⟨_,rfl⟩
               rw [←IJ] at MM d0;rw [B1] at t3;have k2:(j:Int) < (nC:Int):=by omega
               have HKJ:=af dJ;have zt:=af B1;clear BV IJ d1 d2 B1 dJ;by_cases hx:cv=(qn:Int)
               ·have ex:(cv != (qn:Int))=false:=by simp [hx]
                have O1:=af (show ij T3.a i5 (qn:Int) t.av j=true by rw [MM.o,decide_eq_false (by omega),decide_eq_false (fun h=>h hx)];rfl);clear hx;refine (sY.o _).mono ?_;rintro e w' ⟨rfl,hw'⟩;subst hw';go_wp2_with fail;have SR:=DD;clear d0 ge k2 ex zt HKJ EF DD;clear t0 t1 t2 t3 t4 lZ u0 u1 u2 u3 u4 u5 u6 u7 lY;obtain ⟨⟨t0,t1,t2,t3,t4,lZ⟩,u0,u1,u2,u3,u4,u5,u6,u7,lY⟩:=dr.o wr dz.o;cases b6 with
                | false =>
                  have O2:=af (show ij T3.b i6 (qn:Int) t.av j=true by rw [yo.o];rfl);refine (sX.o _).mono ?_;rintro e w' ⟨rfl,hw'⟩;subst hw';go_wp2_with fail;go_roundw
                  case rel =>
                   refine ⟨j+1,by omega,by go_num,dz.o,fun k hk=>?_⟩;by_cases za:k=j
                   ·rw [za,O1.o,O2.o];rfl
                   ·exact uY.o k (by omega)
                  case measure=>simp [intOf];omega
                | true =>
                  by_cases DD:j < nC
                  ·have ge:¬(j:Int)≥(nC:Int):=by omega
                   have dJ:j < t.av.length:=by have:=yg.o;omega
                   obtain ⟨b',Eo,B1,EF,d0,d1,d2⟩:=jE (nZ.o _ (bh.o.trans (dz.o.mono bh.o.size))) yg.o dJ;have BV:t.av.getD j ⟨0,0,0⟩=t.av[j]:=by simp [dJ]
                   rw [BV] at yo;obtain ⟨cv,IJ⟩:∃v,v=(t.av[j]).b:=⟨_,rfl⟩
                   rw [←IJ] at yo d1;rw [B1] at t3;have k2:(j:Int) < (nC:Int):=by omega
                   have HKJ:=af dJ;have zt:=af B1;clear BV IJ d0 d2 B1 dJ;by_cases hx:cv=(qn:Int)
                   ·have ex:(cv != (qn:Int))=false:=by simp [hx]
                    have O2:=af (show ij T3.b i6 (qn:Int) t.av j=true by rw [yo.o,decide_eq_false (by omega),decide_eq_false (fun h=>h hx)];rfl);clear hx;refine (sX.o _).mono ?_;rintro e w' ⟨rfl,hw'⟩;subst hw';go_wp2_with fail;go_roundw
                    case rel =>
                     refine ⟨j+1,by omega,by go_num,dz.o,fun k hk=>?_⟩;by_cases za:k=j
                     ·rw [za,O1.o,O2.o];rfl
                     ·exact uY.o k (by omega)
                    case measure=>simp [intOf];omega
                   ·have ex:(cv != (qn:Int))=true:=by simp [hx]
                    have O2:=af (show ij T3.b i6 (qn:Int) t.av j=false by rw [yo.o,decide_eq_true hx];simp);clear hx;refine (sX.o _).mono ?_;rintro e w' ⟨rfl,hw'⟩;subst hw';go_wp2_with fail;go_ret;exact ⟨bx (cK.o (by rw [O1.o,O2.o];rfl)).symm,bh.o.trans (dz.o.mono bh.o.size)⟩
                  ·exact absurd SR DD
               ·have ex:(cv != (qn:Int))=true:=by simp [hx]
                have O1:=af (show ij T3.a i5 (qn:Int) t.av j=false by rw [MM.o,decide_eq_true hx];simp);clear hx;refine (sY.o _).mono ?_;rintro e w' ⟨rfl,hw'⟩;subst hw';go_wp2_with fail;go_ret;exact ⟨bx (cK.o (by rw [O1.o];rfl)).symm,bh.o.trans (dz.o.mono bh.o.size)⟩
              ·have ge:(j:Int)≥(nC:Int):=by omega
               have O1:=af (show ij T3.a i5 (qn:Int) t.av j=false by rw [MM.o,decide_eq_true (show nC≤j by omega)];simp);refine (sY.o _).mono ?_;rintro e w' ⟨rfl,hw'⟩;subst hw';go_wp2_with fail;go_ret;exact ⟨bx (cK.o (by rw [O1.o];rfl)).symm,bh.o.trans (dz.o.mono bh.o.size)⟩
           ·have uO:j=4:=by omega
            have k1:¬(j:Int) < 4:=by omega
            have C2:=af (WH.o.2 (by rw [←uO];exact uY.o));obtain ⟨⟨t0,t1,t2,t3,t4,lZ⟩,u0,u1,u2,u3,u4,u5,u6,u7,lY⟩:=dr.o wr dz.o;clear uO;by_cases hv:i1≤bG
            ·have C3:=af (show fV t qn i bG 3=false by rw [HC3.o];exact decide_eq_false (by omega));go_wp2_with fail;go_ret;exact ⟨bx (adE.o C0.o C1.o C2.o C3.o).symm,bh.o.trans (dz.o.mono bh.o.size)⟩
            ·have C3:=af (show fV t qn i bG 3=true by rw [HC3.o];exact decide_eq_true (by omega));go_wp2_with fail;go_ret;exact ⟨bx (adD.o C0.o C1.o C2.o C3.o).symm,bh.o.trans (dz.o.mono bh.o.size)⟩
       ·have e0:(i0 != (qn:Int))=false:=by simp [ug]
        have e1:(i2 != pc)=true:=by simp [N8]
        have C0:=af (show fV t qn i bG 0=false by rw [Gr.o];exact decide_eq_false fun h=>N8 h.2);clear ug N8;go_quiet (fail);go_wp2_with fail;go_ret;exact ⟨bx (abp.o C0.o).symm,below_drewN Aw.o _⟩
      ·have e0:(i0 != (qn:Int))=true:=by simp [ug]
       have C0:=af (show fV t qn i bG 0=false by rw [Gr.o];exact decide_eq_false fun h=>ug h.1);clear ug;go_quiet (fail);go_wp2_with fail;go_ret;exact ⟨bx (abp.o C0.o).symm,below_drewN Aw.o _⟩
   ·have HQ:=af hq;by_cases q0:q < 0
    ·have q0':¬0≤q:=by omega
     clear hq;go_wp2_with fail;go_ret;exact ⟨bx (by rw [HL.o,if_neg (by simp),if_pos (.inl HQ.o)]),Hm.o⟩
    ·have q1:q≥(nP:Int):=by omega
     clear hq;go_wp2_with fail;go_ret;exact ⟨bx (by rw [HL.o,if_neg (by simp),if_pos (.inl HQ.o)]),Hm.o⟩
end
end bL
namespace Ia
open base Go.ChangeShapes Go.WideShapes Go.ChangeAt Go.RowKit place
theorem UU (n:Int) (w:World):Calls Tryz.prog 36 #[ae aa n] w fun e w'=>(∃r,e=.returned (ae aa r)∧(n < 1∧r=10∨4 < n∧r=40∨1≤n∧n≤4∧r=10*n))∧w=w':=by
 by_cases h:n < 1
 ·go_enter Tryz.func36,Tryz.ntmps36
  go_wp2
  go_ret;exact ⟨⟨_,rfl,by omega⟩,rfl⟩
 ·by_cases h':4 < n
  ·have h2:1≤n:=by omega
   go_enter Tryz.func36,Tryz.ntmps36
   go_wp2
   go_ret;exact ⟨⟨_,rfl,by omega⟩,rfl⟩
  ·have h2:1≤n:=by omega
   have h3:n≤4:=by omega
   go_enter Tryz.func36,Tryz.ntmps36
   go_wp2
   go_ret;exact ⟨⟨_,rfl,by omega⟩,rfl⟩
end Ia
namespace store
open Go.RowKit Go.Deep base obj mem sep aW aX record bD aG image bN bL chain bC
section
variable {n:Nat}
theorem getD_take {α:Type} {l:List α} {k:Nat} (h:k < n) (d:α):(l.take n).getD k d=l.getD k d:=by
 simp only [dD,List.getElem?_take,if_pos h]
theorem At.take {w0:World} {B:aI} {js:List aq} {A:Option Addr} {n m:Nat} {K:Nat→Option Addr×Nat} (h:At w0 B js A n K) (hm:m≤n):At w0 B (js.take m) A m K:=by
 intro w l ak;have hI:=h w l ak;refine ⟨by rw [fW,hI.len];omega,fun i hi=>hI.jo i (List.mem_of_mem_take hi),fun k hk=>?_⟩;rw [getD_take hk];exact hI.at_ k (by omega)
theorem Tw (h0:1≤n) (h1:n≤128):sJ (n:Int)=n:=by unfold sJ;rw [if_neg (by omega),if_neg (by omega)];omega
theorem L5 (h0:1≤n) (h1:n≤128):Calm (DS.new n):=⟨DS.ZT n,rfl,DS.KQ h0 h1,DS.Yp n⟩
def oK (a:dF) (t:aY) (AI:Option Addr) (nI cI:Nat):List Value:=[ae aa t.frame,.slice a.AP t.parts.length a.cP,.slice a.AW t.aJ.length a.cW,.slice a.AC t.av.length a.cC,ae aa t.ay,.slice AI nI cI]
theorem IU {t:aY} {js:List aq} (hr:t.right=true) (hp:t.parts.length≤js.length) (hk:∀p:Nat,p < t.parts.length→bX t p (js.getD p aq.none) 0=0):CR (10*t.parts.length) t (js.take t.parts.length)=0:=by
 have hw:m9 (10*t.parts.length) t=0:=by
  unfold m9;rw [if_neg (by rw [hr];simp),if_neg (by omega)]
 have hl:(js.take t.parts.length).length=t.parts.length:=by rw [fW];omega
 rw [CR,if_neg (by rw [hw];simp),if_neg (by rw [hl];simp)];refine FZ _ 0 fun k dy=>?_;rw [hl] at dy;rw [Nat.zero_add,getD_take dy];exact hk k dy
theorem NF {w0 w:World} {l:List aI} {B:aI} (h:St w0 w (B::l)) {js:List aq} {AI:Option Addr} {nI cI:Nat} {K:Nat→Option Addr×Nat} (hg:At w0 B js AI nI K) {a:dF} {t:aY} (ht:∀w' l',St w0 w' (B::l')→ko w' a t) (hc:nI≤cI) (hr:t.right=true) (hp:t.parts.length≤nI) (dR:nI≤10) (hk:∀p:Nat,p < t.parts.length→bX t p (js.getD p aq.none) 0=0) :
  Calls Tryz.prog 20 #[.agg (oK a t AI nI cI).toArray] w fun e w'=>∃(ad:fy) (d X:Nat),e=.returned (.tuple #[.pointer (some ⟨ad.S,0,none⟩),.pointer (some ⟨d,0,none⟩),.pointer (some ⟨X,0,none⟩)])∧∃(m:DS) (xs:List PP) (v:Value) (P:List (Nat×List Value)) (ys:List (dv×RP)),
   St w0 w' (bK X [ae aa t.frame,.slice a.AP t.parts.length a.cP,.slice a.AW t.aJ.length a.cW,.slice a.AC t.av.length a.cC,ae aa t.ay] v P ys::aZ ad t d m xs::B::l)∧sK m xs (sx (js.take t.parts.length))∧xs.length=t.parts.length∧m.ar.length=10*t.parts.length∧ys.map (·.2)=(List.range t.parts.length).map (oJ js)∧∀k (hk:k < ys.length),ys[k].1.K0=K k∧ys[k].1.K1=(none,0):=by
 have hP4:=(aY.r hr).np;have AV:=hg w _ h;have HJL:=af AV.len;obtain ⟨b0,o0,S6,_⟩:=AV.at_ 0 (by have:=(aY.r hr).np;omega);subst S6;have HMK:=af (IU hr (by rw [AV.len];exact hp) hk);have ab4:=af (L5 (n:=10*t.parts.length) (by omega) (by omega));obtain ⟨Z,hZ⟩:=xE w.heap.size;obtain ⟨w1,aF⟩:=xE (w.alloc (.cells (oK a t (some ⟨b0,o0,none⟩) nI cI).toArray 49))
 have h1:St w0 w1 (B::row Z 49 (oK a t (some ⟨b0,o0,none⟩) nI cI)::l):=by
  have h3:=(h.new 49 (oK a t (some ⟨b0,o0,none⟩) nI cI).toArray).swap;rw [←aF,←hZ] at h3;exact h3
 have H1:=af h1;have eR:=af (fun (w':World) (hb:Below w1.heap.size w1 w')=>bN.rG ((ht w1 _ h1).over hb));rw [hr] at eR;have ME:=af (fun (w':World) (hb:Below w1.heap.size w1 w')=>hg w' _ (h1.below hb))
 have mP:=af (fun (w':World) (hb:Below w1.heap.size w1 w') (p:Nat) (uh:p < t.parts.length) (A:Option Addr) (c:Nat) (qC:(js.getD p aq.none).code.length≤9223372036854775807)=>by
  have hh:=BC (A:=A) (c:=c) (bG:=0) ((ht w1 _ h1).over hb) (p:Int) qC;rw [hk p uh] at hh
  exact hh)
 have mN:=af (fun (p:Nat) (uh:p < t.parts.length)=>pS (hk p uh));have QM:=af (fun (w':World) (d:Nat) (l':List aI) (ak:St w0 w' (bE d (DS.new (10*t.parts.length))::B::l'))=>yN (n:=t.parts.length) (cI:=cI) ak (hg.take hp) (ht w' _ ak.drop) (by have:=IU hr (by rw [AV.len];exact hp) hk;simpa [DS.new] using this) (L5 (by omega) (by omega)) (fun j hj=>DS.Yn (by simpa [DS.new] using hj)));have Gh:=af (fun (w':World) (l':List aI) (ak:St w0 w' (B::l'))=>UZ (cI:=cI) ak (hg.take hp) (fun k dy=>by rw [getD_take dy];exact pS (hk k dy)) (by omega) t.frame t.ay a.AP a.AW a.AC t.parts.length a.cP t.aJ.length a.cW t.av.length a.cC);have HR:=af (fun (w':World) (hb:Below w1.heap.size w1 w')=>(h1.pick 1 rfl).row.1.below hb (h1.pick 1 rfl).row.1.lt);have br:=af aF;have HZ:=af hZ;have sP:=af (show t.parts.length=t.parts.length from rfl);simp only [oK,dF.val,aq.val] at eR mP QM Gh HR br H1 ⊢;obtain ⟨nP,pL⟩:=xE t.parts.length;have sP:=af pL;simp only [←pL] at eR mP QM Gh HR br H1 mN HMK ab4 hP4 hp ⊢;have pz:=af (show 2≤nP by omega);generalize ku:t.frame=fr at *;generalize jJ:t.ay=tr at *;generalize y8:t.aJ.length=nW at *;generalize qA:t.av.length=nC at *;have rows:∀w':World,Below w1.heap.size w1 w'→w'.cell? ⟨Z,0,none⟩=some (ae aa fr)∧w'.cell? ⟨Z,1,none⟩=some (.slice a.AP nP a.cP)∧w'.cell? ⟨Z,2,none⟩=some (.slice a.AW nW a.cW)∧w'.cell? ⟨Z,3,none⟩=some (.slice a.AC nC a.cC)∧w'.cell? ⟨Z,4,none⟩=some (ae aa tr)∧w'.cell? ⟨Z,5,none⟩=some (.slice (some ⟨b0,o0,none⟩) nI cI)∧Z < w'.heap.size:=fun w' hb=>⟨(HR.o w' hb).cell 0,(HR.o w' hb).cell 1,(HR.o w' hb).cell 2,(HR.o w' hb).cell 3,(HR.o w' hb).cell 4,(HR.o w' hb).cell 5,(HR.o w' hb).lt⟩
 have dr:=af rows;clear rows aF hZ h1 AV hg ht hk hr h ku jJ y8 qA pL;obtain ⟨z0,z1,z2,z3,z4,z5,lZ⟩:=dr.o w1 (Below.refl _ _);go_enter Tryz.func20,Tryz.ntmps20;go_upto_region 1 with fail;rw [←br.o,←HZ.o];have k1:decide (nI < nP)=false:=by simp;omega
 have k2:decide ((10:Int) < (nI:Int))=false:=by simp;omega
 have k3:decide ((nI:Int) < (nP:Int))=false:=by simp;omega
 go_wp2_with fail;refine (eR.o w1 (Below.refl _ _)).mono ?_;rintro e w2 ⟨rfl,bT⟩;have aO:=af bT;clear z0 z1 z2 z3 z4 z5 lZ;clear bT;obtain ⟨z0,z1,z2,z3,z4,z5,lZ⟩:=dr.o w2 aO.o;go_wp2_with fail;clear z0 z1 z2 z3 z4 z5 lZ k1 k2 k3;go_loopw [35] (fun x wr=>∃p:Nat,p≤nP∧x=ae aa (p:Int)∧Below w1.heap.size w1 wr) (fun x _=>nP-(intOf x).toNat)
 case atStart=>exact ⟨0,by omega,rfl,aO.o⟩
 case round =>
  obtain ⟨p,Lg,rfl,qL⟩:=hrel;have dz:=af qL;clear aO qL;by_cases aH:p < nP
  ·obtain ⟨b,off,hA,cm,c0,c1,c2,c3,c4,c5,c6,c7,j9,FD⟩:=(ME.o wr dz.o).at_ p (by omega);generalize (K p).1=KA,(K p).2=Kc at *;have Bc:=af (mP.o wr.drew dz.o.drew p aH KA Kc (by obtain ⟨_,_,_,_,_,_,_,h8⟩:=mN.o p aH;omega));obtain ⟨rfl,rfl⟩:b0=b∧o0=off:=by injection hA with e;injection e with e1 e2 _;exact ⟨e1,e2⟩
   clear hA;generalize js.getD p aq.none=j at *;obtain ⟨i0,SJ⟩:=xE j.part;obtain ⟨i1,SH⟩:=xE j.version;obtain ⟨i2,BU⟩:=xE j.aV;obtain ⟨i3,SG⟩:=xE j.mem;obtain ⟨i4,SF⟩:=xE j.fuel;obtain ⟨i5,SE⟩:=xE j.aM;obtain ⟨i6,zd⟩:=xE j.ax;obtain ⟨i7,SC⟩:=xE j.code.length;simp only [←SJ,←SH,←BU,←SG,←SF,←SE,←zd,←SC] at Bc c0 c1 c2 c3 c4 c5 c6 c7;clear SJ SH BU SG SF SE zd SC j9 FD;have k0:(0:Int)≤(p:Int):=by omega
   have k1:(p:Int) < (nP:Int):=by omega
   have k2:(p:Int) < (nI:Int):=by omega
   have Cs:=af (fun (w':World) (hb:Below wr.heap.size wr w')=>show w'.cell? ⟨b0,o0+p*8,none⟩=some (ae aa i0)∧w'.cell? ⟨b0,o0+p*8+1,none⟩=some (ae aa i1)∧w'.cell? ⟨b0,o0+p*8+2,none⟩=some (ae aa i2)∧w'.cell? ⟨b0,o0+p*8+3,none⟩=some (ae aa i3)∧w'.cell? ⟨b0,o0+p*8+4,none⟩=some (ae aa i4)∧w'.cell? ⟨b0,o0+p*8+5,none⟩=some (ae aa i5)∧w'.cell? ⟨b0,o0+p*8+6,none⟩=some (ae aa i6)∧w'.cell? ⟨b0,o0+p*8+7,none⟩=some (.slice KA i7 Kc)∧b0 < w'.heap.size from ⟨(hb.cell cm).trans c0,(hb.cell cm).trans c1,(hb.cell cm).trans c2,(hb.cell cm).trans c3,(hb.cell cm).trans c4,(hb.cell cm).trans c5,(hb.cell cm).trans c6,(hb.cell cm).trans c7,Nat.lt_of_lt_of_le cm hb.size⟩);clear c0 c1 c2 c3 c4 c5 c6 c7 cm;go_upto_region 7 with fail;refine eb (fun w'=>(w'.cell? ⟨Z,0,none⟩=some (ae aa fr)∧w'.cell? ⟨Z,1,none⟩=some (.slice a.AP nP a.cP)∧w'.cell? ⟨Z,2,none⟩=some (.slice a.AW nW a.cW)∧w'.cell? ⟨Z,3,none⟩=some (.slice a.AC nC a.cC)∧w'.cell? ⟨Z,4,none⟩=some (ae aa tr)∧w'.cell? ⟨Z,5,none⟩=some (.slice (some ⟨b0,o0,none⟩) nI cI)∧Z < w'.heap.size)∧(w'.cell? ⟨b0,o0+p*8,none⟩=some (ae aa i0)∧w'.cell? ⟨b0,o0+p*8+1,none⟩=some (ae aa i1)∧w'.cell? ⟨b0,o0+p*8+2,none⟩=some (ae aa i2)∧w'.cell? ⟨b0,o0+p*8+3,none⟩=some (ae aa i3)∧w'.cell? ⟨b0,o0+p*8+4,none⟩=some (ae aa i4)∧w'.cell? ⟨b0,o0+p*8+5,none⟩=some (ae aa i5)∧w'.cell? ⟨b0,o0+p*8+6,none⟩=some (ae aa i6)∧w'.cell? ⟨b0,o0+p*8+7,none⟩=some (.slice KA i7 Kc)∧b0 < w'.heap.size)) (by kernel_rfl) (⟨dr.o wr.drew dz.o.drew,Cs.o wr.drew (Below.refl wr.heap.size wr).drew⟩) (fun bJ=>?_);(refine ah 0 ?_;(try simp only [ai]));(refine ah 1 ?_;(try simp only [ai]));(refine ah 2 ?_;(try simp only [ai]));(refine ah 3 ?_;(try simp only [ai]));(refine ah 4 ?_;(try simp only [ai]));(refine ah 5 ?_;(try simp only [ai]));(refine ah 6 ?_;(try simp only [ai]));(refine ah 7 ?_;(try simp only [ai]));(refine dQ 8 ?_;(try simp only [xG]);go_simp);refine Bc.o.mono ?_;rintro e w3 ⟨rfl,hb⟩;have bM:=af (dz.o.drew.trans (hb.mono dz.o.drew.size));have WO:=af ((Below.refl wr.heap.size wr).drew.trans hb);clear hb;dsimp only;(refine cu (⟨dr.o w3 bM.o,Cs.o w3 WO.o⟩) (fun bJ=>?_);(try simp only [ai]));(refine ah 9 ?_;(try simp only [ai]));refine dw (by kernel_rfl) ?_;clear bJ;go_wp2_with fail;go_roundw;case rel=>exact ⟨p+1,by omega,by go_num,bM.o⟩
   case measure=>simp [intOf];omega
  ·have k1:¬(p:Int) < (nP:Int):=by omega
   obtain ⟨z0,z1,z2,z3,z4,z5,lZ⟩:=dr.o wr dz.o;go_wp2_with fail;refine (Ia.UU (nP:Int) wr).mono ?_;rintro e w3 ⟨⟨r,rfl,hr⟩,rfl⟩;obtain rfl:r=10*(nP:Int):=by omega
   clear hr;go_wp2_with fail;refine (YZ (H1.o.below dz.o) (10*(nP:Int))).mono ?_;rintro e w4 ⟨d,rfl,ak⟩;rw [show (10*(nP:Int))=((10*nP:Nat):Int) by omega,Tw (by omega) (by omega)] at ak;have bH:=af ak;have hz:=(ak.pick 2 rfl).row.1;clear z0 z1 z2 z3 z4 z5 lZ ak;have Mn:=af hz.drew;have z0:=Mn.o.c0;have z1:=Mn.o.c1;have z2:=Mn.o.c2;have z3:=Mn.o.c3;have z4:=Mn.o.c4;have z5:=Mn.o.c5;have lZ:Z < w4.drew.heap.size:=Mn.o.lt;have hcp:nP≤cI:=by omega
   have uQ:¬cI=0:=by omega
   have ado:=af (QM.o w4.drew d _ bH.o.drew);clear hz;go_upto_region 11 with fail;refine dN ?_;(refine bk [3,4,5] ?_;simp only [pick,xG];(iterate 3 still_step);refine wpStill_nil ?_);(try simp only [ai]);(refine gh 6 (.slice (some ⟨b0,o0,none⟩) nP cI) (by kernel_rfl) (fun _ _ _ _ _ h=>h) (by rfl) (by intro w2;(try simp only [xG]);go_simp) ?_;(try simp only [ai]));(refine bk [0,1,2] ?_;simp only [pick,xG];(iterate 3 still_step);refine wpStill_nil ?_);(try simp only [ai]);(refine aK 7 ?_;(try simp only [xG]);go_simp);refine ado.o.mono ?_;rintro e w5 ⟨ad,rfl,m,xs,h5,Dx,jy,FL⟩;have H5:=af h5;have ye:=af Dx;have uv:=af jy;have yh:=af (show m.ar.length=10*nP by rw [FL];simp [DS.new]);clear h5 Dx jy FL z0 z1 z2 z3 z4 z5 lZ;dsimp only;(try simp only [ai]);(refine bk [8] ?_;simp only [pick,xG];(iterate 1 still_step);refine wpStill_nil ?_);(try simp only [ai]);(refine gh 9 (.pointer (some ⟨ad.S,0,none⟩)) (by kernel_rfl) (fun _ _ _ _ _ h=>h) (by rfl) (by intro w2;(try simp only [xG]);go_simp) ?_;(try simp only [ai]));(refine gh 10 (ae aa 0) (by kernel_rfl) (fun _ _ _ _ _ h=>h) (by rfl) (by intro w2;(try simp only [xG]);go_simp) ?_;(try simp only [ai]));(refine bk [11,12] ?_;simp only [pick,xG];(iterate 2 still_step);refine wpStill_nil ?_);refine cw ?_;have hz:=(H5.o.pick 2 rfl).row.1;have Mm:=af hz.drew;clear hz;have z0:=Mm.o.c0;have z1:=Mm.o.c1;have z2:=Mm.o.c2;have z3:=Mm.o.c3;have z4:=Mm.o.c4;have z5:=Mm.o.c5;have lZ:Z < w5.drew.heap.size:=Mm.o.lt;have HMR:=af (Gh.o w5.drew _ (H5.o.drew.pick 1 rfl));go_upto_region 14 with fail;refine dN ?_;(refine bk [4,5,6] ?_;simp only [pick,xG];(iterate 3 still_step);refine wpStill_nil ?_);(try simp only [ai]);(refine gh 7 (.slice (some ⟨b0,o0,none⟩) nP cI) (by kernel_rfl) (fun _ _ _ _ _ h=>h) (by rfl) (by intro w2;(try simp only [xG]);go_simp) ?_;(try simp only [ai]));(refine bk [0,1,2,3] ?_;simp only [pick,xG];(iterate 4 still_step);refine wpStill_nil ?_);(try simp only [ai]);(refine aK 8 ?_;(try simp only [xG]);go_simp);refine HMR.o.mono ?_;rintro e w7 ⟨X,rfl,v,P,ys,h7,sA,hK⟩;have H7:=af h7;have DN:=af sA;have DU:=af hK;clear h7 sA hK z0 z1 z2 z3 z4 z5 lZ;dsimp only;(try simp only [ai]);(refine bk [9,10,11] ?_;simp only [pick,xG];(iterate 3 still_step);refine wpStill_nil ?_);refine cw ?_;go_wp2_with fail
   go_ret3
   refine ⟨ad,d,X,rfl,m,xs,v,P,ys,((((H7.o.pick 3 rfl).drop).pick 2 rfl).swap),ye.o,uv.o,yh.o,?_,DU.o⟩;rw [DN.o];refine List.map_congr_left fun k hk=>?_;simp only [oJ,getD_take (List.mem_range.1 hk)]
end
section
variable {m:DS} {xs:List PP} {d:Nat} {ad:fy} {t:aY}
section
variable {w0 w : World} {l : List aI}
def dB (m:DS) (xs:List PP) (p:Nat) (r:Rec):Int×DS×List PP :=
 ((qk m p (xs.getD p default).log r).1,(qk m p (xs.getD p default).log r).2.1,xs.set p ⟨(qk m p (xs.getD p default).log r).2.2,(xs.getD p default).s0,(xs.getD p default).s1⟩)
theorem Bw (h:St w0 w (aZ ad t d m xs::l)) (ok:iJ t m xs) {p:Nat} (hp:p < xs.length) (r:Rec) :
  Calls Tryz.prog 46 #[.pointer (some ⟨(ad.al.getD p default).L,0,none⟩),r.val] w fun e w'=>e=.returned (ae aa (dB m xs p r).1)∧St w0 w' (aZ ad t d (dB m xs p r).2.1 (dB m xs p r).2.2::l) :=
 (XZ (vK h hp) (ok.at_ hp).held (ok.at_ hp).seq (by have:=ok.pR;omega) r).mono fun e w' ⟨h1,h2⟩=>⟨h1,Yx h2 hp⟩
theorem Nb (h:m.flush.1=0):m.flush.2.waits=[]:=by
 unfold DS.flush at h ⊢;split
 ·rfl
 ·rename_i hg;rw [if_neg hg] at h;simp at h
theorem Q0 {i:Int} {bs:List Int} (h:(wf m i bs).1=0):(wf m i bs).2.waits=[]:=by
 unfold wf at h ⊢;split
 ·rename_i h0;rw [if_pos h0] at h;exact Nb h
 ·rename_i h0;rw [if_neg h0] at h;exact absurd h h0
theorem Ym {p:Int} {now r:Rec} (h:(bq p now r).right=true):(r.au=0∨r.au=1)∧(r.aj=0∨r.aj=1)∧0≤now.seq+1∧0≤r.left∧r.left≤7:=by
 have:=eu.iZ h;simp only [bq] at this;omega
theorem UG (ok:iJ t m xs) {p:Nat} (hp:p < xs.length) {r:Rec} (h:(dB m xs p r).1=0):iJ t (dB m xs p r).2.1 (dB m xs p r).2.2:=by
 have ez:=ok.at_ hp;simp only [dB] at h ⊢;unfold qk at h ⊢;split at h
 ·simp at h
 ·split at h
  ·rename_i h1 h2
   split at h
   ·rename_i h3
    rw [if_neg h1,if_pos h2,if_pos h3];dsimp only;refine ⟨ok.right,by rw [List.length_set];exact ok.len,ok.eQ.wf _ (Rec.pT _),ok.bu.wf _ _,by rw [List.length_set,iC];exact ok.room,by rw [Q0 h3];simp,fun x hx=>?_⟩;rcases List.mem_or_eq_of_mem_set hx with hx|rfl
    ·exact ok.ok x hx
    ·obtain ⟨a1,a2,a3,a4⟩:=Ym h2;exact ⟨a1,a2,by have:=ez.held;dsimp only;omega,a3,a4,ez.r0,ez.r1⟩
   ·rename_i h3
    exact absurd h h3
  ·simp at h
def Rec.oZ (r:Rec):Rec:=⟨r.part,r.seq,r.au,r.au,0,0⟩
def fQ (m:DS) (xs:List PP) (q:Int):Int×DS×List PP :=
 if q < 0∨(xs.length:Int)≤q then (3,m,xs)
 else if (xs.getD q.toNat default).ay=false then (16,m,xs)
 else dB m xs q.toNat (Rec.oZ (xs.getD q.toNat default).log.now)
theorem Kv (h:St w0 w (aZ ad t d m xs::l)) (ok:iJ t m xs) (q:Int) :
  Calls Tryz.prog 18 #[.pointer (some ⟨ad.S,0,none⟩),ae aa q] w fun e w'=>e=.returned (ae aa (fQ m xs q).1)∧St w0 w' (aZ ad t d (fQ m xs q).2.1 (fQ m xs q).2.2::l):=by
 obtain ⟨s1,s2,s3⟩:=nh h;by_cases hq:q < 0∨(xs.length:Int)≤q
 ·have HP:=af (vD s1 q hq);have H:=af h;rw [fQ,if_pos hq];clear s1 s2 s3 hq h ok;go_enter Tryz.func18,Tryz.ntmps18;go_wp2_with fail;refine HP.o.mono ?_;rintro e w' ⟨rfl,rfl⟩;go_wp2_with fail;go_ret;exact ⟨rfl,H.o⟩
 ·obtain ⟨p,rfl⟩:∃p:Nat,q=p:=⟨q.toNat,by omega⟩
  have hp:p < xs.length:=by omega
  have HD:=af (show fQ m xs p=if (xs.getD p default).ay=false then (16,m,xs) else dB m xs p (Rec.oZ (xs.getD p default).log.now) by rw [fQ,if_neg hq,dC]);have HP:=af (vE s1 s2 s3 p hp);have HT:=af (Br (iX h hp));have HO:=af (fun (w':World) (hb:Below w.heap.size w w')=>show w'.cell? ⟨(ad.al.getD p default).O,0,none⟩=some (.pointer (some ⟨(ad.al.getD p default).L,0,none⟩))∧(ad.al.getD p default).O < w'.heap.size from ⟨(qj (h.below hb) hp).cell 0,(qj (h.below hb) hp).lt⟩);have HL:=af (fun (w':World) (hb:Below w.heap.size w w')=>nN (vK (h.below hb) hp));have HS:=af (fun (w':World) (hb:Below w.heap.size w w')=>Bw (h.below hb) ok hp (Rec.oZ (xs.getD p default).log.now));have H:=af h;obtain ⟨sc,wJ⟩:=xE (fQ m xs p);rw [←wJ] at HD ⊢;generalize dB m xs p (Rec.oZ (xs.getD p default).log.now)=ss at *;obtain ⟨⟨rp,rs,ra,rc,rl,rb⟩,hr⟩:∃r,r=(xs.getD p default).log.now:=⟨_,rfl⟩
  rw [←hr] at HL HS;generalize (xs.getD p default).ay=tr at *;generalize (ad.al.getD p default).O=O,(ad.al.getD p default).L=L at *;simp only [Rec.oZ,Rec.val,Rec.cells] at HL HS;clear s1 s2 s3 hq h ok hr wJ;cases tr with
  | false =>
    have jV:=af (show sc=(16,m,xs) from HD.o);go_enter Tryz.func18,Tryz.ntmps18;go_wp2_with fail;refine HP.o.mono ?_;rintro e w' ⟨rfl,rfl⟩;go_wp2_with fail;refine HT.o.mono ?_;rintro e w2 ⟨rfl,hb⟩;have HB:=af hb;clear hb;go_wp2_with fail;go_ret;rw [jV.o];exact ⟨rfl,H.o.below HB.o⟩
  | true =>
    have jV:=af (show sc=ss from HD.o);go_enter Tryz.func18,Tryz.ntmps18;go_wp2_with fail;refine HP.o.mono ?_;rintro e w' ⟨rfl,rfl⟩;go_wp2_with fail;refine HT.o.mono ?_;rintro e w2 ⟨rfl,hb⟩;have HB:=af hb;obtain ⟨o0,o1⟩:=HO.o w2 hb;clear hb;go_wp2_with fail;refine (HL.o w2 HB.o).mono ?_;rintro e w3 ⟨rfl,hb⟩;have bM:=af (HB.o.trans (hb.mono HB.o.size));clear hb o0 o1;obtain ⟨Q,hQ⟩:=xE w3.heap.size;go_upto_region 8 with fail;rw [←hQ];obtain ⟨w4,dW⟩:=xE (w3.alloc (.cells #[ae aa rp,ae aa rs,ae aa ra,ae aa ra,ae aa 0,ae aa 0] 35))
    have qz:St w3 w4 [row Q 35 [ae aa rp,ae aa rs,ae aa ra,ae aa ra,ae aa 0,ae aa 0]]:=by
     have h:=(St.nil w3).new 35 #[ae aa rp,ae aa rs,ae aa ra,ae aa ra,ae aa 0,ae aa 0];rw [←hQ,←dW] at h;exact h
    have fH:=af qz;rw [←dW];have Uc:=af (bM.o.trans (qz.aE.mono bM.o.size))
    have yd:=af (fun (w':World) (hb:Below w4.heap.size w4 w')=>show (fun w'=>w'.cell? ⟨O,0,none⟩=some (.pointer (some ⟨L,0,none⟩))∧O < w'.heap.size∧w'.cell? ⟨Q,0,none⟩=some (ae aa rp)∧w'.cell? ⟨Q,1,none⟩=some (ae aa rs)∧w'.cell? ⟨Q,2,none⟩=some (ae aa ra)∧w'.cell? ⟨Q,3,none⟩=some (ae aa ra)∧w'.cell? ⟨Q,4,none⟩=some (ae aa 0)∧w'.cell? ⟨Q,5,none⟩=some (ae aa 0)∧Q < w'.heap.size) w' from
     ⟨(HO.o w' (Uc.o.trans (hb.mono Uc.o.size))).1,(HO.o w' (Uc.o.trans (hb.mono Uc.o.size))).2,(fH.o.below hb).row.1.cell 0,(fH.o.below hb).row.1.cell 1,(fH.o.below hb).row.1.cell 2,(fH.o.below hb).row.1.cell 3,(fH.o.below hb).row.1.cell 4,(fH.o.below hb).row.1.cell 5,(fH.o.below hb).row.1.lt⟩)
    clear qz dW hQ;have iy:=af (fun hb=>HS.o w4.drew hb);obtain ⟨o0,o1,q0,q1,q2,q3,q4,q5,q6⟩:=yd.o w4 (Below.refl _ _);refine dN ?_;(refine bk [0,1,2,3,4] ?_;simp only [pick,xG];(iterate 5 still_step);refine wpStill_nil ?_);(try simp only [ai]);(refine aK 5 ?_;(try simp only [xG]);go_simp);refine (iy.o Uc.o.drew).mono ?_;rintro e w5 ⟨rfl,ak⟩;have H5:=af ak;clear ak;dsimp only;(try simp only [ai]);(refine bk [6] ?_;simp only [pick,xG];(iterate 1 still_step);refine wpStill_nil ?_);refine cw ?_;go_wp2_with fail;go_ret;rw [jV.o];exact ⟨rfl,H5.o⟩
def tY (t:aY) (m:DS) (xs:List PP) (q:Int):aq×Int:=if q < 0∨(xs.length:Int)≤q then (aq.none,3) else dq t m q.toNat (xs.getD q.toNat default) (xs.getD q.toNat default).log.now.au
def aN (r:Rec):Rec:=if r.left=0 then ⟨r.part,r.seq,r.aj,r.aj,r.left,2 ^ r.au.toNat⟩ else ⟨r.part,r.seq,r.au,r.aj,r.left-1,r.bad⟩
def iY (t:aY) (m:DS) (xs:List PP) (q:Int):(aq×Int)×DS×List PP :=
 if q < 0∨(xs.length:Int)≤q then ((aq.none,3),m,xs)
 else if (xs.getD q.toNat default).ay=false then (dq t m q.toNat (xs.getD q.toNat default) (xs.getD q.toNat default).log.now.au,m,xs)
 else if (dB m xs q.toNat (aN (xs.getD q.toNat default).log.now)).1≠0 then ((aq.none,(dB m xs q.toNat (aN (xs.getD q.toNat default).log.now)).1),(dB m xs q.toNat (aN (xs.getD q.toNat default).log.now)).2)
 else (dq t (dB m xs q.toNat (aN (xs.getD q.toNat default).log.now)).2.1 q.toNat ((dB m xs q.toNat (aN (xs.getD q.toNat default).log.now)).2.2.getD q.toNat default) (aN (xs.getD q.toNat default).log.now).au,(dB m xs q.toNat (aN (xs.getD q.toNat default).log.now)).2)
theorem Sh (h:St w0 w (aZ ad t d m xs::l)) (ok:iJ t m xs) (q:Int) :
  Calls Tryz.prog 11 #[.pointer (some ⟨ad.S,0,none⟩),ae aa q] w fun e w'=>∃(i:aq) (A:Option Addr) (c:Nat) (er:Int),e=.returned (.tuple #[i.val A c,ae aa er])∧(i,er)=tY t m xs q∧St w0 w' (own 5 1 (.slice A i.code.length c) i.code.length (aP i.code)::aZ ad t d m xs::l):=by
 obtain ⟨R,hR⟩:=xE w.heap.size;obtain ⟨w1,aF⟩:=xE (w.alloc (.cells gA 26))
 have H1:=af (show St w0 w1 (row R 26 eo::aZ ad t d m xs::l) by
  have h:=h.new 26 gA;rw [←hR,←aF] at h
  exact h)
 have br:=af aF;have HR:=af hR;obtain ⟨s1,s2,s3⟩:=nh H1.o.swap;clear aF h hR;by_cases hq:q < 0∨(xs.length:Int)≤q
 ·have HP:=af (vD s1 q hq);have HD:=af (show tY t m xs q=(aq.none,3) from if_pos hq);clear s1 s2 s3 hq ok;go_enter Tryz.func11,Tryz.ntmps11;go_upto_region 1 with fail;rw [←br.o,←HR.o];go_wp2_with fail;refine HP.o.mono ?_;rintro e w' ⟨rfl,rfl⟩;go_wp2_with (refine aB rfl 26 (.tmp 4) (.tmp 16) rfl R 0 gA rfl rfl H1.o.row.1 (by kernel_rfl) (by simp) (by simp [Value.oneCell']) eo (by simp) ?_);have h:=H1.o.setRow eo;refine bodyPost_ret (aL rfl _ _ R _ _ _ _ _ rfl rfl h.row.1 Tryz.underlying26 rfl (by kernel_rfl)) rfl ?_;exact ⟨aq.none,none,0,_,rfl,HD.o.symm,h.drop.cX (Below.refl _ _) (jk _ _)⟩
 ·obtain ⟨p,rfl⟩:∃p:Nat,q=p:=⟨q.toNat,by omega⟩
  have hp:p < xs.length:=by omega
  have ez:=ok.at_ hp;have HD:=af (show tY t m xs p=dq t m p (xs.getD p default) (xs.getD p default).log.now.au by rw [tY,if_neg hq,dC]);have HP:=af (vE s1 s2 s3 p hp);have HL:=af (nN (vK H1.o.swap hp));have HH:=af (fun (w':World) (hb:Below w1.heap.size w1 w')=>ui ((H1.o.below hb).swap) ok hp ez.act);have ho:=qj H1.o.swap hp;have o0:=ho.c0;have o1:=ho.lt;obtain ⟨hl,II⟩:=xE (dq t m p (xs.getD p default) (xs.getD p default).log.now.au);rw [←II] at HD HH;have r2:=JX (xs.getD p default).log.now;generalize (xs.getD p default).log.now=r at *;generalize r.val=rv at *;generalize r.au=ra at *;generalize (ad.al.getD p default).O=O,(ad.al.getD p default).L=L at *;clear s1 s2 s3 hq ho ok ez II;go_enter Tryz.func11,Tryz.ntmps11;go_upto_region 1 with fail;rw [←br.o,←HR.o];go_wp2_with fail;refine HP.o.mono ?_;rintro e w' ⟨rfl,rfl⟩;go_wp2_with fail;refine HL.o.mono ?_;rintro e w2 ⟨rfl,hb⟩;have aO:=af hb;clear hb o0 o1;go_wp2_with fail;refine (HH.o w2 aO.o).mono ?_;rintro e w9 ⟨j,A3,c3,e9,rfl,hj,ak⟩;have H9:=af (ak.pick 2 rfl);have Cr:=af hj;clear ak hj;simp only [aq.val];go_wp2_with (refine aB rfl 26 (.tmp 4) (.tmp 27) rfl R 0 #[ae aa j.part,ae aa j.version,ae aa j.aV,ae aa j.mem,ae aa j.fuel,ae aa j.aM,ae aa j.ax,.slice A3 j.code.length c3] rfl rfl H9.o.row.1 (by kernel_rfl) (by simp) (by simp [Value.oneCell']) [ae aa j.part,ae aa j.version,ae aa j.aV,ae aa j.mem,ae aa j.fuel,ae aa j.aM,ae aa j.ax,.slice A3 j.code.length c3] (by simp) ?_);have h:=H9.o.setRow [ae aa j.part,ae aa j.version,ae aa j.aV,ae aa j.mem,ae aa j.fuel,ae aa j.aM,ae aa j.ax,.slice A3 j.code.length c3];refine bodyPost_ret (aL rfl _ _ R _ _ _ _ _ rfl rfl h.row.1 Tryz.underlying26 rfl (by kernel_rfl)) rfl ?_;exact ⟨j,A3,c3,e9,rfl,by rw [HD.o];exact Cr.o,h.drop⟩
end
end
end store
end Go.Proofs.YtdldkkoplgkloaaGreat
