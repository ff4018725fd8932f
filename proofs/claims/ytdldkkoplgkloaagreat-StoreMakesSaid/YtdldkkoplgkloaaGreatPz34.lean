/-
  PROVED HERE: lemmas and contracts that the law's proof leans on (texts put together: RefCheck, PlaceSays).
  CONDITIONS: each names its own.
-/
import Derived.Test.YtdldkkoplgkloaaGreatPz16
import Derived.Test.YtdldkkoplgkloaaGreatPz18
import Derived.Test.YtdldkkoplgkloaaGreatPz24
import Derived.Test.YtdldkkoplgkloaaGreatPz30
import Derived.Test.YtdldkkoplgkloaaGreatPz33
namespace Go.Proofs.YtdldkkoplgkloaaGreat
set_option linter.unusedVariables false
set_option linter.unusedSimpArgs false
set_option maxRecDepth 100000
set_option maxHeartbeats 32000000
namespace compat


open Go.RowKit Go.Deep base obj mem sep plan num bytes crc chain image tab
section
variable {w : World} {a : TabA} {t : Tab} {p : Nat} {i : Img} {A : Option Addr} {c : Nat} {ver : Int}
open Go.Proofs.YtdldkkoplgkloaaGreat.bits (bitb rhas_in InI64)
theorem sub4_bits (s m:Nat) (hs:s < 16) (hm:m < 16):sub4 (s:Int) m=(List.range 4).all fun k=>!bitb s k||bitb m k:=by
 have:∀s:Nat,s < 16→∀m:Nat,m < 16→sub4 (s:Int) m=(List.range 4).all fun k=>!bitb s k||bitb m k:=by decide +kernel
 exact this s hs m hm
theorem bitb_add (n:Nat) (hn:n < 4) (s:Nat) (hs:s < 2 ^ n) (b:Bool) (k:Nat) (hk:k < 4):bitb ((s+(if b then 2 ^ n else 0):Nat):Int) k=(bitb s k||(k==n&&b)):=by
 have:∀n:Nat,n < 4→∀s:Nat,s < 2 ^ n→∀b:Bool,∀k:Nat,k < 4→bitb ((s+(if b then 2 ^ n else 0):Nat):Int) k=(bitb s k||(k==n&&b)):=by decide +kernel
 exact this n hn s hs b k hk
theorem bitb_cset (f:T3→Int) (q:Int) (l:List T3):∀n,n≤4→∀k,k < 4→bitb (cset f q l n:Nat) k=decide (k < n∧f (l.getD k ⟨0,0,0⟩)=q)
 | 0,_,k,hk=>by
   have:∀k:Nat,k < 4→bitb ((0:Nat):Int) k=false:=by decide +kernel
   rw [cset,this k hk];simp
 | n+1,hn,k,hk=>by
   have h:=bitb_add n (by omega) (cset f q l n) (cset_lt f q l n) (decide (f (l.getD n ⟨0,0,0⟩)=q)) k hk
   rw [bitb_cset f q l n (by omega) k hk] at h
   simp only [decide_eq_true_eq] at h
   rw [cset,h,Bool.eq_iff_iff]
   simp only [Bool.or_eq_true,Bool.and_eq_true,decide_eq_true_eq,beq_iff_eq]
   constructor
   ·rintro (⟨h1,h2⟩|⟨rfl,h2⟩)
    ·exact ⟨by omega,h2⟩
    ·exact ⟨by omega,h2⟩
   ·rintro ⟨h1,h2⟩
    by_cases hkn:k=n
    ·subst hkn;exact .inr ⟨rfl,h2⟩
    ·exact .inl ⟨by omega,h2⟩
def portOk (f:T3→Int) (s q:Int) (l:List T3) (k:Nat):Bool:=!(bitb s k&&(decide (l.length≤k)||decide (f (l.getD k ⟨0,0,0⟩)≠q)))
theorem sub4_ports (f:T3→Int) (s:Int) (h0:0≤s) (h1:s≤15) (q:Int) (l:List T3) (hl:l.length≤4):sub4 s (cset f q l l.length)=true ↔ ∀k,k < 4→portOk f s q l k=true:=by
 obtain ⟨n,rfl⟩:∃n:Nat,s=n:=⟨s.toNat,by omega⟩
 have hlt:=cset_lt f q l l.length
 have:2 ^ l.length≤2 ^ 4:=Nat.pow_le_pow_right (by omega) hl
 rw [sub4_bits n _ (by omega) (by omega),List.all_eq_true]
 simp only [List.mem_range]
 refine forall_congr' fun k=>forall_congr' fun hk=>?_
 rw [bitb_cset f q l l.length hl k hk]
 simp only [portOk]
 cases bitb (n:Int) k<;>simp
theorem chk2_ports (hi:i.right) (hr:t.right=true):chk t p i ver 2=true ↔ ∀k,k < 4→(portOk T3.a i.sends p t.chans k&&portOk T3.b i.receives p t.chans k)=true:=by
 have hn4:=(Tab.r hr).nc
 obtain ⟨_,_,_,_,_,⟨f0,f1⟩,⟨g0,g1⟩,_⟩:=hi
 rw [chk,Bool.and_eq_true,sub4_ports T3.a _ f0 f1 _ _ (by omega),sub4_ports T3.b _ g0 g1 _ _ (by omega)]
 constructor
 ·rintro ⟨h1,h2⟩ k hk
  rw [h1 k hk,h2 k hk];rfl
 ·intro h
  exact ⟨fun k hk=>by have:=h k hk;simp at this;exact this.1,fun k hk=>by have:=h k hk;simp at this;exact this.2⟩

theorem rcheck_at (h:TabW w a t) (q:Int) (hc:i.code.length≤9223372036854775807):Calls Tryz.prog 37 #[a.val t,.int .i64 q,i.val A c,.int .i64 ver] w fun e w'=>e=.returned (.int .i64 (checkL t q i ver))∧Below w.heap.size w w':=by
 have HRT:=Lib.hid (fun w' (hb:Below w.heap.size w w')=>tab.rright_at (h.over hb))
 have HIR:=Lib.hid (fun w'=>refImage.rright_at w' i A c hc)
 have HPS:=Lib.hid (fun w' (hb:Below w.heap.size w w')=>(h.over hb).ps)
 have HCS:=Lib.hid (fun w' (hb:Below w.heap.size w w')=>(h.over hb).cs)
 have HN4:=Lib.hid (fun (hr:t.right=true)=>(Tab.r hr).nc)
 obtain ⟨Z,hZ⟩:∃Z,Z=w.heap.size:=⟨_,rfl⟩
 obtain ⟨w1,hw1⟩:∃w1,w1=(w.alloc (.cells #[.int .i64 t.frame,.slice a.AP t.parts.length a.cP,.slice a.AW t.wins.length a.cW,.slice a.AC t.chans.length a.cC,.int .i64 t.trial] 46)).alloc (.cells #[.int .i64 i.part,.int .i64 i.version,.int .i64 i.hard,.int .i64 i.mem,.int .i64 i.fuel,.int .i64 i.sends,.int .i64 i.receives,.slice A i.code.length c] 26):=⟨_,rfl⟩
 have H1:=Lib.hid (show St w w1 [row Z 46 [.int .i64 t.frame,.slice a.AP t.parts.length a.cP,.slice a.AW t.wins.length a.cW,.slice a.AC t.chans.length a.cC,.int .i64 t.trial],row (Z+1) 26 [.int .i64 i.part,.int .i64 i.version,.int .i64 i.hard,.int .i64 i.mem,.int .i64 i.fuel,.int .i64 i.sends,.int .i64 i.receives,.slice A i.code.length c]] by
  have h:=((St.nil w).new 46 #[.int .i64 t.frame,.slice a.AP t.parts.length a.cP,.slice a.AW t.wins.length a.cW,.slice a.AC t.chans.length a.cC,.int .i64 t.trial]).new 26 #[.int .i64 i.part,.int .i64 i.version,.int .i64 i.hard,.int .i64 i.mem,.int .i64 i.fuel,.int .i64 i.sends,.int .i64 i.receives,.slice A i.code.length c]
  rw [show (w.alloc (.cells #[.int .i64 t.frame,.slice a.AP t.parts.length a.cP,.slice a.AW t.wins.length a.cW,.slice a.AC t.chans.length a.cC,.int .i64 t.trial] 46)).heap.size=Z+1 by rw [hZ];exact Array.size_push _,←hZ,←hw1] at h
  exact h.swap)
 have HW1:=Lib.hid hw1;have HZ:=Lib.hid hZ
 have HL:=Lib.hid (show checkL t q i ver=if t.right=false then 9 else if ¬(0≤q∧q < t.parts.length)∨¬i.right then 3 else chkTo t q.toNat i ver 4 from rfl)
 obtain ⟨L,hL⟩:∃L,L=checkL t q i ver:=⟨_,rfl⟩
 rw [←hL] at HL ⊢
 simp only [TabA.val,Img.val,askCells] at HW1 HRT HIR ⊢
 obtain ⟨nP,hnP⟩:∃v,v=t.parts.length:=⟨_,rfl⟩
 obtain ⟨nC,hnC⟩:∃v,v=t.chans.length:=⟨_,rfl⟩
 obtain ⟨rr,hrr⟩:∃v,v=t.right:=⟨_,rfl⟩
 obtain ⟨ir,hir⟩:∃v:Bool,v=decide i.right:=⟨_,rfl⟩
 have HTO:=Lib.hid (fun (j:Nat) (hj:j < 4) (h:∀k,k < j→chk t q.toNat i ver k=true) (hn:chk t q.toNat i ver j=false)=>show chkTo t q.toNat i ver 4=chkE j from chkTo_at hj h hn 4 (by omega) (by omega))
 have HALL:=Lib.hid (fun (h:∀k,k < 4→chk t q.toNat i ver k=true)=>show chkTo t q.toNat i ver 4=0 from chkTo_all (by omega) (fun j _ hj=>h j hj))
 have HIRR:=Lib.hid (show i.right ↔ ir=true by rw [hir];simp)
 have HRR:=Lib.hid hrr
 have HPO:=Lib.hid (fun (hi:i.right) (hr:t.right=true)=>chk2_ports (t:=t) (p:=q.toNat) (i:=i) (ver:=ver) hi hr)
 have HC0:=Lib.hid (show chk t q.toNat i ver 0=decide (i.part=(q.toNat:Int)∧i.hard=(partAt t q.toNat).c) from rfl)
 have HC1:=Lib.hid (show chk t q.toNat i ver 1=decide (i.mem≤(partAt t q.toNat).a∧i.fuel≤(partAt t q.toNat).b) from rfl)
 have HC3:=Lib.hid (show chk t q.toNat i ver 3=decide (ver < i.version) from rfl)
 have HP1:=Lib.hid (fun (k:Nat)=>show portOk T3.a i.sends (q.toNat:Int) t.chans k=!(bitb i.sends k&&(decide (t.chans.length≤k)||decide ((t.chans.getD k ⟨0,0,0⟩).a≠(q.toNat:Int)))) from rfl)
 have HP2:=Lib.hid (fun (k:Nat)=>show portOk T3.b i.receives (q.toNat:Int) t.chans k=!(bitb i.receives k&&(decide (t.chans.length≤k)||decide ((t.chans.getD k ⟨0,0,0⟩).b≠(q.toNat:Int)))) from rfl)
 have HIN:=Lib.hid (show i.right→InI64 i.sends∧InI64 i.receives from fun ⟨_,_,_,_,_,f,g,_⟩=>by constructor<;>constructor<;>omega)
 have HNP:=Lib.hid hnP;have HNC:=Lib.hid hnC
 rw [←hrr] at HRT HL
 rw [←hir] at HIR
 simp only [←hnP,←hnC] at HRT HIR HL H1 HW1 HPS HCS HP1 HP2 ⊢
 have HPT:=Lib.hid (show partAt t q.toNat=t.parts.getD q.toNat ⟨0,0,0⟩ from rfl)
 generalize t.wins.length=nW,t.frame=fr,t.trial=tr,i.part=i0,i.version=i1,i.hard=i2,i.mem=i3,i.fuel=i4,i.sends=i5,i.receives=i6,i.code.length=i7,chkTo t q.toNat i ver 4=L4 at *
 clear hw1 hZ h hL hnP hrr hir hnC
 have HRW:=Lib.hid (fun (w':World) (hb:Below w1.heap.size w1 w')=>H1.out.row.1.below hb H1.out.row.1.lt)
 have HRI:=Lib.hid (fun (w':World) (hb:Below w1.heap.size w1 w')=>H1.out.swap.row.1.below hb H1.out.swap.row.1.lt)
 have rows:∀w',Below w1.heap.size w1 w'→(w'.cell? ⟨Z,0,none⟩=some (.int .i64 fr)∧w'.cell? ⟨Z,1,none⟩=some (.slice a.AP nP a.cP)∧w'.cell? ⟨Z,2,none⟩=some (.slice a.AW nW a.cW)∧w'.cell? ⟨Z,3,none⟩=some (.slice a.AC nC a.cC)∧w'.cell? ⟨Z,4,none⟩=some (.int .i64 tr)∧Z < w'.heap.size)∧
   (w'.cell? ⟨Z+1,0,none⟩=some (.int .i64 i0)∧w'.cell? ⟨Z+1,1,none⟩=some (.int .i64 i1)∧w'.cell? ⟨Z+1,2,none⟩=some (.int .i64 i2)∧w'.cell? ⟨Z+1,3,none⟩=some (.int .i64 i3)∧w'.cell? ⟨Z+1,4,none⟩=some (.int .i64 i4)∧w'.cell? ⟨Z+1,5,none⟩=some (.int .i64 i5)∧w'.cell? ⟨Z+1,6,none⟩=some (.int .i64 i6)∧w'.cell? ⟨Z+1,7,none⟩=some (.slice A i7 c)∧Z+1 < w'.heap.size) :=
  fun w' hb=>⟨⟨(HRW.out w' hb).cell 0,(HRW.out w' hb).cell 1,(HRW.out w' hb).cell 2,(HRW.out w' hb).cell 3,(HRW.out w' hb).cell 4,(HRW.out w' hb).lt⟩,
   (HRI.out w' hb).cell 0,(HRI.out w' hb).cell 1,(HRI.out w' hb).cell 2,(HRI.out w' hb).cell 3,(HRI.out w' hb).cell 4,(HRI.out w' hb).cell 5,(HRI.out w' hb).cell 6,(HRI.out w' hb).cell 7,(HRI.out w' hb).lt⟩
 have HROWS:=Lib.hid rows
 have HB1:=Lib.hid H1.out.bel
 clear rows H1 HRW HRI
 obtain ⟨⟨t0,t1,t2,t3,t4,lZ⟩,u0,u1,u2,u3,u4,u5,u6,u7,lY⟩:=HROWS.out w1 (Below.refl _ _)
 go_enter Tryz.func37,Tryz.ntmps37
 go_upto_region 1 with fail
 rw [←HW1.out,←HZ.out]
 go_wp2_with (fail)
 refine (HRT.out w1 HB1.out).mono ?_
 rintro e w2 ⟨rfl,hb2⟩
 have HB2:=Lib.hid hb2
 clear t0 t1 t2 t3 t4 lZ u0 u1 u2 u3 u4 u5 u6 u7 lY hb2
 obtain ⟨⟨t0,t1,t2,t3,t4,lZ⟩,u0,u1,u2,u3,u4,u5,u6,u7,lY⟩:=HROWS.out w2 HB2.out
 have HBW2:=Lib.hid (HB1.out.trans (HB2.out.mono HB1.out.size))
 cases rr with
 | false =>
   go_wp2_with (fail)
   go_ret
   exact ⟨ret_int (by rw [HL.out];rfl),HBW2.out⟩
 | true =>
   by_cases hq:0≤q∧q < (nP:Int)
   ·obtain ⟨q0,q1⟩:=hq
    have q0':¬q < 0:=by omega
    have q1':¬q≥(nP:Int):=by omega
    have HQ:=Lib.hid (And.intro q0 q1)
    go_wp2_with (fail)
    refine (HIR.out w2).mono ?_
    rintro e w4 ⟨rfl,hb4⟩
    have HB4:=Lib.hid (HB2.out.trans (hb4.mono HB2.out.size))
    clear t0 t1 t2 t3 t4 lZ u0 u1 u2 u3 u4 u5 u6 u7 lY hb4
    obtain ⟨⟨t0,t1,t2,t3,t4,lZ⟩,u0,u1,u2,u3,u4,u5,u6,u7,lY⟩:=HROWS.out w4 HB4.out
    have HBW4:=Lib.hid (HB1.out.trans (HB4.out.mono HB1.out.size))
    cases ir with
    | false =>
      go_wp2_with (fail)
      go_ret
      exact ⟨ret_int (by rw [HL.out,if_neg (by simp),if_pos (.inr (by rw [HIRR.out];simp))]),HBW4.out⟩
    | true =>
      have HLL:=Lib.hid (show L=L4 by rw [HL.out,if_neg (by simp),if_neg (by rw [HIRR.out];simp;exact HQ.out)])
      have HPO2:=Lib.hid (HPO.out (HIRR.out.2 rfl) HRR.out.symm)
      have HIN2:=Lib.hid (HIN.out (HIRR.out.2 rfl))
      have HN42:=Lib.hid (show nC≤4 by rw [HNC.out];exact HN4.out HRR.out.symm)
      obtain ⟨qn,hqn⟩:∃n,n=q.toNat:=⟨_,rfl⟩
      have hqq:(qn:Int)=q:=by omega
      rw [←hqn] at HTO HALL HPO2 HC0 HC1 HC3 HP1 HP2 HPT
      subst hqq
      clear hqn
      have hqp:qn < t.parts.length:=by have:=HNP.out;omega
      have hgd:t.parts.getD qn ⟨0,0,0⟩=t.parts[qn]:=by simp [hqp]
      rw [HPT.out,hgd] at HC0 HC1
      have HGP:=Lib.hid (fun (w':World) (hb:Below w1.heap.size w1 w')=>t3s_get (HPS.out w' (HB1.out.trans (hb.mono HB1.out.size))) HNP.out hqp)
      generalize t.parts[qn]=pt at *
      obtain ⟨pa,pb,pc⟩:=pt
      simp only at HGP HC0 HC1
      obtain ⟨b,off,hA,hbl,c0,c1,c2⟩:=HGP.out w4 HB4.out
      have HA:=Lib.hid hA
      clear hgd hqp hA
      rw [HA.out] at t1
      go_wp2_with (fail)
      have fin0:∀{X:Bool},chk t qn i ver 0=X→X=false→L=12:=fun h1 h2=>by rw [HLL.out,HTO.out 0 (by omega) (fun k hk=>absurd hk (by omega)) (h1.trans h2)];rfl
      have FIN0:=Lib.hid (fun (h1:chk t qn i ver 0=false)=>show L=12 by rw [HLL.out,HTO.out 0 (by omega) (fun k hk=>absurd hk (by omega)) h1];rfl)
      have FIN1:=Lib.hid (fun (h0:chk t qn i ver 0=true) (h1:chk t qn i ver 1=false)=>show L=14 by
       rw [HLL.out,HTO.out 1 (by omega) (fun k hk=>by obtain rfl:k=0:=by omega
                                                      exact h0) h1];rfl)
      have FIN2:=Lib.hid (fun (h0:chk t qn i ver 0=true) (h1:chk t qn i ver 1=true) (h2:chk t qn i ver 2=false)=>show L=15 by
       rw [HLL.out,HTO.out 2 (by omega) (fun k hk=>by rcases (by omega:k=0∨k=1) with rfl|rfl<;>assumption) h2];rfl)
      have FIN3:=Lib.hid (fun (h0:chk t qn i ver 0=true) (h1:chk t qn i ver 1=true) (h2:chk t qn i ver 2=true) (h3:chk t qn i ver 3=false)=>show L=13 by
       rw [HLL.out,HTO.out 3 (by omega) (fun k hk=>by rcases (by omega:k=0∨k=1∨k=2) with rfl|rfl|rfl<;>assumption) h3];rfl)
      have FIN4:=Lib.hid (fun (h0:chk t qn i ver 0=true) (h1:chk t qn i ver 1=true) (h2:chk t qn i ver 2=true) (h3:chk t qn i ver 3=true)=>show L=0 by
       rw [HLL.out,HALL.out (fun k hk=>by rcases (by omega:k=0∨k=1∨k=2∨k=3) with rfl|rfl|rfl|rfl<;>assumption)])
      clear fin0
      by_cases hp0:i0=(qn:Int)
      ·by_cases hh0:i2=pc
       ·have e0:(i0 != (qn:Int))=false:=by simp [hp0]
        have e1:(i2 != pc)=false:=by simp [hh0]
        have C0:=Lib.hid (show chk t qn i ver 0=true by rw [HC0.out];exact decide_eq_true ⟨hp0,hh0⟩)
        clear hp0 hh0
        go_quiet (fail)
        go_wp2_with (fail)
        by_cases hm:i3 > pa
        ·have C1:=Lib.hid (show chk t qn i ver 1=false by rw [HC1.out];exact decide_eq_false fun h=>by omega)
         go_quiet (fail)
         go_wp2_with (fail)
         go_ret
         exact ⟨ret_int (FIN1.out C0.out C1.out).symm,by first|exact below_drewN (below_drewN HBW4.out _) _|exact below_drewN HBW4.out _⟩
        ·by_cases hf:i4 > pb
         ·have C1:=Lib.hid (show chk t qn i ver 1=false by rw [HC1.out];exact decide_eq_false fun h=>by omega)
          go_quiet (fail)
          go_wp2_with (fail)
          go_ret
          exact ⟨ret_int (FIN1.out C0.out C1.out).symm,by first|exact below_drewN (below_drewN HBW4.out _) _|exact below_drewN HBW4.out _⟩
         ·have C1:=Lib.hid (show chk t qn i ver 1=true by rw [HC1.out];exact decide_eq_true ⟨by omega,by omega⟩)
          go_quiet (fail)
          go_wp2_with (fail)
          go_loopw [9] (fun x wr=>∃j:Nat,j≤4∧x=.int .i64 j∧Below w1.heap.size w1 wr∧∀k,k < j→(portOk T3.a i5 (qn:Int) t.chans k&&portOk T3.b i6 (qn:Int) t.chans k)=true) (fun x _=>4-(intOf x).toNat)
          case atStart=>exact ⟨0,by omega,rfl,by first|exact below_drewN (below_drewN HB4.out _) _|exact below_drewN HB4.out _,fun k hk=>absurd hk (by omega)⟩
          case round =>
           obtain ⟨j,hj,rfl,hbr,hall⟩:=hrel
           have HBR:=Lib.hid hbr;have HAL:=Lib.hid hall
           clear t0 t1 t2 t3 t4 lZ u0 u1 u2 u3 u4 u5 u6 u7 lY c0 c1 c2 hbr hall e0 e1
           by_cases hlt:j < 4
           ·have HS5:=Lib.hid (fun (w':World)=>show Calls Tryz.prog 84 #[.int .i64 i5,.int .i64 j] w' fun e w''=>e=.returned (.bool (bitb i5 j))∧w'=w'' from rhas_in i5 j w' (by omega) HIN2.out.1)
            have HS6:=Lib.hid (fun (w':World)=>show Calls Tryz.prog 84 #[.int .i64 i6,.int .i64 j] w' fun e w''=>e=.returned (.bool (bitb i6 j))∧w'=w'' from rhas_in i6 j w' (by omega) HIN2.out.2)
            have HA1:=Lib.hid (HP1.out j);have HA2:=Lib.hid (HP2.out j)
            have HBAD:=Lib.hid (fun (h:(portOk T3.a i5 (qn:Int) t.chans j&&portOk T3.b i6 (qn:Int) t.chans j)=false)=>FIN2.out C0.out C1.out (Bool.eq_false_iff.2 fun hc=>by have:=HPO2.out.1 hc j hlt;rw [h] at this;cases this))
            obtain ⟨b5,hb5⟩:∃v,v=bitb i5 j:=⟨_,rfl⟩
            obtain ⟨b6,hb6⟩:∃v,v=bitb i6 j:=⟨_,rfl⟩
            rw [←hb5] at HS5 HA1;rw [←hb6] at HS6 HA2
            clear hb5 hb6
            obtain ⟨⟨t0,t1,t2,t3,t4,lZ⟩,u0,u1,u2,u3,u4,u5,u6,u7,lY⟩:=HROWS.out wr HBR.out
            have k1:(j:Int) < 4:=by omega
            have k0:(0:Int)≤(j:Int):=by omega
            go_wp2_with (fail)
            cases b5 with
            | false =>
              have O1:=Lib.hid (show portOk T3.a i5 (qn:Int) t.chans j=true by rw [HA1.out];rfl)
              refine (HS5.out _).mono ?_
              rintro e w' ⟨rfl,hw'⟩
              subst hw'
              go_wp2_with (fail)
              clear t0 t1 t2 t3 t4 lZ u0 u1 u2 u3 u4 u5 u6 u7 lY
              obtain ⟨⟨t0,t1,t2,t3,t4,lZ⟩,u0,u1,u2,u3,u4,u5,u6,u7,lY⟩:=HROWS.out wr HBR.out
              cases b6 with
              | false =>
                have O2:=Lib.hid (show portOk T3.b i6 (qn:Int) t.chans j=true by rw [HA2.out];rfl)
                refine (HS6.out _).mono ?_
                rintro e w' ⟨rfl,hw'⟩
                subst hw'
                go_wp2_with (fail)
                go_roundw
                case rel =>
                 refine ⟨j+1,by omega,by go_num,HBR.out,fun k hk=>?_⟩
                 by_cases hkj:k=j
                 ·rw [hkj,O1.out,O2.out];rfl
                 ·exact HAL.out k (by omega)
                case measure=>simp [intOf];omega
              | true =>
                by_cases hc4:j < nC
                ·have ge:¬(j:Int)≥(nC:Int):=by omega
                 have hjb:j < t.chans.length:=by have:=HNC.out;omega
                 obtain ⟨b',off',hA',hbl',d0,d1,d2⟩:=t3s_get (HCS.out _ (HB1.out.trans (HBR.out.mono HB1.out.size))) HNC.out hjb
                 have hgd':t.chans.getD j ⟨0,0,0⟩=t.chans[j]:=by simp [hjb]
                 rw [hgd'] at HA2
                 obtain ⟨cv,hcv⟩:∃v,v=(t.chans[j]).b:=⟨_,rfl⟩
                 rw [←hcv] at HA2 d1
                 rw [hA'] at t3
                 have k2:(j:Int) < (nC:Int):=by omega
                 have HKJ:=Lib.hid hjb;have HHA:=Lib.hid hA'
                 clear hgd' hcv d0 d2 hA' hjb
                 by_cases hx:cv=(qn:Int)
                 ·have ex:(cv != (qn:Int))=false:=by simp [hx]
                  have O2:=Lib.hid (show portOk T3.b i6 (qn:Int) t.chans j=true by rw [HA2.out,decide_eq_false (by omega),decide_eq_false (fun h=>h hx)];rfl)
                  clear hx
                  refine (HS6.out _).mono ?_
                  rintro e w' ⟨rfl,hw'⟩
                  subst hw'
                  go_wp2_with (fail)
                  go_roundw
                  case rel =>
                   refine ⟨j+1,by omega,by go_num,HBR.out,fun k hk=>?_⟩
                   by_cases hkj:k=j
                   ·rw [hkj,O1.out,O2.out];rfl
                   ·exact HAL.out k (by omega)
                  case measure=>simp [intOf];omega
                 ·have ex:(cv != (qn:Int))=true:=by simp [hx]
                  have O2:=Lib.hid (show portOk T3.b i6 (qn:Int) t.chans j=false by rw [HA2.out,decide_eq_true hx];simp)
                  clear hx
                  refine (HS6.out _).mono ?_
                  rintro e w' ⟨rfl,hw'⟩
                  subst hw'
                  go_wp2_with (fail)
                  go_ret
                  exact ⟨ret_int (HBAD.out (by rw [O1.out,O2.out];rfl)).symm,HB1.out.trans (HBR.out.mono HB1.out.size)⟩
                ·have ge:(j:Int)≥(nC:Int):=by omega
                 have O2:=Lib.hid (show portOk T3.b i6 (qn:Int) t.chans j=false by rw [HA2.out,decide_eq_true (show nC≤j by omega)];simp)
                 refine (HS6.out _).mono ?_
                 rintro e w' ⟨rfl,hw'⟩
                 subst hw'
                 go_wp2_with (fail)
                 go_ret
                 exact ⟨ret_int (HBAD.out (by rw [O1.out,O2.out];rfl)).symm,HB1.out.trans (HBR.out.mono HB1.out.size)⟩
            | true =>
              by_cases hc4:j < nC
              ·have ge:¬(j:Int)≥(nC:Int):=by omega
               have hjb:j < t.chans.length:=by have:=HNC.out;omega
               obtain ⟨b',off',hA',hbl',d0,d1,d2⟩:=t3s_get (HCS.out wr (HB1.out.trans (HBR.out.mono HB1.out.size))) HNC.out hjb
               have hgd':t.chans.getD j ⟨0,0,0⟩=t.chans[j]:=by simp [hjb]
               rw [hgd'] at HA1
               obtain ⟨cv,hcv⟩:∃v,v=(t.chans[j]).a:=⟨_,rfl⟩
               rw [←hcv] at HA1 d0
               rw [hA'] at t3
               have k2:(j:Int) < (nC:Int):=by omega
               have HKJ:=Lib.hid hjb;have HHA:=Lib.hid hA'
               clear hgd' hcv d1 d2 hA' hjb
               by_cases hx:cv=(qn:Int)
               ·have ex:(cv != (qn:Int))=false:=by simp [hx]
                have O1:=Lib.hid (show portOk T3.a i5 (qn:Int) t.chans j=true by rw [HA1.out,decide_eq_false (by omega),decide_eq_false (fun h=>h hx)];rfl)
                clear hx
                refine (HS5.out _).mono ?_
                rintro e w' ⟨rfl,hw'⟩
                subst hw'
                go_wp2_with (fail)
                have hcx:=hc4
                clear d0 ge k2 ex HHA HKJ hbl' hc4
                clear t0 t1 t2 t3 t4 lZ u0 u1 u2 u3 u4 u5 u6 u7 lY
                obtain ⟨⟨t0,t1,t2,t3,t4,lZ⟩,u0,u1,u2,u3,u4,u5,u6,u7,lY⟩:=HROWS.out wr HBR.out
                cases b6 with
                | false =>
                  have O2:=Lib.hid (show portOk T3.b i6 (qn:Int) t.chans j=true by rw [HA2.out];rfl)
                  refine (HS6.out _).mono ?_
                  rintro e w' ⟨rfl,hw'⟩
                  subst hw'
                  go_wp2_with (fail)
                  go_roundw
                  case rel =>
                   refine ⟨j+1,by omega,by go_num,HBR.out,fun k hk=>?_⟩
                   by_cases hkj:k=j
                   ·rw [hkj,O1.out,O2.out];rfl
                   ·exact HAL.out k (by omega)
                  case measure=>simp [intOf];omega
                | true =>
                  by_cases hc4:j < nC
                  ·have ge:¬(j:Int)≥(nC:Int):=by omega
                   have hjb:j < t.chans.length:=by have:=HNC.out;omega
                   obtain ⟨b',off',hA',hbl',d0,d1,d2⟩:=t3s_get (HCS.out _ (HB1.out.trans (HBR.out.mono HB1.out.size))) HNC.out hjb
                   have hgd':t.chans.getD j ⟨0,0,0⟩=t.chans[j]:=by simp [hjb]
                   rw [hgd'] at HA2
                   obtain ⟨cv,hcv⟩:∃v,v=(t.chans[j]).b:=⟨_,rfl⟩
                   rw [←hcv] at HA2 d1
                   rw [hA'] at t3
                   have k2:(j:Int) < (nC:Int):=by omega
                   have HKJ:=Lib.hid hjb;have HHA:=Lib.hid hA'
                   clear hgd' hcv d0 d2 hA' hjb
                   by_cases hx:cv=(qn:Int)
                   ·have ex:(cv != (qn:Int))=false:=by simp [hx]
                    have O2:=Lib.hid (show portOk T3.b i6 (qn:Int) t.chans j=true by rw [HA2.out,decide_eq_false (by omega),decide_eq_false (fun h=>h hx)];rfl)
                    clear hx
                    refine (HS6.out _).mono ?_
                    rintro e w' ⟨rfl,hw'⟩
                    subst hw'
                    go_wp2_with (fail)
                    go_roundw
                    case rel =>
                     refine ⟨j+1,by omega,by go_num,HBR.out,fun k hk=>?_⟩
                     by_cases hkj:k=j
                     ·rw [hkj,O1.out,O2.out];rfl
                     ·exact HAL.out k (by omega)
                    case measure=>simp [intOf];omega
                   ·have ex:(cv != (qn:Int))=true:=by simp [hx]
                    have O2:=Lib.hid (show portOk T3.b i6 (qn:Int) t.chans j=false by rw [HA2.out,decide_eq_true hx];simp)
                    clear hx
                    refine (HS6.out _).mono ?_
                    rintro e w' ⟨rfl,hw'⟩
                    subst hw'
                    go_wp2_with (fail)
                    go_ret
                    exact ⟨ret_int (HBAD.out (by rw [O1.out,O2.out];rfl)).symm,HB1.out.trans (HBR.out.mono HB1.out.size)⟩
                  ·exact absurd hcx hc4
               ·have ex:(cv != (qn:Int))=true:=by simp [hx]
                have O1:=Lib.hid (show portOk T3.a i5 (qn:Int) t.chans j=false by rw [HA1.out,decide_eq_true hx];simp)
                clear hx
                refine (HS5.out _).mono ?_
                rintro e w' ⟨rfl,hw'⟩
                subst hw'
                go_wp2_with (fail)
                go_ret
                exact ⟨ret_int (HBAD.out (by rw [O1.out];rfl)).symm,HB1.out.trans (HBR.out.mono HB1.out.size)⟩
              ·have ge:(j:Int)≥(nC:Int):=by omega
               have O1:=Lib.hid (show portOk T3.a i5 (qn:Int) t.chans j=false by rw [HA1.out,decide_eq_true (show nC≤j by omega)];simp)
               refine (HS5.out _).mono ?_
               rintro e w' ⟨rfl,hw'⟩
               subst hw'
               go_wp2_with (fail)
               go_ret
               exact ⟨ret_int (HBAD.out (by rw [O1.out];rfl)).symm,HB1.out.trans (HBR.out.mono HB1.out.size)⟩
           ·have hj4:j=4:=by omega
            have k1:¬(j:Int) < 4:=by omega
            have C2:=Lib.hid (HPO2.out.2 (by rw [←hj4];exact HAL.out))
            obtain ⟨⟨t0,t1,t2,t3,t4,lZ⟩,u0,u1,u2,u3,u4,u5,u6,u7,lY⟩:=HROWS.out wr HBR.out
            clear hj4
            by_cases hv:i1≤ver
            ·have C3:=Lib.hid (show chk t qn i ver 3=false by rw [HC3.out];exact decide_eq_false (by omega))
             go_wp2_with (fail)
             go_ret
             exact ⟨ret_int (FIN3.out C0.out C1.out C2.out C3.out).symm,HB1.out.trans (HBR.out.mono HB1.out.size)⟩
            ·have C3:=Lib.hid (show chk t qn i ver 3=true by rw [HC3.out];exact decide_eq_true (by omega))
             go_wp2_with (fail)
             go_ret
             exact ⟨ret_int (FIN4.out C0.out C1.out C2.out C3.out).symm,HB1.out.trans (HBR.out.mono HB1.out.size)⟩
       ·have e0:(i0 != (qn:Int))=false:=by simp [hp0]
        have e1:(i2 != pc)=true:=by simp [hh0]
        have C0:=Lib.hid (show chk t qn i ver 0=false by rw [HC0.out];exact decide_eq_false fun h=>hh0 h.2)
        clear hp0 hh0
        go_quiet (fail)
        go_wp2_with (fail)
        go_ret
        exact ⟨ret_int (FIN0.out C0.out).symm,below_drewN HBW4.out _⟩
      ·have e0:(i0 != (qn:Int))=true:=by simp [hp0]
       have C0:=Lib.hid (show chk t qn i ver 0=false by rw [HC0.out];exact decide_eq_false fun h=>hp0 h.1)
       clear hp0
       go_quiet (fail)
       go_wp2_with (fail)
       go_ret
       exact ⟨ret_int (FIN0.out C0.out).symm,below_drewN HBW4.out _⟩
   ·have HQ:=Lib.hid hq
    by_cases q0:q < 0
    ·have q0':¬0≤q:=by omega
     clear hq
     go_wp2_with (fail)
     go_ret
     exact ⟨ret_int (by rw [HL.out,if_neg (by simp),if_pos (.inl HQ.out)]),HBW2.out⟩
    ·have q1:q≥(nP:Int):=by omega
     clear hq
     go_wp2_with (fail)
     go_ret
     exact ⟨ret_int (by rw [HL.out,if_neg (by simp),if_pos (.inl HQ.out)]),HBW2.out⟩
end
end compat
namespace placeSays

open base Go.ChangeShapes Go.WideShapes Go.ChangeAt Go.RowKit place
theorem rsectors (n:Int) (w:World):Calls Tryz.prog 36 #[.int .i64 n] w fun e w'=>(∃r,e=.returned (.int .i64 r)∧(n < 1∧r=10∨4 < n∧r=40∨1≤n∧n≤4∧r=10*n))∧w=w':=by
 by_cases h:n < 1
 ·go_enter Tryz.func36,Tryz.ntmps36
  go_wp2
  go_ret
  exact ⟨⟨_,rfl,by omega⟩,rfl⟩
 ·by_cases h':4 < n
  ·have h2:1≤n:=by omega
   go_enter Tryz.func36,Tryz.ntmps36
   go_wp2
   go_ret
   exact ⟨⟨_,rfl,by omega⟩,rfl⟩
  ·have h2:1≤n:=by omega
   have h3:n≤4:=by omega
   go_enter Tryz.func36,Tryz.ntmps36
   go_wp2
   go_ret
   exact ⟨⟨_,rfl,by omega⟩,rfl⟩
end placeSays
end Go.Proofs.YtdldkkoplgkloaaGreat
