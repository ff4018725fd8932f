/-
  PROVED HERE: lemmas that the law leans on.
  CONDITIONS: each names its own.
-/
import Derived.Test.YtdldkkoplgkloaaGreatPy0
import Derived.Test.YtdldkkoplgkloaaGreatPy21
import Derived.Test.YtdldkkoplgkloaaGreatPy27
import Derived.Test.YtdldkkoplgkloaaGreatPy31
import Derived.Test.YtdldkkoplgkloaaGreatPy38
namespace Go.Proofs.YtdldkkoplgkloaaGreat
set_option linter.unusedVariables false
set_option linter.unusedSimpArgs false
set_option maxRecDepth 100000
set_option maxHeartbeats 32000000
namespace sk


open Go.RowKit Go.Deep base obj mem sep bw num bytes bf image nE
theorem Nk {b:List Int} {m:Nat} (h:b.length=m+36):(fy (b.take m)=b) ↔ (pn b&&pE b)=true:=by
 have hd:(gh (b.take m)).length=32:=fH.qo _
 have e0:b=b.take m++((b.drop m).take 32++b.drop (m+32)):=by
  conv=>lhs;rw [←List.take_append_drop m b,←List.take_append_drop 32 (b.drop m),List.drop_drop]
 have e1:b.take (m+32)=b.take m++(b.drop m).take 32:=by rw [List.take_add]
 have l0:(b.take m).length=m:=by rw [fv];omega
 have l1:((b.drop m).take 32).length=32:=by rw [fv,List.length_drop];omega
 simp only [pn,pE,Bool.and_eq_true,decide_eq_true_eq,h,show m+36-4=m+32 by omega,show m+36-36=m by omega]
 constructor
 ·intro hs;unfold fy at hs;have h2:b.take m++(gh (b.take m)++be 4 (sum (b.take m++gh (b.take m))))=b.take m++((b.drop m).take 32++b.drop (m+32)):=by rw [←e0,←List.append_assoc];exact hs
  have h3:=List.append_cancel_left h2;obtain ⟨h4,h5⟩:=List.append_inj h3 (by rw [hd,l1]);rw [e1,←h4];exact ⟨h5,rfl⟩
 ·rintro ⟨h1,h2⟩;unfold fy;rw [e1,←h2] at h1;rw [h1,h2,List.append_assoc,←e0]
structure GX (w:World) (R I:Nat) (xs:List Value) (s:Option (List Int)) (wk:World):Prop where
 rd:RY wk R s
 row:Row wk I 26 xs
 Fk:Row wk w.heap.size 26 [.int .i64 0,.int .i64 0,.int .i64 0,.int .i64 0,.int .i64 0,.int .i64 0,.int .i64 0,.slice none 0 0]
 aI:Below w.heap.size w wk
 lt:w.heap.size < R∧R < I
theorem V7 {w w':World} {R:Nat} {s:Option (List Int)} {S:Nat→Prop} (h:RY w R s) (k:Kept S w w') (hS:∀i,i≤R→¬S i):RY w' R s:=by
 cases s with
 | none=>obtain ⟨A,n,c,i,h⟩:=h;exact ⟨A,n,c,i,h.kept k (hS R (Nat.le_refl _))⟩
 | some b =>
   obtain ⟨bs,i,h,h2⟩:=h;obtain ⟨A,c,e,hc,hs⟩:=h.cell;exact ⟨bs,i,⟨A,c,e.kept k (hS R (Nat.le_refl _)),hc,hs.below (k.below (Nat.le_of_lt e.lt) fun i hi=>hS i (by omega))⟩,h2⟩
section
variable {w : World} {R I : Nat} {xs : List Value} {s s' : Option (List Int)} {wk zM : World}
theorem GX.step (h:GX w R I xs s wk) (hr:RY zM R s') (hk:Kept (fun i=>i=R) wk zM):GX w R I xs s' zM :=
 ⟨hr,h.row.kept hk (by have:=h.lt;omega),h.Fk.kept hk (by have:=h.lt;omega),h.aI.trans (hk.below h.aI.size fun i hi e=>by have:=h.lt;omega),h.lt⟩
theorem GX.put (h:GX w R I xs s wk) (k:Nat) (v:Value):GX w R I (xs.set k v) s (wk.setCell ⟨I,k,none⟩ v):=by
 have hk:Kept (fun i=>i=I) wk (wk.setCell ⟨I,k,none⟩ v):=(Kept.refl (fun i=>i=I) wk).setCell (p:=⟨I,k,none⟩) (.inl rfl) _;exact ⟨V7 h.rd hk fun i hi e=>by have:=h.lt;omega,h.row.setCell k v,h.Fk.kept hk (by have:=h.lt;omega),h.aI.trans (hk.below h.aI.size fun i hi e=>by have:=h.lt;omega),h.lt⟩
theorem GX.over (h:GX w R I xs s wk) (hb:Below wk.heap.size wk zM):GX w R I xs s zM:=⟨h.rd.below hb,h.row.below hb h.row.lt,h.Fk.below hb h.Fk.lt,h.aI.trans (hb.mono h.aI.size),h.lt⟩
end
theorem Wa (w:World) (b:List Int) (n:Nat) (hn:b.length=n) (hm:n≤90000) (cu:bo b) (A:Option Addr) (c:Nat) (hc:n≤c) (hs:Sl w w.heap.size 1 A n (aP b)) :
  Calls Tryz.prog 112 #[.slice A n c] w fun e w'=>∃A' c',e=.returned (.tuple #[(b9 b).1.val A' c',.int .i64 (b9 b).2])∧w'.ownsRow w.heap.size 5 1 (.slice A' (b9 b).1.code.length c') (b9 b).1.code.length (aP (b9 b).1.code)∧Below w.heap.size w w':=by
 obtain ⟨Z,hZ⟩:∃Z,Z=w.heap.size:=⟨_,rfl⟩
 obtain ⟨w1,aJ⟩:∃v,v=w.alloc (.cells #[.int .i64 0,.int .i64 0,.int .i64 0,.int .i64 0,.int .i64 0,.int .i64 0,.int .i64 0,.slice none 0 0] 26):=⟨_,rfl⟩
 have H1:=aa (show Row w1 Z 26 [.int .i64 0,.int .i64 0,.int .i64 0,.int .i64 0,.int .i64 0,.int .i64 0,.int .i64 0,.slice none 0 0]∧Below w.heap.size w w1 from ⟨by rw [aJ,hZ];exact Row.new w _ _,by rw [aJ];exact (Below.refl _ w).alloc (Nat.le_refl _) _⟩);have mU:=aa ((hs.below H1.o.2).more H1.o.2.size);have bq:=aa aJ;have HZ:=aa hZ;have DA:=aa (fun (w':World) (hr:Row w' Z 26 [.int .i64 0,.int .i64 0,.int .i64 0,.int .i64 0,.int .i64 0,.int .i64 0,.int .i64 0,.slice none 0 0]) (hb:Below w.heap.size w w')=>show Row (w'.setRow Z #[.int .i64 0,.int .i64 0,.int .i64 0,.int .i64 0,.int .i64 0,.int .i64 0,.int .i64 0,.slice none 0 0]) Z 26 [.int .i64 0,.int .i64 0,.int .i64 0,.int .i64 0,.int .i64 0,.int .i64 0,.int .i64 0,.slice none 0 0]∧Below w.heap.size w (w'.setRow Z #[.int .i64 0,.int .i64 0,.int .i64 0,.int .i64 0,.int .i64 0,.int .i64 0,.int .i64 0,.slice none 0 0]) from ⟨hr.setRow _,hb.trans ((fV (Kept.refl (fun i=>i=Z) w') (g:=Z) (Or.inl rfl) #[.int .i64 0,.int .i64 0,.int .i64 0,.int .i64 0,.int .i64 0,.int .i64 0,.int .i64 0,.slice none 0 0]).below hb.size fun i hi e=>by omega)⟩);have hG:b9 b=if n < 36 then (aw.none,1) else if pn b&&pE b then kg (b.take (n-36)) else (aw.none,10):=by unfold b9;rw [hn]
 generalize wu:b9 b=G at *;clear wu;by_cases Ms:n < 36
 ·have hw:IntKind.i64.wrap ((n:Int)-36)=(n:Int)-36:=IntWalk.i64_in _ (by omega);have g1:(n:Int)-36 < 0:=by omega
  rw [if_pos Ms] at hG;have HG:=aa hG;clear aJ hZ hG hs;go_enter Tryz.func112,Tryz.ntmps112;go_upto_region 1 with fail;rw [←bq.o,←HZ.o];go_wp2_with (refine aF rfl 26 (.tmp 2) (.tmp 12) rfl Z 0 #[.int .i64 0,.int .i64 0,.int .i64 0,.int .i64 0,.int .i64 0,.int .i64 0,.int .i64 0,.slice none 0 0] rfl rfl H1.o.1 (by kernel_rfl) (by simp) (by simp [Value.oneCell']) [.int .i64 0,.int .i64 0,.int .i64 0,.int .i64 0,.int .i64 0,.int .i64 0,.int .i64 0,.slice none 0 0] rfl ?_);obtain ⟨h1,h2⟩:=DA.o w1 H1.o.1 H1.o.2;refine bodyPost_ret (aM rfl _ _ Z _ _ _ _ _ rfl rfl h1 Tryz.underlying26 rfl (by kernel_rfl)) rfl ?_;rw [HG.o];exact ⟨none,0,rfl,nh _ _,h2⟩
 ·obtain ⟨m,rfl⟩:∃m,n=m+36:=⟨n-36,by omega⟩
  obtain ⟨bb,off,rfl,cy,fc⟩:=hs.2 (by omega);rw [if_neg Ms,show m+36-36=m by omega] at hG;have Cp:(b.take m).length=m:=by rw [fv];omega
  have EA:bo (b.take m):=fun z hz=>cu z (List.mem_of_mem_take hz)
  have kE:=aa (fun (w':World) (B:Nat) (h:Sl w' B 1 (some ⟨bb,off,none⟩) (m+36) (aP b))=>show Sl w' B 1 (some ⟨bb,off,none⟩) m (aP (b.take m)) from by
   have:=xo h 0 m m rfl (by omega) rfl;rw [List.drop_zero,Nat.add_zero] at this
   exact this)
  have HT:=aa (Jf w1 (some ⟨bb,off,none⟩) m c (b.take m) Cp ⟨_,_,rfl⟩ (by omega) EA (kE.o _ _ mU.o));have kL:=aa (show (fy (b.take m)).length=m+36 by unfold fy;rw [gA,gA,Cp,bp,show (gh (b.take m)).length=32 from fH.qo _]);have Zy:=aa (Nk hn);have HBM:=aa EA;have HLM:=aa Cp;have HBN:=aa hn;have kN:=aa cu;have hw:IntKind.i64.wrap (((m+36:Nat):Int)-36)=(m:Int):=by rw [IntWalk.i64_in _ (by omega)];omega
  have hw':IntKind.i64.wrap ((m:Int)+36-36)=(m:Int):=by rw [IntWalk.i64_in _ (by omega)];omega
  have g1:¬(m:Int) < 0:=by omega
  have g2:(m:Int)≤(c:Int):=by omega
  have g0:(0:Int)≤(m:Int):=by omega
  have HG:=aa hG;clear aJ hG hs fc Cp EA cu Ms hn hZ;go_enter Tryz.func112,Tryz.ntmps112;go_upto_region 1 with fail;rw [←bq.o,←HZ.o];go_wp2_with fail;refine HT.o.mono ?_;rintro e w2 ⟨v,rfl,ho,hb⟩;obtain ⟨A2,c2,rfl,_,_⟩:=aH ho;have aO:=aa (H1.o.2.trans (hb.mono H1.o.2.size));have dI:=aa (H1.o.1.below hb H1.o.1.lt);have jJ:=aa ((mU.o.below hb).more hb.size);have VC:=aa (same.Je (fy (b.take m)) b A2 (some ⟨bb,off,none⟩) (m+36) (m+36) c2 c w2 kL.o.symm HBN.o.symm (by omega) (by omega) (Sl.bz ho) jJ.o)
  have HD:=aa (show decide (fy (b.take m)=b)=(pn b&&pE b) by
   cases hd:pn b&&pE b with
   | false=>simp only [decide_eq_false_iff_not,Zy.o,hd];decide
   | true=>simp only [decide_eq_true_eq,Zy.o,hd])
  rw [HD.o] at VC;have E5:=aa cy;clear ho hb cy;go_wp2_with fail;refine VC.o.mono ?_;rintro e w3 ⟨rfl,hb⟩;have bD:=aa (aO.o.trans (hb.mono aO.o.size));have x9:=aa (dI.o.below hb dI.o.lt);have EU:=aa ((jJ.o.below hb).more hb.size);clear hb;cases hd:pn b&&pE b with
  | false =>
    have hG:=HG.o;rw [hd,if_neg (by simp)] at hG;have wP:=aa hG;clear hG;go_wp2_with (refine aF rfl 26 (.tmp 2) (.tmp 20) rfl Z 0 #[.int .i64 0,.int .i64 0,.int .i64 0,.int .i64 0,.int .i64 0,.int .i64 0,.int .i64 0,.slice none 0 0] rfl rfl x9.o (by kernel_rfl) (by simp) (by simp [Value.oneCell']) [.int .i64 0,.int .i64 0,.int .i64 0,.int .i64 0,.int .i64 0,.int .i64 0,.int .i64 0,.slice none 0 0] rfl ?_);obtain ⟨h1,h2⟩:=DA.o w3 x9.o bD.o;refine bodyPost_ret (aM rfl _ _ Z _ _ _ _ _ rfl rfl h1 Tryz.underlying26 rfl (by kernel_rfl)) rfl ?_;rw [wP.o];exact ⟨none,0,rfl,nh _ _,h2⟩
  | true =>
    have hG:=HG.o;rw [hd,if_pos rfl] at hG;obtain ⟨R,hR⟩:∃v,v=w3.heap.size:=⟨_,rfl⟩
    obtain ⟨w4,dX⟩:∃v,v=w3.alloc (.cells #[.slice (some ⟨bb,off,none⟩) m c,.int .i64 0,.int .i64 0] 230):=⟨_,rfl⟩
    have oH:Below w3.heap.size w3 w4:=by rw [dX];exact (Below.refl _ w3).alloc (Nat.le_refl _) _
    have hZR:=x9.o.lt;have HY4:=aa (show RY w4 R (some (b.take m)) from ⟨b.take m,0,⟨some ⟨bb,off,none⟩,c,by rw [dX,hR,HLM.o];exact Row.new w3 _ _,by rw [HLM.o];omega,by rw [hR,HLM.o];exact kE.o _ _ (EU.o.below oH)⟩,by omega,by rw [HLM.o];omega,HBM.o,by rw [List.drop_zero]⟩);have eV:=aa (bD.o.trans (oH.mono bD.o.size));have od:=aa (x9.o.below oH x9.o.lt);have HZR:=aa (show Z < R by rw [hR];exact hZR);have HR:=aa hR;have kb:=aa dX;clear dX oH hR hZR hd;go_upto_region 7 with fail;rw [←kb.o,←HR.o];obtain ⟨x,hx⟩:∃x,x=b.take m:=⟨_,rfl⟩
    rw [←hx] at HY4 hG;have hP:kg x=if (rdNum 2 (some x)).1≠19529 then (aw.none,2) else if lf (kH (rdNum 2 (some x)).2).2≠0 then (aw.none,lf (kH (rdNum 2 (some x)).2).2) else if (kH (rdNum 2 (some x)).2).1.right then ((kH (rdNum 2 (some x)).2).1,0) else (aw.none,3):=rfl;rw [hP] at hG;clear hP hx;go_wp2_with fail;refine (ug HY4.o 2 (by omega) (by omega)).mono ?_;rintro e w5 ⟨rfl,bG,hk⟩;obtain ⟨x0,xD⟩:∃v,v=rdNum 2 (some x):=⟨_,rfl⟩
    rw [←xD] at bG hG ⊢;obtain ⟨mk,s0⟩:=x0;dsimp only at bG hG ⊢;have nL:=aa (eV.o.trans (hk.below eV.o.size fun i hi e=>by have:=HZR.o;have:=HZ.o;omega));have wL:=aa (od.o.kept hk (by have:=HZR.o;omega));have HY5:=aa bG;clear bG hk xD;by_cases pL:mk=19529
    case neg =>
     rw [if_pos pL] at hG;have wP:=aa hG;have q1:((mk:Int) != 19529)=true:=by simp;omega
     clear hG pL;go_wp2_with (refine aF rfl 26 (.tmp 2) (.tmp 29) rfl Z 0 #[.int .i64 0,.int .i64 0,.int .i64 0,.int .i64 0,.int .i64 0,.int .i64 0,.int .i64 0,.slice none 0 0] rfl rfl wL.o (by kernel_rfl) (by simp) (by simp [Value.oneCell']) [.int .i64 0,.int .i64 0,.int .i64 0,.int .i64 0,.int .i64 0,.int .i64 0,.int .i64 0,.slice none 0 0] rfl ?_);obtain ⟨h1,h2⟩:=DA.o w5 wL.o nL.o;refine bodyPost_ret (aM rfl _ _ Z _ _ _ _ _ rfl rfl h1 Tryz.underlying26 rfl (by kernel_rfl)) rfl ?_;rw [wP.o];exact ⟨none,0,rfl,nh _ _,h2⟩
    case pos =>
     rw [if_neg (by simp [pL])] at hG;have MT:=aa hG;have q1:((mk:Int) != 19529)=false:=by simp;omega
     obtain ⟨I,hI⟩:∃v,v=w5.heap.size:=⟨_,rfl⟩
     obtain ⟨w6,nU⟩:∃v,v=w5.alloc (.cells #[.int .i64 0,.int .i64 0,.int .i64 0,.int .i64 0,.int .i64 0,.int .i64 0,.int .i64 0,.slice none 0 0] 26):=⟨_,rfl⟩
     have tq:Below w5.heap.size w5 w6:=by rw [nU];exact (Below.refl _ w5).alloc (Nat.le_refl _) _
     have G0:=aa (show GX w R I [.int .i64 0,.int .i64 0,.int .i64 0,.int .i64 0,.int .i64 0,.int .i64 0,.int .i64 0,.slice none 0 0] s0 w6 from ⟨HY5.o.below tq,by rw [nU,hI];exact Row.new w5 _ _,by rw [←HZ.o];exact wL.o.below tq wL.o.lt,nL.o.trans (tq.mono nL.o.size),by rw [←HZ.o];exact HZR.o,by rw [hI];exact HY5.o.lt⟩);have HI:=aa hI;have ER:=aa nU;clear hG pL hI nU tq;go_upto_region 10 with fail;rw [←ER.o,←HI.o];go_wp2_with fail;refine (ug G0.o.rd 1 (by omega) (by omega)).mono ?_;rintro e v0 ⟨rfl,bG,hk⟩;obtain ⟨y,hy⟩:∃v,v=rdNum 1 s0:=⟨_,rfl⟩
     rw [←hy] at bG ⊢;obtain ⟨n0,s1⟩:=y;dsimp only at bG ⊢;have pY:=aa hy;have g:=G0.o.step bG hk;have G1:=aa (g.put 0 (.int .i64 (n0:Nat)));have f:=g.row.frozen 0;have lI:=g.row.lt;have cI:=g.row.cell 0;clear hy bG hk g;go_wp2_with fail;clear f lI cI;refine (ug G1.o.rd 2 (by omega) (by omega)).mono ?_;rintro e v1 ⟨rfl,bG,hk⟩;obtain ⟨y,hy⟩:∃v,v=rdNum 2 s1:=⟨_,rfl⟩
     rw [←hy] at bG ⊢;obtain ⟨n1,s2⟩:=y;dsimp only at bG ⊢;have HX1:=aa hy;have g:=G1.o.step bG hk;have G2:=aa (g.put 1 (.int .i64 (n1:Nat)));have f:=g.row.frozen 1;have lI:=g.row.lt;have cI:=g.row.cell 1;clear hy bG hk g;go_wp2_with fail;clear f lI cI;refine (ug G2.o.rd 2 (by omega) (by omega)).mono ?_;rintro e v2 ⟨rfl,bG,hk⟩;obtain ⟨y,hy⟩:∃v,v=rdNum 2 s2:=⟨_,rfl⟩
     rw [←hy] at bG ⊢;obtain ⟨n2,s3⟩:=y;dsimp only at bG ⊢;have oa:=aa hy;have g:=G2.o.step bG hk;have G3:=aa (g.put 2 (.int .i64 (n2:Nat)));have f:=g.row.frozen 2;have lI:=g.row.lt;have cI:=g.row.cell 2;clear hy bG hk g;go_wp2_with fail;clear f lI cI;refine (ug G3.o.rd 1 (by omega) (by omega)).mono ?_;rintro e v3 ⟨rfl,bG,hk⟩;obtain ⟨y,hy⟩:∃v,v=rdNum 1 s3:=⟨_,rfl⟩
     rw [←hy] at bG ⊢;obtain ⟨n3,s4⟩:=y;dsimp only at bG ⊢;have Bd:=aa hy;have g:=G3.o.step bG hk;have G4:=aa (g.put 3 (.int .i64 (n3:Nat)));have f:=g.row.frozen 3;have lI:=g.row.lt;have cI:=g.row.cell 3;clear hy bG hk g;go_wp2_with fail;clear f lI cI;refine (ug G4.o.rd 1 (by omega) (by omega)).mono ?_;rintro e v4 ⟨rfl,bG,hk⟩;obtain ⟨y,hy⟩:∃v,v=rdNum 1 s4:=⟨_,rfl⟩
     rw [←hy] at bG ⊢;obtain ⟨n4,s5⟩:=y;dsimp only at bG ⊢;have HX4:=aa hy;have g:=G4.o.step bG hk;have G5:=aa (g.put 4 (.int .i64 (n4:Nat)));have f:=g.row.frozen 4;have lI:=g.row.lt;have cI:=g.row.cell 4;clear hy bG hk g;go_wp2_with fail;clear f lI cI;refine (ug G5.o.rd 1 (by omega) (by omega)).mono ?_;rintro e v5 ⟨rfl,bG,hk⟩;obtain ⟨y,hy⟩:∃v,v=rdNum 1 s5:=⟨_,rfl⟩
     rw [←hy] at bG ⊢;obtain ⟨n5,s6⟩:=y;dsimp only at bG ⊢;have HX5:=aa hy;have g:=G5.o.step bG hk;have G6:=aa (g.put 5 (.int .i64 (n5:Nat)));have f:=g.row.frozen 5;have lI:=g.row.lt;have cI:=g.row.cell 5;clear hy bG hk g;go_wp2_with fail;clear f lI cI;refine (ug G6.o.rd 1 (by omega) (by omega)).mono ?_;rintro e v6 ⟨rfl,bG,hk⟩;obtain ⟨y,hy⟩:∃v,v=rdNum 1 s6:=⟨_,rfl⟩
     rw [←hy] at bG ⊢;obtain ⟨n6,s7⟩:=y;dsimp only at bG ⊢;have HX6:=aa hy;have g:=G6.o.step bG hk;have G7:=aa (g.put 6 (.int .i64 (n6:Nat)));have f:=g.row.frozen 6;have lI:=g.row.lt;have cI:=g.row.cell 6;clear hy bG hk g;go_wp2_with fail;clear f lI cI;refine (XI G7.o.rd).mono ?_;rintro e v7 ⟨A',c',rfl,ho,bG,hk⟩;obtain ⟨y,hy⟩:∃v,v=eF s7:=⟨_,rfl⟩
     rw [←hy] at ho bG ⊢;obtain ⟨code,s8⟩:=y;dsimp only at ho bG ⊢
     have pM:code.length≤9223372036854775807:=by
      obtain ⟨A,c,e,hc,hm⟩:=aH ho;injection e with _ _ _
      unfold maxLen at hm;omega
     have HX7:=aa hy;have g:=G7.o.step bG hk;have G8:=aa (g.put 7 (.slice A' code.length c'));have f:=g.row.frozen 7;have lI:=g.row.lt;have cI:=g.row.cell 7;have TH:=Fu ho;have hIl:I < (v6.setCell ⟨I,6,none⟩ (.int .i64 (n6:Nat))).heap.size:=G7.o.row.lt;have HZI:=aa (show Z < I by have:=G7.o.lt;rw [HZ.o];omega);have HO:=aa (((Kept.refl (fun i=>i=I) v7).setCell (p:=⟨I,7,none⟩) (.inl rfl) (.slice A' code.length c')).own ho fun k hk e=>by have:=TH k hk;omega);have abR:=aa (fun k hk=>Nat.lt_of_lt_of_le hIl (TH k hk));have lv:=aa (show w.heap.size≤(v6.setCell ⟨I,6,none⟩ (.int .i64 (n6:Nat))).heap.size by have:=HZI.o;have:=HZ.o;omega);have MV:=aa pM;clear hy ho bG hk g TH hIl pM;go_wp2_with fail;clear f lI cI;obtain ⟨v8,hv8⟩:∃v,v=v7.setCell ⟨I,7,none⟩ (.slice A' code.length c'):=⟨_,rfl⟩
     rw [←hv8] at G8 HO;rw [←hv8];clear hv8;have hG:=MT.o
     have hri:kH s0=(⟨n0,n1,n2,n3,n4,n5,n6,code⟩,s8):=by
      simp only [kH,←pY.o,←HX1.o,←oa.o,←Bd.o,←HX4.o,←HX5.o,←HX6.o,←HX7.o]
     rw [hri] at hG;dsimp only at hG;obtain ⟨J,hJ⟩:∃J:aw,J=⟨n0,n1,n2,n3,n4,n5,n6,code⟩:=⟨_,rfl⟩
     have ez:=aa (fun (w':World)=>show Calls Tryz.prog 83 #[.agg #[.int .i64 (n0:Nat),.int .i64 (n1:Nat),.int .i64 (n2:Nat),.int .i64 (n3:Nat),.int .i64 (n4:Nat),.int .i64 (n5:Nat),.int .i64 (n6:Nat),.slice A' code.length c']] w' fun e kV=>e=.returned (.bool (decide J.right))∧Below w'.heap.size w' kV from by rw [hJ];exact qB w' ⟨n0,n1,n2,n3,n4,n5,n6,code⟩ A' c' MV.o);rw [←hJ] at hG;have HJ:=aa hJ;clear hri hJ;have HE:=aa (Vv G8.o.rd);obtain ⟨er,Mk⟩:∃v,v=lf s8:=⟨_,rfl⟩
     rw [←Mk] at HE hG;have HER:=aa Mk;clear Mk;refine HE.o.mono ?_;rintro e v9 ⟨rfl,z,hv9⟩;have Cu:Below v8.heap.size v8 v9:=by rw [hv9];exact below_drewN (Below.refl _ v8) z
     have G9:=aa (G8.o.over Cu);have HO9:=aa (lj HO.o Cu);have HE9:=aa (Vv G9.o.rd);rw [←HER.o] at HE9;clear Cu hv9;by_cases h0:er=0
     case neg =>
      rw [if_pos h0] at hG;have wP:=aa hG;have q2:(er != 0)=true:=by simpa using h0
      clear hG h0;go_wp2_with fail;refine HE9.o.mono ?_;rintro e v10 ⟨rfl,z2,Yu⟩;have Ib:=aa (G9.o.over (zM:=v10) (by rw [Yu];exact below_drewN (Below.refl _ v9) z2));have JO:Row v10 Z 26 [.int .i64 0,.int .i64 0,.int .i64 0,.int .i64 0,.int .i64 0,.int .i64 0,.int .i64 0,.slice none 0 0]:=by rw [HZ.o];exact Ib.o.Fk
      have o7:=aa JO;clear Yu JO;go_wp2_with (refine aF rfl 26 (.tmp 2) (.tmp 58) rfl Z 0 #[.int .i64 0,.int .i64 0,.int .i64 0,.int .i64 0,.int .i64 0,.int .i64 0,.int .i64 0,.slice none 0 0] rfl rfl o7.o (by kernel_rfl) (by simp) (by simp [Value.oneCell']) [.int .i64 0,.int .i64 0,.int .i64 0,.int .i64 0,.int .i64 0,.int .i64 0,.int .i64 0,.slice none 0 0] rfl ?_);obtain ⟨h1,h2⟩:=DA.o v10 o7.o Ib.o.aI;refine bodyPost_ret (aM rfl _ _ Z _ _ _ _ _ rfl rfl h1 Tryz.underlying26 rfl (by kernel_rfl)) rfl ?_;rw [wP.o];exact ⟨none,0,rfl,nh _ _,h2⟩
     case pos =>
      subst h0;rw [if_neg (by simp)] at hG;have ZA:=aa hG;have r9:Row v9 I 26 [.int .i64 (n0:Nat),.int .i64 (n1:Nat),.int .i64 (n2:Nat),.int .i64 (n3:Nat),.int .i64 (n4:Nat),.int .i64 (n5:Nat),.int .i64 (n6:Nat),.slice A' code.length c']:=G9.o.row;have m0:=r9.cell 0;have m1:=r9.cell 1;have m2:=r9.cell 2;have m3:=r9.cell 3;have m4:=r9.cell 4;have m5:=r9.cell 5;have m6:=r9.cell 6;have m7:=r9.cell 7;have lI:=r9.lt;simp only [List.getElem?_cons_succ,List.getElem?_cons_zero] at m0 m1 m2 m3 m4 m5 m6 m7;clear r9 hG;go_wp2_with fail;refine (ez.o v9).mono ?_;rintro e v10 ⟨rfl,hb⟩;have Ib:=aa (G9.o.over hb);have abH:=aa (lj HO9.o hb);have JO:Row v10 Z 26 [.int .i64 0,.int .i64 0,.int .i64 0,.int .i64 0,.int .i64 0,.int .i64 0,.int .i64 0,.slice none 0 0]:=by rw [HZ.o];exact Ib.o.Fk
      have o7:=aa JO;clear JO hb m0 m1 m2 m3 m4 m5 m6 m7 lI;have r9:Row v10 I 26 [.int .i64 (n0:Nat),.int .i64 (n1:Nat),.int .i64 (n2:Nat),.int .i64 (n3:Nat),.int .i64 (n4:Nat),.int .i64 (n5:Nat),.int .i64 (n6:Nat),.slice A' code.length c']:=Ib.o.row;have m0:=r9.cell 0;have m1:=r9.cell 1;have m2:=r9.cell 2;have m3:=r9.cell 3;have m4:=r9.cell 4;have m5:=r9.cell 5;have m6:=r9.cell 6;have m7:=r9.cell 7;have lI:=r9.lt;simp only [List.getElem?_cons_succ,List.getElem?_cons_zero] at m0 m1 m2 m3 m4 m5 m6 m7;clear r9;by_cases hr:J.right
      case neg =>
       have hG:=ZA.o;rw [if_neg hr] at hG;have wP:=aa hG;have q3:decide J.right=false:=by simpa using hr
       rw [q3];clear hG hr;go_wp2_with (refine aF rfl 26 (.tmp 2) (.tmp 64) rfl Z 0 #[.int .i64 0,.int .i64 0,.int .i64 0,.int .i64 0,.int .i64 0,.int .i64 0,.int .i64 0,.slice none 0 0] rfl rfl o7.o (by kernel_rfl) (by simp) (by simp [Value.oneCell']) [.int .i64 0,.int .i64 0,.int .i64 0,.int .i64 0,.int .i64 0,.int .i64 0,.int .i64 0,.slice none 0 0] rfl ?_);obtain ⟨h1,h2⟩:=DA.o v10 o7.o Ib.o.aI;refine bodyPost_ret (aM rfl _ _ Z _ _ _ _ _ rfl rfl h1 Tryz.underlying26 rfl (by kernel_rfl)) rfl ?_;rw [wP.o];exact ⟨none,0,rfl,nh _ _,h2⟩
      case pos =>
       have hG:=ZA.o;rw [if_pos hr] at hG;have wP:=aa hG;have q3:decide J.right=true:=by simpa using hr
       rw [q3];clear hG hr;go_wp2_with (refine aF rfl 26 (.tmp 2) (.tmp 65) rfl Z 0 #[.int .i64 (n0:Nat),.int .i64 (n1:Nat),.int .i64 (n2:Nat),.int .i64 (n3:Nat),.int .i64 (n4:Nat),.int .i64 (n5:Nat),.int .i64 (n6:Nat),.slice A' code.length c'] rfl rfl o7.o (by kernel_rfl) (by simp) (by simp [Value.oneCell']) [.int .i64 (n0:Nat),.int .i64 (n1:Nat),.int .i64 (n2:Nat),.int .i64 (n3:Nat),.int .i64 (n4:Nat),.int .i64 (n5:Nat),.int .i64 (n6:Nat),.slice A' code.length c'] rfl ?_);have hk:=fV (Kept.refl (fun i=>i=Z) v10) (g:=Z) (Or.inl rfl) #[.int .i64 (n0:Nat),.int .i64 (n1:Nat),.int .i64 (n2:Nat),.int .i64 (n3:Nat),.int .i64 (n4:Nat),.int .i64 (n5:Nat),.int .i64 (n6:Nat),.slice A' code.length c'];refine bodyPost_ret (aM rfl _ _ Z _ _ _ _ _ rfl rfl (o7.o.setRow [.int .i64 (n0:Nat),.int .i64 (n1:Nat),.int .i64 (n2:Nat),.int .i64 (n3:Nat),.int .i64 (n4:Nat),.int .i64 (n5:Nat),.int .i64 (n6:Nat),.slice A' code.length c']) Tryz.underlying26 rfl (by kernel_rfl)) rfl ?_;rw [wP.o,HJ.o];exact ⟨A',c',rfl,(hk.own abH.o fun k h e=>by have:=abR.o k h;have:=HZI.o;omega).mono lv.o,Ib.o.aI.trans (hk.below Ib.o.aI.size fun i hi e=>by have:=HZ.o;omega)⟩
end sk
namespace store


open Go.RowKit Go.Deep base obj mem sep bf bk record bP aU image bK bR chain bw
section
variable {w0 w : World} {l : List aD} {X : Nat} {tv : List Value} {v : Value} {P : List (Nat × List Value)} {ys : List (dH × RP)} {p : Nat}
theorem Px {g:Nat} {xs:List Value} (h:St w0 w (row g 5 xs::cw X tv v P ys::l)):St w0 w (cw X tv v ((g,xs)::P) ys::l):=by
 have h1:=(ec h.swap).pick 4 rfl;have h2:=((h1.pick 3 rfl).swap)
 have h3:=sL (P':=(g,xs)::P) (fun x hx=>List.mem_cons_of_mem _ hx) ((Js h2).pick 3 rfl);exact qA (I0 ((h3.pick 3 rfl).pick 3 rfl))
def dH.Fh (a:dH) (k:Int) (K:Option Addr×Nat):dH:=if k=0 then { a with K0:=K } else { a with K1:=K }
theorem Yo (h:St w0 w (cw X tv v P ys::l)) (hp:p < ys.length) {k:Nat} (hk:k < 2):∃(T c:Nat) (cs:List Value),ys[p].1.vI=.slice (some ⟨T,0,none⟩) 2 c∧Row w T 26 cs∧k*8+8≤cs.length∧
  ∀(i:aw) (K:Option Addr×Nat),St w0 (w.setRow T (cs.take (k*8)++aw.row i K++cs.drop (k*8+8)).toArray) (cw X tv v P (ys.set p (ys[p].1.Fh k K,ys[p].2.mB k i))::l):=by
 obtain ⟨hb,h1⟩:=Ft h hp;rcases (by omega:k=0∨k=1) with rfl|rfl
 ·obtain ⟨T,c,sM,e,h2,iW⟩:=uz (n:=2) (pre:=[]) (c:=aw.row ys[p].2.i0 ys[p].1.K0) (post:=aw.row ys[p].2.i1 ys[p].1.K1) (h1.pick 3 rfl) (by omega);refine ⟨T,c,_,e,h2.row.1,by simp [aw.row],fun i K=>?_⟩;have h3:=iW _ _ (aw.row i K) rfl (h2.setRow ([]++(aw.row i K++sM)));have h4:=((h3.pick 3 rfl).pick 3 rfl).pick 3 rfl;rw [←uf (ys:=ys) (y:=(ys[p].1.Fh (0:Nat) K,ys[p].2.mB (0:Nat) i)) hp rfl] at h4;exact BE hp (fun _ h=>h) hb h4
 ·obtain ⟨T,c,sM,e,h2,iW⟩:=uz (n:=2) (pre:=aw.row ys[p].2.i0 ys[p].1.K0) (c:=aw.row ys[p].2.i1 ys[p].1.K1) (post:=[]) (h1.pick 3 rfl) (by omega);refine ⟨T,c,_,e,h2.row.1,by simp [aw.row],fun i K=>?_⟩;have h3:=iW _ _ (aw.row i K) rfl (h2.setRow (aw.row ys[p].2.i0 ys[p].1.K0++(aw.row i K++sM)));have h4:=((h3.pick 3 rfl).pick 3 rfl).pick 3 rfl;rw [←uf (ys:=ys) (y:=(ys[p].1.Fh (1:Nat) K,ys[p].2.mB (1:Nat) i)) hp rfl] at h4;exact BE hp (fun _ h=>h) hb h4
theorem Lm (x:RP) (k:Int):x.bx k (x.slot k)=x:=by unfold RP.bx RP.slot;split<;>rfl
theorem Jg {b c n:Nat} (h:St w0 w (cw X tv (.slice (some ⟨b,0,none⟩) n c) P ys::l)) (iR:tv.length=5) (hp:p < ys.length) (hn:ys.length=n):∃bS oS cS bI oI cI,tX w X n p ys[p] b 0 c bS oS cS bI oI cI:=by
 obtain ⟨b2,off,c2,bS,oS,cS,bI,oI,cI,ha⟩:=sj h iR hp;have x5:=ha.x5;rw [(ec h).row.1.cell 5,List.getElem?_append_right (by omega),iR] at x5;simp only [Nat.sub_self,List.getElem?_cons_zero] at x5;injection x5 with e1
 injection e1 with e1 _ e3
 injection e1 with e1
 injection e1 with e1 e2
 subst e1;subst e2;subst e3;rw [hn] at ha;exact ⟨bS,oS,cS,bI,oI,cI,ha⟩
theorem tX.bu {n b off c bS oS cS bI oI cI:Nat} {y:dH×RP} (h:tX w X n p y b off c bS oS cS bI oI cI) {k:Nat} (hk:k < 2):w.cell? ⟨bI,oI+k*8+1,none⟩=some (.int .i64 (y.2.ek k).version)∧bI < w.heap.size:=by
 rcases (by omega:k=0∨k=1) with rfl|rfl
 ·exact ⟨h.il 1 _ rfl,h.lI⟩
 ·exact ⟨h.il 9 _ rfl,h.lI⟩
theorem gM.drop {w':World} {B:aD} {L:List RP} (h:gM w0 w' X tv v P (B::l) L):gM w0 w' X tv v P l L:=by
 obtain ⟨P',iy,h1,h2,h3⟩:=h;exact ⟨P',iy,h1,h2.swap.drop,h3⟩
theorem gM.over {w1 w':World} {L:List RP} (h:gM w0 w1 X tv v P l L) (hb:Below w1.heap.size w1 w'):gM w0 w' X tv v P l L:=by
 obtain ⟨P',iy,h1,h2,h3⟩:=h;exact ⟨P',iy,h1,h2.below hb,h3⟩
theorem gM.image {w':World} {g:Nat} {xs:List Value} {P2:List (Nat×List Value)} {qO:List (dH×RP)} (hp:p < qO.length) (hP:∀x∈P,x∈P2) (hK:jn w0 P2 qO) {k:Nat} (hk:k < 2) {i:aw} {c:Nat} (hi:i.code.length≤1000000) (hx:xs.take i.code.length=aP i.code)
  (h:St w0 w' (cw X tv v P2 (qO.set p (qO[p].1.Fh k (some ⟨g,0,none⟩,c),qO[p].2.mB k i))::row g 5 xs::l)):gM w0 w' X tv v P l ((qO.map (·.2)).set p (qO[p].2.mB k i)):=by
 refine ⟨(g,xs)::P2,_,fun x hx=>List.mem_cons_of_mem _ (hP x hx),Px h.swap,by rw [List.map_set],?_⟩;have hn:vp w0 ((g,xs)::P2) (some ⟨g,0,none⟩,c) i:=⟨hi,.inr ⟨g,xs,by simp,rfl,hx⟩⟩
 have h2:=hK _ (List.getElem_mem hp);have hm:∀x∈P2,x∈(g,xs)::P2:=fun x hx=>List.mem_cons_of_mem _ hx;rcases (by omega:k=0∨k=1) with rfl|rfl
 ·exact hK.set (a:=qO[p].1.Fh (0:Nat) (some ⟨g,0,none⟩,c)) (x:=qO[p].2.mB (0:Nat) i) hm hn (h2.2.mono hm) p
 ·exact hK.set (a:=qO[p].1.Fh (1:Nat) (some ⟨g,0,none⟩,c)) (x:=qO[p].2.mB (1:Nat) i) hm (h2.1.mono hm) hn p
theorem Sa {a:en} {t:aQ} (h:St w0 w (cw X [.int .i64 t.frame,.slice a.AP t.parts.length a.cP,.slice a.AW t.aC.length a.cW,.slice a.AC t.au.length a.cC,.int .i64 t.ay] v P ys::l)) (hr:∀y∈ys,y.2.aA.right=true) (hS:∀y∈ys,∀k:Int,Dx (y.2.slot k)) (hK:jn w0 P ys) (ht:∀w',Below w0.heap.size w0 w'→ma w' a t) (q se:Int) :
  Calls Tryz.prog 62 #[.pointer (some ⟨X,0,none⟩),.int .i64 q,.int .i64 se] w fun e w'=>e=.returned (.int .i64 (mY t (ys.map (·.2)) q se).1)∧gM w0 w' X [.int .i64 t.frame,.slice a.AP t.parts.length a.cP,.slice a.AW t.aC.length a.cW,.slice a.AC t.au.length a.cC,.int .i64 t.ay] v P l (mY t (ys.map (·.2)) q se).2:=by
 have HF:=aa (FY h rfl hr q se);by_cases hf:dR (cK (ys.map (·.2))) q se=0
 case neg =>
  have e:mY t (ys.map (·.2)) q se=(dR (cK (ys.map (·.2))) q se,ys.map (·.2)):=by unfold mY;rw [if_pos hf]
  rw [e];have HH:=aa (fun (w':World) (hb:Below w.heap.size w w')=>gM.same hK (h.below hb));generalize dR (cK (ys.map (·.2))) q se=r at *;have g:(r != 0)=true:=by simpa using hf
  clear e h hf;go_enter Tryz.func62,Tryz.ntmps62;go_wp2_with fail;refine HF.o.mono ?_;rintro e w2 ⟨rfl,hb⟩;have HX:=aa (HH.o w2 hb);clear hb;go_wp2_with fail;go_ret;exact ⟨rfl,HX.o⟩
 case pos =>
 obtain ⟨p,rfl,hp,_⟩:=kW (ur hf);rw [hf] at HF;rw [gN] at hp;obtain ⟨b0,c0,rfl,-⟩:=Fj h hp rfl;obtain ⟨x,hx⟩:∃x,x=ys[p].2:=⟨_,rfl⟩
 have HE:=aa (fun (k:Nat) (hk:x.ot=k) (D:List Int) (f:Int) (hD:dt (x.slot k)=(D,f))=>show mY t (ys.map (·.2)) (p:Int) se=if f≠0 then (f,ys.map (·.2)) else if (b9 D).2≠0 then ((b9 D).2,ys.map (·.2)) else if bX t p (b9 D).1 (x.ek x.aA.ax).version≠0 then (bX t p (b9 D).1 (x.ek x.aA.ax).version,ys.map (·.2)) else ((qw t x (b9 D).1).1,(ys.map (·.2)).set p (qw t x (b9 D).1).2) by
  have e:lJ (ys.map (·.2)) (p:Int)=(D,f):=by unfold lJ;rw [jg,qN hp,←hx,hk,hD]
  unfold mY
  rw [if_neg (by simp [hf]),e,jg,qN hp,←hx,ea])
 have jI:=aa (fun (w':World) (hb:Below w.heap.size w w')=>Ip (h.below hb) rfl hr hp);have ES:=aa (fun (k:Nat)=>hS _ (List.getElem_mem hp) k);have HRX:=aa (hr _ (List.getElem_mem hp));rw [←hx] at jI ES HRX;have HK:=aa hK;have HT:=aa ht;have HLS:=aa (show (ys.map (·.2)).set p x=ys.map (·.2) by rw [hx,←List.map_set,List.set_getElem_self]);have k1:(p:Int) < (ys.length:Int):=by omega
 have k0:(0:Int)≤(p:Int):=by omega
 obtain ⟨L,hL⟩:∃L,L=ys.map (·.2):=⟨_,rfl⟩
 have tB:=aa (show L[p]?=some x by rw [hL,hx];simp [hp]);rw [←hL] at HE HLS jI ⊢;obtain ⟨n,hn⟩:∃n,n=ys.length:=⟨_,rfl⟩
 have Bh:=aa (show L.length=n by rw [hL,hn];simp);rw [←hn] at k1 h jI ⊢;clear hf hK ht hx hS hr hp hL h hn;go_enter Tryz.func62,Tryz.ntmps62;go_wp2_with fail;refine HF.o.mono ?_;rintro e w2 ⟨rfl,hb⟩;obtain ⟨k,b,c,T,cT,pre,post,F,hk,jP,dC,⟨x5,lX,r3,r6,lb⟩,hl,h3,iW⟩:=jI.o w2 hb
 obtain ⟨rfl,rfl⟩:b=b0∧c=c0:=by
  obtain ⟨P',iy,_,h5,_,_⟩:=iW w2 P (x.slot k) l (fun _ h=>h) h3 HK.o;have e:=x5.symm.trans ((ec h5).row.1.cell 5);injection e with e1
  injection e1 with e1 _ e3
  injection e1 with e1
  injection e1 with e1 e2
  exact ⟨e1,e3⟩
 have k2:(k:Int) < 2:=by omega
 have k3:(0:Int)≤(k:Int):=by omega
 have tZ:=aa (sQ r3 lb jP hk);have kN:=aa (S3 hl h3 (ES.o k).b8)
 have ix:=aa (fun (w':World) (B:aD) (h:St w0 w' (B::mC T pre post P (x.slot k)::eL P::F::l))=>show gM w0 w' X [.int .i64 t.frame,.slice a.AP t.parts.length a.cP,.slice a.AW t.aC.length a.cW,.slice a.AC t.au.length a.cC,.int .i64 t.ay] (.slice (some ⟨b,0,none⟩) n c) P (B::l) L from by
  have h5:=iW w' P (x.slot k) (B::l) (fun _ h=>h) (h.perm (List.perm_middle (l₁:=[_,_,_])).symm) HK.o;rw [Lm,HLS.o] at h5
  exact h5)
 have Ld:=aa (HE.o k dC);have CJ:=aa hk;have HK1:=aa jP;have oe:=aa dC;clear h3 iW jP dC hb;generalize x.aA.aj=rc at r3 tZ;go_wp2_with fail;refine tZ.o.mono ?_;rintro e w3 ⟨rfl,hw⟩;rw [hw];clear hw;go_wp2_with fail;refine kN.o.mono ?_;rintro e w3 ⟨A1,n1,c1,B,rfl,vY,hg,h4⟩;have Ci:=ix.o w3 B h4;have hlen:=OD (ES.o k).b8;have N9:=(ES.o k).iS;obtain ⟨D,hD⟩:∃D,D=dt (x.slot k):=⟨_,rfl⟩
 rw [←hD] at hg hlen N9 ⊢;have HE1:=aa (Ld.o D.1 D.2 (by rw [←hD]));clear hD h4 x5 lX r3 r6 lb;obtain ⟨D,f⟩:=D;dsimp only at hg hlen N9 HE1 ⊢;have HXT:=aa Ci;by_cases hf:f=0
 case neg =>
  have q1:(f != 0)=true:=by simpa using hf
  have ub:=aa (HE1.o.trans (if_pos hf));clear hf;go_wp2_with fail;go_ret;rw [ub.o];exact ⟨rfl,HXT.o.drop⟩
 case pos =>
 subst hf;have ub:=aa (HE1.o.trans (if_neg (by simp)));obtain ⟨P2,qO,Mq,h5,zy,EC⟩:=Ci;have HGT:=aa (sk.Wa w3 D n1 hg.1 (by rw [←hg.1];omega) N9 A1 c1 vY (hg.2 w3 _ (h5.pick 1 rfl)));have H5:=aa h5;have Bi:=aa (fun (h:(b9 D).2=0)=>Oj (b:=D) (j:=(b9 D).1) (by rw [←h]));generalize hGG:b9 D=G at *;clear h5 hg hlen N9 vY;go_wp2_with fail;refine HGT.o.mono ?_;rintro e w4 ⟨A2,c2,rfl,ho,hb⟩;have h6:=H5.o.cQ hb ho;clear ho hb;obtain ⟨⟨j0,j1,j2,j3,j4,j5,j6,jc⟩,g⟩:=G;dsimp only [aw.val] at h6 ub Bi ⊢;obtain ⟨m,hm⟩:∃m,m=jc.length:=⟨_,rfl⟩
 rw [←hm] at h6 ⊢
 have hmx:m≤9223372036854775807:=by
  obtain ⟨A,c,e,h1,h2⟩:=aH h6.own;injection e;unfold maxLen at h2;omega
 have HM:=aa hm;obtain ⟨I,hI⟩:∃I,I=w4.heap.size:=⟨_,rfl⟩
 obtain ⟨w5,dQ⟩:∃v,v=w4.alloc (.cells #[.int .i64 j0,.int .i64 j1,.int .i64 j2,.int .i64 j3,.int .i64 j4,.int .i64 j5,.int .i64 j6,.slice A2 m c2] 26):=⟨_,rfl⟩
 have h7:=h6.new 26 #[.int .i64 j0,.int .i64 j1,.int .i64 j2,.int .i64 j3,.int .i64 j4,.int .i64 j5,.int .i64 j6,.slice A2 m c2];rw [←hI,←dQ] at h7;have H7:=aa (h7.pick 2 rfl);have HI:=aa hI;have pZ:=aa dQ;clear hGG hm h6 h7 hI dQ;go_upto_region 10 with fail;rw [←pZ.o,←HI.o];by_cases wy:g=0
 case neg =>
  have q1:(g != 0)=true:=by simpa using wy
  have Bm:=aa (ub.o.trans (if_pos wy));have KS:=aa (show gM w0 w5 X [.int .i64 t.frame,.slice a.AP t.parts.length a.cP,.slice a.AW t.aC.length a.cW,.slice a.AC t.au.length a.cC,.int .i64 t.ay] (.slice (some ⟨b,0,none⟩) n c) P l L from ⟨P2,qO,Mq,((((H7.o.pick 1 rfl).drop.pick 1 rfl).drop.pick 1 rfl).drop),zy,EC⟩);clear wy;go_wp2_with fail;go_ret;rw [Bm.o];exact ⟨rfl,KS.o⟩
 case pos =>
 subst wy;have Bm:=aa (ub.o.trans (if_neg (by simp)))
 have Vi:p < qO.length:=by
  have h1:=congrArg List.length zy;rw [gN,Bh.o] at h1;omega
 have ru:qO.length=n:=by
  have h1:=congrArg List.length zy;rw [gN,Bh.o] at h1;exact h1
 have Cj:qO[p].2=x:=by
  have h1:=tB.o;rw [←zy] at h1;simpa [Vi] using h1
 obtain ⟨bS,oS,cS,bI,oI,cI,ha⟩:=Jg H7.o rfl Vi ru;have zp:=HRX.o;have et:=fC.la zp;obtain ⟨ac,AF,Y4⟩:∃ac:Nat,x.aA.ax=ac∧ac < 2:=⟨x.aA.ax.toNat,by omega,by omega⟩
 have mV:=aa (fun (w':World) (h:Below w5.heap.size w5 w')=>show w'.cell? ⟨b,p*8,none⟩=some (.int .i64 x.aA.part)∧w'.cell? ⟨b,p*8+1,none⟩=some (.int .i64 x.aA.seq)∧w'.cell? ⟨b,p*8+2,none⟩=some (.int .i64 ac)∧w'.cell? ⟨b,p*8+3,none⟩=some (.int .i64 x.aA.aj)∧w'.cell? ⟨b,p*8+4,none⟩=some (.int .i64 x.aA.left)∧w'.cell? ⟨b,p*8+5,none⟩=some (.int .i64 x.aA.bad)∧b < w'.heap.size from by
  obtain ⟨r0,r1,r2,r3,r4,r5,r6,r7,lb⟩:=(ha.over h).recs;rw [Cj,Nat.zero_add] at r0 r1 r2 r3 r4 r5;rw [AF] at r2
  exact ⟨r0,r1,r2,r3,r4,r5,lb⟩)
 obtain ⟨-,-,-,-,-,-,-,r7,-⟩:=ha.recs;rw [Nat.zero_add] at r7;obtain ⟨rv,lI⟩:=ha.bu Y4;rw [Cj,←AF] at rv;have rX:=(ec H7.o).row.1;have t0:w5.cell? ⟨X,0,none⟩=some (.int .i64 t.frame):=rX.cell 0;have t1:w5.cell? ⟨X,1,none⟩=some (.slice a.AP t.parts.length a.cP):=rX.cell 1;have t2:w5.cell? ⟨X,2,none⟩=some (.slice a.AW t.aC.length a.cW):=rX.cell 2;have t3:w5.cell? ⟨X,3,none⟩=some (.slice a.AC t.au.length a.cC):=rX.cell 3;have t4:w5.cell? ⟨X,4,none⟩=some (.int .i64 t.ay):=rX.cell 4;have lX:=rX.lt;have rI:=(H7.o.pick 1 rfl).row.1;have i0:=rI.cell 0;have i1:=rI.cell 1;have i2:=rI.cell 2;have i3:=rI.cell 3;have i4:=rI.cell 4;have i5:=rI.cell 5;have i6:=rI.cell 6;have i7:=rI.cell 7;have lII:=rI.lt;obtain ⟨r0,r1,r2,r3,r4,r5,lb⟩:=mV.o w5 (Below.refl _ _);have mj:=aa (zZ (A:=A2) (c:=c2) (i:=⟨j0,j1,j2,j3,j4,j5,j6,jc⟩) (bu:=(x.ek x.aA.ax).version) (HT.o w5.drew H7.o.drew.aI) (p:Int) (by rw [←HM.o];exact hmx));simp only [en.val,aw.val,←HM.o] at mj;have R7:=aa AF;have EY:=aa Vi;have oa:=aa Cj;have zF:=aa zy;have tE:=aa Mq;have MQ:=aa EC;have q0:(0:Int)≤(ac:Int):=by omega
 have q1:(ac:Int) < 2:=by omega
 generalize (x.ek x.aA.ax).version=bu at *;clear rX rI ha et AF Y4 Cj zp zy Mq EC ru;go_wp2_with fail;refine dA ?_;(refine bj [0,1,2,3,4,5,6,7,8,9,10,11,12,13,14,15,16,17] ?_;simp only [pick,af,ae,ah];(iterate 18 still_step);refine wpStill_nil ?_);(try simp only [af,ae,ah,Act.put,aq,ak,ao]);(refine aL 18 ?_;(try simp only [af,ae,ah]);go_simp);refine mj.o.mono ?_;rintro e w6 ⟨rfl,hb⟩;have qb:=aa ((Below.refl w5.heap.size w5).drew.trans hb);clear hb r0 r1 r2 r3 r4 r5 r7 lb rv lI t0 t1 t2 t3 t4 lX i0 i1 i2 i3 i4 i5 i6 i7 lII mj;dsimp only;obtain ⟨ck,jF⟩:∃v,v=bX t p ⟨j0,j1,j2,j3,j4,j5,j6,jc⟩ bu:=⟨_,rfl⟩
 rw [←jF];rw [←jF] at Bm;clear jF;(try simp only [af,ae,ah,Act.put,aq,ak,ao]);(refine bj [19] ?_;simp only [pick,af,ae,ah];(iterate 1 still_step);refine wpStill_nil ?_);refine bZ ?_;have H8:=aa (H7.o.below qb.o);by_cases tV:ck=0
 case neg =>
  have q2:(ck != 0)=true:=by simpa using tV
  have HE4:=aa (Bm.o.trans (if_pos tV));have KS:=aa (show gM w0 w6 X [.int .i64 t.frame,.slice a.AP t.parts.length a.cP,.slice a.AW t.aC.length a.cW,.slice a.AC t.au.length a.cC,.int .i64 t.ay] (.slice (some ⟨b,0,none⟩) n c) P l L from ⟨P2,qO,tE.o,((((H8.o.pick 1 rfl).drop.pick 1 rfl).drop.pick 1 rfl).drop),zF.o,MQ.o⟩);clear tV;go_wp2_with fail;go_ret;rw [HE4.o];exact ⟨rfl,KS.o⟩
 case pos =>
 subst tV;have HE4:=aa (Bm.o.trans (if_neg (by simp)));obtain ⟨r0,r1,r2,r3,r4,r5,lb⟩:=mV.o w6 qb.o;have rX:=(ec H8.o).row.1;have t4:w6.cell? ⟨X,4,none⟩=some (.int .i64 t.ay):=rX.cell 4;have lX:=rX.lt
 have vr:=aa (fun (w':World) (hb:Below w6.heap.size w6 w')=>CO (H8.o.below hb) EY.o (by rw [oa.o];exact HRX.o) MQ.o (b:=b) (c:=c) (by
  have h1:=congrArg List.length zF.o;rw [gN,Bh.o] at h1
  rw [h1]) (fh t x.aA))
 rw [oa.o,zF.o] at vr;simp only [fh,HK1.o,Rec.mA] at vr;have MJ:=aa (show fh t x.aA=⟨x.aA.part,x.aA.seq,k,x.aA.aj,t.ay,0⟩ by rw [fh,HK1.o]);have KT:=aa (show qw t x ⟨j0,j1,j2,j3,j4,j5,j6,jc⟩=((eo x (fh t x.aA)).1,if (eo x (fh t x.aA)).1=0 then (eo x (fh t x.aA)).2.mB x.ot ⟨j0,j1,j2,j3,j4,j5,j6,jc⟩ else (eo x (fh t x.aA)).2) from rfl);rw [MJ.o] at KT;generalize eo x ⟨x.aA.part,x.aA.seq,k,x.aA.aj,t.ay,0⟩=sv at *;generalize x.aA.part=o0,x.aA.seq=o1,x.aA.aj=o3,x.aA.left=o4,x.aA.bad=o5 at r0 r1 r3 r4 r5 vr;clear rX;go_wp2_with fail;refine (vr.o _ ((Below.refl _ w6).alloc (Nat.le_refl _) _)).mono ?_;rintro e w7 ⟨rfl,P3,O0,hP3,h9,J9,hK3⟩;clear r0 r1 r2 r3 r4 r5 lb t4 lX vr;obtain ⟨er,x3⟩:=sv;dsimp only at J9 KT ⊢;have MN:=aa (fun y hy=>hP3 y (tE.o y hy));by_cases he:er=0
 case neg =>
  have q2:(er==0)=false:=by simpa using he
  have HE5:=aa (show mY t L (p:Int) se=(er,L.set p x3) by rw [HE4.o,KT.o,if_neg he]);have KS:=aa (show gM w0 w7 X [.int .i64 t.frame,.slice a.AP t.parts.length a.cP,.slice a.AW t.aC.length a.cW,.slice a.AC t.au.length a.cC,.int .i64 t.ay] (.slice (some ⟨b,0,none⟩) n c) P l (L.set p x3) from ⟨P3,O0,MN.o,((((h9.pick 1 rfl).drop.pick 1 rfl).drop.pick 1 rfl).drop),J9,hK3⟩);clear he hP3 h9 J9 hK3;go_wp2_with fail;go_ret;rw [HE5.o];exact ⟨rfl,KS.o⟩
 case pos =>
 subst he;have HE5:=aa (show mY t L (p:Int) se=(0,L.set p (x3.mB k ⟨j0,j1,j2,j3,j4,j5,j6,jc⟩)) by rw [HE4.o,KT.o,if_pos rfl,oe.o])
 have ru:O0.length=n:=by
  have h1:=congrArg List.length J9;rw [gN,List.length_set,Bh.o] at h1;exact h1
 have Vh:p < O0.length:=by rw [ru];omega
 have pG:O0[p].2=x3:=by
  have h1:(O0.map (·.2))[p]?=(L.set p x3)[p]?:=by rw [J9]
  rw [List.getElem?_set_self (by rw [Bh.o];omega)] at h1;simpa [Vh] using h1
 have Qx:=Bi.o trivial
 have QA:1≤m∧m≤96:=by
  obtain ⟨_,_,_,_,_,_,_,h⟩:=Qx;rw [HM.o];dsimp only at h;omega
 obtain ⟨g,xs,rfl,_,_,Gq,dG⟩:=mD (h9.pick 2 rfl) (by omega);have jH:=dG.swap;obtain ⟨bS,oS,cS,bI,oI,cI,ha⟩:=Jg jH rfl Vh ru;obtain ⟨-,-,-,-,-,-,-,r7,lb⟩:=ha.recs;rw [Nat.zero_add] at r7;have rI:=(jH.pick 2 rfl).row.1;have i0:=rI.cell 0;have i1:=rI.cell 1;have i2:=rI.cell 2;have i3:=rI.cell 3;have i4:=rI.cell 4;have i5:=rI.cell 5;have i6:=rI.cell 6;have i7:=rI.cell 7;have lII:=rI.lt;have hIM:=Yo jH.drew Vh hk;obtain ⟨T3,cT3,cs,e3,aZ,kP,av⟩:=hIM
 obtain ⟨rfl,rfl⟩:bI=T3∧oI=0:=by
  have e:=ha.eI.symm.trans e3;injection e with e1
  injection e1 with e1
  injection e1 with e1 e2
  exact ⟨e1,e2⟩
 have mg:=av ⟨j0,j1,j2,j3,j4,j5,j6,jc⟩ (some ⟨g,0,none⟩,c2);have Qs:=gM.image (P:=P) Vh MN.o hK3 hk (i:=⟨j0,j1,j2,j3,j4,j5,j6,jc⟩) (c:=c2) (by show jc.length≤1000000;rw [←HM.o];omega) (by show xs.take jc.length=_;rw [←HM.o];simpa using Gq) (l:=l) (((mg.pick 2 rfl).drop.pick 2 rfl).drop);rw [pG,J9,List.set_set] at Qs;dsimp only [aw.row] at Qs;rw [←HM.o] at Qs;have HXI:=aa Qs;have gy:=aa aZ;have Lc:=aa kP;clear Qs av mg aZ kP e3 ha jH dG h9 Gq rI pG J9 hK3 hP3 Qx ru;go_wp2_with fail;refine dA ?_;(refine bj [0,1,2,3,4,5,6] ?_;simp only [pick,af,ae,ah];(iterate 7 still_step);refine wpStill_nil ?_);(try simp only [af,ae,ah,Act.put,aq,ak,ao]);(refine aL 7 ?_;(try simp only [af,ae,ah]));refine fH.qx 26 (.tmp 99) (.tmp 98) rfl bI (k*8) #[.int .i64 j0,.int .i64 j1,.int .i64 j2,.int .i64 j3,.int .i64 j4,.int .i64 j5,.int .i64 j6,.slice (some ⟨g,0,none⟩) m c2] rfl rfl gy.o (by kernel_rfl) Lc.o (by simp [Value.oneCell']) _ rfl ?_;(try simp only [af,ae,ah,Act.put,aq,ak,ao]);refine bZ ?_;go_wp2_with fail;go_ret;rw [HE5.o];exact ⟨rfl,HXI.o⟩
end
end store
end Go.Proofs.YtdldkkoplgkloaaGreat
