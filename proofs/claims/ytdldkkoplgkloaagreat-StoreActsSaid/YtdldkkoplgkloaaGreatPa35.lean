/- PROVED HERE: lemmas of the law. CONDITIONS: each names its own. -/
import Derived.Test.YtdldkkoplgkloaaGreatPa34
namespace Go.Proofs.YtdldkkoplgkloaaGreat
set_option linter.unusedVariables false
set_option linter.unusedSimpArgs false
set_option maxRecDepth 100000
set_option maxHeartbeats 32000000
open Go.Value renaming int → ae
open Go.IntKind renaming i64 → aa
namespace tt
open Go.RowKit Go.Deep base obj mem sep bC num bytes aW image oH
theorem O9 {b:List Int} {m:Nat} (h:b.length=m+36):(fS (b.take m)=b) ↔ (qi b&&qs b)=true:=by
 have hd:(gG (b.take m)).length=32:=fZ.qY _
 have e0:b=b.take m++((b.drop m).take 32++b.drop (m+32)):=by
  conv=>lhs;rw [←List.take_append_drop m b,←List.take_append_drop 32 (b.drop m),List.drop_drop]
 have e1:b.take (m+32)=b.take m++(b.drop m).take 32:=by rw [List.take_add]
 have l0:(b.take m).length=m:=by rw [fW];omega
 have l1:((b.drop m).take 32).length=32:=by rw [fW,List.length_drop];omega
 simp only [qi,qs,Bool.and_eq_true,decide_eq_true_eq,h,show m+36-4=m+32 by omega,show m+36-36=m by omega]
 constructor
 ·intro hs;unfold fS at hs;have h2:b.take m++(gG (b.take m)++be 4 (sum (b.take m++gG (b.take m))))=b.take m++((b.drop m).take 32++b.drop (m+32)):=by rw [←e0,←List.append_assoc];exact hs
  have h3:=List.append_cancel_left h2;obtain ⟨h4,h5⟩:=List.append_inj h3 (by rw [hd,l1]);rw [e1,←h4];exact ⟨h5,rfl⟩
 ·rintro ⟨h1,h2⟩;unfold fS;rw [e1,←h2] at h1;rw [h1,h2,List.append_assoc,←e0]
structure GX (w:World) (R I:Nat) (xs:List Value) (s:Option (List Int)) (wk:World):Prop where
 rd:RY wk R s
 row:Row wk I 26 xs
 GA:Row wk w.heap.size 26 eo
 aE:Below w.heap.size w wk
 lt:w.heap.size < R∧R < I
theorem X0 {w w':World} {R:Nat} {s:Option (List Int)} {S:Nat→Prop} (h:RY w R s) (k:Kept S w w') (hS:∀i,i≤R→¬S i):RY w' R s:=by
 cases s with
 | none=>obtain ⟨A,n,c,i,h⟩:=h;exact ⟨A,n,c,i,h.kept k (hS R (Nat.le_refl _))⟩
 | some b =>
   obtain ⟨bs,i,h,h2⟩:=h;obtain ⟨A,c,e,hc,hs⟩:=h.cell;exact ⟨bs,i,⟨A,c,e.kept k (hS R (Nat.le_refl _)),hc,hs.below (k.below (Nat.le_of_lt e.lt) fun i hi=>hS i (by omega))⟩,h2⟩
section
variable {w : World} {R I : Nat} {xs : List Value} {s s' : Option (List Int)} {wk Bk : World}
theorem GX.step (h:GX w R I xs s wk) (hr:RY Bk R s') (hk:Kept (fun i=>i=R) wk Bk):GX w R I xs s' Bk :=
 ⟨hr,h.row.kept hk (by have:=h.lt;omega),h.GA.kept hk (by have:=h.lt;omega),h.aE.trans (hk.below h.aE.size fun i hi e=>by have:=h.lt;omega),h.lt⟩
theorem GX.put (h:GX w R I xs s wk) (k:Nat) (v:Value):GX w R I (xs.set k v) s (wk.setCell ⟨I,k,none⟩ v):=by
 have hk:Kept (fun i=>i=I) wk (wk.setCell ⟨I,k,none⟩ v):=(Kept.refl (fun i=>i=I) wk).setCell (p:=⟨I,k,none⟩) (.inl rfl) _;exact ⟨X0 h.rd hk fun i hi e=>by have:=h.lt;omega,h.row.setCell k v,h.GA.kept hk (by have:=h.lt;omega),h.aE.trans (hk.below h.aE.size fun i hi e=>by have:=h.lt;omega),h.lt⟩
theorem GX.over (h:GX w R I xs s wk) (hb:Below wk.heap.size wk Bk):GX w R I xs s Bk:=⟨h.rd.below hb,h.row.below hb h.row.lt,h.GA.below hb h.GA.lt,h.aE.trans (hb.mono h.aE.size),h.lt⟩
end
theorem X7 (w:World) (b:List Int) (n:Nat) (hn:b.length=n) (hm:n≤90000) (cG:bn b) (A:Option Addr) (c:Nat) (hc:n≤c) (hs:Sl w w.heap.size 1 A n (aP b)) :
  Calls Tryz.prog 112 #[.slice A n c] w fun e w'=>∃A' c',e=.returned (.tuple #[(b8 b).1.val A' c',ae aa (b8 b).2])∧w'.ownsRow w.heap.size 5 1 (.slice A' (b8 b).1.code.length c') (b8 b).1.code.length (aP (b8 b).1.code)∧Below w.heap.size w w':=by
 obtain ⟨Z,hZ⟩:=xE w.heap.size;obtain ⟨w1,aF⟩:=xE (w.alloc (.cells gA 26));have H1:=af (show Row w1 Z 26 eo∧Below w.heap.size w w1 from ⟨by rw [aF,hZ];exact Row.new w _ _,by rw [aF];exact (Below.refl _ w).alloc (Nat.le_refl _) _⟩);have nX:=af ((hs.below H1.o.2).more H1.o.2.size);have br:=af aF;have HZ:=af hZ;have Cu:=af (fun (w':World) (hr:Row w' Z 26 eo) (hb:Below w.heap.size w w')=>show Row (w'.setRow Z gA) Z 26 eo∧Below w.heap.size w (w'.setRow Z gA) from ⟨hr.setRow _,hb.trans ((gz (Kept.refl (fun i=>i=Z) w') (g:=Z) (Or.inl rfl) gA).below hb.size fun i hi e=>by omega)⟩);have hG:b8 b=if n < 36 then (aq.none,1) else if qi b&&qs b then kQ (b.take (n-36)) else (aq.none,10):=by unfold b8;rw [hn]
 generalize xT:b8 b=G at *;clear xT;by_cases Oi:n < 36
 ·have hw:IntKind.i64.wrap ((n:Int)-36)=(n:Int)-36:=IntWalk.i64_in _ (by omega);have g1:(n:Int)-36 < 0:=by omega
  rw [if_pos Oi] at hG;have HG:=af hG;clear aF hZ hG hs;go_enter Tryz.func112,Tryz.ntmps112;go_upto_region 1 with fail;rw [←br.o,←HZ.o];go_wp2_with (refine aB rfl 26 (.tmp 2) (.tmp 12) rfl Z 0 gA rfl rfl H1.o.1 (by kernel_rfl) (by simp) (by simp [Value.oneCell']) eo rfl ?_);obtain ⟨h1,h2⟩:=Cu.o w1 H1.o.1 H1.o.2;refine bodyPost_ret (aL rfl _ _ Z _ _ _ _ _ rfl rfl h1 Tryz.underlying26 rfl (by kernel_rfl)) rfl ?_;rw [HG.o];exact ⟨none,0,rfl,om _ _,h2⟩
 ·obtain ⟨m,rfl⟩:∃m,n=m+36:=⟨n-36,by omega⟩
  obtain ⟨bb,off,rfl,cm,fJ⟩:=hs.2 (by omega);rw [if_neg Oi,show m+36-36=m by omega] at hG;have DB:(b.take m).length=m:=by rw [fW];omega
  have FV:bn (b.take m):=fun z hz=>cG z (List.mem_of_mem_take hz)
  have jU:=af (fun (w':World) (B:Nat) (h:Sl w' B 1 (some ⟨bb,off,none⟩) (m+36) (aP b))=>show Sl w' B 1 (some ⟨bb,off,none⟩) m (aP (b.take m)) from by
   have:=yD h 0 m m rfl (by omega) rfl;rw [List.drop_zero,Nat.add_zero] at this
   exact this)
  have HT:=af (Kx w1 (some ⟨bb,off,none⟩) m c (b.take m) DB ⟨_,_,rfl⟩ (by omega) FV (jU.o _ _ nX.o));have lJ:=af (show (fS (b.take m)).length=m+36 by unfold fS;rw [gC,gC,DB,bp,show (gG (b.take m)).length=32 from fZ.qY _]);have abh:=af (O9 hn);have HBM:=af FV;have HLM:=af DB;have HBN:=af hn;have lM:=af cG;have hw:IntKind.i64.wrap (((m+36:Nat):Int)-36)=(m:Int):=by rw [IntWalk.i64_in _ (by omega)];omega
  have hw':IntKind.i64.wrap ((m:Int)+36-36)=(m:Int):=by rw [IntWalk.i64_in _ (by omega)];omega
  have g1:¬(m:Int) < 0:=by omega
  have g2:(m:Int)≤(c:Int):=by omega
  have g0:(0:Int)≤(m:Int):=by omega
  have HG:=af hG;clear aF hG hs fJ DB FV cG Oi hn hZ;go_enter Tryz.func112,Tryz.ntmps112;go_upto_region 1 with fail;rw [←br.o,←HZ.o];go_wp2_with fail;refine HT.o.mono ?_;rintro e w2 ⟨v,rfl,ho,hb⟩;obtain ⟨A2,c2,rfl,_,_⟩:=aD ho;have aO:=af (H1.o.2.trans (hb.mono H1.o.2.size));have dK:=af (H1.o.1.below hb H1.o.1.lt);have iy:=af ((nX.o.below hb).more hb.size);have Xs:=af (same.zH (fS (b.take m)) b A2 (some ⟨bb,off,none⟩) (m+36) (m+36) c2 c w2 lJ.o.symm HBN.o.symm (by omega) (by omega) (Sl.bP ho) iy.o)
  have HD:=af (show decide (fS (b.take m)=b)=(qi b&&qs b) by
   cases hd:qi b&&qs b with
   | false=>simp only [decide_eq_false_iff_not,abh.o,hd];decide
   | true=>simp only [decide_eq_true_eq,abh.o,hd])
  rw [HD.o] at Xs;have yi:=af cm;clear ho hb cm;go_wp2_with fail;refine Xs.o.mono ?_;rintro e w3 ⟨rfl,hb⟩;have bM:=af (aO.o.trans (hb.mono aO.o.size));have zp:=af (dK.o.below hb dK.o.lt);have Gf:=af ((iy.o.below hb).more hb.size);clear hb;cases hd:qi b&&qs b with
  | false =>
    have hG:=HG.o;rw [hd,if_neg (by simp)] at hG;have ym:=af hG;clear hG;go_wp2_with (refine aB rfl 26 (.tmp 2) (.tmp 20) rfl Z 0 gA rfl rfl zp.o (by kernel_rfl) (by simp) (by simp [Value.oneCell']) eo rfl ?_);obtain ⟨h1,h2⟩:=Cu.o w3 zp.o bM.o;refine bodyPost_ret (aL rfl _ _ Z _ _ _ _ _ rfl rfl h1 Tryz.underlying26 rfl (by kernel_rfl)) rfl ?_;rw [ym.o];exact ⟨none,0,rfl,om _ _,h2⟩
  | true =>
    have hG:=HG.o;rw [hd,if_pos rfl] at hG;obtain ⟨R,hR⟩:=xE w3.heap.size;obtain ⟨w4,dW⟩:=xE (w3.alloc (.cells #[.slice (some ⟨bb,off,none⟩) m c,ae aa 0,ae aa 0] 230));have pO:Below w3.heap.size w3 w4:=by rw [dW];exact (Below.refl _ w3).alloc (Nat.le_refl _) _
    have hZR:=zp.o.lt;have HY4:=af (show RY w4 R (some (b.take m)) from ⟨b.take m,0,⟨some ⟨bb,off,none⟩,c,by rw [dW,hR,HLM.o];exact Row.new w3 _ _,by rw [HLM.o];omega,by rw [hR,HLM.o];exact jU.o _ _ (Gf.o.below pO)⟩,by omega,by rw [HLM.o];omega,HBM.o,by rw [List.drop_zero]⟩);have fD:=af (bM.o.trans (pO.mono bM.o.size));have py:=af (zp.o.below pO zp.o.lt);have HZR:=af (show Z < R by rw [hR];exact hZR);have HR:=af hR;have kL:=af dW;clear dW pO hR hZR hd;go_upto_region 7 with fail;rw [←kL.o,←HR.o];obtain ⟨x,hx⟩:=xE (b.take m);rw [←hx] at HY4 hG;have hP:kQ x=if (rdNum 2 (some x)).1≠19529 then (aq.none,2) else if ml (lj (rdNum 2 (some x)).2).2≠0 then (aq.none,ml (lj (rdNum 2 (some x)).2).2) else if (lj (rdNum 2 (some x)).2).1.right then ((lj (rdNum 2 (some x)).2).1,0) else (aq.none,3):=rfl;rw [hP] at hG;clear hP hx;go_wp2_with fail;refine (vh HY4.o 2 (by omega) (by omega)).mono ?_;rintro e w5 ⟨rfl,bQ,hk⟩;obtain ⟨x0,yR⟩:=xE (rdNum 2 (some x));rw [←yR] at bQ hG ⊢;obtain ⟨mk,s0⟩:=x0;dsimp only at bQ hG ⊢;have lN:=af (fD.o.trans (hk.below fD.o.size fun i hi e=>by have:=HZR.o;have:=HZ.o;omega));have yf:=af (py.o.kept hk (by have:=HZR.o;omega));have HY5:=af bQ;clear bQ hk yR;by_cases qB:mk=19529
    case neg =>
     rw [if_pos qB] at hG;have ym:=af hG;have q1:((mk:Int) != 19529)=true:=by simp;omega
     clear hG qB;go_wp2_with (refine aB rfl 26 (.tmp 2) (.tmp 29) rfl Z 0 gA rfl rfl yf.o (by kernel_rfl) (by simp) (by simp [Value.oneCell']) eo rfl ?_);obtain ⟨h1,h2⟩:=Cu.o w5 yf.o lN.o;refine bodyPost_ret (aL rfl _ _ Z _ _ _ _ _ rfl rfl h1 Tryz.underlying26 rfl (by kernel_rfl)) rfl ?_;rw [ym.o];exact ⟨none,0,rfl,om _ _,h2⟩
    case pos =>
     rw [if_neg (by simp [qB])] at hG;have OE:=af hG;have q1:((mk:Int) != 19529)=false:=by simp;omega
     obtain ⟨I,hI⟩:=xE w5.heap.size;obtain ⟨w6,mK⟩:=xE (w5.alloc (.cells gA 26));have um:Below w5.heap.size w5 w6:=by rw [mK];exact (Below.refl _ w5).alloc (Nat.le_refl _) _
     have G0:=af (show GX w R I eo s0 w6 from ⟨HY5.o.below um,by rw [mK,hI];exact Row.new w5 _ _,by rw [←HZ.o];exact yf.o.below um yf.o.lt,lN.o.trans (um.mono lN.o.size),by rw [←HZ.o];exact HZR.o,by rw [hI];exact HY5.o.lt⟩);have HI:=af hI;have Ck:=af mK;clear hG qB hI mK um;go_upto_region 10 with fail;rw [←Ck.o,←HI.o];go_wp2_with fail;refine (vh G0.o.rd 1 (by omega) (by omega)).mono ?_;rintro e v0 ⟨rfl,bQ,hk⟩;obtain ⟨y,hy⟩:=xE (rdNum 1 s0);rw [←hy] at bQ ⊢;obtain ⟨n0,s1⟩:=y;dsimp only at bQ ⊢;have qQ:=af hy;have g:=G0.o.step bQ hk;have G1:=af (g.put 0 (ae aa (n0:Nat)));have f:=g.row.frozen 0;have lI:=g.row.lt;have cI:=g.row.cell 0;clear hy bQ hk g;go_wp2_with fail;clear f lI cI;refine (vh G1.o.rd 2 (by omega) (by omega)).mono ?_;rintro e v1 ⟨rfl,bQ,hk⟩;obtain ⟨y,hy⟩:=xE (rdNum 2 s1);rw [←hy] at bQ ⊢;obtain ⟨n1,s2⟩:=y;dsimp only at bQ ⊢;have HX1:=af hy;have g:=G1.o.step bQ hk;have G2:=af (g.put 1 (ae aa (n1:Nat)));have f:=g.row.frozen 1;have lI:=g.row.lt;have cI:=g.row.cell 1;clear hy bQ hk g;go_wp2_with fail;clear f lI cI;refine (vh G2.o.rd 2 (by omega) (by omega)).mono ?_;rintro e v2 ⟨rfl,bQ,hk⟩;obtain ⟨y,hy⟩:=xE (rdNum 2 s2);rw [←hy] at bQ ⊢;obtain ⟨n2,s3⟩:=y;dsimp only at bQ ⊢;have po:=af hy;have g:=G2.o.step bQ hk;have G3:=af (g.put 2 (ae aa (n2:Nat)));have f:=g.row.frozen 2;have lI:=g.row.lt;have cI:=g.row.cell 2;clear hy bQ hk g;go_wp2_with fail;clear f lI cI;refine (vh G3.o.rd 1 (by omega) (by omega)).mono ?_;rintro e v3 ⟨rfl,bQ,hk⟩;obtain ⟨y,hy⟩:=xE (rdNum 1 s3);rw [←hy] at bQ ⊢;obtain ⟨n3,s4⟩:=y;dsimp only at bQ ⊢;have Cj:=af hy;have g:=G3.o.step bQ hk;have G4:=af (g.put 3 (ae aa (n3:Nat)));have f:=g.row.frozen 3;have lI:=g.row.lt;have cI:=g.row.cell 3;clear hy bQ hk g;go_wp2_with fail;clear f lI cI;refine (vh G4.o.rd 1 (by omega) (by omega)).mono ?_;rintro e v4 ⟨rfl,bQ,hk⟩;obtain ⟨y,hy⟩:=xE (rdNum 1 s4);rw [←hy] at bQ ⊢;obtain ⟨n4,s5⟩:=y;dsimp only at bQ ⊢;have HX4:=af hy;have g:=G4.o.step bQ hk;have G5:=af (g.put 4 (ae aa (n4:Nat)));have f:=g.row.frozen 4;have lI:=g.row.lt;have cI:=g.row.cell 4;clear hy bQ hk g;go_wp2_with fail;clear f lI cI;refine (vh G5.o.rd 1 (by omega) (by omega)).mono ?_;rintro e v5 ⟨rfl,bQ,hk⟩;obtain ⟨y,hy⟩:=xE (rdNum 1 s5);rw [←hy] at bQ ⊢;obtain ⟨n5,s6⟩:=y;dsimp only at bQ ⊢;have HX5:=af hy;have g:=G5.o.step bQ hk;have G6:=af (g.put 5 (ae aa (n5:Nat)));have f:=g.row.frozen 5;have lI:=g.row.lt;have cI:=g.row.cell 5;clear hy bQ hk g;go_wp2_with fail;clear f lI cI;refine (vh G6.o.rd 1 (by omega) (by omega)).mono ?_;rintro e v6 ⟨rfl,bQ,hk⟩;obtain ⟨y,hy⟩:=xE (rdNum 1 s6);rw [←hy] at bQ ⊢;obtain ⟨n6,s7⟩:=y;dsimp only at bQ ⊢;have HX6:=af hy;have g:=G6.o.step bQ hk;have G7:=af (g.put 6 (ae aa (n6:Nat)));have f:=g.row.frozen 6;have lI:=g.row.lt;have cI:=g.row.cell 6;clear hy bQ hk g;go_wp2_with fail;clear f lI cI;refine (Zs G7.o.rd).mono ?_;rintro e v7 ⟨A',c',rfl,ho,bQ,hk⟩;obtain ⟨y,hy⟩:=xE (eZ s7);rw [←hy] at ho bQ ⊢;obtain ⟨code,s8⟩:=y;dsimp only at ho bQ ⊢
     have qC:code.length≤9223372036854775807:=by
      obtain ⟨A,c,e,hc,hm⟩:=aD ho;injection e with _ _ _
      unfold maxLen at hm;omega
     have HX7:=af hy;have g:=G7.o.step bQ hk;have G8:=af (g.put 7 (.slice A' code.length c'));have f:=g.row.frozen 7;have lI:=g.row.lt;have cI:=g.row.cell 7;have VR:=GI ho;have hIl:I < (v6.setCell ⟨I,6,none⟩ (ae aa (n6:Nat))).heap.size:=G7.o.row.lt;have HZI:=af (show Z < I by have:=G7.o.lt;rw [HZ.o];omega);have HO:=af (((Kept.refl (fun i=>i=I) v7).setCell (p:=⟨I,7,none⟩) (.inl rfl) (.slice A' code.length c')).own ho fun k hk e=>by have:=VR k hk;omega);have ady:=af (fun k hk=>Nat.lt_of_lt_of_le hIl (VR k hk));have mv:=af (show w.heap.size≤(v6.setCell ⟨I,6,none⟩ (ae aa (n6:Nat))).heap.size by have:=HZI.o;have:=HZ.o;omega);have OH:=af qC;clear hy ho bQ hk g VR hIl qC;go_wp2_with fail;clear f lI cI;obtain ⟨v8,hv8⟩:=xE (v7.setCell ⟨I,7,none⟩ (.slice A' code.length c'));rw [←hv8] at G8 HO;rw [←hv8];clear hv8;have hG:=OE.o
     have hri:lj s0=(⟨n0,n1,n2,n3,n4,n5,n6,code⟩,s8):=by
      simp only [lj,←qQ.o,←HX1.o,←po.o,←Cj.o,←HX4.o,←HX5.o,←HX6.o,←HX7.o]
     rw [hri] at hG;dsimp only at hG;obtain ⟨J,hJ⟩:∃J:aq,J=⟨n0,n1,n2,n3,n4,n5,n6,code⟩:=⟨_,rfl⟩
     have eR:=af (fun (w':World)=>show Calls Tryz.prog 83 #[.agg #[ae aa (n0:Nat),ae aa (n1:Nat),ae aa (n2:Nat),ae aa (n3:Nat),ae aa (n4:Nat),ae aa (n5:Nat),ae aa (n6:Nat),.slice A' code.length c']] w' fun e mf=>e=.returned (.bool (decide J.right))∧Below w'.heap.size w' mf from by rw [hJ];exact rG w' ⟨n0,n1,n2,n3,n4,n5,n6,code⟩ A' c' OH.o);rw [←hJ] at hG;have HJ:=af hJ;clear hri hJ;have HE:=af (Xn G8.o.rd);obtain ⟨er,N9⟩:=xE (ml s8);rw [←N9] at HE hG;have HER:=af N9;clear N9;refine HE.o.mono ?_;rintro e v9 ⟨rfl,z,hv9⟩;have Ly:Below v8.heap.size v8 v9:=by rw [hv9];exact below_drewN (Below.refl _ v8) z
     have G9:=af (G8.o.over Ly);have HO9:=af (mn HO.o Ly);have HE9:=af (Xn G9.o.rd);rw [←HER.o] at HE9;clear Ly hv9;by_cases h0:er=0
     case neg =>
      rw [if_pos h0] at hG;have ym:=af hG;have q2:(er != 0)=true:=by simpa using h0
      clear hG h0;go_wp2_with fail;refine HE9.o.mono ?_;rintro e v10 ⟨rfl,z2,aag⟩;have JH:=af (G9.o.over (Bk:=v10) (by rw [aag];exact below_drewN (Below.refl _ v9) z2));have Ld:Row v10 Z 26 eo:=by rw [HZ.o];exact JH.o.GA
      have qb:=af Ld;clear aag Ld;go_wp2_with (refine aB rfl 26 (.tmp 2) (.tmp 58) rfl Z 0 gA rfl rfl qb.o (by kernel_rfl) (by simp) (by simp [Value.oneCell']) eo rfl ?_);obtain ⟨h1,h2⟩:=Cu.o v10 qb.o JH.o.aE;refine bodyPost_ret (aL rfl _ _ Z _ _ _ _ _ rfl rfl h1 Tryz.underlying26 rfl (by kernel_rfl)) rfl ?_;rw [ym.o];exact ⟨none,0,rfl,om _ _,h2⟩
     case pos =>
      subst h0;rw [if_neg (by simp)] at hG;have abi:=af hG;have r9:Row v9 I 26 [ae aa (n0:Nat),ae aa (n1:Nat),ae aa (n2:Nat),ae aa (n3:Nat),ae aa (n4:Nat),ae aa (n5:Nat),ae aa (n6:Nat),.slice A' code.length c']:=G9.o.row;have m0:=r9.cell 0;have m1:=r9.cell 1;have m2:=r9.cell 2;have m3:=r9.cell 3;have m4:=r9.cell 4;have m5:=r9.cell 5;have m6:=r9.cell 6;have m7:=r9.cell 7;have lI:=r9.lt;simp only [List.getElem?_cons_succ,List.getElem?_cons_zero] at m0 m1 m2 m3 m4 m5 m6 m7;clear r9 hG;go_wp2_with fail;refine (eR.o v9).mono ?_;rintro e v10 ⟨rfl,hb⟩;have JH:=af (G9.o.over hb);have adn:=af (mn HO9.o hb);have Ld:Row v10 Z 26 eo:=by rw [HZ.o];exact JH.o.GA
      have qb:=af Ld;clear Ld hb m0 m1 m2 m3 m4 m5 m6 m7 lI;have r9:Row v10 I 26 [ae aa (n0:Nat),ae aa (n1:Nat),ae aa (n2:Nat),ae aa (n3:Nat),ae aa (n4:Nat),ae aa (n5:Nat),ae aa (n6:Nat),.slice A' code.length c']:=JH.o.row;have m0:=r9.cell 0;have m1:=r9.cell 1;have m2:=r9.cell 2;have m3:=r9.cell 3;have m4:=r9.cell 4;have m5:=r9.cell 5;have m6:=r9.cell 6;have m7:=r9.cell 7;have lI:=r9.lt;simp only [List.getElem?_cons_succ,List.getElem?_cons_zero] at m0 m1 m2 m3 m4 m5 m6 m7;clear r9;by_cases hr:J.right
      case neg =>
       have hG:=abi.o;rw [if_neg hr] at hG;have ym:=af hG;have q3:decide J.right=false:=by simpa using hr
       rw [q3];clear hG hr;go_wp2_with (refine aB rfl 26 (.tmp 2) (.tmp 64) rfl Z 0 gA rfl rfl qb.o (by kernel_rfl) (by simp) (by simp [Value.oneCell']) eo rfl ?_);obtain ⟨h1,h2⟩:=Cu.o v10 qb.o JH.o.aE;refine bodyPost_ret (aL rfl _ _ Z _ _ _ _ _ rfl rfl h1 Tryz.underlying26 rfl (by kernel_rfl)) rfl ?_;rw [ym.o];exact ⟨none,0,rfl,om _ _,h2⟩
      case pos =>
       have hG:=abi.o;rw [if_pos hr] at hG;have ym:=af hG;have q3:decide J.right=true:=by simpa using hr
       rw [q3];clear hG hr;go_wp2_with (refine aB rfl 26 (.tmp 2) (.tmp 65) rfl Z 0 #[ae aa (n0:Nat),ae aa (n1:Nat),ae aa (n2:Nat),ae aa (n3:Nat),ae aa (n4:Nat),ae aa (n5:Nat),ae aa (n6:Nat),.slice A' code.length c'] rfl rfl qb.o (by kernel_rfl) (by simp) (by simp [Value.oneCell']) [ae aa (n0:Nat),ae aa (n1:Nat),ae aa (n2:Nat),ae aa (n3:Nat),ae aa (n4:Nat),ae aa (n5:Nat),ae aa (n6:Nat),.slice A' code.length c'] rfl ?_);have hk:=gz (Kept.refl (fun i=>i=Z) v10) (g:=Z) (Or.inl rfl) #[ae aa (n0:Nat),ae aa (n1:Nat),ae aa (n2:Nat),ae aa (n3:Nat),ae aa (n4:Nat),ae aa (n5:Nat),ae aa (n6:Nat),.slice A' code.length c'];refine bodyPost_ret (aL rfl _ _ Z _ _ _ _ _ rfl rfl (qb.o.setRow [ae aa (n0:Nat),ae aa (n1:Nat),ae aa (n2:Nat),ae aa (n3:Nat),ae aa (n4:Nat),ae aa (n5:Nat),ae aa (n6:Nat),.slice A' code.length c']) Tryz.underlying26 rfl (by kernel_rfl)) rfl ?_;rw [ym.o,HJ.o];exact ⟨A',c',rfl,(hk.own adn.o fun k h e=>by have:=ady.o k h;have:=HZI.o;omega).mono mv.o,JH.o.aE.trans (hk.below JH.o.aE.size fun i hi e=>by have:=HZ.o;omega)⟩
end tt
namespace store
open Go.RowKit Go.Deep base obj mem sep aW aX record bD aG image bN bL chain bC
section
variable {xs:List Value} {b c g n:Nat} {w':World}
section
variable {w0 w : World} {l : List aI} {X : Nat} {tv : List Value} {v : Value} {P : List (Nat × List Value)} {ys : List (dv × RP)} {p : Nat}
theorem Rl (h:St w0 w (row g 5 xs::bK X tv v P ys::l)):St w0 w (bK X tv v ((g,xs)::P) ys::l):=by
 have h1:=(et h.swap).pick 4 rfl;have h2:=((h1.pick 3 rfl).swap)
 have h3:=tM (P':=(g,xs)::P) (fun x hx=>List.mem_cons_of_mem _ hx) ((KM h2).pick 3 rfl);exact rF (Kn ((h3.pick 3 rfl).pick 3 rfl))
def dv.Gx (a:dv) (k:Int) (K:Option Addr×Nat):dv:=if k=0 then { a with K0:=K } else { a with K1:=K }
theorem aaa (h:St w0 w (bK X tv v P ys::l)) (hp:p < ys.length) {k:Nat} (hk:k < 2):∃(T c:Nat) (cs:List Value),ys[p].1.vI=.slice (some ⟨T,0,none⟩) 2 c∧Row w T 26 cs∧k*8+8≤cs.length∧
  ∀(i:aq) (K:Option Addr×Nat),St w0 (w.setRow T (cs.take (k*8)++aq.row i K++cs.drop (k*8+8)).toArray) (bK X tv v P (ys.set p (ys[p].1.Gx k K,ys[p].2.nn k i))::l):=by
 obtain ⟨hb,h1⟩:=GH h hp;rcases (by omega:k=0∨k=1) with rfl|rfl
 ·obtain ⟨T,c,tN,e,h2,jt⟩:=yI (n:=2) (pre:=[]) (c:=aq.row ys[p].2.i0 ys[p].1.K0) (post:=aq.row ys[p].2.i1 ys[p].1.K1) (h1.pick 3 rfl) (by omega);refine ⟨T,c,_,e,h2.row.1,by simp [aq.row],fun i K=>?_⟩;have h3:=jt _ _ (aq.row i K) rfl (h2.setRow ([]++(aq.row i K++tN)));have h4:=((h3.pick 3 rfl).pick 3 rfl).pick 3 rfl;rw [←vg (ys:=ys) (y:=(ys[p].1.Gx (0:Nat) K,ys[p].2.nn (0:Nat) i)) hp rfl] at h4;exact CM hp (fun _ h=>h) hb h4
 ·obtain ⟨T,c,tN,e,h2,jt⟩:=yI (n:=2) (pre:=aq.row ys[p].2.i0 ys[p].1.K0) (c:=aq.row ys[p].2.i1 ys[p].1.K1) (post:=[]) (h1.pick 3 rfl) (by omega);refine ⟨T,c,_,e,h2.row.1,by simp [aq.row],fun i K=>?_⟩;have h3:=jt _ _ (aq.row i K) rfl (h2.setRow (aq.row ys[p].2.i0 ys[p].1.K0++(aq.row i K++tN)));have h4:=((h3.pick 3 rfl).pick 3 rfl).pick 3 rfl;rw [←vg (ys:=ys) (y:=(ys[p].1.Gx (1:Nat) K,ys[p].2.nn (1:Nat) i)) hp rfl] at h4;exact CM hp (fun _ h=>h) hb h4
theorem MW (x:RP) (k:Int):x.bj k (x.slot k)=x:=by unfold RP.bj RP.slot;split<;>rfl
theorem Ky (h:St w0 w (bK X tv (.slice (some ⟨b,0,none⟩) n c) P ys::l)) (il:tv.length=5) (hp:p < ys.length) (hn:ys.length=n):∃bS oS cS bI oI cI,uS w X n p ys[p] b 0 c bS oS cS bI oI cI:=by
 obtain ⟨b2,off,c2,bS,oS,cS,bI,oI,cI,ha⟩:=vC h il hp;have x5:=ha.x5;rw [(et h).row.1.cell 5,List.getElem?_append_right (by omega),il] at x5;simp only [Nat.sub_self,List.getElem?_cons_zero] at x5;injection x5 with e1
 injection e1 with e1 _ e3
 injection e1 with e1
 injection e1 with e1 e2
 subst e1;subst e2;subst e3;rw [hn] at ha;exact ⟨bS,oS,cS,bI,oI,cI,ha⟩
theorem uS.bG {off bS oS cS bI oI cI:Nat} {y:dv×RP} (h:uS w X n p y b off c bS oS cS bI oI cI) {k:Nat} (hk:k < 2):w.cell? ⟨bI,oI+k*8+1,none⟩=some (ae aa (y.2.ee k).version)∧bI < w.heap.size:=by
 rcases (by omega:k=0∨k=1) with rfl|rfl
 ·exact ⟨h.iO 1 _ rfl,h.lI⟩
 ·exact ⟨h.iO 9 _ rfl,h.lI⟩
theorem ix.drop {w':World} {B:aI} {L:List RP} (h:ix w0 w' X tv v P (B::l) L):ix w0 w' X tv v P l L:=by
 obtain ⟨P',vO,h1,h2,h3⟩:=h;exact ⟨P',vO,h1,h2.swap.drop,h3⟩
theorem ix.over {w1:World} {L:List RP} (h:ix w0 w1 X tv v P l L) (hb:Below w1.heap.size w1 w'):ix w0 w' X tv v P l L:=by
 obtain ⟨P',vO,h1,h2,h3⟩:=h;exact ⟨P',vO,h1,h2.below hb,h3⟩
theorem ix.image {P2:List (Nat×List Value)} {jW:List (dv×RP)} (hp:p < jW.length) (hP:∀x∈P,x∈P2) (hK:iK w0 P2 jW) {k:Nat} (hk:k < 2) {i:aq} {c:Nat} (hi:i.code.length≤1000000) (hx:xs.take i.code.length=aP i.code)
  (h:St w0 w' (bK X tv v P2 (jW.set p (jW[p].1.Gx k (some ⟨g,0,none⟩,c),jW[p].2.nn k i))::row g 5 xs::l)):ix w0 w' X tv v P l ((jW.map (·.2)).set p (jW[p].2.nn k i)):=by
 refine ⟨(g,xs)::P2,_,fun x hx=>List.mem_cons_of_mem _ (hP x hx),Rl h.swap,by rw [List.map_set],?_⟩;have hn:wV w0 ((g,xs)::P2) (some ⟨g,0,none⟩,c) i:=⟨hi,.inr ⟨g,xs,by simp,rfl,hx⟩⟩
 have h2:=hK _ (List.getElem_mem hp);have hm:∀x∈P2,x∈(g,xs)::P2:=fun x hx=>List.mem_cons_of_mem _ hx;rcases (by omega:k=0∨k=1) with rfl|rfl
 ·exact hK.set (a:=jW[p].1.Gx (0:Nat) (some ⟨g,0,none⟩,c)) (x:=jW[p].2.nn (0:Nat) i) hm hn (h2.2.mono hm) p
 ·exact hK.set (a:=jW[p].1.Gx (1:Nat) (some ⟨g,0,none⟩,c)) (x:=jW[p].2.nn (1:Nat) i) hm (h2.1.mono hm) hn p
theorem Uh {a:dF} {t:aY} (h:St w0 w (bK X [ae aa t.frame,.slice a.AP t.parts.length a.cP,.slice a.AW t.aJ.length a.cW,.slice a.AC t.av.length a.cC,ae aa t.ay] v P ys::l)) (hr:∀y∈ys,y.2.aw.right=true) (hS:∀y∈ys,∀k:Int,Ch (y.2.slot k)) (hK:iK w0 P ys) (ht:∀w',Below w0.heap.size w0 w'→ko w' a t) (q se:Int) :
  Calls Tryz.prog 62 #[.pointer (some ⟨X,0,none⟩),ae aa q,ae aa se] w fun e w'=>e=.returned (ae aa (n8 t (ys.map (·.2)) q se).1)∧ix w0 w' X [ae aa t.frame,.slice a.AP t.parts.length a.cP,.slice a.AW t.aJ.length a.cW,.slice a.AC t.av.length a.cC,ae aa t.ay] v P l (n8 t (ys.map (·.2)) q se).2:=by
 have HF:=af (Hp h rfl hr q se);by_cases hf:cM (bw (ys.map (·.2))) q se=0
 case neg =>
  have e:n8 t (ys.map (·.2)) q se=(cM (bw (ys.map (·.2))) q se,ys.map (·.2)):=by unfold n8;rw [if_pos hf]
  rw [e];have HH:=af (fun (w':World) (hb:Below w.heap.size w w')=>ix.same hK (h.below hb));generalize cM (bw (ys.map (·.2))) q se=r at *;have g:(r != 0)=true:=by simpa using hf
  clear e h hf;go_enter Tryz.func62,Tryz.ntmps62;go_wp2_with fail;refine HF.o.mono ?_;rintro e w2 ⟨rfl,hb⟩;have HX:=af (HH.o w2 hb);clear hb;go_wp2_with fail;go_ret;exact ⟨rfl,HX.o⟩
 case pos =>
 obtain ⟨p,rfl,hp,_⟩:=mg (vx hf);rw [hf] at HF;rw [iB] at hp;obtain ⟨b0,c0,rfl,-⟩:=Gz h hp rfl;obtain ⟨x,hx⟩:=xE (ys[p].2)
 have HE:=af (fun (k:Nat) (hk:x.pG=k) (D:List Int) (f:Int) (hD:dm (x.slot k)=(D,f))=>show n8 t (ys.map (·.2)) (p:Int) se=if f≠0 then (f,ys.map (·.2)) else if (b8 D).2≠0 then ((b8 D).2,ys.map (·.2)) else if bX t p (b8 D).1 (x.ee x.aw.au).version≠0 then (bX t p (b8 D).1 (x.ee x.aw.au).version,ys.map (·.2)) else ((rB t x (b8 D).1).1,(ys.map (·.2)).set p (rB t x (b8 D).1).2) by
  have e:mA (ys.map (·.2)) (p:Int)=(D,f):=by unfold mA;rw [jD,rW hp,←hx,hk,hD]
  unfold n8
  rw [if_neg (by simp [hf]),e,jD,rW hp,←hx,dC])
 have kz:=af (fun (w':World) (hb:Below w.heap.size w w')=>JU (h.below hb) rfl hr hp);have Gc:=af (fun (k:Nat)=>hS _ (List.getElem_mem hp) k);have HRX:=af (hr _ (List.getElem_mem hp));rw [←hx] at kz Gc HRX;have HK:=af hK;have HT:=af ht;have HLS:=af (show (ys.map (·.2)).set p x=ys.map (·.2) by rw [hx,←List.map_set,List.set_getElem_self]);have k1:(p:Int) < (ys.length:Int):=by omega
 have k0:(0:Int)≤(p:Int):=by omega
 obtain ⟨L,hL⟩:=xE (ys.map (·.2));have uv:=af (show L[p]?=some x by rw [hL,hx];simp [hp]);rw [←hL] at HE HLS kz ⊢;obtain ⟨n,hn⟩:=xE ys.length;have Gn:=af (show L.length=n by rw [hL,hn];simp);rw [←hn] at k1 h kz ⊢;clear hf hK ht hx hS hr hp hL h hn;go_enter Tryz.func62,Tryz.ntmps62;go_wp2_with fail;refine HF.o.mono ?_;rintro e w2 ⟨rfl,hb⟩;obtain ⟨k,b,c,T,cT,pre,post,F,hk,jm,dy,⟨x5,lX,r3,r6,lb⟩,hl,h3,jt⟩:=kz.o w2 hb
 obtain ⟨rfl,rfl⟩:b=b0∧c=c0:=by
  obtain ⟨P',vO,_,h5,_,_⟩:=jt w2 P (x.slot k) l (fun _ h=>h) h3 HK.o;have e:=x5.symm.trans ((et h5).row.1.cell 5);injection e with e1
  injection e1 with e1 _ e3
  injection e1 with e1
  injection e1 with e1 e2
  exact ⟨e1,e3⟩
 have k2:(k:Int) < 2:=by omega
 have k3:(0:Int)≤(k:Int):=by omega
 have uU:=af (tT r3 lb jm hk);have lM:=af (U7 hl h3 (Gc.o k).bu)
 have iS:=af (fun (w':World) (B:aI) (h:St w0 w' (B::nr T pre post P (x.slot k)::eG P::F::l))=>show ix w0 w' X [ae aa t.frame,.slice a.AP t.parts.length a.cP,.slice a.AW t.aJ.length a.cW,.slice a.AC t.av.length a.cC,ae aa t.ay] (.slice (some ⟨b,0,none⟩) n c) P (B::l) L from by
  have h5:=jt w' P (x.slot k) (B::l) (fun _ h=>h) (h.perm (List.perm_middle (l₁:=[_,_,_])).symm) HK.o;rw [MW,HLS.o] at h5
  exact h5)
 have MH:=af (HE.o k dy);have DU:=af hk;have MC:=af jm;have nY:=af dy;clear h3 jt jm dy hb;generalize x.aw.aj=rc at r3 uU;go_wp2_with fail;refine uU.o.mono ?_;rintro e w3 ⟨rfl,hw⟩;rw [hw];clear hw;go_wp2_with fail;refine lM.o.mono ?_;rintro e w3 ⟨A1,n1,c1,B,rfl,xL,hg,h4⟩;have Dw:=iS.o w3 B h4;have hlen:=Qu (Gc.o k).bu;have PU:=(Gc.o k).jo;obtain ⟨D,hD⟩:=xE (dm (x.slot k));rw [←hD] at hg hlen PU ⊢;have HE1:=af (MH.o D.1 D.2 (by rw [←hD]));clear hD h4 x5 lX r3 r6 lb;obtain ⟨D,f⟩:=D;dsimp only at hg hlen PU HE1 ⊢;have HXT:=af Dw;by_cases hf:f=0
 case neg =>
  have q1:(f != 0)=true:=by simpa using hf
  have uW:=af (HE1.o.trans (if_pos hf));clear hf;go_wp2_with fail;go_ret;rw [uW.o];exact ⟨rfl,HXT.o.drop⟩
 case pos =>
 subst hf;have uW:=af (HE1.o.trans (if_neg (by simp)));obtain ⟨P2,jW,DF,h5,rO,zh⟩:=Dw;have HGT:=af (tt.X7 w3 D n1 hg.1 (by rw [←hg.1];omega) PU A1 c1 xL (hg.2 w3 _ (h5.pick 1 rfl)));have H5:=af h5;have Cq:=af (fun (h:(b8 D).2=0)=>Qc (b:=D) (j:=(b8 D).1) (by rw [←h]));generalize hGG:b8 D=G at *;clear h5 hg hlen PU xL;go_wp2_with fail;refine HGT.o.mono ?_;rintro e w4 ⟨A2,c2,rfl,ho,hb⟩;have h6:=H5.o.cX hb ho;clear ho hb;obtain ⟨⟨j0,j1,j2,j3,j4,j5,j6,jc⟩,g⟩:=G;dsimp only [aq.val] at h6 uW Cq ⊢;obtain ⟨m,hm⟩:=xE jc.length;rw [←hm] at h6 ⊢
 have hmx:m≤9223372036854775807:=by
  obtain ⟨A,c,e,h1,h2⟩:=aD h6.own;injection e;unfold maxLen at h2;omega
 have HM:=af hm;obtain ⟨I,hI⟩:=xE w4.heap.size;obtain ⟨w5,eD⟩:=xE (w4.alloc (.cells #[ae aa j0,ae aa j1,ae aa j2,ae aa j3,ae aa j4,ae aa j5,ae aa j6,.slice A2 m c2] 26));have h7:=h6.new 26 #[ae aa j0,ae aa j1,ae aa j2,ae aa j3,ae aa j4,ae aa j5,ae aa j6,.slice A2 m c2];rw [←hI,←eD] at h7;have H7:=af (h7.pick 2 rfl);have HI:=af hI;have sO:=af eD;clear hGG hm h6 h7 hI eD;go_upto_region 10 with fail;rw [←sO.o,←HI.o];by_cases xU:g=0
 case neg =>
  have q1:(g != 0)=true:=by simpa using xU
  have Cv:=af (uW.o.trans (if_pos xU));have Mo:=af (show ix w0 w5 X [ae aa t.frame,.slice a.AP t.parts.length a.cP,.slice a.AW t.aJ.length a.cW,.slice a.AC t.av.length a.cC,ae aa t.ay] (.slice (some ⟨b,0,none⟩) n c) P l L from ⟨P2,jW,DF,((((H7.o.pick 1 rfl).drop.pick 1 rfl).drop.pick 1 rfl).drop),rO,zh⟩);clear xU;go_wp2_with fail;go_ret;rw [Cv.o];exact ⟨rfl,Mo.o⟩
 case pos =>
 subst xU;have Cv:=af (uW.o.trans (if_neg (by simp)))
 have hp2:p < jW.length:=by
  have h1:=congrArg List.length rO;rw [iB,Gn.o] at h1;omega
 have sB:jW.length=n:=by
  have h1:=congrArg List.length rO;rw [iB,Gn.o] at h1;exact h1
 have uc:jW[p].2=x:=by
  have h1:=uv.o;rw [←rO] at h1;simpa [hp2] using h1
 obtain ⟨bS,oS,cS,bI,oI,cI,ha⟩:=Ky H7.o rfl hp2 sB;have AE:=HRX.o;have eE:=eu.iZ AE;obtain ⟨ac,wQ,aaN⟩:∃ac:Nat,x.aw.au=ac∧ac < 2:=⟨x.aw.au.toNat,by omega,by omega⟩
 have kA:=af (fun (w':World) (h:Below w5.heap.size w5 w')=>show w'.cell? ⟨b,p*8,none⟩=some (ae aa x.aw.part)∧w'.cell? ⟨b,p*8+1,none⟩=some (ae aa x.aw.seq)∧w'.cell? ⟨b,p*8+2,none⟩=some (ae aa ac)∧w'.cell? ⟨b,p*8+3,none⟩=some (ae aa x.aw.aj)∧w'.cell? ⟨b,p*8+4,none⟩=some (ae aa x.aw.left)∧w'.cell? ⟨b,p*8+5,none⟩=some (ae aa x.aw.bad)∧b < w'.heap.size from by
  obtain ⟨r0,r1,r2,r3,r4,r5,r6,r7,lb⟩:=(ha.over h).recs;rw [uc,Nat.zero_add] at r0 r1 r2 r3 r4 r5;rw [wQ] at r2
  exact ⟨r0,r1,r2,r3,r4,r5,lb⟩)
 obtain ⟨-,-,-,-,-,-,-,r7,-⟩:=ha.recs;rw [Nat.zero_add] at r7;obtain ⟨rv,lI⟩:=ha.bG aaN;rw [uc,←wQ] at rv;have rX:=(et H7.o).row.1;have t0:=rX.c0;have t1:=rX.c1;have t2:=rX.c2;have t3:=rX.c3;have t4:=rX.c4;have lX:=rX.lt;have rI:=(H7.o.pick 1 rfl).row.1;have i0:=rI.cell 0;have i1:=rI.cell 1;have i2:=rI.cell 2;have i3:=rI.cell 3;have i4:=rI.cell 4;have i5:=rI.cell 5;have i6:=rI.cell 6;have i7:=rI.cell 7;have lII:=rI.lt;obtain ⟨r0,r1,r2,r3,r4,r5,lb⟩:=kA.o w5 (Below.refl _ _);have mP:=af (BC (A:=A2) (c:=c2) (i:=⟨j0,j1,j2,j3,j4,j5,j6,jc⟩) (bG:=(x.ee x.aw.au).version) (HT.o w5.drew H7.o.drew.aE) (p:Int) (by rw [←HM.o];exact hmx));simp only [dF.val,aq.val,←HM.o] at mP;have Ue:=af wQ;have Mx:=af hp2;have po:=af uc;have Bb:=af rO;have pz:=af DF;have T8:=af zh;have q0:(0:Int)≤(ac:Int):=by omega
 have q1:(ac:Int) < 2:=by omega
 generalize (x.ee x.aw.au).version=bG at *;clear rX rI ha eE wQ aaN uc AE rO DF zh sB;go_wp2_with fail;refine dN ?_;(refine bk [0,1,2,3,4,5,6,7,8,9,10,11,12,13,14,15,16,17] ?_;simp only [pick,xG];(iterate 18 still_step);refine wpStill_nil ?_);(try simp only [ai]);(refine aK 18 ?_;(try simp only [xG]);go_simp);refine mP.o.mono ?_;rintro e w6 ⟨rfl,hb⟩;have pA:=af ((Below.refl w5.heap.size w5).drew.trans hb);clear hb r0 r1 r2 r3 r4 r5 r7 lb rv lI t0 t1 t2 t3 t4 lX i0 i1 i2 i3 i4 i5 i6 i7 lII mP;dsimp only;obtain ⟨ck,j9⟩:=xE (bX t p ⟨j0,j1,j2,j3,j4,j5,j6,jc⟩ bG);rw [←j9];rw [←j9] at Cv;clear j9;(try simp only [ai]);(refine bk [19] ?_;simp only [pick,xG];(iterate 1 still_step);refine wpStill_nil ?_);refine cw ?_;have H8:=af (H7.o.below pA.o);by_cases uQ:ck=0
 case neg =>
  have q2:(ck != 0)=true:=by simpa using uQ
  have HE4:=af (Cv.o.trans (if_pos uQ));have Mo:=af (show ix w0 w6 X [ae aa t.frame,.slice a.AP t.parts.length a.cP,.slice a.AW t.aJ.length a.cW,.slice a.AC t.av.length a.cC,ae aa t.ay] (.slice (some ⟨b,0,none⟩) n c) P l L from ⟨P2,jW,pz.o,((((H8.o.pick 1 rfl).drop.pick 1 rfl).drop.pick 1 rfl).drop),Bb.o,T8.o⟩);clear uQ;go_wp2_with fail;go_ret;rw [HE4.o];exact ⟨rfl,Mo.o⟩
 case pos =>
 subst uQ;have HE4:=af (Cv.o.trans (if_neg (by simp)));obtain ⟨r0,r1,r2,r3,r4,r5,lb⟩:=kA.o w6 pA.o;have rX:=(et H8.o).row.1;have t4:=rX.c4;have lX:=rX.lt
 have wY:=af (fun (w':World) (hb:Below w6.heap.size w6 w')=>D3 (H8.o.below hb) Mx.o (by rw [po.o];exact HRX.o) T8.o (b:=b) (c:=c) (by
  have h1:=congrArg List.length Bb.o;rw [iB,Gn.o] at h1
  rw [h1]) (fL t x.aw))
 rw [po.o,Bb.o] at wY;simp only [fL,MC.o,Rec.ng] at wY;have Mw:=af (show fL t x.aw=⟨x.aw.part,x.aw.seq,k,x.aw.aj,t.ay,0⟩ by rw [fL,MC.o]);have Mp:=af (show rB t x ⟨j0,j1,j2,j3,j4,j5,j6,jc⟩=((eH x (fL t x.aw)).1,if (eH x (fL t x.aw)).1=0 then (eH x (fL t x.aw)).2.nn x.pG ⟨j0,j1,j2,j3,j4,j5,j6,jc⟩ else (eH x (fL t x.aw)).2) from rfl);rw [Mw.o] at Mp;generalize eH x ⟨x.aw.part,x.aw.seq,k,x.aw.aj,t.ay,0⟩=sv at *;generalize x.aw.part=o0,x.aw.seq=o1,x.aw.aj=o3,x.aw.left=o4,x.aw.bad=o5 at r0 r1 r3 r4 r5 wY;clear rX;go_wp2_with fail;refine (wY.o _ ((Below.refl _ w6).alloc (Nat.le_refl _) _)).mono ?_;rintro e w7 ⟨rfl,P3,QR,hP3,h9,LB,hK3⟩;clear r0 r1 r2 r3 r4 r5 lb t4 lX wY;obtain ⟨er,x3⟩:=sv;dsimp only at LB Mp ⊢;have OB:=af (fun y hy=>hP3 y (pz.o y hy));by_cases he:er=0
 case neg =>
  have q2:(er==0)=false:=by simpa using he
  have HE5:=af (show n8 t L (p:Int) se=(er,L.set p x3) by rw [HE4.o,Mp.o,if_neg he]);have Mo:=af (show ix w0 w7 X [ae aa t.frame,.slice a.AP t.parts.length a.cP,.slice a.AW t.aJ.length a.cW,.slice a.AC t.av.length a.cC,ae aa t.ay] (.slice (some ⟨b,0,none⟩) n c) P l (L.set p x3) from ⟨P3,QR,OB.o,((((h9.pick 1 rfl).drop.pick 1 rfl).drop.pick 1 rfl).drop),LB,hK3⟩);clear he hP3 h9 LB hK3;go_wp2_with fail;go_ret;rw [HE5.o];exact ⟨rfl,Mo.o⟩
 case pos =>
 subst he;have HE5:=af (show n8 t L (p:Int) se=(0,L.set p (x3.nn k ⟨j0,j1,j2,j3,j4,j5,j6,jc⟩)) by rw [HE4.o,Mp.o,if_pos rfl,nY.o])
 have sB:QR.length=n:=by
  have h1:=congrArg List.length LB;rw [iB,List.length_set,Gn.o] at h1;exact h1
 have hp3:p < QR.length:=by rw [sB];omega
 have pd:QR[p].2=x3:=by
  have h1:(QR.map (·.2))[p]?=(L.set p x3)[p]?:=by rw [LB]
  rw [List.getElem?_set_self (by rw [Gn.o];omega)] at h1;simpa [hp3] using h1
 have Sr:=Cq.o trivial
 have Sw:1≤m∧m≤96:=by
  obtain ⟨_,_,_,_,_,_,_,h⟩:=Sr;rw [HM.o];dsimp only at h;omega
 obtain ⟨g,xs,rfl,_,_,Is,dR⟩:=nu (h9.pick 2 rfl) (by omega);have jn:=dR.swap;obtain ⟨bS,oS,cS,bI,oI,cI,ha⟩:=Ky jn rfl hp3 sB;obtain ⟨-,-,-,-,-,-,-,r7,lb⟩:=ha.recs;rw [Nat.zero_add] at r7;have rI:=(jn.pick 2 rfl).row.1;have i0:=rI.cell 0;have i1:=rI.cell 1;have i2:=rI.cell 2;have i3:=rI.cell 3;have i4:=rI.cell 4;have i5:=rI.cell 5;have i6:=rI.cell 6;have i7:=rI.cell 7;have lII:=rI.lt;have hIM:=aaa jn.drew hp3 hk;obtain ⟨T3,cT3,cs,e3,bo,oq,ak⟩:=hIM
 obtain ⟨rfl,rfl⟩:bI=T3∧oI=0:=by
  have e:=ha.eI.symm.trans e3;injection e with e1
  injection e1 with e1
  injection e1 with e1 e2
  exact ⟨e1,e2⟩
 have nR:=ak ⟨j0,j1,j2,j3,j4,j5,j6,jc⟩ (some ⟨g,0,none⟩,c2);have Sj:=ix.image (P:=P) hp3 OB.o hK3 hk (i:=⟨j0,j1,j2,j3,j4,j5,j6,jc⟩) (c:=c2) (by show jc.length≤1000000;rw [←HM.o];omega) (by show xs.take jc.length=_;rw [←HM.o];simpa using Is) (l:=l) (((nR.pick 2 rfl).drop.pick 2 rfl).drop);rw [pd,LB,List.set_set] at Sj;dsimp only [aq.row] at Sj;rw [←HM.o] at Sj;have HXI:=af Sj;have hM:=af bo;have MG:=af oq;clear Sj ak nR bo oq e3 ha jn dR h9 Is rI pd LB hK3 hP3 Sr sB;go_wp2_with fail;refine dN ?_;(refine bk [0,1,2,3,4,5,6] ?_;simp only [pick,xG];(iterate 7 still_step);refine wpStill_nil ?_);(try simp only [ai]);(refine aK 7 ?_;(try simp only [xG]));refine fZ.tj 26 (.tmp 99) (.tmp 98) rfl bI (k*8) #[ae aa j0,ae aa j1,ae aa j2,ae aa j3,ae aa j4,ae aa j5,ae aa j6,.slice (some ⟨g,0,none⟩) m c2] rfl rfl hM.o (by kernel_rfl) MG.o (by simp [Value.oneCell']) _ rfl ?_;(try simp only [ai]);refine cw ?_;go_wp2_with fail;go_ret;rw [HE5.o];exact ⟨rfl,HXI.o⟩
end
end
end store
end Go.Proofs.YtdldkkoplgkloaaGreat
