/-
  PROVED HERE: longeronlaw14.StoreActs is true whatever the input: the store is what the document says, wherever the power fails.
  CONDITIONS: none beyond the row's own.
-/
import Derived.Test.YtdldkkoplgkloaaGreatPa37
import Derived.Test.YtdldkkoplgkloaaGreatPa38
namespace Go.Proofs.YtdldkkoplgkloaaGreat
set_option linter.unusedVariables false
set_option linter.unusedSimpArgs false
set_option maxRecDepth 100000
set_option maxHeartbeats 32000000
namespace storeActs


open Go.RowKit Go.ChangeShapes Go.WideShapes Go.ChangeAt Go.Deep Go.Joins base obj mem sep aW aX record bD aG image bN bL chain bC store
theorem walk (w:World) (a:dF) (t:aY) (AI:Option Addr) (nI cI:Nat) (js:List aq) (K:Nat→Option Addr×Nat) (eE:ya w a t AI nI cI js K) (A:Option Addr) (c:Nat) (L:List dU) (hs:Sl w w.heap.size 7 A L.length (jR L)) (jL:∀a∈L,pZ a.n∧pZ a.no∧0≤a.keep∧a.keep≤18446744073709551615) :
  Calls Tryz.prog 8 #[.agg #[.int .i64 t.frame,.slice a.AP t.parts.length a.cP,.slice a.AW t.aJ.length a.cW,.slice a.AC t.av.length a.cC,.int .i64 t.ay,.slice AI nI cI],.slice A L.length c] w fun e w'=>e=.returned (.bool true)∧Below w.heap.size w w':=by
 obtain ⟨Z,hZ⟩:=xE w.heap.size;obtain ⟨w1,aF⟩:=xE (w.alloc (.cells #[.int .i64 t.frame,.slice a.AP t.parts.length a.cP,.slice a.AW t.aJ.length a.cW,.slice a.AC t.av.length a.cC,.int .i64 t.ay,.slice AI nI cI] 49))
 have h1:St w w1 [row Z 49 [.int .i64 t.frame,.slice a.AP t.parts.length a.cP,.slice a.AW t.aJ.length a.cW,.slice a.AC t.av.length a.cC,.int .i64 t.ay,.slice AI nI cI]]:=by
  have h3:=(St.nil w).new 49 #[.int .i64 t.frame,.slice a.AP t.parts.length a.cP,.slice a.AW t.aJ.length a.cW,.slice a.AC t.av.length a.cC,.int .i64 t.ay,.slice AI nI cI];rw [←aF,←hZ] at h3;exact h3
 have H1:=af h1;have bh:=af h1.aE;have jg:=af (fun (w':World) (hb:Below w.heap.size w w')=>eE.over hb);have HFA:=af (fun (w':World) (hb:Below w.heap.size w w')=>He (eE.over hb));have lJ:=af (fun (w':World) (hb:Below w.heap.size w w')=>(hs.below hb).more hb.size);have HZ:=af hZ;have br:=af aF;simp only [oK] at HFA;obtain ⟨n,hn⟩:=xE L.length;rw [←hn];have HN:=af hn;have fb:=af (Q8 jL);clear h1 aF hZ eE hs hn jL;go_enter Tryz.func8,Tryz.ntmps8;go_upto_region 1 with fail;rw [←br.o,←HZ.o];go_wp2_with fail;refine (Ux w1).mono ?_;rintro e w2 ⟨rfl,hb⟩;have aO:=af hb;have jf:=af (bh.o.trans (hb.mono bh.o.size));have hz:=(H1.o.below hb).row.1;have z0:=hz.c0;have z1:=hz.c1;have z2:=hz.c2;have z3:=hz.c3;have z4:=hz.c4;have z5:=hz.c5;have lZ:=hz.lt;clear hb hz;go_wp2_with fail;refine (HFA.o w2 jf.o).mono ?_;rintro e w3 ⟨⟨b,rfl,hF⟩,hb⟩;have bM:=af (aO.o.trans (hb.mono aO.o.size));have wW:=af (jf.o.trans (hb.mono jf.o.size));clear z0 z1 z2 z3 z4 z5 lZ hb;cases b with
 | false =>
   clear hF;go_wp2_with fail;go_ret;exact ⟨rfl,wW.o⟩
 | true =>
   by_cases adW:n≤30
   case neg =>
    have k1:(30:Int) < (n:Int):=by omega
    clear hF;go_wp2_with fail;go_ret;exact ⟨rfl,wW.o⟩
   case pos =>
   have k1:¬(30:Int) < (n:Int):=by omega
   have F:=hF rfl;have HF:=af F;have T:=aY.r F.right;have Lj:=T.np;have sP:=af Lj;have ak:=H1.o.below bM.o;have hz:=ak.row.1;have z0:=hz.c0;have z1:=hz.c1;have z2:=hz.c2;have z3:=hz.c3;have z4:=hz.c4;have z5:=hz.c5;have lZ:=hz.lt;have OD:=af (NF (js:=js) (K:=K) (B:=fact True) (ak.addFact trivial) (fun w' l' h=>(jg.o w' h.aE).iO) (fun w' l' h=>(jg.o w' h.aE).bN) (jg.o w3 wW.o).cap HF.o.right HF.o.LU HF.o.pR HF.o.fV);simp only [oK] at OD;clear hF F T ak hz Lj;go_wp2_with fail;refine OD.o.mono ?_;rintro e w4 ⟨ad,d,X,rfl,m,xs,v,P,ys,h4,Dx,jy,FL,sA,AM⟩;have H4:=af (show St w w4 (bK X [.int .i64 t.frame,.slice a.AP t.parts.length a.cP,.slice a.AW t.aJ.length a.cW,.slice a.AC t.av.length a.cC,.int .i64 t.ay] v P ys::aZ ad t d m xs::[fact True,row Z 49 [.int .i64 t.frame,.slice a.AP t.parts.length a.cP,.slice a.AW t.aJ.length a.cW,.slice a.AC t.av.length a.cC,.int .i64 t.ay,.slice AI nI cI]]) from h4);have jz:=(jg.o w3 wW.o).iO.len
   have Jw:=af (show cE m xs (bw (ys.map (·.2))) by
    have h5:=Dx.made
    have e1:bw (ys.map (·.2))=xC (js.take t.parts.length):=by
     rw [sA];unfold bw xC;have h6:(js.take t.parts.length).length=t.parts.length:=by rw [fW];have:=HF.o.LU;omega
     rw [List.map_map,h6];refine List.map_congr_left fun q hq=>?_;have uf:q < t.parts.length:=by simpa using hq
     simp [oJ,RP.dp,dD,List.getElem?_take,uf]
    rw [e1];exact h5)
   have HXI:=af (show jI t (ys.map (·.2)) by
    intro q hq;rw [sA] at hq ⊢;rw [iB,List.length_range] at hq;have e:((List.range t.parts.length).map (oJ js)).getD q default=oJ js q:=by simp [dD,hq]
    rw [e];have hh:=EI (pS (HF.o.fV q hq)) (Ds _) (HF.o.fV q hq);have:=sP.o
    exact ⟨rfl,qq (by omega) (by omega),hh,hh⟩)
   have Jv:=af (show ys.length=t.parts.length by have:=congrArg List.length sA;simpa using this)
   have T8:=af (show iK w P ys by
    intro y hy;obtain ⟨q,hq,rfl⟩:=List.getElem_of_mem hy;obtain ⟨k0,k1⟩:=AM q hq;have uf:q < t.parts.length:=by rw [←Jv.o];exact hq
    have hx:ys[q].2=oJ js q:=by
     have h6:(ys.map (·.2))[q]?=((List.range t.parts.length).map (oJ js))[q]?:=by rw [sA]
     simpa [hq,uf] using h6
    have FF:q < nI:=by have:=HF.o.LU;omega
    rw [k0,k1,hx];refine ⟨⟨by have:=HF.o.short q FF;show (js.getD q aq.none).code.length≤1000000;omega,.inl fun w' hb=>?_⟩,⟨by simp [oJ,aq.none],.inl fun w' hb=>?_⟩⟩
    ·obtain ⟨_,_,_,_,_,_,_,_,_,_,_,_,_,dk⟩:=(jg.o w' hb).iO.at_ q FF;exact dk
    ·show Sl w' w'.heap.size 1 none 0 (aP [])
     exact Sl.GL _ _ _)
   have uv:=af jy;have yh:=af FL;have yh:=af FL;have pn:=af (show rU w t P ys from .fin HXI.o T8.o Jv.o Jw.o.fin);have rA:=af (show ll w t [.int .i64 t.frame,.slice a.AP t.parts.length a.cP,.slice a.AW t.aJ.length a.cW,.slice a.AC t.av.length a.cC,.int .i64 t.ay] m xs P ys (.pointer none) (fact True) from .lit Jw.o.fin);have wI:=xw (L:=L) (A:=A) (c:=c) (H4.o.pick 2 rfl) (.int .i64 t.frame) (.slice a.AP t.parts.length a.cP) (.slice a.AW t.aJ.length a.cW) (.slice a.AC t.av.length a.cC) (.int .i64 t.ay) (.slice AI nI cI) (fun w' l' h=>lJ.o w' h.aE) (by have:=HN.o;omega) ⟨_,rfl⟩;have hz:=(H4.o.pick 3 rfl).row.1;have z0:=hz.c0;have z1:=hz.c1;have z2:=hz.c2;have z3:=hz.c3;have z4:=hz.c4;have z5:=hz.c5;have lZ:=hz.lt;rw [←HN.o] at wI;have kz:=af wI;clear hz wI h4 Dx jy FL jz sA AM OD k1 Jw HXI T8 Jv;dsimp only;go_wp2_with fail;refine kz.o.mono ?_;rintro e w6 ⟨vs,rfl,h6⟩;obtain ⟨A3,cA3,rfl,_,_⟩:=aD h6.own;have jL:=fb.o;have dk:=Dk L;obtain ⟨SL,hSL⟩:=xE (iF L);rw [←hSL] at h6 jL dk ⊢;have adj:=af jL;have H7:=af (((h6.pick 3 rfl).pick 3 rfl).swap);obtain ⟨N,hN⟩:=xE SL.length;have adK:N≤360:=by have:=HN.o;omega
   rw [←hN];have Co:=af hN;clear h6 hSL hN z0 z1 z2 z3 z4 z5 lZ kz jL dk fb;go_wp2_with fail;go_loopw [5,7,8,38] (fun s x mp kv wr=>∃(k:Nat) (ad:fy) (m:DS) (xs:List PP) (X:Nat) (v:Value) (P:List (Nat×List Value)) (ys:List (dv×RP)) (MA:aI),k≤N∧s=.pointer (some ⟨ad.S,0,none⟩)∧x=.pointer (some ⟨X,0,none⟩)∧kv=.int .i64 (k:Int)∧St w wr (aZ ad t d m xs::bK X [.int .i64 t.frame,.slice a.AP t.parts.length a.cP,.slice a.AW t.aJ.length a.cW,.slice a.AC t.av.length a.cC,.int .i64 t.ay] v P ys::own 58 7 (.slice A3 SL.length cA3) SL.length (jR SL)::MA::[row Z 49 [.int .i64 t.frame,.slice a.AP t.parts.length a.cP,.slice a.AW t.aJ.length a.cW,.slice a.AC t.av.length a.cC,.int .i64 t.ay,.slice AI nI cI]])∧ll w t [.int .i64 t.frame,.slice a.AP t.parts.length a.cP,.slice a.AW t.aJ.length a.cW,.slice a.AC t.av.length a.cC,.int .i64 t.ay] m xs P ys mp MA∧rU w t P ys∧m.ar.length=10*t.parts.length) (fun _ _ _ kv _=>N-(intOf kv).toNat)
   case atStart=>exact ⟨0,ad,m,xs,X,v,P,ys,fact True,by omega,rfl,rfl,rfl,H7.o,rA.o,pn.o,yh.o⟩
   case round =>
    clear H7 rA pn yh H4;obtain ⟨k,ad,m,xs,X,v,P,ys,MA,hk,rfl,rfl,rfl,ak,ue,hxo,FL⟩:=hrel;have bH:=af ak;have rA:=af ue;have pn:=af hxo;have yh:=af FL;clear ak ue hxo FL;by_cases aH:k < N
    ·have Lp:k < SL.length:=by rw [←Co.o];exact aH
     have dk:=Sl.bP (bH.o.pick 2 rfl).own;obtain ⟨b,off,rfl,cm,a0,a1,a2,a3,a4,a5,a6⟩:=Oy dk Lp;have TV:=af (adj.o _ (List.getElem_mem Lp));generalize SL[k]=q at *;have k1:(k:Int) < (N:Int):=by omega
     have k0:(0:Int)≤(k:Int):=by omega
     obtain ⟨D,hD⟩:=xE wr.heap.size;obtain ⟨w7,xD⟩:=xE (wr.alloc (.cells #[.int .i64 q.kind,.int .i64 q.part,.int .i64 q.n,.int .i64 q.i,.int .i64 q.no,.bool q.dL,.int .u64 q.keep] 58));have h8:=bH.o.new 58 q.cells.toArray;rw [←hD,show wr.alloc (.cells q.cells.toArray 58)=w7 from xD.symm] at h8;have H8:=af ((h8.pick 2 rfl).pick 2 rfl);have Oz:=af xD;have HD:=af hD;clear xD hD h8 dk Lp bH;go_upto_region 12 with fail;rw [←Oz.o,←HD.o];clear a0 a1 a2 a3 a4 a5 a6;obtain ⟨c0,c1,c2,c3,c4,c5,c6,lD⟩:=km (H8.o.pick 2 rfl).row.1;rcases (by omega:(0≤q.kind∧q.kind≤5)∨q.kind=6∨q.kind=7∨q.kind < 0∨8≤q.kind) with ⟨g0,g1⟩|g6|g7|g8|g8
     ·have HCY:=af (Uk (H8.o.pick 1 rfl) pn.o.rss (by rw [pn.o.len];exact sP.o.2));go_wp2_with fail;refine HCY.o.mono ?_;rintro e w8 ⟨X2,rfl,v2,zs,h9,yQ,AM⟩;have HZO:=af (show rU w t P zs from pn.o.ZY (by rw [yQ];exact pn.o.Be) (iK.same pn.o.NH AM yQ) (by rw [yQ]));have dR:=(Ts h9).pick 2 rfl;have hdo:=abU dR (rA.o.Hy pn.o HF.o.right yh.o) (Ho HZO.o.Be) HZO.o.rss HZO.o.NH (fun w' hb=>jg.o w' hb) q;rw [yQ] at hdo;have HDO:=af hdo;clear c0 c1 c2 c3 c4 c5 c6 lD;obtain ⟨c0,c1,c2,c3,c4,c5,c6,lD⟩:=km (dR.pick 3 rfl).row.1;have hz:=(dR.pick 6 rfl).row.1;have z0:=hz.c0;have z1:=hz.c1;have z2:=hz.c2;have z3:=hz.c3;have z4:=hz.c4;have z5:=hz.c5;have lZ:=hz.lt;clear hz h9 dR yQ AM hdo HCY g0 g1 HZO;go_wp2_with fail;refine HDO.o.mono ?_;rintro e w9 ⟨rfl,P2,jW,DF,jn,rO,zh⟩;have uz:=af jn;have pz:=af DF;have wQ:=rA.o.act pn.o HF.o.right yh.o (js:=js) (fun i=>Ie (jg.o w9 jn.aE).iO.jo i) q rO DF zh X2 v2;clear DF jn rO zh c0 c1 c2 c3 c4 c5 c6 lD z0 z1 z2 z3 z4 z5 lZ HDO rA;generalize (oD t m xs js q).2.1=m2 at *;generalize (oD t m xs js q).2.2=QS at *;generalize (oD t m xs js q).1=r1 at *;generalize (pB t (ys.map (·.2)) js q).1=f1 at *;obtain ⟨xN,wQ⟩:=wQ;have nU:=af xN;clear xN;dsimp only;rcases wQ with ⟨e1,e8,iz,uc⟩|⟨e1,jS,iz⟩|⟨e1,e2,e3,iz⟩
      ·have qD:=af uc;have HT:=af (Zb uz.o);have e9:(r1==8)=false:=by simpa using e8
       have e10:(r1 != f1)=false:=by simpa using e1
       have iy:=af iz;clear e1 e8 uc uz;cases iz with
       | lit h =>
         have qa:=af h;clear h;go_wp2_with fail;refine (oc HT.o qa.o.lit.on).mono ?_;rintro e wd ⟨rfl,rfl⟩;go_wp2_with fail;refine (vB HT.o HF.o.right rfl nU.o qa.o qD.o).mono ?_;rintro e we ⟨rfl,ak⟩;have HE:=af ak;clear ak;go_wp2_with fail;go_roundw;case rel=>exact ⟨k+1,_,_,_,_,_,_,_,_,by omega,rfl,rfl,by go_num,HE.o,.lit qa.o,qD.o,nU.o⟩
         case measure=>simp [intOf];omega
       | fell M vM PM Ax h hz hP =>
         have TS:=af h.down;clear h hz hP;go_wp2_with fail;refine (oc HT.o TS.o).mono ?_;rintro e wd ⟨rfl,rfl⟩;go_wp2_with fail;go_roundw;case rel=>exact ⟨k+1,_,_,_,_,_,_,_,_,by omega,rfl,rfl,by go_num,HT.o,iy.o,qD.o,nU.o⟩
         case measure=>simp [intOf];omega
      ·subst e1;have iy:=af iz;by_cases hf0:f1=0
       case' pos =>
        subst hf0;cases iz
        ·exact absurd ⟨rfl,rfl⟩ jS
       case' neg=>have e0:(f1==0)=false:=by simpa using hf0
       all_goals
        clear jS;go_wp2_with fail;go_roundw;case rel=>exact ⟨k+1,ad,m2,QS,X,v,P2,ys,_,by omega,rfl,rfl,by go_num,Jr pz.o uz.o,iy.o,pn.o.mono pz.o,nU.o⟩
        case measure=>simp [intOf];omega
      ·subst e1 e2 e3;have iy:=af iz;clear iz;go_wp2_with fail;go_roundw;case rel=>exact ⟨k+1,ad,m2,QS,X,v,P2,ys,_,by omega,rfl,rfl,by go_num,QA pz.o uz.o,iy.o,pn.o.mono pz.o,nU.o⟩
       case measure=>simp [intOf];omega
     ·have g0:0≤q.kind:=by omega
      have g1:¬q.kind≤5:=by omega
      have e6:(q.kind==6)=true:=by simpa using g6
      have e7:(q.kind==7)=false:=by simp;omega
      have hs:=rA.o;clear g6;cases hs with
      | lit h =>
        have HFU:=af (UF H8.o q.no TV.o.1.2);have qa:=af (h.jH (n:=q.no) TV.o.1.2);have nU:=af (show (m.eV q.no).ar.length=10*t.parts.length by rw [Tb];exact yh.o);have qD:=af pn.o;clear h e7;go_wp2_with fail;refine HFU.o.mono ?_;rintro e wz ⟨rfl,hz⟩;have HT:=af ((hz.pick 2 rfl).drop);clear hz c0 c1 c2 c3 c4 c5 c6 lD;go_wp2_with fail;refine (oc HT.o qa.o.lit.on).mono ?_;rintro e wd ⟨rfl,rfl⟩;go_wp2_with fail;refine (vB HT.o HF.o.right rfl nU.o qa.o qD.o).mono ?_;rintro e we ⟨rfl,ak⟩;have HE:=af ak;clear ak;go_wp2_with fail;go_roundw;case rel=>exact ⟨k+1,_,_,_,_,_,_,_,_,by omega,rfl,rfl,by go_num,HE.o,.lit qa.o,qD.o,nU.o⟩
        case measure=>simp [intOf];omega
      | fell M vM PM Ax h hz hP =>
        have TS:=af h.down;have iy:=rA;have HT:=af ((H8.o.pick 2 rfl).drop);have qD:=af pn.o;have nU:=af yh.o;clear h hz hP;go_wp2_with fail;refine (oc HT.o TS.o).mono ?_;rintro e wd ⟨rfl,rfl⟩;go_wp2_with fail;go_roundw;case rel=>exact ⟨k+1,_,_,_,_,_,_,_,_,by omega,rfl,rfl,by go_num,HT.o,iy.o,qD.o,nU.o⟩
        case measure=>simp [intOf];omega
     ·have g0:0≤q.kind:=by omega
      have g1:¬q.kind≤5:=by omega
      have e6:(q.kind==6)=false:=by simp;omega
      have e7:(q.kind==7)=true:=by simpa using g7
      have xg:=af (Q6 H8.o (rA.o.Hy pn.o HF.o.right yh.o) q.keep TV.o.2);have nU:=af (show (m.bZ q.keep).ar.length=10*t.parts.length by rw [DS.qm];exact yh.o);have jy:=rA.o.Zk pn.o;clear g7;go_wp2_with fail;refine xg.o.mono ?_;rintro e wp ⟨rfl,hp⟩;clear c0 c1 c2 c3 c4 c5 c6 lD;have hz:=(hp.pick 5 rfl).row.1;have z0:=hz.c0;have z1:=hz.c1;have z2:=hz.c2;have z3:=hz.c3;have z4:=hz.c4;have z5:=hz.c5;have lZ:=hz.lt;have hs:=rA.o;clear rA hz xg g0 g1 e6 e7 H8;cases hs with
      | lit h =>
        have yY:=rL (a:=a) hp (h.bZ q.keep) pn.o.Be.holds (jg.o wp hp.aE).bN HF.o.right jy nU.o;simp only [dF.val] at yY;have Cm:=af yY;have qa:=af (h.bZ q.keep).fin;have qD:=af pn.o;clear h yY hp jy;go_wp2_with fail;refine Cm.o.mono ?_;rintro e wz ⟨ad2,rfl,hz⟩;have HT:=af ((hz.pick 2 rfl).drop);clear hz z0 z1 z2 z3 z4 z5 lZ Cm;dsimp only;go_wp2_with fail;refine (oc HT.o qa.o.lit.on).mono ?_;rintro e wd ⟨rfl,rfl⟩;go_wp2_with fail;refine (vB HT.o HF.o.right rfl nU.o qa.o qD.o).mono ?_;rintro e we ⟨rfl,ak⟩;have HE:=af ak;clear ak;go_wp2_with fail;go_roundw;case rel=>exact ⟨k+1,_,_,_,_,_,_,_,_,by omega,rfl,rfl,by go_num,HE.o,.lit qa.o,qD.o,nU.o⟩
        case measure=>simp [intOf];omega
      | fell M vM PM Ax h gm hP =>
        obtain ⟨xs3,pd,hu⟩:=h.out q.keep;have pd:=pd.trans jy;have yY:=Yk (a:=a) hp hu pn.o.Be.holds gm.1.holds (jg.o wp hp.aE).bN HF.o.right pd nU.o;simp only [dF.val] at yY;have Cm:=af yY;have HFV:=af (aaS hu);have Ju:=af gm;have HPM:=af hP;clear h yY hp jy hu gm hP;go_wp2_with fail;refine Cm.o.mono ?_;rintro e wz ⟨ad2,rfl,hz⟩;have jU:=af (Pb (ys:=ys) (UB HPM.o hz) HF.o.right rfl nU.o HFV.o pn.o ⟨Ju.o.1,Ju.o.2.1.mono HPM.o,Ju.o.2.2⟩);clear hz z0 z1 z2 z3 z4 z5 lZ Cm;dsimp only;go_wp2_with fail;refine jU.o.mono ?_;rintro e wy ⟨b,rfl,hy,Lx,hbf⟩;cases b
        case' true =>
         have qa:=af (Lx rfl);have qD:=af (show rU w t P Ax from .fin Ju.o.1 (Ju.o.2.1.mono HPM.o) Ju.o.2.2 (Lx rfl));have HT:=af (I0 hy)
        case' false =>
         have qa:=af (hbf rfl);have qD:=af pn.o;have HT:=af (YX hy)
        all_goals
         clear hy Lx hbf jU;go_wp2_with fail;refine (oc HT.o qa.o.lit.on).mono ?_;rintro e wd ⟨rfl,rfl⟩;go_wp2_with fail;refine (vB HT.o HF.o.right rfl nU.o qa.o qD.o).mono ?_;rintro e we ⟨rfl,ak⟩;have HE:=af ak;clear ak;go_wp2_with fail;go_roundw;case rel=>exact ⟨k+1,_,_,_,_,_,_,_,_,by omega,rfl,rfl,by go_num,HE.o,.lit qa.o,qD.o,nU.o⟩
         case measure=>simp [intOf];omega
     all_goals
      have e6:(q.kind==6)=false:=by simp;omega
      have e7:(q.kind==7)=false:=by simp;omega
     case' inr.inr.inr.inl=>have g0:¬0≤q.kind:=by omega
     case' inr.inr.inr.inr =>
      have g0:0≤q.kind:=by omega
      have g1:¬q.kind≤5:=by omega
     all_goals
      have hs:=rA.o;clear g8;cases hs with
      | lit h =>
        have qa:=af h;have nU:=af yh.o;have qD:=af pn.o;have HT:=af ((H8.o.pick 2 rfl).drop);clear h;go_wp2_with fail;refine (oc HT.o qa.o.lit.on).mono ?_;rintro e wd ⟨rfl,rfl⟩;go_wp2_with fail;refine (vB HT.o HF.o.right rfl nU.o qa.o qD.o).mono ?_;rintro e we ⟨rfl,ak⟩;have HE:=af ak;clear ak;go_wp2_with fail;go_roundw;case rel=>exact ⟨k+1,_,_,_,_,_,_,_,_,by omega,rfl,rfl,by go_num,HE.o,.lit qa.o,qD.o,nU.o⟩
        case measure=>simp [intOf];omega
      | fell M vM PM Ax h hz hP =>
        have TS:=af h.down;have iy:=rA;have HT:=af ((H8.o.pick 2 rfl).drop);have qD:=af pn.o;have nU:=af yh.o;clear h hz hP;go_wp2_with fail;refine (oc HT.o TS.o).mono ?_;rintro e wd ⟨rfl,rfl⟩;go_wp2_with fail;go_roundw;case rel=>exact ⟨k+1,_,_,_,_,_,_,_,_,by omega,rfl,rfl,by go_num,HT.o,iy.o,qD.o,nU.o⟩
        case measure=>simp [intOf];omega
    ·have k1:¬(k:Int) < (N:Int):=by omega
     have HB:=af bH.o.aE;clear bH rA;go_wp2_with fail;go_ret;exact ⟨rfl,HB.o⟩
theorem lifted (os:Os) (started:os.Started) (H:Type) (enc:TypeId×Value→H) :
  ReturnsInHanded {} Tryz.checked os 8 .any (Rows.storeActsSpec.pre6 enc Tryz.prog Tryz.f8 Rows.storeActsRow.domain false) (Rows.storeActsSpec.post enc Tryz.prog Tryz.f8 false true false false):=by
 refine returnsInHanded_of_change (C:=Tryz.checked) Go.Proofs.YtdldkkoplgkloaaGreat.lift.own started (by kernel_rfl) Tryz.func8
  (ChangeSpec.witness6 (enc:=enc) (C:=Tryz.checked) false ⟨#[],#[.agg #[.int .i64 0,.slice none 0 0,.slice none 0 0,.slice none 0 0,.int .i64 0,.slice none 0 0],.slice none 0 0],[]⟩ 8 (by kernel_rfl) (by kernel_rfl) (by kernel_rfl) (by kernel_rfl)) ?_
 intro W base args ds gs before abJ hW hcnd _;have hval:∀(j:Nat) t v,Tryz.f8.params[j]?=some t→args[j]?=some v→Value.okWide Tryz.prog W .any base t v:=abJ;have hW':=hW;obtain ⟨p,q,S6,hV,rfl,hfz,hnd⟩:=hW;have hA:DataW.TrodAll enc Tryz.prog W 0 (fun _=>true) true Tryz.f8.params.toList args.toList ds p:=S6;have hAk:=hA;rw [Tryz.params8] at hA hval;obtain ⟨v0,pE,d0,ds0,p0,q0,PZ,rfl,rfl,h0,r0⟩:=trodAll_cons hA;obtain ⟨v1,tU,d1,ds1,p1,q1,rfl,rfl,rfl,h1,r1⟩:=trodAll_cons r0;obtain ⟨rfl,rfl,rfl⟩:=trodAll_nil r1;obtain rfl:args=#[v0,v1]:=by cases args;simp_all
 obtain ⟨rfl,rfl⟩:=trodVars_none hV;have aH:=hW'.lt;obtain ⟨a,t,AI,nI,cI,js,K,rfl,eE⟩:=store.Zd (hval 0 49 v0 rfl rfl) h0;obtain ⟨A,c,L,rfl,hs,jL⟩:=store.Ze (hval 1 50 v1 rfl rfl) h1;refine (walk W a t AI nI cI js K eE A c L hs jL).mono fun e W' ⟨he,hg⟩=>?_;subst he
 exact ⟨_,rfl,Go.Proofs.YtdldkkoplgkloaaGreat.base.RL (pv:=[]) hW' (fun _ _ _=>(trodAll_cons_mk (shut_bool Tryz.underlying4 _) trodAll_mk0)) (fun sp wI=>Go.Proofs.YtdldkkoplgkloaaGreat.lift.Js Go.Proofs.YtdldkkoplgkloaaGreat.lift.laidOut hg _ _ _ _ (by kernel_rfl) hAk (fun x hx=>aH x (by simpa using hx)) (fun x hx=>wI x (by simpa using hx))) (fun _ _=>rfl) (by simp)
  hg (ok_one (by kernel_rfl) rfl (okWide_bool_mk Tryz.underlying4 _))⟩
theorem over:Rows.storeActsRow.holds Tryz.pinned (OpenSpec.ofChange Rows.storeActsSpec) :=
 OpenClaim.holds_of_wide 8 Tryz.f8 rfl rfl rfl rfl rfl rfl rfl ⟨rfl,rfl,rfl,rfl,rfl⟩ rfl rfl rfl rfl rfl (by kernel_rfl) Tryz.func8 (by kernel_rfl)
  (of_decide_eq_true (by kernel_rfl)) (by unfold Func.isWrapper;first|(rw [if_pos (by decide +kernel)];kernel_rfl)|(rw [if_neg (by decide +kernel)];exact ⟨rfl,rfl⟩))
  (fun os started H enc _=>lifted os started H enc)
theorem proved:Rows.StoreActsSaid :=
 over
#print axioms proved
end storeActs
end Go.Proofs.YtdldkkoplgkloaaGreat
