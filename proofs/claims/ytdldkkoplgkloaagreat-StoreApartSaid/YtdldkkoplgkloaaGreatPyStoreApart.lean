/-
  PROVED HERE: longeronlaw14.StoreApart is true whatever the input: what is done to one partition leaves what runs in all others, their records and stages as they were.
  CONDITIONS: none beyond the row's own.
-/
import Derived.Test.YtdldkkoplgkloaaGreatPy0
import Derived.Test.YtdldkkoplgkloaaGreatPy4
import Derived.Test.YtdldkkoplgkloaaGreatPy7
import Derived.Test.YtdldkkoplgkloaaGreatPy17
import Derived.Test.YtdldkkoplgkloaaGreatPy35
import Derived.Test.YtdldkkoplgkloaaGreatPy42
namespace Go.Proofs.YtdldkkoplgkloaaGreat
set_option linter.unusedVariables false
set_option linter.unusedSimpArgs false
set_option maxRecDepth 100000
set_option maxHeartbeats 32000000
namespace storeApart


open Go.RowKit Go.ChangeShapes Go.WideShapes Go.ChangeAt Go.Deep Go.Joins base obj mem sep bf bk record bP aU image bK bR chain bw store
theorem walk (w:World) (a:en) (t:aQ) (AI:Option Addr) (nI cI:Nat) (js:List aw) (K:Nat→Option Addr×Nat) (et:wG w a t AI nI cI js K) (A:Option Addr) (c:Nat) (L:List dk) (hs:Sl w w.heap.size 7 A L.length (ib L)) (nY:∀a∈L,qL a.n∧qL a.no∧0≤a.keep∧a.keep≤18446744073709551615) (part:Int) (hb:(Lit.int .u8 part).wf=true) :
  Calls Tryz.prog 4 #[.agg #[.int .i64 t.frame,.slice a.AP t.parts.length a.cP,.slice a.AW t.aC.length a.cW,.slice a.AC t.au.length a.cC,.int .i64 t.ay,.slice AI nI cI],.slice A L.length c,.int .u8 part] w fun e w'=>e=.returned (.bool true)∧Below w.heap.size w w':=by
 obtain ⟨Z,hZ⟩:∃Z,Z=w.heap.size:=⟨_,rfl⟩
 obtain ⟨w1,aJ⟩:∃w1,w1=w.alloc (.cells #[.int .i64 t.frame,.slice a.AP t.parts.length a.cP,.slice a.AW t.aC.length a.cW,.slice a.AC t.au.length a.cC,.int .i64 t.ay,.slice AI nI cI] 49):=⟨_,rfl⟩
 have h1:St w w1 [row Z 49 [.int .i64 t.frame,.slice a.AP t.parts.length a.cP,.slice a.AW t.aC.length a.cW,.slice a.AC t.au.length a.cC,.int .i64 t.ay,.slice AI nI cI]]:=by
  have h3:=(St.nil w).new 49 #[.int .i64 t.frame,.slice a.AP t.parts.length a.cP,.slice a.AW t.aC.length a.cW,.slice a.AC t.au.length a.cC,.int .i64 t.ay,.slice AI nI cI];rw [←aJ,←hZ] at h3;exact h3
 have H1:=aa h1;have bn:=aa h1.aI;have je:=aa (fun (w':World) (hb:Below w.heap.size w w')=>et.over hb);have HFA:=aa (fun (w':World) (hb:Below w.heap.size w w')=>FN (et.over hb));have kL:=aa (fun (w':World) (hb:Below w.heap.size w w')=>(hs.below hb).more hb.size);have HZ:=aa hZ;have bq:=aa aJ;have yd:=aa hb;simp only [nG] at HFA;obtain ⟨n,hn⟩:∃n,n=L.length:=⟨_,rfl⟩
 rw [←hn];have HN:=aa hn;clear h1 aJ hZ et hb hs hn nY;go_enter Tryz.func4,Tryz.ntmps4;go_upto_region 1 with fail;rw [←bq.o,←HZ.o];go_wp2_with fail;refine (Sw w1).mono ?_;rintro e w2 ⟨rfl,hb⟩;have aO:=aa hb;have iL:=aa (bn.o.trans (hb.mono bn.o.size));have hz:=(H1.o.below hb).row.1;have z0:w2.cell? ⟨Z,0,none⟩=some (.int .i64 t.frame):=hz.cell 0;have z1:w2.cell? ⟨Z,1,none⟩=some (.slice a.AP t.parts.length a.cP):=hz.cell 1;have z2:w2.cell? ⟨Z,2,none⟩=some (.slice a.AW t.aC.length a.cW):=hz.cell 2;have z3:w2.cell? ⟨Z,3,none⟩=some (.slice a.AC t.au.length a.cC):=hz.cell 3;have z4:w2.cell? ⟨Z,4,none⟩=some (.int .i64 t.ay):=hz.cell 4;have z5:w2.cell? ⟨Z,5,none⟩=some (.slice AI nI cI):=hz.cell 5;have lZ:=hz.lt;clear hb hz;go_wp2_with fail;refine (HFA.o w2 iL.o).mono ?_;rintro e w3 ⟨⟨b,rfl,hF⟩,hb⟩;have bD:=aa (aO.o.trans (hb.mono aO.o.size));have vq:=aa (iL.o.trans (hb.mono iL.o.size));clear z0 z1 z2 z3 z4 z5 lZ hb;cases b with
 | false =>
   clear hF;go_wp2_with fail;go_ret;exact ⟨rfl,vq.o⟩
 | true =>
   by_cases ach:n≤20
   case neg =>
    have k1:(20:Int) < (n:Int):=by omega
    clear hF;go_wp2_with fail;go_ret;exact ⟨rfl,vq.o⟩
   case pos =>
   have k1:¬(20:Int) < (n:Int):=by omega
   have F:=hF rfl;have HF:=aa F;have T:=aQ.r F.right;have JT:=T.np;have rV:=aa JT;have av:=H1.o.below bD.o;have hz:=av.row.1;have z0:w3.cell? ⟨Z,0,none⟩=some (.int .i64 t.frame):=hz.cell 0;have z1:w3.cell? ⟨Z,1,none⟩=some (.slice a.AP t.parts.length a.cP):=hz.cell 1;have z2:w3.cell? ⟨Z,2,none⟩=some (.slice a.AW t.aC.length a.cW):=hz.cell 2;have z3:w3.cell? ⟨Z,3,none⟩=some (.slice a.AC t.au.length a.cC):=hz.cell 3;have z4:w3.cell? ⟨Z,4,none⟩=some (.int .i64 t.ay):=hz.cell 4;have z5:w3.cell? ⟨Z,5,none⟩=some (.slice AI nI cI):=hz.cell 5;have lZ:=hz.lt;have MP:=aa (LW (js:=js) (K:=K) (B:=fact True) (av.addFact trivial) (fun w' l' h=>(je.o w' h.aI).il) (fun w' l' h=>(je.o w' h.aI).bK) (je.o w3 vq.o).cap HF.o.right HF.o.Kq HF.o.tx HF.o.fE);simp only [nG] at MP;clear hF F T av hz JT;go_wp2_with fail;refine MP.o.mono ?_;rintro e w4 ⟨ad,d,X,rfl,m,xs,v,P,ys,h4,Cl,nT,Qz,rq,zu⟩;have H4:=aa (show St w w4 (cw X [.int .i64 t.frame,.slice a.AP t.parts.length a.cP,.slice a.AW t.aC.length a.cW,.slice a.AC t.au.length a.cC,.int .i64 t.ay] v P ys::bL ad t d m xs::[fact True,row Z 49 [.int .i64 t.frame,.slice a.AP t.parts.length a.cP,.slice a.AW t.aC.length a.cW,.slice a.AC t.au.length a.cC,.int .i64 t.ay,.slice AI nI cI]]) from h4);have iZ:=(je.o w3 vq.o).il.len
   have KU:=aa (show dD m xs (cK (ys.map (·.2))) by
    have h5:=Cl.made
    have e1:cK (ys.map (·.2))=vN (js.take t.parts.length):=by
     rw [rq];unfold cK vN;have h6:(js.take t.parts.length).length=t.parts.length:=by rw [fv];have:=HF.o.Kq;omega
     rw [List.map_map,h6];refine List.map_congr_left fun q hq=>?_;have vU:q < t.parts.length:=by simpa using hq
     simp [nF,RP.dp,dz,List.getElem?_take,vU]
    rw [e1];exact h5)
   have HXI:=aa (show qu t (ys.map (·.2)) by
    intro q hq;rw [rq] at hq ⊢;rw [gN,List.length_range] at hq;have e:((List.range t.parts.length).map (nF js)).getD q default=nF js q:=by simp [dz,hq]
    rw [e];have hh:=Dq (oQ (HF.o.fE q hq)) (Ce _) (HF.o.fE q hq);have:=rV.o
    exact ⟨rfl,pD (by omega) (by omega),hh,hh⟩)
   have EP:=aa (show ys.length=t.parts.length by have:=congrArg List.length rq;simpa using this)
   have MQ:=aa (show jn w P ys by
    intro y hy;obtain ⟨q,hq,rfl⟩:=List.getElem_of_mem hy;obtain ⟨k0,k1⟩:=zu q hq;have vU:q < t.parts.length:=by rw [←EP.o];exact hq
    have hx:ys[q].2=nF js q:=by
     have h6:(ys.map (·.2))[q]?=((List.range t.parts.length).map (nF js))[q]?:=by rw [rq]
     simpa [hq,vU] using h6
    have JP:q < nI:=by have:=HF.o.Kq;omega
    rw [k0,k1,hx];refine ⟨⟨by have:=HF.o.short q JP;show (js.getD q aw.none).code.length≤1000000;omega,.inl fun w' hb=>?_⟩,⟨by simp [nF,aw.none],.inl fun w' hb=>?_⟩⟩
    ·obtain ⟨_,_,_,_,_,_,_,_,_,_,_,_,_,dB⟩:=(je.o w' hb).il.at_ q JP;exact dB
    ·show Sl w' w'.heap.size 1 none 0 (aP [])
     exact Sl.Fy _ _ _)
   have tB:=aa nT;have HML:=aa Qz;clear h4 Cl nT Qz iZ rq zu z0 z1 z2 z3 z4 z5 lZ MP k1;have hz:=(H4.o.pick 3 rfl).row.1;have z0:w4.cell? ⟨Z,0,none⟩=some (.int .i64 t.frame):=hz.cell 0;have z1:w4.cell? ⟨Z,1,none⟩=some (.slice a.AP t.parts.length a.cP):=hz.cell 1;have z2:w4.cell? ⟨Z,2,none⟩=some (.slice a.AW t.aC.length a.cW):=hz.cell 2;have z3:w4.cell? ⟨Z,3,none⟩=some (.slice a.AC t.au.length a.cC):=hz.cell 3;have z4:w4.cell? ⟨Z,4,none⟩=some (.int .i64 t.ay):=hz.cell 4;have z5:w4.cell? ⟨Z,5,none⟩=some (.slice AI nI cI):=hz.cell 5;have lZ:=hz.lt;clear hz;dsimp only
   have bN:0≤part∧part≤255:=by
    have hbt:=yd.o;have e1:IntKind.u8.min=0:=rfl;have e2:IntKind.u8.max=255:=rfl;simp only [Lit.wf,Bool.and_eq_true,decide_eq_true_eq] at hbt;omega
   have Md:¬t.parts.length=0:=by have:=rV.o;omega
   go_upto_region 9 with fail
   obtain ⟨p,hp,iG⟩:∃p:Nat,part % (t.parts.length:Int)=p∧p < t.parts.length:=by
    have h1:=Int.emod_nonneg part (show (t.parts.length:Int)≠0 by omega);have h2:=Int.emod_lt_of_pos part (show (0:Int) < (t.parts.length:Int) by omega);exact ⟨(part % (t.parts.length:Int)).toNat,by omega,by omega⟩
   rw [hp];have EY:=aa iG;clear hp iG Md bN z0 z1 z2 z3 z4 z5 lZ;have H5:=aa (show St w w4 (own 58 7 (.slice none 0 0) 0 (ib (mM p (L.take 0)))::cw X [.int .i64 t.frame,.slice a.AP t.parts.length a.cP,.slice a.AW t.aC.length a.cW,.slice a.AC t.au.length a.cC,.int .i64 t.ay] v P ys::bL ad t d m xs::[fact True,row Z 49 [.int .i64 t.frame,.slice a.AP t.parts.length a.cP,.slice a.AW t.aC.length a.cW,.slice a.AC t.au.length a.cC,.int .i64 t.ay,.slice AI nI cI]]) from H4.o.cQ (Below.refl _ _) ⟨rfl,.inl ⟨rfl,rfl⟩⟩);go_wp2_with fail;go_loopw [11,44] (fun s x wr=>∃k:Nat,k≤n∧x=.int .i64 (k:Int)∧St w wr (own 58 7 s (mM p (L.take k)).length (ib (mM p (L.take k)))::cw X [.int .i64 t.frame,.slice a.AP t.parts.length a.cP,.slice a.AW t.aC.length a.cW,.slice a.AC t.au.length a.cC,.int .i64 t.ay] v P ys::bL ad t d m xs::[fact True,row Z 49 [.int .i64 t.frame,.slice a.AP t.parts.length a.cP,.slice a.AW t.aC.length a.cW,.slice a.AC t.au.length a.cC,.int .i64 t.ay,.slice AI nI cI]])) (fun _ x _=>n-(intOf x).toNat)
   case atStart=>exact ⟨0,by omega,rfl,H5.o⟩
   case round =>
    obtain ⟨k,hk,rfl,av⟩:=hrel;clear H5 H4;have bJ:=aa av;clear av;by_cases aK:k < n
    ·have zw:k < L.length:=by rw [←HN.o];exact aK
     obtain ⟨b,off,rfl,cy,a0,a1,a2,a3,a4,a5,a6⟩:=FU (kL.o wr bJ.o.aI) zw;have zD:=aa (show mM p (L.take (k+1))=mM p (L.take k)++(if L[k].kind < 6∧0≤L[k].kind∨L[k].kind=8 then [{ L[k] with part:=p }] else []) by rw [jz zw,OJ]);have Bh:=aa (show (mM p (L.take k)).length≤20 by have:=Hq p (L.take k);rw [fv] at this;omega);generalize L[k]=q at *;have k1:(k:Int) < (n:Int):=by omega
     have k0:(0:Int)≤(k:Int):=by omega
     have tG:=aa (fun (o:Obj)=>bJ.o.below ((Below.refl _ wr).alloc (Nat.le_refl _) o));by_cases QT:q.kind < 6∧0≤q.kind∨q.kind=8
     case pos =>
      have J8:=zD.o;rw [if_pos QT] at J8;have jJ:=aa J8;obtain ⟨D,hD⟩:∃D,D=wr.heap.size:=⟨_,rfl⟩
      obtain ⟨w5,dQ⟩:∃v,v=wr.alloc (.cells #[.int .i64 q.kind,.int .i64 (p:Int),.int .i64 q.n,.int .i64 q.i,.int .i64 q.no,.bool q.dL,.int .u64 q.keep] 58):=⟨_,rfl⟩
      have h5:=bJ.o.new 58 { q with part:=(p:Int):dk }.cells.toArray;rw [←hD,show wr.alloc (.cells { q with part:=(p:Int):dk }.cells.toArray 58)=w5 from dQ.symm] at h5;have H6:=aa h5.swap;have pZ:=aa dQ;have HD:=aa hD;clear dQ hD h5 J8 zw;rcases (by omega:(0≤q.kind∧q.kind < 6)∨(¬q.kind < 6∧q.kind=8)) with ⟨g0,g1⟩|⟨g0,g1⟩
      case' inr =>
       have g2:(q.kind==8)=true:=by simpa using g1
       clear g1
      all_goals
       clear QT;go_upto_region 15 with fail;rw [←pZ.o,←HD.o];clear a0 a1 a2 a3 a4 a5 a6;obtain ⟨c0,c1,c2,c3,c4,c5,c6,lD⟩:=jO (H6.o.pick 1 rfl).row.1;have aco:=Bh.o;go_wp2_with (refine xV Iq rfl (.tmp 63) (.tmp 65) rfl H6.o rfl (m:=1) { q with part:=(p:Int):dk }.cells rfl (by simp [Value.oneCell',dk.cells]) rfl (by omega) (by omega) (by unfold maxLen;omega) ?_;rintro g5 c5 w5 h5;have H7:=aa h5;clear h5);go_roundw
       case rel =>
        refine ⟨k+1,by omega,by go_num,?_⟩;have h9:=H7.o.swap.drop;rw [jJ.o,gA,uu];exact h9
       case measure=>simp [intOf];omega
     case neg =>
      have J8:=zD.o;rw [if_neg QT,List.append_nil] at J8;have jJ:=aa J8
      have g3:(q.kind==8)=false:=by
       have:¬q.kind=8:=fun e=>QT (.inr e);simpa using this
      clear J8 zw;rcases (by omega:q.kind < 0∨(0≤q.kind∧¬q.kind < 6)) with g0|⟨g0,g1⟩
      case' inl=>have g1:q.kind < 6:=by omega
      case' inl=>have g4:¬0≤q.kind:=by omega
      all_goals
       clear QT;go_wp2_with fail;go_roundw
       case rel =>
        refine ⟨k+1,by omega,by go_num,?_⟩;rw [jJ.o];exact tG.o _
       case measure=>simp [intOf];omega
    ·obtain rfl:k=n:=by omega
     have k1:¬(k:Int) < (k:Int):=by omega
     have av:=bJ.o;rw [List.take_of_length_le (by rw [HN.o];exact Nat.le_refl _)] at av;obtain ⟨A1,cA1,hu,_,_⟩:=aH av.own;subst hu;obtain ⟨AL,Kb⟩:∃AL,AL=mM p L:=⟨_,rfl⟩
     rw [←Kb] at av ⊢;have tG:=aa Kb;have mf:=aa (show AL.length≤20 by rw [Kb];have:=Hq p L;have:=HN.o;omega);obtain ⟨L0,hL0⟩:∃L0,L0=ys.map (·.2):=⟨_,rfl⟩
     have HA0:=aa (show sa w t p L0 P m xs P ys from ⟨KU.o,HXI.o,fun _ h=>h,MQ.o,HML.o,EP.o,fun q _=>by rw [hL0]⟩);have HCY:=aa (Se (av.pick 1 rfl) HA0.o.rs (by rw [EP.o];exact rV.o.2));clear av Kb k1 aK hk;go_wp2_with fail;refine HCY.o.mono ?_;rintro e w5 ⟨X2,rfl,v2,zs,h5,zm,zu⟩;have RD:=aa (show zs.length=t.parts.length by have:=congrArg List.length zm;simp only [gN] at this;rw [this,EP.o]);have KO:=aa zm;have HKZ:=aa (jn.same MQ.o zu zm);have H5:=aa (h5.pick 4 rfl);have zo:=vJ (L:=AL) (A:=A1) (c:=cA1) H5.o (.int .i64 t.frame) (.slice a.AP t.parts.length a.cP) (.slice a.AW t.aC.length a.cW) (.slice a.AC t.au.length a.cC) (.int .i64 t.ay) (.slice AI nI cI) (fun w' l' h=>Sl.bz h.own) (by have:=mf.o;omega) ⟨_,rfl⟩;have jI:=aa zo;have hz:=(H5.o.pick 7 rfl).row.1;have z0:w5.cell? ⟨Z,0,none⟩=some (.int .i64 t.frame):=hz.cell 0;have z1:w5.cell? ⟨Z,1,none⟩=some (.slice a.AP t.parts.length a.cP):=hz.cell 1;have z2:w5.cell? ⟨Z,2,none⟩=some (.slice a.AW t.aC.length a.cW):=hz.cell 2;have z3:w5.cell? ⟨Z,3,none⟩=some (.slice a.AC t.au.length a.cC):=hz.cell 3;have z4:w5.cell? ⟨Z,4,none⟩=some (.int .i64 t.ay):=hz.cell 4;have z5:w5.cell? ⟨Z,5,none⟩=some (.slice AI nI cI):=hz.cell 5;have lZ:=hz.lt;clear h5 zm zu hz zo HCY;go_wp2_with fail;refine jI.o.mono ?_;rintro e w6 ⟨vs,rfl,h6⟩;obtain ⟨A3,cA3,rfl,_,_⟩:=aH h6.own;obtain ⟨SL,hSL⟩:∃SL,SL=gU AL:=⟨_,rfl⟩
     rw [←hSL] at h6 ⊢;have gq:=aa (show ∀q∈SL,q.part=p by rw [hSL,tG.o];exact OK);have zD:=aa (show SL.length≤240 by rw [hSL];have:=B8 AL;have:=mf.o;omega);have h7:=((((h6.pick 6 rfl).pick 6 rfl).swap.pick 3 rfl).drop)
     have H7:=aa h7;obtain ⟨N,hN⟩:∃N,N=SL.length:=⟨_,rfl⟩
     rw [←hN];have CI:=aa hN;have ab3:N≤240:=by rw [hN];exact zD.o
     clear h6 h7 hSL hN z0 z1 z2 z3 z4 z5 lZ jI;go_wp2_with fail;go_loopw [74] (fun x wr=>∃k:Nat,∃m' og P' iy,k≤N∧x=.int .i64 (k:Int)∧St w wr (bL ad t d m' og::cw X [.int .i64 t.frame,.slice a.AP t.parts.length a.cP,.slice a.AW t.aC.length a.cW,.slice a.AC t.au.length a.cC,.int .i64 t.ay] v P' iy::own 58 7 (.slice A3 SL.length cA3) SL.length (ib SL)::row X2 68 ([.int .i64 t.frame,.slice a.AP t.parts.length a.cP,.slice a.AW t.aC.length a.cW,.slice a.AC t.au.length a.cC,.int .i64 t.ay]++[v2])::own 65 8 v2 zs.length (dg zs)::ee P zs::[fact True,row Z 49 [.int .i64 t.frame,.slice a.AP t.parts.length a.cP,.slice a.AW t.aC.length a.cW,.slice a.AC t.au.length a.cC,.int .i64 t.ay,.slice AI nI cI]])∧sa w t p L0 P m' og P' iy) (fun x _=>N-(intOf x).toNat)
     case atStart=>exact ⟨0,m,xs,P,ys,by omega,rfl,H7.o,HA0.o⟩
     case round =>
      obtain ⟨k,m',og,P',iy,hk,rfl,av,Y3⟩:=hrel;clear H7 KU HXI MQ HML HA0 H5;have bJ:=aa av;have E9:=aa Y3;clear av Y3;by_cases aK:k < N
      ·have zw:k < SL.length:=by rw [←CI.o];exact aK
       have dB:=Sl.bz (bJ.o.pick 2 rfl).own;obtain ⟨b,off,rfl,cy,a0,a1,a2,a3,a4,a5,a6⟩:=FU dB zw;have HQP:=aa (gq.o _ (List.getElem_mem zw));generalize SL[k]=q at *;have k1:(k:Int) < (N:Int):=by omega
       have k0:(0:Int)≤(k:Int):=by omega
       obtain ⟨D,hD⟩:∃D,D=wr.heap.size:=⟨_,rfl⟩
       obtain ⟨w7,vO⟩:∃v,v=wr.alloc (.cells #[.int .i64 q.kind,.int .i64 q.part,.int .i64 q.n,.int .i64 q.i,.int .i64 q.no,.bool q.dL,.int .u64 q.keep] 58):=⟨_,rfl⟩
       have h8:=bJ.o.new 58 q.cells.toArray;rw [←hD,show wr.alloc (.cells q.cells.toArray 58)=w7 from vO.symm] at h8;have H8:=aa ((h8.pick 2 rfl).pick 2 rfl);have MI:=aa vO;have HD:=aa hD;clear vO hD h8 dB zw;go_upto_region 21 with fail;rw [←MI.o,←HD.o];clear a0 a1 a2 a3 a4 a5 a6;obtain ⟨c0,c1,c2,c3,c4,c5,c6,lD⟩:=jO (H8.o.pick 2 rfl).row.1;have hz:=(H8.o.pick 8 rfl).row.1;have z0:w7.cell? ⟨Z,0,none⟩=some (.int .i64 t.frame):=hz.cell 0;have z1:w7.cell? ⟨Z,1,none⟩=some (.slice a.AP t.parts.length a.cP):=hz.cell 1;have z2:w7.cell? ⟨Z,2,none⟩=some (.slice a.AW t.aC.length a.cW):=hz.cell 2;have z3:w7.cell? ⟨Z,3,none⟩=some (.slice a.AC t.au.length a.cC):=hz.cell 3;have z4:w7.cell? ⟨Z,4,none⟩=some (.int .i64 t.ay):=hz.cell 4;have z5:w7.cell? ⟨Z,5,none⟩=some (.slice AI nI cI):=hz.cell 5;have lZ:=hz.lt;clear hz;go_wp2_with fail;refine (aai H8.o (E9.o.UO HF.o.right) E9.o.right E9.o.rs E9.o.kok (fun w' hb=>je.o w' hb) q).mono ?_;rintro e w8 ⟨rfl,P2,qO,Mq,h9,zy,EC⟩;have HAQ:=aa (E9.o.act (fun i=>Ge (je.o wr bJ.o.aI).il.iS i) HQP.o Mq zy EC);have H9:=aa ((h9.swap.pick 2 rfl).drop);clear Mq h9 zy EC c0 c1 c2 c3 c4 c5 c6 lD z0 z1 z2 z3 z4 z5 lZ;generalize (uO t m' og js q).2.1=m2 at *;generalize (uO t m' og js q).2.2=xs2 at *;generalize (uO t m' og js q).1=r1 at *;go_wp2_with fail;go_roundw;case rel=>exact ⟨k+1,m2,xs2,P2,qO,by omega,by go_num,H9.o,HAQ.o⟩
       case measure=>simp [intOf];omega
      ·have k1:¬(k:Int) < (N:Int):=by omega
       have hdr:=bJ.o.drew;have iG:=EY.o;have zq:p < iy.length:=by rw [E9.o.len];exact iG
       have hpz:p < zs.length:=by rw [RD.o];exact iG
       obtain ⟨b2,c2,cs,JI,JM,kP,dG⟩:=Rz ((((hdr.pick 1 rfl).pick 5 rfl).pick 5 rfl).pick 5 rfl) E9.o.sub zq hpz;subst JI;obtain ⟨bO,oO,cO,bS,oS,cS,bI,oI,cI2,hR⟩:=sj (bJ.o.pick 1 rfl) rfl zq;have z5:wr.cell? ⟨X2,5,none⟩=some (.slice (some ⟨b2,0,none⟩) zs.length c2):=(bJ.o.pick 3 rfl).row.1.cell 5;have l2:=(bJ.o.pick 3 rfl).row.1.lt;have lb2:b2 < wr.heap.size:=JM.lt;have vz:=aa (fun w' av=>(sa.copy (w':=w') (ad:=ad) (d:=d) (X:=X2) (v:=.slice (some ⟨b2,0,none⟩) zs.length c2) (tv:=[.int .i64 t.frame,.slice a.AP t.parts.length a.cP,.slice a.AW t.aC.length a.cW,.slice a.AC t.au.length a.cC,.int .i64 t.ay]) (l:=[own 58 7 (.slice A3 SL.length cA3) SL.length (ib SL),fact True,row Z 49 [.int .i64 t.frame,.slice a.AP t.parts.length a.cP,.slice a.AW t.aC.length a.cW,.slice a.AC t.au.length a.cC,.int .i64 t.ay,.slice AI nI cI]]) E9.o HKZ.o HF.o.right (KO.o.trans hL0.symm) (by rw [RD.o,E9.o.len]) zq rfl av));have YA:=JM;have Zz:=aa dG;have HRO:=aa YA;have HFI:=aa kP
       have lA:eE iy[p]=[.int .i64 iy[p].2.aA.part,.int .i64 iy[p].2.aA.seq,.int .i64 iy[p].2.aA.ax,.int .i64 iy[p].2.aA.aj,.int .i64 iy[p].2.aA.left,.int .i64 iy[p].2.aA.bad,.slice (some ⟨bS,oS,none⟩) 2 cS,.slice (some ⟨bI,oI,none⟩) 2 cI2]:=by
        unfold eE;rw [hR.eS,hR.eI];rfl
       obtain ⟨x5,lX,lO,aZ,-,-,-,-,-,-⟩:=hR;rw [lA] at aZ;have q0:wr.cell? ⟨bO,oO+p*8,none⟩=some (.int .i64 iy[p].2.aA.part):=aZ 0 _ (by omega) rfl;have q1:=aZ 1 _ (by omega) rfl;have q2:=aZ 2 _ (by omega) rfl;have q3:=aZ 3 _ (by omega) rfl;have q4:=aZ 4 _ (by omega) rfl;have q5:=aZ 5 _ (by omega) rfl;have q6:=aZ 6 _ (by omega) rfl;have q7:=aZ 7 _ (by omega) rfl;have kp:(0:Int)≤(p:Int):=by omega
       have kz:(p:Int) < (zs.length:Int):=by omega
       have ky:(p:Int) < (iy.length:Int):=by omega
       have lA:=aa lA;rw [lA.o] at Zz;have HHS:=aa (vz.o _ Zz.o);clear hdr iG dG JM YA kP aZ vz;generalize iy[p].2.aA.part=g0,iy[p].2.aA.seq=g1,iy[p].2.aA.ax=g2,iy[p].2.aA.aj=g3,iy[p].2.aA.left=g4,iy[p].2.aA.bad=g5 at *;obtain ⟨wq,pH⟩:∃wq,wq=wr.drew.setRow b2 (List.toArray (cs.take (p*8)++[.int .i64 g0,.int .i64 g1,.int .i64 g2,.int .i64 g3,.int .i64 g4,.int .i64 g5,.slice (some ⟨bS,oS,none⟩) 2 cS,.slice (some ⟨bI,oI,none⟩) 2 cI2]++cs.drop (p*8+8))):=⟨_,rfl⟩
       rw [←pH] at HHS;have RF:=aa pH;clear pH;go_wp2_with fail;refine dA ?_;(refine bj [0,1,2,3,4,5,6,7,8,9,10,11,12] ?_;simp only [pick,af,ae,ah];(iterate 13 still_step);refine wpStill_nil ?_);(refine aL 13 ?_;(try simp only [af,ae,ah]));refine Go.Proofs.YtdldkkoplgkloaaGreat.fH.qx 65 (.tmp 96) (.tmp 95) rfl b2 (p*8) #[.int .i64 g0,.int .i64 g1,.int .i64 g2,.int .i64 g3,.int .i64 g4,.int .i64 g5,.slice (some ⟨bS,oS,none⟩) 2 cS,.slice (some ⟨bI,oI,none⟩) 2 cI2] rfl rfl HRO.o (by kernel_rfl) HFI.o (by simp [Value.oneCell']) (cs.take (p*8)++[.int .i64 g0,.int .i64 g1,.int .i64 g2,.int .i64 g3,.int .i64 g4,.int .i64 g5,.slice (some ⟨bS,oS,none⟩) 2 cS,.slice (some ⟨bI,oI,none⟩) 2 cI2]++cs.drop (p*8+8)) rfl ?_;rw [←RF.o];(try simp only [af,ae,ah,Act.put,aq,ak,ao]);refine bZ ?_;go_wp2_with fail;refine HHS.o.mono ?_;rintro e w9 ⟨rfl,Cu⟩;have HB9:=aa Cu;clear Cu;go_wp2_with fail;go_ret;exact ⟨rfl,HB9.o⟩
theorem lifted (os:Os) (started:os.Started) (H:Type) (enc:TypeId×Value→H) :
  ReturnsInHanded {} Tryz.checked os 4 .any (Rows.storeApartSpec.pre6 enc Tryz.prog Tryz.f4 Rows.storeApartRow.domain false) (Rows.storeApartSpec.post enc Tryz.prog Tryz.f4 false true false false):=by
 refine returnsInHanded_of_change (C:=Tryz.checked) Go.Proofs.YtdldkkoplgkloaaGreat.lift.own started (by kernel_rfl) Tryz.func4
  (ChangeSpec.witness6 (enc:=enc) (C:=Tryz.checked) false ⟨#[],#[.agg #[.int .i64 0,.slice none 0 0,.slice none 0 0,.slice none 0 0,.int .i64 0,.slice none 0 0],.slice none 0 0,.int .u8 0],[]⟩ 8 (by kernel_rfl) (by kernel_rfl) (by kernel_rfl) (by kernel_rfl)) ?_
 intro W base args ds gs before Z5 hW hcnd _;have hval:∀(j:Nat) t v,Tryz.f4.params[j]?=some t→args[j]?=some v→Value.okWide Tryz.prog W .any base t v:=Z5;have hW':=hW;obtain ⟨p,q,Q2,hV,rfl,hfz,hnd⟩:=hW;have hA:DataW.TrodAll enc Tryz.prog W 0 (fun _=>true) true Tryz.f4.params.toList args.toList ds p:=Q2;have hAk:=hA;rw [Tryz.params4] at hA hval;obtain ⟨v0,oo,d0,ds0,p0,q0,Of,rfl,rfl,h0,r0⟩:=trodAll_cons hA;obtain ⟨v1,sS,d1,ds1,p1,q1,rfl,rfl,rfl,h1,r1⟩:=trodAll_cons r0;obtain ⟨v2,vs2,d2,ds2,p2,q2,rfl,rfl,rfl,h2,r2⟩:=trodAll_cons r1;obtain ⟨rfl,rfl,rfl⟩:=trodAll_nil r2;obtain rfl:args=#[v0,v1,v2]:=by cases args;simp_all
 obtain ⟨rfl,rfl⟩:=trodVars_none hV;have aK:=hW'.lt;obtain ⟨a,t,AI,nI,cI,js,K,rfl,et⟩:=store.Xw (hval 0 49 v0 rfl rfl) h0;obtain ⟨A,c,L,rfl,hs,nY⟩:=store.Xx (hval 1 50 v1 rfl rfl) h1;obtain ⟨a2,rfl,_,_,w2⟩:=open_int Tryz.underlying5 (hval 2 5 v2 rfl rfl) h2;refine (walk W a t AI nI cI js K et A c L hs nY a2 w2).mono fun e W' ⟨he,hg⟩=>?_;subst he
 exact ⟨_,rfl,Go.Proofs.YtdldkkoplgkloaaGreat.base.PV (pv:=[]) hW' (fun _ _ _=>(trodAll_cons_mk (shut_bool Tryz.underlying4 _) trodAll_mk0)) (fun sp zo=>Go.Proofs.YtdldkkoplgkloaaGreat.lift.Hp Go.Proofs.YtdldkkoplgkloaaGreat.lift.laidOut hg _ _ _ _ (by kernel_rfl) hAk (fun x hx=>aK x (by simpa using hx)) (fun x hx=>zo x (by simpa using hx))) (fun _ _=>rfl) (by simp)
  hg (ok_one (by kernel_rfl) rfl (okWide_bool_mk Tryz.underlying4 _))⟩
theorem over:Rows.storeApartRow.holds Tryz.pinned (OpenSpec.ofChange Rows.storeApartSpec) :=
 OpenClaim.holds_of_wide 4 Tryz.f4 rfl rfl rfl rfl rfl rfl rfl ⟨rfl,rfl,rfl,rfl,rfl⟩ rfl rfl rfl rfl rfl (by kernel_rfl) Tryz.func4 (by kernel_rfl)
  (of_decide_eq_true (by kernel_rfl)) (by unfold Func.isWrapper;first|(rw [if_pos (by decide +kernel)];kernel_rfl)|(rw [if_neg (by decide +kernel)];exact ⟨rfl,rfl⟩))
  (fun os started H enc _=>lifted os started H enc)
theorem proved:Rows.StoreApartSaid :=
 over
#print axioms proved
end storeApart
end Go.Proofs.YtdldkkoplgkloaaGreat
