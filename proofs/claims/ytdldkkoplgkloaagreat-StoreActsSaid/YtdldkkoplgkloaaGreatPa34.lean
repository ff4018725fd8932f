/- PROVED HERE: lemmas of the law. CONDITIONS: each names its own. -/
import Derived.Test.YtdldkkoplgkloaaGreatPa33
namespace Go.Proofs.YtdldkkoplgkloaaGreat
set_option linter.unusedVariables false
set_option linter.unusedSimpArgs false
set_option maxRecDepth 100000
set_option maxHeartbeats 32000000
open Go.Value renaming int → ae
open Go.IntKind renaming i64 → aa
namespace store
open Go.RowKit Go.Deep base obj mem sep aW aX record bD aG image bN bL chain bC
section
variable {w0 w : World} {l : List aI} {X : Nat} {tv : List Value} {v : Value} {P : List (Nat × List Value)} {ys : List (dv × RP)} {p : Nat}
structure QE (w:World) (X n p b c k bS cS:Nat) (rc:Int):Prop where
 x5:w.cell? ⟨X,5,none⟩=some (.slice (some ⟨b,0,none⟩) n c)
 lX:X < w.heap.size
 r3:w.cell? ⟨b,p*8+3,none⟩=some (ae aa rc)
 r6:w.cell? ⟨b,p*8+6,none⟩=some (.slice (some ⟨bS,0,none⟩) 2 cS)
 lb:b < w.heap.size
theorem QE.over {w':World} {n b c k bS cS:Nat} {rc:Int} (h:QE w X n p b c k bS cS rc) (hb:Below w.heap.size w w'):QE w' X n p b c k bS cS rc:=⟨(hb.cell h.lX).trans h.x5,Nat.lt_of_lt_of_le h.lX hb.size,(hb.cell h.lb).trans h.r3,(hb.cell h.lb).trans h.r6,Nat.lt_of_lt_of_le h.lb hb.size⟩
theorem JU (h:St w0 w (bK X tv v P ys::l)) (il:tv.length=5) (hr:∀y∈ys,y.2.aw.right=true) (hp:p < ys.length):∃(k b c T cT:Nat) (pre post:List Value) (F:aI),k < 2∧1-ys[p].2.aw.aj=(k:Int)∧ys[p].2.pG=k∧QE w X ys.length p b c k T cT ys[p].2.aw.aj∧pre.length=k*5∧
  St w0 w (nr T pre post P (ys[p].2.slot k)::eG P::F::l)∧
  ∀(w':World) (P':List (Nat×List Value)) (R:RS) (l':List aI),(∀x∈P,x∈P')→St w0 w' (nr T pre post P' R::eG P'::F::l')→iK w0 P ys→ix w0 w' X tv v P l' ((ys.map (·.2)).set p (ys[p].2.bj k R)):=by
 obtain ⟨k,hk,jm,dy⟩:=Ns (hr _ (List.getElem_mem hp));obtain ⟨b,off,c,bS,oS,cS,bI,oI,cI,ha⟩:=vC h il hp;obtain ⟨T,cT,pre,post,F,hl,hv,h3,jt⟩:=XS h hp (k:=(k:Int)) (by omega)
 obtain ⟨rfl,rfl,rfl⟩:bS=T∧oS=0∧cS=cT:=by
  have e:=ha.eS.symm.trans hv;injection e with e1 _ e3
  injection e1 with e1
  injection e1 with e1 e2
  exact ⟨e1,e2,e3⟩
 have ho:off=0:=by
  obtain ⟨A,c',e,_,_⟩:=aD ((et h).pick 1 rfl).own;subst e;obtain ⟨t,xs,rfl,_⟩:=nu ((et h).pick 1 rfl) (by omega);have x5:=ha.x5;rw [(et h).row.1.cell 5,List.getElem?_append_right (by omega),il] at x5;simp at x5;exact x5.1.2.symm
 subst ho;obtain ⟨_,_,_,r3,_,_,r6,_,lb⟩:=ha.recs;rw [Nat.zero_add] at r3 r6;refine ⟨k,b,c,bS,cS,pre,post,F,hk,jm,dy,⟨ha.x5,ha.lX,r3,r6,lb⟩,by rw [hl,dC],h3,fun w' P' R l' hP h' hK=>?_⟩;obtain ⟨a,ha2,ak⟩:=jt w' P' R l' hP h';exact ix.slot hK hp hP ha2 ak rfl
theorem QT (h:St w0 w (bK X tv v P ys::l)) (il:tv.length=5) (hr:∀y∈ys,y.2.aw.right=true) (hK:iK w0 P ys) (q se sz:Int) (iP:-9223372036854775808≤sz) :
  Calls Tryz.prog 60 #[.pointer (some ⟨X,0,none⟩),ae aa q,ae aa se,ae aa sz] w fun e w'=>e=.returned (ae aa (mY (ys.map (·.2)) q se sz).1)∧ix w0 w' X tv v P l (mY (ys.map (·.2)) q se sz).2:=by
 have HF:=af (D4 h il q);by_cases hf:bU (bw (ys.map (·.2))) q=0
 ·obtain ⟨p,rfl,hp,_⟩:=mg hf;rw [hf] at HF;rw [iB] at hp;have k1:(p:Int) < (ys.length:Int):=by omega
  have k0:(0:Int)≤(p:Int):=by omega
  have HH:=af (fun (w':World) (hb:Below w.heap.size w w')=>JU (h.below hb) il hr hp)
  have HE:=af (fun (k:Nat) (hk:ys[p].2.pG=k)=>show mY (ys.map (·.2)) (p:Int) se sz=((fk (ys[p].2.slot k) se sz).1,(ys.map (·.2)).set p (ys[p].2.bj k (fk (ys[p].2.slot k) se sz).2)) by
   unfold mY
   rw [if_neg (by simp [hf]),jD,rW hp,hk,dC])
  have HK:=af hK;clear h hr hf hK;go_enter Tryz.func60,Tryz.ntmps60;go_wp2_with fail;refine HF.o.mono ?_;rintro e w2 ⟨rfl,hb⟩;obtain ⟨k,b,c,T,cT,pre,post,F,hk,jm,dy,hs,hl,h3,jt⟩:=HH.o w2 hb;have MH:=af (HE.o k dy);obtain ⟨x5,lX,r3,r6,lb⟩:=hs;have k2:(k:Int) < 2:=by omega
  have k3:(0:Int)≤(k:Int):=by omega
  have kz:=af (fun n=>(tT (w:=w2.drewN (1+n)) r3 lb jm hk).mono fun e w' ⟨h1,h2⟩=>(⟨h1,n,h2⟩:e=_∧∃j,w'=w2.drewN (1+j)));have td:=af (fun n=>KF hl (h3.drewN n) se sz iP);have iS:=af jt;generalize ys[p].2.aw.aj=rc at *;clear h3 jt jm dy hb HE HH;go_wp2_with fail;refine dN ?_;(refine kB [0,1,2,3,4,5,6,7,8] (by kernel_rfl) ?_;simp only [pick,xG];(repeat (go_big_quiet_step (with_reducible exact kz.o _)));refine wpQuiet_nil ?_;rintro _ ⟨nq,rfl⟩;(try simp only [ai]));(refine aK 9 ?_;(try simp only [xG]);go_simp);refine (td.o _).mono ?_;rintro e w3 ⟨rfl,h4⟩;have HX:=af (iS.o w3 P _ l (fun _ h=>h) h4 HK.o);clear h4;(try simp only [ai]);(refine bk [10] ?_;simp only [pick,xG];(iterate 1 still_step);refine wpStill_nil ?_);refine cw ?_;go_wp2_with fail;go_ret;rw [MH.o];exact ⟨rfl,HX.o⟩
 ·have e:mY (ys.map (·.2)) q se sz=(bU (bw (ys.map (·.2))) q,ys.map (·.2)):=by unfold mY;rw [if_pos hf]
  rw [e];have HH:=af (fun (w':World) (hb:Below w.heap.size w w')=>ix.same hK (h.below hb));generalize bU (bw (ys.map (·.2))) q=r at *;have g:(r != 0)=true:=by simpa using hf
  clear e h hf;go_enter Tryz.func60,Tryz.ntmps60;go_wp2_with fail;refine HF.o.mono ?_;rintro e w2 ⟨rfl,hb⟩;have HX:=af (HH.o w2 hb);clear hb;go_wp2_with fail;go_ret;exact ⟨rfl,HX.o⟩
structure Ch (R:RS):Prop where
 right:R.has=true→R.st.right=true
 bu:x9 R
 jo:bn (dm R).1
theorem Kn {A B C D:aI} (h:St w0 w (A::B::C::D::l)):St w0 w (A::B::D::C::l):=h.perm (((List.Perm.swap D C l).cons B).cons A)
theorem Ui {B:aI} {D:Option Addr} {n dc:Nat} {data:List Int} (h:St w0 w (bK X tv v P ys::B::l)) (il:tv.length=5) (hr:∀y∈ys,y.2.aw.right=true) (hS:∀y∈ys,∀k:Int,Ch (y.2.slot k)) (hK:iK w0 P ys) (hg:qV w0 B D n data) (q se no:Int) :
  Calls Tryz.prog 61 #[.pointer (some ⟨X,0,none⟩),ae aa q,ae aa se,ae aa no,.slice D n dc] w fun e w'=>e=.returned (ae aa (qe (ys.map (·.2)) q se no data).1)∧ix w0 w' X tv v P (B::l) (qe (ys.map (·.2)) q se no data).2:=by
 have HF:=af (D4 h il q);by_cases hf:bU (bw (ys.map (·.2))) q=0
 ·obtain ⟨p,rfl,hp,_⟩:=mg hf;rw [hf] at HF;rw [iB] at hp;have k1:(p:Int) < (ys.length:Int):=by omega
  have k0:(0:Int)≤(p:Int):=by omega
  have HH:=af (fun (w':World) (hb:Below w.heap.size w w')=>JU (h.below hb) il hr hp)
  have HE:=af (fun (k:Nat) (hk:ys[p].2.pG=k)=>show qe (ys.map (·.2)) (p:Int) se no data=((ja (ys[p].2.slot k) se no data).1,(ys.map (·.2)).set p (ys[p].2.bj k (ja (ys[p].2.slot k) se no data).2)) by
   unfold qe
   rw [if_neg (by simp [hf]),jD,rW hp,hk,dC])
  have HK:=af hK;have HS:=af (hS _ (List.getElem_mem hp));clear h hr hf hK hS;go_enter Tryz.func61,Tryz.ntmps61;go_wp2_with fail;refine HF.o.mono ?_;rintro e w2 ⟨rfl,hb⟩;obtain ⟨k,b,c,T,cT,pre,post,F,hk,jm,dy,hs,hl,h3,jt⟩:=HH.o w2 hb;have MH:=af (HE.o k dy);obtain ⟨x5,lX,r3,r6,lb⟩:=hs;have k2:(k:Int) < 2:=by omega
  have k3:(0:Int)≤(k:Int):=by omega
  have kz:=af (fun n=>(tT (w:=w2.drewN (1+n)) r3 lb jm hk).mono fun e w' ⟨h1,h2⟩=>(⟨h1,n,h2⟩:e=_∧∃j,w'=w2.drewN (1+j)));have td:=af (fun m=>Kz (dc:=dc) hl (Kn (h3.drewN m)) hg (HS.o k).right (HS.o k).bu.b10 se no);have iS:=af jt;generalize ys[p].2.aw.aj=rc at *;clear h3 jt jm dy hb HE HH;go_wp2_with fail;refine dN ?_;(refine kB [0,1,2,3,4,5,6,7,8,9] (by kernel_rfl) ?_;simp only [pick,xG];(repeat (go_big_quiet_step (with_reducible exact kz.o _)));refine wpQuiet_nil ?_;rintro _ ⟨nq,rfl⟩;(try simp only [ai]));(refine aK 10 ?_;(try simp only [xG]);go_simp);refine (td.o _).mono ?_;rintro e w3 ⟨rfl,P',hP,h4⟩;have HX:=af (show ix w0 w3 X tv v P (B::l) _ from iS.o w3 P' _ (B::l) hP (Kn h4) HK.o);clear h4 hP;(try simp only [ai]);(refine bk [11] ?_;simp only [pick,xG];(iterate 1 still_step);refine wpStill_nil ?_);refine cw ?_;go_wp2_with fail;go_ret;rw [MH.o];exact ⟨rfl,HX.o⟩
 ·have e:qe (ys.map (·.2)) q se no data=(bU (bw (ys.map (·.2))) q,ys.map (·.2)):=by unfold qe;rw [if_pos hf]
  rw [e];have HH:=af (fun (w':World) (hb:Below w.heap.size w w')=>ix.same hK (h.below hb));generalize bU (bw (ys.map (·.2))) q=r at *;have g:(r != 0)=true:=by simpa using hf
  clear e h hf;go_enter Tryz.func61,Tryz.ntmps61;go_wp2_with fail;refine HF.o.mono ?_;rintro e w2 ⟨rfl,hb⟩;have HX:=af (HH.o w2 hb);clear hb;go_wp2_with fail;go_ret;exact ⟨rfl,HX.o⟩
theorem Uj (h:St w0 w (bK X tv v P ys::l)) (il:tv.length=5) (hr:∀y∈ys,y.2.aw.right=true) (hK:iK w0 P ys) (q se:Int) :
  Calls Tryz.prog 63 #[.pointer (some ⟨X,0,none⟩),ae aa q,ae aa se] w fun e w'=>e=.returned (ae aa (qf (ys.map (·.2)) q se).1)∧ix w0 w' X tv v P l (qf (ys.map (·.2)) q se).2:=by
 have HF:=af (Hp h il hr q se);by_cases hf:cM (bw (ys.map (·.2))) q se=0
 ·obtain ⟨p,rfl,hp,_⟩:=mg (vx hf);rw [hf] at HF;rw [iB] at hp;have k1:(p:Int) < (ys.length:Int):=by omega
  have k0:(0:Int)≤(p:Int):=by omega
  have HH:=af (fun (w':World) (hb:Below w.heap.size w w')=>JU (h.below hb) il hr hp)
  have HE:=af (fun (k:Nat) (hk:ys[p].2.pG=k)=>show qf (ys.map (·.2)) (p:Int) se=(0,(ys.map (·.2)).set p (ys[p].2.bj k RS.none)) by
   unfold qf
   rw [if_neg (by simp [hf]),jD,rW hp,hk,dC])
  have HK:=af hK;clear h hr hf hK;go_enter Tryz.func63,Tryz.ntmps63;go_wp2_with fail;refine HF.o.mono ?_;rintro e w2 ⟨rfl,hb⟩;obtain ⟨k,b,c,T,cT,pre,post,F,hk,jm,dy,hs,hl,h3,jt⟩:=HH.o w2 hb;have MH:=af (HE.o k dy);obtain ⟨x5,lX,r3,r6,lb⟩:=hs;have k2:(k:Int) < 2:=by omega
  have k3:(0:Int)≤(k:Int):=by omega
  have kz:=af (fun n=>(tT (w:=w2.drewN (1+n)) r3 lb jm hk).mono fun e w' ⟨h1,h2⟩=>(⟨h1,n,h2⟩:e=_∧∃j,w'=w2.drewN (1+j)));have OH:=af (fun m=>Pd hl (h3.drew.drewN m));have iS:=af jt;generalize ys[p].2.aw.aj=rc at *;clear h3 jt jm dy hb HE HH;go_wp2_with fail;refine dN ?_;(refine kB [0,1,2,3,4,5,6,7] (by kernel_rfl) ?_;simp only [pick,xG];(repeat (go_big_quiet_step (with_reducible exact kz.o _)));refine wpQuiet_nil ?_;rintro _ ⟨nq,rfl⟩;(try simp only [ai]));obtain ⟨cs,bo,oq,h4⟩:=OH.o nq;have HX:=af (iS.o _ P _ l (fun _ h=>h) h4 HK.o);clear h4;(refine aK 8 ?_;(try simp only [xG]));refine fZ.tj 118 (.tmp 28) (.tmp 27) rfl T (k*5) #[.bool false,ae aa 0,ae aa 0,ae aa 0,.slice none 0 0] rfl rfl bo (by kernel_rfl) oq (by simp [Value.oneCell']) _ rfl ?_;(try simp only [ai]);refine cw ?_;go_wp2_with fail;go_ret;rw [MH.o];exact ⟨rfl,HX.o⟩
 ·have e:qf (ys.map (·.2)) q se=(cM (bw (ys.map (·.2))) q se,ys.map (·.2)):=by unfold qf;rw [if_pos hf]
  rw [e];have HH:=af (fun (w':World) (hb:Below w.heap.size w w')=>ix.same hK (h.below hb));generalize cM (bw (ys.map (·.2))) q se=r at *;have g:(r==0)=false:=by simpa using hf
  clear e h hf;go_enter Tryz.func63,Tryz.ntmps63;go_wp2_with fail;refine HF.o.mono ?_;rintro e w2 ⟨rfl,hb⟩;have HX:=af (HH.o w2 hb);clear hb;go_wp2_with fail;go_ret;exact ⟨rfl,HX.o⟩
end
end store
namespace bD
open Go.RowKit base obj mem bC aX record sep aW
theorem Vn (w:World) (now r:Rec) (h0:0≤now.seq) :
  Calls Tryz.prog 164 #[now.val,r.val] w fun e w'=>e=.returned (.tuple #[(oQ now r).1.val,ae aa (oQ now r).2])∧Below w.heap.size w w':=by
 have MS:=af (fun r:Rec=>show (Tryz.prog.info? 35).map (·.size)=some r.cells.size from by kernel_rfl);have ML:=af (fun r s:Rec=>show 0+r.cells.size≤s.cells.toList.length from Nat.le_refl 6);have MO:=af (fun r:Rec=>yF r);have MR:=af (fun r s:Rec=>show s.cells.toList.take 0++r.cells.toList++s.cells.toList.drop (0+r.cells.size)=r.cells.toList by simp [Rec.cells]);obtain ⟨nx,gp⟩:=xE (bq now.part now r);have HQ:=af (show oQ now r=if 4294967295≤now.seq then (now,4) else if nx.right then (nx,0) else (now,3) by rw [gp];rfl);have lK:=af gp;have HV:=af (Rec.ng nx);clear gp;obtain ⟨w1,aF⟩:∃w1,w1=((w.alloc (.cells #[ae aa now.part,ae aa now.seq,ae aa now.au,ae aa now.aj,ae aa now.left,ae aa now.bad] 35)).alloc (.cells #[ae aa r.part,ae aa r.seq,ae aa r.au,ae aa r.aj,ae aa r.left,ae aa r.bad] 35)).alloc (.cells #[ae aa 0,ae aa 0,ae aa 0,ae aa 0,ae aa 0,ae aa 0] 35):=⟨_,rfl⟩
 have H1:=af (show St w w1 [row (w.heap.size+1+1) 35 Rec.zero.cells.toList,row (w.heap.size+1) 35 r.cells.toList,row w.heap.size 35 now.cells.toList] by
  rw [aF];have h:=(((St.nil w).new 35 now.cells).new 35 r.cells).new 35 Rec.zero.cells;rw [show ((w.alloc (.cells now.cells 35)).alloc (.cells r.cells 35)).heap.size=w.heap.size+1+1 by simp,show (w.alloc (.cells now.cells 35)).heap.size=w.heap.size+1 by simp] at h
  exact h)
 have br:=af aF;clear aF;rw [Rec.ng now,Rec.ng r];obtain ⟨n0,n1,n2,n3,n4,n5⟩:=Rec.read (H1.o.pick 2 rfl).row.1;have ln:=(H1.o.pick 2 rfl).row.1.lt;have f0:=(H1.o.pick 1 rfl).row.1.frozen 0;have f1:=(H1.o.pick 1 rfl).row.1.frozen 1;obtain ⟨r0,r1,r2,r3,r4,r5⟩:=Rec.read (H1.o.pick 1 rfl).row.1;have lr:=(H1.o.pick 1 rfl).row.1.lt;by_cases hf:4294967295≤now.seq
 ·have kd:=af (HQ.o.trans (if_pos hf));have hf':now.seq≥4294967295:=hf;go_enter Tryz.func164,Tryz.ntmps164;go_upto_region 1 with fail;rw [←br.o];go_wp2_with (refine aB rfl 35 (.tmp 4) (.tmp 9) rfl (w.heap.size+1+1) 0 now.cells rfl rfl H1.o.row.1 (MS.o _) (ML.o _ _) (MO.o _) now.cells.toList (MR.o _ _) ?_);refine bodyPost_ret (aL rfl _ _ (w.heap.size+1+1) _ _ _ _ _ rfl rfl (H1.o.setRow now.cells.toList).row.1 Tryz.underlying35 rfl (by kernel_rfl)) rfl ?_;exact ⟨by rw [kd.o];rfl,(H1.o.setRow now.cells.toList).aE⟩
 ·have hf':¬now.seq≥4294967295:=by omega
  have j8:now.seq≤4294967294:=by omega
  have kd:=af (HQ.o.trans (if_neg hf));have Fx:IntKind.i64.wrap (now.seq+1)=now.seq+1:=IntWalk.i64_in _ (by omega);clear hf
  have H2:=af (show St w _ [row (w.heap.size+1) 35 nx.cells.toList,row (w.heap.size+1+1) 35 Rec.zero.cells.toList,row w.heap.size 35 now.cells.toList] by
   have h:=(((H1.o.pick 1 rfl).set 0 (ae aa now.part)).set 1 (ae aa (now.seq+1)))
   rw [lK.o];exact h)
  obtain ⟨w2,eh⟩:∃w2,w2=(w1.setCell ⟨w.heap.size+1,0,none⟩ (ae aa now.part)).setCell ⟨w.heap.size+1,1,none⟩ (ae aa (now.seq+1)):=⟨_,rfl⟩
  rw [←eh] at H2;have jf:=af eh;clear eh;go_enter Tryz.func164,Tryz.ntmps164;go_upto_region 1 with fail;rw [←br.o];go_upto_region 5 with fail;rw [←jf.o];clear n0 n1 n2 n3 n4 n5 ln f0 f1 r0 r1 r2 r3 r4 r5 lr;obtain ⟨r0,r1,r2,r3,r4,r5⟩:=Rec.read H2.o.row.1;have lr:=H2.o.row.1.lt;go_wp2_with fail;rw [←HV.o];refine (eu.fR nx _).mono ?_;rintro e w3 ⟨rfl,hb⟩;have H3:=af (H2.o.below hb);clear hb r0 r1 r2 r3 r4 r5 lr;cases hg:nx.right with
  | true =>
    have nJ:=af (kd.o.trans (if_pos hg));clear hg;obtain ⟨r0,r1,r2,r3,r4,r5⟩:=Rec.read H3.o.row.1;have lr:=H3.o.row.1.lt;go_wp2_with (refine aB rfl 35 (.tmp 4) (.tmp 21) rfl (w.heap.size+1+1) 0 nx.cells rfl rfl (H3.o.pick 1 rfl).row.1 (MS.o _) (ML.o _ _) (MO.o _) nx.cells.toList (MR.o _ _) ?_);refine bodyPost_ret (aL rfl _ _ (w.heap.size+1+1) _ _ _ _ _ rfl rfl ((H3.o.pick 1 rfl).setRow nx.cells.toList).row.1 Tryz.underlying35 rfl (by kernel_rfl)) rfl ?_;exact ⟨by rw [nJ.o];rfl,((H3.o.pick 1 rfl).setRow nx.cells.toList).aE⟩
  | false =>
    have nJ:=af (kd.o.trans (if_neg (by rw [hg];decide)));clear hg;obtain ⟨r0,r1,r2,r3,r4,r5⟩:=Rec.read (H3.o.pick 2 rfl).row.1;have lr:=(H3.o.pick 2 rfl).row.1.lt;go_wp2_with (refine aB rfl 35 (.tmp 4) (.tmp 20) rfl (w.heap.size+1+1) 0 now.cells rfl rfl (H3.o.pick 1 rfl).row.1 (MS.o _) (ML.o _ _) (MO.o _) now.cells.toList (MR.o _ _) ?_);refine bodyPost_ret (aL rfl _ _ (w.heap.size+1+1) _ _ _ _ _ rfl rfl ((H3.o.pick 1 rfl).setRow now.cells.toList).row.1 Tryz.underlying35 rfl (by kernel_rfl)) rfl ?_;exact ⟨by rw [nJ.o];rfl,((H3.o.pick 1 rfl).setRow now.cells.toList).aE⟩
end bD
namespace store
open Go.RowKit Go.Deep base obj mem sep aW aX record bD aG image bN bL chain bC
section
variable {A:aI} {L l:List aI} {w w0:World}
theorem abX (h:St w0 w (A::(L++l))):St w0 w (A::du L::l):=by
 have h2:St w0 w (L++(A::l)):=h.perm List.perm_middle.symm;exact (St.eJ h2).swap
theorem aaR (h:St w0 w (A::du L::l)):St w0 w (A::(L++l)):=h.swap.fI.perm List.perm_middle
section
variable {w0 w : World} {l : List aI} {X : Nat} {tv : List Value} {v : Value} {P : List (Nat × List Value)} {ys : List (dv × RP)} {p : Nat}
theorem KB (hp:p < ys.length) (y:dv×RP):dG (ys.set p y)=dG (ys.take p)++(l6 y++dG (ys.drop (p+1))):=by
 unfold dG;rw [List.set_eq_take_append_cons_drop,if_pos hp];simp
theorem Rm (l:List (dv×RP)):(dG l).length=l.length*8:=by
 induction l with
 | nil=>rfl
 | cons a l ih =>
   show (l6 a++dG l).length=_
   rw [gC,ih,MX,List.length_cons];omega
theorem Rx (h:St w0 w (bK X tv v P ys::l)) (hp:p < ys.length):∃(b c:Nat) (pre post:List Value) (F:aI),pre.length=p*8∧v=.slice (some ⟨b,0,none⟩) ys.length c∧St w0 w (row b 65 (pre++(ys[p].2.aw.cells.toList++post))::F::l)∧
  ∀(w':World) (r:Rec) (l':List aI),St w0 w' (row b 65 (pre++(r.cells.toList++post))::F::l')→St w0 w' (bK X tv v P (ys.set p (ys[p].1,{ ys[p].2 with aw:=r }))::l'):=by
 have h1:=(et h).pick 1 rfl;rw [←List.set_getElem_self hp,KB hp,List.set_getElem_self hp] at h1;obtain ⟨b,c,post,e,h2,hb⟩:=yI (c:=ys[p].2.aw.cells.toList) (post:=[ys[p].1.vS,ys[p].1.vI]++dG (ys.drop (p+1))) h1 (by omega);refine ⟨b,c,_,post,_,by rw [Rm,fW];omega,e,abX (L:=[_,_,_]) h2,fun w' r l' h'=>?_⟩;have h4:=(hb w' _ r.cells.toList rfl (aaR h')).swap;refine rF ?_
 have e1:dY P (ys.set p (ys[p].1,{ ys[p].2 with aw:=r }))=dY P ys:=by
  unfold dY;rw [List.map_set,show mj P (ys[p].1,({ ys[p].2 with aw:=r }:RP)).1 (ys[p].1,({ ys[p].2 with aw:=r }:RP)).2=(ys.map fun y=>mj P y.1 y.2)[p]'(by simpa using hp) by simp [mj],List.set_getElem_self]
 rw [e1,KB hp];rw [List.length_set];exact h4
theorem Gz (h:St w0 w (bK X tv v P ys::l)) (hp:p < ys.length) (il:tv.length=5):∃b c,v=.slice (some ⟨b,0,none⟩) ys.length c∧w.cell? ⟨X,5,none⟩=some (.slice (some ⟨b,0,none⟩) ys.length c)∧X < w.heap.size∧b < w.heap.size∧∀k u,ys[p].2.aw.cells.toList[k]?=some u→w.cell? ⟨b,p*8+k,none⟩=some u:=by
 obtain ⟨b,c,pre,post,F,hl,hv,h2,jt⟩:=Rx h hp;refine ⟨b,c,hv,?_,(et h).row.1.lt,h2.row.1.lt,fun k u hu=>(h2.row.1.cell _).trans (l9 hl hu)⟩;rw [(et h).row.1.cell 5,List.getElem?_append_right (by omega),il,hv];rfl
theorem QU (x:RP) (r:Rec):eH x r=((oQ x.aw r).2,{ x with aw:=(oQ x.aw r).1 }):=by
 unfold eH oQ;split
 ·rfl
 ·split<;>rfl
theorem D3 (h:St w0 w (bK X tv v P ys::l)) (hp:p < ys.length) (hr:ys[p].2.aw.right=true) (hK:iK w0 P ys) {b c:Nat} (hv:v=.slice (some ⟨b,0,none⟩) ys.length c) (r:Rec) :
  Calls Tryz.prog 113 #[.pointer (some ⟨b,p*8,none⟩),r.val] w fun e w'=>e=.returned (ae aa (eH ys[p].2 r).1)∧ix w0 w' X tv v P l ((ys.map (·.2)).set p (eH ys[p].2 r).2):=by
 obtain ⟨b',c',pre,post,F,hl,Fz,h2,jt⟩:=Rx h hp
 obtain ⟨rfl,rfl⟩:b'=b∧c'=c:=by
  rw [hv] at Fz;injection Fz with e1 _ e3
  injection e1 with e1
  injection e1 with e1
  exact ⟨e1.symm,e3.symm⟩
 rw [QU];have HN:=af (fun w'=>Vn w' ys[p].2.aw r (by have:=eu.iZ hr;omega))
 have HE:=af (show (oQ ys[p].2.aw r).2≠0→(oQ ys[p].2.aw r).1=ys[p].2.aw by
  unfold oQ;split
  ·exact fun _=>rfl
  ·split
   ·intro h;exact absurd rfl h
   ·exact fun _=>rfl)
 have HK:=af (fun (w':World) (n:Rec) (h:St w0 w' (row b' 65 (pre++(n.cells.toList++post))::F::l))=>show ix w0 w' X tv v P l ((ys.map (·.2)).set p { ys[p].2 with aw:=n }) from ⟨P,_,fun _ h=>h,jt w' n l h,by rw [List.map_set],hK.set (a:=ys[p].1) (x:={ ys[p].2 with aw:=n }) (fun _ h=>h) (hK _ (List.getElem_mem hp)).1 (hK _ (List.getElem_mem hp)).2 p⟩);have HL:=af hl;generalize oQ ys[p].2.aw r=q at *;obtain ⟨nx,er⟩:=q;generalize ys[p].2.aw=o at *;obtain ⟨Z,hZ⟩:=xE w.heap.size;obtain ⟨w1,aF⟩:=xE (w.alloc (.cells #[ae aa r.part,ae aa r.seq,ae aa r.au,ae aa r.aj,ae aa r.left,ae aa r.bad] 35));have H1:=af (show St w0 w1 (row Z 35 r.cells.toList::row b' 65 (pre++(o.cells.toList++post))::F::l) by rw [aF,hZ];exact h2.new _ r.cells)
 have HC:=af (fun (w':World) (hb:Below w1.heap.size w1 w')=>show (w'.cell? ⟨b',p*8,none⟩=some (ae aa o.part)∧w'.cell? ⟨b',p*8+1,none⟩=some (ae aa o.seq)∧w'.cell? ⟨b',p*8+2,none⟩=some (ae aa o.au)∧w'.cell? ⟨b',p*8+3,none⟩=some (ae aa o.aj)∧w'.cell? ⟨b',p*8+4,none⟩=some (ae aa o.left)∧w'.cell? ⟨b',p*8+5,none⟩=some (ae aa o.bad)∧b' < w'.heap.size)∧w'.cell? ⟨Z,0,none⟩=some (ae aa r.part)∧w'.cell? ⟨Z,1,none⟩=some (ae aa r.seq)∧w'.cell? ⟨Z,2,none⟩=some (ae aa r.au)∧w'.cell? ⟨Z,3,none⟩=some (ae aa r.aj)∧w'.cell? ⟨Z,4,none⟩=some (ae aa r.left)∧w'.cell? ⟨Z,5,none⟩=some (ae aa r.bad)∧Z < w'.heap.size from by
  have a:=(H1.o.below hb).row.1;have d:=((H1.o.below hb).pick 1 rfl).row.1
  exact ⟨⟨(d.cell _).trans (l9 hl (k:=0) rfl),(d.cell _).trans (l9 hl rfl),(d.cell _).trans (l9 hl rfl),(d.cell _).trans (l9 hl rfl),(d.cell _).trans (l9 hl rfl),(d.cell _).trans (l9 hl rfl),d.lt⟩,a.cell 0,a.cell 1,a.cell 2,a.cell 3,a.cell 4,a.cell 5,a.lt⟩)
 have br:=af aF;have HZ:=af hZ;simp only [Rec.ng] at HN ⊢;clear h h2 jt hK hl aF hZ hv Fz hr;go_enter Tryz.func113,Tryz.ntmps113;go_upto_region 1 with fail;rw [←br.o,←HZ.o]
 go_cut [5,6] (fun s5 s6 wc=>∃Y,s5=.pointer (some ⟨Y,0,none⟩)∧s6=ae aa er∧St w0 wc (row Y 35 nx.cells.toList::row Z 35 r.cells.toList::row b' 65 (pre++(o.cells.toList++post))::F::l))
 case first =>
  refine eb (fun w'=>(w'.cell? ⟨b',p*8,none⟩=some (ae aa o.part)∧w'.cell? ⟨b',p*8+1,none⟩=some (ae aa o.seq)∧w'.cell? ⟨b',p*8+2,none⟩=some (ae aa o.au)∧w'.cell? ⟨b',p*8+3,none⟩=some (ae aa o.aj)∧w'.cell? ⟨b',p*8+4,none⟩=some (ae aa o.left)∧w'.cell? ⟨b',p*8+5,none⟩=some (ae aa o.bad)∧b' < w'.heap.size)∧w'.cell? ⟨Z,0,none⟩=some (ae aa r.part)∧w'.cell? ⟨Z,1,none⟩=some (ae aa r.seq)∧w'.cell? ⟨Z,2,none⟩=some (ae aa r.au)∧w'.cell? ⟨Z,3,none⟩=some (ae aa r.aj)∧w'.cell? ⟨Z,4,none⟩=some (ae aa r.left)∧w'.cell? ⟨Z,5,none⟩=some (ae aa r.bad)∧Z < w'.heap.size) (by kernel_rfl) (HC.o w1.drew (Below.refl w1.heap.size w1).drew) (fun bJ=>?_);(refine ah 0 ?_;(try simp only [ai]));(refine ah 1 ?_;(try simp only [ai]));(refine ah 2 ?_;(try simp only [ai]));(refine ah 3 ?_;(try simp only [ai]));(refine ah 4 ?_;(try simp only [ai]));refine VS 5 9 (by kernel_rfl) (by rfl) (by rfl) ?_ ?_
  ·((try simp only [xG]);go_simp;try dsimp only)
   refine (HN.o _).mono ?_;rintro e w3 ⟨rfl,hb⟩;have bM:=af ((Below.refl w1.heap.size w1).drew.trans hb);clear hb;dsimp only;(refine cu (HC.o w3 bM.o) (fun bJ=>?_);(try simp only [ai]));(refine ah 6 ?_;(try simp only [ai]));(refine ah 7 ?_;(try simp only [ai]));(refine ah 8 ?_;(try simp only [ai]));(refine dQ 9 ?_;(try simp only [xG]);go_simp);(try simp only [ai]);(refine dQ 10 ?_;(try simp only [xG]));refine fZ.tj 35 (.tmp 5) (.tmp 14) rfl w3.heap.size 0 #[ae aa nx.part,ae aa nx.seq,ae aa nx.au,ae aa nx.aj,ae aa nx.left,ae aa nx.bad] rfl rfl (Row.new w3 35 #[ae aa 0,ae aa 0,ae aa 0,ae aa 0,ae aa 0,ae aa 0]) (by kernel_rfl) (by simp) (by simp [Value.oneCell']) nx.cells.toList rfl ?_;(refine cu (HC.o _ ((((St.nil w1).below bM.o).new 35 #[ae aa 0,ae aa 0,ae aa 0,ae aa 0,ae aa 0,ae aa 0]).setRow nx.cells.toList).aE) (fun bJ=>?_);(try simp only [ai]));(refine ah 11 ?_;(try simp only [ai]));refine dw (by kernel_rfl) ?_;clear bJ;go_wp2_with fail;go_meet;exact ⟨_,rfl,rfl,((H1.o.below bM.o).new 35 #[ae aa 0,ae aa 0,ae aa 0,ae aa 0,ae aa 0,ae aa 0]).setRow nx.cells.toList⟩
  ·((try simp only [xG]);go_simp;try dsimp only)
   (refine cu (by simpa using HC.o _ ((St.nil w1).new 35 #[ae aa 0,ae aa 0,ae aa 0,ae aa 0,ae aa 0,ae aa 0]).drew.aE) (fun bJ=>?_);(try simp only [ai]));(refine dQ 5 ?_;(try simp only [xG]);go_simp);refine (HN.o _).mono ?_;rintro e w3 ⟨rfl,hb⟩;have bM:=af hb;clear hb;dsimp only;(refine cu (HC.o w3 (((St.nil w1).new 35 #[ae aa 0,ae aa 0,ae aa 0,ae aa 0,ae aa 0,ae aa 0]).drew.below bM.o).aE) (fun bJ=>?_);(try simp only [ai]));(refine ah 6 ?_;(try simp only [ai]));(refine ah 7 ?_;(try simp only [ai]));(refine ah 8 ?_;(try simp only [ai]));(refine dQ 10 ?_;(try simp only [xG]));refine fZ.tj 35 (.tmp 5) (.tmp 14) rfl w1.heap.size 0 #[ae aa nx.part,ae aa nx.seq,ae aa nx.au,ae aa nx.aj,ae aa nx.left,ae aa nx.bad] rfl rfl ((H1.o.new 35 #[ae aa 0,ae aa 0,ae aa 0,ae aa 0,ae aa 0,ae aa 0]).drew.below bM.o).row.1 (by kernel_rfl) (by simp) (by simp [Value.oneCell']) nx.cells.toList rfl ?_;(refine cu (HC.o _ ((((St.nil w1).new 35 #[ae aa 0,ae aa 0,ae aa 0,ae aa 0,ae aa 0,ae aa 0]).drew.below bM.o).setRow nx.cells.toList).aE) (fun bJ=>?_);(try simp only [ai]));(refine ah 11 ?_;(try simp only [ai]));refine dw (by kernel_rfl) ?_;clear bJ;go_wp2_with fail;go_meet;exact ⟨_,rfl,rfl,((H1.o.new 35 #[ae aa 0,ae aa 0,ae aa 0,ae aa 0,ae aa 0,ae aa 0]).drew.below bM.o).setRow nx.cells.toList⟩
 case rest =>
  obtain ⟨Y,rfl,rfl,h5⟩:=hcut;obtain ⟨y0,y1,y2,y3,y4,y5⟩:=Rec.read h5.row.1;have lY:=h5.row.1.lt;have H5:=af h5;by_cases g:er=0
  ·subst g;have HM:=af (show (pre++(o.cells.toList++post)).take (p*8)++(#[ae aa nx.part,ae aa nx.seq,ae aa nx.au,ae aa nx.aj,ae aa nx.left,ae aa nx.bad]:Array Value).toList++(pre++(o.cells.toList++post)).drop (p*8+(#[ae aa nx.part,ae aa nx.seq,ae aa nx.au,ae aa nx.aj,ae aa nx.left,ae aa nx.bad]:Array Value).size)=pre++(nx.cells.toList++post) from GM HL.o 0 nx.cells.toList (by simp [Rec.cells]));have HF:=af (show p*8+(#[ae aa nx.part,ae aa nx.seq,ae aa nx.au,ae aa nx.aj,ae aa nx.left,ae aa nx.bad]:Array Value).size≤(pre++(o.cells.toList++post)).length by have:=HL.o;simp [Rec.cells];omega);clear h5;go_wp2_with (refine aB rfl 35 (.tmp 21) (.tmp 19) rfl b' (p*8) #[ae aa nx.part,ae aa nx.seq,ae aa nx.au,ae aa nx.aj,ae aa nx.left,ae aa nx.bad] rfl rfl (H5.o.pick 2 rfl).row.1 (by kernel_rfl) HF.o (by simp [Value.oneCell']) _ HM.o ?_);go_ret;exact ⟨rfl,HK.o _ nx ((((H5.o.pick 2 rfl).setRow (pre++(nx.cells.toList++post))).pick 1 rfl).drop.pick 1 rfl).drop⟩
  ·have g2:(er==0)=false:=by simpa using g
   have HX:=af (show ix w0 wc X tv v P l _ from HK.o wc nx (by rw [show nx=o from HE.o g] at h5 ⊢;exact h5.drop.drop));clear g h5;go_wp2_with fail;go_ret;exact ⟨rfl,HX.o⟩
theorem Ul (h:St w0 w (bK X tv v P ys::l)) (il:tv.length=5) (hr:∀y∈ys,y.2.aw.right=true) (hK:iK w0 P ys) (q:Int) :
  Calls Tryz.prog 64 #[.pointer (some ⟨X,0,none⟩),ae aa q] w fun e w'=>e=.returned (ae aa (qg (ys.map (·.2)) q).1)∧ix w0 w' X tv v P l (qg (ys.map (·.2)) q).2:=by
 have HB:=af (fun (w':World) (hb:Below w.heap.size w w')=>ix.same hK (h.below hb));by_cases hq:q < 0∨(ys.length:Int)≤q
 ·obtain ⟨A,c,x5,lX⟩:=zJ h il;have e:qg (ys.map (·.2)) q=(3,ys.map (·.2)):=by unfold qg;rw [iB,if_pos hq]
  rw [e];clear e h;rcases (by omega:q < 0∨(0≤q∧(ys.length:Int)≤q)) with h0|⟨h0,h1⟩
  all_goals
   go_enter Tryz.func64,Tryz.ntmps64;go_wp2_with fail;go_ret;exact ⟨rfl,HB.o _ (Below.refl _ _)⟩
 ·obtain ⟨p,rfl⟩:=Int.eq_ofNat_of_zero_le (by omega:0≤q);have hp:p < ys.length:=by omega
  obtain ⟨b,c,hv,x5,lX,lb,hc⟩:=Gz h hp il;have NP:=hr _ (List.getElem_mem hp);have wY:=af (fun (w':World) (hb:Below w.heap.size w w') (r:Rec)=>D3 (h.below hb) hp NP hK hv r)
  have HE:=af (show qg (ys.map (·.2)) (p:Int)=if ys[p].2.dp.ay=false then (0,ys.map (·.2)) else ((eH ys[p].2 (aN ys[p].2.aw)).1,(ys.map (·.2)).set p (eH ys[p].2 (aN ys[p].2.aw)).2) by
   unfold qg
   rw [iB,if_neg hq,jD,rW hp,dC])
  have HT:=af (show ys[p].2.dp.ay=!(ys[p].2.aw.au==ys[p].2.aw.aj) from rfl);have eE:=eu.iZ NP;have r0:w.cell? ⟨b,p*8,none⟩=some (ae aa ys[p].2.aw.part):=hc 0 _ rfl;have r1:w.cell? ⟨b,p*8+1,none⟩=some (ae aa ys[p].2.aw.seq):=hc 1 _ rfl;have r2:w.cell? ⟨b,p*8+2,none⟩=some (ae aa ys[p].2.aw.au):=hc 2 _ rfl;have r3:w.cell? ⟨b,p*8+3,none⟩=some (ae aa ys[p].2.aw.aj):=hc 3 _ rfl;have r4:w.cell? ⟨b,p*8+4,none⟩=some (ae aa ys[p].2.aw.left):=hc 4 _ rfl;have r5:w.cell? ⟨b,p*8+5,none⟩=some (ae aa ys[p].2.aw.bad):=hc 5 _ rfl;have k1:(p:Int) < (ys.length:Int):=by omega
  have k0:(0:Int)≤(p:Int):=by omega
  clear hc NP hr h hq hv;generalize ys[p].2.aw=o at *;obtain ⟨oP,oS,oA,oC,oL,oB⟩:=o;simp only [Rec.ng] at wY HT eE r0 r1 r2 r3 r4 r5;obtain ⟨-,-,hA,hC,hL,-⟩:=eE;by_cases g:oA=oC
  ·have g2:(oA==oC)=true:=by simpa using g
   have uW:=af (HE.o.trans (if_pos (by rw [HT.o,g2];rfl)));clear g;go_enter Tryz.func64,Tryz.ntmps64;go_wp2_with fail;go_ret;rw [uW.o];exact ⟨rfl,HB.o _ ((Below.refl _ w).alloc (Nat.le_refl _) _)⟩
  ·have g2:(oA==oC)=false:=by simpa using g
   have uW:=HE.o.trans (if_neg (by rw [HT.o,g2];simp));by_cases g3:oL=0
   ·have w1:IntKind.i64.wrap (1+oA)=1+oA:=IntWalk.i64_in _ (by omega);have w2:(oL==0)=true:=by simpa using g3
    rw [show aN ⟨oP,oS,oA,oC,oL,oB⟩=⟨oP,oS,oC,oC,oL,1+oA⟩ by
     unfold aN;rw [if_pos g3]
     rcases (by omega:oA=0∨oA=1) with e|e<;>rw [e]<;>rfl] at uW
    have Cv:=af uW;clear g g3 uW hA hC hL;go_enter Tryz.func64,Tryz.ntmps64;go_wp2_with fail;refine (wY.o _ ((Below.refl _ w).alloc (Nat.le_refl _) _) ⟨oP,oS,oC,oC,oL,1+oA⟩).mono ?_;rintro e w3 ⟨rfl,hx⟩;have HX:=af hx;clear hx;go_wp2_with fail;go_ret;rw [Cv.o];exact ⟨rfl,HX.o⟩
   ·have w1:IntKind.i64.wrap (oL-1)=oL-1:=IntWalk.i64_in _ (by omega);have w2:(oL==0)=false:=by simpa using g3
    rw [show aN ⟨oP,oS,oA,oC,oL,oB⟩=⟨oP,oS,oA,oC,oL-1,oB⟩ by unfold aN;rw [if_neg g3]] at uW;have Cv:=af uW;clear g g3 uW hA hC hL;go_enter Tryz.func64,Tryz.ntmps64;go_wp2_with fail;refine (wY.o _ ((Below.refl _ w).alloc (Nat.le_refl _) _) ⟨oP,oS,oA,oC,oL-1,oB⟩).mono ?_;rintro e w3 ⟨rfl,hx⟩;have HX:=af hx;clear hx;go_wp2_with fail;go_ret;rw [Cv.o];exact ⟨rfl,HX.o⟩
theorem MT (h:St w0 w (bK X tv v P ys::l)) (il:tv.length=5) (hr:∀y∈ys,y.2.aw.right=true) (hK:iK w0 P ys) (q:Int) :
  Calls Tryz.prog 65 #[.pointer (some ⟨X,0,none⟩),ae aa q] w fun e w'=>e=.returned (ae aa (jC (ys.map (·.2)) q).1)∧ix w0 w' X tv v P l (jC (ys.map (·.2)) q).2:=by
 have HB:=af (fun (w':World) (hb:Below w.heap.size w w')=>ix.same hK (h.below hb));by_cases hq:q < 0∨(ys.length:Int)≤q
 ·obtain ⟨A,c,x5,lX⟩:=zJ h il;have e:jC (ys.map (·.2)) q=(3,ys.map (·.2)):=by unfold jC;rw [iB,if_pos hq]
  rw [e];clear e h;rcases (by omega:q < 0∨(0≤q∧(ys.length:Int)≤q)) with h0|⟨h0,h1⟩
  all_goals
   go_enter Tryz.func65,Tryz.ntmps65;go_wp2_with fail;go_ret;exact ⟨rfl,HB.o _ (Below.refl _ _)⟩
 ·obtain ⟨p,rfl⟩:=Int.eq_ofNat_of_zero_le (by omega:0≤q);have hp:p < ys.length:=by omega
  obtain ⟨b,c,hv,x5,lX,lb,hc⟩:=Gz h hp il;have NP:=hr _ (List.getElem_mem hp);have wY:=af (fun (w':World) (hb:Below w.heap.size w w') (r:Rec)=>D3 (h.below hb) hp NP hK hv r)
  have HE:=af (show jC (ys.map (·.2)) (p:Int)=if ys[p].2.dp.ay=false then (16,ys.map (·.2)) else ((eH ys[p].2 (Rec.oZ ys[p].2.aw)).1,(ys.map (·.2)).set p (eH ys[p].2 (Rec.oZ ys[p].2.aw)).2) by
   unfold jC
   rw [iB,if_neg hq,jD,rW hp,dC])
  have HT:=af (show ys[p].2.dp.ay=!(ys[p].2.aw.au==ys[p].2.aw.aj) from rfl);have r0:w.cell? ⟨b,p*8,none⟩=some (ae aa ys[p].2.aw.part):=hc 0 _ rfl;have r1:w.cell? ⟨b,p*8+1,none⟩=some (ae aa ys[p].2.aw.seq):=hc 1 _ rfl;have r2:w.cell? ⟨b,p*8+2,none⟩=some (ae aa ys[p].2.aw.au):=hc 2 _ rfl;have r3:w.cell? ⟨b,p*8+3,none⟩=some (ae aa ys[p].2.aw.aj):=hc 3 _ rfl;have r4:w.cell? ⟨b,p*8+4,none⟩=some (ae aa ys[p].2.aw.left):=hc 4 _ rfl;have r5:w.cell? ⟨b,p*8+5,none⟩=some (ae aa ys[p].2.aw.bad):=hc 5 _ rfl;have k1:(p:Int) < (ys.length:Int):=by omega
  have k0:(0:Int)≤(p:Int):=by omega
  clear hc NP hr h hq hv;generalize ys[p].2.aw=o at *;obtain ⟨oP,oS,oA,oC,oL,oB⟩:=o;simp only [Rec.ng,Rec.oZ] at HE wY HT r0 r1 r2 r3 r4 r5;by_cases g:oA=oC
  ·have g2:(oA==oC)=true:=by simpa using g
   have uW:=af (HE.o.trans (if_pos (by rw [HT.o,g2];rfl)));clear g;go_enter Tryz.func65,Tryz.ntmps65;go_wp2_with fail;go_ret;rw [uW.o];exact ⟨rfl,HB.o _ ((Below.refl _ w).alloc (Nat.le_refl _) _)⟩
  ·have g2:(oA==oC)=false:=by simpa using g
   have Cv:=af (HE.o.trans (if_neg (by rw [HT.o,g2];simp)));clear g;go_enter Tryz.func65,Tryz.ntmps65;go_wp2_with fail;refine (wY.o _ ((Below.refl _ w).alloc (Nat.le_refl _) _) ⟨oP,oS,oA,oA,0,0⟩).mono ?_;rintro e w3 ⟨rfl,hx⟩;have HX:=af hx;clear hx;go_wp2_with fail;go_ret;rw [Cv.o];exact ⟨rfl,HX.o⟩
end
end
end store
namespace oH
open Go.RowKit base obj mem bC num bytes aW
section
variable {bs:List Int} {R i:Nat} {w:World}
structure DM (w:World) (R:Nat) (bs:List Int) (i:Nat):Prop where
 cell:∃A c,Row w R 230 [.slice A bs.length c,ae aa i,ae aa 0]∧bs.length≤c∧Sl w R 1 A bs.length (bs.map (.int .u8))
theorem DM.lt {w:World} {R:Nat} {bs:List Int} {i:Nat} (h:DM w R bs i):R < w.heap.size:=by
 obtain ⟨A,c,e,_⟩:=h.cell;exact e.lt
theorem DM.below {w w':World} {R:Nat} {bs:List Int} {i:Nat} (h:DM w R bs i) (k:Below w.heap.size w w'):DM w' R bs i:=by
 obtain ⟨A,c,e,hc,hs⟩:=h.cell;exact ⟨A,c,e.below k e.lt,hc,hs.below (k.mono (Nat.le_of_lt e.lt))⟩
theorem Wv (w:World) {base:Nat} (hb:base≤w.heap.size) {ops:Array Oper} {o:Oper} {a:Act} {K:Act→World→Prop} {Q:Exit→Act→World→Prop} {E:Prop} (eP:o.guard=none) (s x:Operand)
  (ho:o.op=.call { callee:=.builtin .append,args:=#[s,x],argTypes:=#[24,24] }) (hs:a.eval s=.slice none 0 0) {B n c:Nat} {A:Option Addr} (ys:List Int) (hx:a.eval x=.slice A n c) (hl:ys.length=n) (h0:0 < n) (hn:n≤1000000)
  (hr:Sl w B 1 A n (ys.map (.int .u8)))
  (h:∀g cap w',w'.ownsRow base 5 1 (.slice (some ⟨g,0,none⟩) n cap) n (ys.map (.int .u8))→Below w.heap.size w w'→K (a.put o.dst (.slice (some ⟨g,0,none⟩) n cap)) w') :
  if Region.wanted o (yielded ops a.tmps)=true then Oper.wp Tryz.prog o a w K Q else E:=by
 obtain ⟨i,z,hi,hz,h2,h3,h4⟩:=sn.hi;obtain ⟨b,off,rfl,_,hc⟩:=hr.2 h0;refine step_append_lies w eP s x 24 ho base 5 i z 1 1 sn.ht hi hz h2 h3 h4 sn.hs (.slice none 0 0) 0 [] hs (World.ownsRow_nil w base 5 1) ⟨b,off,none⟩ n c (ys.map (.int .u8)) hx (by simp [hl]) (fun j u hu=>?_) (yM _) h0 (by unfold maxLen;omega) (by omega) hb w.heap.size rfl ?_
 ·rw [Addr.add_mid];exact hc j u hu
 ·intro g cap w' BO hg _ _;rw [Nat.zero_add,List.nil_append] at BO;have e:(a.put o.dst (.slice (some ⟨g,0,none⟩) (0+n) cap))=a.put o.dst (.slice (some ⟨g,0,none⟩) n cap):=by rw [Nat.zero_add]
  rw [e];exact h g cap w' BO ⟨hg.os,hg.tape,hg.output,hg.size,fun k hk=>hg.block k hk (by simp [Value.ownBlock])⟩
theorem pU (h:DM w R bs i) (n:Nat) (h1:1≤n) (hn:i+n≤bs.length) (hm:bs.length≤100000) :
  Calls Tryz.prog 193 #[.pointer (some ⟨R,0,none⟩),ae aa n] w fun e w'=>∃g c,e=.returned (.slice (some ⟨g,0,none⟩) n c)∧w'.ownsRow w.heap.size 5 1 (.slice (some ⟨g,0,none⟩) n c) n (((bs.drop i).take n).map (.int .u8))∧DM w' R bs (i+n)∧Kept (fun k=>k=R) w w':=by
 obtain ⟨A,c,hr,hc,hs⟩:=h.cell;obtain ⟨g,o,rfl,hgR,fJ⟩:=hs.2 (by omega);have hR:=hr.lt;have c0:=hr.c0;have c1:=hr.c1;have c2:=hr.c2
 have HS:=af (show Sl w R 1 (some ⟨g,o+i,none⟩) n (((bs.drop i).take n).map (.int .u8)) from ⟨by simp;omega,fun _=>⟨g,o+i,rfl,hgR,fun k u hu=>by
  rw [Nat.add_assoc];refine fJ (i+k) u ?_;rw [List.getElem?_map,List.getElem?_take] at hu;split at hu
  ·rw [List.getElem?_drop] at hu;rw [List.getElem?_map];exact hu
  ·simp at hu⟩⟩)
 have HR:=af hr;have HSA:=af hs;have HC:=af hc;have yi:=af (show ((bs.drop i).take n).length=n by simp;omega);obtain ⟨l,hl⟩:=xE bs.length;rw [←hl] at c0;have HL:=af hl;have g1:¬(n:Int)≤0:=by omega
 have g2:¬(n:Int) > (l:Int)-(i:Int):=by omega
 have g3:(0:Int)≤(i:Int):=by omega
 have g4:(i:Int)≤(i:Int)+(n:Int):=by omega
 have g5:(i:Int)+(n:Int)≤(c:Int):=by omega
 have g6:¬c=i:=by omega
 have w1:IntKind.i64.wrap ((l:Int)-(i:Int))=(l:Int)-(i:Int):=by rw [IntKind.wrap_i64];omega
 have w2:IntKind.i64.wrap ((i:Int)+(n:Int))=(i:Int)+(n:Int):=by rw [IntKind.wrap_i64];omega
 have w3:((i:Int)+(n:Int)).toNat=i+n:=by omega
 have hll:l≤100000:=by omega
 clear hr fJ hs hc hl hn hm h;have hf:w.frozen? ⟨R,1,none⟩=false:=HR.o.frozen 1;go_enter Tryz.func193,Tryz.ntmps193;go_wp2_with fail;go_quiet (fail);go_wp2_with fail;obtain ⟨wd,yT⟩:=xE (w.drewN nq);rw [←yT];have Ud:=af (show Below w.heap.size w wd by rw [yT];exact below_drewN (Below.refl _ _) _);have d0:wd.cell? ⟨R,0,none⟩=some (.slice (some ⟨g,o,none⟩) l c):=by rw [yT];exact c0
 have d1:wd.cell? ⟨R,1,none⟩=some (ae aa i):=by rw [yT];exact c1
 have HDS:=af (show wd.heap.size=w.heap.size by rw [yT];rfl);clear yT c0 c1 c2 hf
 go_region_held3 (fun w'=>w'.cell? ⟨R,0,none⟩=some (.slice (some ⟨g,o,none⟩) l c)∧w'.cell? ⟨R,1,none⟩=some (ae aa i)) (first|go_keep|(refine ⟨?_,?_⟩<;>(refine mq lN.o ?_;go_simp)))
  ((refine Wv _ (base:=w.heap.size) (by have:=Ud.o.size;simpa using this) (by rfl) _ _ (by rfl) (by rfl) ((bs.drop i).take n) (by rfl) yi.o h1 (by omega) (by first|exact HS.o.below (Ud.o.mono (Nat.le_of_lt hR))|exact HS.o.below (Ud.o.drew.mono (Nat.le_of_lt hR))) ?_;intro g5' acW w5 xJ ka;have DT:=af xJ;have lN:=af ka;clear xJ ka))
 have Bd:=af (Ud.o.trans ((show Below wd.heap.size wd w5 from ⟨lN.o.os,lN.o.tape,lN.o.output,lN.o.size,lN.o.block⟩).mono Ud.o.size));have yf:=af (HR.o.below Bd.o hR);have HL5:=HL.o;have k1:=yf.o.c1;have k2:w5.frozen? ⟨R,1,none⟩=false:=yf.o.frozen 1;clear HL5;go_wp2_with fail;go_ret;refine ⟨g5',acW,rfl,ownsRow_setCell_below DT.o (a:=⟨R,1,none⟩) hR _,⟨some ⟨g,o,none⟩,c,?_,?_,?_⟩,(Kept.oh Bd.o (fun k=>k=R)).setCell (p:=⟨R,1,none⟩) (.inl rfl) _⟩
 ·have h:=yf.o.setCell 1 (ae aa ((i+n:Nat):Int));rw [show ((i:Int)+(n:Int))=((i+n:Nat):Int) by omega];exact h
 ·exact HC.o
 ·exact HSA.o.below ((Bd.o.mono (Nat.le_of_lt hR)).setCell (p:=⟨R,1,none⟩) (Nat.le_refl _) _)
theorem ub (h:DM w R bs i) (k:Nat) (h1:1≤k) (h6:k≤6) (hn:i+k≤bs.length) (hm:bs.length≤100000) (cG:bn bs) :
  Calls Tryz.prog 161 #[.pointer (some ⟨R,0,none⟩),ae aa k] w fun e w'=>e=.returned (ae aa (val ((bs.drop i).take k):Nat))∧DM w' R bs (i+k)∧Kept (fun k=>k=R) w w':=by
 have HH:=af (pU h k h1 hn hm);obtain ⟨cs,cY⟩:∃cs,cs=(bs.drop i).take k:=⟨_,rfl⟩
 rw [←cY] at HH ⊢;have HY:=af (show bn cs by rw [cY];exact record.zD (record.tH cG _) _);have OH:=af (show cs.length=k by rw [cY];simp;omega);clear h cG cY;go_enter Tryz.func161,Tryz.ntmps161;go_wp2_with fail;refine (zy _ k h1 h6).mono ?_;rintro e w' ⟨rfl,rfl⟩;go_wp2_with fail;refine HH.o.mono ?_;rintro e w1 ⟨g,c,rfl,ho,hr,hk⟩;have HS:=af (Sl.bP ho);have HF:=af (And.intro hr hk);clear ho hr hk;go_wp2_with fail;go_loopw [7,6] (fun i s wr=>∃j:Nat,j≤k∧i=ae aa j∧s=ae aa (val (cs.take j):Nat)∧wr=w1) (fun i _ _=>k-(intOf i).toNat)
 case atStart=>exact ⟨0,by omega,rfl,by rw [List.take_zero];rfl,rfl⟩
 case round =>
  obtain ⟨j,hj,rfl,rfl,rfl⟩:=hrel;by_cases aH:j < k
  ·have dJ:j < cs.length:=by rw [OH.o];exact aH
   obtain ⟨b,off,SX,cm,fJ⟩:=HS.o.2 (by omega);injection SX with SX
   injection SX with e1 e2 _
   subst e1;subst e2;have hz:=HY.o cs[j] (List.getElem_mem dJ);have c1:=fJ j (.int .u8 cs[j]) (by simp [dJ]);rw [Nat.zero_add] at c1;have gp:=uB cs j dJ
   have xW:val (cs.take j) < 2 ^ 40:=by
    have h:=sj (cs.take j) fun y hy=>HY.o y (List.mem_of_mem_take hy);rw [fW,Nat.min_eq_left (by omega)] at h;exact Nat.lt_of_lt_of_le h (Nat.le_trans (Nat.pow_le_pow_right (by decide) (show j≤5 by omega)) (by decide))
   generalize hf:val (cs.take j)=f at *;have gm:cs[j]=((cs[j].toNat:Nat):Int):=by omega
   rw [gm] at c1;generalize Fv:cs[j].toNat=z at *;have nO:z < 256:=by omega
   have i0:(0:Int)≤(j:Int):=by omega
   have i1:(j:Int) < (k:Int):=by omega
   have SK:(f:Int)≤1099511627776:=by omega
   have lK:=af gp;clear fJ gp gm hz Fv hf;go_wp2_with fail;go_roundw;case rel=>exact ⟨j+1,by omega,by go_num,by rw [lK.o];go_num,trivial⟩
   case measure=>simp [intOf]<;>omega
  ·have dy:j=k:=by omega
   have df:¬(j:Int) < (k:Int):=by omega
   have HK:=af dy;clear dy;go_wp2_with fail;go_ret;exact ⟨bx (by rw [HK.o,←OH.o,List.take_length]),HF.o⟩
end
end oH
namespace oH
open Go.RowKit Go.Deep base obj mem sep bC num bytes aW image
section
variable {R:Nat} {w:World}
def RY (w:World) (R:Nat):Option (List Int)→Prop
 | .none=>∃(A:Option Addr) (n c:Nat) (i:Int),Row w R 230 [.slice A n c,ae aa i,ae aa 1]
 | .some b=>∃(bs:List Int) (i:Nat),DM w R bs i∧i≤bs.length∧bs.length≤100000∧bn bs∧b=bs.drop i
def fa (n:Nat):Option (List Int)→List Int×Option (List Int)
 | .none=>([],.none)
 | .some b=>if n=0 then ([],.some b) else if b.length < n then ([],.none) else (b.take n,.some (b.drop n))
theorem M0 (k:Nat) (h1:1≤k) (s:Option (List Int)):rdNum k s=(val (fa k s).1,(fa k s).2):=by
 cases s with
 | none=>rfl
 | some b =>
   unfold rdNum fa;dsimp only;rw [if_neg (show ¬k=0 by omega)];split<;>rfl
theorem KE (s:Option (List Int)):eZ s=fa (rdNum 2 s).1 (rdNum 2 s).2:=by
 cases s with
 | none=>rfl
 | some b =>
   unfold eZ rdNum;dsimp only;by_cases h:b.length < 2
   ·rw [if_pos (.inl h),if_pos h];rfl
   ·rw [if_neg h];unfold fa;dsimp only;by_cases h0:val (b.take 2)=0
    ·rw [if_pos h0,if_neg (by omega),h0,List.take_zero,List.drop_zero]
    ·rw [if_neg h0];by_cases h3:b.length < 2+val (b.take 2)
     ·rw [if_pos (.inr h3),if_pos (by rw [List.length_drop];omega)]
     ·rw [if_neg (by omega),if_neg (by rw [List.length_drop];omega)]
theorem RY.lt {w:World} {R:Nat} {s:Option (List Int)} (h:RY w R s):R < w.heap.size:=by
 cases s with
 | none=>obtain ⟨A,n,c,i,h⟩:=h;exact h.lt
 | some b=>obtain ⟨bs,i,h,_⟩:=h;exact h.lt
theorem RY.below {w w':World} {R:Nat} {s:Option (List Int)} (h:RY w R s) (k:Below w.heap.size w w'):RY w' R s:=by
 cases s with
 | none=>obtain ⟨A,n,c,i,h⟩:=h;exact ⟨A,n,c,i,h.below k h.lt⟩
 | some b=>obtain ⟨bs,i,h,h2⟩:=h;exact ⟨bs,i,h.below k,h2⟩
theorem RY.err {s:Option (List Int)} (h:RY w R s):∃(A:Option Addr) (n c:Nat) (i:Int),Row w R 230 [.slice A n c,ae aa i,ae aa (if s=none then 1 else 0)]:=by
 cases s with
 | none=>exact h
 | some b =>
   obtain ⟨bs,i,h,_⟩:=h;obtain ⟨A,c,e,_⟩:=h.cell;exact ⟨A,_,c,_,e⟩
theorem om (w:World) (B:Nat):w.ownsRow B 5 1 (.slice none 0 0) 0 (aP []):=⟨rfl,.inl ⟨rfl,rfl⟩⟩
theorem Ot {s:Option (List Int)} (h:RY w R s) (n:Nat) (hn:n≤100000):Calls Tryz.prog 193 #[.pointer (some ⟨R,0,none⟩),ae aa n] w fun e w'=>∃A c,e=.returned (.slice A (fa n s).1.length c)∧w'.ownsRow w.heap.size 5 1 (.slice A (fa n s).1.length c) (fa n s).1.length (aP (fa n s).1)∧RY w' R (fa n s).2∧Kept (fun k=>k=R) w w':=by
 have H:=af h;cases s with
 | none =>
   obtain ⟨A,m,c,i,hr⟩:=h;have c2:=hr.c2;clear hr;go_enter Tryz.func193,Tryz.ntmps193;go_wp2_with fail;go_ret;exact ⟨none,0,rfl,om _ _,H.o,Kept.refl _ _⟩
 | some b =>
   obtain ⟨bs,i,hr,hi,hm,cG,rfl⟩:=h;by_cases h0:n=0
   ·subst h0;obtain ⟨A,c,e,_⟩:=hr.cell;have c2:=e.c2;rw [show fa 0 (some (bs.drop i))=([],some (bs.drop i)) from rfl];clear hr e;go_enter Tryz.func193,Tryz.ntmps193;go_wp2_with fail;go_ret;exact ⟨none,0,rfl,om _ _,H.o,Kept.refl _ _⟩
   ·by_cases h1:(bs.drop i).length < n
    ·rw [show fa n (some (bs.drop i))=([],none) by unfold fa;dsimp only;rw [if_neg h0,if_pos h1]];obtain ⟨A,c,e,_⟩:=hr.cell;have c0:=e.c0;have c1:=e.c1;have c2:=e.c2;have lR:=e.lt;have f2:=e.frozen 2;have HE:=af e;rw [List.length_drop] at h1;obtain ⟨l,hl⟩:=xE bs.length;rw [←hl] at c0 h1 hi hm;have HL:=af hl;have g1:¬(n:Int)≤0:=by omega
     have w1:IntKind.i64.wrap ((l:Int)-(i:Int))=(l:Int)-(i:Int):=IntWalk.i64_in _ (by omega);have g2:(l:Int)-(i:Int) < (n:Int):=by omega
     clear hr e hl;go_enter Tryz.func193,Tryz.ntmps193;go_wp2_with fail;go_quiet (fail);go_wp2_with fail;go_ret;exact ⟨none,0,rfl,om _ _,⟨A,_,c,_,by have h:=(HE.o.below (below_drewN (Below.refl _ _) nq) lR).setCell 2 (ae aa 1);exact h⟩,((Kept.refl (fun k=>k=R) w).drewN nq).setCell (p:=⟨R,2,none⟩) (.inl rfl) _⟩
    ·rw [show fa n (some (bs.drop i))=((bs.drop i).take n,some ((bs.drop i).drop n)) by unfold fa;dsimp only;rw [if_neg h0,if_neg h1]];rw [List.length_drop] at h1;have hlen:((bs.drop i).take n).length=n:=by rw [fW,List.length_drop];omega
     refine (pU hr n (by omega) (by omega) hm).mono ?_;rintro e w' ⟨g,c,e1,e2,e3,e4⟩;exact ⟨_,c,by rw [e1,hlen],by rw [hlen];exact e2,⟨bs,i+n,e3,by omega,hm,cG,by rw [List.drop_drop]⟩,e4⟩
theorem vh {s:Option (List Int)} (h:RY w R s) (k:Nat) (h1:1≤k) (h6:k≤6) :
  Calls Tryz.prog 161 #[.pointer (some ⟨R,0,none⟩),ae aa k] w fun e w'=>e=.returned (ae aa ((rdNum k s).1:Nat))∧RY w' R (rdNum k s).2∧Kept (fun k=>k=R) w w':=by
 have hy:bn (fa k s).1:=by
  cases s with
  | none=>exact fun z hz=>by simp [fa] at hz
  | some b =>
    obtain ⟨bs,i,_,_,_,cG,rfl⟩:=h;unfold fa;dsimp only;split
    ·exact fun z hz=>by simp at hz
    ·split
     ·exact fun z hz=>by simp at hz
     ·exact record.zD (record.tH cG _) _
 have hl:(fa k s).1.length≤6:=by
  cases s with
  | none=>simp [fa]
  | some b =>
    unfold fa;dsimp only;split
    ·simp
    ·split
     ·simp
     ·rw [fW];omega
 have HH:=af (Ot h k (by omega));rw [M0 k h1];obtain ⟨cs,cY⟩:∃cs,cs=(fa k s).1:=⟨_,rfl⟩
 rw [←cY] at HH hy hl ⊢;have HY:=af hy;obtain ⟨m,hm⟩:=xE cs.length;rw [←hm] at HH hl;have HM:=af hm;clear h hy cY hm;go_enter Tryz.func161,Tryz.ntmps161;go_wp2_with fail;refine (zy _ k h1 h6).mono ?_;rintro e w' ⟨rfl,rfl⟩;go_wp2_with fail;refine HH.o.mono ?_;rintro e w1 ⟨A,c,rfl,ho,hr,hk⟩;have HS:=af (Sl.bP ho);have HF:=af (And.intro hr hk);clear ho hr hk;go_wp2_with fail;go_loopw [7,6] (fun i s wr=>∃j:Nat,j≤m∧i=ae aa j∧s=ae aa (val (cs.take j):Nat)∧wr=w1) (fun i _ _=>m-(intOf i).toNat)
 case atStart=>exact ⟨0,by omega,rfl,by rw [List.take_zero];rfl,rfl⟩
 case round =>
  obtain ⟨j,hj,rfl,rfl,rfl⟩:=hrel;by_cases aH:j < m
  ·have dJ:j < cs.length:=by rw [←HM.o];exact aH
   obtain ⟨b,off,SX,cm,fJ⟩:=HS.o.2 (by omega);subst SX;have hz:=HY.o cs[j] (List.getElem_mem dJ);have c1:=fJ j (.int .u8 cs[j]) (by simp [aP,dJ]);have gp:=uB cs j dJ
   have xW:val (cs.take j) < 2 ^ 40:=by
    have h:=sj (cs.take j) fun y hy=>HY.o y (List.mem_of_mem_take hy);rw [fW,Nat.min_eq_left (by omega)] at h;exact Nat.lt_of_lt_of_le h (Nat.le_trans (Nat.pow_le_pow_right (by decide) (show j≤5 by omega)) (by decide))
   generalize hf:val (cs.take j)=f at *;have gm:cs[j]=((cs[j].toNat:Nat):Int):=by omega
   rw [gm] at c1;generalize Fv:cs[j].toNat=z at *;have nO:z < 256:=by omega
   have i0:(0:Int)≤(j:Int):=by omega
   have i1:(j:Int) < (m:Int):=by omega
   have SK:(f:Int)≤1099511627776:=by omega
   have lK:=af gp;clear fJ gp gm hz Fv hf;go_wp2_with fail;go_roundw;case rel=>exact ⟨j+1,by omega,by go_num,by rw [lK.o];go_num,trivial⟩
   case measure=>simp [intOf]<;>omega
  ·have dy:j=m:=by omega
   have df:¬(j:Int) < (m:Int):=by omega
   have HK:=af dy;clear dy;go_wp2_with fail;go_ret;exact ⟨bx (by rw [HK.o,HM.o,List.take_length]),HF.o⟩
theorem RY.ZS {s:Option (List Int)} (h:RY w R s):(rdNum 2 s).1 < 65536:=by
 cases s with
 | none=>decide
 | some b =>
   obtain ⟨bs,i,_,_,_,cG,rfl⟩:=h;unfold rdNum;dsimp only;split
   ·decide
   ·have hv:=sj ((bs.drop i).take 2) (record.zD (record.tH cG _) _);rw [fW] at hv;exact Nat.lt_of_lt_of_le hv (Nat.pow_le_pow_right (by decide) (show min 2 (bs.drop i).length≤2 by omega))
theorem Zs {s:Option (List Int)} (h:RY w R s):Calls Tryz.prog 162 #[.pointer (some ⟨R,0,none⟩),ae aa 70000] w fun e w'=>∃A c,e=.returned (.slice A (eZ s).1.length c)∧w'.ownsRow w.heap.size 5 1 (.slice A (eZ s).1.length c) (eZ s).1.length (aP (eZ s).1)∧RY w' R (eZ s).2∧Kept (fun k=>k=R) w w':=by
 have H:=af h;cases hs:s with
 | none =>
   subst hs;obtain ⟨A,m,c,i,hr⟩:=h;have c2:=hr.c2;clear hr;go_enter Tryz.func162,Tryz.ntmps162;go_wp2_with fail;go_ret;exact ⟨none,0,rfl,om _ _,H.o,Kept.refl _ _⟩
 | some b =>
   have HN:=af (vh h 2 (by omega) (by omega));have aH:=h.ZS;obtain ⟨A,m,c,i,hr⟩:=h.err;rw [if_neg (by rw [hs];simp)] at hr;have c1:=hr.c1;have c2:=hr.c2;rw [←hs,KE];obtain ⟨x,hx⟩:=xE (rdNum 2 s);rw [←hx] at HN aH ⊢;obtain ⟨n,s2⟩:=x;dsimp only at HN aH ⊢;clear hr hs hx h H;go_enter Tryz.func162,Tryz.ntmps162;go_wp2_with fail;refine HN.o.mono ?_;rintro e w2 ⟨rfl,hr,hk⟩;have nY:=af hk;have yi:=af hr.lt;have HB:=af (Ot hr n (by omega));obtain ⟨A2,m2,cc2,i2,mL⟩:=hr.err;have d2:=mL.cell 2;have g1:¬70000 < (n:Int):=by omega
   obtain ⟨x,hx⟩:=xE (fa n s2);rw [←hx] at HB;have HX:=af hx;obtain ⟨t,s3⟩:=x;obtain ⟨tl,wH⟩:=xE t.length;dsimp only at HB;rw [←wH] at HB;have TQ:=af wH;clear hr mL hk c1 c2 hx wH;rcases (by cases s2<;>simp:s2=none∨s2≠none) with hn|hn
   case' inl=>rw [if_pos hn] at d2
   case' inr=>rw [if_neg hn] at d2
   all_goals
    simp only [List.getElem?_cons_succ,List.getElem?_cons_zero] at d2;clear hn;go_wp2_with fail;refine HB.o.mono ?_;rintro e w3 ⟨A3,c3,rfl,ho,hr,hk⟩;have HO:=af ho;have HK3:=af (nY.o.trans hk (fun _ h=>h) (fun _ h _=>h));have HKB:=af hk;have HR:=af hr;have mv:=af nY.o.size;clear d2;obtain ⟨A4,m4,c4,i4,sS⟩:=hr.err;have d1:=sS.c1;have d2:=sS.cell 2;have f1:=sS.frozen 1;have lR:=sS.lt;have H4:=af sS;clear sS hr hk ho;rcases (by cases s3<;>simp:s3=none∨s3≠none) with hn|hn
    case' inl=>rw [if_pos hn] at d2
    case' inr=>rw [if_neg hn] at d2
    all_goals
     simp only [List.getElem?_cons_succ,List.getElem?_cons_zero] at d2;have Co:=af hn;clear hn;go_wp2_with fail;go_ret;rw [←HX.o];have ho:=HO.o;rw [TQ.o] at ho
     first
      | exact ⟨A3,c3,by rw [TQ.o];rfl,ho.mono mv.o,HR.o,HK3.o⟩
      | (have h4:=H4.o;rw [if_pos Co.o] at h4
         exact ⟨A3,c3,by rw [TQ.o];rfl,(ownsRow_setCell_below ho (a:=⟨R,1,none⟩) yi.o _).mono mv.o,by rw [Co.o];exact ⟨A4,m4,c4,_,h4.setCell 1 (ae aa i)⟩,HK3.o.setCell (p:=⟨R,1,none⟩) (.inl rfl) _⟩)
theorem Xn {s:Option (List Int)} (h:RY w R s):Calls Tryz.prog 163 #[.pointer (some ⟨R,0,none⟩)] w fun e w'=>e=.returned (ae aa (ml s))∧∃n,w'=w.drewN n:=by
 cases s with
 | none =>
   obtain ⟨A,m,c,i,hr⟩:=h;have c2:=hr.c2;clear hr;go_enter Tryz.func163,Tryz.ntmps163;go_wp2_with fail;go_quiet (fail);go_wp2_with fail;go_ret;exact ⟨rfl,_,rfl⟩
 | some b =>
   obtain ⟨bs,i,hr,hi,hm,cG,rfl⟩:=h;obtain ⟨A,c,e,_⟩:=hr.cell;have c0:=e.c0;have c1:=e.c1;have c2:=e.c2;have HE:=af (show ml (some (bs.drop i))=if bs.length-i=0 then 0 else 2 by rw [ml,List.length_drop]);generalize ml (some (bs.drop i))=r at *;obtain ⟨l,hl⟩:=xE bs.length;rw [←hl] at c0 hi HE;clear hr e hl cG hm;rcases (by omega:l-i=0∨l-i≠0) with g|g
   case' inl=>have g1:¬(i:Int) < (l:Int):=by omega
   case' inr=>have g1:(i:Int) < (l:Int):=by omega
   all_goals
    have HG:=af g;clear g hi;go_enter Tryz.func163,Tryz.ntmps163;go_wp2_with fail;go_quiet (fail);go_wp2_with fail;go_ret;exact ⟨bx (by rw [HE.o];simp [HG.o]),_,rfl⟩
end
end oH
end Go.Proofs.YtdldkkoplgkloaaGreat
