/- PROVED HERE: lemmas of the law. CONDITIONS: each names its own. -/
import Derived.Test.YtdldkkoplgkloaaGreatPa35
namespace Go.Proofs.YtdldkkoplgkloaaGreat
set_option linter.unusedVariables false
set_option linter.unusedSimpArgs false
set_option maxRecDepth 100000
set_option maxHeartbeats 32000000
open Go.Value renaming int → ae
open Go.IntKind renaming i64 → aa
namespace store
open Go.RowKit Go.Deep base obj mem sep aW aX record bD aG image bN bL chain bC
section
variable {Y b bI bS c cI cS k n oI oS off:Nat} {x:RP} {v0 v1:Value}
theorem pD {t e size bytes:Nat} (T:qP Tryz.prog t e size bytes) {o:Oper} {a:Act} {K:Act→World→Prop} {Q:Exit→Act→World→Prop} {w0 w:World} {l:List aI} (eP:o.guard=none) (s x:Operand)
  (ho:o.op=.call { callee:=.builtin .append,args:=#[s,x],argTypes:=#[t,t] }) {v:Value} {n:Nat} {xs:List Value} (H:St w0 w (own e size v n xs::l)) (hs:a.eval s=v) {m:Nat} (zs:List Value) (hz:zs.length=m*size) (h1:∀u∈zs,u.oneCell'=true)
  (hx:a.eval x=.slice (some ⟨w.heap.size,0,none⟩) m m) (hm:0 < m) (hb:(n+m)*bytes≤140737488355328) (rP:n+m≤maxLen)
  (h:∀g c w',St w0 w' (own e size (.slice (some ⟨g,0,none⟩) (n+m) c) (n+m) (xs++zs)::l)→K (a.put o.dst (.slice (some ⟨g,0,none⟩) (n+m) c)) w'):Oper.wp Tryz.prog o a (w.alloc (.cells zs.toArray e)) K Q:=by
 have HX:=(H.new e zs.toArray).swap;exact fZ.kP T eP s x ho HX.own hs hx ((Row.new w e zs.toArray).sl (B:=w.heap.size+1) (size:=size) (n:=m) (o:=0) (ys:=zs) (Nat.lt_succ_self _) (by rw [List.drop_zero,List.take_of_length_le (by simp [hz])]) hz) h1 hm hb rP HX.aE.size fun g cap w' ho hg kU _=>h g cap w' ((HX.grown hg ho (fun g' xV=>by cases xV;exact kU)).swap.drop)
section
variable {w0 w : World} {l : List aI} {X : Nat} {tv : List Value} {v : Value} {P : List (Nat × List Value)} {ys : List (dv × RP)} {p : Nat}
def dv.vk (a:dv) (k:Nat):Value:=if k=0 then a.v0 else a.v1
def dv.vsk (a:dv) (k:Nat):List Value:=if k=0 then a.pE else a.tU
theorem kK (h:St w0 w (bK X tv v P ys::l)) (hp:p < ys.length) {k:Nat} (hk:k < 2):∃A c,ys[p].1.vk k=.slice A (ys[p].2.slot k).blocks.length c∧(A=none→c=0)∧Sl w w.heap.size 1 A (ys[p].2.slot k).blocks.length (ys[p].1.vsk k)∧qc P (ys[p].2.slot k).blocks (ys[p].1.vsk k):=by
 obtain ⟨⟨b0,b1⟩,h1⟩:=GH h hp;rcases (by omega:k=0∨k=1) with rfl|rfl
 ·have ho:=(h1.pick 1 rfl).own;obtain ⟨A,c,e,_,_⟩:=aD ho;rw [e] at ho;exact ⟨A,c,e,yJ ho,Sl.bP ho,b0⟩
 ·have ho:=(h1.pick 2 rfl).own;obtain ⟨A,c,e,_,_⟩:=aD ho;rw [e] at ho;exact ⟨A,c,e,yJ ho,Sl.bP ho,b1⟩
theorem uS.abu {y:dv×RP} (h:uS w X n p y b off c bS oS cS bI oI cI) {k:Nat} (hk:k < 2):w.cell? ⟨bS,oS+k*5,none⟩=some (.bool (y.2.slot k).has)∧w.cell? ⟨bS,oS+k*5+1,none⟩=some (ae aa (y.2.slot k).st.aC)∧w.cell? ⟨bS,oS+k*5+2,none⟩=some (ae aa (y.2.slot k).st.size)∧w.cell? ⟨bS,oS+k*5+3,none⟩=some (ae aa (y.2.slot k).st.bf)∧w.cell? ⟨bS,oS+k*5+4,none⟩=some (y.1.vk k)∧bS < w.heap.size:=by
 rcases (by omega:k=0∨k=1) with rfl|rfl
 ·exact ⟨h.slots 0 _ rfl,h.slots 1 _ rfl,h.slots 2 _ rfl,h.slots 3 _ rfl,h.slots 4 _ rfl,h.lS⟩
 ·exact ⟨h.slots 5 _ rfl,h.slots 6 _ rfl,h.slots 7 _ rfl,h.slots 8 _ rfl,h.slots 9 _ rfl,h.lS⟩
theorem uS.acg {y:dv×RP} (h:uS w X n p y b off c bS oS cS bI oI cI) {k:Nat} (hk:k < 2):w.cell? ⟨bI,oI+k*8,none⟩=some (ae aa (y.2.ee k).part)∧w.cell? ⟨bI,oI+k*8+1,none⟩=some (ae aa (y.2.ee k).version)∧w.cell? ⟨bI,oI+k*8+2,none⟩=some (ae aa (y.2.ee k).aV)∧w.cell? ⟨bI,oI+k*8+3,none⟩=some (ae aa (y.2.ee k).mem)∧w.cell? ⟨bI,oI+k*8+4,none⟩=some (ae aa (y.2.ee k).fuel)∧w.cell? ⟨bI,oI+k*8+5,none⟩=some (ae aa (y.2.ee k).aM)∧w.cell? ⟨bI,oI+k*8+6,none⟩=some (ae aa (y.2.ee k).ax)∧w.cell? ⟨bI,oI+k*8+7,none⟩=some (.slice (y.1.K k).1 (y.2.ee k).code.length (y.1.K k).2)∧bI < w.heap.size:=by
 rcases (by omega:k=0∨k=1) with rfl|rfl
 ·exact ⟨h.iO 0 _ rfl,h.iO 1 _ rfl,h.iO 2 _ rfl,h.iO 3 _ rfl,h.iO 4 _ rfl,h.iO 5 _ rfl,h.iO 6 _ rfl,h.iO 7 _ rfl,h.lI⟩
 ·exact ⟨h.iO 8 _ rfl,h.iO 9 _ rfl,h.iO 10 _ rfl,h.iO 11 _ rfl,h.iO 12 _ rfl,h.iO 13 _ rfl,h.iO 14 _ rfl,h.iO 15 _ rfl,h.lI⟩
def Tr (x:RP) (a:dv) (Y:Nat) (sv iv v0 v1:Value) (ks ki:Nat):aI:=du [row Y 65 (x.aw.cells.toList++[sv,iv]),own 118 5 sv ks ((bO x.s0 v0++bO x.s1 v1).take (ks*5)),own 26 8 iv ki ((aq.row x.i0 a.K0++aq.row x.i1 a.K1).take (ki*8)),du ([own 24 1 v0 x.s0.blocks.length a.pE,own 24 1 v1 x.s1.blocks.length a.tU].take ks)]
theorem EJ {a:dv} {iv v':Value} {ki:Nat} (hk:k < 2) {gc:Value} (h:St w0 w (row Y 65 (x.aw.cells.toList++[gc,iv])::own 118 5 gc (k+1) ((bO x.s0 v0++bO x.s1 v1).take (k*5)++bO (x.slot k) v')::own 26 8 iv ki ((aq.row x.i0 a.K0++aq.row x.i1 a.K1).take (ki*8))::du ([own 24 1 v0 x.s0.blocks.length a.pE,own 24 1 v1 x.s1.blocks.length a.tU].take k)::own 24 1 v' (x.slot k).blocks.length (a.vsk k)::l)):∃v0 v1,St w0 w (Tr x a Y gc iv v0 v1 (k+1) ki::l):=by
 rcases (by omega:k=0∨k=1) with rfl|rfl
 ·have h2:=(h.pick 3 rfl).drop.pick 3 rfl;have h3:St w0 w (du [own 24 1 v' x.s0.blocks.length a.pE]::_):=St.eJ (L:=[_]) h2;have h4:=((h3.pick 3 rfl).pick 3 rfl).pick 3 rfl;exact ⟨v',v1,St.eJ (L:=[_,_,_,_]) h4⟩
 ·have h2:=(h.pick 3 rfl).fI;have h3:=(h2.pick 4 rfl).swap;have h4:St w0 w (du [own 24 1 v0 x.s0.blocks.length a.pE,own 24 1 v' x.s1.blocks.length a.tU]::_):=St.eJ (L:=[_,_]) h3;have h5:=((h4.pick 3 rfl).pick 3 rfl).pick 3 rfl;exact ⟨v0,v',St.eJ (L:=[_,_,_,_]) h5⟩
theorem Om {a:dv} {sv:Value} {ks:Nat} (hk:k < 2) {gc:Value} (h:St w0 w (row Y 65 (x.aw.cells.toList++[sv,gc])::own 118 5 sv ks ((bO x.s0 v0++bO x.s1 v1).take (ks*5))::own 26 8 gc (k+1) ((aq.row x.i0 a.K0++aq.row x.i1 a.K1).take (k*8)++aq.row (x.ee k) (a.K k))::du ([own 24 1 v0 x.s0.blocks.length a.pE,own 24 1 v1 x.s1.blocks.length a.tU].take ks)::l)):St w0 w (Tr x a Y sv gc v0 v1 ks (k+1)::l):=by
 rcases (by omega:k=0∨k=1) with rfl|rfl
 ·exact St.eJ (L:=[_,_,_,_]) h
 ·exact St.eJ (L:=[_,_,_,_]) h
def J5 (zs ys:List (dv×RP)):Prop:=∀k (h:k < zs.length) (h':k < ys.length),zs[k].1.K0=ys[k].1.K0∧zs[k].1.K1=ys[k].1.K1
theorem Uk {a:dF} {t:aY} (h:St w0 w (bK X [ae aa t.frame,.slice a.AP t.parts.length a.cP,.slice a.AW t.aJ.length a.cW,.slice a.AC t.av.length a.cC,ae aa t.ay] v P ys::l)) (hS:∀y∈ys,∀k:Int,Ch (y.2.slot k)) (h4:ys.length≤4) :
  Calls Tryz.prog 21 #[.pointer (some ⟨X,0,none⟩)] w fun e w'=>∃X2,e=.returned (.pointer (some ⟨X2,0,none⟩))∧∃v2 zs,St w0 w' (row X2 68 ([ae aa t.frame,.slice a.AP t.parts.length a.cP,.slice a.AW t.aJ.length a.cW,.slice a.AC t.av.length a.cC,ae aa t.ay]++[v2])::own 65 8 v2 zs.length (dG zs)::dY P zs::bK X [ae aa t.frame,.slice a.AP t.parts.length a.cP,.slice a.AW t.aJ.length a.cW,.slice a.AC t.av.length a.cC,ae aa t.ay] v P ys::l)∧zs.map (·.2)=ys.map (·.2)∧J5 zs ys:=by
 obtain ⟨X2,hX2⟩:=xE w.heap.size;obtain ⟨w1,aF⟩:=xE (w.alloc (.cells #[ae aa t.frame,.slice a.AP t.parts.length a.cP,.slice a.AW t.aJ.length a.cW,.slice a.AC t.av.length a.cC,ae aa t.ay,.slice none 0 0] 68))
 have H1:=af (show St w0 w1 (row X2 68 ([ae aa t.frame,.slice a.AP t.parts.length a.cP,.slice a.AW t.aJ.length a.cW,.slice a.AC t.av.length a.cC,ae aa t.ay]++[.slice none 0 0])::own 65 8 (.slice none 0 0) 0 (dG [])::dY P []::bK X [ae aa t.frame,.slice a.AP t.parts.length a.cP,.slice a.AW t.aJ.length a.cW,.slice a.AC t.av.length a.cC,ae aa t.ay] v P ys::l) by
  have h1:=h.new 68 #[ae aa t.frame,.slice a.AP t.parts.length a.cP,.slice a.AW t.aJ.length a.cW,.slice a.AC t.av.length a.cC,ae aa t.ay,.slice none 0 0];rw [←hX2,←aF] at h1
  exact ((Fb (P:=P) h1).cX (e:=65) (size:=8) (v:=.slice none 0 0) (n:=0) (xs:=[]) (Below.refl _ _) ⟨rfl,.inl ⟨rfl,rfl⟩⟩).pick 2 rfl |> fun h=>h)
 have rX:=(et h).row.1;have t0:=rX.c0;have t1:=rX.c1;have t2:=rX.c2;have t3:=rX.c3;have t4:=rX.c4;have lX:=rX.lt;have br:=af aF;have po:=af hX2;have HS:=af hS;obtain ⟨n,hn⟩:=xE ys.length;have HN:=af hn;have h4':n≤4:=by omega
 clear h rX aF hX2 hS hn h4;go_enter Tryz.func21,Tryz.ntmps21;go_upto_region 2 with fail;rw [←br.o,←po.o];clear t0 t1 t2 t3 t4 lX;go_wp2_with fail;go_loopw [4] (fun x wr=>∃(p:Nat) (v2:Value) (zs:List (dv×RP)),p≤n∧x=ae aa (p:Int)∧St w0 wr (row X2 68 ([ae aa t.frame,.slice a.AP t.parts.length a.cP,.slice a.AW t.aJ.length a.cW,.slice a.AC t.av.length a.cC,ae aa t.ay]++[v2])::own 65 8 v2 p (dG zs)::dY P zs::bK X [ae aa t.frame,.slice a.AP t.parts.length a.cP,.slice a.AW t.aJ.length a.cW,.slice a.AC t.av.length a.cC,ae aa t.ay] v P ys::l)∧zs.map (·.2)=(ys.map (·.2)).take p∧J5 zs ys) (fun x _=>n-(intOf x).toNat)
 case atStart=>exact ⟨0,_,[],by omega,rfl,H1.o,rfl,fun k hk=>absurd hk (by simp)⟩
 case round =>
  obtain ⟨p,v2,zs,hp,rfl,ak,yQ,AM⟩:=hrel;clear H1;have bH:=af ak;have TJ:=af yQ;have HKS:=af AM;obtain ⟨A0,c0,x50,lX0⟩:=zJ (ak.pick 3 rfl) rfl;rw [←HN.o] at x50;clear ak yQ AM;by_cases aH:p < n
  ·have FG:p < ys.length:=by rw [←HN.o];exact aH
   have Gi:=af (fun (w':World) (l':List aI) (h:St w0 w' (bK X [ae aa t.frame,.slice a.AP t.parts.length a.cP,.slice a.AW t.aJ.length a.cW,.slice a.AC t.av.length a.cC,ae aa t.ay] v P ys::l'))=>vC h rfl FG);have ch:=af (fun (w':World) (l':List aI) (h:St w0 w' (bK X [ae aa t.frame,.slice a.AP t.parts.length a.cP,.slice a.AW t.aJ.length a.cW,.slice a.AC t.av.length a.cC,ae aa t.ay] v P ys::l')) (k:Nat) (hk:k < 2)=>kK h FG hk);have Gc:=af (fun (k:Nat)=>HS.o (ys[p]) (List.getElem_mem FG) k);have HY:=af (show ys[p]?=some ys[p] from cN FG);rw [←HN.o] at Gi;generalize ys[p]=y at *;obtain ⟨b,off,c,bS,oS,cS,bI,oI,cI,ha⟩:=Gi.o wr _ (bH.o.pick 3 rfl);have x5:=ha.x5;obtain ⟨r0,r1,r2,r3,r4,r5,-,-,lb⟩:=ha.recs;have k1:(p:Int) < (n:Int):=by omega
   have k0:(0:Int)≤(p:Int):=by omega
   obtain ⟨Y,hY⟩:=xE wr.heap.size;obtain ⟨w5,eD⟩:=xE (wr.alloc (.cells #[ae aa y.2.aw.part,ae aa y.2.aw.seq,ae aa y.2.aw.au,ae aa y.2.aw.aj,ae aa y.2.aw.left,ae aa y.2.aw.bad,.slice none 0 0,.slice none 0 0] 65))
   have H5:=af (show St w0 w5 (Tr y.2 y.1 Y (.slice none 0 0) (.slice none 0 0) undef undef 0 0::row X2 68 ([ae aa t.frame,.slice a.AP t.parts.length a.cP,.slice a.AW t.aJ.length a.cW,.slice a.AC t.av.length a.cC,ae aa t.ay]++[v2])::own 65 8 v2 p (dG zs)::dY P zs::bK X [ae aa t.frame,.slice a.AP t.parts.length a.cP,.slice a.AW t.aJ.length a.cW,.slice a.AC t.av.length a.cC,ae aa t.ay] v P ys::l) by
    have h1:=bH.o.new 65 #[ae aa y.2.aw.part,ae aa y.2.aw.seq,ae aa y.2.aw.au,ae aa y.2.aw.aj,ae aa y.2.aw.left,ae aa y.2.aw.bad,.slice none 0 0,.slice none 0 0];rw [←hY,←eD] at h1;have h2:St w0 w5 (du ([]:List aI)::_):=St.eJ (L:=[]) h1;have h3:=h2.cX (e:=26) (size:=8) (v:=.slice none 0 0) (n:=0) (xs:=[]) (Below.refl _ _) ⟨rfl,.inl ⟨rfl,rfl⟩⟩;have h4:=h3.cX (e:=118) (size:=5) (v:=.slice none 0 0) (n:=0) (xs:=[]) (Below.refl _ _) ⟨rfl,.inl ⟨rfl,rfl⟩⟩
    exact St.eJ (L:=[_,_,_,_]) (h4.pick 3 rfl))
   have sO:=af eD;have HYY:=af hY;clear ha eD hY x50;go_upto_region 6 with fail;rw [←sO.o,←HYY.o];clear x5 r0 r1 r2 r3 r4 r5 lb lX0;go_wp2_with fail;go_loopw [6] (fun x w6=>∃(k:Nat) (sv iv v0 v1:Value),k≤2∧x=ae aa (k:Int)∧St w0 w6 (Tr y.2 y.1 Y sv iv v0 v1 k k::row X2 68 ([ae aa t.frame,.slice a.AP t.parts.length a.cP,.slice a.AW t.aJ.length a.cW,.slice a.AC t.av.length a.cC,ae aa t.ay]++[v2])::own 65 8 v2 p (dG zs)::dY P zs::bK X [ae aa t.frame,.slice a.AP t.parts.length a.cP,.slice a.AW t.aJ.length a.cW,.slice a.AC t.av.length a.cC,ae aa t.ay] v P ys::l)) (fun x _=>2-(intOf x).toNat)
   case atStart=>exact ⟨0,_,_,_,_,by omega,rfl,H5.o⟩
   case round =>
    obtain ⟨k,sv,iv,v0,v1,hk,rfl,ak⟩:=hrel;clear H5;have ye:=af ak;clear ak;by_cases dy:k < 2
    ·have q1:(k:Int) < 2:=by omega
     have q0:(0:Int)≤(k:Int):=by omega
     have h1:=ye.o.fI;simp only [List.cons_append,List.nil_append] at h1;have H6:=af h1;obtain ⟨b,off,c,bS,oS,cS,bI,oI,cI,ha⟩:=Gi.o wr _ (h1.pick 7 rfl);obtain ⟨A,cc,hvk,pN,dk,gF⟩:=ch.o wr _ (h1.pick 7 rfl) k dy;have x5:=ha.x5;have lX:=ha.lX;obtain ⟨-,-,-,-,-,-,r6,r7,lb⟩:=ha.recs;obtain ⟨s0,s1,s2,s3,s4,ls⟩:=ha.abu dy;rw [hvk] at s4;have rY:=h1.row.1;have y6:=rY.c6;have lY:=rY.lt;obtain ⟨AS,cAS,ud,_,_⟩:=aD (h1.pick 1 rfl).own;subst ud;obtain ⟨R,hR⟩:=xE (y.2.slot k);have Bc:=af (U6 h1.drew R.has R.st.aC R.st.size R.st.bf (A:=A) (n:=R.blocks.length) (c:=cc) (vs:=y.1.vsk k) (by rw [hR];exact dk.below (Below.refl _ _).drew) pN gF.one (by have:=(Gc.o k).bu.b10;rw [hR];omega));rw [←hR] at s0 s1 s2 s3 s4;have nY:=af dy;have mO:=af (fun v'=>show bO (y.2.slot k) v'=[.bool R.has,ae aa R.st.aC,ae aa R.st.size,ae aa R.st.bf,v'] from by rw [hR];rfl);obtain ⟨nb,kV⟩:=xE R.blocks.length;rw [←kV] at s4 Bc;have xh:=af (show nb=(y.2.slot k).blocks.length by rw [kV,hR]);generalize R.has=g0,R.st.aC=g1,R.st.size=g2,R.st.bf=g3 at s0 s1 s2 s3 Bc mO;clear h1 ha hvk pN dk gF rY hR kV;go_upto_region 9 with fail
     go_cut [] (fun wc=>∃sv v0 v1,St w0 wc (Tr y.2 y.1 Y sv iv v0 v1 (k+1) k::row X2 68 ([ae aa t.frame,.slice a.AP t.parts.length a.cP,.slice a.AW t.aJ.length a.cW,.slice a.AC t.av.length a.cC,ae aa t.ay]++[v2])::own 65 8 v2 p (dG zs)::dY P zs::bK X [ae aa t.frame,.slice a.AP t.parts.length a.cP,.slice a.AW t.aJ.length a.cW,.slice a.AC t.av.length a.cC,ae aa t.ay] v P ys::l))
     case first =>
      refine dN ?_;(refine bk [0,2,3,4,6,10,5,7,8,9,11,12] ?_;simp only [pick,xG];(iterate 12 still_step);refine wpStill_nil ?_);refine mB 1 13 (by kernel_rfl) (by rfl) (by rfl) ?_ ?_
      ·(try simp only [xG]);go_simp;try dsimp only
       (try simp only [ai]);(refine aK 13 ?_;(try simp only [xG]);go_simp);refine Bc.o.mono ?_;rintro e w7 ⟨v',rfl,h7⟩;obtain ⟨A',c',rfl,_,_⟩:=aD h7.own;have H8:=af (h7.pick 2 rfl);clear h7 y6 lY;try dsimp only
       (try simp only [ai]);(refine aK 14 ?_;(try simp only [xG]);go_simp);try dsimp only
       (try simp only [ai]);(refine aK 15 ?_;(try simp only [xG]));refine pD E7 (by rfl) (.tmp 36) (.tmp 49) (by rfl) H8.o (by rfl) (m:=1) [.bool g0,ae aa g1,ae aa g2,ae aa g3,.slice A' nb c'] rfl (by simp [Value.oneCell']) (by rfl) (by omega) (by omega) (by unfold maxLen;omega) ?_;intro gs c9 w9 h9;have dR:=h9.pick 2 rfl;have mR:=af dR;have y6:=dR.row.1.c6;have f6:=dR.row.1.frozen 6;have lY:=dR.row.1.lt;clear h9 dR;try dsimp only
       (try simp only [ai]);(refine bk [16] ?_;simp only [pick,xG];(iterate 1 still_step);refine wpStill_nil ?_);(refine aK 17 ?_;(try simp only [xG]);go_simp);(try simp only [ai]);refine cw ?_;go_wp2_with fail;go_meet;have jn:=(mR.o.set 6 (.slice (some ⟨gs,0,none⟩) (k+1) c9)).perm (((List.perm_middle (l₁:=[_,_])).symm.cons _).cons _);rw [←mO.o,xh.o] at jn;obtain ⟨_,_,nR⟩:=EJ nY.o jn;exact ⟨_,_,_,nR⟩
      ·(try simp only [xG]);go_simp;refine Bc.o.mono ?_;rintro e w7 ⟨v',rfl,h7⟩;obtain ⟨A',c',rfl,_,_⟩:=aD h7.own;have H8:=af (h7.pick 2 rfl);clear y6 lY;have y6:=(h7.pick 1 rfl).row.1.c6;have lY:=(h7.pick 1 rfl).row.1.lt;clear h7;try dsimp only
       (try simp only [ai]);refine mB 1 14 (by kernel_rfl) (by rfl) (by rfl) ?_ ?_
       ·(try simp only [xG]);go_simp;try dsimp only
        (try simp only [ai]);clear y6 lY;(refine aK 14 ?_;(try simp only [xG]);go_simp);try dsimp only
        (try simp only [ai]);(refine aK 15 ?_;(try simp only [xG]));refine pD E7 (by rfl) (.tmp 36) (.tmp 49) (by rfl) H8.o (by rfl) (m:=1) [.bool g0,ae aa g1,ae aa g2,ae aa g3,.slice A' nb c'] rfl (by simp [Value.oneCell']) (by rfl) (by omega) (by omega) (by unfold maxLen;omega) ?_;intro gs c9 w9 h9;have dR:=h9.pick 2 rfl;have mR:=af dR;have y6:=dR.row.1.c6;have f6:=dR.row.1.frozen 6;have lY:=dR.row.1.lt;clear h9 dR;try dsimp only
        (try simp only [ai]);(refine bk [16] ?_;simp only [pick,xG];(iterate 1 still_step);refine wpStill_nil ?_);(refine aK 17 ?_;(try simp only [xG]);go_simp);(try simp only [ai]);refine cw ?_;go_wp2_with fail;go_meet;have jn:=(mR.o.set 6 (.slice (some ⟨gs,0,none⟩) (k+1) c9)).perm (((List.perm_middle (l₁:=[_,_])).symm.cons _).cons _);rw [←mO.o,xh.o] at jn;obtain ⟨_,_,nR⟩:=EJ nY.o jn;exact ⟨_,_,_,nR⟩
       ·(try simp only [xG]);go_simp;try dsimp only
        (try simp only [ai]);(refine bk [1] ?_;simp only [pick,xG];(iterate 1 still_step);refine wpStill_nil ?_);clear y6 lY;(refine aK 15 ?_;(try simp only [xG]));refine pD E7 (by rfl) (.tmp 36) (.tmp 49) (by rfl) H8.o (by rfl) (m:=1) [.bool g0,ae aa g1,ae aa g2,ae aa g3,.slice A' nb c'] rfl (by simp [Value.oneCell']) (by rfl) (by omega) (by omega) (by unfold maxLen;omega) ?_;intro gs c9 w9 h9;have dR:=h9.pick 2 rfl;have mR:=af dR;have y6:=dR.row.1.c6;have f6:=dR.row.1.frozen 6;have lY:=dR.row.1.lt;clear h9 dR;try dsimp only
        (try simp only [ai]);(refine bk [16] ?_;simp only [pick,xG];(iterate 1 still_step);refine wpStill_nil ?_);(refine aK 17 ?_;(try simp only [xG]);go_simp);(try simp only [ai]);refine cw ?_;go_wp2_with fail;go_meet;have jn:=(mR.o.set 6 (.slice (some ⟨gs,0,none⟩) (k+1) c9)).perm (((List.perm_middle (l₁:=[_,_])).symm.cons _).cons _);rw [←mO.o,xh.o] at jn;obtain ⟨_,_,nR⟩:=EJ nY.o jn;exact ⟨_,_,_,nR⟩
     case rest =>
     obtain ⟨sv2,v02,v12,jn⟩:=hcut;clear x5 lX r6 r7 lb s0 s1 s2 s3 s4 ls y6 lY Bc mO xh;have nR:=jn.fI;simp only [List.cons_append,List.nil_append] at nR;have Cx:=af nR;obtain ⟨b,off,c,bS,oS,cS,bI,oI,cI,ha⟩:=Gi.o wc _ (nR.pick 7 rfl);have x5:=ha.x5;have lX:=ha.lX;obtain ⟨-,-,-,-,-,-,r6,r7,lb⟩:=ha.recs;obtain ⟨s0,s1,s2,s3,s4,s5,s6,s7,ls⟩:=ha.acg nY.o;have y7:=nR.row.1.c7;have lY:=nR.row.1.lt;obtain ⟨AI,cAI,hiv,_,_⟩:=aD (nR.pick 2 rfl).own;subst hiv;have mO:=af (show aq.row (y.2.ee k) (y.1.K k)=[ae aa (y.2.ee k).part,ae aa (y.2.ee k).version,ae aa (y.2.ee k).aV,ae aa (y.2.ee k).mem,ae aa (y.2.ee k).fuel,ae aa (y.2.ee k).aM,ae aa (y.2.ee k).ax,.slice (y.1.K k).1 (y.2.ee k).code.length (y.1.K k).2] from rfl);obtain ⟨IR,hIR⟩:=xE (aq.row (y.2.ee k) (y.1.K k));rw [←hIR] at mO;have yj:=af hIR;generalize (y.2.ee k).part=g0,(y.2.ee k).version=g1,(y.2.ee k).aV=g2,(y.2.ee k).mem=g3,(y.2.ee k).fuel=g4,(y.2.ee k).aM=g5,(y.2.ee k).ax=g6,(y.2.ee k).code.length=g7,(y.1.K k).1=KA,(y.1.K k).2=Kc at s0 s1 s2 s3 s4 s5 s6 s7 mO;clear jn nR ha hIR;go_upto_region 10 with fail;have HD:=af Cx.o.drew;refine dN ?_;(refine bk [0,2,3,4,6,10,5,7,8,9,11,12] ?_;simp only [pick,xG];(iterate 12 still_step);refine wpStill_nil ?_);refine mB 1 13 (by kernel_rfl) (by rfl) (by rfl) ?_ ?_
     ·(try simp only [xG]);go_simp;try dsimp only
      (try simp only [ai]);(refine aK 13 ?_;(try simp only [xG]);go_simp);try dsimp only
      (try simp only [ai]);(refine aK 14 ?_;(try simp only [xG]));refine pD O4 (by rfl) (.tmp 53) (.tmp 65) (by rfl) (HD.o.pick 2 rfl) (by rfl) (m:=1) [ae aa g0,ae aa g1,ae aa g2,ae aa g3,ae aa g4,ae aa g5,ae aa g6,.slice KA g7 Kc] rfl (by simp [Value.oneCell']) (by rfl) (by omega) (by omega) (by unfold maxLen;omega) ?_;intro gs c9 w9 h9;have dR:=h9.pick 1 rfl;have mR:=af dR;have z7:=dR.row.1.c7;have f7:=dR.row.1.frozen 7;have lY2:=dR.row.1.lt;clear h9 dR;try dsimp only
      (try simp only [ai]);(refine bk [15] ?_;simp only [pick,xG];(iterate 1 still_step);refine wpStill_nil ?_);(refine aK 16 ?_;(try simp only [xG]);go_simp);(try simp only [ai]);refine cw ?_;go_wp2_with fail;have jn:=(mR.o.set 7 (.slice (some ⟨gs,0,none⟩) (k+1) c9)).perm ((List.Perm.swap _ _ _).cons _);rw [←mO.o,yj.o] at jn;have mQ:=af (Om nY.o jn);clear jn;go_roundw;case rel=>exact ⟨k+1,_,_,_,_,by have:=nY.o;omega,by go_num,mQ.o⟩
      case measure=>simp [intOf];omega
     ·(try simp only [xG]);go_simp;try dsimp only
      (try simp only [ai]);(refine bk [1] ?_;simp only [pick,xG];(iterate 1 still_step);refine wpStill_nil ?_);(refine aK 14 ?_;(try simp only [xG]));refine pD O4 (by rfl) (.tmp 53) (.tmp 65) (by rfl) (HD.o.pick 2 rfl) (by rfl) (m:=1) [ae aa g0,ae aa g1,ae aa g2,ae aa g3,ae aa g4,ae aa g5,ae aa g6,.slice KA g7 Kc] rfl (by simp [Value.oneCell']) (by rfl) (by omega) (by omega) (by unfold maxLen;omega) ?_;intro gs c9 w9 h9;have dR:=h9.pick 1 rfl;have mR:=af dR;have z7:=dR.row.1.c7;have f7:=dR.row.1.frozen 7;have lY2:=dR.row.1.lt;clear h9 dR;try dsimp only
      (try simp only [ai]);(refine bk [15] ?_;simp only [pick,xG];(iterate 1 still_step);refine wpStill_nil ?_);(refine aK 16 ?_;(try simp only [xG]);go_simp);(try simp only [ai]);refine cw ?_;go_wp2_with fail;have jn:=(mR.o.set 7 (.slice (some ⟨gs,0,none⟩) (k+1) c9)).perm ((List.Perm.swap _ _ _).cons _);rw [←mO.o,yj.o] at jn;have mQ:=af (Om nY.o jn);clear jn;go_roundw;case rel=>exact ⟨k+1,_,_,_,_,by have:=nY.o;omega,by go_num,mQ.o⟩
      case measure=>simp [intOf];omega
    ·obtain rfl:k=2:=by omega
     have q1:¬((2:Nat):Int) < 2:=by omega
     have h1:=ye.o.fI;simp only [List.cons_append,List.nil_append] at h1;have lH:=(ch.o wr _ (h1.pick 7 rfl) 0 (by omega))
     have kb:=(ch.o wr _ (h1.pick 7 rfl) 1 (by omega))
     obtain ⟨-,-,-,-,-,lH⟩:=lH;obtain ⟨-,-,-,-,-,kb⟩:=kb;obtain ⟨JJ,Jh,ud,_,_⟩:=aD (h1.pick 1 rfl).own;obtain ⟨JK,Ji,hiv,_,_⟩:=aD (h1.pick 2 rfl).own;obtain ⟨A2,cA2,Sn,_,_⟩:=aD (h1.pick 5 rfl).own;subst Sn;subst ud;subst hiv;have HON:=af (show ∀u∈([ae aa y.2.aw.part,ae aa y.2.aw.seq,ae aa y.2.aw.au,ae aa y.2.aw.aj,ae aa y.2.aw.left,ae aa y.2.aw.bad,.slice JJ 2 Jh,.slice JK 2 Ji]:List Value),u.oneCell'=true by simp [Value.oneCell']);have nO:zs.length=p:=by have:=congrArg List.length TJ.o;simp only [iB,fW] at this;rw [this,←HN.o];omega
     obtain ⟨a',ha'⟩:∃a':dv,a'=⟨.slice JJ 2 Jh,.slice JK 2 Ji,v0,v1,y.1.pE,y.1.tU,y.1.K0,y.1.K1⟩:=⟨_,rfl⟩
     have WL:=af (fun (w9:World) (gs c9:Nat) (h:St w0 w9 (row X2 68 ([ae aa t.frame,.slice a.AP t.parts.length a.cP,.slice a.AW t.aJ.length a.cW,.slice a.AC t.av.length a.cC,ae aa t.ay]++[.slice (some ⟨gs,0,none⟩) (p+1) c9])::own 65 8 (.slice (some ⟨gs,0,none⟩) (p+1) c9) (p+1) (dG zs++[ae aa y.2.aw.part,ae aa y.2.aw.seq,ae aa y.2.aw.au,ae aa y.2.aw.aj,ae aa y.2.aw.left,ae aa y.2.aw.bad,.slice JJ 2 Jh,.slice JK 2 Ji])::row Y 65 (y.2.aw.cells.toList++[.slice JJ 2 Jh,.slice JK 2 Ji])::own 118 5 (.slice JJ 2 Jh) 2 ((bO y.2.s0 v0++bO y.2.s1 v1).take (2*5))::own 26 8 (.slice JK 2 Ji) 2 ((aq.row y.2.i0 y.1.K0++aq.row y.2.i1 y.1.K1).take (2*8))::du ([own 24 1 v0 y.2.s0.blocks.length y.1.pE,own 24 1 v1 y.2.s1.blocks.length y.1.tU].take 2)::dY P zs::bK X [ae aa t.frame,.slice a.AP t.parts.length a.cP,.slice a.AW t.aJ.length a.cW,.slice a.AC t.av.length a.cC,ae aa t.ay] v P ys::l))=>show St w0 w9 (row X2 68 ([ae aa t.frame,.slice a.AP t.parts.length a.cP,.slice a.AW t.aJ.length a.cW,.slice a.AC t.av.length a.cC,ae aa t.ay]++[.slice (some ⟨gs,0,none⟩) (p+1) c9])::own 65 8 (.slice (some ⟨gs,0,none⟩) (p+1) c9) (p+1) (dG (zs++[(a',y.2)]))::dY P (zs++[(a',y.2)])::bK X [ae aa t.frame,.slice a.AP t.parts.length a.cP,.slice a.AW t.aJ.length a.cW,.slice a.AC t.av.length a.cC,ae aa t.ay] v P ys::l)∧(zs++[(a',y.2)]).map (·.2)=(ys.map (·.2)).take (p+1)∧J5 (zs++[(a',y.2)]) ys from by
      have h2:=((h.pick 2 rfl).drop.pick 4 rfl).fI;simp only [List.take_succ_cons,List.take_zero,List.cons_append,List.nil_append] at h2;have h3:=(((h2.pick 5 rfl).pick 2 rfl).pick 2 rfl).pick 5 rfl;have h4:St w0 w9 (mj P a' y.2::_):=St.eJ (L:=[_,_,_,_,_]) (by rw [ha'];exact h3.addFact ⟨lH,kb⟩);have h5:=Fc (h4.pick 3 rfl);have h6:=(h5.pick 2 rfl).pick 2 rfl;refine ⟨?_,?_,fun k hk IH=>?_⟩
      ·rw [show dG (zs++[(a',y.2)])=dG zs++[ae aa y.2.aw.part,ae aa y.2.aw.seq,ae aa y.2.aw.au,ae aa y.2.aw.aj,ae aa y.2.aw.left,ae aa y.2.aw.bad,.slice JJ 2 Jh,.slice JK 2 Ji] by rw [ha'];simp [dG,l6,Rec.cells]];exact h6
      ·have hy2:(ys.map (·.2))[p]?=some y.2:=by rw [List.getElem?_map,HY.o];rfl
       rw [List.map_append,TJ.o,List.take_add_one,hy2];rfl
      ·by_cases Sy:k < zs.length
       ·rw [List.getElem_append_left Sy];exact HKS.o k Sy IH
       ·have AN:k=p:=by simp at hk;omega
        subst AN;have hye:ys[k]=y:=by have h:=HY.o;rw [cN IH] at h;exact Option.some.inj h
        rw [List.getElem_append_right (by omega),hye];simp only [nO,Nat.sub_self,List.getElem_cons_zero];rw [ha']
        exact ⟨rfl,rfl⟩)
     have rY:=h1.row.1;have z0:=rY.c0;have z1:=rY.c1;have z2:=rY.c2;have z3:=rY.c3;have z4:=rY.c4;have z5':wr.cell? ⟨Y,5,none⟩=some (ae aa y.2.aw.bad):=rY.cell 5;have z6:=rY.c6;have z7:=rY.c7;have lY:=rY.lt;have x25:=(h1.pick 4 rfl).row.1.c5;have adP:=(h1.pick 4 rfl).row.1.lt;have H7:=af ((h1.pick 5 rfl).drew);generalize y.2.aw.part=g0,y.2.aw.seq=g1,y.2.aw.au=g2,y.2.aw.aj=g3,y.2.aw.left=g4,y.2.aw.bad=g5 at z0 z1 z2 z3 z4 z5' HON WL;clear h1 lH kb rY ha' nO;go_wp2_with fail;refine dN ?_;(refine bk [0,1,2,3,5] ?_;simp only [pick,xG];(iterate 5 still_step);refine wpStill_nil ?_);refine mB 4 6 (by kernel_rfl) (by rfl) (by rfl) ?_ ?_
     ·(try simp only [xG]);go_simp;try dsimp only
      (try simp only [ai]);(refine aK 6 ?_;(try simp only [xG]);go_simp);try dsimp only
      (try simp only [ai]);(refine aK 7 ?_;(try simp only [xG]));refine pD Kr (by rfl) (.tmp 72) (.tmp 74) (by rfl) H7.o (by rfl) (m:=1) [ae aa g0,ae aa g1,ae aa g2,ae aa g3,ae aa g4,ae aa g5,.slice JJ 2 Jh,.slice JK 2 Ji] rfl HON.o (by rfl) (by omega) (by omega) (by unfold maxLen;omega) ?_;intro gs c9 w9 h9;have dR:=h9.pick 5 rfl;have mR:=af dR;have z5:=dR.row.1.c5;have f5:=dR.row.1.frozen 5;have lX2:=dR.row.1.lt;clear h9 dR;try dsimp only
      (try simp only [ai]);(refine bk [8,9] ?_;simp only [pick,xG];(iterate 2 still_step);refine wpStill_nil ?_);(refine aK 10 ?_;(try simp only [xG]);go_simp);(try simp only [ai]);refine cw ?_;have Ct:=af (WL.o _ gs c9 (mR.o.set 5 (.slice (some ⟨gs,0,none⟩) (p+1) c9)));go_wp2_with fail;go_roundw;case rel=>exact ⟨p+1,_,_,by omega,by go_num,Ct.o.1,Ct.o.2.1,Ct.o.2.2⟩
      case measure=>simp [intOf];omega
     ·(try simp only [xG]);go_simp;try dsimp only
      (try simp only [ai]);(refine bk [4] ?_;simp only [pick,xG];(iterate 1 still_step);refine wpStill_nil ?_);(refine aK 7 ?_;(try simp only [xG]));refine pD Kr (by rfl) (.tmp 72) (.tmp 74) (by rfl) H7.o (by rfl) (m:=1) [ae aa g0,ae aa g1,ae aa g2,ae aa g3,ae aa g4,ae aa g5,.slice JJ 2 Jh,.slice JK 2 Ji] rfl HON.o (by rfl) (by omega) (by omega) (by unfold maxLen;omega) ?_;intro gs c9 w9 h9;have dR:=h9.pick 5 rfl;have mR:=af dR;have z5:=dR.row.1.c5;have f5:=dR.row.1.frozen 5;have lX2:=dR.row.1.lt;clear h9 dR;try dsimp only
      (try simp only [ai]);(refine bk [8,9] ?_;simp only [pick,xG];(iterate 2 still_step);refine wpStill_nil ?_);(refine aK 10 ?_;(try simp only [xG]);go_simp);(try simp only [ai]);refine cw ?_;have Ct:=af (WL.o _ gs c9 (mR.o.set 5 (.slice (some ⟨gs,0,none⟩) (p+1) c9)));go_wp2_with fail;go_roundw;case rel=>exact ⟨p+1,_,_,by omega,by go_num,Ct.o.1,Ct.o.2.1,Ct.o.2.2⟩
      case measure=>simp [intOf];omega
  ·obtain rfl:p=n:=by omega
   have k1:¬(p:Int) < (p:Int):=by omega
   go_wp2_with fail;go_ret;have hz:=TJ.o;rw [List.take_of_length_le (by rw [iB,HN.o];exact Nat.le_refl _)] at hz;have nO:zs.length=p:=by have:=congrArg List.length hz;simp only [iB] at this;rw [this,HN.o]
   refine ⟨X2,rfl,v2,zs,?_,hz,HKS.o⟩;rw [nO];exact bH.o
end
end
end store
namespace bN
open Go.RowKit Go.ChangeShapes Go.WideShapes Go.ChangeAt Go.Deep Go.Joins base obj mem
section
variable {e:TypeId} {W:World}
theorem OW {H:Type} {enc:TypeId×Value→H} {s:TypeId} {v:Value} {fuel:Nat} {x:DataW H×List MemPlace} (ht:Tryz.prog.underlying s=some (.slice e)) (hc:Tryz.prog.cellsOf e=3)
  (he:∀(cs:List Value) (m:Nat) (y:DataW H×List MemPlace),cs.length=3→DataW.trod enc Tryz.prog W 0 (fun _=>true) true m e cs=some y→∃t:T3,cs=t.cells)
  (hf:DataW.trod enc Tryz.prog W 0 (fun _=>true) true fuel s [v]=some x):∃(A:Option Addr) (n c:Nat) (l:List T3),v=.slice A n c∧n=l.length∧n≤maxLen∧Sl W W.heap.size 3 A n (gD l):=by
 obtain ⟨A,n,c,q,rfl,_,hn,hs,hq⟩:=lift.B7 ht hc (by decide) hf
 have each:∀i,i < n→∃p:T3,q i=p.cells:=by
  intro i hi;obtain ⟨hl,m,y,hy⟩:=hq i hi;exact he _ m y hl hy
 obtain ⟨z,hz⟩:=choose_lt each
 have e1:∀m,m≤n→(List.range m).flatMap q=gD ((List.range m).map z):=by
  intro m
  induction m with
  | zero=>intro _;simp [gD]
  | succ m ih =>
    intro hm;rw [List.range_succ,List.flatMap_append,List.map_append,ih (by omega),List.map_cons,List.map_nil,zE];simp [hz m (by omega)]
 rw [e1 n (Nat.le_refl _)] at hs;exact ⟨A,n,c,(List.range n).map z,rfl,by simp,hn,hs⟩
theorem OV {H:Type} {enc:TypeId×Value→H} {f0 f1 f2:Field} (hu:Tryz.prog.underlying e=some (.struct #[f0,f1,f2])) (GV:oneCellFields Tryz.prog #[f0,f1,f2]=true) (h0:f0.type=3) (h1:f1.type=3) (h2:f2.type=3) :
  ∀(cs:List Value) (m:Nat) (y:DataW H×List MemPlace),cs.length=3→DataW.trod enc Tryz.prog W 0 (fun _=>true) true m e cs=some y→∃t:T3,cs=t.cells:=by
 intro cs m y hl hy;have hf:=lift.Pf hu GV hl hy;obtain ⟨v0,k0,y0,g0,t0⟩:=hf 0 f0 rfl;obtain ⟨v1,k1,y1,g1,t1⟩:=hf 1 f1 rfl;obtain ⟨v2,k2,y2,g2,t2⟩:=hf 2 f2 rfl;rw [h0] at t0;rw [h1] at t1;rw [h2] at t2;obtain ⟨a0,e0,_,_⟩:=DataW.trod_int Tryz.underlying3 t0;obtain ⟨a1,e1,_,_⟩:=DataW.trod_int Tryz.underlying3 t1;obtain ⟨a2,e2,_,_⟩:=DataW.trod_int Tryz.underlying3 t2;simp only [List.cons.injEq,and_true] at e0 e1 e2;refine ⟨⟨a0,a1,a2⟩,?_⟩
 match cs,hl with
 | [u0,u1,u2],_ =>
   simp only [List.getElem?_cons_zero,List.getElem?_cons_succ,Option.some.injEq] at g0 g1 g2;rw [g0,g1,g2,e0,e1,e2];rfl
end
end bN
namespace lift
open Go.RowKit Go.ChangeShapes Go.WideShapes Go.Deep base
theorem Zo {zs:List Int} (h:∀z∈zs,(Lit.int .u8 z).wf=true):bC.bn zs:=fun z hz=>by
 have h1:IntKind.u8.min=0:=rfl;have h2:IntKind.u8.max=255:=rfl;have h:=h z hz;simp only [Lit.wf,Bool.and_eq_true,decide_eq_true_eq] at h;omega
end lift
namespace store
open Go.RowKit Go.ChangeShapes Go.WideShapes Go.ChangeAt Go.Deep Go.Joins base obj mem sep bN image
section
variable {B:Nat} {A:Option Addr} {v:Value} {W w:World}
theorem zK {H:Type} {enc:TypeId×Value→H} {P:Program} {e:TypeId} {fs:Array Field} {cs:List Value} {m:Nat} {x:DataW H×List MemPlace} (he:P.underlying e=some (.struct fs))
  (h:DataW.trod enc P W 0 (fun _=>true) true m e cs=some x):∀(j:Nat) (f:Field) (n:Nat),fs[j]?=some f→P.cellsOf f.type=n→∃(k:Nat) (y:DataW H×List MemPlace),DataW.trod enc P W 0 (fun _=>true) true k f.type ((cs.drop f.offset).take n)=some y:=by
 obtain ⟨ys,n',wM,hy,hlen,sB,hf⟩:=DataW.trod_struct he h;intro j f n hj hn;subst hn;have jz:j < fs.size:=(Array.getElem?_eq_some_iff.1 hj).1;have sA:ys[j]?=some (ys[j]'(by rw [sB];exact jz)):=cN _;exact ⟨n',_,(hf j f hj).trans sA⟩
structure uT where
 i:aq
 A:Option Addr
 c:Nat
def uT.cells (x:uT):List Value:=aq.row x.i (x.A,x.c)
instance:Inhabited uT:=⟨⟨aq.none,none,0⟩⟩
structure uT.In (w:World) (B:Nat) (x:uT):Prop where
 code:Sl w B 1 x.A x.i.code.length (aP x.i.code)
 cap:x.i.code.length≤x.c
 jo:bC.bn x.i.code
 pR:x.i.code.length≤maxLen
def Dv (l:List uT):List Value:=l.flatMap uT.cells
theorem VF (l:List uT) (x:uT):Dv (l++[x])=Dv l++x.cells:=by simp [Dv]
theorem Qi {H:Type} {enc:TypeId×Value→H} {fuel:Nat} {x:DataW H×List MemPlace} 
  (h:DataW.trod enc Tryz.prog W 0 (fun _=>true) true fuel 47 [v]=some x):∃(A:Option Addr) (c:Nat) (l:List uT),v=.slice A l.length c∧l.length≤c∧l.length≤maxLen∧Sl W W.heap.size 8 A l.length (Dv l)∧∀x∈l,x.In W W.heap.size:=by
 obtain ⟨A,n,c,q,rfl,xL,hn,hs,hq⟩:=lift.B7 Tryz.underlying47 (s:=8) (by kernel_rfl) (by decide) h
 have each:∀i,i < n→∃p:uT,q i=p.cells∧p.In W W.heap.size:=by
  intro i hi;obtain ⟨hl,m,x,hx⟩:=hq i hi
  obtain ⟨u0,u1,u2,u3,u4,u5,u6,u7,BN⟩:∃u0 u1 u2 u3 u4 u5 u6 u7,q i=[u0,u1,u2,u3,u4,u5,u6,u7]:=by
   match BN:q i,hl with
   | [u0,u1,u2,u3,u4,u5,u6,u7],_=>exact ⟨_,_,_,_,_,_,_,_,rfl⟩
  rw [BN] at hx ⊢;have hf:=zK Tryz.underlying26 hx;obtain ⟨k0,y0,t0⟩:=hf 0 _ 1 rfl (by kernel_rfl);obtain ⟨k1,y1,t1⟩:=hf 1 _ 1 rfl (by kernel_rfl);obtain ⟨k2,y2,t2⟩:=hf 2 _ 1 rfl (by kernel_rfl);obtain ⟨k3,y3,t3⟩:=hf 3 _ 1 rfl (by kernel_rfl);obtain ⟨k4,y4,t4⟩:=hf 4 _ 1 rfl (by kernel_rfl);obtain ⟨k5,y5,t5⟩:=hf 5 _ 1 rfl (by kernel_rfl);obtain ⟨k6,y6,t6⟩:=hf 6 _ 1 rfl (by kernel_rfl);obtain ⟨k7,y7,t7⟩:=hf 7 _ 1 rfl (by kernel_rfl);obtain ⟨a0,h0,_,w0⟩:=DataW.trod_int Tryz.underlying3 t0;obtain ⟨a1,h1,_,w1⟩:=DataW.trod_int Tryz.underlying3 t1;obtain ⟨a2,h2,_,w2⟩:=DataW.trod_int Tryz.underlying3 t2;obtain ⟨a3,h3,_,w3⟩:=DataW.trod_int Tryz.underlying3 t3;obtain ⟨a4,h4,_,w4⟩:=DataW.trod_int Tryz.underlying3 t4;obtain ⟨a5,h5,_,w5⟩:=DataW.trod_int Tryz.underlying3 t5;obtain ⟨a6,h6,_,w6⟩:=DataW.trod_int Tryz.underlying3 t6;obtain ⟨AC,cC,lC,e7,Lv,m7,s7,b7⟩:=lift.Qh (v:=u7) Tryz.underlying24 Tryz.underlying5 (by kernel_rfl) t7;simp at h0 h1 h2 h3 h4 h5 h6;subst h0;subst h1;subst h2;subst h3;subst h4;subst h5;subst h6;subst e7;exact ⟨⟨⟨a0,a1,a2,a3,a4,a5,a6,lC⟩,AC,cC⟩,rfl,s7,Lv,lift.Zo b7,m7⟩
 obtain ⟨z,hz⟩:=choose_lt each
 have e1:∀m,m≤n→(List.range m).flatMap q=Dv ((List.range m).map z):=by
  intro m
  induction m with
  | zero=>intro _;simp [Dv]
  | succ m ih =>
    intro hm;rw [List.range_succ,List.flatMap_append,List.map_append,ih (by omega),List.map_cons,List.map_nil,VF];simp [(hz m (by omega)).1]
 rw [e1 n (Nat.le_refl _)] at hs;have hl:((List.range n).map z).length=n:=by simp
 refine ⟨A,c,(List.range n).map z,by rw [hl],by rw [hl];exact xL,by rw [hl];exact hn,by rw [hl];exact hs,fun y hy=>?_⟩;obtain ⟨i,hi,rfl⟩:=List.mem_map.1 hy;exact (hz i (List.mem_range.1 hi)).2
theorem aab {l:List uT} (h:Sl w B 8 A l.length (Dv l)) {k:Nat} (hk:k < l.length):∃b off,A=some ⟨b,off,none⟩∧b < B∧
  ∀j u,j < 8→l[k].cells[j]?=some u→w.cell? ⟨b,off+k*8+j,none⟩=some u:=by
 obtain ⟨b,off,rfl,cm,hc⟩:=h.2 (by omega)
 have h9:∀x∈l.map uT.cells,x.length=8:=by
  intro x hx;obtain ⟨a,_,rfl⟩:=List.mem_map.1 hx;rfl
 have e:=rQ h9 (i:=k) (by simpa using hk)
 have g:∀j,j < 8→(Dv l)[k*8+j]?=l[k].cells[j]?:=by
  intro j hj
  have e2:(((l.map uT.cells).flatten.drop (k*8)).take 8)[j]?=(l.map uT.cells).flatten[k*8+j]?:=by
   rw [List.getElem?_take,if_pos hj,List.getElem?_drop]
  rw [e] at e2;rw [Dv,List.flatMap_def,←e2];simp
 refine ⟨b,off,rfl,cm,fun j u hj hu=>?_⟩;rw [Nat.add_assoc];exact hc _ _ ((g j hj).trans hu)
theorem VG {l:List uT} (h:Sl w B 8 A l.length (Dv l)) (hi:∀x∈l,x.In w B):Dd w B (l.map (·.i)) A l.length (fun k=>((l.getD k ⟨aq.none,none,0⟩).A,(l.getD k ⟨aq.none,none,0⟩).c)):=by
 refine ⟨by simp,fun i him=>?_,fun k hk=>?_⟩
 ·obtain ⟨x,hx,rfl⟩:=List.mem_map.1 him;exact (hi x hx).jo
 ·obtain ⟨b,off,rfl,cm,hc⟩:=aab h hk;have e1:(l.map (·.i)).getD k aq.none=l[k].i:=by simp [dD,hk]
  have e2:l.getD k ⟨aq.none,none,0⟩=l[k]:=by simp [hk]
  have hx:=hi l[k] (List.getElem_mem hk);rw [e1,e2];exact ⟨b,off,rfl,cm,hc 0 _ (by omega) rfl,hc 1 _ (by omega) rfl,hc 2 _ (by omega) rfl,hc 3 _ (by omega) rfl,hc 4 _ (by omega) rfl,hc 5 _ (by omega) rfl,hc 6 _ (by omega) rfl,hc 7 _ (by omega) rfl,hx.cap,hx.code⟩
structure ya (W:World) (a:dF) (t:aY) (AI:Option Addr) (nI cI:Nat) (js:List aq) (K:Nat→Option Addr×Nat):Prop where
 bN:ko W a t
 cap:nI≤cI
 pR:nI≤maxLen
 iO:Dd W W.heap.size js AI nI K
 lens:∀k,k < nI→(js.getD k aq.none).code.length≤9223372036854775807
theorem ya.over {w w':World} {a:dF} {t:aY} {AI:Option Addr} {nI cI:Nat} {js:List aq} {K:Nat→Option Addr×Nat} (h:ya w a t AI nI cI js K) (hb:Below w.heap.size w w'):ya w' a t AI nI cI js K:=⟨h.bN.over hb,h.cap,h.pR,h.iO.over hb,h.lens⟩
theorem Zd {H:Type} {enc:TypeId×Value→H} {r:Reach} {b0:Nat} {d:DataW H} {ps:List MemPlace} (hval:Value.okWide Tryz.prog W r b0 49 v)
  (h:DataW.Trod enc Tryz.prog W 0 (fun _=>true) true 49 v d ps):∃(a:dF) (t:aY) (AI:Option Addr) (nI cI:Nat) (js:List aq) (K:Nat→Option Addr×Nat),v=.agg #[ae aa t.frame,.slice a.AP t.parts.length a.cP,.slice a.AW t.aJ.length a.cW,.slice a.AC t.av.length a.cC,ae aa t.ay,.slice AI nI cI]∧ya W a t AI nI cI js K:=by
 obtain ⟨cs,rfl,hl⟩:=okWide_struct Tryz.underlying49 hval;obtain ⟨fuel,hx⟩:=h;have FM:cs.toList.length=6:=by rw [Array.length_toList,hl];kernel_rfl
 obtain ⟨l⟩:=cs
 match BN:l,FM with
 | [u0,u1,u2,u3,u4,u5],_ =>
   have hx':DataW.trod enc Tryz.prog W 0 (fun _=>true) true fuel 49 [u0,u1,u2,u3,u4,u5]=some (d,ps):=hx;have hf:=zK Tryz.underlying49 hx';obtain ⟨j0,z0,r0⟩:=hf 0 _ 5 rfl (by kernel_rfl);obtain ⟨j1,z1,r1⟩:=hf 1 _ 1 rfl (by kernel_rfl);have hg:=zK Tryz.underlying46 r0;obtain ⟨k0,y0,t0⟩:=hg 0 _ 1 rfl (by kernel_rfl);obtain ⟨k1,y1,t1⟩:=hg 1 _ 1 rfl (by kernel_rfl);obtain ⟨k2,y2,t2⟩:=hg 2 _ 1 rfl (by kernel_rfl);obtain ⟨k3,y3,t3⟩:=hg 3 _ 1 rfl (by kernel_rfl);obtain ⟨k4,y4,t4⟩:=hg 4 _ 1 rfl (by kernel_rfl);obtain ⟨a0,h0,_,w0⟩:=DataW.trod_int Tryz.underlying3 t0;obtain ⟨a4,h4,_,w4⟩:=DataW.trod_int Tryz.underlying3 t4;obtain ⟨AP,nP,cP,lp,e1,p1,p2,p3⟩:=OW (v:=u1) Tryz.underlying42 (by kernel_rfl) (OV Tryz.underlying147 (by kernel_rfl) rfl rfl rfl) t1;obtain ⟨AW,nW,cW,lw,e2,q1,q2,q3⟩:=OW (v:=u2) Tryz.underlying43 (by kernel_rfl) (OV Tryz.underlying150 (by kernel_rfl) rfl rfl rfl) t2;obtain ⟨AC,nC,cC,lc,e3,r1',r2,r3⟩:=OW (v:=u3) Tryz.underlying44 (by kernel_rfl) (OV Tryz.underlying152 (by kernel_rfl) rfl rfl rfl) t3;obtain ⟨AI,cI,li,e5,hcI,hmI,hsI,hiI⟩:=Qi (v:=u5) r1;simp at h0 h4;subst h0;subst h4;subst e1;subst e2;subst e3;subst e5;subst p1;subst q1;subst r1'
   exact ⟨⟨AP,cP,AW,cW,AC,cC⟩,⟨a0,lp,lw,lc,a4⟩,AI,li.length,cI,li.map (·.i),_,rfl,⟨p3,q3,r3,rfl,rfl,rfl,p2,q2,r2⟩,hcI,hmI,VG hsI hiI,fun k hk=>by
    have:=(hiI li[k] (List.getElem_mem hk)).pR;rw [show (li.map (·.i)).getD k aq.none=li[k].i by simp [dD,hk]];unfold maxLen at this
    omega⟩
end
end store
namespace store
open Go.RowKit Go.Deep base obj mem sep aW aX record bD aG image bN bL chain bC
theorem Ie {js:List aq} (h:∀i∈js,bn i.code) (i:Int):bn (fo js i).code:=by
 unfold fo;split
 ·exact fun z hz=>by simp [aq.none] at hz
 ·rw [qM (by omega)];exact h _ (List.getElem_mem _)
theorem Yh {w:World} {a:dF} {t:aY} {AI:Option Addr} {nI cI:Nat} {js:List aq} {K:Nat→Option Addr×Nat} (h:ya w a t AI nI cI js K) (c:dU) :
  Calls Tryz.prog 59 #[.agg #[ae aa t.frame,.slice a.AP t.parts.length a.cP,.slice a.AW t.aJ.length a.cW,.slice a.AC t.av.length a.cC,ae aa t.ay,.slice AI nI cI],.agg #[ae aa c.kind,ae aa c.part,ae aa c.n,ae aa c.i,ae aa c.no,.bool c.dL,.int .u64 c.keep]] w fun e w' =>
   ∃A k,e=.returned ((fo js c.i).val A k)∧(Sl w w.heap.size 1 A (fo js c.i).code.length (aP (fo js c.i).code)∧(fo js c.i).code.length≤k∧(fo js c.i).code.length≤9223372036854775807)∧Below w.heap.size w w':=by
 obtain ⟨Z,hZ⟩:=xE w.heap.size;obtain ⟨Y,hY⟩:=xE (Z+1);obtain ⟨R,hR⟩:=xE (Y+1);have jz:=h.iO.len;have Cs:=af (fun (p:Nat) (hp:p < nI)=>h.iO.at_ p hp);have Gn:=af h.lens;clear h;generalize t.parts.length=nP,t.aJ.length=nW,t.av.length=nC,t.frame=fr,t.ay=tr at *;obtain ⟨w1,aF⟩:∃w1,w1=((w.alloc (.cells #[ae aa fr,.slice a.AP nP a.cP,.slice a.AW nW a.cW,.slice a.AC nC a.cC,ae aa tr,.slice AI nI cI] 49)).alloc (.cells #[ae aa c.kind,ae aa c.part,ae aa c.n,ae aa c.i,ae aa c.no,.bool c.dL,.int .u64 c.keep] 58)).alloc (.cells gA 26):=⟨_,rfl⟩
 have H1:=af (show St w w1 [row R 26 eo,row Y 58 c.cells,row Z 49 [ae aa fr,.slice a.AP nP a.cP,.slice a.AW nW a.cW,.slice a.AC nC a.cC,ae aa tr,.slice AI nI cI]] by
  have h3:=(((St.nil w).new 49 #[ae aa fr,.slice a.AP nP a.cP,.slice a.AW nW a.cW,.slice a.AC nC a.cC,ae aa tr,.slice AI nI cI]).new 58 c.cells.toArray).new 26 gA;simp only [World.size_alloc,←hZ,←hY,←hR] at h3;rw [aF]
  exact h3)
 have br:=af aF;have HZ:=af hZ;have HY:=af hY;have HR:=af hR;obtain ⟨c0,c1,c2,c3,c4,c5,c6,lY⟩:=km (H1.o.pick 1 rfl).row.1;have z5:=(H1.o.pick 2 rfl).row.1.c5;have lZ:=(H1.o.pick 2 rfl).row.1.lt;clear aF hZ hY hR;by_cases eE:c.i < 0∨(js.length:Int)≤c.i
 ·have HP:=af (show fo js c.i=aq.none from if_pos eE);rw [jz] at eE;have H2:=af (H1.o.setRow eo);rcases (by omega:c.i < 0∨(0≤c.i∧(nI:Int)≤c.i)) with h0|⟨h0,h1⟩
  all_goals
   clear eE;go_enter Tryz.func59,Tryz.ntmps59;go_upto_region 1 with fail;rw [←HZ.o,←HY.o,←HR.o,←br.o];go_wp2_with (refine aB rfl 26 (.tmp 4) (.tmp 16) rfl R 0 gA rfl rfl H1.o.row.1 (by kernel_rfl) (by simp) (by simp [Value.oneCell']) eo rfl ?_);refine bodyPost_ret (results_cell_row rfl _ _ R _ _ _ _ rfl H2.o.row.1 Tryz.underlying26 rfl (by kernel_rfl)) rfl ?_;rw [HP.o];exact ⟨none,0,rfl,⟨Sl.GL _ _ _,Nat.le_refl _,by simp [aq.none]⟩,H2.o.aE⟩
 ·obtain ⟨p,hp⟩:=Int.eq_ofNat_of_zero_le (by omega:0≤c.i);have Dz:p < nI:=by omega
  have HP:=af (show fo js c.i=js.getD p aq.none by unfold fo;rw [if_neg eE,hp];rfl);obtain ⟨b,off,rfl,hb,i0,i1,i2,i3,i4,i5,i6,i7,hc,hs⟩:=Cs.o p Dz;have HSC:=af (And.intro hs (And.intro hc (Gn.o p Dz)));have HB:=af H1.o.aE;rw [hp] at c3;generalize js.getD p aq.none=j at *;obtain ⟨g0,g1,g2,g3,g4,g5,g6,g7⟩:=j;generalize (K p).1=KA,(K p).2=Kc at *;have y0:=(HB.o.cell (p:=⟨b,off+p*8,none⟩) hb).trans i0;have y1:=(HB.o.cell (p:=⟨b,off+p*8+1,none⟩) hb).trans i1;have y2:=(HB.o.cell (p:=⟨b,off+p*8+2,none⟩) hb).trans i2;have y3:=(HB.o.cell (p:=⟨b,off+p*8+3,none⟩) hb).trans i3;have y4:=(HB.o.cell (p:=⟨b,off+p*8+4,none⟩) hb).trans i4;have y5:=(HB.o.cell (p:=⟨b,off+p*8+5,none⟩) hb).trans i5;have y6:=(HB.o.cell (p:=⟨b,off+p*8+6,none⟩) hb).trans i6;have y7:=(HB.o.cell (p:=⟨b,off+p*8+7,none⟩) hb).trans i7;dsimp only at y0 y1 y2 y3 y4 y5 y6 y7;generalize xT:g7.length=m at *;have HGL:=af xT;have lb:=Nat.lt_of_lt_of_le hb HB.o.size;have H2:=af (H1.o.setRow [ae aa g0,ae aa g1,ae aa g2,ae aa g3,ae aa g4,ae aa g5,ae aa g6,.slice KA m Kc]);have k1:(p:Int) < (nI:Int):=by omega
  have k0:(0:Int)≤(p:Int):=by omega
  clear eE hp Dz hb i0 i1 i2 i3 i4 i5 i6 i7 hs hc xT jz;go_enter Tryz.func59,Tryz.ntmps59;go_upto_region 1 with fail;rw [←HZ.o,←HY.o,←HR.o,←br.o];go_wp2_with (refine aB rfl 26 (.tmp 4) (.tmp 22) rfl R 0 #[ae aa g0,ae aa g1,ae aa g2,ae aa g3,ae aa g4,ae aa g5,ae aa g6,.slice KA m Kc] rfl rfl H1.o.row.1 (by kernel_rfl) (by simp) (by simp [Value.oneCell']) [ae aa g0,ae aa g1,ae aa g2,ae aa g3,ae aa g4,ae aa g5,ae aa g6,.slice KA m Kc] rfl ?_);refine bodyPost_ret (results_cell_row rfl _ _ R _ _ _ _ rfl H2.o.row.1 Tryz.underlying26 rfl (by kernel_rfl)) rfl ?_;rw [HP.o];have wJ:=HSC.o;rw [←HGL.o] at wJ;exact ⟨KA,Kc,by rw [aq.val,HGL.o],wJ,H2.o.aE⟩
end store
end Go.Proofs.YtdldkkoplgkloaaGreat
