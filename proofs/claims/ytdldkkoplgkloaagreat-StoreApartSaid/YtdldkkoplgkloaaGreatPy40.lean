/-
  PROVED HERE: lemmas that the law leans on.
  CONDITIONS: each names its own.
-/
import Derived.Test.YtdldkkoplgkloaaGreatPy0
import Derived.Test.YtdldkkoplgkloaaGreatPy2
import Derived.Test.YtdldkkoplgkloaaGreatPy3
import Derived.Test.YtdldkkoplgkloaaGreatPy21
import Derived.Test.YtdldkkoplgkloaaGreatPy31
import Derived.Test.YtdldkkoplgkloaaGreatPy39
namespace Go.Proofs.YtdldkkoplgkloaaGreat
set_option linter.unusedVariables false
set_option linter.unusedSimpArgs false
set_option maxRecDepth 100000
set_option maxHeartbeats 32000000
namespace store


open Go.RowKit Go.Deep base obj mem sep bf bk record bP aU image bK bR chain bw
theorem om {t e size bytes:Nat} (T:pX Tryz.prog t e size bytes) {o:Oper} {a:Act} {K:Act→World→Prop} {Q:Exit→Act→World→Prop} {w0 w:World} {l:List aD} (ew:o.guard=none) (s x:Operand)
  (ho:o.op=.call { callee:=.builtin .append,args:=#[s,x],argTypes:=#[t,t] }) {v:Value} {n:Nat} {xs:List Value} (H:St w0 w (own e size v n xs::l)) (hs:a.eval s=v) {m:Nat} (zs:List Value) (hz:zs.length=m*size) (h1:∀u∈zs,u.oneCell'=true)
  (hx:a.eval x=.slice (some ⟨w.heap.size,0,none⟩) m m) (hm:0 < m) (hb:(n+m)*bytes≤140737488355328) (qG:n+m≤maxLen)
  (h:∀g c w',St w0 w' (own e size (.slice (some ⟨g,0,none⟩) (n+m) c) (n+m) (xs++zs)::l)→K (a.put o.dst (.slice (some ⟨g,0,none⟩) (n+m) c)) w'):Oper.wp Tryz.prog o a (w.alloc (.cells zs.toArray e)) K Q:=by
 have HX:=(H.new e zs.toArray).swap;exact fH.kf T ew s x ho HX.own hs hx ((Row.new w e zs.toArray).sl (B:=w.heap.size+1) (size:=size) (n:=m) (o:=0) (ys:=zs) (Nat.lt_succ_self _) (by rw [List.drop_zero,List.take_of_length_le (by simp [hz])]) hz) h1 hm hb qG HX.aI.size fun g cap w' ho hg kr _=>h g cap w' ((HX.grown hg ho (fun g' wz=>by cases wz;exact kr)).swap.drop)
section
variable {w0 w : World} {l : List aD} {X : Nat} {tv : List Value} {v : Value} {P : List (Nat × List Value)} {ys : List (dH × RP)} {p : Nat}
def dH.vk (a:dH) (k:Nat):Value:=if k=0 then a.v0 else a.v1
def dH.UM (a:dH) (k:Nat):List Value:=if k=0 then a.oo else a.sS
theorem ka (h:St w0 w (cw X tv v P ys::l)) (hp:p < ys.length) {k:Nat} (hk:k < 2):∃A c,ys[p].1.vk k=.slice A (ys[p].2.slot k).blocks.length c∧(A=none→c=0)∧Sl w w.heap.size 1 A (ys[p].2.slot k).blocks.length (ys[p].1.UM k)∧o8 P (ys[p].2.slot k).blocks (ys[p].1.UM k):=by
 obtain ⟨⟨b0,b1⟩,h1⟩:=Ft h hp;rcases (by omega:k=0∨k=1) with rfl|rfl
 ·have ho:=(h1.pick 1 rfl).own;obtain ⟨A,c,e,_,_⟩:=aH ho;rw [e] at ho;exact ⟨A,c,e,xx ho,Sl.bz ho,b0⟩
 ·have ho:=(h1.pick 2 rfl).own;obtain ⟨A,c,e,_,_⟩:=aH ho;rw [e] at ho;exact ⟨A,c,e,xx ho,Sl.bz ho,b1⟩
theorem tX.ZN {n:Nat} {y:dH×RP} {b off c bS oS cS bI oI cI:Nat} (h:tX w X n p y b off c bS oS cS bI oI cI) {k:Nat} (hk:k < 2):w.cell? ⟨bS,oS+k*5,none⟩=some (.bool (y.2.slot k).has)∧w.cell? ⟨bS,oS+k*5+1,none⟩=some (.int .i64 (y.2.slot k).st.aG)∧w.cell? ⟨bS,oS+k*5+2,none⟩=some (.int .i64 (y.2.slot k).st.size)∧w.cell? ⟨bS,oS+k*5+3,none⟩=some (.int .i64 (y.2.slot k).st.bd)∧w.cell? ⟨bS,oS+k*5+4,none⟩=some (y.1.vk k)∧bS < w.heap.size:=by
 rcases (by omega:k=0∨k=1) with rfl|rfl
 ·exact ⟨h.slots 0 _ rfl,h.slots 1 _ rfl,h.slots 2 _ rfl,h.slots 3 _ rfl,h.slots 4 _ rfl,h.lS⟩
 ·exact ⟨h.slots 5 _ rfl,h.slots 6 _ rfl,h.slots 7 _ rfl,h.slots 8 _ rfl,h.slots 9 _ rfl,h.lS⟩
theorem tX.aaC {n:Nat} {y:dH×RP} {b off c bS oS cS bI oI cI:Nat} (h:tX w X n p y b off c bS oS cS bI oI cI) {k:Nat} (hk:k < 2):w.cell? ⟨bI,oI+k*8,none⟩=some (.int .i64 (y.2.ek k).part)∧w.cell? ⟨bI,oI+k*8+1,none⟩=some (.int .i64 (y.2.ek k).version)∧w.cell? ⟨bI,oI+k*8+2,none⟩=some (.int .i64 (y.2.ek k).aY)∧w.cell? ⟨bI,oI+k*8+3,none⟩=some (.int .i64 (y.2.ek k).mem)∧w.cell? ⟨bI,oI+k*8+4,none⟩=some (.int .i64 (y.2.ek k).fuel)∧w.cell? ⟨bI,oI+k*8+5,none⟩=some (.int .i64 (y.2.ek k).aN)∧w.cell? ⟨bI,oI+k*8+6,none⟩=some (.int .i64 (y.2.ek k).aB)∧w.cell? ⟨bI,oI+k*8+7,none⟩=some (.slice (y.1.K k).1 (y.2.ek k).code.length (y.1.K k).2)∧bI < w.heap.size:=by
 rcases (by omega:k=0∨k=1) with rfl|rfl
 ·exact ⟨h.il 0 _ rfl,h.il 1 _ rfl,h.il 2 _ rfl,h.il 3 _ rfl,h.il 4 _ rfl,h.il 5 _ rfl,h.il 6 _ rfl,h.il 7 _ rfl,h.lI⟩
 ·exact ⟨h.il 8 _ rfl,h.il 9 _ rfl,h.il 10 _ rfl,h.il 11 _ rfl,h.il 12 _ rfl,h.il 13 _ rfl,h.il 14 _ rfl,h.il 15 _ rfl,h.lI⟩
def Rl (x:RP) (a:dH) (Y:Nat) (sv iv v0 v1:Value) (ks ki:Nat):aD:=dr [row Y 65 (x.aA.cells.toList++[sv,iv]),own 118 5 sv ks ((bE x.s0 v0++bE x.s1 v1).take (ks*5)),own 26 8 iv ki ((aw.row x.i0 a.K0++aw.row x.i1 a.K1).take (ki*8)),dr ([own 24 1 v0 x.s0.blocks.length a.oo,own 24 1 v1 x.s1.blocks.length a.sS].take ks)]
theorem Dr {x:RP} {a:dH} {Y:Nat} {iv v0 v1 v':Value} {k ki:Nat} (hk:k < 2) {gc:Value} (h:St w0 w (row Y 65 (x.aA.cells.toList++[gc,iv])::own 118 5 gc (k+1) ((bE x.s0 v0++bE x.s1 v1).take (k*5)++bE (x.slot k) v')::own 26 8 iv ki ((aw.row x.i0 a.K0++aw.row x.i1 a.K1).take (ki*8))::dr ([own 24 1 v0 x.s0.blocks.length a.oo,own 24 1 v1 x.s1.blocks.length a.sS].take k)::own 24 1 v' (x.slot k).blocks.length (a.UM k)::l)):∃v0 v1,St w0 w (Rl x a Y gc iv v0 v1 (k+1) ki::l):=by
 rcases (by omega:k=0∨k=1) with rfl|rfl
 ·have h2:=(h.pick 3 rfl).drop.pick 3 rfl;have h3:St w0 w (dr [own 24 1 v' x.s0.blocks.length a.oo]::_):=St.eR (L:=[_]) h2;have h4:=((h3.pick 3 rfl).pick 3 rfl).pick 3 rfl;exact ⟨v',v1,St.eR (L:=[_,_,_,_]) h4⟩
 ·have h2:=(h.pick 3 rfl).fI;have h3:=(h2.pick 4 rfl).swap;have h4:St w0 w (dr [own 24 1 v0 x.s0.blocks.length a.oo,own 24 1 v' x.s1.blocks.length a.sS]::_):=St.eR (L:=[_,_]) h3;have h5:=((h4.pick 3 rfl).pick 3 rfl).pick 3 rfl;exact ⟨v0,v',St.eR (L:=[_,_,_,_]) h5⟩
theorem Mw {x:RP} {a:dH} {Y:Nat} {sv v0 v1:Value} {k ks:Nat} (hk:k < 2) {gc:Value} (h:St w0 w (row Y 65 (x.aA.cells.toList++[sv,gc])::own 118 5 sv ks ((bE x.s0 v0++bE x.s1 v1).take (ks*5))::own 26 8 gc (k+1) ((aw.row x.i0 a.K0++aw.row x.i1 a.K1).take (k*8)++aw.row (x.ek k) (a.K k))::dr ([own 24 1 v0 x.s0.blocks.length a.oo,own 24 1 v1 x.s1.blocks.length a.sS].take ks)::l)):St w0 w (Rl x a Y sv gc v0 v1 ks (k+1)::l):=by
 rcases (by omega:k=0∨k=1) with rfl|rfl
 ·exact St.eR (L:=[_,_,_,_]) h
 ·exact St.eR (L:=[_,_,_,_]) h
def IE (zs ys:List (dH×RP)):Prop:=∀k (h:k < zs.length) (h':k < ys.length),zs[k].1.K0=ys[k].1.K0∧zs[k].1.K1=ys[k].1.K1
theorem Se {a:en} {t:aQ} (h:St w0 w (cw X [.int .i64 t.frame,.slice a.AP t.parts.length a.cP,.slice a.AW t.aC.length a.cW,.slice a.AC t.au.length a.cC,.int .i64 t.ay] v P ys::l)) (hS:∀y∈ys,∀k:Int,Dx (y.2.slot k)) (h4:ys.length≤4) :
  Calls Tryz.prog 21 #[.pointer (some ⟨X,0,none⟩)] w fun e w'=>∃X2,e=.returned (.pointer (some ⟨X2,0,none⟩))∧∃v2 zs,St w0 w' (row X2 68 ([.int .i64 t.frame,.slice a.AP t.parts.length a.cP,.slice a.AW t.aC.length a.cW,.slice a.AC t.au.length a.cC,.int .i64 t.ay]++[v2])::own 65 8 v2 zs.length (dg zs)::ee P zs::cw X [.int .i64 t.frame,.slice a.AP t.parts.length a.cP,.slice a.AW t.aC.length a.cW,.slice a.AC t.au.length a.cC,.int .i64 t.ay] v P ys::l)∧zs.map (·.2)=ys.map (·.2)∧IE zs ys:=by
 obtain ⟨X2,hX2⟩:∃Z,Z=w.heap.size:=⟨_,rfl⟩
 obtain ⟨w1,aJ⟩:∃v,v=w.alloc (.cells #[.int .i64 t.frame,.slice a.AP t.parts.length a.cP,.slice a.AW t.aC.length a.cW,.slice a.AC t.au.length a.cC,.int .i64 t.ay,.slice none 0 0] 68):=⟨_,rfl⟩
 have H1:=aa (show St w0 w1 (row X2 68 ([.int .i64 t.frame,.slice a.AP t.parts.length a.cP,.slice a.AW t.aC.length a.cW,.slice a.AC t.au.length a.cC,.int .i64 t.ay]++[.slice none 0 0])::own 65 8 (.slice none 0 0) 0 (dg [])::ee P []::cw X [.int .i64 t.frame,.slice a.AP t.parts.length a.cP,.slice a.AW t.aC.length a.cW,.slice a.AC t.au.length a.cC,.int .i64 t.ay] v P ys::l) by
  have h1:=h.new 68 #[.int .i64 t.frame,.slice a.AP t.parts.length a.cP,.slice a.AW t.aC.length a.cW,.slice a.AC t.au.length a.cC,.int .i64 t.ay,.slice none 0 0];rw [←hX2,←aJ] at h1
  exact ((DR (P:=P) h1).cQ (e:=65) (size:=8) (v:=.slice none 0 0) (n:=0) (xs:=[]) (Below.refl _ _) ⟨rfl,.inl ⟨rfl,rfl⟩⟩).pick 2 rfl |> fun h=>h)
 have rX:=(ec h).row.1;have t0:w.cell? ⟨X,0,none⟩=some (.int .i64 t.frame):=rX.cell 0;have t1:w.cell? ⟨X,1,none⟩=some (.slice a.AP t.parts.length a.cP):=rX.cell 1;have t2:w.cell? ⟨X,2,none⟩=some (.slice a.AW t.aC.length a.cW):=rX.cell 2;have t3:w.cell? ⟨X,3,none⟩=some (.slice a.AC t.au.length a.cC):=rX.cell 3;have t4:w.cell? ⟨X,4,none⟩=some (.int .i64 t.ay):=rX.cell 4;have lX:=rX.lt;have bq:=aa aJ;have oa:=aa hX2;have HS:=aa hS;obtain ⟨n,hn⟩:∃n,n=ys.length:=⟨_,rfl⟩
 have HN:=aa hn;have h4':n≤4:=by omega
 clear h rX aJ hX2 hS hn h4;go_enter Tryz.func21,Tryz.ntmps21;go_upto_region 2 with fail;rw [←bq.o,←oa.o];clear t0 t1 t2 t3 t4 lX;go_wp2_with fail;go_loopw [4] (fun x wr=>∃(p:Nat) (v2:Value) (zs:List (dH×RP)),p≤n∧x=.int .i64 (p:Int)∧St w0 wr (row X2 68 ([.int .i64 t.frame,.slice a.AP t.parts.length a.cP,.slice a.AW t.aC.length a.cW,.slice a.AC t.au.length a.cC,.int .i64 t.ay]++[v2])::own 65 8 v2 p (dg zs)::ee P zs::cw X [.int .i64 t.frame,.slice a.AP t.parts.length a.cP,.slice a.AW t.aC.length a.cW,.slice a.AC t.au.length a.cC,.int .i64 t.ay] v P ys::l)∧zs.map (·.2)=(ys.map (·.2)).take p∧IE zs ys) (fun x _=>n-(intOf x).toNat)
 case atStart=>exact ⟨0,_,[],by omega,rfl,H1.o,rfl,fun k hk=>absurd hk (by simp)⟩
 case round =>
  obtain ⟨p,v2,zs,hp,rfl,av,zm,zu⟩:=hrel;clear H1;have bJ:=aa av;have KO:=aa zm;have HKS:=aa zu;obtain ⟨A0,c0,x50,lX0⟩:=yw (av.pick 3 rfl) rfl;rw [←HN.o] at x50;clear av zm zu;by_cases aK:p < n
  ·have zq:p < ys.length:=by rw [←HN.o];exact aK
   have EX:=aa (fun (w':World) (l':List aD) (h:St w0 w' (cw X [.int .i64 t.frame,.slice a.AP t.parts.length a.cP,.slice a.AW t.aC.length a.cW,.slice a.AC t.au.length a.cC,.int .i64 t.ay] v P ys::l'))=>sj h rfl zq);have ch:=aa (fun (w':World) (l':List aD) (h:St w0 w' (cw X [.int .i64 t.frame,.slice a.AP t.parts.length a.cP,.slice a.AW t.aC.length a.cW,.slice a.AC t.au.length a.cC,.int .i64 t.ay] v P ys::l')) (k:Nat) (hk:k < 2)=>ka h zq hk);have ES:=aa (fun (k:Nat)=>HS.o (ys[p]) (List.getElem_mem zq) k);have HY:=aa (show ys[p]?=some ys[p] from cM zq);rw [←HN.o] at EX;generalize ys[p]=y at *;obtain ⟨b,off,c,bS,oS,cS,bI,oI,cI,ha⟩:=EX.o wr _ (bJ.o.pick 3 rfl);have x5:=ha.x5;obtain ⟨r0,r1,r2,r3,r4,r5,-,-,lb⟩:=ha.recs;have k1:(p:Int) < (n:Int):=by omega
   have k0:(0:Int)≤(p:Int):=by omega
   obtain ⟨Y,hY⟩:∃Y,Y=wr.heap.size:=⟨_,rfl⟩
   obtain ⟨w5,dQ⟩:∃v,v=wr.alloc (.cells #[.int .i64 y.2.aA.part,.int .i64 y.2.aA.seq,.int .i64 y.2.aA.ax,.int .i64 y.2.aA.aj,.int .i64 y.2.aA.left,.int .i64 y.2.aA.bad,.slice none 0 0,.slice none 0 0] 65):=⟨_,rfl⟩
   have H5:=aa (show St w0 w5 (Rl y.2 y.1 Y (.slice none 0 0) (.slice none 0 0) undef undef 0 0::row X2 68 ([.int .i64 t.frame,.slice a.AP t.parts.length a.cP,.slice a.AW t.aC.length a.cW,.slice a.AC t.au.length a.cC,.int .i64 t.ay]++[v2])::own 65 8 v2 p (dg zs)::ee P zs::cw X [.int .i64 t.frame,.slice a.AP t.parts.length a.cP,.slice a.AW t.aC.length a.cW,.slice a.AC t.au.length a.cC,.int .i64 t.ay] v P ys::l) by
    have h1:=bJ.o.new 65 #[.int .i64 y.2.aA.part,.int .i64 y.2.aA.seq,.int .i64 y.2.aA.ax,.int .i64 y.2.aA.aj,.int .i64 y.2.aA.left,.int .i64 y.2.aA.bad,.slice none 0 0,.slice none 0 0];rw [←hY,←dQ] at h1;have h2:St w0 w5 (dr ([]:List aD)::_):=St.eR (L:=[]) h1;have h3:=h2.cQ (e:=26) (size:=8) (v:=.slice none 0 0) (n:=0) (xs:=[]) (Below.refl _ _) ⟨rfl,.inl ⟨rfl,rfl⟩⟩;have h4:=h3.cQ (e:=118) (size:=5) (v:=.slice none 0 0) (n:=0) (xs:=[]) (Below.refl _ _) ⟨rfl,.inl ⟨rfl,rfl⟩⟩
    exact St.eR (L:=[_,_,_,_]) (h4.pick 3 rfl))
   have pZ:=aa dQ;have HYY:=aa hY;clear ha dQ hY x50;go_upto_region 6 with fail;rw [←pZ.o,←HYY.o];clear x5 r0 r1 r2 r3 r4 r5 lb lX0;go_wp2_with fail;go_loopw [6] (fun x w6=>∃(k:Nat) (sv iv v0 v1:Value),k≤2∧x=.int .i64 (k:Int)∧St w0 w6 (Rl y.2 y.1 Y sv iv v0 v1 k k::row X2 68 ([.int .i64 t.frame,.slice a.AP t.parts.length a.cP,.slice a.AW t.aC.length a.cW,.slice a.AC t.au.length a.cC,.int .i64 t.ay]++[v2])::own 65 8 v2 p (dg zs)::ee P zs::cw X [.int .i64 t.frame,.slice a.AP t.parts.length a.cP,.slice a.AW t.aC.length a.cW,.slice a.AC t.au.length a.cC,.int .i64 t.ay] v P ys::l)) (fun x _=>2-(intOf x).toNat)
   case atStart=>exact ⟨0,_,_,_,_,by omega,rfl,H5.o⟩
   case round =>
    obtain ⟨k,sv,iv,v0,v1,hk,rfl,av⟩:=hrel;clear H5;have wK:=aa av;clear av;by_cases dC:k < 2
    ·have q1:(k:Int) < 2:=by omega
     have q0:(0:Int)≤(k:Int):=by omega
     have h1:=wK.o.fI;simp only [List.cons_append,List.nil_append] at h1;have H6:=aa h1;obtain ⟨b,off,c,bS,oS,cS,bI,oI,cI,ha⟩:=EX.o wr _ (h1.pick 7 rfl);obtain ⟨A,cc,hvk,qF,dB,fZ⟩:=ch.o wr _ (h1.pick 7 rfl) k dC;have x5:=ha.x5;have lX:=ha.lX;obtain ⟨-,-,-,-,-,-,r6,r7,lb⟩:=ha.recs;obtain ⟨s0,s1,s2,s3,s4,ls⟩:=ha.ZN dC;rw [hvk] at s4;have rY:=h1.row.1;have y6:wr.cell? ⟨Y,6,none⟩=some sv:=rY.cell 6;have lY:=rY.lt;obtain ⟨AS,cAS,uV,_,_⟩:=aH (h1.pick 1 rfl).own;subst uV;obtain ⟨R,hR⟩:∃R,R=y.2.slot k:=⟨_,rfl⟩
     have vz:=aa (S2 h1.drew R.has R.st.aG R.st.size R.st.bd (A:=A) (n:=R.blocks.length) (c:=cc) (vs:=y.1.UM k) (by rw [hR];exact dB.below (Below.refl _ _).drew) qF fZ.one (by have:=(ES.o k).b8.b10;rw [hR];omega));rw [←hR] at s0 s1 s2 s3 s4;have oe:=aa dC;have pN:=aa (fun v'=>show bE (y.2.slot k) v'=[.bool R.has,.int .i64 R.st.aG,.int .i64 R.st.size,.int .i64 R.st.bd,v'] from by rw [hR];rfl);obtain ⟨nb,oD⟩:∃n,n=R.blocks.length:=⟨_,rfl⟩
     rw [←oD] at s4 vz;have yb:=aa (show nb=(y.2.slot k).blocks.length by rw [oD,hR]);generalize R.has=g0,R.st.aG=g1,R.st.size=g2,R.st.bd=g3 at s0 s1 s2 s3 vz pN;clear h1 ha hvk qF dB fZ rY hR oD;go_upto_region 9 with fail
     go_cut [] (fun wc=>∃sv v0 v1,St w0 wc (Rl y.2 y.1 Y sv iv v0 v1 (k+1) k::row X2 68 ([.int .i64 t.frame,.slice a.AP t.parts.length a.cP,.slice a.AW t.aC.length a.cW,.slice a.AC t.au.length a.cC,.int .i64 t.ay]++[v2])::own 65 8 v2 p (dg zs)::ee P zs::cw X [.int .i64 t.frame,.slice a.AP t.parts.length a.cP,.slice a.AW t.aC.length a.cW,.slice a.AC t.au.length a.cC,.int .i64 t.ay] v P ys::l))
     case first =>
      refine dA ?_;(refine bj [0,2,3,4,6,10,5,7,8,9,11,12] ?_;simp only [pick,af,ae,ah];(iterate 12 still_step);refine wpStill_nil ?_);refine lL 1 13 (by kernel_rfl) (by rfl) (by rfl) ?_ ?_
      ·(try simp only [af,ae,ah]);go_simp;try dsimp only
       (try simp only [af,ae,ah,Act.put,aq,ak,ao]);(refine aL 13 ?_;(try simp only [af,ae,ah]);go_simp);refine vz.o.mono ?_;rintro e w7 ⟨v',rfl,h7⟩;obtain ⟨A',c',rfl,_,_⟩:=aH h7.own;have H8:=aa (h7.pick 2 rfl);clear h7 y6 lY;try dsimp only
       (try simp only [af,ae,ah,Act.put,aq,ak,ao]);(refine aL 14 ?_;(try simp only [af,ae,ah]);go_simp);try dsimp only
       (try simp only [af,ae,ah,Act.put,aq,ak,ao]);(refine aL 15 ?_;(try simp only [af,ae,ah]));refine om DO (by rfl) (.tmp 36) (.tmp 49) (by rfl) H8.o (by rfl) (m:=1) [.bool g0,.int .i64 g1,.int .i64 g2,.int .i64 g3,.slice A' nb c'] rfl (by simp [Value.oneCell']) (by rfl) (by omega) (by omega) (by unfold maxLen;omega) ?_;intro gs c9 w9 h9;have dG:=h9.pick 2 rfl;have mm:=aa dG;have y6:w9.cell? ⟨Y,6,none⟩=some (.slice AS k cAS):=dG.row.1.cell 6;have f6:=dG.row.1.frozen 6;have lY:=dG.row.1.lt;clear h9 dG;try dsimp only
       (try simp only [af,ae,ah,Act.put,aq,ak,ao]);(refine bj [16] ?_;simp only [pick,af,ae,ah];(iterate 1 still_step);refine wpStill_nil ?_);(refine aL 17 ?_;(try simp only [af,ae,ah]);go_simp);(try simp only [af,ae,ah,Act.put,aq,ak,ao]);refine bZ ?_;go_wp2_with fail;go_meet;have jH:=(mm.o.set 6 (.slice (some ⟨gs,0,none⟩) (k+1) c9)).perm (((List.perm_middle (l₁:=[_,_])).symm.cons _).cons _);rw [←pN.o,yb.o] at jH;obtain ⟨_,_,mg⟩:=Dr oe.o jH;exact ⟨_,_,_,mg⟩
      ·(try simp only [af,ae,ah]);go_simp;refine vz.o.mono ?_;rintro e w7 ⟨v',rfl,h7⟩;obtain ⟨A',c',rfl,_,_⟩:=aH h7.own;have H8:=aa (h7.pick 2 rfl);clear y6 lY;have y6:w7.cell? ⟨Y,6,none⟩=some (.slice AS k cAS):=(h7.pick 1 rfl).row.1.cell 6;have lY:=(h7.pick 1 rfl).row.1.lt;clear h7;try dsimp only
       (try simp only [af,ae,ah,Act.put,aq,ak,ao]);refine lL 1 14 (by kernel_rfl) (by rfl) (by rfl) ?_ ?_
       ·(try simp only [af,ae,ah]);go_simp;try dsimp only
        (try simp only [af,ae,ah,Act.put,aq,ak,ao]);clear y6 lY;(refine aL 14 ?_;(try simp only [af,ae,ah]);go_simp);try dsimp only
        (try simp only [af,ae,ah,Act.put,aq,ak,ao]);(refine aL 15 ?_;(try simp only [af,ae,ah]));refine om DO (by rfl) (.tmp 36) (.tmp 49) (by rfl) H8.o (by rfl) (m:=1) [.bool g0,.int .i64 g1,.int .i64 g2,.int .i64 g3,.slice A' nb c'] rfl (by simp [Value.oneCell']) (by rfl) (by omega) (by omega) (by unfold maxLen;omega) ?_;intro gs c9 w9 h9;have dG:=h9.pick 2 rfl;have mm:=aa dG;have y6:w9.cell? ⟨Y,6,none⟩=some (.slice AS k cAS):=dG.row.1.cell 6;have f6:=dG.row.1.frozen 6;have lY:=dG.row.1.lt;clear h9 dG;try dsimp only
        (try simp only [af,ae,ah,Act.put,aq,ak,ao]);(refine bj [16] ?_;simp only [pick,af,ae,ah];(iterate 1 still_step);refine wpStill_nil ?_);(refine aL 17 ?_;(try simp only [af,ae,ah]);go_simp);(try simp only [af,ae,ah,Act.put,aq,ak,ao]);refine bZ ?_;go_wp2_with fail;go_meet;have jH:=(mm.o.set 6 (.slice (some ⟨gs,0,none⟩) (k+1) c9)).perm (((List.perm_middle (l₁:=[_,_])).symm.cons _).cons _);rw [←pN.o,yb.o] at jH;obtain ⟨_,_,mg⟩:=Dr oe.o jH;exact ⟨_,_,_,mg⟩
       ·(try simp only [af,ae,ah]);go_simp;try dsimp only
        (try simp only [af,ae,ah,Act.put,aq,ak,ao]);(refine bj [1] ?_;simp only [pick,af,ae,ah];(iterate 1 still_step);refine wpStill_nil ?_);clear y6 lY;(refine aL 15 ?_;(try simp only [af,ae,ah]));refine om DO (by rfl) (.tmp 36) (.tmp 49) (by rfl) H8.o (by rfl) (m:=1) [.bool g0,.int .i64 g1,.int .i64 g2,.int .i64 g3,.slice A' nb c'] rfl (by simp [Value.oneCell']) (by rfl) (by omega) (by omega) (by unfold maxLen;omega) ?_;intro gs c9 w9 h9;have dG:=h9.pick 2 rfl;have mm:=aa dG;have y6:w9.cell? ⟨Y,6,none⟩=some (.slice AS k cAS):=dG.row.1.cell 6;have f6:=dG.row.1.frozen 6;have lY:=dG.row.1.lt;clear h9 dG;try dsimp only
        (try simp only [af,ae,ah,Act.put,aq,ak,ao]);(refine bj [16] ?_;simp only [pick,af,ae,ah];(iterate 1 still_step);refine wpStill_nil ?_);(refine aL 17 ?_;(try simp only [af,ae,ah]);go_simp);(try simp only [af,ae,ah,Act.put,aq,ak,ao]);refine bZ ?_;go_wp2_with fail;go_meet;have jH:=(mm.o.set 6 (.slice (some ⟨gs,0,none⟩) (k+1) c9)).perm (((List.perm_middle (l₁:=[_,_])).symm.cons _).cons _);rw [←pN.o,yb.o] at jH;obtain ⟨_,_,mg⟩:=Dr oe.o jH;exact ⟨_,_,_,mg⟩
     case rest =>
     obtain ⟨sv2,v02,v12,jH⟩:=hcut;clear x5 lX r6 r7 lb s0 s1 s2 s3 s4 ls y6 lY vz pN yb;have mg:=jH.fI;simp only [List.cons_append,List.nil_append] at mg;have Bo:=aa mg;obtain ⟨b,off,c,bS,oS,cS,bI,oI,cI,ha⟩:=EX.o wc _ (mg.pick 7 rfl);have x5:=ha.x5;have lX:=ha.lX;obtain ⟨-,-,-,-,-,-,r6,r7,lb⟩:=ha.recs;obtain ⟨s0,s1,s2,s3,s4,s5,s6,s7,ls⟩:=ha.aaC oe.o;have y7:wc.cell? ⟨Y,7,none⟩=some iv:=mg.row.1.cell 7;have lY:=mg.row.1.lt;obtain ⟨AI,cAI,hiv,_,_⟩:=aH (mg.pick 2 rfl).own;subst hiv;have pN:=aa (show aw.row (y.2.ek k) (y.1.K k)=[.int .i64 (y.2.ek k).part,.int .i64 (y.2.ek k).version,.int .i64 (y.2.ek k).aY,.int .i64 (y.2.ek k).mem,.int .i64 (y.2.ek k).fuel,.int .i64 (y.2.ek k).aN,.int .i64 (y.2.ek k).aB,.slice (y.1.K k).1 (y.2.ek k).code.length (y.1.K k).2] from rfl);obtain ⟨IR,hIR⟩:∃v,v=aw.row (y.2.ek k) (y.1.K k):=⟨_,rfl⟩
     rw [←hIR] at pN;have wN:=aa hIR;generalize (y.2.ek k).part=g0,(y.2.ek k).version=g1,(y.2.ek k).aY=g2,(y.2.ek k).mem=g3,(y.2.ek k).fuel=g4,(y.2.ek k).aN=g5,(y.2.ek k).aB=g6,(y.2.ek k).code.length=g7,(y.1.K k).1=KA,(y.1.K k).2=Kc at s0 s1 s2 s3 s4 s5 s6 s7 pN;clear jH mg ha hIR;go_upto_region 10 with fail;have HD:=aa Bo.o.drew;refine dA ?_;(refine bj [0,2,3,4,6,10,5,7,8,9,11,12] ?_;simp only [pick,af,ae,ah];(iterate 12 still_step);refine wpStill_nil ?_);refine lL 1 13 (by kernel_rfl) (by rfl) (by rfl) ?_ ?_
     ·(try simp only [af,ae,ah]);go_simp;try dsimp only
      (try simp only [af,ae,ah,Act.put,aq,ak,ao]);(refine aL 13 ?_;(try simp only [af,ae,ah]);go_simp);try dsimp only
      (try simp only [af,ae,ah,Act.put,aq,ak,ao]);(refine aL 14 ?_;(try simp only [af,ae,ah]));refine om Ng (by rfl) (.tmp 53) (.tmp 65) (by rfl) (HD.o.pick 2 rfl) (by rfl) (m:=1) [.int .i64 g0,.int .i64 g1,.int .i64 g2,.int .i64 g3,.int .i64 g4,.int .i64 g5,.int .i64 g6,.slice KA g7 Kc] rfl (by simp [Value.oneCell']) (by rfl) (by omega) (by omega) (by unfold maxLen;omega) ?_;intro gs c9 w9 h9;have dG:=h9.pick 1 rfl;have mm:=aa dG;have z7:w9.cell? ⟨Y,7,none⟩=some (.slice AI k cAI):=dG.row.1.cell 7;have f7:=dG.row.1.frozen 7;have lY2:=dG.row.1.lt;clear h9 dG;try dsimp only
      (try simp only [af,ae,ah,Act.put,aq,ak,ao]);(refine bj [15] ?_;simp only [pick,af,ae,ah];(iterate 1 still_step);refine wpStill_nil ?_);(refine aL 16 ?_;(try simp only [af,ae,ah]);go_simp);(try simp only [af,ae,ah,Act.put,aq,ak,ao]);refine bZ ?_;go_wp2_with fail;have jH:=(mm.o.set 7 (.slice (some ⟨gs,0,none⟩) (k+1) c9)).perm ((List.Perm.swap _ _ _).cons _);rw [←pN.o,wN.o] at jH;have ml:=aa (Mw oe.o jH);clear jH;go_roundw;case rel=>exact ⟨k+1,_,_,_,_,by have:=oe.o;omega,by go_num,ml.o⟩
      case measure=>simp [intOf];omega
     ·(try simp only [af,ae,ah]);go_simp;try dsimp only
      (try simp only [af,ae,ah,Act.put,aq,ak,ao]);(refine bj [1] ?_;simp only [pick,af,ae,ah];(iterate 1 still_step);refine wpStill_nil ?_);(refine aL 14 ?_;(try simp only [af,ae,ah]));refine om Ng (by rfl) (.tmp 53) (.tmp 65) (by rfl) (HD.o.pick 2 rfl) (by rfl) (m:=1) [.int .i64 g0,.int .i64 g1,.int .i64 g2,.int .i64 g3,.int .i64 g4,.int .i64 g5,.int .i64 g6,.slice KA g7 Kc] rfl (by simp [Value.oneCell']) (by rfl) (by omega) (by omega) (by unfold maxLen;omega) ?_;intro gs c9 w9 h9;have dG:=h9.pick 1 rfl;have mm:=aa dG;have z7:w9.cell? ⟨Y,7,none⟩=some (.slice AI k cAI):=dG.row.1.cell 7;have f7:=dG.row.1.frozen 7;have lY2:=dG.row.1.lt;clear h9 dG;try dsimp only
      (try simp only [af,ae,ah,Act.put,aq,ak,ao]);(refine bj [15] ?_;simp only [pick,af,ae,ah];(iterate 1 still_step);refine wpStill_nil ?_);(refine aL 16 ?_;(try simp only [af,ae,ah]);go_simp);(try simp only [af,ae,ah,Act.put,aq,ak,ao]);refine bZ ?_;go_wp2_with fail;have jH:=(mm.o.set 7 (.slice (some ⟨gs,0,none⟩) (k+1) c9)).perm ((List.Perm.swap _ _ _).cons _);rw [←pN.o,wN.o] at jH;have ml:=aa (Mw oe.o jH);clear jH;go_roundw;case rel=>exact ⟨k+1,_,_,_,_,by have:=oe.o;omega,by go_num,ml.o⟩
      case measure=>simp [intOf];omega
    ·obtain rfl:k=2:=by omega
     have q1:¬((2:Nat):Int) < 2:=by omega
     have h1:=wK.o.fI;simp only [List.cons_append,List.nil_append] at h1;have kK:=(ch.o wr _ (h1.pick 7 rfl) 0 (by omega))
     have ku:=(ch.o wr _ (h1.pick 7 rfl) 1 (by omega))
     obtain ⟨-,-,-,-,-,kK⟩:=kK;obtain ⟨-,-,-,-,-,ku⟩:=ku;obtain ⟨Fa,EK,uV,_,_⟩:=aH (h1.pick 1 rfl).own;obtain ⟨Fb,EL,hiv,_,_⟩:=aH (h1.pick 2 rfl).own;obtain ⟨A2,cA2,JI,_,_⟩:=aH (h1.pick 5 rfl).own;subst JI;subst uV;subst hiv;have HON:=aa (show ∀u∈([.int .i64 y.2.aA.part,.int .i64 y.2.aA.seq,.int .i64 y.2.aA.ax,.int .i64 y.2.aA.aj,.int .i64 y.2.aA.left,.int .i64 y.2.aA.bad,.slice Fa 2 EK,.slice Fb 2 EL]:List Value),u.oneCell'=true by simp [Value.oneCell']);have pQ:zs.length=p:=by have:=congrArg List.length KO.o;simp only [gN,fv] at this;rw [this,←HN.o];omega
     obtain ⟨a',ha'⟩:∃a':dH,a'=⟨.slice Fa 2 EK,.slice Fb 2 EL,v0,v1,y.1.oo,y.1.sS,y.1.K0,y.1.K1⟩:=⟨_,rfl⟩
     have UC:=aa (fun (w9:World) (gs c9:Nat) (h:St w0 w9 (row X2 68 ([.int .i64 t.frame,.slice a.AP t.parts.length a.cP,.slice a.AW t.aC.length a.cW,.slice a.AC t.au.length a.cC,.int .i64 t.ay]++[.slice (some ⟨gs,0,none⟩) (p+1) c9])::own 65 8 (.slice (some ⟨gs,0,none⟩) (p+1) c9) (p+1) (dg zs++[.int .i64 y.2.aA.part,.int .i64 y.2.aA.seq,.int .i64 y.2.aA.ax,.int .i64 y.2.aA.aj,.int .i64 y.2.aA.left,.int .i64 y.2.aA.bad,.slice Fa 2 EK,.slice Fb 2 EL])::row Y 65 (y.2.aA.cells.toList++[.slice Fa 2 EK,.slice Fb 2 EL])::own 118 5 (.slice Fa 2 EK) 2 ((bE y.2.s0 v0++bE y.2.s1 v1).take (2*5))::own 26 8 (.slice Fb 2 EL) 2 ((aw.row y.2.i0 y.1.K0++aw.row y.2.i1 y.1.K1).take (2*8))::dr ([own 24 1 v0 y.2.s0.blocks.length y.1.oo,own 24 1 v1 y.2.s1.blocks.length y.1.sS].take 2)::ee P zs::cw X [.int .i64 t.frame,.slice a.AP t.parts.length a.cP,.slice a.AW t.aC.length a.cW,.slice a.AC t.au.length a.cC,.int .i64 t.ay] v P ys::l))=>show St w0 w9 (row X2 68 ([.int .i64 t.frame,.slice a.AP t.parts.length a.cP,.slice a.AW t.aC.length a.cW,.slice a.AC t.au.length a.cC,.int .i64 t.ay]++[.slice (some ⟨gs,0,none⟩) (p+1) c9])::own 65 8 (.slice (some ⟨gs,0,none⟩) (p+1) c9) (p+1) (dg (zs++[(a',y.2)]))::ee P (zs++[(a',y.2)])::cw X [.int .i64 t.frame,.slice a.AP t.parts.length a.cP,.slice a.AW t.aC.length a.cW,.slice a.AC t.au.length a.cC,.int .i64 t.ay] v P ys::l)∧(zs++[(a',y.2)]).map (·.2)=(ys.map (·.2)).take (p+1)∧IE (zs++[(a',y.2)]) ys from by
      have h2:=((h.pick 2 rfl).drop.pick 4 rfl).fI;simp only [List.take_succ_cons,List.take_zero,List.cons_append,List.nil_append] at h2;have h3:=(((h2.pick 5 rfl).pick 2 rfl).pick 2 rfl).pick 5 rfl;have h4:St w0 w9 (iF P a' y.2::_):=St.eR (L:=[_,_,_,_,_]) (by rw [ha'];exact h3.addFact ⟨kK,ku⟩);have h5:=DT (h4.pick 3 rfl);have h6:=(h5.pick 2 rfl).pick 2 rfl;refine ⟨?_,?_,fun k hk GD=>?_⟩
      ·rw [show dg (zs++[(a',y.2)])=dg zs++[.int .i64 y.2.aA.part,.int .i64 y.2.aA.seq,.int .i64 y.2.aA.ax,.int .i64 y.2.aA.aj,.int .i64 y.2.aA.left,.int .i64 y.2.aA.bad,.slice Fa 2 EK,.slice Fb 2 EL] by rw [ha'];simp [dg,eE,Rec.cells]];exact h6
      ·have hy2:(ys.map (·.2))[p]?=some y.2:=by rw [List.getElem?_map,HY.o];rfl
       rw [List.map_append,KO.o,List.take_add_one,hy2];rfl
      ·by_cases QD:k < zs.length
       ·rw [List.getElem_append_left QD];exact HKS.o k QD GD
       ·have zv:k=p:=by simp at hk;omega
        subst zv;have hye:ys[k]=y:=by have h:=HY.o;rw [cM GD] at h;exact Option.some.inj h
        rw [List.getElem_append_right (by omega),hye];simp only [pQ,Nat.sub_self,List.getElem_cons_zero];rw [ha']
        exact ⟨rfl,rfl⟩)
     have rY:=h1.row.1;have z0:wr.cell? ⟨Y,0,none⟩=some (.int .i64 y.2.aA.part):=rY.cell 0;have z1:wr.cell? ⟨Y,1,none⟩=some (.int .i64 y.2.aA.seq):=rY.cell 1;have z2:wr.cell? ⟨Y,2,none⟩=some (.int .i64 y.2.aA.ax):=rY.cell 2;have z3:wr.cell? ⟨Y,3,none⟩=some (.int .i64 y.2.aA.aj):=rY.cell 3;have z4:wr.cell? ⟨Y,4,none⟩=some (.int .i64 y.2.aA.left):=rY.cell 4;have z5':wr.cell? ⟨Y,5,none⟩=some (.int .i64 y.2.aA.bad):=rY.cell 5;have z6:wr.cell? ⟨Y,6,none⟩=some (.slice Fa 2 EK):=rY.cell 6;have z7:wr.cell? ⟨Y,7,none⟩=some (.slice Fb 2 EL):=rY.cell 7;have lY:=rY.lt;have x25:wr.cell? ⟨X2,5,none⟩=some (.slice A2 p cA2):=(h1.pick 4 rfl).row.1.cell 5;have ab8:=(h1.pick 4 rfl).row.1.lt;have H7:=aa ((h1.pick 5 rfl).drew);generalize y.2.aA.part=g0,y.2.aA.seq=g1,y.2.aA.ax=g2,y.2.aA.aj=g3,y.2.aA.left=g4,y.2.aA.bad=g5 at z0 z1 z2 z3 z4 z5' HON UC;clear h1 kK ku rY ha' pQ;go_wp2_with fail;refine dA ?_;(refine bj [0,1,2,3,5] ?_;simp only [pick,af,ae,ah];(iterate 5 still_step);refine wpStill_nil ?_);refine lL 4 6 (by kernel_rfl) (by rfl) (by rfl) ?_ ?_
     ·(try simp only [af,ae,ah]);go_simp;try dsimp only
      (try simp only [af,ae,ah,Act.put,aq,ak,ao]);(refine aL 6 ?_;(try simp only [af,ae,ah]);go_simp);try dsimp only
      (try simp only [af,ae,ah,Act.put,aq,ak,ao]);(refine aL 7 ?_;(try simp only [af,ae,ah]));refine om I8 (by rfl) (.tmp 72) (.tmp 74) (by rfl) H7.o (by rfl) (m:=1) [.int .i64 g0,.int .i64 g1,.int .i64 g2,.int .i64 g3,.int .i64 g4,.int .i64 g5,.slice Fa 2 EK,.slice Fb 2 EL] rfl HON.o (by rfl) (by omega) (by omega) (by unfold maxLen;omega) ?_;intro gs c9 w9 h9;have dG:=h9.pick 5 rfl;have mm:=aa dG;have z5:w9.cell? ⟨X2,5,none⟩=some (.slice A2 p cA2):=dG.row.1.cell 5;have f5:=dG.row.1.frozen 5;have lX2:=dG.row.1.lt;clear h9 dG;try dsimp only
      (try simp only [af,ae,ah,Act.put,aq,ak,ao]);(refine bj [8,9] ?_;simp only [pick,af,ae,ah];(iterate 2 still_step);refine wpStill_nil ?_);(refine aL 10 ?_;(try simp only [af,ae,ah]);go_simp);(try simp only [af,ae,ah,Act.put,aq,ak,ao]);refine bZ ?_;have Bl:=aa (UC.o _ gs c9 (mm.o.set 5 (.slice (some ⟨gs,0,none⟩) (p+1) c9)));go_wp2_with fail;go_roundw;case rel=>exact ⟨p+1,_,_,by omega,by go_num,Bl.o.1,Bl.o.2.1,Bl.o.2.2⟩
      case measure=>simp [intOf];omega
     ·(try simp only [af,ae,ah]);go_simp;try dsimp only
      (try simp only [af,ae,ah,Act.put,aq,ak,ao]);(refine bj [4] ?_;simp only [pick,af,ae,ah];(iterate 1 still_step);refine wpStill_nil ?_);(refine aL 7 ?_;(try simp only [af,ae,ah]));refine om I8 (by rfl) (.tmp 72) (.tmp 74) (by rfl) H7.o (by rfl) (m:=1) [.int .i64 g0,.int .i64 g1,.int .i64 g2,.int .i64 g3,.int .i64 g4,.int .i64 g5,.slice Fa 2 EK,.slice Fb 2 EL] rfl HON.o (by rfl) (by omega) (by omega) (by unfold maxLen;omega) ?_;intro gs c9 w9 h9;have dG:=h9.pick 5 rfl;have mm:=aa dG;have z5:w9.cell? ⟨X2,5,none⟩=some (.slice A2 p cA2):=dG.row.1.cell 5;have f5:=dG.row.1.frozen 5;have lX2:=dG.row.1.lt;clear h9 dG;try dsimp only
      (try simp only [af,ae,ah,Act.put,aq,ak,ao]);(refine bj [8,9] ?_;simp only [pick,af,ae,ah];(iterate 2 still_step);refine wpStill_nil ?_);(refine aL 10 ?_;(try simp only [af,ae,ah]);go_simp);(try simp only [af,ae,ah,Act.put,aq,ak,ao]);refine bZ ?_;have Bl:=aa (UC.o _ gs c9 (mm.o.set 5 (.slice (some ⟨gs,0,none⟩) (p+1) c9)));go_wp2_with fail;go_roundw;case rel=>exact ⟨p+1,_,_,by omega,by go_num,Bl.o.1,Bl.o.2.1,Bl.o.2.2⟩
      case measure=>simp [intOf];omega
  ·obtain rfl:p=n:=by omega
   have k1:¬(p:Int) < (p:Int):=by omega
   go_wp2_with fail;go_ret;have hz:=KO.o;rw [List.take_of_length_le (by rw [gN,HN.o];exact Nat.le_refl _)] at hz;have pQ:zs.length=p:=by have:=congrArg List.length hz;simp only [gN] at this;rw [this,HN.o]
   refine ⟨X2,rfl,v2,zs,?_,hz,HKS.o⟩;rw [pQ];exact bJ.o
end
end store
namespace bK

open Go.RowKit Go.ChangeShapes Go.WideShapes Go.ChangeAt Go.Deep Go.Joins base obj mem
theorem Nb {H:Type} {enc:TypeId×Value→H} {W:World} {e:TypeId} {s:TypeId} {v:Value} {fuel:Nat} {x:DataW H×List MemPlace} (ht:Tryz.prog.underlying s=some (.slice e)) (hc:Tryz.prog.cellsOf e=3)
  (he:∀(cs:List Value) (m:Nat) (y:DataW H×List MemPlace),cs.length=3→DataW.trod enc Tryz.prog W 0 (fun _=>true) true m e cs=some y→∃t:T3,cs=t.cells)
  (hf:DataW.trod enc Tryz.prog W 0 (fun _=>true) true fuel s [v]=some x):∃(A:Option Addr) (n c:Nat) (l:List T3),v=.slice A n c∧n=l.length∧n≤maxLen∧Sl W W.heap.size 3 A n (fW l):=by
 obtain ⟨A,n,c,q,rfl,_,hn,hs,hq⟩:=lift.AT ht hc (by decide) hf
 have each:∀i,i < n→∃p:T3,q i=p.cells:=by
  intro i hi;obtain ⟨hl,m,y,hy⟩:=hq i hi;exact he _ m y hl hy
 obtain ⟨z,hz⟩:=choose_lt each
 have e1:∀m,m≤n→(List.range m).flatMap q=fW ((List.range m).map z):=by
  intro m
  induction m with
  | zero=>intro _;simp [fW]
  | succ m ih =>
    intro hm;rw [List.range_succ,List.flatMap_append,List.map_append,ih (by omega),List.map_cons,List.map_nil,yp];simp [hz m (by omega)]
 rw [e1 n (Nat.le_refl _)] at hs;exact ⟨A,n,c,(List.range n).map z,rfl,by simp,hn,hs⟩
theorem Na {H:Type} {enc:TypeId×Value→H} {W:World} {e:TypeId} {f0 f1 f2:Field} (hu:Tryz.prog.underlying e=some (.struct #[f0,f1,f2])) (FG:oneCellFields Tryz.prog #[f0,f1,f2]=true) (h0:f0.type=3) (h1:f1.type=3) (h2:f2.type=3) :
  ∀(cs:List Value) (m:Nat) (y:DataW H×List MemPlace),cs.length=3→DataW.trod enc Tryz.prog W 0 (fun _=>true) true m e cs=some y→∃t:T3,cs=t.cells:=by
 intro cs m y hl hy;have hf:=lift.Np hu FG hl hy;obtain ⟨v0,k0,y0,g0,t0⟩:=hf 0 f0 rfl;obtain ⟨v1,k1,y1,g1,t1⟩:=hf 1 f1 rfl;obtain ⟨v2,k2,y2,g2,t2⟩:=hf 2 f2 rfl;rw [h0] at t0;rw [h1] at t1;rw [h2] at t2;obtain ⟨a0,e0,_,_⟩:=DataW.trod_int Tryz.underlying3 t0;obtain ⟨a1,e1,_,_⟩:=DataW.trod_int Tryz.underlying3 t1;obtain ⟨a2,e2,_,_⟩:=DataW.trod_int Tryz.underlying3 t2;simp only [List.cons.injEq,and_true] at e0 e1 e2;refine ⟨⟨a0,a1,a2⟩,?_⟩
 match cs,hl with
 | [u0,u1,u2],_ =>
   simp only [List.getElem?_cons_zero,List.getElem?_cons_succ,Option.some.injEq] at g0 g1 g2;rw [g0,g1,g2,e0,e1,e2];rfl
end bK
namespace lift

open Go.RowKit Go.ChangeShapes Go.WideShapes Go.Deep base
theorem XE {zs:List Int} (h:∀z∈zs,(Lit.int .u8 z).wf=true):bw.bo zs:=fun z hz=>by
 have h1:IntKind.u8.min=0:=rfl;have h2:IntKind.u8.max=255:=rfl;have h:=h z hz;simp only [Lit.wf,Bool.and_eq_true,decide_eq_true_eq] at h;omega
end lift
namespace store


open Go.RowKit Go.ChangeShapes Go.WideShapes Go.ChangeAt Go.Deep Go.Joins base obj mem sep bK image
theorem yy {H:Type} {enc:TypeId×Value→H} {P:Program} {W:World} {e:TypeId} {fs:Array Field} {cs:List Value} {m:Nat} {x:DataW H×List MemPlace} (he:P.underlying e=some (.struct fs))
  (h:DataW.trod enc P W 0 (fun _=>true) true m e cs=some x):∀(j:Nat) (f:Field) (n:Nat),fs[j]?=some f→P.cellsOf f.type=n→∃(k:Nat) (y:DataW H×List MemPlace),DataW.trod enc P W 0 (fun _=>true) true k f.type ((cs.drop f.offset).take n)=some y:=by
 obtain ⟨ys,n',uZ,hy,hlen,ru,hf⟩:=DataW.trod_struct he h;intro j f n hj hn;subst hn;have iZ:j < fs.size:=(Array.getElem?_eq_some_iff.1 hj).1;have rq:ys[j]?=some (ys[j]'(by rw [ru];exact iZ)):=cM _;exact ⟨n',_,(hf j f hj).trans rq⟩
structure tY where
 i:aw
 A:Option Addr
 c:Nat
def tY.cells (x:tY):List Value:=aw.row x.i (x.A,x.c)
instance:Inhabited tY:=⟨⟨aw.none,none,0⟩⟩
structure tY.In (w:World) (B:Nat) (x:tY):Prop where
 code:Sl w B 1 x.A x.i.code.length (aP x.i.code)
 cap:x.i.code.length≤x.c
 iS:bw.bo x.i.code
 tx:x.i.code.length≤maxLen
def Ch (l:List tY):List Value:=l.flatMap tY.cells
theorem Tx (l:List tY) (x:tY):Ch (l++[x])=Ch l++x.cells:=by simp [Ch]
theorem Ot {H:Type} {enc:TypeId×Value→H} {W:World} {v:Value} {fuel:Nat} {x:DataW H×List MemPlace}
  (h:DataW.trod enc Tryz.prog W 0 (fun _=>true) true fuel 47 [v]=some x):∃(A:Option Addr) (c:Nat) (l:List tY),v=.slice A l.length c∧l.length≤c∧l.length≤maxLen∧Sl W W.heap.size 8 A l.length (Ch l)∧∀x∈l,x.In W W.heap.size:=by
 obtain ⟨A,n,c,q,rfl,vY,hn,hs,hq⟩:=lift.AT Tryz.underlying47 (s:=8) (by kernel_rfl) (by decide) h
 have each:∀i,i < n→∃p:tY,q i=p.cells∧p.In W W.heap.size:=by
  intro i hi;obtain ⟨hl,m,x,hx⟩:=hq i hi
  obtain ⟨u0,u1,u2,u3,u4,u5,u6,u7,Ao⟩:∃u0 u1 u2 u3 u4 u5 u6 u7,q i=[u0,u1,u2,u3,u4,u5,u6,u7]:=by
   match Ao:q i,hl with
   | [u0,u1,u2,u3,u4,u5,u6,u7],_=>exact ⟨_,_,_,_,_,_,_,_,rfl⟩
  rw [Ao] at hx ⊢;have hf:=yy Tryz.underlying26 hx;obtain ⟨k0,y0,t0⟩:=hf 0 _ 1 rfl (by kernel_rfl);obtain ⟨k1,y1,t1⟩:=hf 1 _ 1 rfl (by kernel_rfl);obtain ⟨k2,y2,t2⟩:=hf 2 _ 1 rfl (by kernel_rfl);obtain ⟨k3,y3,t3⟩:=hf 3 _ 1 rfl (by kernel_rfl);obtain ⟨k4,y4,t4⟩:=hf 4 _ 1 rfl (by kernel_rfl);obtain ⟨k5,y5,t5⟩:=hf 5 _ 1 rfl (by kernel_rfl);obtain ⟨k6,y6,t6⟩:=hf 6 _ 1 rfl (by kernel_rfl);obtain ⟨k7,y7,t7⟩:=hf 7 _ 1 rfl (by kernel_rfl);obtain ⟨a0,h0,_,w0⟩:=DataW.trod_int Tryz.underlying3 t0;obtain ⟨a1,h1,_,w1⟩:=DataW.trod_int Tryz.underlying3 t1;obtain ⟨a2,h2,_,w2⟩:=DataW.trod_int Tryz.underlying3 t2;obtain ⟨a3,h3,_,w3⟩:=DataW.trod_int Tryz.underlying3 t3;obtain ⟨a4,h4,_,w4⟩:=DataW.trod_int Tryz.underlying3 t4;obtain ⟨a5,h5,_,w5⟩:=DataW.trod_int Tryz.underlying3 t5;obtain ⟨a6,h6,_,w6⟩:=DataW.trod_int Tryz.underlying3 t6;obtain ⟨AC,cC,lC,e7,J2,m7,s7,b7⟩:=lift.Oq (v:=u7) Tryz.underlying24 Tryz.underlying5 (by kernel_rfl) t7;simp at h0 h1 h2 h3 h4 h5 h6;subst h0;subst h1;subst h2;subst h3;subst h4;subst h5;subst h6;subst e7;exact ⟨⟨⟨a0,a1,a2,a3,a4,a5,a6,lC⟩,AC,cC⟩,rfl,s7,J2,lift.XE b7,m7⟩
 obtain ⟨z,hz⟩:=choose_lt each
 have e1:∀m,m≤n→(List.range m).flatMap q=Ch ((List.range m).map z):=by
  intro m
  induction m with
  | zero=>intro _;simp [Ch]
  | succ m ih =>
    intro hm;rw [List.range_succ,List.flatMap_append,List.map_append,ih (by omega),List.map_cons,List.map_nil,Tx];simp [(hz m (by omega)).1]
 rw [e1 n (Nat.le_refl _)] at hs;have hl:((List.range n).map z).length=n:=by simp
 refine ⟨A,c,(List.range n).map z,by rw [hl],by rw [hl];exact vY,by rw [hl];exact hn,by rw [hl];exact hs,fun y hy=>?_⟩;obtain ⟨i,hi,rfl⟩:=List.mem_map.1 hy;exact (hz i (List.mem_range.1 hi)).2
theorem Yp {w:World} {B:Nat} {A:Option Addr} {l:List tY} (h:Sl w B 8 A l.length (Ch l)) {k:Nat} (hk:k < l.length):∃b off,A=some ⟨b,off,none⟩∧b < B∧
  ∀j u,j < 8→l[k].cells[j]?=some u→w.cell? ⟨b,off+k*8+j,none⟩=some u:=by
 obtain ⟨b,off,rfl,cy,hc⟩:=h.2 (by omega)
 have h9:∀x∈l.map tY.cells,x.length=8:=by
  intro x hx;obtain ⟨a,_,rfl⟩:=List.mem_map.1 hx;rfl
 have e:=qH h9 (i:=k) (by simpa using hk)
 have g:∀j,j < 8→(Ch l)[k*8+j]?=l[k].cells[j]?:=by
  intro j hj
  have e2:(((l.map tY.cells).flatten.drop (k*8)).take 8)[j]?=(l.map tY.cells).flatten[k*8+j]?:=by
   rw [List.getElem?_take,if_pos hj,List.getElem?_drop]
  rw [e] at e2;rw [Ch,List.flatMap_def,←e2];simp
 refine ⟨b,off,rfl,cy,fun j u hj hu=>?_⟩;rw [Nat.add_assoc];exact hc _ _ ((g j hj).trans hu)
theorem Ty {w:World} {B:Nat} {A:Option Addr} {l:List tY} (h:Sl w B 8 A l.length (Ch l)) (hi:∀x∈l,x.In w B):B2 w B (l.map (·.i)) A l.length (fun k=>((l.getD k ⟨aw.none,none,0⟩).A,(l.getD k ⟨aw.none,none,0⟩).c)):=by
 refine ⟨by simp,fun i him=>?_,fun k hk=>?_⟩
 ·obtain ⟨x,hx,rfl⟩:=List.mem_map.1 him;exact (hi x hx).iS
 ·obtain ⟨b,off,rfl,cy,hc⟩:=Yp h hk;have e1:(l.map (·.i)).getD k aw.none=l[k].i:=by simp [dz,hk]
  have e2:l.getD k ⟨aw.none,none,0⟩=l[k]:=by simp [hk]
  have hx:=hi l[k] (List.getElem_mem hk);rw [e1,e2];exact ⟨b,off,rfl,cy,hc 0 _ (by omega) rfl,hc 1 _ (by omega) rfl,hc 2 _ (by omega) rfl,hc 3 _ (by omega) rfl,hc 4 _ (by omega) rfl,hc 5 _ (by omega) rfl,hc 6 _ (by omega) rfl,hc 7 _ (by omega) rfl,hx.cap,hx.code⟩
structure wG (W:World) (a:en) (t:aQ) (AI:Option Addr) (nI cI:Nat) (js:List aw) (K:Nat→Option Addr×Nat):Prop where
 bK:ma W a t
 cap:nI≤cI
 tx:nI≤maxLen
 il:B2 W W.heap.size js AI nI K
 lens:∀k,k < nI→(js.getD k aw.none).code.length≤9223372036854775807
theorem wG.over {w w':World} {a:en} {t:aQ} {AI:Option Addr} {nI cI:Nat} {js:List aw} {K:Nat→Option Addr×Nat} (h:wG w a t AI nI cI js K) (hb:Below w.heap.size w w'):wG w' a t AI nI cI js K:=⟨h.bK.over hb,h.cap,h.tx,h.il.over hb,h.lens⟩
theorem Xw {H:Type} {enc:TypeId×Value→H} {W:World} {r:Reach} {b0:Nat} {v:Value} {d:DataW H} {ps:List MemPlace} (hval:Value.okWide Tryz.prog W r b0 49 v)
  (h:DataW.Trod enc Tryz.prog W 0 (fun _=>true) true 49 v d ps):∃(a:en) (t:aQ) (AI:Option Addr) (nI cI:Nat) (js:List aw) (K:Nat→Option Addr×Nat),v=.agg #[.int .i64 t.frame,.slice a.AP t.parts.length a.cP,.slice a.AW t.aC.length a.cW,.slice a.AC t.au.length a.cC,.int .i64 t.ay,.slice AI nI cI]∧wG W a t AI nI cI js K:=by
 obtain ⟨cs,rfl,hl⟩:=okWide_struct Tryz.underlying49 hval;obtain ⟨fuel,hx⟩:=h;have Es:cs.toList.length=6:=by rw [Array.length_toList,hl];kernel_rfl
 obtain ⟨l⟩:=cs
 match Ao:l,Es with
 | [u0,u1,u2,u3,u4,u5],_ =>
   have hx':DataW.trod enc Tryz.prog W 0 (fun _=>true) true fuel 49 [u0,u1,u2,u3,u4,u5]=some (d,ps):=hx;have hf:=yy Tryz.underlying49 hx';obtain ⟨j0,z0,r0⟩:=hf 0 _ 5 rfl (by kernel_rfl);obtain ⟨j1,z1,r1⟩:=hf 1 _ 1 rfl (by kernel_rfl);have hg:=yy Tryz.underlying46 r0;obtain ⟨k0,y0,t0⟩:=hg 0 _ 1 rfl (by kernel_rfl);obtain ⟨k1,y1,t1⟩:=hg 1 _ 1 rfl (by kernel_rfl);obtain ⟨k2,y2,t2⟩:=hg 2 _ 1 rfl (by kernel_rfl);obtain ⟨k3,y3,t3⟩:=hg 3 _ 1 rfl (by kernel_rfl);obtain ⟨k4,y4,t4⟩:=hg 4 _ 1 rfl (by kernel_rfl);obtain ⟨a0,h0,_,w0⟩:=DataW.trod_int Tryz.underlying3 t0;obtain ⟨a4,h4,_,w4⟩:=DataW.trod_int Tryz.underlying3 t4;obtain ⟨AP,nP,cP,lp,e1,p1,p2,p3⟩:=Nb (v:=u1) Tryz.underlying42 (by kernel_rfl) (Na Tryz.underlying147 (by kernel_rfl) rfl rfl rfl) t1;obtain ⟨AW,nW,cW,lw,e2,q1,q2,q3⟩:=Nb (v:=u2) Tryz.underlying43 (by kernel_rfl) (Na Tryz.underlying150 (by kernel_rfl) rfl rfl rfl) t2;obtain ⟨AC,nC,cC,lc,e3,r1',r2,r3⟩:=Nb (v:=u3) Tryz.underlying44 (by kernel_rfl) (Na Tryz.underlying152 (by kernel_rfl) rfl rfl rfl) t3;obtain ⟨AI,cI,li,e5,hcI,hmI,hsI,hiI⟩:=Ot (v:=u5) r1;simp at h0 h4;subst h0;subst h4;subst e1;subst e2;subst e3;subst e5;subst p1;subst q1;subst r1'
   exact ⟨⟨AP,cP,AW,cW,AC,cC⟩,⟨a0,lp,lw,lc,a4⟩,AI,li.length,cI,li.map (·.i),_,rfl,⟨p3,q3,r3,rfl,rfl,rfl,p2,q2,r2⟩,hcI,hmI,Ty hsI hiI,fun k hk=>by
    have:=(hiI li[k] (List.getElem_mem hk)).tx;rw [show (li.map (·.i)).getD k aw.none=li[k].i by simp [dz,hk]];unfold maxLen at this
    omega⟩
end store
end Go.Proofs.YtdldkkoplgkloaaGreat
