/-
  PROVED HERE: lemmas that the law leans on.
  CONDITIONS: each names its own.
-/
import Derived.Test.YtdldkkoplgkloaaGreatPy0
import Derived.Test.YtdldkkoplgkloaaGreatPy5
import Derived.Test.YtdldkkoplgkloaaGreatPy19
import Derived.Test.YtdldkkoplgkloaaGreatPy24
import Derived.Test.YtdldkkoplgkloaaGreatPy28
import Derived.Test.YtdldkkoplgkloaaGreatPy36
namespace Go.Proofs.YtdldkkoplgkloaaGreat
set_option linter.unusedVariables false
set_option linter.unusedSimpArgs false
set_option maxRecDepth 100000
set_option maxHeartbeats 32000000
namespace store


open Go.RowKit Go.Deep base obj mem sep bf bk record bP aU image bK bR chain bw
theorem uz {w0 w:World} {l:List aD} {e size n:Nat} {v:Value} {pre c post:List Value} (h:St w0 w (own e size v n (pre++(c++post))::l)) (hn:0 < n) :
  ∃(T cap:Nat) (sM:List Value),v=.slice (some ⟨T,0,none⟩) n cap∧St w0 w (row T e (pre++(c++sM))::l)∧∀(w':World) (l':List aD) (c':List Value),c'.length=c.length→St w0 w' (row T e (pre++(c'++sM))::l')→St w0 w' (own e size v n (pre++(c'++post))::l'):=by
 obtain ⟨A,cap,rfl,hc,hm⟩:=aH h.own;obtain ⟨T,xs,rfl,_,hl,ht,h2⟩:=mD h hn;obtain ⟨tl,uU⟩:∃tl,tl=xs.drop (n*size):=⟨_,rfl⟩
 have hx:xs=pre++(c++(post++tl)):=by
  rw [←List.append_assoc c,←List.append_assoc pre,←ht,uU,List.take_append_drop]
 have hle:n*size≤xs.length:=by rw [hl];exact Nat.mul_le_mul_right _ hc
 have hll:(pre++(c++post)).length=n*size:=by rw [←ht,fv];omega
 have Et:=congrArg List.length hx;rw [hx] at h2;clear uU;refine ⟨T,cap,_,rfl,h2,fun w' l' c' fS h'=>?_⟩;have xL:(pre++(c'++post)).length=n*size:=by rw [←hll];simp [fS]
 have h3:=h'.lW (size:=size) (n:=n) (cap:=cap) hc hm (by
  rw [←hl,Et]
  simp [fS])
 rwa [←List.append_assoc c',←List.append_assoc pre,List.take_left' xL] at h3
theorem AU {α β:Type} (f:α→β):∀(l:List α) (p:Nat),(l.map f).eraseIdx p=(l.eraseIdx p).map f
 | [],_=>rfl
 | a::l,0=>rfl
 | a::l,p+1=>by simp [AU f l p]
theorem Vy {w0 w:World} {A B:aD} {L l:List aD} (h:St w0 w (A::B::(L++l))):St w0 w (A::B::dr L::l):=by
 have h2:St w0 w (L++(A::B::l)):=h.perm ((List.perm_middle.trans (List.perm_middle.cons A)).symm);exact ((St.eR h2).pick 2 rfl).pick 2 rfl
theorem Q5 {w0 w:World} {A B:aD} {L l:List aD} (h:St w0 w (A::B::dr L::l)):St w0 w (A::B::(L++l)) :=
 (h.pick 2 rfl).fI.perm (List.perm_middle.trans (List.perm_middle.cons A))
section
variable {w0 w : World} {l : List aD} {X : Nat} {tv : List Value} {v : Value} {P P' : List (Nat × List Value)} {ys : List (dH × RP)} {p : Nat}
theorem Ft (h:St w0 w (cw X tv v P ys::l)) (hp:p < ys.length):(o8 P ys[p].2.s0.blocks ys[p].1.oo∧o8 P ys[p].2.s1.blocks ys[p].1.sS)∧St w0 w (own 118 5 ys[p].1.vS 2 (bE ys[p].2.s0 ys[p].1.v0++bE ys[p].2.s1 ys[p].1.v1)::own 24 1 ys[p].1.v0 ys[p].2.s0.blocks.length ys[p].1.oo::own 24 1 ys[p].1.v1 ys[p].2.s1.blocks.length ys[p].1.sS::own 26 8 ys[p].1.vI 2 (aw.row ys[p].2.i0 ys[p].1.K0++aw.row ys[p].2.i1 ys[p].1.K1)::ee P (ys.eraseIdx p)::row X 68 (tv++[v])::own 65 8 v ys.length (dg ys)::eL P::l):=by
 have h1:=(ec h).pick 3 rfl;have h2:=(h1.D9 (k:=p) (P:=iF P ys[p].1 ys[p].2) (by simp [hp])).fI;rw [AU] at h2;exact ⟨h2.fact,h2.drop⟩
theorem BE {a:dH} {x:RP} (hp:p < ys.length) (hP:∀x∈P,x∈P') (hb:o8 P' x.s0.blocks a.oo∧o8 P' x.s1.blocks a.sS)
  (h:St w0 w (own 118 5 a.vS 2 (bE x.s0 a.v0++bE x.s1 a.v1)::own 24 1 a.v0 x.s0.blocks.length a.oo::own 24 1 a.v1 x.s1.blocks.length a.sS::own 26 8 a.vI 2 (aw.row x.i0 a.K0++aw.row x.i1 a.K1)::ee P (ys.eraseIdx p)::row X 68 (tv++[v])::own 65 8 v ys.length (dg (ys.set p (a,x)))::eL P'::l)):St w0 w (cw X tv v P' (ys.set p (a,x))::l):=by
 have h1:=(sL hP (h.pick 4 rfl)).perm (l':=own 118 5 a.vS 2 (bE x.s0 a.v0++bE x.s1 a.v1)::own 24 1 a.v0 x.s0.blocks.length a.oo::own 24 1 a.v1 x.s1.blocks.length a.sS::own 26 8 a.vI 2 (aw.row x.i0 a.K0++aw.row x.i1 a.K1)::ee P' (ys.eraseIdx p)::row X 68 (tv++[v])::own 65 8 v ys.length (dg (ys.set p (a,x)))::eL P'::l) (by
  exact (List.perm_middle (l₁:=[_,_,_,_])).symm)
 have h2:St w0 w (iF P' a x::ee P' (ys.eraseIdx p)::row X 68 (tv++[v])::own 65 8 v ys.length (dg (ys.set p (a,x)))::eL P'::l):=St.eR (L:=[_,_,_,_,_]) (h1.addFact hb)
 have h3:St w0 w (ee P' (ys.set p (a,x))::row X 68 (tv++[v])::own 65 8 v ys.length (dg (ys.set p (a,x)))::eL P'::l):=by
  unfold ee at h2 ⊢;rw [←AU] at h2;have h4:=h2.Tk (by simpa using hp);rw [List.map_set];exact h4
 have h5:=h3.perm (l':=row X 68 (tv++[v])::own 65 8 v ys.length (dg (ys.set p (a,x)))::eL P'::ee P' (ys.set p (a,x))::l) (List.perm_middle (l₁:=[_,_,_])).symm;refine qA ?_;rw [List.length_set];exact h5
theorem uf {y:dH×RP} (hp:p < ys.length) (hy:eE y=eE ys[p]):dg (ys.set p y)=dg ys:=by
 unfold dg;rw [List.map_set,hy,←List.map_set,List.set_getElem_self]
theorem V0 (h:St w0 w (cw X tv v P ys::l)) (hp:p < ys.length) {k:Int} (hk:k=0∨k=1):∃(T c:Nat) (pre post:List Value) (F:aD),pre.length=k.toNat*5∧ys[p].1.vS=.slice (some ⟨T,0,none⟩) 2 c∧St w0 w (mC T pre post P (ys[p].2.slot k)::eL P::F::l)∧
  ∀(w':World) (P':List (Nat×List Value)) (R:RS) (l':List aD),(∀x∈P,x∈P')→St w0 w' (mC T pre post P' R::eL P'::F::l')→∃a:dH,(a.K0=ys[p].1.K0∧a.K1=ys[p].1.K1)∧St w0 w' (cw X tv v P' (ys.set p (a,ys[p].2.bx k R))::l'):=by
 obtain ⟨⟨b0,b1⟩,h1⟩:=Ft h hp;rcases hk with rfl|rfl
 ·obtain ⟨T,c,sM,e,h2,hb⟩:=uz (n:=2) (pre:=[]) (c:=bE ys[p].2.s0 ys[p].1.v0) (post:=bE ys[p].2.s1 ys[p].1.v1) h1 (by omega);refine ⟨T,c,[],sM,_,rfl,e,Vy (L:=[_,_,_,_,_]) ((kZ b0 h2).pick 6 rfl).swap,fun w' P' R l' hP h'=>?_⟩;obtain ⟨v',F5,fZ,h3⟩:=mP (Q5 h');have h4:=((hb w' _ (bE R v') rfl h3).pick 2 rfl).perm (List.perm_middle (l₁:=[_,_,_,_,_,_,_])).symm;refine ⟨{ ys[p].1 with v0:=v',oo:=F5 },⟨rfl,rfl⟩,BE hp hP ⟨fZ,b1.mono hP⟩ ?_⟩;rw [←uf (y:=({ ys[p].1 with v0:=v',oo:=F5 },ys[p].2.bx 0 R)) hp rfl] at h4;exact h4
 ·obtain ⟨T,c,sM,e,h2,hb⟩:=uz (n:=2) (pre:=bE ys[p].2.s0 ys[p].1.v0) (c:=bE ys[p].2.s1 ys[p].1.v1) (post:=[]) h1 (by omega);refine ⟨T,c,_,sM,_,rfl,e,Vy (L:=[_,_,_,_,_]) ((kZ b1 ((h2.pick 2 rfl).swap)).pick 6 rfl).swap,fun w' P' R l' hP h'=>?_⟩;obtain ⟨v',F5,fZ,h3⟩:=mP (Q5 h');have h4:=(((hb w' _ (bE R v') rfl h3).pick 2 rfl).perm (List.perm_middle (l₁:=[_,_,_,_,_,_,_])).symm)
  have h5:=(h4.pick 2 rfl).pick 1 rfl;refine ⟨{ ys[p].1 with v1:=v',sS:=F5 },⟨rfl,rfl⟩,BE hp hP ⟨b0.mono hP,fZ⟩ ?_⟩;rw [←uf (y:=({ ys[p].1 with v1:=v',sS:=F5 },ys[p].2.bx 1 R)) hp rfl] at h5;exact h5
theorem Nm {T o:Nat} {pre post:List Value} {R:RS} (ho:pre.length=o) (h:St w0 w (mC T pre post P R::l)):∃cs:List Value,Row w T 118 cs∧o+5≤cs.length∧
  St w0 (w.setRow T (cs.take o++([.bool false,.int .i64 0,.int .i64 0,.int .i64 0,.slice none 0 0]:List Value)++cs.drop (o+5)).toArray) (mC T pre post P RS.none::l):=by
 obtain ⟨v',F5,fZ,h3⟩:=mP h;refine ⟨_,h3.row.1,by simp [bE,ho],?_⟩;have h4:=h3.setRow (pre++(bE RS.none (.slice none 0 0)++post));have h6:=((h4.pick 1 rfl).drop).cQ (e:=24) (size:=1) (v:=.slice none 0 0) (n:=0) (xs:=[]) (Below.refl _ _) ⟨rfl,.inl ⟨rfl,rfl⟩⟩;have h7:=kZ (R:=RS.none) (v:=.slice none 0 0) (vs:=[]) (P:=P) ⟨rfl,fun i b v h=>by simp [RS.none] at h⟩ h6.swap
 have he:(pre++(bE R v'++post)).take o++([.bool false,.int .i64 0,.int .i64 0,.int .i64 0,.slice none 0 0]:List Value)++(pre++(bE R v'++post)).drop (o+5)=pre++(bE RS.none (.slice none 0 0)++post) :=
  BJ ho 0 [.bool false,.int .i64 0,.int .i64 0,.int .i64 0,.slice none 0 0] (by simp [bE])
 rw [he];exact h7
end
end store
namespace store


open Go.RowKit Go.Deep base obj mem sep bf bk record bP aU image bK bR chain bw
section
variable {w0 w : World} {l : List aD} {X : Nat} {tv : List Value} {v : Value} {P : List (Nat × List Value)} {ys : List (dH × RP)} {p : Nat}
theorem yw (h:St w0 w (cw X tv v P ys::l)) (iR:tv.length=5):∃A c,w.cell? ⟨X,5,none⟩=some (.slice A ys.length c)∧X < w.heap.size:=by
 have h1:=ec h;obtain ⟨A,c,hv,_,_⟩:=aH (h1.pick 1 rfl).own;refine ⟨A,c,?_,h1.row.1.lt⟩;rw [h1.row.1.cell 5,List.getElem?_append_right (by omega),iR,hv];rfl
theorem tX.recs {n:Nat} {y:dH×RP} {b off c bS oS cS bI oI cI:Nat} (h:tX w X n p y b off c bS oS cS bI oI cI):w.cell? ⟨b,off+p*8,none⟩=some (.int .i64 y.2.aA.part)∧w.cell? ⟨b,off+p*8+1,none⟩=some (.int .i64 y.2.aA.seq)∧w.cell? ⟨b,off+p*8+2,none⟩=some (.int .i64 y.2.aA.ax)∧w.cell? ⟨b,off+p*8+3,none⟩=some (.int .i64 y.2.aA.aj)∧w.cell? ⟨b,off+p*8+4,none⟩=some (.int .i64 y.2.aA.left)∧w.cell? ⟨b,off+p*8+5,none⟩=some (.int .i64 y.2.aA.bad)∧w.cell? ⟨b,off+p*8+6,none⟩=some (.slice (some ⟨bS,oS,none⟩) 2 cS)∧w.cell? ⟨b,off+p*8+7,none⟩=some (.slice (some ⟨bI,oI,none⟩) 2 cI)∧b < w.heap.size :=
 ⟨h.row 0 _ (by omega) rfl,h.row 1 _ (by omega) rfl,h.row 2 _ (by omega) rfl,h.row 3 _ (by omega) rfl,h.row 4 _ (by omega) rfl,h.row 5 _ (by omega) rfl,h.row 6 _ (by omega) (by rw [←h.eS];rfl),h.row 7 _ (by omega) (by rw [←h.eI];rfl),h.lb⟩
theorem tX.slot {n:Nat} {y:dH×RP} {b off c bS oS cS bI oI cI:Nat} (h:tX w X n p y b off c bS oS cS bI oI cI) {k:Nat} (hk:k < 2):w.cell? ⟨bS,oS+k*5,none⟩=some (.bool (y.2.slot k).has)∧w.cell? ⟨bS,oS+k*5+1,none⟩=some (.int .i64 (y.2.slot k).st.aG)∧bS < w.heap.size:=by
 rcases (by omega:k=0∨k=1) with rfl|rfl
 ·exact ⟨h.slots 0 _ rfl,h.slots 1 _ rfl,h.lS⟩
 ·exact ⟨h.slots 5 _ rfl,h.slots 6 _ rfl,h.lS⟩
theorem qN (hp:p < ys.length):(ys.map (·.2)).getD p default=ys[p].2:=by simp [dz,hp]
theorem UH (hp:p < ys.length):(cK (ys.map (·.2))).getD p default=ys[p].2.dp:=by rw [kB,qN hp]
theorem IH:(cK (ys.map (·.2))).length=ys.length:=by simp [cK]
theorem CP (h:St w0 w (cw X tv v P ys::l)) (iR:tv.length=5) (q:Int):Calls Tryz.prog 106 #[.pointer (some ⟨X,0,none⟩),.int .i64 q] w fun e w'=>e=.returned (.int .i64 (dm (cK (ys.map (·.2))) q))∧Below w.heap.size w w':=by
 by_cases hq:q < 0∨(ys.length:Int)≤q
 ·obtain ⟨A,c,x5,lX⟩:=yw h iR;have e:dm (cK (ys.map (·.2))) q=3:=by unfold dm;rw [IH,if_pos hq]
  rw [e];clear e h;generalize ys.length=n at *;rcases (by omega:q < 0∨(0≤q∧(n:Int)≤q)) with h0|⟨h0,h1⟩
  all_goals
   go_enter Tryz.func106,Tryz.ntmps106;go_wp2_with fail;go_ret;exact ⟨rfl,Below.refl _ _⟩
 ·obtain ⟨p,rfl⟩:=Int.eq_ofNat_of_zero_le (by omega:0≤q);have hp:p < ys.length:=by omega
  have e:dm (cK (ys.map (·.2))) (p:Int)=if ys[p].2.aA.ax=ys[p].2.aA.aj then 0 else 18:=by
   unfold dm;rw [IH,if_neg hq,ea,UH hp];by_cases g:ys[p].2.aA.ax=ys[p].2.aA.aj
   ·rw [if_pos g,if_neg (by simp [DP.ay,RP.dp,g])]
   ·rw [if_neg g,if_pos (by simp [DP.ay,RP.dp,g])]
  obtain ⟨b,off,c,bS,oS,cS,bI,oI,cI,ha⟩:=sj h iR hp;obtain ⟨-,-,r2,r3,-,-,-,-,lb⟩:=ha.recs;have x5:=ha.x5;have lX:=ha.lX;rw [e];have k1:(p:Int) < (ys.length:Int):=by omega
  clear e ha h;generalize ys[p].2.aA.ax=ra,ys[p].2.aA.aj=rc at *;clear hp hq;generalize ys.length=n at *;have k0:(0:Int)≤(p:Int):=by omega
  by_cases g:ra=rc;case' pos=>have g2:(ra != rc)=false:=by simpa using g
  case' neg=>have g2:(ra != rc)=true:=by simpa using g
  all_goals
   first|rw [if_pos g]|rw [if_neg g]
   clear g;go_enter Tryz.func106,Tryz.ntmps106;go_wp2_with fail;go_quiet (fail);go_wp2_with fail;go_ret;exact ⟨rfl,below_drewN (Below.refl _ _) _⟩
theorem sQ {b o k:Nat} {r:Int} (h:w.cell? ⟨b,o+3,none⟩=some (.int .i64 r)) (hb:b < w.heap.size) (hr:1-r=(k:Int)) (hk:k < 2):Calls Tryz.prog 107 #[.pointer (some ⟨b,o,none⟩)] w fun e w'=>e=.returned (.int .i64 k)∧w'=w:=by
 have hw:IntKind.i64.wrap (1-r)=k:=by rw [hr,IntWalk.i64_in _ (by omega)]
 clear hr hk;go_enter Tryz.func107,Tryz.ntmps107;go_wp2_with fail;go_ret;exact ⟨rfl,rfl⟩
theorem LM {x:RP} (h:x.aA.right=true):∃k:Nat,k < 2∧1-x.aA.aj=(k:Int)∧x.ot=k:=by
 have:=fC.la h;exact ⟨(1-x.aA.aj).toNat,by omega,by omega,by unfold RP.ot;omega⟩
def vp (w0:World) (P:List (Nat×List Value)) (K:Option Addr×Nat) (i:aw):Prop:=i.code.length≤1000000∧((∀w',Below w0.heap.size w0 w'→Sl w' w'.heap.size 1 K.1 i.code.length (aP i.code))∨∃g xs,(g,xs)∈P∧K.1=some ⟨g,0,none⟩∧xs.take i.code.length=aP i.code)
def jn (w0:World) (P:List (Nat×List Value)) (ys:List (dH×RP)):Prop:=∀y∈ys,vp w0 P y.1.K0 y.2.i0∧vp w0 P y.1.K1 y.2.i1
theorem vp.mono {P':List (Nat×List Value)} {K:Option Addr×Nat} {i:aw} (h:vp w0 P K i) (hp:∀x∈P,x∈P'):vp w0 P' K i:=⟨h.1,h.2.imp id fun ⟨g,xs,h1,h2⟩=>⟨g,xs,hp _ h1,h2⟩⟩
theorem jn.set {P':List (Nat×List Value)} (h:jn w0 P ys) (hp:∀x∈P,x∈P') {a:dH} {x:RP} (h0:vp w0 P' a.K0 x.i0) (h1:vp w0 P' a.K1 x.i1) (p:Nat):jn w0 P' (ys.set p (a,x)):=by
 intro y hy;rcases List.mem_or_eq_of_mem_set hy with h2|rfl
 ·exact ⟨(h y h2).1.mono hp,(h y h2).2.mono hp⟩
 ·exact ⟨h0,h1⟩
theorem jn.slot {P':List (Nat×List Value)} (h:jn w0 P ys) (hp:∀x∈P,x∈P') (hl:p < ys.length) {a:dH} (ha:a.K0=ys[p].1.K0∧a.K1=ys[p].1.K1) (k:Int) (R:RS):jn w0 P' (ys.set p (a,ys[p].2.bx k R)):=by
 obtain ⟨h1,h2⟩:=h _ (List.getElem_mem hl);refine h.set hp ?_ ?_ p
 ·rw [ha.1,show (ys[p].2.bx k R).i0=ys[p].2.i0 by unfold RP.bx;split<;>rfl];exact h1.mono hp
 ·rw [ha.2,show (ys[p].2.bx k R).i1=ys[p].2.i1 by unfold RP.bx;split<;>rfl];exact h2.mono hp
theorem jn.read (h:jn w0 P ys) (av:St w0 w (eL P::l)) {y:dH×RP} (hy:y∈ys) (k:Int):Sl w w.heap.size 1 (y.1.K k).1 (y.2.ek k).code.length (aP (y.2.ek k).code)∧(y.2.ek k).code.length≤1000000:=by
 have one:∀{K:Option Addr×Nat} {i:aw},vp w0 P K i→Sl w w.heap.size 1 K.1 i.code.length (aP i.code)∧i.code.length≤1000000:=fun {K i} hk=>by
  refine ⟨?_,hk.1⟩;rcases hk.2 with h1|⟨g,xs,h1,h2,h3⟩
  ·exact h1 w av.aI
  ·obtain ⟨hr,_⟩:=Jr av h1;rw [h2];exact hr.sl (o:=0) hr.lt (by rw [List.drop_zero,Nat.mul_one];exact h3.symm) (by simp [aP])
 unfold dH.K RP.ek;split
 ·exact one (h y hy).1
 ·exact one (h y hy).2
def gM (w0 w:World) (X:Nat) (tv:List Value) (v:Value) (P:List (Nat×List Value)) (l:List aD) (L:List RP):Prop:=∃P' iy,(∀x∈P,x∈P')∧St w0 w (cw X tv v P' iy::l)∧iy.map (·.2)=L∧jn w0 P' iy
theorem gM.slot {w':World} (hK:jn w0 P ys) (hp:p < ys.length) {L:List RP} {k:Int} {R:RS} {P':List (Nat×List Value)} (hP:∀x∈P,x∈P') {a:dH} (ha:a.K0=ys[p].1.K0∧a.K1=ys[p].1.K1) (h:St w0 w' (cw X tv v P' (ys.set p (a,ys[p].2.bx k R))::l)) (hL:L=(ys.map (·.2)).set p (ys[p].2.bx k R)):gM w0 w' X tv v P l L :=
 ⟨P',_,hP,h,by rw [hL,List.map_set],hK.slot hP hp ha k R⟩
theorem gM.same {w':World} (hK:jn w0 P ys) (h:St w0 w' (cw X tv v P ys::l)):gM w0 w' X tv v P l (ys.map (·.2)):=⟨P,ys,fun _ h=>h,h,rfl,hK⟩
theorem FY (h:St w0 w (cw X tv v P ys::l)) (iR:tv.length=5) (hr:∀y∈ys,y.2.aA.right=true) (q se:Int):Calls Tryz.prog 110 #[.pointer (some ⟨X,0,none⟩),.int .i64 q,.int .i64 se] w fun e w'=>e=.returned (.int .i64 (dR (cK (ys.map (·.2))) q se))∧Below w.heap.size w w':=by
 have HF:=aa (CP h iR q);by_cases hf:dm (cK (ys.map (·.2))) q=0
 ·obtain ⟨p,rfl,hp,_⟩:=kW hf;rw [hf] at HF;rw [gN] at hp;obtain ⟨k,hk,jP,dC⟩:=LM (hr _ (List.getElem_mem hp));obtain ⟨b,off,c,bS,oS,cS,bI,oI,cI,ha⟩:=sj h iR hp
  have e:dR (cK (ys.map (·.2))) (p:Int) se=if (ys[p].2.slot k).has=false then 16 else if (ys[p].2.slot k).st.aG≠se then 17 else 0:=by
   unfold dR;rw [hf,if_neg (by simp),ea,UH hp,←dC];rfl
  rw [e]
  have HA:=aa (fun (w':World) (hb:Below w.heap.size w w')=>show w'.cell? ⟨X,5,none⟩=some (.slice (some ⟨b,off,none⟩) ys.length c)∧X < w'.heap.size∧w'.cell? ⟨b,off+p*8+3,none⟩=some (.int .i64 ys[p].2.aA.aj)∧w'.cell? ⟨b,off+p*8+6,none⟩=some (.slice (some ⟨bS,oS,none⟩) 2 cS)∧b < w'.heap.size∧w'.cell? ⟨bS,oS+k*5,none⟩=some (.bool (ys[p].2.slot k).has)∧w'.cell? ⟨bS,oS+k*5+1,none⟩=some (.int .i64 (ys[p].2.slot k).st.aG)∧bS < w'.heap.size from by
   have h:=ha.over hb;obtain ⟨-,-,-,r3,-,-,r6,-,lb⟩:=h.recs;obtain ⟨s0,s1,ls⟩:=h.slot hk
   exact ⟨h.x5,h.lX,r3,r6,lb,s0,s1,ls⟩)
  have k1:(p:Int) < (ys.length:Int):=by omega
  clear e ha h hr hf;generalize (ys[p].2.slot k).has=ha,(ys[p].2.slot k).st.aG=Pv,ys[p].2.aA.aj=rc at *;clear dC hp;generalize ys.length=n at *;have k0:(0:Int)≤(p:Int):=by omega
  have k2:(k:Int) < 2:=by omega
  have k3:(0:Int)≤(k:Int):=by omega
  obtain ⟨r,hr⟩:∃r:Int,r=if ha=false then 16 else if Pv≠se then 17 else 0:=⟨_,rfl⟩
  rw [←hr];have HR:=aa hr;clear hr;have jI:=aa (fun (w':World) (hb:Below w.heap.size w w')=>sQ (HA.o w' hb).2.2.1 (HA.o w' hb).2.2.2.2.1 jP hk);clear hk jP;go_enter Tryz.func110,Tryz.ntmps110;go_wp2_with fail;refine HF.o.mono ?_;rintro e w2 ⟨rfl,hb⟩;obtain ⟨x5,lX,r3,r6,lb,s0,s1,ls⟩:=HA.o w2 hb;have jJ:=aa (fun n=>jI.o (w2.drewN n) (below_drewN hb n));have EU:=aa (fun m n=>jI.o ((w2.drewN m).drewN n) (below_drewN (below_drewN hb m) n));have aO:=aa (fun n=>below_drewN hb n);clear hb jI HA r3;cases ha with
  | false =>
    go_wp2_with fail;go_quiet (exact Calls.quiet_of_same (jJ.o _));go_wp2_with fail;go_ret;exact ⟨bt (by rw [HR.o];rfl),aO.o _⟩
  | true =>
    by_cases g:Pv=se;case' pos=>have g2:(Pv != se)=false:=by simpa using g
    case' neg=>have g2:(Pv != se)=true:=by simpa using g
    all_goals
     have HG:=aa g;clear g;go_wp2_with fail;go_quiet (exact Calls.quiet_of_same (jJ.o _));go_wp2_with fail;obtain ⟨w3,mR⟩:∃v,v=w2.drewN nq:=⟨_,rfl⟩
     rw [←mR];have vq:=aa (aO.o nq);have tC:=aa (EU.o nq);rw [←mR] at vq tC;have r6:w3.cell? ⟨b,off+p*8+6,none⟩=some (.slice (some ⟨bS,oS,none⟩) 2 cS):=by rw [mR];exact r6
     have s1:w3.cell? ⟨bS,oS+k*5+1,none⟩=some (.int .i64 Pv):=by rw [mR];exact s1
     clear mR;go_quiet (exact Calls.quiet_of_same (tC.o _));go_wp2_with fail;go_ret;exact ⟨bt (by rw [HR.o];simp [HG.o]),below_drewN vq.o _⟩
 ·have e:dR (cK (ys.map (·.2))) q se=dm (cK (ys.map (·.2))) q:=by unfold dR;rw [if_pos hf]
  rw [e];generalize dm (cK (ys.map (·.2))) q=r at *;have g:(r != 0)=true:=by simpa using hf
  clear e h hf;go_enter Tryz.func110,Tryz.ntmps110;go_wp2_with fail;refine HF.o.mono ?_;rintro e w2 ⟨rfl,hb⟩;have aO:=aa hb;clear hb;go_wp2_with fail;go_ret;exact ⟨rfl,aO.o⟩
end
end store
namespace store


open Go.RowKit Go.Deep base obj mem sep bf bk record bP aU image bK bR chain bw
section
variable {w0 w : World} {l : List aD} {X : Nat} {tv : List Value} {v : Value} {P : List (Nat × List Value)} {ys : List (dH × RP)} {p : Nat}
structure OM (w:World) (X n p b c k bS cS:Nat) (rc:Int):Prop where
 x5:w.cell? ⟨X,5,none⟩=some (.slice (some ⟨b,0,none⟩) n c)
 lX:X < w.heap.size
 r3:w.cell? ⟨b,p*8+3,none⟩=some (.int .i64 rc)
 r6:w.cell? ⟨b,p*8+6,none⟩=some (.slice (some ⟨bS,0,none⟩) 2 cS)
 lb:b < w.heap.size
theorem OM.over {w':World} {n b c k bS cS:Nat} {rc:Int} (h:OM w X n p b c k bS cS rc) (hb:Below w.heap.size w w'):OM w' X n p b c k bS cS rc:=⟨(hb.cell h.lX).trans h.x5,Nat.lt_of_lt_of_le h.lX hb.size,(hb.cell h.lb).trans h.r3,(hb.cell h.lb).trans h.r6,Nat.lt_of_lt_of_le h.lb hb.size⟩
theorem Ip (h:St w0 w (cw X tv v P ys::l)) (iR:tv.length=5) (hr:∀y∈ys,y.2.aA.right=true) (hp:p < ys.length):∃(k b c T cT:Nat) (pre post:List Value) (F:aD),k < 2∧1-ys[p].2.aA.aj=(k:Int)∧ys[p].2.ot=k∧OM w X ys.length p b c k T cT ys[p].2.aA.aj∧pre.length=k*5∧
  St w0 w (mC T pre post P (ys[p].2.slot k)::eL P::F::l)∧
  ∀(w':World) (P':List (Nat×List Value)) (R:RS) (l':List aD),(∀x∈P,x∈P')→St w0 w' (mC T pre post P' R::eL P'::F::l')→jn w0 P ys→gM w0 w' X tv v P l' ((ys.map (·.2)).set p (ys[p].2.bx k R)):=by
 obtain ⟨k,hk,jP,dC⟩:=LM (hr _ (List.getElem_mem hp));obtain ⟨b,off,c,bS,oS,cS,bI,oI,cI,ha⟩:=sj h iR hp;obtain ⟨T,cT,pre,post,F,hl,hv,h3,iW⟩:=V0 h hp (k:=(k:Int)) (by omega)
 obtain ⟨rfl,rfl,rfl⟩:bS=T∧oS=0∧cS=cT:=by
  have e:=ha.eS.symm.trans hv;injection e with e1 _ e3
  injection e1 with e1
  injection e1 with e1 e2
  exact ⟨e1,e2,e3⟩
 have ho:off=0:=by
  obtain ⟨A,c',e,_,_⟩:=aH ((ec h).pick 1 rfl).own;subst e;obtain ⟨t,xs,rfl,_⟩:=mD ((ec h).pick 1 rfl) (by omega);have x5:=ha.x5;rw [(ec h).row.1.cell 5,List.getElem?_append_right (by omega),iR] at x5;simp at x5;exact x5.1.2.symm
 subst ho;obtain ⟨_,_,_,r3,_,_,r6,_,lb⟩:=ha.recs;rw [Nat.zero_add] at r3 r6;refine ⟨k,b,c,bS,cS,pre,post,F,hk,jP,dC,⟨ha.x5,ha.lX,r3,r6,lb⟩,by rw [hl,ea],h3,fun w' P' R l' hP h' hK=>?_⟩;obtain ⟨a,ha2,av⟩:=iW w' P' R l' hP h';exact gM.slot hK hp hP ha2 av rfl
theorem O3 (h:St w0 w (cw X tv v P ys::l)) (iR:tv.length=5) (hr:∀y∈ys,y.2.aA.right=true) (hK:jn w0 P ys) (q se sz:Int) (iu:-9223372036854775808≤sz) :
  Calls Tryz.prog 60 #[.pointer (some ⟨X,0,none⟩),.int .i64 q,.int .i64 se,.int .i64 sz] w fun e w'=>e=.returned (.int .i64 (mr (ys.map (·.2)) q se sz).1)∧gM w0 w' X tv v P l (mr (ys.map (·.2)) q se sz).2:=by
 have HF:=aa (CP h iR q);by_cases hf:dm (cK (ys.map (·.2))) q=0
 ·obtain ⟨p,rfl,hp,_⟩:=kW hf;rw [hf] at HF;rw [gN] at hp;have k1:(p:Int) < (ys.length:Int):=by omega
  have k0:(0:Int)≤(p:Int):=by omega
  have HH:=aa (fun (w':World) (hb:Below w.heap.size w w')=>Ip (h.below hb) iR hr hp)
  have HE:=aa (fun (k:Nat) (hk:ys[p].2.ot=k)=>show mr (ys.map (·.2)) (p:Int) se sz=((fF (ys[p].2.slot k) se sz).1,(ys.map (·.2)).set p (ys[p].2.bx k (fF (ys[p].2.slot k) se sz).2)) by
   unfold mr
   rw [if_neg (by simp [hf]),jg,qN hp,hk,ea])
  have HK:=aa hK;clear h hr hf hK;go_enter Tryz.func60,Tryz.ntmps60;go_wp2_with fail;refine HF.o.mono ?_;rintro e w2 ⟨rfl,hb⟩;obtain ⟨k,b,c,T,cT,pre,post,F,hk,jP,dC,hs,hl,h3,iW⟩:=HH.o w2 hb;have Ld:=aa (HE.o k dC);obtain ⟨x5,lX,r3,r6,lb⟩:=hs;have k2:(k:Int) < 2:=by omega
  have k3:(0:Int)≤(k:Int):=by omega
  have jI:=aa (fun n=>(sQ (w:=w2.drewN (1+n)) r3 lb jP hk).mono fun e w' ⟨h1,h2⟩=>(⟨h1,n,h2⟩:e=_∧∃j,w'=w2.drewN (1+j)));have rZ:=aa (fun n=>Jm hl (h3.drewN n) se sz iu);have ix:=aa iW;generalize ys[p].2.aA.aj=rc at *;clear h3 iW jP dC hb HE HH;go_wp2_with fail;refine dA ?_;(refine jT [0,1,2,3,4,5,6,7,8] (by kernel_rfl) ?_;simp only [pick,af,ae,ah];(repeat (go_big_quiet_step (with_reducible exact jI.o _)));refine wpQuiet_nil ?_;rintro _ ⟨nq,rfl⟩;(try simp only [af,ae,ah,Act.put,aq,ak,ao]));(refine aL 9 ?_;(try simp only [af,ae,ah]);go_simp);refine (rZ.o _).mono ?_;rintro e w3 ⟨rfl,h4⟩;have HX:=aa (ix.o w3 P _ l (fun _ h=>h) h4 HK.o);clear h4;(try simp only [af,ae,ah,Act.put,aq,ak,ao]);(refine bj [10] ?_;simp only [pick,af,ae,ah];(iterate 1 still_step);refine wpStill_nil ?_);refine bZ ?_;go_wp2_with fail;go_ret;rw [Ld.o];exact ⟨rfl,HX.o⟩
 ·have e:mr (ys.map (·.2)) q se sz=(dm (cK (ys.map (·.2))) q,ys.map (·.2)):=by unfold mr;rw [if_pos hf]
  rw [e];have HH:=aa (fun (w':World) (hb:Below w.heap.size w w')=>gM.same hK (h.below hb));generalize dm (cK (ys.map (·.2))) q=r at *;have g:(r != 0)=true:=by simpa using hf
  clear e h hf;go_enter Tryz.func60,Tryz.ntmps60;go_wp2_with fail;refine HF.o.mono ?_;rintro e w2 ⟨rfl,hb⟩;have HX:=aa (HH.o w2 hb);clear hb;go_wp2_with fail;go_ret;exact ⟨rfl,HX.o⟩
structure Dx (R:RS):Prop where
 right:R.has=true→R.st.right=true
 b8:wF R
 iS:bo (dt R).1
theorem I0 {A B C D:aD} (h:St w0 w (A::B::C::D::l)):St w0 w (A::B::D::C::l):=h.perm (((List.Perm.swap D C l).cons B).cons A)
theorem Sb {B:aD} {D:Option Addr} {n dc:Nat} {data:List Int} (h:St w0 w (cw X tv v P ys::B::l)) (iR:tv.length=5) (hr:∀y∈ys,y.2.aA.right=true) (hS:∀y∈ys,∀k:Int,Dx (y.2.slot k)) (hK:jn w0 P ys) (hg:qi w0 B D n data) (q se no:Int) :
  Calls Tryz.prog 61 #[.pointer (some ⟨X,0,none⟩),.int .i64 q,.int .i64 se,.int .i64 no,.slice D n dc] w fun e w'=>e=.returned (.int .i64 (pd (ys.map (·.2)) q se no data).1)∧gM w0 w' X tv v P (B::l) (pd (ys.map (·.2)) q se no data).2:=by
 have HF:=aa (CP h iR q);by_cases hf:dm (cK (ys.map (·.2))) q=0
 ·obtain ⟨p,rfl,hp,_⟩:=kW hf;rw [hf] at HF;rw [gN] at hp;have k1:(p:Int) < (ys.length:Int):=by omega
  have k0:(0:Int)≤(p:Int):=by omega
  have HH:=aa (fun (w':World) (hb:Below w.heap.size w w')=>Ip (h.below hb) iR hr hp)
  have HE:=aa (fun (k:Nat) (hk:ys[p].2.ot=k)=>show pd (ys.map (·.2)) (p:Int) se no data=((jU (ys[p].2.slot k) se no data).1,(ys.map (·.2)).set p (ys[p].2.bx k (jU (ys[p].2.slot k) se no data).2)) by
   unfold pd
   rw [if_neg (by simp [hf]),jg,qN hp,hk,ea])
  have HK:=aa hK;have HS:=aa (hS _ (List.getElem_mem hp));clear h hr hf hK hS;go_enter Tryz.func61,Tryz.ntmps61;go_wp2_with fail;refine HF.o.mono ?_;rintro e w2 ⟨rfl,hb⟩;obtain ⟨k,b,c,T,cT,pre,post,F,hk,jP,dC,hs,hl,h3,iW⟩:=HH.o w2 hb;have Ld:=aa (HE.o k dC);obtain ⟨x5,lX,r3,r6,lb⟩:=hs;have k2:(k:Int) < 2:=by omega
  have k3:(0:Int)≤(k:Int):=by omega
  have jI:=aa (fun n=>(sQ (w:=w2.drewN (1+n)) r3 lb jP hk).mono fun e w' ⟨h1,h2⟩=>(⟨h1,n,h2⟩:e=_∧∃j,w'=w2.drewN (1+j)));have rZ:=aa (fun m=>Jh (dc:=dc) hl (I0 (h3.drewN m)) hg (HS.o k).right (HS.o k).b8.b10 se no);have ix:=aa iW;generalize ys[p].2.aA.aj=rc at *;clear h3 iW jP dC hb HE HH;go_wp2_with fail;refine dA ?_;(refine jT [0,1,2,3,4,5,6,7,8,9] (by kernel_rfl) ?_;simp only [pick,af,ae,ah];(repeat (go_big_quiet_step (with_reducible exact jI.o _)));refine wpQuiet_nil ?_;rintro _ ⟨nq,rfl⟩;(try simp only [af,ae,ah,Act.put,aq,ak,ao]));(refine aL 10 ?_;(try simp only [af,ae,ah]);go_simp);refine (rZ.o _).mono ?_;rintro e w3 ⟨rfl,P',hP,h4⟩;have HX:=aa (show gM w0 w3 X tv v P (B::l) _ from ix.o w3 P' _ (B::l) hP (I0 h4) HK.o);clear h4 hP;(try simp only [af,ae,ah,Act.put,aq,ak,ao]);(refine bj [11] ?_;simp only [pick,af,ae,ah];(iterate 1 still_step);refine wpStill_nil ?_);refine bZ ?_;go_wp2_with fail;go_ret;rw [Ld.o];exact ⟨rfl,HX.o⟩
 ·have e:pd (ys.map (·.2)) q se no data=(dm (cK (ys.map (·.2))) q,ys.map (·.2)):=by unfold pd;rw [if_pos hf]
  rw [e];have HH:=aa (fun (w':World) (hb:Below w.heap.size w w')=>gM.same hK (h.below hb));generalize dm (cK (ys.map (·.2))) q=r at *;have g:(r != 0)=true:=by simpa using hf
  clear e h hf;go_enter Tryz.func61,Tryz.ntmps61;go_wp2_with fail;refine HF.o.mono ?_;rintro e w2 ⟨rfl,hb⟩;have HX:=aa (HH.o w2 hb);clear hb;go_wp2_with fail;go_ret;exact ⟨rfl,HX.o⟩
theorem Sc (h:St w0 w (cw X tv v P ys::l)) (iR:tv.length=5) (hr:∀y∈ys,y.2.aA.right=true) (hK:jn w0 P ys) (q se:Int) :
  Calls Tryz.prog 63 #[.pointer (some ⟨X,0,none⟩),.int .i64 q,.int .i64 se] w fun e w'=>e=.returned (.int .i64 (pg (ys.map (·.2)) q se).1)∧gM w0 w' X tv v P l (pg (ys.map (·.2)) q se).2:=by
 have HF:=aa (FY h iR hr q se);by_cases hf:dR (cK (ys.map (·.2))) q se=0
 ·obtain ⟨p,rfl,hp,_⟩:=kW (ur hf);rw [hf] at HF;rw [gN] at hp;have k1:(p:Int) < (ys.length:Int):=by omega
  have k0:(0:Int)≤(p:Int):=by omega
  have HH:=aa (fun (w':World) (hb:Below w.heap.size w w')=>Ip (h.below hb) iR hr hp)
  have HE:=aa (fun (k:Nat) (hk:ys[p].2.ot=k)=>show pg (ys.map (·.2)) (p:Int) se=(0,(ys.map (·.2)).set p (ys[p].2.bx k RS.none)) by
   unfold pg
   rw [if_neg (by simp [hf]),jg,qN hp,hk,ea])
  have HK:=aa hK;clear h hr hf hK;go_enter Tryz.func63,Tryz.ntmps63;go_wp2_with fail;refine HF.o.mono ?_;rintro e w2 ⟨rfl,hb⟩;obtain ⟨k,b,c,T,cT,pre,post,F,hk,jP,dC,hs,hl,h3,iW⟩:=HH.o w2 hb;have Ld:=aa (HE.o k dC);obtain ⟨x5,lX,r3,r6,lb⟩:=hs;have k2:(k:Int) < 2:=by omega
  have k3:(0:Int)≤(k:Int):=by omega
  have jI:=aa (fun n=>(sQ (w:=w2.drewN (1+n)) r3 lb jP hk).mono fun e w' ⟨h1,h2⟩=>(⟨h1,n,h2⟩:e=_∧∃j,w'=w2.drewN (1+j)));have MV:=aa (fun m=>Nm hl (h3.drew.drewN m));have ix:=aa iW;generalize ys[p].2.aA.aj=rc at *;clear h3 iW jP dC hb HE HH;go_wp2_with fail;refine dA ?_;(refine jT [0,1,2,3,4,5,6,7] (by kernel_rfl) ?_;simp only [pick,af,ae,ah];(repeat (go_big_quiet_step (with_reducible exact jI.o _)));refine wpQuiet_nil ?_;rintro _ ⟨nq,rfl⟩;(try simp only [af,ae,ah,Act.put,aq,ak,ao]));obtain ⟨cs,aZ,kP,h4⟩:=MV.o nq;have HX:=aa (ix.o _ P _ l (fun _ h=>h) h4 HK.o);clear h4;(refine aL 8 ?_;(try simp only [af,ae,ah]));refine fH.qx 118 (.tmp 28) (.tmp 27) rfl T (k*5) #[.bool false,.int .i64 0,.int .i64 0,.int .i64 0,.slice none 0 0] rfl rfl aZ (by kernel_rfl) kP (by simp [Value.oneCell']) _ rfl ?_;(try simp only [af,ae,ah,Act.put,aq,ak,ao]);refine bZ ?_;go_wp2_with fail;go_ret;rw [Ld.o];exact ⟨rfl,HX.o⟩
 ·have e:pg (ys.map (·.2)) q se=(dR (cK (ys.map (·.2))) q se,ys.map (·.2)):=by unfold pg;rw [if_pos hf]
  rw [e];have HH:=aa (fun (w':World) (hb:Below w.heap.size w w')=>gM.same hK (h.below hb));generalize dR (cK (ys.map (·.2))) q se=r at *;have g:(r==0)=false:=by simpa using hf
  clear e h hf;go_enter Tryz.func63,Tryz.ntmps63;go_wp2_with fail;refine HF.o.mono ?_;rintro e w2 ⟨rfl,hb⟩;have HX:=aa (HH.o w2 hb);clear hb;go_wp2_with fail;go_ret;exact ⟨rfl,HX.o⟩
end
end store
namespace bP

open Go.RowKit base obj mem bw bk record sep bf
theorem Tg (w:World) (now r:Rec) (h0:0≤now.seq) :
  Calls Tryz.prog 164 #[now.val,r.val] w fun e w'=>e=.returned (.tuple #[(nM now r).1.val,.int .i64 (nM now r).2])∧Below w.heap.size w w':=by
 have MS:=aa (fun r:Rec=>show (Tryz.prog.info? 35).map (·.size)=some r.cells.size from by kernel_rfl);have ML:=aa (fun r s:Rec=>show 0+r.cells.size≤s.cells.toList.length from Nat.le_refl 6);have MO:=aa (fun r:Rec=>xt r);have MR:=aa (fun r s:Rec=>show s.cells.toList.take 0++r.cells.toList++s.cells.toList.drop (0+r.cells.size)=r.cells.toList by simp [Rec.cells]);obtain ⟨nx,fQ⟩:∃nx,nx=bY now.part now r:=⟨_,rfl⟩
 have HQ:=aa (show nM now r=if 4294967295≤now.seq then (now,4) else if nx.right then (nx,0) else (now,3) by rw [fQ];rfl);have kM:=aa fQ;have HV:=aa (Rec.mA nx);clear fQ;obtain ⟨w1,aJ⟩:∃w1,w1=((w.alloc (.cells #[.int .i64 now.part,.int .i64 now.seq,.int .i64 now.ax,.int .i64 now.aj,.int .i64 now.left,.int .i64 now.bad] 35)).alloc (.cells #[.int .i64 r.part,.int .i64 r.seq,.int .i64 r.ax,.int .i64 r.aj,.int .i64 r.left,.int .i64 r.bad] 35)).alloc (.cells #[.int .i64 0,.int .i64 0,.int .i64 0,.int .i64 0,.int .i64 0,.int .i64 0] 35):=⟨_,rfl⟩
 have H1:=aa (show St w w1 [row (w.heap.size+1+1) 35 Rec.zero.cells.toList,row (w.heap.size+1) 35 r.cells.toList,row w.heap.size 35 now.cells.toList] by
  rw [aJ];have h:=(((St.nil w).new 35 now.cells).new 35 r.cells).new 35 Rec.zero.cells;rw [show ((w.alloc (.cells now.cells 35)).alloc (.cells r.cells 35)).heap.size=w.heap.size+1+1 by simp,show (w.alloc (.cells now.cells 35)).heap.size=w.heap.size+1 by simp] at h
  exact h)
 have bq:=aa aJ;clear aJ;rw [Rec.mA now,Rec.mA r];obtain ⟨n0,n1,n2,n3,n4,n5⟩:=Rec.read (H1.o.pick 2 rfl).row.1;have ln:=(H1.o.pick 2 rfl).row.1.lt;have f0:=(H1.o.pick 1 rfl).row.1.frozen 0;have f1:=(H1.o.pick 1 rfl).row.1.frozen 1;obtain ⟨r0,r1,r2,r3,r4,r5⟩:=Rec.read (H1.o.pick 1 rfl).row.1;have lr:=(H1.o.pick 1 rfl).row.1.lt;by_cases hf:4294967295≤now.seq
 ·have jK:=aa (HQ.o.trans (if_pos hf));have hf':now.seq≥4294967295:=hf;go_enter Tryz.func164,Tryz.ntmps164;go_upto_region 1 with fail;rw [←bq.o];go_wp2_with (refine aF rfl 35 (.tmp 4) (.tmp 9) rfl (w.heap.size+1+1) 0 now.cells rfl rfl H1.o.row.1 (MS.o _) (ML.o _ _) (MO.o _) now.cells.toList (MR.o _ _) ?_);refine bodyPost_ret (aM rfl _ _ (w.heap.size+1+1) _ _ _ _ _ rfl rfl (H1.o.setRow now.cells.toList).row.1 Tryz.underlying35 rfl (by kernel_rfl)) rfl ?_;exact ⟨by rw [jK.o];rfl,(H1.o.setRow now.cells.toList).aI⟩
 ·have hf':¬now.seq≥4294967295:=by omega
  have jE:now.seq≤4294967294:=by omega
  have jK:=aa (HQ.o.trans (if_neg hf));have Qt:IntKind.i64.wrap (now.seq+1)=now.seq+1:=IntWalk.i64_in _ (by omega);clear hf
  have H2:=aa (show St w _ [row (w.heap.size+1) 35 nx.cells.toList,row (w.heap.size+1+1) 35 Rec.zero.cells.toList,row w.heap.size 35 now.cells.toList] by
   have h:=(((H1.o.pick 1 rfl).set 0 (.int .i64 now.part)).set 1 (.int .i64 (now.seq+1)))
   rw [kM.o];exact h)
  obtain ⟨w2,dY⟩:∃w2,w2=(w1.setCell ⟨w.heap.size+1,0,none⟩ (.int .i64 now.part)).setCell ⟨w.heap.size+1,1,none⟩ (.int .i64 (now.seq+1)):=⟨_,rfl⟩
  rw [←dY] at H2;have iL:=aa dY;clear dY;go_enter Tryz.func164,Tryz.ntmps164;go_upto_region 1 with fail;rw [←bq.o];go_upto_region 5 with fail;rw [←iL.o];clear n0 n1 n2 n3 n4 n5 ln f0 f1 r0 r1 r2 r3 r4 r5 lr;obtain ⟨r0,r1,r2,r3,r4,r5⟩:=Rec.read H2.o.row.1;have lr:=H2.o.row.1.lt;go_wp2_with fail;rw [←HV.o];refine (fC.ft nx _).mono ?_;rintro e w3 ⟨rfl,hb⟩;have H3:=aa (H2.o.below hb);clear hb r0 r1 r2 r3 r4 r5 lr;cases hg:nx.right with
  | true =>
    have mN:=aa (jK.o.trans (if_pos hg));clear hg;obtain ⟨r0,r1,r2,r3,r4,r5⟩:=Rec.read H3.o.row.1;have lr:=H3.o.row.1.lt;go_wp2_with (refine aF rfl 35 (.tmp 4) (.tmp 21) rfl (w.heap.size+1+1) 0 nx.cells rfl rfl (H3.o.pick 1 rfl).row.1 (MS.o _) (ML.o _ _) (MO.o _) nx.cells.toList (MR.o _ _) ?_);refine bodyPost_ret (aM rfl _ _ (w.heap.size+1+1) _ _ _ _ _ rfl rfl ((H3.o.pick 1 rfl).setRow nx.cells.toList).row.1 Tryz.underlying35 rfl (by kernel_rfl)) rfl ?_;exact ⟨by rw [mN.o];rfl,((H3.o.pick 1 rfl).setRow nx.cells.toList).aI⟩
  | false =>
    have mN:=aa (jK.o.trans (if_neg (by rw [hg];decide)));clear hg;obtain ⟨r0,r1,r2,r3,r4,r5⟩:=Rec.read (H3.o.pick 2 rfl).row.1;have lr:=(H3.o.pick 2 rfl).row.1.lt;go_wp2_with (refine aF rfl 35 (.tmp 4) (.tmp 20) rfl (w.heap.size+1+1) 0 now.cells rfl rfl (H3.o.pick 1 rfl).row.1 (MS.o _) (ML.o _ _) (MO.o _) now.cells.toList (MR.o _ _) ?_);refine bodyPost_ret (aM rfl _ _ (w.heap.size+1+1) _ _ _ _ _ rfl rfl ((H3.o.pick 1 rfl).setRow now.cells.toList).row.1 Tryz.underlying35 rfl (by kernel_rfl)) rfl ?_;exact ⟨by rw [mN.o];rfl,((H3.o.pick 1 rfl).setRow now.cells.toList).aI⟩
end bP
end Go.Proofs.YtdldkkoplgkloaaGreat
