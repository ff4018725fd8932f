/- PROVED HERE: lemmas of the law. CONDITIONS: each names its own. -/
import Derived.Below
import Derived.ChangeSame
import Derived.Deep.AppendLies
import Derived.Deep.Draws
import Derived.Deep.Onto
import Derived.Handy
import Derived.Laws.AppendOwnNone
import Derived.Laws.OwnMore
import Derived.Lib.Hide
import Derived.OpenShut
import Derived.ProofKit
import Derived.StillTactics
import Derived.StillTail
import Derived.Test.YtdldkkoplgkloaaGreatRows
import Derived.WalkKit
namespace Go.Proofs.YtdldkkoplgkloaaGreat
set_option linter.unusedVariables false
set_option linter.unusedSimpArgs false
set_option maxRecDepth 100000
set_option maxHeartbeats 32000000
open Go.Value renaming int → ae
open Go.IntKind renaming i64 → aa
theorem _root_.Go.RowKit.Hid.o {p:Prop} (h:RowKit.Hid p):p:=h.out
theorem af {p:Prop} (h:p):RowKit.Hid p:=h
theorem xGs {α:Type _} {a:α} {i:Nat} {l:List α}:(a :: l)[i+1]?=l[i]?:=List.getElem?_cons_succ
theorem xGz {α:Type _} {a:α} {l:List α}:(a :: l)[0]?=some a:=List.getElem?_cons_zero
theorem xGo {α:Type _} {d a:α}:(some a).getD d=a:=Option.getD_some
theorem xSi {α:Type _} {l:List α} {i:Nat} {a:α}:l.toArray.setIfInBounds i a=(l.set i a).toArray:=List.setIfInBounds_toArray ..
theorem xSz {α:Type _} {x:α} {xs:List α} {a:α}:(x :: xs).set 0 a=a :: xs:=List.set_cons_zero
theorem xSs {α:Type _} {x:α} {xs:List α} {n:Nat} {a:α}:(x :: xs).set (n+1) a=x :: xs.set n a:=List.set_cons_succ
theorem xE {α:Sort _} (a:α):∃ v,v=a:=⟨a,rfl⟩
theorem xG:(∀ {α:Type} {a:α} {i:Nat} {l:List α},(a :: l)[i+1]?=l[i]?)∧(∀ {α:Type} {a:α} {l:List α},(a :: l)[0]?=some a)∧(∀ {α:Type} {d a:α},(some a).getD d=a):=⟨xGs,xGz,xGo⟩
theorem xS:(∀ {α:Type} {l:List α} {i:Nat} {a:α},l.toArray.setIfInBounds i a=(l.set i a).toArray)∧(∀ {α:Type} {x:α} {xs:List α} {a:α},(x :: xs).set 0 a=a :: xs)∧(∀ {α:Type} {x:α} {xs:List α} {n:Nat} {a:α},(x :: xs).set (n+1) a=x :: xs.set n a):=⟨xSi,xSz,xSs⟩
theorem ai:((∀ {α:Type} {a:α} {i:Nat} {l:List α},(a :: l)[i+1]?=l[i]?)∧(∀ {α:Type} {a:α} {l:List α},(a :: l)[0]?=some a)∧(∀ {α:Type} {d a:α},(some a).getD d=a))∧((∀ (a:Act) (d:Tmp) (v:Value),a.put (some d) v={a with tmps:=a.tmps.setIfInBounds d v})∧∀ (a:Act) (v:Value),a.put none v=a)∧(∀ {α:Type} {l:List α} {i:Nat} {a:α},l.toArray.setIfInBounds i a=(l.set i a).toArray)∧(∀ {α:Type} {x:α} {xs:List α} {a:α},(x :: xs).set 0 a=a :: xs)∧(∀ {α:Type} {x:α} {xs:List α} {n:Nat} {a:α},(x :: xs).set (n+1) a=x :: xs.set n a):=⟨xG,⟨fun _ _ _=>rfl,fun _ _=>rfl⟩,xS⟩
@[reducible] def gA:Array Value:=#[.int .i64 0,.int .i64 0,.int .i64 0,.int .i64 0,.int .i64 0,.int .i64 0,.int .i64 0,.slice none 0 0]
@[reducible] def eo:List Value:=[.int .i64 0,.int .i64 0,.int .i64 0,.int .i64 0,.int .i64 0,.int .i64 0,.int .i64 0,.slice none 0 0]
theorem cN {α:Type _} {l:List α} {i:Nat} (h:i<l.length):l[i]?=some l[i]:=List.getElem?_eq_getElem h
theorem dD {α:Type _} {l:List α} {i:Nat} {a:α}:l.getD i a=l[i]?.getD a:=List.getD_eq_getElem?_getD
theorem kr {α:Type _} {i:Nat} {l:List α} (h:i<l.length):l.take (i+1)=l.take i++[l[i]]:=List.take_succ_eq_append_getElem h
theorem dC (n:Nat):(n:Int).toNat=n:=Int.toNat_natCast n
theorem fW {α:Type _} {i:Nat} {l:List α}:(l.take i).length=min i l.length:=List.length_take
theorem gC {α:Type _} {a b:List α}:(a++b).length=a.length+b.length:=List.length_append
theorem iB {α:Type _} {β:Type _} {a:List α} (f:α→β):(a.map f).length=a.length:=List.length_map f
theorem Bf {α:Type _} {n:Nat} {a:α}:(List.replicate n a).length=n:=List.length_replicate
namespace base
open Go.RowKit Go.ChangeShapes Go.WideShapes
section
variable {xs:List Value} {B base bytes c n size t:Nat} {P:Program} {e:TypeId} {v:Value} {a w w':World}
section
variable {H : Type} {enc : TypeId × Value → H} {P : Program}
theorem RL {f:Func} {s:ChangeSpec} {apart fresh handsOn again:Bool} {W W':World} {args:Array Value} {ds gs:List (DataW H)} {before pa pv:List MemPlace} 
  (hW:DataW.Whole enc P f.params.toList s.vars apart W args.toList ds gs before)
  (aam:∀(b:Nat) (sp:Nat→Bool) (hd:Bool),DataW.TrodAll enc P W' b sp hd f.resultTypes.toList (v.resultList f.resultTypes.size) (s.fn H (ds++gs)).results [])
  (PZ:∀sp:Nat→Bool,(∀p∈before,sp p.block=true)→DataW.TrodAll enc P W' 0 sp true f.params.toList args.toList (s.fn H (ds++gs)).args pa)
  (WV:∀sp:Nat→Bool,(∀p∈before,sp p.block=true)→DataW.TrodVars enc P W' sp s.vars (s.fn H (ds++gs)).vars pv)
  (hps:before=pa++pv) (hb:Below W.heap.size W W')
  (jL:∀(j:Nat) (t:TypeId) (r:Value),f.resultTypes[j]?=some t→(v.resultList f.resultTypes.size)[j]?=some r→Value.okWide P W' .any 0 t r) :
  s.post enc P f apart fresh handsOn again W args v W':=by
 have aH:∀p∈before,p.block < W.heap.size:=fun p hp=>hW.lt p hp;have hold:∀p∈before,(fun b=>decide (b < W.heap.size)) p.block=true:=fun p hp=>by simpa using aH p hp
 refine ⟨ds,gs,before,[],pa,pv,hW,aam _ _ _,PZ _ hold,WV _ hold,World.keptBut_mono (fun p hp=>⟨hp,?_⟩) (hb.frame (·∈before)),fun _=>?_⟩
 ·rw [hps,List.mem_append] at hp;exact Or.inr hp
 ·obtain ⟨_,_,_,_,_,hz,hn⟩:=hW;refine ⟨jL,_,_,([]++pa)++pv,⟨[]++pa,pv,trodAll_append (PZ _ (fun _ _=>rfl)) (aam _ _ _),WV _ (fun _ _=>rfl),rfl,?_,?_⟩,?_⟩
  ·intro b off hp;have eE:MemPlace.cell b off∈before:=by rw [hps];simpa using hp
   rw [hb.frozen (aH _ eE)];exact hz b off eE
  ·intro ha;have:=hn ha;rw [hps] at this;simpa using this
  ·intro p hp _;rw [hps];simpa using hp
end
theorem below_drewN (h:Below B a w) (n:Nat):Below B a (w.drewN n):=⟨h.os,h.tape,h.output,h.size,h.block⟩
theorem bx {k:IntKind} {a b:Int} (h:a=b):Ending.returned (.int k a)=.returned (.int k b):=by rw [h]
theorem aA {a b:Bool} (h:a=b):Ending.returned (.bool a)=.returned (.bool b):=by rw [h]
def Sl (w:World) (B size:Nat) (A:Option Addr) (n:Nat) (xs:List Value):Prop :=
 xs.length=n*size∧(0 < n→∃b off,A=some ⟨b,off,none⟩∧b < B∧∀(k:Nat) (u:Value),xs[k]?=some u→w.cell? ⟨b,off+k,none⟩=some u)
section
variable {w w' : World} {B B' size n : Nat} {A : Option Addr} {xs : List Value}
theorem Sl.GL (w:World) (B size:Nat):Sl w B size none 0 []:=⟨by simp,fun h=>absurd h (by omega)⟩
theorem Sl.keep (h:Sl w B size A n xs) (hk:∀p:Addr,p.block < B→w'.cell? p=w.cell? p):Sl w' B size A n xs :=
 ⟨h.1,fun hn=>by
  obtain ⟨b,off,e,hb,hc⟩:=h.2 hn
  exact ⟨b,off,e,hb,fun k u hu=>(hk ⟨b,off+k,none⟩ hb).trans (hc k u hu)⟩⟩
theorem Sl.more (h:Sl w B size A n xs) (hB:B≤B'):Sl w B' size A n xs :=
 ⟨h.1,fun hn=>by
  obtain ⟨b,off,e,hb,hc⟩:=h.2 hn
  exact ⟨b,off,e,by omega,hc⟩⟩
theorem Sl.below (h:Sl w B size A n xs) (hb:Below B w w'):Sl w' B size A n xs:=h.keep fun _ hp=>hb.cell hp
theorem Sl.grown (h:Sl w B size A n xs) {row:Option Nat} (hg:w.grownBy w' row) (hB:B≤w.heap.size) (hr:∀g,row=some g→B≤g):Sl w' B size A n xs :=
 h.keep fun p hp=>World.cell?_of_block (hg.block p.block (by omega) (fun e=>by have:=hr _ e.symm;omega))
theorem Mh (g k:Nat):(⟨g,0,none⟩:Addr).add k=⟨g,0+k,none⟩:=by unfold Addr.add;split<;>simp_all
theorem Sl.bP (h:w.ownsRow base e size (.slice A n c) n xs):Sl w w.heap.size size A n xs:=by
 refine ⟨h.1,fun hn=>?_⟩;obtain ⟨g,cap,hv,_,aH⟩:=h.form hn;have hA:A=some ⟨g,0,none⟩:=by injection hv
 subst hA;exact ⟨g,0,rfl,aH,fun k u hu=>by rw [←Mh];exact h.cells (g:=g) rfl k u hu⟩
end
theorem aD (h:w.ownsRow base e size v n xs):∃A c,v=.slice A n c∧n≤c∧c≤maxLen:=by
 rcases h.2 with ⟨rfl,rfl⟩|⟨g,cap,cur,rfl,_,_,h1,h2,_⟩
 ·exact ⟨none,0,rfl,Nat.le_refl _,Nat.zero_le _⟩
 ·exact ⟨_,cap,rfl,h1,h2⟩
theorem KN (h:w.ownsRow base e size v n xs):∃A c,v=.slice A n c∧Sl w w.heap.size size A n xs:=by
 obtain ⟨A,c,rfl,_⟩:=aD h;exact ⟨A,c,rfl,Sl.bP h⟩
theorem ZB {e:Nat} {cs:Array Value} (hs:cs.size=n*size):Sl (w.alloc (.cells cs e)) (w.heap.size+1) size (some ⟨w.heap.size,0,none⟩) n cs.toList :=
 ⟨by simpa using hs,fun _=>⟨w.heap.size,0,rfl,by omega,fun k u hu=>by
  rw [Nat.zero_add,World.cell?_alloc_new]
  simpa using hu⟩⟩
theorem jq (h:Below B a w) (ho:w.ownsRow B e size v n xs) (hg:w.grownBy w' v.ownBlock) (hB:B≤w.heap.size):Below B a w' :=
 h.grown hg hB fun k hk=>(ho.lt k hk).1
theorem Hd (h:Below w.heap.size w w') (row:Option Nat):w.grownBy w' row:=⟨h.os,h.tape,h.output,h.size,fun i hi _=>h.block i hi⟩
theorem mn (ho:w.ownsRow base e size v n xs) (h:Below w.heap.size w w'):w'.ownsRow base e size v n xs :=
 ho.kept (Hd h none) (by cases hv:v.ownBlock<;>simp)
theorem mq (h:Below w.heap.size w w') {b o:Nat} {v:Value} (hc:w.cell? ⟨b,o,none⟩=some v):w'.cell? ⟨b,o,none⟩=some v :=
 (h.cell (p:=⟨b,o,none⟩) (World.block_lt_of_cell? w _ hc)).trans hc
structure qP (P:Program) (t e size bytes:Nat):Prop where
 ht:P.underlying t=some (.slice e)
 hi:∃i z,P.info? e=some i∧i.zero=some z∧i.size=size∧i.bytes=bytes∧z.cells.size=size
 hs:0 < size
theorem JQ {b c:World} {row:Option Nat} (h:a.grownBy b row) (k:b.grownBy c row):a.grownBy c row :=
 ⟨k.os.trans h.os,k.tape.trans h.tape,k.output.trans h.output,Nat.le_trans h.size k.size,fun i hi hn=>(k.block i (Nat.lt_of_lt_of_le hi h.size) hn).trans (h.block i hi hn)⟩
theorem Ox {e:Nat} (T:qP P t e size bytes) {ops:Array Oper} {rest:List Oper} {o:Oper} {a:Act} {Q:Exit→Act→World→Prop} {w:World} (eP:o.guard=none) (s x:Operand)
  (ho:o.op=.call { callee:=.builtin .append,args:=#[s,x],argTypes:=#[t,t] })
  {base:Nat} {v:Value} {n:Nat} {xs:List Value} (ft:w.ownsRow base e size v n xs) (hs:a.eval s=v) {cs:Array Value} {g:Nat} (hx:a.eval x=.slice (some ⟨g,0,none⟩) 1 1)
  (cY:cs.size=size) (h1:∀u∈cs.toList,u.oneCell'=true) (hb:(n+1)*bytes≤140737488355328) (rP:n+1≤maxLen) (pj:base≤w.heap.size)
  (h:∀v' w',w'.ownsRow base e size v' (n+1) (xs++cs.toList)→w.grownBy w' v.ownBlock→wpList P ops Q rest (a.put o.dst v') w') (xU:g=w.heap.size:=by simp) :
  wpList P ops Q (o::rest) a (w.alloc (.cells cs e)):=by
 obtain ⟨i,z,hi,hz,h2,h3,h4⟩:=T.hi;subst xU;refine wpList_append_own _ eP s x t ho base e i z size bytes T.ht hi hz h2 h3 h4 T.hs v n xs hs (ft.alloc _) ⟨w.heap.size,0,none⟩ 1 1 cs.toList hx (by simp [cY]) ?_ h1 rP hb (by simp;omega) ?_
 ·intro j u hu;rw [Mh];simpa using hu
 ·intro v' w' FJ hg _;exact h v' w' FJ (JQ (World.grownBy_alloc w _ _) hg)
theorem TG {e:Nat} (T:qP P t e size bytes) {ops:Array Oper} {rest:List Oper} {o:Oper} {a:Act} {Q:Exit→Act→World→Prop} {w:World} (eP:o.guard=none) (s x:Operand)
  (ho:o.op=.call { callee:=.builtin .append,args:=#[s,x],argTypes:=#[t,t] })
  {base:Nat} {v:Value} {n:Nat} {xs:List Value} (ft:w.ownsRow base e size v n xs) (hs:a.eval s=v) {B m c:Nat} {A:Option Addr} {ys:List Value} (hx:a.eval x=.slice A m c) (hA:A=none→c=0)
  (hr:Sl w B size A m ys) (h1:∀u∈ys,u.oneCell'=true) (hb:(n+m)*bytes≤140737488355328) (rP:n+m≤maxLen) (pj:base≤w.heap.size)
  (h:∀v' w',w'.ownsRow base e size v' (n+m) (xs++ys)→w.grownBy w' v.ownBlock→wpList P ops Q rest (a.put o.dst v') w') :
  wpList P ops Q (o::rest) a w:=by
 obtain ⟨i,z,hi,hz,h2,h3,h4⟩:=T.hi;rcases A with _|ad
 ·have hm:m=0:=by
   rcases Nat.eq_zero_or_pos m with h0|h0
   ·exact h0
   ·obtain ⟨b,off,h,_⟩:=hr.2 h0;cases h
  subst hm;obtain rfl:ys=[]:=List.eq_nil_of_length_eq_zero (by simpa using hr.1);rw [hA rfl] at hx;refine wpList_append_own_none eP s x t ho base e i size T.ht hi v n xs hs ft hx ?_;exact h v w (by simpa using ft) (World.grownBy.refl w _)
 ·refine wpList_append_own _ eP s x t ho base e i z size bytes T.ht hi hz h2 h3 h4 T.hs v n xs hs ft ad m c ys hx hr.1 ?_ h1 rP hb pj fun v' w' FJ hg _=>h v' w' FJ hg;intro j u hu
  have hm:0 < m:=by
   rcases Nat.eq_zero_or_pos m with h0|h0
   ·subst h0;have hn:ys=[]:=List.eq_nil_of_length_eq_zero (by simpa using hr.1);subst hn;simp at hu
   ·exact h0
  obtain ⟨b,off,he,_,hc⟩:=hr.2 hm;injection he with he
  subst he;have Ad:(⟨b,off,none⟩:Addr).add j=⟨b,off+j,none⟩:=by unfold Addr.add;split<;>simp_all
  rw [Ad];exact hc j u hu
theorem yJ {A:Option Addr} (h:w.ownsRow base e size (.slice A n c) n xs):A=none→c=0:=by
 rintro rfl;rcases h.2 with ⟨hv,_⟩|⟨g,cap,cur,hv,_⟩
 ·injection hv
 ·injection hv with hv;cases hv
theorem ji (l:List Int):∀u∈l.map (Value.int .u8),u.oneCell'=true:=by
 intro u hu;obtain ⟨z,_,rfl⟩:=List.mem_map.1 hu;rfl
end
end base
namespace aW
open Go.RowKit
section
variable {a:Act} {W ao:Array Bool} {i j:Nat} {o oi:Oper} {v:Value}
section
variable {P : Program}
def Calm (P:Program) {α:Type} (s:Sem α):Prop:=∀w a w',s.run P w=.ok a w'→w'=w
def iM (P:Program) {α:Type} (s:Sem α):Prop:=∀w a w',s.run P w=.ok a w'→w'=w∧∀w2,s.run P w2=.ok a w2
section
variable {α β : Type}
theorem iM.calm {s:Sem α} (h:iM P s):Calm P s:=fun w a w' hr=>(h w a w' hr).1
theorem Cb (a:α):Calm P (Pure.pure a:Sem α):=fun w b w' h=>by simp at h;exact h.2.symm
theorem cx (a:α):iM P (Pure.pure a:Sem α):=fun w b w' h=>by simp at h;exact ⟨h.2.symm,fun w2=>by simp [h.1]⟩
theorem fM (s:String):iM P (stuck s:Sem α):=fun w b w' h=>by simp [stuck] at h
theorem qE (r:Unsupported):iM P (unsupported r:Sem α):=fun w b w' h=>by simp [unsupported] at h
def Ar (P:Program) {α:Type} (s:Sem α):Prop:=∀w a w',s.run P w≠.ok a w'
theorem Ar.indep {s:Sem α} (h:Ar P s):iM P s:=fun w a w' hr=>absurd hr (h w a w')
theorem zS {s:Sem α} {f:α→Sem β} (k:∀a,Ar P (f a)):Ar P (s >>= f):=fun w b w' hr=>by
 rw [Sem.run_bind] at hr;cases hs:s.run P w with
 | halt x w1=>rw [hs] at hr;simp at hr
 | ok a w1 =>
   rw [hs] at hr;exact k a w1 b w' (by simpa using hr)
theorem AB (v:Value):Ar P (goPanic v:Sem α):=fun w b w' h=>by simp [goPanic] at h
theorem rT {s:Sem α} {f:α→Sem β} (h:Calm P s) (k:∀a,Calm P (f a)):Calm P (s >>= f):=fun w b w' hr=>by
 rw [Sem.run_bind] at hr;cases hs:s.run P w with
 | halt x w1=>rw [hs] at hr;simp at hr
 | ok a w1 =>
   rw [hs] at hr;have:=h w a w1 hs;subst this;exact k a _ _ _ (by simpa using hr)
theorem fp {s:Sem α} {f:α→Sem β} (h:iM P s) (k:∀a,iM P (f a)):iM P (s >>= f):=fun w b w' hr=>by
 rw [Sem.run_bind] at hr;cases hs:s.run P w with
 | halt x w1=>rw [hs] at hr;simp at hr
 | ok a w1 =>
   rw [hs] at hr;obtain ⟨h1,h2⟩:=h w a w1 hs;subst h1;obtain ⟨k1,k2⟩:=k a _ _ _ (show (f a).run P w1=.ok b w' by simpa using hr);exact ⟨k1,fun w2=>by rw [Sem.run_bind,h2 w2];simpa using k2 w2⟩
theorem uF:iM P program:=fun w b w' h=>by
 simp [program,Sem.run] at h;exact ⟨h.2.symm,fun w2=>by simp [program,Sem.run,h.1]⟩
theorem oo (t:TypeId):iM P (underlying t):=by
 unfold underlying;refine fp uF fun p=>?_;split
 ·exact cx _
 ·exact fM _
theorem yO (t:TypeId):iM P (typeInfo t):=by
 unfold typeInfo;refine fp uF fun p=>?_;split
 ·exact cx _
 ·exact fM _
theorem wD (t:TypeId):iM P (sizeOf t):=by
 unfold sizeOf;exact fp (yO t) fun i=>cx _
theorem Du (t:TypeId):iM P (isAgg t):=by
 unfold isAgg;refine fp (oo t) fun i=>?_;split<;>exact cx _
theorem tB (v:Value):iM P (Instr.sureAddr v):=by
 unfold Instr.sureAddr;split
 ·exact cx _
 ·exact fM _
theorem K7 (v:Value):iM P (asBool v):=by
 unfold asBool;split
 ·exact cx _
 ·exact fM _
theorem JP (v:Value):iM P (asIntOf v):=by
 unfold asIntOf;split
 ·exact cx _
 ·exact qE _
 ·exact fM _
theorem eC (e:RuntimeError):Ar P (runtimePanic e:Sem α):=by
 unfold runtimePanic;refine zS fun p=>?_;cases e<;>first|exact AB _|(repeat (first|exact AB _|refine zS fun _=>?_))
theorem Df (k:IntKind) (x y:Int) (c:BoundsCode):Ar P (boundsPanic k x y c:Sem α):=by
 unfold boundsPanic;simp only;split<;>exact zS fun _=>eC _
theorem Jg (a:Addr) (m:Mode):Calm P (load a m):=fun w b w' h=>by
 simp only [load,Sem.run] at h;split at h
 ·simp at h;exact h.2.symm
 ·split at h
  ·simp at h;exact h.2.symm
  ·simp at h
theorem ur (a:Addr):∀(n i:Nat) (acc:Array Value),Calm P (loadCellsFrom a i n acc)
 | 0,_,_=>Cb _
 | n+1,i,acc=>by
   unfold loadCellsFrom;exact rT (Jg _ _) fun v=>ur a n _ _
theorem L6 (t:TypeId) (a:Addr):Calm P (loadVar t a):=by
 unfold loadVar;refine rT (Du t).calm fun b=>?_;split
 ·exact rT (wD t).calm fun n=>rT (ur _ _ _ _) fun cs=>Cb _
 ·exact Jg _ _
theorem PG (t:TypeId) (cs:Array Value) (off:Nat):iM P (part t cs off):=by
 unfold part;refine fp (Du t) fun b=>?_;split
 ·exact fp (wD t) fun n=>cx _
 ·split
  ·exact cx _
  ·exact fM _
theorem mT:∀(l:List FieldStep) (t:TypeId) (x:Option Value),iM P (followBlind l t x)
 | [],t,x=>by unfold followBlind;exact cx _
 | s::rest,t,x=>by
   unfold followBlind;refine fp (oo _) fun d=>?_;split
   ·split
    ·split
     ·exact cx _
     ·exact mT rest _ _
     ·exact fM _
     ·exact cx _
     ·exact fp (PG _ _ _) fun v=>mT rest _ _
     ·exact fM _
     ·exact mT rest _ _
    ·exact fM _
   ·exact fM _
theorem yP:∀(n:Nat) (t:TypeId) (v:Value) (name:String),iM P (nilAhead n t v name)
 | 0,t,v,name=>by unfold nilAhead;exact cx _
 | n+1,t,v,name=>by
   unfold nilAhead;refine fp (yO _) fun d=>?_;split
   ·refine fp (mT _ _ _) fun r=>?_;split
    ·exact cx _
    ·split
     ·exact yP n _ _ _
     ·exact cx _
     ·exact fM _
     ·exact cx _
     ·exact cx _
     ·refine fp (oo _) fun u=>?_;split<;>exact cx _
   ·exact fM _
theorem Dt {s:Sem Value} (h:iM P s):iM P (do Pure.pure (Next.value (←s)):Sem Next):=fp h fun v=>cx _
theorem Qs {s:Sem Value} (h:Calm P s):Calm P (do Pure.pure (Next.value (←s)):Sem Next):=rT h fun v=>Cb _
def wE (P:Program) (o:Oper):Bool :=
 match o.op with
 | .move _|.assign _|.pick _ _ _|.nilCheck _|.indexAddr _ _ _=>true
 | .fieldAddr s _ k=>match P.underlying s with
   | some (.struct fs)=>match fs[k]? with
     | some f=>match P.info? f.type with
       | some i=>i.size != 0
       | none=>false
     | none=>false
   | _=>false
 | _=>false
def qU (P:Program) (o:Oper):Bool :=
 match o.op with
 | .load _ _=>true
 | _=>wE P o
theorem M5 (t:TypeId) (x i:Value):iM P (Instr.indexAt t x i):=by
 unfold Instr.indexAt
 repeat' (first|exact cx _|exact fM _|exact qE _|exact (Df _ _ _ _).indep|exact JP _|exact oo _|exact wD _|exact tB _|refine fp ?_ fun _=>?_|split|dsimp only)
theorem Ex (h:wE P o=true) (ρ:Operand→Value):iM P (execOp ρ o):=by
 obtain ⟨dst,op,type,pos,after,guard⟩:=o;cases op<;>simp only [wE] at h<;>first|(cases h;done)|skip
 case move x=>exact cx _
 case assign x=>exact cx _
 case pick c a b=>exact fp (K7 _) fun b=>cx _
 case nilCheck x =>
  simp only [execOp];split
  ·exact (eC _).indep
  ·exact (eC _).indep
  ·exact (eC _).indep
  ·split
   ·exact (eC _).indep
   ·repeat' (first|exact cx _|exact qE _|exact uF|exact yP _ _ _ _|refine fp ?_ fun _=>?_|split)
   ·exact cx _
  ·exact cx _
 case fieldAddr s x k =>
  split at h
  ·rename_i fs hu
   split at h
   ·rename_i f hf
    split at h
    ·rename_i i hi
     refine Dt ?_;unfold Instr.fieldAt;have hz:i.size≠0:=by simpa using h
     intro w a w' hr;simp [run_underlying hu,hf] at hr ⊢;cases hs:(Instr.sureAddr (ρ x)).run P w with
     | halt y w1=>rw [hs] at hr;simp at hr
     | ok ad w1 =>
       obtain ⟨h1,h2⟩:=tB (ρ x) w ad w1 hs;subst h1;simp only [hs,Result.andThen_ok,fieldPlace,Sem.run_bind,sizeOf,typeInfo,run_program,hi,Sem.run_pure,hz,if_false] at hr;simp only [h2,Result.andThen_ok,fieldPlace,Sem.run_bind,sizeOf,typeInfo,run_program,hi,Sem.run_pure,hz,if_false];simp at hr ⊢;exact ⟨hr.2.symm,hr.1⟩
    ·cases h
   ·cases h
  ·cases h
 case indexAddr t x i=>exact Dt (M5 _ _ _)
theorem Y4 (h:qU P o=true) (ρ:Operand→Value):∀w n w',(execOp ρ o).run P w=.ok n w'→w'=w:=by
 by_cases hi:wE P o=true
 ·exact (Ex hi ρ).calm
 ·obtain ⟨dst,op,type,pos,after,guard⟩:=o;cases op<;>first|(exact absurd h hi)|skip
  case load t x =>
   simp only [execOp];refine Qs ?_;unfold Instr.loadAt;exact rT (tB _).calm fun a=>L6 _ _
end
def KV (P:Program) (s:Sem Next):Prop:=∀w n w',s.run P w=.ok n w'→∃v,n=.value v
theorem YC {α:Type} {s:Sem α} {f:α→Sem Next} (k:∀a,KV P (f a)):KV P (s >>= f):=fun w n w' h=>by
 rw [Sem.run_bind] at h;cases hs:s.run P w with
 | halt x w1=>rw [hs] at h;simp at h
 | ok a w1=>rw [hs] at h;exact k a w1 n w' (by simpa using h)
theorem YB (v:Value):KV P (Pure.pure (Next.value v)):=fun w n w' h=>by simp at h;exact ⟨_,h.1.symm⟩
theorem GO (u:Unsupported):KV P (unsupported u):=fun w n w' h=>by simp [unsupported] at h
theorem zX {s:Sem Value} {w:World} {n:Next} {w':World} (h:(do Pure.pure (Next.value (←s)):Sem Next).run P w=.ok n w'):∃v,n=.value v:=by
 rw [Sem.run_bind] at h;cases hs:s.run P w with
 | halt x w1=>rw [hs] at h;simp at h
 | ok a w1=>rw [hs] at h;simp at h;exact ⟨a,h.1.symm⟩
theorem uu (h:qU P o=true) (ρ:Operand→Value):∀w n w',(execOp ρ o).run P w=.ok n w'→∃v,n=.value v:=by
 intro w n w' hr;obtain ⟨dst,op,type,pos,after,guard⟩:=o;cases op<;>simp only [qU,wE] at h<;>first|(cases h;done)|skip
 case move x=>simp [execOp] at hr;exact ⟨_,hr.1.symm⟩
 case assign x=>simp [execOp] at hr;exact ⟨_,hr.1.symm⟩
 case pick c a b =>
  simp only [execOp] at hr;rw [Sem.run_bind] at hr;cases hs:(asBool (ρ c)).run P w with
  | halt x w1=>rw [hs] at hr;simp at hr
  | ok a w1=>rw [hs] at hr;simp at hr;exact ⟨_,hr.1.symm⟩
 case nilCheck x =>
  simp only [execOp] at hr;split at hr
  ·exact absurd hr (eC _ _ _ _)
  ·exact absurd hr (eC _ _ _ _)
  ·exact absurd hr (eC _ _ _ _)
  ·split at hr
   ·exact absurd hr (eC _ _ _ _)
   ·refine (?_:KV P _) w n w' hr
    repeat' (first|exact YB _|exact GO _|refine YC fun _=>?_|split|dsimp only)
   ·simp at hr;exact ⟨_,hr.1.symm⟩
  ·simp at hr;exact ⟨_,hr.1.symm⟩
 case fieldAddr s x k=>exact zX hr
 case indexAddr t x i=>exact zX hr
 case load t x=>exact zX hr
section
variable {ops : Array Oper} {Q : Exit → Act → World → Prop} {md : Region.Mode} {w : World}
def nK (md:Region.Mode) (ops:Array Oper) (ao:Array Bool):Prop:=∀j oj,ops[j]?=some oj→ao.getD j false=true→∀e∈oj.after,Region.binds md e=true→ao.getD e.on false=true
theorem nK.start:nK md ops (Array.replicate ops.size false):=fun j oj _ hl=>by rw [getD_replicate_false] at hl;cases hl
theorem nK.set (inv:nK md ops ao) (hi:i∈Region.ready md ops ao):nK md ops (ao.setIfInBounds i true):=by
 obtain ⟨_,oi,oN,cH⟩:=mem_ready.1 hi;intro j oj hj hl e he hb;by_cases hij:i=j
 ·subst hij;have:oj=oi:=Option.some.inj (hj.symm.trans oN);subst this;exact getD_set_true (cH e he hb)
 ·rw [getD_set_ne false hij] at hl;exact getD_set_true (inv j oj hj hl e he hb)
def rC (md:Region.Mode) (ops:Array Oper) (i:Nat):Array Bool :=
 (List.range ops.size).foldl (fun W j=>if j==i||(match ops[j]? with|some oj=>oj.after.any fun e=>Region.binds md e&&W.getD e.on false|none=>false) then W.setIfInBounds j true else W) (Array.replicate ops.size false)
def zB (md:Region.Mode) (ops:Array Oper) (i:Nat) (W:Array Bool):Bool :=
 (List.range ops.size).all fun j=>!W.getD j false||j==i||(match ops[j]? with|some oj=>oj.after.any fun e=>Region.binds md e&&decide (e.on < j)&&W.getD e.on false|none=>false)
theorem Ke {i:Nat} {W ao:Array Bool} (hW:zB md ops i W=true) (hc:nK md ops ao) (hi:ao.getD i false=false):∀n j,j < n→j < ops.size→W.getD j false=true→ao.getD j false=false
 | 0,j,h,_,_=>absurd h (by omega)
 | n+1,j,h,hj,hw=>by
   have h1:=List.all_eq_true.1 hW j (List.mem_range.2 hj);simp only [hw,Bool.not_true,Bool.false_or,Bool.or_eq_true,beq_iff_eq] at h1;rcases h1 with h1|h1
   ·rw [h1];exact hi
   ·split at h1
    ·rename_i oj yZ
     obtain ⟨e,he,hb⟩:=Array.any_eq_true'.1 h1;simp only [Bool.and_eq_true,decide_eq_true_eq] at hb;cases hl:ao.getD j false with
     | false=>rfl
     | true =>
       have h2:=hc j oj yZ hl e he hb.1.1;have h3:=Ke hW hc hi n e.on (by omega) (by omega) hb.2;rw [h3] at h2;cases h2
    ·cases h1
theorem Ik (hW:zB md ops i W=true) (hc:nK md ops ao) (hi:ao.getD i false=false) (hj:j∈Region.ready md ops ao) (kt:j≠i):W.getD j false=false:=by
 cases hw:W.getD j false with
 | false=>rfl
 | true =>
   obtain ⟨ED,oj,yZ,cH⟩:=mem_ready.1 hj;have jz:j < ops.size:=(Array.getElem?_eq_some_iff.1 yZ).1;have h1:=List.all_eq_true.1 hW j (List.mem_range.2 jz);simp only [hw,Bool.not_true,Bool.false_or,Bool.or_eq_true,beq_iff_eq,kt,false_or,yZ] at h1;obtain ⟨e,he,hb⟩:=Array.any_eq_true'.1 h1;simp only [Bool.and_eq_true,decide_eq_true_eq] at hb;have h2:=cH e he hb.1.1;have h3:=Ke hW hc hi (e.on+1) e.on (by omega) (by omega) hb.2;rw [h3] at h2;cases h2
theorem Kb {oj:Oper} (hj:ops[j]?=some oj) (hap:oi.apart ops oj=true)
  (Dx:∀cs b,oi.op≠.select cs b) (hsj:∀cs b,oj.op≠.select cs b) (J1:qU P oj=true)
  (hQ:∀c a w,Q (.panic c) (a.put oi.dst v) w→Q (.panic c) a w) {K:Act→World→Prop} {a:Act}
  (hy:YieldsAt P ops w oi v a) (h:wpOp P ops Q j K (a.put oi.dst v) w) :
  wpOp P ops Q j (fun a' w'=>w'=w∧YieldsAt P ops w oi v a'∧K (a'.put oi.dst v) w') a w:=by
 obtain ⟨h1,h2,h3⟩:=Oper.apart_spec hap
 have keep:∀(a:Act),YieldsAt P ops w oi v a→∀u,YieldsAt P ops w oi v (a.put oj.dst u):=fun a hy u =>
  hy.of_same (execOp_put oi Dx a oj.dst u h3) (wanted_put oi a oj.dst u h3)
 unfold wpOp at *;simp only [hj] at *;rw [wanted_put oj a oi.dst v h1] at h;split
 ·rename_i hw
  simp only [hw,if_true] at h;rcases h with h|⟨Xi,abR⟩
  case inr=>exact .inr ⟨by unfold Oper.asks at *;rw [execOp_put oj hsj a oi.dst v h1] at Xi;exact Xi,abR⟩
  refine .inl ?_;unfold Oper.wp at *;rw [execOp_put oj hsj a oi.dst v h1] at h;have hcr:=Y4 J1 a.eval w;have hval:=uu J1 a.eval w;generalize (execOp a.eval oj).run P w=r at *;cases r with
  | ok n w' =>
    obtain ⟨u,rfl⟩:=hval n w' rfl;have hww:=hcr _ w' rfl;subst hww;simp only [Oper.upon] at h ⊢;exact ⟨by first|rfl|trivial,keep a hy u,by rw [←Act.put_comm a v u h2];exact h⟩
  | halt x w' =>
    cases x<;>simp only [Oper.upon] at h ⊢;case panic u=>exact hQ _ _ _ h
 ·rename_i hw
  simp only [hw] at h;exact ⟨by first|rfl|trivial,keep a hy _,by rw [←Act.put_comm a v undef h2];exact h⟩
theorem EV (hi:ops[i]?=some oi) (kg:∀(j:Nat) (o:Oper) cs b,ops[j]?=some o→o.op≠.select cs b)
  (hQ:∀c a w,Q (.panic c) (a.put oi.dst v) w→Q (.panic c) a w) (hW:zB md ops i W=true) :
  ∀(fuel:Nat) (ao:Array Bool) (a:Act),nK md ops ao→
   (∀j oj,ops[j]?=some oj→j≠i→ao.getD j true=false→(∀e∈oj.after,Region.binds md e=true→e.on≠i)→oi.apart ops oj=true)→
   (∀j oj,ops[j]?=some oj→j≠i→ao.getD j true=false→W.getD j false=true∨qU P oj=true)→
   i∈Region.ready md ops ao→YieldsAt P ops w oi v a→
   wpAny P md ops Q fuel (ao.setIfInBounds i true) (a.put oi.dst v) w→wpAny P md ops Q (fuel+1) ao a w:=by
 intro fuel
 induction fuel with
 | zero =>
   intro ao a _ _ _ hr hy H;refine ⟨fun h=>(by rw [h] at hr;cases hr),fun j hj=>?_⟩;by_cases kt:j=i
   ·subst kt;exact wpOp_of_stOp (fun a' h=>h) (hy.stOp hi H)
   ·have:=ready_mono hj kt;rw [H.1] at this;cases this
 | succ fuel ih =>
   intro ao a hc FQ hq hr hy H;refine ⟨fun h=>(by rw [h] at hr;cases hr),fun j hj=>?_⟩;by_cases kt:j=i
   ·subst kt;exact wpOp_of_stOp (fun a' h=>h) (hy.stOp hi H)
   ·have h1:=H.2 j (ready_mono hj kt);obtain ⟨ED,oj,yZ,cH⟩:=mem_ready.1 hj;have qw:=(mem_ready.1 hr).1
    have VP:∀e∈oj.after,Region.binds md e=true→e.on≠i:=fun e he hb heq=>by
     have h1:=cH e he hb;rw [heq,getD_both qw] at h1;cases h1
    have J1:qU P oj=true:=by
     rcases hq j oj yZ kt ED with h|h
     ·rw [Ik hW hc (getD_both qw) hj kt] at h;cases h
     ·exact h
    have h2:=Kb yZ (FQ j oj yZ kt ED VP) (fun cs b=>kg i oi cs b hi) (fun cs b=>kg j oj cs b yZ) J1 hQ hy h1
    have stay:∀k,(ao.setIfInBounds j true).getD k true=false→ao.getD k true=false:=fun k h=>by
     by_cases xP:j=k
     ·subst xP;exact ED
     ·rwa [getD_set_ne true xP] at h
    refine wpOp_mono (fun a' w' h3=>?_) h2;obtain ⟨rfl,h4,h5⟩:=h3;refine ih (ao.setIfInBounds j true) a' (hc.set hj) (fun k ok hk FO hu jS=>FQ k ok hk FO (stay k hu) jS) (fun k ok hk FO hu=>hq k ok hk FO (stay k hu)) (ready_mono hr (Ne.symm kt)) h4 ?_;rw [Array.setIfInBounds_comm _ _ kt];exact h5
def Kt (md:Region.Mode) (ops:Array Oper):List Nat→Array Bool→Bool
 | [],ao=>(Region.ready md ops ao).isEmpty
 | t::r,ao=>decide (Region.ready md ops ao=[t])&&Kt md ops r (ao.setIfInBounds t true)
def pick (l:List Oper):List Nat→List Oper
 | []=>[]
 | i::r=>(l[i]?).getD default::pick l r
theorem Ay {l:List Oper}:∀(tl:List Nat) (ao:Array Bool) (a:Act) (w:World),(∀i∈tl,i < l.length)→
  Kt md l.toArray tl ao=true→wpList P l.toArray Q (pick l tl) a w→wpAny P md l.toArray Q tl.length ao a w
 | [],_,_,_,_,hB,h=>⟨by simpa [Kt] using hB,h⟩
 | t::r,ao,a,w,hl,hB,h=>by
   have aH:t < l.length:=hl t (by simp);have h0:l.toArray[t]?=some ((l[t]?).getD default):=by simp [cN aH]
   simp only [Kt,Bool.and_eq_true,decide_eq_true_eq] at hB;refine ⟨fun h1=>(by rw [hB.1] at h1;cases h1),fun i hi=>?_⟩;rw [hB.1] at hi;have hik:i=t:=by simpa using hi
   subst hik;have hw:wpOp P l.toArray Q i (wpList P l.toArray Q (pick l r)) a w:=by unfold wpOp;simp only [h0];exact h
   exact wpOp_mono (fun a' w' h'=>Ay r _ a' w' (fun j hj=>hl j (by simp [hj])) hB.2 h') hw
def Qd (md:Region.Mode) (ops:Array Oper) (oy:List (List Nat)) (ao:Array Bool):Bool :=
 decide (Region.ready md ops ao=oy.map fun tl=>tl.headD 0)&&oy.all fun tl=>match tl with
  | []=>false
  | i::r=>Kt md ops r (ao.setIfInBounds i true)
def mU (P:Program) (Q:Exit→Act→World→Prop) (l:List Oper) (w:World) (a:Act):List (List Nat)→Prop
 | []=>Q .normal a w
 | [tl]=>wpList P l.toArray Q (pick l tl) a w
 | tl::r=>wpList P l.toArray Q (pick l tl) a w∧mU P Q l w a r
theorem IP {l:List Oper} {a:Act}:∀{oy:List (List Nat)},mU P Q l w a oy→∀tl∈oy,wpList P l.toArray Q (pick l tl) a w
 | [],_,tl,h=>absurd h (by simp)
 | [x],hf,tl,h=>by
   have:tl=x:=by simpa using h
   subst this;exact hf
 | x::y::r,hf,tl,h=>by
   rcases List.mem_cons.1 h with rfl|h
   ·exact hf.1
   ·exact IP hf.2 tl h
theorem Gs {l:List Oper} (oy:List (List Nat)) (n:Nat) (ao:Array Bool) (a:Act) (hl:∀tl∈oy,tl.length=n∧∀i∈tl,i < l.length)
  (hB:Qd md l.toArray oy ao=true) (h:mU P Q l w a oy):wpAny P md l.toArray Q n ao a w:=by
 simp only [Qd,Bool.and_eq_true,decide_eq_true_eq] at hB;obtain ⟨hr,hB⟩:=hB;cases oy with
 | nil=>exact wpAny_done (by simpa using hr) h n
 | cons x r =>
   have hx:=hl x (by simp);have hxB:=List.all_eq_true.1 hB x (by simp);cases n with
   | zero =>
     have:x=[]:=List.eq_nil_of_length_eq_zero hx.1;subst this;cases hxB
   | succ n =>
     refine ⟨fun h1=>(by rw [hr] at h1;cases h1),fun i hi=>?_⟩;rw [hr] at hi;obtain ⟨tl,wH,hti⟩:=List.mem_map.1 hi;have h1:=hl tl wH;have h2:=List.all_eq_true.1 hB tl wH;have h3:=IP h tl wH;cases tl with
     | nil=>cases h2
     | cons t q =>
       have hik:t=i:=by simpa using hti
       subst hik;have aH:t < l.length:=h1.2 t (by simp);have h0:l.toArray[t]?=some ((l[t]?).getD default):=by simp [cN aH]
       have hw:wpOp P l.toArray Q t (wpList P l.toArray Q (pick l q)) a w:=by unfold wpOp;simp only [h0];exact h3
       have hq:q.length=n:=by simpa using h1.1
       rw [←hq];exact wpOp_mono (fun a' w' h'=>Ay q _ a' w' (fun j hj=>h1.2 j (by simp [hj])) h2 h') hw
def dI (P:Program) (md:Region.Mode) (ops:Array Oper) (oy:List (List Nat)):List Nat→Array Bool→Bool
 | [],ao=>Qd md ops oy ao
 | i::r,ao=>(Region.ready md ops ao).contains i&&Region.free md ops ao i&&(match ops[i]? with
    | some oi=>wE P oi||(zB md ops i (rC md ops i)&&(List.range ops.size).all fun j=>j==i||ao.getD j true||(rC md ops i).getD j false||(match ops[j]? with
      | some oj=>qU P oj
      | none=>true))
    | none=>false)&&dI P md ops oy r (ao.setIfInBounds i true)
def WT (P:Program) (ops:Array Oper) (hd:List Nat) (oy:List (List Nat)):Bool :=
 Region.noSelect ops&&decide (hd.length≤ops.size)&&(oy.all fun tl=>decide (tl.length=ops.size-hd.length)&&tl.all fun i=>decide (i < ops.size))&&dI P .any ops oy hd (Array.replicate ops.size false)
theorem qX (hQ:∀c a d v w,Q (.panic c) (Act.put a (some d) v) w→Q (.panic c) a w):∀c a d v w,Q (.panic c) (Act.put a d v) w→Q (.panic c) a w:=fun c a d v w h=>by
 cases d with
 | none=>exact h
 | some d=>exact hQ c a d v w h
theorem yz {l:List Oper} {oy:List (List Nat)} {n:Nat} (kg:Region.noSelect l.toArray=true) (wH:∀tl∈oy,tl.length=n∧∀i∈tl,i < l.length)
  (hQ:∀c a d v w,Q (.panic c) (Act.put a (some d) v) w→Q (.panic c) a w):∀(hd:List Nat) (ao:Array Bool) (a:Act),nK md l.toArray ao→dI P md l.toArray oy hd ao=true→
  wpStill P l.toArray w (fun a'=>mU P Q l w a' oy) (pick l hd) a→wpAny P md l.toArray Q (hd.length+n) ao a w
 | [],ao,a,_,hB,h=>by
   rw [List.length_nil,Nat.zero_add];exact Gs oy n ao a wH hB h
 | i::r,ao,a,hc,hB,h=>by
   simp only [dI,Bool.and_eq_true] at hB;obtain ⟨⟨⟨hr,hf⟩,hk⟩,hB⟩:=hB;have sC:i∈Region.ready md l.toArray ao:=by simpa using hr
   cases oN:l.toArray[i]? with
   | none=>rw [oN] at hk;cases hk
   | some oi =>
     have z9:(l[i]?).getD default=oi:=by
      have:l[i]?=some oi:=by simpa using oN
      rw [this];rfl
     have h':stOp P l.toArray w i (wpStill P l.toArray w (fun a'=>mU P Q l w a' oy) (pick l r)) a:=by
      unfold stOp;simp only [oN];simp only [pick,z9] at h;exact h
     obtain ⟨v,hy,hn⟩:=yieldsAt_of_stOp oN h';have ih:=yz kg wH hQ r _ _ (hc.set sC) hB hn;rw [List.length_cons,show r.length+1+n=(r.length+n)+1 by omega];rw [oN] at hk;simp only [Bool.or_eq_true,Bool.and_eq_true] at hk;rcases hk with hk|⟨hW,hk⟩
     ·refine wpAny_take oN kg hf hr (fun c a w h=>qX hQ c a _ _ w h) ?_ ih;rcases hy with ⟨hw,hv|⟨hv,rfl⟩|⟨f,args,hv,qC⟩⟩|⟨hw,rfl⟩
      ·exact .inl ⟨hw,(Ex hk _ _ _ _ hv).2⟩
      ·obtain ⟨u,hu⟩:=uu (by unfold qU;split;exact rfl;exact hk) _ _ _ _ hv;cases hu
      ·obtain ⟨u,hu⟩:=uu (by unfold qU;split;exact rfl;exact hk) _ _ _ _ hv;cases hu
      ·exact .inr ⟨hw,rfl⟩
     ·refine EV oN (Region.noSelect_spec kg) (fun c a w h=>qX hQ c a _ _ w h) hW _ ao a hc (Region.free_spec oN hf) (fun j oj hj kt qw=>?_) sC hy ih;have jz:j < l.toArray.size:=(Array.getElem?_eq_some_iff.1 hj).1;have h1:=List.all_eq_true.1 hk j (List.mem_range.2 jz);simp only [Bool.or_eq_true,beq_iff_eq,kt,false_or,qw,Bool.false_eq_true,hj] at h1;exact h1
theorem fK {id:Nat} {l:List Oper} (hd:List Nat) (oy:List (List Nat)) (hm:P.follows .mixedOrders=true) (hB:WT P l.toArray hd oy=true)
  (hQ:∀c a d v w,Q (.panic c) (Act.put a (some d) v) w→Q (.panic c) a w)
  (h:wpStill P l.toArray w.drew (fun a'=>mU P Q l w.drew a' oy) (pick l hd) a):(Code.region id l.toArray true).wp P Q a w:=by
 simp only [WT,Bool.and_eq_true,decide_eq_true_eq] at hB;obtain ⟨⟨⟨kg,hn⟩,wH⟩,hB⟩:=hB;refine wp_region_any hm ?_
 have:=yz (n:=l.toArray.size-hd.length) kg (fun tl hi=>by
  have:=List.all_eq_true.1 wH tl hi
  simpa using this) hQ hd _ a nK.start hB h
 rw [show hd.length+(l.toArray.size-hd.length)=l.toArray.size by omega] at this;exact this
theorem tX {rest:List Oper} {K:Act→Prop} (eP:o.guard=none) (ty:TypeId) (x:Operand) (ho:o.op=.load ty x) (cs:Array Value) (ad:Addr) (hx:a.eval x=.pointer (some ad)) (hl:(loadVar ty ad).run P w=.ok (.agg cs) w)
  (h:wpStill P ops w K rest (a.put o.dst (.agg cs))):wpStill P ops w K (o::rest) a:=by
 refine wpStill_step fun K' hK=>?_;have hw:Region.wanted o (yielded ops a.tmps)=true:=by simp [Region.wanted,eP]
 rw [if_pos hw];unfold Oper.still execOp;simp only [ho,hx,Instr.loadAt,Instr.sureAddr,Sem.run_bind,Sem.run_pure,Result.andThen_ok,hl];exact ⟨rfl,hK _ h⟩
end
end
end
end aW
namespace obj
open Go.RowKit base
section
variable {S:Nat→Prop} {w w':World}
structure Kept (S:Nat→Prop) (w w':World):Prop where
 os:w'.os=w.os
 tape:w'.tape=w.tape
 output:w'.output=w.output
 size:w.heap.size≤w'.heap.size
 block:∀k,k < w.heap.size→¬S k→w'.heap[k]?=w.heap[k]?
theorem Kept.refl (S:Nat→Prop) (w:World):Kept S w w:=⟨rfl,rfl,rfl,Nat.le_refl _,fun _ _ _=>rfl⟩
theorem Kept.trans {S T U:Nat→Prop} {a b c:World} (h:Kept S a b) (k:Kept T b c) (hS:∀i,S i→U i) (hT:∀i,T i→i < a.heap.size→U i):Kept U a c :=
 ⟨k.os.trans h.os,k.tape.trans h.tape,k.output.trans h.output,Nat.le_trans h.size k.size,fun i hi hu =>
  (k.block i (Nat.lt_of_lt_of_le hi h.size) fun ht=>hu (hT i ht hi)).trans (h.block i hi fun hs=>hu (hS i hs))⟩
theorem Kept.mono {T:Nat→Prop} (h:Kept S w w') (hST:∀i,i < w.heap.size→S i→T i):Kept T w w' :=
 ⟨h.os,h.tape,h.output,h.size,fun i hi hn=>h.block i hi fun hs=>hn (hST i hi hs)⟩
theorem Kept.oh (h:Below w.heap.size w w') (S:Nat→Prop):Kept S w w' :=
 ⟨h.os,h.tape,h.output,h.size,fun i hi _=>h.block i hi⟩
theorem Kept.below {B:Nat} (h:Kept S w w') (hB:B≤w.heap.size) (hS:∀i,i < B→¬S i):Below B w w' :=
 ⟨h.os,h.tape,h.output,h.size,fun i hi=>h.block i (by omega) (hS i hi)⟩
theorem Kept.Ep {row:Option Nat} (h:w.grownBy w' row) (S:Nat→Prop) (hS:∀k,row=some k→S k):Kept S w w' :=
 ⟨h.os,h.tape,h.output,h.size,fun i hi hn=>h.block i hi fun e=>hn (hS i e.symm)⟩
theorem Kept.setCell {S:Nat→Prop} {a w:World} (h:Kept S a w) {p:Addr} (hp:S p.block∨a.heap.size≤p.block) (u:Value):Kept S a (w.setCell p u) :=
 ⟨h.os,h.tape,h.output,by have:=h.size;simpa [World.setCell] using this,fun k hk hn=>(Below.heap_setCell _ _ _ _ (by
  intro e;subst e;rcases hp with hp|hp
  ·exact hn hp
  ·omega)).trans (h.block k hk hn)⟩
theorem Kept.alloc {S:Nat→Prop} {a w:World} (h:Kept S a w) (o:Obj):Kept S a (w.alloc o) :=
 ⟨h.os,h.tape,h.output,by have:=h.size;simp;omega,fun k hk hn=>(Below.heap_alloc _ _ _ (by have:=h.size;omega)).trans (h.block k hk hn)⟩
theorem Kept.drew {S:Nat→Prop} {a w:World} (h:Kept S a w):Kept S a w.drew:=⟨h.os,h.tape,h.output,h.size,h.block⟩
theorem Kept.drewN {S:Nat→Prop} {a w:World} (h:Kept S a w) (n:Nat):Kept S a (w.drewN n):=⟨h.os,h.tape,h.output,h.size,h.block⟩
theorem Kept.cell {S:Nat→Prop} {w w':World} (h:Kept S w w') {p:Addr} (hl:p.block < w.heap.size) (hn:¬S p.block):w'.cell? p=w.cell? p :=
 World.cell?_of_block (w:=w) (h.block p.block hl hn)
theorem Kept.frozen {S:Nat→Prop} {w w':World} (h:Kept S w w') {p:Addr} (hl:p.block < w.heap.size) (hn:¬S p.block):w'.frozen? p=w.frozen? p :=
 World.frozen?_of_block (w:=w) (h.block p.block hl hn)
theorem Kept.own (h:Kept S w w') {base:Nat} {e:TypeId} {size:Nat} {v:Value} {n:Nat} {xs:List Value} (ho:w.ownsRow base e size v n xs) (hn:∀k,v.ownBlock=some k→¬S k):w'.ownsRow base e size v n xs:=by
 obtain ⟨h1,h2⟩:=ho;refine ⟨h1,?_⟩;rcases h2 with hz|⟨g,cap,cur,rfl,hb,hg,rest⟩
 ·exact .inl hz
 ·refine .inr ⟨g,cap,cur,rfl,hb,?_,rest⟩;have hl:g < w.heap.size:=(Array.getElem?_eq_some_iff.1 hg).1;exact (h.block g hl (hn g rfl)).trans hg
end
end obj
end Go.Proofs.YtdldkkoplgkloaaGreat
