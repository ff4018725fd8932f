/-
  PROVED HERE: lemmas that the law leans on.
  CONDITIONS: each names its own.
-/
import Derived.Below
import Derived.ChangeSame
import Derived.Deep.AppendLies
import Derived.Deep.Draws
import Derived.Deep.Onto
import Derived.Handy
import Derived.Laws.AppendOwnNone
import Derived.Laws.OwnMore
import Derived.Lib.Hide
import Derived.OpenShut
import Derived.ProofKit
import Derived.StillTactics
import Derived.StillTail
import Derived.Test.YtdldkkoplgkloaaGreatRows
import Derived.WalkKit
namespace Go.Proofs.YtdldkkoplgkloaaGreat
set_option linter.unusedVariables false
set_option linter.unusedSimpArgs false
set_option maxRecDepth 100000
set_option maxHeartbeats 32000000
theorem _root_.Go.RowKit.Hid.o {p:Prop} (h:RowKit.Hid p):p:=h.out
theorem aa {p:Prop} (h:p):RowKit.Hid p:=h
theorem af {α:Type _} {a:α} {i:Nat} {l:List α}:(a :: l)[i+1]?=l[i]?:=List.getElem?_cons_succ
theorem ae {α:Type _} {a:α} {l:List α}:(a :: l)[0]?=some a:=List.getElem?_cons_zero
theorem ah {α:Type _} {d a:α}:(some a).getD d=a:=Option.getD_some
theorem aq {α:Type _} {l:List α} {i:Nat} {a:α}:l.toArray.setIfInBounds i a=(l.set i a).toArray:=List.setIfInBounds_toArray ..
theorem ak {α:Type _} {x:α} {xs:List α} {a:α}:(x :: xs).set 0 a=a :: xs:=List.set_cons_zero
theorem ao {α:Type _} {x:α} {xs:List α} {n:Nat} {a:α}:(x :: xs).set (n+1) a=x :: xs.set n a:=List.set_cons_succ
theorem cM {α:Type _} {l:List α} {i:Nat} (h:i<l.length):l[i]?=some l[i]:=List.getElem?_eq_getElem h
theorem dz {α:Type _} {l:List α} {i:Nat} {a:α}:l.getD i a=l[i]?.getD a:=List.getD_eq_getElem?_getD
theorem jz {α:Type _} {i:Nat} {l:List α} (h:i<l.length):l.take (i+1)=l.take i++[l[i]]:=List.take_succ_eq_append_getElem h
theorem ea (n:Nat):(n:Int).toNat=n:=Int.toNat_natCast n
theorem fv {α:Type _} {i:Nat} {l:List α}:(l.take i).length=min i l.length:=List.length_take
theorem gA {α:Type _} {a b:List α}:(a++b).length=a.length+b.length:=List.length_append
theorem gN {α:Type _} {β:Type _} {a:List α} (f:α→β):(a.map f).length=a.length:=List.length_map f
theorem zI {α:Type _} {n:Nat} {a:α}:(List.replicate n a).length=n:=List.length_replicate
namespace base
open Go.RowKit Go.ChangeShapes Go.WideShapes
section
variable {H : Type} {enc : TypeId × Value → H} {P : Program}
theorem PV {f:Func} {s:ChangeSpec} {apart fresh handsOn again:Bool} {W W':World} {args:Array Value} {v:Value} {ds gs:List (DataW H)} {before pa pv:List MemPlace}
  (hW:DataW.Whole enc P f.params.toList s.vars apart W args.toList ds gs before)
  (YC:∀(b:Nat) (sp:Nat→Bool) (hd:Bool),DataW.TrodAll enc P W' b sp hd f.resultTypes.toList (v.resultList f.resultTypes.size) (s.fn H (ds++gs)).results [])
  (Of:∀sp:Nat→Bool,(∀p∈before,sp p.block=true)→DataW.TrodAll enc P W' 0 sp true f.params.toList args.toList (s.fn H (ds++gs)).args pa)
  (U6:∀sp:Nat→Bool,(∀p∈before,sp p.block=true)→DataW.TrodVars enc P W' sp s.vars (s.fn H (ds++gs)).vars pv)
  (Vg:before=pa++pv) (hb:Below W.heap.size W W')
  (nY:∀(j:Nat) (t:TypeId) (r:Value),f.resultTypes[j]?=some t→(v.resultList f.resultTypes.size)[j]?=some r→Value.okWide P W' .any 0 t r) :
  s.post enc P f apart fresh handsOn again W args v W':=by
 have aK:∀p∈before,p.block < W.heap.size:=fun p hp=>hW.lt p hp;have hold:∀p∈before,(fun b=>decide (b < W.heap.size)) p.block=true:=fun p hp=>by simpa using aK p hp
 refine ⟨ds,gs,before,[],pa,pv,hW,YC _ _ _,Of _ hold,U6 _ hold,World.keptBut_mono (fun p hp=>⟨hp,?_⟩) (hb.frame (·∈before)),fun _=>?_⟩
 ·rw [Vg,List.mem_append] at hp;exact Or.inr hp
 ·obtain ⟨_,_,_,_,_,hz,hn⟩:=hW;refine ⟨nY,_,_,([]++pa)++pv,⟨[]++pa,pv,trodAll_append (Of _ (fun _ _=>rfl)) (YC _ _ _),U6 _ (fun _ _=>rfl),rfl,?_,?_⟩,?_⟩
  ·intro b off hp;have et:MemPlace.cell b off∈before:=by rw [Vg];simpa using hp
   rw [hb.frozen (aK _ et)];exact hz b off et
  ·intro ha;have:=hn ha;rw [Vg] at this;simpa using this
  ·intro p hp _;rw [Vg];simpa using hp
end
theorem below_drewN {B:Nat} {a w:World} (h:Below B a w) (n:Nat):Below B a (w.drewN n):=⟨h.os,h.tape,h.output,h.size,h.block⟩
theorem bt {k:IntKind} {a b:Int} (h:a=b):Ending.returned (.int k a)=.returned (.int k b):=by rw [h]
theorem aE {a b:Bool} (h:a=b):Ending.returned (.bool a)=.returned (.bool b):=by rw [h]
def Sl (w:World) (B size:Nat) (A:Option Addr) (n:Nat) (xs:List Value):Prop :=
 xs.length=n*size∧(0 < n→∃b off,A=some ⟨b,off,none⟩∧b < B∧∀(k:Nat) (u:Value),xs[k]?=some u→w.cell? ⟨b,off+k,none⟩=some u)
section
variable {w w' : World} {B B' size n : Nat} {A : Option Addr} {xs : List Value}
theorem Sl.Fy (w:World) (B size:Nat):Sl w B size none 0 []:=⟨by simp,fun h=>absurd h (by omega)⟩
theorem Sl.keep (h:Sl w B size A n xs) (hk:∀p:Addr,p.block < B→w'.cell? p=w.cell? p):Sl w' B size A n xs :=
 ⟨h.1,fun hn=>by
  obtain ⟨b,off,e,hb,hc⟩:=h.2 hn
  exact ⟨b,off,e,hb,fun k u hu=>(hk ⟨b,off+k,none⟩ hb).trans (hc k u hu)⟩⟩
theorem Sl.more (h:Sl w B size A n xs) (hB:B≤B'):Sl w B' size A n xs :=
 ⟨h.1,fun hn=>by
  obtain ⟨b,off,e,hb,hc⟩:=h.2 hn
  exact ⟨b,off,e,by omega,hc⟩⟩
theorem Sl.below (h:Sl w B size A n xs) (hb:Below B w w'):Sl w' B size A n xs:=h.keep fun _ hp=>hb.cell hp
theorem Sl.grown (h:Sl w B size A n xs) {row:Option Nat} (hg:w.grownBy w' row) (hB:B≤w.heap.size) (hr:∀g,row=some g→B≤g):Sl w' B size A n xs :=
 h.keep fun p hp=>World.cell?_of_block (hg.block p.block (by omega) (fun e=>by have:=hr _ e.symm;omega))
theorem KI (g k:Nat):(⟨g,0,none⟩:Addr).add k=⟨g,0+k,none⟩:=by unfold Addr.add;split<;>simp_all
theorem Sl.bz {base:Nat} {e:TypeId} {c:Nat} (h:w.ownsRow base e size (.slice A n c) n xs):Sl w w.heap.size size A n xs:=by
 refine ⟨h.1,fun hn=>?_⟩;obtain ⟨g,cap,hv,_,aK⟩:=h.form hn;have hA:A=some ⟨g,0,none⟩:=by injection hv
 subst hA;exact ⟨g,0,rfl,aK,fun k u hu=>by rw [←KI];exact h.cells (g:=g) rfl k u hu⟩
end
theorem aH {w:World} {base:Nat} {e:TypeId} {size:Nat} {v:Value} {n:Nat} {xs:List Value} (h:w.ownsRow base e size v n xs):∃A c,v=.slice A n c∧n≤c∧c≤maxLen:=by
 rcases h.2 with ⟨rfl,rfl⟩|⟨g,cap,cur,rfl,_,_,h1,h2,_⟩
 ·exact ⟨none,0,rfl,Nat.le_refl _,Nat.zero_le _⟩
 ·exact ⟨_,cap,rfl,h1,h2⟩
theorem Jt {w:World} {base:Nat} {e:TypeId} {size:Nat} {v:Value} {n:Nat} {xs:List Value} (h:w.ownsRow base e size v n xs):∃A c,v=.slice A n c∧Sl w w.heap.size size A n xs:=by
 obtain ⟨A,c,rfl,_⟩:=aH h;exact ⟨A,c,rfl,Sl.bz h⟩
theorem XS {w:World} {e n size:Nat} {cs:Array Value} (hs:cs.size=n*size):Sl (w.alloc (.cells cs e)) (w.heap.size+1) size (some ⟨w.heap.size,0,none⟩) n cs.toList :=
 ⟨by simpa using hs,fun _=>⟨w.heap.size,0,rfl,by omega,fun k u hu=>by
  rw [Nat.zero_add,World.cell?_alloc_new]
  simpa using hu⟩⟩
theorem iT {B:Nat} {a w w':World} {e:TypeId} {size:Nat} {v:Value} {n:Nat} {xs:List Value} (h:Below B a w) (ho:w.ownsRow B e size v n xs) (hg:w.grownBy w' v.ownBlock) (hB:B≤w.heap.size):Below B a w' :=
 h.grown hg hB fun k hk=>(ho.lt k hk).1
theorem FM {w w':World} (h:Below w.heap.size w w') (row:Option Nat):w.grownBy w' row:=⟨h.os,h.tape,h.output,h.size,fun i hi _=>h.block i hi⟩
theorem lj {base:Nat} {w w':World} {e:TypeId} {size:Nat} {v:Value} {n:Nat} {xs:List Value} (ho:w.ownsRow base e size v n xs) (h:Below w.heap.size w w'):w'.ownsRow base e size v n xs :=
 ho.kept (FM h none) (by cases hv:v.ownBlock<;>simp)
theorem lu {w w':World} (h:Below w.heap.size w w') {b o:Nat} {v:Value} (hc:w.cell? ⟨b,o,none⟩=some v):w'.cell? ⟨b,o,none⟩=some v :=
 (h.cell (p:=⟨b,o,none⟩) (World.block_lt_of_cell? w _ hc)).trans hc
structure pX (P:Program) (t e size bytes:Nat):Prop where
 ht:P.underlying t=some (.slice e)
 hi:∃i z,P.info? e=some i∧i.zero=some z∧i.size=size∧i.bytes=bytes∧z.cells.size=size
 hs:0 < size
theorem Ik {a b c:World} {row:Option Nat} (h:a.grownBy b row) (k:b.grownBy c row):a.grownBy c row :=
 ⟨k.os.trans h.os,k.tape.trans h.tape,k.output.trans h.output,Nat.le_trans h.size k.size,fun i hi hn=>(k.block i (Nat.lt_of_lt_of_le hi h.size) hn).trans (h.block i hi hn)⟩
theorem MG {P:Program} {t e size bytes:Nat} (T:pX P t e size bytes) {ops:Array Oper} {rest:List Oper} {o:Oper} {a:Act} {Q:Exit→Act→World→Prop} {w:World} (ew:o.guard=none) (s x:Operand)
  (ho:o.op=.call { callee:=.builtin .append,args:=#[s,x],argTypes:=#[t,t] })
  {base:Nat} {v:Value} {n:Nat} {xs:List Value} (fP:w.ownsRow base e size v n xs) (hs:a.eval s=v) {cs:Array Value} {g:Nat} (hx:a.eval x=.slice (some ⟨g,0,none⟩) 1 1)
  (cX:cs.size=size) (h1:∀u∈cs.toList,u.oneCell'=true) (hb:(n+1)*bytes≤140737488355328) (qG:n+1≤maxLen) (nZ:base≤w.heap.size)
  (h:∀v' w',w'.ownsRow base e size v' (n+1) (xs++cs.toList)→w.grownBy w' v.ownBlock→wpList P ops Q rest (a.put o.dst v') w') (wy:g=w.heap.size:=by simp) :
  wpList P ops Q (o::rest) a (w.alloc (.cells cs e)):=by
 obtain ⟨i,z,hi,hz,h2,h3,h4⟩:=T.hi;subst wy;refine wpList_append_own _ ew s x t ho base e i z size bytes T.ht hi hz h2 h3 h4 T.hs v n xs hs (fP.alloc _) ⟨w.heap.size,0,none⟩ 1 1 cs.toList hx (by simp [cX]) ?_ h1 qG hb (by simp;omega) ?_
 ·intro j u hu;rw [KI];simpa using hu
 ·intro v' w' Eo hg _;exact h v' w' Eo (Ik (World.grownBy_alloc w _ _) hg)
theorem Ry {P:Program} {t e size bytes:Nat} (T:pX P t e size bytes) {ops:Array Oper} {rest:List Oper} {o:Oper} {a:Act} {Q:Exit→Act→World→Prop} {w:World} (ew:o.guard=none) (s x:Operand)
  (ho:o.op=.call { callee:=.builtin .append,args:=#[s,x],argTypes:=#[t,t] })
  {base:Nat} {v:Value} {n:Nat} {xs:List Value} (fP:w.ownsRow base e size v n xs) (hs:a.eval s=v) {B m c:Nat} {A:Option Addr} {ys:List Value} (hx:a.eval x=.slice A m c) (hA:A=none→c=0)
  (hr:Sl w B size A m ys) (h1:∀u∈ys,u.oneCell'=true) (hb:(n+m)*bytes≤140737488355328) (qG:n+m≤maxLen) (nZ:base≤w.heap.size)
  (h:∀v' w',w'.ownsRow base e size v' (n+m) (xs++ys)→w.grownBy w' v.ownBlock→wpList P ops Q rest (a.put o.dst v') w') :
  wpList P ops Q (o::rest) a w:=by
 obtain ⟨i,z,hi,hz,h2,h3,h4⟩:=T.hi;rcases A with _|ad
 ·have hm:m=0:=by
   rcases Nat.eq_zero_or_pos m with h0|h0
   ·exact h0
   ·obtain ⟨b,off,h,_⟩:=hr.2 h0;cases h
  subst hm;obtain rfl:ys=[]:=List.eq_nil_of_length_eq_zero (by simpa using hr.1);rw [hA rfl] at hx;refine wpList_append_own_none ew s x t ho base e i size T.ht hi v n xs hs fP hx ?_;exact h v w (by simpa using fP) (World.grownBy.refl w _)
 ·refine wpList_append_own _ ew s x t ho base e i z size bytes T.ht hi hz h2 h3 h4 T.hs v n xs hs fP ad m c ys hx hr.1 ?_ h1 qG hb nZ fun v' w' Eo hg _=>h v' w' Eo hg;intro j u hu
  have hm:0 < m:=by
   rcases Nat.eq_zero_or_pos m with h0|h0
   ·subst h0;have hn:ys=[]:=List.eq_nil_of_length_eq_zero (by simpa using hr.1);subst hn;simp at hu
   ·exact h0
  obtain ⟨b,off,he,_,hc⟩:=hr.2 hm;injection he with he
  subst he;have yQ:(⟨b,off,none⟩:Addr).add j=⟨b,off+j,none⟩:=by unfold Addr.add;split<;>simp_all
  rw [yQ];exact hc j u hu
theorem xx {w:World} {base:Nat} {e:TypeId} {size:Nat} {A:Option Addr} {n c:Nat} {xs:List Value} (h:w.ownsRow base e size (.slice A n c) n xs):A=none→c=0:=by
 rintro rfl;rcases h.2 with ⟨hv,_⟩|⟨g,cap,cur,hv,_⟩
 ·injection hv
 ·injection hv with hv;cases hv
theorem iO (l:List Int):∀u∈l.map (Value.int .u8),u.oneCell'=true:=by
 intro u hu;obtain ⟨z,_,rfl⟩:=List.mem_map.1 hu;rfl
end base
namespace bf

open Go.RowKit
section
variable {P : Program}
def Calm (P:Program) {α:Type} (s:Sem α):Prop:=∀w a w',s.run P w=.ok a w'→w'=w
def ie (P:Program) {α:Type} (s:Sem α):Prop:=∀w a w',s.run P w=.ok a w'→w'=w∧∀w2,s.run P w2=.ok a w2
section
variable {α β : Type}
theorem ie.calm {s:Sem α} (h:ie P s):Calm P s:=fun w a w' hr=>(h w a w' hr).1
theorem AZ (a:α):Calm P (Pure.pure a:Sem α):=fun w b w' h=>by simp at h;exact h.2.symm
theorem cm (a:α):ie P (Pure.pure a:Sem α):=fun w b w' h=>by simp at h;exact ⟨h.2.symm,fun w2=>by simp [h.1]⟩
theorem fi (s:String):ie P (stuck s:Sem α):=fun w b w' h=>by simp [stuck] at h
theorem pO (r:Unsupported):ie P (unsupported r:Sem α):=fun w b w' h=>by simp [unsupported] at h
def zc (P:Program) {α:Type} (s:Sem α):Prop:=∀w a w',s.run P w≠.ok a w'
theorem zc.indep {s:Sem α} (h:zc P s):ie P s:=fun w a w' hr=>absurd hr (h w a w')
theorem yI {s:Sem α} {f:α→Sem β} (k:∀a,zc P (f a)):zc P (s >>= f):=fun w b w' hr=>by
 rw [Sem.run_bind] at hr;cases hs:s.run P w with
 | halt x w1=>rw [hs] at hr;simp at hr
 | ok a w1 =>
   rw [hs] at hr;exact k a w1 b w' (by simpa using hr)
theorem zj (v:Value):zc P (goPanic v:Sem α):=fun w b w' h=>by simp [goPanic] at h
theorem qJ {s:Sem α} {f:α→Sem β} (h:Calm P s) (k:∀a,Calm P (f a)):Calm P (s >>= f):=fun w b w' hr=>by
 rw [Sem.run_bind] at hr;cases hs:s.run P w with
 | halt x w1=>rw [hs] at hr;simp at hr
 | ok a w1 =>
   rw [hs] at hr;have:=h w a w1 hs;subst this;exact k a _ _ _ (by simpa using hr)
theorem eT {s:Sem α} {f:α→Sem β} (h:ie P s) (k:∀a,ie P (f a)):ie P (s >>= f):=fun w b w' hr=>by
 rw [Sem.run_bind] at hr;cases hs:s.run P w with
 | halt x w1=>rw [hs] at hr;simp at hr
 | ok a w1 =>
   rw [hs] at hr;obtain ⟨h1,h2⟩:=h w a w1 hs;subst h1;obtain ⟨k1,k2⟩:=k a _ _ _ (show (f a).run P w1=.ok b w' by simpa using hr);exact ⟨k1,fun w2=>by rw [Sem.run_bind,h2 w2];simpa using k2 w2⟩
theorem tL:ie P program:=fun w b w' h=>by
 simp [program,Sem.run] at h;exact ⟨h.2.symm,fun w2=>by simp [program,Sem.run,h.1]⟩
theorem nn (t:TypeId):ie P (underlying t):=by
 unfold underlying;refine eT tL fun p=>?_;split
 ·exact cm _
 ·exact fi _
theorem xB (t:TypeId):ie P (typeInfo t):=by
 unfold typeInfo;refine eT tL fun p=>?_;split
 ·exact cm _
 ·exact fi _
theorem uS (t:TypeId):ie P (sizeOf t):=by
 unfold sizeOf;exact eT (xB t) fun i=>cm _
theorem Cg (t:TypeId):ie P (isAgg t):=by
 unfold isAgg;refine eT (nn t) fun i=>?_;split<;>exact cm _
theorem su (v:Value):ie P (Instr.sureAddr v):=by
 unfold Instr.sureAddr;split
 ·exact cm _
 ·exact fi _
theorem JF (v:Value):ie P (asBool v):=by
 unfold asBool;split
 ·exact cm _
 ·exact fi _
theorem Ij (v:Value):ie P (asIntOf v):=by
 unfold asIntOf;split
 ·exact cm _
 ·exact pO _
 ·exact fi _
theorem eg (e:RuntimeError):zc P (runtimePanic e:Sem α):=by
 unfold runtimePanic;refine yI fun p=>?_;cases e<;>first|exact zj _|(repeat (first|exact zj _|refine yI fun _=>?_))
theorem B4 (k:IntKind) (x y:Int) (c:BoundsCode):zc P (boundsPanic k x y c:Sem α):=by
 unfold boundsPanic;simp only;split<;>exact yI fun _=>eg _
theorem Hg (a:Addr) (m:Mode):Calm P (load a m):=fun w b w' h=>by
 simp only [load,Sem.run] at h;split at h
 ·simp at h;exact h.2.symm
 ·split at h
  ·simp at h;exact h.2.symm
  ·simp at h
theorem tz (a:Addr):∀(n i:Nat) (acc:Array Value),Calm P (loadCellsFrom a i n acc)
 | 0,_,_=>AZ _
 | n+1,i,acc=>by
   unfold loadCellsFrom;exact qJ (Hg _ _) fun v=>tz a n _ _
theorem Ky (t:TypeId) (a:Addr):Calm P (loadVar t a):=by
 unfold loadVar;refine qJ (Cg t).calm fun b=>?_;split
 ·exact qJ (uS t).calm fun n=>qJ (tz _ _ _ _) fun cs=>AZ _
 ·exact Hg _ _
theorem NS (t:TypeId) (cs:Array Value) (off:Nat):ie P (part t cs off):=by
 unfold part;refine eT (Cg t) fun b=>?_;split
 ·exact eT (uS t) fun n=>cm _
 ·split
  ·exact cm _
  ·exact fi _
theorem mo:∀(l:List FieldStep) (t:TypeId) (x:Option Value),ie P (followBlind l t x)
 | [],t,x=>by unfold followBlind;exact cm _
 | s::rest,t,x=>by
   unfold followBlind;refine eT (nn _) fun d=>?_;split
   ·split
    ·split
     ·exact cm _
     ·exact mo rest _ _
     ·exact fi _
     ·exact cm _
     ·exact eT (NS _ _ _) fun v=>mo rest _ _
     ·exact fi _
     ·exact mo rest _ _
    ·exact fi _
   ·exact fi _
theorem xC:∀(n:Nat) (t:TypeId) (v:Value) (name:String),ie P (nilAhead n t v name)
 | 0,t,v,name=>by unfold nilAhead;exact cm _
 | n+1,t,v,name=>by
   unfold nilAhead;refine eT (xB _) fun d=>?_;split
   ·refine eT (mo _ _ _) fun r=>?_;split
    ·exact cm _
    ·split
     ·exact xC n _ _ _
     ·exact cm _
     ·exact fi _
     ·exact cm _
     ·exact cm _
     ·refine eT (nn _) fun u=>?_;split<;>exact cm _
   ·exact fi _
theorem Cf {s:Sem Value} (h:ie P s):ie P (do Pure.pure (Next.value (←s)):Sem Next):=eT h fun v=>cm _
theorem OB {s:Sem Value} (h:Calm P s):Calm P (do Pure.pure (Next.value (←s)):Sem Next):=qJ h fun v=>AZ _
def uT (P:Program) (o:Oper):Bool :=
 match o.op with
 | .move _|.assign _|.pick _ _ _|.nilCheck _|.indexAddr _ _ _=>true
 | .fieldAddr s _ k=>match P.underlying s with
   | some (.struct fs)=>match fs[k]? with
     | some f=>match P.info? f.type with
       | some i=>i.size != 0
       | none=>false
     | none=>false
   | _=>false
 | _=>false
def qg (P:Program) (o:Oper):Bool :=
 match o.op with
 | .load _ _=>true
 | _=>uT P o
theorem Ls (t:TypeId) (x i:Value):ie P (Instr.indexAt t x i):=by
 unfold Instr.indexAt
 repeat' (first|exact cm _|exact fi _|exact pO _|exact (B4 _ _ _ _).indep|exact Ij _|exact nn _|exact uS _|exact su _|refine eT ?_ fun _=>?_|split|dsimp only)
theorem Dh {o:Oper} (h:uT P o=true) (ρ:Operand→Value):ie P (execOp ρ o):=by
 obtain ⟨dst,op,type,pos,after,guard⟩:=o;cases op<;>simp only [uT] at h<;>first|(cases h;done)|skip
 case move x=>exact cm _
 case assign x=>exact cm _
 case pick c a b=>exact eT (JF _) fun b=>cm _
 case nilCheck x =>
  simp only [execOp];split
  ·exact (eg _).indep
  ·exact (eg _).indep
  ·exact (eg _).indep
  ·split
   ·exact (eg _).indep
   ·repeat' (first|exact cm _|exact pO _|exact tL|exact xC _ _ _ _|refine eT ?_ fun _=>?_|split)
   ·exact cm _
  ·exact cm _
 case fieldAddr s x k =>
  split at h
  ·rename_i fs hu
   split at h
   ·rename_i f hf
    split at h
    ·rename_i i hi
     refine Cf ?_;unfold Instr.fieldAt;have hz:i.size≠0:=by simpa using h
     intro w a w' hr;simp [run_underlying hu,hf] at hr ⊢;cases hs:(Instr.sureAddr (ρ x)).run P w with
     | halt y w1=>rw [hs] at hr;simp at hr
     | ok ad w1 =>
       obtain ⟨h1,h2⟩:=su (ρ x) w ad w1 hs;subst h1;simp only [hs,Result.andThen_ok,fieldPlace,Sem.run_bind,sizeOf,typeInfo,run_program,hi,Sem.run_pure,hz,if_false] at hr;simp only [h2,Result.andThen_ok,fieldPlace,Sem.run_bind,sizeOf,typeInfo,run_program,hi,Sem.run_pure,hz,if_false];simp at hr ⊢;exact ⟨hr.2.symm,hr.1⟩
    ·cases h
   ·cases h
  ·cases h
 case indexAddr t x i=>exact Cf (Ls _ _ _)
theorem Xo {o:Oper} (h:qg P o=true) (ρ:Operand→Value):∀w n w',(execOp ρ o).run P w=.ok n w'→w'=w:=by
 by_cases hi:uT P o=true
 ·exact (Dh hi ρ).calm
 ·obtain ⟨dst,op,type,pos,after,guard⟩:=o;cases op<;>first|(exact absurd h hi)|skip
  case load t x =>
   simp only [execOp];refine OB ?_;unfold Instr.loadAt;exact qJ (su _).calm fun a=>Ky _ _
end
def KV (P:Program) (s:Sem Next):Prop:=∀w n w',s.run P w=.ok n w'→∃v,n=.value v
theorem WM {α:Type} {s:Sem α} {f:α→Sem Next} (k:∀a,KV P (f a)):KV P (s >>= f):=fun w n w' h=>by
 rw [Sem.run_bind] at h;cases hs:s.run P w with
 | halt x w1=>rw [hs] at h;simp at h
 | ok a w1=>rw [hs] at h;exact k a w1 n w' (by simpa using h)
theorem WL (v:Value):KV P (Pure.pure (Next.value v)):=fun w n w' h=>by simp at h;exact ⟨_,h.1.symm⟩
theorem FB (u:Unsupported):KV P (unsupported u):=fun w n w' h=>by simp [unsupported] at h
theorem yK {s:Sem Value} {w:World} {n:Next} {w':World} (h:(do Pure.pure (Next.value (←s)):Sem Next).run P w=.ok n w'):∃v,n=.value v:=by
 rw [Sem.run_bind] at h;cases hs:s.run P w with
 | halt x w1=>rw [hs] at h;simp at h
 | ok a w1=>rw [hs] at h;simp at h;exact ⟨a,h.1.symm⟩
theorem tA {o:Oper} (h:qg P o=true) (ρ:Operand→Value):∀w n w',(execOp ρ o).run P w=.ok n w'→∃v,n=.value v:=by
 intro w n w' hr;obtain ⟨dst,op,type,pos,after,guard⟩:=o;cases op<;>simp only [qg,uT] at h<;>first|(cases h;done)|skip
 case move x=>simp [execOp] at hr;exact ⟨_,hr.1.symm⟩
 case assign x=>simp [execOp] at hr;exact ⟨_,hr.1.symm⟩
 case pick c a b =>
  simp only [execOp] at hr;rw [Sem.run_bind] at hr;cases hs:(asBool (ρ c)).run P w with
  | halt x w1=>rw [hs] at hr;simp at hr
  | ok a w1=>rw [hs] at hr;simp at hr;exact ⟨_,hr.1.symm⟩
 case nilCheck x =>
  simp only [execOp] at hr;split at hr
  ·exact absurd hr (eg _ _ _ _)
  ·exact absurd hr (eg _ _ _ _)
  ·exact absurd hr (eg _ _ _ _)
  ·split at hr
   ·exact absurd hr (eg _ _ _ _)
   ·refine (?_:KV P _) w n w' hr
    repeat' (first|exact WL _|exact FB _|refine WM fun _=>?_|split|dsimp only)
   ·simp at hr;exact ⟨_,hr.1.symm⟩
  ·simp at hr;exact ⟨_,hr.1.symm⟩
 case fieldAddr s x k=>exact yK hr
 case indexAddr t x i=>exact yK hr
 case load t x=>exact yK hr
section
variable {ops : Array Oper} {Q : Exit → Act → World → Prop} {md : Region.Mode} {w : World}
def mO (md:Region.Mode) (ops:Array Oper) (ar:Array Bool):Prop:=∀j oj,ops[j]?=some oj→ar.getD j false=true→∀e∈oj.after,Region.binds md e=true→ar.getD e.on false=true
theorem mO.start:mO md ops (Array.replicate ops.size false):=fun j oj _ hl=>by rw [getD_replicate_false] at hl;cases hl
theorem mO.set {i:Nat} {ar:Array Bool} (inv:mO md ops ar) (hi:i∈Region.ready md ops ar):mO md ops (ar.setIfInBounds i true):=by
 obtain ⟨_,oi,nH,cN⟩:=mem_ready.1 hi;intro j oj hj hl e he hb;by_cases hij:i=j
 ·subst hij;have:oj=oi:=Option.some.inj (hj.symm.trans nH);subst this;exact getD_set_true (cN e he hb)
 ·rw [getD_set_ne false hij] at hl;exact getD_set_true (inv j oj hj hl e he hb)
def qy (md:Region.Mode) (ops:Array Oper) (i:Nat):Array Bool :=
 (List.range ops.size).foldl (fun W j=>if j==i||(match ops[j]? with|some oj=>oj.after.any fun e=>Region.binds md e&&W.getD e.on false|none=>false) then W.setIfInBounds j true else W) (Array.replicate ops.size false)
def ym (md:Region.Mode) (ops:Array Oper) (i:Nat) (W:Array Bool):Bool :=
 (List.range ops.size).all fun j=>!W.getD j false||j==i||(match ops[j]? with|some oj=>oj.after.any fun e=>Region.binds md e&&decide (e.on < j)&&W.getD e.on false|none=>false)
theorem IP {i:Nat} {W ar:Array Bool} (hW:ym md ops i W=true) (hc:mO md ops ar) (hi:ar.getD i false=false):∀n j,j < n→j < ops.size→W.getD j false=true→ar.getD j false=false
 | 0,j,h,_,_=>absurd h (by omega)
 | n+1,j,h,hj,hw=>by
   have h1:=List.all_eq_true.1 hW j (List.mem_range.2 hj);simp only [hw,Bool.not_true,Bool.false_or,Bool.or_eq_true,beq_iff_eq] at h1;rcases h1 with h1|h1
   ·rw [h1];exact hi
   ·split at h1
    ·rename_i oj xJ
     obtain ⟨e,he,hb⟩:=Array.any_eq_true'.1 h1;simp only [Bool.and_eq_true,decide_eq_true_eq] at hb;cases hl:ar.getD j false with
     | false=>rfl
     | true =>
       have h2:=hc j oj xJ hl e he hb.1.1;have h3:=IP hW hc hi n e.on (by omega) (by omega) hb.2;rw [h3] at h2;cases h2
    ·cases h1
theorem Gi {i j:Nat} {W ar:Array Bool} (hW:ym md ops i W=true) (hc:mO md ops ar) (hi:ar.getD i false=false) (hj:j∈Region.ready md ops ar) (jQ:j≠i):W.getD j false=false:=by
 cases hw:W.getD j false with
 | false=>rfl
 | true =>
   obtain ⟨Dl,oj,xJ,cN⟩:=mem_ready.1 hj;have iZ:j < ops.size:=(Array.getElem?_eq_some_iff.1 xJ).1;have h1:=List.all_eq_true.1 hW j (List.mem_range.2 iZ);simp only [hw,Bool.not_true,Bool.false_or,Bool.or_eq_true,beq_iff_eq,jQ,false_or,xJ] at h1;obtain ⟨e,he,hb⟩:=Array.any_eq_true'.1 h1;simp only [Bool.and_eq_true,decide_eq_true_eq] at hb;have h2:=cN e he hb.1.1;have h3:=IP hW hc hi (e.on+1) e.on (by omega) (by omega) hb.2;rw [h3] at h2;cases h2
theorem IM {j:Nat} {oi oj:Oper} {v:Value} (hj:ops[j]?=some oj) (hap:oi.apart ops oj=true)
  (Cl:∀cs b,oi.op≠.select cs b) (hsj:∀cs b,oj.op≠.select cs b) (Iw:qg P oj=true)
  (hQ:∀c a w,Q (.panic c) (a.put oi.dst v) w→Q (.panic c) a w) {K:Act→World→Prop} {a:Act}
  (hy:YieldsAt P ops w oi v a) (h:wpOp P ops Q j K (a.put oi.dst v) w) :
  wpOp P ops Q j (fun a' w'=>w'=w∧YieldsAt P ops w oi v a'∧K (a'.put oi.dst v) w') a w:=by
 obtain ⟨h1,h2,h3⟩:=Oper.apart_spec hap
 have keep:∀(a:Act),YieldsAt P ops w oi v a→∀u,YieldsAt P ops w oi v (a.put oj.dst u):=fun a hy u =>
  hy.of_same (execOp_put oi Cl a oj.dst u h3) (wanted_put oi a oj.dst u h3)
 unfold wpOp at *;simp only [hj] at *;rw [wanted_put oj a oi.dst v h1] at h;split
 ·rename_i hw
  simp only [hw,if_true] at h;rcases h with h|⟨Vq,aae⟩
  case inr=>exact .inr ⟨by unfold Oper.asks at *;rw [execOp_put oj hsj a oi.dst v h1] at Vq;exact Vq,aae⟩
  refine .inl ?_;unfold Oper.wp at *;rw [execOp_put oj hsj a oi.dst v h1] at h;have hcr:=Xo Iw a.eval w;have hval:=tA Iw a.eval w;generalize (execOp a.eval oj).run P w=r at *;cases r with
  | ok n w' =>
    obtain ⟨u,rfl⟩:=hval n w' rfl;have hww:=hcr _ w' rfl;subst hww;simp only [Oper.upon] at h ⊢;exact ⟨by first|rfl|trivial,keep a hy u,by rw [←Act.put_comm a v u h2];exact h⟩
  | halt x w' =>
    cases x<;>simp only [Oper.upon] at h ⊢;case panic u=>exact hQ _ _ _ h
 ·rename_i hw
  simp only [hw] at h;exact ⟨by first|rfl|trivial,keep a hy _,by rw [←Act.put_comm a v undef h2];exact h⟩
theorem DE {i:Nat} {oi:Oper} {v:Value} {W:Array Bool} (hi:ops[i]?=some oi) (jM:∀(j:Nat) (o:Oper) cs b,ops[j]?=some o→o.op≠.select cs b)
  (hQ:∀c a w,Q (.panic c) (a.put oi.dst v) w→Q (.panic c) a w) (hW:ym md ops i W=true) :
  ∀(fuel:Nat) (ar:Array Bool) (a:Act),mO md ops ar→
   (∀j oj,ops[j]?=some oj→j≠i→ar.getD j true=false→(∀e∈oj.after,Region.binds md e=true→e.on≠i)→oi.apart ops oj=true)→
   (∀j oj,ops[j]?=some oj→j≠i→ar.getD j true=false→W.getD j false=true∨qg P oj=true)→
   i∈Region.ready md ops ar→YieldsAt P ops w oi v a→
   wpAny P md ops Q fuel (ar.setIfInBounds i true) (a.put oi.dst v) w→wpAny P md ops Q (fuel+1) ar a w:=by
 intro fuel
 induction fuel with
 | zero =>
   intro ar a _ _ _ hr hy H;refine ⟨fun h=>(by rw [h] at hr;cases hr),fun j hj=>?_⟩;by_cases jQ:j=i
   ·subst jQ;exact wpOp_of_stOp (fun a' h=>h) (hy.stOp hi H)
   ·have:=ready_mono hj jQ;rw [H.1] at this;cases this
 | succ fuel ih =>
   intro ar a hc Ew hq hr hy H;refine ⟨fun h=>(by rw [h] at hr;cases hr),fun j hj=>?_⟩;by_cases jQ:j=i
   ·subst jQ;exact wpOp_of_stOp (fun a' h=>h) (hy.stOp hi H)
   ·have h1:=H.2 j (ready_mono hj jQ);obtain ⟨Dl,oj,xJ,cN⟩:=mem_ready.1 hj;have rP:=(mem_ready.1 hr).1
    have TF:∀e∈oj.after,Region.binds md e=true→e.on≠i:=fun e he hb heq=>by
     have h1:=cN e he hb;rw [heq,getD_both rP] at h1;cases h1
    have Iw:qg P oj=true:=by
     rcases hq j oj xJ jQ Dl with h|h
     ·rw [Gi hW hc (getD_both rP) hj jQ] at h;cases h
     ·exact h
    have h2:=IM xJ (Ew j oj xJ jQ Dl TF) (fun cs b=>jM i oi cs b hi) (fun cs b=>jM j oj cs b xJ) Iw hQ hy h1
    have stay:∀k,(ar.setIfInBounds j true).getD k true=false→ar.getD k true=false:=fun k h=>by
     by_cases wg:j=k
     ·subst wg;exact Dl
     ·rwa [getD_set_ne true wg] at h
    refine wpOp_mono (fun a' w' h3=>?_) h2;obtain ⟨rfl,h4,h5⟩:=h3;refine ih (ar.setIfInBounds j true) a' (hc.set hj) (fun k ok hk Eu hu kt=>Ew k ok hk Eu (stay k hu) kt) (fun k ok hk Eu hu=>hq k ok hk Eu (stay k hu)) (ready_mono hr (Ne.symm jQ)) h4 ?_;rw [Array.setIfInBounds_comm _ _ jQ];exact h5
def Jb (md:Region.Mode) (ops:Array Oper):List Nat→Array Bool→Bool
 | [],ar=>(Region.ready md ops ar).isEmpty
 | t::r,ar=>decide (Region.ready md ops ar=[t])&&Jb md ops r (ar.setIfInBounds t true)
def pick (l:List Oper):List Nat→List Oper
 | []=>[]
 | i::r=>(l[i]?).getD default::pick l r
theorem zg {l:List Oper}:∀(tl:List Nat) (ar:Array Bool) (a:Act) (w:World),(∀i∈tl,i < l.length)→
  Jb md l.toArray tl ar=true→wpList P l.toArray Q (pick l tl) a w→wpAny P md l.toArray Q tl.length ar a w
 | [],_,_,_,_,hB,h=>⟨by simpa [Jb] using hB,h⟩
 | t::r,ar,a,w,hl,hB,h=>by
   have aK:t < l.length:=hl t (by simp);have h0:l.toArray[t]?=some ((l[t]?).getD default):=by simp [cM aK]
   simp only [Jb,Bool.and_eq_true,decide_eq_true_eq] at hB;refine ⟨fun h1=>(by rw [hB.1] at h1;cases h1),fun i hi=>?_⟩;rw [hB.1] at hi;have hik:i=t:=by simpa using hi
   subst hik;have hw:wpOp P l.toArray Q i (wpList P l.toArray Q (pick l r)) a w:=by unfold wpOp;simp only [h0];exact h
   exact wpOp_mono (fun a' w' h'=>zg r _ a' w' (fun j hj=>hl j (by simp [hj])) hB.2 h') hw
def Ol (md:Region.Mode) (ops:Array Oper) (nA:List (List Nat)) (ar:Array Bool):Bool :=
 decide (Region.ready md ops ar=nA.map fun tl=>tl.headD 0)&&nA.all fun tl=>match tl with
  | []=>false
  | i::r=>Jb md ops r (ar.setIfInBounds i true)
def mq (P:Program) (Q:Exit→Act→World→Prop) (l:List Oper) (w:World) (a:Act):List (List Nat)→Prop
 | []=>Q .normal a w
 | [tl]=>wpList P l.toArray Q (pick l tl) a w
 | tl::r=>wpList P l.toArray Q (pick l tl) a w∧mq P Q l w a r
theorem GL {l:List Oper} {a:Act}:∀{nA:List (List Nat)},mq P Q l w a nA→∀tl∈nA,wpList P l.toArray Q (pick l tl) a w
 | [],_,tl,h=>absurd h (by simp)
 | [x],hf,tl,h=>by
   have:tl=x:=by simpa using h
   subst this;exact hf
 | x::y::r,hf,tl,h=>by
   rcases List.mem_cons.1 h with rfl|h
   ·exact hf.1
   ·exact GL hf.2 tl h
theorem Fc {l:List Oper} (nA:List (List Nat)) (n:Nat) (ar:Array Bool) (a:Act) (hl:∀tl∈nA,tl.length=n∧∀i∈tl,i < l.length)
  (hB:Ol md l.toArray nA ar=true) (h:mq P Q l w a nA):wpAny P md l.toArray Q n ar a w:=by
 simp only [Ol,Bool.and_eq_true,decide_eq_true_eq] at hB;obtain ⟨hr,hB⟩:=hB;cases nA with
 | nil=>exact wpAny_done (by simpa using hr) h n
 | cons x r =>
   have hx:=hl x (by simp);have hxB:=List.all_eq_true.1 hB x (by simp);cases n with
   | zero =>
     have:x=[]:=List.eq_nil_of_length_eq_zero hx.1;subst this;cases hxB
   | succ n =>
     refine ⟨fun h1=>(by rw [hr] at h1;cases h1),fun i hi=>?_⟩;rw [hr] at hi;obtain ⟨tl,uU,hti⟩:=List.mem_map.1 hi;have h1:=hl tl uU;have h2:=List.all_eq_true.1 hB tl uU;have h3:=GL h tl uU;cases tl with
     | nil=>cases h2
     | cons t q =>
       have hik:t=i:=by simpa using hti
       subst hik;have aK:t < l.length:=h1.2 t (by simp);have h0:l.toArray[t]?=some ((l[t]?).getD default):=by simp [cM aK]
       have hw:wpOp P l.toArray Q t (wpList P l.toArray Q (pick l q)) a w:=by unfold wpOp;simp only [h0];exact h3
       have hq:q.length=n:=by simpa using h1.1
       rw [←hq];exact wpOp_mono (fun a' w' h'=>zg q _ a' w' (fun j hj=>h1.2 j (by simp [hj])) h2 h') hw
def dy (P:Program) (md:Region.Mode) (ops:Array Oper) (nA:List (List Nat)):List Nat→Array Bool→Bool
 | [],ar=>Ol md ops nA ar
 | i::r,ar=>(Region.ready md ops ar).contains i&&Region.free md ops ar i&&(match ops[i]? with
    | some oi=>uT P oi||(ym md ops i (qy md ops i)&&(List.range ops.size).all fun j=>j==i||ar.getD j true||(qy md ops i).getD j false||(match ops[j]? with
      | some oj=>qg P oj
      | none=>true))
    | none=>false)&&dy P md ops nA r (ar.setIfInBounds i true)
def U1 (P:Program) (ops:Array Oper) (hd:List Nat) (nA:List (List Nat)):Bool :=
 Region.noSelect ops&&decide (hd.length≤ops.size)&&(nA.all fun tl=>decide (tl.length=ops.size-hd.length)&&tl.all fun i=>decide (i < ops.size))&&dy P .any ops nA hd (Array.replicate ops.size false)
theorem qk (hQ:∀c a d v w,Q (.panic c) (Act.put a (some d) v) w→Q (.panic c) a w):∀c a d v w,Q (.panic c) (Act.put a d v) w→Q (.panic c) a w:=fun c a d v w h=>by
 cases d with
 | none=>exact h
 | some d=>exact hQ c a d v w h
theorem xe {l:List Oper} {nA:List (List Nat)} {n:Nat} (jM:Region.noSelect l.toArray=true) (uU:∀tl∈nA,tl.length=n∧∀i∈tl,i < l.length)
  (hQ:∀c a d v w,Q (.panic c) (Act.put a (some d) v) w→Q (.panic c) a w):∀(hd:List Nat) (ar:Array Bool) (a:Act),mO md l.toArray ar→dy P md l.toArray nA hd ar=true→
  wpStill P l.toArray w (fun a'=>mq P Q l w a' nA) (pick l hd) a→wpAny P md l.toArray Q (hd.length+n) ar a w
 | [],ar,a,_,hB,h=>by
   rw [List.length_nil,Nat.zero_add];exact Fc nA n ar a uU hB h
 | i::r,ar,a,hc,hB,h=>by
   simp only [dy,Bool.and_eq_true] at hB;obtain ⟨⟨⟨hr,hf⟩,hk⟩,hB⟩:=hB;have rA:i∈Region.ready md l.toArray ar:=by simpa using hr
   cases nH:l.toArray[i]? with
   | none=>rw [nH] at hk;cases hk
   | some oi =>
     have yN:(l[i]?).getD default=oi:=by
      have:l[i]?=some oi:=by simpa using nH
      rw [this];rfl
     have h':stOp P l.toArray w i (wpStill P l.toArray w (fun a'=>mq P Q l w a' nA) (pick l r)) a:=by
      unfold stOp;simp only [nH];simp only [pick,yN] at h;exact h
     obtain ⟨v,hy,hn⟩:=yieldsAt_of_stOp nH h';have ih:=xe jM uU hQ r _ _ (hc.set rA) hB hn;rw [List.length_cons,show r.length+1+n=(r.length+n)+1 by omega];rw [nH] at hk;simp only [Bool.or_eq_true,Bool.and_eq_true] at hk;rcases hk with hk|⟨hW,hk⟩
     ·refine wpAny_take nH jM hf hr (fun c a w h=>qk hQ c a _ _ w h) ?_ ih;rcases hy with ⟨hw,hv|⟨hv,rfl⟩|⟨f,args,hv,pM⟩⟩|⟨hw,rfl⟩
      ·exact .inl ⟨hw,(Dh hk _ _ _ _ hv).2⟩
      ·obtain ⟨u,hu⟩:=tA (by unfold qg;split;exact rfl;exact hk) _ _ _ _ hv;cases hu
      ·obtain ⟨u,hu⟩:=tA (by unfold qg;split;exact rfl;exact hk) _ _ _ _ hv;cases hu
      ·exact .inr ⟨hw,rfl⟩
     ·refine DE nH (Region.noSelect_spec jM) (fun c a w h=>qk hQ c a _ _ w h) hW _ ar a hc (Region.free_spec nH hf) (fun j oj hj jQ rP=>?_) rA hy ih;have iZ:j < l.toArray.size:=(Array.getElem?_eq_some_iff.1 hj).1;have h1:=List.all_eq_true.1 hk j (List.mem_range.2 iZ);simp only [Bool.or_eq_true,beq_iff_eq,jQ,false_or,rP,Bool.false_eq_true,hj] at h1;exact h1
theorem ff {id:Nat} {a:Act} {l:List Oper} (hd:List Nat) (nA:List (List Nat)) (hm:P.follows .mixedOrders=true) (hB:U1 P l.toArray hd nA=true)
  (hQ:∀c a d v w,Q (.panic c) (Act.put a (some d) v) w→Q (.panic c) a w)
  (h:wpStill P l.toArray w.drew (fun a'=>mq P Q l w.drew a' nA) (pick l hd) a):(Code.region id l.toArray true).wp P Q a w:=by
 simp only [U1,Bool.and_eq_true,decide_eq_true_eq] at hB;obtain ⟨⟨⟨jM,hn⟩,uU⟩,hB⟩:=hB;refine wp_region_any hm ?_
 have:=xe (n:=l.toArray.size-hd.length) jM (fun tl hi=>by
  have:=List.all_eq_true.1 uU tl hi
  simpa using this) hQ hd _ a mO.start hB h
 rw [show hd.length+(l.toArray.size-hd.length)=l.toArray.size by omega] at this;exact this
theorem sW {o:Oper} {rest:List Oper} {a:Act} {K:Act→Prop} (ew:o.guard=none) (ty:TypeId) (x:Operand) (ho:o.op=.load ty x) (cs:Array Value) (ad:Addr) (hx:a.eval x=.pointer (some ad)) (hl:(loadVar ty ad).run P w=.ok (.agg cs) w)
  (h:wpStill P ops w K rest (a.put o.dst (.agg cs))):wpStill P ops w K (o::rest) a:=by
 refine wpStill_step fun K' hK=>?_;have hw:Region.wanted o (yielded ops a.tmps)=true:=by simp [Region.wanted,ew]
 rw [if_pos hw];unfold Oper.still execOp;simp only [ho,hx,Instr.loadAt,Instr.sureAddr,Sem.run_bind,Sem.run_pure,Result.andThen_ok,hl];exact ⟨rfl,hK _ h⟩
end
end
end bf
namespace obj
open Go.RowKit base
structure Kept (S:Nat→Prop) (w w':World):Prop where
 os:w'.os=w.os
 tape:w'.tape=w.tape
 output:w'.output=w.output
 size:w.heap.size≤w'.heap.size
 block:∀k,k < w.heap.size→¬S k→w'.heap[k]?=w.heap[k]?
theorem Kept.refl (S:Nat→Prop) (w:World):Kept S w w:=⟨rfl,rfl,rfl,Nat.le_refl _,fun _ _ _=>rfl⟩
theorem Kept.trans {S T U:Nat→Prop} {a b c:World} (h:Kept S a b) (k:Kept T b c) (hS:∀i,S i→U i) (hT:∀i,T i→i < a.heap.size→U i):Kept U a c :=
 ⟨k.os.trans h.os,k.tape.trans h.tape,k.output.trans h.output,Nat.le_trans h.size k.size,fun i hi hu =>
  (k.block i (Nat.lt_of_lt_of_le hi h.size) fun ht=>hu (hT i ht hi)).trans (h.block i hi fun hs=>hu (hS i hs))⟩
theorem Kept.mono {S T:Nat→Prop} {w w':World} (h:Kept S w w') (hST:∀i,i < w.heap.size→S i→T i):Kept T w w' :=
 ⟨h.os,h.tape,h.output,h.size,fun i hi hn=>h.block i hi fun hs=>hn (hST i hi hs)⟩
theorem Kept.ng {w w':World} (h:Below w.heap.size w w') (S:Nat→Prop):Kept S w w' :=
 ⟨h.os,h.tape,h.output,h.size,fun i hi _=>h.block i hi⟩
theorem Kept.below {S:Nat→Prop} {w w':World} {B:Nat} (h:Kept S w w') (hB:B≤w.heap.size) (hS:∀i,i < B→¬S i):Below B w w' :=
 ⟨h.os,h.tape,h.output,h.size,fun i hi=>h.block i (by omega) (hS i hi)⟩
theorem Kept.Da {w w':World} {row:Option Nat} (h:w.grownBy w' row) (S:Nat→Prop) (hS:∀k,row=some k→S k):Kept S w w' :=
 ⟨h.os,h.tape,h.output,h.size,fun i hi hn=>h.block i hi fun e=>hn (hS i e.symm)⟩
theorem Kept.setCell {S:Nat→Prop} {a w:World} (h:Kept S a w) {p:Addr} (hp:S p.block∨a.heap.size≤p.block) (u:Value):Kept S a (w.setCell p u) :=
 ⟨h.os,h.tape,h.output,by have:=h.size;simpa [World.setCell] using this,fun k hk hn=>(Below.heap_setCell _ _ _ _ (by
  intro e;subst e;rcases hp with hp|hp
  ·exact hn hp
  ·omega)).trans (h.block k hk hn)⟩
theorem Kept.alloc {S:Nat→Prop} {a w:World} (h:Kept S a w) (o:Obj):Kept S a (w.alloc o) :=
 ⟨h.os,h.tape,h.output,by have:=h.size;simp;omega,fun k hk hn=>(Below.heap_alloc _ _ _ (by have:=h.size;omega)).trans (h.block k hk hn)⟩
theorem Kept.drew {S:Nat→Prop} {a w:World} (h:Kept S a w):Kept S a w.drew:=⟨h.os,h.tape,h.output,h.size,h.block⟩
theorem Kept.drewN {S:Nat→Prop} {a w:World} (h:Kept S a w) (n:Nat):Kept S a (w.drewN n):=⟨h.os,h.tape,h.output,h.size,h.block⟩
theorem Kept.cell {S:Nat→Prop} {w w':World} (h:Kept S w w') {p:Addr} (hl:p.block < w.heap.size) (hn:¬S p.block):w'.cell? p=w.cell? p :=
 World.cell?_of_block (w:=w) (h.block p.block hl hn)
theorem Kept.frozen {S:Nat→Prop} {w w':World} (h:Kept S w w') {p:Addr} (hl:p.block < w.heap.size) (hn:¬S p.block):w'.frozen? p=w.frozen? p :=
 World.frozen?_of_block (w:=w) (h.block p.block hl hn)
theorem Kept.own {S:Nat→Prop} {w w':World} (h:Kept S w w') {base:Nat} {e:TypeId} {size:Nat} {v:Value} {n:Nat} {xs:List Value} (ho:w.ownsRow base e size v n xs) (hn:∀k,v.ownBlock=some k→¬S k):w'.ownsRow base e size v n xs:=by
 obtain ⟨h1,h2⟩:=ho;refine ⟨h1,?_⟩;rcases h2 with hz|⟨g,cap,cur,rfl,hb,hg,rest⟩
 ·exact .inl hz
 ·refine .inr ⟨g,cap,cur,rfl,hb,?_,rest⟩;have hl:g < w.heap.size:=(Array.getElem?_eq_some_iff.1 hg).1;exact (h.block g hl (hn g rfl)).trans hg
end obj
end Go.Proofs.YtdldkkoplgkloaaGreat
