/- PROVED HERE: lemmas of the law. CONDITIONS: each names its own. -/
import Derived.Deep.AppendLies
import Derived.Deep.MidRow
import Derived.Laws.CopyOwn
import Derived.Laws.MakeOwn
import Derived.Laws.Rows
import Derived.Test.YtdldkkoplgkloaaGreatPa0
namespace Go.Proofs.YtdldkkoplgkloaaGreat
set_option linter.unusedVariables false
set_option linter.unusedSimpArgs false
set_option maxRecDepth 100000
set_option maxHeartbeats 32000000
open Go.Value renaming int → ae
open Go.IntKind renaming i64 → aa
namespace mem
open Go.RowKit base obj
section
variable {a:Act} {l:List Value} {B g n size:Nat} {S:Nat→Prop} {o:Oper} {P:Program} {t:TypeId} {x0 x1 x2 x3 x4 x5 x6:Value} {w:World}
def Row (w:World) (g:Nat) (t:TypeId) (xs:List Value):Prop:=w.heap[g]?=some (.cells xs.toArray t (0,0))
section
variable {w w' : World} {g : Nat} {t t' : TypeId} {xs ys : List Value}
theorem Row.lt (h:Row w g t xs):g < w.heap.size:=(Array.getElem?_eq_some_iff.1 h).1
theorem Row.cell (h:Row w g t xs) (k:Nat):w.cell? ⟨g,k,none⟩=xs[k]?:=by
 unfold Row at h;simp [World.cell?,h]
theorem Row.c0 (h:Row w g t (x0 :: l)):w.cell? ⟨g,0,none⟩=some x0:=h.cell 0
theorem Row.c1 (h:Row w g t (x0 :: x1 :: l)):w.cell? ⟨g,1,none⟩=some x1:=h.cell 1
theorem Row.c2 (h:Row w g t (x0 :: x1 :: x2 :: l)):w.cell? ⟨g,2,none⟩=some x2:=h.cell 2
theorem Row.c3 (h:Row w g t (x0 :: x1 :: x2 :: x3 :: l)):w.cell? ⟨g,3,none⟩=some x3:=h.cell 3
theorem Row.c4 (h:Row w g t (x0 :: x1 :: x2 :: x3 :: x4 :: l)):w.cell? ⟨g,4,none⟩=some x4:=h.cell 4
theorem Row.c5 (h:Row w g t (x0 :: x1 :: x2 :: x3 :: x4 :: x5 :: l)):w.cell? ⟨g,5,none⟩=some x5:=h.cell 5
theorem Row.c6 (h:Row w g t (x0 :: x1 :: x2 :: x3 :: x4 :: x5 :: x6 :: l)):w.cell? ⟨g,6,none⟩=some x6:=h.cell 6
theorem Row.c7 {x7:Value} (h:Row w g t (x0 :: x1 :: x2 :: x3 :: x4 :: x5 :: x6 :: x7 :: l)):w.cell? ⟨g,7,none⟩=some x7:=h.cell 7
theorem Row.frozen (h:Row w g t xs) (k:Nat):w.frozen? ⟨g,k,none⟩=false:=by
 unfold Row at h;simp [World.frozen?,h]
theorem Row.kept (k:Row w g t xs) (h:Kept S w w') (hn:¬S g):Row w' g t xs:=(h.block g k.lt hn).trans k
theorem Row.below (k:Row w g t xs) (h:Below B w w') (hn:g < B):Row w' g t xs:=(h.block g hn).trans k
theorem Row.alloc (h:Row w g t xs) (o:Obj):Row (w.alloc o) g t xs:=(Below.heap_alloc w o g h.lt).trans h
theorem Row.drew (h:Row w g t xs):Row w.drew g t xs:=h
theorem Row.drewN (h:Row w g t xs) (n:Nat):Row (w.drewN n) g t xs:=h
theorem Row.new (w:World) (t:TypeId) (cs:Array Value):Row (w.alloc (.cells cs t)) w.heap.size t cs.toList:=by
 unfold Row;rw [heap_alloc_new]
theorem Row.dV (h:Row w g t xs) {p:Addr} (hp:g≠p.block) (v:Value):Row (w.setCell p v) g t xs:=(Below.heap_setCell w p v g hp).trans h
theorem Row.setCell (h:Row w g t xs) (k:Nat) (v:Value):Row (w.setCell ⟨g,k,none⟩ v) g t (xs.set k v):=by
 unfold Row at *;rw [heap_setCell_same w g k xs.toArray t v h];simp
theorem Row.setRow_other {k:Nat} (h:Row w g t xs) (cs:Array Value) (hk:g≠k):Row (w.setRow k cs) g t xs:=(Go.setRow_other w k g cs hk).trans h
theorem Row.setRow (h:Row w g t xs) (cs:List Value):Row (w.setRow g cs.toArray) g t cs:=Go.setRow_heap w g _ _ t _ h
theorem Row.uniq (h:Row w g t xs) (k:Row w g t' ys):t=t'∧xs=ys:=by
 unfold Row at *;rw [h] at k;injection k with k
 injection k with k1 k2
 exact ⟨k2,by simpa using k1⟩
theorem Row.ne {g':Nat} (h:Row w g t xs) (k:Row w g' t' ys) (ht:t≠t'):g≠g':=by
 rintro rfl;exact ht (h.uniq k).1
theorem Row.range (h:Row w g t xs) (o n:Nat):w.rangeAt g o ((xs.drop o).take n):=fun j v hv=>by
 rw [h.cell (o+j)];rw [List.getElem?_take] at hv;split at hv
 ·rwa [List.getElem?_drop] at hv
 ·cases hv
theorem Row.own {base:Nat} {cap:Nat} (h:Row w g t xs) (hb:base≤g) (hn:n≤cap) (hc:cap≤maxLen) (hl:xs.length=cap*size):w.ownsRow base t size (.slice (some ⟨g,0,none⟩) n cap) n (xs.take (n*size)) :=
 ⟨by rw [fW,hl,Nat.min_eq_left (Nat.mul_le_mul_right size hn)],.inr ⟨g,cap,xs.toArray,rfl,hb,h,hn,hc,by simpa using hl,by simp⟩⟩
theorem Row.sl (h:Row w g t xs) {B size n o:Nat} (hB:g < B) {ys:List Value} (hy:ys=(xs.drop o).take (n*size)) (hl:ys.length=n*size):Sl w B size (some ⟨g,o,none⟩) n ys :=
 ⟨hl,fun _=>⟨g,o,rfl,hB,fun k u hu=>by subst hy;exact h.range o (n*size) k u hu⟩⟩
end
theorem gz {a:World} (h:Kept S a w) {g:Nat} (hp:S g∨a.heap.size≤g) (cs:Array Value):Kept S a (w.setRow g cs) :=
 ⟨h.os,h.tape,h.output,by have:=h.size;simpa using this,fun k hk hn=>(setRow_other w g k cs (by
  intro e;subst e;rcases hp with hp|hp
  ·exact hn hp
  ·omega)).trans (h.block k hk hn)⟩
theorem B5 {size:Nat}:∀(l:List (List Value)) (i:Nat),(∀x∈l,x.length=size)→i≤l.length→l.flatten.drop (i*size)=(l.drop i).flatten
 | l,0,_,_=>by simp
 | [],i+1,_,h=>absurd h (by simp)
 | x::l,i+1,h,hi=>by
   have hx:=h x (by simp);have:=B5 l i (fun y hy=>h y (by simp [hy])) (by simpa using hi);rw [List.flatten_cons,List.drop_succ_cons,←this,Nat.add_mul,Nat.one_mul,Nat.add_comm (i*size) size,←List.drop_drop]
   congr 1
   rw [List.drop_append,←hx];simp
theorem IQ {size:Nat}:∀(l:List (List Value)) (i:Nat),(∀x∈l,x.length=size)→i≤l.length→l.flatten.take (i*size)=(l.take i).flatten
 | l,0,_,_=>by simp
 | [],i+1,_,h=>absurd h (by simp)
 | x::l,i+1,h,hi=>by
   have hx:=h x (by simp);have:=IQ l i (fun y hy=>h y (by simp [hy])) (by simpa using hi);rw [List.flatten_cons,List.take_succ_cons,List.flatten_cons,←this,Nat.add_mul,Nat.one_mul,Nat.add_comm (i*size) size,←hx,List.take_length_add_append]
theorem kX {size:Nat}:∀(l:List (List Value)),(∀x∈l,x.length=size)→l.flatten.length=l.length*size
 | [],_=>by simp
 | x::l,h=>by
   rw [List.flatten_cons,gC,kX l (fun y hy=>h y (by simp [hy])),h x (by simp),List.length_cons,Nat.add_mul,Nat.one_mul,Nat.add_comm]
theorem rQ {l:List (List Value)} (h:∀x∈l,x.length=size) {i:Nat} (hi:i < l.length):(l.flatten.drop (i*size)).take size=l[i]:=by
 rw [B5 l i h (by omega),List.drop_eq_getElem_cons hi,List.flatten_cons,←h l[i] (by simp),List.take_left'];rfl
theorem V5 {l:List (List Value)} (h:∀x∈l,x.length=size) {i:Nat} (hi:i < l.length) {v:List Value} (hv:v.length=size):l.flatten.take (i*size)++v++l.flatten.drop (i*size+size)=(l.set i v).flatten:=by
 have e:i*size+size=(i+1)*size:=by rw [Nat.add_mul,Nat.one_mul]
 rw [e,IQ l i h (by omega),B5 l (i+1) h (by omega),List.set_eq_take_append_cons_drop,if_pos hi,List.flatten_append,List.flatten_cons,List.append_assoc]
section
variable {P : Program} {ops : Array Oper} {rest : List Oper} {o : Oper} {a : Act} {w : World} {Q : Exit → Act → World → Prop}
theorem ET (eP:o.guard=none) (ty:TypeId) (x y:Operand) (ho:o.op=.store ty x y) (g off:Nat) (cells:Array Value) (hx:a.eval x=.pointer (some ⟨g,off,none⟩)) (hy:a.eval y=.agg cells)
  {t:TypeId} {xs:List Value} (hg:Row w g t xs) (hi:(P.info? ty).map (·.size)=some cells.size) (oq:off+cells.size≤xs.length) (h1:∀v∈cells.toList,v.oneCell'=true)
  (h:wpList P ops Q rest (a.put o.dst undef) (w.setRow g (xs.take off++cells.toList++xs.drop (off+cells.size)).toArray)):wpList P ops Q (o::rest) a w :=
 wpList_plain eP fun K hK=>by
  have ak:=run_storeCells_at P g off t cells.toList 0 xs.toArray w hg (by simpa using oq) h1;simp only [Nat.add_zero,Array.length_toList] at ak;cases hq:P.info? ty with
  | none=>simp [hq] at hi
  | some i =>
    have hs:i.size=cells.size:=by simpa [hq] using hi
    have hv:(storeVar ty ⟨g,off,none⟩ (.agg cells)).run P w=.ok () (w.setRow g (xs.take off++cells.toList++xs.drop (off+cells.size)).toArray):=by
     simp [storeVar,sizeOf,typeInfo,hq,Value.cells,hs];simpa using ak
    unfold Oper.wp execOp;simp only [ho,hx,hy,Instr.storeAt,Instr.sureAddr,Sem.run_bind,Sem.run_pure,Result.andThen_ok,hv];exact hK _ _ h
theorem jM (eP:o.guard=none) (ty:TypeId) (x:Operand) (ho:o.op=.load ty x) (g off:Nat) (hx:a.eval x=.pointer (some ⟨g,off,none⟩)) (cs:List Value) (d:TypeDesc)
  {t:TypeId} {xs:List Value} (hg:Row w g t xs) (cY:(xs.drop off).take cs.length=cs) (hu:P.underlying ty=some d) (hd:d.isRow=true) (hi:(P.info? ty).map (·.size)=some cs.length)
  (h:wpList P ops Q rest (a.put o.dst (.agg cs.toArray)) w):wpList P ops Q (o::rest) a w :=
 wpList_load_mid eP ty x ho g off hx cs d (by rw [←cY];exact hg.range off cs.length) hu hd hi h
theorem ig (eP:o.guard=none) (ty:TypeId) (ho:o.op=.alloc ty) (z:Value) (hz:(P.info? ty).map (·.zero)=some (some z))
  (h:wpList P ops Q rest (a.put o.dst (.pointer (some ⟨w.heap.size,0,none⟩))) (w.alloc (.cells z.cells ty))):wpList P ops Q (o::rest) a w :=
 wpList_plain eP fun K hK=>by
  cases hq:P.info? ty with
  | none=>simp [hq] at hz
  | some i =>
    have hs:i.zero=some z:=by simpa [hq] using hz
    have hv:(Instr.alloc ty true (.tuple #[])).run P w=.ok (.pointer (some ⟨w.heap.size,0,none⟩)) (w.alloc (.cells z.cells ty)):=by
     simp [Instr.alloc,zeroValue,typeInfo,hq,hs,newVar,newRow]
    unfold Oper.wp execOp;simp only [ho,Sem.run_bind,hv,Result.andThen_ok,Sem.run_pure];exact hK _ _ h
theorem E8 (w:World) (c c':Array Value) (t:TypeId):(w.alloc (.cells c t)).setRow w.heap.size c'=w.alloc (.cells c' t):=by
 simp only [World.setRow,World.alloc]
 congr 1
 apply Array.ext_getElem?;intro i;rw [Array.getElem?_modify];by_cases h:w.heap.size=i
 ·subst h;simp
 ·have h':¬i=w.heap.size:=fun e=>h e.symm;simp [h,h',Array.getElem?_push]
theorem ie (eP:o.guard=none) (ty:TypeId) (x y:Operand) (ho:o.op=.store ty x y) (cells c:Array Value) (t:TypeId) (g:Nat) (hx:a.eval x=.pointer (some ⟨g,0,none⟩)) (hy:a.eval y=.agg cells)
  (hi:(P.info? ty).map (·.size)=some cells.size) (hc:c.size=cells.size) (h1:∀v∈cells.toList,v.oneCell'=true)
  (h:wpList P ops Q rest (a.put o.dst undef) (w.alloc (.cells cells t))) (xU:g=w.heap.size:=by simp):wpList P ops Q (o::rest) a (w.alloc (.cells c t)):=by
 subst xU;refine ET eP ty x y ho w.heap.size 0 cells hx hy (Row.new w t c) hi (by simp [hc]) h1 ?_
 have e:(c.toList.take 0++cells.toList++c.toList.drop (0+cells.size)).toArray=cells:=by
  rw [List.take_zero,List.nil_append,List.drop_of_length_le (by simp [hc])];simp
 rw [e,E8];exact h
theorem Bj {e size:TypeId} (eP:o.guard=none) (t:TypeId) (x:Operand) (ho:o.op=.call { callee:=.builtin .clear,args:=#[x],argTypes:=#[t] }) (ht:P.underlying t=some (.slice e)) (z:Value) (hz:(P.info? e).map (·.zero)=some (some z))
  (yQ:z.cells.size=size) (h1:∀v∈z.cells.toList,v.oneCell'=true) (BM:0 < size) {base:Nat} {v:Value} {n:Nat} {xs:List Value} (ft:w.ownsRow base e size v n xs) (hx:a.eval x=v)
  (h:∀w' ys,w'.ownsRow base e size v n ys→w.grownBy w' v.ownBlock→w'.heap.size=w.heap.size→wpList P ops Q rest (a.put o.dst (.tuple #[])) w'):wpList P ops Q (o::rest) a w :=
 wpList_plain eP fun K hK=>by
  cases hq:P.info? e with
  | none=>simp [hq] at hz
  | some i =>
    have hs:i.zero=some z:=by simpa [hq] using hz
    obtain ⟨hl,hv⟩:=ft;by_cases hn:n=0
    ·subst hn
     have Lc:(Builtin.clear_ #[t] o.type #[v]).run P w=.ok (.tuple #[]) w:=by
      rcases hv with ⟨rfl,_⟩|⟨g,cap,cur,rfl,_⟩<;>simp [Builtin.clear_,run_underlying ht]
     unfold Oper.wp;simp [execOp,ho,resolve,invoke,builtin,hx,Lc,Result.andThen];exact hK _ _ (h w xs ⟨hl,hv⟩ (World.grownBy.refl w _) rfl)
    ·rcases hv with ⟨_,h0⟩|⟨g,cap,cur,rfl,hb,hg,xL,uk,cY,qJ⟩
     ·exact absurd h0 hn
     ·have nO:(Builtin.zeroCells z.cells n).toList.length=n*size:=by simp [Builtin.zeroCells,yQ]
      have hle:n*size≤cap*size:=Nat.mul_le_mul_right size xL
      have ak:=run_storeCells_at P g 0 e (Builtin.zeroCells z.cells n).toList 0 cur w hg (by rw [nO,cY];omega) (by
       intro u hu;have:u∈Builtin.zeroCells z.cells n:=by simpa using hu
       simp only [Builtin.zeroCells,Array.mem_map,Array.mem_range] at this;obtain ⟨k,_,rfl⟩:=this;rw [getElem!_pos z.cells (k % z.cells.size) (Nat.mod_lt _ (by rw [yQ];exact BM))]
       exact h1 _ (by simp))
      have Lc:(Builtin.clear_ #[t] o.type #[.slice (some ⟨g,0,none⟩) n cap]).run P w=.ok (.tuple #[]) (w.setRow g (cur.toList.take 0++(Builtin.zeroCells z.cells n).toList++cur.toList.drop (0+0+(Builtin.zeroCells z.cells n).toList.length)).toArray):=by
       obtain ⟨m,rfl⟩:∃m,n=m+1:=⟨n-1,by omega⟩
       simp at ak;simp [Builtin.clear_,run_underlying ht,zeroValue,typeInfo,hq,hs,ak]
      unfold Oper.wp;simp [execOp,ho,resolve,invoke,builtin,hx,Lc,Result.andThen];refine hK _ _ ?_;refine h _ (Builtin.zeroCells z.cells n).toList ?_ ?_ (by simp)
      ·refine ⟨nO,.inr ⟨g,cap,_,rfl,hb,by simpa using setRow_heap w g cur _ e _ hg,xL,uk,?_,?_⟩⟩
       ·have qC:cur.toList.length=cap*size:=by simpa using cY
        have acj:(Builtin.zeroCells z.cells n).size=n*size:=by simpa using nO
        simp [acj,cY];omega
       ·rw [←nO];simp
      ·exact ⟨rfl,rfl,rfl,by simp,fun k _ hk=>by
        have:k≠g:=by
         intro e;subst e;exact hk rfl
        simpa using Go.setRow_other w g k _ this⟩
end
theorem AA (t e:TypeId) (i:TypeInfo) (z:Value) (ht:P.underlying t=some (.slice e)) (hi:P.info? e=some i) (hz:i.zero=some z)
  (kl kc:IntKind) (n c:Nat) (xL:n≤c) (Lw:i.bytes*c≤281474976710656) (rP:c≤9223372036854775807) (w:World) :
  (Instr.makeSlice t (.int kl (n:Int)) (.int kc (c:Int))).run P w=.ok (.slice (some ⟨w.heap.size,0,none⟩) n c) (w.alloc (.cells (madeCells z.cells (c*i.size)) e)):=by
 have hb:(i.bytes:Int)*(c:Int)≤281474976710656:=by
  have h:((i.bytes*c:Nat):Int)≤281474976710656:=by omega
  rwa [Int.natCast_mul] at h
 have hr:=run_make (P:=P) w t e i z ht hi hz kl kc n c (by omega) (by omega) hb (by omega);simp only [dC] at hr;exact hr
theorem AD {z:Array Value} {v:Value} (h0:0 < z.size) (h:∀x∈z.toList,x=v) (k:Nat):(madeCells z k).toList=List.replicate k v:=by
 apply List.ext_getElem
 ·simp [madeCells]
 ·intro i h1 h2;simp only [madeCells,Array.toList_map,Array.toList_range,List.getElem_map,List.getElem_range,List.getElem_replicate];rw [getElem!_pos z (i % z.size) (Nat.mod_lt _ h0)];exact h _ (by simp)
theorem sa {ops:Array Oper} {rest:List Oper} {Q:Exit→Act→World→Prop} (eP:o.guard=none) (d s:Operand) (dT sT:TypeId)
  (ho:o.op=.call { callee:=.builtin .copy,args:=#[d,s],argTypes:=#[dT,sT] }) {elem:TypeId} (hu:P.underlying dT=some (.slice elem)) (iP:(P.info? elem).map (·.size)=some 1)
  (g off EH LW:Nat) (ad:Addr) (qW zI:Nat) (hd:a.eval d=.slice (some ⟨g,off,none⟩) EH LW) (hs:a.eval s=.slice (some ad) qW zI)
  (c:Array Value) (t:TypeId) (cs:List Value) (hn:cs.length=Nat.min qW EH) (GU:∀j v,cs[j]?=some v→w.cell? (ad.add j)=some v) (oq:off+cs.length≤c.size) (h1:∀v∈cs,v.oneCell'=true)
  (r:Array Value) (hr:(c.toList.take off++(cs++c.toList.drop (off+cs.length))).toArray=r)
  (h:wpList P ops Q rest (a.put o.dst (goInt cs.length)) (w.alloc (.cells r t))) (xU:g=w.heap.size:=by simp):wpList P ops Q (o::rest) a (w.alloc (.cells c t)):=by
 subst xU;refine wpList_copy_own eP d s dT sT ho elem hu iP w.heap.size off EH LW ad qW zI hd hs c t (by rw [heap_alloc_new]) cs hn (fun j v hv=>?_) oq h1 ?_
 ·have:=GU j v hv;rw [World.cell?_alloc_lt _ _ _ (World.block_lt_of_cell? w _ this)];exact this
 ·rw [hr,E8];exact h
theorem Sl.src {A:Option Addr} {xs:List Value} (h:Sl w B 1 A n xs) (hn:0 < n):∃ad:Addr,A=some ad∧ad.block < B∧∀j v,xs[j]?=some v→w.cell? (ad.add j)=some v:=by
 obtain ⟨b,off,e,hb,hc⟩:=h.2 hn;refine ⟨_,e,hb,fun j v hv=>?_⟩;rw [Addr.add_mid];exact hc j v hv
theorem LN:∀(L:List Value) (k:Nat) (A:Array Value),k+L.length≤A.size→((L.zipIdx k).foldl (fun cs (p:Value×Nat)=>cs.setIfInBounds p.2 p.1) A).toList=A.toList.take k++L++A.toList.drop (k+L.length)
 | [],k,A,_=>by simp
 | v::L,k,A,h=>by
   simp only [List.length_cons] at h;have ih:=LN L (k+1) (A.setIfInBounds k v) (by simp;omega);have e:=list_seg_step A.toList k v L (by simp;omega);rw [List.zipIdx_cons,List.foldl_cons,ih,Array.toList_setIfInBounds,←e.symm];simp
theorem JL {ops:Array Oper} {rest:List Oper} {Q:Exit→Act→World→Prop} (eP:o.guard=none) (t:TypeId) (x:Operand) (ho:o.op=.buildSlice t 1 #[(0,x)])
  {e:TypeId} (hu:P.underlying t=some (.slice e)) (cs:Array Value) (hx:a.eval x=.agg cs) (hz:(P.info? e).map (fun i=>(i.zero.isSome,i.size))=some (true,cs.size)) (h0:0 < cs.size) (h1:cs.size≤16777216)
  (h:wpList P ops Q rest (a.put o.dst (.slice (some ⟨w.heap.size,0,none⟩) 1 1)) (w.alloc (.cells cs e))):wpList P ops Q (o::rest) a w :=
 wpList_plain eP fun K hK=>by
  cases hq:P.info? e with
  | none=>simp [hq] at hz
  | some i =>
    obtain ⟨yQ,hs⟩:i.zero.isSome=true∧i.size=cs.size:=by simpa [hq] using hz
    obtain ⟨z,NL⟩:=Option.isSome_iff_exists.1 yQ
    have Lc:(Instr.buildSlice t 1 #[(0,.agg cs)]).run P w=.ok (.slice (some ⟨w.heap.size,0,none⟩) 1 1) (w.alloc (.cells cs e)):=by
     have hb:¬16777216 < cs.size:=by omega
     have hp:¬cs.size=0:=by omega
     have hf:Instr.fill (fun i=>some (i*cs.size,cs.size)) ((Array.range cs.size).map (z.cells[· % z.cells.size]!)) [(0,.agg cs)]=some cs:=by
      have hfs:=LN cs.toList 0 ((Array.range cs.size).map (z.cells[· % z.cells.size]!)) (by simp);have hA:((Array.range cs.size).map (z.cells[· % z.cells.size]!)).size=cs.size:=by simp
      generalize (Array.range cs.size).map (z.cells[· % z.cells.size]!)=A at hfs hA ⊢;simp only [Instr.fill,Value.cells,Nat.zero_mul,Nat.zero_add];rw [if_neg (by simp [hA])]
      congr 1
      apply Array.ext';rw [←Array.foldl_toList,Array.toList_zipIdx,hfs];simp [hA]
     simp [Instr.buildSlice,run_underlying hu,sizeOf,typeInfo,hq,hs,zeroValue,NL,hb,hp,hf,newRow]
    unfold Oper.wp execOp;simp [ho,hx,Lc,Result.andThen_ok];exact hK _ _ h
theorem tK {t e bytes:Nat} (T:qP P t e size bytes) {ops:Array Oper} {rest:List Oper} {o:Oper} {a:Act} {Q:Exit→Act→World→Prop} {w:World} (eP:o.guard=none) (s x:Operand)
  (ho:o.op=.call { callee:=.builtin .append,args:=#[s,x],argTypes:=#[t,t] })
  {base:Nat} {v:Value} {n:Nat} {xs:List Value} (ft:w.ownsRow base e size v n xs) (hs:a.eval s=v) {B m c:Nat} {A:Option Addr} {ys:List Value} (hx:a.eval x=.slice A m c)
  (hr:Sl w B size A m ys) (h1:∀u∈ys,u.oneCell'=true) (hm:0 < m) (hb:(n+m)*bytes≤140737488355328) (rP:n+m≤maxLen) (pj:base≤w.heap.size)
  (h:∀g cap w',w'.ownsRow base e size (.slice (some ⟨g,0,none⟩) (n+m) cap) (n+m) (xs++ys)→w.grownBy w' v.ownBlock→(v.ownBlock=some g∨w.heap.size≤g)→g < w'.heap.size→wpList P ops Q rest (a.put o.dst (.slice (some ⟨g,0,none⟩) (n+m) cap)) w') :
  wpList P ops Q (o::rest) a w:=by
 obtain ⟨i,z,hi,hz,h2,h3,h4⟩:=T.hi;obtain ⟨b,off,rfl,_,hc⟩:=hr.2 hm;refine wpList_plain eP fun K hK=>?_;refine wp_append_lies w s x t ho base e i z size bytes T.ht hi hz h2 h3 h4 T.hs v n xs hs ft ⟨b,off,none⟩ m c ys hx hr.1 (fun j u hu=>?_) h1 hm rP hb pj w.heap.size rfl ?_
 ·rw [Addr.add_mid];exact hc j u hu
 ·intro g cap w' BO xV kU aH;exact hK _ _ (h g cap w' BO xV (kU.imp id fun e=>by omega) aH)
theorem aB {ops:Array Oper} {rest:List Oper} {Q:Exit→Act→World→Prop} (eP:o.guard=none) (ty:TypeId) (x y:Operand) (ho:o.op=.store ty x y) (g off:Nat) (cells:Array Value) (hx:a.eval x=.pointer (some ⟨g,off,none⟩)) (hy:a.eval y=.agg cells)
  {t:TypeId} {xs:List Value} (hg:Row w g t xs) (hi:(P.info? ty).map (·.size)=some cells.size) (oq:off+cells.size≤xs.length) (h1:∀v∈cells.toList,v.oneCell'=true)
  (r:List Value) (hr:xs.take off++cells.toList++xs.drop (off+cells.size)=r)
  (h:wpList P ops Q rest (a.put o.dst undef) (w.setRow g r.toArray)):wpList P ops Q (o::rest) a w:=by
 subst hr;exact ET eP ty x y ho g off cells hx hy hg hi oq h1 h
end
end mem
namespace sep
open Go.RowKit base obj mem
section
variable {xs:List Value} {g n size:Nat} {e:TypeId}
structure aI where
 on:World→(Nat→Prop)→Prop
 dom:∀{w:World} {F:Nat→Prop},on w F→∀i,F i→i < w.heap.size
 loc:∀{w w':World} {F:Nat→Prop},on w F→(∀i,F i→w'.heap[i]?=w.heap[i]?)→on w' F
theorem aaX {w w':World} {i:Nat} (h:i < w.heap.size) (e:w'.heap[i]?=w.heap[i]?):i < w'.heap.size:=by
 rw [Array.getElem?_eq_getElem h] at e;exact (Array.getElem?_eq_some_iff.1 e).1
def all:List aI→World→(Nat→Prop)→Prop
 | [],_,F=>∀i,¬F i
 | P::l,w,F=>∃F1 F2:Nat→Prop,P.on w F1∧all l w F2∧(∀i,F i ↔ F1 i∨F2 i)∧∀i,F1 i→¬F2 i
theorem zn:∀{l:List aI} {w:World} {F:Nat→Prop},all l w F→∀i,F i→i < w.heap.size
 | [],_,_,h,i,hi=>absurd hi (h i)
 | P::l,w,F,h,i,hi=>by
   obtain ⟨F1,F2,h1,h2,h3,_⟩:=h;rcases (h3 i).1 hi with h|h
   ·exact P.dom h1 i h
   ·exact zn h2 i h
theorem zm:∀{l:List aI} {w w':World} {F:Nat→Prop},all l w F→(∀i,F i→w'.heap[i]?=w.heap[i]?)→all l w' F
 | [],_,_,_,h,_=>h
 | P::l,w,w',F,h,k=>by
   obtain ⟨F1,F2,h1,h2,h3,h4⟩:=h;exact ⟨F1,F2,P.loc h1 fun i hi=>k i ((h3 i).2 (.inl hi)),zm h2 fun i hi=>k i ((h3 i).2 (.inr hi)),h3,h4⟩
theorem Zg:∀{l:List aI} {w:World} {F F':Nat→Prop},all l w F→(∀i,F' i ↔ F i)→all l w F'
 | [],_,_,_,h,k=>fun i hi=>h i ((k i).1 hi)
 | P::l,w,F,F',h,k=>by
   obtain ⟨F1,F2,h1,h2,h3,h4⟩:=h;exact ⟨F1,F2,h1,h2,fun i=>(k i).trans (h3 i),h4⟩
theorem Ww {l l':List aI} (p:l.Perm l') {w:World}:∀{F:Nat→Prop},all l w F→all l' w F:=by
 induction p with
 | nil=>exact fun h=>h
 | cons P _ ih =>
   rintro F ⟨F1,F2,h1,h2,h3,h4⟩;exact ⟨F1,F2,h1,ih h2,h3,h4⟩
 | swap P Q l =>
   rintro F ⟨F1,F2,h1,⟨F3,F4,h5,h6,h7,h8⟩,h3,h4⟩;refine ⟨F3,fun i=>F1 i∨F4 i,h5,⟨F1,F4,h1,h6,fun i=>Iff.rfl,fun i hi h=>h4 i hi ((h7 i).2 (.inr h))⟩,fun i=>?_,fun i hi h=>?_⟩
   ·rw [h3 i,h7 i]
    constructor
    ·rintro (h|h|h)
     ·exact .inr (.inl h)
     ·exact .inl h
     ·exact .inr (.inr h)
    ·rintro (h|h|h)
     ·exact .inr (.inl h)
     ·exact .inl h
     ·exact .inr (.inr h)
   ·rcases h with h|h
    ·exact h4 i h ((h7 i).2 (.inl hi))
    ·exact h8 i hi h
 | trans _ _ ih1 ih2=>exact fun h=>ih2 (ih1 h)
theorem all_append:∀{l l':List aI} {w:World} {F:Nat→Prop},all (l++l') w F ↔ ∃F1 F2:Nat→Prop,all l w F1∧all l' w F2∧(∀i,F i ↔ F1 i∨F2 i)∧∀i,F1 i→¬F2 i
 | [],l',w,F=>by
   constructor
   ·intro h;exact ⟨fun _=>False,F,fun i hi=>hi,h,fun i=>by simp,fun i hi=>hi.elim⟩
   ·rintro ⟨F1,F2,h1,h2,h3,_⟩;refine Zg h2 fun i=>?_;rw [h3 i];exact ⟨fun h=>h.elim (fun h=>absurd h (h1 i)) id,.inr⟩
 | P::l,l',w,F=>by
   constructor
   ·rintro ⟨F1,F2,h1,h2,h3,h4⟩;obtain ⟨F3,F4,h5,h6,h7,h8⟩:=all_append.1 h2;refine ⟨fun i=>F1 i∨F3 i,F4,⟨F1,F3,h1,h5,fun i=>Iff.rfl,fun i hi h=>h4 i hi ((h7 i).2 (.inl h))⟩,h6,fun i=>by rw [h3 i,h7 i,or_assoc],fun i hi h=>?_⟩;rcases hi with hi|hi
    ·exact h4 i hi ((h7 i).2 (.inr h))
    ·exact h8 i hi h
   ·rintro ⟨F1,F2,⟨F3,F4,h1,h2,h3,h4⟩,h5,h6,h7⟩;refine ⟨F3,fun i=>F4 i∨F2 i,h1,all_append.2 ⟨F4,F2,h2,h5,fun i=>Iff.rfl,fun i hi h=>h7 i ((h3 i).2 (.inr hi)) h⟩,fun i=>by rw [h6 i,h3 i,or_assoc],fun i hi h=>?_⟩;rcases h with h|h
    ·exact h4 i hi h
    ·exact h7 i ((h3 i).2 (.inl hi)) h
def row (g:Nat) (t:TypeId) (xs:List Value):aI where
 on w F:=Row w g t xs∧∀i,F i ↔ i=g
 dom:=fun ⟨h,k⟩ i hi=>by rw [(k i).1 hi];exact h.lt
 loc:=fun ⟨h,k⟩ e=>⟨(e g ((k g).2 rfl)).trans h,k⟩
def own (e:TypeId) (size:Nat) (v:Value) (n:Nat) (xs:List Value):aI where
 on w F:=w.ownsRow 0 e size v n xs∧∀i,F i ↔ v.ownBlock=some i
 dom:=fun ⟨h,k⟩ i hi=>(h.lt i ((k i).1 hi)).2
 loc:=fun {w w' F} ⟨h,k⟩ e=>by
  refine ⟨⟨h.1,?_⟩,k⟩;rcases h.2 with hz|⟨g,cap,cur,rfl,hb,hg,rest⟩
  ·exact .inl hz
  ·exact .inr ⟨g,cap,cur,rfl,hb,(e g ((k g).2 rfl)).trans hg,rest⟩
def du (l:List aI):aI where
 on:=all l
 dom:=zn
 loc:=zm
def fact (p:Prop):aI where
 on _ F:=p∧∀i,¬F i
 dom:=fun ⟨_,k⟩ i hi=>absurd hi (k i)
 loc:=fun h _=>h
def some_ {α:Type} (P:α→aI):aI where
 on w F:=∃x,(P x).on w F
 dom:=fun ⟨x,h⟩=>(P x).dom h
 loc:=fun ⟨x,h⟩ e=>⟨x,(P x).loc h e⟩
structure St (w0 w:World) (l:List aI):Prop where
 aE:Below w0.heap.size w0 w
 sat:∃F,all l w F∧∀i,F i→w0.heap.size≤i
section
variable {w0 w w' : World} {l l' : List aI} {P Q : aI}
theorem St.nil (w:World):St w w []:=⟨Below.refl _ _,fun _=>False,fun i hi=>hi,fun i hi=>hi.elim⟩
theorem St.perm (h:St w0 w l) (p:l.Perm l'):St w0 w l':=by
 obtain ⟨F,h1,h2⟩:=h.sat;exact ⟨h.aE,F,Ww p h1,h2⟩
theorem St.pick (h:St w0 w l) (k:Nat) (hk:l[k]?=some P):St w0 w (P::l.eraseIdx k):=by
 refine h.perm ?_;obtain ⟨aH,e⟩:=List.getElem?_eq_some_iff.1 hk;rw [←e,List.eraseIdx_eq_take_drop_succ];have h2:l=l.take k++l[k]::l.drop (k+1):=by rw [←List.drop_eq_getElem_cons aH,List.take_append_drop]
 conv=>lhs;rw [h2]
 exact List.perm_middle
theorem St.swap (h:St w0 w (P::Q::l)):St w0 w (Q::P::l):=h.perm (List.Perm.swap _ _ _)
theorem St.drop (h:St w0 w (P::l)):St w0 w l:=by
 obtain ⟨F,⟨F1,F2,h1,h2,h3,h4⟩,k⟩:=h.sat;exact ⟨h.aE,F2,h2,fun i hi=>k i ((h3 i).2 (.inr hi))⟩
theorem St.take (h:St w0 w l) (n:Nat):St w0 w (l.take n):=by
 obtain ⟨F,h1,k⟩:=h.sat;rw [←List.take_append_drop n l] at h1;obtain ⟨F1,F2,h1,h2,h3,h4⟩:=all_append.1 h1;exact ⟨h.aE,F1,h1,fun i hi=>k i ((h3 i).2 (.inl hi))⟩
theorem St.below (h:St w0 w l) (k:Below w.heap.size w w'):St w0 w' l:=by
 obtain ⟨F,h1,h2⟩:=h.sat;exact ⟨h.aE.trans (k.mono h.aE.size),F,zm h1 fun i hi=>k.block i (zn h1 i hi),h2⟩
theorem St.drew (h:St w0 w l):St w0 w.drew l:=h.below (Below.refl _ _).drew
theorem St.drewN (h:St w0 w l) (n:Nat):St w0 (w.drewN n) l:=h.below (below_drewN (Below.refl _ _) n)
theorem St.frame (h:St w0 w (P::l)):∃F,P.on w F∧(∀i,F i→w0.heap.size≤i)∧∀(w':World) (Q:aI) (F':Nat→Prop),Kept F w w'→Q.on w' F'→(∀i,F' i→F i∨w.heap.size≤i)→St w0 w' (Q::l):=by
 obtain ⟨F,⟨F1,F2,h1,h2,h3,h4⟩,k⟩:=h.sat;refine ⟨F1,h1,fun i hi=>k i ((h3 i).2 (.inl hi)),fun w' Q F' hk hq hF=>?_⟩;have hd:=zn h2;refine ⟨h.aE.trans (hk.below h.aE.size fun i hi h=>by have:=k i ((h3 i).2 (.inl h));omega),fun i=>F' i∨F2 i,⟨F',F2,hq,zm h2 fun i hi=>hk.block i (hd i hi) fun h=>h4 i h hi,fun i=>Iff.rfl,fun i hi h=>?_⟩,fun i hi=>?_⟩
 ·rcases hF i hi with h'|h'
  ·exact h4 i h' h
  ·have:=hd i h;omega
 ·rcases hi with hi|hi
  ·rcases hF i hi with h'|h'
   ·exact k i ((h3 i).2 (.inl h'))
   ·exact Nat.le_trans h.aE.size h'
  ·exact k i ((h3 i).2 (.inr hi))
theorem St.conv (h:St w0 w (P::l)) (hq:∀w F,P.on w F→Q.on w F):St w0 w (Q::l):=by
 obtain ⟨F,⟨F1,F2,h1,h2,h3,h4⟩,k⟩:=h.sat;exact ⟨h.aE,F,⟨F1,F2,hq _ _ h1,h2,h3,h4⟩,k⟩
theorem St.add (h:St w0 w l) (k:Below w.heap.size w w') {F:Nat→Prop} (hq:Q.on w' F) (hF:∀i,F i→w.heap.size≤i):St w0 w' (Q::l):=by
 obtain ⟨F2,h1,h2⟩:=h.sat;have hd:=zn h1;refine ⟨h.aE.trans (k.mono h.aE.size),fun i=>F i∨F2 i,⟨F,F2,hq,zm h1 fun i hi=>k.block i (hd i hi),fun i=>Iff.rfl,fun i hi h=>?_⟩,fun i hi=>?_⟩
 ·have:=hF i hi;have:=hd i h;omega
 ·rcases hi with hi|hi
  ·exact Nat.le_trans h.aE.size (hF i hi)
  ·exact h2 i hi
theorem St.new (h:St w0 w l) (t:TypeId) (cs:Array Value):St w0 (w.alloc (.cells cs t)) (row w.heap.size t cs.toList::l) :=
 h.add ((Below.refl _ _).alloc (Nat.le_refl _) _) (F:=fun i=>i=w.heap.size) ⟨Row.new w t cs,fun i=>Iff.rfl⟩ fun i hi=>by rw [hi];exact Nat.le_refl _
theorem St.aa6 (h:St w0 w l) (k:Below w.heap.size w w') {g:Nat} {t:TypeId} {xs:List Value} (hr:Row w' g t xs) (hg:w.heap.size≤g):St w0 w' (row g t xs::l) :=
 h.add k (F:=fun i=>i=g) ⟨hr,fun i=>Iff.rfl⟩ fun i hi=>by rw [hi];exact hg
theorem St.cX (h:St w0 w l) (k:Below w.heap.size w w') {e:TypeId} {size n:Nat} {v:Value} {xs:List Value} (hr:w'.ownsRow w.heap.size e size v n xs):St w0 w' (own e size v n xs::l) :=
 h.add k (F:=fun i=>v.ownBlock=some i) ⟨hr.mono (Nat.zero_le _),fun i=>Iff.rfl⟩ fun i hi=>(hr.lt i hi).1
theorem St.fact {p:Prop} (h:St w0 w (fact p::l)):p:=by
 obtain ⟨F,⟨F1,F2,h1,h2,h3,h4⟩,k⟩:=h.sat;exact h1.1
theorem St.addFact {p:Prop} (h:St w0 w l) (hp:p):St w0 w (sep.fact p::l) :=
 h.add (Below.refl _ _) (F:=fun _=>False) ⟨hp,fun i hi=>hi⟩ fun i hi=>hi.elim
theorem St.ex {α:Type} {R:α→aI} (h:St w0 w (some_ R::l)):∃x,St w0 w (R x::l):=by
 obtain ⟨F,⟨F1,F2,⟨x,h1⟩,h2,h3,h4⟩,k⟩:=h.sat;exact ⟨x,h.aE,F,⟨F1,F2,h1,h2,h3,h4⟩,k⟩
theorem St.Zr {α:Type} {R:α→aI} (x:α) (h:St w0 w (R x::l)):St w0 w (some_ R::l):=h.conv fun _ _ hq=>⟨x,hq⟩
theorem St.fI {L:List aI} (h:St w0 w (du L::l)):St w0 w (L++l):=by
 obtain ⟨F,⟨F1,F2,h1,h2,h3,h4⟩,k⟩:=h.sat;exact ⟨h.aE,F,all_append.2 ⟨F1,F2,h1,h2,h3,h4⟩,k⟩
theorem St.eJ {L:List aI} (h:St w0 w (L++l)):St w0 w (du L::l):=by
 obtain ⟨F,h1,k⟩:=h.sat;obtain ⟨F1,F2,h1,h2,h3,h4⟩:=all_append.1 h1;exact ⟨h.aE,F,⟨F1,F2,h1,h2,h3,h4⟩,k⟩
theorem St.row {g:Nat} {t:TypeId} {xs:List Value} (h:St w0 w (row g t xs::l)):Row w g t xs∧w0.heap.size≤g:=by
 obtain ⟨F,⟨F1,F2,h1,h2,h3,h4⟩,k⟩:=h.sat;exact ⟨h1.1,k g ((h3 g).2 (.inl ((h1.2 g).2 rfl)))⟩
theorem St.set {g:Nat} {t:TypeId} {xs:List Value} (h:St w0 w (sep.row g t xs::l)) (k:Nat) (v:Value):St w0 (w.setCell ⟨g,k,none⟩ v) (sep.row g t (xs.set k v)::l):=by
 obtain ⟨F,h1,h2,h3⟩:=h.frame;refine h3 _ _ F ((Kept.refl F w).setCell (p:=⟨g,k,none⟩) (.inl ((h1.2 g).2 rfl)) v) ⟨h1.1.setCell k v,h1.2⟩ fun i hi=>.inl hi
theorem St.setRow {g:Nat} {t:TypeId} {xs:List Value} (h:St w0 w (sep.row g t xs::l)) (cs:List Value):St w0 (w.setRow g cs.toArray) (sep.row g t cs::l):=by
 obtain ⟨F,h1,h2,h3⟩:=h.frame;refine h3 _ _ F (gz (Kept.refl F w) (.inl ((h1.2 g).2 rfl)) _) ⟨h1.1.setRow cs,h1.2⟩ fun i hi=>.inl hi
theorem St.ne {g':Nat} {t t':TypeId} {ys:List Value} (h:St w0 w (sep.row g t xs::sep.row g' t' ys::l)):g≠g':=by
 obtain ⟨F,⟨F1,F2,h1,⟨F3,F4,h5,h6,h7,h8⟩,h3,h4⟩,k⟩:=h.sat;rintro rfl;exact h4 g ((h1.2 g).2 rfl) ((h7 g).2 (.inl ((h5.2 g).2 rfl)))
theorem St.own {e:TypeId} {size n:Nat} {v:Value} {xs:List Value} (h:St w0 w (own e size v n xs::l)):w.ownsRow w0.heap.size e size v n xs:=by
 obtain ⟨F,⟨F1,F2,h1,h2,h3,h4⟩,k⟩:=h.sat;refine ⟨h1.1.1,?_⟩;rcases h1.1.2 with hz|⟨g,cap,cur,rfl,hb,rest⟩
 ·exact .inl hz
 ·exact .inr ⟨g,cap,cur,rfl,k g ((h3 g).2 (.inl ((h1.2 g).2 rfl))),rest⟩
theorem St.grown {n':Nat} {v v':Value} {qv:List Value} (h:St w0 w (sep.own e size v n xs::l)) (hg:w.grownBy w' v.ownBlock) {base:Nat} (ho:w'.ownsRow base e size v' n' qv) (hv:∀g,v'.ownBlock=some g→v.ownBlock=some g∨w.heap.size≤g):St w0 w' (sep.own e size v' n' qv::l):=by
 obtain ⟨F,h1,h2,h3⟩:=h.frame;refine h3 _ _ (fun i=>v'.ownBlock=some i) (Kept.Ep hg F fun k hk=>(h1.2 k).2 hk) ⟨ho.mono (Nat.zero_le _),fun i=>Iff.rfl⟩ fun i hi=>?_;rcases hv i hi with h|h
 ·exact .inl ((h1.2 i).2 h)
 ·exact .inr h
theorem St.mE {cap:Nat} (h:St w0 w (sep.row g e xs::l)) (hn:n≤cap) (hc:cap≤maxLen) (hl:xs.length=cap*size):St w0 w (sep.own e size (.slice (some ⟨g,0,none⟩) n cap) n (xs.take (n*size))::l) :=
 h.conv fun w F ⟨hr,k⟩=>⟨hr.own (Nat.zero_le _) hn hc hl,fun i=>by rw [k i];simp [Value.ownBlock,eq_comm]⟩
end
end
end sep
end Go.Proofs.YtdldkkoplgkloaaGreat
