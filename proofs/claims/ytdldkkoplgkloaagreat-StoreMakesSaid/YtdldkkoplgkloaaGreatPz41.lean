/-
  PROVED HERE: lemmas and contracts that the law's proof leans on (texts put together: MakesDoc, ArgTab, ArgBytes, ArgLay, Fits).
  CONDITIONS: each names its own.
-/
import Derived.Test.YtdldkkoplgkloaaGreatPz2
import Derived.Test.YtdldkkoplgkloaaGreatPz4
import Derived.Test.YtdldkkoplgkloaaGreatPz22
import Derived.Test.YtdldkkoplgkloaaGreatPz35
import Derived.Test.YtdldkkoplgkloaaGreatPz39
import Derived.Test.YtdldkkoplgkloaaGreatPz40
namespace Go.Proofs.YtdldkkoplgkloaaGreat
set_option linter.unusedVariables false
set_option linter.unusedSimpArgs false
set_option maxRecDepth 100000
set_option maxHeartbeats 32000000
namespace store


open Go.RowKit Go.Deep base obj mem sep plan disk record commit stage image tab compat chain crc
def strN (ad:StAd) (t:Tab) (d:Nat) (xs:List PP):Asn:=lst [row ad.S 114 (stRow ad t xs.length),own 94 1 (.slice ad.AL xs.length ad.cL) xs.length (ptrs ad.al),tbl ad.tab t,lst (partsA d ad.al xs),fact (ad.al.length=xs.length)]
section
variable {w0 w : World} {l : List Asn} {ad : StAd} {t : Tab} {d : Nat} {m : DS} {xs : List PP}
theorem str_split (h:St w0 w (strA ad t d m xs::l)):St w0 w (dsk d m::strN ad t d xs::l):=by
 obtain ⟨h1,h2⟩:=str_un h
 have h3:=(h1.pick 3 rfl).addFact h2
 have h4:=(((((h3.pick 5 rfl).pick 5 rfl).pick 5 rfl).pick 5 rfl))
 exact (St.tolst (L:=[_,_,_,_,_]) h4).swap
theorem str_join (h:St w0 w (dsk d m::strN ad t d xs::l)):St w0 w (strA ad t d m xs::l):=by
 have h1:=h.swap.unlst
 simp only [List.cons_append,List.nil_append] at h1
 have hl:=(h1.pick 4 rfl).fact
 have h2:=(h1.pick 4 rfl).drop
 exact str_mk rfl (((((h2.pick 3 rfl).pick 4 rfl).pick 4 rfl).pick 4 rfl).pick 4 rfl) hl
end
def wantTo (t:Tab) (js:List Img):Nat→Int
 | 0=>0
 | p+1=>if wantTo t js p=0 then checkL t p (js.getD p Img.none) 0 else wantTo t js p
theorem wantTo_first {t:Tab} {js:List Img}:wantTo t js js.length=firstE t 0 js:=by
 by_cases h:∀k,k < js.length→checkL t ((k:Nat):Int) (js.getD k Img.none) 0=0
 ·have e:∀k,k≤js.length→wantTo t js k=0:=fun k=>by
   induction k with
   | zero=>intro _;rfl
   | succ k ih =>
     intro hk
     unfold wantTo
     rw [if_pos (ih (by omega))]
     exact h k (by omega)
  rw [e _ (Nat.le_refl _),firstE_all js 0 (fun k hk=>by rw [Nat.zero_add];exact h k hk)]
 ·have hex:∃k,k < js.length∧checkL t ((k:Nat):Int) (js.getD k Img.none) 0≠0:=Classical.byContradiction fun hn=>h fun k hk=>Classical.byContradiction fun hc=>hn ⟨k,hk,hc⟩
  obtain ⟨k,hk,hne,hmin⟩:∃k,k < js.length∧checkL t ((k:Nat):Int) (js.getD k Img.none) 0≠0∧∀i,i < k→checkL t ((i:Nat):Int) (js.getD i Img.none) 0=0:=by
   obtain ⟨k,hk⟩:=hex
   induction k using Nat.strongRecOn with
   | _ k ih =>
     by_cases hm:∀i,i < k→checkL t ((i:Nat):Int) (js.getD i Img.none) 0=0
     ·exact ⟨k,hk.1,hk.2,hm⟩
     ·obtain ⟨i,hi,hc⟩:∃i,i < k∧checkL t ((i:Nat):Int) (js.getD i Img.none) 0≠0:=Classical.byContradiction fun hn=>hm fun i hi=>Classical.byContradiction fun hc=>hn ⟨i,hi,hc⟩
      exact ih i hi ⟨by omega,hc⟩
  have e0:∀i,i≤k→wantTo t js i=0:=fun i=>by
   induction i with
   | zero=>intro _;rfl
   | succ i ih =>
     intro hi
     unfold wantTo
     rw [if_pos (ih (by omega))]
     exact hmin i (by omega)
  have e1:∀j,wantTo t js (k+1+j)=checkL t ((k:Nat):Int) (js.getD k Img.none) 0:=fun j=>by
   induction j with
   | zero=>show wantTo t js (k+1)=_;unfold wantTo;rw [if_pos (e0 k (Nat.le_refl _))]
   | succ j ih =>
     show wantTo t js (k+1+j+1)=_
     unfold wantTo
     rw [ih,if_neg hne]
  obtain ⟨j,hj⟩:∃j,js.length=k+1+j:=⟨js.length-(k+1),by omega⟩
  have e2:=firstE_at (t:=t) js 0 k hk (fun i hi=>by rw [Nat.zero_add];exact hmin i hi) (by rw [Nat.zero_add];exact hne)
  rw [Nat.zero_add] at e2
  rw [e2,hj,e1]
theorem made_same {t:Tab} {js:List Img} (hc:∀p:Nat,p < js.length→checkL t p (js.getD p Img.none) 0=0) {p:Nat} (hp:p < js.length):sameP t (madeD js) p (madeRP js p):=by
 have hh:=dHold_is (checkL_right (hc p hp)) (loadR_bytes _) (hc p hp)
 have hD:=madeD_at hp
 have hl:=madeD_len js
 have hin:¬((p:Int) < 0∨((madeD js).length:Int)≤p):=by rw [hl];omega
 have hI:dImage t (madeD js) (p:Int)=(js.getD p Img.none,0):=by
  unfold dImage dAct
  rw [if_neg hin,Int.toNat_natCast,hD]
  exact hh
 have hS:dStg (madeD js) (p:Int)=(Stg.zero,false):=by
  unfold dStg
  rw [if_neg hin,Int.toNat_natCast,hD]
  rfl
 refine ⟨by rw [hI],by rw [hI];rfl,?_,by rw [hS];rfl,fun h=>by rw [hS] at h;cases h⟩
 unfold dRec
 rw [if_neg hin,Int.toNat_natCast,hD]
 rfl
end store
namespace tab

open Go.RowKit Go.ChangeShapes Go.WideShapes Go.ChangeAt Go.Deep Go.Joins base obj mem
theorem t3_in {H:Type} {enc:TypeId×Value→H} {W:World} {e:TypeId} {s:TypeId} {v:Value} {fuel:Nat} {x:DataW H×List MemPlace} (ht:Tryz.prog.underlying s=some (.slice e)) (hc:Tryz.prog.cellsOf e=3)
  (he:∀(cs:List Value) (m:Nat) (y:DataW H×List MemPlace),cs.length=3→DataW.trod enc Tryz.prog W 0 (fun _=>true) true m e cs=some y→∃t:T3,cs=t.cells)
  (hf:DataW.trod enc Tryz.prog W 0 (fun _=>true) true fuel s [v]=some x):∃(A:Option Addr) (n c:Nat) (l:List T3),v=.slice A n c∧n=l.length∧n≤maxLen∧Sl W W.heap.size 3 A n (t3s l):=by
 obtain ⟨A,n,c,q,rfl,_,hn,hs,hq⟩:=lift.field_row ht hc (by decide) hf
 have each:∀i,i < n→∃p:T3,q i=p.cells:=by
  intro i hi
  obtain ⟨hl,m,y,hy⟩:=hq i hi
  exact he _ m y hl hy
 obtain ⟨z,hz⟩:=choose_lt each
 have e1:∀m,m≤n→(List.range m).flatMap q=t3s ((List.range m).map z):=by
  intro m
  induction m with
  | zero=>intro _;simp [t3s]
  | succ m ih =>
    intro hm
    rw [List.range_succ,List.flatMap_append,List.map_append,ih (by omega),List.map_cons,List.map_nil,t3s_snoc]
    simp [hz m (by omega)]
 rw [e1 n (Nat.le_refl _)] at hs
 exact ⟨A,n,c,(List.range n).map z,rfl,by simp,hn,hs⟩
theorem t3_of {H:Type} {enc:TypeId×Value→H} {W:World} {e:TypeId} {f0 f1 f2:Field} (hu:Tryz.prog.underlying e=some (.struct #[f0,f1,f2])) (hone:oneCellFields Tryz.prog #[f0,f1,f2]=true) (h0:f0.type=3) (h1:f1.type=3) (h2:f2.type=3) :
  ∀(cs:List Value) (m:Nat) (y:DataW H×List MemPlace),cs.length=3→DataW.trod enc Tryz.prog W 0 (fun _=>true) true m e cs=some y→∃t:T3,cs=t.cells:=by
 intro cs m y hl hy
 have hf:=lift.row_fields hu hone hl hy
 obtain ⟨v0,k0,y0,g0,t0⟩:=hf 0 f0 rfl
 obtain ⟨v1,k1,y1,g1,t1⟩:=hf 1 f1 rfl
 obtain ⟨v2,k2,y2,g2,t2⟩:=hf 2 f2 rfl
 rw [h0] at t0
 rw [h1] at t1
 rw [h2] at t2
 obtain ⟨a0,e0,_,_⟩:=DataW.trod_int Tryz.underlying3 t0
 obtain ⟨a1,e1,_,_⟩:=DataW.trod_int Tryz.underlying3 t1
 obtain ⟨a2,e2,_,_⟩:=DataW.trod_int Tryz.underlying3 t2
 simp only [List.cons.injEq,and_true] at e0 e1 e2
 refine ⟨⟨a0,a1,a2⟩,?_⟩
 match cs,hl with
 | [u0,u1,u2],_ =>
   simp only [List.getElem?_cons_zero,List.getElem?_cons_succ,Option.some.injEq] at g0 g1 g2
   rw [g0,g1,g2,e0,e1,e2]
   rfl
end tab
namespace lift

open Go.RowKit Go.ChangeShapes Go.WideShapes Go.Deep base
theorem wf_byt {zs:List Int} (h:∀z∈zs,(Lit.int .u8 z).wf=true):crc.Byt zs:=fun z hz=>by
 have h1:IntKind.u8.min=0:=rfl
 have h2:IntKind.u8.max=255:=rfl
 have h:=h z hz
 simp only [Lit.wf,Bool.and_eq_true,decide_eq_true_eq] at h
 omega
end lift
namespace store


open Go.RowKit Go.ChangeShapes Go.WideShapes Go.ChangeAt Go.Deep Go.Joins base obj mem sep tab image
theorem row_partsL {H:Type} {enc:TypeId×Value→H} {P:Program} {W:World} {e:TypeId} {fs:Array Field} {cs:List Value} {m:Nat} {x:DataW H×List MemPlace} (he:P.underlying e=some (.struct fs))
  (h:DataW.trod enc P W 0 (fun _=>true) true m e cs=some x):∀(j:Nat) (f:Field) (n:Nat),fs[j]?=some f→P.cellsOf f.type=n→∃(k:Nat) (y:DataW H×List MemPlace),DataW.trod enc P W 0 (fun _=>true) true k f.type ((cs.drop f.offset).take n)=some y:=by
 obtain ⟨ys,n',hn',hy,hlen,hyl,hf⟩:=DataW.trod_struct he h
 intro j f n hj hn
 subst hn
 have hjl:j < fs.size:=(Array.getElem?_eq_some_iff.1 hj).1
 have hys:ys[j]?=some (ys[j]'(by rw [hyl];exact hjl)):=List.getElem?_eq_getElem _
 exact ⟨n',_,(hf j f hj).trans hys⟩
structure ImC where
 i:Img
 A:Option Addr
 c:Nat
def ImC.cells (x:ImC):List Value:=Img.row x.i (x.A,x.c)
instance:Inhabited ImC:=⟨⟨Img.none,none,0⟩⟩
structure ImC.In (w:World) (B:Nat) (x:ImC):Prop where
 code:Sl w B 1 x.A x.i.code.length (u8s x.i.code)
 cap:x.i.code.length≤x.c
 byt:crc.Byt x.i.code
 few:x.i.code.length≤maxLen
def imc (l:List ImC):List Value:=l.flatMap ImC.cells
theorem imc_snoc (l:List ImC) (x:ImC):imc (l++[x])=imc l++x.cells:=by simp [imc]
theorem field_imgs {H:Type} {enc:TypeId×Value→H} {W:World} {v:Value} {fuel:Nat} {x:DataW H×List MemPlace}
  (h:DataW.trod enc Tryz.prog W 0 (fun _=>true) true fuel 47 [v]=some x):∃(A:Option Addr) (c:Nat) (l:List ImC),v=.slice A l.length c∧l.length≤c∧l.length≤maxLen∧Sl W W.heap.size 8 A l.length (imc l)∧∀x∈l,x.In W W.heap.size:=by
 obtain ⟨A,n,c,q,rfl,hnc,hn,hs,hq⟩:=lift.field_row Tryz.underlying47 (s:=8) (by kernel_rfl) (by decide) h
 have each:∀i,i < n→∃p:ImC,q i=p.cells∧p.In W W.heap.size:=by
  intro i hi
  obtain ⟨hl,m,x,hx⟩:=hq i hi
  obtain ⟨u0,u1,u2,u3,u4,u5,u6,u7,hqi⟩:∃u0 u1 u2 u3 u4 u5 u6 u7,q i=[u0,u1,u2,u3,u4,u5,u6,u7]:=by
   match hqi:q i,hl with
   | [u0,u1,u2,u3,u4,u5,u6,u7],_=>exact ⟨_,_,_,_,_,_,_,_,rfl⟩
  rw [hqi] at hx ⊢
  have hf:=row_partsL Tryz.underlying26 hx
  obtain ⟨k0,y0,t0⟩:=hf 0 _ 1 rfl (by kernel_rfl)
  obtain ⟨k1,y1,t1⟩:=hf 1 _ 1 rfl (by kernel_rfl)
  obtain ⟨k2,y2,t2⟩:=hf 2 _ 1 rfl (by kernel_rfl)
  obtain ⟨k3,y3,t3⟩:=hf 3 _ 1 rfl (by kernel_rfl)
  obtain ⟨k4,y4,t4⟩:=hf 4 _ 1 rfl (by kernel_rfl)
  obtain ⟨k5,y5,t5⟩:=hf 5 _ 1 rfl (by kernel_rfl)
  obtain ⟨k6,y6,t6⟩:=hf 6 _ 1 rfl (by kernel_rfl)
  obtain ⟨k7,y7,t7⟩:=hf 7 _ 1 rfl (by kernel_rfl)
  obtain ⟨a0,h0,_,w0⟩:=DataW.trod_int Tryz.underlying3 t0
  obtain ⟨a1,h1,_,w1⟩:=DataW.trod_int Tryz.underlying3 t1
  obtain ⟨a2,h2,_,w2⟩:=DataW.trod_int Tryz.underlying3 t2
  obtain ⟨a3,h3,_,w3⟩:=DataW.trod_int Tryz.underlying3 t3
  obtain ⟨a4,h4,_,w4⟩:=DataW.trod_int Tryz.underlying3 t4
  obtain ⟨a5,h5,_,w5⟩:=DataW.trod_int Tryz.underlying3 t5
  obtain ⟨a6,h6,_,w6⟩:=DataW.trod_int Tryz.underlying3 t6
  obtain ⟨AC,cC,lC,e7,hc7,m7,s7,b7⟩:=lift.field_ints (v:=u7) Tryz.underlying24 Tryz.underlying5 (by kernel_rfl) t7
  simp at h0 h1 h2 h3 h4 h5 h6
  subst h0;subst h1;subst h2;subst h3;subst h4;subst h5;subst h6;subst e7
  exact ⟨⟨⟨a0,a1,a2,a3,a4,a5,a6,lC⟩,AC,cC⟩,rfl,s7,hc7,lift.wf_byt b7,m7⟩
 obtain ⟨z,hz⟩:=choose_lt each
 have e1:∀m,m≤n→(List.range m).flatMap q=imc ((List.range m).map z):=by
  intro m
  induction m with
  | zero=>intro _;simp [imc]
  | succ m ih =>
    intro hm
    rw [List.range_succ,List.flatMap_append,List.map_append,ih (by omega),List.map_cons,List.map_nil,imc_snoc]
    simp [(hz m (by omega)).1]
 rw [e1 n (Nat.le_refl _)] at hs
 have hl:((List.range n).map z).length=n:=by simp
 refine ⟨A,c,(List.range n).map z,by rw [hl],by rw [hl];exact hnc,by rw [hl];exact hn,by rw [hl];exact hs,fun y hy=>?_⟩
 obtain ⟨i,hi,rfl⟩:=List.mem_map.1 hy
 exact (hz i (List.mem_range.1 hi)).2
theorem imc_at {w:World} {B:Nat} {A:Option Addr} {l:List ImC} (h:Sl w B 8 A l.length (imc l)) {k:Nat} (hk:k < l.length):∃b off,A=some ⟨b,off,none⟩∧b < B∧
  ∀j u,j < 8→l[k].cells[j]?=some u→w.cell? ⟨b,off+k*8+j,none⟩=some u:=by
 obtain ⟨b,off,rfl,hbl,hc⟩:=h.2 (by omega)
 have h9:∀x∈l.map ImC.cells,x.length=8:=by
  intro x hx
  obtain ⟨a,_,rfl⟩:=List.mem_map.1 hx
  rfl
 have e:=flat_elem h9 (i:=k) (by simpa using hk)
 have g:∀j,j < 8→(imc l)[k*8+j]?=l[k].cells[j]?:=by
  intro j hj
  have e2:(((l.map ImC.cells).flatten.drop (k*8)).take 8)[j]?=(l.map ImC.cells).flatten[k*8+j]?:=by
   rw [List.getElem?_take,if_pos hj,List.getElem?_drop]
  rw [e] at e2
  rw [imc,List.flatMap_def,←e2]
  simp
 refine ⟨b,off,rfl,hbl,fun j u hj hu=>?_⟩
 rw [Nat.add_assoc]
 exact hc _ _ ((g j hj).trans hu)
theorem imc_imgs {w:World} {B:Nat} {A:Option Addr} {l:List ImC} (h:Sl w B 8 A l.length (imc l)) (hi:∀x∈l,x.In w B):ImgsV w B (l.map (·.i)) A l.length (fun k=>((l.getD k ⟨Img.none,none,0⟩).A,(l.getD k ⟨Img.none,none,0⟩).c)):=by
 refine ⟨by simp,fun i him=>?_,fun k hk=>?_⟩
 ·obtain ⟨x,hx,rfl⟩:=List.mem_map.1 him
  exact (hi x hx).byt
 ·obtain ⟨b,off,rfl,hbl,hc⟩:=imc_at h hk
  have e1:(l.map (·.i)).getD k Img.none=l[k].i:=by simp [List.getD_eq_getElem?_getD,hk]
  have e2:l.getD k ⟨Img.none,none,0⟩=l[k]:=by simp [hk]
  have hx:=hi l[k] (List.getElem_mem hk)
  rw [e1,e2]
  exact ⟨b,off,rfl,hbl,hc 0 _ (by omega) rfl,hc 1 _ (by omega) rfl,hc 2 _ (by omega) rfl,hc 3 _ (by omega) rfl,hc 4 _ (by omega) rfl,hc 5 _ (by omega) rfl,hc 6 _ (by omega) rfl,hc 7 _ (by omega) rfl,hx.cap,hx.code⟩
structure LayIn (W:World) (a:TabA) (t:Tab) (AI:Option Addr) (nI cI:Nat) (js:List Img) (K:Nat→Option Addr×Nat):Prop where
 tab:TabW W a t
 cap:nI≤cI
 few:nI≤maxLen
 imgs:ImgsV W W.heap.size js AI nI K
 lens:∀k,k < nI→(js.getD k Img.none).code.length≤9223372036854775807
theorem LayIn.over {w w':World} {a:TabA} {t:Tab} {AI:Option Addr} {nI cI:Nat} {js:List Img} {K:Nat→Option Addr×Nat} (h:LayIn w a t AI nI cI js K) (hb:Below w.heap.size w w'):LayIn w' a t AI nI cI js K:=⟨h.tab.over hb,h.cap,h.few,h.imgs.over hb,h.lens⟩
theorem arg_lay {H:Type} {enc:TypeId×Value→H} {W:World} {r:Reach} {b0:Nat} {v:Value} {d:DataW H} {ps:List MemPlace} (hval:Value.okWide Tryz.prog W r b0 49 v)
  (h:DataW.Trod enc Tryz.prog W 0 (fun _=>true) true 49 v d ps):∃(a:TabA) (t:Tab) (AI:Option Addr) (nI cI:Nat) (js:List Img) (K:Nat→Option Addr×Nat),v=.agg #[.int .i64 t.frame,.slice a.AP t.parts.length a.cP,.slice a.AW t.wins.length a.cW,.slice a.AC t.chans.length a.cC,.int .i64 t.trial,.slice AI nI cI]∧LayIn W a t AI nI cI js K:=by
 obtain ⟨cs,rfl,hl⟩:=okWide_struct Tryz.underlying49 hval
 obtain ⟨fuel,hx⟩:=h
 have hl6:cs.toList.length=6:=by rw [Array.length_toList,hl];kernel_rfl
 obtain ⟨l⟩:=cs
 match hqi:l,hl6 with
 | [u0,u1,u2,u3,u4,u5],_ =>
   have hx':DataW.trod enc Tryz.prog W 0 (fun _=>true) true fuel 49 [u0,u1,u2,u3,u4,u5]=some (d,ps):=hx
   have hf:=row_partsL Tryz.underlying49 hx'
   obtain ⟨j0,z0,r0⟩:=hf 0 _ 5 rfl (by kernel_rfl)
   obtain ⟨j1,z1,r1⟩:=hf 1 _ 1 rfl (by kernel_rfl)
   have hg:=row_partsL Tryz.underlying46 r0
   obtain ⟨k0,y0,t0⟩:=hg 0 _ 1 rfl (by kernel_rfl)
   obtain ⟨k1,y1,t1⟩:=hg 1 _ 1 rfl (by kernel_rfl)
   obtain ⟨k2,y2,t2⟩:=hg 2 _ 1 rfl (by kernel_rfl)
   obtain ⟨k3,y3,t3⟩:=hg 3 _ 1 rfl (by kernel_rfl)
   obtain ⟨k4,y4,t4⟩:=hg 4 _ 1 rfl (by kernel_rfl)
   obtain ⟨a0,h0,_,w0⟩:=DataW.trod_int Tryz.underlying3 t0
   obtain ⟨a4,h4,_,w4⟩:=DataW.trod_int Tryz.underlying3 t4
   obtain ⟨AP,nP,cP,lp,e1,p1,p2,p3⟩:=t3_in (v:=u1) Tryz.underlying42 (by kernel_rfl) (t3_of Tryz.underlying147 (by kernel_rfl) rfl rfl rfl) t1
   obtain ⟨AW,nW,cW,lw,e2,q1,q2,q3⟩:=t3_in (v:=u2) Tryz.underlying43 (by kernel_rfl) (t3_of Tryz.underlying150 (by kernel_rfl) rfl rfl rfl) t2
   obtain ⟨AC,nC,cC,lc,e3,r1',r2,r3⟩:=t3_in (v:=u3) Tryz.underlying44 (by kernel_rfl) (t3_of Tryz.underlying152 (by kernel_rfl) rfl rfl rfl) t3
   obtain ⟨AI,cI,li,e5,hcI,hmI,hsI,hiI⟩:=field_imgs (v:=u5) r1
   simp at h0 h4
   subst h0;subst h4;subst e1;subst e2;subst e3;subst e5
   subst p1;subst q1;subst r1'
   exact ⟨⟨AP,cP,AW,cW,AC,cC⟩,⟨a0,lp,lw,lc,a4⟩,AI,li.length,cI,li.map (·.i),_,rfl,⟨p3,q3,r3,rfl,rfl,rfl,p2,q2,r2⟩,hcI,hmI,imc_imgs hsI hiI,fun k hk=>by
    have:=(hiI li[k] (List.getElem_mem hk)).few
    rw [show (li.map (·.i)).getD k Img.none=li[k].i by simp [List.getD_eq_getElem?_getD,hk]]
    unfold maxLen at this
    omega⟩
end store
namespace store


open Go.RowKit Go.Deep base obj mem sep plan disk record commit stage image tab compat chain crc
structure Fits (t:Tab) (js:List Img) (nI:Nat):Prop where
 right:t.right=true
 enough:t.parts.length≤nI
 few:nI≤10
 chk:∀p:Nat,p < t.parts.length→checkL t p (js.getD p Img.none) 0=0
 short:∀k:Nat,k < nI→(js.getD k Img.none).code.length≤200
theorem fits_at {w:World} {a:TabA} {t:Tab} {AI:Option Addr} {nI cI:Nat} {js:List Img} {K:Nat→Option Addr×Nat} (h:LayIn w a t AI nI cI js K) :
  Calls Tryz.prog 19 #[.agg (layRow a t AI nI cI).toArray] w fun e w'=>(∃b:Bool,e=.returned (.bool b)∧(b=true→Fits t js nI))∧Below w.heap.size w w':=by
 obtain ⟨Z,hZ⟩:∃Z,Z=w.heap.size:=⟨_,rfl⟩
 obtain ⟨w1,hw1⟩:∃w1,w1=w.alloc (.cells (layRow a t AI nI cI).toArray 49):=⟨_,rfl⟩
 have hb1:Below w.heap.size w w1:=by rw [hw1];exact (Below.refl _ w).alloc (Nat.le_refl _) _
 have h1:St w w1 [row Z 49 (layRow a t AI nI cI)]:=by
  have h3:=(St.nil w).new 49 (layRow a t AI nI cI).toArray
  rw [←hw1,←hZ] at h3
  exact h3
 have HB1:=Lib.hid hb1
 have HRT:=Lib.hid (fun (w':World) (hb:Below w1.heap.size w1 w')=>tab.rright_at ((h.tab.over hb1).over hb))
 have HI1:=Lib.hid (fun (w':World) (hb:Below w1.heap.size w1 w')=>(h.over hb1).imgs.over hb)
 have HCK:=Lib.hid (fun (w':World) (hb:Below w1.heap.size w1 w') (p:Nat) (hp':p < nI) (A:Option Addr) (c:Nat)=>rcheck_at (A:=A) (c:=c) (ver:=0) (i:=js.getD p Img.none) ((h.tab.over hb1).over hb) (p:Int) (h.lens p hp'))
 have HR:=Lib.hid (fun (w':World) (hb:Below w1.heap.size w1 w')=>h1.row.1.below hb h1.row.1.lt)
 have HT2:=Lib.hid (fun (h:t.right=true)=>(Tab.r h).np)
 have HFT:=Lib.hid (fun (a1:t.right=true) (a2:t.parts.length≤nI) (a3:nI≤10) (a4:∀p:Nat,p < t.parts.length→checkL t p (js.getD p Img.none) 0=0) (a5:∀k:Nat,k < nI→(js.getD k Img.none).code.length≤200)=>(⟨a1,a2,a3,a4,a5⟩:Fits t js nI))
 have HW1:=Lib.hid hw1;have HZ:=Lib.hid hZ
 simp only [layRow,TabA.val,Img.val] at HRT HCK HR HW1 ⊢
 obtain ⟨nP,hnP⟩:∃v,v=t.parts.length:=⟨_,rfl⟩
 simp only [←hnP] at HRT HCK HR HW1 HT2 HFT ⊢
 clear h h1 hb1 hw1 hZ hnP
 generalize hfr:t.frame=fr at *
 generalize htr:t.trial=tr at *
 generalize hnW:t.wins.length=nW at *
 generalize hnC:t.chans.length=nC at *
 clear hfr htr hnW hnC
 have rows:∀w':World,Below w1.heap.size w1 w'→w'.cell? ⟨Z,0,none⟩=some (.int .i64 fr)∧w'.cell? ⟨Z,1,none⟩=some (.slice a.AP nP a.cP)∧w'.cell? ⟨Z,2,none⟩=some (.slice a.AW nW a.cW)∧w'.cell? ⟨Z,3,none⟩=some (.slice a.AC nC a.cC)∧w'.cell? ⟨Z,4,none⟩=some (.int .i64 tr)∧w'.cell? ⟨Z,5,none⟩=some (.slice AI nI cI)∧Z < w'.heap.size:=fun w' hb=>⟨(HR.out w' hb).cell 0,(HR.out w' hb).cell 1,(HR.out w' hb).cell 2,(HR.out w' hb).cell 3,(HR.out w' hb).cell 4,(HR.out w' hb).cell 5,(HR.out w' hb).lt⟩
 have HROWS:=Lib.hid rows
 clear rows
 obtain ⟨z0,z1,z2,z3,z4,z5,lZ⟩:=HROWS.out w1 (Below.refl _ _)
 generalize hF:Fits t js nI=F at *
 cases hr:t.right
 case false =>
  rw [hr] at HRT
  clear HFT HT2 hr hF
  go_enter Tryz.func19,Tryz.ntmps19
  go_upto_region 1 with fail
  rw [←HW1.out,←HZ.out]
  go_wp2_with (fail)
  refine (HRT.out w1 (Below.refl _ _)).mono ?_
  rintro e w2 ⟨rfl,hb2⟩
  have HB2:=Lib.hid (HB1.out.trans (hb2.mono HB1.out.size))
  clear hb2
  go_wp2_with (fail)
  go_ret
  exact ⟨⟨false,rfl,fun h=>by cases h⟩,HB2.out⟩
 case true =>
  rw [hr] at HRT
  have hn24:=HT2.out hr
  have HRR:=Lib.hid hr
  clear HT2 hr
  by_cases hen:nP≤nI∧nI≤10
  case neg =>
   go_enter Tryz.func19,Tryz.ntmps19
   go_upto_region 1 with fail
   rw [←HW1.out,←HZ.out]
   go_wp2_with (fail)
   refine (HRT.out w1 (Below.refl _ _)).mono ?_
   rintro e w2 ⟨rfl,hb2⟩
   have HB2:=Lib.hid (HB1.out.trans (hb2.mono HB1.out.size))
   clear z0 z1 z2 z3 z4 z5 lZ
   obtain ⟨z0,z1,z2,z3,z4,z5,lZ⟩:=HROWS.out w2 hb2
   clear hb2
   by_cases he:nP≤nI
   ·have k1:decide (nI < nP)=false:=by simp;omega
    have k2:decide ((10:Int) < (nI:Int))=true:=by simp;omega
    have k3:decide ((nI:Int) < (nP:Int))=false:=by simp;omega
    clear he hen
    go_wp2_with (fail)
    go_ret
    exact ⟨⟨false,rfl,fun h=>by cases h⟩,HB2.out⟩
   ·have k1:decide (nI < nP)=true:=by simp;omega
    have k3:decide ((nI:Int) < (nP:Int))=true:=by simp;omega
    clear he hen
    go_wp2_with (fail)
    go_ret
    exact ⟨⟨false,rfl,fun h=>by cases h⟩,HB2.out⟩
  case pos =>
   obtain ⟨hen,h10⟩:=hen
   have hIV:=HI1.out w1 (Below.refl _ _)
   obtain ⟨b0,o0,hA0,_⟩:=hIV.at_ 0 (by omega)
   subst hA0
   clear hIV
   have HFT2:=Lib.hid (HFT.out HRR.out hen h10)
   have HEN:=Lib.hid hen;have H10:=Lib.hid h10
   clear HFT
   go_enter Tryz.func19,Tryz.ntmps19
   go_upto_region 1 with fail
   rw [←HW1.out,←HZ.out]
   go_wp2_with (fail)
   refine (HRT.out w1 (Below.refl _ _)).mono ?_
   rintro e w2 ⟨rfl,hb2⟩
   have HB2:=Lib.hid hb2
   clear z0 z1 z2 z3 z4 z5 lZ
   obtain ⟨z0,z1,z2,z3,z4,z5,lZ⟩:=HROWS.out w2 hb2
   clear hb2
   have k1:decide (nI < nP)=false:=by simp;omega
   have k2:decide ((10:Int) < (nI:Int))=false:=by simp;omega
   have k3:decide ((nI:Int) < (nP:Int))=false:=by simp;omega
   go_wp2_with (fail)
   clear z0 z1 z2 z3 z4 z5 lZ
   clear k1 k2 k3
   go_loopw [30] (fun x wr=>∃p:Nat,p≤nP∧x=.int .i64 (p:Int)∧Below w1.heap.size w1 wr∧∀k:Nat,k < p→checkL t k (js.getD k Img.none) 0=0) (fun x _=>nP-(intOf x).toNat)
   case atStart=>exact ⟨0,by omega,rfl,HB2.out,fun k hk=>absurd hk (by omega)⟩
   case round =>
    obtain ⟨p,hp1,rfl,hbr,hck⟩:=hrel
    have HBR:=Lib.hid hbr;have HC:=Lib.hid hck
    clear HB2 hbr hck
    by_cases hlt:p < nP
    ·obtain ⟨b,off,hA,hbl,c0,c1,c2,c3,c4,c5,c6,c7,hck,hsk⟩:=(HI1.out wr HBR.out).at_ p (by omega)
     obtain ⟨rfl,rfl⟩:b0=b∧o0=off:=by injection hA with e;injection e with e1 e2 _;exact ⟨e1,e2⟩
     generalize (K p).1=KA,(K p).2=Kc at *
     have HCP:=Lib.hid (HCK.out wr.drew HBR.out.drew p (by omega) KA Kc)
     have HJP:=Lib.hid (show js.getD p Img.none=js.getD p Img.none from rfl)
     obtain ⟨ck,hckv⟩:∃v,v=checkL t p (js.getD p Img.none) 0:=⟨_,rfl⟩
     rw [←hckv] at HCP
     have HCV:=Lib.hid hckv
     obtain ⟨i0,hi0⟩:∃v,v=(js.getD p Img.none).part:=⟨_,rfl⟩
     obtain ⟨i1,hi1⟩:∃v,v=(js.getD p Img.none).version:=⟨_,rfl⟩
     obtain ⟨i2,hi2⟩:∃v,v=(js.getD p Img.none).hard:=⟨_,rfl⟩
     obtain ⟨i3,hi3⟩:∃v,v=(js.getD p Img.none).mem:=⟨_,rfl⟩
     obtain ⟨i4,hi4⟩:∃v,v=(js.getD p Img.none).fuel:=⟨_,rfl⟩
     obtain ⟨i5,hi5⟩:∃v,v=(js.getD p Img.none).sends:=⟨_,rfl⟩
     obtain ⟨i6,hi6⟩:∃v,v=(js.getD p Img.none).receives:=⟨_,rfl⟩
     obtain ⟨i7,hi7⟩:∃v,v=(js.getD p Img.none).code.length:=⟨_,rfl⟩
     simp only [←hi0,←hi1,←hi2,←hi3,←hi4,←hi5,←hi6,←hi7] at HCP c0 c1 c2 c3 c4 c5 c6 c7
     clear hi0 hi1 hi2 hi3 hi4 hi5 hi6 hi7 hck hsk hA hckv HJP
     have k0:(0:Int)≤(p:Int):=by omega
     have k1:(p:Int) < (nP:Int):=by omega
     have k2:(p:Int) < (nI:Int):=by omega
     have HIM:=Lib.hid (fun (w':World) (hb:Below wr.heap.size wr w')=>show w'.cell? ⟨b0,o0+p*8,none⟩=some (.int .i64 i0)∧w'.cell? ⟨b0,o0+p*8+1,none⟩=some (.int .i64 i1)∧w'.cell? ⟨b0,o0+p*8+2,none⟩=some (.int .i64 i2)∧w'.cell? ⟨b0,o0+p*8+3,none⟩=some (.int .i64 i3)∧w'.cell? ⟨b0,o0+p*8+4,none⟩=some (.int .i64 i4)∧w'.cell? ⟨b0,o0+p*8+5,none⟩=some (.int .i64 i5)∧w'.cell? ⟨b0,o0+p*8+6,none⟩=some (.int .i64 i6)∧w'.cell? ⟨b0,o0+p*8+7,none⟩=some (.slice KA i7 Kc)∧b0 < w'.heap.size from ⟨(hb.cell hbl).trans c0,(hb.cell hbl).trans c1,(hb.cell hbl).trans c2,(hb.cell hbl).trans c3,(hb.cell hbl).trans c4,(hb.cell hbl).trans c5,(hb.cell hbl).trans c6,(hb.cell hbl).trans c7,Nat.lt_of_lt_of_le hbl hb.size⟩)
     clear c0 c1 c2 c3 c4 c5 c6 c7 hbl
     go_upto_region 6 with fail
     refine held_start (fun w'=>(w'.cell? ⟨Z,0,none⟩=some (.int .i64 fr)∧w'.cell? ⟨Z,1,none⟩=some (.slice a.AP nP a.cP)∧w'.cell? ⟨Z,2,none⟩=some (.slice a.AW nW a.cW)∧w'.cell? ⟨Z,3,none⟩=some (.slice a.AC nC a.cC)∧w'.cell? ⟨Z,4,none⟩=some (.int .i64 tr)∧w'.cell? ⟨Z,5,none⟩=some (.slice (some ⟨b0,o0,none⟩) nI cI)∧Z < w'.heap.size)∧(w'.cell? ⟨b0,o0+p*8,none⟩=some (.int .i64 i0)∧w'.cell? ⟨b0,o0+p*8+1,none⟩=some (.int .i64 i1)∧w'.cell? ⟨b0,o0+p*8+2,none⟩=some (.int .i64 i2)∧w'.cell? ⟨b0,o0+p*8+3,none⟩=some (.int .i64 i3)∧w'.cell? ⟨b0,o0+p*8+4,none⟩=some (.int .i64 i4)∧w'.cell? ⟨b0,o0+p*8+5,none⟩=some (.int .i64 i5)∧w'.cell? ⟨b0,o0+p*8+6,none⟩=some (.int .i64 i6)∧w'.cell? ⟨b0,o0+p*8+7,none⟩=some (.slice KA i7 Kc)∧b0 < w'.heap.size)) (by kernel_rfl) (⟨HROWS.out wr.drew HBR.out.drew,HIM.out wr.drew (Below.refl wr.heap.size wr).drew⟩) (fun hHeld=>?_)
     (refine held_t 0 (h:=?_);(try simp only [xGs,xGz,xGo,Act.put,xSi,xSz,xSs]));(refine held_t 1 (h:=?_);(try simp only [xGs,xGz,xGo,Act.put,xSi,xSz,xSs]));(refine held_t 2 (h:=?_);(try simp only [xGs,xGz,xGo,Act.put,xSi,xSz,xSs]));(refine held_t 3 (h:=?_);(try simp only [xGs,xGz,xGo,Act.put,xSi,xSz,xSs]));(refine held_t 4 (h:=?_);(try simp only [xGs,xGz,xGo,Act.put,xSi,xSz,xSs]));(refine held_t 5 (h:=?_);(try simp only [xGs,xGz,xGo,Act.put,xSi,xSz,xSs]));(refine held_t 6 (h:=?_);(try simp only [xGs,xGz,xGo,Act.put,xSi,xSz,xSs]));(refine held_t 7 (h:=?_);(try simp only [xGs,xGz,xGo,Act.put,xSi,xSz,xSs]))
     (refine held_one 8 (by kernel_rfl) (by rfl) ?_;(try simp only [xGs,xGz,xGo]);go_simp)
     refine HCP.out.mono ?_
     rintro e w3 ⟨rfl,hb⟩
     have HB3:=Lib.hid (HBR.out.drew.trans (hb.mono HBR.out.drew.size))
     have HB3b:=Lib.hid ((Below.refl wr.heap.size wr).drew.trans hb)
     clear hb
     dsimp only
     (refine and_hand (⟨HROWS.out w3 HB3.out,HIM.out w3 HB3b.out⟩) (fun hHeld=>?_);(try simp only [xGs,xGz,xGo,Act.put,xSi,xSz,xSs]))
     by_cases hc0:ck=0
     ·subst hc0
      (refine held_t 9 (h:=?_);(try simp only [xGs,xGz,xGo,Act.put,xSi,xSz,xSs]))
      refine held_end (by kernel_rfl) ?_
      clear hHeld
      go_wp2_with (fail)
      go_roundw
      case rel =>
       refine ⟨p+1,by omega,by go_num,HB3.out,fun k hk=>?_⟩
       by_cases hkp:k < p
       ·exact HC.out k hkp
       ·rw [show k=p by omega];exact HCV.out.symm
      case measure=>simp [intOf];omega
     ·have e0:(ck != 0)=true:=by simpa using hc0
      clear hc0
      (refine held_t 9 (h:=?_);(try simp only [xGs,xGz,xGo,Act.put,xSi,xSz,xSs]))
      refine held_end (by kernel_rfl) ?_
      clear hHeld
      go_wp2_with (fail)
      go_ret
      exact ⟨⟨false,rfl,fun h=>by cases h⟩,HB1.out.trans (HB3.out.mono HB1.out.size)⟩
    ·have hpn:p=nP:=by omega
     subst hpn
     have HFT3:=Lib.hid (HFT2.out HC.out)
     have k1:¬(p:Int) < (p:Int):=by omega
     obtain ⟨z0,z1,z2,z3,z4,z5,lZ⟩:=HROWS.out wr HBR.out
     clear HFT2 HC
     go_wp2_with (fail)
     clear z0 z1 z2 z3 z4 z5 lZ
     go_loopw [47] (fun x wr=>∃q:Nat,q≤nI∧x=.int .i64 (q:Int)∧Below w1.heap.size w1 wr∧∀k:Nat,k < q→(js.getD k Img.none).code.length≤200) (fun x _=>nI-(intOf x).toNat)
     case atStart=>exact ⟨0,by omega,rfl,HBR.out,fun k hk=>absurd hk (by omega)⟩
     case round =>
      obtain ⟨q,hq1,rfl,hbr,hsh⟩:=hrel
      clear HBR
      have HBR:=Lib.hid hbr;have HS:=Lib.hid hsh
      clear hbr hsh
      by_cases hlt2:q < nI
      ·obtain ⟨b,off,hA,hbl,c0,c1,c2,c3,c4,c5,c6,c7,hck,hsk⟩:=(HI1.out wr HBR.out).at_ q hlt2
       obtain ⟨rfl,rfl⟩:b0=b∧o0=off:=by injection hA with e;injection e with e1 e2 _;exact ⟨e1,e2⟩
       generalize (K q).1=KA,(K q).2=Kc at *
       have HLQ:=Lib.hid (fun (h:(js.getD q Img.none).code.length≤200) (k:Nat) (hk:k < q+1)=>show (js.getD k Img.none).code.length≤200 from by
        by_cases hkq:k < q
        ·exact HS.out k hkq
        ·rw [show k=q by omega];exact h)
       generalize (js.getD q Img.none).part=i0,(js.getD q Img.none).version=i1,(js.getD q Img.none).hard=i2,(js.getD q Img.none).mem=i3,(js.getD q Img.none).fuel=i4,(js.getD q Img.none).sends=i5,(js.getD q Img.none).receives=i6,(js.getD q Img.none).code.length=i7 at *
       have k0:(0:Int)≤(q:Int):=by omega
       have k1:(q:Int) < (nI:Int):=by omega
       have HBA:=Lib.hid (show Below w1.heap.size w1 (wr.alloc (.cells #[.int .i64 i0,.int .i64 i1,.int .i64 i2,.int .i64 i3,.int .i64 i4,.int .i64 i5,.int .i64 i6,.slice KA i7 Kc] 26)) from HBR.out.trans (((Below.refl wr.heap.size wr).alloc (Nat.le_refl _) _).mono HBR.out.size))
       clear hck hsk hA
       by_cases h200:i7≤200
       ·have k3:decide ((200:Int) < (i7:Int))=false:=by simp;omega
        have HQ:=Lib.hid (HLQ.out h200)
        clear HLQ h200
        go_wp2_with (fail)
        go_roundw
        case rel=>exact ⟨q+1,by omega,by go_num,HBA.out,HQ.out⟩
        case measure=>simp [intOf];omega
       ·have k3:decide ((200:Int) < (i7:Int))=true:=by simp;omega
        clear HLQ h200
        go_wp2_with (fail)
        go_ret
        exact ⟨⟨false,rfl,fun h=>by cases h⟩,HB1.out.trans (HBA.out.mono HB1.out.size)⟩
      ·have hqn:q=nI:=by omega
       subst hqn
       have k1:¬(q:Int) < (q:Int):=by omega
       have HFF:=Lib.hid (HFT3.out HS.out)
       clear HFT3 HS
       go_wp2_with (fail)
       go_ret
       exact ⟨.inr ⟨rfl,HFF.out⟩,HB1.out.trans (HBR.out.mono HB1.out.size)⟩
end store
end Go.Proofs.YtdldkkoplgkloaaGreat
