/-
  PROVED HERE: lemmas that the law leans on.
  CONDITIONS: each names its own.
-/
import Derived.Test.YtdldkkoplgkloaaGreatPy0
import Derived.Test.YtdldkkoplgkloaaGreatPy5
import Derived.Test.YtdldkkoplgkloaaGreatPy13
import Derived.Test.YtdldkkoplgkloaaGreatPy23
import Derived.Test.YtdldkkoplgkloaaGreatPy29
import Derived.Test.YtdldkkoplgkloaaGreatPy36
import Derived.Test.YtdldkkoplgkloaaGreatPy39
import Derived.Test.YtdldkkoplgkloaaGreatPy40
namespace Go.Proofs.YtdldkkoplgkloaaGreat
set_option linter.unusedVariables false
set_option linter.unusedSimpArgs false
set_option maxRecDepth 100000
set_option maxHeartbeats 32000000
namespace store


open Go.RowKit Go.ChangeShapes Go.WideShapes Go.ChangeAt Go.Deep Go.Joins base obj mem sep bf aU record
structure dk where
 kind:Int
 part:Int
 n:Int
 i:Int
 no:Int
 dL:Bool
 keep:Int
instance:Inhabited dk:=⟨⟨0,0,0,0,0,false,0⟩⟩
def dk.cells (a:dk):List Value:=[.int .i64 a.kind,.int .i64 a.part,.int .i64 a.n,.int .i64 a.i,.int .i64 a.no,.bool a.dL,.int .u64 a.keep]
def ib (l:List dk):List Value:=(l.map dk.cells).flatten
theorem uu (l:List dk) (a:dk):ib (l++[a])=ib l++a.cells:=by simp [ib]
theorem jO {w:World} {g:Nat} {t:TypeId} {a:dk} (h:Row w g t a.cells):w.cell? ⟨g,0,none⟩=some (.int .i64 a.kind)∧w.cell? ⟨g,1,none⟩=some (.int .i64 a.part)∧w.cell? ⟨g,2,none⟩=some (.int .i64 a.n)∧w.cell? ⟨g,3,none⟩=some (.int .i64 a.i)∧w.cell? ⟨g,4,none⟩=some (.int .i64 a.no)∧w.cell? ⟨g,5,none⟩=some (.bool a.dL)∧w.cell? ⟨g,6,none⟩=some (.int .u64 a.keep)∧g < w.heap.size :=
 ⟨h.cell 0,h.cell 1,h.cell 2,h.cell 3,h.cell 4,h.cell 5,h.cell 6,h.lt⟩
theorem RC (l:List dk):∀u∈ib l,u.oneCell'=true:=by
 intro u hu;obtain ⟨x,hx,h⟩:=List.mem_flatten.1 hu;obtain ⟨a,_,rfl⟩:=List.mem_map.1 hx;simp only [dk.cells,List.mem_cons,List.not_mem_nil,or_false] at h;rcases h with rfl|rfl|rfl|rfl|rfl|rfl|rfl<;>rfl
def rm (a:dk) (k:Nat):List dk:={ a with kind:=0 }::((List.range k).map fun (no:Nat)=>{ a with kind:=1,no:=(no:Int) })
def mz (a:dk):List dk:=if a.kind=8 then rm a 10++[{ a with kind:=2 }] else [a]
def gU (l:List dk):List dk:=(l.map mz).flatten
theorem DG (a:dk):(mz a).length≤12∧0 < (mz a).length:=by
 unfold mz rm;split<;>simp
theorem B8 (l:List dk):(gU l).length≤l.length*12:=by
 induction l with
 | nil=>simp [gU]
 | cons a l ih =>
   have h:gU (a::l)=mz a++gU l:=by simp [gU]
   have:=DG a;rw [h,gA,List.length_cons];omega
theorem Xx {H:Type} {enc:TypeId×Value→H} {W:World} {r:Reach} {b0:Nat} {v:Value} {d:DataW H} {ps:List MemPlace} (hval:Value.okWide Tryz.prog W r b0 50 v)
  (h:DataW.Trod enc Tryz.prog W 0 (fun _=>true) true 50 v d ps):∃(A:Option Addr) (c:Nat) (l:List dk),v=.slice A l.length c∧Sl W W.heap.size 7 A l.length (ib l)∧∀a∈l,qL a.n∧qL a.no∧0≤a.keep∧a.keep≤18446744073709551615:=by
 obtain ⟨A,n,c,q,rfl,hn,hs,hq⟩:=lift.Xv Tryz.underlying50 (s:=7) (by kernel_rfl) (by decide) hval h
 have each:∀i,i < n→∃p:dk,q i=p.cells∧qL p.n∧qL p.no∧0≤p.keep∧p.keep≤18446744073709551615:=by
  intro i hi;obtain ⟨hl,m,x,hx⟩:=hq i hi
  obtain ⟨u0,u1,u2,u3,u4,u5,u6,Ao⟩:∃u0 u1 u2 u3 u4 u5 u6,q i=[u0,u1,u2,u3,u4,u5,u6]:=by
   match Ao:q i,hl with
   | [u0,u1,u2,u3,u4,u5,u6],_=>exact ⟨_,_,_,_,_,_,_,rfl⟩
  rw [Ao] at hx ⊢;have hf:=Pz Tryz.underlying58 hx;obtain ⟨k0,y0,t0⟩:=hf 0 _ 1 rfl (by kernel_rfl);obtain ⟨k1,y1,t1⟩:=hf 1 _ 1 rfl (by kernel_rfl);obtain ⟨k2,y2,t2⟩:=hf 2 _ 1 rfl (by kernel_rfl);obtain ⟨k3,y3,t3⟩:=hf 3 _ 1 rfl (by kernel_rfl);obtain ⟨k4,y4,t4⟩:=hf 4 _ 1 rfl (by kernel_rfl);obtain ⟨k5,y5,t5⟩:=hf 5 _ 1 rfl (by kernel_rfl);obtain ⟨k6,y6,t6⟩:=hf 6 _ 1 rfl (by kernel_rfl);obtain ⟨a0,h0,_,_⟩:=DataW.trod_int Tryz.underlying3 t0;obtain ⟨a1,h1,_,_⟩:=DataW.trod_int Tryz.underlying3 t1;obtain ⟨a2,h2,_,w2⟩:=DataW.trod_int Tryz.underlying3 t2;obtain ⟨a3,h3,_,_⟩:=DataW.trod_int Tryz.underlying3 t3;obtain ⟨a4,h4,_,w4⟩:=DataW.trod_int Tryz.underlying3 t4;obtain ⟨a5,h5,_⟩:=DataW.trod_bool Tryz.underlying4 t5;obtain ⟨a6,h6,_,w6⟩:=DataW.trod_int Tryz.underlying56 t6;simp at h0 h1 h2 h3 h4 h5 h6
  exact ⟨⟨a0,a1,a2,a3,a4,a5,a6⟩,by rw [h0,h1,h2,h3,h4,h5,h6];rfl,Qp w2,Qp w4,by
   show 0≤a6∧a6≤18446744073709551615
   have e1:IntKind.u64.min=0:=rfl;have e2:IntKind.u64.max=18446744073709551615:=rfl;simp only [Lit.wf,Bool.and_eq_true,decide_eq_true_eq] at w6
   omega⟩
 obtain ⟨z,hz⟩:=choose_lt each
 have e1:∀m,m≤n→(List.range m).flatMap q=ib ((List.range m).map z):=by
  intro m
  induction m with
  | zero=>intro _;simp [ib]
  | succ m ih =>
    intro hm;rw [List.range_succ,List.flatMap_append,List.map_append,ih (by omega),List.map_cons,List.map_nil,uu];simp [(hz m (by omega)).1]
 rw [e1 n (Nat.le_refl _)] at hs;have hl:((List.range n).map z).length=n:=by simp
 refine ⟨A,c,(List.range n).map z,by rw [hl],by rw [hl];exact hs,fun a ha=>?_⟩;obtain ⟨i,hi,rfl⟩:=List.mem_map.1 ha;exact (hz i (List.mem_range.1 hi)).2
theorem FU {w:World} {A:Option Addr} {l:List dk} (h:Sl w w.heap.size 7 A l.length (ib l)) {k:Nat} (hk:k < l.length):∃b off,A=some ⟨b,off,none⟩∧b < w.heap.size∧w.cell? ⟨b,off+k*7,none⟩=some (.int .i64 l[k].kind)∧w.cell? ⟨b,off+k*7+1,none⟩=some (.int .i64 l[k].part)∧w.cell? ⟨b,off+k*7+2,none⟩=some (.int .i64 l[k].n)∧w.cell? ⟨b,off+k*7+3,none⟩=some (.int .i64 l[k].i)∧w.cell? ⟨b,off+k*7+4,none⟩=some (.int .i64 l[k].no)∧w.cell? ⟨b,off+k*7+5,none⟩=some (.bool l[k].dL)∧w.cell? ⟨b,off+k*7+6,none⟩=some (.int .u64 l[k].keep):=by
 obtain ⟨b,off,rfl,cy,hc⟩:=h.2 (by omega)
 have h9:∀x∈l.map dk.cells,x.length=7:=by
  intro x hx;obtain ⟨a,_,rfl⟩:=List.mem_map.1 hx;rfl
 have e:=qH h9 (i:=k) (by simpa using hk)
 have g:∀j u,j < 7→l[k].cells[j]?=some u→w.cell? ⟨b,off+k*7+j,none⟩=some u:=fun j u hj hu=>by
  have e2:(((l.map dk.cells).flatten.drop (k*7)).take 7)[j]?=(l.map dk.cells).flatten[k*7+j]?:=by
   rw [List.getElem?_take,if_pos hj,List.getElem?_drop]
  rw [e] at e2;rw [Nat.add_assoc];refine hc _ _ ?_;rw [ib,←e2];simpa using hu
 exact ⟨b,off,rfl,cy,g 0 _ (by omega) rfl,g 1 _ (by omega) rfl,g 2 _ (by omega) rfl,g 3 _ (by omega) rfl,g 4 _ (by omega) rfl,g 5 _ (by omega) rfl,g 6 _ (by omega) rfl⟩
end store
namespace store


open Go.RowKit Go.Deep base obj mem sep bf bk record bP aU image bK bR chain bw
def fJ (js:List aw) (i:Int):aw:=if i < 0∨(js.length:Int)≤i then aw.none else js.getD i.toNat aw.none
def px (i:aw):Int:=if i.right then i.bytes.length else 30
def uO (t:aQ) (m:DS) (xs:List PP) (js:List aw) (a:dk):Int×DS×List PP :=
 if a.kind=0 then kY m xs a.part a.n (px (fJ js a.i)) else if a.kind=1 then nO m xs a.part a.n a.no (jd (fJ js a.i) a.no a.dL) else if a.kind=2 then nN t m xs a.part a.n
 else if a.kind=3 then nQ m xs a.part a.n else if a.kind=4 then ((kX t m xs a.part).1.2,(kX t m xs a.part).2) else iE m xs a.part
def vC (t:aQ) (L:List RP) (js:List aw) (a:dk):Int×List RP :=
 if a.kind=0 then mr L a.part a.n (px (fJ js a.i)) else if a.kind=1 then pd L a.part a.n a.no (jd (fJ js a.i) a.no a.dL) else if a.kind=2 then mY t L a.part a.n
 else if a.kind=3 then pg L a.part a.n else if a.kind=4 then ph L a.part else jf L a.part
theorem OG {i:aw} (h:bo i.code) (no:Int) (s:Bool):bo (jd i no s):=by
 have h1:bo (lh i no):=by
  unfold lh;split
  ·have hb:bo i.bytes:=ue _ (sy i h);intro z hz;unfold eO tK at hz;rcases List.mem_append.1 (List.mem_of_mem_drop (List.mem_of_mem_take hz)) with hz|hz
   ·exact hb z hz
   ·obtain ⟨_,rfl⟩:=List.mem_replicate.1 hz;omega
  ·intro z hz;obtain ⟨_,rfl⟩:=List.mem_replicate.1 hz;omega
 unfold jd;split
 ·intro z hz;rcases List.mem_or_eq_of_mem_set hz with hz|rfl
  ·exact h1 z hz
  ·obtain ⟨z0,z1⟩:=h1 ((lh i no).getD 3 0) (by rw [tu (by rw [yD];omega)];exact List.getElem_mem _);obtain ⟨n,hn⟩:=Int.eq_ofNat_of_zero_le z0;rw [hn] at z1 ⊢;have hx:=XB n 64 (by omega) (by decide);have hl:n ^^^ 64 < 2 ^ 8:=Nat.xor_lt_two_pow (by omega) (by decide);have e:Go.bits .xor .u8 (n:Int) 64=((n ^^^ 64:Nat):Int):=hx;rw [e];omega
 ·exact h1
theorem aah {t:aQ} {m:DS} {xs:List PP} {L:List RP} {js:List aw} (h:dD m xs (cK L)) (hx:qu t L) (hb:∀i,bo (fJ js i).code) (a:dk):(uO t m xs js a).1=(vC t L js a).1∧dD (uO t m xs js a).2.1 (uO t m xs js a).2.2 (cK (vC t L js a).2)∧qu t (vC t L js a).2∧(uO t m xs js a).2.1.az.length=m.az.length:=by
 unfold uO vC;split
 ·obtain ⟨h1,h2,h3⟩:=h.begin a.part a.n (px (fJ js a.i));obtain ⟨x1,x2,x3⟩:=O7 hx a.part a.n (px (fJ js a.i));exact ⟨h1.trans x1.symm,x2 ▸ h2,x3,h3⟩
 split
 ·obtain ⟨h1,h2,h3⟩:=h.load a.part a.n a.no (OG (hb a.i) a.no a.dL);obtain ⟨x1,x2,x3⟩:=Sh hx a.part a.n a.no (jd (fJ js a.i) a.no a.dL);exact ⟨h1.trans x1.symm,x2 ▸ h2,x3,h3⟩
 split
 ·obtain ⟨h1,h2,h3⟩:=h.UQ (t:=t) a.part a.n;obtain ⟨x1,x2,x3⟩:=Sg hx a.part a.n;exact ⟨h1.trans x1.symm,x2 ▸ h2,x3,h3⟩
 split
 ·obtain ⟨h1,h2,h3⟩:=h.drop a.part a.n;obtain ⟨x1,x2,x3⟩:=Si hx a.part a.n;exact ⟨h1.trans x1.symm,x2 ▸ h2,x3,h3⟩
 split
 ·obtain ⟨h1,h2,h3⟩:=h.Zi (t:=t) a.part;obtain ⟨x1,x2,x3⟩:=Sj hx a.part;exact ⟨(congrArg Prod.snd h1).trans x1.symm,x2 ▸ h2,x3,h3⟩
 ·obtain ⟨h1,h2,h3⟩:=h.Xk a.part;obtain ⟨x1,x2,x3⟩:=Lj hx a.part;exact ⟨h1.trans x1.symm,x2 ▸ h2,x3,h3⟩
theorem O6 (t:aQ) (L:List RP) (js:List aw) (a:dk):(vC t L js a).2=L∨∃x,(vC t L js a).2=L.set a.part.toNat x:=by
 unfold vC;split
 ·unfold mr;split
  ·exact .inl rfl
  ·exact .inr ⟨_,rfl⟩
 split
 ·unfold pd;split
  ·exact .inl rfl
  ·exact .inr ⟨_,rfl⟩
 split
 ·unfold mY;split;exact .inl rfl;split;exact .inl rfl;split;exact .inl rfl;split;exact .inl rfl;exact .inr ⟨_,rfl⟩
 split
 ·unfold pg;split
  ·exact .inl rfl
  ·exact .inr ⟨_,rfl⟩
 split
 ·unfold ph;split;exact .inl rfl;split;exact .inl rfl;exact .inr ⟨_,rfl⟩
 ·unfold jf;split;exact .inl rfl;split;exact .inl rfl;exact .inr ⟨_,rfl⟩
theorem VH (t:aQ) (L:List RP) (js:List aw) (a:dk):(vC t L js a).2.length=L.length:=by
 rcases O6 t L js a with e|⟨x,e⟩<;>rw [e]
 exact List.length_set
theorem O5 (t:aQ) (L:List RP) (js:List aw) (a:dk) {q:Nat} (hq:a.part.toNat≠q):(vC t L js a).2.getD q default=L.getD q default:=by
 rcases O6 t L js a with e|⟨x,e⟩<;>rw [e]
 exact ke hq _ _
end store
namespace store


open Go.RowKit Go.Deep base obj mem sep bf bk record bP aU image bK bR chain bw
theorem Ge {js:List aw} (h:∀i∈js,bo i.code) (i:Int):bo (fJ js i).code:=by
 unfold fJ;split
 ·exact fun z hz=>by simp [aw.none] at hz
 ·rw [tu (by omega)];exact h _ (List.getElem_mem _)
theorem Wl {w:World} {a:en} {t:aQ} {AI:Option Addr} {nI cI:Nat} {js:List aw} {K:Nat→Option Addr×Nat} (h:wG w a t AI nI cI js K) (c:dk) :
  Calls Tryz.prog 59 #[.agg #[.int .i64 t.frame,.slice a.AP t.parts.length a.cP,.slice a.AW t.aC.length a.cW,.slice a.AC t.au.length a.cC,.int .i64 t.ay,.slice AI nI cI],.agg #[.int .i64 c.kind,.int .i64 c.part,.int .i64 c.n,.int .i64 c.i,.int .i64 c.no,.bool c.dL,.int .u64 c.keep]] w fun e w' =>
   ∃A k,e=.returned ((fJ js c.i).val A k)∧(Sl w w.heap.size 1 A (fJ js c.i).code.length (aP (fJ js c.i).code)∧(fJ js c.i).code.length≤k∧(fJ js c.i).code.length≤9223372036854775807)∧Below w.heap.size w w':=by
 obtain ⟨Z,hZ⟩:∃Z,Z=w.heap.size:=⟨_,rfl⟩
 obtain ⟨Y,hY⟩:∃Y,Y=Z+1:=⟨_,rfl⟩
 obtain ⟨R,hR⟩:∃R,R=Y+1:=⟨_,rfl⟩
 have iZ:=h.il.len;have Bk:=aa (fun (p:Nat) (hp:p < nI)=>h.il.at_ p hp);have Bh:=aa h.lens;clear h;generalize t.parts.length=nP,t.aC.length=nW,t.au.length=nC,t.frame=fr,t.ay=tr at *;obtain ⟨w1,aJ⟩:∃w1,w1=((w.alloc (.cells #[.int .i64 fr,.slice a.AP nP a.cP,.slice a.AW nW a.cW,.slice a.AC nC a.cC,.int .i64 tr,.slice AI nI cI] 49)).alloc (.cells #[.int .i64 c.kind,.int .i64 c.part,.int .i64 c.n,.int .i64 c.i,.int .i64 c.no,.bool c.dL,.int .u64 c.keep] 58)).alloc (.cells #[.int .i64 0,.int .i64 0,.int .i64 0,.int .i64 0,.int .i64 0,.int .i64 0,.int .i64 0,.slice none 0 0] 26):=⟨_,rfl⟩
 have H1:=aa (show St w w1 [row R 26 [.int .i64 0,.int .i64 0,.int .i64 0,.int .i64 0,.int .i64 0,.int .i64 0,.int .i64 0,.slice none 0 0],row Y 58 c.cells,row Z 49 [.int .i64 fr,.slice a.AP nP a.cP,.slice a.AW nW a.cW,.slice a.AC nC a.cC,.int .i64 tr,.slice AI nI cI]] by
  have h3:=(((St.nil w).new 49 #[.int .i64 fr,.slice a.AP nP a.cP,.slice a.AW nW a.cW,.slice a.AC nC a.cC,.int .i64 tr,.slice AI nI cI]).new 58 c.cells.toArray).new 26 #[.int .i64 0,.int .i64 0,.int .i64 0,.int .i64 0,.int .i64 0,.int .i64 0,.int .i64 0,.slice none 0 0];simp only [World.size_alloc,←hZ,←hY,←hR] at h3;rw [aJ]
  exact h3)
 have bq:=aa aJ;have HZ:=aa hZ;have HY:=aa hY;have HR:=aa hR;obtain ⟨c0,c1,c2,c3,c4,c5,c6,lY⟩:=jO (H1.o.pick 1 rfl).row.1;have z5:w1.cell? ⟨Z,5,none⟩=some (.slice AI nI cI):=(H1.o.pick 2 rfl).row.1.cell 5;have lZ:=(H1.o.pick 2 rfl).row.1.lt;clear aJ hZ hY hR;by_cases et:c.i < 0∨(js.length:Int)≤c.i
 ·have HP:=aa (show fJ js c.i=aw.none from if_pos et);rw [iZ] at et;have H2:=aa (H1.o.setRow [.int .i64 0,.int .i64 0,.int .i64 0,.int .i64 0,.int .i64 0,.int .i64 0,.int .i64 0,.slice none 0 0]);rcases (by omega:c.i < 0∨(0≤c.i∧(nI:Int)≤c.i)) with h0|⟨h0,h1⟩
  all_goals
   clear et;go_enter Tryz.func59,Tryz.ntmps59;go_upto_region 1 with fail;rw [←HZ.o,←HY.o,←HR.o,←bq.o];go_wp2_with (refine aF rfl 26 (.tmp 4) (.tmp 16) rfl R 0 #[.int .i64 0,.int .i64 0,.int .i64 0,.int .i64 0,.int .i64 0,.int .i64 0,.int .i64 0,.slice none 0 0] rfl rfl H1.o.row.1 (by kernel_rfl) (by simp) (by simp [Value.oneCell']) [.int .i64 0,.int .i64 0,.int .i64 0,.int .i64 0,.int .i64 0,.int .i64 0,.int .i64 0,.slice none 0 0] rfl ?_);refine bodyPost_ret (results_cell_row rfl _ _ R _ _ _ _ rfl H2.o.row.1 Tryz.underlying26 rfl (by kernel_rfl)) rfl ?_;rw [HP.o];exact ⟨none,0,rfl,⟨Sl.Fy _ _ _,Nat.le_refl _,by simp [aw.none]⟩,H2.o.aI⟩
 ·obtain ⟨p,hp⟩:=Int.eq_ofNat_of_zero_le (by omega:0≤c.i);have Cn:p < nI:=by omega
  have HP:=aa (show fJ js c.i=js.getD p aw.none by unfold fJ;rw [if_neg et,hp];rfl);obtain ⟨b,off,rfl,hb,i0,i1,i2,i3,i4,i5,i6,i7,hc,hs⟩:=Bk.o p Cn;have HSC:=aa (And.intro hs (And.intro hc (Bh.o p Cn)));have HB:=aa H1.o.aI;rw [hp] at c3;generalize js.getD p aw.none=j at *;obtain ⟨g0,g1,g2,g3,g4,g5,g6,g7⟩:=j;generalize (K p).1=KA,(K p).2=Kc at *;have y0:=(HB.o.cell (p:=⟨b,off+p*8,none⟩) hb).trans i0;have y1:=(HB.o.cell (p:=⟨b,off+p*8+1,none⟩) hb).trans i1;have y2:=(HB.o.cell (p:=⟨b,off+p*8+2,none⟩) hb).trans i2;have y3:=(HB.o.cell (p:=⟨b,off+p*8+3,none⟩) hb).trans i3;have y4:=(HB.o.cell (p:=⟨b,off+p*8+4,none⟩) hb).trans i4;have y5:=(HB.o.cell (p:=⟨b,off+p*8+5,none⟩) hb).trans i5;have y6:=(HB.o.cell (p:=⟨b,off+p*8+6,none⟩) hb).trans i6;have y7:=(HB.o.cell (p:=⟨b,off+p*8+7,none⟩) hb).trans i7;dsimp only at y0 y1 y2 y3 y4 y5 y6 y7;generalize wu:g7.length=m at *;have HGL:=aa wu;have lb:=Nat.lt_of_lt_of_le hb HB.o.size;have H2:=aa (H1.o.setRow [.int .i64 g0,.int .i64 g1,.int .i64 g2,.int .i64 g3,.int .i64 g4,.int .i64 g5,.int .i64 g6,.slice KA m Kc]);have k1:(p:Int) < (nI:Int):=by omega
  have k0:(0:Int)≤(p:Int):=by omega
  clear et hp Cn hb i0 i1 i2 i3 i4 i5 i6 i7 hs hc wu iZ;go_enter Tryz.func59,Tryz.ntmps59;go_upto_region 1 with fail;rw [←HZ.o,←HY.o,←HR.o,←bq.o];go_wp2_with (refine aF rfl 26 (.tmp 4) (.tmp 22) rfl R 0 #[.int .i64 g0,.int .i64 g1,.int .i64 g2,.int .i64 g3,.int .i64 g4,.int .i64 g5,.int .i64 g6,.slice KA m Kc] rfl rfl H1.o.row.1 (by kernel_rfl) (by simp) (by simp [Value.oneCell']) [.int .i64 g0,.int .i64 g1,.int .i64 g2,.int .i64 g3,.int .i64 g4,.int .i64 g5,.int .i64 g6,.slice KA m Kc] rfl ?_);refine bodyPost_ret (results_cell_row rfl _ _ R _ _ _ _ rfl H2.o.row.1 Tryz.underlying26 rfl (by kernel_rfl)) rfl ?_;rw [HP.o];have Cm:=HSC.o;rw [←HGL.o] at Cm;exact ⟨KA,Kc,by rw [aw.val,HGL.o],Cm,H2.o.aI⟩
end store
namespace store


open Go.RowKit Go.Deep base obj mem sep bf bk record bP aU image bK bR chain bw
theorem Wi (w:World) (i:aw) (A:Option Addr) (c:Nat) (hc:i.code.length≤c) (hm:i.code.length≤9223372036854775807) (cu:bo i.code) (hs:Sl w w.heap.size 1 A i.code.length (aP i.code)) :
  Calls Tryz.prog 30 #[i.val A c] w fun e w'=>∃A' n' c' er,e=.returned (.tuple #[.slice A' n' c',.int .i64 er])∧Below w.heap.size w w'∧((er=0∧(n':Int)=px i)∨(er≠0∧px i=30)):=by
 by_cases hr:i.right
 ·refine (FC w i hr A c hc cu hs).mono ?_;rintro e w' ⟨v,rfl,ho,hb⟩;obtain ⟨A',c',rfl,_,_⟩:=aH ho;exact ⟨A',_,c',0,rfl,hb,.inl ⟨rfl,by unfold px;rw [if_pos hr,mS]⟩⟩
 ·refine (L3 w i hr A c hm).mono ?_;rintro e w' ⟨rfl,hb⟩;exact ⟨none,0,0,3,rfl,hb,.inr ⟨by decide,by unfold px;rw [if_neg hr]⟩⟩
theorem gM.qd {w0 w':World} {l:List aD} {X:Nat} {tv:List Value} {v:Value} {P:List (Nat×List Value)} {A B:aD} {L:List RP} (h:gM w0 w' X tv v P (A::B::l) L):gM w0 w' X tv v P (A::l) L:=by
 obtain ⟨P',iy,h1,h2,h3⟩:=h;exact ⟨P',iy,h1,((h2.pick 2 rfl).drop),h3⟩
theorem gM.ZP {w0 w':World} {l:List aD} {X:Nat} {tv:List Value} {v:Value} {P:List (Nat×List Value)} {A:aD} {L:List RP} (h:gM w0 w' X tv v P (A::l) L):gM w0 w' X tv v P l L:=h.drop
theorem SG (i:aw):-9223372036854775808≤px i:=by
 unfold px;split<;>omega
theorem aai {w0 w:World} {l:List aD} {ad:du} {t:aQ} {d:Nat} {m:DS} {xs:List PP} {X:Nat} {a:en} {v:Value} {P:List (Nat×List Value)} {ys:List (dH×RP)} {AI:Option Addr} {nI cI:Nat} {js:List aw} {K:Nat→Option Addr×Nat} (h:St w0 w (bL ad t d m xs::cw X [.int .i64 t.frame,.slice a.AP t.parts.length a.cP,.slice a.AW t.aC.length a.cW,.slice a.AC t.au.length a.cC,.int .i64 t.ay] v P ys::l)) (ok:n8 t m xs)
  (hr:∀y∈ys,y.2.aA.right=true) (hS:∀y∈ys,∀k:Int,Dx (y.2.slot k)) (hK:jn w0 P ys) (et:∀w',Below w0.heap.size w0 w'→wG w' a t AI nI cI js K) (c:dk) :
  Calls Tryz.prog 23 #[.pointer (some ⟨ad.S,0,none⟩),.pointer (some ⟨X,0,none⟩),.agg #[.int .i64 t.frame,.slice a.AP t.parts.length a.cP,.slice a.AW t.aC.length a.cW,.slice a.AC t.au.length a.cC,.int .i64 t.ay,.slice AI nI cI],.agg #[.int .i64 c.kind,.int .i64 c.part,.int .i64 c.n,.int .i64 c.i,.int .i64 c.no,.bool c.dL,.int .u64 c.keep]] w fun e w' =>
   e=.returned (.tuple #[.int .i64 (uO t m xs js c).1,.int .i64 (vC t (ys.map (·.2)) js c).1])∧gM w0 w' X [.int .i64 t.frame,.slice a.AP t.parts.length a.cP,.slice a.AW t.aC.length a.cW,.slice a.AC t.au.length a.cC,.int .i64 t.ay] v P (bL ad t d (uO t m xs js c).2.1 (uO t m xs js c).2.2::l) (vC t (ys.map (·.2)) js c).2:=by
 obtain ⟨Z,hZ⟩:∃Z,Z=w.heap.size:=⟨_,rfl⟩
 obtain ⟨Y,hY⟩:∃Y,Y=Z+1:=⟨_,rfl⟩
 obtain ⟨w1,aJ⟩:∃v,v=(w.alloc (.cells #[.int .i64 t.frame,.slice a.AP t.parts.length a.cP,.slice a.AW t.aC.length a.cW,.slice a.AC t.au.length a.cC,.int .i64 t.ay,.slice AI nI cI] 49)).alloc (.cells #[.int .i64 c.kind,.int .i64 c.part,.int .i64 c.n,.int .i64 c.i,.int .i64 c.no,.bool c.dL,.int .u64 c.keep] 58):=⟨_,rfl⟩
 have H1:=aa (show St w0 w1 (row Y 58 c.cells::row Z 49 [.int .i64 t.frame,.slice a.AP t.parts.length a.cP,.slice a.AW t.aC.length a.cW,.slice a.AC t.au.length a.cC,.int .i64 t.ay,.slice AI nI cI]::bL ad t d m xs::cw X [.int .i64 t.frame,.slice a.AP t.parts.length a.cP,.slice a.AW t.aC.length a.cW,.slice a.AC t.au.length a.cC,.int .i64 t.ay] v P ys::l) by
  have h3:=(h.new 49 #[.int .i64 t.frame,.slice a.AP t.parts.length a.cP,.slice a.AW t.aC.length a.cW,.slice a.AC t.au.length a.cC,.int .i64 t.ay,.slice AI nI cI]).new 58 c.cells.toArray;rw [World.size_alloc,←hZ,←hY] at h3;rw [aJ]
  exact h3)
 have tD:=aa (Wl (et w1 H1.o.aI) c);have HTB:=aa (fun w' hb=>(et w' hb).bK);have hpb:=Ge (et w1 H1.o.aI).il.iS c.i;have CE:=aa hpb
 have rS:=aa (show uO t m xs js c=if c.kind=0 then kY m xs c.part c.n (px (fJ js c.i)) else if c.kind=1 then nO m xs c.part c.n c.no (jd (fJ js c.i) c.no c.dL) else if c.kind=2 then nN t m xs c.part c.n
  else if c.kind=3 then nQ m xs c.part c.n else if c.kind=4 then ((kX t m xs c.part).1.2,(kX t m xs c.part).2) else iE m xs c.part from rfl)
 have zC:=aa (show vC t (ys.map (·.2)) js c=if c.kind=0 then mr (ys.map (·.2)) c.part c.n (px (fJ js c.i)) else if c.kind=1 then pd (ys.map (·.2)) c.part c.n c.no (jd (fJ js c.i) c.no c.dL) else if c.kind=2 then mY t (ys.map (·.2)) c.part c.n
  else if c.kind=3 then pg (ys.map (·.2)) c.part c.n else if c.kind=4 then ph (ys.map (·.2)) c.part else jf (ys.map (·.2)) c.part from rfl)
 generalize uO t m xs js c=SD at *;generalize vC t (ys.map (·.2)) js c=XD at *;have fG:=aa ok;have HR:=aa hr;have HS:=aa hS;have HK:=aa hK;have bq:=aa aJ;have HZ:=aa hZ;have HY:=aa hY;have rz:=(H1.o.pick 1 rfl).row.1;have z0:=rz.cell 0;have z1:=rz.cell 1;have z2:=rz.cell 2;have z3:=rz.cell 3;have z4:=rz.cell 4;have z5:=rz.cell 5;have lZ:=rz.lt;obtain ⟨c0,c1,c2,c3,c4,c5,c6,lY⟩:=jO H1.o.row.1;clear h ok hr hS hK et aJ hZ hY rz hpb;go_enter Tryz.func23,Tryz.ntmps23;go_upto_region 1 with fail;rw [←HZ.o,←HY.o,←bq.o];go_wp2_with fail;refine tD.o.mono ?_;rintro e w2 ⟨A,k,rfl,⟨hs,jF,tk⟩,hb⟩;have H2:=aa (H1.o.below hb);have gq:=aa (fun (w':World) (mK:Below w2.heap.size w2 w')=>Wi w' (fJ js c.i) A k jF tk CE.o ((((hs.below hb).more hb.size).below mK).more mK.size));have ix:=aa (fun (w':World) (l':List aD) (h':St w0 w' l') (mK:Below w2.heap.size w2 w') (no:Int) (sp:Bool)=>KE h' (fJ js c.i) CE.o A k jF tk ((((hs.below hb).more hb.size).below mK).more mK.size) no sp);have lv:=aa (SG (fJ js c.i));generalize iu:px (fJ js c.i)=sz at *;generalize hii:fJ js c.i=i at *;clear iu hii hs jF tk hb z0 z1 z2 z3 z4 z5 lZ c0 c1 c2 c3 c4 c5 c6 lY;simp only [aw.val] at gq ix ⊢;generalize i.part=i0,i.version=i1,i.aY=i2,i.mem=i3,i.fuel=i4,i.aN=i5,i.aB=i6,i.code.length=i7 at gq ix ⊢;obtain ⟨I,hI⟩:∃I,I=w2.heap.size:=⟨_,rfl⟩
 obtain ⟨w3,mR⟩:∃v,v=w2.alloc (.cells #[.int .i64 i0,.int .i64 i1,.int .i64 i2,.int .i64 i3,.int .i64 i4,.int .i64 i5,.int .i64 i6,.slice A i7 k] 26):=⟨_,rfl⟩
 have h3:=H2.o.new 26 #[.int .i64 i0,.int .i64 i1,.int .i64 i2,.int .i64 i3,.int .i64 i4,.int .i64 i5,.int .i64 i6,.slice A i7 k];rw [←hI,←mR] at h3;have mJ:Below w2.heap.size w2 w3:=by rw [mR];exact (Below.refl _ w2).alloc (Nat.le_refl _) _
 have H3:=aa (show St w0 w3 (bL ad t d m xs::row Y 58 c.cells::row I 26 [.int .i64 i0,.int .i64 i1,.int .i64 i2,.int .i64 i3,.int .i64 i4,.int .i64 i5,.int .i64 i6,.slice A i7 k]::cw X [.int .i64 t.frame,.slice a.AP t.parts.length a.cP,.slice a.AW t.aC.length a.cW,.slice a.AC t.au.length a.cC,.int .i64 t.ay] v P ys::l) from (((h3.pick 2 rfl).drop.pick 1 rfl).pick 2 rfl));have bD:=aa mJ;have HI:=aa hI;have vq:=aa mR;clear h3 mJ hI mR;go_upto_region 3 with fail;rw [←vq.o,←HI.o];have ri:=(H3.o.pick 2 rfl).row.1;have m0:=ri.cell 0;have m1:=ri.cell 1;have m2:=ri.cell 2;have m3:=ri.cell 3;have m4:=ri.cell 4;have m5:=ri.cell 5;have m6:=ri.cell 6;have m7:=ri.cell 7;have lI:=ri.lt;clear ri;go_wp2_with fail;refine (gq.o w3 bD.o).mono ?_;rintro e w4 ⟨A',n',c',er,rfl,hb,aaf⟩;have H4:=aa (H3.o.below hb);have eV:=aa (bD.o.trans (hb.mono bD.o.size));clear hb m0 m1 m2 m3 m4 m5 m6 m7 lI;have y4:=H4.o.pick 1 rfl;obtain ⟨c0,c1,c2,c3,c4,c5,c6,lY⟩:=jO y4.row.1;clear y4;rcases aaf with ⟨rfl,hn⟩|⟨he,hz⟩
 case' inl=>subst hn
 case' inr =>
  subst hz;have g4:(er==0)=false:=by simpa using he
  clear he
 all_goals
  by_cases e0:c.kind=0
  ·have q0:(c.kind==0)=true:=by simpa using e0
   have xZ:=aa (rS.o.trans (if_pos e0));have Bc:=aa (zC.o.trans (if_pos e0));clear rS zC e0;have HC:=aa (fun (w':World) (l':List aD) (h':St w0 w' (row Y 58 c.cells::l'))=>show w'.cell? ⟨Y,1,none⟩=some (.int .i64 c.part)∧w'.cell? ⟨Y,2,none⟩=some (.int .i64 c.n)∧w'.cell? ⟨Y,4,none⟩=some (.int .i64 c.no)∧Y < w'.heap.size from ⟨h'.row.1.cell 1,h'.row.1.cell 2,h'.row.1.cell 4,h'.row.1.lt⟩);go_wp2_with fail;clear c0 c1 c2 c3 c4 c5 c6 lY;refine eh (fun w'=>w'.cell? ⟨Y,1,none⟩=some (.int .i64 c.part)∧w'.cell? ⟨Y,2,none⟩=some (.int .i64 c.n)∧w'.cell? ⟨Y,4,none⟩=some (.int .i64 c.no)∧Y < w'.heap.size) (by kernel_rfl) (HC.o w4.drew _ (H4.o.drew.pick 1 rfl)) (fun bQ=>?_);(refine ai 0 ?_;(try simp only [af,ae,ah,Act.put,aq,ak,ao]));(refine ai 1 ?_;(try simp only [af,ae,ah,Act.put,aq,ak,ao]));(refine ai 2 ?_;(try simp only [af,ae,ah,Act.put,aq,ak,ao]));(refine ai 3 ?_;(try simp only [af,ae,ah,Act.put,aq,ak,ao]));(refine ai 4 ?_;(try simp only [af,ae,ah,Act.put,aq,ak,ao]));(refine ai 5 ?_;(try simp only [af,ae,ah,Act.put,aq,ak,ao]));(refine ai 7 ?_;(try simp only [af,ae,ah,Act.put,aq,ak,ao]));(refine ai 8 ?_;(try simp only [af,ae,ah,Act.put,aq,ak,ao]));(refine ai 9 ?_;(try simp only [af,ae,ah,Act.put,aq,ak,ao]));(refine ai 10 ?_;(try simp only [af,ae,ah,Act.put,aq,ak,ao]));(refine ai 11 ?_;(try simp only [af,ae,ah,Act.put,aq,ak,ao]));(refine ai 12 ?_;(try simp only [af,ae,ah,Act.put,aq,ak,ao]));(refine dV 6 ?_;(try simp only [af,ae,ah]);go_simp);refine (Hn H4.o.drew fG.o c.part c.n _).mono ?_;rintro e w5 ⟨rfl,h5⟩;have H5:=aa h5;clear h5;try dsimp only
   (refine cG (HC.o w5 _ (H5.o.pick 1 rfl)) (fun bQ=>?_);(try simp only [af,ae,ah,Act.put,aq,ak,ao]));(refine dV 13 ?_;(try simp only [af,ae,ah]);go_simp);refine (O3 (H5.o.pick 3 rfl) rfl HR.o HK.o c.part c.n _ lv.o).mono ?_;rintro e w6 ⟨rfl,hx⟩;have HX:=aa hx;obtain ⟨P',iy,hP,h6,hL,EB⟩:=hx;have H6:=aa h6;clear h6 hP hL EB;try dsimp only
   (refine cG (HC.o w6 _ (H6.o.pick 2 rfl)) (fun bQ=>?_);(try simp only [af,ae,ah,Act.put,aq,ak,ao]));(refine ai 14 ?_;(try simp only [af,ae,ah,Act.put,aq,ak,ao]));(refine ai 15 ?_;(try simp only [af,ae,ah,Act.put,aq,ak,ao]));refine dW (by kernel_rfl) ?_;clear bQ;go_wp2_with fail;go_ret2;rw [xZ.o,Bc.o];exact ⟨rfl,HX.o.qd.qd⟩
  have q0:(c.kind==0)=false:=by simpa using e0
  by_cases e1:c.kind=1
  ·have q1:(c.kind==1)=true:=by simpa using e1
   have xZ:=aa (rS.o.trans ((if_neg e0).trans (if_pos e1)));have Bc:=aa (zC.o.trans ((if_neg e0).trans (if_pos e1)));clear rS zC e0 e1;have ri:=(H4.o.pick 2 rfl).row.1;have m0:=ri.cell 0;have m1:=ri.cell 1;have m2:=ri.cell 2;have m3:=ri.cell 3;have m4:=ri.cell 4;have m5:=ri.cell 5;have m6:=ri.cell 6;have m7:=ri.cell 7;have lI:=ri.lt;clear ri;go_wp2_with fail;refine (ix.o w4 _ H4.o eV.o c.no c.dL).mono ?_;rintro e w7 ⟨D,rfl,h7⟩;have H7:=aa (h7.swap);have wO:=aa (oJ (w0:=w0) (t:=D) (n:=16) (xs:=aP (jd i c.no c.dL)) (bs:=jd i c.no c.dL) (uq _ _ _) (by rw [List.take_of_length_le (by simp [aP,uq])]));clear h7 m0 m1 m2 m3 m4 m5 m6 m7 lI c0 c1 c2 c3 c4 c5 c6 lY;go_upto_region 11 with fail;have HC:=aa (fun (w':World) (l':List aD) (h':St w0 w' (row Y 58 c.cells::l'))=>show w'.cell? ⟨Y,1,none⟩=some (.int .i64 c.part)∧w'.cell? ⟨Y,2,none⟩=some (.int .i64 c.n)∧w'.cell? ⟨Y,4,none⟩=some (.int .i64 c.no)∧Y < w'.heap.size from ⟨h'.row.1.cell 1,h'.row.1.cell 2,h'.row.1.cell 4,h'.row.1.lt⟩);refine eh (fun w'=>w'.cell? ⟨Y,1,none⟩=some (.int .i64 c.part)∧w'.cell? ⟨Y,2,none⟩=some (.int .i64 c.n)∧w'.cell? ⟨Y,4,none⟩=some (.int .i64 c.no)∧Y < w'.heap.size) (by kernel_rfl) (HC.o w7.drew _ (H7.o.drew.pick 2 rfl)) (fun bQ=>?_);(refine ai 0 ?_;(try simp only [af,ae,ah,Act.put,aq,ak,ao]));(refine ai 1 ?_;(try simp only [af,ae,ah,Act.put,aq,ak,ao]));(refine ai 2 ?_;(try simp only [af,ae,ah,Act.put,aq,ak,ao]));(refine ai 3 ?_;(try simp only [af,ae,ah,Act.put,aq,ak,ao]));(refine ai 4 ?_;(try simp only [af,ae,ah,Act.put,aq,ak,ao]));(refine ai 5 ?_;(try simp only [af,ae,ah,Act.put,aq,ak,ao]));(refine ai 6 ?_;(try simp only [af,ae,ah,Act.put,aq,ak,ao]));(refine ai 7 ?_;(try simp only [af,ae,ah,Act.put,aq,ak,ao]));(refine ai 9 ?_;(try simp only [af,ae,ah,Act.put,aq,ak,ao]));(refine ai 10 ?_;(try simp only [af,ae,ah,Act.put,aq,ak,ao]));(refine ai 11 ?_;(try simp only [af,ae,ah,Act.put,aq,ak,ao]));(refine ai 12 ?_;(try simp only [af,ae,ah,Act.put,aq,ak,ao]));(refine ai 13 ?_;(try simp only [af,ae,ah,Act.put,aq,ak,ao]));(refine ai 14 ?_;(try simp only [af,ae,ah,Act.put,aq,ak,ao]));(refine ai 15 ?_;(try simp only [af,ae,ah,Act.put,aq,ak,ao]));(refine ai 16 ?_;(try simp only [af,ae,ah,Act.put,aq,ak,ao]));(refine dV 8 ?_;(try simp only [af,ae,ah]);go_simp);refine (JB H7.o.drew fG.o c.part c.n c.no wO.o).mono ?_;rintro e w5 ⟨rfl,h5⟩;have H5:=aa h5;clear h5;try dsimp only
   (refine cG (HC.o w5 _ (H5.o.pick 2 rfl)) (fun bQ=>?_);(try simp only [af,ae,ah,Act.put,aq,ak,ao]));(refine dV 17 ?_;(try simp only [af,ae,ah]);go_simp);refine (Sb ((H5.o.pick 4 rfl).perm ((List.Perm.swap _ _ _).cons _)) rfl HR.o HS.o HK.o wO.o c.part c.n c.no).mono ?_;rintro e w6 ⟨rfl,hx⟩;have HX:=aa hx;obtain ⟨P',iy,hP,h6,hL,EB⟩:=hx;have H6:=aa h6;clear h6 hP hL EB;try dsimp only
   (refine cG (HC.o w6 _ (H6.o.pick 3 rfl)) (fun bQ=>?_);(try simp only [af,ae,ah,Act.put,aq,ak,ao]));(refine ai 18 ?_;(try simp only [af,ae,ah,Act.put,aq,ak,ao]));(refine ai 19 ?_;(try simp only [af,ae,ah,Act.put,aq,ak,ao]));refine dW (by kernel_rfl) ?_;clear bQ;go_wp2_with fail;go_ret2;rw [xZ.o,Bc.o];exact ⟨rfl,HX.o.ZP.qd.qd⟩
  have q1:(c.kind==1)=false:=by simpa using e1
  by_cases e2:c.kind=2
  ·have q2:(c.kind==2)=true:=by simpa using e2
   have xZ:=aa (rS.o.trans ((if_neg e0).trans ((if_neg e1).trans (if_pos e2))));have Bc:=aa (zC.o.trans ((if_neg e0).trans ((if_neg e1).trans (if_pos e2))));clear rS zC e0 e1 e2;have HC:=aa (fun (w':World) (l':List aD) (h':St w0 w' (row Y 58 c.cells::l'))=>show w'.cell? ⟨Y,1,none⟩=some (.int .i64 c.part)∧w'.cell? ⟨Y,2,none⟩=some (.int .i64 c.n)∧w'.cell? ⟨Y,4,none⟩=some (.int .i64 c.no)∧Y < w'.heap.size from ⟨h'.row.1.cell 1,h'.row.1.cell 2,h'.row.1.cell 4,h'.row.1.lt⟩);go_wp2_with fail;clear c0 c1 c2 c3 c4 c5 c6 lY;refine eh (fun w'=>w'.cell? ⟨Y,1,none⟩=some (.int .i64 c.part)∧w'.cell? ⟨Y,2,none⟩=some (.int .i64 c.n)∧w'.cell? ⟨Y,4,none⟩=some (.int .i64 c.no)∧Y < w'.heap.size) (by kernel_rfl) (HC.o w4.drew _ (H4.o.drew.pick 1 rfl)) (fun bQ=>?_);(refine ai 0 ?_;(try simp only [af,ae,ah,Act.put,aq,ak,ao]));(refine ai 1 ?_;(try simp only [af,ae,ah,Act.put,aq,ak,ao]));(refine ai 2 ?_;(try simp only [af,ae,ah,Act.put,aq,ak,ao]));(refine ai 3 ?_;(try simp only [af,ae,ah,Act.put,aq,ak,ao]));(refine ai 4 ?_;(try simp only [af,ae,ah,Act.put,aq,ak,ao]));(refine ai 6 ?_;(try simp only [af,ae,ah,Act.put,aq,ak,ao]));(refine ai 7 ?_;(try simp only [af,ae,ah,Act.put,aq,ak,ao]));(refine ai 8 ?_;(try simp only [af,ae,ah,Act.put,aq,ak,ao]));(refine ai 9 ?_;(try simp only [af,ae,ah,Act.put,aq,ak,ao]));(refine ai 10 ?_;(try simp only [af,ae,ah,Act.put,aq,ak,ao]));(refine dV 5 ?_;(try simp only [af,ae,ah]);go_simp);refine (Ga H4.o.drew fG.o c.part c.n).mono ?_;rintro e w5 ⟨rfl,h5⟩;have H5:=aa h5;clear h5;try dsimp only
   (refine cG (HC.o w5 _ (H5.o.pick 1 rfl)) (fun bQ=>?_);(try simp only [af,ae,ah,Act.put,aq,ak,ao]));(refine dV 11 ?_;(try simp only [af,ae,ah]);go_simp);refine (Sa (H5.o.pick 3 rfl) HR.o HS.o HK.o HTB.o c.part c.n).mono ?_;rintro e w6 ⟨rfl,hx⟩;have HX:=aa hx;obtain ⟨P',iy,hP,h6,hL,EB⟩:=hx;have H6:=aa h6;clear h6 hP hL EB;try dsimp only
   (refine cG (HC.o w6 _ (H6.o.pick 2 rfl)) (fun bQ=>?_);(try simp only [af,ae,ah,Act.put,aq,ak,ao]));(refine ai 12 ?_;(try simp only [af,ae,ah,Act.put,aq,ak,ao]));(refine ai 13 ?_;(try simp only [af,ae,ah,Act.put,aq,ak,ao]));refine dW (by kernel_rfl) ?_;clear bQ;go_wp2_with fail;go_ret2;rw [xZ.o,Bc.o];exact ⟨rfl,HX.o.qd.qd⟩
  have q2:(c.kind==2)=false:=by simpa using e2
  by_cases e3:c.kind=3
  ·have q3:(c.kind==3)=true:=by simpa using e3
   have xZ:=aa (rS.o.trans ((if_neg e0).trans ((if_neg e1).trans ((if_neg e2).trans (if_pos e3)))));have Bc:=aa (zC.o.trans ((if_neg e0).trans ((if_neg e1).trans ((if_neg e2).trans (if_pos e3)))));clear rS zC e0 e1 e2 e3;have HC:=aa (fun (w':World) (l':List aD) (h':St w0 w' (row Y 58 c.cells::l'))=>show w'.cell? ⟨Y,1,none⟩=some (.int .i64 c.part)∧w'.cell? ⟨Y,2,none⟩=some (.int .i64 c.n)∧w'.cell? ⟨Y,4,none⟩=some (.int .i64 c.no)∧Y < w'.heap.size from ⟨h'.row.1.cell 1,h'.row.1.cell 2,h'.row.1.cell 4,h'.row.1.lt⟩);go_wp2_with fail;clear c0 c1 c2 c3 c4 c5 c6 lY;refine eh (fun w'=>w'.cell? ⟨Y,1,none⟩=some (.int .i64 c.part)∧w'.cell? ⟨Y,2,none⟩=some (.int .i64 c.n)∧w'.cell? ⟨Y,4,none⟩=some (.int .i64 c.no)∧Y < w'.heap.size) (by kernel_rfl) (HC.o w4.drew _ (H4.o.drew.pick 1 rfl)) (fun bQ=>?_);(refine ai 0 ?_;(try simp only [af,ae,ah,Act.put,aq,ak,ao]));(refine ai 1 ?_;(try simp only [af,ae,ah,Act.put,aq,ak,ao]));(refine ai 2 ?_;(try simp only [af,ae,ah,Act.put,aq,ak,ao]));(refine ai 3 ?_;(try simp only [af,ae,ah,Act.put,aq,ak,ao]));(refine ai 4 ?_;(try simp only [af,ae,ah,Act.put,aq,ak,ao]));(refine ai 6 ?_;(try simp only [af,ae,ah,Act.put,aq,ak,ao]));(refine ai 7 ?_;(try simp only [af,ae,ah,Act.put,aq,ak,ao]));(refine ai 8 ?_;(try simp only [af,ae,ah,Act.put,aq,ak,ao]));(refine ai 9 ?_;(try simp only [af,ae,ah,Act.put,aq,ak,ao]));(refine ai 10 ?_;(try simp only [af,ae,ah,Act.put,aq,ak,ao]));(refine dV 5 ?_;(try simp only [af,ae,ah]);go_simp);refine (Ud H4.o.drew fG.o c.part c.n).mono ?_;rintro e w5 ⟨rfl,h5⟩;have H5:=aa h5;clear h5;try dsimp only
   (refine cG (HC.o w5 _ (H5.o.pick 1 rfl)) (fun bQ=>?_);(try simp only [af,ae,ah,Act.put,aq,ak,ao]));(refine dV 11 ?_;(try simp only [af,ae,ah]);go_simp);refine (Sc (H5.o.pick 3 rfl) rfl HR.o HK.o c.part c.n).mono ?_;rintro e w6 ⟨rfl,hx⟩;have HX:=aa hx;obtain ⟨P',iy,hP,h6,hL,EB⟩:=hx;have H6:=aa h6;clear h6 hP hL EB;try dsimp only
   (refine cG (HC.o w6 _ (H6.o.pick 2 rfl)) (fun bQ=>?_);(try simp only [af,ae,ah,Act.put,aq,ak,ao]));(refine ai 12 ?_;(try simp only [af,ae,ah,Act.put,aq,ak,ao]));(refine ai 13 ?_;(try simp only [af,ae,ah,Act.put,aq,ak,ao]));refine dW (by kernel_rfl) ?_;clear bQ;go_wp2_with fail;go_ret2;rw [xZ.o,Bc.o];exact ⟨rfl,HX.o.qd.qd⟩
  have q3:(c.kind==3)=false:=by simpa using e3
  by_cases e4:c.kind=4
  ·have q4:(c.kind==4)=true:=by simpa using e4
   have xZ:=aa (rS.o.trans ((if_neg e0).trans ((if_neg e1).trans ((if_neg e2).trans ((if_neg e3).trans (if_pos e4))))));have Bc:=aa (zC.o.trans ((if_neg e0).trans ((if_neg e1).trans ((if_neg e2).trans ((if_neg e3).trans (if_pos e4))))));clear rS zC e0 e1 e2 e3 e4;go_wp2_with fail;refine (KD H4.o fG.o c.part).mono ?_;rintro e w5 ⟨j,AJ,cJ,ej,rfl,hej,h5⟩;have HEJ:=aa hej;have H5:=aa (h5.drop);clear hej h5 c0 c1 c2 c3 c4 c5 c6 lY;obtain ⟨c0,c1,c2,c3,c4,c5,c6,lY⟩:=jO (H5.o.pick 1 rfl).row.1;have HXB:=aa (fun (w':World) (hb:Below w5.heap.size w5 w')=>Sf ((H5.o.below hb).pick 3 rfl) rfl HR.o HK.o c.part);obtain ⟨j0,j1,j2,j3,j4,j5,j6,jc⟩:=j;simp only [aw.val];generalize jc.length=j7;go_wp2_with fail;refine (HXB.o _ ((Below.refl _ w5).alloc (Nat.le_refl _) _)).mono ?_;rintro e w6 ⟨rfl,hx⟩;have HX:=aa hx;clear hx;go_wp2_with fail;go_ret2;rw [xZ.o,Bc.o,show (kX t m xs c.part).1.2=ej from (congrArg Prod.snd HEJ.o).symm];exact ⟨rfl,HX.o.qd.qd⟩
  have q4:(c.kind==4)=false:=by simpa using e4
  ·have xZ:=aa (rS.o.trans ((if_neg e0).trans ((if_neg e1).trans ((if_neg e2).trans ((if_neg e3).trans ((if_neg e4).trans (rfl)))))));have Bc:=aa (zC.o.trans ((if_neg e0).trans ((if_neg e1).trans ((if_neg e2).trans ((if_neg e3).trans ((if_neg e4).trans (rfl)))))));clear rS zC e0 e1 e2 e3 e4;have HC:=aa (fun (w':World) (l':List aD) (h':St w0 w' (row Y 58 c.cells::l'))=>show w'.cell? ⟨Y,1,none⟩=some (.int .i64 c.part)∧w'.cell? ⟨Y,2,none⟩=some (.int .i64 c.n)∧w'.cell? ⟨Y,4,none⟩=some (.int .i64 c.no)∧Y < w'.heap.size from ⟨h'.row.1.cell 1,h'.row.1.cell 2,h'.row.1.cell 4,h'.row.1.lt⟩);go_wp2_with fail;clear c0 c1 c2 c3 c4 c5 c6 lY;refine eh (fun w'=>w'.cell? ⟨Y,1,none⟩=some (.int .i64 c.part)∧w'.cell? ⟨Y,2,none⟩=some (.int .i64 c.n)∧w'.cell? ⟨Y,4,none⟩=some (.int .i64 c.no)∧Y < w'.heap.size) (by kernel_rfl) (HC.o w4.drew _ (H4.o.drew.pick 1 rfl)) (fun bQ=>?_);(refine ai 0 ?_;(try simp only [af,ae,ah,Act.put,aq,ak,ao]));(refine ai 1 ?_;(try simp only [af,ae,ah,Act.put,aq,ak,ao]));(refine ai 2 ?_;(try simp only [af,ae,ah,Act.put,aq,ak,ao]));(refine ai 4 ?_;(try simp only [af,ae,ah,Act.put,aq,ak,ao]));(refine ai 5 ?_;(try simp only [af,ae,ah,Act.put,aq,ak,ao]));(refine ai 6 ?_;(try simp only [af,ae,ah,Act.put,aq,ak,ao]));(refine dV 3 ?_;(try simp only [af,ae,ah]);go_simp);refine (Jd H4.o.drew fG.o c.part).mono ?_;rintro e w5 ⟨rfl,h5⟩;have H5:=aa h5;clear h5;try dsimp only
   (refine cG (HC.o w5 _ (H5.o.pick 1 rfl)) (fun bQ=>?_);(try simp only [af,ae,ah,Act.put,aq,ak,ao]));(refine dV 7 ?_;(try simp only [af,ae,ah]);go_simp);refine (Li (H5.o.pick 3 rfl) rfl HR.o HK.o c.part).mono ?_;rintro e w6 ⟨rfl,hx⟩;have HX:=aa hx;obtain ⟨P',iy,hP,h6,hL,EB⟩:=hx;have H6:=aa h6;clear h6 hP hL EB;try dsimp only
   (refine cG (HC.o w6 _ (H6.o.pick 2 rfl)) (fun bQ=>?_);(try simp only [af,ae,ah,Act.put,aq,ak,ao]));(refine ai 8 ?_;(try simp only [af,ae,ah,Act.put,aq,ak,ao]));(refine ai 9 ?_;(try simp only [af,ae,ah,Act.put,aq,ak,ao]));refine dW (by kernel_rfl) ?_;clear bQ;go_wp2_with fail;go_ret2;rw [xZ.o,Bc.o];exact ⟨rfl,HX.o.qd.qd⟩
end store
end Go.Proofs.YtdldkkoplgkloaaGreat
