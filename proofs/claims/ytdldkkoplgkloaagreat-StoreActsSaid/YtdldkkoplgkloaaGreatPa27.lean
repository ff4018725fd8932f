/- PROVED HERE: lemmas of the law. CONDITIONS: each names its own. -/
import Derived.Test.YtdldkkoplgkloaaGreatPa26
namespace Go.Proofs.YtdldkkoplgkloaaGreat
set_option linter.unusedVariables false
set_option linter.unusedSimpArgs false
set_option maxRecDepth 100000
set_option maxHeartbeats 32000000
open Go.Value renaming int → ae
open Go.IntKind renaming i64 → aa
namespace store
open Go.RowKit Go.Deep base obj mem sep aW aX record bD aG image bN bL chain bC
def uR:aq:=⟨0,1,0,1,1,0,0,[0]⟩
def exJ:aq:=⟨1,1,0,1,1,0,0,[0]⟩
def gu:aq:=⟨0,2,0,1,1,0,0,[0]⟩
def sV:aY:=⟨4,[⟨4,4,0⟩,⟨4,4,0⟩],[⟨0,0,1⟩],[],2⟩
def aq.row (i:aq) (K:Option Addr×Nat):List Value:=[ae aa i.part,ae aa i.version,ae aa i.aV,ae aa i.mem,ae aa i.fuel,ae aa i.aM,ae aa i.ax,.slice K.1 i.code.length K.2]
theorem Qk {w0 w:World} {l:List aI} (h:St w0 w l):Calls Tryz.prog 41 #[] w fun e w'=>∃gP gW gI,e=.returned (.agg #[ae aa 4,.slice (some ⟨gP,0,none⟩) 2 2,.slice (some ⟨gW,0,none⟩) 1 1,.slice none 0 0,ae aa 2,.slice (some ⟨gI,0,none⟩) 3 3])∧∃g2,St w0 w' (row gI 26 [ae aa 0,ae aa 1,ae aa 0,ae aa 1,ae aa 1,ae aa 0,ae aa 0,.slice (some ⟨g2,0,none⟩) 1 1,ae aa 1,ae aa 1,ae aa 0,ae aa 1,ae aa 1,ae aa 0,ae aa 0,.slice (some ⟨g2,0,none⟩) 1 1,ae aa 0,ae aa 2,ae aa 0,ae aa 1,ae aa 1,ae aa 0,ae aa 0,.slice (some ⟨g2,0,none⟩) 1 1]::row gW 150 [ae aa 0,ae aa 0,ae aa 1]::row gP 147 [ae aa 4,ae aa 4,ae aa 0,ae aa 4,ae aa 4,ae aa 0]::row g2 5 [.int .u8 0]::l):=by
 have H:=af h;clear h;obtain ⟨g0,xU⟩:=xE w.heap.size;obtain ⟨g1,hg1⟩:=xE (g0+1);obtain ⟨g2,uP⟩:=xE (g1+1);obtain ⟨g3,wO⟩:=xE (g2+1);obtain ⟨wd,yT⟩:∃wd,wd=(((w.alloc (.cells #[ae aa 0,.slice none 0 0,.slice none 0 0,.slice none 0 0,ae aa 0,.slice none 0 0] 49)).alloc (.cells #[ae aa 4,ae aa 4,ae aa 0] 147)).alloc (.cells #[.int .u8 0] 5)).alloc (.cells #[ae aa 0,ae aa 1,ae aa 0,ae aa 1,ae aa 1,ae aa 0,ae aa 0,.slice (some ⟨g2,0,none⟩) 1 1] 26):=⟨_,rfl⟩
 have HD:=af (show St w0 wd (row g3 26 [ae aa 0,ae aa 1,ae aa 0,ae aa 1,ae aa 1,ae aa 0,ae aa 0,.slice (some ⟨g2,0,none⟩) 1 1]::row g2 5 [.int .u8 0]::row g1 147 [ae aa 4,ae aa 4,ae aa 0]::row g0 49 [ae aa 0,.slice none 0 0,.slice none 0 0,.slice none 0 0,ae aa 0,.slice none 0 0]::l) by
  have h:=(((H.o.new 49 #[ae aa 0,.slice none 0 0,.slice none 0 0,.slice none 0 0,ae aa 0,.slice none 0 0]).new 147 #[ae aa 4,ae aa 4,ae aa 0]).new 5 #[.int .u8 0]).new 26 #[ae aa 0,ae aa 1,ae aa 0,ae aa 1,ae aa 1,ae aa 0,ae aa 0,.slice (some ⟨g2,0,none⟩) 1 1];rw [←yT] at h;simp only [World.size_alloc,←xU,←hg1,←uP,←wO] at h
  exact h)
 have TN:=af yT;have HG0:=af xU;have HG1:=af hg1;have HG2:=af uP;have HG3:=af wO;clear yT xU hg1 uP wO;go_enter Tryz.func41,Tryz.ntmps41;go_upto_region 3 with fail;rw [←HG0.o,←HG1.o,←HG2.o,←HG3.o,←TN.o]
 go_cut [3,4] (fun s3 s4 wc=>∃g4 g5,s3=.pointer (some ⟨g4,0,none⟩)∧s4=.pointer (some ⟨g5,0,none⟩)∧St w0 wc (row g5 26 [ae aa 0,ae aa 1,ae aa 0,ae aa 1,ae aa 1,ae aa 0,ae aa 0,.slice (some ⟨g2,0,none⟩) 1 1]::row g4 26 [ae aa 0,ae aa 1,ae aa 0,ae aa 1,ae aa 1,ae aa 0,ae aa 0,.slice (some ⟨g2,0,none⟩) 1 1]::row g3 26 [ae aa 0,ae aa 1,ae aa 0,ae aa 1,ae aa 1,ae aa 0,ae aa 0,.slice (some ⟨g2,0,none⟩) 1 1]::row g2 5 [.int .u8 0]::row g1 147 [ae aa 4,ae aa 4,ae aa 0]::row g0 49 [ae aa 0,.slice none 0 0,.slice none 0 0,.slice none 0 0,ae aa 0,.slice none 0 0]::l))
 case first =>
  have r3:=HD.o.row.1;have t0:=r3.cell 0;have t1:=r3.cell 1;have t2:=r3.cell 2;have t3:=r3.cell 3;have t4:=r3.cell 4;have t5:=r3.cell 5;have t6:=r3.cell 6;have t7:=r3.cell 7;have l3:=r3.lt;clear r3
  have HN:=af (show St w0 ((wd.alloc (.cells #[ae aa 0,ae aa 1,ae aa 0,ae aa 1,ae aa 1,ae aa 0,ae aa 0,.slice (some ⟨g2,0,none⟩) 1 1] 26)).alloc (.cells #[ae aa 0,ae aa 1,ae aa 0,ae aa 1,ae aa 1,ae aa 0,ae aa 0,.slice (some ⟨g2,0,none⟩) 1 1] 26)).drew (row (wd.heap.size+1) 26 [ae aa 0,ae aa 1,ae aa 0,ae aa 1,ae aa 1,ae aa 0,ae aa 0,.slice (some ⟨g2,0,none⟩) 1 1]::row wd.heap.size 26 [ae aa 0,ae aa 1,ae aa 0,ae aa 1,ae aa 1,ae aa 0,ae aa 0,.slice (some ⟨g2,0,none⟩) 1 1]::row g3 26 [ae aa 0,ae aa 1,ae aa 0,ae aa 1,ae aa 1,ae aa 0,ae aa 0,.slice (some ⟨g2,0,none⟩) 1 1]::row g2 5 [.int .u8 0]::row g1 147 [ae aa 4,ae aa 4,ae aa 0]::row g0 49 [ae aa 0,.slice none 0 0,.slice none 0 0,.slice none 0 0,ae aa 0,.slice none 0 0]::l) by
   have h:=(((HD.o.new 26 #[ae aa 0,ae aa 1,ae aa 0,ae aa 1,ae aa 1,ae aa 0,ae aa 0,.slice (some ⟨g2,0,none⟩) 1 1]).new 26 #[ae aa 0,ae aa 1,ae aa 0,ae aa 1,ae aa 1,ae aa 0,ae aa 0,.slice (some ⟨g2,0,none⟩) 1 1])).drew;simp only [World.size_alloc] at h
   exact h)
  go_region
  ·go_wp2_with fail;go_meet;exact ⟨_,_,rfl,rfl,HN.o⟩
  ·go_wp2_with fail;go_meet;exact ⟨_,_,rfl,rfl,HN.o.swap⟩
 case rest =>
 obtain ⟨g4,g5,rfl,rfl,ak⟩:=hcut;obtain ⟨w6,hw⟩:=xE wc;subst hw;have bH:=af ak;have r5:=ak.row.1;have r4:=(ak.pick 1 rfl).row.1;have f5:=r5.frozen 1;have f4:=r4.frozen 0;have c5:=r5.cell 1;have c4:=r4.cell 0;have l5:=r5.lt;have l4:=r4.lt;clear ak r5 r4;go_upto_region 5 with fail;have h7:=(((bH.o.pick 1 rfl).set 0 (ae aa 1)).swap).set 1 (ae aa 2);obtain ⟨w7,xD⟩:∃x,x=(w6.setCell ⟨g4,0,none⟩ (ae aa 1)).setCell ⟨g5,1,none⟩ (ae aa 2):=⟨_,rfl⟩
 rw [←xD] at h7 ⊢;have H7:=af h7;have r5:=h7.row.1;have r4:=(h7.pick 1 rfl).row.1;have r3:=(h7.pick 2 rfl).row.1;have r1:=(h7.pick 4 rfl).row.1;clear f5 f4 c5 c4 l5 l4 xD h7;simp only [List.set_cons_zero,List.set_cons_succ] at r5 r4;have x0:=r5.cell 0;have x1:=r5.cell 1;have x2:=r5.cell 2;have x3:=r5.cell 3;have x4:=r5.cell 4;have x5:=r5.cell 5;have x6:=r5.cell 6;have x7:=r5.cell 7;have l5:=r5.lt;have y0:=r4.cell 0;have y1:=r4.cell 1;have y2:=r4.cell 2;have y3:=r4.cell 3;have y4:=r4.cell 4;have y5:=r4.cell 5;have y6:=r4.cell 6;have y7:=r4.cell 7;have l4:=r4.lt;have z0:=r3.cell 0;have z1:=r3.cell 1;have z2:=r3.cell 2;have z3:=r3.cell 3;have z4:=r3.cell 4;have z5:=r3.cell 5;have z6:=r3.cell 6;have z7:=r3.cell 7;have l3:=r3.lt;have p0:=r1.cell 0;have p1:=r1.cell 1;have p2:=r1.cell 2;have l1:=r1.lt;clear r5 r4 r3 r1;obtain ⟨gP,hgP⟩:=xE w7.heap.size;obtain ⟨gW,hgW⟩:=xE (gP+1);obtain ⟨gI,hgI⟩:=xE (gW+1)
 have HX:=af (show St w0 (((w7.alloc (.cells #[ae aa 4,ae aa 4,ae aa 0,ae aa 4,ae aa 4,ae aa 0] 147)).alloc (.cells #[ae aa 0,ae aa 0,ae aa 1] 150)).alloc (.cells #[ae aa 0,ae aa 1,ae aa 0,ae aa 1,ae aa 1,ae aa 0,ae aa 0,.slice (some ⟨g2,0,none⟩) 1 1,ae aa 1,ae aa 1,ae aa 0,ae aa 1,ae aa 1,ae aa 0,ae aa 0,.slice (some ⟨g2,0,none⟩) 1 1,ae aa 0,ae aa 2,ae aa 0,ae aa 1,ae aa 1,ae aa 0,ae aa 0,.slice (some ⟨g2,0,none⟩) 1 1] 26)) (row gI 26 [ae aa 0,ae aa 1,ae aa 0,ae aa 1,ae aa 1,ae aa 0,ae aa 0,.slice (some ⟨g2,0,none⟩) 1 1,ae aa 1,ae aa 1,ae aa 0,ae aa 1,ae aa 1,ae aa 0,ae aa 0,.slice (some ⟨g2,0,none⟩) 1 1,ae aa 0,ae aa 2,ae aa 0,ae aa 1,ae aa 1,ae aa 0,ae aa 0,.slice (some ⟨g2,0,none⟩) 1 1]::row gW 150 [ae aa 0,ae aa 0,ae aa 1]::row gP 147 [ae aa 4,ae aa 4,ae aa 0,ae aa 4,ae aa 4,ae aa 0]::_) by
  have h:=((H7.o.new 147 #[ae aa 4,ae aa 4,ae aa 0,ae aa 4,ae aa 4,ae aa 0]).new 150 #[ae aa 0,ae aa 0,ae aa 1]).new 26 #[ae aa 0,ae aa 1,ae aa 0,ae aa 1,ae aa 1,ae aa 0,ae aa 0,.slice (some ⟨g2,0,none⟩) 1 1,ae aa 1,ae aa 1,ae aa 0,ae aa 1,ae aa 1,ae aa 0,ae aa 0,.slice (some ⟨g2,0,none⟩) 1 1,ae aa 0,ae aa 2,ae aa 0,ae aa 1,ae aa 1,ae aa 0,ae aa 0,.slice (some ⟨g2,0,none⟩) 1 1];simp only [World.size_alloc,←hgP,←hgW,←hgI] at h
  exact h)
 have HR:=af (HX.o.pick 8 rfl).row.1;have MS:=af (show (Tryz.prog.info? 49).map (·.size)=some (#[ae aa 4,.slice (some ⟨gP,0,none⟩) 2 2,.slice (some ⟨gW,0,none⟩) 1 1,.slice none 0 0,ae aa 2,.slice (some ⟨gI,0,none⟩) 3 3]:Array Value).size from by kernel_rfl);have HS:=af ((HX.o.pick 8 rfl).setRow [ae aa 4,.slice (some ⟨gP,0,none⟩) 2 2,.slice (some ⟨gW,0,none⟩) 1 1,.slice none 0 0,ae aa 2,.slice (some ⟨gI,0,none⟩) 3 3]);have OE:=af hgP;have HGW:=af hgW;have HGI:=af hgI;clear hgP hgW hgI;go_wp2_with ((rw [←OE.o,←HGW.o,←HGI.o]);with_reducible refine aB rfl 49 (.tmp 0) (.tmp 22) rfl g0 0 #[ae aa 4,.slice (some ⟨gP,0,none⟩) 2 2,.slice (some ⟨gW,0,none⟩) 1 1,.slice none 0 0,ae aa 2,.slice (some ⟨gI,0,none⟩) 3 3] rfl rfl HR.o MS.o (Nat.le_refl _) (by simp [Value.oneCell']) [ae aa 4,.slice (some ⟨gP,0,none⟩) 2 2,.slice (some ⟨gW,0,none⟩) 1 1,.slice none 0 0,ae aa 2,.slice (some ⟨gI,0,none⟩) 3 3] rfl ?_);refine bodyPost_ret (results_cell_row rfl _ _ g0 _ _ _ _ rfl HS.o.row.1 Tryz.underlying49 rfl (by kernel_rfl)) rfl ?_;refine ⟨gP,gW,gI,rfl,g2,?_⟩;have h1:=HS.o.drop;have h2:=(h1.pick 7 rfl).drop;have h3:=(h2.pick 3 rfl).drop;have h4:=(h3.pick 3 rfl).drop;have h5:=(h4.pick 3 rfl).drop;exact h5
section
variable {l:List aI} {g2 gI gP gW:Nat} {w w0:World}
def exA (gP gW:Nat):dF:=⟨some ⟨gP,0,none⟩,2,some ⟨gW,0,none⟩,1,none,0⟩
def F5:List aq:=[uR,exJ,gu]
def Ql (g2:Nat):List Value:=[ae aa 0,ae aa 1,ae aa 0,ae aa 1,ae aa 1,ae aa 0,ae aa 0,.slice (some ⟨g2,0,none⟩) 1 1,ae aa 1,ae aa 1,ae aa 0,ae aa 1,ae aa 1,ae aa 0,ae aa 0,.slice (some ⟨g2,0,none⟩) 1 1,ae aa 0,ae aa 2,ae aa 0,ae aa 1,ae aa 1,ae aa 0,ae aa 0,.slice (some ⟨g2,0,none⟩) 1 1]
def F6 (gP gW gI g2:Nat):aI:=du [row gI 26 (Ql g2),row gW 150 [ae aa 0,ae aa 0,ae aa 1],row gP 147 [ae aa 4,ae aa 4,ae aa 0,ae aa 4,ae aa 4,ae aa 0],row g2 5 [.int .u8 0]]
theorem Wa (h:St w0 w (row gI 26 (Ql g2)::row gW 150 [ae aa 0,ae aa 0,ae aa 1]::row gP 147 [ae aa 4,ae aa 4,ae aa 0,ae aa 4,ae aa 4,ae aa 0]::row g2 5 [.int .u8 0]::l)):St w0 w (F6 gP gW gI g2::l) :=
 St.eJ (L:=[row gI 26 (Ql g2),row gW 150 [ae aa 0,ae aa 0,ae aa 1],row gP 147 [ae aa 4,ae aa 4,ae aa 0,ae aa 4,ae aa 4,ae aa 0],row g2 5 [.int .u8 0]]) h
theorem Aj (h:St w0 w (F6 gP gW gI g2::l)):St w0 w (row gI 26 (Ql g2)::row gW 150 [ae aa 0,ae aa 0,ae aa 1]::row gP 147 [ae aa 4,ae aa 4,ae aa 0,ae aa 4,ae aa 4,ae aa 0]::row g2 5 [.int .u8 0]::l):=h.fI
theorem aaU (h:St w0 w (F6 gP gW gI g2::l)):ko w (exA gP gW) sV:=by
 have h1:=Aj h;have hW:=(h1.pick 1 rfl).row.1;have hP:=(h1.pick 2 rfl).row.1;exact ⟨hP.sl (size:=3) (n:=2) (o:=0) hP.lt rfl rfl,hW.sl (size:=3) (n:=1) (o:=0) hW.lt rfl rfl,Sl.GL _ _ _,rfl,rfl,rfl,by show 2≤maxLen;unfold maxLen;omega,by show 1≤maxLen;unfold maxLen;omega,Nat.zero_le _⟩
theorem Xm (h:St w0 w (F6 gP gW gI g2::l)):Sl w w.heap.size 1 (some ⟨g2,0,none⟩) 1 (aP [0]):=by
 have h2:=((Aj h).pick 3 rfl).row.1;exact h2.sl (size:=1) (n:=1) (o:=0) h2.lt rfl rfl
theorem YV (w0:World) (gP gW gI g2 n:Nat) (hn:n≤3):At w0 (F6 gP gW gI g2) (F5.take n) (some ⟨gI,0,none⟩) n (fun _=>(some ⟨g2,0,none⟩,1)):=by
 intro w l h;have hI:=(Aj h).row.1;have hs:=Xm h;have hc:=fun k=>hI.cell k;refine ⟨by simp [F5];omega,?_,fun k hk=>⟨gI,0,rfl,hI.lt,?_⟩⟩
 ·intro i hi;have:i∈F5:=List.mem_of_mem_take hi;simp only [F5,List.mem_cons,List.not_mem_nil,or_false] at this;rcases this with rfl|rfl|rfl<;>(intro z hz;simp [uR,exJ,gu] at hz;subst hz;omega)
 ·have hg:(F5.take n).getD k aq.none=F5.getD k aq.none:=by
   simp only [dD,List.getElem?_take,if_pos hk]
  rw [hg];rcases (by omega:k=0∨k=1∨k=2) with rfl|rfl|rfl
  ·exact ⟨hc 0,hc 1,hc 2,hc 3,hc 4,hc 5,hc 6,hc 7,Nat.le_refl _,hs⟩
  ·exact ⟨hc 8,hc 9,hc 10,hc 11,hc 12,hc 13,hc 14,hc 15,Nat.le_refl _,hs⟩
  ·exact ⟨hc 16,hc 17,hc 18,hc 19,hc 20,hc 21,hc 22,hc 23,Nat.le_refl _,hs⟩
end
theorem Ra:(Tryz.prog.info? 118).map (fun i=>(i.zero,i.size,i.bytes))=some (some (.agg #[.bool false,ae aa 0,ae aa 0,ae aa 0,.slice none 0 0]),5,56):=by kernel_rfl
theorem E7:qP Tryz.prog 63 118 5 56:=by
 obtain ⟨i0,hi,kJ,ny,gm⟩:=info_parts Ra;exact ⟨Tryz.underlying63,⟨i0,_,hi,kJ,ny,gm,rfl⟩,by decide⟩
theorem VE:(Tryz.prog.info? 26).map (fun i=>(i.zero,i.size,i.bytes))=some (some (.agg gA),8,80):=by kernel_rfl
theorem O4:qP Tryz.prog 47 26 8 80:=by
 obtain ⟨i0,hi,kJ,ny,gm⟩:=info_parts VE;exact ⟨Tryz.underlying47,⟨i0,_,hi,kJ,ny,gm,rfl⟩,by decide⟩
theorem Rn:(Tryz.prog.info? 65).map (fun i=>(i.zero,i.size,i.bytes))=some (some (.agg #[ae aa 0,ae aa 0,ae aa 0,ae aa 0,ae aa 0,ae aa 0,.slice none 0 0,.slice none 0 0]),8,96):=by kernel_rfl
theorem Kr:qP Tryz.prog 66 65 8 96:=by
 obtain ⟨i0,hi,kJ,ny,gm⟩:=info_parts Rn;exact ⟨Tryz.underlying66,⟨i0,_,hi,kJ,ny,gm,rfl⟩,by decide⟩
theorem Ce {t e size bytes:Nat} (T:qP Tryz.prog t e size bytes) {ops:Array Oper} {rest:List Oper} {o:Oper} {a:Act} {Q:Exit→Act→World→Prop} {w0 w:World} {l:List aI} (eP:o.guard=none) (s x:Operand)
  (ho:o.op=.call { callee:=.builtin .append,args:=#[s,x],argTypes:=#[t,t] }) {v:Value} {n:Nat} {xs:List Value} (H:St w0 w (own e size v n xs::l)) (hs:a.eval s=v) {m:Nat} (zs:List Value) (hz:zs.length=m*size) (h1:∀u∈zs,u.oneCell'=true)
  (hx:a.eval x=.slice (some ⟨w.heap.size,0,none⟩) m m) (hm:0 < m) (hb:(n+m)*bytes≤140737488355328) (rP:n+m≤maxLen)
  (h:∀g c w',St w0 w' (own e size (.slice (some ⟨g,0,none⟩) (n+m) c) (n+m) (xs++zs)::l)→wpList Tryz.prog ops Q rest (a.put o.dst (.slice (some ⟨g,0,none⟩) (n+m) c)) w'):wpList Tryz.prog ops Q (o::rest) a (w.alloc (.cells zs.toArray e)):=by
 have HX:=(H.new e zs.toArray).swap;exact tK T eP s x ho HX.own hs hx ((Row.new w e zs.toArray).sl (B:=w.heap.size+1) (size:=size) (n:=m) (o:=0) (ys:=zs) (Nat.lt_succ_self _) (by rw [List.drop_zero,List.take_of_length_le (by simp [hz])]) hz) h1 hm hb rP HX.aE.size fun g cap w' ho hg kU _=>h g cap w' ((HX.grown hg ho (fun g' xV=>by cases xV;exact kU)).swap.drop)
section
variable {P P':List (Nat×List Value)} {l:List aI} {tv:List Value} {X:Nat} {v:Value} {w w0:World}
structure RP where
 aw:Rec
 s0:RS
 s1:RS
 i0:aq
 i1:aq
structure dv where
 vS:Value
 vI:Value
 v0:Value
 v1:Value
 pE:List Value
 tU:List Value
 K0:Option Addr×Nat
 K1:Option Addr×Nat
def mj (P:List (Nat×List Value)) (a:dv) (x:RP):aI:=du [fact (qc P x.s0.blocks a.pE∧qc P x.s1.blocks a.tU),own 118 5 a.vS 2 (bO x.s0 a.v0++bO x.s1 a.v1),own 24 1 a.v0 x.s0.blocks.length a.pE,own 24 1 a.v1 x.s1.blocks.length a.tU,own 26 8 a.vI 2 (aq.row x.i0 a.K0++aq.row x.i1 a.K1)]
def l6 (y:dv×RP):List Value:=y.2.aw.cells.toList++[y.1.vS,y.1.vI]
def dG (ys:List (dv×RP)):List Value:=(ys.map l6).flatten
def dY (P:List (Nat×List Value)) (ys:List (dv×RP)):aI:=du (ys.map fun y=>mj P y.1 y.2)
def bK (X:Nat) (tv:List Value) (v:Value) (P:List (Nat×List Value)) (ys:List (dv×RP)):aI:=du [row X 68 (tv++[v]),own 65 8 v ys.length (dG ys),eG P,dY P ys]
theorem et {ys:List (dv×RP)} (h:St w0 w (bK X tv v P ys::l)):St w0 w (row X 68 (tv++[v])::own 65 8 v ys.length (dG ys)::eG P::dY P ys::l):=h.fI
theorem rF {ys:List (dv×RP)} (h:St w0 w (row X 68 (tv++[v])::own 65 8 v ys.length (dG ys)::eG P::dY P ys::l)):St w0 w (bK X tv v P ys::l) :=
 St.eJ (L:=[row X 68 (tv++[v]),own 65 8 v ys.length (dG ys),eG P,dY P ys]) h
theorem RN (h:St w0 w (eG P::eG P'::l)):St w0 w (eG (P++P')::l):=by
 have h1:=h.fI;have h2:St w0 w (eG P'::((P.map fun x=>row x.1 5 x.2)++l)):=h1.perm (List.perm_middle);have h3:=h2.fI;refine St.eJ (h3.perm ?_);rw [List.map_append,List.append_assoc,←List.append_assoc,←List.append_assoc];exact List.Perm.append_right l List.perm_append_comm
theorem Pe (hp:∀x∈P,x∈P') (a:dv) (x:RP) (w:World) (F:Nat→Prop) (h:(mj P a x).on w F):(mj P' a x).on w F:=by
 obtain ⟨F1,F2,⟨⟨h1,h2⟩,h3⟩,h4⟩:=h;exact ⟨F1,F2,⟨⟨h1.mono hp,h2.mono hp⟩,h3⟩,h4⟩
theorem By {P P':List (Nat×List Value)} (hp:∀x∈P,x∈P'):∀(ys:List (dv×RP)) (w:World) (F:Nat→Prop),all (ys.map fun y=>mj P y.1 y.2) w F→all (ys.map fun y=>mj P' y.1 y.2) w F
 | [],_,_,h=>h
 | y::r,w,F,⟨F1,F2,h1,h2,h3,h4⟩=>⟨F1,F2,Pe hp y.1 y.2 w F1 h1,By hp r w F2 h2,h3,h4⟩
theorem tM (hp:∀x∈P,x∈P') {ys:List (dv×RP)} (h:St w0 w (dY P ys::l)):St w0 w (dY P' ys::l):=h.conv fun w F h=>By hp ys w F h
theorem Fc {ys:List (dv×RP)} {a:dv} {x:RP} (h:St w0 w (dY P ys::mj P a x::l)):St w0 w (dY P (ys++[(a,x)])::l):=by
 have h1:=h.fI;refine St.eJ (h1.perm ?_);rw [List.map_append,List.append_assoc];exact List.Perm.refl _
theorem Fb (h:St w0 w l):St w0 w (dY P []::l):=St.eJ (L:=[]) h
end
def oJ (js:List aq) (p:Nat):RP:=⟨bd p,fU (js.getD p aq.none).bytes,RS.none,js.getD p aq.none,aq.none⟩
theorem UZ {w0 w:World} {l:List aI} {B:aI} (h:St w0 w (B::l)) {js:List aq} {AI:Option Addr} {n cI:Nat} {K:Nat→Option Addr×Nat} (hg:At w0 B js AI n K) (hr:∀k,k < n→(js.getD k aq.none).right) (hn:n≤4) (fr tr:Int) (AP AW AC:Option Addr) (nP cP nW cW nC cC:Nat) :
  Calls Tryz.prog 38 #[tW fr AP nP cP AW nW cW AC nC cC tr,.slice AI n cI] w fun e w'=>∃X,e=.returned (.pointer (some ⟨X,0,none⟩))∧∃v P ys,St w0 w' (bK X [ae aa fr,.slice AP nP cP,.slice AW nW cW,.slice AC nC cC,ae aa tr] v P ys::B::l)∧ys.map (·.2)=(List.range n).map (oJ js)∧∀k (hk:k < ys.length),ys[k].1.K0=K k∧ys[k].1.K1=(none,0):=by
 obtain ⟨Z,hZ⟩:=xE w.heap.size;obtain ⟨X,hX⟩:=xE (Z+1);obtain ⟨w1,aF⟩:∃w1,w1=(w.alloc (.cells #[ae aa fr,.slice AP nP cP,.slice AW nW cW,.slice AC nC cC,ae aa tr] 46)).alloc (.cells #[ae aa fr,.slice AP nP cP,.slice AW nW cW,.slice AC nC cC,ae aa tr,.slice none 0 0] 68):=⟨_,rfl⟩
 have H1:=af (show St w0 w1 (bK X [ae aa fr,.slice AP nP cP,.slice AW nW cW,.slice AC nC cC,ae aa tr] (.slice none 0 0) [] []::B::l) by
  have h3:=(((h.new 46 #[ae aa fr,.slice AP nP cP,.slice AW nW cW,.slice AC nC cC,ae aa tr]).new 68 #[ae aa fr,.slice AP nP cP,.slice AW nW cW,.slice AC nC cC,ae aa tr,.slice none 0 0]).pick 1 rfl).drop;rw [←aF] at h3;simp only [World.size_alloc,←hZ,←hX] at h3;have h4:=h3.cX (e:=65) (size:=8) (v:=.slice none 0 0) (n:=0) (xs:=[]) (Below.refl _ _) ⟨rfl,.inl ⟨rfl,rfl⟩⟩;have h5:St w0 w1 (eG []::_):=St.eJ (L:=[]) h4;have h6:=Fb (P:=[]) h5;have h7:=(h6.pick 1 rfl)
  have h8:=(h7.pick 2 rfl)
  have h9:=(h8.pick 3 rfl)
  exact rF h9)
 have br:=af aF;have HZ:=af hZ;have HX:=af hX;clear h aF hZ hX;go_enter Tryz.func38,Tryz.ntmps38;go_upto_region 2 with fail;rw [←HZ.o,←HX.o,←br.o];go_wp2_with fail;go_loopw [6] (fun x wr=>∃(p:Nat) (v:Value) (P:List (Nat×List Value)) (ys:List (dv×RP)),p≤n∧x=ae aa (p:Int)∧St w0 wr (bK X [ae aa fr,.slice AP nP cP,.slice AW nW cW,.slice AC nC cC,ae aa tr] v P ys::B::l)∧ys.map (·.2)=(List.range p).map (oJ js)∧∀k (hk:k < ys.length),ys[k].1.K0=K k∧ys[k].1.K1=(none,0)) (fun x _=>n-(intOf x).toNat)
 case atStart=>exact ⟨0,_,_,_,by omega,rfl,H1.o,rfl,fun k hk=>absurd hk (by simp)⟩
 case round =>
  obtain ⟨p,v,P,ys,hp,rfl,ak,sA,hK⟩:=hrel;by_cases aH:p < n
  ·have k1:(p:Int) < (n:Int):=by omega
   have k0:(0:Int)≤(p:Int):=by omega
   have hI:=hg wr _ (ak.pick 1 rfl);obtain ⟨b,off,hA,cm,c0,c1,c2,c3,c4,c5,c6,c7,hc,hs⟩:=hI.at_ p aH
   have cG:bn (js.getD p aq.none).code:=by
    rw [qM (by rw [hI.len];exact aH)];exact hI.jo _ (List.getElem_mem _)
   have xe:=af (U0 ak (js.getD p aq.none) (hr p aH) cG (K p).1 (K p).2 hc hs);have HA:=af hA;have DN:=af sA;have DU:=af hK;have HP:=af aH;have HS:=af hs;have OD:=af (show oJ js p=⟨bd p,fU (js.getD p aq.none).bytes,RS.none,js.getD p aq.none,aq.none⟩ from rfl);generalize hI0:js.getD p aq.none=i at *;have uV:=af hI0;simp only [aq.val] at xe;obtain ⟨KA,IL⟩:∃v,v=(K p).1:=⟨_,rfl⟩
   obtain ⟨Kc,LC⟩:∃v,v=(K p).2:=⟨_,rfl⟩
   rw [←IL,←LC] at xe;rw [←IL,←LC] at c7;have HKE:=af (show K p=(KA,Kc) by rw [IL,LC]);clear ak hI hA hc hs cG sA hK hI0 IL LC H1;rw [HA.o];go_wp2_with fail;refine xe.o.mono ?_;rintro e w3 ⟨v0,rfl,P2,pE,NN,h3⟩;obtain ⟨A0,On,rfl,_,_⟩:=aD h3.own;obtain ⟨R,hR⟩:=xE (fU i.bytes);rw [←hR] at NN h3 OD ⊢;have HVB:=af NN;obtain ⟨sb,rM⟩:=xE R.has;obtain ⟨s1,j8⟩:=xE R.st.aC;obtain ⟨s2,pK⟩:=xE R.st.size;obtain ⟨s3,yV⟩:=xE R.st.bf;obtain ⟨nb,kV⟩:=xE R.blocks.length;have mO:=af (show bO R (.slice A0 nb On)++bO RS.none (.slice none 0 0)=[.bool sb,ae aa s1,ae aa s2,ae aa s3,.slice A0 nb On,.bool false,ae aa 0,ae aa 0,ae aa 0,.slice none 0 0] by rw [rM,j8,pK,yV];rfl);rw [←kV] at h3 ⊢;simp only [bO,←rM,←j8,←pK,←yV];have H3:=af (h3.cX (e:=118) (size:=5) (v:=.slice none 0 0) (n:=0) (xs:=[]) (Below.refl _ _) ⟨rfl,.inl ⟨rfl,rfl⟩⟩);have HR:=af hR;have xh:=af kV;clear h3 NN hR rM j8 pK yV kV c0 c1 c2 c3 c4 c5 c6 c7;go_upto_region 7 with (refine Ce E7 rfl (.tmp 18) (.tmp 25) rfl H3.o rfl (m:=2) [.bool sb,ae aa s1,ae aa s2,ae aa s3,.slice A0 nb On,.bool false,ae aa 0,ae aa 0,ae aa 0,.slice none 0 0] rfl (by simp [Value.oneCell']) rfl (by omega) (by omega) (by unfold maxLen;omega) ?_;rintro gS cS w4 h4)
   have H4:=af h4;have hI4:=hg w4 _ (h4.pick 4 rfl);obtain ⟨b2,ace,S5,ad9,c0,c1,c2,c3,c4,c5,c6,c7,BW,pK⟩:=hI4.at_ p HP.o;rw [HA.o] at S5;obtain ⟨rfl,rfl⟩:b=b2∧off=ace:=by injection S5 with e;injection e with e1 e2 _;exact ⟨e1,e2⟩
   rw [uV.o] at c0 c1 c2 c3 c4 c5 c6 c7;rw [HKE.o] at c7;have H5:=af (h4.cX (e:=26) (size:=8) (v:=.slice none 0 0) (n:=0) (xs:=[]) (Below.refl _ _) ⟨rfl,.inl ⟨rfl,rfl⟩⟩);clear h4 hI4 S5 pK;go_upto_region 9 with (refine Ce O4 rfl (.tmp 27) (.tmp 33) rfl H5.o rfl (m:=2) [ae aa i.part,ae aa i.version,ae aa i.aV,ae aa i.mem,ae aa i.fuel,ae aa i.aM,ae aa i.ax,.slice KA i.code.length Kc,ae aa 0,ae aa 0,ae aa 0,ae aa 0,ae aa 0,ae aa 0,ae aa 0,.slice none 0 0] rfl (by simp [Value.oneCell']) rfl (by omega) (by omega) (by unfold maxLen;omega) ?_;rintro gJ cJ w6 h6)
   have h7:=et (h6.pick 4 rfl);obtain ⟨Av,cv,rfl,_,_⟩:=aD (h7.pick 1 rfl).own
   have sB:ys.length=p:=by
    have:=congrArg List.length DN.o;simpa using this
   have Jv:=af sB;rw [sB] at h7;have H7:=af (h7.pick 1 rfl);have rX:=h7.row.1;simp only [List.cons_append,List.nil_append] at rX;have x5:=rX.c5;have lX:=rX.lt;clear h6 h7 rX sB c0 c1 c2 c3 c4 c5 c6 c7;go_upto_region 4 with (refine Ce Kr rfl (.tmp 39) (.tmp 45) rfl H7.o rfl (m:=1) [ae aa p,ae aa 1,ae aa 0,ae aa 0,ae aa 0,ae aa 0,.slice (some ⟨gS,0,none⟩) 2 cS,.slice (some ⟨gJ,0,none⟩) 2 cJ] rfl (by simp [Value.oneCell']) rfl (by omega) (by omega) (by unfold maxLen;omega) ?_;rintro gO cO w8 h8;have H8:=af h8;have rX:=(h8.pick 1 rfl).row.1;have fX:=rX.frozen 5;have x5:=rX.cell 5;have lX:=rX.lt;clear h8 rX)
   have HE:=af (show St w0 (w8.setCell ⟨X,5,none⟩ (.slice (some ⟨gO,0,none⟩) (p+1) cO)) (bK X [ae aa fr,.slice AP nP cP,.slice AW nW cW,.slice AC nC cC,ae aa tr] (.slice (some ⟨gO,0,none⟩) (p+1) cO) (P++P2) (ys++[(⟨.slice (some ⟨gS,0,none⟩) 2 cS,.slice (some ⟨gJ,0,none⟩) 2 cJ,.slice A0 nb On,.slice none 0 0,pE,[],(KA,Kc),(none,0)⟩,oJ js p)])::B::l) by
    rw [OD.o];have kV:=xh.o;subst kV;have a1:=(H8.o.pick 1 rfl).set 5 (.slice (some ⟨gO,0,none⟩) (p+1) cO);have a2:=a1.pick 7 rfl;have a3:=a2.pick 3 rfl;have a4:=RN a3;have a5:=tM (P':=P++P2) (fun x hx=>List.mem_append_left _ hx) (a4.pick 3 rfl);have a6:=a5.cX (e:=24) (size:=1) (v:=.slice none 0 0) (n:=0) (xs:=[]) (Below.refl _ _) ⟨rfl,.inl ⟨rfl,rfl⟩⟩;have a7:=a6.pick 5 rfl;have a8:=a7.pick 1 rfl;have a9:=a8.pick 7 rfl;have a10:=a9.pick 7 rfl;have a11:=a10.addFact (p:=qc (P++P2) R.blocks pE∧qc (P++P2) RS.none.blocks []) ⟨HVB.o.mono (fun x hx=>List.mem_append_right _ hx),⟨rfl,fun i b v h=>by simp [RS.none] at h⟩⟩
    have a12:St w0 _ (mj (P++P2) ⟨.slice (some ⟨gS,0,none⟩) 2 cS,.slice (some ⟨gJ,0,none⟩) 2 cJ,.slice A0 R.blocks.length On,.slice none 0 0,pE,[],(KA,Kc),(none,0)⟩ ⟨bd p,R,RS.none,i,aq.none⟩::_):=St.eJ (L:=[_,_,_,_,_]) (by
     rw [←mO.o] at a11
     exact a11)
    have a13:=Fc a12.swap;have a14:=((a13.pick 1 rfl).pick 3 rfl).pick 3 rfl;refine rF ?_;rw [gC,List.length_singleton,Jv.o,show dG (ys++[(⟨.slice (some ⟨gS,0,none⟩) 2 cS,.slice (some ⟨gJ,0,none⟩) 2 cJ,.slice A0 R.blocks.length On,.slice none 0 0,pE,[],(KA,Kc),(none,0)⟩,⟨bd p,R,RS.none,i,aq.none⟩)])=dG ys++[ae aa p,ae aa 1,ae aa 0,ae aa 0,ae aa 0,ae aa 0,.slice (some ⟨gS,0,none⟩) 2 cS,.slice (some ⟨gJ,0,none⟩) 2 cJ] by simp [dG,l6,bd,Rec.cells]]
    exact a14)
   go_wp2_with fail;go_roundw
   case rel =>
    refine ⟨p+1,_,_,_,by omega,by go_num,HE.o,?_,fun k hk=>?_⟩
    ·rw [List.map_append,DN.o,List.range_succ,List.map_append];rfl
    ·by_cases AN:k < ys.length
     ·rw [List.getElem_append_left AN];exact DU.o k AN
     ·have hke:k=ys.length:=by simp at hk;omega
      subst hke;rw [List.getElem_append_right (Nat.le_refl _)];simp only [Nat.sub_self,List.getElem_cons_zero];rw [Jv.o,HKE.o];exact ⟨rfl,trivial⟩
   case measure=>simp [intOf];omega
  ·have k1:¬(p:Int) < (n:Int):=by omega
   have NV:p=n:=by omega
   have bH:=af ak;have DN:=af sA;have HK:=af hK;have Gj:=af NV;clear ak sA hK NV H1;go_wp2_with fail;go_ret;exact ⟨X,rfl,v,P,ys,bH.o,by rw [DN.o,Gj.o],HK.o⟩
end store
namespace bN
open Go.RowKit base obj mem sep aW
section
variable {e:Int} {b f j k:Nat} {t:aY}
def Ga (U:List Bool):Array Value:=(U.map Value.bool).toArray
theorem VD:(Tryz.prog.info? 4).map (fun i=>(i.zero,i.size,i.bytes))=some (some (.bool false),1,1):=by kernel_rfl
theorem Px (k:Nat) (hk:k≤1000000) (w:World):(Instr.makeSlice 148 (ae aa (k:Int)) (ae aa (k:Int))).run Tryz.prog w=.ok (.slice (some ⟨w.heap.size,0,none⟩) k k) (w.alloc (.cells (Ga (List.replicate k false)) 4)):=by
 obtain ⟨i0,hi,kJ,ny,gm⟩:=info_parts VD;have h:=AA (P:=Tryz.prog) 148 4 i0 _ Tryz.underlying148 hi kJ .i64 .i64 k k (Nat.le_refl _) (by rw [gm];omega) (by omega) w;rw [h,ny]
 have e:madeCells (Value.bool false).cells (k*1)=Ga (List.replicate k false):=by
  unfold Ga;apply Array.ext';rw [AD (v:=.bool false) (by decide) (by simp [Value.cells])];simp
 rw [e]
def vY (t:aY):Bool:=cQ t.frame 1 64&&(cQ t.ay 1 7&&(cQ t.parts.length 2 4&&(decide (t.aJ.length≤8)&&decide (t.av.length≤4))))
theorem kH (h:vY t=false):t.right=false:=by
 cases hr:t.right with
 | false=>rfl
 | true =>
   simp [aY.right,aY.mS] at hr;simp [vY,hr] at h
theorem Ff (hk:k < t.parts.length) (h:t.parts[k].part=false):t.right=false:=by
 have h1:(t.parts.any fun x=>!x.part)=true:=List.any_eq_true.2 ⟨_,List.getElem_mem hk,by rw [h];rfl⟩;unfold aY.right;rw [h1];simp
theorem Rt (h:t.mS=false):t.right=false:=by
 unfold aY.right;rw [h];simp
theorem Ph (hk:k < t.av.length) (h:jB t.parts.length t.av[k]=false):t.right=false:=by
 have h1:(t.av.any fun x=>!jB t.parts.length x)=true:=List.any_eq_true.2 ⟨_,List.getElem_mem hk,by rw [h];rfl⟩;unfold aY.right;rw [h1];simp
theorem Rv {je:Bool} (hs:vY t=true) (hp:(t.parts.any fun x=>!x.part)=false) (hw:WI t t.aJ.length e je) (hc:(t.av.any fun x=>!jB t.parts.length x)=false):t.right=je:=by
 simp [vY] at hs;unfold aY.right;rw [hw.end_,hp,hc];simp [hs]
structure UI (U:List Bool) (f:Nat) (last e:Int):Prop where
 len:U.length=f
 free:∀j (h:j < U.length),e≤j→U[j]=false
 used:∀j (h:j < U.length),last≤j→(j:Int) < e→U[j]=true
 le:last < e∨(last=-1∧e=0)
theorem UI.start (f:Nat):UI (List.replicate f false) f (-1) 0:=⟨by simp,fun j h _=>by simp,fun j h h1 h2=>by omega,.inr ⟨rfl,rfl⟩⟩
structure UJ (U:List Bool) (f:Nat) (b j:Nat):Prop where
 len:U.length=f
 free:∀i (h:i < U.length),j≤i→U[i]=false
 used:∀i (h:i < U.length),b≤i→i < j→U[i]=true
theorem UJ.start {U:List Bool} {last:Int} (h:UI U f last e) {b:Nat} (hb:e≤b):UJ U f b b:=⟨h.len,fun i hi hbi=>h.free i hi (by omega),fun i hi h1 h2=>by omega⟩
theorem UJ.step {U:List Bool} (h:UJ U f b j) (hj:j < f):UJ (U.set j true) f b (j+1):=⟨by rw [List.length_set];exact h.len,fun i hi kt=>by
 rw [List.getElem_set_ne (by omega)];exact h.free i (by rw [List.length_set] at hi;exact hi) (by omega),fun i hi h1 h2=>by
 by_cases e:j=i
 ·subst e;simp
 ·rw [List.getElem_set_ne e]
  exact h.used i (by rw [List.length_set] at hi;exact hi) h1 (by omega)⟩
theorem UJ.end_ {U:List Bool} (h:UJ U f b j) (hbj:b < j):UI U f b j:=⟨h.len,fun i hi h1=>h.free i hi (by omega),fun i hi h1 h2=>h.used i hi (by omega) (by omega),.inl (by omega)⟩
section
variable {w : World} {t : aY} {AP AW AC : Option Addr} {nP cP nW cW nC cC : Nat}
theorem rG (h:pX w w.heap.size t AP nP cP AW nW cW AC nC cC):Calls Tryz.prog 34 #[tW t.frame AP nP cP AW nW cW AC nC cC t.ay] w fun e w'=>e=.returned (.bool t.right)∧Below w.heap.size w w':=by
 have HV:=af h;have mp:=h.mp;have mw:=h.mw;have mc:=h.mc;obtain ⟨T,hT⟩:=xE w.heap.size;obtain ⟨w1,aF⟩:=xE (w.alloc (.cells #[ae aa t.frame,.slice AP nP cP,.slice AW nW cW,.slice AC nC cC,ae aa t.ay] 46));have H1:=af (show St w w1 [row T 46 (di t.frame AP nP cP AW nW cW AC nC cC t.ay)] by rw [aF,hT];exact (St.nil w).new _ _);have jU:=af (show vY t=(cQ t.frame 1 64&&(cQ t.ay 1 7&&(cQ nP 2 4&&(decide (nW≤8)&&decide (nC≤4))))) by unfold vY;rw [h.lp,h.lw,h.lc]);obtain ⟨fr,ku⟩:=xE t.frame;obtain ⟨tr,jJ⟩:=xE t.ay;rw [←ku,←jJ] at H1 jU aF ⊢;have HF:=af ku;have br:=af aF;have HT:=af hT;clear h aF hT ku jJ;go_enter Tryz.func34,Tryz.ntmps34;go_upto_region 1 with fail;rw [←br.o,←HT.o];have t0:=H1.o.row.1.c0;have t1:=H1.o.row.1.c1;have t2:=H1.o.row.1.c2;have t3:=H1.o.row.1.c3;have t4:=H1.o.row.1.c4;have lT:T < w1.heap.size:=H1.o.row.1.lt;by_cases q0:fr < 1
 ·have HQ:=af (show t.right=false from kH (by rw [jU.o];unfold cQ;simp;omega));go_wp2_with fail;go_ret;exact ⟨aA HQ.o.symm,H1.o.aE⟩
 ·by_cases q1:fr > 64
  ·have HQ:=af (show t.right=false from kH (by rw [jU.o];unfold cQ;simp;omega));go_wp2_with fail;go_ret;exact ⟨aA HQ.o.symm,H1.o.aE⟩
  ·by_cases q2:(nP:Int) < 2
   ·have HQ:=af (show t.right=false from kH (by rw [jU.o];unfold cQ;simp;omega));go_wp2_with fail;go_ret;exact ⟨aA HQ.o.symm,H1.o.aE⟩
   ·by_cases q3:(nP:Int) > 4
    ·have HQ:=af (show t.right=false from kH (by rw [jU.o];unfold cQ;simp;omega));go_wp2_with fail;go_ret;exact ⟨aA HQ.o.symm,H1.o.aE⟩
    ·by_cases q4:tr < 1
     ·have HQ:=af (show t.right=false from kH (by rw [jU.o];unfold cQ;simp;omega));go_wp2_with fail;go_ret;exact ⟨aA HQ.o.symm,H1.o.aE⟩
     ·by_cases q5:tr > 7
      ·have HQ:=af (show t.right=false from kH (by rw [jU.o];unfold cQ;simp;omega));go_wp2_with fail;go_ret;exact ⟨aA HQ.o.symm,H1.o.aE⟩
      ·by_cases q6:(nW:Int) > 8
       ·have HQ:=af (show t.right=false from kH (by rw [jU.o];unfold cQ;simp;omega));go_wp2_with fail;go_ret;exact ⟨aA HQ.o.symm,H1.o.aE⟩
       ·by_cases q7:(nC:Int) > 4
        ·have HQ:=af (show t.right=false from kH (by rw [jU.o];unfold cQ;simp;omega));go_wp2_with fail;go_ret;exact ⟨aA HQ.o.symm,H1.o.aE⟩
        ·have HSQ:=af (show vY t=true by rw [jU.o];unfold cQ;simp;omega);clear jU;obtain ⟨f,hf⟩:∃f:Nat,(f:Int)=fr:=⟨fr.toNat,by omega⟩
         have hf1:1≤f:=by omega
         have ad7:f≤64:=by omega
         have Lj:nP≤4:=by omega
         have hnw:nW≤8:=by omega
         have xL:nC≤4:=by omega
         have Ua:=af hf;clear hf;go_upto_region 4 with fail;clear t0 t1 t2 t3 t4 lT;go_wp2_with fail;go_loopw [4] (fun i wr=>∃k:Nat,k≤nP∧i=ae aa k∧((t.parts.take k).any fun x=>!x.part)=false∧St w wr [row T 46 (di fr AP nP cP AW nW cW AC nC cC tr)]) (fun i _=>nP-(intOf i).toNat)
         case atStart=>exact ⟨0,by omega,rfl,by simp,H1.o⟩
         case round =>
          obtain ⟨k,hk,rfl,jS,ak⟩:=hrel;have bH:=af ak;have lL:=af jS;clear ak jS H1;have t0:=bH.o.row.1.c0;have t1:=bH.o.row.1.c1;have lT:T < wr.heap.size:=bH.o.row.1.lt;by_cases aH:k < nP
          ·have df:(k:Int) < (nP:Int):=by omega
           have mM:(0:Int)≤(k:Int):=by omega
           have iG:k < t.parts.length:=by rw [←HV.o.lp];exact aH
           obtain ⟨b,off,rfl,lb,c0,c1,c2⟩:=jE (HV.o.over bH.o.aE).ps HV.o.lp iG;have cK:=af (fun h=>Ff iG h);have jh:=af (fun (h:t.parts[k].part=true)=>xX (p:=fun x=>!x.part) lL.o iG (by simp [h]));have im:=af (show t.parts[k].part=(cQ t.parts[k].a 1 16&&(cQ t.parts[k].b 1 32&&cQ t.parts[k].c 0 65535)) from rfl);generalize t.parts[k]=x at c0 c1 c2 cK jh im;obtain ⟨xa,xb,xc⟩:=x;dsimp only at c0 c1 c2 im;go_upto_region 8 with fail;obtain ⟨Z,hZ⟩:=xE wr.heap.size;obtain ⟨w2,eh⟩:=xE (wr.alloc (.cells #[ae aa xa,ae aa xb,ae aa xc] 147));have H2:=af (show St w w2 [row Z 147 [ae aa xa,ae aa xb,ae aa xc],row T 46 (di fr (some ⟨b,off,none⟩) nP cP AW nW cW AC nC cC tr)] by rw [eh,hZ];exact bH.o.new _ _);have jf:=af eh;have HZ:=af hZ;clear eh hZ c0 c1 c2 lb t0 t1 lT;rw [←jf.o,←HZ.o];have z0:=H2.o.row.1.c0;have z1:=H2.o.row.1.c1;have z2:=H2.o.row.1.c2;have lz:Z < w2.heap.size:=H2.o.row.1.lt;by_cases q0:xa < 1
           ·have HQ:=af (cK.o (by rw [im.o];unfold cQ;simp;omega));clear im cK jh;go_wp2_with fail;go_ret;exact ⟨aA HQ.o.symm,H2.o.aE⟩
           ·by_cases q1:xa > 16
            ·have HQ:=af (cK.o (by rw [im.o];unfold cQ;simp;omega));clear im cK jh;go_wp2_with fail;go_ret;exact ⟨aA HQ.o.symm,H2.o.aE⟩
            ·by_cases q2:xb < 1
             ·have HQ:=af (cK.o (by rw [im.o];unfold cQ;simp;omega));clear im cK jh;go_wp2_with fail;go_ret;exact ⟨aA HQ.o.symm,H2.o.aE⟩
             ·by_cases q3:xb > 32
              ·have HQ:=af (cK.o (by rw [im.o];unfold cQ;simp;omega));clear im cK jh;go_wp2_with fail;go_ret;exact ⟨aA HQ.o.symm,H2.o.aE⟩
              ·by_cases q4:xc < 0
               ·have HQ:=af (cK.o (by rw [im.o];unfold cQ;simp;omega));clear im cK jh;go_wp2_with fail;go_ret;exact ⟨aA HQ.o.symm,H2.o.aE⟩
               ·by_cases q5:xc > 65535
                ·have HQ:=af (cK.o (by rw [im.o];unfold cQ;simp;omega));clear im cK jh;go_wp2_with fail;go_ret;exact ⟨aA HQ.o.symm,H2.o.aE⟩
                ·have HQ:=af (jh.o (by rw [im.o];unfold cQ;simp;omega));clear im cK jh;have H3:=af H2.o.drop;go_wp2_with fail;go_roundw;case rel=>exact ⟨k+1,by omega,by go_num,HQ.o,H3.o⟩
                 case measure=>simp [intOf]<;>omega
          ·have lv:k=nP:=by omega
           have df:¬(k:Int) < (nP:Int):=by omega
           have sP:=af (show (t.parts.any fun x=>!x.part)=false by
            have h:=lL.o;rw [List.take_of_length_le (by rw [←HV.o.lp];omega)] at h
            exact h)
           clear lv lL;go_upto_region 10 with fail;clear t0 t1 lT aH df;have t0:wr.cell? ⟨T,0,none⟩=some (ae aa (f:Int)):=by rw [Ua.o];exact bH.o.row.1.cell 0
           have lT:T < wr.heap.size:=bH.o.row.1.lt;have qB:=Px f (by omega) wr;go_upto_region 11 with fail;obtain ⟨G,hG⟩:=xE wr.heap.size;obtain ⟨w5,eD⟩:=xE (wr.alloc (.cells (Ga (List.replicate f false)) 4))
           have H5:=af (show St w w5 [row G 4 ((List.replicate f false).map Value.bool),row T 46 (di fr AP nP cP AW nW cW AC nC cC tr)] by
            rw [eD,hG];have h:=bH.o.new 4 (Ga (List.replicate f false))
            exact h)
           have sO:=af eD;have HG:=af hG;clear eD hG qB t0 lT;rw [←sO.o,←HG.o];clear bH;go_wp2_with fail;go_loopw [7,8,9] (fun s7 s8 i wr=>∃(k:Nat) (e:Int) (je:Bool) (last:Int) (U:List Bool),k≤nW∧i=ae aa k∧s7=ae aa last∧s8=.bool je∧WI t k e je∧UI U f last e∧St w wr [row G 4 (U.map Value.bool),row T 46 (di fr AP nP cP AW nW cW AC nC cC tr)]) (fun _ _ i _=>nW-(intOf i).toNat)
           case atStart=>exact ⟨0,0,false,-1,List.replicate f false,by omega,rfl,rfl,rfl,WI.start t,UI.start f,H5.o⟩
           case round =>
            obtain ⟨k,e,je,last,U,hk,rfl,rfl,rfl,yS,hui,ak⟩:=hrel;have bH:=af ak;have zo:=af yS;have Jw:=af hui;have Oc:=yS.e0;have SP:=yS.e1;have hle:=hui.le;clear ak yS hui H5;have t0:=(bH.o.pick 1 rfl).row.1.c0;have t2:=(bH.o.pick 1 rfl).row.1.c2;have lT:T < wr.heap.size:=(bH.o.pick 1 rfl).row.1.lt;by_cases aH:k < nW
            ·have df:(k:Int) < (nW:Int):=by omega
             have mM:(0:Int)≤(k:Int):=by omega
             have iG:k < t.aJ.length:=by rw [←HV.o.lw];exact aH
             obtain ⟨b,off,rfl,lb,c0,c1,c2⟩:=jE (HV.o.over bH.o.aE).ws HV.o.lw iG;have cK:=af (fun h=>Rt (zo.o.bad iG h));have jh:=af (fun h=>zo.o.go iG h (by rw [←HF.o];exact q1));have fb:=af (show ma t.parts.length t.frame e t.aJ[k]=(cQ t.aJ[k].a 0 ((nP:Int)-1)&&(decide (e≤t.aJ[k].b)&&(decide (t.aJ[k].b≤fr)&&(decide (1≤t.aJ[k].c)&&decide (t.aJ[k].c≤fr-t.aJ[k].b))))) by rw [HF.o,HV.o.lp];rfl);generalize t.aJ[k]=x at c0 c1 c2 cK jh fb;obtain ⟨xa,xb,xc⟩:=x;dsimp only at c0 c1 c2 fb;go_upto_region 17 with fail;obtain ⟨Z,hZ⟩:=xE wr.heap.size;obtain ⟨w2,eh⟩:=xE (wr.alloc (.cells #[ae aa xa,ae aa xb,ae aa xc] 150));have H2:=af (show St w w2 [row G 4 (U.map Value.bool),row Z 150 [ae aa xa,ae aa xb,ae aa xc],row T 46 (di fr AP nP cP (some ⟨b,off,none⟩) nW cW AC nC cC tr)] by rw [eh,hZ];exact (bH.o.new 150 #[ae aa xa,ae aa xb,ae aa xc]).swap);have jf:=af eh;have HZ:=af hZ;clear eh hZ c0 c1 c2 lb t0 t2 lT;rw [←jf.o,←HZ.o];have t0:=(H2.o.pick 2 rfl).row.1.c0;have lT:T < w2.heap.size:=(H2.o.pick 2 rfl).row.1.lt;have z0:=(H2.o.pick 1 rfl).row.1.c0;have z1:=(H2.o.pick 1 rfl).row.1.c1;have z2:=(H2.o.pick 1 rfl).row.1.c2;have lz:Z < w2.heap.size:=(H2.o.pick 1 rfl).row.1.lt;by_cases p0:xa < 0
             ·have HQ:=af (cK.o (by rw [fb.o];unfold cQ;simp;omega));clear fb cK jh;go_wp2_with fail;go_ret;exact ⟨aA HQ.o.symm,H2.o.aE⟩
             ·by_cases p1:xa≥(nP:Int)
              ·have HQ:=af (cK.o (by rw [fb.o];unfold cQ;simp;omega));clear fb cK jh;go_wp2_with fail;go_ret;exact ⟨aA HQ.o.symm,H2.o.aE⟩
              ·by_cases p2:xb < 0
               ·have HQ:=af (cK.o (by rw [fb.o];unfold cQ;simp;omega));clear fb cK jh;go_wp2_with fail;go_ret;exact ⟨aA HQ.o.symm,H2.o.aE⟩
               ·by_cases p3:xb≥fr
                ·have HQ:=af (cK.o (by rw [fb.o];unfold cQ;simp;omega));clear fb cK jh;go_wp2_with fail;go_ret;exact ⟨aA HQ.o.symm,H2.o.aE⟩
                ·by_cases p4:xc < 1
                 ·have HQ:=af (cK.o (by rw [fb.o];unfold cQ;simp;omega));clear fb cK jh;go_wp2_with fail;go_ret;exact ⟨aA HQ.o.symm,H2.o.aE⟩
                 ·by_cases p5:xc > 64
                  ·have HQ:=af (cK.o (by rw [fb.o];unfold cQ;simp;omega));clear fb cK jh;go_wp2_with fail;go_ret;exact ⟨aA HQ.o.symm,H2.o.aE⟩
                  ·by_cases p6:xb+xc > fr
                   ·have HQ:=af (cK.o (by rw [fb.o];unfold cQ;simp;omega));clear fb cK jh;go_wp2_with fail;go_ret;exact ⟨aA HQ.o.symm,H2.o.aE⟩
                   ·by_cases p7:xb≤last
                    ·have HQ:=af (cK.o (by rw [fb.o];unfold cQ;simp;omega));clear fb cK jh;go_wp2_with fail;go_ret;exact ⟨aA HQ.o.symm,H2.o.aE⟩
                    ·skip
                     obtain ⟨B,hB⟩:∃B:Nat,(B:Int)=xb:=⟨xb.toNat,by omega⟩
                     obtain ⟨C,hC⟩:∃C:Nat,(C:Int)=xb+xc:=⟨(xb+xc).toNat,by omega⟩
                     have hBf:B < f:=by have:=Ua.o;omega
                     have aeb:(B:Int) < (f:Int):=by omega
                     have hB0:(0:Int)≤(B:Int):=by omega
                     by_cases hbe:xb < e
                     ·have HQ:=af (cK.o (by rw [fb.o];simp;omega));have hBU:B < U.length:=by rw [Jw.o.len];exact hBf
                      have gB:w2.cell? ⟨G,B,none⟩=some (.bool true):=by
                       have h1:w2.cell? ⟨G,B,none⟩=(U.map Value.bool)[B]?:=H2.o.row.1.cell B;rw [h1,List.getElem?_map,cN hBU,Jw.o.used B hBU (by omega) (by omega)];rfl
                      have lG:G < w2.heap.size:=H2.o.row.1.lt;have acB:xb < xb+xc:=by omega
                      have HB:=af hB;clear fb cK jh hB hC;go_upto_region 20 with fail;go_loopw [11] (fun s wr=>s=ae aa xb∧wr=w2) (fun _ _=>0)
                      case atStart=>exact ⟨rfl,rfl⟩
                      case round =>
                       obtain ⟨rfl,hw⟩:=hrel;rw [hw,←HB.o];rw [←HB.o] at z1 acB;clear hw;go_wp2_with fail;go_ret;exact ⟨aA HQ.o.symm,H2.o.aE⟩
                     ·have HWO:=af (show ma t.parts.length t.frame e ⟨xa,xb,xc⟩=true by rw [fb.o];unfold cQ;simp;omega);have WK:=af (jh.o HWO.o);have HUJ:=af (UJ.start Jw.o (b:=B) (by omega));have hBC:B < C:=by omega
                      have hCf:C≤f:=by have:=Ua.o;omega
                      have aea:C≤64:=by omega
                      have HB:=af hB;have HC:=af hC;clear fb cK jh HWO hB hC;go_upto_region 20 with fail;rw [←HB.o];go_loopw [11] (fun s wr=>∃(j:Nat) (V:List Bool),B≤j∧j≤C∧s=ae aa j∧UJ V f B j∧St w wr [row G 4 (V.map Value.bool),row Z 150 [ae aa xa,ae aa xb,ae aa xc],row T 46 (di fr AP nP cP (some ⟨b,off,none⟩) nW cW AC nC cC tr)]) (fun s _=>C-(intOf s).toNat)
                      case atStart=>exact ⟨B,U,by omega,by omega,rfl,HUJ.o,H2.o⟩
                      case round =>
                       obtain ⟨j,V,hBj,hjC,rfl,huj,ak⟩:=hrel;have HJ:=af huj;have Gd:=af ak;clear huj ak H2 HUJ t0 lT z0 z1 z2 lz;have z0:=(Gd.o.pick 1 rfl).row.1.c0;have z1:=(Gd.o.pick 1 rfl).row.1.c1;have z2:=(Gd.o.pick 1 rfl).row.1.c2;have lz:Z < wr.heap.size:=(Gd.o.pick 1 rfl).row.1.lt;have hCC:xb+xc=(C:Int):=HC.o.symm;by_cases jz:j < C
                       ·have acH:(j:Int) < (C:Int):=by omega
                        have hj0:(0:Int)≤(j:Int):=by omega
                        have hjf:(j:Int) < (f:Int):=by omega
                        have aaD:j < f:=by omega
                        have hjV:j < V.length:=by rw [HJ.o.len];exact aaD
                        have gj:wr.cell? ⟨G,j,none⟩=some (.bool false):=by
                         have h1:wr.cell? ⟨G,j,none⟩=(V.map Value.bool)[j]?:=Gd.o.row.1.cell j;rw [h1,List.getElem?_map,cN hjV,HJ.o.free j hjV (Nat.le_refl _)];rfl
                        have fj:=Gd.o.row.1.frozen j;have lG:G < wr.heap.size:=Gd.o.row.1.lt
                        have H6:=af (show St w (wr.setCell ⟨G,j,none⟩ (.bool true)) (row G 4 ((V.set j true).map Value.bool)::_) by
                         rw [List.map_set]
                         exact Gd.o.set j (.bool true))
                        have HJ2:=af (HJ.o.step aaD);go_wp2_with fail;go_roundw;case rel=>exact ⟨j+1,V.set j true,by omega,by omega,by go_num,HJ2.o,H6.o⟩
                        case measure=>simp [intOf]<;>omega
                       ·have aaE:j=C:=by omega
                        have acH:¬(j:Int) < (C:Int):=by omega
                        have HU2:=af (show UI V f xb (xb+xc) by
                         have h:=HJ.o;rw [aaE] at h;have h2:=h.end_ hBC;rw [HB.o,HC.o] at h2
                         exact h2)
                        have H7:=af ((Gd.o.pick 1 rfl).drop);clear aaE HJ;cases je
                        ·cases It:(xa==0)
                         ·have dK:=af (show WI t (k+1) (xb+xc) false by have h:=WK.o;simp only [It] at h;exact h);go_wp2_with fail;go_roundw;case rel=>exact ⟨k+1,xb+xc,false,xb,V,by omega,by go_num,rfl,rfl,dK.o,HU2.o,H7.o⟩
                          case measure=>simp [intOf]<;>omega
                         ·have dK:=af (show WI t (k+1) (xb+xc) true by have h:=WK.o;simp only [It] at h;exact h);go_wp2_with fail;go_roundw;case rel=>exact ⟨k+1,xb+xc,true,xb,V,by omega,by go_num,rfl,rfl,dK.o,HU2.o,H7.o⟩
                          case measure=>simp [intOf]<;>omega
                        ·have dK:=af (show WI t (k+1) (xb+xc) true by have h:=WK.o;simp only [Bool.true_or] at h;exact h);go_wp2_with fail;go_roundw;case rel=>exact ⟨k+1,xb+xc,true,xb,V,by omega,by go_num,rfl,rfl,dK.o,HU2.o,H7.o⟩
                         case measure=>simp [intOf]<;>omega
            ·have lv:k=nW:=by omega
             have df:¬(k:Int) < (nW:Int):=by omega
             have HWE:=af (show WI t t.aJ.length e je by rw [←HV.o.lw,←lv];exact zo.o);have H8:=af bH.o.drop;clear lv zo Jw hle;go_upto_region 28 with fail;clear t0 t2 lT aH df bH;go_loopw [12] (fun i wr=>∃k:Nat,k≤nC∧i=ae aa k∧((t.av.take k).any fun x=>!jB t.parts.length x)=false∧St w wr [row T 46 (di fr AP nP cP AW nW cW AC nC cC tr)]) (fun i _=>nC-(intOf i).toNat)
             case atStart=>exact ⟨0,by omega,rfl,by simp,H8.o⟩
             case round =>
             obtain ⟨k,hk,rfl,jS,ak⟩:=hrel;have bH:=af ak;have lL:=af jS;clear ak jS H8;have t3:=bH.o.row.1.c3;have lT:T < wr.heap.size:=bH.o.row.1.lt;by_cases aH:k < nC
             ·have df:(k:Int) < (nC:Int):=by omega
              have mM:(0:Int)≤(k:Int):=by omega
              have iG:k < t.av.length:=by rw [←HV.o.lc];exact aH
              obtain ⟨b,off,rfl,lb,c0,c1,c2⟩:=jE (HV.o.over bH.o.aE).cs HV.o.lc iG;have cK:=af (fun h=>Ph iG h);have jh:=af (fun (h:jB t.parts.length t.av[k]=true)=>xX (p:=fun x=>!jB t.parts.length x) lL.o iG (by simp [h]));have im:=af (show jB t.parts.length t.av[k]=(cQ t.av[k].a 0 ((nP:Int)-1)&&(cQ t.av[k].b 0 ((nP:Int)-1)&&(!(t.av[k].a==t.av[k].b)&&cQ t.av[k].c 0 4))) by rw [HV.o.lp];rfl);generalize t.av[k]=x at c0 c1 c2 cK jh im;obtain ⟨xa,xb,xc⟩:=x;dsimp only at c0 c1 c2 im;go_upto_region 31 with fail;obtain ⟨Z,hZ⟩:=xE wr.heap.size;obtain ⟨w2,eh⟩:=xE (wr.alloc (.cells #[ae aa xa,ae aa xb,ae aa xc] 152));have H2:=af (show St w w2 [row Z 152 [ae aa xa,ae aa xb,ae aa xc],row T 46 (di fr AP nP cP AW nW cW (some ⟨b,off,none⟩) nC cC tr)] by rw [eh,hZ];exact bH.o.new _ _);have jf:=af eh;have HZ:=af hZ;clear eh hZ c0 c1 c2 lb t3 lT;rw [←jf.o,←HZ.o];have z0:=H2.o.row.1.c0;have z1:=H2.o.row.1.c1;have z2:=H2.o.row.1.c2;have lz:Z < w2.heap.size:=H2.o.row.1.lt;by_cases p0:xa < 0
              ·have HQ:=af (cK.o (by rw [im.o];unfold cQ;simp;omega));clear im cK jh;go_wp2_with fail;go_ret;exact ⟨aA HQ.o.symm,H2.o.aE⟩
              ·by_cases p1:xa≥(nP:Int)
               ·have HQ:=af (cK.o (by rw [im.o];unfold cQ;simp;omega));clear im cK jh;go_wp2_with fail;go_ret;exact ⟨aA HQ.o.symm,H2.o.aE⟩
               ·by_cases p2:xb < 0
                ·have HQ:=af (cK.o (by rw [im.o];unfold cQ;simp;omega));clear im cK jh;go_wp2_with fail;go_ret;exact ⟨aA HQ.o.symm,H2.o.aE⟩
                ·by_cases p3:xb≥(nP:Int)
                 ·have HQ:=af (cK.o (by rw [im.o];unfold cQ;simp;omega));clear im cK jh;go_wp2_with fail;go_ret;exact ⟨aA HQ.o.symm,H2.o.aE⟩
                 ·skip
                  by_cases Of:xa=xb
                  ·have b1:(xa==xb)=true:=by simpa using Of
                   have HQ:=af (cK.o (by rw [im.o,b1];simp));clear im cK jh Of;go_wp2_with fail;go_ret;exact ⟨aA HQ.o.symm,H2.o.aE⟩
                  ·have b1:(xa==xb)=false:=by simpa using Of
                   rw [b1] at im;clear Of;by_cases p5:xc < 0
                   ·have HQ:=af (cK.o (by rw [im.o];unfold cQ;simp;omega));clear im cK jh;go_wp2_with fail;go_ret;exact ⟨aA HQ.o.symm,H2.o.aE⟩
                   ·by_cases p6:xc > 4
                    ·have HQ:=af (cK.o (by rw [im.o];unfold cQ;simp;omega));clear im cK jh;go_wp2_with fail;go_ret;exact ⟨aA HQ.o.symm,H2.o.aE⟩
                    ·have HQ:=af (jh.o (by rw [im.o];unfold cQ;simp;omega));clear im cK jh;have H3:=af H2.o.drop;go_wp2_with fail;go_roundw;case rel=>exact ⟨k+1,by omega,by go_num,HQ.o,H3.o⟩
                     case measure=>simp [intOf]<;>omega
             ·have lv:k=nC:=by omega
              have df:¬(k:Int) < (nC:Int):=by omega
              have HR:=af (show t.right=je from Rv HSQ.o sP.o HWE.o (by
               have h:=lL.o;rw [List.take_of_length_le (by rw [←HV.o.lc];omega)] at h
               exact h))
              clear lv lL;go_wp2_with fail;go_ret;exact ⟨aA HR.o.symm,bH.o.aE⟩
end
end
end bN
end Go.Proofs.YtdldkkoplgkloaaGreat
