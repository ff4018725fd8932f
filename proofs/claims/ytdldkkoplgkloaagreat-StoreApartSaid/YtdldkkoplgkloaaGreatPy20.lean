/-
  PROVED HERE: lemmas that the law leans on.
  CONDITIONS: each names its own.
-/
import Derived.LoopIn
import Derived.LoopNIn
import Derived.Maps.AppendAt
import Derived.OrdersIn
import Derived.OwnWalkIn
import Derived.RangeFuncBound
import Derived.RangeFuncCalls
import Derived.RangeFuncLeaves
import Derived.RangeFuncNested
import Derived.Shelf.Abstract
import Derived.Shelf.RegionOpen
import Derived.StillTailTactics
import Derived.TacticsInMore
import Derived.Test.YtdldkkoplgkloaaGreatPy0
import Derived.Test.YtdldkkoplgkloaaGreatPy19
namespace Go.Proofs.YtdldkkoplgkloaaGreat
set_option linter.unusedVariables false
set_option linter.unusedSimpArgs false
set_option maxRecDepth 100000
set_option maxHeartbeats 32000000
namespace bits

open Go.RowKit Go.Shelf base
attribute [local go_sem] Oper.semAt_some
def dw (n:Int):Nat:=(min (max n 0) 16).toNat
theorem J0 (n:Int):dw n≤16:=by unfold dw;omega
theorem TK (n:Int) (w:World):Calls Tryz.prog 180 #[.int .i64 n] w fun e w'=>e=.returned (.int .i64 (dw n))∧w=w':=by
 by_cases h0:n < 0
 ·have e:dw n=0:=by unfold dw;omega
  rw [e];clear e;go_enter Tryz.func180,Tryz.ntmps180
  go_wp2
  go_ret;exact ⟨by first|rfl|(show Ending.returned (Value.int .i64 (min (max n 0) 16))=_;first|(rw [show min (max n 0) 16=(0:Int) by omega]<;>rfl)|(rw [show min (max n 0) 16=(16:Int) by omega]<;>rfl))|(show Ending.returned (Value.int .i64 (min (k:Int) 16))=_;rw [show min (k:Int) 16=(k:Int) by omega]),rfl⟩
 ·by_cases h1:n≤16
  ·obtain ⟨k,rfl⟩:=Int.eq_ofNat_of_zero_le (show 0≤n by omega);have e:dw (k:Int)=k:=by unfold dw;omega
   rw [e];clear e h0;go_enter Tryz.func180,Tryz.ntmps180
   go_wp2
   go_ret;exact ⟨by first|rfl|(show Ending.returned (Value.int .i64 (min (max n 0) 16))=_;first|(rw [show min (max n 0) 16=(0:Int) by omega]<;>rfl)|(rw [show min (max n 0) 16=(16:Int) by omega]<;>rfl))|(show Ending.returned (Value.int .i64 (min (k:Int) 16))=_;rw [show min (k:Int) 16=(k:Int) by omega]),rfl⟩
  ·have e:dw n=16:=by unfold dw;omega
   rw [e];clear e;have h2:0≤n:=by omega
   go_enter Tryz.func180,Tryz.ntmps180
   go_wp2
   go_ret;exact ⟨by first|rfl|(show Ending.returned (Value.int .i64 (min (max n 0) 16))=_;first|(rw [show min (max n 0) 16=(0:Int) by omega]<;>rfl)|(rw [show min (max n 0) 16=(16:Int) by omega]<;>rfl))|(show Ending.returned (Value.int .i64 (min (k:Int) 16))=_;rw [show min (k:Int) 16=(k:Int) by omega]),rfl⟩
theorem J5 (s:Int) (k:Nat) (w:World) (hk:k < 16):Calls Tryz.prog 92 #[.int .i64 s,.int .i64 k] w fun e w'=>e=.returned (.bool (df s k))∧w=w':=by
 have i0:(0:Int)≤k:=by omega
 have i1:(k:Int) < 16:=by omega
 have HB:=aa (Zj s k);go_enter Tryz.func92,Tryz.ntmps92
 go_wp2
 go_ret;exact ⟨aE HB.o,rfl⟩
theorem Sm (k:Nat) (hk:k < 16):wrap64 (2 ^ k)=2 ^ k:=by
 have h1:(0:Int) < 2 ^ k:=Int.pow_pos (by omega)
 have h2:(2:Int) ^ k≤2 ^ 16:=by
  have:2 ^ k≤2 ^ 16:=Nat.pow_le_pow_right (by omega) (by omega)
  exact_mod_cast this
 exact IntWalk.wrap64_in _ ⟨by omega,by omega⟩
theorem VP (s:Int) (k:Nat) (w:World) (hk:k < 16) (hs:B1 s):Calls Tryz.prog 95 #[.int .i64 s,.int .i64 k] w fun e w'=>e=.returned (.int .i64 (mZ s k))∧w=w':=by
 have i0:¬(k:Int) < 0:=by omega
 have i1:¬(16:Int)≤k:=by omega
 have HB:=aa (show Go.bits .or .i64 s (wrap64 (2 ^ k))=mZ s k by rw [Sm k hk];exact X9 s k hk hs);go_enter Tryz.func95,Tryz.ntmps95
 go_wp2
 go_ret;exact ⟨bt HB.o,rfl⟩
def elems (s:Int) (m:Nat):List (Int×Bool):=(List.range m).map fun i:Nat=>((i:Int),df s i)
theorem GU (s:Int) (m:Nat):(elems s m).length=m:=by simp [elems]
theorem EI (s:Int) (m k:Nat) (h:k < m):(elems s m).take (k+1)=(elems s m).take k++[((k:Int),df s k)]:=by
 rw [jz (by simpa [elems] using h)];simp [elems]
def wH (a b:Nat) (W W':World):Prop:=W'.heap[a]?=W.heap[a]?∧W'.heap[b]?=W.heap[b]?
theorem wH.t {a b:Nat} {A B C:World} (h:wH a b A B) (k:wH a b B C):wH a b A C:=⟨k.1.trans h.1,k.2.trans h.2⟩
theorem wH.b {a b:Nat} {w:World} (ha:a < w.heap.size) (hb:b < w.heap.size) (W:World) (l:Nat) (o o':Obj) (hl:w.heap.size≤l) (h:W.heap[l]?=some o) (_:o.isCells=false) (_:o.isWalk=false):wH a b W (W.putObj l o') :=
 ⟨World.putObj_heap_other (by omega),World.putObj_heap_other (by omega)⟩
theorem wH.aak {a b:Nat} {W W':World} (h:wH a b W W') {v:Value} (hc:W.cell? ⟨a,0,none⟩=some v):W'.cell? ⟨a,0,none⟩=some v:=(World.cell?_of_block (a:=⟨a,0,none⟩) h.1).trans hc
theorem wH.ng {a b n₀:Nat} {W W':World} (h:Below n₀ W W') (ha:a < n₀) (hb:b < n₀):wH a b W W':=⟨h.block a ha,h.block b hb⟩
theorem Xh (s n:Int) (w:World):CallsIn Fence.wide 9 Tryz.prog 142 #[.int .i64 s,.int .i64 n] w fun e w' =>
  e=.returned (.func (.func 179) #[] #[.pointer (some ⟨w.heap.size+1,0,none⟩),.pointer (some ⟨w.heap.size,0,none⟩)])∧(w.alloc (.cells #[.int .i64 s] 3)).alloc (.cells #[.int .i64 n] 3)=w':=by
 refine callsIn_wide.2 ?_;go_enter Tryz.func142,Tryz.ntmps142
 go_wp2
 go_ret;exact ⟨rfl,rfl⟩
theorem Uc (l Bs Bn:Nat) (s n:Int) (J Jx:List (Int×Bool)→World→Prop)
  (hY:∀pre x W,J pre W→pre.length < dw n→YieldAt Fence.wide 8 Tryz.prog l #[.int .i64 x.1,.bool x.2] W fun e W' =>
   (e=.returned (.bool true)∧J (pre++[x]) W'∧wH Bs Bn W W')∨(e=.returned (.bool false)∧Jx (pre++[x]) W'))
  (W:World) (cs:W.cell? ⟨Bs,0,none⟩=some (.int .i64 s)) (cn:W.cell? ⟨Bn,0,none⟩=some (.int .i64 n)) (h0:J [] W) :
  CallsIn Fence.wide 9 Tryz.prog 179 #[.func (.yield l) #[] #[],.pointer (some ⟨Bn,0,none⟩),.pointer (some ⟨Bs,0,none⟩)] W fun e W'=>(∃v,e=.returned v)∧
   ((∃ys,ys=elems s (dw n)∧J ys W')∨(∃pre,pre <+: elems s (dw n)∧Jx pre W')):=by
 have hm:=J0 n;refine callsIn_of_wp Tryz.func179 rfl trivial ?_ rfl;simp only [Tryz.ntmps179,List.size_toArray,List.length_cons,List.length_nil,Nat.reduceAdd,Nat.reduceSub,Array.replicate_succ,Array.replicate_zero,List.push_toArray,List.append_toArray,List.nil_append,List.cons_append]
 gi_wp2_with (refine ⟨trivial,?_⟩;gi_at_call 180;refine (callsIn_wide.2 (TK _ _)).mono ?_;rintro e w' ⟨rfl,rfl⟩)
 gi_loopw [7] (fun i wr=>∃k:Nat,k≤dw n∧i=.int .i64 k∧J ((elems s (dw n)).take k) wr∧wr.cell? ⟨Bs,0,none⟩=some (.int .i64 s)) (fun i _=>dw n-(intOf i).toNat)
 case atStart=>exact ⟨0,by omega,rfl,h0,cs⟩
 case round =>
  obtain ⟨k,hk,rfl,hJ,c1⟩:=hrel;by_cases aK:k < dw n
  ·obtain ⟨fn,tmps,assign,body,hy,hR⟩:=hY _ ((k:Int),df s k) wr hJ (by simp [elems];omega);dsimp only at hy;have YS:k < 16:=by omega
   gi_wp2_with (refine ⟨trivial,?_⟩;gi_at_call 92;refine (callsIn_wide.2 (J5 _ _ _ YS)).mono ?_;rintro e w' ⟨rfl,rfl⟩)
   refine hR.mono ?_;rintro e W3 (⟨rfl,hJ3,hk3⟩|⟨rfl,abc⟩)
   ·have c3:=hk3.aak c1
    gi_wp2
    go_roundw;case rel=>exact ⟨k+1,by omega,by go_num,by rw [EI _ _ _ aK];exact hJ3,c3⟩
    case measure=>simp [intOf];omega
   ·gi_wp2
    refine bodyPost_ret (results_none rfl _ _ _) rfl ?_;exact ⟨⟨_,rfl⟩,.inr ⟨(elems s (dw n)).take (k+1),List.take_prefix _ _,by rw [EI _ _ _ aK];exact abc⟩⟩
  ·have hJ':J (elems s (dw n)) wr:=by rwa [List.take_of_length_le (by rw [GU];omega)] at hJ
   have HJ:=aa hJ'
   gi_wp2
   go_end0
   exact ⟨⟨_,rfl⟩,.inl ⟨_,rfl,HJ.o⟩⟩
theorem Ox (s n:Int) (Bs Bn:Nat) (w:World) (hBs:Bs < w.heap.size) (hBn:Bn < w.heap.size) (cs:w.cell? ⟨Bs,0,none⟩=some (.int .i64 s)) (cn:w.cell? ⟨Bn,0,none⟩=some (.int .i64 n)) :
  SeqStopsK Fence.wide 9 Tryz.prog 179 #[.pointer (some ⟨Bn,0,none⟩),.pointer (some ⟨Bs,0,none⟩)] (fun x:Int×Bool=>#[Value.int .i64 x.1,Value.bool x.2]) (wH Bs Bn) (fun ys=>ys=elems s (dw n)) (fun pre=>pre <+: elems s (dw n)) (dw n) w:=fun l J Jx W hW _ _ hY h0 =>
 Uc l Bs Bn s n J Jx hY W ((hW.cell (p:=⟨Bs,0,none⟩) hBs).trans cs) ((hW.cell (p:=⟨Bn,0,none⟩) hBn).trans cn) h0
theorem uo {W W':World} {row:Option Nat} {B:Nat} {t:TypeId} {v:Value} (h:Boxed W B t v) (hg:W.grownBy W' row) (hr:∀r,row=some r→∃o:Obj,W.heap[r]?=some o∧o.isCells=false):Boxed W' B t v :=
 h.kept hg fun e=>by
  obtain ⟨o,ho,hc⟩:=hr B e.symm;have h':W.heap[B]?=_:=h;rw [h'] at ho;cases ho;cases hc
theorem wE {W:World} {B B':Nat} {t:TypeId} {v u:Value} (h:Boxed W B t v) (uY:B≠B'):Boxed (W.setCell ⟨B',0,none⟩ u) B t v:=(Below.heap_setCell _ _ _ _ uY).trans h
def Ic (s n:Int) (w:World) (e:Ending) (w':World):Prop :=
 ((∃(k:Nat),k < dw n∧df s k=false∧(∀j,j < k→df s j=true)∧e=.returned (.tuple #[.int .i64 k,.bool true]))∨
   ((∀j,j < dw n→df s j=true)∧e=.returned (.tuple #[.int .i64 0,.bool false])))∧Below w.heap.size w w'
def IF (l:List (Int×Bool)):Prop:=∀x∈l,x.2=true
theorem LB (s:Int) (m:Nat) (h:IF (elems s m)):∀j,j < m→df s j=true:=by
 intro j hj;exact h ((j:Int),df s j) (by simp only [elems,List.mem_map,List.mem_range];exact ⟨j,hj,rfl⟩)
theorem TY (s:Int) (m:Nat) (pre:List (Int×Bool)) (i:Int) (h:pre++[(i,false)] <+: elems s m) (ha:IF pre):∃k:Nat,k < m∧i=k∧df s k=false∧∀j,j < k→df s j=true:=by
 obtain ⟨t,ht⟩:=h;have hlen:pre.length < m:=by have:=congrArg List.length ht;simp [GU] at this;omega
 have g:∀j:Nat,(elems s m)[j]?=(pre++[(i,false)]++t)[j]?:=fun j=>by rw [ht]
 have gk:=g pre.length;simp [elems,hlen] at gk;refine ⟨pre.length,hlen,gk.1.symm,gk.2,fun j hj=>?_⟩;have gj:=g j;have hjm:j < m:=by omega
 simp only [elems,List.append_assoc] at gj;rw [List.getElem?_append_left hj] at gj;simp [hjm] at gj;have:=ha pre[j] (List.getElem_mem hj);rw [cM hj] at gj;injection gj with gj
 rw [←gj] at this;exact this
theorem TZ (s n:Int) (w:World) :
  CallsIn Fence.wide 10 Tryz.prog 96 #[.int .i64 s,.int .i64 n] w (Ic s n w):=by
 have hm:=J0 n;refine callsIn_of_wp_marks Tryz.func96 rfl trivial ?_ rfl;simp only [Tryz.ntmps96,List.size_toArray,List.length_cons,List.length_nil,Nat.reduceAdd,Nat.reduceSub,Array.replicate_succ,Array.replicate_zero,List.push_toArray,List.append_toArray,List.nil_append,List.cons_append]
 gi_wp2_with (refine ⟨trivial,?_⟩;gi_at_call 142;refine (Xh _ _ _).mono ?_;rintro e w' ⟨rfl,rfl⟩)
 obtain ⟨W0,J7⟩:∃W0:World,(((w.alloc (.cells #[.int .i64 0] 3)).alloc (.cells #[.bool false] 4)).alloc (.cells #[.int .i64 s] 3)).alloc (.cells #[.int .i64 n] 3)=W0:=⟨_,rfl⟩
 have iu:W0.heap.size=w.heap.size+4:=by rw [←J7];simp
 have b0:=Boxed.new w 3 (.int .i64 0);have b1:=Boxed.new (w.alloc (.cells #[.int .i64 0] 3)) 4 (.bool false);have b2:=Boxed.new ((w.alloc (.cells #[.int .i64 0] 3)).alloc (.cells #[.bool false] 4)) 3 (.int .i64 s);have b3:=Boxed.new (((w.alloc (.cells #[.int .i64 0] 3)).alloc (.cells #[.bool false] 4)).alloc (.cells #[.int .i64 s] 3)) 3 (.int .i64 n);simp only [World.size_alloc] at b1 b2 b3;have bA:Boxed W0 w.heap.size 3 (.int .i64 0):=by rw [←J7];exact ((b0.alloc _).alloc _).alloc _
 have bB:Boxed W0 (w.heap.size+1) 4 (.bool false):=by rw [←J7];exact (b1.alloc _).alloc _
 have cs:W0.cell? ⟨w.heap.size+1+1,0,none⟩=some (.int .i64 s):=by rw [←J7];exact (b2.alloc _).cell
 have cn:W0.cell? ⟨w.heap.size+1+1+1,0,none⟩=some (.int .i64 n):=by rw [←J7];exact b3.cell
 have hB0:Below w.heap.size w W0:=by rw [←J7];exact ((((Below.refl _ w).alloc (Nat.le_refl _) _).alloc (by simp) _).alloc (by simp;omega) _).alloc (by simp;omega) _
 rw [J7]
 refine wpIn_rangeFunc_ownG rfl (by omega) (gf:=179) (lb:=#[.pointer (some ⟨w.heap.size+1+1+1,0,none⟩),.pointer (some ⟨w.heap.size+1+1,0,none⟩)]) rfl trivial (enters_of Tryz.func179 (by kernel_rfl) rfl)
  (Ox s n (w.heap.size+1+1) (w.heap.size+1+1+1) W0 (by omega) (by omega) cs cn) wH.t (wH.b (by omega) (by omega)) (Below.refl _ _) (fun _=>rfl)
  (fun pre W=>(Boxed W w.heap.size 3 (.int .i64 0)∧Boxed W (w.heap.size+1) 4 (.bool false))∧Below w.heap.size w W∧IF pre)
  (fun c pre W=>(∃q i,c=.ret∧pre=q++[(i,false)]∧IF q∧Boxed W w.heap.size 3 (.int .i64 i)∧Boxed W (w.heap.size+1) 4 (.bool true))∧Below w.heap.size w W)
  (OwnFrom.and (Own.from (fun s A B row hs hg hr=>⟨uo hs.1 hg hr,uo hs.2 hg hr⟩) _) (OwnFrom.and (ownFrom_below (Nat.le_refl _) (by omega)) (fun _ _ _ _ hs _ _=>hs)))
  (fun c=>OwnFrom.and (Own.from (fun s A B row hs hg hr=>by obtain ⟨q,i,h1,h2,h3,h4,h5⟩:=hs;exact ⟨q,i,h1,h2,h3,uo h4 hg hr,uo h5 hg hr⟩) _) (ownFrom_below (Nat.le_refl _) (by omega)))
  ⟨⟨bA,bB⟩,hB0,by intro x hx;cases hx⟩
  (fun x=>{ tmps:=#[.int .i64 s,.int .i64 n,undef,undef,.pointer (some ⟨w.heap.size,0,none⟩),.pointer (some ⟨w.heap.size+1,0,none⟩),.int .i64 x.1,.bool x.2,.int .i64 s,.int .i64 n,.func (.func 179) #[] #[.pointer (some ⟨w.heap.size+1+1+1,0,none⟩),.pointer (some ⟨w.heap.size+1+1,0,none⟩)],.int .i64 x.1,.bool x.2,undef,undef,undef],defers:=[] }) ?assign ?body ?done ?stop
 case assign =>
  intro l x W K hK
  gi_wp2
  exact hK
 case body =>
  rintro l pre ⟨i,b⟩ W ⟨⟨hA,Cw⟩,hB,cN⟩ aK;have mf:=aa cN;have cA:=hA.cell;have fA:=hA.frozen;have cB:=Cw.cell;have fB:=Cw.frozen;clear cN;cases b
  ·gi_wp2
   refine ⟨((KeepsOthers.setCell _ _ _).trans (KeepsOthers.setCell _ _ _)).from _,⟨pre,i,rfl,rfl,mf.o,wE (hA.set _) (by omega),(wE Cw (by omega)).set _⟩,?_⟩;exact (hB.setCell (p:=⟨w.heap.size,0,none⟩) (Nat.le_refl _) _).setCell (p:=⟨w.heap.size+1,0,none⟩) (by simp) _
  ·gi_wp2
   exact ⟨KeepsFrom.refl _ _,⟨rfl,rfl⟩,⟨hA,Cw⟩,hB,by intro x hx;rcases List.mem_append.1 hx with h|h;exact mf.o x h;simp at h;subst h;rfl⟩
 case done =>
  rintro D ys W hD rfl ⟨⟨hA,Cw⟩,hB,cN⟩ hK;have mf:=aa cN;have cA:=hA.cell;have fA:=hA.frozen;have cB:=Cw.cell;have fB:=Cw.frozen;clear cN
  gi_wp2
  have EC:((W.setCell ⟨w.heap.size,0,none⟩ (.int .i64 0)).setCell ⟨w.heap.size+1,0,none⟩ (.bool false)).heap[D]?=some (.deferred (some [])):=by
   rw [Below.heap_setCell _ _ _ _ (by show D≠w.heap.size+1;omega),Below.heap_setCell _ _ _ _ (by show D≠w.heap.size;omega)];exact hK
  have hB2:Below w.heap.size w ((W.setCell ⟨w.heap.size,0,none⟩ (.int .i64 0)).setCell ⟨w.heap.size+1,0,none⟩ (.bool false)):=(hB.setCell (p:=⟨w.heap.size,0,none⟩) (Nat.le_refl _) _).setCell (p:=⟨w.heap.size+1,0,none⟩) (by simp) _;have Q1:=wE (B':=w.heap.size+1) (u:=.bool false) (hA.set (.int .i64 0)) (by omega);have abd:=(wE (B':=w.heap.size) (u:=.int .i64 0) Cw (by omega)).set (.bool false);generalize (W.setCell ⟨w.heap.size,0,none⟩ (.int .i64 0)).setCell ⟨w.heap.size+1,0,none⟩ (.bool false)=W2 at *;refine ⟨by simp,.inl ⟨_,_,rfl,run_takeDeferred EC,?_⟩⟩;have g1:(W2.putObj D (.deferred none)).cell? ⟨w.heap.size,0,none⟩=some (.int .i64 0):=(World.cell?_of_block (a:=⟨w.heap.size,0,none⟩) (World.putObj_heap_other (by show w.heap.size≠D;omega))).trans Q1.cell;have g2:(W2.putObj D (.deferred none)).cell? ⟨w.heap.size+1,0,none⟩=some (.bool false):=(World.cell?_of_block (a:=⟨w.heap.size+1,0,none⟩) (World.putObj_heap_other (by show w.heap.size+1≠D;omega))).trans abd.cell;refine ⟨.tuple #[.int .i64 0,.bool false],by simp [results,Tryz.results96,go_sem,g1,g2],.inr ⟨LB _ _ mf.o,rfl⟩,hB2.trans (belowK_b (w:=w) (Nat.le_refl _) W2 D _ _ (by omega) EC rfl rfl)⟩
 case stop =>
  rintro D c pre W hD aaO ⟨⟨q,i,rfl,rfl,cN,hA,Cw⟩,hB⟩ hK;obtain ⟨k,hk,rfl,hb,hj⟩:=TY s (dw n) q i aaO cN;have HB:=aa hb;have HJ:=aa hj;have cA:=hA.cell;have cB:=Cw.cell;clear cN hb hj
  gi_wp2
  refine ⟨by simp,.inl ⟨_,_,rfl,run_takeDeferred hK,?_⟩⟩;have g1:(W.putObj D (.deferred none)).cell? ⟨w.heap.size,0,none⟩=some (.int .i64 k):=(World.cell?_of_block (a:=⟨w.heap.size,0,none⟩) (World.putObj_heap_other (by show w.heap.size≠D;omega))).trans cA;have g2:(W.putObj D (.deferred none)).cell? ⟨w.heap.size+1,0,none⟩=some (.bool true):=(World.cell?_of_block (a:=⟨w.heap.size+1,0,none⟩) (World.putObj_heap_other (by show w.heap.size+1≠D;omega))).trans cB;refine ⟨.tuple #[.int .i64 k,.bool true],by simp [results,Tryz.results96,go_sem,g1,g2],.inl ⟨k,hk,HB.o,HJ.o,rfl⟩,hB.trans (belowK_b (w:=w) (Nat.le_refl _) W D _ _ (by omega) hK rfl rfl)⟩
theorem GO (s n:Int) (w:World):Calls Tryz.prog 96 #[.int .i64 s,.int .i64 n] w (Ic s n w):=callsIn_wide.1 (TZ s n w)
end bits
namespace bits

open Go.RowKit
theorem Un (x j:Nat):df (x:Int) j=x.testBit j:=by
 rw [Nat.testBit_eq_decide_div_mod_eq];unfold df;have:(x:Int) / 2 ^ j % 2=((x / 2 ^ j % 2:Nat):Int):=by simp
 rw [this];simp only [decide_eq_decide];omega
theorem Hk (j:Nat):df 0 j=false:=by simp [df]
end bits
end Go.Proofs.YtdldkkoplgkloaaGreat
