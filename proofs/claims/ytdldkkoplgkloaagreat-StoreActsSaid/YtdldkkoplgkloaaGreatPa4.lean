/- PROVED HERE: lemmas of the law. CONDITIONS: each names its own. -/
import Derived.Deep.RegionHeld3
import Derived.Deep.RegionLaw
import Derived.Laws.Rows
import Derived.Shelf.RegionOpen
import Derived.Still
import Derived.Test.YtdldkkoplgkloaaGreatPa0
import Derived.Test.YtdldkkoplgkloaaGreatPa1
import Derived.Test.YtdldkkoplgkloaaGreatPa3
namespace Go.Proofs.YtdldkkoplgkloaaGreat
set_option linter.unusedVariables false
set_option linter.unusedSimpArgs false
set_option maxRecDepth 100000
set_option maxHeartbeats 32000000
open Go.Value renaming int → ae
open Go.IntKind renaming i64 → aa
namespace aW
open Go.RowKit
section
variable {P : Program} {Q : Exit → Act → World → Prop} {md : Region.Mode} {w : World} {l : List Oper} {a : Act}
theorem O6 {id:Nat} (hm:P.follows .mixedOrders=true) (h:wpAny P .any l.toArray Q l.toArray.size (Array.replicate l.toArray.size false) a w.drew):(Code.region id l.toArray true).wp P Q a w:=wp_region_any hm h
def Hi (md:Region.Mode) (ops:Array Oper) (ao:Array Bool):Bool :=
 (List.range ops.size).all fun j=>!ao.getD j false||(match ops[j]? with|some oj=>oj.after.all fun e=>!Region.binds md e||ao.getD e.on false|none=>true)
theorem Jb {ops:Array Oper} {ao:Array Bool} (h:Hi md ops ao=true):nK md ops ao:=by
 intro j oj hj hl e he hb;have jz:j < ops.size:=(Array.getElem?_eq_some_iff.1 hj).1;have h1:=List.all_eq_true.1 h j (List.mem_range.2 jz);rw [hl,hj] at h1;simp only [Bool.not_true,Bool.false_or] at h1;obtain ⟨k,hk,e2⟩:=Array.mem_iff_getElem.1 he;have h2:=(Array.all_eq_true.1 h1) k hk;rw [e2,hb] at h2;simpa using h2
def FT (P:Program) (md:Region.Mode) (ops:Array Oper):List Nat→Array Bool→Bool
 | [],_=>true
 | i::r,ao=>(Region.ready md ops ao).contains i&&Region.free md ops ao i&&(match ops[i]? with
    | some oi=>wE P oi||(zB md ops i (rC md ops i)&&(List.range ops.size).all fun j=>j==i||ao.getD j true||(rC md ops i).getD j false||(match ops[j]? with
      | some oj=>qU P oj
      | none=>true))
    | none=>false)&&FT P md ops r (ao.setIfInBounds i true)
def heard:List Nat→Array Bool→Array Bool
 | [],ao=>ao
 | i::r,ao=>heard r (ao.setIfInBounds i true)
theorem Dh {n:Nat} (kg:Region.noSelect l.toArray=true) (hQ:∀c a d v w,Q (.panic c) (Act.put a (some d) v) w→Q (.panic c) a w) :
  ∀(hd:List Nat) (ao:Array Bool) (a:Act),nK md l.toArray ao→FT P md l.toArray hd ao=true→
  wpStill P l.toArray w (fun a'=>wpAny P md l.toArray Q n (heard hd ao) a' w) (pick l hd) a→wpAny P md l.toArray Q (hd.length+n) ao a w
 | [],ao,a,_,hB,h=>by
   rw [List.length_nil,Nat.zero_add];exact h
 | i::r,ao,a,hc,hB,h=>by
   simp only [FT,Bool.and_eq_true] at hB;obtain ⟨⟨⟨hr,hf⟩,hk⟩,hB⟩:=hB;have sC:i∈Region.ready md l.toArray ao:=by simpa using hr
   cases oN:l.toArray[i]? with
   | none=>rw [oN] at hk;cases hk
   | some oi =>
     have z9:(l[i]?).getD default=oi:=by
      have:l[i]?=some oi:=by simpa using oN
      rw [this];rfl
     have h':stOp P l.toArray w i (wpStill P l.toArray w (fun a'=>wpAny P md l.toArray Q n (heard r (ao.setIfInBounds i true)) a' w) (pick l r)) a:=by
      unfold stOp;simp only [oN];simp only [pick,z9] at h;exact h
     obtain ⟨v,hy,hn⟩:=yieldsAt_of_stOp oN h';have ih:=Dh (n:=n) kg hQ r _ _ (hc.set sC) hB hn;rw [List.length_cons,show r.length+1+n=(r.length+n)+1 by omega];rw [oN] at hk;simp only [Bool.or_eq_true,Bool.and_eq_true] at hk;rcases hk with hk|⟨hW,hk⟩
     ·refine wpAny_take oN kg hf hr (fun c a w h=>qX hQ c a _ _ w h) ?_ ih;rcases hy with ⟨hw,hv|⟨hv,rfl⟩|⟨f,args,hv,qC⟩⟩|⟨hw,rfl⟩
      ·exact .inl ⟨hw,(Ex hk _ _ _ _ hv).2⟩
      ·obtain ⟨u,hu⟩:=uu (by unfold qU;split;exact rfl;exact hk) _ _ _ _ hv;cases hu
      ·obtain ⟨u,hu⟩:=uu (by unfold qU;split;exact rfl;exact hk) _ _ _ _ hv;cases hu
      ·exact .inr ⟨hw,rfl⟩
     ·refine EV oN (Region.noSelect_spec kg) (fun c a w h=>qX hQ c a _ _ w h) hW _ ao a hc (Region.free_spec oN hf) (fun j oj hj kt qw=>?_) sC hy ih;have jz:j < l.toArray.size:=(Array.getElem?_eq_some_iff.1 hj).1;have h1:=List.all_eq_true.1 hk j (List.mem_range.2 jz);simp only [Bool.or_eq_true,beq_iff_eq,kt,false_or,qw,Bool.false_eq_true,hj] at h1;exact h1
def OU (P:Program) (md:Region.Mode) (ops:Array Oper) (hd:List Nat) (ao:Array Bool) (N:Nat):Bool :=
 Region.noSelect ops&&Hi md ops ao&&decide (hd.length≤N)&&FT P md ops hd ao
theorem Rg {N:Nat} {ao:Array Bool} (hd:List Nat) (hB:OU P md l.toArray hd ao N=true) (hQ:∀c a d v w,Q (.panic c) (Act.put a (some d) v) w→Q (.panic c) a w)
  (h:wpStill P l.toArray w (fun a'=>wpAny P md l.toArray Q (N-hd.length) (heard hd ao) a' w) (pick l hd) a):wpAny P md l.toArray Q N ao a w:=by
 simp only [OU,Bool.and_eq_true,decide_eq_true_eq] at hB;obtain ⟨⟨⟨kg,hc⟩,hn⟩,hB⟩:=hB;have:=Dh (n:=N-hd.length) kg hQ hd ao a (Jb hc) hB h
 rwa [show hd.length+(N-hd.length)=N by omega] at this
def BE (md:Region.Mode) (ops:Array Oper) (i:Nat) (ao:Array Bool) (N:Nat):Bool:=decide (0 < N)&&decide (i < ops.size)&&decide (Region.ready md ops ao=[i])
theorem UQ {N:Nat} {ao:Array Bool} (i:Nat) (hB:BE md l.toArray i ao N=true) (hw:Region.wanted ((l[i]?).getD default) (yielded l.toArray a.tmps)=true)
  (h:Oper.wp P ((l[i]?).getD default) a w (wpAny P md l.toArray Q (N-1) (ao.setIfInBounds i true)) Q):wpAny P md l.toArray Q N ao a w:=by
 simp only [BE,Bool.and_eq_true,decide_eq_true_eq] at hB;obtain ⟨⟨hN,hi⟩,hr⟩:=hB;obtain ⟨n,rfl⟩:∃n,N=n+1:=⟨N-1,by omega⟩
 have h0:l.toArray[i]?=some ((l[i]?).getD default):=by simp [cN (show i < l.length by simpa using hi)]
 refine ⟨fun h1=>(by rw [hr] at h1;cases h1),fun j hj=>?_⟩;rw [hr] at hj;have kt:j=i:=by simpa using hj
 subst kt;unfold wpOp;simp only [h0];rw [if_pos hw];exact .inl h
theorem Bx {N:Nat} {ao:Array Bool} (i:Nat) (hB:BE md l.toArray i ao N=true) (hw:Region.wanted ((l[i]?).getD default) (yielded l.toArray a.tmps)=false)
  (h:wpAny P md l.toArray Q (N-1) (ao.setIfInBounds i true) (a.put ((l[i]?).getD default).dst undef) w):wpAny P md l.toArray Q N ao a w:=by
 simp only [BE,Bool.and_eq_true,decide_eq_true_eq] at hB;obtain ⟨⟨hN,hi⟩,hr⟩:=hB;obtain ⟨n,rfl⟩:∃n,N=n+1:=⟨N-1,by omega⟩
 have h0:l.toArray[i]?=some ((l[i]?).getD default):=by simp [cN (show i < l.length by simpa using hi)]
 refine ⟨fun h1=>(by rw [hr] at h1;cases h1),fun j hj=>?_⟩;rw [hr] at hj;have kt:j=i:=by simpa using hj
 subst kt;unfold wpOp;simp only [h0];rw [if_neg (by rw [hw];decide)];exact h
def Ag (md:Region.Mode) (ops:Array Oper) (i:Nat) (ao:Array Bool) (N:Nat):Bool:=Region.noSelect ops&&decide (0 < N)&&decide (i < ops.size)&&Region.free md ops ao i&&(Region.ready md ops ao).contains i
theorem gh {N:Nat} {ao:Array Bool} (i:Nat) (v:Value) (hB:Ag md l.toArray i ao N=true) (hQ:∀c a d v w,Q (.panic c) (Act.put a (some d) v) w→Q (.panic c) a w)
  (hw:Region.wanted ((l[i]?).getD default) (yielded l.toArray a.tmps)=true) (hv:∀w2,(execOp a.eval ((l[i]?).getD default)).run P w2=.ok (.value v) w2)
  (h:wpAny P md l.toArray Q (N-1) (ao.setIfInBounds i true) (a.put ((l[i]?).getD default).dst v) w):wpAny P md l.toArray Q N ao a w:=by
 simp only [Ag,Bool.and_eq_true,decide_eq_true_eq] at hB;obtain ⟨⟨⟨⟨kg,hN⟩,hi⟩,hf⟩,hr⟩:=hB;obtain ⟨n,rfl⟩:∃n,N=n+1:=⟨N-1,by omega⟩
 have h0:l.toArray[i]?=some ((l[i]?).getD default):=by simp [cN (show i < l.length by simpa using hi)]
 exact wpAny_take h0 kg hf hr (fun c a w h=>qX hQ c a _ _ w h) (.inl ⟨hw,fun w2=>hv w2⟩) h
def OR (md:Region.Mode) (ops:Array Oper) (i j:Nat) (ao:Array Bool) (N:Nat):Bool:=decide (0 < N)&&decide (i < ops.size)&&decide (j < ops.size)&&decide (Region.ready md ops ao=[i,j])
theorem mB {N:Nat} {ao:Array Bool} (i j:Nat) (hB:OR md l.toArray i j ao N=true)
  (hi:Region.wanted ((l[i]?).getD default) (yielded l.toArray a.tmps)=true) (hj:Region.wanted ((l[j]?).getD default) (yielded l.toArray a.tmps)=true)
  (h1:Oper.wp P ((l[i]?).getD default) a w (wpAny P md l.toArray Q (N-1) (ao.setIfInBounds i true)) Q)
  (h2:Oper.wp P ((l[j]?).getD default) a w (wpAny P md l.toArray Q (N-1) (ao.setIfInBounds j true)) Q):wpAny P md l.toArray Q N ao a w:=by
 simp only [OR,Bool.and_eq_true,decide_eq_true_eq] at hB;obtain ⟨⟨⟨hN,N6⟩,jz⟩,hr⟩:=hB;obtain ⟨n,rfl⟩:∃n,N=n+1:=⟨N-1,by omega⟩
 have g:∀k,k < l.toArray.size→l.toArray[k]?=some ((l[k]?).getD default):=fun k hk=>by simp [cN (show k < l.length by simpa using hk)]
 refine ⟨fun h1=>(by rw [hr] at h1;cases h1),fun k hk=>?_⟩;rw [hr] at hk;unfold wpOp;rcases List.mem_cons.1 hk with rfl|hk
 ·simp only [g _ N6];rw [if_pos hi];exact .inl h1
 ·have za:k=j:=by simpa using hk
  subst za;simp only [g _ jz];rw [if_pos hj];exact .inl h2
theorem UR {N:Nat} {ao:Array Bool} {ops:Array Oper} (hr:(Region.ready md ops ao).isEmpty=true) (h:Q .normal a w):wpAny P md ops Q N ao a w:=wpAny_done (by simpa using hr) h N
end
end aW
namespace aW
open Go.RowKit
section
variable {P : Program} {Q : Exit → Act → World → Prop} {md : Region.Mode} {w : World} {l : List Oper} {a : Act}
theorem dN {id : Nat} (h : wpAny P .any l.toArray Q l.toArray.size (Array.replicate l.toArray.size false) a w.drew) (hm : P.follows .mixedOrders = true := by kernel_rfl) : (Code.region id l.toArray true).wp P Q a w := O6 hm h
theorem cw {N : Nat} {ao : Array Bool} {ops : Array Oper} (h : Q .normal a w) (hr : (Region.ready md ops ao).isEmpty = true := by kernel_rfl) : wpAny P md ops Q N ao a w := UR hr h
theorem bk {N : Nat} {ao : Array Bool} (hd : List Nat)
 (h : wpStill P l.toArray w (fun a' => wpAny P md l.toArray Q (N - hd.length) (heard hd ao) a' w) (pick l hd) a) (hB : OU P md l.toArray hd ao N = true := by kernel_rfl) (hQ : ∀ c a d v w, Q (.panic c) (Act.put a (some d) v) w → Q (.panic c) a w := by exact fun _ _ _ _ _ h => h) : wpAny P md l.toArray Q N ao a w := Rg hd hB hQ h
theorem aK {N : Nat} {ao : Array Bool} (i : Nat)
 (h : Oper.wp P ((l[i]?).getD default) a w (wpAny P md l.toArray Q (N - 1) (ao.setIfInBounds i true)) Q) (hB : BE md l.toArray i ao N = true := by kernel_rfl) (hw : Region.wanted ((l[i]?).getD default) (yielded l.toArray a.tmps) = true := by rfl) : wpAny P md l.toArray Q N ao a w := UQ i hB hw h
end
end aW
namespace fZ
open Go.RowKit base obj mem sep bC
section
variable {n:Nat} {t:TypeId} {w:World}
theorem Vk (a b:Nat) (ha:a < 2 ^ 32) (hb:b < 2 ^ 32):Go.bits .or .u32 (a:Int) (b:Int)=((a ||| b:Nat):Int):=by
 show IntKind.u32.wrap ((BitVec.ofInt 32 (a:Int) ||| BitVec.ofInt 32 (b:Int)).toNat:Int)=_
 have hx:a ||| b < 2 ^ 32:=Nat.or_lt_two_pow ha hb;rw [BitVec.toNat_or,BitVec.toNat_ofInt,BitVec.toNat_ofInt,show ((a:Int) % ((2 ^ 32:Nat):Int)).toNat=a by omega,show ((b:Int) % ((2 ^ 32:Nat):Int)).toNat=b by omega,IntKind.wrap_u32];omega
theorem QC (a b:Nat) (ha:a < 2 ^ 32) (hb:b < 2 ^ 32):Go.bits .and .u32 (a:Int) (b:Int)=((a &&& b:Nat):Int):=by
 show IntKind.u32.wrap ((BitVec.ofInt 32 (a:Int) &&& BitVec.ofInt 32 (b:Int)).toNat:Int)=_
 have hx:a &&& b < 2 ^ 32:=Nat.and_lt_two_pow _ hb;rw [BitVec.toNat_and,BitVec.toNat_ofInt,BitVec.toNat_ofInt,show ((a:Int) % ((2 ^ 32:Nat):Int)).toNat=a by omega,show ((b:Int) % ((2 ^ 32:Nat):Int)).toNat=b by omega,IntKind.wrap_u32];omega
theorem abY (a:Nat) (ha:a < 32):Go.bits .and .u64 (a:Int) 31=(a:Int):=by
 have h:a=0∨a=1∨a=2∨a=3∨a=4∨a=5∨a=6∨a=7∨a=8∨a=9∨a=10∨a=11∨a=12∨a=13∨a=14∨a=15∨a=16∨a=17∨a=18∨a=19∨a=20∨a=21∨a=22∨a=23∨a=24∨a=25∨a=26∨a=27∨a=28∨a=29∨a=30∨a=31:=by omega
 rcases h with rfl|rfl|rfl|rfl|rfl|rfl|rfl|rfl|rfl|rfl|rfl|rfl|rfl|rfl|rfl|rfl|rfl|rfl|rfl|rfl|rfl|rfl|rfl|rfl|rfl|rfl|rfl|rfl|rfl|rfl|rfl|rfl<;>decide +kernel
theorem ZF (w:World) (x n:Nat) (hx:x < 2 ^ 32) (h0:0 < n) (hn:n < 32):Calls Tryz.prog 221 #[.int .u32 x,ae aa ((32-n:Nat):Int)] w fun e w'=>e=.returned (.int .u32 (tn x n:Nat))∧w'=w:=by
 have e1:=abY (32-n) (by omega);go_enter Tryz.func221,Tryz.ntmps221;go_wp2_with fail;go_ret;refine ⟨?_,rfl⟩;rw [←abr x n hx h0 hn,show (x:Int)*2 ^ (32-n) % 4294967296=((x*2 ^ (32-n) % 2 ^ 32:Nat):Int) by rw [Int.natCast_emod,Int.natCast_mul,Int.natCast_pow];rfl,show 32-(32-n)=n by omega,show (x:Int) / 2 ^ n=((x / 2 ^ n:Nat):Int) by rw [Int.natCast_ediv,Int.natCast_pow];rfl,Vk _ _ (Nat.mod_lt _ (by decide)) (Nat.lt_of_le_of_lt (Nat.div_le_self _ _) hx)];rfl
theorem fR (w:World) (x n:Nat) (hx:x < 2 ^ 32) (h0:0 < n) (hn:n < 32):Calls Tryz.prog 219 #[.int .u32 x,ae aa n] w fun e w'=>e=.returned (.int .u32 (tn x n:Nat))∧w'=w:=by
 go_enter Tryz.func219,Tryz.ntmps219;go_wp2_with fail;have h:=ZF w x n hx h0 hn;rw [show ((32-n:Nat):Int)=32-(n:Int) by omega] at h;refine h.mono ?_;rintro e w' ⟨rfl,rfl⟩;go_wp2_with fail;go_ret;exact ⟨rfl,rfl⟩
theorem rH (w:World) (x n:Nat) (hx:x < 2 ^ 32) (h0:0 < n) (hn:n < 32) (k:Nat):Calls Tryz.prog 219 #[.int .u32 x,ae aa n] (w.drewN k) fun e w'=>e=.returned (.int .u32 (tn x n:Nat))∧∃j,w'=w.drewN j :=
 (fR _ x n hx h0 hn).mono fun e w' ⟨h1,h2⟩=>⟨h1,k,h2⟩
theorem k9 (w:World) (o:Obj):(w.alloc o).heap.size=w.heap.size+1:=Array.size_push _
theorem KC {W:World} (h:W.heap.size=n) (t:TypeId) (cs:Array Value):Row (W.alloc (.cells cs t)) n t cs.toList:=by
 subst h;exact Row.new W t cs
theorem acd {a b c d e f g h:Value} (r:Row w n t [a,b,c,d,e,f,g,h]):w.cell? ⟨n,0,none⟩=some a∧w.cell? ⟨n,1,none⟩=some b∧w.cell? ⟨n,2,none⟩=some c∧w.cell? ⟨n,3,none⟩=some d∧w.cell? ⟨n,4,none⟩=some e∧w.cell? ⟨n,5,none⟩=some f∧w.cell? ⟨n,6,none⟩=some g∧w.cell? ⟨n,7,none⟩=some h :=
 ⟨r.cell 0,r.cell 1,r.cell 2,r.cell 3,r.cell 4,r.cell 5,r.cell 6,r.cell 7⟩
theorem Rp {xs:List Value} (r:Row w n t xs) (a b c d e f g h:Value):Row ((((((((w.setCell ⟨n+1,0,none⟩ a).setCell ⟨n+1,1,none⟩ b).setCell ⟨n+1,2,none⟩ c).setCell ⟨n+1,3,none⟩ d).setCell ⟨n+1,4,none⟩ e).setCell ⟨n+1,5,none⟩ f).setCell ⟨n+1,6,none⟩ g).setCell ⟨n+1,7,none⟩ h) n t xs :=
 have z:n≠n+1:=by omega
 (((((((r.dV z a).dV z b).dV z c).dV z d).dV z e).dV z f).dV z g).dV z h
theorem UX {x0 x1 x2 x3 x4 x5 x6 x7:Value} (r:Row w n t [x0,x1,x2,x3,x4,x5,x6,x7]) (a b c d e f g h:Value):Row ((((((((w.setCell ⟨n,0,none⟩ a).setCell ⟨n,1,none⟩ b).setCell ⟨n,2,none⟩ c).setCell ⟨n,3,none⟩ d).setCell ⟨n,4,none⟩ e).setCell ⟨n,5,none⟩ f).setCell ⟨n,6,none⟩ g).setCell ⟨n,7,none⟩ h) n t [a,b,c,d,e,f,g,h] :=
 (((((((r.setCell 0 a).setCell 1 b).setCell 2 c).setCell 3 d).setCell 4 e).setCell 5 f).setCell 6 g).setCell 7 h
def W8.list (v:W8):List Nat:=[v.a,v.b,v.c,v.d,v.e,v.f,v.g,v.h]
def W8.val (v:W8):Value:=.agg #[.int .u32 v.a,.int .u32 v.b,.int .u32 v.c,.int .u32 v.d,.int .u32 v.e,.int .u32 v.f,.int .u32 v.g,.int .u32 v.h]
theorem Uy (w:World) (v:W8) (hv:v.Ok):Calls Tryz.prog 210 #[v.val] w fun e w'=>e=.returned (.int .u32 (upP v:Nat))∧Below w.heap.size w w':=by
 obtain ⟨a,b,c,d,e,f,g,h⟩:=v;obtain ⟨ha,hb,hc,hd,he,hf,hg,hh⟩:=hv;simp only [W8.val] at *;have l1:=eT a 9 ha (by omega);have x1:=gM l1 ha;have l2:=eT _ 11 x1 (by omega);have x2:=gM l2 ha;have l3:=eT _ 2 x2 (by omega);have r1:RowKit.Hid (∀(w:World) (k:Nat),Calls Tryz.prog 219 #[.int .u32 a,ae aa 9] (w.drewN k) fun e w'=>e=.returned (.int .u32 (tn a 9:Nat))∧∃j,w'=w.drewN j):=af fun w k=>rH w a 9 ha (by omega) (by omega) k;have r2:RowKit.Hid (∀(w:World) (k:Nat),Calls Tryz.prog 219 #[.int .u32 (tn a 9 ^^^ a:Nat),ae aa 11] (w.drewN k) fun e w'=>e=.returned (.int .u32 (tn (tn a 9 ^^^ a) 11:Nat))∧∃j,w'=w.drewN j):=af fun w k=>rH w _ 11 x1 (by omega) (by omega) k;have r3:RowKit.Hid (∀(w:World) (k:Nat),Calls Tryz.prog 219 #[.int .u32 (tn (tn a 9 ^^^ a) 11 ^^^ a:Nat),ae aa 2] (w.drewN k) fun e w'=>e=.returned (.int .u32 (tn (tn (tn a 9 ^^^ a) 11 ^^^ a) 2:Nat))∧∃j,w'=w.drewN j):=af fun w k=>rH w _ 2 x2 (by omega) (by omega) k;have e1:=qd (tn a 9) a l1 ha;have e2:=qd (tn (tn a 9 ^^^ a) 11) a l2 ha;have e3:=Vk a b ha hb;have e4:=QC (a ||| b) c (Nat.or_lt_two_pow ha hb) hc;have e5:=QC a b ha hb;have e6:=Vk ((a ||| b) &&& c) (a &&& b) (Nat.and_lt_two_pow _ hc) (Nat.and_lt_two_pow _ hb);clear l1 l2 l3 x1 x2 ha hb hc hd he hf hg hh;go_enter Tryz.func210,Tryz.ntmps210;go_wp2_with fail
 go_quiet ((first
  | (with_reducible exact r1.out _ _)
  | (with_reducible exact r2.out _ _)
  | (with_reducible exact r3.out _ _)))
 go_wp2_with fail;go_ret;exact ⟨by congr 1,(below_drewN ((Below.refl _ _).alloc (Nat.le_refl _) _) _)⟩
theorem Vr (w:World) (v:W8) (hv:v.Ok):Calls Tryz.prog 211 #[v.val] w fun e w'=>e=.returned (.int .u32 (loP v:Nat))∧Below w.heap.size w w':=by
 obtain ⟨b,c,d,g,a,e,f,h⟩:=v;obtain ⟨hb,hc,hd,hg,ha,he,hf,hh⟩:=hv;simp only [W8.val] at *;have l1:=eT a 14 ha (by omega);have x1:=gM l1 ha;have l2:=eT _ 5 x1 (by omega);have x2:=gM l2 ha;have l3:=eT _ 6 x2 (by omega);have r1:RowKit.Hid (∀(w:World) (k:Nat),Calls Tryz.prog 219 #[.int .u32 a,ae aa 14] (w.drewN k) fun e w'=>e=.returned (.int .u32 (tn a 14:Nat))∧∃j,w'=w.drewN j):=af fun w k=>rH w a 14 ha (by omega) (by omega) k;have r2:RowKit.Hid (∀(w:World) (k:Nat),Calls Tryz.prog 219 #[.int .u32 (tn a 14 ^^^ a:Nat),ae aa 5] (w.drewN k) fun e w'=>e=.returned (.int .u32 (tn (tn a 14 ^^^ a) 5:Nat))∧∃j,w'=w.drewN j):=af fun w k=>rH w _ 5 x1 (by omega) (by omega) k;have r3:RowKit.Hid (∀(w:World) (k:Nat),Calls Tryz.prog 219 #[.int .u32 (tn (tn a 14 ^^^ a) 5 ^^^ a:Nat),ae aa 6] (w.drewN k) fun e w'=>e=.returned (.int .u32 (tn (tn (tn a 14 ^^^ a) 5 ^^^ a) 6:Nat))∧∃j,w'=w.drewN j):=af fun w k=>rH w _ 6 x2 (by omega) (by omega) k;have e1:=qd (tn a 14) a l1 ha;have e2:=qd (tn (tn a 14 ^^^ a) 5) a l2 ha;have e3:=qd e f he hf;have e4:=QC (e ^^^ f) a (gM he hf) ha;have e5:=qd ((e ^^^ f) &&& a) f (Nat.and_lt_two_pow _ ha) hf;clear l1 l2 l3 x1 x2 ha hb hc hd he hf hg hh;go_enter Tryz.func211,Tryz.ntmps211;go_wp2_with fail
 go_quiet ((first
  | (with_reducible exact r1.out _ _)
  | (with_reducible exact r2.out _ _)
  | (with_reducible exact r3.out _ _)))
 go_wp2_with fail;go_ret;exact ⟨by congr 1,(below_drewN ((Below.refl _ _).alloc (Nat.le_refl _) _) _)⟩
theorem xw (w:World) (x a b c:Nat) (hx:x < 2 ^ 32) (ha0:0 < a) (ha:a < 32) (lH:0 < b) (hb:b < 32) (hc:c < 32):Calls Tryz.prog 218 #[.int .u32 x,ae aa a,ae aa b,ae aa c] w fun e w'=>e=.returned (.int .u32 (sp x a b c:Nat))∧∃j,w'=w.drewN j:=by
 have r1:RowKit.Hid (∀(w:World) (k:Nat),Calls Tryz.prog 219 #[.int .u32 x,ae aa a] (w.drewN k) fun e w'=>e=.returned (.int .u32 (tn x a:Nat))∧∃j,w'=w.drewN j):=af fun w k=>rH w x a hx ha0 ha k;have r2:RowKit.Hid (∀(w:World) (k:Nat),Calls Tryz.prog 219 #[.int .u32 x,ae aa b] (w.drewN k) fun e w'=>e=.returned (.int .u32 (tn x b:Nat))∧∃j,w'=w.drewN j):=af fun w k=>rH w x b hx lH hb k;have e1:=qd (tn x a) (tn x b) (eT x a hx ha) (eT x b hx hb);have e2:=qd (tn x a ^^^ tn x b) (x / 2 ^ c) (gM (eT x a hx ha) (eT x b hx hb)) (Nat.lt_of_le_of_lt (Nat.div_le_self _ _) hx);have e3:((x / 2 ^ c:Nat):Int)=(x:Int) / 2 ^ c:=by rw [Int.natCast_ediv,Int.natCast_pow];rfl
 rw [e3] at e2;clear e3 ha hb ha0 lH hx;go_enter Tryz.func218,Tryz.ntmps218;go_wp2_with fail
 go_quiet ((first
  | (with_reducible exact r1.out _ _)
  | (with_reducible exact r2.out _ _)))
 go_wp2_with fail;go_ret;exact ⟨rfl,_,rfl⟩
theorem Yf (w:World) (v u:W8):Calls Tryz.prog 212 #[v.val,u.val] w fun e w'=>e=.returned (plus v u).val∧Below w.heap.size w w':=by
 obtain ⟨a,b,c,d,e,f,g,h⟩:=v;obtain ⟨a',b',c',d',e',f',g',h'⟩:=u;simp only [W8.val] at *;go_enter Tryz.func212,Tryz.ntmps212;go_wp2_with fail;refine bodyPost_ret (results_cell_row rfl _ _ (w.heap.size+1+1) _ _ _ _ rfl (KC (by simp only [k9]) _ _) Tryz.underlying238 rfl (by kernel_rfl)) rfl ?_;exact ⟨rfl,(((Below.refl _ _).alloc (Nat.le_refl _) _).alloc (by simp only [k9];omega) _).alloc (by simp only [k9];omega) _⟩
theorem UY (w:World) (v:W8) (hv:v.Ok) (wi:Nat) (hw:wi < 2 ^ 32):Calls Tryz.prog 209 #[v.val,.int .u32 wi,.func (Fn.func 210) #[] #[],.func (Fn.func 211) #[] #[]] w fun e w'=>e=.returned (E6 v wi).val∧Below w.heap.size w w':=by
 have HU:=af fun w=>Uy w v hv;have HL:=af fun w=>Vr w v hv;obtain ⟨a,b,c,d,e,f,g,h⟩:=v;simp only [W8.val] at *;clear hv;have rb:=(Row.new w 238 #[.int .u32 a,.int .u32 b,.int .u32 c,.int .u32 d,.int .u32 e,.int .u32 f,.int .u32 g,.int .u32 h]).alloc (.cells #[.int .u32 0,.int .u32 0,.int .u32 0,.int .u32 0,.int .u32 0,.int .u32 0,.int .u32 0,.int .u32 0] 238);have rz:=KC (W:=w.alloc (.cells #[.int .u32 a,.int .u32 b,.int .u32 c,.int .u32 d,.int .u32 e,.int .u32 f,.int .u32 g,.int .u32 h] 238)) (k9 _ _) 238 #[.int .u32 0,.int .u32 0,.int .u32 0,.int .u32 0,.int .u32 0,.int .u32 0,.int .u32 0,.int .u32 0];have lH:=((Below.refl w.heap.size w).alloc (Nat.le_refl _) (.cells #[.int .u32 a,.int .u32 b,.int .u32 c,.int .u32 d,.int .u32 e,.int .u32 f,.int .u32 g,.int .u32 h] 238)).alloc (by simp only [k9];omega) (.cells #[.int .u32 0,.int .u32 0,.int .u32 0,.int .u32 0,.int .u32 0,.int .u32 0,.int .u32 0,.int .u32 0] 238);have RB:=af rb;have RZ:=af rz;have fE:=af lH;clear rb rz lH;go_enter Tryz.func209,Tryz.ntmps209;go_wp2_with fail;refine (HL.o _).mono ?_;rintro e1 w1 ⟨rfl,kb⟩;have rb:=RB.o.below kb RB.o.lt;have rz:=RZ.o.below kb RZ.o.lt;have bh:=af (fE.o.trans (kb.mono fE.o.size));have t0:=rb.cell 0;have t1:=rb.cell 1;have t2:=rb.cell 2;have t3:=rb.cell 3;have t4:=rb.cell 4;have t5:=rb.cell 5;have t6:=rb.cell 6;have t7:=rb.cell 7;simp only [List.getElem?_cons_succ,List.getElem?_cons_zero] at t0 t1 t2 t3 t4 t5 t6 t7;have kJ:=rz.cell 0;have hzf:=rz.frozen 0;have nO:=rz.lt;have cm:=rb.lt;have RB1:=af rb;have RZ1:=af rz;clear rb rz kb;go_wp2_with fail
 go_region_held3 (fun w'=>w'.cell? ⟨w.heap.size,0,none⟩=some (.int .u32 a)∧w'.cell? ⟨w.heap.size,1,none⟩=some (.int .u32 b)∧w'.cell? ⟨w.heap.size,2,none⟩=some (.int .u32 c)∧w'.cell? ⟨w.heap.size,3,none⟩=some (.int .u32 d)∧w'.cell? ⟨w.heap.size,4,none⟩=some (.int .u32 e)∧w'.cell? ⟨w.heap.size,5,none⟩=some (.int .u32 f)∧w'.cell? ⟨w.heap.size,6,none⟩=some (.int .u32 g)∧w'.cell? ⟨w.heap.size,7,none⟩=some (.int .u32 h)) (first|(with_reducible exact acd (Rp RB2.o _ _ _ _ _ _ _ _))|((fail_if_success (have:=RB2));go_keep)|(refine ⟨?_,?_,?_,?_,?_,?_,?_,?_⟩<;>(refine mq aO.o ?_;go_simp))) (((with_reducible refine (HU.o _).mono ?_);rintro e2 w2 ⟨rfl,bT⟩;have aO:=af bT;have sq:=Row.below (g:=w.heap.size+1) (by exact RZ1.o) bT (by exact RZ1.o.lt);have RZ2:=af sq;have RB2:=af (show Row w2 w.heap.size 238 [.int .u32 a,.int .u32 b,.int .u32 c,.int .u32 d,.int .u32 e,.int .u32 f,.int .u32 g,.int .u32 h] from Row.below (g:=w.heap.size) (by exact RB1.o) bT (by exact RB1.o.lt));have z0:=sq.cell 0;have f0:=sq.frozen 0;have z1:=sq.cell 1;have f1:=sq.frozen 1;have z2:=sq.cell 2;have f2:=sq.frozen 2;have z3:=sq.cell 3;have f3:=sq.frozen 3;have z4:=sq.cell 4;have f4:=sq.frozen 4;have z5:=sq.cell 5;have f5:=sq.frozen 5;have z6:=sq.cell 6;have f6:=sq.frozen 6;have z7:=sq.cell 7;have f7:=sq.frozen 7;simp only [List.getElem?_cons_succ,List.getElem?_cons_zero] at z0 z1 z2 z3 z4 z5 z6 z7;have zl:=sq.lt;clear bT sq))
 go_wp2_with fail;refine bodyPost_ret (results_cell_row rfl _ _ (w.heap.size+1) _ _ _ _ rfl (UX (show Row w2 (w.heap.size+1) 238 [.int .u32 0,.int .u32 0,.int .u32 0,.int .u32 0,.int .u32 0,.int .u32 0,.int .u32 0,.int .u32 0] from RZ2.o) _ _ _ _ _ _ _ _) Tryz.underlying238 rfl (by kernel_rfl)) rfl ?_;refine ⟨by simp only [IntKind.wrap_u32];rfl,?_⟩;have hb:=bh.o.drew.trans (aO.o.mono bh.o.drew.size);have z:w.heap.size≤w.heap.size+1:=by omega
 exact (((((((hb.setCell (p:=⟨w.heap.size+1,0,none⟩) z _).setCell (p:=⟨w.heap.size+1,1,none⟩) z _).setCell (p:=⟨w.heap.size+1,2,none⟩) z _).setCell (p:=⟨w.heap.size+1,3,none⟩) z _).setCell (p:=⟨w.heap.size+1,4,none⟩) z _).setCell (p:=⟨w.heap.size+1,5,none⟩) z _).setCell (p:=⟨w.heap.size+1,6,none⟩) z _).setCell (p:=⟨w.heap.size+1,7,none⟩) z _
end
end fZ
namespace mem
open Go.RowKit base obj
section
variable {P:Program}
theorem aL {fn:Func} {p q:Tmp} {ty:TypeId} (h:fn.results=#[.cell p ty,.tmp q]) (tmps:Array Value) (w:World) (g:Nat) (t:TypeId) (cs:Array Value) (fr:Nat×Nat) (d:TypeDesc) (v:Value)
  (hp:tmps.getD p undef=.pointer (some ⟨g,0,none⟩)) (hq:tmps.getD q undef=v) (hg:w.heap[g]?=some (.cells cs t fr))
  (hu:P.underlying ty=some d) (hd:(match d with|.struct _|.array _ _=>true|_=>false)=true) (hi:(P.info? ty).map (·.size)=some cs.size) :
  (results fn tmps).run P w=.ok (.tuple #[.agg cs,v]) w:=by
 have uh:tmps[p]?.getD undef=.pointer (some ⟨g,0,none⟩):=by simpa using hp
 have hq':tmps[q]?.getD undef=v:=by simpa using hq
 simp [results,h,uh,hq',asAddr,run_loadVar_row w g t ty cs fr d hg hu hd hi]
theorem dX {B:Nat} {a w:World} (h:Below B a w) {g:Nat} (hg:B≤g) (cs:Array Value):Below B a (w.setRow g cs) :=
 ⟨h.os,h.tape,h.output,by have:=h.size;simpa using this,fun k hk=>(Go.setRow_other w g k cs (by omega)).trans (h.block k hk)⟩
theorem Hw {t e size bytes:Nat} (T:qP P t e size bytes) {ops:Array Oper} {o:Oper} {a:Act} {K:Act→World→Prop} {Q:Exit→Act→World→Prop} {E:Prop} {w:World} (eP:o.guard=none) (s x:Operand)
  (ho:o.op=.call { callee:=.builtin .append,args:=#[s,x],argTypes:=#[t,t] })
  {base:Nat} {v:Value} {n:Nat} {xs:List Value} (ft:w.ownsRow base e size v n xs) (hs:a.eval s=v) {B m c:Nat} {A:Option Addr} {ys:List Value} (hx:a.eval x=.slice A m c)
  (hr:Sl w B size A m ys) (h1:∀u∈ys,u.oneCell'=true) (hm:0 < m) (hb:(n+m)*bytes≤140737488355328) (rP:n+m≤maxLen) (pj:base≤w.heap.size)
  (h:∀g cap w',w'.ownsRow base e size (.slice (some ⟨g,0,none⟩) (n+m) cap) (n+m) (xs++ys)→w.grownBy w' v.ownBlock→(v.ownBlock=some g∨w.heap.size≤g)→g < w'.heap.size→K (a.put o.dst (.slice (some ⟨g,0,none⟩) (n+m) cap)) w') :
  if Region.wanted o (yielded ops a.tmps)=true then Oper.wp P o a w K Q else E:=by
 have hw:Region.wanted o (yielded ops a.tmps)=true:=by simp [Region.wanted,eP]
 rw [if_pos hw];obtain ⟨i,z,hi,hz,h2,h3,h4⟩:=T.hi;obtain ⟨b,off,rfl,_,hc⟩:=hr.2 hm;refine wp_append_lies w s x t ho base e i z size bytes T.ht hi hz h2 h3 h4 T.hs v n xs hs ft ⟨b,off,none⟩ m c ys hx hr.1 (fun j u hu=>?_) h1 hm rP hb pj w.heap.size rfl ?_
 ·rw [Addr.add_mid];exact hc j u hu
 ·intro g cap w' BO xV kU aH;exact h g cap w' BO xV (kU.imp id fun e=>by omega) aH
end
end mem
namespace fZ
open Go.RowKit base obj mem sep bC aW
def dx (b:List Int) (k:Nat):List Value:=(fh b k).map (fun x:Nat=>Value.int .u32 x)++List.replicate (64-k) (.int .u32 0)
theorem iT (b:List Int) (k:Nat) (hk:k≤64):(dx b k).length=64:=by simp [dx,ib];omega
theorem EZ (b:List Int) (k:Nat) (hk:k < 64):(dx b k).set k (.int .u32 ((if k < 16 then wd b k else wx (fh b k):Nat):Int))=dx b (k+1):=by
 unfold dx;rw [List.set_append_right _ _ (by simp [ib]),fh,List.map_append,List.append_assoc]
 congr 1
 simp only [iB,ib,Nat.sub_self];rw [show 64-k=(64-(k+1))+1 by omega,List.replicate_succ];rfl
theorem sg (b:List Int) (k i:Nat) (h:i < k):(dx b k)[i]?=some (.int .u32 ((fh b k).getD i 0:Nat)):=by
 unfold dx;rw [List.getElem?_append_left (by simp [ib];exact h),List.getElem?_map,dD,cN (by rw [ib];exact h)];rfl
theorem Di (b:List Int) (k i:Nat) (h:k≤i) (hi:i < 64):(dx b k)[i]?=some (.int .u32 0):=by
 unfold dx;rw [List.getElem?_append_right (by simp [ib];exact h)];simp only [iB,ib];rw [List.getElem?_replicate,if_pos (by omega)]
def rZ (b:List Int) (i:Nat):Nat→Nat
 | 0=>0
 | j+1=>(rZ b i j*256 % M+jo b (4*i+j)) % M
theorem Uo (b:List Int) (i j:Nat):rZ b i j < 2 ^ 32:=by
 cases j with
 | zero=>exact Nat.two_pow_pos 32
 | succ j=>exact Nat.mod_lt _ (by decide)
theorem QX {b:List Int} (hb:bn b) (i:Nat):rZ b i 4=wd b i:=by
 have h1:=nF hb (4*i);have h2:=nF hb (4*i+1);have h3:=nF hb (4*i+2);have h4:=nF hb (4*i+3);simp only [rZ,wd,M,Nat.add_zero];generalize jo b (4*i)=p at *;generalize jo b (4*i+1)=q at *;generalize jo b (4*i+2)=r at *;generalize jo b (4*i+3)=s at *;omega
theorem An (w:World) (g a b:Nat) (v:Value) (h:a≠b):(w.setCell ⟨g,a,none⟩ v).cell? ⟨g,b,none⟩=w.cell? ⟨g,b,none⟩ :=
 World.cell?_setCell_other _ _ _ _ fun e=>h (congrArg Addr.off e)
def zW:Array Value:=(dx [] 0).toArray
theorem Ni:(Tryz.prog.info? 270).map (·.zero)=some (some (.agg zW)):=by kernel_rfl
theorem Pu (g k:Nat) (hk:k < 16) (w:World):(Instr.sliceAt 136 (.pointer (some ⟨g,8,none⟩)) (some (ae aa (4*(k:Int)))) (some (ae aa (4*(k:Int)+4))) none).run Tryz.prog w=.ok (.slice (some ⟨g,8+4*k,none⟩) 4 (64-4*k)) w:=by
 have ha:Tryz.prog.arrayLen 136=64:=by kernel_rfl
 have he:Tryz.prog.elem 136=5:=by kernel_rfl
 have ht:Tryz.prog.underlying 136=some (.array (Tryz.prog.arrayLen 136) (Tryz.prog.elem 136)):=by rw [ha,he];kernel_rfl
 have hs:(sizeOf (Tryz.prog.elem 136)).run Tryz.prog w=.ok 1 w:=by rw [he];kernel_rfl
 rw [run_sliceAt_array_lh w 136 ⟨g,8,none⟩ ht .i64 .i64 (4*(k:Int)) (4*(k:Int)+4) (by omega) (by omega) (by rw [ha];omega),hs];show Result.ok (slicedAt ⟨g,8,none⟩ (4*(k:Int)).toNat (4*(k:Int)+4).toNat (Tryz.prog.arrayLen 136) 1) w=_
 rw [ha,show (4*(k:Int)).toNat=4*k by omega,show (4*(k:Int)+4).toNat=4*k+4 by omega];unfold slicedAt;have e:(⟨g,8,none⟩:Addr).add (4*k)=⟨g,8+4*k,none⟩:=by unfold Addr.add;split<;>simp_all
 rw [if_neg (by omega),show 4*k+4-4*k=4 by omega,Nat.mul_one,e]
theorem Uq (w:World) (g:Nat) (b:List Int) (hl:b.length=64) (hb:bn b) (hc:∀i (h:i < 64),w.cell? ⟨g,8+i,none⟩=some (.int .u8 (jo b i:Nat))) (hg:g < w.heap.size):Calls Tryz.prog 207 #[.pointer (some ⟨g,8,none⟩)] w fun e w'=>e=.returned (.agg (dx b 64).toArray)∧Below w.heap.size w w':=by
 have Z:=af Ni;have HC:=af hc;have HB:=af hb;have HL:=af hl;clear hc hb hl;go_enter Tryz.func207,Tryz.ntmps207;go_wp2_with (with_reducible refine ig rfl 270 rfl (.agg zW) Z.o ?_);go_loopw [7] (fun i wr=>∃(k:Nat),k≤64∧i=ae aa k∧Row wr (w.heap.size+1) 270 (dx b k)∧Row wr w.heap.size 270 (dx [] 0)∧Below w.heap.size w wr) (fun i _=>64-(intOf i).toNat)
 case atStart=>exact ⟨0,by omega,rfl,KC (k9 _ _) _ _,(Row.new w _ _).alloc _,((Below.refl w.heap.size w).alloc (Nat.le_refl _) _).alloc (by simp only [k9];omega) _⟩
 case round =>
  obtain ⟨k,hk,rfl,hr,ph,cm⟩:=hrel;have HR:=af hr;have kA:=af ph;have ch:=af cm;clear hr ph cm;by_cases aH:k < 64
  ·have df:(k:Int) < 64:=by omega
   by_cases uo:k < 16
   ·have aaP:(k:Int) < 16:=by omega
    have dk:=Pu g k uo;go_wp2_with fail
    have FU:(dx b k).set k (.int .u32 (rZ b k 0:Nat))=dx b k:=by
     have h:=Di b k k (Nat.le_refl _) aH;obtain ⟨h1,h2⟩:=List.getElem?_eq_some_iff.1 h;rw [show ((rZ b k 0:Nat):Int)=0 from rfl,←h2];exact List.set_getElem_self _
    have HD0:=af FU;clear FU;go_loopw [21] (fun i wx=>∃j:Nat,j≤4∧i=ae aa j∧Row wx (w.heap.size+1) 270 ((dx b k).set k (.int .u32 (rZ b k j:Nat)))∧Row wx w.heap.size 270 (dx [] 0)∧Below w.heap.size w wx) (fun i _=>4-(intOf i).toNat)
    case atStart=>exact ⟨0,by omega,rfl,by rw [HD0.o];exact HR.o,kA.o,ch.o⟩
    case round =>
     obtain ⟨j,hj,rfl,hr,ph,cm⟩:=hrel;by_cases uM:j < 4
     ·have tD:(j:Int) < 4:=by omega
      have Sx:=Uo b k j;have gp:rZ b k (j+1)=(rZ b k j*256 % M+jo b (4*k+j)) % M:=rfl;have cG:=nF HB.o (4*k+j)
      have c1:wr.cell? ⟨g,8+4*k+j,none⟩=some (.int .u8 (jo b (4*k+j):Nat)):=by
       have h:=HC.o (4*k+j) (by omega);rw [show 8+(4*k+j)=8+4*k+j by omega] at h;exact (cm.cell hg).trans h
      have c2:=(hr.cell k).trans (List.getElem?_set_self (by rw [iT b k hk];exact aH));have hf:=hr.frozen k;have hlr:=hr.lt;generalize hx:jo b (4*k+j)=x at *;generalize hy:rZ b k j=y at *;have iR:=af hr;have dK:=af ph;have bh:=af cm;have lK:=af gp;have HX:=af hx;have HY:=af hy;clear hr ph cm gp hx hy;go_wp2_with fail;go_roundw
      case rel =>
       refine ⟨j+1,by omega,by go_num,?_,dK.o.dV (by simp) _,bh.o.setCell (p:=⟨w.heap.size+1,k,none⟩) (by simp) _⟩;have h:=iR.o.setCell k (.int .u32 (rZ b k (j+1):Nat));rw [List.set_set] at h;have hN:(y*256 % M+x) % M=y*256 % M+x:=Nat.mod_eq_of_lt (by simp only [M];omega);rw [lK.o,hN] at h ⊢;exact h
      case measure=>simp [intOf];omega
     ·have tD:¬(j:Int) < 4:=by omega
      have BR:j=4:=by omega
      have HJ:=af BR;clear BR;have iR:=af hr;have dK:=af ph;have bh:=af cm;clear hr ph cm;go_wp2_with fail;go_roundw
      case rel =>
       refine ⟨k+1,by omega,by go_num,?_,dK.o,bh.o⟩;have h:=iR.o;rw [HJ.o,QX HB.o k] at h;have h2:=EZ b k aH;rw [if_pos uo] at h2;rw [←h2];exact h
      case measure=>simp [intOf];omega
   ·obtain ⟨q,hq⟩:∃q,k=q+16:=⟨k-16,by omega⟩
    subst hq;have aaP:(16:Int)≤(q:Int)+16:=by omega
    have adL:(q:Int)+16 < 64:=by omega
    have hx:=Bl HB.o (q+16)
    have gx:∀i,i < q+16→(fh b (q+16)).getD i 0 < 2 ^ 32:=fun i hi=>by
     rw [dD,cN (by rw [ib];exact hi)];exact hx _ (List.getElem_mem _)
    have c2:=(HR.o.cell (q+14)).trans (sg b (q+16) (q+14) (by omega));have c15:=(HR.o.cell (q+1)).trans (sg b (q+16) (q+1) (by omega));have c7:=(HR.o.cell (q+9)).trans (sg b (q+16) (q+9) (by omega));have c16:=(HR.o.cell q).trans (sg b (q+16) q (by omega));have c0:=(HR.o.cell (q+16)).trans (Di b (q+16) (q+16) (Nat.le_refl _) aH);have hf:=HR.o.frozen (q+16);have hlr:=HR.o.lt;have l2:=gx (q+14) (by omega);have Iq:=gx (q+1) (by omega)
    have hw:wx (fh b (q+16))=((((sp ((fh b (q+16)).getD (q+14) 0) 17 19 10+sp ((fh b (q+16)).getD (q+1) 0) 7 18 3) % M+(fh b (q+16)).getD (q+9) 0) % M+(fh b (q+16)).getD q 0) % M):=by
     rw [R4];unfold wx;rw [ib];rfl
    generalize hy2:(fh b (q+16)).getD (q+14) 0=x2 at *;generalize acn:(fh b (q+16)).getD (q+1) 0=mZ at *;generalize hy7:(fh b (q+16)).getD (q+9) 0=x7 at *;generalize acm:(fh b (q+16)).getD q 0=J9 at *;have nX:RowKit.Hid (∀w',Calls Tryz.prog 218 #[.int .u32 x2,ae aa 17,ae aa 19,ae aa 10] w' fun e mf=>e=.returned (.int .u32 (sp x2 17 19 10:Nat))∧∃j,mf=w'.drewN j):=af fun w'=>xw w' x2 17 19 10 l2 (by omega) (by omega) (by omega) (by omega) (by omega);have iy:RowKit.Hid (∀w',Calls Tryz.prog 218 #[.int .u32 mZ,ae aa 7,ae aa 18,ae aa 3] w' fun e mf=>e=.returned (.int .u32 (sp mZ 7 18 3:Nat))∧∃j,mf=w'.drewN j):=af fun w'=>xw w' mZ 7 18 3 Iq (by omega) (by omega) (by omega) (by omega) (by omega);have HW:=af hw;clear hx gx l2 Iq hy2 acn hy7 acm hw;have m0:IntKind.i64.wrap ((q:Int)+16-2)=(q:Int)+14:=by rw [IntWalk.i64_in _ ⟨by omega,by omega⟩];omega
    have n0:((q:Int)+14).toNat=q+14:=by omega
    have p0:(0:Int)≤(q:Int)+14:=by omega
    have r0:(q:Int)+14 < 64:=by omega
    have m1:IntKind.i64.wrap ((q:Int)+16-15)=(q:Int)+1:=by rw [IntWalk.i64_in _ ⟨by omega,by omega⟩];omega
    have n1:((q:Int)+1).toNat=q+1:=by omega
    have p1:(0:Int)≤(q:Int)+1:=by omega
    have r1:(q:Int)+1 < 64:=by omega
    have m2:IntKind.i64.wrap ((q:Int)+16-7)=(q:Int)+9:=by rw [IntWalk.i64_in _ ⟨by omega,by omega⟩];omega
    have n2:((q:Int)+9).toNat=q+9:=by omega
    have p2:(0:Int)≤(q:Int)+9:=by omega
    have r2:(q:Int)+9 < 64:=by omega
    have m3:IntKind.i64.wrap ((q:Int)+16-16)=(q:Int):=by rw [IntWalk.i64_in _ ⟨by omega,by omega⟩];omega
    have n5:((q:Int)+16).toNat=q+16:=by omega
    have r4:(q:Int) < 64:=by omega
    have p5:(0:Int)≤((q+16:Nat):Int):=by omega
    have p6:(0:Int)≤(q:Int)+16:=by omega
    have p4:(0:Int)≤(q:Int):=by omega
    have m4:IntKind.i64.wrap (q:Int)=(q:Int):=IntWalk.i64_in _ ⟨by omega,by omega⟩;go_wp2_with fail
    go_region_held3 (fun w'=>w'.cell? ⟨w.heap.size+1,q+14,none⟩=some (.int .u32 x2)∧w'.cell? ⟨w.heap.size+1,q+1,none⟩=some (.int .u32 mZ)∧w'.cell? ⟨w.heap.size+1,q+9,none⟩=some (.int .u32 x7)∧w'.cell? ⟨w.heap.size+1,q,none⟩=some (.int .u32 J9)) (first|(exact ⟨(An _ _ _ _ _ (by omega)).trans c2,(An _ _ _ _ _ (by omega)).trans c15,(An _ _ _ _ _ (by omega)).trans c7,(An _ _ _ _ _ (by omega)).trans c16⟩)|go_keep) (first
     | ((with_reducible refine (nX.o _).mono ?_);rintro e1 w1 ⟨rfl,j1,rfl⟩)
     | ((with_reducible refine (iy.o _).mono ?_);rintro e2 w2 ⟨rfl,j2,rfl⟩))
    go_wp2_with fail;go_roundw
    case rel =>
     refine ⟨q+16+1,by omega,by go_num,?_,(kA.o.drewN _).dV (by simp) _,(below_drewN ch.o _).setCell (p:=⟨w.heap.size+1,q+16,none⟩) (by simp) _⟩;rw [←EZ b (q+16) aH,if_neg uo,HW.o];have h:=(HR.o.drewN (1+j1+j2)).setCell (q+16) (.int .u32 (((((sp x2 17 19 10+sp mZ 7 18 3) % M+x7) % M+J9) % M:Nat):Int));exact h
    case measure=>simp [intOf];omega
  ·have df:¬(k:Int) < 64:=by omega
   have xO:k=64:=by omega
   have HK:=af xO;clear xO;have hr:=HR.o;rw [HK.o] at hr;have rV:=af hr;have cY:((dx b 64).drop 0).take (dx b 64).length=dx b 64:=by rw [List.drop_zero,List.take_length]
   have iP:(Tryz.prog.info? 270).map (·.size)=some 64:=by kernel_rfl
   have uH:(dx [] 0).take 0++(dx b 64).toArray.toList++(dx [] 0).drop (0+(dx b 64).toArray.size)=dx b 64:=by
    rw [List.take_zero,List.nil_append,List.drop_of_length_le (by rw [iT [] 0 (by omega)];simp only [List.size_toArray,iT b 64 (by omega)];omega),List.append_nil]
   have h1:∀v∈(dx b 64).toArray.toList,v.oneCell'=true:=fun v hv=>by
    rcases List.mem_append.1 hv with h|h
    ·obtain ⟨x,_,rfl⟩:=List.mem_map.1 h;rfl
    ·rw [(List.mem_replicate.1 h).2];rfl
   have nZ:=af cY;have mv:=af iP;have ade:=af uH;have HO:=af h1;clear hr cY iP uH h1
   go_wp2_with (first
    | (with_reducible refine jM rfl 270 (.tmp 3) rfl (w.heap.size+1) 0 rfl (dx b 64) _ rV.o nZ.o Tryz.underlying270 rfl (by rw [mv.o,iT b 64 (by omega)]) ?_)
    | (with_reducible refine aB rfl 270 (.tmp 2) (.tmp 59) rfl w.heap.size 0 (dx b 64).toArray rfl rfl kA.o (by rw [mv.o,List.size_toArray,iT b 64 (by omega)]) (by rw [List.size_toArray,iT b 64 (by omega),iT [] 0 (by omega)];omega) HO.o (dx b 64) ade.o ?_))
   refine bodyPost_ret (results_cell_row rfl _ _ w.heap.size _ (dx b 64).toArray _ _ rfl (kA.o.setRow (dx b 64)) Tryz.underlying270 rfl (by rw [mv.o,List.size_toArray,iT b 64 (by omega)])) rfl ?_;exact ⟨rfl,dX ch.o (Nat.le_refl _) _⟩
end fZ
namespace chain
open Go.RowKit
section
variable {a:Act} {o:Oper}
section
variable {P : Program} {ops : Array Oper} {Q : Exit → Act → World → Prop} {w : World}
theorem qo:∀(l rest:List Oper) (a:Act),wpStill P ops w (fun a'=>wpList P ops Q rest a' w) l a→wpList P ops Q (l++rest) a w
 | [],rest,a,h=>h
 | o::l,rest,a,h=>by
   rw [List.cons_append];unfold wpStill at h;unfold wpList;split at h
   ·rename_i hw
    rw [if_pos hw];refine .inl ?_;unfold Oper.still at h;unfold Oper.wp;revert h;generalize (execOp a.eval o).run P w=r;intro h;unfold Oper.stillUpon at h;unfold Oper.upon;split at h
    ·obtain ⟨he,h⟩:=h;rw [he];exact qo l rest _ h
    ·obtain ⟨he,h⟩:=h;rw [he];exact qo l rest _ h
    ·obtain ⟨he,v,hc,h⟩:=h;rw [he];refine hc.mono ?_;rintro e w2 ⟨rfl,SN⟩;rw [SN];exact qo l rest _ h
    ·exact h.elim
   ·rename_i hw
    rw [if_neg hw];exact qo l rest _ h
theorem Vs {rest:List Oper} (hw:Region.wanted o (yielded ops a.tmps)=true) (h:o.wp P a w (wpList P ops Q rest) Q):wpList P ops Q (o::rest) a w:=by
 unfold wpList;rw [if_pos hw];exact .inl h
theorem kS {rest:List Oper} {v:Value} (hg:o.guard=none) (hv:(execOp a.eval o).run P w=.ok (.value v) w) (h:wpList P ops Q rest (a.put o.dst v) w):wpList P ops Q (o::rest) a w:=by
 refine Vs (by simp [Region.wanted,hg]) ?_;unfold Oper.wp;rw [hv];exact h
end
end
end chain
end Go.Proofs.YtdldkkoplgkloaaGreat
