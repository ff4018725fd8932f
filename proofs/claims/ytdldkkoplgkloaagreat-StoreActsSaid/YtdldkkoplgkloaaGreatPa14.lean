/- PROVED HERE: lemmas of the law. CONDITIONS: each names its own. -/
import Derived.Deep.AppendLies
import Derived.Deep.RegionHeld3
import Derived.Lib.MinMax
import Derived.Test.YtdldkkoplgkloaaGreatPa0
import Derived.Test.YtdldkkoplgkloaaGreatPa1
namespace Go.Proofs.YtdldkkoplgkloaaGreat
set_option linter.unusedVariables false
set_option linter.unusedSimpArgs false
set_option maxRecDepth 100000
set_option maxHeartbeats 32000000
open Go.Value renaming int → ae
open Go.IntKind renaming i64 → aa
namespace aX
section
variable {s:List Int} {at_ k:Nat}
structure DS where
 ar:List (List Int)
 waits:List (Nat×List Int)
 jH:Int
 down:Bool
def aT (s:List Int):List Value:=s.map (.int .u8)
def aU (p:Nat×List Int):List Value:=ae aa p.1::p.2.map (.int .u8)
structure DS.Good (m:DS):Prop where
 ar:∀s∈m.ar,s.length=64
 waits:∀p∈m.waits,p.1 < m.ar.length∧p.2.length=64
 CX:-1≤m.jH
 CW:m.jH≤9223372036854775807
 n0:1≤m.ar.length
 n1:m.ar.length≤128
def sJ (n:Int):Nat:=if n < 1 then 1 else if 128 < n then 128 else n.toNat
theorem Tx (n:Int):1≤sJ n∧sJ n≤128:=by unfold sJ;split<;>(try split)<;>omega
def bt:List Int:=List.replicate 64 0
def DS.new (n:Nat):DS:=⟨List.replicate n bt,[],-1,false⟩
theorem DS.KQ {n:Nat} (h0:1≤n) (h1:n≤128):(DS.new n).Good:=by
 refine ⟨fun s hs=>?_,fun p hp=>absurd hp (by simp [DS.new]),by simp [DS.new],by simp [DS.new],by simpa [DS.new] using h0,by simpa [DS.new] using h1⟩;rw [(List.mem_replicate.1 hs).2];rfl
def DS.goes (m:DS):Bool:=!(m.down||m.jH==0)
def DS.bR (m:DS):DS:=if m.down||m.jH==0 then { m with down:=true } else { m with jH:=max (m.jH-1) (-1) }
theorem DS.ov {m:DS} (h:m.Good):m.bR.Good:=by
 have h0:=h.CX;have h1:=h.CW;unfold DS.bR;split
 ·exact ⟨h.ar,h.waits,h0,h1,h.n0,h.n1⟩
 ·exact ⟨h.ar,h.waits,by simp only;omega,by simp only;omega,h.n0,h.n1⟩
theorem DS.iw (m:DS):m.bR.ar=m.ar:=by unfold DS.bR;split<;>rfl
theorem DS.fN (m:DS):m.bR.waits=m.waits:=by unfold DS.bR;split<;>rfl
def DS.put (m:DS) (at_:Nat) (b:List Int):DS:={ m with waits:=m.waits++[(at_,b)] }
theorem DS.Ej {m:DS} (h:m.Good) {at_:Nat} {b:List Int} (h0:at_ < m.ar.length) (h1:b.length=64):(m.put at_ b).Good:=by
 refine ⟨h.ar,fun p hp=>?_,h.CX,h.CW,h.n0,h.n1⟩;simp only [DS.put,List.mem_append,List.mem_singleton] at hp;rcases hp with hp|rfl
 ·exact h.waits p hp
 ·exact ⟨h0,h1⟩
def DS.write (m:DS) (at_:Int) (b:List Int):Int×DS :=
 if at_ < 0∨m.ar.length≤at_ then (3,m) else if b.length≠64 then (14,m) else if m.goes then (0,m.bR.put at_.toNat b) else (8,m.bR)
def jP (ws:List (Nat×List Int)) (s:List Int) (at_:Nat):Nat→List Int
 | 0=>s
 | k+1=>match ws[k]? with
   | some w=>if w.1=at_ then w.2 else jP ws s at_ k
   | none=>jP ws s at_ k
theorem BG {ws:List (Nat×List Int)} (h:k < ws.length) (e:ws[k].1=at_):jP ws s at_ (k+1)=ws[k].2:=by
 simp [jP,cN h,e]
theorem vo {ws:List (Nat×List Int)} (h:k < ws.length) (e:ws[k].1≠at_):jP ws s at_ (k+1)=jP ws s at_ k:=by
 simp [jP,cN h,e]
theorem xB {ws:List (Nat×List Int)} {s:List Int} {at_:Nat} (hw:∀p∈ws,p.2.length=64) (hs:s.length=64):∀k,k≤ws.length→(jP ws s at_ k).length=64
 | 0,_=>hs
 | k+1,h=>by
   have ih:=xB (at_:=at_) hw hs k (by omega);by_cases e:(ws[k]'(by omega)).1=at_
   ·rw [BG (by omega) e];exact hw _ (List.getElem_mem _)
   ·rw [vo (by omega) e];exact ih
def DS.now (m:DS) (at_:Nat):List Int:=jP m.waits (m.ar.getD at_ []) at_ m.waits.length
def iq (p:Nat→Bool) (ws:List (Nat×List Int)) (s:List (List Int)):Nat→List (List Int)
 | 0=>s
 | k+1=>match ws[k]? with
   | some w=>if p k then (iq p ws s k).set w.1 w.2 else iq p ws s k
   | none=>iq p ws s k
theorem BK {p:Nat→Bool} {ws:List (Nat×List Int)} {s:List (List Int)} (h:k < ws.length) (e:p k=true):iq p ws s (k+1)=(iq p ws s k).set ws[k].1 ws[k].2:=by
 simp [iq,cN h,e]
theorem KY {p:Nat→Bool} {ws:List (Nat×List Int)} {s:List (List Int)} (h:k < ws.length) (e:p k=false):iq p ws s (k+1)=iq p ws s k:=by
 simp [iq,cN h,e]
theorem kI (p:Nat→Bool) (ws:List (Nat×List Int)) (s:List (List Int)):∀k,(iq p ws s k).length=s.length
 | 0=>rfl
 | k+1=>by
   have ih:=kI p ws s k;rw [iq];split
   ·split
    ·rw [List.length_set,ih]
    ·exact ih
   ·exact ih
theorem Ew {p:Nat→Bool} {ws:List (Nat×List Int)} {s:List (List Int)} (hw:∀q∈ws,q.2.length=64) (hs:∀q∈s,q.length=64):∀k,∀q∈iq p ws s k,q.length=64
 | 0=>hs
 | k+1=>by
   have ih:=Ew (p:=p) hw hs k;intro q hq;rw [iq] at hq;split at hq
   ·rename_i w hw'
    split at hq
    ·rcases List.mem_or_eq_of_mem_set hq with h|h
     ·exact ih q h
     ·subst h;exact hw w (List.mem_of_getElem? hw')
    ·exact ih q hq
   ·exact ih q hq
def DS.lay (m:DS) (p:Nat→Bool):DS:={ m with ar:=iq p m.waits m.ar m.waits.length,waits:=[] }
theorem DS.Ev {m:DS} (h:m.Good) (p:Nat→Bool):(m.lay p).Good:=by
 refine ⟨Ew (fun q hq=>(h.waits q hq).2) h.ar _,fun q hq=>absurd hq (by simp [DS.lay]),h.CX,h.CW,?_,?_⟩
 ·show 1≤(iq _ _ _ _).length
  rw [kI];exact h.n0
 ·show (iq _ _ _ _).length≤128
  rw [kI];exact h.n1
def DS.flush (m:DS):Int×DS:=if m.goes then (0,m.bR.lay fun _=>true) else (8,m.bR)
def keeps (keep:Int) (i:Nat):Bool:=decide (i < 64)&&(keep / 2 ^ i % 2==1)
def DS.bZ (m:DS) (keep:Int):DS:={ m.lay (keeps keep) with jH:=-1,down:=false }
theorem DS.sr {m:DS} (h:m.Good) (keep:Int):(m.bZ keep).Good:=by
 have g:=DS.Ev h (keeps keep);exact ⟨g.ar,g.waits,by simp [DS.bZ],by simp [DS.bZ],g.n0,g.n1⟩
def DS.eV (m:DS) (n:Int):DS:=if m.down then m else { m with jH:=max n (-1) }
theorem DS.wh {m:DS} (h:m.Good) {n:Int} (hn:n≤9223372036854775807):(m.eV n).Good:=by
 unfold DS.eV;split
 ·exact h
 ·exact ⟨h.ar,h.waits,by simp only;omega,by simp only;omega,h.n0,h.n1⟩
end
end aX
namespace aX
open Go.RowKit base obj mem
section
variable {m:DS} {L g:Nat} {F:Nat→Prop} {wv:Value} {w:World}
def EP (F:Nat→Prop) (w w':World):Nat→Prop:=fun i=>F i∨(w.heap.size≤i∧i < w'.heap.size)
def kx (L:Nat) (wv:Value) (m:DS):List Value:=[.slice (some ⟨L,0,none⟩) m.ar.length m.ar.length,wv,ae aa m.jH,.bool m.down]
structure dA (w:World) (F:Nat→Prop) (g L:Nat) (wv:Value) (m:DS):Prop where
 bu:m.Good
 mr:Row w g 135 (kx L wv m)
 laid:Row w L 137 (m.ar.map aT).flatten
 own:w.ownsRow 0 139 65 wv m.waits.length (m.waits.map aU).flatten
 fg:F g
 fl:F L
 fw:∀k,wv.ownBlock=some k→F k
def iL (w:World) (F:Nat→Prop) (g:Nat) (m:DS):Prop:=∃L wv,dA w F g L wv m
section
variable {w w' : World} {F F' : Nat → Prop} {g L : Nat} {wv : Value} {m : DS}
theorem dA.more (h:dA w F g L wv m) (hF:∀i,F i→F' i):dA w F' g L wv m :=
 ⟨h.bu,h.mr,h.laid,h.own,hF _ h.fg,hF _ h.fl,fun k hk=>hF _ (h.fw k hk)⟩
theorem iL.more (h:iL w F g m) (hF:∀i,F i→F' i):iL w F' g m:=by
 obtain ⟨L,wv,h⟩:=h;exact ⟨L,wv,h.more hF⟩
theorem dA.kept (h:dA w F g L wv m) {S:Nat→Prop} (k:Kept S w w') (hS:∀i,F i→¬S i):dA w' F g L wv m :=
 ⟨h.bu,h.mr.kept k (hS _ h.fg),h.laid.kept k (hS _ h.fl),k.own h.own (fun i hi=>hS _ (h.fw i hi)),h.fg,h.fl,h.fw⟩
theorem iL.kept (h:iL w F g m) {S:Nat→Prop} (k:Kept S w w') (hS:∀i,F i→¬S i):iL w' F g m:=by
 obtain ⟨L,wv,h⟩:=h;exact ⟨L,wv,h.kept k hS⟩
theorem iL.below (h:iL w F g m) (k:Below w.heap.size w w'):iL w' F g m:=h.kept (Kept.oh k (fun _=>False)) (fun _ _ h=>h)
theorem dA.read (h:dA w F g L wv m):w.cell? ⟨g,0,none⟩=some (.slice (some ⟨L,0,none⟩) m.ar.length m.ar.length)∧w.cell? ⟨g,1,none⟩=some wv∧w.cell? ⟨g,2,none⟩=some (ae aa m.jH)∧w.cell? ⟨g,3,none⟩=some (.bool m.down) :=
 ⟨h.mr.cell 0,h.mr.cell 1,h.mr.cell 2,h.mr.cell 3⟩
theorem dA.gl (h:dA w F g L wv m):g≠L:=h.mr.ne h.laid (by decide)
theorem dA.gw (h:dA w F g L wv m):wv.ownBlock≠some g:=by
 intro e;rcases h.own.2 with ⟨rfl,_⟩|⟨k,cap,cur,rfl,_,hk,_⟩
 ·simp [Value.ownBlock] at e
 ·simp only [Value.ownBlock,Option.some.injEq] at e;subst e;have:=h.mr;unfold Row at this;rw [hk] at this;injection this with this
  injection this with _ h2
  exact absurd h2 (by decide)
theorem dA.lw (h:dA w F g L wv m):wv.ownBlock≠some L:=by
 intro e;rcases h.own.2 with ⟨rfl,_⟩|⟨k,cap,cur,rfl,_,hk,_⟩
 ·simp [Value.ownBlock] at e
 ·simp only [Value.ownBlock,Option.some.injEq] at e;subst e;have:=h.laid;unfold Row at this;rw [hk] at this;injection this with this
  injection this with _ h2
  exact absurd h2 (by decide)
theorem dA.set (h:dA w F g L wv m) {m':DS} (k:Nat) (v:Value) (e:(kx L wv m).set k v=kx L wv m') (hg:m'.Good) (hs:m'.ar=m.ar) (hw:m'.waits=m.waits):dA (w.setCell ⟨g,k,none⟩ v) F g L wv m':=by
 refine ⟨hg,?_,?_,?_,h.fg,h.fl,h.fw⟩
 ·rw [←e];exact h.mr.setCell k v
 ·rw [hs];exact h.laid.dV (p:=⟨g,k,none⟩) (Ne.symm h.gl) v
 ·rw [hw];exact ownsRow_setCell_other h.own (a:=⟨g,k,none⟩) h.gw v
end
abbrev One (g:Nat):Nat→Prop:=fun i=>i=g
theorem Hh (h:dA w F g L wv m):Calls Tryz.prog 40 #[.pointer (some ⟨g,0,none⟩)] w fun e w'=>e=.returned (.bool m.down)∧w=w':=by
 obtain ⟨c0,c1,c2,c3⟩:=h.read;go_enter Tryz.func40,Tryz.ntmps40;go_wp2_with fail;go_ret;exact ⟨rfl,rfl⟩
theorem ZZ (h:dA w F g L wv m):Calls Tryz.prog 35 #[.pointer (some ⟨g,0,none⟩)] w fun e w'=>e=.returned (ae aa m.ar.length)∧w=w':=by
 obtain ⟨c0,c1,c2,c3⟩:=h.read;go_enter Tryz.func35,Tryz.ntmps35;go_wp2_with fail;go_ret;exact ⟨rfl,rfl⟩
theorem kO (h:dA w F g L wv m) (i:Int):Calls Tryz.prog 73 #[.pointer (some ⟨g,0,none⟩),ae aa i] w fun e w'=>e=.returned (ae aa (if i < 0∨m.ar.length≤i then 3 else 0))∧w=w':=by
 obtain ⟨c0,c1,c2,c3⟩:=h.read;by_cases h0:i < 0
 ·rw [if_pos (.inl h0)];go_enter Tryz.func73,Tryz.ntmps73;go_wp2_with fail;go_ret;exact ⟨rfl,rfl⟩
 ·by_cases h1:(m.ar.length:Int)≤i
  ·rw [if_pos (.inr h1)];go_enter Tryz.func73,Tryz.ntmps73;go_wp2_with fail;go_ret;exact ⟨rfl,rfl⟩
  ·rw [if_neg (by omega)];go_enter Tryz.func73,Tryz.ntmps73;go_wp2_with fail;go_ret;exact ⟨rfl,rfl⟩
theorem Vx {a:World} (h:Kept (One g) a w) (k:Nat) (v:Value):Kept (One g) a (w.setCell ⟨g,k,none⟩ v):=h.setCell (p:=⟨g,k,none⟩) (Or.inl rfl) v
theorem Ov (h:dA w F g L wv m):Calls Tryz.prog 74 #[.pointer (some ⟨g,0,none⟩)] w fun e w'=>e=.returned (.bool m.goes)∧dA w' F g L wv m.bR∧Kept (One g) w w':=by
 obtain ⟨c0,c1,c2,c3⟩:=h.read;have f2:=h.mr.frozen 2;have f3:=h.mr.frozen 3;have g0:=h.bu.CX;have g1:=h.bu.CW;have H:=af h;have HG:=af (DS.ov h.bu);clear h;by_cases hz:m.jH=0
 ·have hb:m.bR={ m with down:=true }:=by simp [DS.bR,hz]
  have wN:m.goes=false:=by simp [DS.goes,hz]
  have HB:=af hb;rw [wN];have hz':(m.jH==0)=true:=by simpa using hz
  clear hb wN hz g0 g1;go_enter Tryz.func74,Tryz.ntmps74;go_wp2_with fail;go_ret;refine ⟨rfl,?_,Vx (Kept.refl _ _) 3 _⟩;rw [HB.o];rw [HB.o] at HG;exact H.o.set 3 _ rfl HG.o rfl rfl
 ·have hz':(m.jH==0)=false:=by simpa using hz
  cases hd:m.down
  ·have hb:m.bR={ m with jH:=max (m.jH-1) (-1) }:=by simp [DS.bR,hz,hd]
   have wN:m.goes=true:=by simp [DS.goes,hz,hd]
   have HB:=af hb;rw [wN];rw [hd] at c3;clear hb wN hz hd;go_enter Tryz.func74,Tryz.ntmps74;go_wp2_with fail;go_ret;refine ⟨rfl,?_,Vx (Kept.refl _ _) 2 _⟩;rw [HB.o];rw [HB.o] at HG;exact H.o.set 2 _ rfl HG.o rfl rfl
  ·have hb:m.bR=m:=by
    simp only [DS.bR,hd,Bool.true_or,if_true];rw [←hd]
   have wN:m.goes=false:=by simp [DS.goes,hd]
   have HB:=af hb;rw [wN];rw [hd] at c3;clear hb wN hz hd g0 g1;go_enter Tryz.func74,Tryz.ntmps74;go_wp2_with fail;go_ret;refine ⟨rfl,?_,Kept.refl _ _⟩;rw [HB.o];exact H.o
theorem YN (h:dA w F g L wv m) (n:Int) (hn:n≤9223372036854775807):Calls Tryz.prog 39 #[.pointer (some ⟨g,0,none⟩),ae aa n] w fun e w'=>e=.returned (.tuple #[])∧dA w' F g L wv (m.eV n)∧Kept (One g) w w':=by
 obtain ⟨c0,c1,c2,c3⟩:=h.read;have f2:=h.mr.frozen 2;have H:=af h;have HG:=af (DS.wh h.bu hn);clear h hn;cases hd:m.down
 ·have hb:m.eV n={ m with jH:=max n (-1) }:=by simp [DS.eV,hd]
  have HB:=af hb;rw [hd] at c3;clear hb hd;go_enter Tryz.func39,Tryz.ntmps39;go_wp2_with fail
  go_end0
  refine ⟨rfl,?_,Vx (Kept.refl _ _) 2 _⟩;rw [HB.o];rw [HB.o] at HG;exact H.o.set 2 _ rfl HG.o rfl rfl
 ·have hb:m.eV n=m:=by simp [DS.eV,hd]
  have HB:=af hb;rw [hd] at c3;clear hb hd;go_enter Tryz.func39,Tryz.ntmps39;go_wp2_with fail
  go_end0
  refine ⟨rfl,?_,Kept.refl _ _⟩;rw [HB.o];exact H.o
end
def th:Array Value:=Array.replicate 64 (.int .u8 0)
def hU (at_:Int):Array Value:=⟨ae aa at_::List.replicate 64 (.int .u8 0)⟩
theorem YI:(Tryz.prog.info? 137).map (fun i=>(i.zero,i.size,i.bytes))=some (some (.agg th),64,64):=by kernel_rfl
theorem VC:(Tryz.prog.info? 139).map (fun i=>(i.zero,i.size,i.bytes))=some (some (.agg (hU 0)),65,72):=by kernel_rfl
theorem Rf:qP Tryz.prog 133 139 65 72:=by
 obtain ⟨i0,hi,kJ,ny,gm⟩:=info_parts VC;exact ⟨Tryz.underlying133,⟨i0,_,hi,kJ,ny,gm,rfl⟩,by decide⟩
theorem OL (n:Nat):(madeCells th (n*64)).toList=((List.replicate n bt).map aT).flatten:=by
 rw [AD (v:=.int .u8 0) (by decide) (by simp [th]),List.map_replicate];have:aT bt=List.replicate 64 (.int .u8 0):=by simp [aT,bt]
 rw [this,List.flatten_replicate_replicate]
def vH (k:Nat):Array Value:=madeCells th (k*64)
theorem Yo (w:World) (k:Nat) (h0:1≤k) (h1:k≤128):iL ((w.alloc (.cells (vH k) 137)).alloc (.cells #[.slice (some ⟨w.heap.size,0,none⟩) k k,.slice none 0 0,ae aa (-1),.bool false] 135)) (EP (fun _=>False) w ((w.alloc (.cells (vH k) 137)).alloc (.cells #[.slice (some ⟨w.heap.size,0,none⟩) k k,.slice none 0 0,ae aa (-1),.bool false] 135))) (w.heap.size+1) (DS.new k):=by
 refine ⟨w.heap.size,.slice none 0 0,DS.KQ h0 h1,?_,?_,World.ownsRow_nil _ _ _ _,.inr (by simp),.inr (by simp;omega),fun k hk=>by simp [Value.ownBlock] at hk⟩
 ·have:=Row.new (w.alloc (.cells (vH k) 137)) 135 #[.slice (some ⟨w.heap.size,0,none⟩) k k,.slice none 0 0,ae aa (-1),.bool false];simpa [kx,DS.new] using this
 ·refine Row.alloc ?_ _;have:=Row.new w 137 (vH k);rw [vH,OL] at this;exact this
theorem Yq (n:Int) (w:World):Calls Tryz.prog 26 #[ae aa n] w fun e w'=>∃g,e=.returned (.pointer (some ⟨g,0,none⟩))∧w.heap.size≤g∧iL w' (EP (fun _=>False) w w') g (DS.new (sJ n))∧Below w.heap.size w w':=by
 obtain ⟨i0,hi,kJ,ny,gm⟩:=info_parts YI;have cb:=Tx n
 have qB:∀(k:Nat) (v:Int),v=k→k≤128→∀w:World,(Instr.makeSlice 132 (ae aa v) (ae aa v)).run Tryz.prog w=.ok (.slice (some ⟨w.heap.size,0,none⟩) k k) (w.alloc (.cells (vH k) 137)):=by
  intro k v hv hk w;subst hv;have:=AA (P:=Tryz.prog) 132 137 i0 _ Tryz.underlying132 hi kJ .i64 .i64 k k (Nat.le_refl _) (by rw [gm];omega) (by omega) w;rw [ny] at this;exact this
 have HM:=af qB;clear qB hi kJ ny gm;have aE:∀a b:Obj,Below w.heap.size w ((w.alloc a).alloc b):=fun a b=>((Below.refl _ _).alloc (Nat.le_refl _) _).alloc (by simp) _;have BEL:=af aE;clear aE;have qB:=HM.o (sJ n) (min (max n 1) 128) (by unfold sJ;split<;>(try split)<;>omega) cb.2;have CB:=af cb;clear cb HM;go_enter Tryz.func26,Tryz.ntmps26;go_wp2_with fail;go_ret;exact ⟨w.heap.size+1,rfl,by omega,Yo w _ CB.o.1 CB.o.2,BEL.o _ _⟩
end aX
namespace aX
open Go.RowKit base obj mem aW
section
variable {m:DS} {L g:Nat} {F:Nat→Prop} {wv:Value} {w w' w1 w3:World}
theorem MQ (i:Int):(Tryz.prog.built 139 [(0,ae aa i)])=some (hU i):=by kernel_rfl
theorem ON (i:Int):(Tryz.prog.info? 139).map (·.size)=some (hU i).size:=by kernel_rfl
theorem OM (i:Int):(Tryz.zeroCells139).size=(hU i).size:=rfl
theorem Hn (i:Int):∀v∈(hU i).toList,v.oneCell'=true:=by
 intro v hv;simp only [hU,List.mem_cons,List.mem_replicate] at hv;rcases hv with rfl|⟨_,rfl⟩<;>rfl
def ek (i:Nat) (bs:List Int):Array Value:=(aU (i,bs)).toArray
theorem PC (i:Nat) (bs:List Int) (h:bs.length=64):((hU i).toList.take 1++(bs.map (Value.int .u8)++(hU i).toList.drop (1+(bs.map (Value.int .u8)).length))).toArray=ek i bs:=by
 have e:(1+(bs.map (Value.int .u8)).length)=65:=by simp [h]
 rw [e];simp [hU,ek,aU]
theorem Nn:(Tryz.prog.info? 5).map (·.size)=some 1:=by kernel_rfl
theorem Addr.block_add (a:Addr) (j:Nat):(a.add j).block=a.block:=by unfold Go.Addr.add;split<;>rfl
theorem Zy (h:Row w g 135 (kx L wv m)) {n:Nat} {xs:List Value} (ho:w.ownsRow 0 139 65 wv n xs) {ad:Addr} (hc:∃j x,w.cell? (ad.add j)=some (.int .u8 x)):ad.block≠g:=by
 rintro rfl;obtain ⟨j,x,hx⟩:=hc;have hs:=World.cell?_spot hx
 have:ad.add j=⟨ad.block,(ad.add j).off,none⟩:=by
  have hb:=Addr.block_add ad j;cases he:ad.add j with
  | mk b o s=>rw [he] at hs hb;simp only at hs hb;subst hs;subst hb;rfl
 rw [this,h.cell] at hx;generalize (ad.add j).off=k at hx
 match k,hx with
 | 0,hx=>simp [kx] at hx
 | 1,hx =>
   simp [kx] at hx;subst hx;rcases ho.2 with ⟨e,_⟩|⟨_,_,_,e,_⟩<;>cases e
 | 2,hx=>simp [kx] at hx
 | 3,hx=>simp [kx] at hx
 | k+4,hx=>simp [kx] at hx
theorem BH :∀i,F i→EP F w w' i:=fun i h=>.inl h
theorem tO (h:Kept (One g) w w') (hg:F g):Kept F w w':=h.mono fun i _ e=>by rw [e];exact hg
theorem yv (h:dA w1 F g L wv m) {R R':Obj} (hg:((w1.alloc R).drew.alloc R').grownBy w3 wv.ownBlock) :
  Row w3 g 135 (kx L wv m)∧Row w3 L 137 (m.ar.map aT).flatten:=by
 have h1:Row ((w1.alloc R).drew.alloc R') g 135 (kx L wv m):=((h.mr.alloc R).drew).alloc R';have h2:Row ((w1.alloc R).drew.alloc R') L 137 (m.ar.map aT).flatten:=((h.laid.alloc R).drew).alloc R';exact ⟨(hg.block g h1.lt (fun e=>h.gw e.symm)).trans h1,(hg.block L h2.lt (fun e=>h.lw e.symm)).trans h2⟩
theorem QV {n:Nat} {bs:List Int} (hL:bs.length=64) (hn:n < m.ar.length) (h:dA w1 F g L wv m) (hk:Kept (One g) w w1) {R R':Obj}
  (hg:((w1.alloc R).drew.alloc R').grownBy w3 wv.ownBlock) {g2 cap:Nat} (ho:w3.ownsRow 0 139 65 (.slice (some ⟨g2,0,none⟩) (m.waits.length+1) cap) (m.waits.length+1) ((m.waits.map aU).flatten++aU (n,bs)))
  (kU:wv.ownBlock=some g2∨((w1.alloc R).drew.alloc R').heap.size≤g2) (aH:g2 < w3.heap.size) :
  iL (w3.setCell ⟨g,1,none⟩ (.slice (some ⟨g2,0,none⟩) (m.waits.length+1) cap)) (EP F w (w3.setCell ⟨g,1,none⟩ (.slice (some ⟨g2,0,none⟩) (m.waits.length+1) cap))) g (m.put n bs)∧
   Kept F w (w3.setCell ⟨g,1,none⟩ (.slice (some ⟨g2,0,none⟩) (m.waits.length+1) cap)):=by
 obtain ⟨r1,r2⟩:=yv h hg;have iP:((w1.alloc R).drew.alloc R').heap.size=w1.heap.size+2:=by simp [heap_drew]
 have uP:g2≠g:=by
  rcases kU with e|e
  ·rintro rfl;exact h.gw e
  ·have:=h.mr.lt;omega
 refine ⟨⟨L,.slice (some ⟨g2,0,none⟩) (m.waits.length+1) cap,DS.Ej h.bu hn hL,?_,?_,?_,.inl h.fg,.inl h.fl,fun k IH=>?_⟩,?_⟩
 ·have:=r1.setCell 1 (.slice (some ⟨g2,0,none⟩) (m.waits.length+1) cap);exact this
 ·exact r2.dV (p:=⟨g,1,none⟩) (Ne.symm h.gl) _
 ·have e:((m.put n bs).waits.map aU).flatten=(m.waits.map aU).flatten++aU (n,bs):=by simp [DS.put]
  have e2:(m.put n bs).waits.length=m.waits.length+1:=by simp [DS.put]
  rw [e,e2];exact ownsRow_setCell_other ho (a:=⟨g,1,none⟩) (by simp [Value.ownBlock,uP]) _
 ·simp only [Value.ownBlock,Option.some.injEq] at IH;subst IH;rcases kU with e|e
  ·exact .inl (h.fw _ e)
  ·have:=hk.size;exact .inr ⟨by omega,by simpa [World.setCell] using aH⟩
 ·refine Kept.setCell ?_ (.inl h.fg) _;have k1:Kept F w ((w1.alloc R).drew.alloc R'):=(((tO hk h.fg).alloc R).drew).alloc R';exact k1.trans (Kept.Ep hg (fun i=>F i) (fun k hk=>h.fw k hk)) (fun i h=>h) (fun i h _=>h)
theorem xt (p:Nat×List Int):∀u∈aU p,u.oneCell'=true:=by
 intro u hu;rcases List.mem_cons.1 hu with rfl|hu
 ·rfl
 ·exact ji _ u hu
theorem kf (h:dA w F g L wv m) (i:Int) (A:Option Addr) (c:Nat) (bs:List Int) (hs:Sl w w.heap.size 1 A bs.length (bs.map (.int .u8))) (fF:m.waits.length≤1000000) :
  Calls Tryz.prog 29 #[.pointer (some ⟨g,0,none⟩),ae aa i,.slice A bs.length c] w fun e w'=>e=.returned (ae aa (m.write i bs).1)∧iL w' (EP F w w') g (m.write i bs).2∧Kept F w w':=by
 have H:=af h;have HW:=af (kO h i);have HS:=af hs;clear hs;by_cases hi:i < 0∨m.ar.length≤i
 ·have e1:m.write i bs=(3,m):=by rw [DS.write,if_pos hi]
  rw [if_pos hi] at HW;rw [e1];clear e1 hi h;go_enter Tryz.func29,Tryz.ntmps29;go_wp2_with fail;refine HW.o.mono ?_;rintro e w' ⟨rfl,rfl⟩;go_wp2_with fail;go_ret;exact ⟨rfl,⟨L,wv,H.o.more BH⟩,Kept.refl _ _⟩
 ·rw [if_neg hi] at HW;by_cases hl:bs.length=64
  ·have e2:m.write i bs=if m.goes then (0,m.bR.put i.toNat bs) else (8,m.bR):=by rw [DS.write,if_neg hi,if_neg (by simpa using hl)]
   obtain ⟨n,rfl⟩:=Int.eq_ofNat_of_zero_le (show 0≤i by omega);have HB:=af (Ov h);cases hg:m.goes
   ·rw [hg] at e2 HB;simp only [Bool.false_eq_true,if_false] at e2;rw [e2];have hl':((bs.length:Int) != 64)=false:=by simp;omega
    have uN:((bs.length:Int)==64)=true:=by simp;omega
    clear e2 hg hl hi h;go_enter Tryz.func29,Tryz.ntmps29;go_wp2_with fail;refine HW.o.mono ?_;rintro e w' ⟨rfl,rfl⟩;go_wp2_with fail;refine HB.o.mono ?_;rintro e w' ⟨rfl,hd,hk⟩;have HD:=af hd;have HK:=af hk;clear hd hk;go_wp2_with fail;go_ret;exact ⟨rfl,⟨L,wv,HD.o.more BH⟩,tO HK.o H.o.fg⟩
   ·rw [hg] at e2 HB;simp only [if_true] at e2;rw [e2];have hl':((bs.length:Int) != 64)=false:=by simp;omega
    have uN:((bs.length:Int)==64)=true:=by simp;omega
    have HL:=af hl;have eE:n < m.ar.length:=by omega
    have hb:=MQ n;clear e2 hg hi h hl;go_enter Tryz.func29,Tryz.ntmps29;go_wp2_with fail;refine HW.o.mono ?_;rintro e w' ⟨rfl,rfl⟩;go_wp2_with fail;refine HB.o.mono ?_;rintro e w1 ⟨rfl,hd,hk⟩;obtain ⟨c0,c1,c2,c3⟩:=hd.read;have f1:=hd.mr.frozen 1;have HD:=af hd;have HK:=af hk;clear hd hk;clear c0 c2 c3;have z1:=ON n;have z2:=OM n;have z3:=Hn n;have Z1:=af z1;have Z2:=af z2;have Z3:=af z3;have Bb:=af (PC n bs HL.o);have dk:=Sl.src (HS.o) (by rw [HL.o];omega);obtain ⟨ad,rfl,acN,VZ⟩:=dk
    have rN:ad.block≠g:=Zy H.o.mr H.o.own (by
     have:=VZ 0 (.int .u8 (bs[0]'(by rw [HL.o];omega))) (by simp)
     exact ⟨_,_,this⟩)
    have Xj:∀j v,(bs.map (Value.int .u8))[j]?=some v→w1.cell? (ad.add j)=some v:=fun j v hv=>by
     rw [HK.o.cell (p:=ad.add j) (by rw [Addr.block_add];exact acN) (by rw [Addr.block_add];exact rN)];exact VZ j v hv
    have HA:=af Xj;have aaw:(bs.map (Value.int .u8)).length=Nat.min bs.length 64:=by simp [HL.o]
    have HM:=af aaw;have oq:1+(bs.map (Value.int .u8)).length≤(hU n).size:=by simp [HL.o,hU]
    have HF:=af oq
    have IE:∀w2:World,(loadVar 139 ⟨w2.heap.size,0,none⟩).run Tryz.prog (w2.alloc (.cells (ek n bs) 139)).drew=.ok (.agg (ek n bs)) (w2.alloc (.cells (ek n bs) 139)).drew:=fun w2=>by
     refine run_loadVar_row _ w2.heap.size 139 139 (ek n bs) (0,0) _ (heap_alloc_new w2 _) Tryz.underlying139 rfl ?_;rw [show (ek n bs).size=65 by simp [ek,aU,HL.o]]
     kernel_rfl
    have HLV:=af IE;have Ml:=af HD.o.own;have lsz:(ek n bs).size=65:=by simp [ek,aU,HL.o]
    have LZ:=af (show (Tryz.prog.info? 139).map (fun i=>(i.zero.isSome,i.size))=some (true,(ek n bs).size) by rw [lsz];kernel_rfl);have LP:=af (show 0 < (ek n bs).size by omega);have LQ:=af (show (ek n bs).size≤16777216 by omega);clear lsz
    have sl:∀w2:World,Sl ((w2.alloc (.cells (ek n bs) 139)).drew.alloc (.cells (ek n bs) 139)) (w2.heap.size+2) 65 (some ⟨(w2.alloc (.cells (ek n bs) 139)).drew.heap.size,0,none⟩) 1 (aU (n,bs)):=fun w2=>by
     have hr:=Row.new (w2.alloc (.cells (ek n bs) 139)).drew 139 (ek n bs);have Sx:(aU (n,bs)).length=1*65:=by simp [aU,HL.o]
     refine hr.sl (by simp [heap_drew]) ?_ Sx;rw [←Sx];simp [ek]
    have SL:=af sl
    have sl2:∀w2:World,Sl ((w2.alloc (.cells (ek n bs) 139)).alloc (.cells (ek n bs) 139)).drew (w2.heap.size+2) 65 (some ⟨w2.heap.size+1,0,none⟩) 1 (aU (n,bs)):=fun w2=>by
     have:=sl w2;rw [show (w2.alloc (.cells (ek n bs) 139)).drew.heap.size=w2.heap.size+1 by simp [heap_drew]] at this;exact this
    have SL2:=af sl2;clear sl sl2;have adQ:m.bR.waits.length≤1000000:=by rw [DS.fN];exact fF
    have bh:=af (show (m.bR.waits.length+1)*72≤140737488355328 by omega);have aO:=af (show m.bR.waits.length+1≤maxLen by unfold maxLen;omega);have xT:=HD.o.mr.lt;have ad4:g≤w1.heap.size:=by omega
    have HN:=af (show n < m.bR.ar.length by rw [DS.iw];exact eE);clear IE;clear z1 z2 z3 Xj aaw oq VZ
    go_wp2_with (first
     | (with_reducible refine ie rfl 139 (.tmp 8) (.tmp 22) rfl (hU n) Tryz.zeroCells139 _ _ rfl rfl Z1.o Z2.o Z3.o ?_)
     | (with_reducible refine sa rfl (.tmp 24) (.tmp 25) 24 24 rfl Tryz.underlying24 Nn _ 1 64 64 ad _ _ rfl rfl (hU n) _ (bs.map (Value.int .u8)) HM.o HA.o HF.o (ji bs) (ek n bs) Bb.o ?_))
    refine fK [0,1,2,3,5] [[4,6,7,8,9,10],[6,4,7,8,9,10]] (by kernel_rfl) (by kernel_rfl) (fun _ _ _ _ _ h=>h) ?_;simp only [mU,pick,xG]
    still_step
    still_step
    still_step
    still_step
    refine tX rfl 139 (.tmp 8) rfl (ek n bs) _ rfl (HLV.o _) ?_;refine wpStill_nil ?_;refine ⟨?_,?_⟩
    all_goals
     go_wp2_with (first
      | (with_reducible refine JL rfl 133 (.tmp 32) rfl Tryz.underlying133 (ek n bs) rfl LZ.o LP.o LQ.o ?_)
      | (refine tK Rf rfl (.tmp 31) (.tmp 33) rfl (base:=0) (Ml.o.alloc _ |>.drew |>.alloc _) rfl rfl (SL.o _) (xt _) (by omega) bh.o aO.o (Nat.zero_le _) ?_;intro g2 cap w3 ho hg kU aH;obtain ⟨r1,r2⟩:=yv HD.o hg;have c4:=r1.c1;have f4:=r1.frozen 1;have HO:=af ho;have HG:=af hg;have HOR:=af kU;have yi:=af aH;clear ho hg kU aH r1 r2 c1 f1)
      | (refine tK Rf rfl (.tmp 31) (.tmp 33) rfl (base:=0) (Ml.o.alloc _ |>.alloc _ |>.drew) rfl rfl (SL2.o _) (xt _) (by omega) bh.o aO.o (Nat.zero_le _) ?_;intro g2 cap w3 ho hg kU aH;obtain ⟨r1,r2⟩:=yv HD.o hg;have c4:=r1.c1;have f4:=r1.frozen 1;have HO:=af ho;have HG:=af hg;have HOR:=af kU;have yi:=af aH;clear ho hg kU aH r1 r2 c1 f1))
     go_ret;exact ⟨rfl,QV HL.o HN.o HD.o HK.o HG.o HO.o HOR.o yi.o⟩
  ·have e1:m.write i bs=(14,m):=by rw [DS.write,if_neg hi,if_pos (by simpa using hl)]
   rw [e1];have hl':((bs.length:Int) != 64)=true:=by simp;omega
   have uN:((bs.length:Int)==64)=false:=by simp;omega
   clear e1 hi h hl;go_enter Tryz.func29,Tryz.ntmps29;go_wp2_with fail;refine HW.o.mono ?_;rintro e w' ⟨rfl,rfl⟩;go_wp2_with fail;go_ret;exact ⟨rfl,⟨L,wv,H.o.more BH⟩,Kept.refl _ _⟩
end
section
variable {m:DS} {xs:List Value} {L g k n:Nat} {F:Nat→Prop} {wv:Value} {w wr:World}
theorem ep (s:List Int):(aT s).length=s.length:=by simp [aT]
theorem ox (p:Nat×List Int):(aU p).length=p.2.length+1:=by simp [aU]
theorem CK (s:List Int):∀u∈aT s,u.oneCell'=true:=ji s
theorem wm {s:List Int} (h:s.length=64):(Tryz.prog.info? 137).map (·.size)=some (aT s).length:=by
 rw [ep,h];kernel_rfl
theorem xv {p:Nat×List Int} (h:p.2.length=64):(Tryz.prog.info? 139).map (·.size)=some (aU p).length:=by
 rw [ox,h];kernel_rfl
theorem yw (h:m.Good):∀x∈m.ar.map aT,x.length=64:=by
 intro x hx;obtain ⟨s,hs,rfl⟩:=List.mem_map.1 hx;rw [ep];exact h.ar s hs
theorem LK (h:m.Good):∀x∈m.waits.map aU,x.length=65:=by
 intro x hx;obtain ⟨s,hs,rfl⟩:=List.mem_map.1 hx;rw [ox,(h.waits s hs).2]
theorem ZC (h:m.Good) {n:Nat} (hn:n < m.ar.length):((m.ar.map aT).flatten.drop (n*64)).take (aT (m.ar.getD n [])).length=aT (m.ar.getD n []):=by
 have e:m.ar.getD n []=m.ar[n]:=by simp [hn]
 rw [e,ep,h.ar _ (List.getElem_mem hn),rQ (yw h) (by simpa using hn)];simp
theorem nu {base:Nat} {e:TypeId} {size:Nat} {v:Value} (h:w.ownsRow base e size v n xs) (hn:0 < n):∃W c cur,v=.slice (some ⟨W,0,none⟩) n c∧Row w W e cur∧cur.take (n*size)=xs:=by
 rcases h.2 with ⟨_,h0⟩|⟨g,cap,cur,rfl,_,hg,_,_,_,ht⟩
 ·omega
 ·exact ⟨g,cap,cur.toList,rfl,by unfold Row;simpa using hg,ht⟩
theorem Nj (h:m.Good) {cur:List Value} (hc:cur.take (m.waits.length*65)=(m.waits.map aU).flatten) {k:Nat} (hk:k < m.waits.length):(cur.drop (k*65)).take (aU m.waits[k]).length=aU m.waits[k]:=by
 have h65:(aU m.waits[k]).length=65:=by rw [ox,(h.waits _ (List.getElem_mem hk)).2]
 have e:=rQ (LK h) (i:=k) (by simpa using hk);rw [←hc] at e;rw [h65]
 have:((cur.take (m.waits.length*65)).drop (k*65)).take 65=(cur.drop (k*65)).take 65:=by
  rw [List.drop_take,List.take_take]
  congr 1
  have:(k+1)*65≤m.waits.length*65:=Nat.mul_le_mul_right 65 hk;omega
 rw [this] at e;rw [e];simp
def En (s:List Int):Array Value:=(s.map (Value.int .u8)).toArray
structure tL (w:World) (m:DS) (n k:Nat) (wr:World):Prop where
 row:Row wr w.heap.size 137 (aT (jP m.waits (m.ar.getD n []) n k))
 aE:Below w.heap.size w wr
theorem Pm (h:dA w F g L wv m) {n:Nat} {s0:List Value} (e:aT (m.ar.getD n [])=s0):tL w m n 0 (w.alloc (.cells s0.toArray 137)):=by
 refine ⟨?_,(Below.refl _ _).alloc (Nat.le_refl _) _⟩;subst e;exact Row.new w 137 _
theorem Ry (h:dA w F g L wv m) {n k:Nat} (hr:tL w m n k wr) (hk:k < m.waits.length) {A:Option Addr} {c:Nat} (hv:wv=.slice A m.waits.length c) :
  ∃W cur,A=some ⟨W,0,none⟩∧Row wr W 139 cur∧(cur.drop (k*65)).take (aU m.waits[k]).length=aU m.waits[k]:=by
 obtain ⟨W,c',cur,Fz,bo,VV⟩:=nu h.own (by omega);rw [hv] at Fz;injection Fz with h1 h2 h3
 exact ⟨W,cur,h1,bo.below hr.aE bo.lt,Nj h.bu VV hk⟩
theorem Hq (p:Nat×List Int):((aU p).drop 1).take (aT p.2).length=aT p.2:=by
 simp only [aU,List.drop_succ_cons,List.drop_zero,aT];exact List.take_of_length_le (by simp)
theorem Rz (h:tL w m n k wr) (hk:k < m.waits.length) (e:m.waits[k].1≠n) (o:Obj):tL w m n (k+1) (wr.alloc o):=by
 refine ⟨?_,h.aE.alloc h.aE.size _⟩;rw [vo hk e];exact h.row.alloc o
theorem U5 (h:tL w m n k wr) (hk:k < m.waits.length) (e:m.waits[k].1=n) (o:Obj) :
  tL w m n (k+1) ((wr.alloc o).setRow w.heap.size (aT m.waits[k].2).toArray):=by
 refine ⟨?_,below_setRow (h.aE.alloc h.aE.size _) (Nat.le_refl _) _⟩;rw [BG hk e];exact (h.row.alloc o).setRow _
theorem QZ {ys:List Value} (h:xs.length=ys.length):xs.take 0++ys.toArray.toList++xs.drop (0+ys.toArray.size)=ys:=by
 rw [List.drop_of_length_le (by simp [h])];simp
theorem KD (h:dA w F g L wv m) (n:Nat) (hn:n < m.ar.length) (hd:m.down=false) (fF:m.waits.length≤1000000) :
  Calls Tryz.prog 28 #[.pointer (some ⟨g,0,none⟩),ae aa n] w fun e w'=>∃b,e=.returned (.tuple #[.slice (some ⟨b,0,none⟩) 64 64,ae aa 0])∧w.heap.size≤b∧Row w' b 5 ((m.now n).map (.int .u8))∧Below w.heap.size w w':=by
 obtain ⟨c0,c1,c2,c3⟩:=h.read;have hw:=kO h n;rw [if_neg (by omega)] at hw;have HW:=af hw;have H:=af h;rw [hd] at c3;have xT:=h.mr.lt;have J0:=h.bu
 have sF:(m.ar.getD n []).length=64:=by
  have e:m.ar.getD n []=m.ar[n]:=by simp [hn]
  rw [e];exact J0.ar _ (List.getElem_mem hn)
 have HSA:=af (ZC J0 hn);have mv:=af (wm sF);have HLA:=af h.laid;have H64:=af sF;have HG:=af J0;have nX:=af (show (aT (m.ar.getD n [])).toArray.size=64 by rw [List.size_toArray,ep,sF]);have z2:th.size=(aT (m.ar.getD n [])).toArray.size:=by rw [nX.o];rfl
 have Ju:=af z2;have HZ1:=af (show (Tryz.prog.info? 137).map (·.size)=some (aT (m.ar.getD n [])).toArray.size by rw [nX.o];kernel_rfl);have My:=af (show ∀v∈(aT (m.ar.getD n [])).toArray.toList,v.oneCell'=true by simpa using CK (m.ar.getD n []));clear hw h hd z2 sF J0 c2;obtain ⟨A,wc,K8,_⟩:=aD H.o.own;rw [K8] at c1;have TK:=af K8;clear K8;generalize BM:aT (m.ar.getD n [])=s0 at *;have Mv:=af BM;clear BM;have ZI:=af (show (Tryz.prog.info? 137).map (·.zero)=some (some (.agg th)) by kernel_rfl);go_enter Tryz.func28,Tryz.ntmps28;go_wp2_with fail;refine HW.o.mono ?_;rintro e w' ⟨rfl,rfl⟩
 go_wp2_with (first
  | (with_reducible refine jM rfl 137 (.tmp 26) rfl L _ rfl s0 _ HLA.o HSA.o Tryz.underlying137 rfl mv.o ?_)
  | (with_reducible refine ig rfl 137 rfl (.agg th) ZI.o ?_)
  | (refine ie rfl 137 (.tmp 7) (.tmp 27) rfl s0.toArray th _ _ rfl rfl HZ1.o Ju.o My.o ?_))
 have HB:=af (Pm H.o (s0:=s0) Mv.o);go_loopw [33] (fun i wr=>∃k:Nat,k≤m.waits.length∧i=ae aa k∧tL w m n k wr) (fun i _=>m.waits.length-(intOf i).toNat)
 case atStart=>exact ⟨0,by omega,rfl,HB.o⟩
 case round =>
  obtain ⟨k,hk,rfl,oM⟩:=hrel;have HR:=af oM;clear oM;by_cases aH:k < m.waits.length
  ·obtain ⟨W,cur,hA,bo,mo⟩:=Ry H.o HR.o aH TK.o;have hM:=af bo;have HAT:=af mo;have yi:=af aH;subst hA;clear bo mo;have aas:=(HG.o.waits _ (List.getElem_mem aH)).2;have HP:=af aas;have iR:=af HR.o.row;have HN:=af (xB (at_:=n) (fun p hp=>(HG.o.waits p hp).2) H64.o k (by omega));have RM:=af (Rz HR.o aH);have RH:=af (U5 HR.o aH);have HB:=af HR.o.aE.size;generalize FH:m.waits[k]=p at *;have HPP:=af FH;have uQ:(aU p).toArray[0]?=some (ae aa p.1):=rfl;have W1:=af (xv HP.o);have W2:=af (show (Tryz.prog.info? 139).map (·.size)=some (aU p).toArray.size by simpa using xv HP.o);have W3:=af (show (hU 0).size=(aU p).toArray.size by rw [show (aU p).toArray.size=65 by rw [List.size_toArray,ox,HP.o]];rfl);have W4:=af (show ∀v∈(aU p).toArray.toList,v.oneCell'=true by simpa using xt p);have W5:=af (show (Tryz.prog.info? 139).map (·.zero)=some (some (.agg (hU 0))) by kernel_rfl);have W6:=af (Row.new wr 139 (aU p).toArray);have W7:=af (Hq p);have W8:=af (wm HP.o);have W9:=af (iR.o.alloc (.cells (aU p).toArray 139));have X1:=af (show (Tryz.prog.info? 137).map (·.size)=some (aT p.2).toArray.size by simpa using wm HP.o);have X2:=af (show 0+(aT p.2).toArray.size≤(aT (jP m.waits (m.ar.getD n []) n k)).length by rw [List.size_toArray,ep,ep,HP.o,HN.o];omega);have X3:=af (show ∀v∈(aT p.2).toArray.toList,v.oneCell'=true by simpa using CK p.2);have X4:=af (QZ (xs:=aT (jP m.waits (m.ar.getD n []) n k)) (ys:=aT p.2) (by rw [ep,ep,HP.o,HN.o]));clear aas FH;by_cases mo:p.1=n
   ·have hb:((p.1:Int)==(n:Int))=true:=by simp [mo]
    have HE:=af mo;clear mo
    go_wp2_with (first
     | (with_reducible refine jM rfl 139 (.tmp 35) rfl W _ rfl (aU p) _ hM.o HAT.o Tryz.underlying139 rfl W1.o ?_)
     | (with_reducible refine ig rfl 139 rfl (.agg (hU 0)) W5.o ?_)
     | (refine ie rfl 139 (.tmp 9) (.tmp 36) rfl (aU p).toArray (hU 0) _ _ rfl rfl W2.o W3.o W4.o ?_)
     | (with_reducible refine jM rfl 137 (.tmp 41) rfl wr.heap.size 1 rfl (aT p.2) _ W6.o W7.o Tryz.underlying137 rfl W8.o ?_)
     | (with_reducible refine aB rfl 137 (.tmp 7) (.tmp 42) rfl w.heap.size 0 (aT p.2).toArray rfl rfl W9.o X1.o X2.o X3.o (aT p.2) X4.o ?_))
    go_roundw;case rel=>exact ⟨k+1,by omega,by go_num,RH.o HE.o _⟩
    case measure=>simp [intOf];omega
   ·have hb:((p.1:Int)==(n:Int))=false:=by simp;omega
    have HE:=af mo;clear mo
    go_wp2_with (first
     | (with_reducible refine jM rfl 139 (.tmp 35) rfl W _ rfl (aU p) _ hM.o HAT.o Tryz.underlying139 rfl W1.o ?_)
     | (with_reducible refine ig rfl 139 rfl (.agg (hU 0)) W5.o ?_)
     | (refine ie rfl 139 (.tmp 9) (.tmp 36) rfl (aU p).toArray (hU 0) _ _ rfl rfl W2.o W3.o W4.o ?_))
    go_roundw;case rel=>exact ⟨k+1,by omega,by go_num,RM.o HE.o _⟩
    case measure=>simp [intOf];omega
  ·obtain rfl:k=m.waits.length:=by omega
   have iR:=af HR.o.row;have HB:=af HR.o.aE;have e1:jP m.waits (m.ar.getD n []) n m.waits.length=m.now n:=rfl;rw [e1] at iR;have hl:=xB (at_:=n) (fun p hp=>(HG.o.waits p hp).2) H64.o m.waits.length (by omega);rw [e1] at hl;have HNL:=af hl;have qB:∀w:World,(Instr.makeSlice 24 (ae aa 64) (ae aa 64)).run Tryz.prog w=.ok (.slice (some ⟨w.heap.size,0,none⟩) 64 64) (w.alloc (.cells th 5)):=fun w=>by kernel_rfl
   have C1:=af (show (aT (m.now n)).length=Nat.min 64 64 by rw [ep,hl];rfl)
   have C2:=af (show ∀j v,(aT (m.now n))[j]?=some v→wr.cell? ((⟨w.heap.size,0,none⟩:Addr).add j)=some v from fun j v hv=>by
    rw [Addr.add_mid,Nat.zero_add,iR.o.cell j];exact hv)
   have C3:=af (show 0+(aT (m.now n)).length≤th.size by rw [ep,hl];exact Nat.le_refl _)
   have C4:=af (show (th.toList.take 0++(aT (m.now n)++th.toList.drop (0+(aT (m.now n)).length))).toArray=En (m.now n) by
    rw [List.take_zero,List.nil_append,List.drop_of_length_le (by rw [ep,hl];exact Nat.le_refl _),List.append_nil];rfl)
   have hNr:=HB.o.size;clear hl e1 hk;go_wp2_with (refine sa rfl (.tmp 45) (.tmp 46) 24 24 rfl Tryz.underlying24 Nn _ 0 64 64 ⟨w.heap.size,0,none⟩ _ _ rfl rfl th _ (aT (m.now n)) C1.o C2.o C3.o (CK _) (En (m.now n)) C4.o ?_);go_ret2;refine ⟨wr.heap.size,rfl,hNr,?_,HB.o.alloc hNr _⟩;exact Row.new wr 5 (En (m.now n))
theorem yG (h:dA w F g L wv m) (i:Int) (fF:m.waits.length≤1000000) :
  Calls Tryz.prog 28 #[.pointer (some ⟨g,0,none⟩),ae aa i] w fun e w' =>
   (if i < 0∨m.ar.length≤i then e=.returned (.tuple #[.slice none 0 0,ae aa 3]) else if m.down then e=.returned (.tuple #[.slice none 0 0,ae aa 8])
    else ∃b,e=.returned (.tuple #[.slice (some ⟨b,0,none⟩) 64 64,ae aa 0])∧w.heap.size≤b∧Row w' b 5 ((m.now i.toNat).map (.int .u8)))∧Below w.heap.size w w':=by
 have hw:=kO h i;by_cases hi:i < 0∨m.ar.length≤i
 ·simp only [if_pos hi] at hw ⊢;have HW:=af hw;clear hw hi h;go_enter Tryz.func28,Tryz.ntmps28;go_wp2_with fail;refine HW.o.mono ?_;rintro e w' ⟨rfl,rfl⟩;go_wp2_with fail;go_ret2;exact ⟨rfl,Below.refl _ _⟩
 ·simp only [if_neg hi] at hw ⊢;cases hd:m.down
  ·obtain ⟨n,rfl⟩:=Int.eq_ofNat_of_zero_le (show 0≤i by omega);refine (KD h n (by omega) hd fF).mono ?_;rintro e w' ⟨b,h1,h2,h3,h4⟩;exact ⟨by simpa using ⟨b,h1,h2,h3⟩,h4⟩
  ·simp only [if_true];obtain ⟨c0,c1,c2,c3⟩:=h.read;rw [hd] at c3;have HW:=af hw;clear hw hi h hd c0 c1 c2;go_enter Tryz.func28,Tryz.ntmps28;go_wp2_with fail;refine HW.o.mono ?_;rintro e w' ⟨rfl,rfl⟩;go_wp2_with fail;go_ret2;exact ⟨rfl,Below.refl _ _⟩
end
end aX
end Go.Proofs.YtdldkkoplgkloaaGreat
