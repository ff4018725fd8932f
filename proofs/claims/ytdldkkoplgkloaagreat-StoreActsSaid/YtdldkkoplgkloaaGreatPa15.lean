/- PROVED HERE: lemmas of the law. CONDITIONS: each names its own. -/
import Derived.Laws.ShiftsVar
import Derived.WalkSmall
import Derived.Test.YtdldkkoplgkloaaGreatPa0
import Derived.Test.YtdldkkoplgkloaaGreatPa1
import Derived.Test.YtdldkkoplgkloaaGreatPa3
import Derived.Test.YtdldkkoplgkloaaGreatPa14
namespace Go.Proofs.YtdldkkoplgkloaaGreat
set_option linter.unusedVariables false
set_option linter.unusedSimpArgs false
set_option maxRecDepth 100000
set_option maxHeartbeats 32000000
open Go.Value renaming int → ae
open Go.IntKind renaming i64 → aa
namespace aX
open Go.RowKit base obj mem aW
section
variable {L c g k:Nat} {F:Nat→Prop} {wv:Value} {w w2 wr:World}
def DS.laid (m:DS) (p:Nat→Bool) (k:Nat):DS:={ m with ar:=iq p m.waits m.ar k }
theorem Ip {m:DS} (h:m.Good) (p:Nat→Bool) (k:Nat):(m.laid p k).Good:=by
 have e:=kI p m.waits m.ar k;refine ⟨Ew (fun q hq=>(h.waits q hq).2) h.ar _,fun q hq=>?_,h.CX,h.CW,?_,?_⟩
 ·show _ < (iq _ _ _ _).length∧_
  rw [e];exact h.waits q hq
 ·show 1≤(iq _ _ _ _).length
  rw [e];exact h.n0
 ·show (iq _ _ _ _).length≤128
  rw [e];exact h.n1
structure sM (w:World) (F:Nat→Prop) (g L:Nat) (wv:Value) (m:DS) (p:Nat→Bool) (k:Nat) (wr:World):Prop where
 aX:dA wr F g L wv (m.laid p k)
 kept:Kept F w wr
theorem Vu {m:DS} {p:Nat→Bool} (h:sM w F g L wv m p k wr):wr.cell? ⟨g,0,none⟩=some (.slice (some ⟨L,0,none⟩) m.ar.length m.ar.length)∧wr.cell? ⟨g,1,none⟩=some wv∧g < wr.heap.size:=by
 obtain ⟨c0,c1,_,_⟩:=h.aX.read;have e:(m.laid p k).ar.length=m.ar.length:=kI p m.waits m.ar k;rw [e] at c0;exact ⟨c0,c1,h.aX.mr.lt⟩
theorem Vt {m:DS} {p:Nat→Bool} (h:sM w F g L wv m p k wr) (hk:k < m.waits.length) {A:Option Addr} {c:Nat} (hv:wv=.slice A m.waits.length c) :
  ∃W cur,A=some ⟨W,0,none⟩∧Row wr W 139 cur∧(cur.drop (k*65)).take (aU m.waits[k]).length=aU m.waits[k]:=by
 obtain ⟨W,c',cur,Fz,bo,VV⟩:=nu h.aX.own (show 0 < m.waits.length by omega);rw [hv] at Fz;injection Fz with h1 h2 h3
 exact ⟨W,cur,h1,bo,Nj (m:=m.laid p k) h.aX.bu VV hk⟩
theorem Vv {m:DS} {p:Nat→Bool} (hk:k < m.waits.length) (hp:p k=true):(m.laid p (k+1)).ar=(m.laid p k).ar.set m.waits[k].1 m.waits[k].2:=BK hk hp
theorem YA {m:DS} {p:Nat→Bool} (hk:k < m.waits.length) (hp:p k=false):m.laid p (k+1)=m.laid p k:=by
 unfold DS.laid;rw [KY hk hp]
theorem Z4 {m:DS} {p:Nat→Bool} (h:sM w F g L wv m p k wr) (hk:k < m.waits.length) (hp:p k=false) (o:Obj):sM w F g L wv m p (k+1) (wr.alloc o):=by
 refine ⟨?_,h.kept.alloc o⟩;rw [YA hk hp];exact h.aX.kept ((Kept.refl (fun _=>False) wr).alloc o) (fun _ _ h=>h)
theorem Yy {m:DS} {p:Nat→Bool} (hm:m.Good) (h:sM w F g L wv m p k wr) (hk:k < m.waits.length) (hp:p k=true) (eh:Kept (fun _=>False) wr w2) :
  sM w F g L wv m p (k+1) (w2.setRow L (((m.laid p k).ar.map aT).set m.waits[k].1 (aT m.waits[k].2)).flatten.toArray):=by
 have hd2:=h.aX.kept eh (fun _ _ h=>h);refine ⟨⟨Ip hm p (k+1),?_,?_,?_,h.aX.fg,h.aX.fl,h.aX.fw⟩,?_⟩
 ·have e:kx L wv (m.laid p (k+1))=kx L wv (m.laid p k):=by
   have e1:(m.laid p (k+1)).ar.length=m.ar.length:=kI p m.waits m.ar (k+1);have e2:(m.laid p k).ar.length=m.ar.length:=kI p m.waits m.ar k;simp only [kx,e1,e2];rfl
  rw [e];exact hd2.mr.setRow_other _ h.aX.gl
 ·rw [Vv hk hp,List.map_set];exact hd2.laid.setRow _
 ·have k1:Kept (fun i=>i=L) w2 (w2.setRow L (((m.laid p k).ar.map aT).set m.waits[k].1 (aT m.waits[k].2)).flatten.toArray):=gz (Kept.refl (fun i=>i=L) _) (.inl (show L=L from rfl)) _;exact k1.own hd2.own (fun i hi e=>h.aX.lw (by rw [hi,e]))
 ·exact gz (h.kept.trans eh (fun i h=>h) (fun i h=>h.elim)) (.inl h.aX.fl) _
theorem Vf {base:Nat} {e:TypeId} {size n:Nat} {xs:List Value} (h:w.ownsRow base e size (.slice (some ⟨g,0,none⟩) n c) n xs):w.ownsRow base e size (.slice (some ⟨g,0,none⟩) 0 c) 0 []:=by
 rcases h.2 with ⟨e,_⟩|⟨g',cap,cur,e,hb,hg,_,hm,hs,_⟩
 ·cases e
 ·injection e with e1 e2 e3
  injection e1 with e1
  injection e1 with e1
  subst e1;subst e3;exact ⟨by simp,.inr ⟨g,c,cur,rfl,hb,hg,Nat.zero_le _,hm,hs,by simp⟩⟩
theorem NG {m:DS} {p:Nat→Bool} {A:Option Addr} (hm:m.Good) (h:sM w F g L (.slice A m.waits.length c) m p m.waits.length wr)
  (hg:wr.grownBy w2 (Value.ownBlock (.slice A m.waits.length c))) {ys:List Value} (ho:w2.ownsRow 0 139 65 (.slice A m.waits.length c) m.waits.length ys) :
  iL (w2.setCell ⟨g,1,none⟩ (.slice A 0 c)) F g (m.lay p)∧Kept F w (w2.setCell ⟨g,1,none⟩ (.slice A 0 c)):=by
 have hd:=h.aX;have hgw:=hd.gw;have Sx:=hd.lw;have b1:Row w2 g 135 (kx L (.slice A m.waits.length c) (m.laid p m.waits.length)):=(hg.block g hd.mr.lt (fun e=>hgw e.symm)).trans hd.mr;have b2:Row w2 L 137 ((m.laid p m.waits.length).ar.map aT).flatten:=(hg.block L hd.laid.lt (fun e=>Sx e.symm)).trans hd.laid;refine ⟨⟨L,.slice A 0 c,DS.Ev hm p,b1.setCell 1 _,b2.dV (p:=⟨g,1,none⟩) (Ne.symm hd.gl) _,?_,hd.fg,hd.fl,fun k hk=>hd.fw k ?_⟩,?_⟩
 ·refine ownsRow_setCell_other ?_ (a:=⟨g,1,none⟩) ?_ _
  ·rcases A with _|⟨b,o,sp⟩
   ·have hc:c=0:=yJ ho rfl;subst hc;exact World.ownsRow_nil _ _ _ _
   ·rcases ho.2 with ⟨e,_⟩|⟨g',cap,cur,e,_⟩
    ·cases e
    ·injection e with e1 e2 e3
     injection e1 with e1
     rw [e1] at ho ⊢;exact Vf ho
  ·intro e;exact hgw (by cases A<;>simp_all [Value.ownBlock])
 ·cases A<;>simp_all [Value.ownBlock]
 ·refine Kept.setCell ?_ (.inl hd.fg) _;exact h.kept.trans (Kept.Ep hg F (fun k hk=>hd.fw k hk)) (fun i h=>h) (fun i h _=>h)
theorem XW {m:DS} (h:m.Good) {i:Nat} (hi:i < m.ar.length) {b:List Int} (hb:b.length=64) :
  (m.ar.map aT).flatten.take (i*64)++(aT b).toArray.toList++(m.ar.map aT).flatten.drop (i*64+(aT b).toArray.size)=((m.ar.map aT).set i (aT b)).flatten:=by
 have e:(aT b).toArray.size=64:=by rw [List.size_toArray,ep,hb]
 have e2:=V5 (yw h) (i:=i) (by simpa using hi) (v:=aT b) (by rw [ep,hb]);rw [e];exact e2
theorem XX {m:DS} (h:m.Good) {i:Nat} (hi:i < m.ar.length) {b:List Int} (hb:b.length=64):i*64+(aT b).toArray.size≤(m.ar.map aT).flatten.length:=by
 rw [List.size_toArray,ep,hb,kX _ (yw h),iB];have:(i+1)*64≤m.ar.length*64:=Nat.mul_le_mul_right 64 hi;omega
theorem Sa {m:DS} (h:dA w F g L wv m) (p:Nat→Bool) (f:Nat) (jT:Array Value) (pM:∀(w:World) (i:Int),(callFunc f (#[ae aa i]++jT)).run Tryz.prog w=.ok (.enter f (#[ae aa i]++jT)) w)
  (hf:∀wr,Kept F w wr→∀i:Nat,i < m.waits.length→Calls Tryz.prog f (#[ae aa i]++jT) wr fun e w'=>e=.returned (.bool (p i))∧wr=w') (fF:m.waits.length≤1000000) :
  Calls Tryz.prog 79 #[.pointer (some ⟨g,0,none⟩),.func (.func f) #[] jT] w fun e w'=>e=.returned (.tuple #[])∧iL w' F g (m.lay p)∧Kept F w w':=by
 obtain ⟨c0,c1,c2,c3⟩:=h.read;obtain ⟨A,wc,K8,_⟩:=aD h.own;rw [K8] at c1;have TK:=af K8;have H:=af h;have HF:=af hf;have HG:=af h.bu;have bH:=af (sM.mk (p:=p) (k:=0) h (Kept.refl F w));clear K8 h hf c0 c2 c3;go_enter Tryz.func79,Tryz.ntmps79;go_wp2_with fail;go_loopw [11] (fun i wr=>∃k:Nat,k≤m.waits.length∧i=ae aa k∧sM w F g L wv m p k wr) (fun i _=>m.waits.length-(intOf i).toNat)
 case atStart=>exact ⟨0,by omega,rfl,bH.o⟩
 case round =>
  obtain ⟨k,hk,rfl,oM⟩:=hrel;have HR:=af oM;obtain ⟨r0,r1,r2⟩:=Vu oM;rw [TK.o] at r1;clear oM;by_cases aH:k < m.waits.length
  ·obtain ⟨W,cur,hA,bo,mo⟩:=Vt HR.o aH TK.o;have hM:=af bo;have HAT:=af mo;have yi:=af aH;subst hA;clear bo mo;have HP:=af ((HG.o.waits _ (List.getElem_mem aH)).2);have Dz:=(HG.o.waits _ (List.getElem_mem aH)).1;have RM:=af (Z4 HR.o aH);have RH:=af (fun w2=>Yy (w2:=w2) HG.o HR.o aH);generalize FH:m.waits[k]=q at *;have HPP:=af FH;have uQ:(aU q).toArray[0]?=some (ae aa q.1):=rfl;have W1:=af (xv HP.o);have W2:=af (show (Tryz.prog.info? 139).map (·.size)=some (aU q).toArray.size by simpa using xv HP.o);have W3:=af (show (hU 0).size=(aU q).toArray.size by rw [show (aU q).toArray.size=65 by rw [List.size_toArray,ox,HP.o]];rfl);have W4:=af (show ∀v∈(aU q).toArray.toList,v.oneCell'=true by simpa using xt q);have W5:=af (show (Tryz.prog.info? 139).map (·.zero)=some (some (.agg (hU 0))) by kernel_rfl);clear FH
   go_wp2_with (first
    | (with_reducible refine jM rfl 139 (.tmp 14) rfl W _ rfl (aU q) _ hM.o HAT.o Tryz.underlying139 rfl W1.o ?_)
    | (with_reducible refine ig rfl 139 rfl (.agg (hU 0)) W5.o ?_)
    | (refine ie rfl 139 (.tmp 5) (.tmp 15) rfl (aU q).toArray (hU 0) _ _ rfl rfl W2.o W3.o W4.o ?_))
   have CS:=HF.o _ (HR.o.kept.alloc (.cells (aU q).toArray 139)) k aH;have JE:=af (HR.o.aX.laid.alloc (.cells (aU q).toArray 139));have lJ:=af (show (m.laid p k).ar.length=m.ar.length from kI p m.waits m.ar k);have HGK:=af (Ip HG.o p k);cases wL:p k
   ·rw [wL] at CS;refine CS.mono ?_;rintro e w' ⟨rfl,rfl⟩;have ux:=af wL;clear CS wL;go_wp2_with fail;go_roundw;case rel=>exact ⟨k+1,by omega,by go_num,RM.o ux.o _⟩
    case measure=>simp [intOf];omega
   ·rw [wL] at CS;refine CS.mono ?_;rintro e w' ⟨rfl,rfl⟩;have ux:=af wL;have hb:=wL;have W6:=af (Row.new wr 139 (aU q).toArray);have W7:=af (Hq q);have W8:=af (wm HP.o)
    have IE:(loadVar 137 ⟨wr.heap.size,1,none⟩).run Tryz.prog (wr.alloc (.cells (aU q).toArray 139)).drew=.ok (.agg (aT q.2).toArray) (wr.alloc (.cells (aU q).toArray 139)).drew:=by
     refine run_loadVar_mid _ wr.heap.size 1 137 (aT q.2) _ ?_ Tryz.underlying137 rfl W8.o;rw [←W7.o];exact (W6.o.drew).range 1 _
    have HLV:=af IE;have i0:(0:Int)≤(q.1:Int):=by omega
    have i1:(q.1:Int) < (m.ar.length:Int):=by omega
    have r3:g≤wr.heap.size:=by omega
    have X1:=af (show (Tryz.prog.info? 137).map (·.size)=some (aT q.2).toArray.size by simpa using wm HP.o);have X2:=af (XX HGK.o (show q.1 < (m.laid p k).ar.length by rw [lJ.o];exact Dz) HP.o);have X3:=af (show ∀v∈(aT q.2).toArray.toList,v.oneCell'=true by simpa using CK q.2);have X4:=af (XW HGK.o (show q.1 < (m.laid p k).ar.length by rw [lJ.o];exact Dz) HP.o);clear CS wL IE Dz hb;go_wp2_with fail;refine fK [0,1,2,4,6,3,5,7,8] [[9]] (by kernel_rfl) (by kernel_rfl) (fun _ _ _ _ _ h=>h) ?_;simp only [mU,pick,xG]
    still_step
    still_step
    still_step
    still_step
    still_step
    still_step
    still_step
    refine tX rfl 137 (.tmp 25) rfl (aT q.2).toArray _ rfl HLV.o ?_
    still_step
    refine wpStill_nil ?_;go_wp2_with (with_reducible refine aB rfl 137 (.tmp 27) (.tmp 26) rfl L (q.1*64) (aT q.2).toArray rfl rfl JE.o.drew X1.o X2.o X3.o _ X4.o ?_);go_roundw;case rel=>exact ⟨k+1,by omega,by go_num,RH.o _ ux.o ((Kept.refl _ _).alloc _).drew⟩
    case measure=>simp [intOf];omega
  ·obtain rfl:k=m.waits.length:=by omega
   have HD:=af HR.o.aX;have HK:=af HR.o.kept;have f1:=HR.o.aX.mr.frozen 1;have xT:=HR.o.aX.mr.lt;have Ml:=af HR.o.aX.own;have ZI:=af (show (Tryz.prog.info? 139).map (·.zero)=some (some (.agg (hU 0))) by kernel_rfl);have Z1:=af (Hn 0);have rV:=af HR.o;rw [TK.o] at Ml rV;clear hk aH;have GW:=af rV.o.aX.gw;rcases A with _|⟨Wb,Wo,Ws⟩
   ·have hc:=yJ Ml.o rfl;subst hc
    go_wp2_with (first
     | (refine Bj (size:=65) rfl 133 (.tmp 32) rfl Tryz.underlying133 (.agg (hU 0)) ZI.o rfl Z1.o (by decide) Ml.o rfl ?_;intro w2 ys ho hg iP;have hb:=hg.block g xT (fun e=>GW.o e.symm);have r1':=(World.cell?_of_block (a:=⟨g,1,none⟩) hb).trans r1;have f1':=(World.frozen?_of_block (a:=⟨g,1,none⟩) hb).trans f1;have HO:=af ho;have Gp:=af hg;clear ho hg hb iP)
     | (go_at_call 99999;skip))
    go_end0
    exact ⟨rfl,NG HG.o rV.o Gp.o HO.o⟩
   ·go_wp2_with (first
     | (refine Bj (size:=65) rfl 133 (.tmp 32) rfl Tryz.underlying133 (.agg (hU 0)) ZI.o rfl Z1.o (by decide) Ml.o rfl ?_;intro w2 ys ho hg iP;have hb:=hg.block g xT (fun e=>GW.o e.symm);have r1':=(World.cell?_of_block (a:=⟨g,1,none⟩) hb).trans r1;have f1':=(World.frozen?_of_block (a:=⟨g,1,none⟩) hb).trans f1;have HO:=af ho;have Gp:=af hg;clear ho hg hb iP)
     | (go_at_call 99999;skip))
    go_end0
    exact ⟨rfl,NG HG.o rV.o Gp.o HO.o⟩
end
section
variable {m:DS} {g:Nat} {F:Nat→Prop} {w:World}
theorem Zh (w:World) (i:Int):Calls Tryz.prog 177 (#[ae aa i]++#[]) w fun e w'=>e=.returned (.bool true)∧w=w':=by
 show Calls Tryz.prog 177 #[ae aa i] w _
 go_enter Tryz.func177,Tryz.ntmps177;go_wp2_with fail;go_ret;exact ⟨rfl,rfl⟩
theorem Vy (w:World) (b i:Nat) (h:¬i < 64):Calls Tryz.prog 80 (#[ae aa i]++#[.pointer (some ⟨b,0,none⟩)]) w fun e w'=>e=.returned (.bool false)∧w=w':=by
 show Calls Tryz.prog 80 #[ae aa i,.pointer (some ⟨b,0,none⟩)] w _
 have h':¬(i:Int) < 64:=by omega
 go_enter Tryz.func80,Tryz.ntmps80;go_wp2_with fail;go_ret;exact ⟨rfl,rfl⟩
theorem YE (w:World) (b i:Nat) (keep:Int) (h:i < 64) (mM:0≤keep) (jm:keep≤18446744073709551615) (hc:w.cell? ⟨b,0,none⟩=some (.int .u64 keep)):Calls Tryz.prog 80 (#[ae aa i]++#[.pointer (some ⟨b,0,none⟩)]) w fun e w'=>e=.returned (.bool (keep / 2 ^ i % 2==1))∧w=w':=by
 show Calls Tryz.prog 80 #[ae aa i,.pointer (some ⟨b,0,none⟩)] w _
 have h':(i:Int) < 64:=by omega
 go_enter Tryz.func80,Tryz.ntmps80;go_wp2_with fail;go_ret;have e2:(0:Int) < 2 ^ i:=Int.pow_pos (by decide);have e0:0≤keep / 2 ^ i:=Int.ediv_nonneg mM (by omega);have e1:keep / 2 ^ i≤keep:=Int.ediv_le_self _ mM;refine ⟨aA ?_,rfl⟩;rw [and_one_u64 _ e0 (by omega)];have h3:=Int.emod_two_eq (keep / 2 ^ i);rcases h3 with h3|h3<;>rw [h3]<;>rfl
theorem YM (w:World) (i:Int):(callFunc 177 (#[ae aa i]++#[])).run Tryz.prog w=.ok (.enter 177 (#[ae aa i]++#[])) w:=by kernel_rfl
theorem VX (b:Nat) (w:World) (i:Int):(callFunc 80 (#[ae aa i]++#[.pointer (some ⟨b,0,none⟩)])).run Tryz.prog w=.ok (.enter 80 (#[ae aa i]++#[.pointer (some ⟨b,0,none⟩)])) w:=by kernel_rfl
theorem V4 (h:iL w F g m) (fF:m.waits.length≤1000000) :
  Calls Tryz.prog 136 #[.pointer (some ⟨g,0,none⟩)] w fun e w'=>e=.returned (ae aa m.flush.1)∧iL w' F g m.flush.2∧Kept F w w':=by
 obtain ⟨L,wv,h⟩:=h;have HB:=af (Ov h);have H:=af h;cases hg:m.goes
 ·have e:m.flush=(8,m.bR):=by simp [DS.flush,hg]
  rw [e];rw [hg] at HB;clear e hg h;go_enter Tryz.func136,Tryz.ntmps136;go_wp2_with fail;refine HB.o.mono ?_;rintro e w' ⟨rfl,hd,hk⟩;have HD:=af hd;have HK:=af hk;clear hd hk;go_wp2_with fail;go_ret;exact ⟨rfl,⟨L,wv,HD.o⟩,tO HK.o H.o.fg⟩
 ·have e:m.flush=(0,m.bR.lay fun _=>true):=by simp [DS.flush,hg]
  rw [e];rw [hg] at HB;clear e hg h;go_enter Tryz.func136,Tryz.ntmps136;go_wp2_with fail;refine HB.o.mono ?_;rintro e w' ⟨rfl,hd,hk⟩;have HD:=af hd;have HK:=af hk;clear hd hk;go_wp2_with fail;refine (Sa HD.o (fun _=>true) 177 #[] YM (fun wr _ i _=>Zh wr i) (by rw [DS.fN];exact fF)).mono ?_;rintro e w2 ⟨rfl,hd,hk⟩;have jV:=af hd;have nY:=af hk;clear hd hk;go_wp2_with fail;go_ret;exact ⟨rfl,jV.o,(tO HK.o H.o.fg).trans nY.o (fun i h=>h) (fun i h _=>h)⟩
theorem wA (h:iL w F g m) (keep:Int) (hF:∀i,F i→i < w.heap.size) (mM:0≤keep) (jm:keep≤18446744073709551615) (fF:m.waits.length≤1000000) :
  Calls Tryz.prog 32 #[.pointer (some ⟨g,0,none⟩),.int .u64 keep] w fun e w'=>e=.returned (.tuple #[])∧iL w' F g (m.bZ keep)∧Kept F w w':=by
 obtain ⟨L,wv,h⟩:=h;have H:=af h;have h1:dA (w.alloc (.cells #[.int .u64 keep] 56)) F g L wv m:=h.kept ((Kept.refl (fun _=>False) w).alloc _) (fun _ _ h=>h)
 have hf:∀wr,Kept F (w.alloc (.cells #[.int .u64 keep] 56)) wr→∀i:Nat,i < m.waits.length→Calls Tryz.prog 80 (#[ae aa i]++#[.pointer (some ⟨w.heap.size,0,none⟩)]) wr fun e w'=>e=.returned (.bool (keeps keep i))∧wr=w':=by
  intro wr hk i _
  have hc:wr.cell? ⟨w.heap.size,0,none⟩=some (.int .u64 keep):=by
   rw [hk.cell (p:=⟨w.heap.size,0,none⟩) (by simp) (fun hh=>by have hq:w.heap.size < w.heap.size:=hF _ hh;omega)];exact (Row.new w 56 #[.int .u64 keep]).cell 0
  by_cases hi:i < 64
  ·have e:keeps keep i=(keep / 2 ^ i % 2==1):=by simp [keeps,hi]
   rw [e];exact YE wr _ i keep hi mM jm hc
  ·have e:keeps keep i=false:=by simp [keeps,hi]
   rw [e];exact Vy wr _ i hi
 have HL:=af (Sa h1 (keeps keep) 80 #[.pointer (some ⟨w.heap.size,0,none⟩)] (VX _) hf fF);clear h h1 hf mM jm hF;go_enter Tryz.func32,Tryz.ntmps32;go_wp2_with fail;refine HL.o.mono ?_;rintro e w2 ⟨rfl,hd,hk⟩;obtain ⟨L2,wv2,hd⟩:=hd;have c3:=hd.mr.c3;have c2:=hd.mr.c2;have f2:=hd.mr.frozen 2;have f3:=hd.mr.frozen 3;have jV:=af hd;have nY:=af hk;clear hd hk;go_wp2_with fail
 go_end0
 have D1:=jV.o.set (m':={ m.lay (keeps keep) with jH:=-1 }) 2 (ae aa (-1)) rfl ⟨jV.o.bu.ar,jV.o.bu.waits,by simp,by simp,jV.o.bu.n0,jV.o.bu.n1⟩ rfl rfl;have D2:=D1.set (m':=m.bZ keep) 3 (.bool false) rfl (DS.sr H.o.bu keep) rfl rfl;refine ⟨rfl,⟨L2,wv2,D2⟩,?_⟩;exact ((((Kept.refl F w).alloc _).trans nY.o (fun i h=>h) (fun i h _=>h)).setCell (p:=⟨g,2,none⟩) (.inl H.o.fg) _).setCell (p:=⟨g,3,none⟩) (.inl H.o.fg) _
end
end aX
namespace sep
open Go.RowKit base obj mem aX
section
variable {m:DS} {l:List aI} {g:Nat} {w w0:World}
def bE (g:Nat) (m:DS):aI where
 on w F:=iL w F g m∧∀i,F i→i < w.heap.size
 dom:=fun h i hi=>h.2 i hi
 loc:=fun {w w' F} h e=>by
  refine ⟨?_,fun i hi=>aaX (h.2 i hi) (e i hi)⟩;obtain ⟨⟨L,wv,h⟩,_⟩:=h;refine ⟨L,wv,h.bu,(e g h.fg).trans h.mr,(e L h.fl).trans h.laid,?_,h.fg,h.fl,h.fw⟩;refine ⟨h.own.1,?_⟩;rcases h.own.2 with hz|⟨k,cap,cur,hv,hb,hk,rest⟩
  ·exact .inl hz
  ·exact .inr ⟨k,cap,cur,hv,hb,(e k (h.fw k (by rw [hv];rfl))).trans hk,rest⟩
theorem St.bu {w0 w:World} {l:List aI} {g:Nat} {m:DS} (h:St w0 w (bE g m::l)):m.Good:=by
 obtain ⟨F,⟨⟨L,wv,hd⟩,_⟩,_⟩:=h.frame;exact hd.bu
theorem YZ (h:St w0 w l) (n:Int):Calls Tryz.prog 26 #[ae aa n] w fun e w'=>∃g,e=.returned (.pointer (some ⟨g,0,none⟩))∧St w0 w' (bE g (DS.new (sJ n))::l) :=
 (Yq n w).mono fun e w' ⟨g,h1,h2,h3,h4⟩=>⟨g,h1,h.add h4 (F:=EP (fun _=>False) w w') ⟨h3,fun i hi=>by rcases hi with hi|hi;exact hi.elim;exact hi.2⟩ fun i hi=>by rcases hi with hi|hi;exact hi.elim;exact hi.1⟩
theorem Hg (h:St w0 w (bE g m::l)):Calls Tryz.prog 35 #[.pointer (some ⟨g,0,none⟩)] w fun e w'=>e=.returned (ae aa m.ar.length)∧w'=w:=by
 obtain ⟨F,⟨⟨L,wv,hd⟩,_⟩,_⟩:=h.frame;exact (ZZ hd).mono fun e w' ⟨h1,h2⟩=>⟨h1,h2.symm⟩
theorem Wf (h:St w0 w (bE g m::l)):Calls Tryz.prog 40 #[.pointer (some ⟨g,0,none⟩)] w fun e w'=>e=.returned (.bool m.down)∧w'=w:=by
 obtain ⟨F,⟨⟨L,wv,hd⟩,_⟩,_⟩:=h.frame;exact (Hh hd).mono fun e w' ⟨h1,h2⟩=>⟨h1,h2.symm⟩
theorem I7 (h:St w0 w (bE g m::l)) (i:Int) (A:Option Addr) (n c:Nat) (bs:List Int) (hn:bs.length=n) (hs:Sl w w.heap.size 1 A n (bs.map (.int .u8))) (fF:m.waits.length≤1000000) :
  Calls Tryz.prog 29 #[.pointer (some ⟨g,0,none⟩),ae aa i,.slice A n c] w fun e w'=>e=.returned (ae aa (m.write i bs).1)∧St w0 w' (bE g (m.write i bs).2::l):=by
 obtain ⟨F,⟨⟨L,wv,hd⟩,hF⟩,_,hf⟩:=h.frame;subst hn;refine (kf hd i A c bs hs fF).mono fun e w' ⟨h1,h2,h3⟩=>⟨h1,hf w' _ (EP F w w') h3 ⟨h2,fun i hi=>?_⟩ fun i hi=>?_⟩
 ·have:=h3.size;rcases hi with hi|hi
  ·have:=hF i hi;omega
  ·exact hi.2
 ·rcases hi with hi|hi
  ·exact .inl hi
  ·exact .inr hi.1
theorem I8 (h:St w0 w (bE g m::l)) (fF:m.waits.length≤1000000) :
  Calls Tryz.prog 136 #[.pointer (some ⟨g,0,none⟩)] w fun e w'=>e=.returned (ae aa m.flush.1)∧St w0 w' (bE g m.flush.2::l):=by
 obtain ⟨F,⟨hd,hF⟩,_,hf⟩:=h.frame;refine (V4 hd fF).mono fun e w' ⟨h1,h2,h3⟩=>⟨h1,hf w' _ F h3 ⟨h2,fun i hi=>?_⟩ fun i hi=>.inl hi⟩
 have:=h3.size;have:=hF i hi;omega
theorem Tm (h:St w0 w (bE g m::l)) (keep:Int) (mM:0≤keep) (jm:keep≤18446744073709551615) (fF:m.waits.length≤1000000) :
  Calls Tryz.prog 32 #[.pointer (some ⟨g,0,none⟩),.int .u64 keep] w fun e w'=>e=.returned (.tuple #[])∧St w0 w' (bE g (m.bZ keep)::l):=by
 obtain ⟨F,⟨hd,hF⟩,_,hf⟩:=h.frame;refine (wA hd keep hF mM jm fF).mono fun e w' ⟨h1,h2,h3⟩=>⟨h1,hf w' _ F h3 ⟨h2,fun i hi=>?_⟩ fun i hi=>.inl hi⟩
 have:=h3.size;have:=hF i hi;omega
theorem We (h:St w0 w (bE g m::l)) (n:Int) (hn:n≤9223372036854775807) :
  Calls Tryz.prog 39 #[.pointer (some ⟨g,0,none⟩),ae aa n] w fun e w'=>e=.returned (.tuple #[])∧St w0 w' (bE g (m.eV n)::l):=by
 obtain ⟨F,⟨⟨L,wv,hd⟩,hF⟩,_,hf⟩:=h.frame;refine (YN hd n hn).mono fun e w' ⟨h1,h2,h3⟩=>⟨h1,hf w' _ F (h3.mono fun i _ hi=>by rw [show i=g from hi];exact hd.fg) ⟨⟨L,wv,h2⟩,fun i hi=>?_⟩ fun i hi=>.inl hi⟩
 have:=h3.size;have:=hF i hi;omega
theorem Al (h:St w0 w (bE g m::l)) (i:Int) (n:Nat) (hi:i=n) (hn:n < m.ar.length) (hd:m.down=false) (fF:m.waits.length≤1000000) :
  Calls Tryz.prog 28 #[.pointer (some ⟨g,0,none⟩),ae aa i] w fun e w'=>∃b,e=.returned (.tuple #[.slice (some ⟨b,0,none⟩) 64 64,ae aa 0])∧St w0 w' (row b 5 ((m.now n).map (.int .u8))::bE g m::l):=by
 obtain ⟨F,⟨⟨L,wv,hdk⟩,hF⟩,_,hf⟩:=h.frame;subst hi;exact (KD hdk n hn hd fF).mono fun e w' ⟨b,h1,h2,h3,h4⟩=>⟨b,h1,h.aa6 h4 h3 h2⟩
theorem DK (h:St w0 w (bE g m::l)) (i:Int) (hi:(i < 0∨m.ar.length≤i)∨m.down=true) (fF:m.waits.length≤1000000) :
  Calls Tryz.prog 28 #[.pointer (some ⟨g,0,none⟩),ae aa i] w fun e w'=>e=.returned (.tuple #[.slice none 0 0,ae aa (if i < 0∨m.ar.length≤i then 3 else 8)])∧St w0 w' (bE g m::l):=by
 obtain ⟨F,⟨⟨L,wv,hdk⟩,hF⟩,_,hf⟩:=h.frame;refine (aX.yG hdk i fF).mono fun e w' ⟨h1,h2⟩=>?_;refine ⟨?_,h.below h2⟩;by_cases h3:i < 0∨m.ar.length≤i
 ·rw [if_pos h3] at h1;rw [if_pos h3];exact h1
 ·rw [if_neg h3] at h1;rw [if_neg h3];rcases hi with hi|hi
  ·exact absurd hi h3
  ·rw [if_pos hi] at h1;exact h1
end
end sep
namespace place
open Go.RowKit base
theorem Wq (n:Int) (w:World) (h0:0≤n) (h1:n < 10):Calls Tryz.prog 93 #[ae aa n] w fun e w'=>e=.returned (.tuple #[ae aa (n / 4),ae aa (n % 4*16),.bool true])∧w=w':=by
 go_enter Tryz.func93,Tryz.ntmps93
 go_wp2
 go_ret3
 exact ⟨rfl,rfl⟩
theorem Yl (n k:Int) (w:World) (h:n < 0∨k≤n):Calls Tryz.prog 140 #[ae aa n,ae aa k] w fun e w'=>e=.returned (.bool false)∧w=w':=by
 by_cases h0:n < 0
 ·go_enter Tryz.func140,Tryz.ntmps140
  go_wp2
  go_ret;exact ⟨rfl,rfl⟩
 ·have h1:0≤n:=by omega
  have h2:¬n < k:=by omega
  clear h;go_enter Tryz.func140,Tryz.ntmps140
  go_wp2
  go_ret;exact ⟨rfl,rfl⟩
theorem Tu (p c:Int) (w:World) (h0:0≤p) (h1:p < 4) (h2:0≤c) (h3:c < 2):Calls Tryz.prog 166 #[ae aa p,ae aa c] w fun e w'=>e=.returned (.tuple #[ae aa (p*10+c),.bool true])∧Below w.heap.size w w':=by
 go_enter Tryz.func166,Tryz.ntmps166
 go_wp2
 go_ret2;exact ⟨rfl,by first|exact Below.refl _ _|exact (Below.refl _ _).alloc (Nat.le_refl _) _⟩
theorem Qp (p c:Int) (w:World) (h:p < 0∨4≤p∨c < 0∨2≤c):Calls Tryz.prog 166 #[ae aa p,ae aa c] w fun e w'=>e=.returned (.tuple #[ae aa 0,.bool false])∧Below w.heap.size w w':=by
 by_cases h0:c < 0∨2≤c
 ·clear h;go_enter Tryz.func166,Tryz.ntmps166;go_wp2_with (first|(go_at_call 140;refine (Yl _ _ _ h0).mono ?_;rintro e w' ⟨rfl,rfl⟩)|go_in);go_ret2;exact ⟨rfl,by first|exact Below.refl _ _|exact (Below.refl _ _).alloc (Nat.le_refl _) _⟩
 ·have h1:0≤c:=by omega
  have h2:c < 2:=by omega
  by_cases h3:p < 0
  ·clear h h0;go_enter Tryz.func166,Tryz.ntmps166
   go_wp2
   go_ret2;exact ⟨rfl,by first|exact Below.refl _ _|exact (Below.refl _ _).alloc (Nat.le_refl _) _⟩
  ·have h4:0≤p:=by omega
   have h5:4≤p:=by omega
   clear h h0;go_enter Tryz.func166,Tryz.ntmps166
   go_wp2
   go_ret2;exact ⟨rfl,by first|exact Below.refl _ _|exact (Below.refl _ _).alloc (Nat.le_refl _) _⟩
theorem Ko (p s:Int) (w:World) (h0:0≤p) (h1:p < 4) (h2:0≤s) (h3:s < 2):Calls Tryz.prog 139 #[ae aa p,ae aa s] w fun e w'=>e=.returned (.tuple #[ae aa (p*10+(2+s*4)),.bool true])∧Below w.heap.size w w':=by
 go_enter Tryz.func139,Tryz.ntmps139
 go_wp2
 go_ret2;exact ⟨rfl,by first|exact Below.refl _ _|exact (Below.refl _ _).alloc (Nat.le_refl _) _⟩
theorem C5 (p s i:Int) (w:World) (h0:0≤p) (h1:p < 4) (h2:0≤s) (h3:s < 2) (h4:0≤i) (h5:i < 3):Calls Tryz.prog 94 #[ae aa p,ae aa s,ae aa i] w fun e w'=>e=.returned (.tuple #[ae aa (p*10+(2+s*4+1+i)),.bool true])∧Below w.heap.size w w':=by
 go_enter Tryz.func94,Tryz.ntmps94
 go_wp2
 go_ret2;exact ⟨rfl,by first|exact Below.refl _ _|exact (Below.refl _ _).alloc (Nat.le_refl _) _⟩
theorem O7 (n:Int) (w:World) (h:1≤n) (h':n≤4):Calls Tryz.prog 115 #[ae aa n] w fun e w'=>e=.returned (ae aa (10*n))∧w=w':=by
 go_enter Tryz.func115,Tryz.ntmps115
 go_wp2
 go_ret;exact ⟨by first|rfl|(show Ending.returned (Value.int .i64 (10*min (max n 1) 4))=_;rw [show min (max n 1) 4=n by omega]),rfl⟩
end place
namespace aX
open bC
section
variable {i:Int} {bs:List Int}
def wf (m:DS) (i:Int) (bs:List Int):Int×DS:=if (m.write i bs).1=0 then (m.write i bs).2.flush else m.write i bs
structure DS.ia (m:DS):Prop where
 ar:∀s∈m.ar,bn s
 waits:∀p∈m.waits,bn p.2
theorem Y6:bn []:=fun z hz=>absurd hz (by simp)
theorem EM:bn bt:=fun z hz=>by rw [(List.mem_replicate.1 hz).2];omega
theorem V2 {s:List (List Int)} (h:∀x∈s,bn x) (i:Nat):bn (s.getD i []):=by
 rw [dD];cases hq:s[i]? with
 | none=>exact Y6
 | some x=>exact h x (List.mem_of_getElem? hq)
theorem Ij {ws:List (Nat×List Int)} {s:List Int} {i:Nat} (hw:∀p∈ws,bn p.2) (hs:bn s):∀k,bn (jP ws s i k)
 | 0=>hs
 | k+1=>by
   have ih:=Ij (i:=i) hw hs k;rw [jP];split
   ·rename_i p hp
    split
    ·exact hw p (List.mem_of_getElem? hp)
    ·exact ih
   ·exact ih
theorem DS.ia.now {m:DS} (h:m.ia) (i:Nat):bn (m.now i):=Ij h.waits (V2 h.ar i) _
theorem DS.Good.yK {m:DS} (h:m.Good) {i:Nat} (hi:i < m.ar.length):(m.now i).length=64:=by
 unfold DS.now;refine xB (fun p hp=>(h.waits p hp).2) ?_ _ (Nat.le_refl _);rw [dD,cN hi];exact h.ar _ (List.getElem_mem _)
theorem DS.Yp (n:Nat):(DS.new n).ia:=⟨fun s hs=>by rw [(List.mem_replicate.1 hs).2];exact EM,fun p hp=>absurd hp (by simp [DS.new])⟩
theorem DS.ia.bR {m:DS} (h:m.ia):m.bR.ia:=⟨by rw [DS.iw];exact h.ar,by rw [DS.fN];exact h.waits⟩
theorem DS.ia.write {m:DS} (h:m.ia) (i:Int) {bs:List Int} (hb:bn bs):(m.write i bs).2.ia:=by
 unfold DS.write;split
 ·exact h
 ·split
  ·exact h
  ·split
   ·refine ⟨h.bR.ar,fun p hp=>?_⟩;rcases List.mem_append.1 hp with hp|hp
    ·exact h.bR.waits p hp
    ·rw [List.mem_singleton.1 hp];exact hb
   ·exact h.bR
theorem Io {p:Nat→Bool} {ws:List (Nat×List Int)} {s:List (List Int)} (hw:∀q∈ws,bn q.2) (hs:∀q∈s,bn q):∀k,∀q∈iq p ws s k,bn q
 | 0=>hs
 | k+1=>by
   have ih:=Io (p:=p) hw hs k;intro q hq;rw [iq] at hq;split at hq
   ·rename_i w hw'
    split at hq
    ·rcases List.mem_or_eq_of_mem_set hq with h|h
     ·exact ih q h
     ·subst h;exact hw w (List.mem_of_getElem? hw')
    ·exact ih q hq
   ·exact ih q hq
theorem DS.ia.lay {m:DS} (h:m.ia) (p:Nat→Bool):(m.lay p).ia:=⟨Io h.waits h.ar _,fun q hq=>absurd hq (by simp [DS.lay])⟩
theorem DS.ia.flush {m:DS} (h:m.ia):m.flush.2.ia:=by
 unfold DS.flush;split
 ·exact h.bR.lay _
 ·exact h.bR
theorem DS.ia.bZ {m:DS} (h:m.ia) (k:Int):(m.bZ k).ia:=⟨(h.lay (keeps k)).ar,(h.lay (keeps k)).waits⟩
theorem DS.ia.eV {m:DS} (h:m.ia) (k:Int):(m.eV k).ia:=by
 unfold DS.eV;split
 ·exact h
 ·exact ⟨h.ar,h.waits⟩
theorem DS.ia.wf {m:DS} (h:m.ia) (i:Int) {bs:List Int} (hb:bn bs):(wf m i bs).2.ia:=by
 unfold aX.wf;split
 ·exact (h.write i hb).flush
 ·exact h.write i hb
theorem DS.Good.write {m:DS} (h:m.Good) (i:Int) {bs:List Int}:(m.write i bs).2.Good:=by
 unfold DS.write;split
 ·exact h
 ·split
  ·exact h
  ·split
   ·exact DS.Ej (DS.ov h) (by rw [DS.iw];omega) (by omega)
   ·exact DS.ov h
theorem DS.Good.flush {m:DS} (h:m.Good):m.flush.2.Good:=by
 unfold DS.flush;split
 ·exact DS.Ev (DS.ov h) _
 ·exact DS.ov h
theorem DS.Good.wf {m:DS} (h:m.Good) (i:Int) (bs:List Int):(wf m i bs).2.Good:=by
 unfold aX.wf;split
 ·exact (h.write i).flush
 ·exact h.write i
theorem DS.ES (m:DS) (i:Int) (bs:List Int):(m.write i bs).2.ar=m.ar:=by
 unfold DS.write;split
 ·rfl
 ·split
  ·rfl
  ·split
   ·exact DS.iw m
   ·exact DS.iw m
theorem DS.KX (m:DS) (p:Nat→Bool):(m.lay p).ar.length=m.ar.length:=kI _ _ _ _
theorem DS.Qe (m:DS):m.flush.2.ar.length=m.ar.length:=by
 unfold DS.flush;split
 ·rw [DS.KX,DS.iw]
 ·rw [DS.iw]
theorem iC (m:DS) (i:Int) (bs:List Int):(wf m i bs).2.ar.length=m.ar.length:=by
 unfold wf;split
 ·rw [DS.Qe,DS.ES]
 ·rw [DS.ES]
theorem DS.qm (m:DS) (k:Int):(m.bZ k).ar.length=m.ar.length:=DS.KX m _
theorem zR (ws:List (Nat×List Int)) (x:Nat×List Int) (s:List Int) (i:Nat):∀k,k≤ws.length→jP (ws++[x]) s i k=jP ws s i k
 | 0,_=>rfl
 | k+1,h=>by
   rw [jP,jP,zR ws x s i k (by omega),List.getElem?_append_left (by omega)]
theorem DS.Ya (m:DS) (i:Nat) (bs:List Int) (j:Nat):(m.put i bs).now j=if j=i then bs else m.now j:=by
 unfold DS.now DS.put;simp only [gC,List.length_singleton];rw [jP,List.getElem?_append_right (Nat.le_refl _)];simp only [Nat.sub_self,List.getElem?_cons_zero];rw [zR _ _ _ _ _ (Nat.le_refl _)];by_cases h:i=j
 ·rw [if_pos h,if_pos h.symm]
 ·rw [if_neg h,if_neg fun e=>h e.symm]
theorem DS.Cd (m:DS) (j:Nat):m.bR.now j=m.now j:=by unfold DS.now;rw [DS.fN,DS.iw]
theorem kW (l:List (List Int)) (i j:Nat) (x:List Int):(l.set i x).getD j []=if j=i∧i < l.length then x else l.getD j []:=by
 rw [dD,List.getElem?_set,dD];by_cases h:i=j
 ·subst h;by_cases hl:i < l.length
  ·simp [hl]
  ·simp [hl]
 ·have h':¬j=i:=fun e=>h e.symm;simp [h,h']
theorem Im (ws:List (Nat×List Int)) (s:List (List Int)) (j:Nat) (hw:∀p∈ws,p.1 < s.length):∀k,k≤ws.length→(iq (fun _=>true) ws s k).getD j []=jP ws (s.getD j []) j k
 | 0,_=>rfl
 | k+1,h=>by
   have ih:=Im ws s j hw k (by omega);rw [BK (by omega) rfl,kW,kI];have hl:=hw _ (List.getElem_mem (show k < ws.length by omega));by_cases e:(ws[k]'(by omega)).1=j
   ·rw [if_pos ⟨e.symm,hl⟩,BG (by omega) e]
   ·rw [if_neg fun x=>e x.1.symm,vo (by omega) e,ih]
theorem DS.Yz {m:DS} (h:m.Good) (j:Nat):(m.lay fun _=>true).now j=m.now j:=Im m.waits m.ar j (fun p hp=>(h.waits p hp).1) _ (Nat.le_refl _)
theorem DS.Tf {m:DS} (h:m.Good) (j:Nat):m.flush.2.now j=m.now j:=by
 unfold DS.flush;split
 ·rw [DS.Yz (DS.ov h),DS.Cd]
 ·rw [DS.Cd]
theorem DS.kN {m:DS} (h:m.waits=[]) (j:Nat):m.now j=m.ar.getD j []:=by unfold DS.now;rw [h];rfl
theorem DS.Yn {n j:Nat} (h:j < n):(DS.new n).now j=bt:=by
 rw [DS.kN rfl];simp [DS.new,dD,h]
theorem zv {m:DS} (h0:0≤i) (h1:i < m.ar.length) (hb:bs.length=64):m.write i bs=if m.goes then (0,m.bR.put i.toNat bs) else (8,m.bR):=by
 unfold DS.write;rw [if_neg (by omega),if_neg (by omega)]
theorem Wp {m:DS} (h:m.goes=true):m.bR.down=false:=by
 unfold DS.goes at h;unfold DS.bR;simp at h;simp [h]
theorem L9 {m:DS} (h:m.goes=false):m.bR.down=true:=by
 unfold DS.goes at h;unfold DS.bR;have h':(m.down||m.jH==0)=true:=by cases hq:(m.down||m.jH==0)<;>simp [hq] at h ⊢
 rw [if_pos h']
theorem qR {m:DS} (hg:m.Good) {i:Int} {bs:List Int} (h0:0≤i) (h1:i < m.ar.length) (hb:bs.length=64) (h:(wf m i bs).1=0) :
  (wf m i bs).2.waits=[]∧(wf m i bs).2.down=false∧∀j,(wf m i bs).2.now j=if j=i.toNat then bs else m.now j:=by
 unfold wf at *;have hw:=zv h0 h1 hb;by_cases wN:m.goes=true
 ·rw [if_pos wN] at hw;have eP:(m.bR.put i.toNat bs).Good:=DS.Ej (DS.ov hg) (by rw [DS.iw];omega) hb;rw [hw] at h ⊢;simp only [if_true] at h ⊢;by_cases hf:(m.bR.put i.toNat bs).goes=true
  ·have e:(m.bR.put i.toNat bs).flush=(0,(m.bR.put i.toNat bs).bR.lay fun _=>true):=by unfold DS.flush;rw [if_pos hf]
   have hn:=fun j=>DS.Tf eP j;rw [e] at hn ⊢;refine ⟨rfl,Wp hf,fun j=>?_⟩;rw [hn j,DS.Ya,DS.Cd]
  ·have e:(m.bR.put i.toNat bs).flush.1=8:=by unfold DS.flush;rw [if_neg hf]
   rw [e] at h;exact absurd h (by decide)
 ·rw [if_neg wN] at hw;rw [hw] at h;exact absurd (show (8:Int)=0 from h) (by decide)
theorem vQ {m:DS} (h0:0≤i) (h1:i < m.ar.length) (hb:bs.length=64) (h:(wf m i bs).1≠0) :
  (wf m i bs).1=8∧(wf m i bs).2.down=true∧(wf m i bs).2.ar=m.ar∧((wf m i bs).2.waits=m.waits∨(wf m i bs).2.waits=m.waits++[(i.toNat,bs)]):=by
 unfold wf at *;have hw:=zv h0 h1 hb;by_cases wN:m.goes=true
 ·rw [if_pos wN] at hw;rw [hw] at h ⊢;simp only [if_true] at h ⊢;by_cases hf:(m.bR.put i.toNat bs).goes=true
  ·have e:(m.bR.put i.toNat bs).flush.1=0:=by unfold DS.flush;rw [if_pos hf]
   exact absurd e h
  ·have e:(m.bR.put i.toNat bs).flush=(8,(m.bR.put i.toNat bs).bR):=by unfold DS.flush;rw [if_neg hf]
   rw [e];refine ⟨rfl,L9 (by simpa using hf),?_,.inr ?_⟩
   ·show (m.bR.put i.toNat bs).bR.ar=m.ar
    rw [DS.iw];exact DS.iw m
   ·show (m.bR.put i.toNat bs).bR.waits=m.waits++[(i.toNat,bs)]
    rw [DS.fN];show m.bR.waits++[(i.toNat,bs)]=_
    rw [DS.fN]
 ·rw [if_neg wN] at hw;rw [hw];exact ⟨rfl,L9 (by simpa using wN),DS.iw m,.inl (DS.fN m)⟩
theorem Qv {m:DS} (h:m.down=true):m.bR=m:=by
 unfold DS.bR;rw [h];simp only [Bool.true_or,if_true];rw [←h]
theorem yB {m:DS} (h0:0≤i) (h1:i < m.ar.length) (hb:bs.length=64) (h:m.down=true):wf m i bs=(8,m):=by
 have hg:m.goes=false:=by unfold DS.goes;rw [h];rfl
 have e:m.write i bs=(8,m):=by rw [zv h0 h1 hb,hg,Qv h];rfl
 unfold wf;rw [e];rfl
def DS.Up (m:DS):Prop:=m.down=false∧m.jH=-1
theorem DS.Up.goes {m:DS} (h:m.Up):m.goes=true:=by unfold DS.goes;rw [h.1,h.2];rfl
theorem DS.Up.bR {m:DS} (h:m.Up):m.bR=m:=by
 unfold DS.bR;rw [h.1,h.2];have h1:=h.1;have h2:=h.2;obtain ⟨a,b,c,d⟩:=m;simp only at h1 h2;subst h1;subst h2;rfl
theorem zz {m:DS} (h0:0≤i) (h1:i < m.ar.length) (hb:bs.length=64) (h:m.Up):wf m i bs=(0,(m.put i.toNat bs).lay fun _=>true)∧(wf m i bs).2.Up:=by
 have e:m.write i bs=(0,m.put i.toNat bs):=by rw [zv h0 h1 hb,if_pos h.goes,h.bR]
 have hp:(m.put i.toNat bs).Up:=h
 have e2:wf m i bs=(0,(m.put i.toNat bs).lay fun _=>true):=by
  unfold wf;rw [e];simp only [if_true];unfold DS.flush;rw [if_pos hp.goes,hp.bR]
 exact ⟨e2,by rw [e2];exact hp⟩
theorem DS.ZT (n:Nat):(DS.new n).Up:=⟨rfl,rfl⟩
theorem DS.tw (m:DS) (k:Int):(m.bZ k).Up:=⟨rfl,rfl⟩
theorem DS.oR (m:DS) (k:Int):(m.bZ k).waits=[]:=rfl
theorem xy {m:DS} {i:Nat} (h:m.waits=[]∨m.waits=[(i,bs)]) (k:Int):(m.bZ k).ar=m.ar∨(m.waits=[(i,bs)]∧(m.bZ k).ar=m.ar.set i bs):=by
 show iq (keeps k) m.waits m.ar m.waits.length=_∨(_∧iq (keeps k) m.waits m.ar m.waits.length=_)
 rcases h with h|h
 ·rw [h];exact .inl rfl
 ·rw [h];by_cases hk:keeps k 0=true
  ·refine .inr ⟨rfl,?_⟩;rw [show [(i,bs)].length=0+1 from rfl,BK (by simp) hk];rfl
  ·refine .inl ?_;rw [show [(i,bs)].length=0+1 from rfl,KY (by simp) (by simpa using hk)];rfl
end
end aX
end Go.Proofs.YtdldkkoplgkloaaGreat
