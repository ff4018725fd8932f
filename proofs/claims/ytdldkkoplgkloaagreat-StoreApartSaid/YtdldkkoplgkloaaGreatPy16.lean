/-
  PROVED HERE: lemmas that the law leans on.
  CONDITIONS: each names its own.
-/
import Derived.Laws.ShiftsVar
import Derived.WalkSmall
import Derived.Test.YtdldkkoplgkloaaGreatPy0
import Derived.Test.YtdldkkoplgkloaaGreatPy15
namespace Go.Proofs.YtdldkkoplgkloaaGreat
set_option linter.unusedVariables false
set_option linter.unusedSimpArgs false
set_option maxRecDepth 100000
set_option maxHeartbeats 32000000
namespace bk

open Go.RowKit base obj mem bf
theorem Lh (i:Int):(Tryz.prog.built 139 [(0,.int .i64 i)])=some (gz i):=by kernel_rfl
theorem M1 (i:Int):(Tryz.prog.info? 139).map (·.size)=some (gz i).size:=by kernel_rfl
theorem M0 (i:Int):(Tryz.zeroCells139).size=(gz i).size:=rfl
theorem FX (i:Int):∀v∈(gz i).toList,v.oneCell'=true:=by
 intro v hv;simp only [gz,List.mem_cons,List.mem_replicate] at hv;rcases hv with rfl|⟨_,rfl⟩<;>rfl
def dZ (i:Nat) (bs:List Int):Array Value:=(aX (i,bs)).toArray
theorem NO (i:Nat) (bs:List Int) (h:bs.length=64):((gz i).toList.take 1++(bs.map (Value.int .u8)++(gz i).toList.drop (1+(bs.map (Value.int .u8)).length))).toArray=dZ i bs:=by
 have e:(1+(bs.map (Value.int .u8)).length)=65:=by simp [h]
 rw [e];simp [gz,dZ,aX]
theorem LI:(Tryz.prog.info? 5).map (·.size)=some 1:=by kernel_rfl
theorem Addr.block_add (a:Addr) (j:Nat):(a.add j).block=a.block:=by unfold Go.Addr.add;split<;>rfl
theorem XO {w:World} {g L:Nat} {wv:Value} {m:DS} (h:Row w g 135 (jS L wv m)) {n:Nat} {xs:List Value} (ho:w.ownsRow 0 139 65 wv n xs) {ad:Addr} (hc:∃j x,w.cell? (ad.add j)=some (.int .u8 x)):ad.block≠g:=by
 rintro rfl;obtain ⟨j,x,hx⟩:=hc;have hs:=World.cell?_spot hx
 have:ad.add j=⟨ad.block,(ad.add j).off,none⟩:=by
  have hb:=Addr.block_add ad j;cases he:ad.add j with
  | mk b o s=>rw [he] at hs hb;simp only at hs hb;subst hs;subst hb;rfl
 rw [this,h.cell] at hx;generalize (ad.add j).off=k at hx
 match k,hx with
 | 0,hx=>simp [jS] at hx
 | 1,hx =>
   simp [jS] at hx;subst hx;rcases ho.2 with ⟨e,_⟩|⟨_,_,_,e,_⟩<;>cases e
 | 2,hx=>simp [jS] at hx
 | 3,hx=>simp [jS] at hx
 | k+4,hx=>simp [jS] at hx
theorem Ag {F:Nat→Prop} {w w':World}:∀i,F i→Dy F w w' i:=fun i h=>.inl h
theorem sN {F:Nat→Prop} {g:Nat} {w w':World} (h:Kept (One g) w w') (hg:F g):Kept F w w':=h.mono fun i _ e=>by rw [e];exact hg
theorem wY {w1 w3:World} {F:Nat→Prop} {g L:Nat} {wv:Value} {m:DS} (h:dE w1 F g L wv m) {R R':Obj} (hg:((w1.alloc R).drew.alloc R').grownBy w3 wv.ownBlock) :
  Row w3 g 135 (jS L wv m)∧Row w3 L 137 (m.az.map aV).flatten:=by
 have h1:Row ((w1.alloc R).drew.alloc R') g 135 (jS L wv m):=((h.mh.alloc R).drew).alloc R';have h2:Row ((w1.alloc R).drew.alloc R') L 137 (m.az.map aV).flatten:=((h.laid.alloc R).drew).alloc R';exact ⟨(hg.block g h1.lt (fun e=>h.gw e.symm)).trans h1,(hg.block L h2.lt (fun e=>h.lw e.symm)).trans h2⟩
theorem O8 {w w1 w3:World} {F:Nat→Prop} {g L:Nat} {wv:Value} {m:DS} {n:Nat} {bs:List Int} (hL:bs.length=64) (hn:n < m.az.length) (h:dE w1 F g L wv m) (hk:Kept (One g) w w1) {R R':Obj}
  (hg:((w1.alloc R).drew.alloc R').grownBy w3 wv.ownBlock) {g2 cap:Nat} (ho:w3.ownsRow 0 139 65 (.slice (some ⟨g2,0,none⟩) (m.waits.length+1) cap) (m.waits.length+1) ((m.waits.map aX).flatten++aX (n,bs)))
  (kr:wv.ownBlock=some g2∨((w1.alloc R).drew.alloc R').heap.size≤g2) (aK:g2 < w3.heap.size) :
  hU (w3.setCell ⟨g,1,none⟩ (.slice (some ⟨g2,0,none⟩) (m.waits.length+1) cap)) (Dy F w (w3.setCell ⟨g,1,none⟩ (.slice (some ⟨g2,0,none⟩) (m.waits.length+1) cap))) g (m.put n bs)∧
   Kept F w (w3.setCell ⟨g,1,none⟩ (.slice (some ⟨g2,0,none⟩) (m.waits.length+1) cap)):=by
 obtain ⟨r1,r2⟩:=wY h hg;have iu:((w1.alloc R).drew.alloc R').heap.size=w1.heap.size+2:=by simp [heap_drew]
 have tU:g2≠g:=by
  rcases kr with e|e
  ·rintro rfl;exact h.gw e
  ·have:=h.mh.lt;omega
 refine ⟨⟨L,.slice (some ⟨g2,0,none⟩) (m.waits.length+1) cap,DS.C5 h.b8 hn hL,?_,?_,?_,.inl h.fg,.inl h.fl,fun k GD=>?_⟩,?_⟩
 ·have:=r1.setCell 1 (.slice (some ⟨g2,0,none⟩) (m.waits.length+1) cap);exact this
 ·exact r2.dM (p:=⟨g,1,none⟩) (Ne.symm h.gl) _
 ·have e:((m.put n bs).waits.map aX).flatten=(m.waits.map aX).flatten++aX (n,bs):=by simp [DS.put]
  have e2:(m.put n bs).waits.length=m.waits.length+1:=by simp [DS.put]
  rw [e,e2];exact ownsRow_setCell_other ho (a:=⟨g,1,none⟩) (by simp [Value.ownBlock,tU]) _
 ·simp only [Value.ownBlock,Option.some.injEq] at GD;subst GD;rcases kr with e|e
  ·exact .inl (h.fw _ e)
  ·have:=hk.size;exact .inr ⟨by omega,by simpa [World.setCell] using aK⟩
 ·refine Kept.setCell ?_ (.inl h.fg) _;have k1:Kept F w ((w1.alloc R).drew.alloc R'):=(((sN hk h.fg).alloc R).drew).alloc R';exact k1.trans (Kept.Da hg (fun i=>F i) (fun k hk=>h.fw k hk)) (fun i h=>h) (fun i h _=>h)
theorem vE (p:Nat×List Int):∀u∈aX p,u.oneCell'=true:=by
 intro u hu;rcases List.mem_cons.1 hu with rfl|hu
 ·rfl
 ·exact iO _ u hu
theorem jL {w:World} {F:Nat→Prop} {g L:Nat} {wv:Value} {m:DS} (h:dE w F g L wv m) (i:Int) (A:Option Addr) (c:Nat) (bs:List Int) (hs:Sl w w.heap.size 1 A bs.length (bs.map (.int .u8))) (fY:m.waits.length≤1000000) :
  Calls Tryz.prog 29 #[.pointer (some ⟨g,0,none⟩),.int .i64 i,.slice A bs.length c] w fun e w'=>e=.returned (.int .i64 (m.write i bs).1)∧hU w' (Dy F w w') g (m.write i bs).2∧Kept F w w':=by
 have H:=aa h;have HW:=aa (lK h i);have HS:=aa hs;clear hs;by_cases hi:i < 0∨m.az.length≤i
 ·have e1:m.write i bs=(3,m):=by rw [DS.write,if_pos hi]
  rw [if_pos hi] at HW;rw [e1];clear e1 hi h;go_enter Tryz.func29,Tryz.ntmps29;go_wp2_with fail;refine HW.o.mono ?_;rintro e w' ⟨rfl,rfl⟩;go_wp2_with fail;go_ret;exact ⟨rfl,⟨L,wv,H.o.more Ag⟩,Kept.refl _ _⟩
 ·rw [if_neg hi] at HW;by_cases hl:bs.length=64
  ·have e2:m.write i bs=if m.goes then (0,m.bH.put i.toNat bs) else (8,m.bH):=by rw [DS.write,if_neg hi,if_neg (by simpa using hl)]
   obtain ⟨n,rfl⟩:=Int.eq_ofNat_of_zero_le (show 0≤i by omega);have HB:=aa (MC h);cases hg:m.goes
   ·rw [hg] at e2 HB;simp only [Bool.false_eq_true,if_false] at e2;rw [e2];have hl':((bs.length:Int) != 64)=false:=by simp;omega
    have xL:((bs.length:Int)==64)=true:=by simp;omega
    clear e2 hg hl hi h;go_enter Tryz.func29,Tryz.ntmps29;go_wp2_with fail;refine HW.o.mono ?_;rintro e w' ⟨rfl,rfl⟩;go_wp2_with fail;refine HB.o.mono ?_;rintro e w' ⟨rfl,hd,hk⟩;have HD:=aa hd;have HK:=aa hk;clear hd hk;go_wp2_with fail;go_ret;exact ⟨rfl,⟨L,wv,HD.o.more Ag⟩,sN HK.o H.o.fg⟩
   ·rw [hg] at e2 HB;simp only [if_true] at e2;rw [e2];have hl':((bs.length:Int) != 64)=false:=by simp;omega
    have xL:((bs.length:Int)==64)=true:=by simp;omega
    have HL:=aa hl;have et:n < m.az.length:=by omega
    have hb:=Lh n;clear e2 hg hi h hl;go_enter Tryz.func29,Tryz.ntmps29;go_wp2_with fail;refine HW.o.mono ?_;rintro e w' ⟨rfl,rfl⟩;go_wp2_with fail;refine HB.o.mono ?_;rintro e w1 ⟨rfl,hd,hk⟩;obtain ⟨c0,c1,c2,c3⟩:=hd.read;have f1:=hd.mh.frozen 1;have HD:=aa hd;have HK:=aa hk;clear hd hk;clear c0 c2 c3;have z1:=M1 n;have z2:=M0 n;have z3:=FX n;have Z1:=aa z1;have Z2:=aa z2;have Z3:=aa z3;have zF:=aa (NO n bs HL.o);have dB:=Sl.src (HS.o) (by rw [HL.o];omega);obtain ⟨ad,rfl,aa9,TQ⟩:=dB
    have uY:ad.block≠g:=XO H.o.mh H.o.own (by
     have:=TQ 0 (.int .u8 (bs[0]'(by rw [HL.o];omega))) (by simp)
     exact ⟨_,_,this⟩)
    have Vr:∀j v,(bs.map (Value.int .u8))[j]?=some v→w1.cell? (ad.add j)=some v:=fun j v hv=>by
     rw [HK.o.cell (p:=ad.add j) (by rw [Addr.block_add];exact aa9) (by rw [Addr.block_add];exact uY)];exact TQ j v hv
    have HA:=aa Vr;have YL:(bs.map (Value.int .u8)).length=Nat.min bs.length 64:=by simp [HL.o]
    have HM:=aa YL;have kP:1+(bs.map (Value.int .u8)).length≤(gz n).size:=by simp [HL.o,gz]
    have HF:=aa kP
    have GA:∀w2:World,(loadVar 139 ⟨w2.heap.size,0,none⟩).run Tryz.prog (w2.alloc (.cells (dZ n bs) 139)).drew=.ok (.agg (dZ n bs)) (w2.alloc (.cells (dZ n bs) 139)).drew:=fun w2=>by
     refine run_loadVar_row _ w2.heap.size 139 139 (dZ n bs) (0,0) _ (heap_alloc_new w2 _) Tryz.underlying139 rfl ?_;rw [show (dZ n bs).size=65 by simp [dZ,aX,HL.o]]
     kernel_rfl
    have HLV:=aa GA;have KN:=aa HD.o.own;have lsz:(dZ n bs).size=65:=by simp [dZ,aX,HL.o]
    have LZ:=aa (show (Tryz.prog.info? 139).map (fun i=>(i.zero.isSome,i.size))=some (true,(dZ n bs).size) by rw [lsz];kernel_rfl);have LP:=aa (show 0 < (dZ n bs).size by omega);have LQ:=aa (show (dZ n bs).size≤16777216 by omega);clear lsz
    have sl:∀w2:World,Sl ((w2.alloc (.cells (dZ n bs) 139)).drew.alloc (.cells (dZ n bs) 139)) (w2.heap.size+2) 65 (some ⟨(w2.alloc (.cells (dZ n bs) 139)).drew.heap.size,0,none⟩) 1 (aX (n,bs)):=fun w2=>by
     have hr:=Row.new (w2.alloc (.cells (dZ n bs) 139)).drew 139 (dZ n bs);have QB:(aX (n,bs)).length=1*65:=by simp [aX,HL.o]
     refine hr.sl (by simp [heap_drew]) ?_ QB;rw [←QB];simp [dZ]
    have SL:=aa sl
    have sl2:∀w2:World,Sl ((w2.alloc (.cells (dZ n bs) 139)).alloc (.cells (dZ n bs) 139)).drew (w2.heap.size+2) 65 (some ⟨w2.heap.size+1,0,none⟩) 1 (aX (n,bs)):=fun w2=>by
     have:=sl w2;rw [show (w2.alloc (.cells (dZ n bs) 139)).drew.heap.size=w2.heap.size+1 by simp [heap_drew]] at this;exact this
    have SL2:=aa sl2;clear sl sl2;have ab9:m.bH.waits.length≤1000000:=by rw [DS.fk];exact fY
    have bn:=aa (show (m.bH.waits.length+1)*72≤140737488355328 by omega);have aO:=aa (show m.bH.waits.length+1≤maxLen by unfold maxLen;omega);have wu:=HD.o.mh.lt;have acp:g≤w1.heap.size:=by omega
    have HN:=aa (show n < m.bH.az.length by rw [DS.gL];exact et);clear GA;clear z1 z2 z3 Vr YL kP TQ
    go_wp2_with (first
     | (with_reducible refine gF rfl 139 (.tmp 8) (.tmp 22) rfl (gz n) Tryz.zeroCells139 _ _ rfl rfl Z1.o Z2.o Z3.o ?_)
     | (with_reducible refine qQ rfl (.tmp 24) (.tmp 25) 24 24 rfl Tryz.underlying24 LI _ 1 64 64 ad _ _ rfl rfl (gz n) _ (bs.map (Value.int .u8)) HM.o HA.o HF.o (iO bs) (dZ n bs) zF.o ?_))
    refine ff [0,1,2,3,5] [[4,6,7,8,9,10],[6,4,7,8,9,10]] (by kernel_rfl) (by kernel_rfl) (fun _ _ _ _ _ h=>h) ?_;simp only [mq,pick,af,ae,ah]
    still_step
    still_step
    still_step
    still_step
    refine sW rfl 139 (.tmp 8) rfl (dZ n bs) _ rfl (HLV.o _) ?_;refine wpStill_nil ?_;refine ⟨?_,?_⟩
    all_goals
     go_wp2_with (first
      | (with_reducible refine Ie rfl 133 (.tmp 32) rfl Tryz.underlying133 (dZ n bs) rfl LZ.o LP.o LQ.o ?_)
      | (refine sI Pr rfl (.tmp 31) (.tmp 33) rfl (base:=0) (KN.o.alloc _ |>.drew |>.alloc _) rfl rfl (SL.o _) (vE _) (by omega) bn.o aO.o (Nat.zero_le _) ?_;intro g2 cap w3 ho hg kr aK;obtain ⟨r1,r2⟩:=wY HD.o hg;have c4:w3.cell? ⟨g,1,none⟩=some wv:=r1.cell 1;have f4:=r1.frozen 1;have HO:=aa ho;have HG:=aa hg;have HOR:=aa kr;have E5:=aa aK;clear ho hg kr aK r1 r2 c1 f1)
      | (refine sI Pr rfl (.tmp 31) (.tmp 33) rfl (base:=0) (KN.o.alloc _ |>.alloc _ |>.drew) rfl rfl (SL2.o _) (vE _) (by omega) bn.o aO.o (Nat.zero_le _) ?_;intro g2 cap w3 ho hg kr aK;obtain ⟨r1,r2⟩:=wY HD.o hg;have c4:w3.cell? ⟨g,1,none⟩=some wv:=r1.cell 1;have f4:=r1.frozen 1;have HO:=aa ho;have HG:=aa hg;have HOR:=aa kr;have E5:=aa aK;clear ho hg kr aK r1 r2 c1 f1))
     go_ret;exact ⟨rfl,O8 HL.o HN.o HD.o HK.o HG.o HO.o HOR.o E5.o⟩
  ·have e1:m.write i bs=(14,m):=by rw [DS.write,if_neg hi,if_pos (by simpa using hl)]
   rw [e1];have hl':((bs.length:Int) != 64)=true:=by simp;omega
   have xL:((bs.length:Int)==64)=false:=by simp;omega
   clear e1 hi h hl;go_enter Tryz.func29,Tryz.ntmps29;go_wp2_with fail;refine HW.o.mono ?_;rintro e w' ⟨rfl,rfl⟩;go_wp2_with fail;go_ret;exact ⟨rfl,⟨L,wv,H.o.more Ag⟩,Kept.refl _ _⟩
end bk
namespace bk

open Go.RowKit base obj mem bf
theorem eb (s:List Int):(aV s).length=s.length:=by simp [aV]
theorem ny (p:Nat×List Int):(aX p).length=p.2.length+1:=by simp [aX]
theorem BC (s:List Int):∀u∈aV s,u.oneCell'=true:=iO s
theorem uN {s:List Int} (h:s.length=64):(Tryz.prog.info? 137).map (·.size)=some (aV s).length:=by
 rw [eb,h];kernel_rfl
theorem vF {p:Nat×List Int} (h:p.2.length=64):(Tryz.prog.info? 139).map (·.size)=some (aX p).length:=by
 rw [ny,h];kernel_rfl
theorem wZ {m:DS} (h:m.Good):∀x∈m.az.map aV,x.length=64:=by
 intro x hx;obtain ⟨s,hs,rfl⟩:=List.mem_map.1 hx;rw [eb];exact h.az s hs
theorem Kj {m:DS} (h:m.Good):∀x∈m.waits.map aX,x.length=65:=by
 intro x hx;obtain ⟨s,hs,rfl⟩:=List.mem_map.1 hx;rw [ny,(h.waits s hs).2]
theorem XT {m:DS} (h:m.Good) {n:Nat} (hn:n < m.az.length):((m.az.map aV).flatten.drop (n*64)).take (aV (m.az.getD n [])).length=aV (m.az.getD n []):=by
 have e:m.az.getD n []=m.az[n]:=by simp [hn]
 rw [e,eb,h.az _ (List.getElem_mem hn),qH (wZ h) (by simpa using hn)];simp
theorem mD {w:World} {base:Nat} {e:TypeId} {size:Nat} {v:Value} {n:Nat} {xs:List Value} (h:w.ownsRow base e size v n xs) (hn:0 < n):∃W c cur,v=.slice (some ⟨W,0,none⟩) n c∧Row w W e cur∧cur.take (n*size)=xs:=by
 rcases h.2 with ⟨_,h0⟩|⟨g,cap,cur,rfl,_,hg,_,_,_,ht⟩
 ·omega
 ·exact ⟨g,cap,cur.toList,rfl,by unfold Row;simpa using hg,ht⟩
theorem LF {m:DS} (h:m.Good) {cur:List Value} (hc:cur.take (m.waits.length*65)=(m.waits.map aX).flatten) {k:Nat} (hk:k < m.waits.length):(cur.drop (k*65)).take (aX m.waits[k]).length=aX m.waits[k]:=by
 have h65:(aX m.waits[k]).length=65:=by rw [ny,(h.waits _ (List.getElem_mem hk)).2]
 have e:=qH (Kj h) (i:=k) (by simpa using hk);rw [←hc] at e;rw [h65]
 have:((cur.take (m.waits.length*65)).drop (k*65)).take 65=(cur.drop (k*65)).take 65:=by
  rw [List.drop_take,List.take_take]
  congr 1
  have:(k+1)*65≤m.waits.length*65:=Nat.mul_le_mul_right 65 hk;omega
 rw [this] at e;rw [e];simp
def C8 (s:List Int):Array Value:=(s.map (Value.int .u8)).toArray
structure sJ (w:World) (m:DS) (n k:Nat) (wr:World):Prop where
 row:Row wr w.heap.size 137 (aV (jt m.waits (m.az.getD n []) n k))
 aI:Below w.heap.size w wr
theorem Nv {w:World} {F:Nat→Prop} {g L:Nat} {wv:Value} {m:DS} (h:dE w F g L wv m) {n:Nat} {s0:List Value} (e:aV (m.az.getD n [])=s0):sJ w m n 0 (w.alloc (.cells s0.toArray 137)):=by
 refine ⟨?_,(Below.refl _ _).alloc (Nat.le_refl _) _⟩;subst e;exact Row.new w 137 _
theorem PH {w wr:World} {F:Nat→Prop} {g L:Nat} {wv:Value} {m:DS} (h:dE w F g L wv m) {n k:Nat} (hr:sJ w m n k wr) (hk:k < m.waits.length) {A:Option Addr} {c:Nat} (hv:wv=.slice A m.waits.length c) :
  ∃W cur,A=some ⟨W,0,none⟩∧Row wr W 139 cur∧(cur.drop (k*65)).take (aX m.waits[k]).length=aX m.waits[k]:=by
 obtain ⟨W,c',cur,Eg,aZ,TM⟩:=mD h.own (by omega);rw [hv] at Eg;injection Eg with h1 h2 h3
 exact ⟨W,cur,h1,aZ.below hr.aI aZ.lt,LF h.b8 TM hk⟩
theorem FZ (p:Nat×List Int):((aX p).drop 1).take (aV p.2).length=aV p.2:=by
 simp only [aX,List.drop_succ_cons,List.drop_zero,aV];exact List.take_of_length_le (by simp)
theorem PI {w wr:World} {m:DS} {n k:Nat} (h:sJ w m n k wr) (hk:k < m.waits.length) (e:m.waits[k].1≠n) (o:Obj):sJ w m n (k+1) (wr.alloc o):=by
 refine ⟨?_,h.aI.alloc h.aI.size _⟩;rw [ui hk e];exact h.row.alloc o
theorem SZ {w wr:World} {m:DS} {n k:Nat} (h:sJ w m n k wr) (hk:k < m.waits.length) (e:m.waits[k].1=n) (o:Obj) :
  sJ w m n (k+1) ((wr.alloc o).setRow w.heap.size (aV m.waits[k].2).toArray):=by
 refine ⟨?_,below_setRow (h.aI.alloc h.aI.size _) (Nat.le_refl _) _⟩;rw [Ae hk e];exact (h.row.alloc o).setRow _
theorem Pc {xs ys:List Value} (h:xs.length=ys.length):xs.take 0++ys.toArray.toList++xs.drop (0+ys.toArray.size)=ys:=by
 rw [List.drop_of_length_le (by simp [h])];simp
theorem Jk {w:World} {F:Nat→Prop} {g L:Nat} {wv:Value} {m:DS} (h:dE w F g L wv m) (n:Nat) (hn:n < m.az.length) (hd:m.down=false) (fY:m.waits.length≤1000000) :
  Calls Tryz.prog 28 #[.pointer (some ⟨g,0,none⟩),.int .i64 n] w fun e w'=>∃b,e=.returned (.tuple #[.slice (some ⟨b,0,none⟩) 64 64,.int .i64 0])∧w.heap.size≤b∧Row w' b 5 ((m.now n).map (.int .u8))∧Below w.heap.size w w':=by
 obtain ⟨c0,c1,c2,c3⟩:=h.read;have hw:=lK h n;rw [if_neg (by omega)] at hw;have HW:=aa hw;have H:=aa h;rw [hd] at c3;have wu:=h.mh.lt;have Iv:=h.b8
 have rD:(m.az.getD n []).length=64:=by
  have e:m.az.getD n []=m.az[n]:=by simp [hn]
  rw [e];exact Iv.az _ (List.getElem_mem hn)
 have HSA:=aa (XT Iv hn);have lv:=aa (uN rD);have HLA:=aa h.laid;have H64:=aa rD;have HG:=aa Iv;have mU:=aa (show (aV (m.az.getD n [])).toArray.size=64 by rw [List.size_toArray,eb,rD]);have z2:sf.size=(aV (m.az.getD n [])).toArray.size:=by rw [mU.o];rfl
 have HZ2:=aa z2;have HZ1:=aa (show (Tryz.prog.info? 137).map (·.size)=some (aV (m.az.getD n [])).toArray.size by rw [mU.o];kernel_rfl);have K7:=aa (show ∀v∈(aV (m.az.getD n [])).toArray.toList,v.oneCell'=true by simpa using BC (m.az.getD n []));clear hw h hd z2 rD Iv c2;obtain ⟨A,wc,JG,_⟩:=aH H.o.own;rw [JG] at c1;have RE:=aa JG;clear JG;generalize Am:aV (m.az.getD n [])=s0 at *;have KZ:=aa Am;clear Am;have ZI:=aa (show (Tryz.prog.info? 137).map (·.zero)=some (some (.agg sf)) by kernel_rfl);go_enter Tryz.func28,Tryz.ntmps28;go_wp2_with fail;refine HW.o.mono ?_;rintro e w' ⟨rfl,rfl⟩
 go_wp2_with (first
  | (with_reducible refine jo rfl 137 (.tmp 26) rfl L _ rfl s0 _ HLA.o HSA.o Tryz.underlying137 rfl lv.o ?_)
  | (with_reducible refine gG rfl 137 rfl (.agg sf) ZI.o ?_)
  | (refine gF rfl 137 (.tmp 7) (.tmp 27) rfl s0.toArray sf _ _ rfl rfl HZ1.o HZ2.o K7.o ?_))
 have HB:=aa (Nv H.o (s0:=s0) KZ.o);go_loopw [33] (fun i wr=>∃k:Nat,k≤m.waits.length∧i=.int .i64 k∧sJ w m n k wr) (fun i _=>m.waits.length-(intOf i).toNat)
 case atStart=>exact ⟨0,by omega,rfl,HB.o⟩
 case round =>
  obtain ⟨k,hk,rfl,nX⟩:=hrel;have HR:=aa nX;clear nX;by_cases aK:k < m.waits.length
  ·obtain ⟨W,cur,hA,aZ,j9⟩:=PH H.o HR.o aK RE.o;have gy:=aa aZ;have HAT:=aa j9;have E5:=aa aK;subst hA;clear aZ j9;have YH:=(HG.o.waits _ (List.getElem_mem aK)).2;have HP:=aa YH;have iw:=aa HR.o.row;have HN:=aa (vM (at_:=n) (fun p hp=>(HG.o.waits p hp).2) H64.o k (by omega));have RM:=aa (PI HR.o aK);have RH:=aa (SZ HR.o aK);have HB:=aa HR.o.aI.size;generalize Em:m.waits[k]=p at *;have HPP:=aa Em;have tV:(aX p).toArray[0]?=some (.int .i64 p.1):=rfl;have W1:=aa (vF HP.o);have W2:=aa (show (Tryz.prog.info? 139).map (·.size)=some (aX p).toArray.size by simpa using vF HP.o);have W3:=aa (show (gz 0).size=(aX p).toArray.size by rw [show (aX p).toArray.size=65 by rw [List.size_toArray,ny,HP.o]];rfl);have W4:=aa (show ∀v∈(aX p).toArray.toList,v.oneCell'=true by simpa using vE p);have W5:=aa (show (Tryz.prog.info? 139).map (·.zero)=some (some (.agg (gz 0))) by kernel_rfl);have W6:=aa (Row.new wr 139 (aX p).toArray);have W7:=aa (FZ p);have W8:=aa (uN HP.o);have W9:=aa (iw.o.alloc (.cells (aX p).toArray 139));have X1:=aa (show (Tryz.prog.info? 137).map (·.size)=some (aV p.2).toArray.size by simpa using uN HP.o);have X2:=aa (show 0+(aV p.2).toArray.size≤(aV (jt m.waits (m.az.getD n []) n k)).length by rw [List.size_toArray,eb,eb,HP.o,HN.o];omega);have X3:=aa (show ∀v∈(aV p.2).toArray.toList,v.oneCell'=true by simpa using BC p.2);have X4:=aa (Pc (xs:=aV (jt m.waits (m.az.getD n []) n k)) (ys:=aV p.2) (by rw [eb,eb,HP.o,HN.o]));clear YH Em;by_cases j9:p.1=n
   ·have hb:((p.1:Int)==(n:Int))=true:=by simp [j9]
    have HE:=aa j9;clear j9
    go_wp2_with (first
     | (with_reducible refine jo rfl 139 (.tmp 35) rfl W _ rfl (aX p) _ gy.o HAT.o Tryz.underlying139 rfl W1.o ?_)
     | (with_reducible refine gG rfl 139 rfl (.agg (gz 0)) W5.o ?_)
     | (refine gF rfl 139 (.tmp 9) (.tmp 36) rfl (aX p).toArray (gz 0) _ _ rfl rfl W2.o W3.o W4.o ?_)
     | (with_reducible refine jo rfl 137 (.tmp 41) rfl wr.heap.size 1 rfl (aV p.2) _ W6.o W7.o Tryz.underlying137 rfl W8.o ?_)
     | (with_reducible refine aF rfl 137 (.tmp 7) (.tmp 42) rfl w.heap.size 0 (aV p.2).toArray rfl rfl W9.o X1.o X2.o X3.o (aV p.2) X4.o ?_))
    go_roundw;case rel=>exact ⟨k+1,by omega,by go_num,RH.o HE.o _⟩
    case measure=>simp [intOf];omega
   ·have hb:((p.1:Int)==(n:Int))=false:=by simp;omega
    have HE:=aa j9;clear j9
    go_wp2_with (first
     | (with_reducible refine jo rfl 139 (.tmp 35) rfl W _ rfl (aX p) _ gy.o HAT.o Tryz.underlying139 rfl W1.o ?_)
     | (with_reducible refine gG rfl 139 rfl (.agg (gz 0)) W5.o ?_)
     | (refine gF rfl 139 (.tmp 9) (.tmp 36) rfl (aX p).toArray (gz 0) _ _ rfl rfl W2.o W3.o W4.o ?_))
    go_roundw;case rel=>exact ⟨k+1,by omega,by go_num,RM.o HE.o _⟩
    case measure=>simp [intOf];omega
  ·obtain rfl:k=m.waits.length:=by omega
   have iw:=aa HR.o.row;have HB:=aa HR.o.aI;have e1:jt m.waits (m.az.getD n []) n m.waits.length=m.now n:=rfl;rw [e1] at iw;have hl:=vM (at_:=n) (fun p hp=>(HG.o.waits p hp).2) H64.o m.waits.length (by omega);rw [e1] at hl;have HNL:=aa hl;have pL:∀w:World,(Instr.makeSlice 24 (.int .i64 64) (.int .i64 64)).run Tryz.prog w=.ok (.slice (some ⟨w.heap.size,0,none⟩) 64 64) (w.alloc (.cells sf 5)):=fun w=>by kernel_rfl
   have C1:=aa (show (aV (m.now n)).length=Nat.min 64 64 by rw [eb,hl];rfl)
   have C2:=aa (show ∀j v,(aV (m.now n))[j]?=some v→wr.cell? ((⟨w.heap.size,0,none⟩:Addr).add j)=some v from fun j v hv=>by
    rw [Addr.add_mid,Nat.zero_add,iw.o.cell j];exact hv)
   have C3:=aa (show 0+(aV (m.now n)).length≤sf.size by rw [eb,hl];exact Nat.le_refl _)
   have C4:=aa (show (sf.toList.take 0++(aV (m.now n)++sf.toList.drop (0+(aV (m.now n)).length))).toArray=C8 (m.now n) by
    rw [List.take_zero,List.nil_append,List.drop_of_length_le (by rw [eb,hl];exact Nat.le_refl _),List.append_nil];rfl)
   have hNr:=HB.o.size;clear hl e1 hk;go_wp2_with (refine qQ rfl (.tmp 45) (.tmp 46) 24 24 rfl Tryz.underlying24 LI _ 0 64 64 ⟨w.heap.size,0,none⟩ _ _ rfl rfl sf _ (aV (m.now n)) C1.o C2.o C3.o (BC _) (C8 (m.now n)) C4.o ?_);go_ret2;refine ⟨wr.heap.size,rfl,hNr,?_,HB.o.alloc hNr _⟩;exact Row.new wr 5 (C8 (m.now n))
theorem xv {w:World} {F:Nat→Prop} {g L:Nat} {wv:Value} {m:DS} (h:dE w F g L wv m) (i:Int) (fY:m.waits.length≤1000000) :
  Calls Tryz.prog 28 #[.pointer (some ⟨g,0,none⟩),.int .i64 i] w fun e w' =>
   (if i < 0∨m.az.length≤i then e=.returned (.tuple #[.slice none 0 0,.int .i64 3]) else if m.down then e=.returned (.tuple #[.slice none 0 0,.int .i64 8])
    else ∃b,e=.returned (.tuple #[.slice (some ⟨b,0,none⟩) 64 64,.int .i64 0])∧w.heap.size≤b∧Row w' b 5 ((m.now i.toNat).map (.int .u8)))∧Below w.heap.size w w':=by
 have hw:=lK h i;by_cases hi:i < 0∨m.az.length≤i
 ·simp only [if_pos hi] at hw ⊢;have HW:=aa hw;clear hw hi h;go_enter Tryz.func28,Tryz.ntmps28;go_wp2_with fail;refine HW.o.mono ?_;rintro e w' ⟨rfl,rfl⟩;go_wp2_with fail;go_ret2;exact ⟨rfl,Below.refl _ _⟩
 ·simp only [if_neg hi] at hw ⊢;cases hd:m.down
  ·obtain ⟨n,rfl⟩:=Int.eq_ofNat_of_zero_le (show 0≤i by omega);refine (Jk h n (by omega) hd fY).mono ?_;rintro e w' ⟨b,h1,h2,h3,h4⟩;exact ⟨by simpa using ⟨b,h1,h2,h3⟩,h4⟩
  ·simp only [if_true];obtain ⟨c0,c1,c2,c3⟩:=h.read;rw [hd] at c3;have HW:=aa hw;clear hw hi h hd c0 c1 c2;go_enter Tryz.func28,Tryz.ntmps28;go_wp2_with fail;refine HW.o.mono ?_;rintro e w' ⟨rfl,rfl⟩;go_wp2_with fail;go_ret2;exact ⟨rfl,Below.refl _ _⟩
end bk
namespace bk

open Go.RowKit base obj mem bf
def DS.laid (m:DS) (p:Nat→Bool) (k:Nat):DS:={ m with az:=gK p m.waits m.az k }
theorem Gm {m:DS} (h:m.Good) (p:Nat→Bool) (k:Nat):(m.laid p k).Good:=by
 have e:=jZ p m.waits m.az k;refine ⟨Dg (fun q hq=>(h.waits q hq).2) h.az _,fun q hq=>?_,h.BP,h.BO,?_,?_⟩
 ·show _ < (gK _ _ _ _).length∧_
  rw [e];exact h.waits q hq
 ·show 1≤(gK _ _ _ _).length
  rw [e];exact h.n0
 ·show (gK _ _ _ _).length≤128
  rw [e];exact h.n1
structure rL (w:World) (F:Nat→Prop) (g L:Nat) (wv:Value) (m:DS) (p:Nat→Bool) (k:Nat) (wr:World):Prop where
 bk:dE wr F g L wv (m.laid p k)
 kept:Kept F w wr
theorem To {w wr:World} {F:Nat→Prop} {g L:Nat} {wv:Value} {m:DS} {p:Nat→Bool} {k:Nat} (h:rL w F g L wv m p k wr):wr.cell? ⟨g,0,none⟩=some (.slice (some ⟨L,0,none⟩) m.az.length m.az.length)∧wr.cell? ⟨g,1,none⟩=some wv∧g < wr.heap.size:=by
 obtain ⟨c0,c1,_,_⟩:=h.bk.read;have e:(m.laid p k).az.length=m.az.length:=jZ p m.waits m.az k;rw [e] at c0;exact ⟨c0,c1,h.bk.mh.lt⟩
theorem Tn {w wr:World} {F:Nat→Prop} {g L:Nat} {wv:Value} {m:DS} {p:Nat→Bool} {k:Nat} (h:rL w F g L wv m p k wr) (hk:k < m.waits.length) {A:Option Addr} {c:Nat} (hv:wv=.slice A m.waits.length c) :
  ∃W cur,A=some ⟨W,0,none⟩∧Row wr W 139 cur∧(cur.drop (k*65)).take (aX m.waits[k]).length=aX m.waits[k]:=by
 obtain ⟨W,c',cur,Eg,aZ,TM⟩:=mD h.bk.own (show 0 < m.waits.length by omega);rw [hv] at Eg;injection Eg with h1 h2 h3
 exact ⟨W,cur,h1,aZ,LF (m:=m.laid p k) h.bk.b8 TM hk⟩
theorem Tp {m:DS} {p:Nat→Bool} {k:Nat} (hk:k < m.waits.length) (hp:p k=true):(m.laid p (k+1)).az=(m.laid p k).az.set m.waits[k].1 m.waits[k].2:=Ai hk hp
theorem WK {m:DS} {p:Nat→Bool} {k:Nat} (hk:k < m.waits.length) (hp:p k=false):m.laid p (k+1)=m.laid p k:=by
 unfold DS.laid;rw [JD hk hp]
theorem Yi {w wr:World} {F:Nat→Prop} {g L:Nat} {wv:Value} {m:DS} {p:Nat→Bool} {k:Nat} (h:rL w F g L wv m p k wr) (hk:k < m.waits.length) (hp:p k=false) (o:Obj):rL w F g L wv m p (k+1) (wr.alloc o):=by
 refine ⟨?_,h.kept.alloc o⟩;rw [WK hk hp];exact h.bk.kept ((Kept.refl (fun _=>False) wr).alloc o) (fun _ _ h=>h)
theorem WH {w wr w2:World} {F:Nat→Prop} {g L:Nat} {wv:Value} {m:DS} {p:Nat→Bool} {k:Nat} (hm:m.Good) (h:rL w F g L wv m p k wr) (hk:k < m.waits.length) (hp:p k=true) (dY:Kept (fun _=>False) wr w2) :
  rL w F g L wv m p (k+1) (w2.setRow L (((m.laid p k).az.map aV).set m.waits[k].1 (aV m.waits[k].2)).flatten.toArray):=by
 have hd2:=h.bk.kept dY (fun _ _ h=>h);refine ⟨⟨Gm hm p (k+1),?_,?_,?_,h.bk.fg,h.bk.fl,h.bk.fw⟩,?_⟩
 ·have e:jS L wv (m.laid p (k+1))=jS L wv (m.laid p k):=by
   have e1:(m.laid p (k+1)).az.length=m.az.length:=jZ p m.waits m.az (k+1);have e2:(m.laid p k).az.length=m.az.length:=jZ p m.waits m.az k;simp only [jS,e1,e2];rfl
  rw [e];exact hd2.mh.setRow_other _ h.bk.gl
 ·rw [Tp hk hp,List.map_set];exact hd2.laid.setRow _
 ·have k1:Kept (fun i=>i=L) w2 (w2.setRow L (((m.laid p k).az.map aV).set m.waits[k].1 (aV m.waits[k].2)).flatten.toArray):=fV (Kept.refl (fun i=>i=L) _) (.inl (show L=L from rfl)) _;exact k1.own hd2.own (fun i hi e=>h.bk.lw (by rw [hi,e]))
 ·exact fV (h.kept.trans dY (fun i h=>h) (fun i h=>h.elim)) (.inl h.bk.fl) _
theorem Ta {w:World} {base:Nat} {e:TypeId} {size n c g:Nat} {xs:List Value} (h:w.ownsRow base e size (.slice (some ⟨g,0,none⟩) n c) n xs):w.ownsRow base e size (.slice (some ⟨g,0,none⟩) 0 c) 0 []:=by
 rcases h.2 with ⟨e,_⟩|⟨g',cap,cur,e,hb,hg,_,hm,hs,_⟩
 ·cases e
 ·injection e with e1 e2 e3
  injection e1 with e1
  injection e1 with e1
  subst e1;subst e3;exact ⟨by simp,.inr ⟨g,c,cur,rfl,hb,hg,Nat.zero_le _,hm,hs,by simp⟩⟩
theorem LX {w wr w2:World} {F:Nat→Prop} {g L:Nat} {m:DS} {p:Nat→Bool} {A:Option Addr} {c:Nat} (hm:m.Good) (h:rL w F g L (.slice A m.waits.length c) m p m.waits.length wr)
  (hg:wr.grownBy w2 (Value.ownBlock (.slice A m.waits.length c))) {ys:List Value} (ho:w2.ownsRow 0 139 65 (.slice A m.waits.length c) m.waits.length ys) :
  hU (w2.setCell ⟨g,1,none⟩ (.slice A 0 c)) F g (m.lay p)∧Kept F w (w2.setCell ⟨g,1,none⟩ (.slice A 0 c)):=by
 have hd:=h.bk;have hgw:=hd.gw;have QB:=hd.lw;have b1:Row w2 g 135 (jS L (.slice A m.waits.length c) (m.laid p m.waits.length)):=(hg.block g hd.mh.lt (fun e=>hgw e.symm)).trans hd.mh;have b2:Row w2 L 137 ((m.laid p m.waits.length).az.map aV).flatten:=(hg.block L hd.laid.lt (fun e=>QB e.symm)).trans hd.laid;refine ⟨⟨L,.slice A 0 c,DS.Df hm p,b1.setCell 1 _,b2.dM (p:=⟨g,1,none⟩) (Ne.symm hd.gl) _,?_,hd.fg,hd.fl,fun k hk=>hd.fw k ?_⟩,?_⟩
 ·refine ownsRow_setCell_other ?_ (a:=⟨g,1,none⟩) ?_ _
  ·rcases A with _|⟨b,o,sp⟩
   ·have hc:c=0:=xx ho rfl;subst hc;exact World.ownsRow_nil _ _ _ _
   ·rcases ho.2 with ⟨e,_⟩|⟨g',cap,cur,e,_⟩
    ·cases e
    ·injection e with e1 e2 e3
     injection e1 with e1
     rw [e1] at ho ⊢;exact Ta ho
  ·intro e;exact hgw (by cases A<;>simp_all [Value.ownBlock])
 ·cases A<;>simp_all [Value.ownBlock]
 ·refine Kept.setCell ?_ (.inl hd.fg) _;exact h.kept.trans (Kept.Da hg F (fun k hk=>hd.fw k hk)) (fun i h=>h) (fun i h _=>h)
theorem V4 {m:DS} (h:m.Good) {i:Nat} (hi:i < m.az.length) {b:List Int} (hb:b.length=64) :
  (m.az.map aV).flatten.take (i*64)++(aV b).toArray.toList++(m.az.map aV).flatten.drop (i*64+(aV b).toArray.size)=((m.az.map aV).set i (aV b)).flatten:=by
 have e:(aV b).toArray.size=64:=by rw [List.size_toArray,eb,hb]
 have e2:=TX (wZ h) (i:=i) (by simpa using hi) (v:=aV b) (by rw [eb,hb]);rw [e];exact e2
theorem V5 {m:DS} (h:m.Good) {i:Nat} (hi:i < m.az.length) {b:List Int} (hb:b.length=64):i*64+(aV b).toArray.size≤(m.az.map aV).flatten.length:=by
 rw [List.size_toArray,eb,hb,kA _ (wZ h),gN];have:(i+1)*64≤m.az.length*64:=Nat.mul_le_mul_right 64 hi;omega
theorem Qk {w:World} {F:Nat→Prop} {g L:Nat} {wv:Value} {m:DS} (h:dE w F g L wv m) (p:Nat→Bool) (f:Nat) (jx:Array Value) (oG:∀(w:World) (i:Int),(callFunc f (#[.int .i64 i]++jx)).run Tryz.prog w=.ok (.enter f (#[.int .i64 i]++jx)) w)
  (hf:∀wr,Kept F w wr→∀i:Nat,i < m.waits.length→Calls Tryz.prog f (#[.int .i64 i]++jx) wr fun e w'=>e=.returned (.bool (p i))∧wr=w') (fY:m.waits.length≤1000000) :
  Calls Tryz.prog 79 #[.pointer (some ⟨g,0,none⟩),.func (.func f) #[] jx] w fun e w'=>e=.returned (.tuple #[])∧hU w' F g (m.lay p)∧Kept F w w':=by
 obtain ⟨c0,c1,c2,c3⟩:=h.read;obtain ⟨A,wc,JG,_⟩:=aH h.own;rw [JG] at c1;have RE:=aa JG;have H:=aa h;have HF:=aa hf;have HG:=aa h.b8;have bJ:=aa (rL.mk (p:=p) (k:=0) h (Kept.refl F w));clear JG h hf c0 c2 c3;go_enter Tryz.func79,Tryz.ntmps79;go_wp2_with fail;go_loopw [11] (fun i wr=>∃k:Nat,k≤m.waits.length∧i=.int .i64 k∧rL w F g L wv m p k wr) (fun i _=>m.waits.length-(intOf i).toNat)
 case atStart=>exact ⟨0,by omega,rfl,bJ.o⟩
 case round =>
  obtain ⟨k,hk,rfl,nX⟩:=hrel;have HR:=aa nX;obtain ⟨r0,r1,r2⟩:=To nX;rw [RE.o] at r1;clear nX;by_cases aK:k < m.waits.length
  ·obtain ⟨W,cur,hA,aZ,j9⟩:=Tn HR.o aK RE.o;have gy:=aa aZ;have HAT:=aa j9;have E5:=aa aK;subst hA;clear aZ j9;have HP:=aa ((HG.o.waits _ (List.getElem_mem aK)).2);have Cn:=(HG.o.waits _ (List.getElem_mem aK)).1;have RM:=aa (Yi HR.o aK);have RH:=aa (fun w2=>WH (w2:=w2) HG.o HR.o aK);generalize Em:m.waits[k]=q at *;have HPP:=aa Em;have tV:(aX q).toArray[0]?=some (.int .i64 q.1):=rfl;have W1:=aa (vF HP.o);have W2:=aa (show (Tryz.prog.info? 139).map (·.size)=some (aX q).toArray.size by simpa using vF HP.o);have W3:=aa (show (gz 0).size=(aX q).toArray.size by rw [show (aX q).toArray.size=65 by rw [List.size_toArray,ny,HP.o]];rfl);have W4:=aa (show ∀v∈(aX q).toArray.toList,v.oneCell'=true by simpa using vE q);have W5:=aa (show (Tryz.prog.info? 139).map (·.zero)=some (some (.agg (gz 0))) by kernel_rfl);clear Em
   go_wp2_with (first
    | (with_reducible refine jo rfl 139 (.tmp 14) rfl W _ rfl (aX q) _ gy.o HAT.o Tryz.underlying139 rfl W1.o ?_)
    | (with_reducible refine gG rfl 139 rfl (.agg (gz 0)) W5.o ?_)
    | (refine gF rfl 139 (.tmp 5) (.tmp 15) rfl (aX q).toArray (gz 0) _ _ rfl rfl W2.o W3.o W4.o ?_))
   have BL:=HF.o _ (HR.o.kept.alloc (.cells (aX q).toArray 139)) k aK;have Hx:=aa (HR.o.bk.laid.alloc (.cells (aX q).toArray 139));have kL:=aa (show (m.laid p k).az.length=m.az.length from jZ p m.waits m.az k);have HGK:=aa (Gm HG.o p k);cases uX:p k
   ·rw [uX] at BL;refine BL.mono ?_;rintro e w' ⟨rfl,rfl⟩;have tD:=aa uX;clear BL uX;go_wp2_with fail;go_roundw;case rel=>exact ⟨k+1,by omega,by go_num,RM.o tD.o _⟩
    case measure=>simp [intOf];omega
   ·rw [uX] at BL;refine BL.mono ?_;rintro e w' ⟨rfl,rfl⟩;have tD:=aa uX;have hb:=uX;have W6:=aa (Row.new wr 139 (aX q).toArray);have W7:=aa (FZ q);have W8:=aa (uN HP.o)
    have GA:(loadVar 137 ⟨wr.heap.size,1,none⟩).run Tryz.prog (wr.alloc (.cells (aX q).toArray 139)).drew=.ok (.agg (aV q.2).toArray) (wr.alloc (.cells (aX q).toArray 139)).drew:=by
     refine run_loadVar_mid _ wr.heap.size 1 137 (aV q.2) _ ?_ Tryz.underlying137 rfl W8.o;rw [←W7.o];exact (W6.o.drew).range 1 _
    have HLV:=aa GA;have i0:(0:Int)≤(q.1:Int):=by omega
    have i1:(q.1:Int) < (m.az.length:Int):=by omega
    have r3:g≤wr.heap.size:=by omega
    have X1:=aa (show (Tryz.prog.info? 137).map (·.size)=some (aV q.2).toArray.size by simpa using uN HP.o);have X2:=aa (V5 HGK.o (show q.1 < (m.laid p k).az.length by rw [kL.o];exact Cn) HP.o);have X3:=aa (show ∀v∈(aV q.2).toArray.toList,v.oneCell'=true by simpa using BC q.2);have X4:=aa (V4 HGK.o (show q.1 < (m.laid p k).az.length by rw [kL.o];exact Cn) HP.o);clear BL uX GA Cn hb;go_wp2_with fail;refine ff [0,1,2,4,6,3,5,7,8] [[9]] (by kernel_rfl) (by kernel_rfl) (fun _ _ _ _ _ h=>h) ?_;simp only [mq,pick,af,ae,ah]
    still_step
    still_step
    still_step
    still_step
    still_step
    still_step
    still_step
    refine sW rfl 137 (.tmp 25) rfl (aV q.2).toArray _ rfl HLV.o ?_
    still_step
    refine wpStill_nil ?_;go_wp2_with (with_reducible refine aF rfl 137 (.tmp 27) (.tmp 26) rfl L (q.1*64) (aV q.2).toArray rfl rfl Hx.o.drew X1.o X2.o X3.o _ X4.o ?_);go_roundw;case rel=>exact ⟨k+1,by omega,by go_num,RH.o _ tD.o ((Kept.refl _ _).alloc _).drew⟩
    case measure=>simp [intOf];omega
  ·obtain rfl:k=m.waits.length:=by omega
   have HD:=aa HR.o.bk;have HK:=aa HR.o.kept;have f1:=HR.o.bk.mh.frozen 1;have wu:=HR.o.bk.mh.lt;have KN:=aa HR.o.bk.own;have ZI:=aa (show (Tryz.prog.info? 139).map (·.zero)=some (some (.agg (gz 0))) by kernel_rfl);have Z1:=aa (FX 0);have qM:=aa HR.o;rw [RE.o] at KN qM;clear hk aK;have GW:=aa qM.o.bk.gw;rcases A with _|⟨Wb,Wo,Ws⟩
   ·have hc:=xx KN.o rfl;subst hc
    go_wp2_with (first
     | (refine zL (size:=65) rfl 133 (.tmp 32) rfl Tryz.underlying133 (.agg (gz 0)) ZI.o rfl Z1.o (by decide) KN.o rfl ?_;intro w2 ys ho hg iu;have hb:=hg.block g wu (fun e=>GW.o e.symm);have r1':=(World.cell?_of_block (a:=⟨g,1,none⟩) hb).trans r1;have f1':=(World.frozen?_of_block (a:=⟨g,1,none⟩) hb).trans f1;have HO:=aa ho;have E6:=aa hg;clear ho hg hb iu)
     | (go_at_call 99999;skip))
    go_end0
    exact ⟨rfl,LX HG.o qM.o E6.o HO.o⟩
   ·go_wp2_with (first
     | (refine zL (size:=65) rfl 133 (.tmp 32) rfl Tryz.underlying133 (.agg (gz 0)) ZI.o rfl Z1.o (by decide) KN.o rfl ?_;intro w2 ys ho hg iu;have hb:=hg.block g wu (fun e=>GW.o e.symm);have r1':=(World.cell?_of_block (a:=⟨g,1,none⟩) hb).trans r1;have f1':=(World.frozen?_of_block (a:=⟨g,1,none⟩) hb).trans f1;have HO:=aa ho;have E6:=aa hg;clear ho hg hb iu)
     | (go_at_call 99999;skip))
    go_end0
    exact ⟨rfl,LX HG.o qM.o E6.o HO.o⟩
end bk
namespace bk

open Go.RowKit base obj mem bf
theorem XA (w:World) (i:Int):Calls Tryz.prog 177 (#[.int .i64 i]++#[]) w fun e w'=>e=.returned (.bool true)∧w=w':=by
 show Calls Tryz.prog 177 #[.int .i64 i] w _
 go_enter Tryz.func177,Tryz.ntmps177;go_wp2_with fail;go_ret;exact ⟨rfl,rfl⟩
theorem Tr (w:World) (b i:Nat) (h:¬i < 64):Calls Tryz.prog 80 (#[.int .i64 i]++#[.pointer (some ⟨b,0,none⟩)]) w fun e w'=>e=.returned (.bool false)∧w=w':=by
 show Calls Tryz.prog 80 #[.int .i64 i,.pointer (some ⟨b,0,none⟩)] w _
 have h':¬(i:Int) < 64:=by omega
 go_enter Tryz.func80,Tryz.ntmps80;go_wp2_with fail;go_ret;exact ⟨rfl,rfl⟩
theorem WO (w:World) (b i:Nat) (keep:Int) (h:i < 64) (rQ:0≤keep) (jP:keep≤18446744073709551615) (hc:w.cell? ⟨b,0,none⟩=some (.int .u64 keep)):Calls Tryz.prog 80 (#[.int .i64 i]++#[.pointer (some ⟨b,0,none⟩)]) w fun e w'=>e=.returned (.bool (keep / 2 ^ i % 2==1))∧w=w':=by
 show Calls Tryz.prog 80 #[.int .i64 i,.pointer (some ⟨b,0,none⟩)] w _
 have h':(i:Int) < 64:=by omega
 go_enter Tryz.func80,Tryz.ntmps80;go_wp2_with fail;go_ret;have e2:(0:Int) < 2 ^ i:=Int.pow_pos (by decide);have e0:0≤keep / 2 ^ i:=Int.ediv_nonneg rQ (by omega);have e1:keep / 2 ^ i≤keep:=Int.ediv_le_self _ rQ;refine ⟨aE ?_,rfl⟩;rw [and_one_u64 _ e0 (by omega)];have h3:=Int.emod_two_eq (keep / 2 ^ i);rcases h3 with h3|h3<;>rw [h3]<;>rfl
theorem WX (w:World) (i:Int):(callFunc 177 (#[.int .i64 i]++#[])).run Tryz.prog w=.ok (.enter 177 (#[.int .i64 i]++#[])) w:=by kernel_rfl
theorem TO (b:Nat) (w:World) (i:Int):(callFunc 80 (#[.int .i64 i]++#[.pointer (some ⟨b,0,none⟩)])).run Tryz.prog w=.ok (.enter 80 (#[.int .i64 i]++#[.pointer (some ⟨b,0,none⟩)])) w:=by kernel_rfl
theorem TW {w:World} {F:Nat→Prop} {g:Nat} {m:DS} (h:hU w F g m) (fY:m.waits.length≤1000000) :
  Calls Tryz.prog 136 #[.pointer (some ⟨g,0,none⟩)] w fun e w'=>e=.returned (.int .i64 m.flush.1)∧hU w' F g m.flush.2∧Kept F w w':=by
 obtain ⟨L,wv,h⟩:=h;have HB:=aa (MC h);have H:=aa h;cases hg:m.goes
 ·have e:m.flush=(8,m.bH):=by simp [DS.flush,hg]
  rw [e];rw [hg] at HB;clear e hg h;go_enter Tryz.func136,Tryz.ntmps136;go_wp2_with fail;refine HB.o.mono ?_;rintro e w' ⟨rfl,hd,hk⟩;have HD:=aa hd;have HK:=aa hk;clear hd hk;go_wp2_with fail;go_ret;exact ⟨rfl,⟨L,wv,HD.o⟩,sN HK.o H.o.fg⟩
 ·have e:m.flush=(0,m.bH.lay fun _=>true):=by simp [DS.flush,hg]
  rw [e];rw [hg] at HB;clear e hg h;go_enter Tryz.func136,Tryz.ntmps136;go_wp2_with fail;refine HB.o.mono ?_;rintro e w' ⟨rfl,hd,hk⟩;have HD:=aa hd;have HK:=aa hk;clear hd hk;go_wp2_with fail;refine (Qk HD.o (fun _=>true) 177 #[] WX (fun wr _ i _=>XA wr i) (by rw [DS.fk];exact fY)).mono ?_;rintro e w2 ⟨rfl,hd,hk⟩;have jy:=aa hd;have oe:=aa hk;clear hd hk;go_wp2_with fail;go_ret;exact ⟨rfl,jy.o,(sN HK.o H.o.fg).trans oe.o (fun i h=>h) (fun i h _=>h)⟩
theorem yC {w:World} {F:Nat→Prop} {g:Nat} {m:DS} (h:hU w F g m) (keep:Int) (hF:∀i,F i→i < w.heap.size) (rQ:0≤keep) (jP:keep≤18446744073709551615) (fY:m.waits.length≤1000000) :
  Calls Tryz.prog 32 #[.pointer (some ⟨g,0,none⟩),.int .u64 keep] w fun e w'=>e=.returned (.tuple #[])∧hU w' F g (m.eD keep)∧Kept F w w':=by
 obtain ⟨L,wv,h⟩:=h;have H:=aa h;have h1:dE (w.alloc (.cells #[.int .u64 keep] 56)) F g L wv m:=h.kept ((Kept.refl (fun _=>False) w).alloc _) (fun _ _ h=>h)
 have hf:∀wr,Kept F (w.alloc (.cells #[.int .u64 keep] 56)) wr→∀i:Nat,i < m.waits.length→Calls Tryz.prog 80 (#[.int .i64 i]++#[.pointer (some ⟨w.heap.size,0,none⟩)]) wr fun e w'=>e=.returned (.bool (keeps keep i))∧wr=w':=by
  intro wr hk i _
  have hc:wr.cell? ⟨w.heap.size,0,none⟩=some (.int .u64 keep):=by
   rw [hk.cell (p:=⟨w.heap.size,0,none⟩) (by simp) (fun hh=>by have hq:w.heap.size < w.heap.size:=hF _ hh;omega)];exact (Row.new w 56 #[.int .u64 keep]).cell 0
  by_cases hi:i < 64
  ·have e:keeps keep i=(keep / 2 ^ i % 2==1):=by simp [keeps,hi]
   rw [e];exact WO wr _ i keep hi rQ jP hc
  ·have e:keeps keep i=false:=by simp [keeps,hi]
   rw [e];exact Tr wr _ i hi
 have HL:=aa (Qk h1 (keeps keep) 80 #[.pointer (some ⟨w.heap.size,0,none⟩)] (TO _) hf fY);clear h h1 hf rQ jP hF;go_enter Tryz.func32,Tryz.ntmps32;go_wp2_with fail;refine HL.o.mono ?_;rintro e w2 ⟨rfl,hd,hk⟩;obtain ⟨L2,wv2,hd⟩:=hd;have c3:w2.cell? ⟨g,3,none⟩=some (.bool m.down):=hd.mh.cell 3;have c2:w2.cell? ⟨g,2,none⟩=some (.int .i64 m.kQ):=hd.mh.cell 2;have f2:=hd.mh.frozen 2;have f3:=hd.mh.frozen 3;have jy:=aa hd;have oe:=aa hk;clear hd hk;go_wp2_with fail
 go_end0
 have D1:=jy.o.set (m':={ m.lay (keeps keep) with kQ:=-1 }) 2 (.int .i64 (-1)) rfl ⟨jy.o.b8.az,jy.o.b8.waits,by simp,by simp,jy.o.b8.n0,jy.o.b8.n1⟩ rfl rfl;have D2:=D1.set (m':=m.eD keep) 3 (.bool false) rfl (DS.yB H.o.b8 keep) rfl rfl;refine ⟨rfl,⟨L2,wv2,D2⟩,?_⟩;exact ((((Kept.refl F w).alloc _).trans oe.o (fun i h=>h) (fun i h _=>h)).setCell (p:=⟨g,2,none⟩) (.inl H.o.fg) _).setCell (p:=⟨g,3,none⟩) (.inl H.o.fg) _
end bk
end Go.Proofs.YtdldkkoplgkloaaGreat
