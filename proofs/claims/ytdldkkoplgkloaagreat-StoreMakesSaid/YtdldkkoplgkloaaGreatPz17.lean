/-
  PROVED HERE: lemmas and contracts that the law's proof leans on (texts put together: DiskWrite, DiskRead, DiskLay).
  CONDITIONS: each names its own.
-/
import Derived.Test.YtdldkkoplgkloaaGreatPz0
import Derived.Test.YtdldkkoplgkloaaGreatPz16
namespace Go.Proofs.YtdldkkoplgkloaaGreat
set_option linter.unusedVariables false
set_option linter.unusedSimpArgs false
set_option maxRecDepth 100000
set_option maxHeartbeats 32000000
namespace disk

open Go.RowKit base obj mem plan
theorem zLate_built (i:Int):(Tryz.prog.built 139 [(0,.int .i64 i)])=some (zLate i):=by kernel_rfl
theorem zLate_size (i:Int):(Tryz.prog.info? 139).map (·.size)=some (zLate i).size:=by kernel_rfl
theorem zLate_zero (i:Int):(Tryz.zeroCells139).size=(zLate i).size:=rfl
theorem zLate_one (i:Int):∀v∈(zLate i).toList,v.oneCell'=true:=by
 intro v hv
 simp only [zLate,List.mem_cons,List.mem_replicate] at hv
 rcases hv with rfl|⟨_,rfl⟩<;>rfl
def lateRow (i:Nat) (bs:List Int):Array Value:=(waitCells (i,bs)).toArray
theorem lateRow_eq (i:Nat) (bs:List Int) (h:bs.length=64):((zLate i).toList.take 1++(bs.map (Value.int .u8)++(zLate i).toList.drop (1+(bs.map (Value.int .u8)).length))).toArray=lateRow i bs:=by
 have e:(1+(bs.map (Value.int .u8)).length)=65:=by simp [h]
 rw [e]
 simp [zLate,lateRow,waitCells]
theorem u8_size:(Tryz.prog.info? 5).map (·.size)=some 1:=by kernel_rfl
theorem Addr.block_add (a:Addr) (j:Nat):(a.add j).block=a.block:=by unfold Go.Addr.add;split<;>rfl
theorem src_ne {w:World} {g L:Nat} {wv:Value} {m:DS} (h:Row w g 135 (dCells L wv m)) {n:Nat} {xs:List Value} (ho:w.ownsRow 0 139 65 wv n xs) {ad:Addr} (hc:∃j x,w.cell? (ad.add j)=some (.int .u8 x)):ad.block≠g:=by
 rintro rfl
 obtain ⟨j,x,hx⟩:=hc
 have hs:=World.cell?_spot hx
 have:ad.add j=⟨ad.block,(ad.add j).off,none⟩:=by
  have hb:=Addr.block_add ad j
  cases he:ad.add j with
  | mk b o s=>rw [he] at hs hb;simp only at hs hb;subst hs;subst hb;rfl
 rw [this,h.cell] at hx
 generalize (ad.add j).off=k at hx
 match k,hx with
 | 0,hx=>simp [dCells] at hx
 | 1,hx =>
   simp [dCells] at hx
   subst hx
   rcases ho.2 with ⟨e,_⟩|⟨_,_,_,e,_⟩<;>cases e
 | 2,hx=>simp [dCells] at hx
 | 3,hx=>simp [dCells] at hx
 | k+4,hx=>simp [dCells] at hx
theorem more_self {F:Nat→Prop} {w w':World}:∀i,F i→More F w w' i:=fun i h=>.inl h
theorem kept_of_one {F:Nat→Prop} {g:Nat} {w w':World} (h:Kept (One g) w w') (hg:F g):Kept F w w':=h.mono fun i _ e=>by rw [e];exact hg
theorem grown_facts {w1 w3:World} {F:Nat→Prop} {g L:Nat} {wv:Value} {m:DS} (h:DiskIn w1 F g L wv m) {R R':Obj} (hg:((w1.alloc R).drew.alloc R').grownBy w3 wv.ownBlock) :
  Row w3 g 135 (dCells L wv m)∧Row w3 L 137 (m.secs.map secCells).flatten:=by
 have h1:Row ((w1.alloc R).drew.alloc R') g 135 (dCells L wv m):=((h.blk.alloc R).drew).alloc R'
 have h2:Row ((w1.alloc R).drew.alloc R') L 137 (m.secs.map secCells).flatten:=((h.laid.alloc R).drew).alloc R'
 exact ⟨(hg.block g h1.lt (fun e=>h.gw e.symm)).trans h1,(hg.block L h2.lt (fun e=>h.lw e.symm)).trans h2⟩
theorem write_end {w w1 w3:World} {F:Nat→Prop} {g L:Nat} {wv:Value} {m:DS} {n:Nat} {bs:List Int} (hL:bs.length=64) (hn:n < m.secs.length) (h:DiskIn w1 F g L wv m) (hk:Kept (One g) w w1) {R R':Obj}
  (hg:((w1.alloc R).drew.alloc R').grownBy w3 wv.ownBlock) {g2 cap:Nat} (ho:w3.ownsRow 0 139 65 (.slice (some ⟨g2,0,none⟩) (m.waits.length+1) cap) (m.waits.length+1) ((m.waits.map waitCells).flatten++waitCells (n,bs)))
  (hor:wv.ownBlock=some g2∨((w1.alloc R).drew.alloc R').heap.size≤g2) (hlt:g2 < w3.heap.size) :
  DiskAt (w3.setCell ⟨g,1,none⟩ (.slice (some ⟨g2,0,none⟩) (m.waits.length+1) cap)) (More F w (w3.setCell ⟨g,1,none⟩ (.slice (some ⟨g2,0,none⟩) (m.waits.length+1) cap))) g (m.put n bs)∧
   Kept F w (w3.setCell ⟨g,1,none⟩ (.slice (some ⟨g2,0,none⟩) (m.waits.length+1) cap)):=by
 obtain ⟨r1,r2⟩:=grown_facts h hg
 have hsz:((w1.alloc R).drew.alloc R').heap.size=w1.heap.size+2:=by simp [heap_drew]
 have hg2:g2≠g:=by
  rcases hor with e|e
  ·rintro rfl;exact h.gw e
  ·have:=h.blk.lt;omega
 refine ⟨⟨L,.slice (some ⟨g2,0,none⟩) (m.waits.length+1) cap,DS.put_good h.good hn hL,?_,?_,?_,.inl h.fg,.inl h.fl,fun k hk'=>?_⟩,?_⟩
 ·have:=r1.setCell 1 (.slice (some ⟨g2,0,none⟩) (m.waits.length+1) cap)
  exact this
 ·exact r2.setCell_other (p:=⟨g,1,none⟩) (Ne.symm h.gl) _
 ·have e:((m.put n bs).waits.map waitCells).flatten=(m.waits.map waitCells).flatten++waitCells (n,bs):=by simp [DS.put]
  have e2:(m.put n bs).waits.length=m.waits.length+1:=by simp [DS.put]
  rw [e,e2]
  exact ownsRow_setCell_other ho (a:=⟨g,1,none⟩) (by simp [Value.ownBlock,hg2]) _
 ·simp only [Value.ownBlock,Option.some.injEq] at hk'
  subst hk'
  rcases hor with e|e
  ·exact .inl (h.fw _ e)
  ·have:=hk.size
   exact .inr ⟨by omega,by simpa [World.setCell] using hlt⟩
 ·refine Kept.setCell ?_ (.inl h.fg) _
  have k1:Kept F w ((w1.alloc R).drew.alloc R'):=(((kept_of_one hk h.fg).alloc R).drew).alloc R'
  exact k1.trans (Kept.of_grown hg (fun i=>F i) (fun k hk=>h.fw k hk)) (fun i h=>h) (fun i h _=>h)
theorem waits_one (p:Nat×List Int):∀u∈waitCells p,u.oneCell'=true:=by
 intro u hu
 rcases List.mem_cons.1 hu with rfl|hu
 ·rfl
 ·exact u8s_one _ u hu
theorem write_at {w:World} {F:Nat→Prop} {g L:Nat} {wv:Value} {m:DS} (h:DiskIn w F g L wv m) (i:Int) (A:Option Addr) (c:Nat) (bs:List Int) (hs:Sl w w.heap.size 1 A bs.length (bs.map (.int .u8))) (hwl:m.waits.length≤1000000) :
  Calls Tryz.prog 29 #[.pointer (some ⟨g,0,none⟩),.int .i64 i,.slice A bs.length c] w fun e w'=>e=.returned (.int .i64 (m.write i bs).1)∧DiskAt w' (More F w w') g (m.write i bs).2∧Kept F w w':=by
 have H:=Lib.hid h
 have HW:=Lib.hid (wrong_at h i)
 have HS:=Lib.hid hs
 clear hs
 by_cases hi:i < 0∨m.secs.length≤i
 ·have e1:m.write i bs=(3,m):=by rw [DS.write,if_pos hi]
  rw [if_pos hi] at HW
  rw [e1]
  clear e1 hi h
  go_enter Tryz.func29,Tryz.ntmps29
  go_wp2_with (fail)
  refine HW.out.mono ?_;rintro e w' ⟨rfl,rfl⟩
  go_wp2_with (fail)
  go_ret
  exact ⟨rfl,⟨L,wv,H.out.more more_self⟩,Kept.refl _ _⟩
 ·rw [if_neg hi] at HW
  by_cases hl:bs.length=64
  ·have e2:m.write i bs=if m.goes then (0,m.burnt.put i.toNat bs) else (8,m.burnt):=by rw [DS.write,if_neg hi,if_neg (by simpa using hl)]
   obtain ⟨n,rfl⟩:=Int.eq_ofNat_of_zero_le (show 0≤i by omega)
   have HB:=Lib.hid (burn_at h)
   cases hg:m.goes
   ·rw [hg] at e2 HB
    simp only [Bool.false_eq_true,if_false] at e2
    rw [e2]
    have hl':((bs.length:Int) != 64)=false:=by simp;omega
    have hl2:((bs.length:Int)==64)=true:=by simp;omega
    clear e2 hg hl hi h
    go_enter Tryz.func29,Tryz.ntmps29
    go_wp2_with (fail)
    refine HW.out.mono ?_;rintro e w' ⟨rfl,rfl⟩
    go_wp2_with (fail)
    refine HB.out.mono ?_;rintro e w' ⟨rfl,hd,hk⟩
    have HD:=Lib.hid hd;have HK:=Lib.hid hk;clear hd hk
    go_wp2_with (fail)
    go_ret
    exact ⟨rfl,⟨L,wv,HD.out.more more_self⟩,kept_of_one HK.out H.out.fg⟩
   ·rw [hg] at e2 HB
    simp only [if_true] at e2
    rw [e2]
    have hl':((bs.length:Int) != 64)=false:=by simp;omega
    have hl2:((bs.length:Int)==64)=true:=by simp;omega
    have HL:=Lib.hid hl
    have hin:n < m.secs.length:=by omega
    have hb:=zLate_built n
    clear e2 hg hi h hl
    go_enter Tryz.func29,Tryz.ntmps29
    go_wp2_with (fail)
    refine HW.out.mono ?_;rintro e w' ⟨rfl,rfl⟩
    go_wp2_with (fail)
    refine HB.out.mono ?_;rintro e w1 ⟨rfl,hd,hk⟩
    obtain ⟨c0,c1,c2,c3⟩:=hd.read
    have f1:=hd.blk.frozen 1
    have HD:=Lib.hid hd;have HK:=Lib.hid hk;clear hd hk
    clear c0 c2 c3
    have z1:=zLate_size n
    have z2:=zLate_zero n
    have z3:=zLate_one n
    have Z1:=Lib.hid z1;have Z2:=Lib.hid z2;have Z3:=Lib.hid z3
    have HL2:=Lib.hid (lateRow_eq n bs HL.out)
    have hsl:=Sl.src (HS.out) (by rw [HL.out];omega)
    obtain ⟨ad,rfl,hadb,hadc⟩:=hsl
    have hne:ad.block≠g:=src_ne H.out.blk H.out.own (by
     have:=hadc 0 (.int .u8 (bs[0]'(by rw [HL.out];omega))) (by simp)
     exact ⟨_,_,this⟩)
    have hadc1:∀j v,(bs.map (Value.int .u8))[j]?=some v→w1.cell? (ad.add j)=some v:=fun j v hv=>by
     rw [HK.out.cell (p:=ad.add j) (by rw [Addr.block_add];exact hadb) (by rw [Addr.block_add];exact hne)]
     exact hadc j v hv
    have HA:=Lib.hid hadc1
    have hmin:(bs.map (Value.int .u8)).length=Nat.min bs.length 64:=by simp [HL.out]
    have HM:=Lib.hid hmin
    have hfit:1+(bs.map (Value.int .u8)).length≤(zLate n).size:=by simp [HL.out,zLate]
    have HF:=Lib.hid hfit
    have hlv:∀w2:World,(loadVar 139 ⟨w2.heap.size,0,none⟩).run Tryz.prog (w2.alloc (.cells (lateRow n bs) 139)).drew=.ok (.agg (lateRow n bs)) (w2.alloc (.cells (lateRow n bs) 139)).drew:=fun w2=>by
     refine run_loadVar_row _ w2.heap.size 139 139 (lateRow n bs) (0,0) _ (heap_alloc_new w2 _) Tryz.underlying139 rfl ?_
     rw [show (lateRow n bs).size=65 by simp [lateRow,waitCells,HL.out]]
     kernel_rfl
    have HLV:=Lib.hid hlv
    have OWN:=Lib.hid HD.out.own
    have lsz:(lateRow n bs).size=65:=by simp [lateRow,waitCells,HL.out]
    have LZ:=Lib.hid (show (Tryz.prog.info? 139).map (fun i=>(i.zero.isSome,i.size))=some (true,(lateRow n bs).size) by rw [lsz];kernel_rfl)
    have LP:=Lib.hid (show 0 < (lateRow n bs).size by omega)
    have LQ:=Lib.hid (show (lateRow n bs).size≤16777216 by omega)
    clear lsz
    have sl:∀w2:World,Sl ((w2.alloc (.cells (lateRow n bs) 139)).drew.alloc (.cells (lateRow n bs) 139)) (w2.heap.size+2) 65 (some ⟨(w2.alloc (.cells (lateRow n bs) 139)).drew.heap.size,0,none⟩) 1 (waitCells (n,bs)):=fun w2=>by
     have hr:=Row.new (w2.alloc (.cells (lateRow n bs) 139)).drew 139 (lateRow n bs)
     have hlw:(waitCells (n,bs)).length=1*65:=by simp [waitCells,HL.out]
     refine hr.sl (by simp [heap_drew]) ?_ hlw
     rw [←hlw]
     simp [lateRow]
    have SL:=Lib.hid sl
    have sl2:∀w2:World,Sl ((w2.alloc (.cells (lateRow n bs) 139)).alloc (.cells (lateRow n bs) 139)).drew (w2.heap.size+2) 65 (some ⟨w2.heap.size+1,0,none⟩) 1 (waitCells (n,bs)):=fun w2=>by
     have:=sl w2
     rw [show (w2.alloc (.cells (lateRow n bs) 139)).drew.heap.size=w2.heap.size+1 by simp [heap_drew]] at this
     exact this
    have SL2:=Lib.hid sl2
    clear sl sl2
    have hwl':m.burnt.waits.length≤1000000:=by rw [DS.burnt_waits];exact hwl
    have HB1:=Lib.hid (show (m.burnt.waits.length+1)*72≤140737488355328 by omega)
    have HB2:=Lib.hid (show m.burnt.waits.length+1≤maxLen by unfold maxLen;omega)
    have hgl:=HD.out.blk.lt
    have hgl2:g≤w1.heap.size:=by omega
    have HN:=Lib.hid (show n < m.burnt.secs.length by rw [DS.burnt_secs];exact hin)
    clear hlv
    clear z1 z2 z3 hadc1 hmin hfit hadc
    go_wp2_with (first
     | (with_reducible refine wpList_fill rfl 139 (.tmp 8) (.tmp 22) rfl (zLate n) Tryz.zeroCells139 _ _ rfl rfl Z1.out Z2.out Z3.out ?_)
     | (with_reducible refine wpList_copy_new rfl (.tmp 24) (.tmp 25) 24 24 rfl Tryz.underlying24 u8_size _ 1 64 64 ad _ _ rfl rfl (zLate n) _ (bs.map (Value.int .u8)) HM.out HA.out HF.out (u8s_one bs) (lateRow n bs) HL2.out ?_))
    refine wp_region_plan [0,1,2,3,5] [[4,6,7,8,9,10],[6,4,7,8,9,10]] (by kernel_rfl) (by kernel_rfl) (fun _ _ _ _ _ h=>h) ?_
    simp only [forks,pick,xGs,xGz,xGo]
    still_step
    still_step
    still_step
    still_step
    refine still_get rfl 139 (.tmp 8) rfl (lateRow n bs) _ rfl (HLV.out _) ?_
    refine wpStill_nil ?_
    refine ⟨?_,?_⟩
    all_goals
     go_wp2_with (first
      | (with_reducible refine wpList_build1 rfl 133 (.tmp 32) rfl Tryz.underlying133 (lateRow n bs) rfl LZ.out LP.out LQ.out ?_)
      | (refine app_row slLate rfl (.tmp 31) (.tmp 33) rfl (base:=0) (OWN.out.alloc _ |>.drew |>.alloc _) rfl rfl (SL.out _) (waits_one _) (by omega) HB1.out HB2.out (Nat.zero_le _) ?_;intro g2 cap w3 ho hg hor hlt;obtain ⟨r1,r2⟩:=grown_facts HD.out hg;have c4:w3.cell? ⟨g,1,none⟩=some wv:=r1.cell 1;have f4:=r1.frozen 1;have HO:=Lib.hid ho;have HG:=Lib.hid hg;have HOR:=Lib.hid hor;have HLT:=Lib.hid hlt;clear ho hg hor hlt r1 r2 c1 f1)
      | (refine app_row slLate rfl (.tmp 31) (.tmp 33) rfl (base:=0) (OWN.out.alloc _ |>.alloc _ |>.drew) rfl rfl (SL2.out _) (waits_one _) (by omega) HB1.out HB2.out (Nat.zero_le _) ?_;intro g2 cap w3 ho hg hor hlt;obtain ⟨r1,r2⟩:=grown_facts HD.out hg;have c4:w3.cell? ⟨g,1,none⟩=some wv:=r1.cell 1;have f4:=r1.frozen 1;have HO:=Lib.hid ho;have HG:=Lib.hid hg;have HOR:=Lib.hid hor;have HLT:=Lib.hid hlt;clear ho hg hor hlt r1 r2 c1 f1))
     go_ret
     exact ⟨rfl,write_end HL.out HN.out HD.out HK.out HG.out HO.out HOR.out HLT.out⟩
  ·have e1:m.write i bs=(14,m):=by rw [DS.write,if_neg hi,if_pos (by simpa using hl)]
   rw [e1]
   have hl':((bs.length:Int) != 64)=true:=by simp;omega
   have hl2:((bs.length:Int)==64)=false:=by simp;omega
   clear e1 hi h hl
   go_enter Tryz.func29,Tryz.ntmps29
   go_wp2_with (fail)
   refine HW.out.mono ?_;rintro e w' ⟨rfl,rfl⟩
   go_wp2_with (fail)
   go_ret
   exact ⟨rfl,⟨L,wv,H.out.more more_self⟩,Kept.refl _ _⟩
end disk
namespace disk

open Go.RowKit base obj mem plan
theorem secCells_len (s:List Int):(secCells s).length=s.length:=by simp [secCells]
theorem waitCells_len (p:Nat×List Int):(waitCells p).length=p.2.length+1:=by simp [waitCells]
theorem sec_one (s:List Int):∀u∈secCells s,u.oneCell'=true:=u8s_one s
theorem sec_size {s:List Int} (h:s.length=64):(Tryz.prog.info? 137).map (·.size)=some (secCells s).length:=by
 rw [secCells_len,h];kernel_rfl
theorem wait_size {p:Nat×List Int} (h:p.2.length=64):(Tryz.prog.info? 139).map (·.size)=some (waitCells p).length:=by
 rw [waitCells_len,h];kernel_rfl
theorem good_secLen {m:DS} (h:m.Good):∀x∈m.secs.map secCells,x.length=64:=by
 intro x hx
 obtain ⟨s,hs,rfl⟩:=List.mem_map.1 hx
 rw [secCells_len];exact h.secs s hs
theorem good_waitLen {m:DS} (h:m.Good):∀x∈m.waits.map waitCells,x.length=65:=by
 intro x hx
 obtain ⟨s,hs,rfl⟩:=List.mem_map.1 hx
 rw [waitCells_len,(h.waits s hs).2]
theorem sec_at {m:DS} (h:m.Good) {n:Nat} (hn:n < m.secs.length):((m.secs.map secCells).flatten.drop (n*64)).take (secCells (m.secs.getD n [])).length=secCells (m.secs.getD n []):=by
 have e:m.secs.getD n []=m.secs[n]:=by simp [hn]
 rw [e,secCells_len,h.secs _ (List.getElem_mem hn),flat_elem (good_secLen h) (by simpa using hn)]
 simp
theorem own_row {w:World} {base:Nat} {e:TypeId} {size:Nat} {v:Value} {n:Nat} {xs:List Value} (h:w.ownsRow base e size v n xs) (hn:0 < n):∃W c cur,v=.slice (some ⟨W,0,none⟩) n c∧Row w W e cur∧cur.take (n*size)=xs:=by
 rcases h.2 with ⟨_,h0⟩|⟨g,cap,cur,rfl,_,hg,_,_,_,ht⟩
 ·omega
 ·exact ⟨g,cap,cur.toList,rfl,by unfold Row;simpa using hg,ht⟩
theorem wait_at {m:DS} (h:m.Good) {cur:List Value} (hc:cur.take (m.waits.length*65)=(m.waits.map waitCells).flatten) {k:Nat} (hk:k < m.waits.length):(cur.drop (k*65)).take (waitCells m.waits[k]).length=waitCells m.waits[k]:=by
 have h65:(waitCells m.waits[k]).length=65:=by rw [waitCells_len,(h.waits _ (List.getElem_mem hk)).2]
 have e:=flat_elem (good_waitLen h) (i:=k) (by simpa using hk)
 rw [←hc] at e
 rw [h65]
 have:((cur.take (m.waits.length*65)).drop (k*65)).take 65=(cur.drop (k*65)).take 65:=by
  rw [List.drop_take,List.take_take]
  congr 1
  have:(k+1)*65≤m.waits.length*65:=Nat.mul_le_mul_right 65 hk
  omega
 rw [this] at e
 rw [e]
 simp
def outCells (s:List Int):Array Value:=(s.map (Value.int .u8)).toArray
structure ReadRel (w:World) (m:DS) (n k:Nat) (wr:World):Prop where
 row:Row wr w.heap.size 137 (secCells (nowTo m.waits (m.secs.getD n []) n k))
 bel:Below w.heap.size w wr
theorem read_start {w:World} {F:Nat→Prop} {g L:Nat} {wv:Value} {m:DS} (h:DiskIn w F g L wv m) {n:Nat} {s0:List Value} (e:secCells (m.secs.getD n [])=s0):ReadRel w m n 0 (w.alloc (.cells s0.toArray 137)):=by
 refine ⟨?_,(Below.refl _ _).alloc (Nat.le_refl _) _⟩
 subst e
 exact Row.new w 137 _
theorem read_step {w wr:World} {F:Nat→Prop} {g L:Nat} {wv:Value} {m:DS} (h:DiskIn w F g L wv m) {n k:Nat} (hr:ReadRel w m n k wr) (hk:k < m.waits.length) {A:Option Addr} {c:Nat} (hv:wv=.slice A m.waits.length c) :
  ∃W cur,A=some ⟨W,0,none⟩∧Row wr W 139 cur∧(cur.drop (k*65)).take (waitCells m.waits[k]).length=waitCells m.waits[k]:=by
 obtain ⟨W,c',cur,hv',hrow,hcur⟩:=own_row h.own (by omega)
 rw [hv] at hv'
 injection hv' with h1 h2 h3
 exact ⟨W,cur,h1,hrow.below hr.bel hrow.lt,wait_at h.good hcur hk⟩
theorem wait_drop (p:Nat×List Int):((waitCells p).drop 1).take (secCells p.2).length=secCells p.2:=by
 simp only [waitCells,List.drop_succ_cons,List.drop_zero,secCells]
 exact List.take_of_length_le (by simp)
theorem read_miss {w wr:World} {m:DS} {n k:Nat} (h:ReadRel w m n k wr) (hk:k < m.waits.length) (e:m.waits[k].1≠n) (o:Obj):ReadRel w m n (k+1) (wr.alloc o):=by
 refine ⟨?_,h.bel.alloc h.bel.size _⟩
 rw [nowTo_miss hk e]
 exact h.row.alloc o
theorem read_hit {w wr:World} {m:DS} {n k:Nat} (h:ReadRel w m n k wr) (hk:k < m.waits.length) (e:m.waits[k].1=n) (o:Obj) :
  ReadRel w m n (k+1) ((wr.alloc o).setRow w.heap.size (secCells m.waits[k].2).toArray):=by
 refine ⟨?_,below_setRow (h.bel.alloc h.bel.size _) (Nat.le_refl _) _⟩
 rw [nowTo_hit hk e]
 exact (h.row.alloc o).setRow _
theorem whole_put {xs ys:List Value} (h:xs.length=ys.length):xs.take 0++ys.toArray.toList++xs.drop (0+ys.toArray.size)=ys:=by
 rw [List.drop_of_length_le (by simp [h])]
 simp
theorem read_yes {w:World} {F:Nat→Prop} {g L:Nat} {wv:Value} {m:DS} (h:DiskIn w F g L wv m) (n:Nat) (hn:n < m.secs.length) (hd:m.down=false) (hwl:m.waits.length≤1000000) :
  Calls Tryz.prog 28 #[.pointer (some ⟨g,0,none⟩),.int .i64 n] w fun e w'=>∃b,e=.returned (.tuple #[.slice (some ⟨b,0,none⟩) 64 64,.int .i64 0])∧w.heap.size≤b∧Row w' b 5 ((m.now n).map (.int .u8))∧Below w.heap.size w w':=by
 obtain ⟨c0,c1,c2,c3⟩:=h.read
 have hw:=wrong_at h n
 rw [if_neg (by omega)] at hw
 have HW:=Lib.hid hw
 have H:=Lib.hid h
 rw [hd] at c3
 have hgl:=h.blk.lt
 have hgood:=h.good
 have h64:(m.secs.getD n []).length=64:=by
  have e:m.secs.getD n []=m.secs[n]:=by simp [hn]
  rw [e];exact hgood.secs _ (List.getElem_mem hn)
 have HSA:=Lib.hid (sec_at hgood hn)
 have HSZ:=Lib.hid (sec_size h64)
 have HLA:=Lib.hid h.laid
 have H64:=Lib.hid h64
 have HG:=Lib.hid hgood
 have HS1:=Lib.hid (show (secCells (m.secs.getD n [])).toArray.size=64 by rw [List.size_toArray,secCells_len,h64])
 have z2:zSec.size=(secCells (m.secs.getD n [])).toArray.size:=by rw [HS1.out];rfl
 have HZ2:=Lib.hid z2
 have HZ1:=Lib.hid (show (Tryz.prog.info? 137).map (·.size)=some (secCells (m.secs.getD n [])).toArray.size by rw [HS1.out];kernel_rfl)
 have HO1:=Lib.hid (show ∀v∈(secCells (m.secs.getD n [])).toArray.toList,v.oneCell'=true by simpa using sec_one (m.secs.getD n []))
 clear hw h hd z2 h64 hgood c2
 obtain ⟨A,wc,hwv,_⟩:=own_form H.out.own
 rw [hwv] at c1
 have HWV:=Lib.hid hwv
 clear hwv
 generalize hs0:secCells (m.secs.getD n [])=s0 at *
 have HS0:=Lib.hid hs0
 clear hs0
 have ZI:=Lib.hid (show (Tryz.prog.info? 137).map (·.zero)=some (some (.agg zSec)) by kernel_rfl)
 go_enter Tryz.func28,Tryz.ntmps28
 go_wp2_with (fail)
 refine HW.out.mono ?_;rintro e w' ⟨rfl,rfl⟩
 go_wp2_with (first
  | (with_reducible refine wpList_get rfl 137 (.tmp 26) rfl L _ rfl s0 _ HLA.out HSA.out Tryz.underlying137 rfl HSZ.out ?_)
  | (with_reducible refine wpList_alloc rfl 137 rfl (.agg zSec) ZI.out ?_)
  | (refine wpList_fill rfl 137 (.tmp 7) (.tmp 27) rfl s0.toArray zSec _ _ rfl rfl HZ1.out HZ2.out HO1.out ?_))
 have HB:=Lib.hid (read_start H.out (s0:=s0) HS0.out)
 go_loopw [33] (fun i wr=>∃k:Nat,k≤m.waits.length∧i=.int .i64 k∧ReadRel w m n k wr) (fun i _=>m.waits.length-(intOf i).toNat)
 case atStart=>exact ⟨0,by omega,rfl,HB.out⟩
 case round =>
  obtain ⟨k,hk,rfl,hrr⟩:=hrel
  have HR:=Lib.hid hrr
  clear hrr
  by_cases hlt:k < m.waits.length
  ·obtain ⟨W,cur,hA,hrow,hat⟩:=read_step H.out HR.out hlt HWV.out
   have HROW:=Lib.hid hrow;have HAT:=Lib.hid hat;have HLT:=Lib.hid hlt
   subst hA
   clear hrow hat
   have hp64:=(HG.out.waits _ (List.getElem_mem hlt)).2
   have HP:=Lib.hid hp64
   have HR1:=Lib.hid HR.out.row
   have HN:=Lib.hid (nowTo_len (at_:=n) (fun p hp=>(HG.out.waits p hp).2) H64.out k (by omega))
   have RM:=Lib.hid (read_miss HR.out hlt)
   have RH:=Lib.hid (read_hit HR.out hlt)
   have HB:=Lib.hid HR.out.bel.size
   generalize hpp:m.waits[k]=p at *
   have HPP:=Lib.hid hpp
   have hc0:(waitCells p).toArray[0]?=some (.int .i64 p.1):=rfl
   have W1:=Lib.hid (wait_size HP.out)
   have W2:=Lib.hid (show (Tryz.prog.info? 139).map (·.size)=some (waitCells p).toArray.size by simpa using wait_size HP.out)
   have W3:=Lib.hid (show (zLate 0).size=(waitCells p).toArray.size by rw [show (waitCells p).toArray.size=65 by rw [List.size_toArray,waitCells_len,HP.out]];rfl)
   have W4:=Lib.hid (show ∀v∈(waitCells p).toArray.toList,v.oneCell'=true by simpa using waits_one p)
   have W5:=Lib.hid (show (Tryz.prog.info? 139).map (·.zero)=some (some (.agg (zLate 0))) by kernel_rfl)
   have W6:=Lib.hid (Row.new wr 139 (waitCells p).toArray)
   have W7:=Lib.hid (wait_drop p)
   have W8:=Lib.hid (sec_size HP.out)
   have W9:=Lib.hid (HR1.out.alloc (.cells (waitCells p).toArray 139))
   have X1:=Lib.hid (show (Tryz.prog.info? 137).map (·.size)=some (secCells p.2).toArray.size by simpa using sec_size HP.out)
   have X2:=Lib.hid (show 0+(secCells p.2).toArray.size≤(secCells (nowTo m.waits (m.secs.getD n []) n k)).length by rw [List.size_toArray,secCells_len,secCells_len,HP.out,HN.out];omega)
   have X3:=Lib.hid (show ∀v∈(secCells p.2).toArray.toList,v.oneCell'=true by simpa using sec_one p.2)
   have X4:=Lib.hid (whole_put (xs:=secCells (nowTo m.waits (m.secs.getD n []) n k)) (ys:=secCells p.2) (by rw [secCells_len,secCells_len,HP.out,HN.out]))
   clear hp64 hpp
   by_cases hat:p.1=n
   ·have hb:((p.1:Int)==(n:Int))=true:=by simp [hat]
    have HE:=Lib.hid hat
    clear hat
    go_wp2_with (first
     | (with_reducible refine wpList_get rfl 139 (.tmp 35) rfl W _ rfl (waitCells p) _ HROW.out HAT.out Tryz.underlying139 rfl W1.out ?_)
     | (with_reducible refine wpList_alloc rfl 139 rfl (.agg (zLate 0)) W5.out ?_)
     | (refine wpList_fill rfl 139 (.tmp 9) (.tmp 36) rfl (waitCells p).toArray (zLate 0) _ _ rfl rfl W2.out W3.out W4.out ?_)
     | (with_reducible refine wpList_get rfl 137 (.tmp 41) rfl wr.heap.size 1 rfl (secCells p.2) _ W6.out W7.out Tryz.underlying137 rfl W8.out ?_)
     | (with_reducible refine wpList_putR rfl 137 (.tmp 7) (.tmp 42) rfl w.heap.size 0 (secCells p.2).toArray rfl rfl W9.out X1.out X2.out X3.out (secCells p.2) X4.out ?_))
    go_roundw
    case rel=>exact ⟨k+1,by omega,by go_num,RH.out HE.out _⟩
    case measure=>simp [intOf];omega
   ·have hb:((p.1:Int)==(n:Int))=false:=by simp;omega
    have HE:=Lib.hid hat
    clear hat
    go_wp2_with (first
     | (with_reducible refine wpList_get rfl 139 (.tmp 35) rfl W _ rfl (waitCells p) _ HROW.out HAT.out Tryz.underlying139 rfl W1.out ?_)
     | (with_reducible refine wpList_alloc rfl 139 rfl (.agg (zLate 0)) W5.out ?_)
     | (refine wpList_fill rfl 139 (.tmp 9) (.tmp 36) rfl (waitCells p).toArray (zLate 0) _ _ rfl rfl W2.out W3.out W4.out ?_))
    go_roundw
    case rel=>exact ⟨k+1,by omega,by go_num,RM.out HE.out _⟩
    case measure=>simp [intOf];omega
  ·obtain rfl:k=m.waits.length:=by omega
   have HR1:=Lib.hid HR.out.row
   have HB:=Lib.hid HR.out.bel
   have e1:nowTo m.waits (m.secs.getD n []) n m.waits.length=m.now n:=rfl
   rw [e1] at HR1
   have hl:=nowTo_len (at_:=n) (fun p hp=>(HG.out.waits p hp).2) H64.out m.waits.length (by omega)
   rw [e1] at hl
   have HNL:=Lib.hid hl
   have hmk:∀w:World,(Instr.makeSlice 24 (.int .i64 64) (.int .i64 64)).run Tryz.prog w=.ok (.slice (some ⟨w.heap.size,0,none⟩) 64 64) (w.alloc (.cells zSec 5)):=fun w=>by kernel_rfl
   have C1:=Lib.hid (show (secCells (m.now n)).length=Nat.min 64 64 by rw [secCells_len,hl];rfl)
   have C2:=Lib.hid (show ∀j v,(secCells (m.now n))[j]?=some v→wr.cell? ((⟨w.heap.size,0,none⟩:Addr).add j)=some v from fun j v hv=>by
    rw [Addr.add_mid,Nat.zero_add,HR1.out.cell j];exact hv)
   have C3:=Lib.hid (show 0+(secCells (m.now n)).length≤zSec.size by rw [secCells_len,hl];exact Nat.le_refl _)
   have C4:=Lib.hid (show (zSec.toList.take 0++(secCells (m.now n)++zSec.toList.drop (0+(secCells (m.now n)).length))).toArray=outCells (m.now n) by
    rw [List.take_zero,List.nil_append,List.drop_of_length_le (by rw [secCells_len,hl];exact Nat.le_refl _),List.append_nil];rfl)
   have hNr:=HB.out.size
   clear hl e1 hk
   go_wp2_with (refine wpList_copy_new rfl (.tmp 45) (.tmp 46) 24 24 rfl Tryz.underlying24 u8_size _ 0 64 64 ⟨w.heap.size,0,none⟩ _ _ rfl rfl zSec _ (secCells (m.now n)) C1.out C2.out C3.out (sec_one _) (outCells (m.now n)) C4.out ?_)
   go_ret2
   refine ⟨wr.heap.size,rfl,hNr,?_,HB.out.alloc hNr _⟩
   exact Row.new wr 5 (outCells (m.now n))
theorem read_at {w:World} {F:Nat→Prop} {g L:Nat} {wv:Value} {m:DS} (h:DiskIn w F g L wv m) (i:Int) (hwl:m.waits.length≤1000000) :
  Calls Tryz.prog 28 #[.pointer (some ⟨g,0,none⟩),.int .i64 i] w fun e w' =>
   (if i < 0∨m.secs.length≤i then e=.returned (.tuple #[.slice none 0 0,.int .i64 3]) else if m.down then e=.returned (.tuple #[.slice none 0 0,.int .i64 8])
    else ∃b,e=.returned (.tuple #[.slice (some ⟨b,0,none⟩) 64 64,.int .i64 0])∧w.heap.size≤b∧Row w' b 5 ((m.now i.toNat).map (.int .u8)))∧Below w.heap.size w w':=by
 have hw:=wrong_at h i
 by_cases hi:i < 0∨m.secs.length≤i
 ·simp only [if_pos hi] at hw ⊢
  have HW:=Lib.hid hw
  clear hw hi h
  go_enter Tryz.func28,Tryz.ntmps28
  go_wp2_with (fail)
  refine HW.out.mono ?_;rintro e w' ⟨rfl,rfl⟩
  go_wp2_with (fail)
  go_ret2
  exact ⟨rfl,Below.refl _ _⟩
 ·simp only [if_neg hi] at hw ⊢
  cases hd:m.down
  ·obtain ⟨n,rfl⟩:=Int.eq_ofNat_of_zero_le (show 0≤i by omega)
   refine (read_yes h n (by omega) hd hwl).mono ?_
   rintro e w' ⟨b,h1,h2,h3,h4⟩
   exact ⟨by simpa using ⟨b,h1,h2,h3⟩,h4⟩
  ·simp only [if_true]
   obtain ⟨c0,c1,c2,c3⟩:=h.read
   rw [hd] at c3
   have HW:=Lib.hid hw
   clear hw hi h hd c0 c1 c2
   go_enter Tryz.func28,Tryz.ntmps28
   go_wp2_with (fail)
   refine HW.out.mono ?_;rintro e w' ⟨rfl,rfl⟩
   go_wp2_with (fail)
   go_ret2
   exact ⟨rfl,Below.refl _ _⟩
end disk
namespace disk

open Go.RowKit base obj mem plan
def DS.laid (m:DS) (p:Nat→Bool) (k:Nat):DS:={ m with secs:=layTo p m.waits m.secs k }
theorem laid_good {m:DS} (h:m.Good) (p:Nat→Bool) (k:Nat):(m.laid p k).Good:=by
 have e:=layTo_len p m.waits m.secs k
 refine ⟨layTo_64 (fun q hq=>(h.waits q hq).2) h.secs _,fun q hq=>?_,h.fuse0,h.fuse1,?_,?_⟩
 ·show _ < (layTo _ _ _ _).length∧_
  rw [e];exact h.waits q hq
 ·show 1≤(layTo _ _ _ _).length
  rw [e];exact h.n0
 ·show (layTo _ _ _ _).length≤128
  rw [e];exact h.n1
structure LayRel (w:World) (F:Nat→Prop) (g L:Nat) (wv:Value) (m:DS) (p:Nat→Bool) (k:Nat) (wr:World):Prop where
 disk:DiskIn wr F g L wv (m.laid p k)
 kept:Kept F w wr
theorem lay_read {w wr:World} {F:Nat→Prop} {g L:Nat} {wv:Value} {m:DS} {p:Nat→Bool} {k:Nat} (h:LayRel w F g L wv m p k wr):wr.cell? ⟨g,0,none⟩=some (.slice (some ⟨L,0,none⟩) m.secs.length m.secs.length)∧wr.cell? ⟨g,1,none⟩=some wv∧g < wr.heap.size:=by
 obtain ⟨c0,c1,_,_⟩:=h.disk.read
 have e:(m.laid p k).secs.length=m.secs.length:=layTo_len p m.waits m.secs k
 rw [e] at c0
 exact ⟨c0,c1,h.disk.blk.lt⟩
theorem lay_step {w wr:World} {F:Nat→Prop} {g L:Nat} {wv:Value} {m:DS} {p:Nat→Bool} {k:Nat} (h:LayRel w F g L wv m p k wr) (hk:k < m.waits.length) {A:Option Addr} {c:Nat} (hv:wv=.slice A m.waits.length c) :
  ∃W cur,A=some ⟨W,0,none⟩∧Row wr W 139 cur∧(cur.drop (k*65)).take (waitCells m.waits[k]).length=waitCells m.waits[k]:=by
 obtain ⟨W,c',cur,hv',hrow,hcur⟩:=own_row h.disk.own (show 0 < m.waits.length by omega)
 rw [hv] at hv'
 injection hv' with h1 h2 h3
 exact ⟨W,cur,h1,hrow,wait_at (m:=m.laid p k) h.disk.good hcur hk⟩
theorem laid_yes {m:DS} {p:Nat→Bool} {k:Nat} (hk:k < m.waits.length) (hp:p k=true):(m.laid p (k+1)).secs=(m.laid p k).secs.set m.waits[k].1 m.waits[k].2:=layTo_yes hk hp
theorem laid_no {m:DS} {p:Nat→Bool} {k:Nat} (hk:k < m.waits.length) (hp:p k=false):m.laid p (k+1)=m.laid p k:=by
 unfold DS.laid
 rw [layTo_no hk hp]
theorem lay_no {w wr:World} {F:Nat→Prop} {g L:Nat} {wv:Value} {m:DS} {p:Nat→Bool} {k:Nat} (h:LayRel w F g L wv m p k wr) (hk:k < m.waits.length) (hp:p k=false) (o:Obj):LayRel w F g L wv m p (k+1) (wr.alloc o):=by
 refine ⟨?_,h.kept.alloc o⟩
 rw [laid_no hk hp]
 exact h.disk.kept ((Kept.refl (fun _=>False) wr).alloc o) (fun _ _ h=>h)
theorem lay_yes {w wr w2:World} {F:Nat→Prop} {g L:Nat} {wv:Value} {m:DS} {p:Nat→Bool} {k:Nat} (hm:m.Good) (h:LayRel w F g L wv m p k wr) (hk:k < m.waits.length) (hp:p k=true) (hw2:Kept (fun _=>False) wr w2) :
  LayRel w F g L wv m p (k+1) (w2.setRow L (((m.laid p k).secs.map secCells).set m.waits[k].1 (secCells m.waits[k].2)).flatten.toArray):=by
 have hd2:=h.disk.kept hw2 (fun _ _ h=>h)
 refine ⟨⟨laid_good hm p (k+1),?_,?_,?_,h.disk.fg,h.disk.fl,h.disk.fw⟩,?_⟩
 ·have e:dCells L wv (m.laid p (k+1))=dCells L wv (m.laid p k):=by
   have e1:(m.laid p (k+1)).secs.length=m.secs.length:=layTo_len p m.waits m.secs (k+1)
   have e2:(m.laid p k).secs.length=m.secs.length:=layTo_len p m.waits m.secs k
   simp only [dCells,e1,e2]
   rfl
  rw [e]
  exact hd2.blk.setRow_other _ h.disk.gl
 ·rw [laid_yes hk hp,List.map_set]
  exact hd2.laid.setRow _
 ·have k1:Kept (fun i=>i=L) w2 (w2.setRow L (((m.laid p k).secs.map secCells).set m.waits[k].1 (secCells m.waits[k].2)).flatten.toArray):=kept_setRow (Kept.refl (fun i=>i=L) _) (.inl (show L=L from rfl)) _
  exact k1.own hd2.own (fun i hi e=>h.disk.lw (by rw [hi,e]))
 ·exact kept_setRow (h.kept.trans hw2 (fun i h=>h) (fun i h=>h.elim)) (.inl h.disk.fl) _
theorem own_zero {w:World} {base:Nat} {e:TypeId} {size n c g:Nat} {xs:List Value} (h:w.ownsRow base e size (.slice (some ⟨g,0,none⟩) n c) n xs):w.ownsRow base e size (.slice (some ⟨g,0,none⟩) 0 c) 0 []:=by
 rcases h.2 with ⟨e,_⟩|⟨g',cap,cur,e,hb,hg,_,hm,hs,_⟩
 ·cases e
 ·injection e with e1 e2 e3
  injection e1 with e1
  injection e1 with e1
  subst e1;subst e3
  exact ⟨by simp,.inr ⟨g,c,cur,rfl,hb,hg,Nat.zero_le _,hm,hs,by simp⟩⟩
theorem lay_end {w wr w2:World} {F:Nat→Prop} {g L:Nat} {m:DS} {p:Nat→Bool} {A:Option Addr} {c:Nat} (hm:m.Good) (h:LayRel w F g L (.slice A m.waits.length c) m p m.waits.length wr)
  (hg:wr.grownBy w2 (Value.ownBlock (.slice A m.waits.length c))) {ys:List Value} (ho:w2.ownsRow 0 139 65 (.slice A m.waits.length c) m.waits.length ys) :
  DiskAt (w2.setCell ⟨g,1,none⟩ (.slice A 0 c)) F g (m.lay p)∧Kept F w (w2.setCell ⟨g,1,none⟩ (.slice A 0 c)):=by
 have hd:=h.disk
 have hgw:=hd.gw
 have hlw:=hd.lw
 have b1:Row w2 g 135 (dCells L (.slice A m.waits.length c) (m.laid p m.waits.length)):=(hg.block g hd.blk.lt (fun e=>hgw e.symm)).trans hd.blk
 have b2:Row w2 L 137 ((m.laid p m.waits.length).secs.map secCells).flatten:=(hg.block L hd.laid.lt (fun e=>hlw e.symm)).trans hd.laid
 refine ⟨⟨L,.slice A 0 c,DS.lay_good hm p,b1.setCell 1 _,b2.setCell_other (p:=⟨g,1,none⟩) (Ne.symm hd.gl) _,?_,hd.fg,hd.fl,fun k hk=>hd.fw k ?_⟩,?_⟩
 ·refine ownsRow_setCell_other ?_ (a:=⟨g,1,none⟩) ?_ _
  ·rcases A with _|⟨b,o,sp⟩
   ·have hc:c=0:=own_cap ho rfl
    subst hc
    exact World.ownsRow_nil _ _ _ _
   ·rcases ho.2 with ⟨e,_⟩|⟨g',cap,cur,e,_⟩
    ·cases e
    ·injection e with e1 e2 e3
     injection e1 with e1
     rw [e1] at ho ⊢
     exact own_zero ho
  ·intro e
   exact hgw (by cases A<;>simp_all [Value.ownBlock])
 ·cases A<;>simp_all [Value.ownBlock]
 ·refine Kept.setCell ?_ (.inl hd.fg) _
  exact h.kept.trans (Kept.of_grown hg F (fun k hk=>hd.fw k hk)) (fun i h=>h) (fun i h _=>h)
theorem sec_put {m:DS} (h:m.Good) {i:Nat} (hi:i < m.secs.length) {b:List Int} (hb:b.length=64) :
  (m.secs.map secCells).flatten.take (i*64)++(secCells b).toArray.toList++(m.secs.map secCells).flatten.drop (i*64+(secCells b).toArray.size)=((m.secs.map secCells).set i (secCells b)).flatten:=by
 have e:(secCells b).toArray.size=64:=by rw [List.size_toArray,secCells_len,hb]
 have e2:=flat_set (good_secLen h) (i:=i) (by simpa using hi) (v:=secCells b) (by rw [secCells_len,hb])
 rw [e]
 exact e2
theorem sec_fit {m:DS} (h:m.Good) {i:Nat} (hi:i < m.secs.length) {b:List Int} (hb:b.length=64):i*64+(secCells b).toArray.size≤(m.secs.map secCells).flatten.length:=by
 rw [List.size_toArray,secCells_len,hb,flat_len _ (good_secLen h),List.length_map]
 have:(i+1)*64≤m.secs.length*64:=Nat.mul_le_mul_right 64 hi
 omega
theorem lay_at {w:World} {F:Nat→Prop} {g L:Nat} {wv:Value} {m:DS} (h:DiskIn w F g L wv m) (p:Nat→Bool) (f:Nat) (caps:Array Value) (hcf:∀(w:World) (i:Int),(callFunc f (#[.int .i64 i]++caps)).run Tryz.prog w=.ok (.enter f (#[.int .i64 i]++caps)) w)
  (hf:∀wr,Kept F w wr→∀i:Nat,i < m.waits.length→Calls Tryz.prog f (#[.int .i64 i]++caps) wr fun e w'=>e=.returned (.bool (p i))∧wr=w') (hwl:m.waits.length≤1000000) :
  Calls Tryz.prog 79 #[.pointer (some ⟨g,0,none⟩),.func (.func f) #[] caps] w fun e w'=>e=.returned (.tuple #[])∧DiskAt w' F g (m.lay p)∧Kept F w w':=by
 obtain ⟨c0,c1,c2,c3⟩:=h.read
 obtain ⟨A,wc,hwv,_⟩:=own_form h.own
 rw [hwv] at c1
 have HWV:=Lib.hid hwv
 have H:=Lib.hid h
 have HF:=Lib.hid hf
 have HG:=Lib.hid h.good
 have HST:=Lib.hid (LayRel.mk (p:=p) (k:=0) h (Kept.refl F w))
 clear hwv h hf c0 c2 c3
 go_enter Tryz.func79,Tryz.ntmps79
 go_wp2_with (fail)
 go_loopw [11] (fun i wr=>∃k:Nat,k≤m.waits.length∧i=.int .i64 k∧LayRel w F g L wv m p k wr) (fun i _=>m.waits.length-(intOf i).toNat)
 case atStart=>exact ⟨0,by omega,rfl,HST.out⟩
 case round =>
  obtain ⟨k,hk,rfl,hrr⟩:=hrel
  have HR:=Lib.hid hrr
  obtain ⟨r0,r1,r2⟩:=lay_read hrr
  rw [HWV.out] at r1
  clear hrr
  by_cases hlt:k < m.waits.length
  ·obtain ⟨W,cur,hA,hrow,hat⟩:=lay_step HR.out hlt HWV.out
   have HROW:=Lib.hid hrow;have HAT:=Lib.hid hat;have HLT:=Lib.hid hlt
   subst hA
   clear hrow hat
   have HP:=Lib.hid ((HG.out.waits _ (List.getElem_mem hlt)).2)
   have hpn:=(HG.out.waits _ (List.getElem_mem hlt)).1
   have RM:=Lib.hid (lay_no HR.out hlt)
   have RH:=Lib.hid (fun w2=>lay_yes (w2:=w2) HG.out HR.out hlt)
   generalize hpp:m.waits[k]=q at *
   have HPP:=Lib.hid hpp
   have hc0:(waitCells q).toArray[0]?=some (.int .i64 q.1):=rfl
   have W1:=Lib.hid (wait_size HP.out)
   have W2:=Lib.hid (show (Tryz.prog.info? 139).map (·.size)=some (waitCells q).toArray.size by simpa using wait_size HP.out)
   have W3:=Lib.hid (show (zLate 0).size=(waitCells q).toArray.size by rw [show (waitCells q).toArray.size=65 by rw [List.size_toArray,waitCells_len,HP.out]];rfl)
   have W4:=Lib.hid (show ∀v∈(waitCells q).toArray.toList,v.oneCell'=true by simpa using waits_one q)
   have W5:=Lib.hid (show (Tryz.prog.info? 139).map (·.zero)=some (some (.agg (zLate 0))) by kernel_rfl)
   clear hpp
   go_wp2_with (first
    | (with_reducible refine wpList_get rfl 139 (.tmp 14) rfl W _ rfl (waitCells q) _ HROW.out HAT.out Tryz.underlying139 rfl W1.out ?_)
    | (with_reducible refine wpList_alloc rfl 139 rfl (.agg (zLate 0)) W5.out ?_)
    | (refine wpList_fill rfl 139 (.tmp 5) (.tmp 15) rfl (waitCells q).toArray (zLate 0) _ _ rfl rfl W2.out W3.out W4.out ?_))
   have hcall:=HF.out _ (HR.out.kept.alloc (.cells (waitCells q).toArray 139)) k hlt
   have HLD:=Lib.hid (HR.out.disk.laid.alloc (.cells (waitCells q).toArray 139))
   have HSL:=Lib.hid (show (m.laid p k).secs.length=m.secs.length from layTo_len p m.waits m.secs k)
   have HGK:=Lib.hid (laid_good HG.out p k)
   cases hpk:p k
   ·rw [hpk] at hcall
    refine hcall.mono ?_;rintro e w' ⟨rfl,rfl⟩
    have HPK:=Lib.hid hpk
    clear hcall hpk
    go_wp2_with (fail)
    go_roundw
    case rel=>exact ⟨k+1,by omega,by go_num,RM.out HPK.out _⟩
    case measure=>simp [intOf];omega
   ·rw [hpk] at hcall
    refine hcall.mono ?_;rintro e w' ⟨rfl,rfl⟩
    have HPK:=Lib.hid hpk
    have hb:=hpk
    have W6:=Lib.hid (Row.new wr 139 (waitCells q).toArray)
    have W7:=Lib.hid (wait_drop q)
    have W8:=Lib.hid (sec_size HP.out)
    have hlv:(loadVar 137 ⟨wr.heap.size,1,none⟩).run Tryz.prog (wr.alloc (.cells (waitCells q).toArray 139)).drew=.ok (.agg (secCells q.2).toArray) (wr.alloc (.cells (waitCells q).toArray 139)).drew:=by
     refine run_loadVar_mid _ wr.heap.size 1 137 (secCells q.2) _ ?_ Tryz.underlying137 rfl W8.out
     rw [←W7.out]
     exact (W6.out.drew).range 1 _
    have HLV:=Lib.hid hlv
    have i0:(0:Int)≤(q.1:Int):=by omega
    have i1:(q.1:Int) < (m.secs.length:Int):=by omega
    have r3:g≤wr.heap.size:=by omega
    have X1:=Lib.hid (show (Tryz.prog.info? 137).map (·.size)=some (secCells q.2).toArray.size by simpa using sec_size HP.out)
    have X2:=Lib.hid (sec_fit HGK.out (show q.1 < (m.laid p k).secs.length by rw [HSL.out];exact hpn) HP.out)
    have X3:=Lib.hid (show ∀v∈(secCells q.2).toArray.toList,v.oneCell'=true by simpa using sec_one q.2)
    have X4:=Lib.hid (sec_put HGK.out (show q.1 < (m.laid p k).secs.length by rw [HSL.out];exact hpn) HP.out)
    clear hcall hpk hlv hpn hb
    go_wp2_with (fail)
    refine wp_region_plan [0,1,2,4,6,3,5,7,8] [[9]] (by kernel_rfl) (by kernel_rfl) (fun _ _ _ _ _ h=>h) ?_
    simp only [forks,pick,xGs,xGz,xGo]
    still_step
    still_step
    still_step
    still_step
    still_step
    still_step
    still_step
    refine still_get rfl 137 (.tmp 25) rfl (secCells q.2).toArray _ rfl HLV.out ?_
    still_step
    refine wpStill_nil ?_
    go_wp2_with (with_reducible refine wpList_putR rfl 137 (.tmp 27) (.tmp 26) rfl L (q.1*64) (secCells q.2).toArray rfl rfl HLD.out.drew X1.out X2.out X3.out _ X4.out ?_)
    go_roundw
    case rel=>exact ⟨k+1,by omega,by go_num,RH.out _ HPK.out ((Kept.refl _ _).alloc _).drew⟩
    case measure=>simp [intOf];omega
  ·obtain rfl:k=m.waits.length:=by omega
   have HD:=Lib.hid HR.out.disk
   have HK:=Lib.hid HR.out.kept
   have f1:=HR.out.disk.blk.frozen 1
   have hgl:=HR.out.disk.blk.lt
   have OWN:=Lib.hid HR.out.disk.own
   have ZI:=Lib.hid (show (Tryz.prog.info? 139).map (·.zero)=some (some (.agg (zLate 0))) by kernel_rfl)
   have Z1:=Lib.hid (zLate_one 0)
   have HRR:=Lib.hid HR.out
   rw [HWV.out] at OWN HRR
   clear hk hlt
   have GW:=Lib.hid HRR.out.disk.gw
   rcases A with _|⟨Wb,Wo,Ws⟩
   ·have hc:=own_cap OWN.out rfl
    subst hc
    go_wp2_with (first
     | (refine wpList_clear (size:=65) rfl 133 (.tmp 32) rfl Tryz.underlying133 (.agg (zLate 0)) ZI.out rfl Z1.out (by decide) OWN.out rfl ?_;intro w2 ys ho hg hsz;have hb:=hg.block g hgl (fun e=>GW.out e.symm);have r1':=(World.cell?_of_block (a:=⟨g,1,none⟩) hb).trans r1;have f1':=(World.frozen?_of_block (a:=⟨g,1,none⟩) hb).trans f1;have HO:=Lib.hid ho;have HGR:=Lib.hid hg;clear ho hg hb hsz)
     | (go_at_call 99999;skip))
    go_end0
    exact ⟨rfl,lay_end HG.out HRR.out HGR.out HO.out⟩
   ·go_wp2_with (first
     | (refine wpList_clear (size:=65) rfl 133 (.tmp 32) rfl Tryz.underlying133 (.agg (zLate 0)) ZI.out rfl Z1.out (by decide) OWN.out rfl ?_;intro w2 ys ho hg hsz;have hb:=hg.block g hgl (fun e=>GW.out e.symm);have r1':=(World.cell?_of_block (a:=⟨g,1,none⟩) hb).trans r1;have f1':=(World.frozen?_of_block (a:=⟨g,1,none⟩) hb).trans f1;have HO:=Lib.hid ho;have HGR:=Lib.hid hg;clear ho hg hb hsz)
     | (go_at_call 99999;skip))
    go_end0
    exact ⟨rfl,lay_end HG.out HRR.out HGR.out HO.out⟩
end disk
end Go.Proofs.YtdldkkoplgkloaaGreat
