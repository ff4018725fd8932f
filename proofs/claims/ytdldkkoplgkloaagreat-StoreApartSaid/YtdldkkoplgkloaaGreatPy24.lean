/-
  PROVED HERE: lemmas that the law leans on.
  CONDITIONS: each names its own.
-/
import Derived.BigQuiet
import Derived.Deep.CutBlock
import Derived.Deep.DeepCutAuto
import Derived.Deep.QuietTactic
import Derived.Deep.RegionHeld3
import Derived.IntWalk
import Derived.Test.YtdldkkoplgkloaaGreatPy0
import Derived.Test.YtdldkkoplgkloaaGreatPy15
import Derived.Test.YtdldkkoplgkloaaGreatPy19
import Derived.Test.YtdldkkoplgkloaaGreatPy23
namespace Go.Proofs.YtdldkkoplgkloaaGreat
set_option linter.unusedVariables false
set_option linter.unusedSimpArgs false
set_option maxRecDepth 100000
set_option maxHeartbeats 32000000
namespace bP

open Go.RowKit base obj mem bw bk record sep bf
def Wm (part c:Int) (bs:List Int) (x:Rec×Int):Rec×Int:=if (gp bs).2=0∧(gp bs).1.part=part∧x.1.seq < (gp bs).1.seq then ((gp bs).1,c) else x
def rf (m:DS) (part:Int):Nat→Rec×Int
 | 0=>(Rec.zero,-1)
 | k+1=>Wm part k (m.now (part*10+k).toNat) (rf m part k)
def Zo (w0:World) (l:List aD) (d:Nat) (m:DS) (part:Int) (e:Ending) (w':World):Prop :=
 ((rf m part 2).2 < 0→e=.returned (.tuple #[.pointer none,.int .i64 5])∧St w0 w' (bU d m::l))∧
 (¬(rf m part 2).2 < 0→∃g,e=.returned (.tuple #[.pointer (some ⟨g,0,none⟩),.int .i64 0])∧St w0 w' (log g d part (rf m part 2).2 (rf m part 2).1::bU d m::l))
theorem Fo {part:Int} {n:Nat} (h:roomFor part n=true):0≤part∧part < 4∧part*10+1 < (n:Int):=by
 unfold roomFor at h;simpa using h
theorem aaE (a b:Int) (w:World):(Instr.index 131 (.agg #[.int .i64 a,.int .i64 b]) (.int .i64 0)).run Tryz.prog w=.ok (.int .i64 a) w:=by kernel_rfl
theorem aaD (a b:Int) (w:World):(Instr.index 131 (.agg #[.int .i64 a,.int .i64 b]) (.int .i64 1)).run Tryz.prog w=.ok (.int .i64 b) w:=by kernel_rfl
theorem Fv {w0 w:World} {l:List aD} {d:Nat} {m:DS} (h:St w0 w (bU d m::l)) (part:Int) (hr:roomFor part m.az.length=true) (hd:m.down=false) (fY:m.waits.length≤1000) (cu:∀i,bo (m.now i)) (hlen:∀i,i < m.az.length→(m.now i).length=64) :
  Calls Tryz.prog 70 #[.pointer (some ⟨d,0,none⟩),.int .i64 part] w (Zo w0 l d m part):=by
 have H:=aa (qt h part);have HR:=aa hr;have HD:=aa hd;have HY:=aa cu;have HLE:=aa hlen;obtain ⟨td,hp4,ll⟩:=Fo hr;have i0:=aaE;have i1:=aaD;clear h hr hd cu hlen;go_enter Tryz.func70,Tryz.ntmps70;go_wp2_with fail;refine H.o.mono ?_;rintro e w1 hb;obtain ⟨g,rfl,h1⟩:=hb.1 HR.o;obtain ⟨c0,c1,c2,c3,c4,lg⟩:=qq h1;have H1:=aa h1;clear hb h1;go_wp2_with fail;go_loopw [27] (fun i wr=>∃k:Nat,k≤2∧i=.int .i64 k∧St w0 wr (log g d part (rf m part k).2 (rf m part k).1::bU d m::l)) (fun i _=>2-(intOf i).toNat)
 case atStart=>exact ⟨0,by omega,rfl,H1.o⟩
 case round =>
  obtain ⟨k,hk,rfl,hi⟩:=hrel;have HI:=aa hi;clear hi;obtain ⟨x,hx⟩:∃x,x=rf m part k:=⟨_,rfl⟩
  have HX:=aa hx;rw [←hx] at HI;clear hx;by_cases aK:k < 2
  ·have cZ:(k:Int) < 2:=by omega
   have ik:∀w:World,(Instr.index 131 (.agg #[.int .i64 (part*10),.int .i64 (part*10+1)]) (.int .i64 (k:Int))).run Tryz.prog w=.ok (.int .i64 (part*10+k)) w:=by
    have dC:k=0∨k=1:=by omega
    intro w;rcases dC with rfl|rfl
    ·rw [show ((0:Nat):Int)=0 from rfl,Int.add_zero];exact i0 _ _ w
    ·exact i1 _ _ w
   have rQ:(0:Int)≤(k:Int):=by omega
   obtain ⟨n,hn⟩:∃n:Nat,n=(part*10+k).toNat:=⟨_,rfl⟩
   obtain ⟨bs,fZ⟩:∃bs,bs=m.now n:=⟨_,rfl⟩
   obtain ⟨gr,wo⟩:∃gr,gr=gp bs:=⟨_,rfl⟩
   have kM:=aa (show rf m part (k+1)=if gr.2=0∧gr.1.part=part∧x.1.seq < gr.1.seq then (gr.1,(k:Int)) else x by
    rw [wo,fZ,hn,HX.o];rfl)
   have oc:=aa (yX HI.o.swap (part*10+k) n (by omega) (by omega) HD.o (by omega));rw [←fZ] at oc;have ch:=aa (show bs.length=64 by rw [fZ];exact HLE.o n (by omega));have kN:=aa (show bo bs by rw [fZ];exact HY.o n);have E6:=aa wo;clear fZ wo hn i0 i1 c0 c1 c2 c3 c4 lg;go_wp2_with fail;refine oc.o.mono ?_;rintro e w2 ⟨b,rfl,h2⟩;have H2:=aa h2;have jJ:=aa (pF h2.row.1 ch.o);clear h2;go_wp2_with fail;refine (record.get_at _ _ 64 64 bs ch.o (by omega) kN.o jJ.o).mono ?_;rintro e w3 ⟨rfl,hb⟩;rw [←E6.o];have H3:=aa ((H2.o.below hb).pick 2 rfl);clear hb;obtain ⟨gr,re⟩:=gr;dsimp only;rw [Rec.mA];obtain ⟨w4,dX⟩:∃w4,w4=w3.alloc (.cells #[.int .i64 gr.part,.int .i64 gr.seq,.int .i64 gr.ax,.int .i64 gr.aj,.int .i64 gr.left,.int .i64 gr.bad] 35):=⟨_,rfl⟩
   have H4:=aa (show St w0 w4 _ by rw [dX];exact H3.o.below ((Below.refl _ _).alloc (Nat.le_refl _) (.cells #[.int .i64 gr.part,.int .i64 gr.seq,.int .i64 gr.ax,.int .i64 gr.aj,.int .i64 gr.left,.int .i64 gr.bad] 35)));have od:=aa (show Row w4 w3.heap.size 35 gr.cells.toList by rw [dX];exact Row.new w3 _ _);have kb:=aa dX;clear dX;go_wp2_with fail;rw [←kb.o];obtain ⟨q0,q1,q2,q3,q4,q5⟩:=Rec.read od.o;obtain ⟨t0,t1,t2,t3,t4,t5⟩:=Fz H4.o;have l3:=od.o.lt;have l4:=H4.o.row.1.lt;by_cases he:re=0
   ·subst he;by_cases hp:gr.part=part
    ·have th:(gr.part==part)=true:=by simpa using hp
     by_cases xG:x.1.seq < gr.seq
     ·have aaK:decide (x.1.seq < gr.seq)=true:=by simpa using xG
      have yc:=aa (kM.o.trans (if_pos ⟨rfl,hp,xG⟩));clear hp xG;go_quiet (fail);have H5:=aa (H4.o.drewN nq);obtain ⟨cs,cX⟩:∃cs,cs=fO d part (part*10) (part*10+1) x.2 gr:=⟨_,rfl⟩
      have H6:=aa (H5.o.setRow cs);have f4:=H6.o.row.1.frozen 4;have c4:=H6.o.row.1.cell 4;have Cs:cs[4]?=some (.int .i64 x.2):=by rw [cX];rfl
      rw [Cs] at c4;have mW:=aa (show (fO d part (part*10) (part*10+1) x.2 x.1).take 5++gr.cells.toList++(fO d part (part*10) (part*10+1) x.2 x.1).drop (5+gr.cells.size)=cs by rw [cX];rfl);have H7:=aa (show St w0 _ (log g d part k gr::_) by rw [cX] at H6;exact H6.o.set 4 (.int .i64 (k:Int)));have MS:=aa (show (Tryz.prog.info? 35).map (·.size)=some gr.cells.size from by kernel_rfl);have HE:=aa (show 5+gr.cells.size≤(fO d part (part*10) (part*10+1) x.2 x.1).length from Nat.le_refl 11);have HO:=aa (xt gr);rw [←cX] at H7;clear cX Cs;go_wp2_with (refine aF rfl 35 (.tmp 68) (.tmp 65) rfl g 5 gr.cells rfl rfl H5.o.row.1 MS.o HE.o HO.o cs mW.o ?_);go_roundw;case rel=>exact ⟨k+1,by omega,by go_num,by rw [yc.o];exact (H7.o.pick 1 rfl).drop⟩
      case measure=>simp [intOf]<;>omega
     ·have aaK:decide (x.1.seq < gr.seq)=false:=by simpa using xG
      have yc:=aa (kM.o.trans (if_neg fun h=>xG h.2.2));clear hp xG;go_quiet (fail);have H5:=aa (H4.o.drewN nq);go_wp2_with fail;go_roundw;case rel=>exact ⟨k+1,by omega,by go_num,by rw [yc.o];exact (H5.o.pick 1 rfl).drop⟩
      case measure=>simp [intOf]<;>omega
    ·have th:(gr.part==part)=false:=by simpa using hp
     have yc:=aa (kM.o.trans (if_neg fun h=>hp h.2.1));clear hp;go_quiet (fail);have H5:=aa (H4.o.drewN nq);go_wp2_with fail;go_roundw;case rel=>exact ⟨k+1,by omega,by go_num,by rw [yc.o];exact (H5.o.pick 1 rfl).drop⟩
     case measure=>simp [intOf]<;>omega
   ·have he':(re==0)=false:=by simpa using he
    have yc:=aa (kM.o.trans (if_neg fun h=>he h.1));clear he;go_quiet (fail);have H5:=aa (H4.o.drewN nq);go_wp2_with fail;go_roundw;case rel=>exact ⟨k+1,by omega,by go_num,by rw [yc.o];exact (H5.o.pick 1 rfl).drop⟩
    case measure=>simp [intOf]<;>omega
  ·obtain rfl:k=2:=by omega
   obtain ⟨t0,t1,t2,t3,t4,l4⟩:=qq HI.o;clear i0 i1 c0 c1 c2 c3 c4 lg hk;by_cases hh:x.2 < 0
   ·go_wp2_with fail;go_ret2;rw [HX.o] at hh;exact ⟨fun _=>⟨rfl,HI.o.drop⟩,fun h=>absurd hh h⟩
   ·go_wp2_with fail;go_ret2;rw [HX.o] at hh;exact ⟨fun h=>absurd h (by omega),fun _=>⟨_,rfl,by rw [←HX.o];exact HI.o⟩⟩
theorem ox {w0 w:World} {l:List aD} {g d:Nat} {part held:Int} {r:Rec} (h:St w0 w (log g d part held r::l)) :
  Calls Tryz.prog 43 #[.pointer (some ⟨g,0,none⟩)] w fun e w'=>e=.returned r.val∧Below w.heap.size w w':=by
 obtain ⟨t0,t1,t2,t3,t4,t5⟩:=Fz h;have lg:=h.row.1.lt;clear h;go_enter Tryz.func43,Tryz.ntmps43;go_wp2_with fail;refine bodyPost_ret (results_cell_row rfl _ _ w.heap.size _ _ _ _ rfl (heap_alloc_new _ _) Tryz.underlying35 rfl (by kernel_rfl)) rfl ?_;exact ⟨rfl,(Below.refl _ _).alloc (Nat.le_refl _) _⟩
end bP
namespace bP

open Go.RowKit base obj mem bw bk record sep bf bytes
def bh (part:Int):Rec:=⟨part,1,0,0,0,0⟩
theorem pD {part:Int} (h0:0≤part) (h1:part < 4):(bh part).right=true:=by
 have hp:part=0∨part=1∨part=2∨part=3:=by omega
 rcases hp with rfl|rfl|rfl|rfl<;>decide
def hM (m:DS) (part:Int):Int×DS:=if (wf m (part*10+1) br).1=0 then wf (wf m (part*10+1) br).2 (part*10) (bh part).bytes else wf m (part*10+1) br
def R8 (w0:World) (l:List aD) (d:Nat) (m:DS) (part:Int) (e:Ending) (w':World):Prop :=
 ((hM m part).1=0→∃g,e=.returned (.tuple #[.pointer (some ⟨g,0,none⟩),.int .i64 0])∧St w0 w' (log g d part 0 (bh part)::bU d (hM m part).2::l))∧
 ((hM m part).1≠0→e=.returned (.tuple #[.pointer none,.int .i64 (hM m part).1])∧St w0 w' (bU d (hM m part).2::l))
theorem Su (m:DS) (i:Int) (bs:List Int):(wf m i bs).2.waits.length≤m.waits.length+1:=by
 have h:=B5 m i bs;unfold wf;split
 ·unfold DS.flush;split
  ·exact Nat.zero_le _
  ·rw [DS.fk];exact h
 ·exact h
theorem D8 (w:World):(Instr.makeSlice 24 (.int .i64 64) (.int .i64 64)).run Tryz.prog w=.ok (.slice (some ⟨w.heap.size,0,none⟩) 64 64) (w.alloc (.cells (Array.replicate 64 (.int .u8 0)) 5)):=by
 have h:=uC 64 (by decide) w;rw [show ((64:Nat):Int)=64 from rfl] at h;rw [h];rfl
theorem Q7 {w0 w:World} {l:List aD} {d:Nat} {m:DS} (h:St w0 w (bU d m::l)) (part:Int) (hr:roomFor part m.az.length=true) (fY:m.waits.length≤900) :
  Calls Tryz.prog 82 #[.pointer (some ⟨d,0,none⟩),.int .i64 part] w (R8 w0 l d m part):=by
 have H:=aa (qt h part);have HR:=aa hr;obtain ⟨td,hp4,ll⟩:=Fo hr;have pL:=D8;have Hy:=aa (pD td hp4);have bq:=aa (Su m (part*10+1) br);have HQ:=aa (show hM m part=if (wf m (part*10+1) br).1=0 then wf (wf m (part*10+1) br).2 (part*10) (bh part).bytes else wf m (part*10+1) br from rfl);obtain ⟨x,hx⟩:∃x,x=wf m (part*10+1) br:=⟨_,rfl⟩
 rw [←hx] at HQ bq;obtain ⟨y,hy⟩:∃y,y=wf x.2 (part*10) (bh part).bytes:=⟨_,rfl⟩
 rw [←hy] at HQ;have HX:=aa hx;have HYY:=aa hy;clear h hr hx hy;obtain ⟨ex,mx⟩:=x;obtain ⟨ey,my⟩:=y;simp only at HQ bq HX HYY;go_enter Tryz.func82,Tryz.ntmps82;go_wp2_with fail;refine H.o.mono ?_;rintro e w1 hb;obtain ⟨g,rfl,h1⟩:=hb.1 HR.o;have H1:=aa h1;clear hb h1;obtain ⟨w2,dY⟩:∃w2,w2=w1.alloc (.cells #[.int .i64 part,.int .i64 1,.int .i64 0,.int .i64 0,.int .i64 0,.int .i64 0] 35):=⟨_,rfl⟩
 have H2:=aa (show St w0 w2 (row w1.heap.size 35 (bh part).cells.toList::_) by rw [dY];exact H1.o.new _ _);have iL:=aa dY;clear dY;go_wp2_with fail;rw [←iL.o];refine (LR (bh part) _ Hy.o).mono ?_;rintro e w3 ⟨v,rfl,ho,hb⟩;have H3:=aa ((H2.o.cQ hb ho).pick 2 rfl);obtain ⟨A,c,e2,hc,_⟩:=aH ho;subst e2;clear ho hb;have HZ:=aa (H3.o.new 5 (Array.replicate 64 (.int .u8 0)));have HP:=aa (jL ((HZ.o.pick 4 rfl).pick 2 rfl) 1 (part*10+1) (.inr ⟨rfl,rfl⟩) (some ⟨w3.heap.size,0,none⟩) 64 64 br rfl (pF HZ.o.row.1 rfl) (by omega));rw [←HX.o] at HP;go_wp2_with fail;refine HP.o.mono ?_;rintro e w4 ⟨rfl,h4⟩;have H4:=aa h4;clear h4;by_cases he:ex=0
 ·subst he;have jK:=aa (HQ.o.trans (if_pos rfl));have CF:=aa (Sl.bz (H4.o.pick 3 rfl).own);have tE:=aa (jL H4.o 0 (part*10) (.inl ⟨rfl,rfl⟩) A 64 c (bh part).bytes (Rec.di _) CF.o (by have:=bq.o;omega));rw [←HYY.o] at tE;go_wp2_with fail;refine tE.o.mono ?_;rintro e w5 ⟨rfl,h5⟩;have H5:=aa h5;clear h5;by_cases he:ey=0
  ·subst he;have mN:=aa (jK.o);have HS:=aa (H5.o.set 4 (.int .i64 0)).drew;obtain ⟨q0,q1,q2,q3,q4,q5⟩:=Rec.read (r:=bh part) (H5.o.pick 4 rfl).row.1;obtain ⟨s0,s1,s2,s3,s4,s5⟩:=Rec.read (r:=bh part) ((H5.o.set 4 (.int .i64 0)).pick 4 rfl).row.1;have f4:=H5.o.row.1.frozen 4;have c4:w5.cell? ⟨g,4,none⟩=some (.int .i64 (-1)):=H5.o.row.1.cell 4;have MS:=aa (show (Tryz.prog.info? 35).map (·.size)=some (bh part).cells.size from by kernel_rfl);have HE:=aa (show 5+(bh part).cells.size≤((fO d part (part*10) (part*10+1) (-1) Rec.zero).set 4 (.int .i64 0)).length from Nat.le_refl 11);have HO:=aa (xt (bh part));obtain ⟨cs,cX⟩:∃cs,cs=fO d part (part*10) (part*10+1) 0 (bh part):=⟨_,rfl⟩
   have mW:=aa (show ((fO d part (part*10) (part*10+1) (-1) Rec.zero).set 4 (.int .i64 0)).take 5++(bh part).cells.toList++((fO d part (part*10) (part*10+1) (-1) Rec.zero).set 4 (.int .i64 0)).drop (5+(bh part).cells.size)=cs by rw [cX];rfl);have H7:=aa (show St w0 _ (log g d part 0 (bh part)::_) by have h:=HS.o.setRow cs;rw [cX] at h;exact h);rw [←cX] at H7;clear cX;go_wp2_with fail;refine ff [0,1,3,4] [[2,5,6,7,8],[5,2,6,7,8]] (by kernel_rfl) (by kernel_rfl) (fun _ _ _ _ _ h=>h) ?_;simp only [mq,pick,af,ae,ah];iterate 4 still_step
   refine wpStill_nil ?_;refine ⟨?_,?_⟩
   all_goals
    go_wp2_with (refine aF rfl 35 (.tmp 47) (.tmp 43) rfl g 5 (bh part).cells rfl rfl HS.o.row.1 MS.o HE.o HO.o cs mW.o ?_);go_ret2;refine ⟨fun _=>⟨g,rfl,?_⟩,fun h=>absurd (by rw [mN.o]) h⟩;rw [mN.o];exact ((((H7.o.pick 2 rfl).drop.pick 2 rfl).drop).pick 2 rfl).drop
  ·have b1:(ey != 0)=true:=by simpa using he
   have HE:=aa he;clear he;go_wp2_with fail;go_ret2;refine ⟨fun h=>absurd (by rw [jK.o] at h;exact h) HE.o,fun _=>?_⟩;rw [jK.o];exact ⟨rfl,((((H5.o.drop.pick 1 rfl).drop.pick 1 rfl).drop).pick 1 rfl).drop⟩
 ·have b1:(ex != 0)=true:=by simpa using he
  have HE:=aa he;have jK:=aa (HQ.o.trans (if_neg he));clear he;go_wp2_with fail;go_ret2;refine ⟨fun h=>absurd (by rw [jK.o] at h;exact h) HE.o,fun _=>?_⟩;rw [jK.o];exact ⟨rfl,((((H4.o.drop.pick 1 rfl).drop.pick 1 rfl).drop).pick 1 rfl).drop⟩
def bY (part:Int) (now r:Rec):Rec:=⟨part,now.seq+1,r.ax,r.aj,r.left,r.bad⟩
structure sK where
 held:Int
 now:Rec
def qX (m:DS) (part:Int) (s:sK) (r:Rec):Int×DS×sK :=
 if 4294967295≤s.now.seq then (4,m,s) else
 if (bY part s.now r).right then
  (if (wf m (part*10+(1-s.held)) (bY part s.now r).bytes).1=0 then (0,(wf m (part*10+(1-s.held)) (bY part s.now r).bytes).2,⟨1-s.held,bY part s.now r⟩)
   else ((wf m (part*10+(1-s.held)) (bY part s.now r).bytes).1,(wf m (part*10+(1-s.held)) (bY part s.now r).bytes).2,s))
 else (3,m,s)
theorem V6 {w0 w:World} {l:List aD} {g d:Nat} {m:DS} {part:Int} {s:sK} (h:St w0 w (log g d part s.held s.now::bU d m::l)) (hh:s.held=0∨s.held=1) (hq:0≤s.now.seq) (fY:m.waits.length≤900) (r:Rec) :
  Calls Tryz.prog 46 #[.pointer (some ⟨g,0,none⟩),r.val] w fun e w'=>e=.returned (.int .i64 (qX m part s r).1)∧St w0 w' (log g d part (qX m part s r).2.2.held (qX m part s r).2.2.now::bU d (qX m part s r).2.1::l):=by
 obtain ⟨held,now⟩:=s;simp only at h hh hq
 have HQ:=aa (show qX m part ⟨held,now⟩ r=if 4294967295≤now.seq then (4,m,⟨held,now⟩) else if (bY part now r).right then
  (if (wf m (part*10+(1-held)) (bY part now r).bytes).1=0 then (0,(wf m (part*10+(1-held)) (bY part now r).bytes).2,⟨1-held,bY part now r⟩)
   else ((wf m (part*10+(1-held)) (bY part now r).bytes).1,(wf m (part*10+(1-held)) (bY part now r).bytes).2,⟨held,now⟩))
  else (3,m,⟨held,now⟩) from rfl)
 obtain ⟨x,hx⟩:∃x,x=wf m (part*10+(1-held)) (bY part now r).bytes:=⟨_,rfl⟩
 obtain ⟨nx,fQ⟩:∃nx,nx=bY part now r:=⟨_,rfl⟩
 obtain ⟨z,hz⟩:∃z,z=qX m part ⟨held,now⟩ r:=⟨_,rfl⟩
 rw [←hx,←fQ,←hz] at HQ;rw [←fQ] at hx;rw [←hz];have HX:=aa hx;have kM:=aa fQ;have HZ:=aa hz;have HHH:=aa hh;obtain ⟨w1,aJ⟩:∃w1,w1=w.alloc (.cells #[.int .i64 r.part,.int .i64 r.seq,.int .i64 r.ax,.int .i64 r.aj,.int .i64 r.left,.int .i64 r.bad] 35):=⟨_,rfl⟩
 have H1:=aa (show St w0 w1 (log g d part held now::row w.heap.size 35 r.cells.toList::bU d m::l) by rw [aJ];exact (h.new _ _).pick 1 rfl);have bq:=aa aJ;clear hx fQ hz aJ h hh;obtain ⟨ex,mx⟩:=x;simp only at HQ HX;rw [Rec.mA];obtain ⟨c0,c1,c2,c3,c4,lg⟩:=qq H1.o;obtain ⟨t0,t1,t2,t3,t4,t5⟩:=Fz H1.o;obtain ⟨q0,q1,q2,q3,q4,q5⟩:=Rec.read (H1.o.pick 1 rfl).row.1;have lr:=(H1.o.pick 1 rfl).row.1.lt;by_cases hf:4294967295≤now.seq
 ·have jK:=aa (HQ.o.trans (if_pos hf));have hf':now.seq≥4294967295:=hf;go_enter Tryz.func46,Tryz.ntmps46
  go_upto_block 0 with (fail)
  rw [←bq.o];go_wp2_with fail;go_ret;rw [jK.o];exact ⟨rfl,(H1.o.pick 1 rfl).drop⟩
 ·have hf':¬now.seq≥4294967295:=by omega
  have Am:0≤now.seq+1:=by omega
  have jE:now.seq≤4294967294:=by omega
  have jK:=aa (HQ.o.trans (if_neg hf));clear hf
  have H2:=aa (show St w0 _ (row w.heap.size 35 nx.cells.toList::log g d part held now::bU d m::l) by
   have h:=(((H1.o.pick 1 rfl).set 0 (.int .i64 part)).set 1 (.int .i64 (now.seq+1))).drew
   rw [kM.o];exact h)
  have uY:g≠w.heap.size:=H1.o.ne;have Qt:IntKind.i64.wrap (now.seq+1)=now.seq+1:=IntWalk.i64_in _ (by omega);have aaU:w.heap.size≠(⟨g,1,none⟩:Addr).block:=uY.symm;have aaT:w.heap.size≠(⟨g,6,none⟩:Addr).block:=uY.symm;have aaV:w.heap.size≠g:=uY.symm;have fr0:=(H1.o.pick 1 rfl).row.1.frozen 0;have fr1:=(H1.o.pick 1 rfl).row.1.frozen 1;go_enter Tryz.func46,Tryz.ntmps46
  go_upto_block 0 with (fail)
  rw [←bq.o];go_wp2_with fail
  go_region_held3 (fun w'=>w'.cell? ⟨g,1,none⟩=some (.int .i64 part)∧w'.cell? ⟨g,6,none⟩=some (.int .i64 now.seq)) (go_keep) (fail)
  obtain ⟨w2,dY⟩:∃w2,w2=((w1.setCell ⟨w.heap.size,0,none⟩ (.int .i64 part)).setCell ⟨w.heap.size,1,none⟩ (.int .i64 (now.seq+1))).drew:=⟨_,rfl⟩
  rw [←dY] at H2 ⊢;clear dY c0 c1 c2 c3 c4 lg t0 t1 t2 t3 t4 t5 q0 q1 q2 q3 q4 q5 lr fr0 fr1 Qt uY aaU aaT aaV;obtain ⟨q0,q1,q2,q3,q4,q5⟩:=Rec.read H2.o.row.1;have lr:=H2.o.row.1.lt;have HV:=aa (Rec.mA nx);cases hg:nx.right with
  | false =>
    have HG:=aa hg;have mN:=aa (jK.o.trans (if_neg (by rw [hg];decide)));clear hg;go_wp2_with fail;rw [←HV.o];refine (Wh nx _ HG.o).mono ?_;rintro e w3 ⟨rfl,hb⟩;have H3:=aa (H2.o.below hb);clear hb;go_wp2_with fail;go_ret;rw [mN.o];exact ⟨rfl,H3.o.drop⟩
  | true =>
    have HG:=aa hg;have mN:=aa (jK.o.trans (if_pos (by rw [hg])));clear hg;go_wp2_with fail;rw [←HV.o];refine (LR nx _ HG.o).mono ?_;rintro e w3 ⟨v,rfl,ho,hb⟩;have H3:=aa (((H2.o.cQ hb ho).pick 3 rfl).pick 3 rfl);obtain ⟨A,c,e2,hc,_⟩:=aH ho;subst e2;clear ho hb;have CF:=aa (Sl.bz (H3.o.pick 2 rfl).own);obtain ⟨c0,c1,c2,c3,c4,lg⟩:=qq H3.o;have HH:=HHH.o;clear q0 q1 q2 q3 q4 q5 lr
    have HP:∃(c' i:Int),c'=1-held∧(c'=0∧i=part*10∨c'=1∧i=part*10+1)∧part*10+(1-held)=i:=by
     rcases HH with rfl|rfl
     ·exact ⟨1,part*10+1,by omega,.inr ⟨rfl,rfl⟩,by omega⟩
     ·exact ⟨0,part*10,by omega,.inl ⟨rfl,rfl⟩,by omega⟩
    obtain ⟨c',i,fS,hci,hi⟩:=HP;rw [hi] at HX;have kK:-1≤held:=by omega
    have ku:held≤1:=by omega
    have zE:=aa (jL H3.o c' i hci A 64 c nx.bytes (Rec.di _) CF.o (by omega));rw [←HX.o,fS] at zE;have HC':=aa fS;clear hi hci HH fS;go_wp2_with fail;refine zE.o.mono ?_;rintro e w5 ⟨rfl,h5⟩;have H5:=aa h5;clear h5 c0 c1 c2 c3 c4 lg;by_cases he:ex=0
    ·subst he;have fb:=aa (mN.o.trans (if_pos rfl));have HS:=aa (H5.o.set 4 (.int .i64 (1-held))).drew;obtain ⟨q0,q1,q2,q3,q4,q5⟩:=Rec.read (r:=nx) (H5.o.pick 3 rfl).row.1;obtain ⟨s0,s1,s2,s3,s4,s5⟩:=Rec.read (r:=nx) ((H5.o.set 4 (.int .i64 (1-held))).pick 3 rfl).row.1;have f4:=H5.o.row.1.frozen 4;have c4:w5.cell? ⟨g,4,none⟩=some (.int .i64 held):=H5.o.row.1.cell 4;have MS:=aa (show (Tryz.prog.info? 35).map (·.size)=some nx.cells.size from by kernel_rfl);have HE:=aa (show 5+nx.cells.size≤((fO d part (part*10) (part*10+1) held now).set 4 (.int .i64 (1-held))).length from Nat.le_refl 11);have HO:=aa (xt nx);obtain ⟨cs,cX⟩:∃cs,cs=fO d part (part*10) (part*10+1) (1-held) nx:=⟨_,rfl⟩
     have mW:=aa (show ((fO d part (part*10) (part*10+1) held now).set 4 (.int .i64 (1-held))).take 5++nx.cells.toList++((fO d part (part*10) (part*10+1) held now).set 4 (.int .i64 (1-held))).drop (5+nx.cells.size)=cs by rw [cX];rfl);have H7:=aa (show St w0 _ (log g d part (1-held) nx::_) by have h:=HS.o.setRow cs;rw [cX] at h;exact h);rw [←cX] at H7;clear cX;go_wp2_with fail;refine ff [0,1,2,4,5] [[3,6,7,8,9],[6,3,7,8,9]] (by kernel_rfl) (by kernel_rfl) (fun _ _ _ _ _ h=>h) ?_;simp only [mq,pick,af,ae,ah];iterate 5 still_step
     refine wpStill_nil ?_;refine ⟨?_,?_⟩
     all_goals
      go_wp2_with (refine aF rfl 35 (.tmp 58) (.tmp 54) rfl g 5 nx.cells rfl rfl HS.o.row.1 MS.o HE.o HO.o cs mW.o ?_);go_ret;rw [fb.o];exact ⟨rfl,((H7.o.pick 2 rfl).drop.pick 2 rfl).drop⟩
    ·have b1:(ex != 0)=true:=by simpa using he
     have fb:=aa (mN.o.trans (if_neg he));clear he;go_wp2_with fail;go_ret;rw [fb.o];exact ⟨rfl,((H5.o.pick 2 rfl).drop.pick 2 rfl).drop⟩
end bP
namespace bP

open Go.RowKit base mem bw bk record
structure nv (m:DS) (p:Int) (s:sK):Prop where
 b8:m.Good
 jm:m.iU
 p0:0≤p
 p1:p < 4
 room:p*10+1 < (m.az.length:Int)
 held:s.held=0∨s.held=1
 right:s.now.right=true
 part:s.now.part=p
 cur:gp (m.now (p*10+s.held).toNat)=(s.now,0)
 old:∀r,gp (m.now (p*10+(1-s.held)).toNat)=(r,0)→r.part=p→r.seq+s.held≤s.now.seq
theorem DV {r:Rec} (h:r.right=true):0≤r.part∧r.part≤3:=(fC.la h).1
def nM (now r:Rec):Rec×Int:=if 4294967295≤now.seq then (now,4) else if (bY now.part now r).right then (bY now.part now r,0) else (now,3)
theorem nv.next {m m':DS} {p:Int} {s:sK} (h:nv m p s) {nx:Rec} (hr:nx.right=true) (hp:nx.part=p) (hq:nx.seq=s.now.seq+1) (hg:m'.Good) (hb:m'.iU) (hl:m'.az.length=m.az.length)
  (hn:∀j,m'.now j=if j=(p*10+(1-s.held)).toNat then nx.bytes else m.now j):nv m' p ⟨1-s.held,nx⟩∧m'.now (p*10+s.held).toNat=m.now (p*10+s.held).toNat:=by
 have h0:=h.p0;have hh:=h.held
 have e1:m'.now (p*10+s.held).toNat=m.now (p*10+s.held).toNat:=by
  rw [hn,if_neg (by rcases hh with e|e<;>rw [e]<;>omega)]
 refine ⟨⟨hg,hb,h.p0,h.p1,by rw [hl];exact h.room,by rcases hh with e|e<;>rw [e]<;>simp,hr,hp,?_,?_⟩,e1⟩
 ·show gp (m'.now (p*10+(1-s.held)).toNat)=(nx,0)
  rw [hn,if_pos rfl];exact AH hr
 ·intro r rA th;rw [show p*10+(1-(1-s.held))=p*10+s.held by omega,e1,h.cur] at rA;injection rA with e2 _
  show r.seq+(1-s.held)≤nx.seq
  rw [←e2];rcases hh with e|e<;>rw [e]<;>omega
theorem nv.Vz {m:DS} {p:Int} {s:sK} (h:nv m p s):0≤p*10+(1-s.held)∧p*10+(1-s.held) < (m.az.length:Int):=by
 have h0:=h.p0;have h1:=h.room;rcases h.held with e|e<;>rw [e]<;>omega
theorem nv.save {m:DS} {p:Int} {s:sK} (h:nv m p s) {nx r:Rec} (hn:nx=bY p s.now r) (hr:nx.right=true) (hw:(wf m (p*10+(1-s.held)) nx.bytes).1=0) :
  nv (wf m (p*10+(1-s.held)) nx.bytes).2 p ⟨1-s.held,nx⟩∧(wf m (p*10+(1-s.held)) nx.bytes).2.now (p*10+s.held).toNat=m.now (p*10+s.held).toNat∧(wf m (p*10+(1-s.held)) nx.bytes).2.waits=[]∧(wf m (p*10+(1-s.held)) nx.bytes).2.down=false:=by
 obtain ⟨a0,a1⟩:=h.Vz;obtain ⟨w1,w2,w3⟩:=ud h.b8 a0 a1 (Rec.di _) hw;obtain ⟨l1,l2⟩:=h.next hr (by rw [hn];rfl) (by rw [hn];rfl) (h.b8.wf _ _) (h.jm.wf _ (Rec.qK _)) (jB _ _ _) w3;exact ⟨l1,l2,w1,w2⟩
theorem Lx:(gp br).2≠0:=by decide +kernel
theorem Q6 {m:DS} (hg:m.Good) (hb:m.iU) (hu:m.Up) {p:Int} (hr:roomFor p m.az.length=true):(hM m p).1=0∧nv (hM m p).2 p ⟨0,bh p⟩∧(hM m p).2.Up∧(hM m p).2.waits=[]∧(hM m p).2.az.length=m.az.length∧
  ∀j,(hM m p).2.now j=if j=(p*10).toNat then (bh p).bytes else if j=(p*10+1).toNat then br else m.now j:=by
 obtain ⟨p0,p1,ll⟩:=Fo hr;obtain ⟨a1,a2⟩:=yj (m:=m) (i:=p*10+1) (bs:=br) (by omega) ll rfl hu;have a3:(wf m (p*10+1) br).1=0:=by rw [a1]
 obtain ⟨a4,a5,a6⟩:=ud hg (by omega) ll rfl a3;have a7:=jB m (p*10+1) br;have e:hM m p=wf (wf m (p*10+1) br).2 (p*10) (bh p).bytes:=by unfold hM;rw [if_pos a3]
 rw [e];have ag:=hg.wf (p*10+1) br;have ab:=hb.wf (p*10+1) Du;generalize (wf m (p*10+1) br).2=m1 at *;obtain ⟨b1,b2⟩:=yj (m:=m1) (i:=p*10) (bs:=(bh p).bytes) (by omega) (by omega) (Rec.di _) a2;have b3:(wf m1 (p*10) (bh p).bytes).1=0:=by rw [b1]
 obtain ⟨b4,b5,b6⟩:=ud ag (by omega) (by omega) (Rec.di _) b3;have hn:∀j,(wf m1 (p*10) (bh p).bytes).2.now j=if j=(p*10).toNat then (bh p).bytes else if j=(p*10+1).toNat then br else m.now j:=fun j=>by rw [b6,a6]
 refine ⟨b3,⟨ag.wf _ _,ab.wf _ (Rec.qK _),p0,p1,by rw [jB,a7];exact ll,.inl rfl,pD p0 p1,rfl,?_,?_⟩,b2,b4,by rw [jB,a7],hn⟩
 ·show gp ((wf m1 (p*10) (bh p).bytes).2.now (p*10+0).toNat)=_
  rw [hn,if_pos (by omega)];exact AH (pD p0 p1)
 ·intro r rA _
  have e2:(wf m1 (p*10) (bh p).bytes).2.now (p*10+(1-0)).toNat=br:=by
   rw [hn,if_neg (by omega),if_pos (by omega)]
  have mG:gp ((wf m1 (p*10) (bh p).bytes).2.now (p*10+(1-0)).toNat)=(r,0):=rA;rw [e2] at mG;exact absurd (by rw [mG]) Lx
def _root_.Go.Proofs.YtdldkkoplgkloaaGreat.bk.DS.base (m:DS):DS:={ m with waits:=[] }
theorem _root_.Go.Proofs.YtdldkkoplgkloaaGreat.bk.DS.Good.base {m:DS} (h:m.Good):m.base.Good:=⟨h.az,fun p hp=>absurd hp (by simp [DS.base]),h.BP,h.BO,h.n0,h.n1⟩
theorem _root_.Go.Proofs.YtdldkkoplgkloaaGreat.bk.DS.iU.base {m:DS} (h:m.iU):m.base.iU:=⟨h.az,fun p hp=>absurd hp (by simp [DS.base])⟩
end bP
namespace store


open Go.RowKit Go.Deep base obj mem sep bf bk record bP aU image bK bR
structure PP where
 log:sK
 s0:bC
 s1:bC
structure mT where
 O:Nat
 L:Nat
 S0:Nat
 S1:Nat
instance:Inhabited PP:=⟨⟨⟨0,Rec.zero⟩,bC.none,bC.none⟩⟩
instance:Inhabited mT:=⟨⟨0,0,0,0⟩⟩
def PP.slot (x:PP) (k:Int):bC:=if k=0 then x.s0 else x.s1
def PP.bx (x:PP) (k:Int) (s:bC):PP:=if k=0 then ⟨x.log,s,x.s1⟩ else ⟨x.log,x.s0,s⟩
def mT.slot (a:mT) (k:Int):Nat:=if k=0 then a.S0 else a.S1
def PP.ay (x:PP):Bool:=!(x.log.now.ax==x.log.now.aj)
def PP.sp (x:PP):Int:=1-x.log.now.aj
def ownRow (a:mT):List Value:=[.pointer (some ⟨a.L,0,none⟩),.pointer (some ⟨a.S0,0,none⟩),.pointer (some ⟨a.S1,0,none⟩)]
def BF (d:Nat) (p:Nat) (a:mT) (x:PP):aD:=dr [row a.O 102 (ownRow a),log a.L d p x.log.held x.log.now,slt a.S0 d p 0 x.s0,slt a.S1 d p 1 x.s1]
def fN (d:Nat) (al:List mT) (xs:List PP):List aD:=(List.range xs.length).map fun p=>BF d p (al.getD p default) (xs.getD p default)
def qm (al:List mT):List Value:=al.map fun a=>.pointer (some ⟨a.O,0,none⟩)
structure du where
 S:Nat
 bK:en
 AL:Option Addr
 cL:Nat
 al:List mT
def vH (ad:du) (t:aQ) (n:Nat):List Value:=[.int .i64 t.frame,.slice ad.bK.AP t.parts.length ad.bK.cP,.slice ad.bK.AW t.aC.length ad.bK.cW,.slice ad.bK.AC t.au.length ad.bK.cC,.int .i64 t.ay,.slice ad.AL n ad.cL]
def CY (ad:du) (t:aQ) (n:Nat):List aD:=[row ad.S 114 (vH ad t n),own 94 1 (.slice ad.AL n ad.cL) n (qm ad.al),DK ad.bK t]
def bL (ad:du) (t:aQ) (d:Nat) (m:DS) (xs:List PP):aD:=dr (CY ad t xs.length++[bU d m,dr (fN d ad.al xs),fact (ad.al.length=xs.length)])
section
variable {w0 w : World} {l : List aD}
theorem _root_.Go.Proofs.YtdldkkoplgkloaaGreat.sep.St.D9 {L:List aD} {P:aD} (h:St w0 w (dr L::l)) {k:Nat} (hk:L[k]?=some P):St w0 w (P::dr (L.eraseIdx k)::l):=by
 have h1:=h.fI;obtain ⟨aK,e⟩:=List.getElem?_eq_some_iff.1 hk;have h2:=h1.pick k (by rw [List.getElem?_append_left aK];exact hk);rw [List.eraseIdx_append_of_lt_length aK] at h2;exact (St.eR (h2.perm (List.perm_middle (a:=P) (l₁:=L.eraseIdx k) (l₂:=l)).symm)).swap
theorem _root_.Go.Proofs.YtdldkkoplgkloaaGreat.sep.St.Tk {L:List aD} {P:aD} {k:Nat} (h:St w0 w (P::dr (L.eraseIdx k)::l)) (hk:k < L.length):St w0 w (dr (L.set k P)::l):=by
 have h1:=h.swap.fI.perm (List.perm_middle (a:=P) (l₁:=L.eraseIdx k) (l₂:=l));refine St.eR (h1.perm ?_);have e:(L.set k P).eraseIdx k=L.eraseIdx k:=by rw [List.eraseIdx_set_eq]
 have h2:(L.set k P).Perm (P::L.eraseIdx k):=by
  have GD:k < (L.set k P).length:=by rw [List.length_set];exact hk
  have h3:L.set k P=(L.set k P).take k++(L.set k P)[k]::(L.set k P).drop (k+1):=by rw [←List.drop_eq_getElem_cons GD,List.take_append_drop]
  rw [←e,List.eraseIdx_eq_take_drop_succ]
  conv=>lhs;rw [h3]
  rw [List.getElem_set_self];exact List.perm_middle
 exact ((h2.append_right l).trans (by exact List.Perm.refl _)).symm
theorem NF (d:Nat) (al:List mT) (xs:List PP):(fN d al xs).length=xs.length:=by simp [fN]
theorem DZ {d:Nat} {al:List mT} {xs:List PP} {p:Nat} (hp:p < xs.length):(fN d al xs)[p]?=some (BF d p (al.getD p default) (xs.getD p default)):=by
 simp [fN,hp]
theorem ND {d:Nat} {al:List mT} {xs:List PP} {p:Nat} (hp:p < xs.length) (x:PP):(fN d al xs).set p (BF d p (al.getD p default) x)=fN d al (xs.set p x):=by
 refine List.ext_getElem? fun i=>?_;rw [List.getElem?_set];by_cases hi:p=i
 ·subst hi;rw [if_pos rfl,if_pos (by simp [fN,hp]),DZ (by simpa using hp)];simp [hp]
 ·rw [if_neg hi];simp only [fN,List.length_set,List.getElem?_map];by_cases h2:i < xs.length
  ·simp [h2,hi]
  ·simp [h2]
def vw (ad:du) (t:aQ) (d:Nat) (m:DS) (n p:Nat) (a:mT) (x:PP) (rest:List aD):List aD :=
 [row a.O 102 (ownRow a),log a.L d p x.log.held x.log.now,slt a.S0 d p 0 x.s0,slt a.S1 d p 1 x.s1,row ad.S 114 (vH ad t n),own 94 1 (.slice ad.AL n ad.cL) n (qm ad.al),DK ad.bK t,bU d m]++rest
theorem ji {ad:du} {t:aQ} {d:Nat} {m:DS} {xs:List PP} (h:St w0 w (bL ad t d m xs::l)) {p:Nat} (hp:p < xs.length) :
  St w0 w (vw ad t d m xs.length p (ad.al.getD p default) (xs.getD p default) (dr ((fN d ad.al xs).eraseIdx p)::fact (ad.al.length=xs.length)::l)):=by
 have h1:=h.fI;simp only [CY,List.cons_append,List.nil_append] at h1;have h2:=((h1.pick 4 rfl).D9 (DZ hp)).fI;refine h2.perm ?_;simp only [vw,List.cons_append,List.nil_append,List.eraseIdx_cons_succ,List.eraseIdx_cons_zero];refine .cons _ (.cons _ (.cons _ (.cons _ ?_)));exact (List.perm_middle (l₁:=[_,_,_,_]) (l₂:=_)).symm
theorem CV {ad:du} {t:aQ} {d:Nat} {m m':DS} {xs:List PP} {p:Nat} (hp:p < xs.length) {x:PP} (h:St w0 w (vw ad t d m' xs.length p (ad.al.getD p default) x (dr ((fN d ad.al xs).eraseIdx p)::fact (ad.al.length=xs.length)::l))) :
  St w0 w (bL ad t d m' (xs.set p x)::l):=by
 have h1:St w0 w ([row (ad.al.getD p default).O 102 (ownRow (ad.al.getD p default)),log (ad.al.getD p default).L d p x.log.held x.log.now,slt (ad.al.getD p default).S0 d p 0 x.s0,slt (ad.al.getD p default).S1 d p 1 x.s1]++(dr ((fN d ad.al xs).eraseIdx p)::row ad.S 114 (vH ad t xs.length)::own 94 1 (.slice ad.AL xs.length ad.cL) xs.length (qm ad.al)::DK ad.bK t::bU d m'::fact (ad.al.length=xs.length)::l)):=by
  refine h.perm ?_;simp only [vw,List.cons_append,List.nil_append];refine .cons _ (.cons _ (.cons _ (.cons _ ?_)));exact (List.perm_middle (l₁:=[_,_,_,_]) (l₂:=_))
 have h2:St w0 w (BF d p (ad.al.getD p default) x::_):=St.eR h1;have h3:=h2.Tk (by rw [NF];exact hp);rw [ND hp] at h3;refine St.eR (h3.perm ?_);simp only [CY,List.cons_append,List.nil_append,List.length_set];exact (List.perm_middle (l₁:=[_,_,_,_]) (l₂:=_)).symm
end
end store
namespace store


open Go.RowKit Go.Deep base obj mem sep bf bk record bP aU image bK bR
theorem Ns (r:Rec) (w:World):(Instr.field 35 r.val 2).run Tryz.prog w=.ok (.int .i64 r.ax) w:=by kernel_rfl
theorem UU (r:Rec) (w:World):(Instr.field 35 r.val 3).run Tryz.prog w=.ok (.int .i64 r.aj) w:=by kernel_rfl
section
variable {w0 w : World} {l : List aD}
theorem Sy {O L d:Nat} {a1 a2:Value} {part held:Int} {r:Rec} (h:St w0 w (row O 102 [.pointer (some ⟨L,0,none⟩),a1,a2]::log L d part held r::l)) :
  Calls Tryz.prog 44 #[.pointer (some ⟨O,0,none⟩)] w fun e w'=>e=.returned (.bool (!(r.ax==r.aj)))∧Below w.heap.size w w':=by
 have HL:=aa (fun (w':World) (hb:Below w.heap.size w w')=>ox ((h.below hb).swap));have HR:=aa (fun (w':World) (hb:Below w.heap.size w w')=>(And.intro (((h.below hb).row.1).cell 0) (h.below hb).row.1.lt:w'.cell? ⟨O,0,none⟩=some (.pointer (some ⟨L,0,none⟩))∧O < w'.heap.size));have r2:=Ns r;have r3:=UU r;generalize r.val=rv at *;generalize r.ax=ra,r.aj=rc at *;clear h;go_enter Tryz.func44,Tryz.ntmps44;go_wp2_with fail;refine eh (fun w'=>w'.cell? ⟨O,0,none⟩=some (.pointer (some ⟨L,0,none⟩))∧O < w'.heap.size) (by kernel_rfl) (HR.o w.drew (Below.refl w.heap.size w).drew) (fun bQ=>?_);(refine ai 0 ?_;(try simp only [af,ae,ah,Act.put,aq,ak,ao]));(refine ai 1 ?_;(try simp only [af,ae,ah,Act.put,aq,ak,ao]));(refine ai 2 ?_;(try simp only [af,ae,ah,Act.put,aq,ak,ao]));(refine ai 3 ?_;(try simp only [af,ae,ah,Act.put,aq,ak,ao]));(refine ai 6 ?_;(try simp only [af,ae,ah,Act.put,aq,ak,ao]));(refine ai 7 ?_;(try simp only [af,ae,ah,Act.put,aq,ak,ao]));(refine ai 8 ?_;(try simp only [af,ae,ah,Act.put,aq,ak,ao]));(refine ai 9 ?_;(try simp only [af,ae,ah,Act.put,aq,ak,ao]));(refine dV 4 ?_;(try simp only [af,ae,ah]);go_simp);refine (HL.o _ (Below.refl w.heap.size w).drew).mono ?_;rintro e w2 ⟨rfl,hb⟩;have aO:=aa ((Below.refl w.heap.size w).drew.trans hb);clear hb;dsimp only;(refine cG (HR.o w2 aO.o) (fun bQ=>?_);(try simp only [af,ae,ah,Act.put,aq,ak,ao]));(refine ai 5 ?_;(try simp only [af,ae,ah,Act.put,aq,ak,ao]));(refine dV 10 ?_;(try simp only [af,ae,ah]);go_simp);refine (HL.o w2 aO.o).mono ?_;rintro e w3 ⟨rfl,hb⟩;have bD:=aa (aO.o.trans (hb.mono aO.o.size));clear hb;dsimp only;(refine cG (HR.o w3 bD.o) (fun bQ=>?_);(try simp only [af,ae,ah,Act.put,aq,ak,ao]));(refine ai 11 ?_;(try simp only [af,ae,ah,Act.put,aq,ak,ao]));(refine ai 12 ?_;(try simp only [af,ae,ah,Act.put,aq,ak,ao]));(refine ai 13 ?_;(try simp only [af,ae,ah,Act.put,aq,ak,ao]));refine dW (by kernel_rfl) ?_;go_wp2_with fail;go_ret;exact ⟨rfl,bD.o⟩
theorem SC {O L d:Nat} {s0 s1:Nat} {part held:Int} {r:Rec} (hr:r.aj=0∨r.aj=1) (h:St w0 w (row O 102 [.pointer (some ⟨L,0,none⟩),.pointer (some ⟨s0,0,none⟩),.pointer (some ⟨s1,0,none⟩)]::log L d part held r::l)) :
  Calls Tryz.prog 47 #[.pointer (some ⟨O,0,none⟩)] w fun e w'=>e=.returned (.pointer (some ⟨if 1-r.aj=0 then s0 else s1,0,none⟩))∧Below w.heap.size w w':=by
 have HL:=aa (fun (w':World) (hb:Below w.heap.size w w')=>ox ((h.below hb).swap));have HR:=aa (fun (w':World) (hb:Below w.heap.size w w')=>(⟨(h.below hb).row.1.cell 0,(h.below hb).row.1.cell 1,(h.below hb).row.1.cell 2,(h.below hb).row.1.lt⟩:w'.cell? ⟨O,0,none⟩=some (.pointer (some ⟨L,0,none⟩))∧w'.cell? ⟨O,1,none⟩=some (.pointer (some ⟨s0,0,none⟩))∧w'.cell? ⟨O,2,none⟩=some (.pointer (some ⟨s1,0,none⟩))∧O < w'.heap.size));have r3:=UU r;generalize r.val=rv at *;clear h;rcases hr with hr|hr
 all_goals
  rw [hr] at r3 ⊢;have pR:IntKind.i64.wrap 0=0:=by decide
  have aJ:IntKind.i64.wrap 1=1:=by decide
  clear hr;go_enter Tryz.func47,Tryz.ntmps47;go_wp2_with fail;refine eh (fun w'=>w'.cell? ⟨O,0,none⟩=some (.pointer (some ⟨L,0,none⟩))∧w'.cell? ⟨O,1,none⟩=some (.pointer (some ⟨s0,0,none⟩))∧w'.cell? ⟨O,2,none⟩=some (.pointer (some ⟨s1,0,none⟩))∧O < w'.heap.size) (by kernel_rfl) (HR.o w.drew (Below.refl w.heap.size w).drew) (fun bQ=>?_);(refine ai 0 ?_;(try simp only [af,ae,ah,Act.put,aq,ak,ao]));(refine ai 1 ?_;(try simp only [af,ae,ah,Act.put,aq,ak,ao]));(refine ai 2 ?_;(try simp only [af,ae,ah,Act.put,aq,ak,ao]));(refine ai 3 ?_;(try simp only [af,ae,ah,Act.put,aq,ak,ao]));(refine ai 4 ?_;(try simp only [af,ae,ah,Act.put,aq,ak,ao]));(refine ai 8 ?_;(try simp only [af,ae,ah,Act.put,aq,ak,ao]));(refine ai 9 ?_;(try simp only [af,ae,ah,Act.put,aq,ak,ao]));(refine dV 5 ?_;(try simp only [af,ae,ah]);go_simp);refine (HL.o _ (Below.refl w.heap.size w).drew).mono ?_;rintro e w2 ⟨rfl,hb⟩;have aO:=aa ((Below.refl w.heap.size w).drew.trans hb);clear hb;dsimp only;(refine cG (HR.o w2 aO.o) (fun bQ=>?_);(try simp only [af,ae,ah,Act.put,aq,ak,ao]));(refine ai 6 ?_;(try simp only [af,ae,ah,Act.put,aq,ak,ao]));(refine ai 7 ?_;(try simp only [af,ae,ah,Act.put,aq,ak,ao]));(refine ai 10 ?_;(try simp only [af,ae,ah,Act.put,aq,ak,ao]));(refine ai 11 ?_;(try simp only [af,ae,ah,Act.put,aq,ak,ao]));(refine ai 12 ?_;(try simp only [af,ae,ah,Act.put,aq,ak,ao]));refine dW (by kernel_rfl) ?_;go_wp2_with fail;go_ret;exact ⟨rfl,aO.o⟩
theorem ux {S n cL:Nat} {AL:Option Addr} {c0 c1 c2 c3 c4:Value} (h:Row w S 114 [c0,c1,c2,c3,c4,.slice AL n cL]) (q:Int) (hq:q < 0∨(n:Int)≤q) :
  Calls Tryz.prog 42 #[.pointer (some ⟨S,0,none⟩),.int .i64 q] w fun e w'=>e=.returned (.tuple #[.pointer none,.int .i64 3])∧w'=w:=by
 have z5:w.cell? ⟨S,5,none⟩=some (.slice AL n cL):=h.cell 5;have lS:=h.lt;clear h;by_cases h0:q < 0
 ·go_enter Tryz.func42,Tryz.ntmps42;go_wp2_with fail;go_ret2;exact ⟨rfl,rfl⟩
 ·have h1:(n:Int)≤q:=by omega
  go_enter Tryz.func42,Tryz.ntmps42;go_wp2_with fail;go_ret2;exact ⟨rfl,rfl⟩
theorem uy {S n cL:Nat} {AL:Option Addr} {c0 c1 c2 c3 c4:Value} {al:List mT} (h:Row w S 114 [c0,c1,c2,c3,c4,.slice AL n cL]) (hs:Sl w w.heap.size 1 AL n (qm al)) (J6:al.length=n) (p:Nat) (hp:p < n) :
  Calls Tryz.prog 42 #[.pointer (some ⟨S,0,none⟩),.int .i64 p] w fun e w'=>e=.returned (.tuple #[.pointer (some ⟨(al.getD p default).O,0,none⟩),.int .i64 0])∧w'=w:=by
 have z5:w.cell? ⟨S,5,none⟩=some (.slice AL n cL):=h.cell 5;have lS:=h.lt;obtain ⟨b,off,rfl,cy,hc⟩:=hs.2 (by omega);have c1:w.cell? ⟨b,off+p,none⟩=some (.pointer (some ⟨(al.getD p default).O,0,none⟩)):=hc p _ (by simp [qm,show p < al.length by omega]);generalize (al.getD p default).O=O at *;have k0:¬(p:Int) < 0:=by omega
 have k1:¬(n:Int)≤(p:Int):=by omega
 have k2:(0:Int)≤(p:Int):=by omega
 have k3:(p:Int) < (n:Int):=by omega
 clear h hs hc;go_enter Tryz.func42,Tryz.ntmps42;go_wp2_with fail;go_ret2;exact ⟨rfl,rfl⟩
def ia (xs:List PP) (q:Int):Int:=if q < 0∨(xs.length:Int)≤q then 3 else if (xs.getD q.toNat default).ay then 18 else 0
theorem WZ {S n cL:Nat} {AL:Option Addr} {c0 c1 c2 c3 c4:Value} (h:Row w S 114 [c0,c1,c2,c3,c4,.slice AL n cL]) (q:Int) (hq:q < 0∨(n:Int)≤q) :
  Calls Tryz.prog 49 #[.pointer (some ⟨S,0,none⟩),.int .i64 q] w fun e w'=>e=.returned (.tuple #[.pointer none,.int .i64 3])∧w'=w:=by
 have HP:=aa (ux h q hq);clear h hq;go_enter Tryz.func49,Tryz.ntmps49;go_wp2_with fail;refine HP.o.mono ?_;rintro e w' ⟨rfl,rfl⟩;go_wp2_with fail;go_ret2;exact ⟨rfl,rfl⟩
theorem Xa {S n cL:Nat} {AL:Option Addr} {c0 c1 c2 c3 c4:Value} {al:List mT} (h:Row w S 114 [c0,c1,c2,c3,c4,.slice AL n cL]) (hs:Sl w w.heap.size 1 AL n (qm al)) (J6:al.length=n) (p:Nat) (hp:p < n) (b:Bool)
  (ht:Calls Tryz.prog 44 #[.pointer (some ⟨(al.getD p default).O,0,none⟩)] w fun e w'=>e=.returned (.bool b)∧Below w.heap.size w w') :
  Calls Tryz.prog 49 #[.pointer (some ⟨S,0,none⟩),.int .i64 p] w fun e w'=>e=.returned (.tuple #[.pointer (some ⟨(al.getD p default).O,0,none⟩),.int .i64 (if b then 18 else 0)])∧Below w.heap.size w w':=by
 have HP:=aa (uy h hs J6 p hp);have HT:=aa ht;generalize (al.getD p default).O=O at *;clear h hs ht;cases b with
 | true =>
   go_enter Tryz.func49,Tryz.ntmps49;go_wp2_with fail;refine HP.o.mono ?_;rintro e w' ⟨rfl,rfl⟩;go_wp2_with fail;refine HT.o.mono ?_;rintro e w2 ⟨rfl,hb⟩;have HB:=aa hb;clear hb;go_wp2_with fail;go_ret2;exact ⟨rfl,HB.o⟩
 | false =>
   go_enter Tryz.func49,Tryz.ntmps49;go_wp2_with fail;refine HP.o.mono ?_;rintro e w' ⟨rfl,rfl⟩;go_wp2_with fail;refine HT.o.mono ?_;rintro e w2 ⟨rfl,hb⟩;have HB:=aa hb;clear hb;go_wp2_with fail;go_ret2;exact ⟨rfl,HB.o⟩
end
end store
end Go.Proofs.YtdldkkoplgkloaaGreat
