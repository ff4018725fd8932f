/- PROVED HERE: lemmas of the law. CONDITIONS: each names its own. -/
import Derived.BigQuiet
import Derived.Deep.CutBlock
import Derived.Deep.DeepCutAuto
import Derived.Deep.QuietTactic
import Derived.Deep.RegionHeld3
import Derived.IntWalk
import Derived.Test.YtdldkkoplgkloaaGreatPa0
import Derived.Test.YtdldkkoplgkloaaGreatPa13
import Derived.Test.YtdldkkoplgkloaaGreatPa18
import Derived.Test.YtdldkkoplgkloaaGreatPa21
namespace Go.Proofs.YtdldkkoplgkloaaGreat
set_option linter.unusedVariables false
set_option linter.unusedSimpArgs false
set_option maxRecDepth 100000
set_option maxHeartbeats 32000000
open Go.Value renaming int → ae
open Go.IntKind renaming i64 → aa
namespace bD
open Go.RowKit base obj mem bC aX record sep aW
section
variable {part:Int} {l:List aI} {d:Nat} {w w0:World}
def jF (part c:Int) (bs:List Int) (x:Rec×Int):Rec×Int:=if (dS bs).2=0∧(dS bs).1.part=part∧x.1.seq < (dS bs).1.seq then ((dS bs).1,c) else x
def dO (m:DS) (part:Int):Nat→Rec×Int
 | 0=>(Rec.zero,-1)
 | k+1=>jF part k (m.now (part*10+k).toNat) (dO m part k)
def aa8 (w0:World) (l:List aI) (d:Nat) (m:DS) (part:Int) (e:Ending) (w':World):Prop :=
 ((dO m part 2).2 < 0→e=.returned (.tuple #[.pointer none,ae aa 5])∧St w0 w' (bE d m::l))∧
 (¬(dO m part 2).2 < 0→∃g,e=.returned (.tuple #[.pointer (some ⟨g,0,none⟩),ae aa 0])∧St w0 w' (log g d part (dO m part 2).2 (dO m part 2).1::bE d m::l))
theorem GC {n:Nat} (h:roomFor part n=true):0≤part∧part < 4∧part*10+1 < (n:Int):=by
 unfold roomFor at h;simpa using h
theorem aci (a b:Int) (w:World):(Instr.index 131 (.agg #[ae aa a,ae aa b]) (ae aa 0)).run Tryz.prog w=.ok (ae aa a) w:=by kernel_rfl
theorem ach (a b:Int) (w:World):(Instr.index 131 (.agg #[ae aa a,ae aa b]) (ae aa 1)).run Tryz.prog w=.ok (ae aa b) w:=by kernel_rfl
theorem rL {m:DS} (h:St w0 w (bE d m::l)) (part:Int) (hr:roomFor part m.ar.length=true) (hd:m.down=false) (fF:m.waits.length≤1000) (cG:∀i,bn (m.now i)) (hlen:∀i,i < m.ar.length→(m.now i).length=64) :
  Calls Tryz.prog 70 #[.pointer (some ⟨d,0,none⟩),ae aa part] w (aa8 w0 l d m part):=by
 have H:=af (ru h part);have HR:=af hr;have HD:=af hd;have HY:=af cG;have HLE:=af hlen;obtain ⟨ug,hp4,gH⟩:=GC hr;have i0:=aci;have i1:=ach;clear h hr hd cG hlen;go_enter Tryz.func70,Tryz.ntmps70;go_wp2_with fail;refine H.o.mono ?_;rintro e w1 hb;obtain ⟨g,rfl,h1⟩:=hb.1 HR.o;obtain ⟨c0,c1,c2,c3,c4,lg⟩:=rj h1;have H1:=af h1;clear hb h1;go_wp2_with fail;go_loopw [27] (fun i wr=>∃k:Nat,k≤2∧i=ae aa k∧St w0 wr (log g d part (dO m part k).2 (dO m part k).1::bE d m::l)) (fun i _=>2-(intOf i).toNat)
 case atStart=>exact ⟨0,by omega,rfl,H1.o⟩
 case round =>
  obtain ⟨k,hk,rfl,hi⟩:=hrel;have HI:=af hi;clear hi;obtain ⟨x,hx⟩:=xE (dO m part k);have HX:=af hx;rw [←hx] at HI;clear hx;by_cases aH:k < 2
  ·have df:(k:Int) < 2:=by omega
   have ik:∀w:World,(Instr.index 131 (.agg #[ae aa (part*10),ae aa (part*10+1)]) (ae aa (k:Int))).run Tryz.prog w=.ok (ae aa (part*10+k)) w:=by
    have dy:k=0∨k=1:=by omega
    intro w;rcases dy with rfl|rfl
    ·rw [show ((0:Nat):Int)=0 from rfl,Int.add_zero];exact i0 _ _ w
    ·exact i1 _ _ w
   have mM:(0:Int)≤(k:Int):=by omega
   obtain ⟨n,hn⟩:∃n:Nat,n=(part*10+k).toNat:=⟨_,rfl⟩
   obtain ⟨bs,gF⟩:=xE (m.now n);obtain ⟨gr,sU⟩:=xE (dS bs)
   have lK:=af (show dO m part (k+1)=if gr.2=0∧gr.1.part=part∧x.1.seq < gr.1.seq then (gr.1,(k:Int)) else x by
    rw [sU,gF,hn,HX.o];rfl)
   have px:=af (Al HI.o.swap (part*10+k) n (by omega) (by omega) HD.o (by omega));rw [←gF] at px;have ch:=af (show bs.length=64 by rw [gF];exact HLE.o n (by omega));have lM:=af (show bn bs by rw [gF];exact HY.o n);have Gp:=af sU;clear gF sU hn i0 i1 c0 c1 c2 c3 c4 lg;go_wp2_with fail;refine px.o.mono ?_;rintro e w2 ⟨b,rfl,h2⟩;have H2:=af h2;have iy:=af (qt h2.row.1 ch.o);clear h2;go_wp2_with fail;refine (record.get_at _ _ 64 64 bs ch.o (by omega) lM.o iy.o).mono ?_;rintro e w3 ⟨rfl,hb⟩;rw [←Gp.o];have H3:=af ((H2.o.below hb).pick 2 rfl);clear hb;obtain ⟨gr,re⟩:=gr;dsimp only;rw [Rec.ng];obtain ⟨w4,dW⟩:=xE (w3.alloc (.cells #[ae aa gr.part,ae aa gr.seq,ae aa gr.au,ae aa gr.aj,ae aa gr.left,ae aa gr.bad] 35));have H4:=af (show St w0 w4 _ by rw [dW];exact H3.o.below ((Below.refl _ _).alloc (Nat.le_refl _) (.cells #[ae aa gr.part,ae aa gr.seq,ae aa gr.au,ae aa gr.aj,ae aa gr.left,ae aa gr.bad] 35)));have py:=af (show Row w4 w3.heap.size 35 gr.cells.toList by rw [dW];exact Row.new w3 _ _);have kL:=af dW;clear dW;go_wp2_with fail;rw [←kL.o];obtain ⟨q0,q1,q2,q3,q4,q5⟩:=Rec.read py.o;obtain ⟨t0,t1,t2,t3,t4,t5⟩:=GN H4.o;have l3:=py.o.lt;have l4:=H4.o.row.1.lt;by_cases he:re=0
   ·subst he;by_cases hp:gr.part=part
    ·have uh:(gr.part==part)=true:=by simpa using hp
     by_cases yU:x.1.seq < gr.seq
     ·have acp:decide (x.1.seq < gr.seq)=true:=by simpa using yU
      have zr:=af (lK.o.trans (if_pos ⟨rfl,hp,yU⟩));clear hp yU;go_quiet (fail);have H5:=af (H4.o.drewN nq);obtain ⟨cs,cY⟩:=xE (gi d part (part*10) (part*10+1) x.2 gr);have H6:=af (H5.o.setRow cs);have f4:=H6.o.row.1.frozen 4;have c4:=H6.o.row.1.cell 4;have DD:cs[4]?=some (ae aa x.2):=by rw [cY];rfl
      rw [DD] at c4;have nZ:=af (show (gi d part (part*10) (part*10+1) x.2 x.1).take 5++gr.cells.toList++(gi d part (part*10) (part*10+1) x.2 x.1).drop (5+gr.cells.size)=cs by rw [cY];rfl);have H7:=af (show St w0 _ (log g d part k gr::_) by rw [cY] at H6;exact H6.o.set 4 (ae aa (k:Int)));have MS:=af (show (Tryz.prog.info? 35).map (·.size)=some gr.cells.size from by kernel_rfl);have HE:=af (show 5+gr.cells.size≤(gi d part (part*10) (part*10+1) x.2 x.1).length from Nat.le_refl 11);have HO:=af (yF gr);rw [←cY] at H7;clear cY DD;go_wp2_with (refine aB rfl 35 (.tmp 68) (.tmp 65) rfl g 5 gr.cells rfl rfl H5.o.row.1 MS.o HE.o HO.o cs nZ.o ?_);go_roundw;case rel=>exact ⟨k+1,by omega,by go_num,by rw [zr.o];exact (H7.o.pick 1 rfl).drop⟩
      case measure=>simp [intOf]<;>omega
     ·have acp:decide (x.1.seq < gr.seq)=false:=by simpa using yU
      have zr:=af (lK.o.trans (if_neg fun h=>yU h.2.2));clear hp yU;go_quiet (fail);have H5:=af (H4.o.drewN nq);go_wp2_with fail;go_roundw;case rel=>exact ⟨k+1,by omega,by go_num,by rw [zr.o];exact (H5.o.pick 1 rfl).drop⟩
      case measure=>simp [intOf]<;>omega
    ·have uh:(gr.part==part)=false:=by simpa using hp
     have zr:=af (lK.o.trans (if_neg fun h=>hp h.2.1));clear hp;go_quiet (fail);have H5:=af (H4.o.drewN nq);go_wp2_with fail;go_roundw;case rel=>exact ⟨k+1,by omega,by go_num,by rw [zr.o];exact (H5.o.pick 1 rfl).drop⟩
     case measure=>simp [intOf]<;>omega
   ·have he':(re==0)=false:=by simpa using he
    have zr:=af (lK.o.trans (if_neg fun h=>he h.1));clear he;go_quiet (fail);have H5:=af (H4.o.drewN nq);go_wp2_with fail;go_roundw;case rel=>exact ⟨k+1,by omega,by go_num,by rw [zr.o];exact (H5.o.pick 1 rfl).drop⟩
    case measure=>simp [intOf]<;>omega
  ·obtain rfl:k=2:=by omega
   obtain ⟨t0,t1,t2,t3,t4,l4⟩:=rj HI.o;clear i0 i1 c0 c1 c2 c3 c4 lg hk;by_cases hh:x.2 < 0
   ·go_wp2_with fail;go_ret2;rw [HX.o] at hh;exact ⟨fun _=>⟨rfl,HI.o.drop⟩,fun h=>absurd hh h⟩
   ·go_wp2_with fail;go_ret2;rw [HX.o] at hh;exact ⟨fun h=>absurd h (by omega),fun _=>⟨_,rfl,by rw [←HX.o];exact HI.o⟩⟩
theorem nN {g:Nat} {held:Int} {r:Rec} (h:St w0 w (log g d part held r::l)) :
  Calls Tryz.prog 43 #[.pointer (some ⟨g,0,none⟩)] w fun e w'=>e=.returned r.val∧Below w.heap.size w w':=by
 obtain ⟨t0,t1,t2,t3,t4,t5⟩:=GN h;have lg:=h.row.1.lt;clear h;go_enter Tryz.func43,Tryz.ntmps43;go_wp2_with fail;refine bodyPost_ret (results_cell_row rfl _ _ w.heap.size _ _ _ _ rfl (heap_alloc_new _ _) Tryz.underlying35 rfl (by kernel_rfl)) rfl ?_;exact ⟨rfl,(Below.refl _ _).alloc (Nat.le_refl _) _⟩
end
end bD
namespace bD
open Go.RowKit base obj mem bC aX record sep aW bytes
section
variable {m:DS} {part:Int} {l:List aI} {d:Nat} {w w0:World}
def bd (part:Int):Rec:=⟨part,1,0,0,0,0⟩
theorem qq (h0:0≤part) (h1:part < 4):(bd part).right=true:=by
 have hp:part=0∨part=1∨part=2∨part=3:=by omega
 rcases hp with rfl|rfl|rfl|rfl<;>decide
def iH (m:DS) (part:Int):Int×DS:=if (wf m (part*10+1) bt).1=0 then wf (wf m (part*10+1) bt).2 (part*10) (bd part).bytes else wf m (part*10+1) bt
def Uf (w0:World) (l:List aI) (d:Nat) (m:DS) (part:Int) (e:Ending) (w':World):Prop :=
 ((iH m part).1=0→∃g,e=.returned (.tuple #[.pointer (some ⟨g,0,none⟩),ae aa 0])∧St w0 w' (log g d part 0 (bd part)::bE d (iH m part).2::l))∧
 ((iH m part).1≠0→e=.returned (.tuple #[.pointer none,ae aa (iH m part).1])∧St w0 w' (bE d (iH m part).2::l))
theorem Uv (m:DS) (i:Int) (bs:List Int):(wf m i bs).2.waits.length≤m.waits.length+1:=by
 have h:=Dg m i bs;unfold wf;split
 ·unfold DS.flush;split
  ·exact Nat.zero_le _
  ·rw [DS.fN];exact h
 ·exact h
theorem Fq (w:World):(Instr.makeSlice 24 (ae aa 64) (ae aa 64)).run Tryz.prog w=.ok (.slice (some ⟨w.heap.size,0,none⟩) 64 64) (w.alloc (.cells (Array.replicate 64 (.int .u8 0)) 5)):=by
 have h:=vJ 64 (by decide) w;rw [show ((64:Nat):Int)=64 from rfl] at h;rw [h];rfl
theorem Te (h:St w0 w (bE d m::l)) (part:Int) (hr:roomFor part m.ar.length=true) (fF:m.waits.length≤900) :
  Calls Tryz.prog 82 #[.pointer (some ⟨d,0,none⟩),ae aa part] w (Uf w0 l d m part):=by
 have H:=af (ru h part);have HR:=af hr;obtain ⟨ug,hp4,gH⟩:=GC hr;have qB:=Fq;have JF:=af (qq ug hp4);have br:=af (Uv m (part*10+1) bt);have HQ:=af (show iH m part=if (wf m (part*10+1) bt).1=0 then wf (wf m (part*10+1) bt).2 (part*10) (bd part).bytes else wf m (part*10+1) bt from rfl);obtain ⟨x,hx⟩:=xE (wf m (part*10+1) bt);rw [←hx] at HQ br;obtain ⟨y,hy⟩:=xE (wf x.2 (part*10) (bd part).bytes);rw [←hy] at HQ;have HX:=af hx;have HYY:=af hy;clear h hr hx hy;obtain ⟨ex,mx⟩:=x;obtain ⟨ey,my⟩:=y;simp only at HQ br HX HYY;go_enter Tryz.func82,Tryz.ntmps82;go_wp2_with fail;refine H.o.mono ?_;rintro e w1 hb;obtain ⟨g,rfl,h1⟩:=hb.1 HR.o;have H1:=af h1;clear hb h1;obtain ⟨w2,eh⟩:=xE (w1.alloc (.cells #[ae aa part,ae aa 1,ae aa 0,ae aa 0,ae aa 0,ae aa 0] 35));have H2:=af (show St w0 w2 (row w1.heap.size 35 (bd part).cells.toList::_) by rw [eh];exact H1.o.new _ _);have jf:=af eh;clear eh;go_wp2_with fail;rw [←jf.o];refine (Nv (bd part) _ JF.o).mono ?_;rintro e w3 ⟨v,rfl,ho,hb⟩;have H3:=af ((H2.o.cX hb ho).pick 2 rfl);obtain ⟨A,c,e2,hc,_⟩:=aD ho;subst e2;clear ho hb;have HZ:=af (H3.o.new 5 (Array.replicate 64 (.int .u8 0)));have HP:=af (kf ((HZ.o.pick 4 rfl).pick 2 rfl) 1 (part*10+1) (.inr ⟨rfl,rfl⟩) (some ⟨w3.heap.size,0,none⟩) 64 64 bt rfl (qt HZ.o.row.1 rfl) (by omega));rw [←HX.o] at HP;go_wp2_with fail;refine HP.o.mono ?_;rintro e w4 ⟨rfl,h4⟩;have H4:=af h4;clear h4;by_cases he:ex=0
 ·subst he;have kd:=af (HQ.o.trans (if_pos rfl));have Ba:=af (Sl.bP (H4.o.pick 3 rfl).own);have pz:=af (kf H4.o 0 (part*10) (.inl ⟨rfl,rfl⟩) A 64 c (bd part).bytes (Rec.bY _) Ba.o (by have:=br.o;omega));rw [←HYY.o] at pz;go_wp2_with fail;refine pz.o.mono ?_;rintro e w5 ⟨rfl,h5⟩;have H5:=af h5;clear h5;by_cases he:ey=0
  ·subst he;have nJ:=af (kd.o);have HS:=af (H5.o.set 4 (ae aa 0)).drew;obtain ⟨q0,q1,q2,q3,q4,q5⟩:=Rec.read (r:=bd part) (H5.o.pick 4 rfl).row.1;obtain ⟨s0,s1,s2,s3,s4,s5⟩:=Rec.read (r:=bd part) ((H5.o.set 4 (ae aa 0)).pick 4 rfl).row.1;have f4:=H5.o.row.1.frozen 4;have c4:=H5.o.row.1.c4;have MS:=af (show (Tryz.prog.info? 35).map (·.size)=some (bd part).cells.size from by kernel_rfl);have HE:=af (show 5+(bd part).cells.size≤((gi d part (part*10) (part*10+1) (-1) Rec.zero).set 4 (ae aa 0)).length from Nat.le_refl 11);have HO:=af (yF (bd part));obtain ⟨cs,cY⟩:=xE (gi d part (part*10) (part*10+1) 0 (bd part));have nZ:=af (show ((gi d part (part*10) (part*10+1) (-1) Rec.zero).set 4 (ae aa 0)).take 5++(bd part).cells.toList++((gi d part (part*10) (part*10+1) (-1) Rec.zero).set 4 (ae aa 0)).drop (5+(bd part).cells.size)=cs by rw [cY];rfl);have H7:=af (show St w0 _ (log g d part 0 (bd part)::_) by have h:=HS.o.setRow cs;rw [cY] at h;exact h);rw [←cY] at H7;clear cY;go_wp2_with fail;refine fK [0,1,3,4] [[2,5,6,7,8],[5,2,6,7,8]] (by kernel_rfl) (by kernel_rfl) (fun _ _ _ _ _ h=>h) ?_;simp only [mU,pick,xG];iterate 4 still_step
   refine wpStill_nil ?_;refine ⟨?_,?_⟩
   all_goals
    go_wp2_with (refine aB rfl 35 (.tmp 47) (.tmp 43) rfl g 5 (bd part).cells rfl rfl HS.o.row.1 MS.o HE.o HO.o cs nZ.o ?_);go_ret2;refine ⟨fun _=>⟨g,rfl,?_⟩,fun h=>absurd (by rw [nJ.o]) h⟩;rw [nJ.o];exact ((((H7.o.pick 2 rfl).drop.pick 2 rfl).drop).pick 2 rfl).drop
  ·have b1:(ey != 0)=true:=by simpa using he
   have HE:=af he;clear he;go_wp2_with fail;go_ret2;refine ⟨fun h=>absurd (by rw [kd.o] at h;exact h) HE.o,fun _=>?_⟩;rw [kd.o];exact ⟨rfl,((((H5.o.drop.pick 1 rfl).drop.pick 1 rfl).drop).pick 1 rfl).drop⟩
 ·have b1:(ex != 0)=true:=by simpa using he
  have HE:=af he;have kd:=af (HQ.o.trans (if_neg he));clear he;go_wp2_with fail;go_ret2;refine ⟨fun h=>absurd (by rw [kd.o] at h;exact h) HE.o,fun _=>?_⟩;rw [kd.o];exact ⟨rfl,((((H4.o.drop.pick 1 rfl).drop.pick 1 rfl).drop).pick 1 rfl).drop⟩
def bq (part:Int) (now r:Rec):Rec:=⟨part,now.seq+1,r.au,r.aj,r.left,r.bad⟩
structure wU where
 held:Int
 now:Rec
def qk (m:DS) (part:Int) (s:wU) (r:Rec):Int×DS×wU :=
 if 4294967295≤s.now.seq then (4,m,s) else
 if (bq part s.now r).right then
  (if (wf m (part*10+(1-s.held)) (bq part s.now r).bytes).1=0 then (0,(wf m (part*10+(1-s.held)) (bq part s.now r).bytes).2,⟨1-s.held,bq part s.now r⟩)
   else ((wf m (part*10+(1-s.held)) (bq part s.now r).bytes).1,(wf m (part*10+(1-s.held)) (bq part s.now r).bytes).2,s))
 else (3,m,s)
theorem XZ {g:Nat} {s:wU} (h:St w0 w (log g d part s.held s.now::bE d m::l)) (hh:s.held=0∨s.held=1) (hq:0≤s.now.seq) (fF:m.waits.length≤900) (r:Rec) :
  Calls Tryz.prog 46 #[.pointer (some ⟨g,0,none⟩),r.val] w fun e w'=>e=.returned (ae aa (qk m part s r).1)∧St w0 w' (log g d part (qk m part s r).2.2.held (qk m part s r).2.2.now::bE d (qk m part s r).2.1::l):=by
 obtain ⟨held,now⟩:=s;simp only at h hh hq
 have HQ:=af (show qk m part ⟨held,now⟩ r=if 4294967295≤now.seq then (4,m,⟨held,now⟩) else if (bq part now r).right then
  (if (wf m (part*10+(1-held)) (bq part now r).bytes).1=0 then (0,(wf m (part*10+(1-held)) (bq part now r).bytes).2,⟨1-held,bq part now r⟩)
   else ((wf m (part*10+(1-held)) (bq part now r).bytes).1,(wf m (part*10+(1-held)) (bq part now r).bytes).2,⟨held,now⟩))
  else (3,m,⟨held,now⟩) from rfl)
 obtain ⟨x,hx⟩:=xE (wf m (part*10+(1-held)) (bq part now r).bytes);obtain ⟨nx,gp⟩:=xE (bq part now r);obtain ⟨z,hz⟩:=xE (qk m part ⟨held,now⟩ r);rw [←hx,←gp,←hz] at HQ;rw [←gp] at hx;rw [←hz];have HX:=af hx;have lK:=af gp;have HZ:=af hz;have HHH:=af hh;obtain ⟨w1,aF⟩:=xE (w.alloc (.cells #[ae aa r.part,ae aa r.seq,ae aa r.au,ae aa r.aj,ae aa r.left,ae aa r.bad] 35));have H1:=af (show St w0 w1 (log g d part held now::row w.heap.size 35 r.cells.toList::bE d m::l) by rw [aF];exact (h.new _ _).pick 1 rfl);have br:=af aF;clear hx gp hz aF h hh;obtain ⟨ex,mx⟩:=x;simp only at HQ HX;rw [Rec.ng];obtain ⟨c0,c1,c2,c3,c4,lg⟩:=rj H1.o;obtain ⟨t0,t1,t2,t3,t4,t5⟩:=GN H1.o;obtain ⟨q0,q1,q2,q3,q4,q5⟩:=Rec.read (H1.o.pick 1 rfl).row.1;have lr:=(H1.o.pick 1 rfl).row.1.lt;by_cases hf:4294967295≤now.seq
 ·have kd:=af (HQ.o.trans (if_pos hf));have hf':now.seq≥4294967295:=hf;go_enter Tryz.func46,Tryz.ntmps46
  go_upto_block 0 with (fail)
  rw [←br.o];go_wp2_with fail;go_ret;rw [kd.o];exact ⟨rfl,(H1.o.pick 1 rfl).drop⟩
 ·have hf':¬now.seq≥4294967295:=by omega
  have BM:0≤now.seq+1:=by omega
  have j8:now.seq≤4294967294:=by omega
  have kd:=af (HQ.o.trans (if_neg hf));clear hf
  have H2:=af (show St w0 _ (row w.heap.size 35 nx.cells.toList::log g d part held now::bE d m::l) by
   have h:=(((H1.o.pick 1 rfl).set 0 (ae aa part)).set 1 (ae aa (now.seq+1))).drew
   rw [lK.o];exact h)
  have rN:g≠w.heap.size:=H1.o.ne;have Fx:IntKind.i64.wrap (now.seq+1)=now.seq+1:=IntWalk.i64_in _ (by omega);have acy:w.heap.size≠(⟨g,1,none⟩:Addr).block:=rN.symm;have acx:w.heap.size≠(⟨g,6,none⟩:Addr).block:=rN.symm;have acz:w.heap.size≠g:=rN.symm;have fr0:=(H1.o.pick 1 rfl).row.1.frozen 0;have fr1:=(H1.o.pick 1 rfl).row.1.frozen 1;go_enter Tryz.func46,Tryz.ntmps46
  go_upto_block 0 with (fail)
  rw [←br.o];go_wp2_with fail
  go_region_held3 (fun w'=>w'.cell? ⟨g,1,none⟩=some (ae aa part)∧w'.cell? ⟨g,6,none⟩=some (ae aa now.seq)) (go_keep) (fail)
  obtain ⟨w2,eh⟩:∃w2,w2=((w1.setCell ⟨w.heap.size,0,none⟩ (ae aa part)).setCell ⟨w.heap.size,1,none⟩ (ae aa (now.seq+1))).drew:=⟨_,rfl⟩
  rw [←eh] at H2 ⊢;clear eh c0 c1 c2 c3 c4 lg t0 t1 t2 t3 t4 t5 q0 q1 q2 q3 q4 q5 lr fr0 fr1 Fx rN acy acx acz;obtain ⟨q0,q1,q2,q3,q4,q5⟩:=Rec.read H2.o.row.1;have lr:=H2.o.row.1.lt;have HV:=af (Rec.ng nx);cases hg:nx.right with
  | false =>
    have HG:=af hg;have nJ:=af (kd.o.trans (if_neg (by rw [hg];decide)));clear hg;go_wp2_with fail;rw [←HV.o];refine (Yd nx _ HG.o).mono ?_;rintro e w3 ⟨rfl,hb⟩;have H3:=af (H2.o.below hb);clear hb;go_wp2_with fail;go_ret;rw [nJ.o];exact ⟨rfl,H3.o.drop⟩
  | true =>
    have HG:=af hg;have nJ:=af (kd.o.trans (if_pos (by rw [hg])));clear hg;go_wp2_with fail;rw [←HV.o];refine (Nv nx _ HG.o).mono ?_;rintro e w3 ⟨v,rfl,ho,hb⟩;have H3:=af (((H2.o.cX hb ho).pick 3 rfl).pick 3 rfl);obtain ⟨A,c,e2,hc,_⟩:=aD ho;subst e2;clear ho hb;have Ba:=af (Sl.bP (H3.o.pick 2 rfl).own);obtain ⟨c0,c1,c2,c3,c4,lg⟩:=rj H3.o;have HH:=HHH.o;clear q0 q1 q2 q3 q4 q5 lr
    have HP:∃(c' i:Int),c'=1-held∧(c'=0∧i=part*10∨c'=1∧i=part*10+1)∧part*10+(1-held)=i:=by
     rcases HH with rfl|rfl
     ·exact ⟨1,part*10+1,by omega,.inr ⟨rfl,rfl⟩,by omega⟩
     ·exact ⟨0,part*10,by omega,.inl ⟨rfl,rfl⟩,by omega⟩
    obtain ⟨c',i,cZ,hci,hi⟩:=HP;rw [hi] at HX;have lH:-1≤held:=by omega
    have kb:held≤1:=by omega
    have xg:=af (kf H3.o c' i hci A 64 c nx.bytes (Rec.bY _) Ba.o (by omega));rw [←HX.o,cZ] at xg;have HC':=af cZ;clear hi hci HH cZ;go_wp2_with fail;refine xg.o.mono ?_;rintro e w5 ⟨rfl,h5⟩;have H5:=af h5;clear h5 c0 c1 c2 c3 c4 lg;by_cases he:ex=0
    ·subst he;have fH:=af (nJ.o.trans (if_pos rfl));have HS:=af (H5.o.set 4 (ae aa (1-held))).drew;obtain ⟨q0,q1,q2,q3,q4,q5⟩:=Rec.read (r:=nx) (H5.o.pick 3 rfl).row.1;obtain ⟨s0,s1,s2,s3,s4,s5⟩:=Rec.read (r:=nx) ((H5.o.set 4 (ae aa (1-held))).pick 3 rfl).row.1;have f4:=H5.o.row.1.frozen 4;have c4:=H5.o.row.1.c4;have MS:=af (show (Tryz.prog.info? 35).map (·.size)=some nx.cells.size from by kernel_rfl);have HE:=af (show 5+nx.cells.size≤((gi d part (part*10) (part*10+1) held now).set 4 (ae aa (1-held))).length from Nat.le_refl 11);have HO:=af (yF nx);obtain ⟨cs,cY⟩:=xE (gi d part (part*10) (part*10+1) (1-held) nx);have nZ:=af (show ((gi d part (part*10) (part*10+1) held now).set 4 (ae aa (1-held))).take 5++nx.cells.toList++((gi d part (part*10) (part*10+1) held now).set 4 (ae aa (1-held))).drop (5+nx.cells.size)=cs by rw [cY];rfl);have H7:=af (show St w0 _ (log g d part (1-held) nx::_) by have h:=HS.o.setRow cs;rw [cY] at h;exact h);rw [←cY] at H7;clear cY;go_wp2_with fail;refine fK [0,1,2,4,5] [[3,6,7,8,9],[6,3,7,8,9]] (by kernel_rfl) (by kernel_rfl) (fun _ _ _ _ _ h=>h) ?_;simp only [mU,pick,xG];iterate 5 still_step
     refine wpStill_nil ?_;refine ⟨?_,?_⟩
     all_goals
      go_wp2_with (refine aB rfl 35 (.tmp 58) (.tmp 54) rfl g 5 nx.cells rfl rfl HS.o.row.1 MS.o HE.o HO.o cs nZ.o ?_);go_ret;rw [fH.o];exact ⟨rfl,((H7.o.pick 2 rfl).drop.pick 2 rfl).drop⟩
    ·have b1:(ex != 0)=true:=by simpa using he
     have fH:=af (nJ.o.trans (if_neg he));clear he;go_wp2_with fail;go_ret;rw [fH.o];exact ⟨rfl,((H5.o.pick 2 rfl).drop.pick 2 rfl).drop⟩
end
end bD
namespace bD
open Go.RowKit base mem bC aX record
section
variable {m:DS} {c p:Int} {bs:List Int} {s:wU} {r:Rec}
structure kE (m:DS) (p:Int) (s:wU):Prop where
 bu:m.Good
 eQ:m.ia
 p0:0≤p
 p1:p < 4
 room:p*10+1 < (m.ar.length:Int)
 held:s.held=0∨s.held=1
 right:s.now.right=true
 part:s.now.part=p
 cur:dS (m.now (p*10+s.held).toNat)=(s.now,0)
 old:∀r,dS (m.now (p*10+(1-s.held)).toNat)=(r,0)→r.part=p→r.seq+s.held≤s.now.seq
theorem Ru (h:r.right=true):1≤r.seq∧r.seq≤4294967295:=(eu.iZ h).2.1
theorem Ff (h:r.right=true):0≤r.part∧r.part≤3:=(eu.iZ h).1
theorem Ib {x:Rec×Int} (h:dS bs=(r,0)) (hp:r.part=p) (hs:x.1.seq < r.seq):jF p c bs x=(r,c):=by
 unfold jF;rw [h,if_pos ⟨rfl,hp,hs⟩]
theorem Pq {x:Rec×Int} (h:∀r,dS bs=(r,0)→r.part=p→r.seq≤x.1.seq):jF p c bs x=x:=by
 unfold jF;rw [if_neg];rintro ⟨h1,h2,h3⟩;have:=h (dS bs).1 (by rw [←h1]) h2;omega
theorem Ve {x:Rec×Int} {n:Int} (hx:x.1.seq < n) (h:∀r,dS bs=(r,0)→r.part=p→r.seq < n):(jF p c bs x).1.seq < n:=by
 unfold jF;split
 ·rename_i h1
  exact h (dS bs).1 (by rw [←h1.1]) h1.2.1
 ·exact hx
theorem kE.open_ (h:kE m p s):dO m p 2=(s.now,s.held):=by
 have hs:=Ru h.right;have hg:=h.cur;show jF p 1 (m.now (p*10+1).toNat) (jF p 0 (m.now (p*10+0).toNat) (Rec.zero,-1))=_
 have ho:=h.old;rcases h.held with hh|hh
 ·rw [hh] at hg ho ⊢;rw [Ib (x:=(Rec.zero,-1)) hg h.part (by show (0:Int) < _;omega)];exact Pq fun r hr hp=>by have:=ho r hr hp;show r.seq≤s.now.seq;omega
 ·rw [hh] at hg ho ⊢;exact Ib hg h.part (Ve (by show (0:Int) < _;omega) fun r hr hp=>by have:=ho r hr hp;omega)
def oQ (now r:Rec):Rec×Int:=if 4294967295≤now.seq then (now,4) else if (bq now.part now r).right then (bq now.part now r,0) else (now,3)
theorem kE.next {m':DS} (h:kE m p s) {nx:Rec} (hr:nx.right=true) (hp:nx.part=p) (hq:nx.seq=s.now.seq+1) (hg:m'.Good) (hb:m'.ia) (hl:m'.ar.length=m.ar.length)
  (hn:∀j,m'.now j=if j=(p*10+(1-s.held)).toNat then nx.bytes else m.now j):kE m' p ⟨1-s.held,nx⟩∧m'.now (p*10+s.held).toNat=m.now (p*10+s.held).toNat:=by
 have h0:=h.p0;have hh:=h.held
 have e1:m'.now (p*10+s.held).toNat=m.now (p*10+s.held).toNat:=by
  rw [hn,if_neg (by rcases hh with e|e<;>rw [e]<;>omega)]
 refine ⟨⟨hg,hb,h.p0,h.p1,by rw [hl];exact h.room,by rcases hh with e|e<;>rw [e]<;>simp,hr,hp,?_,?_⟩,e1⟩
 ·show dS (m'.now (p*10+(1-s.held)).toNat)=(nx,0)
  rw [hn,if_pos rfl];exact B2 hr
 ·intro r sC uh;rw [show p*10+(1-(1-s.held))=p*10+s.held by omega,e1,h.cur] at sC;injection sC with e2 _
  show r.seq+(1-s.held)≤nx.seq
  rw [←e2];rcases hh with e|e<;>rw [e]<;>omega
theorem kE.QB (h:kE m p s):0≤p*10+(1-s.held)∧p*10+(1-s.held) < (m.ar.length:Int):=by
 have h0:=h.p0;have h1:=h.room;rcases h.held with e|e<;>rw [e]<;>omega
theorem kE.save (h:kE m p s) {nx r:Rec} (hn:nx=bq p s.now r) (hr:nx.right=true) (hw:(wf m (p*10+(1-s.held)) nx.bytes).1=0) :
  kE (wf m (p*10+(1-s.held)) nx.bytes).2 p ⟨1-s.held,nx⟩∧(wf m (p*10+(1-s.held)) nx.bytes).2.now (p*10+s.held).toNat=m.now (p*10+s.held).toNat∧(wf m (p*10+(1-s.held)) nx.bytes).2.waits=[]∧(wf m (p*10+(1-s.held)) nx.bytes).2.down=false:=by
 obtain ⟨a0,a1⟩:=h.QB;obtain ⟨w1,w2,w3⟩:=qR h.bu a0 a1 (Rec.bY _) hw;obtain ⟨l1,l2⟩:=h.next hr (by rw [hn];rfl) (by rw [hn];rfl) (h.bu.wf _ _) (h.eQ.wf _ (Rec.pT _)) (iC _ _ _) w3;exact ⟨l1,l2,w1,w2⟩
theorem Na:(dS bt).2≠0:=by decide +kernel
theorem Td (hg:m.Good) (hb:m.ia) (hu:m.Up) {p:Int} (hr:roomFor p m.ar.length=true):(iH m p).1=0∧kE (iH m p).2 p ⟨0,bd p⟩∧(iH m p).2.Up∧(iH m p).2.waits=[]∧(iH m p).2.ar.length=m.ar.length∧
  ∀j,(iH m p).2.now j=if j=(p*10).toNat then (bd p).bytes else if j=(p*10+1).toNat then bt else m.now j:=by
 obtain ⟨p0,p1,gH⟩:=GC hr;obtain ⟨a1,a2⟩:=zz (m:=m) (i:=p*10+1) (bs:=bt) (by omega) gH rfl hu;have a3:(wf m (p*10+1) bt).1=0:=by rw [a1]
 obtain ⟨a4,a5,a6⟩:=qR hg (by omega) gH rfl a3;have a7:=iC m (p*10+1) bt;have e:iH m p=wf (wf m (p*10+1) bt).2 (p*10) (bd p).bytes:=by unfold iH;rw [if_pos a3]
 rw [e];have ag:=hg.wf (p*10+1) bt;have ab:=hb.wf (p*10+1) EM;generalize (wf m (p*10+1) bt).2=m1 at *;obtain ⟨b1,b2⟩:=zz (m:=m1) (i:=p*10) (bs:=(bd p).bytes) (by omega) (by omega) (Rec.bY _) a2;have b3:(wf m1 (p*10) (bd p).bytes).1=0:=by rw [b1]
 obtain ⟨b4,b5,b6⟩:=qR ag (by omega) (by omega) (Rec.bY _) b3;have hn:∀j,(wf m1 (p*10) (bd p).bytes).2.now j=if j=(p*10).toNat then (bd p).bytes else if j=(p*10+1).toNat then bt else m.now j:=fun j=>by rw [b6,a6]
 refine ⟨b3,⟨ag.wf _ _,ab.wf _ (Rec.pT _),p0,p1,by rw [iC,a7];exact gH,.inl rfl,qq p0 p1,rfl,?_,?_⟩,b2,b4,by rw [iC,a7],hn⟩
 ·show dS ((wf m1 (p*10) (bd p).bytes).2.now (p*10+0).toNat)=_
  rw [hn,if_pos (by omega)];exact B2 (qq p0 p1)
 ·intro r sC _
  have e2:(wf m1 (p*10) (bd p).bytes).2.now (p*10+(1-0)).toNat=bt:=by
   rw [hn,if_neg (by omega),if_pos (by omega)]
  have mL:dS ((wf m1 (p*10) (bd p).bytes).2.now (p*10+(1-0)).toNat)=(r,0):=sC;rw [e2] at mL;exact absurd (by rw [mL]) Na
def _root_.Go.Proofs.YtdldkkoplgkloaaGreat.aX.DS.base (m:DS):DS:={ m with waits:=[] }
theorem _root_.Go.Proofs.YtdldkkoplgkloaaGreat.aX.DS.Good.base {m:DS} (h:m.Good):m.base.Good:=⟨h.ar,fun p hp=>absurd hp (by simp [DS.base]),h.CX,h.CW,h.n0,h.n1⟩
theorem _root_.Go.Proofs.YtdldkkoplgkloaaGreat.aX.DS.ia.base {m:DS} (h:m.ia):m.base.ia:=⟨h.ar,fun p hp=>absurd hp (by simp [DS.base])⟩
end
end bD
namespace store
open Go.RowKit Go.Deep base obj mem sep aW aX record bD aG image bN bL
section
variable {P:aI} {L:List aI} {d p:Nat} {t:aY}
structure PP where
 log:wU
 s0:cy
 s1:cy
structure nT where
 O:Nat
 L:Nat
 S0:Nat
 S1:Nat
instance:Inhabited PP:=⟨⟨⟨0,Rec.zero⟩,cy.none,cy.none⟩⟩
instance:Inhabited nT:=⟨⟨0,0,0,0⟩⟩
def PP.slot (x:PP) (k:Int):cy:=if k=0 then x.s0 else x.s1
def PP.bj (x:PP) (k:Int) (s:cy):PP:=if k=0 then ⟨x.log,s,x.s1⟩ else ⟨x.log,x.s0,s⟩
def nT.slot (a:nT) (k:Int):Nat:=if k=0 then a.S0 else a.S1
def PP.ay (x:PP):Bool:=!(x.log.now.au==x.log.now.aj)
def PP.sp (x:PP):Int:=1-x.log.now.aj
def ownRow (a:nT):List Value:=[.pointer (some ⟨a.L,0,none⟩),.pointer (some ⟨a.S0,0,none⟩),.pointer (some ⟨a.S1,0,none⟩)]
def CN (d:Nat) (p:Nat) (a:nT) (x:PP):aI:=du [row a.O 102 (ownRow a),log a.L d p x.log.held x.log.now,slt a.S0 d p 0 x.s0,slt a.S1 d p 1 x.s1]
def fT (d:Nat) (al:List nT) (xs:List PP):List aI:=(List.range xs.length).map fun p=>CN d p (al.getD p default) (xs.getD p default)
def nt (al:List nT):List Value:=al.map fun a=>.pointer (some ⟨a.O,0,none⟩)
structure fy where
 S:Nat
 bN:dF
 AL:Option Addr
 cL:Nat
 al:List nT
def uZ (ad:fy) (t:aY) (n:Nat):List Value:=[ae aa t.frame,.slice ad.bN.AP t.parts.length ad.bN.cP,.slice ad.bN.AW t.aJ.length ad.bN.cW,.slice ad.bN.AC t.av.length ad.bN.cC,ae aa t.ay,.slice ad.AL n ad.cL]
def Eg (ad:fy) (t:aY) (n:Nat):List aI:=[row ad.S 114 (uZ ad t n),own 94 1 (.slice ad.AL n ad.cL) n (nt ad.al),Dj ad.bN t]
def aZ (ad:fy) (t:aY) (d:Nat) (m:DS) (xs:List PP):aI:=du (Eg ad t xs.length++[bE d m,du (fT d ad.al xs),fact (ad.al.length=xs.length)])
section
variable {w0 w : World} {l : List aI}
theorem _root_.Go.Proofs.YtdldkkoplgkloaaGreat.sep.St.PA (h:St w0 w (du L::l)) {k:Nat} (hk:L[k]?=some P):St w0 w (P::du (L.eraseIdx k)::l):=by
 have h1:=h.fI;obtain ⟨aH,e⟩:=List.getElem?_eq_some_iff.1 hk;have h2:=h1.pick k (by rw [List.getElem?_append_left aH];exact hk);rw [List.eraseIdx_append_of_lt_length aH] at h2;exact (St.eJ (h2.perm (List.perm_middle (a:=P) (l₁:=L.eraseIdx k) (l₂:=l)).symm)).swap
theorem _root_.Go.Proofs.YtdldkkoplgkloaaGreat.sep.St.ZV {k:Nat} (h:St w0 w (P::du (L.eraseIdx k)::l)) (hk:k < L.length):St w0 w (du (L.set k P)::l):=by
 have h1:=h.swap.fI.perm (List.perm_middle (a:=P) (l₁:=L.eraseIdx k) (l₂:=l));refine St.eJ (h1.perm ?_);have e:(L.set k P).eraseIdx k=L.eraseIdx k:=by rw [List.eraseIdx_set_eq]
 have h2:(L.set k P).Perm (P::L.eraseIdx k):=by
  have IH:k < (L.set k P).length:=by rw [List.length_set];exact hk
  have h3:L.set k P=(L.set k P).take k++(L.set k P)[k]::(L.set k P).drop (k+1):=by rw [←List.drop_eq_getElem_cons IH,List.take_append_drop]
  rw [←e,List.eraseIdx_eq_take_drop_succ]
  conv=>lhs;rw [h3]
  rw [List.getElem_set_self];exact List.perm_middle
 exact ((h2.append_right l).trans (by exact List.Perm.refl _)).symm
theorem Pt (d:Nat) (al:List nT) (xs:List PP):(fT d al xs).length=xs.length:=by simp [fT]
theorem Fi {al:List nT} {xs:List PP} (hp:p < xs.length):(fT d al xs)[p]?=some (CN d p (al.getD p default) (xs.getD p default)):=by
 simp [fT,hp]
theorem Ps {al:List nT} {xs:List PP} (hp:p < xs.length) (x:PP):(fT d al xs).set p (CN d p (al.getD p default) x)=fT d al (xs.set p x):=by
 refine List.ext_getElem? fun i=>?_;rw [List.getElem?_set];by_cases hi:p=i
 ·subst hi;rw [if_pos rfl,if_pos (by simp [fT,hp]),Fi (by simpa using hp)];simp [hp]
 ·rw [if_neg hi];simp only [fT,List.length_set,List.getElem?_map];by_cases h2:i < xs.length
  ·simp [h2,hi]
  ·simp [h2]
def vw (ad:fy) (t:aY) (d:Nat) (m:DS) (n p:Nat) (a:nT) (x:PP) (rest:List aI):List aI :=
 [row a.O 102 (ownRow a),log a.L d p x.log.held x.log.now,slt a.S0 d p 0 x.s0,slt a.S1 d p 1 x.s1,row ad.S 114 (uZ ad t n),own 94 1 (.slice ad.AL n ad.cL) n (nt ad.al),Dj ad.bN t,bE d m]++rest
theorem iX {ad:fy} {m:DS} {xs:List PP} (h:St w0 w (aZ ad t d m xs::l)) {p:Nat} (hp:p < xs.length) :
  St w0 w (vw ad t d m xs.length p (ad.al.getD p default) (xs.getD p default) (du ((fT d ad.al xs).eraseIdx p)::fact (ad.al.length=xs.length)::l)):=by
 have h1:=h.fI;simp only [Eg,List.cons_append,List.nil_append] at h1;have h2:=((h1.pick 4 rfl).PA (Fi hp)).fI;refine h2.perm ?_;simp only [vw,List.cons_append,List.nil_append,List.eraseIdx_cons_succ,List.eraseIdx_cons_zero];refine .cons _ (.cons _ (.cons _ (.cons _ ?_)));exact (List.perm_middle (l₁:=[_,_,_,_]) (l₂:=_)).symm
theorem Ee {ad:fy} {m m':DS} {xs:List PP} (hp:p < xs.length) {x:PP} (h:St w0 w (vw ad t d m' xs.length p (ad.al.getD p default) x (du ((fT d ad.al xs).eraseIdx p)::fact (ad.al.length=xs.length)::l))) :
  St w0 w (aZ ad t d m' (xs.set p x)::l):=by
 have h1:St w0 w ([row (ad.al.getD p default).O 102 (ownRow (ad.al.getD p default)),log (ad.al.getD p default).L d p x.log.held x.log.now,slt (ad.al.getD p default).S0 d p 0 x.s0,slt (ad.al.getD p default).S1 d p 1 x.s1]++(du ((fT d ad.al xs).eraseIdx p)::row ad.S 114 (uZ ad t xs.length)::own 94 1 (.slice ad.AL xs.length ad.cL) xs.length (nt ad.al)::Dj ad.bN t::bE d m'::fact (ad.al.length=xs.length)::l)):=by
  refine h.perm ?_;simp only [vw,List.cons_append,List.nil_append];refine .cons _ (.cons _ (.cons _ (.cons _ ?_)));exact (List.perm_middle (l₁:=[_,_,_,_]) (l₂:=_))
 have h2:St w0 w (CN d p (ad.al.getD p default) x::_):=St.eJ h1;have h3:=h2.ZV (by rw [Pt];exact hp);rw [Ps hp] at h3;refine St.eJ (h3.perm ?_);simp only [Eg,List.cons_append,List.nil_append,List.length_set];exact (List.perm_middle (l₁:=[_,_,_,_]) (l₂:=_)).symm
end
end
section
variable {held part:Int} {L O S cL d n:Nat} {AL:Option Addr} {r:Rec} {c0 c1 c2 c3 c4:Value}
theorem JX (r:Rec) (w:World):(Instr.field 35 r.val 2).run Tryz.prog w=.ok (ae aa r.au) w:=by kernel_rfl
theorem Pj (r:Rec) (w:World):(Instr.field 35 r.val 3).run Tryz.prog w=.ok (ae aa r.aj) w:=by kernel_rfl
section
variable {w0 w : World} {l : List aI}
theorem Uz {a1 a2:Value} (h:St w0 w (row O 102 [.pointer (some ⟨L,0,none⟩),a1,a2]::log L d part held r::l)) :
  Calls Tryz.prog 44 #[.pointer (some ⟨O,0,none⟩)] w fun e w'=>e=.returned (.bool (!(r.au==r.aj)))∧Below w.heap.size w w':=by
 have HL:=af (fun (w':World) (hb:Below w.heap.size w w')=>nN ((h.below hb).swap));have HR:=af (fun (w':World) (hb:Below w.heap.size w w')=>(And.intro (((h.below hb).row.1).cell 0) (h.below hb).row.1.lt:w'.cell? ⟨O,0,none⟩=some (.pointer (some ⟨L,0,none⟩))∧O < w'.heap.size));have r2:=JX r;have r3:=Pj r;generalize r.val=rv at *;generalize r.au=ra,r.aj=rc at *;clear h;go_enter Tryz.func44,Tryz.ntmps44;go_wp2_with fail;refine eb (fun w'=>w'.cell? ⟨O,0,none⟩=some (.pointer (some ⟨L,0,none⟩))∧O < w'.heap.size) (by kernel_rfl) (HR.o w.drew (Below.refl w.heap.size w).drew) (fun bJ=>?_);(refine ah 0 ?_;(try simp only [ai]));(refine ah 1 ?_;(try simp only [ai]));(refine ah 2 ?_;(try simp only [ai]));(refine ah 3 ?_;(try simp only [ai]));(refine ah 6 ?_;(try simp only [ai]));(refine ah 7 ?_;(try simp only [ai]));(refine ah 8 ?_;(try simp only [ai]));(refine ah 9 ?_;(try simp only [ai]));(refine dQ 4 ?_;(try simp only [xG]);go_simp);refine (HL.o _ (Below.refl w.heap.size w).drew).mono ?_;rintro e w2 ⟨rfl,hb⟩;have aO:=af ((Below.refl w.heap.size w).drew.trans hb);clear hb;dsimp only;(refine cu (HR.o w2 aO.o) (fun bJ=>?_);(try simp only [ai]));(refine ah 5 ?_;(try simp only [ai]));(refine dQ 10 ?_;(try simp only [xG]);go_simp);refine (HL.o w2 aO.o).mono ?_;rintro e w3 ⟨rfl,hb⟩;have bM:=af (aO.o.trans (hb.mono aO.o.size));clear hb;dsimp only;(refine cu (HR.o w3 bM.o) (fun bJ=>?_);(try simp only [ai]));(refine ah 11 ?_;(try simp only [ai]));(refine ah 12 ?_;(try simp only [ai]));(refine ah 13 ?_;(try simp only [ai]));refine dw (by kernel_rfl) ?_;go_wp2_with fail;go_ret;exact ⟨rfl,bM.o⟩
theorem UH {s0 s1:Nat} (hr:r.aj=0∨r.aj=1) (h:St w0 w (row O 102 [.pointer (some ⟨L,0,none⟩),.pointer (some ⟨s0,0,none⟩),.pointer (some ⟨s1,0,none⟩)]::log L d part held r::l)) :
  Calls Tryz.prog 47 #[.pointer (some ⟨O,0,none⟩)] w fun e w'=>e=.returned (.pointer (some ⟨if 1-r.aj=0 then s0 else s1,0,none⟩))∧Below w.heap.size w w':=by
 have HL:=af (fun (w':World) (hb:Below w.heap.size w w')=>nN ((h.below hb).swap));have HR:=af (fun (w':World) (hb:Below w.heap.size w w')=>(⟨(h.below hb).row.1.cell 0,(h.below hb).row.1.cell 1,(h.below hb).row.1.cell 2,(h.below hb).row.1.lt⟩:w'.cell? ⟨O,0,none⟩=some (.pointer (some ⟨L,0,none⟩))∧w'.cell? ⟨O,1,none⟩=some (.pointer (some ⟨s0,0,none⟩))∧w'.cell? ⟨O,2,none⟩=some (.pointer (some ⟨s1,0,none⟩))∧O < w'.heap.size));have r3:=Pj r;generalize r.val=rv at *;clear h;rcases hr with hr|hr
 all_goals
  rw [hr] at r3 ⊢;have pg:IntKind.i64.wrap 0=0:=by decide
  have aF:IntKind.i64.wrap 1=1:=by decide
  clear hr;go_enter Tryz.func47,Tryz.ntmps47;go_wp2_with fail;refine eb (fun w'=>w'.cell? ⟨O,0,none⟩=some (.pointer (some ⟨L,0,none⟩))∧w'.cell? ⟨O,1,none⟩=some (.pointer (some ⟨s0,0,none⟩))∧w'.cell? ⟨O,2,none⟩=some (.pointer (some ⟨s1,0,none⟩))∧O < w'.heap.size) (by kernel_rfl) (HR.o w.drew (Below.refl w.heap.size w).drew) (fun bJ=>?_);(refine ah 0 ?_;(try simp only [ai]));(refine ah 1 ?_;(try simp only [ai]));(refine ah 2 ?_;(try simp only [ai]));(refine ah 3 ?_;(try simp only [ai]));(refine ah 4 ?_;(try simp only [ai]));(refine ah 8 ?_;(try simp only [ai]));(refine ah 9 ?_;(try simp only [ai]));(refine dQ 5 ?_;(try simp only [xG]);go_simp);refine (HL.o _ (Below.refl w.heap.size w).drew).mono ?_;rintro e w2 ⟨rfl,hb⟩;have aO:=af ((Below.refl w.heap.size w).drew.trans hb);clear hb;dsimp only;(refine cu (HR.o w2 aO.o) (fun bJ=>?_);(try simp only [ai]));(refine ah 6 ?_;(try simp only [ai]));(refine ah 7 ?_;(try simp only [ai]));(refine ah 10 ?_;(try simp only [ai]));(refine ah 11 ?_;(try simp only [ai]));(refine ah 12 ?_;(try simp only [ai]));refine dw (by kernel_rfl) ?_;go_wp2_with fail;go_ret;exact ⟨rfl,aO.o⟩
theorem vD (h:Row w S 114 [c0,c1,c2,c3,c4,.slice AL n cL]) (q:Int) (hq:q < 0∨(n:Int)≤q) :
  Calls Tryz.prog 42 #[.pointer (some ⟨S,0,none⟩),ae aa q] w fun e w'=>e=.returned (.tuple #[.pointer none,ae aa 3])∧w'=w:=by
 have z5:=h.c5;have lS:=h.lt;clear h;by_cases h0:q < 0
 ·go_enter Tryz.func42,Tryz.ntmps42;go_wp2_with fail;go_ret2;exact ⟨rfl,rfl⟩
 ·have h1:(n:Int)≤q:=by omega
  go_enter Tryz.func42,Tryz.ntmps42;go_wp2_with fail;go_ret2;exact ⟨rfl,rfl⟩
theorem vE {al:List nT} (h:Row w S 114 [c0,c1,c2,c3,c4,.slice AL n cL]) (hs:Sl w w.heap.size 1 AL n (nt al)) (AU:al.length=n) (p:Nat) (hp:p < n) :
  Calls Tryz.prog 42 #[.pointer (some ⟨S,0,none⟩),ae aa p] w fun e w'=>e=.returned (.tuple #[.pointer (some ⟨(al.getD p default).O,0,none⟩),ae aa 0])∧w'=w:=by
 have z5:=h.c5;have lS:=h.lt;obtain ⟨b,off,rfl,cm,hc⟩:=hs.2 (by omega);have c1:w.cell? ⟨b,off+p,none⟩=some (.pointer (some ⟨(al.getD p default).O,0,none⟩)):=hc p _ (by simp [nt,show p < al.length by omega]);generalize (al.getD p default).O=O at *;have k0:¬(p:Int) < 0:=by omega
 have k1:¬(n:Int)≤(p:Int):=by omega
 have k2:(0:Int)≤(p:Int):=by omega
 have k3:(p:Int) < (n:Int):=by omega
 clear h hs hc;go_enter Tryz.func42,Tryz.ntmps42;go_wp2_with fail;go_ret2;exact ⟨rfl,rfl⟩
def gL (xs:List PP) (q:Int):Int:=if q < 0∨(xs.length:Int)≤q then 3 else if (xs.getD q.toNat default).ay then 18 else 0
theorem YP (h:Row w S 114 [c0,c1,c2,c3,c4,.slice AL n cL]) (q:Int) (hq:q < 0∨(n:Int)≤q) :
  Calls Tryz.prog 49 #[.pointer (some ⟨S,0,none⟩),ae aa q] w fun e w'=>e=.returned (.tuple #[.pointer none,ae aa 3])∧w'=w:=by
 have HP:=af (vD h q hq);clear h hq;go_enter Tryz.func49,Tryz.ntmps49;go_wp2_with fail;refine HP.o.mono ?_;rintro e w' ⟨rfl,rfl⟩;go_wp2_with fail;go_ret2;exact ⟨rfl,rfl⟩
theorem YQ {al:List nT} (h:Row w S 114 [c0,c1,c2,c3,c4,.slice AL n cL]) (hs:Sl w w.heap.size 1 AL n (nt al)) (AU:al.length=n) (p:Nat) (hp:p < n) (b:Bool)
  (ht:Calls Tryz.prog 44 #[.pointer (some ⟨(al.getD p default).O,0,none⟩)] w fun e w'=>e=.returned (.bool b)∧Below w.heap.size w w') :
  Calls Tryz.prog 49 #[.pointer (some ⟨S,0,none⟩),ae aa p] w fun e w'=>e=.returned (.tuple #[.pointer (some ⟨(al.getD p default).O,0,none⟩),ae aa (if b then 18 else 0)])∧Below w.heap.size w w':=by
 have HP:=af (vE h hs AU p hp);have HT:=af ht;generalize (al.getD p default).O=O at *;clear h hs ht;cases b with
 | true =>
   go_enter Tryz.func49,Tryz.ntmps49;go_wp2_with fail;refine HP.o.mono ?_;rintro e w' ⟨rfl,rfl⟩;go_wp2_with fail;refine HT.o.mono ?_;rintro e w2 ⟨rfl,hb⟩;have HB:=af hb;clear hb;go_wp2_with fail;go_ret2;exact ⟨rfl,HB.o⟩
 | false =>
   go_enter Tryz.func49,Tryz.ntmps49;go_wp2_with fail;refine HP.o.mono ?_;rintro e w' ⟨rfl,rfl⟩;go_wp2_with fail;refine HT.o.mono ?_;rintro e w2 ⟨rfl,hb⟩;have HB:=af hb;clear hb;go_wp2_with fail;go_ret2;exact ⟨rfl,HB.o⟩
end
end
end store
end Go.Proofs.YtdldkkoplgkloaaGreat
