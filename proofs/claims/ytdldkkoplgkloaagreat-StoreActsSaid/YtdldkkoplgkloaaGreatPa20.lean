/- PROVED HERE: lemmas of the law. CONDITIONS: each names its own. -/
import Derived.BigQuiet
import Derived.Deep.CutBlock
import Derived.Deep.DeepCutAuto
import Derived.Deep.QuietTactic
import Derived.Deep.RegionHeld3
import Derived.Deep.RegionLaw
import Derived.Test.YtdldkkoplgkloaaGreatPa0
import Derived.Test.YtdldkkoplgkloaaGreatPa4
import Derived.Test.YtdldkkoplgkloaaGreatPa10
import Derived.Test.YtdldkkoplgkloaaGreatPa15
import Derived.Test.YtdldkkoplgkloaaGreatPa17
import Derived.Test.YtdldkkoplgkloaaGreatPa18
import Derived.Test.YtdldkkoplgkloaaGreatPa19
namespace Go.Proofs.YtdldkkoplgkloaaGreat
set_option linter.unusedVariables false
set_option linter.unusedSimpArgs false
set_option maxRecDepth 100000
set_option maxHeartbeats 32000000
open Go.Value renaming int → ae
open Go.IntKind renaming i64 → aa
namespace aG
open Go.RowKit Go.ChangeShapes Go.WideShapes Go.ChangeAt Go.Deep Go.Joins base obj mem bC aX record Go.Proofs.YtdldkkoplgkloaaGreat.bits sep aW bytes
section
variable {m:DS} {k p:Int} {d g:Nat} {s:cy} {w:World}
def dM (d:Nat) (p k:Int) (s:cy):List Value:=[.pointer (some ⟨d,0,none⟩),ae aa p,ae aa k,.bool s.has]++s.st.cells.toList
def slt (g d:Nat) (p k:Int) (s:cy):aI:=row g 158 (dM d p k s)
theorem fP (h:Row w g 158 (dM d p k s)) :
  w.cell? ⟨g,0,none⟩=some (.pointer (some ⟨d,0,none⟩))∧w.cell? ⟨g,1,none⟩=some (ae aa p)∧w.cell? ⟨g,2,none⟩=some (ae aa k)∧w.cell? ⟨g,3,none⟩=some (.bool s.has)∧
  w.cell? ⟨g,4,none⟩=some (ae aa s.st.aC)∧w.cell? ⟨g,5,none⟩=some (ae aa s.st.size)∧w.cell? ⟨g,6,none⟩=some (ae aa s.st.bf)∧g < w.heap.size :=
 ⟨h.cell 0,h.cell 1,h.cell 2,h.cell 3,h.cell 4,h.cell 5,h.cell 6,h.lt⟩
structure PK (p k:Int):Prop where
 p0:0≤p
 p1:p < 4
 k0:0≤k
 k1:k < 2
theorem Pl.pk (h:Pl m p k):PK p k:=⟨h.p0,h.p1,h.k0,h.k1⟩
theorem wB (h:Row w g 158 (dM d p k s)) (hp:PK p k) :
  Calls Tryz.prog 90 #[.pointer (some ⟨g,0,none⟩)] w fun e w'=>e=.returned (ae aa (bz p k))∧Below w.heap.size w w':=by
 obtain ⟨c0,c1,c2,c3,c4,c5,c6,lg⟩:=fP h.drew;have HC:=af (place.Ko p k w.drew hp.p0 hp.p1 hp.k0 hp.k1);clear h hp;go_enter Tryz.func90,Tryz.ntmps90;go_wp2_with fail
 go_region_law (first|(go_simp;(with_reducible refine HC.o.mono ?_);rintro e w2 ⟨rfl,hb⟩;have HB:=af hb;clear hb;dsimp only))
 all_goals
  go_wp2_with fail;go_ret;exact ⟨rfl,⟨HB.o.os,HB.o.tape,HB.o.output,HB.o.size,HB.o.block⟩⟩
def xq:DS→List (Int×List Int)→Int×DS
 | m,[]=>(0,m)
 | m,x::l=>if (wf m x.1 x.2).1=0 then xq (wf m x.1 x.2).2 l else wf m x.1 x.2
theorem QW (m:DS) (i:Int) (bs:List Int):(m.write i bs).2.waits.length≤m.waits.length+1:=by
 unfold DS.write;split
 ·exact Nat.le_succ _
 ·split
  ·exact Nat.le_succ _
  ·split
   ·simp [DS.put,DS.fN]
   ·show m.bR.waits.length≤_
    rw [DS.fN];exact Nat.le_succ _
theorem Zn (m:DS) (i:Int) (bs:List Int):(wf m i bs).2.waits.length≤m.waits.length+1:=by
 have h:=QW m i bs;unfold wf;split
 ·unfold DS.flush;split
  ·exact Nat.zero_le _
  ·rw [DS.fN];exact h
 ·exact h
def kG (L:List (Int×List Int)) (V:Nat→Option Addr×Nat):List Value:=(List.range L.length).flatMap fun j=>[ae aa (L.getD j (0,[])).1,.slice (V j).1 64 (V j).2]
theorem JN {L:List (Int×List Int)} (V:Nat→Option Addr×Nat) {j:Nat} (hj:j < L.length):(kG L V)[j*2]?=some (ae aa L[j].1)∧(kG L V)[j*2+1]?=some (.slice (V j).1 64 (V j).2):=by
 have h:=lift.tF (fun i=>[Value.int .i64 (L.getD i (0,[])).1,.slice (V i).1 64 (V i).2]) 2 (by decide) L.length (fun i _=>rfl);have e:L.getD j (0,[])=L[j]:=by rw [dD,cN hj];rfl
 have h0:=h.2 j 0 hj (by decide);rw [e] at h0;exact ⟨h0,h.2 j 1 hj (by decide)⟩
theorem kf {w0:World} {l:List aI} (h:St w0 w (slt g d p k s::bE d m::l)) (A:Option Addr) (n c:Nat) (L:List (Int×List Int)) (V:Nat→Option Addr×Nat) (hn:L.length=n) (hn9:n≤50) (fF:m.waits.length≤900)
  (hA:∀w' m',St w0 w' (slt g d p k s::bE d m'::l)→Sl w' w'.heap.size 2 A n (kG L V)∧∀j (hj:j < L.length),L[j].2.length=64∧Sl w' w'.heap.size 1 (V j).1 64 (L[j].2.map (.int .u8))) :
  Calls Tryz.prog 89 #[.pointer (some ⟨g,0,none⟩),.slice A n c] w fun e w'=>e=.returned (ae aa (xq m L).1)∧St w0 w' (slt g d p k s::bE d (xq m L).2::l):=by
 have H:=af h;have HN:=af hn;have HA:=af hA;clear h hn hA;go_enter Tryz.func89,Tryz.ntmps89;go_wp2_with fail;go_loopw [11] (fun i wr=>∃(q:Nat) (m':DS),q≤n∧i=ae aa q∧St w0 wr (slt g d p k s::bE d m'::l)∧m'.waits.length≤900+q∧xq m L=xq m' (L.drop q)) (fun i _=>n-(intOf i).toNat)
 case atStart=>exact ⟨0,m,by omega,rfl,H.o,fF,rfl⟩
 case round =>
  obtain ⟨q,m1,hq,rfl,hi,aF,hwf⟩:=hrel;have HI:=af hi;have TM:=af hwf;clear hi hwf;by_cases aH:q < n
  ·have df:(q:Int) < (n:Int):=by omega
   have hql:q < L.length:=by rw [HN.o];exact aH
   obtain ⟨dk,cH⟩:=HA.o _ _ HI.o;obtain ⟨b,off,rfl,lb,cY⟩:=dk.2 (by omega);obtain ⟨s0,s1⟩:=JN V hql;have a0:wr.cell? ⟨b,off+q*2,none⟩=_:=cY _ _ s0;have a1:wr.cell? ⟨b,off+(q*2+1),none⟩=_:=cY _ _ s1;rw [←Nat.add_assoc] at a1;obtain ⟨sF,yU⟩:=cH q hql;have HD:=af (show L.drop q=L[q]::L.drop (q+1) from List.drop_eq_getElem_cons hql);generalize L[q]=x at a0 sF yU HD s0;obtain ⟨at_,bs⟩:=x;simp only at a0 sF yU;generalize V q=v at a1 yU s1;obtain ⟨B,cB⟩:=v;simp only at a1 yU;rw [HD.o] at TM;have HX:=af (show xq m1 ((at_,bs)::L.drop (q+1))=if (wf m1 at_ bs).1=0 then xq (wf m1 at_ bs).2 (L.drop (q+1)) else wf m1 at_ bs from rfl);have HFW:=af (Zn m1 at_ bs);obtain ⟨x,hx⟩:=xE (m1.write at_ bs);have HWQ:=af (show wf m1 at_ bs=if x.1=0 then x.2.flush else x by rw [hx];rfl);have HL:=af (show x.2.waits.length≤1000000 by have:=QW m1 at_ bs;rw [hx];omega);obtain ⟨w2,eh⟩:=xE (wr.alloc (.cells #[ae aa at_,.slice B 64 cB] 162));have H2:=af (show St w0 w2 (row wr.heap.size 162 [ae aa at_,.slice B 64 cB]::slt g d p k s::bE d m1::l) by rw [eh];exact HI.o.new _ _)
   have HSQ:=af (show Sl w2 w2.heap.size 1 B 64 (bs.map (.int .u8)) by
    have hb:Below wr.heap.size wr w2:=by rw [eh];exact (Below.refl _ _).alloc (Nat.le_refl _) _
    exact (yU.below hb).more hb.size)
   have HW:=af (I7 (H2.o.drew.pick 2 rfl) at_ B 64 cB bs sF (HSQ.o.below (Below.refl _ _).drew) (by omega));rw [←hx] at HW;have jf:=af eh;clear hx eh cY dk cH s0 s1 yU sF;obtain ⟨ev,m2⟩:=x;simp only at HWQ HW HL;go_upto_region 4 with fail;rw [←jf.o];obtain ⟨y0,y1⟩:w2.cell? ⟨wr.heap.size,0,none⟩=some (ae aa at_)∧w2.cell? ⟨wr.heap.size,1,none⟩=some (.slice B 64 cB):=⟨H2.o.row.1.cell 0,H2.o.row.1.cell 1⟩
   have ly:=H2.o.row.1.lt;obtain ⟨c0,c1,c2,c3,c4,c5,c6,lg⟩:=fP (H2.o.pick 1 rfl).row.1;clear a0 a1 lb;go_wp2_with fail;refine fK [0,1,2,4,6,3,5,7] [[8,9]] (by kernel_rfl) (by kernel_rfl) (fun _ _ _ _ _ h=>h) ?_;simp only [mU,pick,xG];iterate 8 still_step
   refine wpStill_nil ?_;go_wp2_with fail;refine HW.o.mono ?_;rintro e w3 ⟨rfl,h3⟩;have H3:=af ((h3.pick 1 rfl).drop.pick 1 rfl);clear h3 c0 c1 c2 c3 c4 c5 c6 lg y0 y1 ly;obtain ⟨c0,c1,c2,c3,c4,c5,c6,lg⟩:=fP H3.o.row.1;by_cases he:ev=0
   ·subst he;have HF:=af (I8 H3.o.swap HL.o);have kd:=af (HWQ.o.trans (if_pos rfl));obtain ⟨y,hy⟩:=xE m2.flush;rw [←hy] at HF kd;rw [kd.o] at HX HFW;clear hy;obtain ⟨ef,m3⟩:=y;simp only at HF HX HFW;go_wp2_with fail;refine HF.o.mono ?_;rintro e w4 ⟨rfl,h4⟩;have H4:=af h4.swap;clear h4 c0 c1 c2 c3 c4 c5 c6 lg;by_cases hf:ef=0
    ·subst hf;have po:=af (TM.o.trans (HX.o.trans (if_pos rfl)));go_wp2_with fail;go_roundw;case rel=>exact ⟨q+1,m3,by omega,by go_num,H4.o,by have:=HFW.o;omega,po.o⟩
     case measure=>simp [intOf]<;>omega
    ·have b1:(ef != 0)=true:=by simpa using hf
     have po:=af (TM.o.trans (HX.o.trans (if_neg hf)));clear hf;go_wp2_with fail;go_ret;rw [po.o];exact ⟨rfl,H4.o⟩
   ·have b1:(ev != 0)=true:=by simpa using he
    have kd:=af (HWQ.o.trans (if_neg he));rw [kd.o] at HX;have po:=af (TM.o.trans (HX.o.trans (if_neg he)));clear he;go_wp2_with fail;go_ret;rw [po.o];exact ⟨rfl,H3.o⟩
  ·obtain rfl:q=n:=by omega
   have po:=af (TM.o.trans (show xq m1 (L.drop q)=(0,m1) by rw [←HN.o,List.drop_length];rfl));have df:¬(q:Int) < (q:Int):=by omega
   go_wp2_with fail;go_ret;rw [po.o];exact ⟨rfl,HI.o⟩
def told (s:cy):aR:=if s.has then s.st else aR.zero
theorem Kp (h:Row w g 158 (dM d p k s)) :
  Calls Tryz.prog 48 #[.pointer (some ⟨g,0,none⟩)] w fun e w'=>e=.returned (.tuple #[(told s).val,.bool s.has])∧Below w.heap.size w w':=by
 obtain ⟨c0,c1,c2,c3,c4,c5,c6,lg⟩:=fP h;obtain ⟨has,st⟩:=s;simp only at c3 c4 c5 c6;clear h;cases has with
 | false =>
   go_enter Tryz.func48,Tryz.ntmps48;go_wp2_with fail;refine bodyPost_ret (aL rfl _ _ w.heap.size _ _ _ _ _ rfl rfl (heap_alloc_new _ _) Tryz.underlying31 rfl (by kernel_rfl)) rfl ?_;exact ⟨rfl,(Below.refl _ _).alloc (Nat.le_refl _) _⟩
 | true =>
   go_enter Tryz.func48,Tryz.ntmps48;go_wp2_with fail;refine bodyPost_ret (aL rfl _ _ w.heap.size _ _ _ _ _ rfl rfl (heap_alloc_new _ _) Tryz.underlying31 rfl (by kernel_rfl)) rfl ?_;exact ⟨rfl,(Below.refl _ _).alloc (Nat.le_refl _) _⟩
theorem kO (h:Row w g 158 (dM d p k s)) (hr:s.has=true→s.st.right=true) (se no:Int) (A:Option Addr) (n c:Nat) :
  Calls Tryz.prog 91 #[.pointer (some ⟨g,0,none⟩),ae aa se,ae aa no,.slice A n c] w fun e w'=>e=.returned (ae aa (gN s se no n))∧w'=w:=by
 obtain ⟨c0,c1,c2,c3,c4,c5,c6,lg⟩:=fP h;obtain ⟨has,st⟩:=s;simp only at c3 c4 c5 c6 hr;clear h;have HW:=af (show gN ⟨has,st⟩ se no n=if has=false then 16 else if se≠st.aC then 17 else if no < 0∨(aQ st.size:Int)≤no then 3 else if n≠16 then 14 else 0 from rfl);cases has with
 | false =>
   rw [if_pos rfl] at HW;go_enter Tryz.func91,Tryz.ntmps91;go_wp2_with fail;go_ret;exact ⟨bx HW.o.symm,rfl⟩
 | true =>
   rw [if_neg (show ¬(true=false) by decide)] at HW;have eE:=(iD (hr rfl)).2.1;obtain ⟨z0,z1⟩:=eE;clear hr;by_cases jK:se=st.aC
   ·subst jK;rw [if_neg (fun h=>h rfl)] at HW;have hb:(st.aC != st.aC)=false:=by simp
    by_cases jS:no < 0
    ·rw [if_pos (.inl jS)] at HW;go_enter Tryz.func91,Tryz.ntmps91;go_wp2_with fail;go_ret;exact ⟨bx HW.o.symm,rfl⟩
    ·have ch:=af (fun w=>record.kK w st.size (by omega) (by omega));obtain ⟨b,cm⟩:=xE (aQ st.size);rw [←cm] at HW ch;clear cm;by_cases AQ:(b:Int)≤no
     ·rw [if_pos (.inr AQ)] at HW;go_enter Tryz.func91,Tryz.ntmps91;go_wp2_with fail;refine (ch.o _).mono ?_;rintro e w1 ⟨rfl,rfl⟩;go_wp2_with fail;go_ret;exact ⟨bx HW.o.symm,rfl⟩
     ·rw [if_neg (by omega)] at HW;by_cases uo:n=16
      ·subst uo;rw [if_neg (fun h=>h rfl)] at HW;go_enter Tryz.func91,Tryz.ntmps91;go_wp2_with fail;refine (ch.o _).mono ?_;rintro e w1 ⟨rfl,rfl⟩;go_wp2_with fail;go_ret;exact ⟨bx HW.o.symm,rfl⟩
      ·rw [if_pos uo] at HW;have h1:((n:Int) != 16)=true:=by simp;omega
       have h2:(n != 16)=true:=by simpa using uo
       clear uo;go_enter Tryz.func91,Tryz.ntmps91;go_wp2_with fail;refine (ch.o _).mono ?_;rintro e w1 ⟨rfl,rfl⟩;go_wp2_with fail;go_ret;exact ⟨bx HW.o.symm,rfl⟩
   ·rw [if_pos jK] at HW;have hb:(se != st.aC)=true:=by simpa using jK
    clear jK;go_enter Tryz.func91,Tryz.ntmps91;go_wp2_with fail;go_ret;exact ⟨bx HW.o.symm,rfl⟩
end
def nD (p k:Int) (n:Nat):Bool:=decide (0≤p∧p < 4∧0≤k∧k < 2∧eg p k 2 < (n:Int))
theorem X6 {p k:Int} {n:Nat} (h:nD p k n=true):PK p k∧eg p k 2 < (n:Int):=by
 unfold nD at h;simp only [decide_eq_true_eq] at h;exact ⟨⟨h.1,h.2.1,h.2.2.1,h.2.2.2.1⟩,h.2.2.2.2⟩
theorem rL {w0 w:World} {l:List aI} {d:Nat} {m:DS} (h:St w0 w (bE d m::l)) (p k:Int) (hr:nD p k m.ar.length=true) (hd:m.down=false) (fF:m.waits.length≤1000) (cG:m.ia) :
  Calls Tryz.prog 120 #[.pointer (some ⟨d,0,none⟩),ae aa p,ae aa k] w fun e w'=>∃g,e=.returned (.tuple #[.pointer (some ⟨g,0,none⟩),ae aa 0])∧St w0 w' (slt g d p k (eU m p k)::bE d m::l):=by
 have H:=af h;obtain ⟨⟨p0,p1,k0,k1⟩,mo⟩:=X6 hr;unfold eg at mo;obtain ⟨n,hn⟩:=xE m.ar.length;have HN:=af hn;rw [←hn] at mo;obtain ⟨bs,gF⟩:=xE (m.now (bz p k).toNat);have ch:=af (show bs.length=64 by rw [gF];exact h.bu.yK (by rw [←hn];unfold bz;omega));have lM:=af (show bn bs by rw [gF];exact cG.now _);have HO:=af (show eU m p k=if (jb bs).2=0 then ⟨true,(jb bs).1⟩ else cy.none by rw [gF];rfl)
 have px:=af (fun (w1:World) (h1:St w0 w1 (bE d m::l))=>by
  have h:=Al h1 (p*10+(2+k*4)) (bz p k).toNat (by unfold bz;omega) (by rw [←hn];unfold bz;omega) hd (by omega);rw [←gF] at h
  exact h)
 obtain ⟨gr,sU⟩:=xE (jb bs);rw [←sU] at HO;have Gp:=af sU;clear hr h hd hn gF cG sU;obtain ⟨st,er⟩:=gr;simp only at HO;go_enter Tryz.func120,Tryz.ntmps120;go_wp2_with fail;refine (place.Ko p k _ p0 p1 k0 k1).mono ?_;rintro e w1 ⟨rfl,hb⟩;have H1:=af (H.o.below hb);clear hb;go_wp2_with fail;refine (place.C5 p k 2 _ p0 p1 k0 k1 (by omega) (by omega)).mono ?_;rintro e w2 ⟨rfl,hb⟩;have H2:=af (H1.o.below hb);have HL:=af (Hg H2.o);rw [←HN.o] at HL;clear hb;go_wp2_with fail;refine HL.o.mono ?_;rintro e w3 ⟨rfl,rfl⟩;go_wp2_with fail;refine (px.o _ H2.o).mono ?_;rintro e w4 ⟨b,rfl,h4⟩;have H4:=af h4;clear h4;obtain ⟨w5,eD⟩:=xE (w4.alloc (.cells #[.pointer (some ⟨d,0,none⟩),ae aa p,ae aa k,.bool false,ae aa 0,ae aa 0,ae aa 0] 158));have H5:=af (show St w0 w5 (slt w4.heap.size d p k cy.none::row b 5 (bs.map (.int .u8))::bE d m::l) by rw [eD];exact H4.o.new _ _);have sO:=af eD;clear eD;go_wp2_with fail;rw [←sO.o];refine (record.M9 _ _ 64 64 bs ch.o (by omega) lM.o (qt (H5.o.pick 1 rfl).row.1 ch.o)).mono ?_;rintro e w6 ⟨rfl,hb⟩;rw [←Gp.o];have H6:=af (H5.o.below hb);clear hb;dsimp only;rw [aR.ng];obtain ⟨w7,xD⟩:=xE (w6.alloc (.cells #[ae aa st.aC,ae aa st.size,ae aa st.bf] 31));have H7:=af (show St w0 w7 (slt w4.heap.size d p k cy.none::row w6.heap.size 31 st.cells.toList::row b 5 (bs.map (.int .u8))::bE d m::l) by rw [xD];exact (H6.o.new 31 st.cells).swap);have Oz:=af xD;clear xD;by_cases he:er=0
 ·subst he;have ke:=af (HO.o.trans (if_pos rfl));obtain ⟨y0,y1,y2⟩:=aR.read (H7.o.pick 1 rfl).row.1;have ly:=(H7.o.pick 1 rfl).row.1.lt;have lg:=H7.o.row.1.lt;obtain ⟨cs,cY⟩:=xE (dM d p k ⟨false,st⟩);have nZ:=af (show (dM d p k cy.none).take 4++st.cells.toList++(dM d p k cy.none).drop (4+st.cells.size)=cs by rw [cY];rfl);have H8:=af (H7.o.setRow cs);have f3:=H8.o.row.1.frozen 3;have c3:=H8.o.row.1.cell 3;rw [show cs[3]?=some (.bool false) by rw [cY];rfl] at c3;have H9:=af (show St w0 _ (slt w4.heap.size d p k ⟨true,st⟩::_) by have h:=H8.o.set 3 (.bool true);rw [cY] at h;exact h);rw [←cY] at H9;have MS:=af (show (Tryz.prog.info? 31).map (·.size)=some st.cells.size from by kernel_rfl);have HE:=af (show 4+st.cells.size≤(dM d p k cy.none).length from Nat.le_refl 7);have JC:=af (yC st);clear cY;go_upto_region 12 with fail;rw [←Oz.o];go_wp2_with (refine aB rfl 31 (.tmp 68) (.tmp 66) rfl w4.heap.size 4 st.cells rfl rfl H7.o.row.1 MS.o HE.o JC.o cs nZ.o ?_);go_ret2;rw [ke.o];exact ⟨w4.heap.size,rfl,(H9.o.pick 1 rfl).drop.pick 1 rfl |>.drop⟩
 ·have b1:(er==0)=false:=by simpa using he
  have ke:=af (HO.o.trans (if_neg he));clear he;go_upto_region 12 with fail;rw [←Oz.o];go_wp2_with fail;go_ret2;rw [ke.o];exact ⟨w4.heap.size,rfl,(H7.o.pick 1 rfl).drop.pick 1 rfl |>.drop⟩
theorem Gt (m:DS) (i:Int) (bs:List Int):xq m [(i,bs)]=wf m i bs:=by
 show (if (wf m i bs).1=0 then ((0:Int),(wf m i bs).2) else wf m i bs)=wf m i bs
 split
 ·rename_i h
  rw [←h]
 ·rfl
theorem CI {w:World} {b:Nat} {t:TypeId} {L:List (Int×List Int)} {V:Nat→Option Addr×Nat} {n:Nat} (h:Row w b t (kG L V)) (hl:L.length=n):Sl w w.heap.size 2 (some ⟨b,0,none⟩) n (kG L V):=by
 have hlen:(kG L V).length=n*2:=by
  subst hl;exact (lift.tF (fun i=>[Value.int .i64 (L.getD i (0,[])).1,.slice (V i).1 64 (V i).2]) 2 (by decide) L.length (fun i _=>rfl)).1
 exact ⟨hlen,fun _=>⟨b,0,rfl,h.lt,fun k u hu=>by rw [Nat.zero_add];exact (h.cell k).trans hu⟩⟩
theorem ru {w0 w:World} {l:List aI} {g d:Nat} {m:DS} {p k:Int} {s:cy} (h:St w0 w (slt g d p k s::bE d m::l)) (hp:PK p k) (fF:m.waits.length≤800) (se sz:Int) :
  Calls Tryz.prog 50 #[.pointer (some ⟨g,0,none⟩),ae aa se,ae aa sz] w fun e w'=>e=.returned (ae aa (eL m p k s se sz).1)∧St w0 w' (slt g d p k (eL m p k s se sz).2.2::bE d (eL m p k s se sz).2.1::l):=by
 obtain ⟨st,ak⟩:∃st:aR,st=⟨se,sz,0⟩:=⟨_,rfl⟩
 have HQ:=af (show eL m p k s se sz=if st.right then (if (wf m (bz p k) st.bytes).1=0 then (0,(wf m (bz p k) st.bytes).2,⟨true,st⟩) else ((wf m (bz p k) st.bytes).1,(wf m (bz p k) st.bytes).2,s)) else (3,m,s) by rw [ak];rfl);obtain ⟨x,hx⟩:=xE (wf m (bz p k) st.bytes);rw [←hx] at HQ;have HX:=af (show xq m [(bz p k,st.bytes)]=x by rw [Gt,hx]);have HP:=af hp;have bH:=af (show st.val=.agg #[ae aa se,ae aa sz,ae aa 0] by rw [ak];rfl);obtain ⟨w1,aF⟩:=xE (w.alloc (.cells #[ae aa se,ae aa sz,ae aa 0] 31));have H1:=af (show St w0 w1 (row w.heap.size 31 st.cells.toList::slt g d p k s::bE d m::l) by rw [aF,ak];exact h.new _ _);have br:=af aF
 obtain ⟨y0,y1,y2⟩:w1.cell? ⟨w.heap.size,0,none⟩=some (ae aa se)∧w1.cell? ⟨w.heap.size,1,none⟩=some (ae aa sz)∧w1.cell? ⟨w.heap.size,2,none⟩=some (ae aa 0):=by
  have h:=aR.read H1.o.row.1;rw [ak] at h;exact h
 have ly:=H1.o.row.1.lt;have HSX:=af (show st.aC=se∧st.size=sz∧st.bf=0 by rw [ak];exact ⟨rfl,rfl,rfl⟩);clear ak aF hx hp h;obtain ⟨ex,mx⟩:=x;simp only at HQ;go_enter Tryz.func50,Tryz.ntmps50;go_upto_region 4 with fail;rw [←br.o];go_wp2_with fail;rw [←bH.o];cases hg:st.right with
 | false =>
   have kd:=af (HQ.o.trans (if_neg (by rw [hg];decide)));refine (record.KG st _ hg).mono ?_;rintro e w2 ⟨rfl,hb⟩;have H2:=af (H1.o.below hb);clear hb hg;go_wp2_with fail;go_ret;rw [kd.o];exact ⟨rfl,H2.o.drop⟩
 | true =>
   have kd:=af (HQ.o.trans (if_pos hg));refine (record.Dn st _ hg).mono ?_;rintro e w2 ⟨v,rfl,ho,hb⟩;have H2:=af ((H1.o.cX hb ho).pick 2 rfl);obtain ⟨A,c,e2,hc,_⟩:=aD ho;subst e2;clear ho hb hg;go_wp2_with fail;refine (wB H2.o.row.1 HP.o).mono ?_;rintro e w3 ⟨rfl,hb⟩;have H3:=af ((H2.o.below hb).pick 3 rfl);clear hb;obtain ⟨w4,dW⟩:=xE (w3.alloc (.cells #[ae aa (bz p k),.slice A 64 c] 162))
   have H4:=af (show St w0 w4 (slt g d p k s::bE d m::row w3.heap.size 162 (kG [(bz p k,st.bytes)] fun _=>(A,c))::own 5 1 (.slice A 64 c) 64 (st.bytes.map (.int .u8))::row w.heap.size 31 st.cells.toList::l) by
    rw [dW];have h:=((H3.o.new 162 #[ae aa (bz p k),.slice A 64 c]).pick 1 rfl).pick 2 rfl
    exact h)
   have kL:=af dW;clear dW
   have sN:=af (kf H4.o (some ⟨w3.heap.size,0,none⟩) 1 1 [(bz p k,st.bytes)] (fun _=>(A,c)) rfl (by omega) (by omega) (fun w' m' h'=>⟨CI (h'.pick 2 rfl).row.1 rfl,fun j hj=>by
    obtain rfl:j=0:=by simpa using hj
    exact ⟨aR.bY _,Sl.bP (h'.pick 3 rfl).own⟩⟩))
   rw [HX.o] at sN;go_wp2_with fail;rw [←kL.o];refine sN.o.mono ?_;rintro e w5 ⟨rfl,h5⟩;have H5:=af h5;clear h5 y0 y1 y2 ly;by_cases he:ex=0
   ·subst he;have nJ:=af (kd.o.trans (if_pos rfl));obtain ⟨e0,e1,e2⟩:=HSX.o;obtain ⟨y0,y1,y2⟩:=aR.read (H5.o.pick 4 rfl).row.1;have ly:=(H5.o.pick 4 rfl).row.1.lt;have lg:=H5.o.row.1.lt;obtain ⟨cs,cY⟩:=xE (dM d p k ⟨s.has,st⟩);have nZ:=af (show (dM d p k s).take 4++st.cells.toList++(dM d p k s).drop (4+st.cells.size)=cs by rw [cY];rfl);have H8:=af (H5.o.setRow cs);have f3:=H8.o.row.1.frozen 3;have c3:=H8.o.row.1.cell 3;rw [show cs[3]?=some (.bool s.has) by rw [cY];rfl] at c3;have H9:=af (show St w0 _ (slt g d p k ⟨true,st⟩::_) by have h:=H8.o.set 3 (.bool true);rw [cY] at h;exact h);rw [←cY] at H9;have MS:=af (show (Tryz.prog.info? 31).map (·.size)=some st.cells.size from by kernel_rfl);have HE:=af (show 4+st.cells.size≤(dM d p k s).length from Nat.le_refl 7);have JC:=af (yC st);clear cY e0 e1 e2;go_wp2_with (refine aB rfl 31 (.tmp 38) (.tmp 36) rfl g 4 st.cells rfl rfl H5.o.row.1 MS.o HE.o JC.o cs nZ.o ?_);go_ret;rw [nJ.o];exact ⟨rfl,((((H9.o.pick 2 rfl).drop.pick 2 rfl).drop.pick 2 rfl).drop)⟩
   ·have b1:(ex != 0)=true:=by simpa using he
    have nJ:=af (kd.o.trans (if_neg he));clear he;go_wp2_with fail;go_ret;rw [nJ.o];exact ⟨rfl,((((H5.o.pick 2 rfl).drop.pick 2 rfl).drop.pick 2 rfl).drop)⟩
theorem Fq (w:World):(Instr.makeSlice 24 (ae aa 64) (ae aa 64)).run Tryz.prog w=.ok (.slice (some ⟨w.heap.size,0,none⟩) 64 64) (w.alloc (.cells (Array.replicate 64 (.int .u8 0)) 5)):=by
 have h:=vJ 64 (by decide) w;rw [show ((64:Nat):Int)=64 from rfl] at h;rw [h];rfl
theorem Wk {w0 w:World} {l:List aI} {g d:Nat} {m:DS} {p k:Int} {s:cy} (h:St w0 w (slt g d p k s::bE d m::l)) (hp:PK p k) (fF:m.waits.length≤800) :
  Calls Tryz.prog 56 #[.pointer (some ⟨g,0,none⟩)] w fun e w'=>e=.returned (ae aa (gy m p k s).1)∧St w0 w' (slt g d p k (gy m p k s).2.2::bE d (gy m p k s).2.1::l):=by
 have HQ:=af (show gy m p k s=if (wf m (bz p k) bt).1=0 then (0,(wf m (bz p k) bt).2,cy.none) else ((wf m (bz p k) bt).1,(wf m (bz p k) bt).2,s) from rfl);obtain ⟨x,hx⟩:=xE (wf m (bz p k) bt);rw [←hx] at HQ;have HX:=af (show xq m [(bz p k,bt)]=x by rw [Gt,hx]);have HP:=af hp;have H:=af h;have qB:=Fq;clear hx hp h;obtain ⟨ex,mx⟩:=x;simp only at HQ;have MS:=af (show (Tryz.prog.info? 31).map (·.size)=some aR.zero.cells.size from by kernel_rfl);have HE:=af (show 4+aR.zero.cells.size≤(dM d p k s).length from Nat.le_refl 7);have JC:=af (yC aR.zero);obtain ⟨cs,cY⟩:=xE (dM d p k ⟨s.has,aR.zero⟩);have nZ:=af (show (dM d p k s).take 4++aR.zero.cells.toList++(dM d p k s).drop (4+aR.zero.cells.size)=cs by rw [cY];rfl);have H3:=af (show cs[3]?=some (.bool s.has) by rw [cY];rfl);have wZ:=af (fun (w1:World) (ls:List aI) (h:St w0 w1 (row g 158 cs::ls))=>show St w0 _ (slt g d p k cy.none::ls) by rw [cY] at h;exact h.set 3 (.bool false));clear cY;go_enter Tryz.func56,Tryz.ntmps56;go_wp2_with fail;refine fK [0,1] [[2,3,4,5,6,7],[3,2,4,5,6,7]] (by kernel_rfl) (by kernel_rfl) (fun _ _ _ _ _ h=>h) ?_;simp only [mU,pick,xG];iterate 2 still_step
 refine wpStill_nil ?_;refine ⟨?_,?_⟩
 ·go_wp2_with fail;refine (wB H.o.drew.row.1 HP.o).mono ?_;rintro e w1 ⟨rfl,hb⟩;have H1:=af (H.o.drew.below hb);clear hb;obtain ⟨w2,eh⟩:∃w2,w2=(w1.alloc (.cells (Array.replicate 64 (.int .u8 0)) 5)).alloc (.cells #[ae aa (bz p k),.slice (some ⟨w1.heap.size,0,none⟩) 64 64] 162):=⟨_,rfl⟩
  have H2:=af (show St w0 w2 (slt g d p k s::bE d m::row (w1.heap.size+1) 162 (kG [(bz p k,bt)] fun _=>(some ⟨w1.heap.size,0,none⟩,64))::row w1.heap.size 5 (bt.map (.int .u8))::l) by
   rw [eh];have h:=(((H1.o.new 5 (Array.replicate 64 (.int .u8 0))).new 162 #[ae aa (bz p k),.slice (some ⟨w1.heap.size,0,none⟩) 64 64]).pick 3 rfl).pick 3 rfl;rw [show (w1.alloc (.cells (Array.replicate 64 (.int .u8 0)) 5)).heap.size=w1.heap.size+1 by simp] at h
   exact h)
  have jf:=af eh;clear eh
  have sN:=af (kf H2.o (some ⟨w1.heap.size+1,0,none⟩) 1 1 [(bz p k,bt)] (fun _=>(some ⟨w1.heap.size,0,none⟩,64)) rfl (by omega) (by omega) (fun w' m' h'=>⟨CI (h'.pick 2 rfl).row.1 rfl,fun j hj=>by
   obtain rfl:j=0:=by simpa using hj
   exact ⟨rfl,qt (h'.pick 3 rfl).row.1 rfl⟩⟩))
  rw [HX.o] at sN;go_wp2_with fail;rw [←jf.o];refine sN.o.mono ?_;rintro e w5 ⟨rfl,h5⟩;have H5:=af h5;clear h5;by_cases he:ex=0
  ·subst he;have nJ:=af (HQ.o.trans (if_pos rfl));have lg:=H5.o.row.1.lt;have H8:=af (H5.o.setRow cs);have f3:=H8.o.row.1.frozen 3;have c3:=H8.o.row.1.cell 3;rw [H3.o] at c3;have H9:=af (wZ.o _ _ H8.o);go_wp2_with (refine aB rfl 31 (.tmp 20) (.tmp 18) rfl g 4 aR.zero.cells rfl rfl H5.o.row.1 MS.o HE.o JC.o cs nZ.o ?_);go_ret;rw [nJ.o];exact ⟨rfl,((H9.o.pick 2 rfl).drop.pick 2 rfl).drop⟩
  ·have b1:(ex != 0)=true:=by simpa using he
   have nJ:=af (HQ.o.trans (if_neg he));clear he;go_wp2_with fail;go_ret;rw [nJ.o];exact ⟨rfl,((H5.o.pick 2 rfl).drop.pick 2 rfl).drop⟩
 ·have HZ:=af (H.o.drew.new 5 (Array.replicate 64 (.int .u8 0)));go_wp2_with fail;refine (wB (HZ.o.pick 1 rfl).row.1 HP.o).mono ?_;rintro e w1 ⟨rfl,hb⟩;have H1:=af (HZ.o.below hb);clear hb;obtain ⟨w2,eh⟩:=xE (w1.alloc (.cells #[ae aa (bz p k),.slice (some ⟨w.heap.size,0,none⟩) 64 64] 162))
  have H2:=af (show St w0 w2 (slt g d p k s::bE d m::row w1.heap.size 162 (kG [(bz p k,bt)] fun _=>(some ⟨w.heap.size,0,none⟩,64))::row w.heap.size 5 (bt.map (.int .u8))::l) by
   rw [eh];have h:=((H1.o.new 162 #[ae aa (bz p k),.slice (some ⟨w.heap.size,0,none⟩) 64 64]).pick 3 rfl).pick 3 rfl
   exact h)
  have jf:=af eh;clear eh
  have sN:=af (kf H2.o (some ⟨w1.heap.size,0,none⟩) 1 1 [(bz p k,bt)] (fun _=>(some ⟨w.heap.size,0,none⟩,64)) rfl (by omega) (by omega) (fun w' m' h'=>⟨CI (h'.pick 2 rfl).row.1 rfl,fun j hj=>by
   obtain rfl:j=0:=by simpa using hj
   exact ⟨rfl,qt (h'.pick 3 rfl).row.1 rfl⟩⟩))
  rw [HX.o] at sN;go_wp2_with fail;rw [←jf.o];refine sN.o.mono ?_;rintro e w5 ⟨rfl,h5⟩;have H5:=af h5;clear h5;by_cases he:ex=0
  ·subst he;have nJ:=af (HQ.o.trans (if_pos rfl));have lg:=H5.o.row.1.lt;have H8:=af (H5.o.setRow cs);have f3:=H8.o.row.1.frozen 3;have c3:=H8.o.row.1.cell 3;rw [H3.o] at c3;have H9:=af (wZ.o _ _ H8.o);go_wp2_with (refine aB rfl 31 (.tmp 20) (.tmp 18) rfl g 4 aR.zero.cells rfl rfl H5.o.row.1 MS.o HE.o JC.o cs nZ.o ?_);go_ret;rw [nJ.o];exact ⟨rfl,((H9.o.pick 2 rfl).drop.pick 2 rfl).drop⟩
  ·have b1:(ex != 0)=true:=by simpa using he
   have nJ:=af (HQ.o.trans (if_neg he));clear he;go_wp2_with fail;go_ret;rw [nJ.o];exact ⟨rfl,((H5.o.pick 2 rfl).drop.pick 2 rfl).drop⟩
end aG
namespace aG
open Go.RowKit Go.ChangeShapes Go.WideShapes Go.ChangeAt Go.Deep Go.Joins base obj mem bC aX record Go.Proofs.YtdldkkoplgkloaaGreat.bits sep aW bytes
theorem Bi {P:Program} {w:World} {ops:Array Oper} {rest:List Oper} {o:Oper} {a:Act} {Q:Exit→Act→World→Prop} (eP:o.guard=none) (d s:Operand) (dT sT:TypeId)
  (ho:o.op=.call { callee:=.builtin .copy,args:=#[d,s],argTypes:=#[dT,sT] }) (elem:TypeId) (hu:P.underlying dT=some (.slice elem)) (iP:(P.info? elem).map (·.size)=some 1)
  (g off EH LW:Nat) (ad:Addr) (qW zI:Nat) (hd:a.eval d=.slice (some ⟨g,off,none⟩) EH LW) (hs:a.eval s=.slice (some ad) qW zI)
  {t:TypeId} {xs:List Value} (hr:Row w g t xs) (cs:List Value) (hn:cs.length=Nat.min qW EH) (GU:∀j v,cs[j]?=some v→w.cell? (ad.add j)=some v) (oq:off+cs.length≤xs.length) (h1:∀v∈cs,v.oneCell'=true)
  (r:List Value) (oM:xs.take off++(cs++xs.drop (off+cs.length))=r)
  (h:wpList P ops Q rest (a.put o.dst (goInt cs.length)) (w.setRow g r.toArray)):wpList P ops Q (o::rest) a w:=by
 subst oM;exact wpList_copy_own eP d s dT sT ho elem hu iP g off EH LW ad qW zI hd hs xs.toArray t hr cs hn GU (by simpa using oq) h1 h
theorem Ed:(Tryz.prog.info? 5).map (·.size)=some 1:=by kernel_rfl
theorem XH (m:DS) (i:Int) (bs:List Int) (j:Int) (cs:List Int):xq m [(i,bs),(j,cs)]=vR m i bs j cs:=by
 show (if (wf m i bs).1=0 then xq (wf m i bs).2 [(j,cs)] else wf m i bs)=_
 rw [Gt];rfl
theorem OY {b data:List Int} {no f:Nat} (hf:f=no % 4*16) (hd:data.length=16):(b.map (Value.int .u8)).take f++(data.map (Value.int .u8)++(b.map (Value.int .u8)).drop (f+(data.map (Value.int .u8)).length))=(splice b no data).map (Value.int .u8):=by
 unfold splice;rw [iB,hd,List.map_append,List.map_append,List.map_take,List.map_drop,List.append_assoc,hf]
theorem RF {w0 w:World} {l:List aI} {g d:Nat} {m:DS} {p k:Int} {s:cy} (h:St w0 w (slt g d p k s::bE d m::l)) (hr:s.has=true→s.st.right=true) (se no:Int) (A:Option Addr) (n c:Nat) (hw:gN s se no n≠0) :
  Calls Tryz.prog 51 #[.pointer (some ⟨g,0,none⟩),ae aa se,ae aa no,.slice A n c] w fun e w'=>e=.returned (ae aa (gN s se no n))∧St w0 w' (slt g d p k s::bE d m::l):=by
 have H:=af h;have HW:=af (kO h.row.1 hr se no A n c);obtain ⟨ev,zf⟩:=xE (gN s se no n);rw [←zf] at HW hw ⊢;have b1:(ev != 0)=true:=by simpa using hw
 clear h hr hw zf;go_enter Tryz.func51,Tryz.ntmps51;go_wp2_with fail;refine HW.o.mono ?_;rintro e w1 ⟨rfl,rfl⟩;go_wp2_with fail;go_ret;exact ⟨rfl,H.o⟩
theorem Yc {w0 w:World} {l:List aI} {g d:Nat} {m:DS} {p k:Int} {s:cy} (h:St w0 w (slt g d p k s::bE d m::l)) (hr:s.has=true→s.st.right=true) (se:Int) (q:Nat) (hq:q < 16) (A:Option Addr) (n c:Nat) (hw:gN s se q n=0) (hb:dg s.st.bf q=true) :
  Calls Tryz.prog 51 #[.pointer (some ⟨g,0,none⟩),ae aa se,ae aa (q:Int),.slice A n c] w fun e w'=>e=.returned (ae aa 0)∧St w0 w' (slt g d p k s::bE d m::l):=by
 have H:=af h;have HW:=af (kO h.row.1 hr se q A n c);rw [hw] at HW;have HB:=af (fun w=>bits.Lz s.st.bf q w hq);rw [hb] at HB;obtain ⟨c0,c1,c2,c3,c4,c5,c6,lg⟩:=fP h.row.1;clear h hr hw hb;go_enter Tryz.func51,Tryz.ntmps51;go_wp2_with fail;refine HW.o.mono ?_;rintro e w1 ⟨rfl,rfl⟩;go_wp2_with fail;refine (HB.o _).mono ?_;rintro e w2 ⟨rfl,rfl⟩;go_wp2_with fail;go_ret;exact ⟨rfl,H.o⟩
theorem Yb {w0 w:World} {l:List aI} {g d:Nat} {m:DS} {p k:Int} {s:cy} (h:St w0 w (slt g d p k s::bE d m::l)) (hp:Pl m p k) (hr:s.has=true→s.st.right=true) (fF:m.waits.length≤800) (se:Int) (n:Nat) (A:Option Addr) (c:Nat) (data:List Int) (hn:data.length=16)
  (hs:∀w' m',St w0 w' (slt g d p k s::bE d m'::l)→Sl w' w'.heap.size 1 A 16 (data.map (.int .u8))) (hw:gN s se n 16=0) (hb:dg s.st.bf n=false) :
  Calls Tryz.prog 51 #[.pointer (some ⟨g,0,none⟩),ae aa se,ae aa (n:Int),.slice A 16 c] w fun e w'=>e=.returned (ae aa (gU m p k s se n data).1)∧St w0 w' (slt g d p k (gU m p k s se n data).2.2::bE d (gU m p k s se n data).2.1::l):=by
 have H:=af h;have HW:=af (kO h.row.1 hr se n A 16 c);rw [hw] at HW;obtain ⟨hh,w1,w2,w3,_⟩:=pC hw;have xH:=hr hh;obtain ⟨⟨z1,z2⟩,⟨z3,z4⟩,z5,z6⟩:=iD xH;have EB:n < 10:=by unfold aQ at w3;omega
 have lK:=af (BF xH (by omega:n < aQ s.st.size));have HB:=af (fun w=>bits.Lz s.st.bf n w (by omega));rw [hb] at HB;have Bd:=af (fun w=>bits.XG s.st.bf n w (by omega) ⟨by omega,by omega⟩);obtain ⟨q,hq⟩:∃q:Nat,q=n / 4:=⟨_,rfl⟩
 obtain ⟨f,hf⟩:∃f:Nat,f=n % 4*16:=⟨_,rfl⟩
 have NS:q < 3:=by omega
 have ad8:f≤48:=by omega
 have BN:(n:Int) / 4=(q:Int):=by omega
 have SK:(n:Int) % 4*16=(f:Int):=by omega
 have iS:=af (fun w=>place.Wq (n:Int) w (by omega) (by omega));rw [BN,SK] at iS;have Gq:=af (fun w=>place.C5 p k (q:Int) w hp.p0 hp.p1 hp.k0 hp.k1 (by omega) (by omega));obtain ⟨at_,mo⟩:=xE (eg p k (q:Int));rw [show p*10+(2+k*4+1+(q:Int))=at_ by rw [mo];rfl] at Gq;obtain ⟨a0,a1⟩:=hp.at_ (i:=(q:Int)) (by omega) (by omega);rw [←mo] at a0 a1;obtain ⟨nx,gp⟩:=xE (sw s.st n);obtain ⟨bs,gF⟩:=xE (m.now at_.toNat);obtain ⟨x,hx⟩:=xE (vR m at_ (splice bs n data) (bz p k) nx.bytes)
 have HQ:=af (show gU m p k s se n data=if m.down then (8,m,s) else if x.1=0 then (0,x.2,⟨true,nx⟩) else (x.1,x.2,s) by
  unfold gU
  rw [hn,if_neg (not_not_intro hw),dC,if_neg (by rw [hb];decide),BN,←mo,←gF,←gp,←hx])
 have HX:=af (show xq m [(at_,splice bs n data),(bz p k,nx.bytes)]=x by rw [XH,hx]);have ux:=af hp.pk;have ch:=af (show bs.length=64 by rw [gF];exact hp.bu.yK (by omega));have aba:=af (show (splice bs n data).length=64 from oz ch.o n hn);have jU:=af (OY (b:=bs) hf hn);have HS:=af hs;have HDN:=af hn;have HNH:=af (show nx.aC=s.st.aC∧nx.size=s.st.size∧nx.bf=oa s.st.bf n by rw [gp];exact ⟨rfl,rfl,rfl⟩);rw [←gp] at lK;have HNV:=af (show nx.val=.agg #[ae aa s.st.aC,ae aa s.st.size,ae aa (oa s.st.bf n)] by rw [gp];rfl);have yg:=af (show (s.st.cells.toList).set 2 (ae aa (oa s.st.bf n))=nx.cells.toList by rw [gp];rfl);have qH:=af hh;obtain ⟨c0,c1,c2,c3,c4,c5,c6,lg⟩:=fP h.row.1;cases hd:m.down with
 | true =>
   have px:=af (fun (w1:World) (h1:St w0 w1 (slt g d p k s::bE d m::l))=>by
    have h:=DK h1.swap at_ (.inr hd) (by omega);rw [if_neg (by omega)] at h
    exact h)
   rw [hd] at HQ;have kd:=af (HQ.o.trans (if_pos rfl));clear h hr hw hb hs hn gp gF hx mo hq hf BN SK hp hh w1 w2 w3 z1 z2 z3 z4 z5 z6 xH hd;go_enter Tryz.func51,Tryz.ntmps51;go_wp2_with fail;refine HW.o.mono ?_;rintro e w1 ⟨rfl,rfl⟩;go_wp2_with fail;refine (HB.o _).mono ?_;rintro e w2 ⟨rfl,rfl⟩;go_wp2_with fail;refine (iS.o _).mono ?_;rintro e w3 ⟨rfl,rfl⟩;go_wp2_with fail
   go_region_law (first|(go_simp;(with_reducible refine (Gq.o _).mono ?_);rintro e w4 ⟨rfl,hb⟩;have fD:=af hb;clear hb;dsimp only))
   all_goals
    have H4:=af (H.o.drew.below fD.o);clear c0 c1 c2 c3 c4 c5 c6 lg;obtain ⟨c0,c1,c2,c3,c4,c5,c6,lg⟩:=fP H4.o.row.1;go_wp2_with fail;refine (px.o _ H4.o).mono ?_;rintro e w5 ⟨rfl,h5⟩;have H5:=af h5;clear h5;go_wp2_with fail;go_ret;rw [kd.o];exact ⟨rfl,H5.o.swap⟩
 | false =>
   have px:=af (fun (w1:World) (h1:St w0 w1 (slt g d p k s::bE d m::l))=>by
    have h:=Al h1.swap at_ at_.toNat (by omega) (by omega) hd (by omega);rw [←gF] at h
    exact h)
   rw [hd] at HQ;have kd:=af (HQ.o.trans (if_neg (by decide)));clear h hr hw hb hs hn gp gF hx mo hq hf BN SK hp hh w1 w2 w3 z1 z2 z3 z4 z5 z6 xH hd;go_enter Tryz.func51,Tryz.ntmps51;go_wp2_with fail;refine HW.o.mono ?_;rintro e w1 ⟨rfl,rfl⟩;go_wp2_with fail;refine (HB.o _).mono ?_;rintro e w2 ⟨rfl,rfl⟩;go_wp2_with fail;refine (iS.o _).mono ?_;rintro e w3 ⟨rfl,rfl⟩;go_wp2_with fail
   go_region_law (first|(go_simp;(with_reducible refine (Gq.o _).mono ?_);rintro e w4 ⟨rfl,hb⟩;have fD:=af hb;clear hb;dsimp only))
   all_goals
    have H4:=af (H.o.drew.below fD.o);clear c0 c1 c2 c3 c4 c5 c6 lg;obtain ⟨c0,c1,c2,c3,c4,c5,c6,lg⟩:=fP H4.o.row.1;go_wp2_with fail;refine (px.o _ H4.o).mono ?_;rintro e w5 ⟨b,rfl,h5⟩;have H5:=af h5;clear h5;obtain ⟨ad,hA,Of,GU⟩:=Sl.src (HS.o _ _ H5.o.drop.swap) (by omega);subst hA;have Ms:=af GU;clear GU Of c0 c1 c2 c3 c4 c5 c6 lg;have H6:=af (show St w0 _ (row b 5 ((splice bs n data).map (.int .u8))::_) from H5.o.setRow ((splice bs n data).map (.int .u8)));have H6':=af ((H6.o.pick 1 rfl).pick 2 rfl);obtain ⟨w6,mK⟩:=xE (w5.setRow b ((splice bs n data).map (Value.int .u8)).toArray);rw [←mK] at H6 H6';have Ck:=af mK;obtain ⟨w7,xD⟩:=xE (w6.alloc (.cells #[ae aa s.st.aC,ae aa s.st.size,ae aa s.st.bf] 31));have H7:=af (show St w0 w7 (row w6.heap.size 31 s.st.cells.toList::slt g d p k s::bE d m::row b 5 ((splice bs n data).map (.int .u8))::l) by rw [xD];exact (H6'.o.new 31 s.st.cells));have Oz:=af xD;clear mK xD;have f2:=H7.o.row.1.frozen 2;have s2:=H7.o.row.1.c2;have ls:=H7.o.row.1.lt;have H8:=af (show St w0 _ (row w6.heap.size 31 nx.cells.toList::_) by have h:=H7.o.set 2 (ae aa (oa s.st.bf n));rw [yg.o] at h;exact h);obtain ⟨w8,wF⟩:=xE (w7.setCell ⟨w6.heap.size,2,none⟩ (ae aa (oa s.st.bf n)));rw [←wF] at H8;have Mr:=af wF;clear wF;obtain ⟨g0,g1,g2,g3,g4,g5,g6,lg⟩:=fP H6'.o.row.1;have adr:=af (show (data.map (Value.int .u8)).length=Nat.min 16 (64-f) by rw [iB,HDN.o];show 16=min 16 (64-f);omega);have adq:=af (show f+(data.map (Value.int .u8)).length≤(bs.map (Value.int .u8)).length by rw [iB,iB,HDN.o,ch.o];omega);go_upto_region 10 with (refine Bi rfl (.tmp 71) (.tmp 72) 24 24 rfl 5 Tryz.underlying24 Ed b f (64-f) (64-f) ad 16 c rfl rfl H5.o.row.1 (data.map (.int .u8)) adr.o Ms.o adq.o (ji data) _ jU.o ?_)
    rw [←Ck.o];go_upto_region 11 with fail;rw [←Oz.o];go_wp2_with fail;refine (Bd.o _).mono ?_;rintro e w9 ⟨rfl,rfl⟩;go_upto_region 12 with fail;rw [←Mr.o];clear f2 s2 ls g0 g1 g2 g3 g4 g5 g6 lg;obtain ⟨t0,t1,t2⟩:=aR.read H8.o.row.1;have lt:=H8.o.row.1.lt;obtain ⟨e0,e1,e2⟩:=HNH.o;rw [e0] at t0;rw [e1] at t1;rw [e2] at t2;go_wp2_with fail;rw [←HNV.o];refine (record.Dn nx _ lK.o).mono ?_;rintro e Q1 ⟨v,rfl,ho,hb⟩;have mR:=af ((H8.o.cX hb ho).pick 2 rfl);obtain ⟨A',c',e3,cZ,_⟩:=aD ho;subst e3;clear ho hb t0 t1 t2 lt e0 e1 e2;go_wp2_with fail;refine (wB mR.o.row.1 ux.o).mono ?_;rintro e vT ⟨rfl,hb⟩;have uz:=af ((mR.o.below hb).pick 3 rfl);clear hb;obtain ⟨Nk,zY⟩:=xE (vT.alloc (.cells #[ae aa at_,.slice (some ⟨b,0,none⟩) 64 64,ae aa (bz p k),.slice A' 64 c'] 162))
    have Cx:=af (show St w0 Nk (slt g d p k s::bE d m::row vT.heap.size 162 (kG [(at_,splice bs n data),(bz p k,nx.bytes)] fun j=>if j=0 then (some ⟨b,0,none⟩,64) else (A',c'))::own 5 1 (.slice A' 64 c') 64 (nx.bytes.map (.int .u8))::row w6.heap.size 31 nx.cells.toList::row b 5 ((splice bs n data).map (.int .u8))::l) by
     rw [zY];have h:=((uz.o.new 162 #[ae aa at_,.slice (some ⟨b,0,none⟩) 64 64,ae aa (bz p k),.slice A' 64 c']).pick 1 rfl).pick 2 rfl
     exact h)
    have acY:=af zY;clear zY
    have sN:=af (kf Cx.o (some ⟨vT.heap.size,0,none⟩) 2 2 [(at_,splice bs n data),(bz p k,nx.bytes)] (fun j=>if j=0 then (some ⟨b,0,none⟩,64) else (A',c')) rfl (by omega) (by omega) (fun w' m' h'=>⟨CI (h'.pick 2 rfl).row.1 rfl,fun j hj=>by
     have BS:j < 2:=hj
     match j,BS with
     | 0,_=>exact ⟨aba.o,qt (h'.pick 5 rfl).row.1 aba.o⟩
     | 1,_=>exact ⟨aR.bY _,Sl.bP (h'.pick 3 rfl).own⟩⟩))
    rw [HX.o] at sN;clear HX;obtain ⟨ex,mx⟩:=x;simp only at kd sN;go_wp2_with fail;rw [←acY.o];refine sN.o.mono ?_;rintro e E2 ⟨rfl,DI⟩;have mQ:=af DI;clear DI;by_cases he:ex=0
    ·subst he;have nJ:=af (kd.o.trans (if_pos rfl));obtain ⟨y0,y1,y2⟩:=aR.read (mQ.o.pick 4 rfl).row.1;have ly:=(mQ.o.pick 4 rfl).row.1.lt;have lg:=mQ.o.row.1.lt;have nZ:=af (show (dM d p k s).take 4++nx.cells.toList++(dM d p k s).drop (4+nx.cells.size)=dM d p k ⟨true,nx⟩ by rw [←qH.o];rfl);have xo:=af (show St w0 _ (slt g d p k ⟨true,nx⟩::_) from mQ.o.setRow (dM d p k ⟨true,nx⟩));have MS:=af (show (Tryz.prog.info? 31).map (·.size)=some nx.cells.size from by kernel_rfl);have HE:=af (show 4+nx.cells.size≤(dM d p k s).length from Nat.le_refl 7);have JC:=af (yC nx);go_wp2_with (refine aB rfl 31 (.tmp 104) (.tmp 102) rfl g 4 nx.cells rfl rfl mQ.o.row.1 MS.o HE.o JC.o _ nZ.o ?_);go_ret;rw [nJ.o];exact ⟨rfl,((((xo.o.pick 2 rfl).drop.pick 2 rfl).drop.pick 2 rfl).drop.pick 2 rfl).drop⟩
    ·have b1:(ex != 0)=true:=by simpa using he
     have nJ:=af (kd.o.trans (if_neg he));clear he;go_wp2_with fail;go_ret;rw [nJ.o];exact ⟨rfl,((((mQ.o.pick 2 rfl).drop.pick 2 rfl).drop.pick 2 rfl).drop.pick 2 rfl).drop⟩
end aG
namespace eu
open Go.RowKit base obj mem bC num bytes record oH
theorem kK (w:World) (size:Int) (h1:size≤1000) (h0:-9223372036854775808≤size):Calls Tryz.prog 158 #[ae aa size] w fun e w'=>e=.returned (ae aa (aQ size:Nat))∧w'=w:=by
 go_enter Tryz.func158,Tryz.ntmps158;go_wp2_with fail;go_loopw [3,0] (fun k s wr=>∃j:Nat,j≤63∧(0 < j→16*((j:Int)-1) < size)∧k=ae aa j∧s=ae aa (size-16*j)∧wr=w) (fun _ s _=>(intOf s).toNat)
 case atStart=>exact ⟨0,by omega,by omega,rfl,by simp,rfl⟩
 case round =>
  obtain ⟨j,hj,BS,rfl,rfl,rfl⟩:=hrel;have a1:(j:Int) < 1000:=by omega
  by_cases aH:size-16*(j:Int) > 0
  ·have HJ:=af BS;clear BS;generalize hs:size-16*(j:Int)=s at *;have j8:s≤1000:=by omega
   have HS:=af hs;clear hs;go_wp2_with fail;go_roundw;case rel=>exact ⟨j+1,by have:=HS.o;omega,by have:=HS.o;omega,by go_num,by rw [show s-16=size-16*((j+1:Nat):Int) by have:=HS.o;omega],trivial⟩
   case measure=>simp [intOf]<;>omega
  ·have HB:=af (show ((aQ size:Nat):Int)=j by unfold aQ;omega);have pK:size-16*(j:Int)≤0:=by omega
   generalize hs:size-16*(j:Int)=s at *;have HS:=af hs;clear hs BS aH;have aH:¬s > 0:=by omega
   go_wp2_with fail;go_ret;exact ⟨bx (by rw [HB.o]),rfl⟩
theorem oG (s:aR) (w:World) (hI:-9223372036854775808≤s.size):Calls Tryz.prog 157 #[s.val] w fun e w'=>e=.returned (.bool s.right)∧Below w.heap.size w w':=by
 obtain ⟨aC,size,bf⟩:=s;unfold aR.val aR.cells;have HB:=af (fun o=>(Below.refl w.heap.size w).alloc (Nat.le_refl _) o);by_cases hr:1≤aC∧aC≤65535∧1≤size∧size≤160∧0≤bf
 ·obtain ⟨a1,a2,a3,a4,a5⟩:=hr;obtain ⟨b,hb⟩:=xE (aQ size);have kb:1≤b:=by rw [hb];unfold aQ;omega
  have aaM:b≤10:=by rw [hb];unfold aQ;omega
  have ch:=af (show ∀W,Calls Tryz.prog 158 #[ae aa size] W fun e w'=>e=.returned (ae aa (b:Nat))∧w'=W by rw [hb];exact fun W=>kK W size (by omega) (by omega))
  have HE:=af (show aR.right ⟨aC,size,bf⟩=decide (bf < 2 ^ b) by
   unfold aR.right;simp only;rw [←hb];rw [Bool.eq_iff_iff];simp
   omega)
  clear hb hI;go_enter Tryz.func157,Tryz.ntmps157;go_wp2_with fail;obtain ⟨w1,aF⟩:=xE (w.alloc (.cells #[ae aa aC,ae aa size,ae aa bf] 31));rw [←aF];have d1:w1.cell? ⟨w.heap.size,1,none⟩=some (ae aa size):=by rw [aF];exact World.cell?_alloc_new _ _ _ _
  have d2:w1.cell? ⟨w.heap.size,2,none⟩=some (ae aa bf):=by rw [aF];exact World.cell?_alloc_new _ _ _ _
  have bh:=af (show Below w.heap.size w w1 by rw [aF];exact HB.o _);clear aF HB;go_loopw [4,3] (fun k s wr=>∃j:Nat,j≤b∧k=ae aa j∧s=ae aa ((2 ^ j:Nat):Int)∧wr=w1) (fun k _ _=>b-(intOf k).toNat)
  case atStart=>exact ⟨0,by omega,rfl,rfl,rfl⟩
  case round =>
   obtain ⟨j,hj,rfl,rfl,rfl⟩:=hrel
   have hp:2 ^ j≤1024:=by
    have:=Nat.pow_le_pow_right (n:=2) (by decide) (show j≤10 by omega);simpa using this
   have HP:=af (show 2 ^ (j+1)=2*2 ^ j by rw [Nat.pow_succ,Nat.mul_comm]);have DQ:=af (show j=b→((2 ^ j:Nat):Int)=2 ^ b by rintro rfl;simp);by_cases aH:j < b
   ·have df:(j:Int) < (b:Int):=by omega
    generalize 2 ^ j=p at *;go_wp2_with fail;refine (ch.o _).mono ?_;rintro e w' ⟨rfl,rfl⟩;go_wp2_with fail;go_roundw;case rel=>exact ⟨j+1,by omega,by go_num,by rw [HP.o];go_num,trivial⟩
    case measure=>simp [intOf]<;>omega
   ·have dJ:j=b:=by omega
    have df:¬(j:Int) < (b:Int):=by omega
    have Gj:=af (DQ.o dJ);clear dJ;generalize 2 ^ j=p at *;go_wp2_with fail;refine (ch.o _).mono ?_;rintro e w' ⟨rfl,rfl⟩;go_wp2_with fail;go_ret;exact ⟨aA (by rw [HE.o,←Gj.o]),bh.o⟩
 ·go_enter Tryz.func157,Tryz.ntmps157;have HR:=af hr;clear hr;go_wp2_with fail
  all_goals first
   | (go_ret;refine ⟨aA ?_,HB.o _⟩;simp [aR.right]<;>omega)
   | (exfalso;have:=HR.o;omega)
end eu
end Go.Proofs.YtdldkkoplgkloaaGreat
