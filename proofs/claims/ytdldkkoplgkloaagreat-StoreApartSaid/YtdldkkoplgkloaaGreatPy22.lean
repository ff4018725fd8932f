/-
  PROVED HERE: lemmas that the law leans on.
  CONDITIONS: each names its own.
-/
import Derived.BigQuiet
import Derived.Deep.CutBlock
import Derived.Deep.DeepCutAuto
import Derived.Deep.QuietTactic
import Derived.Deep.RegionHeld3
import Derived.Deep.RegionLaw
import Derived.Test.YtdldkkoplgkloaaGreatPy0
import Derived.Test.YtdldkkoplgkloaaGreatPy4
import Derived.Test.YtdldkkoplgkloaaGreatPy10
import Derived.Test.YtdldkkoplgkloaaGreatPy17
import Derived.Test.YtdldkkoplgkloaaGreatPy18
import Derived.Test.YtdldkkoplgkloaaGreatPy19
import Derived.Test.YtdldkkoplgkloaaGreatPy21
namespace Go.Proofs.YtdldkkoplgkloaaGreat
set_option linter.unusedVariables false
set_option linter.unusedSimpArgs false
set_option maxRecDepth 100000
set_option maxHeartbeats 32000000
namespace aU

open Go.RowKit Go.ChangeShapes Go.WideShapes Go.ChangeAt Go.Deep Go.Joins base obj mem bw bk record Go.Proofs.YtdldkkoplgkloaaGreat.bits sep bf bytes
def dJ (d:Nat) (p k:Int) (s:bC):List Value:=[.pointer (some ⟨d,0,none⟩),.int .i64 p,.int .i64 k,.bool s.has]++s.st.cells.toList
def slt (g d:Nat) (p k:Int) (s:bC):aD:=row g 158 (dJ d p k s)
theorem fp {w:World} {g d:Nat} {p k:Int} {s:bC} (h:Row w g 158 (dJ d p k s)) :
  w.cell? ⟨g,0,none⟩=some (.pointer (some ⟨d,0,none⟩))∧w.cell? ⟨g,1,none⟩=some (.int .i64 p)∧w.cell? ⟨g,2,none⟩=some (.int .i64 k)∧w.cell? ⟨g,3,none⟩=some (.bool s.has)∧
  w.cell? ⟨g,4,none⟩=some (.int .i64 s.st.aG)∧w.cell? ⟨g,5,none⟩=some (.int .i64 s.st.size)∧w.cell? ⟨g,6,none⟩=some (.int .i64 s.st.bd)∧g < w.heap.size :=
 ⟨h.cell 0,h.cell 1,h.cell 2,h.cell 3,h.cell 4,h.cell 5,h.cell 6,h.lt⟩
structure PK (p k:Int):Prop where
 p0:0≤p
 p1:p < 4
 k0:0≤k
 k1:k < 2
theorem Pl.pk {m:DS} {p k:Int} (h:Pl m p k):PK p k:=⟨h.p0,h.p1,h.k0,h.k1⟩
theorem uQ {w:World} {g d:Nat} {p k:Int} {s:bC} (h:Row w g 158 (dJ d p k s)) (hp:PK p k) :
  Calls Tryz.prog 90 #[.pointer (some ⟨g,0,none⟩)] w fun e w'=>e=.returned (.int .i64 (bM p k))∧Below w.heap.size w w':=by
 obtain ⟨c0,c1,c2,c3,c4,c5,c6,lg⟩:=fp h.drew;have HC:=aa (place.I6 p k w.drew hp.p0 hp.p1 hp.k0 hp.k1);clear h hp;go_enter Tryz.func90,Tryz.ntmps90;go_wp2_with fail
 go_region_law (first|(go_simp;(with_reducible refine HC.o.mono ?_);rintro e w2 ⟨rfl,hb⟩;have HB:=aa hb;clear hb;dsimp only))
 all_goals
  go_wp2_with fail;go_ret;exact ⟨rfl,⟨HB.o.os,HB.o.tape,HB.o.output,HB.o.size,HB.o.block⟩⟩
def vD:DS→List (Int×List Int)→Int×DS
 | m,[]=>(0,m)
 | m,x::l=>if (wf m x.1 x.2).1=0 then vD (wf m x.1 x.2).2 l else wf m x.1 x.2
theorem O9 (m:DS) (i:Int) (bs:List Int):(m.write i bs).2.waits.length≤m.waits.length+1:=by
 unfold DS.write;split
 ·exact Nat.le_succ _
 ·split
  ·exact Nat.le_succ _
  ·split
   ·simp [DS.put,DS.fk]
   ·show m.bH.waits.length≤_
    rw [DS.fk];exact Nat.le_succ _
theorem XC (m:DS) (i:Int) (bs:List Int):(wf m i bs).2.waits.length≤m.waits.length+1:=by
 have h:=O9 m i bs;unfold wf;split
 ·unfold DS.flush;split
  ·exact Nat.zero_le _
  ·rw [DS.fk];exact h
 ·exact h
def jX (L:List (Int×List Int)) (V:Nat→Option Addr×Nat):List Value:=(List.range L.length).flatMap fun j=>[.int .i64 (L.getD j (0,[])).1,.slice (V j).1 64 (V j).2]
theorem Ih {L:List (Int×List Int)} (V:Nat→Option Addr×Nat) {j:Nat} (hj:j < L.length):(jX L V)[j*2]?=some (.int .i64 L[j].1)∧(jX L V)[j*2+1]?=some (.slice (V j).1 64 (V j).2):=by
 have h:=lift.sA (fun i=>[Value.int .i64 (L.getD i (0,[])).1,.slice (V i).1 64 (V i).2]) 2 (by decide) L.length (fun i _=>rfl);have e:L.getD j (0,[])=L[j]:=by rw [dz,cM hj];rfl
 have h0:=h.2 j 0 hj (by decide);rw [e] at h0;exact ⟨h0,h.2 j 1 hj (by decide)⟩
theorem jL {w0 w:World} {l:List aD} {g d:Nat} {m:DS} {p k:Int} {s:bC} (h:St w0 w (slt g d p k s::bU d m::l)) (A:Option Addr) (n c:Nat) (L:List (Int×List Int)) (V:Nat→Option Addr×Nat) (hn:L.length=n) (hn9:n≤50) (fY:m.waits.length≤900)
  (hA:∀w' m',St w0 w' (slt g d p k s::bU d m'::l)→Sl w' w'.heap.size 2 A n (jX L V)∧∀j (hj:j < L.length),L[j].2.length=64∧Sl w' w'.heap.size 1 (V j).1 64 (L[j].2.map (.int .u8))) :
  Calls Tryz.prog 89 #[.pointer (some ⟨g,0,none⟩),.slice A n c] w fun e w'=>e=.returned (.int .i64 (vD m L).1)∧St w0 w' (slt g d p k s::bU d (vD m L).2::l):=by
 have H:=aa h;have HN:=aa hn;have HA:=aa hA;clear h hn hA;go_enter Tryz.func89,Tryz.ntmps89;go_wp2_with fail;go_loopw [11] (fun i wr=>∃(q:Nat) (m':DS),q≤n∧i=.int .i64 q∧St w0 wr (slt g d p k s::bU d m'::l)∧m'.waits.length≤900+q∧vD m L=vD m' (L.drop q)) (fun i _=>n-(intOf i).toNat)
 case atStart=>exact ⟨0,m,by omega,rfl,H.o,fY,rfl⟩
 case round =>
  obtain ⟨q,m1,hq,rfl,hi,aJ,hwf⟩:=hrel;have HI:=aa hi;have RG:=aa hwf;clear hi hwf;by_cases aK:q < n
  ·have cZ:(q:Int) < (n:Int):=by omega
   have hql:q < L.length:=by rw [HN.o];exact aK
   obtain ⟨dB,cN⟩:=HA.o _ _ HI.o;obtain ⟨b,off,rfl,lb,cX⟩:=dB.2 (by omega);obtain ⟨s0,s1⟩:=Ih V hql;have a0:wr.cell? ⟨b,off+q*2,none⟩=_:=cX _ _ s0;have a1:wr.cell? ⟨b,off+(q*2+1),none⟩=_:=cX _ _ s1;rw [←Nat.add_assoc] at a1;obtain ⟨rD,xG⟩:=cN q hql;have HD:=aa (show L.drop q=L[q]::L.drop (q+1) from List.drop_eq_getElem_cons hql);generalize L[q]=x at a0 rD xG HD s0;obtain ⟨at_,bs⟩:=x;simp only at a0 rD xG;generalize V q=v at a1 xG s1;obtain ⟨B,cB⟩:=v;simp only at a1 xG;rw [HD.o] at RG;have HX:=aa (show vD m1 ((at_,bs)::L.drop (q+1))=if (wf m1 at_ bs).1=0 then vD (wf m1 at_ bs).2 (L.drop (q+1)) else wf m1 at_ bs from rfl);have HFW:=aa (XC m1 at_ bs);obtain ⟨x,hx⟩:∃x,x=m1.write at_ bs:=⟨_,rfl⟩
   have RF:=aa (show wf m1 at_ bs=if x.1=0 then x.2.flush else x by rw [hx];rfl);have HL:=aa (show x.2.waits.length≤1000000 by have:=O9 m1 at_ bs;rw [hx];omega);obtain ⟨w2,dY⟩:∃w2,w2=wr.alloc (.cells #[.int .i64 at_,.slice B 64 cB] 162):=⟨_,rfl⟩
   have H2:=aa (show St w0 w2 (row wr.heap.size 162 [.int .i64 at_,.slice B 64 cB]::slt g d p k s::bU d m1::l) by rw [dY];exact HI.o.new _ _)
   have HSQ:=aa (show Sl w2 w2.heap.size 1 B 64 (bs.map (.int .u8)) by
    have hb:Below wr.heap.size wr w2:=by rw [dY];exact (Below.refl _ _).alloc (Nat.le_refl _) _
    exact (xG.below hb).more hb.size)
   have HW:=aa (GV (H2.o.drew.pick 2 rfl) at_ B 64 cB bs rD (HSQ.o.below (Below.refl _ _).drew) (by omega));rw [←hx] at HW;have iL:=aa dY;clear hx dY cX dB cN s0 s1 xG rD;obtain ⟨ev,m2⟩:=x;simp only at RF HW HL;go_upto_region 4 with fail;rw [←iL.o];obtain ⟨y0,y1⟩:w2.cell? ⟨wr.heap.size,0,none⟩=some (.int .i64 at_)∧w2.cell? ⟨wr.heap.size,1,none⟩=some (.slice B 64 cB):=⟨H2.o.row.1.cell 0,H2.o.row.1.cell 1⟩
   have ly:=H2.o.row.1.lt;obtain ⟨c0,c1,c2,c3,c4,c5,c6,lg⟩:=fp (H2.o.pick 1 rfl).row.1;clear a0 a1 lb;go_wp2_with fail;refine ff [0,1,2,4,6,3,5,7] [[8,9]] (by kernel_rfl) (by kernel_rfl) (fun _ _ _ _ _ h=>h) ?_;simp only [mq,pick,af,ae,ah];iterate 8 still_step
   refine wpStill_nil ?_;go_wp2_with fail;refine HW.o.mono ?_;rintro e w3 ⟨rfl,h3⟩;have H3:=aa ((h3.pick 1 rfl).drop.pick 1 rfl);clear h3 c0 c1 c2 c3 c4 c5 c6 lg y0 y1 ly;obtain ⟨c0,c1,c2,c3,c4,c5,c6,lg⟩:=fp H3.o.row.1;by_cases he:ev=0
   ·subst he;have HF:=aa (GY H3.o.swap HL.o);have jK:=aa (RF.o.trans (if_pos rfl));obtain ⟨y,hy⟩:∃y,y=m2.flush:=⟨_,rfl⟩
    rw [←hy] at HF jK;rw [jK.o] at HX HFW;clear hy;obtain ⟨ef,m3⟩:=y;simp only at HF HX HFW;go_wp2_with fail;refine HF.o.mono ?_;rintro e w4 ⟨rfl,h4⟩;have H4:=aa h4.swap;clear h4 c0 c1 c2 c3 c4 c5 c6 lg;by_cases hf:ef=0
    ·subst hf;have oa:=aa (RG.o.trans (HX.o.trans (if_pos rfl)));go_wp2_with fail;go_roundw;case rel=>exact ⟨q+1,m3,by omega,by go_num,H4.o,by have:=HFW.o;omega,oa.o⟩
     case measure=>simp [intOf]<;>omega
    ·have b1:(ef != 0)=true:=by simpa using hf
     have oa:=aa (RG.o.trans (HX.o.trans (if_neg hf)));clear hf;go_wp2_with fail;go_ret;rw [oa.o];exact ⟨rfl,H4.o⟩
   ·have b1:(ev != 0)=true:=by simpa using he
    have jK:=aa (RF.o.trans (if_neg he));rw [jK.o] at HX;have oa:=aa (RG.o.trans (HX.o.trans (if_neg he)));clear he;go_wp2_with fail;go_ret;rw [oa.o];exact ⟨rfl,H3.o⟩
  ·obtain rfl:q=n:=by omega
   have oa:=aa (RG.o.trans (show vD m1 (L.drop q)=(0,m1) by rw [←HN.o,List.drop_length];rfl));have cZ:¬(q:Int) < (q:Int):=by omega
   go_wp2_with fail;go_ret;rw [oa.o];exact ⟨rfl,HI.o⟩
def told (s:bC):aS:=if s.has then s.st else aS.zero
theorem I7 {w:World} {g d:Nat} {p k:Int} {s:bC} (h:Row w g 158 (dJ d p k s)) :
  Calls Tryz.prog 48 #[.pointer (some ⟨g,0,none⟩)] w fun e w'=>e=.returned (.tuple #[(told s).val,.bool s.has])∧Below w.heap.size w w':=by
 obtain ⟨c0,c1,c2,c3,c4,c5,c6,lg⟩:=fp h;obtain ⟨has,st⟩:=s;simp only at c3 c4 c5 c6;clear h;cases has with
 | false =>
   go_enter Tryz.func48,Tryz.ntmps48;go_wp2_with fail;refine bodyPost_ret (aM rfl _ _ w.heap.size _ _ _ _ _ rfl rfl (heap_alloc_new _ _) Tryz.underlying31 rfl (by kernel_rfl)) rfl ?_;exact ⟨rfl,(Below.refl _ _).alloc (Nat.le_refl _) _⟩
 | true =>
   go_enter Tryz.func48,Tryz.ntmps48;go_wp2_with fail;refine bodyPost_ret (aM rfl _ _ w.heap.size _ _ _ _ _ rfl rfl (heap_alloc_new _ _) Tryz.underlying31 rfl (by kernel_rfl)) rfl ?_;exact ⟨rfl,(Below.refl _ _).alloc (Nat.le_refl _) _⟩
theorem lK {w:World} {g d:Nat} {p k:Int} {s:bC} (h:Row w g 158 (dJ d p k s)) (hr:s.has=true→s.st.right=true) (se no:Int) (A:Option Addr) (n c:Nat) :
  Calls Tryz.prog 91 #[.pointer (some ⟨g,0,none⟩),.int .i64 se,.int .i64 no,.slice A n c] w fun e w'=>e=.returned (.int .i64 (gQ s se no n))∧w'=w:=by
 obtain ⟨c0,c1,c2,c3,c4,c5,c6,lg⟩:=fp h;obtain ⟨has,st⟩:=s;simp only at c3 c4 c5 c6 hr;clear h;have HW:=aa (show gQ ⟨has,st⟩ se no n=if has=false then 16 else if se≠st.aG then 17 else if no < 0∨(aR st.size:Int)≤no then 3 else if n≠16 then 14 else 0 from rfl);cases has with
 | false =>
   rw [if_pos rfl] at HW;go_enter Tryz.func91,Tryz.ntmps91;go_wp2_with fail;go_ret;exact ⟨bt HW.o.symm,rfl⟩
 | true =>
   rw [if_neg (show ¬(true=false) by decide)] at HW;have et:=(iD (hr rfl)).2.1;obtain ⟨z0,z1⟩:=et;clear hr;by_cases ko:se=st.aG
   ·subst ko;rw [if_neg (fun h=>h rfl)] at HW;have hb:(st.aG != st.aG)=false:=by simp
    by_cases kt:no < 0
    ·rw [if_pos (.inl kt)] at HW;go_enter Tryz.func91,Tryz.ntmps91;go_wp2_with fail;go_ret;exact ⟨bt HW.o.symm,rfl⟩
    ·have ch:=aa (fun w=>record.ka w st.size (by omega) (by omega));obtain ⟨b,cy⟩:∃b,b=aR st.size:=⟨_,rfl⟩
     rw [←cy] at HW ch;clear cy;by_cases zx:(b:Int)≤no
     ·rw [if_pos (.inr zx)] at HW;go_enter Tryz.func91,Tryz.ntmps91;go_wp2_with fail;refine (ch.o _).mono ?_;rintro e w1 ⟨rfl,rfl⟩;go_wp2_with fail;go_ret;exact ⟨bt HW.o.symm,rfl⟩
     ·rw [if_neg (by omega)] at HW;by_cases tt:n=16
      ·subst tt;rw [if_neg (fun h=>h rfl)] at HW;go_enter Tryz.func91,Tryz.ntmps91;go_wp2_with fail;refine (ch.o _).mono ?_;rintro e w1 ⟨rfl,rfl⟩;go_wp2_with fail;go_ret;exact ⟨bt HW.o.symm,rfl⟩
      ·rw [if_pos tt] at HW;have h1:((n:Int) != 16)=true:=by simp;omega
       have h2:(n != 16)=true:=by simpa using tt
       clear tt;go_enter Tryz.func91,Tryz.ntmps91;go_wp2_with fail;refine (ch.o _).mono ?_;rintro e w1 ⟨rfl,rfl⟩;go_wp2_with fail;go_ret;exact ⟨bt HW.o.symm,rfl⟩
   ·rw [if_pos ko] at HW;have hb:(se != st.aG)=true:=by simpa using ko
    clear ko;go_enter Tryz.func91,Tryz.ntmps91;go_wp2_with fail;go_ret;exact ⟨bt HW.o.symm,rfl⟩
end aU
namespace aU

open Go.RowKit Go.ChangeShapes Go.WideShapes Go.ChangeAt Go.Deep Go.Joins base obj mem bw bk record Go.Proofs.YtdldkkoplgkloaaGreat.bits sep bf bytes
def pB (p k:Int) (n:Nat):Bool:=decide (0≤p∧p < 4∧0≤k∧k < 2∧eH p k 2 < (n:Int))
theorem V9 {p k:Int} {n:Nat} (h:pB p k n=true):PK p k∧eH p k 2 < (n:Int):=by
 unfold pB at h;simp only [decide_eq_true_eq] at h;exact ⟨⟨h.1,h.2.1,h.2.2.1,h.2.2.2.1⟩,h.2.2.2.2⟩
theorem Fv {w0 w:World} {l:List aD} {d:Nat} {m:DS} (h:St w0 w (bU d m::l)) (p k:Int) (hr:pB p k m.az.length=true) (hd:m.down=false) (fY:m.waits.length≤1000) (cu:m.iU) :
  Calls Tryz.prog 120 #[.pointer (some ⟨d,0,none⟩),.int .i64 p,.int .i64 k] w fun e w'=>∃g,e=.returned (.tuple #[.pointer (some ⟨g,0,none⟩),.int .i64 0])∧St w0 w' (slt g d p k (iV m p k)::bU d m::l):=by
 have H:=aa h;obtain ⟨⟨p0,p1,k0,k1⟩,j9⟩:=V9 hr;unfold eH at j9;obtain ⟨n,hn⟩:∃n,n=m.az.length:=⟨_,rfl⟩
 have HN:=aa hn;rw [←hn] at j9;obtain ⟨bs,fZ⟩:∃bs,bs=m.now (bM p k).toNat:=⟨_,rfl⟩
 have ch:=aa (show bs.length=64 by rw [fZ];exact h.b8.BI (by rw [←hn];unfold bM;omega));have kN:=aa (show bo bs by rw [fZ];exact cu.now _);have HO:=aa (show iV m p k=if (jw bs).2=0 then ⟨true,(jw bs).1⟩ else bC.none by rw [fZ];rfl)
 have oc:=aa (fun (w1:World) (h1:St w0 w1 (bU d m::l))=>by
  have h:=yX h1 (p*10+(2+k*4)) (bM p k).toNat (by unfold bM;omega) (by rw [←hn];unfold bM;omega) hd (by omega);rw [←fZ] at h
  exact h)
 obtain ⟨gr,wo⟩:∃gr,gr=jw bs:=⟨_,rfl⟩
 rw [←wo] at HO;have E6:=aa wo;clear hr h hd hn fZ cu wo;obtain ⟨st,er⟩:=gr;simp only at HO;go_enter Tryz.func120,Tryz.ntmps120;go_wp2_with fail;refine (place.I6 p k _ p0 p1 k0 k1).mono ?_;rintro e w1 ⟨rfl,hb⟩;have H1:=aa (H.o.below hb);clear hb;go_wp2_with fail;refine (place.BS p k 2 _ p0 p1 k0 k1 (by omega) (by omega)).mono ?_;rintro e w2 ⟨rfl,hb⟩;have H2:=aa (H1.o.below hb);have HL:=aa (FP H2.o);rw [←HN.o] at HL;clear hb;go_wp2_with fail;refine HL.o.mono ?_;rintro e w3 ⟨rfl,rfl⟩;go_wp2_with fail;refine (oc.o _ H2.o).mono ?_;rintro e w4 ⟨b,rfl,h4⟩;have H4:=aa h4;clear h4;obtain ⟨w5,dQ⟩:∃w5,w5=w4.alloc (.cells #[.pointer (some ⟨d,0,none⟩),.int .i64 p,.int .i64 k,.bool false,.int .i64 0,.int .i64 0,.int .i64 0] 158):=⟨_,rfl⟩
 have H5:=aa (show St w0 w5 (slt w4.heap.size d p k bC.none::row b 5 (bs.map (.int .u8))::bU d m::l) by rw [dQ];exact H4.o.new _ _);have pZ:=aa dQ;clear dQ;go_wp2_with fail;rw [←pZ.o];refine (record.Lw _ _ 64 64 bs ch.o (by omega) kN.o (pF (H5.o.pick 1 rfl).row.1 ch.o)).mono ?_;rintro e w6 ⟨rfl,hb⟩;rw [←E6.o];have H6:=aa (H5.o.below hb);clear hb;dsimp only;rw [aS.mA];obtain ⟨w7,vO⟩:∃w7,w7=w6.alloc (.cells #[.int .i64 st.aG,.int .i64 st.size,.int .i64 st.bd] 31):=⟨_,rfl⟩
 have H7:=aa (show St w0 w7 (slt w4.heap.size d p k bC.none::row w6.heap.size 31 st.cells.toList::row b 5 (bs.map (.int .u8))::bU d m::l) by rw [vO];exact (H6.o.new 31 st.cells).swap);have MI:=aa vO;clear vO;by_cases he:er=0
 ·subst he;have kG:=aa (HO.o.trans (if_pos rfl));obtain ⟨y0,y1,y2⟩:=aS.read (H7.o.pick 1 rfl).row.1;have ly:=(H7.o.pick 1 rfl).row.1.lt;have lg:=H7.o.row.1.lt;obtain ⟨cs,cX⟩:∃cs,cs=dJ d p k ⟨false,st⟩:=⟨_,rfl⟩
  have mW:=aa (show (dJ d p k bC.none).take 4++st.cells.toList++(dJ d p k bC.none).drop (4+st.cells.size)=cs by rw [cX];rfl);have H8:=aa (H7.o.setRow cs);have f3:=H8.o.row.1.frozen 3;have c3:=H8.o.row.1.cell 3;rw [show cs[3]?=some (.bool false) by rw [cX];rfl] at c3;have H9:=aa (show St w0 _ (slt w4.heap.size d p k ⟨true,st⟩::_) by have h:=H8.o.set 3 (.bool true);rw [cX] at h;exact h);rw [←cX] at H9;have MS:=aa (show (Tryz.prog.info? 31).map (·.size)=some st.cells.size from by kernel_rfl);have HE:=aa (show 4+st.cells.size≤(dJ d p k bC.none).length from Nat.le_refl 7);have Hv:=aa (xn st);clear cX;go_upto_region 12 with fail;rw [←MI.o];go_wp2_with (refine aF rfl 31 (.tmp 68) (.tmp 66) rfl w4.heap.size 4 st.cells rfl rfl H7.o.row.1 MS.o HE.o Hv.o cs mW.o ?_);go_ret2;rw [kG.o];exact ⟨w4.heap.size,rfl,(H9.o.pick 1 rfl).drop.pick 1 rfl |>.drop⟩
 ·have b1:(er==0)=false:=by simpa using he
  have kG:=aa (HO.o.trans (if_neg he));clear he;go_upto_region 12 with fail;rw [←MI.o];go_wp2_with fail;go_ret2;rw [kG.o];exact ⟨w4.heap.size,rfl,(H7.o.pick 1 rfl).drop.pick 1 rfl |>.drop⟩
theorem Fe (m:DS) (i:Int) (bs:List Int):vD m [(i,bs)]=wf m i bs:=by
 show (if (wf m i bs).1=0 then ((0:Int),(wf m i bs).2) else wf m i bs)=wf m i bs
 split
 ·rename_i h
  rw [←h]
 ·rfl
theorem Bz {w:World} {b:Nat} {t:TypeId} {L:List (Int×List Int)} {V:Nat→Option Addr×Nat} {n:Nat} (h:Row w b t (jX L V)) (hl:L.length=n):Sl w w.heap.size 2 (some ⟨b,0,none⟩) n (jX L V):=by
 have hlen:(jX L V).length=n*2:=by
  subst hl;exact (lift.sA (fun i=>[Value.int .i64 (L.getD i (0,[])).1,.slice (V i).1 64 (V i).2]) 2 (by decide) L.length (fun i _=>rfl)).1
 exact ⟨hlen,fun _=>⟨b,0,rfl,h.lt,fun k u hu=>by rw [Nat.zero_add];exact (h.cell k).trans hu⟩⟩
theorem qt {w0 w:World} {l:List aD} {g d:Nat} {m:DS} {p k:Int} {s:bC} (h:St w0 w (slt g d p k s::bU d m::l)) (hp:PK p k) (fY:m.waits.length≤800) (se sz:Int) :
  Calls Tryz.prog 50 #[.pointer (some ⟨g,0,none⟩),.int .i64 se,.int .i64 sz] w fun e w'=>e=.returned (.int .i64 (fU m p k s se sz).1)∧St w0 w' (slt g d p k (fU m p k s se sz).2.2::bU d (fU m p k s se sz).2.1::l):=by
 obtain ⟨st,av⟩:∃st:aS,st=⟨se,sz,0⟩:=⟨_,rfl⟩
 have HQ:=aa (show fU m p k s se sz=if st.right then (if (wf m (bM p k) st.bytes).1=0 then (0,(wf m (bM p k) st.bytes).2,⟨true,st⟩) else ((wf m (bM p k) st.bytes).1,(wf m (bM p k) st.bytes).2,s)) else (3,m,s) by rw [av];rfl);obtain ⟨x,hx⟩:∃x,x=wf m (bM p k) st.bytes:=⟨_,rfl⟩
 rw [←hx] at HQ;have HX:=aa (show vD m [(bM p k,st.bytes)]=x by rw [Fe,hx]);have HP:=aa hp;have bJ:=aa (show st.val=.agg #[.int .i64 se,.int .i64 sz,.int .i64 0] by rw [av];rfl);obtain ⟨w1,aJ⟩:∃w1,w1=w.alloc (.cells #[.int .i64 se,.int .i64 sz,.int .i64 0] 31):=⟨_,rfl⟩
 have H1:=aa (show St w0 w1 (row w.heap.size 31 st.cells.toList::slt g d p k s::bU d m::l) by rw [aJ,av];exact h.new _ _);have bq:=aa aJ
 obtain ⟨y0,y1,y2⟩:w1.cell? ⟨w.heap.size,0,none⟩=some (.int .i64 se)∧w1.cell? ⟨w.heap.size,1,none⟩=some (.int .i64 sz)∧w1.cell? ⟨w.heap.size,2,none⟩=some (.int .i64 0):=by
  have h:=aS.read H1.o.row.1;rw [av] at h;exact h
 have ly:=H1.o.row.1.lt;have HSX:=aa (show st.aG=se∧st.size=sz∧st.bd=0 by rw [av];exact ⟨rfl,rfl,rfl⟩);clear av aJ hx hp h;obtain ⟨ex,mx⟩:=x;simp only at HQ;go_enter Tryz.func50,Tryz.ntmps50;go_upto_region 4 with fail;rw [←bq.o];go_wp2_with fail;rw [←bJ.o];cases hg:st.right with
 | false =>
   have jK:=aa (HQ.o.trans (if_neg (by rw [hg];decide)));refine (record.Jn st _ hg).mono ?_;rintro e w2 ⟨rfl,hb⟩;have H2:=aa (H1.o.below hb);clear hb hg;go_wp2_with fail;go_ret;rw [jK.o];exact ⟨rfl,H2.o.drop⟩
 | true =>
   have jK:=aa (HQ.o.trans (if_pos hg));refine (record.Cb st _ hg).mono ?_;rintro e w2 ⟨v,rfl,ho,hb⟩;have H2:=aa ((H1.o.cQ hb ho).pick 2 rfl);obtain ⟨A,c,e2,hc,_⟩:=aH ho;subst e2;clear ho hb hg;go_wp2_with fail;refine (uQ H2.o.row.1 HP.o).mono ?_;rintro e w3 ⟨rfl,hb⟩;have H3:=aa ((H2.o.below hb).pick 3 rfl);clear hb;obtain ⟨w4,dX⟩:∃w4,w4=w3.alloc (.cells #[.int .i64 (bM p k),.slice A 64 c] 162):=⟨_,rfl⟩
   have H4:=aa (show St w0 w4 (slt g d p k s::bU d m::row w3.heap.size 162 (jX [(bM p k,st.bytes)] fun _=>(A,c))::own 5 1 (.slice A 64 c) 64 (st.bytes.map (.int .u8))::row w.heap.size 31 st.cells.toList::l) by
    rw [dX];have h:=((H3.o.new 162 #[.int .i64 (bM p k),.slice A 64 c]).pick 1 rfl).pick 2 rfl
    exact h)
   have kb:=aa dX;clear dX
   have rM:=aa (jL H4.o (some ⟨w3.heap.size,0,none⟩) 1 1 [(bM p k,st.bytes)] (fun _=>(A,c)) rfl (by omega) (by omega) (fun w' m' h'=>⟨Bz (h'.pick 2 rfl).row.1 rfl,fun j hj=>by
    obtain rfl:j=0:=by simpa using hj
    exact ⟨aS.di _,Sl.bz (h'.pick 3 rfl).own⟩⟩))
   rw [HX.o] at rM;go_wp2_with fail;rw [←kb.o];refine rM.o.mono ?_;rintro e w5 ⟨rfl,h5⟩;have H5:=aa h5;clear h5 y0 y1 y2 ly;by_cases he:ex=0
   ·subst he;have mN:=aa (jK.o.trans (if_pos rfl));obtain ⟨e0,e1,e2⟩:=HSX.o;obtain ⟨y0,y1,y2⟩:=aS.read (H5.o.pick 4 rfl).row.1;have ly:=(H5.o.pick 4 rfl).row.1.lt;have lg:=H5.o.row.1.lt;obtain ⟨cs,cX⟩:∃cs,cs=dJ d p k ⟨s.has,st⟩:=⟨_,rfl⟩
    have mW:=aa (show (dJ d p k s).take 4++st.cells.toList++(dJ d p k s).drop (4+st.cells.size)=cs by rw [cX];rfl);have H8:=aa (H5.o.setRow cs);have f3:=H8.o.row.1.frozen 3;have c3:=H8.o.row.1.cell 3;rw [show cs[3]?=some (.bool s.has) by rw [cX];rfl] at c3;have H9:=aa (show St w0 _ (slt g d p k ⟨true,st⟩::_) by have h:=H8.o.set 3 (.bool true);rw [cX] at h;exact h);rw [←cX] at H9;have MS:=aa (show (Tryz.prog.info? 31).map (·.size)=some st.cells.size from by kernel_rfl);have HE:=aa (show 4+st.cells.size≤(dJ d p k s).length from Nat.le_refl 7);have Hv:=aa (xn st);clear cX e0 e1 e2;go_wp2_with (refine aF rfl 31 (.tmp 38) (.tmp 36) rfl g 4 st.cells rfl rfl H5.o.row.1 MS.o HE.o Hv.o cs mW.o ?_);go_ret;rw [mN.o];exact ⟨rfl,((((H9.o.pick 2 rfl).drop.pick 2 rfl).drop.pick 2 rfl).drop)⟩
   ·have b1:(ex != 0)=true:=by simpa using he
    have mN:=aa (jK.o.trans (if_neg he));clear he;go_wp2_with fail;go_ret;rw [mN.o];exact ⟨rfl,((((H5.o.pick 2 rfl).drop.pick 2 rfl).drop.pick 2 rfl).drop)⟩
theorem D8 (w:World):(Instr.makeSlice 24 (.int .i64 64) (.int .i64 64)).run Tryz.prog w=.ok (.slice (some ⟨w.heap.size,0,none⟩) 64 64) (w.alloc (.cells (Array.replicate 64 (.int .u8 0)) 5)):=by
 have h:=uC 64 (by decide) w;rw [show ((64:Nat):Int)=64 from rfl] at h;rw [h];rfl
theorem Ug {w0 w:World} {l:List aD} {g d:Nat} {m:DS} {p k:Int} {s:bC} (h:St w0 w (slt g d p k s::bU d m::l)) (hp:PK p k) (fY:m.waits.length≤800) :
  Calls Tryz.prog 56 #[.pointer (some ⟨g,0,none⟩)] w fun e w'=>e=.returned (.int .i64 (ja m p k s).1)∧St w0 w' (slt g d p k (ja m p k s).2.2::bU d (ja m p k s).2.1::l):=by
 have HQ:=aa (show ja m p k s=if (wf m (bM p k) br).1=0 then (0,(wf m (bM p k) br).2,bC.none) else ((wf m (bM p k) br).1,(wf m (bM p k) br).2,s) from rfl);obtain ⟨x,hx⟩:∃x,x=wf m (bM p k) br:=⟨_,rfl⟩
 rw [←hx] at HQ;have HX:=aa (show vD m [(bM p k,br)]=x by rw [Fe,hx]);have HP:=aa hp;have H:=aa h;have pL:=D8;clear hx hp h;obtain ⟨ex,mx⟩:=x;simp only at HQ;have MS:=aa (show (Tryz.prog.info? 31).map (·.size)=some aS.zero.cells.size from by kernel_rfl);have HE:=aa (show 4+aS.zero.cells.size≤(dJ d p k s).length from Nat.le_refl 7);have Hv:=aa (xn aS.zero);obtain ⟨cs,cX⟩:∃cs,cs=dJ d p k ⟨s.has,aS.zero⟩:=⟨_,rfl⟩
 have mW:=aa (show (dJ d p k s).take 4++aS.zero.cells.toList++(dJ d p k s).drop (4+aS.zero.cells.size)=cs by rw [cX];rfl);have H3:=aa (show cs[3]?=some (.bool s.has) by rw [cX];rfl);have vt:=aa (fun (w1:World) (ls:List aD) (h:St w0 w1 (row g 158 cs::ls))=>show St w0 _ (slt g d p k bC.none::ls) by rw [cX] at h;exact h.set 3 (.bool false));clear cX;go_enter Tryz.func56,Tryz.ntmps56;go_wp2_with fail;refine ff [0,1] [[2,3,4,5,6,7],[3,2,4,5,6,7]] (by kernel_rfl) (by kernel_rfl) (fun _ _ _ _ _ h=>h) ?_;simp only [mq,pick,af,ae,ah];iterate 2 still_step
 refine wpStill_nil ?_;refine ⟨?_,?_⟩
 ·go_wp2_with fail;refine (uQ H.o.drew.row.1 HP.o).mono ?_;rintro e w1 ⟨rfl,hb⟩;have H1:=aa (H.o.drew.below hb);clear hb;obtain ⟨w2,dY⟩:∃w2,w2=(w1.alloc (.cells (Array.replicate 64 (.int .u8 0)) 5)).alloc (.cells #[.int .i64 (bM p k),.slice (some ⟨w1.heap.size,0,none⟩) 64 64] 162):=⟨_,rfl⟩
  have H2:=aa (show St w0 w2 (slt g d p k s::bU d m::row (w1.heap.size+1) 162 (jX [(bM p k,br)] fun _=>(some ⟨w1.heap.size,0,none⟩,64))::row w1.heap.size 5 (br.map (.int .u8))::l) by
   rw [dY];have h:=(((H1.o.new 5 (Array.replicate 64 (.int .u8 0))).new 162 #[.int .i64 (bM p k),.slice (some ⟨w1.heap.size,0,none⟩) 64 64]).pick 3 rfl).pick 3 rfl;rw [show (w1.alloc (.cells (Array.replicate 64 (.int .u8 0)) 5)).heap.size=w1.heap.size+1 by simp] at h
   exact h)
  have iL:=aa dY;clear dY
  have rM:=aa (jL H2.o (some ⟨w1.heap.size+1,0,none⟩) 1 1 [(bM p k,br)] (fun _=>(some ⟨w1.heap.size,0,none⟩,64)) rfl (by omega) (by omega) (fun w' m' h'=>⟨Bz (h'.pick 2 rfl).row.1 rfl,fun j hj=>by
   obtain rfl:j=0:=by simpa using hj
   exact ⟨rfl,pF (h'.pick 3 rfl).row.1 rfl⟩⟩))
  rw [HX.o] at rM;go_wp2_with fail;rw [←iL.o];refine rM.o.mono ?_;rintro e w5 ⟨rfl,h5⟩;have H5:=aa h5;clear h5;by_cases he:ex=0
  ·subst he;have mN:=aa (HQ.o.trans (if_pos rfl));have lg:=H5.o.row.1.lt;have H8:=aa (H5.o.setRow cs);have f3:=H8.o.row.1.frozen 3;have c3:=H8.o.row.1.cell 3;rw [H3.o] at c3;have H9:=aa (vt.o _ _ H8.o);go_wp2_with (refine aF rfl 31 (.tmp 20) (.tmp 18) rfl g 4 aS.zero.cells rfl rfl H5.o.row.1 MS.o HE.o Hv.o cs mW.o ?_);go_ret;rw [mN.o];exact ⟨rfl,((H9.o.pick 2 rfl).drop.pick 2 rfl).drop⟩
  ·have b1:(ex != 0)=true:=by simpa using he
   have mN:=aa (HQ.o.trans (if_neg he));clear he;go_wp2_with fail;go_ret;rw [mN.o];exact ⟨rfl,((H5.o.pick 2 rfl).drop.pick 2 rfl).drop⟩
 ·have HZ:=aa (H.o.drew.new 5 (Array.replicate 64 (.int .u8 0)));go_wp2_with fail;refine (uQ (HZ.o.pick 1 rfl).row.1 HP.o).mono ?_;rintro e w1 ⟨rfl,hb⟩;have H1:=aa (HZ.o.below hb);clear hb;obtain ⟨w2,dY⟩:∃w2,w2=w1.alloc (.cells #[.int .i64 (bM p k),.slice (some ⟨w.heap.size,0,none⟩) 64 64] 162):=⟨_,rfl⟩
  have H2:=aa (show St w0 w2 (slt g d p k s::bU d m::row w1.heap.size 162 (jX [(bM p k,br)] fun _=>(some ⟨w.heap.size,0,none⟩,64))::row w.heap.size 5 (br.map (.int .u8))::l) by
   rw [dY];have h:=((H1.o.new 162 #[.int .i64 (bM p k),.slice (some ⟨w.heap.size,0,none⟩) 64 64]).pick 3 rfl).pick 3 rfl
   exact h)
  have iL:=aa dY;clear dY
  have rM:=aa (jL H2.o (some ⟨w1.heap.size,0,none⟩) 1 1 [(bM p k,br)] (fun _=>(some ⟨w.heap.size,0,none⟩,64)) rfl (by omega) (by omega) (fun w' m' h'=>⟨Bz (h'.pick 2 rfl).row.1 rfl,fun j hj=>by
   obtain rfl:j=0:=by simpa using hj
   exact ⟨rfl,pF (h'.pick 3 rfl).row.1 rfl⟩⟩))
  rw [HX.o] at rM;go_wp2_with fail;rw [←iL.o];refine rM.o.mono ?_;rintro e w5 ⟨rfl,h5⟩;have H5:=aa h5;clear h5;by_cases he:ex=0
  ·subst he;have mN:=aa (HQ.o.trans (if_pos rfl));have lg:=H5.o.row.1.lt;have H8:=aa (H5.o.setRow cs);have f3:=H8.o.row.1.frozen 3;have c3:=H8.o.row.1.cell 3;rw [H3.o] at c3;have H9:=aa (vt.o _ _ H8.o);go_wp2_with (refine aF rfl 31 (.tmp 20) (.tmp 18) rfl g 4 aS.zero.cells rfl rfl H5.o.row.1 MS.o HE.o Hv.o cs mW.o ?_);go_ret;rw [mN.o];exact ⟨rfl,((H9.o.pick 2 rfl).drop.pick 2 rfl).drop⟩
  ·have b1:(ex != 0)=true:=by simpa using he
   have mN:=aa (HQ.o.trans (if_neg he));clear he;go_wp2_with fail;go_ret;rw [mN.o];exact ⟨rfl,((H5.o.pick 2 rfl).drop.pick 2 rfl).drop⟩
end aU
namespace aU

open Go.RowKit Go.ChangeShapes Go.WideShapes Go.ChangeAt Go.Deep Go.Joins base obj mem bw bk record Go.Proofs.YtdldkkoplgkloaaGreat.bits sep bf bytes
theorem zK {P:Program} {w:World} {ops:Array Oper} {rest:List Oper} {o:Oper} {a:Act} {Q:Exit→Act→World→Prop} (ew:o.guard=none) (d s:Operand) (dT sT:TypeId)
  (ho:o.op=.call { callee:=.builtin .copy,args:=#[d,s],argTypes:=#[dT,sT] }) (elem:TypeId) (hu:P.underlying dT=some (.slice elem)) (iu:(P.info? elem).map (·.size)=some 1)
  (g off Dp Ks:Nat) (ad:Addr) (qj yv:Nat) (hd:a.eval d=.slice (some ⟨g,off,none⟩) Dp Ks) (hs:a.eval s=.slice (some ad) qj yv)
  {t:TypeId} {xs:List Value} (hr:Row w g t xs) (cs:List Value) (hn:cs.length=Nat.min qj Dp) (FF:∀j v,cs[j]?=some v→w.cell? (ad.add j)=some v) (kP:off+cs.length≤xs.length) (h1:∀v∈cs,v.oneCell'=true)
  (r:List Value) (nX:xs.take off++(cs++xs.drop (off+cs.length))=r)
  (h:wpList P ops Q rest (a.put o.dst (goInt cs.length)) (w.setRow g r.toArray)):wpList P ops Q (o::rest) a w:=by
 subst nX;exact wpList_copy_own ew d s dT sT ho elem hu iu g off Dp Ks ad qj yv hd hs xs.toArray t hr cs hn FF (by simpa using kP) h1 h
theorem CU:(Tryz.prog.info? 5).map (·.size)=some 1:=by kernel_rfl
theorem VQ (m:DS) (i:Int) (bs:List Int) (j:Int) (cs:List Int):vD m [(i,bs),(j,cs)]=xm m i bs j cs:=by
 show (if (wf m i bs).1=0 then vD (wf m i bs).2 [(j,cs)] else wf m i bs)=_
 rw [Fe];rfl
theorem Nd {b data:List Int} {no f:Nat} (hf:f=no % 4*16) (hd:data.length=16):(b.map (Value.int .u8)).take f++(data.map (Value.int .u8)++(b.map (Value.int .u8)).drop (f+(data.map (Value.int .u8)).length))=(splice b no data).map (Value.int .u8):=by
 unfold splice;rw [gN,hd,List.map_append,List.map_append,List.map_take,List.map_drop,List.append_assoc,hf]
theorem PO {w0 w:World} {l:List aD} {g d:Nat} {m:DS} {p k:Int} {s:bC} (h:St w0 w (slt g d p k s::bU d m::l)) (hr:s.has=true→s.st.right=true) (se no:Int) (A:Option Addr) (n c:Nat) (hw:gQ s se no n≠0) :
  Calls Tryz.prog 51 #[.pointer (some ⟨g,0,none⟩),.int .i64 se,.int .i64 no,.slice A n c] w fun e w'=>e=.returned (.int .i64 (gQ s se no n))∧St w0 w' (slt g d p k s::bU d m::l):=by
 have H:=aa h;have HW:=aa (lK h.row.1 hr se no A n c);obtain ⟨ev,xQ⟩:∃ev,ev=gQ s se no n:=⟨_,rfl⟩
 rw [←xQ] at HW hw ⊢;have b1:(ev != 0)=true:=by simpa using hw
 clear h hr hw xQ;go_enter Tryz.func51,Tryz.ntmps51;go_wp2_with fail;refine HW.o.mono ?_;rintro e w1 ⟨rfl,rfl⟩;go_wp2_with fail;go_ret;exact ⟨rfl,H.o⟩
theorem Wg {w0 w:World} {l:List aD} {g d:Nat} {m:DS} {p k:Int} {s:bC} (h:St w0 w (slt g d p k s::bU d m::l)) (hr:s.has=true→s.st.right=true) (se:Int) (q:Nat) (hq:q < 16) (A:Option Addr) (n c:Nat) (hw:gQ s se q n=0) (hb:df s.st.bd q=true) :
  Calls Tryz.prog 51 #[.pointer (some ⟨g,0,none⟩),.int .i64 se,.int .i64 (q:Int),.slice A n c] w fun e w'=>e=.returned (.int .i64 0)∧St w0 w' (slt g d p k s::bU d m::l):=by
 have H:=aa h;have HW:=aa (lK h.row.1 hr se q A n c);rw [hw] at HW;have HB:=aa (fun w=>bits.J5 s.st.bd q w hq);rw [hb] at HB;obtain ⟨c0,c1,c2,c3,c4,c5,c6,lg⟩:=fp h.row.1;clear h hr hw hb;go_enter Tryz.func51,Tryz.ntmps51;go_wp2_with fail;refine HW.o.mono ?_;rintro e w1 ⟨rfl,rfl⟩;go_wp2_with fail;refine (HB.o _).mono ?_;rintro e w2 ⟨rfl,rfl⟩;go_wp2_with fail;go_ret;exact ⟨rfl,H.o⟩
theorem Wf {w0 w:World} {l:List aD} {g d:Nat} {m:DS} {p k:Int} {s:bC} (h:St w0 w (slt g d p k s::bU d m::l)) (hp:Pl m p k) (hr:s.has=true→s.st.right=true) (fY:m.waits.length≤800) (se:Int) (n:Nat) (A:Option Addr) (c:Nat) (data:List Int) (hn:data.length=16)
  (hs:∀w' m',St w0 w' (slt g d p k s::bU d m'::l)→Sl w' w'.heap.size 1 A 16 (data.map (.int .u8))) (hw:gQ s se n 16=0) (hb:df s.st.bd n=false) :
  Calls Tryz.prog 51 #[.pointer (some ⟨g,0,none⟩),.int .i64 se,.int .i64 (n:Int),.slice A 16 c] w fun e w'=>e=.returned (.int .i64 (ig m p k s se n data).1)∧St w0 w' (slt g d p k (ig m p k s se n data).2.2::bU d (ig m p k s se n data).2.1::l):=by
 have H:=aa h;have HW:=aa (lK h.row.1 hr se n A 16 c);rw [hw] at HW;obtain ⟨hh,w1,w2,w3,_⟩:=sR hw;have vR:=hr hh;obtain ⟨⟨z1,z2⟩,⟨z3,z4⟩,z5,z6⟩:=iD vR;have FH:n < 10:=by unfold aR at w3;omega
 have kM:=aa (Ad vR (by omega:n < aR s.st.size));have HB:=aa (fun w=>bits.J5 s.st.bd n w (by omega));rw [hb] at HB;have zH:=aa (fun w=>bits.VP s.st.bd n w (by omega) ⟨by omega,by omega⟩);obtain ⟨q,hq⟩:∃q:Nat,q=n / 4:=⟨_,rfl⟩
 obtain ⟨f,hf⟩:∃f:Nat,f=n % 4*16:=⟨_,rfl⟩
 have hq3:q < 3:=by omega
 have acu:f≤48:=by omega
 have Ao:(n:Int) / 4=(q:Int):=by omega
 have QM:(n:Int) % 4*16=(f:Int):=by omega
 have ix:=aa (fun w=>place.Um (n:Int) w (by omega) (by omega));rw [Ao,QM] at ix;have E7:=aa (fun w=>place.BS p k (q:Int) w hp.p0 hp.p1 hp.k0 hp.k1 (by omega) (by omega));obtain ⟨at_,j9⟩:∃at_,at_=eH p k (q:Int):=⟨_,rfl⟩
 rw [show p*10+(2+k*4+1+(q:Int))=at_ by rw [j9];rfl] at E7;obtain ⟨a0,a1⟩:=hp.at_ (i:=(q:Int)) (by omega) (by omega);rw [←j9] at a0 a1;obtain ⟨nx,fQ⟩:∃nx,nx=sY s.st n:=⟨_,rfl⟩
 obtain ⟨bs,fZ⟩:∃bs,bs=m.now at_.toNat:=⟨_,rfl⟩
 obtain ⟨x,hx⟩:∃x,x=xm m at_ (splice bs n data) (bM p k) nx.bytes:=⟨_,rfl⟩
 have HQ:=aa (show ig m p k s se n data=if m.down then (8,m,s) else if x.1=0 then (0,x.2,⟨true,nx⟩) else (x.1,x.2,s) by
  unfold ig
  rw [hn,if_neg (not_not_intro hw),ea,if_neg (by rw [hb];decide),Ao,←j9,←fZ,←fQ,←hx])
 have HX:=aa (show vD m [(at_,splice bs n data),(bM p k,nx.bytes)]=x by rw [VQ,hx]);have tD:=aa hp.pk;have ch:=aa (show bs.length=64 by rw [fZ];exact hp.b8.BI (by omega));have Zs:=aa (show (splice bs n data).length=64 from qc ch.o n hn);have kE:=aa (Nd (b:=bs) hf hn);have HS:=aa hs;have HDN:=aa hn;have HNH:=aa (show nx.aG=s.st.aG∧nx.size=s.st.size∧nx.bd=mZ s.st.bd n by rw [fQ];exact ⟨rfl,rfl,rfl⟩);rw [←fQ] at kM;have HNV:=aa (show nx.val=.agg #[.int .i64 s.st.aG,.int .i64 s.st.size,.int .i64 (mZ s.st.bd n)] by rw [fQ];rfl);have wM:=aa (show (s.st.cells.toList).set 2 (.int .i64 (mZ s.st.bd n))=nx.cells.toList by rw [fQ];rfl);have pP:=aa hh;obtain ⟨c0,c1,c2,c3,c4,c5,c6,lg⟩:=fp h.row.1;cases hd:m.down with
 | true =>
   have oc:=aa (fun (w1:World) (h1:St w0 w1 (slt g d p k s::bU d m::l))=>by
    have h:=Cz h1.swap at_ (.inr hd) (by omega);rw [if_neg (by omega)] at h
    exact h)
   rw [hd] at HQ;have jK:=aa (HQ.o.trans (if_pos rfl));clear h hr hw hb hs hn fQ fZ hx j9 hq hf Ao QM hp hh w1 w2 w3 z1 z2 z3 z4 z5 z6 vR hd;go_enter Tryz.func51,Tryz.ntmps51;go_wp2_with fail;refine HW.o.mono ?_;rintro e w1 ⟨rfl,rfl⟩;go_wp2_with fail;refine (HB.o _).mono ?_;rintro e w2 ⟨rfl,rfl⟩;go_wp2_with fail;refine (ix.o _).mono ?_;rintro e w3 ⟨rfl,rfl⟩;go_wp2_with fail
   go_region_law (first|(go_simp;(with_reducible refine (E7.o _).mono ?_);rintro e w4 ⟨rfl,hb⟩;have eV:=aa hb;clear hb;dsimp only))
   all_goals
    have H4:=aa (H.o.drew.below eV.o);clear c0 c1 c2 c3 c4 c5 c6 lg;obtain ⟨c0,c1,c2,c3,c4,c5,c6,lg⟩:=fp H4.o.row.1;go_wp2_with fail;refine (oc.o _ H4.o).mono ?_;rintro e w5 ⟨rfl,h5⟩;have H5:=aa h5;clear h5;go_wp2_with fail;go_ret;rw [jK.o];exact ⟨rfl,H5.o.swap⟩
 | false =>
   have oc:=aa (fun (w1:World) (h1:St w0 w1 (slt g d p k s::bU d m::l))=>by
    have h:=yX h1.swap at_ at_.toNat (by omega) (by omega) hd (by omega);rw [←fZ] at h
    exact h)
   rw [hd] at HQ;have jK:=aa (HQ.o.trans (if_neg (by decide)));clear h hr hw hb hs hn fQ fZ hx j9 hq hf Ao QM hp hh w1 w2 w3 z1 z2 z3 z4 z5 z6 vR hd;go_enter Tryz.func51,Tryz.ntmps51;go_wp2_with fail;refine HW.o.mono ?_;rintro e w1 ⟨rfl,rfl⟩;go_wp2_with fail;refine (HB.o _).mono ?_;rintro e w2 ⟨rfl,rfl⟩;go_wp2_with fail;refine (ix.o _).mono ?_;rintro e w3 ⟨rfl,rfl⟩;go_wp2_with fail
   go_region_law (first|(go_simp;(with_reducible refine (E7.o _).mono ?_);rintro e w4 ⟨rfl,hb⟩;have eV:=aa hb;clear hb;dsimp only))
   all_goals
    have H4:=aa (H.o.drew.below eV.o);clear c0 c1 c2 c3 c4 c5 c6 lg;obtain ⟨c0,c1,c2,c3,c4,c5,c6,lg⟩:=fp H4.o.row.1;go_wp2_with fail;refine (oc.o _ H4.o).mono ?_;rintro e w5 ⟨b,rfl,h5⟩;have H5:=aa h5;clear h5;obtain ⟨ad,hA,Mo,FF⟩:=Sl.src (HS.o _ _ H5.o.drop.swap) (by omega);subst hA;have KW:=aa FF;clear FF Mo c0 c1 c2 c3 c4 c5 c6 lg;have H6:=aa (show St w0 _ (row b 5 ((splice bs n data).map (.int .u8))::_) from H5.o.setRow ((splice bs n data).map (.int .u8)));have H6':=aa ((H6.o.pick 1 rfl).pick 2 rfl);obtain ⟨w6,nU⟩:∃w6,w6=w5.setRow b ((splice bs n data).map (Value.int .u8)).toArray:=⟨_,rfl⟩
    rw [←nU] at H6 H6';have ER:=aa nU;obtain ⟨w7,vO⟩:∃w7,w7=w6.alloc (.cells #[.int .i64 s.st.aG,.int .i64 s.st.size,.int .i64 s.st.bd] 31):=⟨_,rfl⟩
    have H7:=aa (show St w0 w7 (row w6.heap.size 31 s.st.cells.toList::slt g d p k s::bU d m::row b 5 ((splice bs n data).map (.int .u8))::l) by rw [vO];exact (H6'.o.new 31 s.st.cells));have MI:=aa vO;clear nU vO;have f2:=H7.o.row.1.frozen 2;have s2:w7.cell? ⟨w6.heap.size,2,none⟩=some (.int .i64 s.st.bd):=H7.o.row.1.cell 2;have ls:=H7.o.row.1.lt;have H8:=aa (show St w0 _ (row w6.heap.size 31 nx.cells.toList::_) by have h:=H7.o.set 2 (.int .i64 (mZ s.st.bd n));rw [wM.o] at h;exact h);obtain ⟨w8,Aj⟩:∃w8,w8=w7.setCell ⟨w6.heap.size,2,none⟩ (.int .i64 (mZ s.st.bd n)):=⟨_,rfl⟩
    rw [←Aj] at H8;have RJ:=aa Aj;clear Aj;obtain ⟨g0,g1,g2,g3,g4,g5,g6,lg⟩:=fp H6'.o.row.1;have abL:=aa (show (data.map (Value.int .u8)).length=Nat.min 16 (64-f) by rw [gN,HDN.o];show 16=min 16 (64-f);omega);have abK:=aa (show f+(data.map (Value.int .u8)).length≤(bs.map (Value.int .u8)).length by rw [gN,gN,HDN.o,ch.o];omega);go_upto_region 10 with (refine zK rfl (.tmp 71) (.tmp 72) 24 24 rfl 5 Tryz.underlying24 CU b f (64-f) (64-f) ad 16 c rfl rfl H5.o.row.1 (data.map (.int .u8)) abL.o KW.o abK.o (iO data) _ kE.o ?_)
    rw [←ER.o];go_upto_region 11 with fail;rw [←MI.o];go_wp2_with fail;refine (zH.o _).mono ?_;rintro e w9 ⟨rfl,rfl⟩;go_upto_region 12 with fail;rw [←RJ.o];clear f2 s2 ls g0 g1 g2 g3 g4 g5 g6 lg;obtain ⟨t0,t1,t2⟩:=aS.read H8.o.row.1;have lt:=H8.o.row.1.lt;obtain ⟨e0,e1,e2⟩:=HNH.o;rw [e0] at t0;rw [e1] at t1;rw [e2] at t2;go_wp2_with fail;rw [←HNV.o];refine (record.Cb nx _ kM.o).mono ?_;rintro e Pe ⟨v,rfl,ho,hb⟩;have mm:=aa ((H8.o.cQ hb ho).pick 2 rfl);obtain ⟨A',c',e3,fS,_⟩:=aH ho;subst e3;clear ho hb t0 t1 t2 lt e0 e1 e2;go_wp2_with fail;refine (uQ mm.o.row.1 tD.o).mono ?_;rintro e uH ⟨rfl,hb⟩;have Bp:=aa ((mm.o.below hb).pick 3 rfl);clear hb;obtain ⟨F0,yL⟩:∃F0,F0=uH.alloc (.cells #[.int .i64 at_,.slice (some ⟨b,0,none⟩) 64 64,.int .i64 (bM p k),.slice A' 64 c'] 162):=⟨_,rfl⟩
    have Bo:=aa (show St w0 F0 (slt g d p k s::bU d m::row uH.heap.size 162 (jX [(at_,splice bs n data),(bM p k,nx.bytes)] fun j=>if j=0 then (some ⟨b,0,none⟩,64) else (A',c'))::own 5 1 (.slice A' 64 c') 64 (nx.bytes.map (.int .u8))::row w6.heap.size 31 nx.cells.toList::row b 5 ((splice bs n data).map (.int .u8))::l) by
     rw [yL];have h:=((Bp.o.new 162 #[.int .i64 at_,.slice (some ⟨b,0,none⟩) 64 64,.int .i64 (bM p k),.slice A' 64 c']).pick 1 rfl).pick 2 rfl
     exact h)
    have abk:=aa yL;clear yL
    have rM:=aa (jL Bo.o (some ⟨uH.heap.size,0,none⟩) 2 2 [(at_,splice bs n data),(bM p k,nx.bytes)] (fun j=>if j=0 then (some ⟨b,0,none⟩,64) else (A',c')) rfl (by omega) (by omega) (fun w' m' h'=>⟨Bz (h'.pick 2 rfl).row.1 rfl,fun j hj=>by
     have Ay:j < 2:=hj
     match j,Ay with
     | 0,_=>exact ⟨Zs.o,pF (h'.pick 5 rfl).row.1 Zs.o⟩
     | 1,_=>exact ⟨aS.di _,Sl.bz (h'.pick 3 rfl).own⟩⟩))
    rw [HX.o] at rM;clear HX;obtain ⟨ex,mx⟩:=x;simp only at jK rM;go_wp2_with fail;rw [←abk.o];refine rM.o.mono ?_;rintro e vG ⟨rfl,Cx⟩;have ml:=aa Cx;clear Cx;by_cases he:ex=0
    ·subst he;have mN:=aa (jK.o.trans (if_pos rfl));obtain ⟨y0,y1,y2⟩:=aS.read (ml.o.pick 4 rfl).row.1;have ly:=(ml.o.pick 4 rfl).row.1.lt;have lg:=ml.o.row.1.lt;have mW:=aa (show (dJ d p k s).take 4++nx.cells.toList++(dJ d p k s).drop (4+nx.cells.size)=dJ d p k ⟨true,nx⟩ by rw [←pP.o];rfl);have vA:=aa (show St w0 _ (slt g d p k ⟨true,nx⟩::_) from ml.o.setRow (dJ d p k ⟨true,nx⟩));have MS:=aa (show (Tryz.prog.info? 31).map (·.size)=some nx.cells.size from by kernel_rfl);have HE:=aa (show 4+nx.cells.size≤(dJ d p k s).length from Nat.le_refl 7);have Hv:=aa (xn nx);go_wp2_with (refine aF rfl 31 (.tmp 104) (.tmp 102) rfl g 4 nx.cells rfl rfl ml.o.row.1 MS.o HE.o Hv.o _ mW.o ?_);go_ret;rw [mN.o];exact ⟨rfl,((((vA.o.pick 2 rfl).drop.pick 2 rfl).drop.pick 2 rfl).drop.pick 2 rfl).drop⟩
    ·have b1:(ex != 0)=true:=by simpa using he
     have mN:=aa (jK.o.trans (if_neg he));clear he;go_wp2_with fail;go_ret;rw [mN.o];exact ⟨rfl,((((ml.o.pick 2 rfl).drop.pick 2 rfl).drop.pick 2 rfl).drop.pick 2 rfl).drop⟩
end aU
namespace fC

open Go.RowKit base obj mem bw num bytes record nE
theorem ka (w:World) (size:Int) (h1:size≤1000) (h0:-9223372036854775808≤size):Calls Tryz.prog 158 #[.int .i64 size] w fun e w'=>e=.returned (.int .i64 (aR size:Nat))∧w'=w:=by
 go_enter Tryz.func158,Tryz.ntmps158;go_wp2_with fail;go_loopw [3,0] (fun k s wr=>∃j:Nat,j≤63∧(0 < j→16*((j:Int)-1) < size)∧k=.int .i64 j∧s=.int .i64 (size-16*j)∧wr=w) (fun _ s _=>(intOf s).toNat)
 case atStart=>exact ⟨0,by omega,by omega,rfl,by simp,rfl⟩
 case round =>
  obtain ⟨j,hj,Ay,rfl,rfl,rfl⟩:=hrel;have a1:(j:Int) < 1000:=by omega
  by_cases aK:size-16*(j:Int) > 0
  ·have HJ:=aa Ay;clear Ay;generalize hs:size-16*(j:Int)=s at *;have jE:s≤1000:=by omega
   have HS:=aa hs;clear hs;go_wp2_with fail;go_roundw;case rel=>exact ⟨j+1,by have:=HS.o;omega,by have:=HS.o;omega,by go_num,by rw [show s-16=size-16*((j+1:Nat):Int) by have:=HS.o;omega],trivial⟩
   case measure=>simp [intOf]<;>omega
  ·have HB:=aa (show ((aR size:Nat):Int)=j by unfold aR;omega);have oy:size-16*(j:Int)≤0:=by omega
   generalize hs:size-16*(j:Int)=s at *;have HS:=aa hs;clear hs Ay aK;have aK:¬s > 0:=by omega
   go_wp2_with fail;go_ret;exact ⟨bt (by rw [HB.o]),rfl⟩
theorem nD (s:aS) (w:World) (hI:-9223372036854775808≤s.size):Calls Tryz.prog 157 #[s.val] w fun e w'=>e=.returned (.bool s.right)∧Below w.heap.size w w':=by
 obtain ⟨aG,size,bd⟩:=s;unfold aS.val aS.cells;have HB:=aa (fun o=>(Below.refl w.heap.size w).alloc (Nat.le_refl _) o);by_cases hr:1≤aG∧aG≤65535∧1≤size∧size≤160∧0≤bd
 ·obtain ⟨a1,a2,a3,a4,a5⟩:=hr;obtain ⟨b,hb⟩:∃b,b=aR size:=⟨_,rfl⟩
  have ku:1≤b:=by rw [hb];unfold aR;omega
  have Y2:b≤10:=by rw [hb];unfold aR;omega
  have ch:=aa (show ∀W,Calls Tryz.prog 158 #[.int .i64 size] W fun e w'=>e=.returned (.int .i64 (b:Nat))∧w'=W by rw [hb];exact fun W=>ka W size (by omega) (by omega))
  have HE:=aa (show aS.right ⟨aG,size,bd⟩=decide (bd < 2 ^ b) by
   unfold aS.right;simp only;rw [←hb];rw [Bool.eq_iff_iff];simp
   omega)
  clear hb hI;go_enter Tryz.func157,Tryz.ntmps157;go_wp2_with fail;obtain ⟨w1,aJ⟩:∃w1,w1=w.alloc (.cells #[.int .i64 aG,.int .i64 size,.int .i64 bd] 31):=⟨_,rfl⟩
  rw [←aJ];have d1:w1.cell? ⟨w.heap.size,1,none⟩=some (.int .i64 size):=by rw [aJ];exact World.cell?_alloc_new _ _ _ _
  have d2:w1.cell? ⟨w.heap.size,2,none⟩=some (.int .i64 bd):=by rw [aJ];exact World.cell?_alloc_new _ _ _ _
  have bn:=aa (show Below w.heap.size w w1 by rw [aJ];exact HB.o _);clear aJ HB;go_loopw [4,3] (fun k s wr=>∃j:Nat,j≤b∧k=.int .i64 j∧s=.int .i64 ((2 ^ j:Nat):Int)∧wr=w1) (fun k _ _=>b-(intOf k).toNat)
  case atStart=>exact ⟨0,by omega,rfl,rfl,rfl⟩
  case round =>
   obtain ⟨j,hj,rfl,rfl,rfl⟩:=hrel
   have hp:2 ^ j≤1024:=by
    have:=Nat.pow_le_pow_right (n:=2) (by decide) (show j≤10 by omega);simpa using this
   have HP:=aa (show 2 ^ (j+1)=2*2 ^ j by rw [Nat.pow_succ,Nat.mul_comm]);have CE:=aa (show j=b→((2 ^ j:Nat):Int)=2 ^ b by rintro rfl;simp);by_cases aK:j < b
   ·have cZ:(j:Int) < (b:Int):=by omega
    generalize 2 ^ j=p at *;go_wp2_with fail;refine (ch.o _).mono ?_;rintro e w' ⟨rfl,rfl⟩;go_wp2_with fail;go_roundw;case rel=>exact ⟨j+1,by omega,by go_num,by rw [HP.o];go_num,trivial⟩
    case measure=>simp [intOf]<;>omega
   ·have dF:j=b:=by omega
    have cZ:¬(j:Int) < (b:Int):=by omega
    have EZ:=aa (CE.o dF);clear dF;generalize 2 ^ j=p at *;go_wp2_with fail;refine (ch.o _).mono ?_;rintro e w' ⟨rfl,rfl⟩;go_wp2_with fail;go_ret;exact ⟨aE (by rw [HE.o,←EZ.o]),bn.o⟩
 ·go_enter Tryz.func157,Tryz.ntmps157;have HR:=aa hr;clear hr;go_wp2_with fail
  all_goals first
   | (go_ret;refine ⟨aE ?_,HB.o _⟩;simp [aS.right]<;>omega)
   | (exfalso;have:=HR.o;omega)
end fC
end Go.Proofs.YtdldkkoplgkloaaGreat
