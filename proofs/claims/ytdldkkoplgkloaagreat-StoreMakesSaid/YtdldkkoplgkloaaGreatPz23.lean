/-
  PROVED HERE: lemmas and contracts that the law's proof leans on (texts put together: Stage, StageOpen, RefStage).
  CONDITIONS: each names its own.
-/
import Derived.BigQuiet
import Derived.Deep.CutBlock
import Derived.Deep.DeepCutAuto
import Derived.Deep.QuietTactic
import Derived.Deep.RegionHeld3
import Derived.Deep.RegionLaw
import Derived.Test.YtdldkkoplgkloaaGreatPz0
import Derived.Test.YtdldkkoplgkloaaGreatPz4
import Derived.Test.YtdldkkoplgkloaaGreatPz12
import Derived.Test.YtdldkkoplgkloaaGreatPz18
import Derived.Test.YtdldkkoplgkloaaGreatPz19
import Derived.Test.YtdldkkoplgkloaaGreatPz20
import Derived.Test.YtdldkkoplgkloaaGreatPz22
namespace Go.Proofs.YtdldkkoplgkloaaGreat
set_option linter.unusedVariables false
set_option linter.unusedSimpArgs false
set_option maxRecDepth 100000
set_option maxHeartbeats 32000000
namespace stage

open Go.RowKit Go.ChangeShapes Go.WideShapes Go.ChangeAt Go.Deep Go.Joins base obj mem crc disk record Go.Proofs.YtdldkkoplgkloaaGreat.bits sep plan bytes
def sltCells (d:Nat) (p k:Int) (s:SlS):List Value:=[.pointer (some ⟨d,0,none⟩),.int .i64 p,.int .i64 k,.bool s.has]++s.st.cells.toList
def slt (g d:Nat) (p k:Int) (s:SlS):Asn:=row g 158 (sltCells d p k s)
theorem slt_read {w:World} {g d:Nat} {p k:Int} {s:SlS} (h:Row w g 158 (sltCells d p k s)) :
  w.cell? ⟨g,0,none⟩=some (.pointer (some ⟨d,0,none⟩))∧w.cell? ⟨g,1,none⟩=some (.int .i64 p)∧w.cell? ⟨g,2,none⟩=some (.int .i64 k)∧w.cell? ⟨g,3,none⟩=some (.bool s.has)∧
  w.cell? ⟨g,4,none⟩=some (.int .i64 s.st.session)∧w.cell? ⟨g,5,none⟩=some (.int .i64 s.st.size)∧w.cell? ⟨g,6,none⟩=some (.int .i64 s.st.have_)∧g < w.heap.size :=
 ⟨h.cell 0,h.cell 1,h.cell 2,h.cell 3,h.cell 4,h.cell 5,h.cell 6,h.lt⟩
structure PK (p k:Int):Prop where
 p0:0≤p
 p1:p < 4
 k0:0≤k
 k1:k < 2
theorem Pl.pk {m:DS} {p k:Int} (h:Pl m p k):PK p k:=⟨h.p0,h.p1,h.k0,h.k1⟩
theorem own_at {w:World} {g d:Nat} {p k:Int} {s:SlS} (h:Row w g 158 (sltCells d p k s)) (hp:PK p k) :
  Calls Tryz.prog 90 #[.pointer (some ⟨g,0,none⟩)] w fun e w'=>e=.returned (.int .i64 (sAt p k))∧Below w.heap.size w w':=by
 obtain ⟨c0,c1,c2,c3,c4,c5,c6,lg⟩:=slt_read h.drew
 have HC:=Lib.hid (place.stage_in p k w.drew hp.p0 hp.p1 hp.k0 hp.k1)
 clear h hp
 go_enter Tryz.func90,Tryz.ntmps90
 go_wp2_with (fail)
 go_region_law (first|(go_simp;(with_reducible refine HC.out.mono ?_);rintro e w2 ⟨rfl,hb⟩;have HB:=Lib.hid hb;clear hb;dsimp only))
 all_goals
  go_wp2_with (fail)
  go_ret
  exact ⟨rfl,⟨HB.out.os,HB.out.tape,HB.out.output,HB.out.size,HB.out.block⟩⟩
def wfs:DS→List (Int×List Int)→Int×DS
 | m,[]=>(0,m)
 | m,x::l=>if (wf m x.1 x.2).1=0 then wfs (wf m x.1 x.2).2 l else wf m x.1 x.2
theorem wr_few (m:DS) (i:Int) (bs:List Int):(m.write i bs).2.waits.length≤m.waits.length+1:=by
 unfold DS.write
 split
 ·exact Nat.le_succ _
 ·split
  ·exact Nat.le_succ _
  ·split
   ·simp [DS.put,DS.burnt_waits]
   ·show m.burnt.waits.length≤_
    rw [DS.burnt_waits];exact Nat.le_succ _
theorem wf_few (m:DS) (i:Int) (bs:List Int):(wf m i bs).2.waits.length≤m.waits.length+1:=by
 have h:=wr_few m i bs
 unfold wf
 split
 ·unfold DS.flush
  split
  ·exact Nat.zero_le _
  ·rw [DS.burnt_waits];exact h
 ·exact h
def stepCells (L:List (Int×List Int)) (V:Nat→Option Addr×Nat):List Value:=(List.range L.length).flatMap fun j=>[.int .i64 (L.getD j (0,[])).1,.slice (V j).1 64 (V j).2]
theorem stepCells_get {L:List (Int×List Int)} (V:Nat→Option Addr×Nat) {j:Nat} (hj:j < L.length):(stepCells L V)[j*2]?=some (.int .i64 L[j].1)∧(stepCells L V)[j*2+1]?=some (.slice (V j).1 64 (V j).2):=by
 have h:=lift.flat_get (fun i=>[Value.int .i64 (L.getD i (0,[])).1,.slice (V i).1 64 (V i).2]) 2 (by decide) L.length (fun i _=>rfl)
 have e:L.getD j (0,[])=L[j]:=by rw [List.getD_eq_getElem?_getD,List.getElem?_eq_getElem hj];rfl
 have h0:=h.2 j 0 hj (by decide)
 rw [e] at h0
 exact ⟨h0,h.2 j 1 hj (by decide)⟩
theorem write_at {w0 w:World} {l:List Asn} {g d:Nat} {m:DS} {p k:Int} {s:SlS} (h:St w0 w (slt g d p k s::dsk d m::l)) (A:Option Addr) (n c:Nat) (L:List (Int×List Int)) (V:Nat→Option Addr×Nat) (hn:L.length=n) (hn9:n≤50) (hwl:m.waits.length≤900)
  (hA:∀w' m',St w0 w' (slt g d p k s::dsk d m'::l)→Sl w' w'.heap.size 2 A n (stepCells L V)∧∀j (hj:j < L.length),L[j].2.length=64∧Sl w' w'.heap.size 1 (V j).1 64 (L[j].2.map (.int .u8))) :
  Calls Tryz.prog 89 #[.pointer (some ⟨g,0,none⟩),.slice A n c] w fun e w'=>e=.returned (.int .i64 (wfs m L).1)∧St w0 w' (slt g d p k s::dsk d (wfs m L).2::l):=by
 have H:=Lib.hid h;have HN:=Lib.hid hn;have HA:=Lib.hid hA
 clear h hn hA
 go_enter Tryz.func89,Tryz.ntmps89
 go_wp2_with (fail)
 go_loopw [11] (fun i wr=>∃(q:Nat) (m':DS),q≤n∧i=.int .i64 q∧St w0 wr (slt g d p k s::dsk d m'::l)∧m'.waits.length≤900+q∧wfs m L=wfs m' (L.drop q)) (fun i _=>n-(intOf i).toNat)
 case atStart=>exact ⟨0,m,by omega,rfl,H.out,hwl,rfl⟩
 case round =>
  obtain ⟨q,m1,hq,rfl,hi,hw1,hwf⟩:=hrel
  have HI:=Lib.hid hi;have HWF:=Lib.hid hwf
  clear hi hwf
  by_cases hlt:q < n
  ·have hlt':(q:Int) < (n:Int):=by omega
   have hql:q < L.length:=by rw [HN.out];exact hlt
   obtain ⟨hsl,hall⟩:=HA.out _ _ HI.out
   obtain ⟨b,off,rfl,lb,hcs⟩:=hsl.2 (by omega)
   obtain ⟨s0,s1⟩:=stepCells_get V hql
   have a0:wr.cell? ⟨b,off+q*2,none⟩=_:=hcs _ _ s0
   have a1:wr.cell? ⟨b,off+(q*2+1),none⟩=_:=hcs _ _ s1
   rw [←Nat.add_assoc] at a1
   obtain ⟨h64,hsq⟩:=hall q hql
   have HD:=Lib.hid (show L.drop q=L[q]::L.drop (q+1) from List.drop_eq_getElem_cons hql)
   generalize L[q]=x at a0 h64 hsq HD s0
   obtain ⟨at_,bs⟩:=x
   simp only at a0 h64 hsq
   generalize V q=v at a1 hsq s1
   obtain ⟨B,cB⟩:=v
   simp only at a1 hsq
   rw [HD.out] at HWF
   have HX:=Lib.hid (show wfs m1 ((at_,bs)::L.drop (q+1))=if (wf m1 at_ bs).1=0 then wfs (wf m1 at_ bs).2 (L.drop (q+1)) else wf m1 at_ bs from rfl)
   have HFW:=Lib.hid (wf_few m1 at_ bs)
   obtain ⟨x,hx⟩:∃x,x=m1.write at_ bs:=⟨_,rfl⟩
   have HWQ:=Lib.hid (show wf m1 at_ bs=if x.1=0 then x.2.flush else x by rw [hx];rfl)
   have HL:=Lib.hid (show x.2.waits.length≤1000000 by have:=wr_few m1 at_ bs;rw [hx];omega)
   obtain ⟨w2,hw2⟩:∃w2,w2=wr.alloc (.cells #[.int .i64 at_,.slice B 64 cB] 162):=⟨_,rfl⟩
   have H2:=Lib.hid (show St w0 w2 (row wr.heap.size 162 [.int .i64 at_,.slice B 64 cB]::slt g d p k s::dsk d m1::l) by rw [hw2];exact HI.out.new _ _)
   have HSQ:=Lib.hid (show Sl w2 w2.heap.size 1 B 64 (bs.map (.int .u8)) by
    have hb:Below wr.heap.size wr w2:=by rw [hw2];exact (Below.refl _ _).alloc (Nat.le_refl _) _
    exact (hsq.below hb).more hb.size)
   have HW:=Lib.hid (dsk_write (H2.out.drew.pick 2 rfl) at_ B 64 cB bs h64 (HSQ.out.below (Below.refl _ _).drew) (by omega))
   rw [←hx] at HW
   have HW2:=Lib.hid hw2
   clear hx hw2 hcs hsl hall s0 s1 hsq h64
   obtain ⟨ev,m2⟩:=x
   simp only at HWQ HW HL
   go_upto_region 4 with fail
   rw [←HW2.out]
   obtain ⟨y0,y1⟩:w2.cell? ⟨wr.heap.size,0,none⟩=some (.int .i64 at_)∧w2.cell? ⟨wr.heap.size,1,none⟩=some (.slice B 64 cB):=⟨H2.out.row.1.cell 0,H2.out.row.1.cell 1⟩
   have ly:=H2.out.row.1.lt
   obtain ⟨c0,c1,c2,c3,c4,c5,c6,lg⟩:=slt_read (H2.out.pick 1 rfl).row.1
   clear a0 a1 lb
   go_wp2_with (fail)
   refine wp_region_plan [0,1,2,4,6,3,5,7] [[8,9]] (by kernel_rfl) (by kernel_rfl) (fun _ _ _ _ _ h=>h) ?_
   simp only [forks,pick,xGs,xGz,xGo]
   iterate 8 still_step
   refine wpStill_nil ?_
   go_wp2_with (fail)
   refine HW.out.mono ?_
   rintro e w3 ⟨rfl,h3⟩
   have H3:=Lib.hid ((h3.pick 1 rfl).drop.pick 1 rfl)
   clear h3 c0 c1 c2 c3 c4 c5 c6 lg y0 y1 ly
   obtain ⟨c0,c1,c2,c3,c4,c5,c6,lg⟩:=slt_read H3.out.row.1
   by_cases he:ev=0
   ·subst he
    have HF:=Lib.hid (dsk_flush H3.out.swap HL.out)
    have HQ2:=Lib.hid (HWQ.out.trans (if_pos rfl))
    obtain ⟨y,hy⟩:∃y,y=m2.flush:=⟨_,rfl⟩
    rw [←hy] at HF HQ2
    rw [HQ2.out] at HX HFW
    clear hy
    obtain ⟨ef,m3⟩:=y
    simp only at HF HX HFW
    go_wp2_with (fail)
    refine HF.out.mono ?_
    rintro e w4 ⟨rfl,h4⟩
    have H4:=Lib.hid h4.swap
    clear h4 c0 c1 c2 c3 c4 c5 c6 lg
    by_cases hf:ef=0
    ·subst hf
     have HX2:=Lib.hid (HWF.out.trans (HX.out.trans (if_pos rfl)))
     go_wp2_with (fail)
     go_roundw
     case rel=>exact ⟨q+1,m3,by omega,by go_num,H4.out,by have:=HFW.out;omega,HX2.out⟩
     case measure=>simp [intOf]<;>omega
    ·have b1:(ef != 0)=true:=by simpa using hf
     have HX2:=Lib.hid (HWF.out.trans (HX.out.trans (if_neg hf)))
     clear hf
     go_wp2_with (fail)
     go_ret
     rw [HX2.out]
     exact ⟨rfl,H4.out⟩
   ·have b1:(ev != 0)=true:=by simpa using he
    have HQ2:=Lib.hid (HWQ.out.trans (if_neg he))
    rw [HQ2.out] at HX
    have HX2:=Lib.hid (HWF.out.trans (HX.out.trans (if_neg he)))
    clear he
    go_wp2_with (fail)
    go_ret
    rw [HX2.out]
    exact ⟨rfl,H3.out⟩
  ·obtain rfl:q=n:=by omega
   have HX2:=Lib.hid (HWF.out.trans (show wfs m1 (L.drop q)=(0,m1) by rw [←HN.out,List.drop_length];rfl))
   have hlt':¬(q:Int) < (q:Int):=by omega
   go_wp2_with (fail)
   go_ret
   rw [HX2.out]
   exact ⟨rfl,HI.out⟩
def told (s:SlS):Stg:=if s.has then s.st else Stg.zero
theorem stage_at {w:World} {g d:Nat} {p k:Int} {s:SlS} (h:Row w g 158 (sltCells d p k s)) :
  Calls Tryz.prog 48 #[.pointer (some ⟨g,0,none⟩)] w fun e w'=>e=.returned (.tuple #[(told s).val,.bool s.has])∧Below w.heap.size w w':=by
 obtain ⟨c0,c1,c2,c3,c4,c5,c6,lg⟩:=slt_read h
 obtain ⟨has,st⟩:=s
 simp only at c3 c4 c5 c6
 clear h
 cases has with
 | false =>
   go_enter Tryz.func48,Tryz.ntmps48
   go_wp2_with (fail)
   refine bodyPost_ret (res_cell_slot rfl _ _ w.heap.size _ _ _ _ _ rfl rfl (heap_alloc_new _ _) Tryz.underlying31 rfl (by kernel_rfl)) rfl ?_
   exact ⟨rfl,(Below.refl _ _).alloc (Nat.le_refl _) _⟩
 | true =>
   go_enter Tryz.func48,Tryz.ntmps48
   go_wp2_with (fail)
   refine bodyPost_ret (res_cell_slot rfl _ _ w.heap.size _ _ _ _ _ rfl rfl (heap_alloc_new _ _) Tryz.underlying31 rfl (by kernel_rfl)) rfl ?_
   exact ⟨rfl,(Below.refl _ _).alloc (Nat.le_refl _) _⟩
theorem wrong_nil (w:World) (se no:Int) (v:Value):Calls Tryz.prog 91 #[.pointer none,.int .i64 se,.int .i64 no,v] w fun e w'=>e=.returned (.int .i64 7)∧w'=w:=by
 go_enter Tryz.func91,Tryz.ntmps91
 go_wp2_with (fail)
 go_ret
 exact ⟨rfl,rfl⟩
theorem wrong_at {w:World} {g d:Nat} {p k:Int} {s:SlS} (h:Row w g 158 (sltCells d p k s)) (hr:s.has=true→s.st.right=true) (se no:Int) (A:Option Addr) (n c:Nat) :
  Calls Tryz.prog 91 #[.pointer (some ⟨g,0,none⟩),.int .i64 se,.int .i64 no,.slice A n c] w fun e w'=>e=.returned (.int .i64 (wrongE s se no n))∧w'=w:=by
 obtain ⟨c0,c1,c2,c3,c4,c5,c6,lg⟩:=slt_read h
 obtain ⟨has,st⟩:=s
 simp only at c3 c4 c5 c6 hr
 clear h
 have HW:=Lib.hid (show wrongE ⟨has,st⟩ se no n=if has=false then 16 else if se≠st.session then 17 else if no < 0∨(blocksN st.size:Int)≤no then 3 else if n≠16 then 14 else 0 from rfl)
 cases has with
 | false =>
   rw [if_pos rfl] at HW
   go_enter Tryz.func91,Tryz.ntmps91
   go_wp2_with (fail)
   go_ret
   exact ⟨ret_int HW.out.symm,rfl⟩
 | true =>
   rw [if_neg (show ¬(true=false) by decide)] at HW
   have hin:=(stg_in (hr rfl)).2.1
   obtain ⟨z0,z1⟩:=hin
   clear hr
   by_cases hse:se=st.session
   ·subst hse
    rw [if_neg (fun h=>h rfl)] at HW
    have hb:(st.session != st.session)=false:=by simp
    by_cases hno:no < 0
    ·rw [if_pos (.inl hno)] at HW
     go_enter Tryz.func91,Tryz.ntmps91
     go_wp2_with (fail)
     go_ret
     exact ⟨ret_int HW.out.symm,rfl⟩
    ·have HBL:=Lib.hid (fun w=>record.blocks_at w st.size (by omega) (by omega))
     obtain ⟨b,hbl⟩:∃b,b=blocksN st.size:=⟨_,rfl⟩
     rw [←hbl] at HW HBL
     clear hbl
     by_cases hge:(b:Int)≤no
     ·rw [if_pos (.inr hge)] at HW
      go_enter Tryz.func91,Tryz.ntmps91
      go_wp2_with (fail)
      refine (HBL.out _).mono ?_
      rintro e w1 ⟨rfl,rfl⟩
      go_wp2_with (fail)
      go_ret
      exact ⟨ret_int HW.out.symm,rfl⟩
     ·rw [if_neg (by omega)] at HW
      by_cases h16:n=16
      ·subst h16
       rw [if_neg (fun h=>h rfl)] at HW
       go_enter Tryz.func91,Tryz.ntmps91
       go_wp2_with (fail)
       refine (HBL.out _).mono ?_
       rintro e w1 ⟨rfl,rfl⟩
       go_wp2_with (fail)
       go_ret
       exact ⟨ret_int HW.out.symm,rfl⟩
      ·rw [if_pos h16] at HW
       have h1:((n:Int) != 16)=true:=by simp;omega
       have h2:(n != 16)=true:=by simpa using h16
       clear h16
       go_enter Tryz.func91,Tryz.ntmps91
       go_wp2_with (fail)
       refine (HBL.out _).mono ?_
       rintro e w1 ⟨rfl,rfl⟩
       go_wp2_with (fail)
       go_ret
       exact ⟨ret_int HW.out.symm,rfl⟩
   ·rw [if_pos hse] at HW
    have hb:(se != st.session)=true:=by simpa using hse
    clear hse
    go_enter Tryz.func91,Tryz.ntmps91
    go_wp2_with (fail)
    go_ret
    exact ⟨ret_int HW.out.symm,rfl⟩
end stage
namespace stage

open Go.RowKit Go.ChangeShapes Go.WideShapes Go.ChangeAt Go.Deep Go.Joins base obj mem crc disk record Go.Proofs.YtdldkkoplgkloaaGreat.bits sep plan bytes
def hasRoom (p k:Int) (n:Nat):Bool:=decide (0≤p∧p < 4∧0≤k∧k < 2∧dAt p k 2 < (n:Int))
theorem room_pk {p k:Int} {n:Nat} (h:hasRoom p k n=true):PK p k∧dAt p k 2 < (n:Int):=by
 unfold hasRoom at h
 simp only [decide_eq_true_eq] at h
 exact ⟨⟨h.1,h.2.1,h.2.2.1,h.2.2.2.1⟩,h.2.2.2.2⟩
theorem open_at {w0 w:World} {l:List Asn} {d:Nat} {m:DS} (h:St w0 w (dsk d m::l)) (p k:Int) (hr:hasRoom p k m.secs.length=true) (hd:m.down=false) (hwl:m.waits.length≤1000) (hby:m.Bts) :
  Calls Tryz.prog 120 #[.pointer (some ⟨d,0,none⟩),.int .i64 p,.int .i64 k] w fun e w'=>∃g,e=.returned (.tuple #[.pointer (some ⟨g,0,none⟩),.int .i64 0])∧St w0 w' (slt g d p k (openS m p k)::dsk d m::l):=by
 have H:=Lib.hid h
 obtain ⟨⟨p0,p1,k0,k1⟩,hat⟩:=room_pk hr
 unfold dAt at hat
 obtain ⟨n,hn⟩:∃n,n=m.secs.length:=⟨_,rfl⟩
 have HN:=Lib.hid hn
 rw [←hn] at hat
 obtain ⟨bs,hbs⟩:∃bs,bs=m.now (sAt p k).toNat:=⟨_,rfl⟩
 have HBL:=Lib.hid (show bs.length=64 by rw [hbs];exact h.good.now_len (by rw [←hn];unfold sAt;omega))
 have HBY:=Lib.hid (show Byt bs by rw [hbs];exact hby.now _)
 have HO:=Lib.hid (show openS m p k=if (getStg bs).2=0 then ⟨true,(getStg bs).1⟩ else SlS.none by rw [hbs];rfl)
 have HRD:=Lib.hid (fun (w1:World) (h1:St w0 w1 (dsk d m::l))=>by
  have h:=dsk_read h1 (p*10+(2+k*4)) (sAt p k).toNat (by unfold sAt;omega) (by rw [←hn];unfold sAt;omega) hd (by omega)
  rw [←hbs] at h
  exact h)
 obtain ⟨gr,hgr⟩:∃gr,gr=getStg bs:=⟨_,rfl⟩
 rw [←hgr] at HO
 have HGR:=Lib.hid hgr
 clear hr h hd hn hbs hby hgr
 obtain ⟨st,er⟩:=gr
 simp only at HO
 go_enter Tryz.func120,Tryz.ntmps120
 go_wp2_with (fail)
 refine (place.stage_in p k _ p0 p1 k0 k1).mono ?_
 rintro e w1 ⟨rfl,hb⟩
 have H1:=Lib.hid (H.out.below hb)
 clear hb
 go_wp2_with (fail)
 refine (place.data_in p k 2 _ p0 p1 k0 k1 (by omega) (by omega)).mono ?_
 rintro e w2 ⟨rfl,hb⟩
 have H2:=Lib.hid (H1.out.below hb)
 have HL:=Lib.hid (dsk_len H2.out)
 rw [←HN.out] at HL
 clear hb
 go_wp2_with (fail)
 refine HL.out.mono ?_
 rintro e w3 ⟨rfl,rfl⟩
 go_wp2_with (fail)
 refine (HRD.out _ H2.out).mono ?_
 rintro e w4 ⟨b,rfl,h4⟩
 have H4:=Lib.hid h4
 clear h4
 obtain ⟨w5,hw5⟩:∃w5,w5=w4.alloc (.cells #[.pointer (some ⟨d,0,none⟩),.int .i64 p,.int .i64 k,.bool false,.int .i64 0,.int .i64 0,.int .i64 0] 158):=⟨_,rfl⟩
 have H5:=Lib.hid (show St w0 w5 (slt w4.heap.size d p k SlS.none::row b 5 (bs.map (.int .u8))::dsk d m::l) by rw [hw5];exact H4.out.new _ _)
 have HW5:=Lib.hid hw5
 clear hw5
 go_wp2_with (fail)
 rw [←HW5.out]
 refine (record.getStage_at _ _ 64 64 bs HBL.out (by omega) HBY.out (byte_sl (H5.out.pick 1 rfl).row.1 HBL.out)).mono ?_
 rintro e w6 ⟨rfl,hb⟩
 rw [←HGR.out]
 have H6:=Lib.hid (H5.out.below hb)
 clear hb
 dsimp only
 rw [Stg.val_eq]
 obtain ⟨w7,hw7⟩:∃w7,w7=w6.alloc (.cells #[.int .i64 st.session,.int .i64 st.size,.int .i64 st.have_] 31):=⟨_,rfl⟩
 have H7:=Lib.hid (show St w0 w7 (slt w4.heap.size d p k SlS.none::row w6.heap.size 31 st.cells.toList::row b 5 (bs.map (.int .u8))::dsk d m::l) by rw [hw7];exact (H6.out.new 31 st.cells).swap)
 have HW7:=Lib.hid hw7
 clear hw7
 by_cases he:er=0
 ·subst he
  have HO2:=Lib.hid (HO.out.trans (if_pos rfl))
  obtain ⟨y0,y1,y2⟩:=Stg.read (H7.out.pick 1 rfl).row.1
  have ly:=(H7.out.pick 1 rfl).row.1.lt
  have lg:=H7.out.row.1.lt
  obtain ⟨cs,hcs⟩:∃cs,cs=sltCells d p k ⟨false,st⟩:=⟨_,rfl⟩
  have HCS:=Lib.hid (show (sltCells d p k SlS.none).take 4++st.cells.toList++(sltCells d p k SlS.none).drop (4+st.cells.size)=cs by rw [hcs];rfl)
  have H8:=Lib.hid (H7.out.setRow cs)
  have f3:=H8.out.row.1.frozen 3
  have c3:=H8.out.row.1.cell 3
  rw [show cs[3]?=some (.bool false) by rw [hcs];rfl] at c3
  have H9:=Lib.hid (show St w0 _ (slt w4.heap.size d p k ⟨true,st⟩::_) by have h:=H8.out.set 3 (.bool true);rw [hcs] at h;exact h)
  rw [←hcs] at H9
  have MS:=Lib.hid (show (Tryz.prog.info? 31).map (·.size)=some st.cells.size from by kernel_rfl)
  have HE:=Lib.hid (show 4+st.cells.size≤(sltCells d p k SlS.none).length from Nat.le_refl 7)
  have HOO:=Lib.hid (stg_one st)
  clear hcs
  go_upto_region 12 with fail
  rw [←HW7.out]
  go_wp2_with (refine wpList_putR rfl 31 (.tmp 68) (.tmp 66) rfl w4.heap.size 4 st.cells rfl rfl H7.out.row.1 MS.out HE.out HOO.out cs HCS.out ?_)
  go_ret2
  rw [HO2.out]
  exact ⟨w4.heap.size,rfl,(H9.out.pick 1 rfl).drop.pick 1 rfl |>.drop⟩
 ·have b1:(er==0)=false:=by simpa using he
  have HO2:=Lib.hid (HO.out.trans (if_neg he))
  clear he
  go_upto_region 12 with fail
  rw [←HW7.out]
  go_wp2_with (fail)
  go_ret2
  rw [HO2.out]
  exact ⟨w4.heap.size,rfl,(H7.out.pick 1 rfl).drop.pick 1 rfl |>.drop⟩
theorem wfs_one (m:DS) (i:Int) (bs:List Int):wfs m [(i,bs)]=wf m i bs:=by
 show (if (wf m i bs).1=0 then ((0:Int),(wf m i bs).2) else wf m i bs)=wf m i bs
 split
 ·rename_i h
  rw [←h]
 ·rfl
theorem step_sl {w:World} {b:Nat} {t:TypeId} {L:List (Int×List Int)} {V:Nat→Option Addr×Nat} {n:Nat} (h:Row w b t (stepCells L V)) (hl:L.length=n):Sl w w.heap.size 2 (some ⟨b,0,none⟩) n (stepCells L V):=by
 have hlen:(stepCells L V).length=n*2:=by
  subst hl
  exact (lift.flat_get (fun i=>[Value.int .i64 (L.getD i (0,[])).1,.slice (V i).1 64 (V i).2]) 2 (by decide) L.length (fun i _=>rfl)).1
 exact ⟨hlen,fun _=>⟨b,0,rfl,h.lt,fun k u hu=>by rw [Nat.zero_add];exact (h.cell k).trans hu⟩⟩
theorem begin_at {w0 w:World} {l:List Asn} {g d:Nat} {m:DS} {p k:Int} {s:SlS} (h:St w0 w (slt g d p k s::dsk d m::l)) (hp:PK p k) (hwl:m.waits.length≤800) (se sz:Int) :
  Calls Tryz.prog 50 #[.pointer (some ⟨g,0,none⟩),.int .i64 se,.int .i64 sz] w fun e w'=>e=.returned (.int .i64 (beginM m p k s se sz).1)∧St w0 w' (slt g d p k (beginM m p k s se sz).2.2::dsk d (beginM m p k s se sz).2.1::l):=by
 obtain ⟨st,hst⟩:∃st:Stg,st=⟨se,sz,0⟩:=⟨_,rfl⟩
 have HQ:=Lib.hid (show beginM m p k s se sz=if st.right then (if (wf m (sAt p k) st.bytes).1=0 then (0,(wf m (sAt p k) st.bytes).2,⟨true,st⟩) else ((wf m (sAt p k) st.bytes).1,(wf m (sAt p k) st.bytes).2,s)) else (3,m,s) by rw [hst];rfl)
 obtain ⟨x,hx⟩:∃x,x=wf m (sAt p k) st.bytes:=⟨_,rfl⟩
 rw [←hx] at HQ
 have HX:=Lib.hid (show wfs m [(sAt p k,st.bytes)]=x by rw [wfs_one,hx])
 have HP:=Lib.hid hp
 have HST:=Lib.hid (show st.val=.agg #[.int .i64 se,.int .i64 sz,.int .i64 0] by rw [hst];rfl)
 obtain ⟨w1,hw1⟩:∃w1,w1=w.alloc (.cells #[.int .i64 se,.int .i64 sz,.int .i64 0] 31):=⟨_,rfl⟩
 have H1:=Lib.hid (show St w0 w1 (row w.heap.size 31 st.cells.toList::slt g d p k s::dsk d m::l) by rw [hw1,hst];exact h.new _ _)
 have HW1:=Lib.hid hw1
 obtain ⟨y0,y1,y2⟩:w1.cell? ⟨w.heap.size,0,none⟩=some (.int .i64 se)∧w1.cell? ⟨w.heap.size,1,none⟩=some (.int .i64 sz)∧w1.cell? ⟨w.heap.size,2,none⟩=some (.int .i64 0):=by
  have h:=Stg.read H1.out.row.1
  rw [hst] at h
  exact h
 have ly:=H1.out.row.1.lt
 have HSX:=Lib.hid (show st.session=se∧st.size=sz∧st.have_=0 by rw [hst];exact ⟨rfl,rfl,rfl⟩)
 clear hst hw1 hx hp h
 obtain ⟨ex,mx⟩:=x
 simp only at HQ
 go_enter Tryz.func50,Tryz.ntmps50
 go_upto_region 4 with fail
 rw [←HW1.out]
 go_wp2_with (fail)
 rw [←HST.out]
 cases hg:st.right with
 | false =>
   have HQ2:=Lib.hid (HQ.out.trans (if_neg (by rw [hg];decide)))
   refine (record.putStage_bad st _ hg).mono ?_
   rintro e w2 ⟨rfl,hb⟩
   have H2:=Lib.hid (H1.out.below hb)
   clear hb hg
   go_wp2_with (fail)
   go_ret
   rw [HQ2.out]
   exact ⟨rfl,H2.out.drop⟩
 | true =>
   have HQ2:=Lib.hid (HQ.out.trans (if_pos hg))
   refine (record.putStage_at st _ hg).mono ?_
   rintro e w2 ⟨v,rfl,ho,hb⟩
   have H2:=Lib.hid ((H1.out.addOwn hb ho).pick 2 rfl)
   obtain ⟨A,c,e2,hc,_⟩:=own_form ho
   subst e2
   clear ho hb hg
   go_wp2_with (fail)
   refine (own_at H2.out.row.1 HP.out).mono ?_
   rintro e w3 ⟨rfl,hb⟩
   have H3:=Lib.hid ((H2.out.below hb).pick 3 rfl)
   clear hb
   obtain ⟨w4,hw4⟩:∃w4,w4=w3.alloc (.cells #[.int .i64 (sAt p k),.slice A 64 c] 162):=⟨_,rfl⟩
   have H4:=Lib.hid (show St w0 w4 (slt g d p k s::dsk d m::row w3.heap.size 162 (stepCells [(sAt p k,st.bytes)] fun _=>(A,c))::own 5 1 (.slice A 64 c) 64 (st.bytes.map (.int .u8))::row w.heap.size 31 st.cells.toList::l) by
    rw [hw4]
    have h:=((H3.out.new 162 #[.int .i64 (sAt p k),.slice A 64 c]).pick 1 rfl).pick 2 rfl
    exact h)
   have HW4:=Lib.hid hw4
   clear hw4
   have HWR:=Lib.hid (write_at H4.out (some ⟨w3.heap.size,0,none⟩) 1 1 [(sAt p k,st.bytes)] (fun _=>(A,c)) rfl (by omega) (by omega) (fun w' m' h'=>⟨step_sl (h'.pick 2 rfl).row.1 rfl,fun j hj=>by
    obtain rfl:j=0:=by simpa using hj
    exact ⟨Stg.bytes_length _,Sl.of_own (h'.pick 3 rfl).own⟩⟩))
   rw [HX.out] at HWR
   go_wp2_with (fail)
   rw [←HW4.out]
   refine HWR.out.mono ?_
   rintro e w5 ⟨rfl,h5⟩
   have H5:=Lib.hid h5
   clear h5 y0 y1 y2 ly
   by_cases he:ex=0
   ·subst he
    have HQ3:=Lib.hid (HQ2.out.trans (if_pos rfl))
    obtain ⟨e0,e1,e2⟩:=HSX.out
    obtain ⟨y0,y1,y2⟩:=Stg.read (H5.out.pick 4 rfl).row.1
    have ly:=(H5.out.pick 4 rfl).row.1.lt
    have lg:=H5.out.row.1.lt
    obtain ⟨cs,hcs⟩:∃cs,cs=sltCells d p k ⟨s.has,st⟩:=⟨_,rfl⟩
    have HCS:=Lib.hid (show (sltCells d p k s).take 4++st.cells.toList++(sltCells d p k s).drop (4+st.cells.size)=cs by rw [hcs];rfl)
    have H8:=Lib.hid (H5.out.setRow cs)
    have f3:=H8.out.row.1.frozen 3
    have c3:=H8.out.row.1.cell 3
    rw [show cs[3]?=some (.bool s.has) by rw [hcs];rfl] at c3
    have H9:=Lib.hid (show St w0 _ (slt g d p k ⟨true,st⟩::_) by have h:=H8.out.set 3 (.bool true);rw [hcs] at h;exact h)
    rw [←hcs] at H9
    have MS:=Lib.hid (show (Tryz.prog.info? 31).map (·.size)=some st.cells.size from by kernel_rfl)
    have HE:=Lib.hid (show 4+st.cells.size≤(sltCells d p k s).length from Nat.le_refl 7)
    have HOO:=Lib.hid (stg_one st)
    clear hcs e0 e1 e2
    go_wp2_with (refine wpList_putR rfl 31 (.tmp 38) (.tmp 36) rfl g 4 st.cells rfl rfl H5.out.row.1 MS.out HE.out HOO.out cs HCS.out ?_)
    go_ret
    rw [HQ3.out]
    exact ⟨rfl,((((H9.out.pick 2 rfl).drop.pick 2 rfl).drop.pick 2 rfl).drop)⟩
   ·have b1:(ex != 0)=true:=by simpa using he
    have HQ3:=Lib.hid (HQ2.out.trans (if_neg he))
    clear he
    go_wp2_with (fail)
    go_ret
    rw [HQ3.out]
    exact ⟨rfl,((((H5.out.pick 2 rfl).drop.pick 2 rfl).drop.pick 2 rfl).drop)⟩
theorem make64 (w:World):(Instr.makeSlice 24 (.int .i64 64) (.int .i64 64)).run Tryz.prog w=.ok (.slice (some ⟨w.heap.size,0,none⟩) 64 64) (w.alloc (.cells (Array.replicate 64 (.int .u8 0)) 5)):=by
 have h:=make_eq 64 (by decide) w
 rw [show ((64:Nat):Int)=64 from rfl] at h
 rw [h]
 rfl
end stage
namespace stage

open Go.RowKit Go.ChangeShapes Go.WideShapes Go.ChangeAt Go.Deep Go.Joins base obj mem crc disk record Go.Proofs.YtdldkkoplgkloaaGreat.bits sep plan bytes
theorem wpList_copyR {P:Program} {w:World} {ops:Array Oper} {rest:List Oper} {o:Oper} {a:Act} {Q:Exit→Act→World→Prop} (hgd:o.guard=none) (d s:Operand) (dT sT:TypeId)
  (ho:o.op=.call { callee:=.builtin .copy,args:=#[d,s],argTypes:=#[dT,sT] }) (elem:TypeId) (hu:P.underlying dT=some (.slice elem)) (hsz:(P.info? elem).map (·.size)=some 1)
  (g off dLen dCap:Nat) (ad:Addr) (sLen sCap:Nat) (hd:a.eval d=.slice (some ⟨g,off,none⟩) dLen dCap) (hs:a.eval s=.slice (some ad) sLen sCap)
  {t:TypeId} {xs:List Value} (hr:Row w g t xs) (cs:List Value) (hn:cs.length=Nat.min sLen dLen) (hsrc:∀j v,cs[j]?=some v→w.cell? (ad.add j)=some v) (hfit:off+cs.length≤xs.length) (h1:∀v∈cs,v.oneCell'=true)
  (r:List Value) (hrr:xs.take off++(cs++xs.drop (off+cs.length))=r)
  (h:wpList P ops Q rest (a.put o.dst (goInt cs.length)) (w.setRow g r.toArray)):wpList P ops Q (o::rest) a w:=by
 subst hrr
 exact wpList_copy_own hgd d s dT sT ho elem hu hsz g off dLen dCap ad sLen sCap hd hs xs.toArray t hr cs hn hsrc (by simpa using hfit) h1 h
theorem u8_size1:(Tryz.prog.info? 5).map (·.size)=some 1:=by kernel_rfl
theorem wfs_two (m:DS) (i:Int) (bs:List Int) (j:Int) (cs:List Int):wfs m [(i,bs),(j,cs)]=wf2 m i bs j cs:=by
 show (if (wf m i bs).1=0 then wfs (wf m i bs).2 [(j,cs)] else wf m i bs)=_
 rw [wfs_one]
 rfl
theorem splice_map {b data:List Int} {no f:Nat} (hf:f=no % 4*16) (hd:data.length=16):(b.map (Value.int .u8)).take f++(data.map (Value.int .u8)++(b.map (Value.int .u8)).drop (f+(data.map (Value.int .u8)).length))=(splice b no data).map (Value.int .u8):=by
 unfold splice
 rw [List.length_map,hd,List.map_append,List.map_append,List.map_take,List.map_drop,List.append_assoc,hf]
theorem put_wrong {w0 w:World} {l:List Asn} {g d:Nat} {m:DS} {p k:Int} {s:SlS} (h:St w0 w (slt g d p k s::dsk d m::l)) (hr:s.has=true→s.st.right=true) (se no:Int) (A:Option Addr) (n c:Nat) (hw:wrongE s se no n≠0) :
  Calls Tryz.prog 51 #[.pointer (some ⟨g,0,none⟩),.int .i64 se,.int .i64 no,.slice A n c] w fun e w'=>e=.returned (.int .i64 (wrongE s se no n))∧St w0 w' (slt g d p k s::dsk d m::l):=by
 have H:=Lib.hid h
 have HW:=Lib.hid (wrong_at h.row.1 hr se no A n c)
 obtain ⟨ev,hev⟩:∃ev,ev=wrongE s se no n:=⟨_,rfl⟩
 rw [←hev] at HW hw ⊢
 have b1:(ev != 0)=true:=by simpa using hw
 clear h hr hw hev
 go_enter Tryz.func51,Tryz.ntmps51
 go_wp2_with (fail)
 refine HW.out.mono ?_
 rintro e w1 ⟨rfl,rfl⟩
 go_wp2_with (fail)
 go_ret
 exact ⟨rfl,H.out⟩
theorem put_has {w0 w:World} {l:List Asn} {g d:Nat} {m:DS} {p k:Int} {s:SlS} (h:St w0 w (slt g d p k s::dsk d m::l)) (hr:s.has=true→s.st.right=true) (se:Int) (q:Nat) (hq:q < 16) (A:Option Addr) (n c:Nat) (hw:wrongE s se q n=0) (hb:bitb s.st.have_ q=true) :
  Calls Tryz.prog 51 #[.pointer (some ⟨g,0,none⟩),.int .i64 se,.int .i64 (q:Int),.slice A n c] w fun e w'=>e=.returned (.int .i64 0)∧St w0 w' (slt g d p k s::dsk d m::l):=by
 have H:=Lib.hid h
 have HW:=Lib.hid (wrong_at h.row.1 hr se q A n c)
 rw [hw] at HW
 have HB:=Lib.hid (fun w=>bits.has_in s.st.have_ q w hq)
 rw [hb] at HB
 obtain ⟨c0,c1,c2,c3,c4,c5,c6,lg⟩:=slt_read h.row.1
 clear h hr hw hb
 go_enter Tryz.func51,Tryz.ntmps51
 go_wp2_with (fail)
 refine HW.out.mono ?_
 rintro e w1 ⟨rfl,rfl⟩
 go_wp2_with (fail)
 refine (HB.out _).mono ?_
 rintro e w2 ⟨rfl,rfl⟩
 go_wp2_with (fail)
 go_ret
 exact ⟨rfl,H.out⟩
theorem put_new {w0 w:World} {l:List Asn} {g d:Nat} {m:DS} {p k:Int} {s:SlS} (h:St w0 w (slt g d p k s::dsk d m::l)) (hp:Pl m p k) (hr:s.has=true→s.st.right=true) (hwl:m.waits.length≤800) (se:Int) (n:Nat) (A:Option Addr) (c:Nat) (data:List Int) (hn:data.length=16)
  (hs:∀w' m',St w0 w' (slt g d p k s::dsk d m'::l)→Sl w' w'.heap.size 1 A 16 (data.map (.int .u8))) (hw:wrongE s se n 16=0) (hb:bitb s.st.have_ n=false) :
  Calls Tryz.prog 51 #[.pointer (some ⟨g,0,none⟩),.int .i64 se,.int .i64 (n:Int),.slice A 16 c] w fun e w'=>e=.returned (.int .i64 (putM m p k s se n data).1)∧St w0 w' (slt g d p k (putM m p k s se n data).2.2::dsk d (putM m p k s se n data).2.1::l):=by
 have H:=Lib.hid h
 have HW:=Lib.hid (wrong_at h.row.1 hr se n A 16 c)
 rw [hw] at HW
 obtain ⟨hh,w1,w2,w3,_⟩:=wrong_yes hw
 have hrt:=hr hh
 obtain ⟨⟨z1,z2⟩,⟨z3,z4⟩,z5,z6⟩:=stg_in hrt
 have hn10:n < 10:=by unfold blocksN at w3;omega
 have HNX:=Lib.hid (nxt_right hrt (by omega:n < blocksN s.st.size))
 have HB:=Lib.hid (fun w=>bits.has_in s.st.have_ n w (by omega))
 rw [hb] at HB
 have HBW:=Lib.hid (fun w=>bits.with_in s.st.have_ n w (by omega) ⟨by omega,by omega⟩)
 obtain ⟨q,hq⟩:∃q:Nat,q=n / 4:=⟨_,rfl⟩
 obtain ⟨f,hf⟩:∃f:Nat,f=n % 4*16:=⟨_,rfl⟩
 have hq3:q < 3:=by omega
 have hf48:f≤48:=by omega
 have hqi:(n:Int) / 4=(q:Int):=by omega
 have hfi:(n:Int) % 4*16=(f:Int):=by omega
 have HBK:=Lib.hid (fun w=>place.block_in (n:Int) w (by omega) (by omega))
 rw [hqi,hfi] at HBK
 have HDA:=Lib.hid (fun w=>place.data_in p k (q:Int) w hp.p0 hp.p1 hp.k0 hp.k1 (by omega) (by omega))
 obtain ⟨at_,hat⟩:∃at_,at_=dAt p k (q:Int):=⟨_,rfl⟩
 rw [show p*10+(2+k*4+1+(q:Int))=at_ by rw [hat];rfl] at HDA
 obtain ⟨a0,a1⟩:=hp.at_ (i:=(q:Int)) (by omega) (by omega)
 rw [←hat] at a0 a1
 obtain ⟨nx,hnx⟩:∃nx,nx=nxt s.st n:=⟨_,rfl⟩
 obtain ⟨bs,hbs⟩:∃bs,bs=m.now at_.toNat:=⟨_,rfl⟩
 obtain ⟨x,hx⟩:∃x,x=wf2 m at_ (splice bs n data) (sAt p k) nx.bytes:=⟨_,rfl⟩
 have HQ:=Lib.hid (show putM m p k s se n data=if m.down then (8,m,s) else if x.1=0 then (0,x.2,⟨true,nx⟩) else (x.1,x.2,s) by
  unfold putM
  rw [hn,if_neg (not_not_intro hw),Int.toNat_natCast,if_neg (by rw [hb];decide),hqi,←hat,←hbs,←hnx,←hx])
 have HX:=Lib.hid (show wfs m [(at_,splice bs n data),(sAt p k,nx.bytes)]=x by rw [wfs_two,hx])
 have HPK:=Lib.hid hp.pk
 have HBL:=Lib.hid (show bs.length=64 by rw [hbs];exact hp.good.now_len (by omega))
 have HSPL:=Lib.hid (show (splice bs n data).length=64 from splice_length HBL.out n hn)
 have HSM:=Lib.hid (splice_map (b:=bs) hf hn)
 have HS:=Lib.hid hs;have HDN:=Lib.hid hn
 have HNH:=Lib.hid (show nx.session=s.st.session∧nx.size=s.st.size∧nx.have_=withB s.st.have_ n by rw [hnx];exact ⟨rfl,rfl,rfl⟩)
 rw [←hnx] at HNX
 have HNV:=Lib.hid (show nx.val=.agg #[.int .i64 s.st.session,.int .i64 s.st.size,.int .i64 (withB s.st.have_ n)] by rw [hnx];rfl)
 have HNC:=Lib.hid (show (s.st.cells.toList).set 2 (.int .i64 (withB s.st.have_ n))=nx.cells.toList by rw [hnx];rfl)
 have HHAS:=Lib.hid hh
 obtain ⟨c0,c1,c2,c3,c4,c5,c6,lg⟩:=slt_read h.row.1
 cases hd:m.down with
 | true =>
   have HRD:=Lib.hid (fun (w1:World) (h1:St w0 w1 (slt g d p k s::dsk d m::l))=>by
    have h:=dsk_read_no h1.swap at_ (.inr hd) (by omega)
    rw [if_neg (by omega)] at h
    exact h)
   rw [hd] at HQ
   have HQ2:=Lib.hid (HQ.out.trans (if_pos rfl))
   clear h hr hw hb hs hn hnx hbs hx hat hq hf hqi hfi hp hh w1 w2 w3 z1 z2 z3 z4 z5 z6 hrt hd
   go_enter Tryz.func51,Tryz.ntmps51
   go_wp2_with (fail)
   refine HW.out.mono ?_
   rintro e w1 ⟨rfl,rfl⟩
   go_wp2_with (fail)
   refine (HB.out _).mono ?_
   rintro e w2 ⟨rfl,rfl⟩
   go_wp2_with (fail)
   refine (HBK.out _).mono ?_
   rintro e w3 ⟨rfl,rfl⟩
   go_wp2_with (fail)
   go_region_law (first|(go_simp;(with_reducible refine (HDA.out _).mono ?_);rintro e w4 ⟨rfl,hb⟩;have HB4:=Lib.hid hb;clear hb;dsimp only))
   all_goals
    have H4:=Lib.hid (H.out.drew.below HB4.out)
    clear c0 c1 c2 c3 c4 c5 c6 lg
    obtain ⟨c0,c1,c2,c3,c4,c5,c6,lg⟩:=slt_read H4.out.row.1
    go_wp2_with (fail)
    refine (HRD.out _ H4.out).mono ?_
    rintro e w5 ⟨rfl,h5⟩
    have H5:=Lib.hid h5
    clear h5
    go_wp2_with (fail)
    go_ret
    rw [HQ2.out]
    exact ⟨rfl,H5.out.swap⟩
 | false =>
   have HRD:=Lib.hid (fun (w1:World) (h1:St w0 w1 (slt g d p k s::dsk d m::l))=>by
    have h:=dsk_read h1.swap at_ at_.toNat (by omega) (by omega) hd (by omega)
    rw [←hbs] at h
    exact h)
   rw [hd] at HQ
   have HQ2:=Lib.hid (HQ.out.trans (if_neg (by decide)))
   clear h hr hw hb hs hn hnx hbs hx hat hq hf hqi hfi hp hh w1 w2 w3 z1 z2 z3 z4 z5 z6 hrt hd
   go_enter Tryz.func51,Tryz.ntmps51
   go_wp2_with (fail)
   refine HW.out.mono ?_
   rintro e w1 ⟨rfl,rfl⟩
   go_wp2_with (fail)
   refine (HB.out _).mono ?_
   rintro e w2 ⟨rfl,rfl⟩
   go_wp2_with (fail)
   refine (HBK.out _).mono ?_
   rintro e w3 ⟨rfl,rfl⟩
   go_wp2_with (fail)
   go_region_law (first|(go_simp;(with_reducible refine (HDA.out _).mono ?_);rintro e w4 ⟨rfl,hb⟩;have HB4:=Lib.hid hb;clear hb;dsimp only))
   all_goals
    have H4:=Lib.hid (H.out.drew.below HB4.out)
    clear c0 c1 c2 c3 c4 c5 c6 lg
    obtain ⟨c0,c1,c2,c3,c4,c5,c6,lg⟩:=slt_read H4.out.row.1
    go_wp2_with (fail)
    refine (HRD.out _ H4.out).mono ?_
    rintro e w5 ⟨b,rfl,h5⟩
    have H5:=Lib.hid h5
    clear h5
    obtain ⟨ad,hA,hab,hsrc⟩:=Sl.src (HS.out _ _ H5.out.drop.swap) (by omega)
    subst hA
    have HSRC:=Lib.hid hsrc
    clear hsrc hab c0 c1 c2 c3 c4 c5 c6 lg
    have H6:=Lib.hid (show St w0 _ (row b 5 ((splice bs n data).map (.int .u8))::_) from H5.out.setRow ((splice bs n data).map (.int .u8)))
    have H6':=Lib.hid ((H6.out.pick 1 rfl).pick 2 rfl)
    obtain ⟨w6,hw6⟩:∃w6,w6=w5.setRow b ((splice bs n data).map (Value.int .u8)).toArray:=⟨_,rfl⟩
    rw [←hw6] at H6 H6'
    have HW6:=Lib.hid hw6
    obtain ⟨w7,hw7⟩:∃w7,w7=w6.alloc (.cells #[.int .i64 s.st.session,.int .i64 s.st.size,.int .i64 s.st.have_] 31):=⟨_,rfl⟩
    have H7:=Lib.hid (show St w0 w7 (row w6.heap.size 31 s.st.cells.toList::slt g d p k s::dsk d m::row b 5 ((splice bs n data).map (.int .u8))::l) by rw [hw7];exact (H6'.out.new 31 s.st.cells))
    have HW7:=Lib.hid hw7
    clear hw6 hw7
    have f2:=H7.out.row.1.frozen 2
    have s2:w7.cell? ⟨w6.heap.size,2,none⟩=some (.int .i64 s.st.have_):=H7.out.row.1.cell 2
    have ls:=H7.out.row.1.lt
    have H8:=Lib.hid (show St w0 _ (row w6.heap.size 31 nx.cells.toList::_) by have h:=H7.out.set 2 (.int .i64 (withB s.st.have_ n));rw [HNC.out] at h;exact h)
    obtain ⟨w8,hw8⟩:∃w8,w8=w7.setCell ⟨w6.heap.size,2,none⟩ (.int .i64 (withB s.st.have_ n)):=⟨_,rfl⟩
    rw [←hw8] at H8
    have HW8:=Lib.hid hw8
    clear hw8
    obtain ⟨g0,g1,g2,g3,g4,g5,g6,lg⟩:=slt_read H6'.out.row.1
    have HM16:=Lib.hid (show (data.map (Value.int .u8)).length=Nat.min 16 (64-f) by rw [List.length_map,HDN.out];show 16=min 16 (64-f);omega)
    have HM64:=Lib.hid (show f+(data.map (Value.int .u8)).length≤(bs.map (Value.int .u8)).length by rw [List.length_map,List.length_map,HDN.out,HBL.out];omega)
    go_upto_region 10 with (refine wpList_copyR rfl (.tmp 71) (.tmp 72) 24 24 rfl 5 Tryz.underlying24 u8_size1 b f (64-f) (64-f) ad 16 c rfl rfl H5.out.row.1 (data.map (.int .u8)) HM16.out HSRC.out HM64.out (u8s_one data) _ HSM.out ?_)
    rw [←HW6.out]
    go_upto_region 11 with fail
    rw [←HW7.out]
    go_wp2_with (fail)
    refine (HBW.out _).mono ?_
    rintro e w9 ⟨rfl,rfl⟩
    go_upto_region 12 with fail
    rw [←HW8.out]
    clear f2 s2 ls g0 g1 g2 g3 g4 g5 g6 lg
    obtain ⟨t0,t1,t2⟩:=Stg.read H8.out.row.1
    have lt:=H8.out.row.1.lt
    obtain ⟨e0,e1,e2⟩:=HNH.out
    rw [e0] at t0
    rw [e1] at t1
    rw [e2] at t2
    go_wp2_with (fail)
    rw [←HNV.out]
    refine (record.putStage_at nx _ HNX.out).mono ?_
    rintro e w10 ⟨v,rfl,ho,hb⟩
    have H10:=Lib.hid ((H8.out.addOwn hb ho).pick 2 rfl)
    obtain ⟨A',c',e3,hc',_⟩:=own_form ho
    subst e3
    clear ho hb t0 t1 t2 lt e0 e1 e2
    go_wp2_with (fail)
    refine (own_at H10.out.row.1 HPK.out).mono ?_
    rintro e w11 ⟨rfl,hb⟩
    have H11:=Lib.hid ((H10.out.below hb).pick 3 rfl)
    clear hb
    obtain ⟨w12,hw12⟩:∃w12,w12=w11.alloc (.cells #[.int .i64 at_,.slice (some ⟨b,0,none⟩) 64 64,.int .i64 (sAt p k),.slice A' 64 c'] 162):=⟨_,rfl⟩
    have H12:=Lib.hid (show St w0 w12 (slt g d p k s::dsk d m::row w11.heap.size 162 (stepCells [(at_,splice bs n data),(sAt p k,nx.bytes)] fun j=>if j=0 then (some ⟨b,0,none⟩,64) else (A',c'))::own 5 1 (.slice A' 64 c') 64 (nx.bytes.map (.int .u8))::row w6.heap.size 31 nx.cells.toList::row b 5 ((splice bs n data).map (.int .u8))::l) by
     rw [hw12]
     have h:=((H11.out.new 162 #[.int .i64 at_,.slice (some ⟨b,0,none⟩) 64 64,.int .i64 (sAt p k),.slice A' 64 c']).pick 1 rfl).pick 2 rfl
     exact h)
    have HW12:=Lib.hid hw12
    clear hw12
    have HWR:=Lib.hid (write_at H12.out (some ⟨w11.heap.size,0,none⟩) 2 2 [(at_,splice bs n data),(sAt p k,nx.bytes)] (fun j=>if j=0 then (some ⟨b,0,none⟩,64) else (A',c')) rfl (by omega) (by omega) (fun w' m' h'=>⟨step_sl (h'.pick 2 rfl).row.1 rfl,fun j hj=>by
     have hj2:j < 2:=hj
     match j,hj2 with
     | 0,_=>exact ⟨HSPL.out,byte_sl (h'.pick 5 rfl).row.1 HSPL.out⟩
     | 1,_=>exact ⟨Stg.bytes_length _,Sl.of_own (h'.pick 3 rfl).own⟩⟩))
    rw [HX.out] at HWR
    clear HX
    obtain ⟨ex,mx⟩:=x
    simp only at HQ2 HWR
    go_wp2_with (fail)
    rw [←HW12.out]
    refine HWR.out.mono ?_
    rintro e w13 ⟨rfl,h13⟩
    have H13:=Lib.hid h13
    clear h13
    by_cases he:ex=0
    ·subst he
     have HQ3:=Lib.hid (HQ2.out.trans (if_pos rfl))
     obtain ⟨y0,y1,y2⟩:=Stg.read (H13.out.pick 4 rfl).row.1
     have ly:=(H13.out.pick 4 rfl).row.1.lt
     have lg:=H13.out.row.1.lt
     have HCS:=Lib.hid (show (sltCells d p k s).take 4++nx.cells.toList++(sltCells d p k s).drop (4+nx.cells.size)=sltCells d p k ⟨true,nx⟩ by rw [←HHAS.out];rfl)
     have H14:=Lib.hid (show St w0 _ (slt g d p k ⟨true,nx⟩::_) from H13.out.setRow (sltCells d p k ⟨true,nx⟩))
     have MS:=Lib.hid (show (Tryz.prog.info? 31).map (·.size)=some nx.cells.size from by kernel_rfl)
     have HE:=Lib.hid (show 4+nx.cells.size≤(sltCells d p k s).length from Nat.le_refl 7)
     have HOO:=Lib.hid (stg_one nx)
     go_wp2_with (refine wpList_putR rfl 31 (.tmp 104) (.tmp 102) rfl g 4 nx.cells rfl rfl H13.out.row.1 MS.out HE.out HOO.out _ HCS.out ?_)
     go_ret
     rw [HQ3.out]
     exact ⟨rfl,((((H14.out.pick 2 rfl).drop.pick 2 rfl).drop.pick 2 rfl).drop.pick 2 rfl).drop⟩
    ·have b1:(ex != 0)=true:=by simpa using he
     have HQ3:=Lib.hid (HQ2.out.trans (if_neg he))
     clear he
     go_wp2_with (fail)
     go_ret
     rw [HQ3.out]
     exact ⟨rfl,((((H13.out.pick 2 rfl).drop.pick 2 rfl).drop.pick 2 rfl).drop.pick 2 rfl).drop⟩
end stage
namespace refRec

open Go.RowKit base obj mem crc num bytes record refNum
theorem blocks_at (w:World) (size:Int) (h1:size≤1000) (h0:-9223372036854775808≤size):Calls Tryz.prog 158 #[.int .i64 size] w fun e w'=>e=.returned (.int .i64 (blocksN size:Nat))∧w'=w:=by
 go_enter Tryz.func158,Tryz.ntmps158
 go_wp2_with (fail)
 go_loopw [3,0] (fun k s wr=>∃j:Nat,j≤63∧(0 < j→16*((j:Int)-1) < size)∧k=.int .i64 j∧s=.int .i64 (size-16*j)∧wr=w) (fun _ s _=>(intOf s).toNat)
 case atStart=>exact ⟨0,by omega,by omega,rfl,by simp,rfl⟩
 case round =>
  obtain ⟨j,hj,hj2,rfl,rfl,rfl⟩:=hrel
  have a1:(j:Int) < 1000:=by omega
  by_cases hlt:size-16*(j:Int) > 0
  ·have HJ:=Lib.hid hj2
   clear hj2
   generalize hs:size-16*(j:Int)=s at *
   have hs1:s≤1000:=by omega
   have HS:=Lib.hid hs
   clear hs
   go_wp2_with (fail)
   go_roundw
   case rel=>exact ⟨j+1,by have:=HS.out;omega,by have:=HS.out;omega,by go_num,by rw [show s-16=size-16*((j+1:Nat):Int) by have:=HS.out;omega],trivial⟩
   case measure=>simp [intOf]<;>omega
  ·have HB:=Lib.hid (show ((blocksN size:Nat):Int)=j by unfold blocksN;omega)
   have hs2:size-16*(j:Int)≤0:=by omega
   generalize hs:size-16*(j:Int)=s at *
   have HS:=Lib.hid hs
   clear hs hj2 hlt
   have hlt:¬s > 0:=by omega
   go_wp2_with (fail)
   go_ret
   exact ⟨ret_int (by rw [HB.out]),rfl⟩
theorem rightStage_at (s:Stg) (w:World) (hI:-9223372036854775808≤s.size):Calls Tryz.prog 157 #[s.val] w fun e w'=>e=.returned (.bool s.right)∧Below w.heap.size w w':=by
 obtain ⟨session,size,have_⟩:=s
 unfold Stg.val Stg.cells
 have HB:=Lib.hid (fun o=>(Below.refl w.heap.size w).alloc (Nat.le_refl _) o)
 by_cases hr:1≤session∧session≤65535∧1≤size∧size≤160∧0≤have_
 ·obtain ⟨a1,a2,a3,a4,a5⟩:=hr
  obtain ⟨b,hb⟩:∃b,b=blocksN size:=⟨_,rfl⟩
  have hb1:1≤b:=by rw [hb];unfold blocksN;omega
  have hb10:b≤10:=by rw [hb];unfold blocksN;omega
  have HBL:=Lib.hid (show ∀W,Calls Tryz.prog 158 #[.int .i64 size] W fun e w'=>e=.returned (.int .i64 (b:Nat))∧w'=W by rw [hb];exact fun W=>blocks_at W size (by omega) (by omega))
  have HE:=Lib.hid (show Stg.right ⟨session,size,have_⟩=decide (have_ < 2 ^ b) by
   unfold Stg.right
   simp only
   rw [←hb]
   rw [Bool.eq_iff_iff]
   simp
   omega)
  clear hb hI
  go_enter Tryz.func157,Tryz.ntmps157
  go_wp2_with (fail)
  obtain ⟨w1,hw1⟩:∃w1,w1=w.alloc (.cells #[.int .i64 session,.int .i64 size,.int .i64 have_] 31):=⟨_,rfl⟩
  rw [←hw1]
  have d1:w1.cell? ⟨w.heap.size,1,none⟩=some (.int .i64 size):=by rw [hw1];exact World.cell?_alloc_new _ _ _ _
  have d2:w1.cell? ⟨w.heap.size,2,none⟩=some (.int .i64 have_):=by rw [hw1];exact World.cell?_alloc_new _ _ _ _
  have HB1:=Lib.hid (show Below w.heap.size w w1 by rw [hw1];exact HB.out _)
  clear hw1 HB
  go_loopw [4,3] (fun k s wr=>∃j:Nat,j≤b∧k=.int .i64 j∧s=.int .i64 ((2 ^ j:Nat):Int)∧wr=w1) (fun k _ _=>b-(intOf k).toNat)
  case atStart=>exact ⟨0,by omega,rfl,rfl,rfl⟩
  case round =>
   obtain ⟨j,hj,rfl,rfl,rfl⟩:=hrel
   have hp:2 ^ j≤1024:=by
    have:=Nat.pow_le_pow_right (n:=2) (by decide) (show j≤10 by omega)
    simpa using this
   have HP:=Lib.hid (show 2 ^ (j+1)=2*2 ^ j by rw [Nat.pow_succ,Nat.mul_comm])
   have HPB:=Lib.hid (show j=b→((2 ^ j:Nat):Int)=2 ^ b by rintro rfl;simp)
   by_cases hlt:j < b
   ·have hlt':(j:Int) < (b:Int):=by omega
    generalize 2 ^ j=p at *
    go_wp2_with (fail)
    refine (HBL.out _).mono ?_;rintro e w' ⟨rfl,rfl⟩
    go_wp2_with (fail)
    go_roundw
    case rel=>exact ⟨j+1,by omega,by go_num,by rw [HP.out];go_num,trivial⟩
    case measure=>simp [intOf]<;>omega
   ·have hjb:j=b:=by omega
    have hlt':¬(j:Int) < (b:Int):=by omega
    have HPE:=Lib.hid (HPB.out hjb)
    clear hjb
    generalize 2 ^ j=p at *
    go_wp2_with (fail)
    refine (HBL.out _).mono ?_;rintro e w' ⟨rfl,rfl⟩
    go_wp2_with (fail)
    go_ret
    exact ⟨ret_bool (by rw [HE.out,←HPE.out]),HB1.out⟩
 ·go_enter Tryz.func157,Tryz.ntmps157
  have HR:=Lib.hid hr
  clear hr
  go_wp2_with (fail)
  all_goals first
   | (go_ret;refine ⟨ret_bool ?_,HB.out _⟩;simp [Stg.right]<;>omega)
   | (exfalso;have:=HR.out;omega)
end refRec
end Go.Proofs.YtdldkkoplgkloaaGreat
