/-
  PROVED HERE: lemmas and contracts that the law's proof leans on (texts put together: RecStagePut, RecGet, StgGet, RefNum, RefCrc, RefRec, RefSeal, RefBytes).
  CONDITIONS: each names its own.
-/
import Derived.Test.YtdldkkoplgkloaaGreatPz2
import Derived.Test.YtdldkkoplgkloaaGreatPz4
import Derived.Test.YtdldkkoplgkloaaGreatPz12
import Derived.Test.YtdldkkoplgkloaaGreatPz19
namespace Go.Proofs.YtdldkkoplgkloaaGreat
set_option linter.unusedVariables false
set_option linter.unusedSimpArgs false
set_option maxRecDepth 100000
set_option maxHeartbeats 32000000
namespace record

open Go.RowKit base obj mem crc num bytes plan
theorem stageFields_at (w:World) (R:Nat):Calls Tryz.prog 138 #[.pointer (some ⟨R,0,none⟩)] w fun e w'=>∃F,e=.returned (.slice (some ⟨F,0,none⟩) 3 3)∧w.heap.size≤F∧Row w' F 252 (fieldCells R [2,2,2])∧Below w.heap.size w w':=by
 go_enter Tryz.func138,Tryz.ntmps138
 go_wp2_with (fail)
 go_region
 go_wp2_with (fail)
 go_ret
 exact ⟨w.heap.size,rfl,Nat.le_refl _,(Row.new w _ _).drew,((Below.refl w.heap.size w).alloc (Nat.le_refl _) _).drew⟩
def Stg.nums (s:Stg):List Nat:=[s.session.toNat,s.size.toNat,s.have_.toNat]
abbrev stgWidths:List Nat:=[2,2,2]
def Stg.head (s:Stg):List Int:=pre 19539 stgWidths s.nums 3
def Stg.bytes (s:Stg):List Int:=sealB s.head
theorem Stg.head_length (s:Stg):s.head.length=8:=by
 simp [Stg.head,pre,be_length,List.range_succ]
theorem stg_in {s:Stg} (h:s.right=true):(1≤s.session∧s.session≤65535)∧(1≤s.size∧s.size≤160)∧0≤s.have_∧s.have_ < 1024:=by
 simp [Stg.right] at h
 obtain ⟨⟨h1,h2⟩,h3,h4⟩:=h
 refine ⟨h1,h2,h3,?_⟩
 have hb:blocksN s.size≤10:=by unfold blocksN;omega
 have hp:(2:Nat) ^ blocksN s.size≤2 ^ 10:=Nat.pow_le_pow_right (by decide) hb
 have hc:((2 ^ blocksN s.size:Nat):Int)=(2:Int) ^ blocksN s.size:=by simp
 omega
theorem stg_fl {w:World} {R F:Nat} {s:Stg} (hr:Row w R 31 s.cells.toList) (hF:Row w F 252 (fieldCells R stgWidths)) (h:s.right=true):Fl w R F 252 stgWidths s.nums:=by
 obtain ⟨⟨h1,h2⟩,⟨h3,h4⟩,h5,h6⟩:=stg_in h
 obtain ⟨session,size,have_⟩:=s
 simp only at *
 refine ⟨hF,fun i hi=>?_,fun i hi=>?_⟩
 ·have hi6:i=0∨i=1∨i=2:=by simp at hi;omega
  rcases hi6 with rfl|rfl|rfl<;>refine (hr.cell _).trans ?_<;>simp [Stg.cells,Stg.nums]<;>omega
 ·have hi6:i=0∨i=1∨i=2:=by simp at hi;omega
  rcases hi6 with rfl|rfl|rfl<;>simp [Stg.nums]<;>omega
theorem putStage_at (s:Stg) (w:World) (h:s.right=true):Calls Tryz.prog 88 #[s.val] w fun e w'=>∃v,e=.returned (.tuple #[v,.int .i64 0])∧w'.ownsRow w.heap.size 5 1 v 64 (s.bytes.map (.int .u8))∧Below w.heap.size w w':=by
 have H:=Lib.hid h
 have HR0:=Lib.hid (Row.new w 31 s.cells)
 have HB0:=Lib.hid ((Below.refl w.heap.size w).alloc (Nat.le_refl _) (.cells s.cells 31))
 have HA:=Lib.hid (rightStage_at s)
 clear h
 unfold Stg.val Stg.cells at *
 go_enter Tryz.func88,Tryz.ntmps88
 go_wp2_with (fail)
 refine (HA.out _).mono ?_
 rintro e w1 ⟨rfl,hb⟩
 rw [H.out]
 have HB1:=Lib.hid (HB0.out.trans (hb.mono (by simp)))
 have HR1:=Lib.hid (HR0.out.below hb (by simp))
 clear hb
 go_wp2_with (fail)
 refine (stageFields_at _ _).mono ?_
 rintro e w2 ⟨F,rfl,hF,hrow,hb⟩
 have HB2:=Lib.hid (HB1.out.trans (hb.mono HB1.out.size))
 have HR2:=Lib.hid (HR1.out.below hb HR1.out.lt)
 have HF2:=Lib.hid hrow
 clear hb hrow hF
 go_wp2_with (fail)
 refine (sealed_at _ w.heap.size F 252 stgWidths s.nums 3 rfl (by omega) (stg_fl HR2.out HF2.out H.out) 19539 (by decide) (by have:=s.head_length;unfold Stg.head at this;omega)).mono ?_
 rintro e w3 ⟨v,rfl,ho,hb⟩
 have HO:=Lib.hid (own_base ho HB2.out.size)
 have HB3:=Lib.hid (HB2.out.trans (hb.mono HB2.out.size))
 clear ho hb
 go_wp2_with (fail)
 go_ret2
 exact ⟨v,rfl,HO.out,HB3.out⟩
theorem putStage_bad (s:Stg) (w:World) (h:s.right=false):Calls Tryz.prog 88 #[s.val] w fun e w'=>e=.returned (.tuple #[.slice none 0 0,.int .i64 3])∧Below w.heap.size w w':=by
 have H:=Lib.hid h
 have HB0:=Lib.hid ((Below.refl w.heap.size w).alloc (Nat.le_refl _) (.cells s.cells 31))
 have HA:=Lib.hid (rightStage_at s)
 clear h
 unfold Stg.val Stg.cells at *
 go_enter Tryz.func88,Tryz.ntmps88
 go_wp2_with (fail)
 refine (HA.out _).mono ?_
 rintro e w1 ⟨rfl,hb⟩
 rw [H.out]
 have HB1:=Lib.hid (HB0.out.trans (hb.mono (by simp)))
 clear hb
 go_wp2_with (fail)
 go_ret2
 exact ⟨rfl,HB1.out⟩
end record
namespace record

open Go.RowKit base obj mem crc num bytes plan
theorem opened_len (w:World) (A:Option Addr) (n c:Nat) (hn:n≠64) (mark:Nat) (F:Value):Calls Tryz.prog 167 #[.slice A n c,.int .i64 mark,F] w fun e w'=>e=.returned (.int .i64 14)∧w'=w:=by
 have e1:((n:Int) != 64)=true:=by simp;omega
 have e2:(n != 64)=true:=by simpa using hn
 clear hn
 go_enter Tryz.func167,Tryz.ntmps167
 go_wp2_with (fail)
 go_ret
 exact ⟨rfl,rfl⟩
def Rec.zero:Rec:=⟨0,0,0,0,0,0⟩
def gotRec (bs:List Int):Rec:=⟨(got recWidths bs 0:Nat),(got recWidths bs 1:Nat),(got recWidths bs 2:Nat),(got recWidths bs 3:Nat),(got recWidths bs 4:Nat),(got recWidths bs 5:Nat)⟩
def getRec (bs:List Int):Rec×Int :=
 if bs.length=64 then (if openE 19523 11 bs=0 then (if (gotRec bs).right then (gotRec bs,0) else (Rec.zero,3)) else (Rec.zero,openE 19523 11 bs)) else (Rec.zero,14)
theorem gotRec_cells (bs:List Int):(List.range 6).map (fun i=>Value.int .i64 (got recWidths bs i:Nat))=(gotRec bs).cells.toList:=rfl
theorem rec_one (r:Rec):∀v∈r.cells.toList,v.oneCell'=true:=by
 intro v hv
 simp only [Rec.cells,List.mem_cons,List.not_mem_nil,or_false] at hv
 rcases hv with rfl|rfl|rfl|rfl|rfl|rfl<;>rfl
structure GetIn (w:World) (bs:List Int) (A:Option Addr) (n:Nat) (wr:World) (F:Nat):Prop where
 res:Row wr w.heap.size 35 Rec.zero.cells.toList
 row:Row wr (w.heap.size+1) 35 Rec.zero.cells.toList
 fl:Row wr F 251 (fieldCells (w.heap.size+1) recWidths)
 bel:Below w.heap.size w wr
theorem get_at (w:World) (A:Option Addr) (n c:Nat) (bs:List Int) (hl:bs.length=n) (hc:n≤c) (hb:Byt bs) (hs:Sl w w.heap.size 1 A n (bs.map (.int .u8))) :
  Calls Tryz.prog 119 #[.slice A n c] w fun e w'=>e=.returned (.tuple #[(getRec bs).1.val,.int .i64 (getRec bs).2])∧Below w.heap.size w w':=by
 obtain ⟨w0,hw0⟩:∃w0,w0=(w.alloc (.cells Rec.zero.cells 35)).alloc (.cells Rec.zero.cells 35):=⟨_,rfl⟩
 have HB0:=Lib.hid (show Below w.heap.size w w0 by rw [hw0];exact ((Below.refl w.heap.size w).alloc (Nat.le_refl _) _).alloc (by simp) _)
 have HR0:=Lib.hid (show Row w0 w.heap.size 35 Rec.zero.cells.toList by rw [hw0];exact (Row.new w _ _).alloc _)
 have HR1:=Lib.hid (show Row w0 (w.heap.size+1) 35 Rec.zero.cells.toList by
  rw [hw0]
  have h:=Row.new (w.alloc (.cells Rec.zero.cells 35)) 35 Rec.zero.cells
  rwa [show (w.alloc (.cells Rec.zero.cells 35)).heap.size=w.heap.size+1 by simp] at h)
 have MS:=Lib.hid (fun r:Rec=>show (Tryz.prog.info? 35).map (·.size)=some r.cells.size from by kernel_rfl)
 have ML:=Lib.hid (fun r:Rec=>show 0+r.cells.size≤Rec.zero.cells.toList.length from Nat.le_refl 6)
 have MO:=Lib.hid (fun r:Rec=>rec_one r)
 have MR:=Lib.hid (fun r:Rec=>show Rec.zero.cells.toList.take 0++r.cells.toList++Rec.zero.cells.toList.drop (0+r.cells.size)=r.cells.toList by simp [Rec.zero,Rec.cells])
 have HL:=Lib.hid hl;have HY:=Lib.hid hb;have HS:=Lib.hid hs;have HW:=Lib.hid hw0
 clear hl hb hs hw0
 unfold Rec.zero Rec.cells at HW
 by_cases h64:n=64
 ·subst h64
  have HG:=Lib.hid (show getRec bs=(if openE 19523 11 bs=0 then (if (gotRec bs).right then (gotRec bs,0) else (Rec.zero,3)) else (Rec.zero,openE 19523 11 bs)) by unfold getRec;rw [if_pos HL.out])
  have HA:=Lib.hid (right_at (gotRec bs))
  obtain ⟨g,hg⟩:∃g,g=gotRec bs:=⟨_,rfl⟩
  obtain ⟨ev,hev⟩:∃ev,ev=openE 19523 11 bs:=⟨_,rfl⟩
  rw [←hg] at HG HA
  rw [←hev] at HG
  have HGE:=Lib.hid hg;have HEV:=Lib.hid hev
  clear hg hev
  go_enter Tryz.func119,Tryz.ntmps119
  go_wp2_with (fail)
  rw [←HW.out]
  refine (fields_at _ _).mono ?_
  rintro e w1 ⟨F,rfl,hF,hrow,hb⟩
  have HB1:=Lib.hid (HB0.out.trans (hb.mono HB0.out.size))
  have HR10:=Lib.hid (HR0.out.below hb HR0.out.lt)
  have HR11:=Lib.hid (HR1.out.below hb HR1.out.lt)
  have HF1:=Lib.hid hrow
  have HFN:=Lib.hid (show F≠w.heap.size+1 by have:=HR1.out.lt;omega)
  clear hb hrow hF
  go_wp2_with (fail)
  refine (opened_at _ (w.heap.size+1) F 251 35 recWidths 6 rfl (by omega) _ rfl HR11.out HF1.out HFN.out (by decide) A c bs HL.out HY.out (((HS.out.below HB1.out).more (by omega))) hc 11 (by decide) (by omega) 19523 (by decide)).mono ?_
  rintro e w2 ⟨rfl,hrow,hk⟩
  rw [gotRec_cells,←HGE.out] at hrow
  rw [←HEV.out]
  have HR2:=Lib.hid hrow
  have HR20:=Lib.hid (HR10.out.kept hk (fun e=>by have:w.heap.size=w.heap.size+1:=e;omega))
  have HB2:=Lib.hid (show Below w.heap.size w w2 from HB1.out.trans (hk.below HB1.out.size (fun i hi e=>by have:i=w.heap.size+1:=e;omega)))
  have q0:w2.cell? ⟨w.heap.size+1,0,none⟩=some (.int .i64 g.part):=HR2.out.cell 0
  have q1:w2.cell? ⟨w.heap.size+1,1,none⟩=some (.int .i64 g.seq):=HR2.out.cell 1
  have q2:w2.cell? ⟨w.heap.size+1,2,none⟩=some (.int .i64 g.active):=HR2.out.cell 2
  have q3:w2.cell? ⟨w.heap.size+1,3,none⟩=some (.int .i64 g.confirmed):=HR2.out.cell 3
  have q4:w2.cell? ⟨w.heap.size+1,4,none⟩=some (.int .i64 g.left):=HR2.out.cell 4
  have q5:w2.cell? ⟨w.heap.size+1,5,none⟩=some (.int .i64 g.bad):=HR2.out.cell 5
  have hs2:w.heap.size+1 < w2.heap.size:=HR2.out.lt
  clear hrow hk
  by_cases he:ev=0
  ·subst he
   have HB3:=Lib.hid (fun (w':World) (b:Below w2.heap.size w2 w')=>HR20.out.below b HR20.out.lt)
   cases hr:g.right with
   | false =>
     rw [hr] at HA
     have HGF:=Lib.hid (show getRec bs=(Rec.zero,3) by rw [HG.out,hr];rfl)
     clear hr
     unfold Rec.val Rec.cells at HA
     go_wp2_with (fail)
     refine (HA.out _).mono ?_
     rintro e w3 ⟨rfl,hb⟩
     have HB4:=Lib.hid (HB2.out.trans (hb.mono HB2.out.size))
     have HR4:=Lib.hid (HB3.out _ hb)
     clear hb
     go_wp2_with (refine wpList_putR rfl 35 (.tmp 2) (.tmp 18) rfl w.heap.size 0 Rec.zero.cells rfl rfl HR4.out (MS.out Rec.zero) (ML.out Rec.zero) (MO.out Rec.zero) Rec.zero.cells.toList (MR.out Rec.zero) ?_)
     refine bodyPost_ret (res_cell_slot rfl _ _ w.heap.size _ _ _ _ _ rfl rfl (HR4.out.setRow _) Tryz.underlying35 rfl (by kernel_rfl)) rfl ?_
     exact ⟨by rw [HGF.out];rfl,below_setRow' HB4.out (Nat.le_refl _) _⟩
   | true =>
     rw [hr] at HA
     have HGF:=Lib.hid (show getRec bs=(g,0) by rw [HG.out,hr];rfl)
     have HR5:=Lib.hid (fun (w':World) (b:Below w2.heap.size w2 w')=>HR2.out.below b HR2.out.lt)
     clear hr
     unfold Rec.val Rec.cells at HA
     go_wp2_with (fail)
     refine (HA.out _).mono ?_
     rintro e w3 ⟨rfl,hb⟩
     have HB4:=Lib.hid (HB2.out.trans (hb.mono HB2.out.size))
     have HR4:=Lib.hid (HB3.out _ hb)
     have HR6:=Lib.hid (HR5.out _ hb)
     have t0:w3.cell? ⟨w.heap.size+1,0,none⟩=some (.int .i64 g.part):=HR6.out.cell 0
     have t1:w3.cell? ⟨w.heap.size+1,1,none⟩=some (.int .i64 g.seq):=HR6.out.cell 1
     have t2:w3.cell? ⟨w.heap.size+1,2,none⟩=some (.int .i64 g.active):=HR6.out.cell 2
     have t3:w3.cell? ⟨w.heap.size+1,3,none⟩=some (.int .i64 g.confirmed):=HR6.out.cell 3
     have t4:w3.cell? ⟨w.heap.size+1,4,none⟩=some (.int .i64 g.left):=HR6.out.cell 4
     have t5:w3.cell? ⟨w.heap.size+1,5,none⟩=some (.int .i64 g.bad):=HR6.out.cell 5
     have hs3:w.heap.size+1 < w3.heap.size:=HR6.out.lt
     clear hb
     go_wp2_with (refine wpList_putR rfl 35 (.tmp 2) (.tmp 20) rfl w.heap.size 0 g.cells rfl rfl HR4.out (MS.out g) (ML.out g) (MO.out g) g.cells.toList (MR.out g) ?_)
     refine bodyPost_ret (res_cell_slot rfl _ _ w.heap.size _ _ _ _ _ rfl rfl (HR4.out.setRow _) Tryz.underlying35 rfl (by kernel_rfl)) rfl ?_
     exact ⟨by rw [HGF.out];rfl,below_setRow' HB4.out (Nat.le_refl _) _⟩
  ·have b1:(ev==0)=false:=by simpa using he
   have b2:(ev != 0)=true:=by simpa using he
   have HGF:=Lib.hid (show getRec bs=(Rec.zero,ev) by rw [HG.out,if_neg he])
   clear he
   go_wp2_with (refine wpList_putR rfl 35 (.tmp 2) (.tmp 18) rfl w.heap.size 0 Rec.zero.cells rfl rfl HR20.out (MS.out Rec.zero) (ML.out Rec.zero) (MO.out Rec.zero) Rec.zero.cells.toList (MR.out Rec.zero) ?_)
   refine bodyPost_ret (res_cell_slot rfl _ _ w.heap.size _ _ _ _ _ rfl rfl (HR20.out.setRow _) Tryz.underlying35 rfl (by kernel_rfl)) rfl ?_
   exact ⟨by rw [HGF.out];rfl,below_setRow' HB2.out (Nat.le_refl _) _⟩
 ·have HGF:=Lib.hid (show getRec bs=(Rec.zero,14) by unfold getRec;rw [if_neg (by rw [HL.out];exact h64)])
  have HN:=Lib.hid h64
  clear h64
  go_enter Tryz.func119,Tryz.ntmps119
  go_wp2_with (fail)
  rw [←HW.out]
  refine (fields_at _ _).mono ?_
  rintro e w1 ⟨F,rfl,hF,hrow,hb⟩
  have HB1:=Lib.hid (HB0.out.trans (hb.mono HB0.out.size))
  have HR10:=Lib.hid (HR0.out.below hb HR0.out.lt)
  clear hb hrow hF
  go_wp2_with (fail)
  refine (opened_len _ A n c HN.out 19523 _).mono ?_
  rintro e w2 ⟨rfl,rfl⟩
  go_wp2_with (refine wpList_putR rfl 35 (.tmp 2) (.tmp 18) rfl w.heap.size 0 Rec.zero.cells rfl rfl HR10.out (MS.out Rec.zero) (ML.out Rec.zero) (MO.out Rec.zero) Rec.zero.cells.toList (MR.out Rec.zero) ?_)
  refine bodyPost_ret (res_cell_slot rfl _ _ w.heap.size _ _ _ _ _ rfl rfl (HR10.out.setRow _) Tryz.underlying35 rfl (by kernel_rfl)) rfl ?_
  exact ⟨by rw [HGF.out];rfl,below_setRow' HB1.out (Nat.le_refl _) _⟩
end record
namespace record

open Go.RowKit base obj mem crc num bytes plan
def Stg.zero:Stg:=⟨0,0,0⟩
def gotStg (bs:List Int):Stg:=⟨(got stgWidths bs 0:Nat),(got stgWidths bs 1:Nat),(got stgWidths bs 2:Nat)⟩
def getStg (bs:List Int):Stg×Int :=
 if bs.length=64 then (if openE 19539 8 bs=0 then (if (gotStg bs).right then (gotStg bs,0) else (Stg.zero,3)) else (Stg.zero,openE 19539 8 bs)) else (Stg.zero,14)
theorem gotStg_cells (bs:List Int):(List.range 3).map (fun i=>Value.int .i64 (got stgWidths bs i:Nat))=(gotStg bs).cells.toList:=rfl
theorem stg_one (r:Stg):∀v∈r.cells.toList,v.oneCell'=true:=by
 intro v hv
 simp only [Stg.cells,List.mem_cons,List.not_mem_nil,or_false] at hv
 rcases hv with rfl|rfl|rfl<;>rfl
structure GetStIn (w:World) (bs:List Int) (A:Option Addr) (n:Nat) (wr:World) (F:Nat):Prop where
 res:Row wr w.heap.size 31 Stg.zero.cells.toList
 row:Row wr (w.heap.size+1) 31 Stg.zero.cells.toList
 fl:Row wr F 252 (fieldCells (w.heap.size+1) stgWidths)
 bel:Below w.heap.size w wr
theorem getStage_at (w:World) (A:Option Addr) (n c:Nat) (bs:List Int) (hl:bs.length=n) (hc:n≤c) (hb:Byt bs) (hs:Sl w w.heap.size 1 A n (bs.map (.int .u8))) :
  Calls Tryz.prog 168 #[.slice A n c] w fun e w'=>e=.returned (.tuple #[(getStg bs).1.val,.int .i64 (getStg bs).2])∧Below w.heap.size w w':=by
 obtain ⟨w0,hw0⟩:∃w0,w0=(w.alloc (.cells Stg.zero.cells 31)).alloc (.cells Stg.zero.cells 31):=⟨_,rfl⟩
 have HB0:=Lib.hid (show Below w.heap.size w w0 by rw [hw0];exact ((Below.refl w.heap.size w).alloc (Nat.le_refl _) _).alloc (by simp) _)
 have HR0:=Lib.hid (show Row w0 w.heap.size 31 Stg.zero.cells.toList by rw [hw0];exact (Row.new w _ _).alloc _)
 have HR1:=Lib.hid (show Row w0 (w.heap.size+1) 31 Stg.zero.cells.toList by
  rw [hw0]
  have h:=Row.new (w.alloc (.cells Stg.zero.cells 31)) 31 Stg.zero.cells
  rwa [show (w.alloc (.cells Stg.zero.cells 31)).heap.size=w.heap.size+1 by simp] at h)
 have MS:=Lib.hid (fun r:Stg=>show (Tryz.prog.info? 31).map (·.size)=some r.cells.size from by kernel_rfl)
 have ML:=Lib.hid (fun r:Stg=>show 0+r.cells.size≤Stg.zero.cells.toList.length from Nat.le_refl 3)
 have MO:=Lib.hid (fun r:Stg=>stg_one r)
 have MR:=Lib.hid (fun r:Stg=>show Stg.zero.cells.toList.take 0++r.cells.toList++Stg.zero.cells.toList.drop (0+r.cells.size)=r.cells.toList by simp [Stg.zero,Stg.cells])
 have HL:=Lib.hid hl;have HY:=Lib.hid hb;have HS:=Lib.hid hs;have HW:=Lib.hid hw0
 clear hl hb hs hw0
 unfold Stg.zero Stg.cells at HW
 by_cases h64:n=64
 ·subst h64
  have HG:=Lib.hid (show getStg bs=(if openE 19539 8 bs=0 then (if (gotStg bs).right then (gotStg bs,0) else (Stg.zero,3)) else (Stg.zero,openE 19539 8 bs)) by unfold getStg;rw [if_pos HL.out])
  have HA:=Lib.hid (rightStage_at (gotStg bs))
  obtain ⟨g,hg⟩:∃g,g=gotStg bs:=⟨_,rfl⟩
  obtain ⟨ev,hev⟩:∃ev,ev=openE 19539 8 bs:=⟨_,rfl⟩
  rw [←hg] at HG HA
  rw [←hev] at HG
  have HGE:=Lib.hid hg;have HEV:=Lib.hid hev
  clear hg hev
  go_enter Tryz.func168,Tryz.ntmps168
  go_wp2_with (fail)
  rw [←HW.out]
  refine (stageFields_at _ _).mono ?_
  rintro e w1 ⟨F,rfl,hF,hrow,hb⟩
  have HB1:=Lib.hid (HB0.out.trans (hb.mono HB0.out.size))
  have HR10:=Lib.hid (HR0.out.below hb HR0.out.lt)
  have HR11:=Lib.hid (HR1.out.below hb HR1.out.lt)
  have HF1:=Lib.hid hrow
  have HFN:=Lib.hid (show F≠w.heap.size+1 by have:=HR1.out.lt;omega)
  clear hb hrow hF
  go_wp2_with (fail)
  refine (opened_at _ (w.heap.size+1) F 252 31 stgWidths 3 rfl (by omega) _ rfl HR11.out HF1.out HFN.out (by decide) A c bs HL.out HY.out (((HS.out.below HB1.out).more (by omega))) hc 8 (by decide) (by omega) 19539 (by decide)).mono ?_
  rintro e w2 ⟨rfl,hrow,hk⟩
  rw [gotStg_cells,←HGE.out] at hrow
  rw [←HEV.out]
  have HR2:=Lib.hid hrow
  have HR20:=Lib.hid (HR10.out.kept hk (fun e=>by have:w.heap.size=w.heap.size+1:=e;omega))
  have HB2:=Lib.hid (show Below w.heap.size w w2 from HB1.out.trans (hk.below HB1.out.size (fun i hi e=>by have:i=w.heap.size+1:=e;omega)))
  have q0:w2.cell? ⟨w.heap.size+1,0,none⟩=some (.int .i64 g.session):=HR2.out.cell 0
  have q1:w2.cell? ⟨w.heap.size+1,1,none⟩=some (.int .i64 g.size):=HR2.out.cell 1
  have q2:w2.cell? ⟨w.heap.size+1,2,none⟩=some (.int .i64 g.have_):=HR2.out.cell 2
  have hs2:w.heap.size+1 < w2.heap.size:=HR2.out.lt
  clear hrow hk
  by_cases he:ev=0
  ·subst he
   have HB3:=Lib.hid (fun (w':World) (b:Below w2.heap.size w2 w')=>HR20.out.below b HR20.out.lt)
   cases hr:g.right with
   | false =>
     rw [hr] at HA
     have HGF:=Lib.hid (show getStg bs=(Stg.zero,3) by rw [HG.out,hr];rfl)
     clear hr
     unfold Stg.val Stg.cells at HA
     go_wp2_with (fail)
     refine (HA.out _).mono ?_
     rintro e w3 ⟨rfl,hb⟩
     have HB4:=Lib.hid (HB2.out.trans (hb.mono HB2.out.size))
     have HR4:=Lib.hid (HB3.out _ hb)
     clear hb
     go_wp2_with (refine wpList_putR rfl 31 (.tmp 2) (.tmp 18) rfl w.heap.size 0 Stg.zero.cells rfl rfl HR4.out (MS.out Stg.zero) (ML.out Stg.zero) (MO.out Stg.zero) Stg.zero.cells.toList (MR.out Stg.zero) ?_)
     refine bodyPost_ret (res_cell_slot rfl _ _ w.heap.size _ _ _ _ _ rfl rfl (HR4.out.setRow _) Tryz.underlying31 rfl (by kernel_rfl)) rfl ?_
     exact ⟨by rw [HGF.out];rfl,below_setRow' HB4.out (Nat.le_refl _) _⟩
   | true =>
     rw [hr] at HA
     have HGF:=Lib.hid (show getStg bs=(g,0) by rw [HG.out,hr];rfl)
     have HR5:=Lib.hid (fun (w':World) (b:Below w2.heap.size w2 w')=>HR2.out.below b HR2.out.lt)
     clear hr
     unfold Stg.val Stg.cells at HA
     go_wp2_with (fail)
     refine (HA.out _).mono ?_
     rintro e w3 ⟨rfl,hb⟩
     have HB4:=Lib.hid (HB2.out.trans (hb.mono HB2.out.size))
     have HR4:=Lib.hid (HB3.out _ hb)
     have HR6:=Lib.hid (HR5.out _ hb)
     have t0:w3.cell? ⟨w.heap.size+1,0,none⟩=some (.int .i64 g.session):=HR6.out.cell 0
     have t1:w3.cell? ⟨w.heap.size+1,1,none⟩=some (.int .i64 g.size):=HR6.out.cell 1
     have t2:w3.cell? ⟨w.heap.size+1,2,none⟩=some (.int .i64 g.have_):=HR6.out.cell 2
     have hs3:w.heap.size+1 < w3.heap.size:=HR6.out.lt
     clear hb
     go_wp2_with (refine wpList_putR rfl 31 (.tmp 2) (.tmp 20) rfl w.heap.size 0 g.cells rfl rfl HR4.out (MS.out g) (ML.out g) (MO.out g) g.cells.toList (MR.out g) ?_)
     refine bodyPost_ret (res_cell_slot rfl _ _ w.heap.size _ _ _ _ _ rfl rfl (HR4.out.setRow _) Tryz.underlying31 rfl (by kernel_rfl)) rfl ?_
     exact ⟨by rw [HGF.out];rfl,below_setRow' HB4.out (Nat.le_refl _) _⟩
  ·have b1:(ev==0)=false:=by simpa using he
   have b2:(ev != 0)=true:=by simpa using he
   have HGF:=Lib.hid (show getStg bs=(Stg.zero,ev) by rw [HG.out,if_neg he])
   clear he
   go_wp2_with (refine wpList_putR rfl 31 (.tmp 2) (.tmp 18) rfl w.heap.size 0 Stg.zero.cells rfl rfl HR20.out (MS.out Stg.zero) (ML.out Stg.zero) (MO.out Stg.zero) Stg.zero.cells.toList (MR.out Stg.zero) ?_)
   refine bodyPost_ret (res_cell_slot rfl _ _ w.heap.size _ _ _ _ _ rfl rfl (HR20.out.setRow _) Tryz.underlying31 rfl (by kernel_rfl)) rfl ?_
   exact ⟨by rw [HGF.out];rfl,below_setRow' HB2.out (Nat.le_refl _) _⟩
 ·have HGF:=Lib.hid (show getStg bs=(Stg.zero,14) by unfold getStg;rw [if_neg (by rw [HL.out];exact h64)])
  have HN:=Lib.hid h64
  clear h64
  go_enter Tryz.func168,Tryz.ntmps168
  go_wp2_with (fail)
  rw [←HW.out]
  refine (stageFields_at _ _).mono ?_
  rintro e w1 ⟨F,rfl,hF,hrow,hb⟩
  have HB1:=Lib.hid (HB0.out.trans (hb.mono HB0.out.size))
  have HR10:=Lib.hid (HR0.out.below hb HR0.out.lt)
  clear hb hrow hF
  go_wp2_with (fail)
  refine (opened_len _ A n c HN.out 19539 _).mono ?_
  rintro e w2 ⟨rfl,rfl⟩
  go_wp2_with (refine wpList_putR rfl 31 (.tmp 2) (.tmp 18) rfl w.heap.size 0 Stg.zero.cells rfl rfl HR10.out (MS.out Stg.zero) (ML.out Stg.zero) (MO.out Stg.zero) Stg.zero.cells.toList (MR.out Stg.zero) ?_)
  refine bodyPost_ret (res_cell_slot rfl _ _ w.heap.size _ _ _ _ _ rfl rfl (HR10.out.setRow _) Tryz.underlying31 rfl (by kernel_rfl)) rfl ?_
  exact ⟨by rw [HGF.out];rfl,below_setRow' HB1.out (Nat.le_refl _) _⟩
end record
namespace refNum

open Go.RowKit base obj mem crc num bytes
theorem width_at (w:World) (k:Nat) (h1:1≤k) (h2:k≤6):Calls Tryz.prog 194 #[.int .i64 k] w fun e w'=>e=.returned (.int .i64 k)∧w'=w:=by
 have a:¬(k:Int) < 1:=by omega
 have b:¬(k:Int) > 6:=by omega
 go_enter Tryz.func194,Tryz.ntmps194
 go_wp2_with (fail)
 go_ret
 exact ⟨rfl,rfl⟩
def putL (k m j:Nat):List Int:=List.replicate (k-j) 0++(be k m).drop (k-j)
theorem putL_zero (k m:Nat):putL k m 0=List.replicate k 0:=by
 unfold putL
 rw [Nat.sub_zero,List.drop_of_length_le (by rw [be_length];exact Nat.le_refl _),List.append_nil]
theorem putL_all (k m:Nat):putL k m k=be k m:=by simp [putL]
theorem putL_length (k m j:Nat) (h:j≤k):(putL k m j).length=k:=by simp [putL,be_length]
theorem putL_set (k m j:Nat) (h:j < k):(putL k m j).set (k-1-j) (((m / 256 ^ j % 256:Nat)):Int)=putL k m (j+1):=by
 unfold putL
 have e1:k-j=(k-(j+1))+1:=by omega
 have e2:(List.replicate (k-j) (0:Int)).set (k-1-j) (((m / 256 ^ j % 256:Nat)):Int)=List.replicate (k-(j+1)) 0++[(((m / 256 ^ j % 256:Nat)):Int)]:=by
  rw [e1,List.replicate_succ',show k-1-j=k-(j+1) by omega,List.set_append_right _ _ (by simp)]
  simp
 rw [List.set_append_left _ _ (by simp;omega),e2,List.append_assoc]
 congr 1
 have hl:k-(j+1) < (be k m).length:=by rw [be_length];omega
 rw [List.drop_eq_getElem_cons hl,←e1]
 simp only [be,List.getElem_map,List.getElem_range,digit,List.singleton_append]
 rw [show k-1-(k-(j+1))=j by omega]
theorem be_most (k:Nat):be k (256 ^ k-1)=List.replicate k 255:=by
 apply List.ext_getElem
 ·simp [be]
 ·intro i h1 h2
  have hi:i < k:=by simpa [be] using h1
  simp only [be,List.getElem_map,List.getElem_range,List.getElem_replicate,digit]
  have h3:0 < 256 ^ (k-1-i):=Nat.pow_pos (by decide)
  have h4:256 ^ k=256 ^ (k-1-i)*256 ^ (i+1):=by rw [←Nat.pow_add,show k-1-i+(i+1)=k by omega]
  have h5:(256 ^ k-1) / 256 ^ (k-1-i)=256 ^ (i+1)-1:=by
   rw [h4,Nat.mul_comm]
   generalize 256 ^ (k-1-i)=a at *
   generalize hb:256 ^ (i+1)=b at *
   have hb0:0 < b:=by rw [←hb];exact Nat.pow_pos (by decide)
   obtain ⟨b',rfl⟩:∃b',b=b'+1:=⟨b-1,by omega⟩
   rw [Nat.add_mul,Nat.one_mul,Nat.add_sub_assoc h3,Nat.mul_comm,Nat.mul_add_div h3,Nat.div_eq_of_lt (by omega)]
   simp
  rw [h5,Nat.pow_succ]
  have h6:0 < 256 ^ i:=Nat.pow_pos (by decide)
  omega
theorem mapset (l:List Int) (i:Nat) (z:Int):(l.map (Value.int .u8)).set i (.int .u8 z)=(l.set i z).map (.int .u8):=by rw [List.map_set]
theorem put_at (w:World) (n:Int) (hn:n≤9223372036854775807) (k:Nat) (hk1:1≤k) (hk2:k≤6) :
  Calls Tryz.prog 191 #[.int .i64 n,.int .i64 k] w fun e w'=>∃g,e=.returned (.slice (some ⟨g,0,none⟩) k k)∧w.heap.size≤g∧Row w' g 5 ((be k (heldN k n)).map (.int .u8))∧Below w.heap.size w w':=by
 have hmk:=make_eq k (by omega)
 have HR0:=Lib.hid (show Row (w.alloc (.cells (List.replicate k (Value.int .u8 0)).toArray 5)) w.heap.size 5 ((List.replicate k (0:Int)).map (.int .u8)) by
  have h:=Row.new w 5 (List.replicate k (Value.int .u8 0)).toArray
  rwa [show (List.replicate k (Value.int .u8 0)).toArray.toList=(List.replicate k (0:Int)).map (.int .u8) by simp] at h)
 have HB0:=Lib.hid ((Below.refl w.heap.size w).alloc (Nat.le_refl _) (.cells (List.replicate k (Value.int .u8 0)).toArray 5))
 by_cases h0:n < 0
 ·have HE:=Lib.hid (show be k (heldN k n)=List.replicate k 0 by
   unfold heldN
   rw [if_pos h0]
   apply List.ext_getElem<;>simp [be,digit])
  go_enter Tryz.func191,Tryz.ntmps191
  go_wp2_with (fail)
  refine (width_at _ k hk1 hk2).mono ?_;rintro e w' ⟨rfl,rfl⟩
  go_wp2_with (fail)
  go_ret
  exact ⟨w'.heap.size,rfl,Nat.le_refl _,by rw [HE.out];simpa using HR0.out,by simpa using HB0.out⟩
 ·obtain ⟨m,rfl⟩:=Int.eq_ofNat_of_zero_le (show 0≤n by omega)
  have HM:=Lib.hid hn
  clear hn h0
  have h0:¬(m:Int) < 0:=by omega
  go_enter Tryz.func191,Tryz.ntmps191
  go_wp2_with (fail)
  refine (width_at _ k hk1 hk2).mono ?_;rintro e w' ⟨rfl,rfl⟩
  go_wp2_with (fail)
  go_loopw [6,0] (fun i s wr=>∃j:Nat,j≤k∧i=.int .i64 ((k:Int)-1-j)∧s=.int .i64 (m / 256 ^ j:Nat)∧Row wr w'.heap.size 5 ((putL k m j).map (.int .u8))∧Below w'.heap.size w' wr) (fun i _ _=>(intOf i+1).toNat)
  case atStart=>exact ⟨0,by omega,by simp,by simp,by rw [putL_zero];simpa using HR0.out,by simpa using HB0.out⟩
  case round =>
   obtain ⟨j,hj,rfl,rfl,hr,hb⟩:=hrel
   have HR:=Lib.hid hr;have HB:=Lib.hid hb
   clear hr hb
   have hq:m / 256 ^ j≤9223372036854775807:=Nat.le_trans (Nat.div_le_self _ _) (by have:=HM.out;omega)
   have HD:=Lib.hid (show m / 256 ^ (j+1)=m / 256 ^ j / 256 by rw [Nat.pow_succ,Nat.div_div_eq_div_mul])
   by_cases hlt:j < k
   ·have HS:=Lib.hid (putL_set k m j hlt)
    generalize hqq:m / 256 ^ j=q at *
    have HQ:=Lib.hid hqq
    clear hqq
    have hg:(k:Int)-1-j=((k-1-j:Nat):Int):=by omega
    rw [hg]
    obtain ⟨v0,hv0⟩:∃v,((putL k m j).map (Value.int .u8))[k-1-j]?=some v:=⟨_,List.getElem?_eq_getElem (by simp [putL_length k m j hj];omega)⟩
    have hc:=(HR.out.cell (k-1-j)).trans hv0
    clear hv0
    have hf:=HR.out.frozen (k-1-j)
    have hl:=HR.out.lt
    have ht:((k-1-j:Nat):Int) < (k:Int):=by omega
    have ht0:(0:Int)≤((k-1-j:Nat):Int):=by omega
    have HG:=Lib.hid hg
    generalize k-1-j=t at *
    clear hg
    go_wp2_with (fail)
    go_roundw
    case rel=>refine ⟨j+1,by omega,by rw [show (t:Int)-1=(k:Int)-1-(j+1:Nat) by have:=HG.out;omega],by rw [HD.out];go_num,by rw [←HS.out,←mapset];exact HR.out.setCell t _,HB.out.setCell (p:=⟨w'.heap.size,t,none⟩) (Nat.le_refl _) _⟩
    case measure=>simp [intOf]<;>omega
   ·have hjk:j=k:=by omega
    have hlt':¬(k:Int)-1-j≥0:=by omega
    have HJ:=Lib.hid hjk
    by_cases hbig:256 ^ k≤m
    ·have hq1:0 < m / 256 ^ j:=by rw [hjk];exact Nat.div_pos hbig (Nat.pow_pos (by decide))
     have HE:=Lib.hid (show be k (heldN k (m:Int))=List.replicate k 255 by
      unfold heldN
      rw [if_neg (by omega),if_pos (by simpa using hbig),be_most])
     have hq1':(0:Int) < ((m / 256 ^ j:Nat):Int):=by omega
     have HRR:=Lib.hid (show Row wr w'.heap.size 5 ((List.replicate 0 (255:Int)++(be k m)).map (.int .u8)) by
      have h:=HR.out
      rw [HJ.out,putL_all] at h
      exact h)
     generalize m / 256 ^ j=q at *
     clear hjk hbig hq1
     go_wp2_with (fail)
     go_loopw [7] (fun i wx=>∃t:Nat,t≤k∧i=.int .i64 t∧Row wx w'.heap.size 5 ((List.replicate t (255:Int)++(be k m).drop t).map (.int .u8))∧Below w'.heap.size w' wx) (fun i _=>k-(intOf i).toNat)
     case atStart=>exact ⟨0,by omega,rfl,HRR.out,HB.out⟩
     case round =>
      obtain ⟨t,ht,rfl,hr,hb⟩:=hrel
      have HR2:=Lib.hid hr;have HB2:=Lib.hid hb
      clear hr hb
      by_cases htk:t < k
      ·obtain ⟨v0,hv0⟩:∃v,((List.replicate t (255:Int)++(be k m).drop t).map (Value.int .u8))[t]?=some v:=⟨_,List.getElem?_eq_getElem (by simp [be_length];omega)⟩
       have hc:=(HR2.out.cell t).trans hv0
       clear hv0
       have hf:=HR2.out.frozen t
       have hl:=HR2.out.lt
       have ht1:(t:Int) < (k:Int):=by omega
       have ht0:(0:Int)≤(t:Int):=by omega
       have HS:=Lib.hid (show (List.replicate t (255:Int)++(be k m).drop t).set t 255=List.replicate (t+1) 255++(be k m).drop (t+1) by
        rw [List.set_append_right _ _ (by simp),List.drop_eq_getElem_cons (l:=be k m) (i:=t) (by rw [be_length];exact htk),List.replicate_succ',List.append_assoc]
        simp only [List.length_replicate,Nat.sub_self,List.set_cons_zero,List.singleton_append])
       go_wp2_with (fail)
       go_roundw
       case rel=>exact ⟨t+1,by omega,by go_num,by rw [←HS.out,←mapset];exact HR2.out.setCell t _,HB2.out.setCell (p:=⟨w'.heap.size,t,none⟩) (Nat.le_refl _) _⟩
       case measure=>simp [intOf]<;>omega
      ·have htk2:t=k:=by omega
       have htk':¬(t:Int) < (k:Int):=by omega
       have HT:=Lib.hid htk2
       clear htk2
       go_wp2_with (fail)
       go_ret
       refine ⟨w'.heap.size,rfl,Nat.le_refl _,?_,HB2.out⟩
       have h:=HR2.out
       rw [HT.out,List.drop_of_length_le (by rw [be_length];exact Nat.le_refl _),List.append_nil] at h
       rw [HE.out]
       exact h
    ·have hq0:m / 256 ^ j=0:=by rw [hjk];exact Nat.div_eq_of_lt (by omega)
     have HE:=Lib.hid (show be k (heldN k (m:Int))=putL k m j by rw [heldN_in k m (by omega),hjk,putL_all])
     rw [hq0]
     clear hjk hbig hq0
     go_wp2_with (fail)
     go_ret
     exact ⟨w'.heap.size,rfl,Nat.le_refl _,by rw [HE.out];exact HR.out,HB.out⟩
end refNum
namespace refCrc

open Go.RowKit base obj mem crc
theorem odd_eq (z:Nat) (hz:z < 2 ^ 32) (h:z % 2=1):Go.bits .xor .u32 ((z:Int) / 2) 3988292384=((dn z:Nat):Int):=by
 rw [show (z:Int) / 2=((z / 2:Nat):Int) by omega,show (3988292384:Int)=((3988292384:Nat):Int) from rfl,xor32 _ _ (by omega) (by decide)]
 unfold dn
 rw [if_pos h]
theorem even_eq (z:Nat) (h:¬z % 2=1):((dn z:Nat):Int)=(z:Int) / 2:=by
 unfold dn
 rw [if_neg h,Nat.xor_zero]
 omega
theorem feed1_at (w:World) (x c:Nat) (hx:x < 2 ^ 32) (hc:c < 256):Calls Tryz.prog 217 #[.int .u32 x,.int .u8 c] w fun e w'=>e=.returned (.int .u32 (feed x c:Nat))∧w'=w:=by
 have e0:=xor32 x c hx (by omega)
 have hy:x ^^^ c < 2 ^ 32:=Nat.xor_lt_two_pow hx (by omega)
 have HF:=Lib.hid (show feed x c=it 8 (x ^^^ c) from rfl)
 generalize x ^^^ c=y at *
 have HY:=Lib.hid hy
 go_enter Tryz.func217,Tryz.ntmps217
 go_wp2_with (fail)
 go_loopw [5,0] (fun i s wr=>∃j:Nat,j≤8∧i=.int .i64 j∧s=.int .u32 (it j y:Nat)∧wr=w) (fun i _ _=>8-(intOf i).toNat)
 case atStart=>exact ⟨0,by omega,rfl,rfl,rfl⟩
 case round =>
  obtain ⟨j,hj,rfl,rfl,rfl⟩:=hrel
  by_cases hlt:j < 8
  ·have hlt':(j:Int) < 8:=by omega
   have hz:=it_lt j HY.out
   have HN:=Lib.hid (show it (j+1) y=dn (it j y) from rfl)
   generalize it j y=z at *
   by_cases ho:z % 2=1
   ·have b1:(((z:Int) % 2)==1)=true:=by rw [beq_iff_eq];omega
    have e1:=odd_eq z hz ho
    have HZ:=Lib.hid hz;have HO:=Lib.hid ho
    clear ho
    go_wp2_with (fail)
    go_roundw
    case rel=>exact ⟨j+1,by omega,by go_num,by rw [HN.out],trivial⟩
    case measure=>simp [intOf];omega
   ·have b1:(((z:Int) % 2)==1)=false:=by rw [beq_eq_false_iff_ne];omega
    have HE:=Lib.hid (even_eq z ho)
    clear ho
    go_wp2_with (fail)
    go_roundw
    case rel=>exact ⟨j+1,by omega,by go_num,by rw [HN.out,HE.out],trivial⟩
    case measure=>simp [intOf];omega
  ·have hj8:j=8:=by omega
   have hlt':¬(j:Int) < 8:=by omega
   have HJ:=Lib.hid hj8
   clear hj8
   go_wp2_with (fail)
   go_ret
   exact ⟨ret_int (by rw [HF.out,HJ.out]),rfl⟩
theorem feed_at (w:World) (x:Nat) (hx:x < 2 ^ 32) (A:Option Addr) (n c:Nat) (bs:List Int) (hn:bs.length=n) (hm:n≤1000000) (hb:Byt bs) (hs:Sl w w.heap.size 1 A n (bs.map (.int .u8))) :
  Calls Tryz.prog 205 #[.int .u32 x,.slice A n c] w fun e w'=>e=.returned (.int .u32 (fold x bs:Nat))∧w'=w:=by
 have HN:=Lib.hid hn;have HB:=Lib.hid hb;have HS:=Lib.hid hs;have HX:=Lib.hid hx
 clear hn hb hs hx
 go_enter Tryz.func205,Tryz.ntmps205
 go_wp2_with (fail)
 go_loopw [5,0] (fun i s wr=>∃k:Nat,k≤n∧i=.int .i64 k∧s=.int .u32 (fold x (bs.take k):Nat)∧wr=w) (fun i _ _=>n-(intOf i).toNat)
 case atStart=>exact ⟨0,by omega,rfl,by rw [List.take_zero];rfl,rfl⟩
 case round =>
  obtain ⟨k,hk,rfl,rfl,rfl⟩:=hrel
  by_cases hlt:k < n
  ·have hkb:k < bs.length:=by rw [HN.out];exact hlt
   obtain ⟨b,off,rfl,hbl,hc⟩:=HS.out.2 (by omega)
   have hz:=HB.out bs[k] (List.getElem_mem hkb)
   have c1:=hc k (.int .u8 bs[k]) (by simp [hkb])
   have hfk:fold x (bs.take k) < 2 ^ 32:=fold_lt HX.out fun y hy=>HB.out y (List.mem_of_mem_take hy)
   have hnx:=fold_take_succ x bs k hkb
   generalize hf:fold x (bs.take k)=f at *
   have hz2:bs[k]=((bs[k].toNat:Nat):Int):=by omega
   rw [hz2] at c1
   generalize hzn:bs[k].toNat=z at *
   have HC:=Lib.hid (feed1_at wr f z hfk (by omega))
   have HNX:=Lib.hid hnx;have HF:=Lib.hid hf
   have i0:(0:Int)≤(k:Int):=by omega
   have i1:(k:Int) < (n:Int):=by omega
   clear hc hnx hf hz hz2 hzn hfk hkb
   go_wp2_with (fail)
   refine HC.out.mono ?_;rintro e w' ⟨rfl,rfl⟩
   go_wp2_with (fail)
   go_roundw
   case rel=>exact ⟨k+1,by omega,by go_num,by rw [HNX.out],trivial⟩
   case measure=>simp [intOf];omega
  ·have hk2:k=n:=by omega
   have hlt':¬(k:Int) < (n:Int):=by omega
   have HK:=Lib.hid hk2
   clear hk2
   go_wp2_with (fail)
   go_ret
   exact ⟨ret_int (by rw [HK.out,←HN.out,List.take_length]),rfl⟩
theorem sum_at (w:World) (A:Option Addr) (n c:Nat) (bs:List Int) (hn:bs.length=n) (hm:n≤1000000) (hb:Byt bs) (hs:Sl w w.heap.size 1 A n (bs.map (.int .u8))) :
  Calls Tryz.prog 192 #[.slice A n c] w fun e w'=>e=.returned (.int .u32 (sum bs:Nat))∧w'=w:=by
 have hf:=fold_lt (bs:=bs) (x:=4294967295) (by decide) hb
 have HC:=Lib.hid (feed_at w 4294967295 (by decide) A n c bs hn hm hb hs)
 have HS:=Lib.hid (show sum bs=4294967295-fold 4294967295 bs from rfl)
 generalize fold 4294967295 bs=f at *
 clear hn hb hs
 go_enter Tryz.func192,Tryz.ntmps192
 go_wp2_with (fail)
 refine HC.out.mono ?_;rintro e w' ⟨rfl,rfl⟩
 have hf':(f:Int)≤4294967295:=by omega
 go_wp2_with (fail)
 go_ret
 refine ⟨ret_int ?_,rfl⟩
 rw [HS.out]
 omega
end refCrc
namespace refRec

open Go.RowKit base obj mem crc num bytes record refNum
theorem bit_at (w:World) (n i:Nat) (hn:n≤1000000) (hi:i≤1000):Calls Tryz.prog 206 #[.int .i64 n,.int .i64 i] w fun e w'=>e=.returned (.bool (decide (n / 2 ^ i % 2=1)))∧w'=w:=by
 go_enter Tryz.func206,Tryz.ntmps206
 go_wp2_with (fail)
 go_loopw [5,0] (fun k s wr=>∃j:Nat,j≤i∧k=.int .i64 j∧s=.int .i64 (n / 2 ^ j:Nat)∧wr=w) (fun k _ _=>i-(intOf k).toNat)
 case atStart=>exact ⟨0,by omega,rfl,by simp,rfl⟩
 case round =>
  obtain ⟨j,hj,rfl,rfl,rfl⟩:=hrel
  have hq:n / 2 ^ j≤1000000:=Nat.le_trans (Nat.div_le_self _ _) hn
  by_cases hlt:j < i
  ·have hlt':(j:Int) < (i:Int):=by omega
   have HD:=Lib.hid (show n / 2 ^ (j+1)=n / 2 ^ j / 2 by rw [Nat.pow_succ,Nat.div_div_eq_div_mul])
   generalize n / 2 ^ j=q at *
   go_wp2_with (fail)
   go_roundw
   case rel=>exact ⟨j+1,by omega,by go_num,by rw [HD.out];go_num,trivial⟩
   case measure=>simp [intOf]<;>omega
  ·have hji:j=i:=by omega
   have hlt':¬(j:Int) < (i:Int):=by omega
   have HR:=Lib.hid (show decide (n / 2 ^ i % 2=1)=(((((n / 2 ^ j:Nat):Int) % 2)==1)) by
    rw [hji,Bool.eq_iff_iff,decide_eq_true_iff,beq_iff_eq];omega)
   clear hji
   generalize n / 2 ^ j=q at *
   go_wp2_with (fail)
   go_ret
   exact ⟨ret_bool (by rw [HR.out]),rfl⟩
theorem bit_int (w:World) (n i:Int) (h0:0≤n) (h1:n≤3) (i0:0≤i) (i1:i≤1):Calls Tryz.prog 206 #[.int .i64 n,.int .i64 i] w fun e w'=>e=.returned (.bool (!bitOff n i))∧w'=w:=by
 obtain ⟨n,rfl⟩:=Int.eq_ofNat_of_zero_le h0
 obtain ⟨i,rfl⟩:=Int.eq_ofNat_of_zero_le i0
 refine (bit_at w n i (by omega) (by omega)).mono ?_
 rintro e w' ⟨rfl,rfl⟩
 refine ⟨ret_bool ?_,rfl⟩
 have hi:i=0∨i=1:=by omega
 unfold bitOff
 rcases hi with rfl|rfl<;>(rw [Bool.eq_iff_iff];simp;omega)
theorem right_at (r:Rec) (w:World):Calls Tryz.prog 195 #[r.val] w fun e w'=>e=.returned (.bool r.right)∧Below w.heap.size w w':=by
 obtain ⟨part,seq,active,confirmed,left,bad⟩:=r
 unfold Rec.val Rec.cells
 have HB:=Lib.hid (fun o=>(Below.refl w.heap.size w).alloc (Nat.le_refl _) o)
 go_enter Tryz.func195,Tryz.ntmps195
 go_wp2_with (fail)
 all_goals first
  | (go_ret;refine ⟨ret_bool ?_,HB.out _⟩;simp [Rec.right]<;>omega)
  | (refine (bit_int _ _ _ (by omega) (by omega) (by omega) (by omega)).mono ?_
     rintro e w' ⟨rfl,rfl⟩
     obtain ⟨ba,hba⟩:∃b,b=bitOff bad active:=⟨_,rfl⟩
     rw [←hba]
     have HBA:=Lib.hid hba
     clear hba
     cases ba
     all_goals go_wp2_with (fail)
     ·go_ret;refine ⟨ret_bool ?_,HB.out _⟩;simp [Rec.right,←HBA.out]<;>omega
     ·refine (bit_int _ _ _ (by omega) (by omega) (by omega) (by omega)).mono ?_
      rintro e w' ⟨rfl,rfl⟩
      obtain ⟨bc,hbc⟩:∃b,b=bitOff bad confirmed:=⟨_,rfl⟩
      rw [←hbc]
      have HBC:=Lib.hid hbc
      clear hbc
      go_wp2_with (fail)
      go_ret;refine ⟨ret_bool ?_,HB.out _⟩;cases bc<;>simp [Rec.right,←HBA.out,←HBC.out]<;>omega)
  | (have he:active=confirmed:=by assumption
     refine (bit_int _ _ _ (by omega) (by omega) (by omega) (by omega)).mono ?_
     rintro e w' ⟨rfl,rfl⟩
     obtain ⟨ba,hba⟩:∃b,b=bitOff bad confirmed:=⟨_,rfl⟩
     rw [←hba]
     have HBA:=Lib.hid hba;have HE:=Lib.hid he
     clear hba he
     cases ba
     all_goals go_wp2_with (fail)
     ·go_ret;refine ⟨ret_bool ?_,HB.out _⟩;simp [Rec.right,HE.out,←HBA.out]<;>omega
     ·refine (bit_int _ _ _ (by omega) (by omega) (by omega) (by omega)).mono ?_
      rintro e w' ⟨rfl,rfl⟩
      rw [←HBA.out]
      go_wp2_with (fail)
      go_ret;refine ⟨ret_bool ?_,HB.out _⟩;simp [Rec.right,HE.out,←HBA.out]<;>omega)
end refRec
namespace refRec

open Go.RowKit base obj mem crc num bytes record refNum
theorem _root_.Go.Proofs.YtdldkkoplgkloaaGreat.mem.Row.grown {w w':World} {g:Nat} {t:TypeId} {xs:List Value} {row:Option Nat} (h:Row w g t xs) (k:w.grownBy w' row) (hn:row≠some g):Row w' g t xs:=(k.block g h.lt (fun e=>hn e.symm)).trans h
def z64:Array Value:=Array.replicate 64 (.int .u8 0)
theorem make64 (w:World):(Instr.makeSlice 24 (.int .i64 64) (.int .i64 64)).run Tryz.prog w=.ok (.slice (some ⟨w.heap.size,0,none⟩) 64 64) (w.alloc (.cells z64 5)):=by
 have h:=make_eq 64 (by decide) w
 rw [show ((64:Nat):Int)=64 from rfl] at h
 rw [h]
 rfl
end refRec
namespace refRec

open Go.RowKit base obj mem crc num bytes record refNum
theorem be_one (n:Nat) (h:n < 256):be 1 n=[(n:Int)]:=by
 simp [be,digit]
 omega
theorem rec_in {r:Rec} (h:r.right=true):(0≤r.part∧r.part≤3)∧(1≤r.seq∧r.seq≤4294967295)∧(0≤r.active∧r.active≤1)∧(0≤r.confirmed∧r.confirmed≤1)∧(0≤r.left∧r.left≤7)∧(0≤r.bad∧r.bad≤3):=by
 simp [Rec.right] at h
 obtain ⟨⟨⟨⟨⟨⟨⟨h1,h2⟩,h3⟩,h4⟩,h5⟩,_⟩,h7⟩,_⟩:=h
 exact ⟨h1,h2,h3,h4,h5,h7⟩
end refRec
end Go.Proofs.YtdldkkoplgkloaaGreat
