/-
  PROVED HERE: lemmas that the law leans on.
  CONDITIONS: each names its own.
-/
import Derived.Test.YtdldkkoplgkloaaGreatPy0
import Derived.Test.YtdldkkoplgkloaaGreatPy2
import Derived.Test.YtdldkkoplgkloaaGreatPy3
import Derived.Test.YtdldkkoplgkloaaGreatPy4
import Derived.Test.YtdldkkoplgkloaaGreatPy10
import Derived.Test.YtdldkkoplgkloaaGreatPy18
namespace Go.Proofs.YtdldkkoplgkloaaGreat
set_option linter.unusedVariables false
set_option linter.unusedSimpArgs false
set_option maxRecDepth 100000
set_option maxHeartbeats 32000000
namespace record

open Go.RowKit base obj mem bw num bytes bf
theorem D4 (w:World) (A:Option Addr) (n c:Nat) (hn:n≠64) (mark:Nat) (F:Value):Calls Tryz.prog 167 #[.slice A n c,.int .i64 mark,F] w fun e w'=>e=.returned (.int .i64 14)∧w'=w:=by
 have e1:((n:Int) != 64)=true:=by simp;omega
 have e2:(n != 64)=true:=by simpa using hn
 clear hn;go_enter Tryz.func167,Tryz.ntmps167;go_wp2_with fail;go_ret;exact ⟨rfl,rfl⟩
def Rec.zero:Rec:=⟨0,0,0,0,0,0⟩
def rF (bs:List Int):Rec:=⟨(got fo bs 0:Nat),(got fo bs 1:Nat),(got fo bs 2:Nat),(got fo bs 3:Nat),(got fo bs 4:Nat),(got fo bs 5:Nat)⟩
def gp (bs:List Int):Rec×Int :=
 if bs.length=64 then (if jr 19523 11 bs=0 then (if (rF bs).right then (rF bs,0) else (Rec.zero,3)) else (Rec.zero,jr 19523 11 bs)) else (Rec.zero,14)
theorem Kf (bs:List Int):(List.range 6).map (fun i=>Value.int .i64 (got fo bs i:Nat))=(rF bs).cells.toList:=rfl
theorem xt (r:Rec):∀v∈r.cells.toList,v.oneCell'=true:=by
 intro v hv;simp only [Rec.cells,List.mem_cons,List.not_mem_nil,or_false] at hv;rcases hv with rfl|rfl|rfl|rfl|rfl|rfl<;>rfl
theorem get_at (w:World) (A:Option Addr) (n c:Nat) (bs:List Int) (hl:bs.length=n) (hc:n≤c) (hb:bo bs) (hs:Sl w w.heap.size 1 A n (bs.map (.int .u8))) :
  Calls Tryz.prog 119 #[.slice A n c] w fun e w'=>e=.returned (.tuple #[(gp bs).1.val,.int .i64 (gp bs).2])∧Below w.heap.size w w':=by
 obtain ⟨w0,pR⟩:∃w0,w0=(w.alloc (.cells Rec.zero.cells 35)).alloc (.cells Rec.zero.cells 35):=⟨_,rfl⟩
 have eZ:=aa (show Below w.heap.size w w0 by rw [pR];exact ((Below.refl w.heap.size w).alloc (Nat.le_refl _) _).alloc (by simp) _);have mV:=aa (show Row w0 w.heap.size 35 Rec.zero.cells.toList by rw [pR];exact (Row.new w _ _).alloc _)
 have iw:=aa (show Row w0 (w.heap.size+1) 35 Rec.zero.cells.toList by
  rw [pR];have h:=Row.new (w.alloc (.cells Rec.zero.cells 35)) 35 Rec.zero.cells
  rwa [show (w.alloc (.cells Rec.zero.cells 35)).heap.size=w.heap.size+1 by simp] at h)
 have MS:=aa (fun r:Rec=>show (Tryz.prog.info? 35).map (·.size)=some r.cells.size from by kernel_rfl);have ML:=aa (fun r:Rec=>show 0+r.cells.size≤Rec.zero.cells.toList.length from Nat.le_refl 6);have MO:=aa (fun r:Rec=>xt r);have MR:=aa (fun r:Rec=>show Rec.zero.cells.toList.take 0++r.cells.toList++Rec.zero.cells.toList.drop (0+r.cells.size)=r.cells.toList by simp [Rec.zero,Rec.cells]);have HL:=aa hl;have HY:=aa hb;have HS:=aa hs;have HW:=aa pR;clear hl hb hs pR;unfold Rec.zero Rec.cells at HW;by_cases rD:n=64
 ·subst rD;have HG:=aa (show gp bs=(if jr 19523 11 bs=0 then (if (rF bs).right then (rF bs,0) else (Rec.zero,3)) else (Rec.zero,jr 19523 11 bs)) by unfold gp;rw [if_pos HL.o]);have HA:=aa (ft (rF bs));obtain ⟨g,hg⟩:∃g,g=rF bs:=⟨_,rfl⟩
  obtain ⟨ev,xQ⟩:∃ev,ev=jr 19523 11 bs:=⟨_,rfl⟩
  rw [←hg] at HG HA;rw [←xQ] at HG;have wP:=aa hg;have R4:=aa xQ;clear hg xQ;go_enter Tryz.func119,Tryz.ntmps119;go_wp2_with fail;rw [←HW.o];refine (AQ _ _).mono ?_;rintro e w1 ⟨F,rfl,hF,aZ,hb⟩;have bn:=aa (eZ.o.trans (hb.mono eZ.o.size));have o7:=aa (mV.o.below hb mV.o.lt);have Ux:=aa (iw.o.below hb iw.o.lt);have HF1:=aa aZ;have HFN:=aa (show F≠w.heap.size+1 by have:=iw.o.lt;omega);clear hb aZ hF;go_wp2_with fail;refine (Gf _ (w.heap.size+1) F 251 35 fo 6 rfl (by omega) _ rfl Ux.o HF1.o HFN.o (by decide) A c bs HL.o HY.o (((HS.o.below bn.o).more (by omega))) hc 11 (by decide) (by omega) 19523 (by decide)).mono ?_;rintro e w2 ⟨rfl,aZ,hk⟩;rw [Kf,←wP.o] at aZ;rw [←R4.o];have dI:=aa aZ;have ze:=aa (o7.o.kept hk (fun e=>by have:w.heap.size=w.heap.size+1:=e;omega));have aO:=aa (show Below w.heap.size w w2 from bn.o.trans (hk.below bn.o.size (fun i hi e=>by have:i=w.heap.size+1:=e;omega)));have q0:w2.cell? ⟨w.heap.size+1,0,none⟩=some (.int .i64 g.part):=dI.o.cell 0;have q1:w2.cell? ⟨w.heap.size+1,1,none⟩=some (.int .i64 g.seq):=dI.o.cell 1;have q2:w2.cell? ⟨w.heap.size+1,2,none⟩=some (.int .i64 g.ax):=dI.o.cell 2;have q3:w2.cell? ⟨w.heap.size+1,3,none⟩=some (.int .i64 g.aj):=dI.o.cell 3;have q4:w2.cell? ⟨w.heap.size+1,4,none⟩=some (.int .i64 g.left):=dI.o.cell 4;have q5:w2.cell? ⟨w.heap.size+1,5,none⟩=some (.int .i64 g.bad):=dI.o.cell 5;have oy:w.heap.size+1 < w2.heap.size:=dI.o.lt;clear aZ hk;by_cases he:ev=0
  ·subst he;have bD:=aa (fun (w':World) (b:Below w2.heap.size w2 w')=>ze.o.below b ze.o.lt);cases hr:g.right with
   | false =>
     rw [hr] at HA;have vy:=aa (show gp bs=(Rec.zero,3) by rw [HG.o,hr];rfl);clear hr;unfold Rec.val Rec.cells at HA;go_wp2_with fail;refine (HA.o _).mono ?_;rintro e w3 ⟨rfl,hb⟩;have eV:=aa (aO.o.trans (hb.mono aO.o.size));have od:=aa (bD.o _ hb);clear hb;go_wp2_with (refine aF rfl 35 (.tmp 2) (.tmp 18) rfl w.heap.size 0 Rec.zero.cells rfl rfl od.o (MS.o Rec.zero) (ML.o Rec.zero) (MO.o Rec.zero) Rec.zero.cells.toList (MR.o Rec.zero) ?_);refine bodyPost_ret (aM rfl _ _ w.heap.size _ _ _ _ _ rfl rfl (od.o.setRow _) Tryz.underlying35 rfl (by kernel_rfl)) rfl ?_;exact ⟨by rw [vy.o];rfl,dN eV.o (Nat.le_refl _) _⟩
   | true =>
     rw [hr] at HA;have vy:=aa (show gp bs=(g,0) by rw [HG.o,hr];rfl);have wL:=aa (fun (w':World) (b:Below w2.heap.size w2 w')=>dI.o.below b dI.o.lt);clear hr;unfold Rec.val Rec.cells at HA;go_wp2_with fail;refine (HA.o _).mono ?_;rintro e w3 ⟨rfl,hb⟩;have eV:=aa (aO.o.trans (hb.mono aO.o.size));have od:=aa (bD.o _ hb);have rU:=aa (wL.o _ hb);have t0:w3.cell? ⟨w.heap.size+1,0,none⟩=some (.int .i64 g.part):=rU.o.cell 0;have t1:w3.cell? ⟨w.heap.size+1,1,none⟩=some (.int .i64 g.seq):=rU.o.cell 1;have t2:w3.cell? ⟨w.heap.size+1,2,none⟩=some (.int .i64 g.ax):=rU.o.cell 2;have t3:w3.cell? ⟨w.heap.size+1,3,none⟩=some (.int .i64 g.aj):=rU.o.cell 3;have t4:w3.cell? ⟨w.heap.size+1,4,none⟩=some (.int .i64 g.left):=rU.o.cell 4;have t5:w3.cell? ⟨w.heap.size+1,5,none⟩=some (.int .i64 g.bad):=rU.o.cell 5;have xH:w.heap.size+1 < w3.heap.size:=rU.o.lt;clear hb;go_wp2_with (refine aF rfl 35 (.tmp 2) (.tmp 20) rfl w.heap.size 0 g.cells rfl rfl od.o (MS.o g) (ML.o g) (MO.o g) g.cells.toList (MR.o g) ?_);refine bodyPost_ret (aM rfl _ _ w.heap.size _ _ _ _ _ rfl rfl (od.o.setRow _) Tryz.underlying35 rfl (by kernel_rfl)) rfl ?_;exact ⟨by rw [vy.o];rfl,dN eV.o (Nat.le_refl _) _⟩
  ·have b1:(ev==0)=false:=by simpa using he
   have b2:(ev != 0)=true:=by simpa using he
   have vy:=aa (show gp bs=(Rec.zero,ev) by rw [HG.o,if_neg he]);clear he;go_wp2_with (refine aF rfl 35 (.tmp 2) (.tmp 18) rfl w.heap.size 0 Rec.zero.cells rfl rfl ze.o (MS.o Rec.zero) (ML.o Rec.zero) (MO.o Rec.zero) Rec.zero.cells.toList (MR.o Rec.zero) ?_);refine bodyPost_ret (aM rfl _ _ w.heap.size _ _ _ _ _ rfl rfl (ze.o.setRow _) Tryz.underlying35 rfl (by kernel_rfl)) rfl ?_;exact ⟨by rw [vy.o];rfl,dN aO.o (Nat.le_refl _) _⟩
 ·have vy:=aa (show gp bs=(Rec.zero,14) by unfold gp;rw [if_neg (by rw [HL.o];exact rD)]);have HN:=aa rD;clear rD;go_enter Tryz.func119,Tryz.ntmps119;go_wp2_with fail;rw [←HW.o];refine (AQ _ _).mono ?_;rintro e w1 ⟨F,rfl,hF,aZ,hb⟩;have bn:=aa (eZ.o.trans (hb.mono eZ.o.size));have o7:=aa (mV.o.below hb mV.o.lt);clear hb aZ hF;go_wp2_with fail;refine (D4 _ A n c HN.o 19523 _).mono ?_;rintro e w2 ⟨rfl,rfl⟩;go_wp2_with (refine aF rfl 35 (.tmp 2) (.tmp 18) rfl w.heap.size 0 Rec.zero.cells rfl rfl o7.o (MS.o Rec.zero) (ML.o Rec.zero) (MO.o Rec.zero) Rec.zero.cells.toList (MR.o Rec.zero) ?_);refine bodyPost_ret (aM rfl _ _ w.heap.size _ _ _ _ _ rfl rfl (o7.o.setRow _) Tryz.underlying35 rfl (by kernel_rfl)) rfl ?_;exact ⟨by rw [vy.o];rfl,dN bn.o (Nat.le_refl _) _⟩
end record
namespace record

open Go.RowKit base obj mem bw num bytes bf
def aS.zero:aS:=⟨0,0,0⟩
def rE (bs:List Int):aS:=⟨(got gR bs 0:Nat),(got gR bs 1:Nat),(got gR bs 2:Nat)⟩
def jw (bs:List Int):aS×Int :=
 if bs.length=64 then (if jr 19539 8 bs=0 then (if (rE bs).right then (rE bs,0) else (aS.zero,3)) else (aS.zero,jr 19539 8 bs)) else (aS.zero,14)
theorem Kd (bs:List Int):(List.range 3).map (fun i=>Value.int .i64 (got gR bs i:Nat))=(rE bs).cells.toList:=rfl
theorem xn (r:aS):∀v∈r.cells.toList,v.oneCell'=true:=by
 intro v hv;simp only [aS.cells,List.mem_cons,List.not_mem_nil,or_false] at hv;rcases hv with rfl|rfl|rfl<;>rfl
theorem Lw (w:World) (A:Option Addr) (n c:Nat) (bs:List Int) (hl:bs.length=n) (hc:n≤c) (hb:bo bs) (hs:Sl w w.heap.size 1 A n (bs.map (.int .u8))) :
  Calls Tryz.prog 168 #[.slice A n c] w fun e w'=>e=.returned (.tuple #[(jw bs).1.val,.int .i64 (jw bs).2])∧Below w.heap.size w w':=by
 obtain ⟨w0,pR⟩:∃w0,w0=(w.alloc (.cells aS.zero.cells 31)).alloc (.cells aS.zero.cells 31):=⟨_,rfl⟩
 have eZ:=aa (show Below w.heap.size w w0 by rw [pR];exact ((Below.refl w.heap.size w).alloc (Nat.le_refl _) _).alloc (by simp) _);have mV:=aa (show Row w0 w.heap.size 31 aS.zero.cells.toList by rw [pR];exact (Row.new w _ _).alloc _)
 have iw:=aa (show Row w0 (w.heap.size+1) 31 aS.zero.cells.toList by
  rw [pR];have h:=Row.new (w.alloc (.cells aS.zero.cells 31)) 31 aS.zero.cells
  rwa [show (w.alloc (.cells aS.zero.cells 31)).heap.size=w.heap.size+1 by simp] at h)
 have MS:=aa (fun r:aS=>show (Tryz.prog.info? 31).map (·.size)=some r.cells.size from by kernel_rfl);have ML:=aa (fun r:aS=>show 0+r.cells.size≤aS.zero.cells.toList.length from Nat.le_refl 3);have MO:=aa (fun r:aS=>xn r);have MR:=aa (fun r:aS=>show aS.zero.cells.toList.take 0++r.cells.toList++aS.zero.cells.toList.drop (0+r.cells.size)=r.cells.toList by simp [aS.zero,aS.cells]);have HL:=aa hl;have HY:=aa hb;have HS:=aa hs;have HW:=aa pR;clear hl hb hs pR;unfold aS.zero aS.cells at HW;by_cases rD:n=64
 ·subst rD;have HG:=aa (show jw bs=(if jr 19539 8 bs=0 then (if (rE bs).right then (rE bs,0) else (aS.zero,3)) else (aS.zero,jr 19539 8 bs)) by unfold jw;rw [if_pos HL.o]);have HA:=aa (nD (rE bs));obtain ⟨g,hg⟩:∃g,g=rE bs:=⟨_,rfl⟩
  obtain ⟨ev,xQ⟩:∃ev,ev=jr 19539 8 bs:=⟨_,rfl⟩
  rw [←hg] at HG HA;rw [←xQ] at HG;have wP:=aa hg;have R4:=aa xQ;clear hg xQ;go_enter Tryz.func168,Tryz.ntmps168;go_wp2_with fail;rw [←HW.o];refine (sg _ _).mono ?_;rintro e w1 ⟨F,rfl,hF,aZ,hb⟩;have bn:=aa (eZ.o.trans (hb.mono eZ.o.size));have o7:=aa (mV.o.below hb mV.o.lt);have Ux:=aa (iw.o.below hb iw.o.lt);have HF1:=aa aZ;have HFN:=aa (show F≠w.heap.size+1 by have:=iw.o.lt;omega);clear hb aZ hF;go_wp2_with fail;refine (Gf _ (w.heap.size+1) F 252 31 gR 3 rfl (by omega) _ rfl Ux.o HF1.o HFN.o (by decide) A c bs HL.o HY.o (((HS.o.below bn.o).more (by omega))) hc 8 (by decide) (by omega) 19539 (by decide)).mono ?_;rintro e w2 ⟨rfl,aZ,hk⟩;rw [Kd,←wP.o] at aZ;rw [←R4.o];have dI:=aa aZ;have ze:=aa (o7.o.kept hk (fun e=>by have:w.heap.size=w.heap.size+1:=e;omega));have aO:=aa (show Below w.heap.size w w2 from bn.o.trans (hk.below bn.o.size (fun i hi e=>by have:i=w.heap.size+1:=e;omega)));have q0:w2.cell? ⟨w.heap.size+1,0,none⟩=some (.int .i64 g.aG):=dI.o.cell 0;have q1:w2.cell? ⟨w.heap.size+1,1,none⟩=some (.int .i64 g.size):=dI.o.cell 1;have q2:w2.cell? ⟨w.heap.size+1,2,none⟩=some (.int .i64 g.bd):=dI.o.cell 2;have oy:w.heap.size+1 < w2.heap.size:=dI.o.lt;clear aZ hk;by_cases he:ev=0
  ·subst he;have bD:=aa (fun (w':World) (b:Below w2.heap.size w2 w')=>ze.o.below b ze.o.lt);cases hr:g.right with
   | false =>
     rw [hr] at HA;have vy:=aa (show jw bs=(aS.zero,3) by rw [HG.o,hr];rfl);clear hr;unfold aS.val aS.cells at HA;go_wp2_with fail;refine (HA.o _).mono ?_;rintro e w3 ⟨rfl,hb⟩;have eV:=aa (aO.o.trans (hb.mono aO.o.size));have od:=aa (bD.o _ hb);clear hb;go_wp2_with (refine aF rfl 31 (.tmp 2) (.tmp 18) rfl w.heap.size 0 aS.zero.cells rfl rfl od.o (MS.o aS.zero) (ML.o aS.zero) (MO.o aS.zero) aS.zero.cells.toList (MR.o aS.zero) ?_);refine bodyPost_ret (aM rfl _ _ w.heap.size _ _ _ _ _ rfl rfl (od.o.setRow _) Tryz.underlying31 rfl (by kernel_rfl)) rfl ?_;exact ⟨by rw [vy.o];rfl,dN eV.o (Nat.le_refl _) _⟩
   | true =>
     rw [hr] at HA;have vy:=aa (show jw bs=(g,0) by rw [HG.o,hr];rfl);have wL:=aa (fun (w':World) (b:Below w2.heap.size w2 w')=>dI.o.below b dI.o.lt);clear hr;unfold aS.val aS.cells at HA;go_wp2_with fail;refine (HA.o _).mono ?_;rintro e w3 ⟨rfl,hb⟩;have eV:=aa (aO.o.trans (hb.mono aO.o.size));have od:=aa (bD.o _ hb);have rU:=aa (wL.o _ hb);have t0:w3.cell? ⟨w.heap.size+1,0,none⟩=some (.int .i64 g.aG):=rU.o.cell 0;have t1:w3.cell? ⟨w.heap.size+1,1,none⟩=some (.int .i64 g.size):=rU.o.cell 1;have t2:w3.cell? ⟨w.heap.size+1,2,none⟩=some (.int .i64 g.bd):=rU.o.cell 2;have xH:w.heap.size+1 < w3.heap.size:=rU.o.lt;clear hb;go_wp2_with (refine aF rfl 31 (.tmp 2) (.tmp 20) rfl w.heap.size 0 g.cells rfl rfl od.o (MS.o g) (ML.o g) (MO.o g) g.cells.toList (MR.o g) ?_);refine bodyPost_ret (aM rfl _ _ w.heap.size _ _ _ _ _ rfl rfl (od.o.setRow _) Tryz.underlying31 rfl (by kernel_rfl)) rfl ?_;exact ⟨by rw [vy.o];rfl,dN eV.o (Nat.le_refl _) _⟩
  ·have b1:(ev==0)=false:=by simpa using he
   have b2:(ev != 0)=true:=by simpa using he
   have vy:=aa (show jw bs=(aS.zero,ev) by rw [HG.o,if_neg he]);clear he;go_wp2_with (refine aF rfl 31 (.tmp 2) (.tmp 18) rfl w.heap.size 0 aS.zero.cells rfl rfl ze.o (MS.o aS.zero) (ML.o aS.zero) (MO.o aS.zero) aS.zero.cells.toList (MR.o aS.zero) ?_);refine bodyPost_ret (aM rfl _ _ w.heap.size _ _ _ _ _ rfl rfl (ze.o.setRow _) Tryz.underlying31 rfl (by kernel_rfl)) rfl ?_;exact ⟨by rw [vy.o];rfl,dN aO.o (Nat.le_refl _) _⟩
 ·have vy:=aa (show jw bs=(aS.zero,14) by unfold jw;rw [if_neg (by rw [HL.o];exact rD)]);have HN:=aa rD;clear rD;go_enter Tryz.func168,Tryz.ntmps168;go_wp2_with fail;rw [←HW.o];refine (sg _ _).mono ?_;rintro e w1 ⟨F,rfl,hF,aZ,hb⟩;have bn:=aa (eZ.o.trans (hb.mono eZ.o.size));have o7:=aa (mV.o.below hb mV.o.lt);clear hb aZ hF;go_wp2_with fail;refine (D4 _ A n c HN.o 19539 _).mono ?_;rintro e w2 ⟨rfl,rfl⟩;go_wp2_with (refine aF rfl 31 (.tmp 2) (.tmp 18) rfl w.heap.size 0 aS.zero.cells rfl rfl o7.o (MS.o aS.zero) (ML.o aS.zero) (MO.o aS.zero) aS.zero.cells.toList (MR.o aS.zero) ?_);refine bodyPost_ret (aM rfl _ _ w.heap.size _ _ _ _ _ rfl rfl (o7.o.setRow _) Tryz.underlying31 rfl (by kernel_rfl)) rfl ?_;exact ⟨by rw [vy.o];rfl,dN bn.o (Nat.le_refl _) _⟩
end record
namespace nE

open Go.RowKit base obj mem bw num bytes
theorem yi (w:World) (k:Nat) (h1:1≤k) (h2:k≤6):Calls Tryz.prog 194 #[.int .i64 k] w fun e w'=>e=.returned (.int .i64 k)∧w'=w:=by
 have a:¬(k:Int) < 1:=by omega
 have b:¬(k:Int) > 6:=by omega
 go_enter Tryz.func194,Tryz.ntmps194;go_wp2_with fail;go_ret;exact ⟨rfl,rfl⟩
def tJ (k m j:Nat):List Int:=List.replicate (k-j) 0++(be k m).drop (k-j)
theorem PQ (k m:Nat):tJ k m 0=List.replicate k 0:=by
 unfold tJ;rw [Nat.sub_zero,List.drop_of_length_le (by rw [bp];exact Nat.le_refl _),List.append_nil]
theorem Jo (k m:Nat):tJ k m k=be k m:=by simp [tJ]
theorem Lq (k m j:Nat) (h:j≤k):(tJ k m j).length=k:=by simp [tJ,bp]
theorem S4 (k m j:Nat) (h:j < k):(tJ k m j).set (k-1-j) (((m / 256 ^ j % 256:Nat)):Int)=tJ k m (j+1):=by
 unfold tJ;have e1:k-j=(k-(j+1))+1:=by omega
 have e2:(List.replicate (k-j) (0:Int)).set (k-1-j) (((m / 256 ^ j % 256:Nat)):Int)=List.replicate (k-(j+1)) 0++[(((m / 256 ^ j % 256:Nat)):Int)]:=by
  rw [e1,List.replicate_succ',show k-1-j=k-(j+1) by omega,List.set_append_right _ _ (by simp)];simp
 rw [List.set_append_left _ _ (by simp;omega),e2,List.append_assoc]
 congr 1
 have hl:k-(j+1) < (be k m).length:=by rw [bp];omega
 rw [List.drop_eq_getElem_cons hl,←e1];simp only [be,List.getElem_map,List.getElem_range,digit,List.singleton_append];rw [show k-1-(k-(j+1))=j by omega]
theorem Xu (k:Nat):be k (256 ^ k-1)=List.replicate k 255:=by
 apply List.ext_getElem
 ·simp [be]
 ·intro i h1 h2;have hi:i < k:=by simpa [be] using h1
  simp only [be,List.getElem_map,List.getElem_range,List.getElem_replicate,digit];have h3:0 < 256 ^ (k-1-i):=Nat.pow_pos (by decide);have h4:256 ^ k=256 ^ (k-1-i)*256 ^ (i+1):=by rw [←Nat.pow_add,show k-1-i+(i+1)=k by omega]
  have h5:(256 ^ k-1) / 256 ^ (k-1-i)=256 ^ (i+1)-1:=by
   rw [h4,Nat.mul_comm];generalize 256 ^ (k-1-i)=a at *;generalize hb:256 ^ (i+1)=b at *;have kK:0 < b:=by rw [←hb];exact Nat.pow_pos (by decide)
   obtain ⟨b',rfl⟩:∃b',b=b'+1:=⟨b-1,by omega⟩
   rw [Nat.add_mul,Nat.one_mul,Nat.add_sub_assoc h3,Nat.mul_comm,Nat.mul_add_div h3,Nat.div_eq_of_lt (by omega)];simp
  rw [h5,Nat.pow_succ];have h6:0 < 256 ^ i:=Nat.pow_pos (by decide);omega
theorem Qg (l:List Int) (i:Nat) (z:Int):(l.map (Value.int .u8)).set i (.int .u8 z)=(l.set i z).map (.int .u8):=by rw [List.map_set]
theorem iX (w:World) (n:Int) (hn:n≤9223372036854775807) (k:Nat) (jP:1≤k) (dC:k≤6) :
  Calls Tryz.prog 191 #[.int .i64 n,.int .i64 k] w fun e w'=>∃g,e=.returned (.slice (some ⟨g,0,none⟩) k k)∧w.heap.size≤g∧Row w' g 5 ((be k (dw k n)).map (.int .u8))∧Below w.heap.size w w':=by
 have pL:=uC k (by omega)
 have mV:=aa (show Row (w.alloc (.cells (List.replicate k (Value.int .u8 0)).toArray 5)) w.heap.size 5 ((List.replicate k (0:Int)).map (.int .u8)) by
  have h:=Row.new w 5 (List.replicate k (Value.int .u8 0)).toArray
  rwa [show (List.replicate k (Value.int .u8 0)).toArray.toList=(List.replicate k (0:Int)).map (.int .u8) by simp] at h)
 have eZ:=aa ((Below.refl w.heap.size w).alloc (Nat.le_refl _) (.cells (List.replicate k (Value.int .u8 0)).toArray 5));by_cases h0:n < 0
 ·have HE:=aa (show be k (dw k n)=List.replicate k 0 by
   unfold dw;rw [if_pos h0]
   apply List.ext_getElem<;>simp [be,digit])
  go_enter Tryz.func191,Tryz.ntmps191;go_wp2_with fail;refine (yi _ k jP dC).mono ?_;rintro e w' ⟨rfl,rfl⟩;go_wp2_with fail;go_ret;exact ⟨w'.heap.size,rfl,Nat.le_refl _,by rw [HE.o];simpa using mV.o,by simpa using eZ.o⟩
 ·obtain ⟨m,rfl⟩:=Int.eq_ofNat_of_zero_le (show 0≤n by omega);have HM:=aa hn;clear hn h0;have h0:¬(m:Int) < 0:=by omega
  go_enter Tryz.func191,Tryz.ntmps191;go_wp2_with fail;refine (yi _ k jP dC).mono ?_;rintro e w' ⟨rfl,rfl⟩;go_wp2_with fail;go_loopw [6,0] (fun i s wr=>∃j:Nat,j≤k∧i=.int .i64 ((k:Int)-1-j)∧s=.int .i64 (m / 256 ^ j:Nat)∧Row wr w'.heap.size 5 ((tJ k m j).map (.int .u8))∧Below w'.heap.size w' wr) (fun i _ _=>(intOf i+1).toNat)
  case atStart=>exact ⟨0,by omega,by simp,by simp,by rw [PQ];simpa using mV.o,by simpa using eZ.o⟩
  case round =>
   obtain ⟨j,hj,rfl,rfl,hr,hb⟩:=hrel;have HR:=aa hr;have HB:=aa hb;clear hr hb;have hq:m / 256 ^ j≤9223372036854775807:=Nat.le_trans (Nat.div_le_self _ _) (by have:=HM.o;omega);have HD:=aa (show m / 256 ^ (j+1)=m / 256 ^ j / 256 by rw [Nat.pow_succ,Nat.div_div_eq_div_mul]);by_cases aK:j < k
   ·have HS:=aa (S4 k m j aK);generalize Ve:m / 256 ^ j=q at *;have HQ:=aa Ve;clear Ve;have hg:(k:Int)-1-j=((k-1-j:Nat):Int):=by omega
    rw [hg];obtain ⟨v0,vP⟩:∃v,((tJ k m j).map (Value.int .u8))[k-1-j]?=some v:=⟨_,cM (by simp [Lq k m j hj];omega)⟩
    have hc:=(HR.o.cell (k-1-j)).trans vP;clear vP;have hf:=HR.o.frozen (k-1-j);have hl:=HR.o.lt;have ht:((k-1-j:Nat):Int) < (k:Int):=by omega
    have ht0:(0:Int)≤((k-1-j:Nat):Int):=by omega
    have HG:=aa hg;generalize k-1-j=t at *;clear hg;go_wp2_with fail;go_roundw;case rel=>refine ⟨j+1,by omega,by rw [show (t:Int)-1=(k:Int)-1-(j+1:Nat) by have:=HG.o;omega],by rw [HD.o];go_num,by rw [←HS.o,←Qg];exact HR.o.setCell t _,HB.o.setCell (p:=⟨w'.heap.size,t,none⟩) (Nat.le_refl _) _⟩
    case measure=>simp [intOf]<;>omega
   ·have wg:j=k:=by omega
    have cZ:¬(k:Int)-1-j≥0:=by omega
    have HJ:=aa wg;by_cases Oc:256 ^ k≤m
    ·have El:0 < m / 256 ^ j:=by rw [wg];exact Nat.div_pos Oc (Nat.pow_pos (by decide))
     have HE:=aa (show be k (dw k (m:Int))=List.replicate k 255 by
      unfold dw
      rw [if_neg (by omega),if_pos (by simpa using Oc),Xu])
     have acd:(0:Int) < ((m / 256 ^ j:Nat):Int):=by omega
     have qM:=aa (show Row wr w'.heap.size 5 ((List.replicate 0 (255:Int)++(be k m)).map (.int .u8)) by
      have h:=HR.o;rw [HJ.o,Jo] at h
      exact h)
     generalize m / 256 ^ j=q at *;clear wg Oc El;go_wp2_with fail;go_loopw [7] (fun i wx=>∃t:Nat,t≤k∧i=.int .i64 t∧Row wx w'.heap.size 5 ((List.replicate t (255:Int)++(be k m).drop t).map (.int .u8))∧Below w'.heap.size w' wx) (fun i _=>k-(intOf i).toNat)
     case atStart=>exact ⟨0,by omega,rfl,qM.o,HB.o⟩
     case round =>
      obtain ⟨t,ht,rfl,hr,hb⟩:=hrel;have dI:=aa hr;have aO:=aa hb;clear hr hb;by_cases pS:t < k
      ·obtain ⟨v0,vP⟩:∃v,((List.replicate t (255:Int)++(be k m).drop t).map (Value.int .u8))[t]?=some v:=⟨_,cM (by simp [bp];omega)⟩
       have hc:=(dI.o.cell t).trans vP;clear vP;have hf:=dI.o.frozen t;have hl:=dI.o.lt;have ht1:(t:Int) < (k:Int):=by omega
       have ht0:(0:Int)≤(t:Int):=by omega
       have HS:=aa (show (List.replicate t (255:Int)++(be k m).drop t).set t 255=List.replicate (t+1) 255++(be k m).drop (t+1) by
        rw [List.set_append_right _ _ (by simp),List.drop_eq_getElem_cons (l:=be k m) (i:=t) (by rw [bp];exact pS),List.replicate_succ',List.append_assoc]
        simp only [zI,Nat.sub_self,List.set_cons_zero,List.singleton_append])
       go_wp2_with fail;go_roundw;case rel=>exact ⟨t+1,by omega,by go_num,by rw [←HS.o,←Qg];exact dI.o.setCell t _,aO.o.setCell (p:=⟨w'.heap.size,t,none⟩) (Nat.le_refl _) _⟩
       case measure=>simp [intOf]<;>omega
      ·have Yx:t=k:=by omega
       have aca:¬(t:Int) < (k:Int):=by omega
       have HT:=aa Yx;clear Yx;go_wp2_with fail;go_ret;refine ⟨w'.heap.size,rfl,Nat.le_refl _,?_,aO.o⟩;have h:=dI.o;rw [HT.o,List.drop_of_length_le (by rw [bp];exact Nat.le_refl _),List.append_nil] at h;rw [HE.o];exact h
    ·have hq0:m / 256 ^ j=0:=by rw [wg];exact Nat.div_eq_of_lt (by omega)
     have HE:=aa (show be k (dw k (m:Int))=tJ k m j by rw [Dm k m (by omega),wg,Jo]);rw [hq0];clear wg Oc hq0;go_wp2_with fail;go_ret;exact ⟨w'.heap.size,rfl,Nat.le_refl _,by rw [HE.o];exact HR.o,HB.o⟩
end nE
namespace PF

open Go.RowKit base obj mem bw
theorem Yb (z:Nat) (hz:z < 2 ^ 32) (h:z % 2=1):Go.bits .xor .u32 ((z:Int) / 2) 3988292384=((dn z:Nat):Int):=by
 rw [show (z:Int) / 2=((z / 2:Nat):Int) by omega,show (3988292384:Int)=((3988292384:Nat):Int) from rfl,o9 _ _ (by omega) (by decide)];unfold dn;rw [if_pos h]
theorem Xg (z:Nat) (h:¬z % 2=1):((dn z:Nat):Int)=(z:Int) / 2:=by
 unfold dn;rw [if_neg h,Nat.xor_zero];omega
theorem T9 (w:World) (x c:Nat) (hx:x < 2 ^ 32) (hc:c < 256):Calls Tryz.prog 217 #[.int .u32 x,.int .u8 c] w fun e w'=>e=.returned (.int .u32 (feed x c:Nat))∧w'=w:=by
 have e0:=o9 x c hx (by omega);have hy:x ^^^ c < 2 ^ 32:=Nat.xor_lt_two_pow hx (by omega);have HF:=aa (show feed x c=it 8 (x ^^^ c) from rfl);generalize x ^^^ c=y at *;have HY:=aa hy;go_enter Tryz.func217,Tryz.ntmps217;go_wp2_with fail;go_loopw [5,0] (fun i s wr=>∃j:Nat,j≤8∧i=.int .i64 j∧s=.int .u32 (it j y:Nat)∧wr=w) (fun i _ _=>8-(intOf i).toNat)
 case atStart=>exact ⟨0,by omega,rfl,rfl,rfl⟩
 case round =>
  obtain ⟨j,hj,rfl,rfl,rfl⟩:=hrel;by_cases aK:j < 8
  ·have cZ:(j:Int) < 8:=by omega
   have hz:=Iu j HY.o;have HN:=aa (show it (j+1) y=dn (it j y) from rfl);generalize it j y=z at *;by_cases ho:z % 2=1
   ·have b1:(((z:Int) % 2)==1)=true:=by rw [beq_iff_eq];omega
    have e1:=Yb z hz ho;have HZ:=aa hz;have HO:=aa ho;clear ho;go_wp2_with fail;go_roundw;case rel=>exact ⟨j+1,by omega,by go_num,by rw [HN.o],trivial⟩
    case measure=>simp [intOf];omega
   ·have b1:(((z:Int) % 2)==1)=false:=by rw [beq_eq_false_iff_ne];omega
    have HE:=aa (Xg z ho);clear ho;go_wp2_with fail;go_roundw;case rel=>exact ⟨j+1,by omega,by go_num,by rw [HN.o,HE.o],trivial⟩
    case measure=>simp [intOf];omega
  ·have Ax:j=8:=by omega
   have cZ:¬(j:Int) < 8:=by omega
   have HJ:=aa Ax;clear Ax;go_wp2_with fail;go_ret;exact ⟨bt (by rw [HF.o,HJ.o]),rfl⟩
theorem FO (w:World) (x:Nat) (hx:x < 2 ^ 32) (A:Option Addr) (n c:Nat) (bs:List Int) (hn:bs.length=n) (hm:n≤1000000) (hb:bo bs) (hs:Sl w w.heap.size 1 A n (bs.map (.int .u8))) :
  Calls Tryz.prog 205 #[.int .u32 x,.slice A n c] w fun e w'=>e=.returned (.int .u32 (fold x bs:Nat))∧w'=w:=by
 have HN:=aa hn;have HB:=aa hb;have HS:=aa hs;have HX:=aa hx;clear hn hb hs hx;go_enter Tryz.func205,Tryz.ntmps205;go_wp2_with fail;go_loopw [5,0] (fun i s wr=>∃k:Nat,k≤n∧i=.int .i64 k∧s=.int .u32 (fold x (bs.take k):Nat)∧wr=w) (fun i _ _=>n-(intOf i).toNat)
 case atStart=>exact ⟨0,by omega,rfl,by rw [List.take_zero];rfl,rfl⟩
 case round =>
  obtain ⟨k,hk,rfl,rfl,rfl⟩:=hrel;by_cases aK:k < n
  ·have xN:k < bs.length:=by rw [HN.o];exact aK
   obtain ⟨b,off,rfl,cy,hc⟩:=HS.o.2 (by omega);have hz:=HB.o bs[k] (List.getElem_mem xN);have c1:=hc k (.int .u8 bs[k]) (by simp [xN]);have hfk:fold x (bs.take k) < 2 ^ 32:=BQ HX.o fun y hy=>HB.o y (List.mem_of_mem_take hy);have fQ:=xS x bs k xN;generalize hf:fold x (bs.take k)=f at *;have iq:bs[k]=((bs[k].toNat:Nat):Int):=by omega
   rw [iq] at c1;generalize Ed:bs[k].toNat=z at *;have HC:=aa (T9 wr f z hfk (by omega));have kM:=aa fQ;have HF:=aa hf;have i0:(0:Int)≤(k:Int):=by omega
   have i1:(k:Int) < (n:Int):=by omega
   clear hc fQ hf hz iq Ed hfk xN;go_wp2_with fail;refine HC.o.mono ?_;rintro e w' ⟨rfl,rfl⟩;go_wp2_with fail;go_roundw;case rel=>exact ⟨k+1,by omega,by go_num,by rw [kM.o],trivial⟩
   case measure=>simp [intOf];omega
  ·have dC:k=n:=by omega
   have cZ:¬(k:Int) < (n:Int):=by omega
   have HK:=aa dC;clear dC;go_wp2_with fail;go_ret;exact ⟨bt (by rw [HK.o,←HN.o,List.take_length]),rfl⟩
theorem uJ (w:World) (A:Option Addr) (n c:Nat) (bs:List Int) (hn:bs.length=n) (hm:n≤1000000) (hb:bo bs) (hs:Sl w w.heap.size 1 A n (bs.map (.int .u8))) :
  Calls Tryz.prog 192 #[.slice A n c] w fun e w'=>e=.returned (.int .u32 (sum bs:Nat))∧w'=w:=by
 have hf:=BQ (bs:=bs) (x:=4294967295) (by decide) hb;have HC:=aa (FO w 4294967295 (by decide) A n c bs hn hm hb hs);have HS:=aa (show sum bs=4294967295-fold 4294967295 bs from rfl);generalize fold 4294967295 bs=f at *;clear hn hb hs;go_enter Tryz.func192,Tryz.ntmps192;go_wp2_with fail;refine HC.o.mono ?_;rintro e w' ⟨rfl,rfl⟩;have hf':(f:Int)≤4294967295:=by omega
 go_wp2_with fail;go_ret;refine ⟨bt ?_,rfl⟩;rw [HS.o];omega
end PF
namespace fC

open Go.RowKit base obj mem bw num bytes record nE
theorem Zk (w:World) (n i:Nat) (hn:n≤1000000) (hi:i≤1000):Calls Tryz.prog 206 #[.int .i64 n,.int .i64 i] w fun e w'=>e=.returned (.bool (decide (n / 2 ^ i % 2=1)))∧w'=w:=by
 go_enter Tryz.func206,Tryz.ntmps206;go_wp2_with fail;go_loopw [5,0] (fun k s wr=>∃j:Nat,j≤i∧k=.int .i64 j∧s=.int .i64 (n / 2 ^ j:Nat)∧wr=w) (fun k _ _=>i-(intOf k).toNat)
 case atStart=>exact ⟨0,by omega,rfl,by simp,rfl⟩
 case round =>
  obtain ⟨j,hj,rfl,rfl,rfl⟩:=hrel;have hq:n / 2 ^ j≤1000000:=Nat.le_trans (Nat.div_le_self _ _) hn;by_cases aK:j < i
  ·have cZ:(j:Int) < (i:Int):=by omega
   have HD:=aa (show n / 2 ^ (j+1)=n / 2 ^ j / 2 by rw [Nat.pow_succ,Nat.div_div_eq_div_mul]);generalize n / 2 ^ j=q at *;go_wp2_with fail;go_roundw;case rel=>exact ⟨j+1,by omega,by go_num,by rw [HD.o];go_num,trivial⟩
   case measure=>simp [intOf]<;>omega
  ·have jQ:j=i:=by omega
   have cZ:¬(j:Int) < (i:Int):=by omega
   have HR:=aa (show decide (n / 2 ^ i % 2=1)=(((((n / 2 ^ j:Nat):Int) % 2)==1)) by
    rw [jQ,Bool.eq_iff_iff,decide_eq_true_iff,beq_iff_eq];omega)
   clear jQ;generalize n / 2 ^ j=q at *;go_wp2_with fail;go_ret;exact ⟨aE (by rw [HR.o]),rfl⟩
theorem BX (w:World) (n i:Int) (h0:0≤n) (h1:n≤3) (i0:0≤i) (i1:i≤1):Calls Tryz.prog 206 #[.int .i64 n,.int .i64 i] w fun e w'=>e=.returned (.bool (!kC n i))∧w'=w:=by
 obtain ⟨n,rfl⟩:=Int.eq_ofNat_of_zero_le h0;obtain ⟨i,rfl⟩:=Int.eq_ofNat_of_zero_le i0;refine (Zk w n i (by omega) (by omega)).mono ?_;rintro e w' ⟨rfl,rfl⟩;refine ⟨aE ?_,rfl⟩;have hi:i=0∨i=1:=by omega
 unfold kC;rcases hi with rfl|rfl<;>(rw [Bool.eq_iff_iff];simp;omega)
theorem ft (r:Rec) (w:World):Calls Tryz.prog 195 #[r.val] w fun e w'=>e=.returned (.bool r.right)∧Below w.heap.size w w':=by
 obtain ⟨part,seq,ax,aj,left,bad⟩:=r;unfold Rec.val Rec.cells;have HB:=aa (fun o=>(Below.refl w.heap.size w).alloc (Nat.le_refl _) o);go_enter Tryz.func195,Tryz.ntmps195;go_wp2_with fail
 all_goals first
  | (go_ret;refine ⟨aE ?_,HB.o _⟩;simp [Rec.right]<;>omega)
  | (refine (BX _ _ _ (by omega) (by omega) (by omega) (by omega)).mono ?_
     rintro e w' ⟨rfl,rfl⟩;obtain ⟨ba,xR⟩:∃b,b=kC bad ax:=⟨_,rfl⟩
     rw [←xR];have tF:=aa xR;clear xR;cases ba;all_goals go_wp2_with fail
     ·go_ret;refine ⟨aE ?_,HB.o _⟩;simp [Rec.right,←tF.o]<;>omega
     ·refine (BX _ _ _ (by omega) (by omega) (by omega) (by omega)).mono ?_;rintro e w' ⟨rfl,rfl⟩;obtain ⟨bc,Ct⟩:∃b,b=kC bad aj:=⟨_,rfl⟩
      rw [←Ct];have HBC:=aa Ct;clear Ct;go_wp2_with fail
      go_ret;refine ⟨aE ?_,HB.o _⟩;cases bc<;>simp [Rec.right,←tF.o,←HBC.o]<;>omega)
  | (have he:ax=aj:=by assumption
     refine (BX _ _ _ (by omega) (by omega) (by omega) (by omega)).mono ?_;rintro e w' ⟨rfl,rfl⟩;obtain ⟨ba,xR⟩:∃b,b=kC bad aj:=⟨_,rfl⟩
     rw [←xR];have tF:=aa xR;have HE:=aa he;clear xR he;cases ba;all_goals go_wp2_with fail
     ·go_ret;refine ⟨aE ?_,HB.o _⟩;simp [Rec.right,HE.o,←tF.o]<;>omega
     ·refine (BX _ _ _ (by omega) (by omega) (by omega) (by omega)).mono ?_;rintro e w' ⟨rfl,rfl⟩;rw [←tF.o];go_wp2_with fail
      go_ret;refine ⟨aE ?_,HB.o _⟩;simp [Rec.right,HE.o,←tF.o]<;>omega)
end fC
namespace fC

open Go.RowKit base obj mem bw num bytes record nE
theorem _root_.Go.Proofs.YtdldkkoplgkloaaGreat.mem.Row.grown {w w':World} {g:Nat} {t:TypeId} {xs:List Value} {row:Option Nat} (h:Row w g t xs) (k:w.grownBy w' row) (hn:row≠some g):Row w' g t xs:=(k.block g h.lt (fun e=>hn e.symm)).trans h
def z64:Array Value:=Array.replicate 64 (.int .u8 0)
theorem D8 (w:World):(Instr.makeSlice 24 (.int .i64 64) (.int .i64 64)).run Tryz.prog w=.ok (.slice (some ⟨w.heap.size,0,none⟩) 64 64) (w.alloc (.cells z64 5)):=by
 have h:=uC 64 (by decide) w;rw [show ((64:Nat):Int)=64 from rfl] at h;rw [h];rfl
end fC
namespace fC

open Go.RowKit base obj mem bw num bytes record nE
theorem KH (n:Nat) (h:n < 256):be 1 n=[(n:Int)]:=by
 simp [be,digit];omega
theorem la {r:Rec} (h:r.right=true):(0≤r.part∧r.part≤3)∧(1≤r.seq∧r.seq≤4294967295)∧(0≤r.ax∧r.ax≤1)∧(0≤r.aj∧r.aj≤1)∧(0≤r.left∧r.left≤7)∧(0≤r.bad∧r.bad≤3):=by
 simp [Rec.right] at h;obtain ⟨⟨⟨⟨⟨⟨⟨h1,h2⟩,h3⟩,h4⟩,h5⟩,_⟩,h7⟩,_⟩:=h;exact ⟨h1,h2,h3,h4,h5,h7⟩
end fC
namespace record

open Go.RowKit base bw num
theorem Nx (mark:Nat) (ks vs:List Nat) (i:Nat) (h:i≤ks.length):(pre mark ks vs i).length=na ks i:=by
 induction i with
 | zero=>simp [pre,na,bp]
 | succ i ih=>rw [sn,gA,bp,ih (by omega),vL ks i (by omega)]
theorem S6 (mark:Nat) (ks vs:List Nat) (i n:Nat) (h:i≤n):∃rest,pre mark ks vs n=pre mark ks vs i++rest:=by
 induction n with
 | zero=>obtain rfl:i=0:=by omega
         exact ⟨[],by simp⟩
 | succ n ih =>
   rcases Nat.lt_or_ge i (n+1) with h'|h'
   ·obtain ⟨r,hr⟩:=ih (by omega);exact ⟨r++be (ks.getD n 0) (vs.getD n 0),by rw [sn,hr,List.append_assoc]⟩
   ·obtain rfl:i=n+1:=by omega
    exact ⟨[],by simp⟩
theorem Mt (mark:Nat) (ks vs:List Nat) (n i:Nat) (q:List Int) (hi:i < n) (hn:n≤ks.length) (hv:vs.getD i 0 < 256 ^ ks.getD i 0):got ks (pre mark ks vs n++q) i=vs.getD i 0:=by
 obtain ⟨r,hr⟩:=S6 mark ks vs (i+1) n hi;unfold got;rw [hr,sn,List.append_assoc,List.append_assoc,List.drop_left' (Nx mark ks vs i (by omega)),List.take_left' (bp _ _),zO _ _ hv]
theorem Ca (p:List Int) (h:p.length≤60):(jC p).length=64:=by simp [jC,bp];omega
theorem Jc (p:List Int) (h:bo p):bo (jC p):=by
 intro z hz;unfold jC at hz;rcases List.mem_append.1 hz with hz|hz
 ·rcases List.mem_append.1 hz with hz|hz
  ·exact h z hz
  ·exact pW _ _ z hz
 ·rw [List.eq_of_mem_replicate hz];omega
theorem Pt (p:List Int):(jC p).take p.length=p:=by unfold jC;rw [List.append_assoc,List.take_left]
theorem SM (p:List Int):((jC p).drop p.length).take 4=be 4 (sum p):=by
 unfold jC;rw [List.append_assoc,List.drop_left,List.take_left' (bp _ _)]
theorem Pu (p:List Int):(jC p).drop (p.length+4)=List.replicate (60-p.length) 0:=by
 unfold jC;rw [List.drop_left' (by simp [bp])]
theorem VX (p:List Int):val (be 4 (sum p))=sum p:=zO 4 _ (Nat.lt_of_lt_of_le zQ (by decide))
theorem Gg (mark:Nat) (p:List Int) (h:val (p.take 2)=mark) (h2:2≤p.length):jr mark p.length (jC p)=0:=by
 unfold jr;rw [if_pos ⟨by rw [←h];unfold jC;rw [List.append_assoc,List.take_append_of_le_length h2],Pu p⟩,if_pos (by rw [SM,Pt,VX])]
theorem Jq (mark:Nat) (ks vs:List Nat) (n:Nat) (hm:mark < 65536):val ((pre mark ks vs n).take 2)=mark:=by
 unfold pre;rw [List.take_left' (bp _ _),zO 2 mark (by omega)]
theorem Rec.di (r:Rec):r.bytes.length=64:=Ca _ (by rw [r.ju];omega)
theorem Rec.qK (r:Rec):bo r.bytes:=Jc _ (Fq _ _ _ _)
theorem aS.di (s:aS):s.bytes.length=64:=Ca _ (by rw [s.ju];omega)
theorem aS.qK (s:aS):bo s.bytes:=Jc _ (Fq _ _ _ _)
theorem nat_eq {z:Int} (h:0≤z):((z.toNat:Nat):Int)=z:=by omega
theorem Kg {r:Rec} (h:r.right=true):rF r.bytes=r:=by
 obtain ⟨⟨a1,a2⟩,⟨b1,b2⟩,⟨c1,c2⟩,⟨d1,d2⟩,⟨e1,e2⟩,⟨f1,f2⟩⟩:=fC.la h
 have g:∀i,i < 6→r.ij.getD i 0 < 256 ^ fo.getD i 0→got fo r.bytes i=r.ij.getD i 0:=fun i hi hv=>by
  unfold Rec.bytes jC Rec.head;rw [List.append_assoc];exact Mt 19523 fo r.ij 6 i _ hi (Nat.le_refl 6) hv
 obtain ⟨part,seq,ax,aj,left,bad⟩:=r;simp only at *;unfold rF;rw [g 0 (by decide) (by simp [Rec.ij];omega),g 1 (by decide) (by simp [Rec.ij];omega),g 2 (by decide) (by simp [Rec.ij];omega),g 3 (by decide) (by simp [Rec.ij];omega),g 4 (by decide) (by simp [Rec.ij];omega),g 5 (by decide) (by simp [Rec.ij];omega)];simp [Rec.ij,nat_eq a1,nat_eq c1,nat_eq d1,nat_eq e1,nat_eq f1,nat_eq (show 0≤seq by omega)]
theorem AH {r:Rec} (h:r.right=true):gp r.bytes=(r,0):=by
 unfold gp
 have e:jr 19523 11 r.bytes=0:=by
  have:=Gg 19523 r.head (Jq 19523 fo r.ij 6 (by decide)) (by rw [r.ju];decide)
  rwa [r.ju] at this
 rw [if_pos r.di,if_pos e,Kg h,h];rfl
theorem Ke {s:aS} (h:s.right=true):rE s.bytes=s:=by
 obtain ⟨⟨h1,h2⟩,⟨h3,h4⟩,h5,h6⟩:=iD h
 have g:∀i,i < 3→s.ij.getD i 0 < 256 ^ gR.getD i 0→got gR s.bytes i=s.ij.getD i 0:=fun i hi hv=>by
  unfold aS.bytes jC aS.head;rw [List.append_assoc];exact Mt 19539 gR s.ij 3 i _ hi (Nat.le_refl 3) hv
 obtain ⟨aG,size,bd⟩:=s;simp only at *;unfold rE;rw [g 0 (by decide) (by simp [aS.ij];omega),g 1 (by decide) (by simp [aS.ij];omega),g 2 (by decide) (by simp [aS.ij];omega)];simp [aS.ij,nat_eq h5,nat_eq (show 0≤aG by omega),nat_eq (show 0≤size by omega)]
theorem Kk {s:aS} (h:s.right=true):jw s.bytes=(s,0):=by
 unfold jw
 have e:jr 19539 8 s.bytes=0:=by
  have:=Gg 19539 s.head (Jq 19539 gR s.ij 3 (by decide)) (by rw [s.ju];decide)
  rwa [s.ju] at this
 rw [if_pos s.di,if_pos e,Ke h,h];rfl
theorem mQ (mark N:Nat) (z:Int) (hz:0≤z∧z≤255) (hm:mark=19523∨mark=19539):jr mark N (List.replicate 64 z)=2:=by
 unfold jr;rw [if_neg];rintro ⟨h,_⟩;rw [show (List.replicate 64 z).take 2=[z,z] by simp] at h;simp [val] at h;omega
end record
namespace bits

open Go.RowKit
def df (s:Int) (i:Nat):Bool:=decide (s / 2 ^ i % 2=1)
def B1 (s:Int):Prop:=-9223372036854775808≤s∧s≤9223372036854775807
theorem Xy (x:Int):Go.bits .and .i64 x 1=x % 2:=by
 show IntKind.i64.wrap ((BitVec.ofInt 64 x &&& BitVec.ofInt 64 1).toNat:Int)=_
 rw [BitVec.toNat_and,show (BitVec.ofInt 64 1).toNat=1 from rfl,Nat.and_one_is_mod,BitVec.toNat_ofInt,IntKind.wrap_i64];omega
theorem Zj (s:Int) (k:Nat):(Go.bits .and .i64 (s / 2 ^ k) 1 != 0)=df s k:=by
 rw [Xy,df];generalize s / 2 ^ k=x;rw [Bool.eq_iff_iff];simp;omega
theorem D3 (n k:Nat):n ||| 2 ^ k=if n / 2 ^ k % 2=1 then n else n+2 ^ k:=by
 have hp:0 < 2 ^ k:=Nat.two_pow_pos k;have hd:n=2 ^ k*(n / 2 ^ k)+n % 2 ^ k:=(Nat.div_add_mod n (2 ^ k)).symm;have hm:n % 2 ^ k < 2 ^ k:=Nat.mod_lt _ hp;generalize n / 2 ^ k=q at *;generalize n % 2 ^ k=r at *;subst hd;have e1:2 ^ k*q+r=2 ^ k*q ||| r:=Nat.two_pow_add_eq_or_of_lt hm q;split
 ·rename_i h
  have e2:2 ^ k*q=2 ^ (k+1)*(q / 2) ||| 2 ^ k:=by
   have:=Nat.two_pow_add_eq_or_of_lt (i:=k+1) (b:=2 ^ k) (by rw [Nat.pow_succ];omega) (q / 2);rw [←this,Nat.pow_succ];have hq:q=2*(q / 2)+1:=by omega
   conv=>lhs;rw [hq]
   rw [Nat.mul_add,Nat.mul_one,Nat.mul_assoc]
  rw [e1,e2,Nat.or_assoc,Nat.or_assoc,Nat.or_comm r,←Nat.or_assoc (2 ^ k) (2 ^ k),Nat.or_self,Nat.or_assoc]
 ·rename_i h
  have e2:2 ^ k*q=2 ^ (k+1)*(q / 2):=by
   rw [Nat.pow_succ];have hq:q=2*(q / 2):=by omega
   conv=>lhs;rw [hq]
   rw [Nat.mul_assoc]
  have e3:2 ^ k+r=2 ^ k ||| r:=by
   have:=Nat.two_pow_add_eq_or_of_lt hm 1;simpa using this
  have e4:=Nat.two_pow_add_eq_or_of_lt (i:=k+1) (b:=2 ^ k+r) (by rw [Nat.pow_succ];omega) (q / 2);rw [e1,e2,Nat.or_assoc,Nat.or_comm r,←e3,←e4,←e2,←e1];omega
def mZ (s:Int) (k:Nat):Int:=if df s k then s else s+2 ^ k
theorem X9 (s:Int) (k:Nat) (hk:k < 16) (h:B1 s):Go.bits .or .i64 s (2 ^ k)=mZ s k:=by
 show IntKind.i64.wrap ((BitVec.ofInt 64 s ||| BitVec.ofInt 64 (2 ^ k)).toNat:Int)=_
 obtain ⟨h1,h2⟩:=h
 have aaQ:(BitVec.ofInt 64 (2 ^ k)).toNat=2 ^ k:=by
  rw [BitVec.toNat_ofInt];have:(2:Int) ^ k=((2 ^ k:Nat):Int):=by simp
  rw [this];have aK:2 ^ k < 65536:=Nat.pow_lt_pow_right (m:=k) (n:=16) (a:=2) (by omega) hk;generalize 2 ^ k=m at aK ⊢;rw [show ((m:Int) % ((2 ^ 64:Nat):Int))=(m:Int) from Int.emod_eq_of_lt (by omega) (by omega)];omega
 rw [BitVec.toNat_or,aaQ,D3,BitVec.toNat_ofInt,IntKind.wrap_i64];unfold mZ df;rcases (by omega:k=0∨k=1∨k=2∨k=3∨k=4∨k=5∨k=6∨k=7∨k=8∨k=9∨k=10∨k=11∨k=12∨k=13∨k=14∨k=15) with rfl|rfl|rfl|rfl|rfl|rfl|rfl|rfl|rfl|rfl|rfl|rfl|rfl|rfl|rfl|rfl <;>
 ·simp only [Nat.reducePow,Int.reducePow,decide_eq_true_eq];split<;>split<;>omega
theorem OH (s:Int) (j k:Nat):df (mZ s k) j=(df s j||j==k):=by
 unfold mZ;cases h:df s k
 ·simp only [Bool.false_eq_true,if_false];simp only [df,decide_eq_false_iff_not] at h;unfold df;rcases Nat.lt_trichotomy j k with wg|rfl|wg
  ·have e:(2:Int) ^ k=2 ^ (k-j)*2 ^ j:=by rw [←Int.pow_add];congr 1;omega
   have e2:(2:Int) ^ (k-j)=2*2 ^ (k-j-1):=by
    have:k-j=1+(k-j-1):=by omega
    rw [this,Int.pow_add];simp
   have hp:(2:Int) ^ j≠0:=by have:=Int.pow_pos (n:=2) (m:=j) (by omega);omega
   rw [e,Int.add_mul_ediv_right _ _ hp,e2];have:(j==k)=false:=by simp;omega
   rw [this,Bool.or_false,Bool.eq_iff_iff];simp only [decide_eq_true_eq];generalize (2:Int) ^ (k-j-1)=y;omega
  ·have hp:(2:Int) ^ j≠0:=by have:=Int.pow_pos (n:=2) (m:=j) (by omega);omega
   rw [show s+2 ^ j=s+1*2 ^ j from by rw [Int.one_mul],Int.add_mul_ediv_right _ _ hp];simp;omega
  ·have hp:(0:Int) < 2 ^ k:=Int.pow_pos (by omega)
   have e:(2:Int) ^ j=2 ^ k*2*2 ^ (j-k-1):=by
    have h1:j=k+1+(j-k-1):=by omega
    conv=>lhs;rw [h1]
    rw [Int.pow_add,Int.pow_add];simp
   have:(j==k)=false:=by simp;omega
   rw [this,Bool.or_false,e,Int.ediv_ediv_of_nonneg (by omega) |>.symm,←Int.ediv_ediv_of_nonneg (x:=s) (by omega)]
   have e3:(s+2 ^ k) / (2 ^ k*2)=s / (2 ^ k*2):=by
    rw [←Int.ediv_ediv_of_nonneg (by omega),←Int.ediv_ediv_of_nonneg (x:=s) (by omega)];rw [show s+2 ^ k=s+1*2 ^ k from by rw [Int.one_mul],Int.add_mul_ediv_right _ _ (by omega)];omega
   rw [e3]
 ·simp only [if_true];by_cases e:j=k
  ·subst e;simp [h]
  ·simp [e]
end bits
end Go.Proofs.YtdldkkoplgkloaaGreat
