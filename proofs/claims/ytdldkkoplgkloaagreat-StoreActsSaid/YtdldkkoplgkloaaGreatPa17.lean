/- PROVED HERE: lemmas of the law. CONDITIONS: each names its own. -/
import Derived.Deep.DeepCutAuto
import Derived.Test.YtdldkkoplgkloaaGreatPa0
import Derived.Test.YtdldkkoplgkloaaGreatPa2
import Derived.Test.YtdldkkoplgkloaaGreatPa4
import Derived.Test.YtdldkkoplgkloaaGreatPa10
import Derived.Test.YtdldkkoplgkloaaGreatPa16
namespace Go.Proofs.YtdldkkoplgkloaaGreat
set_option linter.unusedVariables false
set_option linter.unusedSimpArgs false
set_option maxRecDepth 100000
set_option maxHeartbeats 32000000
open Go.Value renaming int → ae
open Go.IntKind renaming i64 → aa
namespace record
open Go.RowKit base obj mem bC num bytes aW
theorem Ih (w:World) (R F:Nat) (T TR:TypeId) (ks:List Nat) (n:Nat) (hn:ks.length=n) (h0:0 < n) (c0:List Value) (uQ:c0.length=n) (hR:Row w R TR c0) (hF:Row w F T (kC R ks)) (rN:F≠R)
  (hw:∀i,i < n→1≤ks.getD i 0∧ks.getD i 0≤6) (A:Option Addr) (c:Nat) (bs:List Int) (hl:bs.length=64) (cG:bn bs) (hs:Sl w R 1 A 64 (bs.map (.int .u8))) (hc:64≤c) (N:Nat) (hN:og ks n=N) (acO:N≤59) (mark:Nat) (hm:mark < 65536) :
  Calls Tryz.prog 167 #[.slice A 64 c,ae aa mark,.slice (some ⟨F,0,none⟩) n n] w fun e w'=>e=.returned (ae aa (jO mark N bs))∧Row w' R TR ((List.range n).map fun i=>.int .i64 (got ks bs i:Nat))∧Kept (fun i=>i=R) w w':=by
 have px:=af (yG w A 64 c bs hl (hs.more (Nat.le_of_lt hR.lt)) (by omega));have HN:=af hn;have Gr:=af uQ;have HR:=af hR;have HF:=af hF;have HNE:=af rN;have TN:=af hw;have HL:=af hl;have lM:=af cG;have HS:=af hs;have Co:=af hN
 have acA:n≤60:=by
  have h1:∀j,j≤n→j≤og ks j:=by
   intro j
   induction j with
   | zero=>intro _;exact Nat.zero_le _
   | succ j ih =>
     intro hj;rw [xA ks j (by omega)];have:=(hw j (by omega)).1;have:=ih (by omega);omega
  have h3:=h1 n (Nat.le_refl _);omega
 clear hn uQ hR hF rN hw hl cG hs hN;go_enter Tryz.func167,Tryz.ntmps167;go_wp2_with fail;refine px.o.mono ?_;rintro e w1 ⟨Q,rfl,bQ,hb⟩;have uV:=af (And.intro bQ hb);clear bQ hb px;go_wp2_with fail;refine (ub uV.o.1 2 (by omega) (by omega) (by rw [HL.o];omega) (by rw [HL.o];omega) lM.o).mono ?_;rintro e w2 ⟨rfl,bQ,hk⟩;have hQ:w.heap.size≤Q:=uV.o.1.base
 have HI:=af (wT.mk (w:=w) (R:=R) (F:=F) (T:=T) (TR:=TR) (ks:=ks) (c0:=c0) (A:=A) (bs:=bs) (wr:=w2) (Q:=Q) (k:=0) bQ
  ((HR.o.below uV.o.2 HR.o.lt).kept hk (fun e=>by have:=HR.o.lt;omega)) ((HF.o.below uV.o.2 HF.o.lt).kept hk (fun e=>by have:=HF.o.lt;omega))
  ((HS.o.below (uV.o.2.mono (Nat.le_of_lt HR.o.lt))).below (hk.below (Nat.le_trans (Nat.le_of_lt HR.o.lt) uV.o.2.size) (fun i hi e=>by have:=HR.o.lt;have:i=Q:=e;omega)))
  ((Kept.oh uV.o.2 (fun i=>i=R)).trans hk (fun _ h=>h) (fun i h hi=>by have:i=Q:=h;omega)))
 clear bQ hk uV;obtain ⟨bg,IK⟩:∃bg:Bool,bg=decide (val (bs.take 2)=mark):=⟨_,rfl⟩
 have bT:(((val (bs.take 2):Nat):Int)==(mark:Int))=bg:=by
  rw [IK];exact Bool.eq_iff_iff.2 (by rw [beq_iff_eq,decide_eq_true_iff];omega)
 have td:=af IK;clear IK;go_wp2_with fail;go_loopw [24,9] (fun i m wr=>∃k:Nat,k≤n∧i=ae aa k∧m=ae aa (og ks k:Nat)∧wT w R F T TR ks c0 A bs wr Q k) (fun i _ _=>n-(intOf i).toNat)
 case atStart=>exact ⟨0,by omega,rfl,rfl,HI.o⟩
 case round =>
  clear HI;obtain ⟨k,hk,rfl,rfl,hi⟩:=hrel;have HI:=af hi;clear hi;by_cases aH:k < n
  ·
   have iG:k < ks.length:=by rw [HN.o];exact aH
   have hkc:k < c0.length:=by rw [Gr.o];exact aH
   obtain ⟨g1,g2⟩:=zj R ks k iG;have c1:=(HI.o.fl.cell (k*2)).trans g1;have c2:=(HI.o.fl.cell (k*2+1)).trans g2;obtain ⟨k1,k6⟩:=TN.o k aH;have HOS:=af (xA ks k iG);have hom:og ks k+ks.getD k 0≤59:=by rw [←HOS.o];exact Nat.le_trans (RV ks (k+1) n aH (by rw [HN.o];exact Nat.le_refl _)) (by rw [Co.o];exact acO)
   have adw:=af (show got ks bs k=val ((bs.drop (og ks k)).take (ks.getD k 0)) from rfl);have hlF:=HI.o.fl.lt;have hlR:=HI.o.row.lt;generalize hq:ks.getD k 0=q at *;generalize jL:og ks k=ok at *;have HQ:=af hq;have fb:=af jL;have HOM:=af hom;have i0:(0:Int)≤(k:Int):=by omega
   have i1:(k:Int) < (n:Int):=by omega
   clear g1 g2 hq jL hom;go_wp2_with fail;have T9:=af (HI.o.below (((Below.refl wr.heap.size wr).alloc (Nat.le_refl _) (.cells #[.pointer (some ⟨R,k,none⟩),ae aa q] 250)).drew));refine fK [0,2,3,4] [[1,5,6,7],[5,1,6,7]] (by kernel_rfl) (by kernel_rfl) (fun _ _ _ _ _ h=>h) ?_;simp only [mU,pick,xG];iterate 4 still_step
   refine wpStill_nil ?_;refine ⟨?_,?_⟩
   all_goals
    go_wp2_with fail;refine (ub T9.o.rd q k1 k6 (by rw [List.length_drop,HL.o];have:=HOM.o;rw [fb.o];omega) (by rw [List.length_drop,HL.o];omega) (tH lM.o _)).mono ?_;rintro e w5 ⟨rfl,bQ,DC⟩;have IF:R < w.heap.size:=HR.o.lt;have HX:=af (RU T9.o bQ DC IF HF.o.lt HNE.o hkc HOS.o fb.o HQ.o);obtain ⟨v0,xF⟩:=LJ ks bs k c0 hkc;have Iz:Row w5 R TR (mF ks bs k c0):=T9.o.row.kept DC (fun e=>by have:R=Q:=e;omega);have c5:=(Iz.cell k).trans xF;have f5:=Iz.frozen k;have ka:w5.heap[wr.heap.size]?=some (.cells #[.pointer (some ⟨R,k,none⟩),ae aa q] 250 (0,0)):=(DC.block wr.heap.size (by simp) (fun e=>by have:wr.heap.size=Q:=e;have:=HI.o.rd.lt;omega)).trans (heap_alloc_new _ _);have d0:w5.cell? ⟨wr.heap.size,0,none⟩=some (.pointer (some ⟨R,k,none⟩)):=by simp [World.cell?,ka]
    have d1:w5.cell? ⟨wr.heap.size,1,none⟩=some (ae aa q):=by simp [World.cell?,ka]
    have adS:wr.heap.size < w5.heap.size:=by have:=DC.size;simp at this;omega
    rw [fb.o,←adw.o];generalize got ks bs k=gv at HX ⊢;have hom:=HOM.o;clear bQ DC Iz xF ka;go_wp2_with fail;go_roundw;case rel=>exact ⟨k+1,by omega,by go_num,by rw [HOS.o];rfl,HX.o⟩
    case measure=>simp [intOf];omega
  ·have lv:k=n:=by omega
   have df:¬(k:Int) < (n:Int):=by omega
   have fb:=af (show og ks k=N by rw [lv];exact Co.o);have HFC:=af (show mF ks bs k c0=(List.range n).map (fun i=>Value.int .i64 (got ks bs i:Nat)) by rw [lv];unfold mF;rw [List.drop_of_length_le (by rw [Gr.o];exact Nat.le_refl _),List.append_nil]);clear lv;go_wp2_with fail;refine (ub HI.o.rd 4 (by omega) (by omega) (by rw [List.length_drop,HL.o,fb.o];omega) (by rw [List.length_drop,HL.o];omega) (tH lM.o _)).mono ?_;rintro e w5 ⟨rfl,bQ,DC⟩;rw [fb.o,List.drop_drop] at bQ;rw [fb.o]
   have HD:=af (pY.mk (w:=w) (R:=R) (TR:=TR) (cs:=(List.range n).map (fun i=>Value.int .i64 (got ks bs i:Nat))) (A:=A) (bs:=bs) (wr:=w5) (Q:=Q) bQ
    (by rw [←HFC.o];exact HI.o.row.kept DC (fun e=>by have:=HR.o.lt;have:R=Q:=e;omega)) (HI.o.sl.below (DC.below (Nat.le_of_lt HI.o.row.lt) (fun i hi e=>by have:=HR.o.lt;have:i=Q:=e;omega)))
    (HI.o.kept.trans DC (fun _ h=>h) (fun i h hi=>by have:i=Q:=h;omega)))
   clear bQ DC HI;obtain ⟨rest,vq⟩:=xE (bs.drop (N+4));obtain ⟨m,xN⟩:=xE (60-N);obtain ⟨zb,hzb⟩:=xE (decide (rest=List.replicate m (0:Int)));have Ix:rest.length=m:=by rw [vq,List.length_drop,HL.o,xN];omega
   have Sw:1≤m:=by omega
   have BP:0 < m:=by omega
   have aF:IntKind.i64.wrap (64-(N:Int))=64-(N:Int):=by rw [IntKind.wrap_i64];omega
   have eh:IntKind.i64.wrap (64-(N:Int)-4)=(m:Int):=by rw [IntKind.wrap_i64];omega
   have qB:=vJ m (by omega);have uX:=af (show pY w R TR ((List.range n).map (fun i=>Value.int .i64 (got ks bs i:Nat))) A bs w5 Q rest by rw [vq];exact HD.o);have HRB:=af (show bn rest by rw [vq];exact tH lM.o _);have xe:=af Ix;have JB:=af vq;have HM2:=af xN;have HZ:=af hzb;have ad0:m≤60:=by omega
   have HZB:=af (show bn (List.replicate m (0:Int)) from fun z hz=>by rw [List.eq_of_mem_replicate hz];omega);clear Ix vq xN HD hzb;go_upto_region 13 with fail
   go_cut [42] (fun s wc=>s=.bool (!(bg&&zb))∧Row wc R TR ((List.range n).map (fun i=>Value.int .i64 (got ks bs i:Nat)))∧Sl wc R 1 A 64 (bs.map (.int .u8))∧Kept (fun i=>i=R) w wc)
   case first =>
    cases bg with
    | false =>
      go_region
      go_wp2_with fail;go_meet;exact ⟨by simp,uX.o.row.drew,uX.o.sl,uX.o.kept.drew⟩
    | true =>
      go_region_law (first
       | (go_simp;(with_reducible refine (Z0 (pY.rd (uX.o.below (by first|exact (Below.refl _ _).drew|exact ((Below.refl _ _).alloc (Nat.le_refl _) _).drew))) xe.o).mono ?_);rintro e w6 ⟨rfl,rfl⟩;dsimp only)
       | (go_simp;(with_reducible refine (pU (pY.rd (uX.o.below (by first|exact (Below.refl _ _).drew|exact ((Below.refl _ _).alloc (Nat.le_refl _) _).drew))) m Sw (by rw [xe.o];exact Nat.le_refl _) (by rw [xe.o];omega)).mono ?_);rintro e w7 ⟨v7,rfl,Lh,NR,hk7⟩;rw [List.take_of_length_le (by simp [xe.o])] at Lh;obtain ⟨A7,c7,e7,_,_⟩:=aD Lh;subst e7;have Gl:=af Lh;have DV:=af hk7;clear Lh NR hk7;dsimp only)
       | (go_simp;(with_reducible refine (EG _ _ _ m m _ _ rest (List.replicate m 0) xe.o (by simp) BP BP HRB.o HZB.o (by first|exact Sl.bP Gl.o|exact Sl.bP (Gl.o.alloc _)) (by first|exact qt (J7 _ _) (by simp)|exact qt (uX.o.zeros DV.o.tV) (by simp))).mono ?_);rintro e w8 ⟨rfl,rfl⟩;rw [←HZ.o];dsimp only))
      all_goals
       go_wp2_with fail;go_meet
       first
        | exact ⟨by simp,(uX.o.Ai HR.o.lt DV.o.tV).1,(uX.o.Ai HR.o.lt DV.o.tV).2.1,(uX.o.Ai HR.o.lt DV.o.tV).2.2⟩
        | exact ⟨by simp,(uX.o.Ai HR.o.lt (DV.o.tV.alloc _)).1,(uX.o.Ai HR.o.lt (DV.o.tV.alloc _)).2.1,(uX.o.Ai HR.o.lt (DV.o.tV.alloc _)).2.2⟩
        | exact ⟨by simp,(uX.o.Ai HR.o.lt DV.o.Gu).1,(uX.o.Ai HR.o.lt DV.o.Gu).2.1,(uX.o.Ai HR.o.lt DV.o.Gu).2.2⟩
   case rest =>
    obtain ⟨rfl,bo,dk,Xe⟩:=hcut;have hM:=af bo;have lJ:=af dk;have HKP:=af Xe;clear bo dk Xe uX;cases SV:(bg&&zb) with
    | false =>
      have HE:=af (show jO mark N bs=2 by
       unfold jO
       rw [if_neg (fun h=>by
        have h1:=td.o;have h2:=HZ.o;rw [←JB.o,←HM2.o] at h;simp [h.1,h.2] at h1 h2
        simp [h1,h2] at SV)])
      go_wp2_with fail;go_ret;exact ⟨by rw [HE.o];rfl,hM.o,HKP.o⟩
    | true =>
      have HE:=af (show jO mark N bs=if val ((bs.drop N).take 4)=sum (bs.take N) then 0 else 10 by
       unfold jO
       rw [if_pos (by
        have h1:=td.o;have h2:=HZ.o;simp at SV;rw [←JB.o,←HM2.o];simp [SV.1,SV.2] at h1 h2
        exact ⟨h1,h2⟩)])
      clear SV;obtain ⟨sv,ud⟩:=xE (val ((bs.drop N).take 4));obtain ⟨sm,Iv⟩:=xE (sum (bs.take N));rw [←ud,←Iv] at HE;rw [←ud];have jU:=af Iv;have Mu:=af (show sm < 2 ^ 32 by rw [Iv];exact Bp)
      have TW:=af (show Sl wc R 1 A N ((bs.take N).map (.int .u8)) from ⟨by simp [HL.o];omega,fun hn=>by
       obtain ⟨b,off,e,hb,pN⟩:=lJ.o.2 (by omega)
       exact ⟨b,off,e,hb,fun k u hu=>pN k u (by
        rw [List.map_take,List.getElem?_take] at hu;split at hu
        ·exact hu
        ·simp at hu)⟩⟩)
      clear ud Iv;have cv:IntKind.i64.wrap (sm:Int)=(sm:Int):=by have:=Mu.o;rw [IntKind.wrap_i64];omega
      have i0:(0:Int)≤(N:Int):=by omega
      have i1:(N:Int)≤(c:Int):=by omega
      have hRl:=hM.o.lt;have fE:=af (show Below wc.heap.size wc wc.drew from (Below.refl _ _).drew);obtain ⟨db,AT⟩:=xE (decide (sv=sm))
      have e1:((sv:Int) != (sm:Int))=!db:=by
       rw [AT,Bool.eq_iff_iff];simp;omega
      have e2:(sv != sm)=!db:=by
       rw [AT,Bool.eq_iff_iff];simp
      have HDB:=af AT;clear AT;cases db
      all_goals
       go_wp2_with fail;refine fK [0,2,3] [[1,4,5,6,7,8],[4,1,5,6,7,8]] (by kernel_rfl) (by kernel_rfl) (fun _ _ _ _ _ h=>h) ?_;simp only [mU,pick,xG];iterate 3 still_step
       refine wpStill_nil ?_;refine ⟨?_,?_⟩
       all_goals
        go_wp2_with fail;refine (yN _).mono ?_;rintro e w2 ⟨g,rfl,hg,bo,bT⟩;have aO:=af (fE.o.trans (bT.mono fE.o.size));have HG:=af bo;clear hg bo bT;go_wp2_with fail;refine (vV _ g HG.o A N c (bs.take N) (by simp [HL.o];omega) (by omega) (zD lM.o _) ((TW.o.below (aO.o.mono (Nat.le_of_lt hRl))).more (Nat.le_trans (Nat.le_of_lt hRl) aO.o.size))).mono ?_;rintro e w3 ⟨rfl,rfl⟩;rw [←jU.o];go_wp2_with fail;go_ret;refine ⟨?_,hM.o.below aO.o hRl,HKP.o.trans (Kept.oh aO.o (fun i=>i=R)) (fun _ h=>h) (fun _ h _=>h)⟩;rw [HE.o];have hd:=HDB.o;simp at hd;simp [hd]
end record
namespace record
open Go.RowKit base obj mem
structure aR where
 aC:Int
 size:Int
 bf:Int
deriving DecidableEq
def aR.cells (s:aR):Array Value:=#[ae aa s.aC,ae aa s.size,ae aa s.bf]
def aR.val (s:aR):Value:=.agg s.cells
def aQ (size:Int):Nat:=((size+15) / 16).toNat
def aR.right (s:aR):Bool:=decide (1≤s.aC∧s.aC≤65535)&&decide (1≤s.size∧s.size≤160)&&decide (0≤s.bf∧s.bf≤2 ^ aQ s.size-1)
theorem kK (w:World) (size:Int) (h0:-9223372036854775808≤size) (h1:size≤9223372036854775807):Calls Tryz.prog 97 #[ae aa size] w fun e w'=>e=.returned (ae aa (aQ size:Nat))∧w'=w:=by
 by_cases h:size < 1
 ·have HB:=af (show aQ size=0 by unfold aQ;omega);go_enter Tryz.func97,Tryz.ntmps97;go_wp2_with fail;go_ret;exact ⟨bx (by rw [HB.o];rfl),rfl⟩
 ·have HB:=af (show ((aQ size:Nat):Int)=(size-1) / 16+1 by unfold aQ;omega);have h':1≤size:=by omega
  go_enter Tryz.func97,Tryz.ntmps97;go_wp2_with fail;go_ret;exact ⟨bx (by rw [HB.o]),rfl⟩
theorem oG (s:aR) (w:World):Calls Tryz.prog 137 #[s.val] w fun e w'=>e=.returned (.bool s.right)∧Below w.heap.size w w':=by
 obtain ⟨aC,size,bf⟩:=s;unfold aR.val aR.cells;have HD:=af (show aR.right ⟨aC,size,bf⟩=(decide (1≤aC∧aC≤65535)&&decide (1≤size∧size≤160)&&decide (0≤bf∧bf≤2 ^ aQ size-1)) from rfl);have HB:=af (fun o=>(Below.refl w.heap.size w).alloc (Nat.le_refl _) o);cases k1:decide (1≤aC∧aC≤65535) with
 | false =>
   have K1:=af k1;clear k1;have HR:=af (show false=aR.right ⟨aC,size,bf⟩ from by rw [HD.o,K1.o];simp);go_enter Tryz.func137,Tryz.ntmps137;go_wp2_with fail;go_big_quiet (first|exact Calls.quiet_of_same (aS _ _ _ _ _ K1.o));go_wp2_with fail;go_ret;exact ⟨aA HR.o,below_drewN (HB.o _) _⟩
 | true =>
   have K1:=af k1;clear k1;cases k2:decide (1≤size∧size≤160) with
   | false =>
     have K2:=af k2;clear k2;have HR:=af (show false=aR.right ⟨aC,size,bf⟩ from by rw [HD.o,K1.o,K2.o];simp);go_enter Tryz.func137,Tryz.ntmps137;go_wp2_with fail;go_big_quiet (first|exact Calls.quiet_of_same (aS _ _ _ _ _ K1.o)|exact Calls.quiet_of_same (aS _ _ _ _ _ K2.o));go_wp2_with fail;go_ret;exact ⟨aA HR.o,below_drewN (HB.o _) _⟩
   | true =>
     have h2:1≤size∧size≤160:=by simpa using k2
     have K2:=af k2;obtain ⟨b,hb⟩:=xE (aQ size);have kb:1≤b:=by rw [hb];unfold aQ;omega
     have aaM:b≤10:=by rw [hb];unfold aQ;omega
     have ch:=af (show ∀W,Calls Tryz.prog 97 #[ae aa size] W fun e w'=>e=.returned (ae aa (b:Nat))∧w'=W by rw [hb];exact fun W=>kK W size (by omega) (by omega));have aO:=af hb;have Lg:(1:Int)≤2 ^ b:=by have:=Int.pow_pos (n:=2) (m:=b) (by decide);omega
     have hp2:(2:Int) ^ b≤1024:=by
      have h6:b=1∨b=2∨b=3∨b=4∨b=5∨b=6∨b=7∨b=8∨b=9∨b=10:=by omega
      rcases h6 with rfl|rfl|rfl|rfl|rfl|rfl|rfl|rfl|rfl|rfl<;>decide
     have qx:wrap64 (2 ^ b)=2 ^ b:=by unfold wrap64;omega
     rw [←hb] at HD;clear hb k2 h2;cases k3:decide (0≤bf∧bf≤2 ^ b-1)
     all_goals
      have K3:=af k3;clear k3;go_enter Tryz.func137,Tryz.ntmps137;go_wp2_with fail;go_big_quiet (first|exact Calls.quiet_of_same (aS _ _ _ _ _ K1.o)|exact Calls.quiet_of_same (aS _ _ _ _ _ K2.o)|exact Calls.quiet_of_same (ch.o _)|exact Calls.quiet_of_same (aS _ _ _ _ _ K3.o));go_wp2_with fail;go_ret;refine ⟨aA ?_,below_drewN (HB.o _) _⟩;rw [HD.o,K1.o,K2.o,K3.o];rfl
end record
namespace record
open Go.RowKit base obj mem bC num bytes aW
theorem tk (w:World) (R:Nat):Calls Tryz.prog 138 #[.pointer (some ⟨R,0,none⟩)] w fun e w'=>∃F,e=.returned (.slice (some ⟨F,0,none⟩) 3 3)∧w.heap.size≤F∧Row w' F 252 (kC R [2,2,2])∧Below w.heap.size w w':=by
 go_enter Tryz.func138,Tryz.ntmps138;go_wp2_with fail
 go_region
 go_wp2_with fail;go_ret;exact ⟨w.heap.size,rfl,Nat.le_refl _,(Row.new w _ _).drew,((Below.refl w.heap.size w).alloc (Nat.le_refl _) _).drew⟩
def aR.iN (s:aR):List Nat:=[s.aC.toNat,s.size.toNat,s.bf.toNat]
abbrev iE:List Nat:=[2,2,2]
def aR.head (s:aR):List Int:=pre 19539 iE s.iN 3
def aR.bytes (s:aR):List Int:=jY s.head
theorem aR.jQ (s:aR):s.head.length=8:=by
 simp [aR.head,pre,bp,List.range_succ]
theorem iD {s:aR} (h:s.right=true):(1≤s.aC∧s.aC≤65535)∧(1≤s.size∧s.size≤160)∧0≤s.bf∧s.bf < 1024:=by
 simp [aR.right] at h;obtain ⟨⟨h1,h2⟩,h3,h4⟩:=h;refine ⟨h1,h2,h3,?_⟩;have hb:aQ s.size≤10:=by unfold aQ;omega
 have hp:(2:Nat) ^ aQ s.size≤2 ^ 10:=Nat.pow_le_pow_right (by decide) hb;have hc:((2 ^ aQ s.size:Nat):Int)=(2:Int) ^ aQ s.size:=by simp
 omega
theorem Zx {w:World} {R F:Nat} {s:aR} (hr:Row w R 31 s.cells.toList) (hF:Row w F 252 (kC R iE)) (h:s.right=true):Fl w R F 252 iE s.iN:=by
 obtain ⟨⟨h1,h2⟩,⟨h3,h4⟩,h5,h6⟩:=iD h;obtain ⟨aC,size,bf⟩:=s;simp only at *;refine ⟨hF,fun i hi=>?_,fun i hi=>?_⟩
 ·have zd:i=0∨i=1∨i=2:=by simp at hi;omega
  rcases zd with rfl|rfl|rfl<;>refine (hr.cell _).trans ?_<;>simp [aR.cells,aR.iN]<;>omega
 ·have zd:i=0∨i=1∨i=2:=by simp at hi;omega
  rcases zd with rfl|rfl|rfl<;>simp [aR.iN]<;>omega
theorem Dn (s:aR) (w:World) (h:s.right=true):Calls Tryz.prog 88 #[s.val] w fun e w'=>∃v,e=.returned (.tuple #[v,ae aa 0])∧w'.ownsRow w.heap.size 5 1 v 64 (s.bytes.map (.int .u8))∧Below w.heap.size w w':=by
 have H:=af h;have kA:=af (Row.new w 31 s.cells);have fE:=af ((Below.refl w.heap.size w).alloc (Nat.le_refl _) (.cells s.cells 31));have HA:=af (oG s);clear h;unfold aR.val aR.cells at *;go_enter Tryz.func88,Tryz.ntmps88;go_wp2_with fail;refine (HA.o _).mono ?_;rintro e w1 ⟨rfl,hb⟩;rw [H.o];have bh:=af (fE.o.trans (hb.mono (by simp)));have iR:=af (kA.o.below hb (by simp));clear hb;go_wp2_with fail;refine (tk _ _).mono ?_;rintro e w2 ⟨F,rfl,hF,bo,hb⟩;have aO:=af (bh.o.trans (hb.mono bh.o.size));have dK:=af (iR.o.below hb iR.o.lt);have Ct:=af bo;clear hb bo hF;go_wp2_with fail;refine (Hz _ w.heap.size F 252 iE s.iN 3 rfl (by omega) (Zx dK.o Ct.o H.o) 19539 (by decide) (by have:=s.jQ;unfold aR.head at this;omega)).mono ?_;rintro e w3 ⟨v,rfl,ho,hb⟩;have HO:=af (zO ho aO.o.size);have bM:=af (aO.o.trans (hb.mono aO.o.size));clear ho hb;go_wp2_with fail;go_ret2;exact ⟨v,rfl,HO.o,bM.o⟩
theorem KG (s:aR) (w:World) (h:s.right=false):Calls Tryz.prog 88 #[s.val] w fun e w'=>e=.returned (.tuple #[.slice none 0 0,ae aa 3])∧Below w.heap.size w w':=by
 have H:=af h;have fE:=af ((Below.refl w.heap.size w).alloc (Nat.le_refl _) (.cells s.cells 31));have HA:=af (oG s);clear h;unfold aR.val aR.cells at *;go_enter Tryz.func88,Tryz.ntmps88;go_wp2_with fail;refine (HA.o _).mono ?_;rintro e w1 ⟨rfl,hb⟩;rw [H.o];have bh:=af (fE.o.trans (hb.mono (by simp)));clear hb;go_wp2_with fail;go_ret2;exact ⟨rfl,bh.o⟩
theorem Fk (w:World) (A:Option Addr) (n c:Nat) (hn:n≠64) (mark:Nat) (F:Value):Calls Tryz.prog 167 #[.slice A n c,ae aa mark,F] w fun e w'=>e=.returned (ae aa 14)∧w'=w:=by
 have e1:((n:Int) != 64)=true:=by simp;omega
 have e2:(n != 64)=true:=by simpa using hn
 clear hn;go_enter Tryz.func167,Tryz.ntmps167;go_wp2_with fail;go_ret;exact ⟨rfl,rfl⟩
def Rec.zero:Rec:=⟨0,0,0,0,0,0⟩
def sH (bs:List Int):Rec:=⟨(got fO bs 0:Nat),(got fO bs 1:Nat),(got fO bs 2:Nat),(got fO bs 3:Nat),(got fO bs 4:Nat),(got fO bs 5:Nat)⟩
def dS (bs:List Int):Rec×Int :=
 if bs.length=64 then (if jO 19523 11 bs=0 then (if (sH bs).right then (sH bs,0) else (Rec.zero,3)) else (Rec.zero,jO 19523 11 bs)) else (Rec.zero,14)
theorem LG (bs:List Int):(List.range 6).map (fun i=>Value.int .i64 (got fO bs i:Nat))=(sH bs).cells.toList:=rfl
theorem yF (r:Rec):∀v∈r.cells.toList,v.oneCell'=true:=by
 intro v hv;simp only [Rec.cells,List.mem_cons,List.not_mem_nil,or_false] at hv;rcases hv with rfl|rfl|rfl|rfl|rfl|rfl<;>rfl
theorem get_at (w:World) (A:Option Addr) (n c:Nat) (bs:List Int) (hl:bs.length=n) (hc:n≤c) (hb:bn bs) (hs:Sl w w.heap.size 1 A n (bs.map (.int .u8))) :
  Calls Tryz.prog 119 #[.slice A n c] w fun e w'=>e=.returned (.tuple #[(dS bs).1.val,ae aa (dS bs).2])∧Below w.heap.size w w':=by
 obtain ⟨w0,pg⟩:∃w0,w0=(w.alloc (.cells Rec.zero.cells 35)).alloc (.cells Rec.zero.cells 35):=⟨_,rfl⟩
 have fE:=af (show Below w.heap.size w w0 by rw [pg];exact ((Below.refl w.heap.size w).alloc (Nat.le_refl _) _).alloc (by simp) _);have kA:=af (show Row w0 w.heap.size 35 Rec.zero.cells.toList by rw [pg];exact (Row.new w _ _).alloc _)
 have iR:=af (show Row w0 (w.heap.size+1) 35 Rec.zero.cells.toList by
  rw [pg];have h:=Row.new (w.alloc (.cells Rec.zero.cells 35)) 35 Rec.zero.cells
  rwa [show (w.alloc (.cells Rec.zero.cells 35)).heap.size=w.heap.size+1 by simp] at h)
 have MS:=af (fun r:Rec=>show (Tryz.prog.info? 35).map (·.size)=some r.cells.size from by kernel_rfl);have ML:=af (fun r:Rec=>show 0+r.cells.size≤Rec.zero.cells.toList.length from Nat.le_refl 6);have MO:=af (fun r:Rec=>yF r);have MR:=af (fun r:Rec=>show Rec.zero.cells.toList.take 0++r.cells.toList++Rec.zero.cells.toList.drop (0+r.cells.size)=r.cells.toList by simp [Rec.zero,Rec.cells]);have HL:=af hl;have HY:=af hb;have HS:=af hs;have HW:=af pg;clear hl hb hs pg;unfold Rec.zero Rec.cells at HW;by_cases sF:n=64
 ·subst sF;have HG:=af (show dS bs=(if jO 19523 11 bs=0 then (if (sH bs).right then (sH bs,0) else (Rec.zero,3)) else (Rec.zero,jO 19523 11 bs)) by unfold dS;rw [if_pos HL.o]);have HA:=af (fR (sH bs));obtain ⟨g,hg⟩:=xE (sH bs);obtain ⟨ev,zf⟩:=xE (jO 19523 11 bs);rw [←hg] at HG HA;rw [←zf] at HG;have ym:=af hg;have Ub:=af zf;clear hg zf;go_enter Tryz.func119,Tryz.ntmps119;go_wp2_with fail;rw [←HW.o];refine (B6 _ _).mono ?_;rintro e w1 ⟨F,rfl,hF,bo,hb⟩;have bh:=af (fE.o.trans (hb.mono fE.o.size));have qb:=af (kA.o.below hb kA.o.lt);have WG:=af (iR.o.below hb iR.o.lt);have HF1:=af bo;have HFN:=af (show F≠w.heap.size+1 by have:=iR.o.lt;omega);clear hb bo hF;go_wp2_with fail;refine (Ih _ (w.heap.size+1) F 251 35 fO 6 rfl (by omega) _ rfl WG.o HF1.o HFN.o (by decide) A c bs HL.o HY.o (((HS.o.below bh.o).more (by omega))) hc 11 (by decide) (by omega) 19523 (by decide)).mono ?_;rintro e w2 ⟨rfl,bo,hk⟩;rw [LG,←ym.o] at bo;rw [←Ub.o];have dK:=af bo;have Au:=af (qb.o.kept hk (fun e=>by have:w.heap.size=w.heap.size+1:=e;omega));have aO:=af (show Below w.heap.size w w2 from bh.o.trans (hk.below bh.o.size (fun i hi e=>by have:i=w.heap.size+1:=e;omega)));have q0:=dK.o.c0;have q1:=dK.o.c1;have q2:=dK.o.c2;have q3:=dK.o.c3;have q4:=dK.o.c4;have q5:=dK.o.c5;have pK:w.heap.size+1 < w2.heap.size:=dK.o.lt;clear bo hk;by_cases he:ev=0
  ·subst he;have bM:=af (fun (w':World) (b:Below w2.heap.size w2 w')=>Au.o.below b Au.o.lt);cases hr:g.right with
   | false =>
     rw [hr] at HA;have xm:=af (show dS bs=(Rec.zero,3) by rw [HG.o,hr];rfl);clear hr;unfold Rec.val Rec.cells at HA;go_wp2_with fail;refine (HA.o _).mono ?_;rintro e w3 ⟨rfl,hb⟩;have fD:=af (aO.o.trans (hb.mono aO.o.size));have py:=af (bM.o _ hb);clear hb;go_wp2_with (refine aB rfl 35 (.tmp 2) (.tmp 18) rfl w.heap.size 0 Rec.zero.cells rfl rfl py.o (MS.o Rec.zero) (ML.o Rec.zero) (MO.o Rec.zero) Rec.zero.cells.toList (MR.o Rec.zero) ?_);refine bodyPost_ret (aL rfl _ _ w.heap.size _ _ _ _ _ rfl rfl (py.o.setRow _) Tryz.underlying35 rfl (by kernel_rfl)) rfl ?_;exact ⟨by rw [xm.o];rfl,dX fD.o (Nat.le_refl _) _⟩
   | true =>
     rw [hr] at HA;have xm:=af (show dS bs=(g,0) by rw [HG.o,hr];rfl);have yf:=af (fun (w':World) (b:Below w2.heap.size w2 w')=>dK.o.below b dK.o.lt);clear hr;unfold Rec.val Rec.cells at HA;go_wp2_with fail;refine (HA.o _).mono ?_;rintro e w3 ⟨rfl,hb⟩;have fD:=af (aO.o.trans (hb.mono aO.o.size));have py:=af (bM.o _ hb);have sZ:=af (yf.o _ hb);have t0:=sZ.o.c0;have t1:=sZ.o.c1;have t2:=sZ.o.c2;have t3:=sZ.o.c3;have t4:=sZ.o.c4;have t5:=sZ.o.c5;have yV:w.heap.size+1 < w3.heap.size:=sZ.o.lt;clear hb;go_wp2_with (refine aB rfl 35 (.tmp 2) (.tmp 20) rfl w.heap.size 0 g.cells rfl rfl py.o (MS.o g) (ML.o g) (MO.o g) g.cells.toList (MR.o g) ?_);refine bodyPost_ret (aL rfl _ _ w.heap.size _ _ _ _ _ rfl rfl (py.o.setRow _) Tryz.underlying35 rfl (by kernel_rfl)) rfl ?_;exact ⟨by rw [xm.o];rfl,dX fD.o (Nat.le_refl _) _⟩
  ·have b1:(ev==0)=false:=by simpa using he
   have b2:(ev != 0)=true:=by simpa using he
   have xm:=af (show dS bs=(Rec.zero,ev) by rw [HG.o,if_neg he]);clear he;go_wp2_with (refine aB rfl 35 (.tmp 2) (.tmp 18) rfl w.heap.size 0 Rec.zero.cells rfl rfl Au.o (MS.o Rec.zero) (ML.o Rec.zero) (MO.o Rec.zero) Rec.zero.cells.toList (MR.o Rec.zero) ?_);refine bodyPost_ret (aL rfl _ _ w.heap.size _ _ _ _ _ rfl rfl (Au.o.setRow _) Tryz.underlying35 rfl (by kernel_rfl)) rfl ?_;exact ⟨by rw [xm.o];rfl,dX aO.o (Nat.le_refl _) _⟩
 ·have xm:=af (show dS bs=(Rec.zero,14) by unfold dS;rw [if_neg (by rw [HL.o];exact sF)]);have HN:=af sF;clear sF;go_enter Tryz.func119,Tryz.ntmps119;go_wp2_with fail;rw [←HW.o];refine (B6 _ _).mono ?_;rintro e w1 ⟨F,rfl,hF,bo,hb⟩;have bh:=af (fE.o.trans (hb.mono fE.o.size));have qb:=af (kA.o.below hb kA.o.lt);clear hb bo hF;go_wp2_with fail;refine (Fk _ A n c HN.o 19523 _).mono ?_;rintro e w2 ⟨rfl,rfl⟩;go_wp2_with (refine aB rfl 35 (.tmp 2) (.tmp 18) rfl w.heap.size 0 Rec.zero.cells rfl rfl qb.o (MS.o Rec.zero) (ML.o Rec.zero) (MO.o Rec.zero) Rec.zero.cells.toList (MR.o Rec.zero) ?_);refine bodyPost_ret (aL rfl _ _ w.heap.size _ _ _ _ _ rfl rfl (qb.o.setRow _) Tryz.underlying35 rfl (by kernel_rfl)) rfl ?_;exact ⟨by rw [xm.o];rfl,dX bh.o (Nat.le_refl _) _⟩
def aR.zero:aR:=⟨0,0,0⟩
def sG (bs:List Int):aR:=⟨(got iE bs 0:Nat),(got iE bs 1:Nat),(got iE bs 2:Nat)⟩
def jb (bs:List Int):aR×Int :=
 if bs.length=64 then (if jO 19539 8 bs=0 then (if (sG bs).right then (sG bs,0) else (aR.zero,3)) else (aR.zero,jO 19539 8 bs)) else (aR.zero,14)
theorem LD (bs:List Int):(List.range 3).map (fun i=>Value.int .i64 (got iE bs i:Nat))=(sG bs).cells.toList:=rfl
theorem yC (r:aR):∀v∈r.cells.toList,v.oneCell'=true:=by
 intro v hv;simp only [aR.cells,List.mem_cons,List.not_mem_nil,or_false] at hv;rcases hv with rfl|rfl|rfl<;>rfl
theorem M9 (w:World) (A:Option Addr) (n c:Nat) (bs:List Int) (hl:bs.length=n) (hc:n≤c) (hb:bn bs) (hs:Sl w w.heap.size 1 A n (bs.map (.int .u8))) :
  Calls Tryz.prog 168 #[.slice A n c] w fun e w'=>e=.returned (.tuple #[(jb bs).1.val,ae aa (jb bs).2])∧Below w.heap.size w w':=by
 obtain ⟨w0,pg⟩:∃w0,w0=(w.alloc (.cells aR.zero.cells 31)).alloc (.cells aR.zero.cells 31):=⟨_,rfl⟩
 have fE:=af (show Below w.heap.size w w0 by rw [pg];exact ((Below.refl w.heap.size w).alloc (Nat.le_refl _) _).alloc (by simp) _);have kA:=af (show Row w0 w.heap.size 31 aR.zero.cells.toList by rw [pg];exact (Row.new w _ _).alloc _)
 have iR:=af (show Row w0 (w.heap.size+1) 31 aR.zero.cells.toList by
  rw [pg];have h:=Row.new (w.alloc (.cells aR.zero.cells 31)) 31 aR.zero.cells
  rwa [show (w.alloc (.cells aR.zero.cells 31)).heap.size=w.heap.size+1 by simp] at h)
 have MS:=af (fun r:aR=>show (Tryz.prog.info? 31).map (·.size)=some r.cells.size from by kernel_rfl);have ML:=af (fun r:aR=>show 0+r.cells.size≤aR.zero.cells.toList.length from Nat.le_refl 3);have MO:=af (fun r:aR=>yC r);have MR:=af (fun r:aR=>show aR.zero.cells.toList.take 0++r.cells.toList++aR.zero.cells.toList.drop (0+r.cells.size)=r.cells.toList by simp [aR.zero,aR.cells]);have HL:=af hl;have HY:=af hb;have HS:=af hs;have HW:=af pg;clear hl hb hs pg;unfold aR.zero aR.cells at HW;by_cases sF:n=64
 ·subst sF;have HG:=af (show jb bs=(if jO 19539 8 bs=0 then (if (sG bs).right then (sG bs,0) else (aR.zero,3)) else (aR.zero,jO 19539 8 bs)) by unfold jb;rw [if_pos HL.o]);have HA:=af (oG (sG bs));obtain ⟨g,hg⟩:=xE (sG bs);obtain ⟨ev,zf⟩:=xE (jO 19539 8 bs);rw [←hg] at HG HA;rw [←zf] at HG;have ym:=af hg;have Ub:=af zf;clear hg zf;go_enter Tryz.func168,Tryz.ntmps168;go_wp2_with fail;rw [←HW.o];refine (tk _ _).mono ?_;rintro e w1 ⟨F,rfl,hF,bo,hb⟩;have bh:=af (fE.o.trans (hb.mono fE.o.size));have qb:=af (kA.o.below hb kA.o.lt);have WG:=af (iR.o.below hb iR.o.lt);have HF1:=af bo;have HFN:=af (show F≠w.heap.size+1 by have:=iR.o.lt;omega);clear hb bo hF;go_wp2_with fail;refine (Ih _ (w.heap.size+1) F 252 31 iE 3 rfl (by omega) _ rfl WG.o HF1.o HFN.o (by decide) A c bs HL.o HY.o (((HS.o.below bh.o).more (by omega))) hc 8 (by decide) (by omega) 19539 (by decide)).mono ?_;rintro e w2 ⟨rfl,bo,hk⟩;rw [LD,←ym.o] at bo;rw [←Ub.o];have dK:=af bo;have Au:=af (qb.o.kept hk (fun e=>by have:w.heap.size=w.heap.size+1:=e;omega));have aO:=af (show Below w.heap.size w w2 from bh.o.trans (hk.below bh.o.size (fun i hi e=>by have:i=w.heap.size+1:=e;omega)));have q0:=dK.o.c0;have q1:=dK.o.c1;have q2:=dK.o.c2;have pK:w.heap.size+1 < w2.heap.size:=dK.o.lt;clear bo hk;by_cases he:ev=0
  ·subst he;have bM:=af (fun (w':World) (b:Below w2.heap.size w2 w')=>Au.o.below b Au.o.lt);cases hr:g.right with
   | false =>
     rw [hr] at HA;have xm:=af (show jb bs=(aR.zero,3) by rw [HG.o,hr];rfl);clear hr;unfold aR.val aR.cells at HA;go_wp2_with fail;refine (HA.o _).mono ?_;rintro e w3 ⟨rfl,hb⟩;have fD:=af (aO.o.trans (hb.mono aO.o.size));have py:=af (bM.o _ hb);clear hb;go_wp2_with (refine aB rfl 31 (.tmp 2) (.tmp 18) rfl w.heap.size 0 aR.zero.cells rfl rfl py.o (MS.o aR.zero) (ML.o aR.zero) (MO.o aR.zero) aR.zero.cells.toList (MR.o aR.zero) ?_);refine bodyPost_ret (aL rfl _ _ w.heap.size _ _ _ _ _ rfl rfl (py.o.setRow _) Tryz.underlying31 rfl (by kernel_rfl)) rfl ?_;exact ⟨by rw [xm.o];rfl,dX fD.o (Nat.le_refl _) _⟩
   | true =>
     rw [hr] at HA;have xm:=af (show jb bs=(g,0) by rw [HG.o,hr];rfl);have yf:=af (fun (w':World) (b:Below w2.heap.size w2 w')=>dK.o.below b dK.o.lt);clear hr;unfold aR.val aR.cells at HA;go_wp2_with fail;refine (HA.o _).mono ?_;rintro e w3 ⟨rfl,hb⟩;have fD:=af (aO.o.trans (hb.mono aO.o.size));have py:=af (bM.o _ hb);have sZ:=af (yf.o _ hb);have t0:=sZ.o.c0;have t1:=sZ.o.c1;have t2:=sZ.o.c2;have yV:w.heap.size+1 < w3.heap.size:=sZ.o.lt;clear hb;go_wp2_with (refine aB rfl 31 (.tmp 2) (.tmp 20) rfl w.heap.size 0 g.cells rfl rfl py.o (MS.o g) (ML.o g) (MO.o g) g.cells.toList (MR.o g) ?_);refine bodyPost_ret (aL rfl _ _ w.heap.size _ _ _ _ _ rfl rfl (py.o.setRow _) Tryz.underlying31 rfl (by kernel_rfl)) rfl ?_;exact ⟨by rw [xm.o];rfl,dX fD.o (Nat.le_refl _) _⟩
  ·have b1:(ev==0)=false:=by simpa using he
   have b2:(ev != 0)=true:=by simpa using he
   have xm:=af (show jb bs=(aR.zero,ev) by rw [HG.o,if_neg he]);clear he;go_wp2_with (refine aB rfl 31 (.tmp 2) (.tmp 18) rfl w.heap.size 0 aR.zero.cells rfl rfl Au.o (MS.o aR.zero) (ML.o aR.zero) (MO.o aR.zero) aR.zero.cells.toList (MR.o aR.zero) ?_);refine bodyPost_ret (aL rfl _ _ w.heap.size _ _ _ _ _ rfl rfl (Au.o.setRow _) Tryz.underlying31 rfl (by kernel_rfl)) rfl ?_;exact ⟨by rw [xm.o];rfl,dX aO.o (Nat.le_refl _) _⟩
 ·have xm:=af (show jb bs=(aR.zero,14) by unfold jb;rw [if_neg (by rw [HL.o];exact sF)]);have HN:=af sF;clear sF;go_enter Tryz.func168,Tryz.ntmps168;go_wp2_with fail;rw [←HW.o];refine (tk _ _).mono ?_;rintro e w1 ⟨F,rfl,hF,bo,hb⟩;have bh:=af (fE.o.trans (hb.mono fE.o.size));have qb:=af (kA.o.below hb kA.o.lt);clear hb bo hF;go_wp2_with fail;refine (Fk _ A n c HN.o 19539 _).mono ?_;rintro e w2 ⟨rfl,rfl⟩;go_wp2_with (refine aB rfl 31 (.tmp 2) (.tmp 18) rfl w.heap.size 0 aR.zero.cells rfl rfl qb.o (MS.o aR.zero) (ML.o aR.zero) (MO.o aR.zero) aR.zero.cells.toList (MR.o aR.zero) ?_);refine bodyPost_ret (aL rfl _ _ w.heap.size _ _ _ _ _ rfl rfl (qb.o.setRow _) Tryz.underlying31 rfl (by kernel_rfl)) rfl ?_;exact ⟨by rw [xm.o];rfl,dX bh.o (Nat.le_refl _) _⟩
end record
namespace oH
open Go.RowKit base obj mem bC num bytes
theorem zy (w:World) (k:Nat) (h1:1≤k) (h2:k≤6):Calls Tryz.prog 194 #[ae aa k] w fun e w'=>e=.returned (ae aa k)∧w'=w:=by
 have a:¬(k:Int) < 1:=by omega
 have b:¬(k:Int) > 6:=by omega
 go_enter Tryz.func194,Tryz.ntmps194;go_wp2_with fail;go_ret;exact ⟨rfl,rfl⟩
def uD (k m j:Nat):List Int:=List.replicate (k-j) 0++(be k m).drop (k-j)
theorem RG (k m:Nat):uD k m 0=List.replicate k 0:=by
 unfold uD;rw [Nat.sub_zero,List.drop_of_length_le (by rw [bp];exact Nat.le_refl _),List.append_nil]
theorem KH (k m:Nat):uD k m k=be k m:=by simp [uD]
theorem M1 (k m j:Nat) (h:j≤k):(uD k m j).length=k:=by simp [uD,bp]
theorem U9 (k m j:Nat) (h:j < k):(uD k m j).set (k-1-j) (((m / 256 ^ j % 256:Nat)):Int)=uD k m (j+1):=by
 unfold uD;have e1:k-j=(k-(j+1))+1:=by omega
 have e2:(List.replicate (k-j) (0:Int)).set (k-1-j) (((m / 256 ^ j % 256:Nat)):Int)=List.replicate (k-(j+1)) 0++[(((m / 256 ^ j % 256:Nat)):Int)]:=by
  rw [e1,List.replicate_succ',show k-1-j=k-(j+1) by omega,List.set_append_right _ _ (by simp)];simp
 rw [List.set_append_left _ _ (by simp;omega),e2,List.append_assoc]
 congr 1
 have hl:k-(j+1) < (be k m).length:=by rw [bp];omega
 rw [List.drop_eq_getElem_cons hl,←e1];simp only [be,List.getElem_map,List.getElem_range,digit,List.singleton_append];rw [show k-1-(k-(j+1))=j by omega]
theorem Za (k:Nat):be k (256 ^ k-1)=List.replicate k 255:=by
 apply List.ext_getElem
 ·simp [be]
 ·intro i h1 h2;have hi:i < k:=by simpa [be] using h1
  simp only [be,List.getElem_map,List.getElem_range,List.getElem_replicate,digit];have h3:0 < 256 ^ (k-1-i):=Nat.pow_pos (by decide);have h4:256 ^ k=256 ^ (k-1-i)*256 ^ (i+1):=by rw [←Nat.pow_add,show k-1-i+(i+1)=k by omega]
  have h5:(256 ^ k-1) / 256 ^ (k-1-i)=256 ^ (i+1)-1:=by
   rw [h4,Nat.mul_comm];generalize 256 ^ (k-1-i)=a at *;generalize hb:256 ^ (i+1)=b at *;have lH:0 < b:=by rw [←hb];exact Nat.pow_pos (by decide)
   obtain ⟨b',rfl⟩:∃b',b=b'+1:=⟨b-1,by omega⟩
   rw [Nat.add_mul,Nat.one_mul,Nat.add_sub_assoc h3,Nat.mul_comm,Nat.mul_add_div h3,Nat.div_eq_of_lt (by omega)];simp
  rw [h5,Nat.pow_succ];have h6:0 < 256 ^ i:=Nat.pow_pos (by decide);omega
theorem R6 (l:List Int) (i:Nat) (z:Int):(l.map (Value.int .u8)).set i (.int .u8 z)=(l.set i z).map (.int .u8):=by rw [List.map_set]
theorem jw (w:World) (n:Int) (hn:n≤9223372036854775807) (k:Nat) (jm:1≤k) (dy:k≤6) :
  Calls Tryz.prog 191 #[ae aa n,ae aa k] w fun e w'=>∃g,e=.returned (.slice (some ⟨g,0,none⟩) k k)∧w.heap.size≤g∧Row w' g 5 ((be k (dE k n)).map (.int .u8))∧Below w.heap.size w w':=by
 have qB:=vJ k (by omega)
 have kA:=af (show Row (w.alloc (.cells (List.replicate k (Value.int .u8 0)).toArray 5)) w.heap.size 5 ((List.replicate k (0:Int)).map (.int .u8)) by
  have h:=Row.new w 5 (List.replicate k (Value.int .u8 0)).toArray
  rwa [show (List.replicate k (Value.int .u8 0)).toArray.toList=(List.replicate k (0:Int)).map (.int .u8) by simp] at h)
 have fE:=af ((Below.refl w.heap.size w).alloc (Nat.le_refl _) (.cells (List.replicate k (Value.int .u8 0)).toArray 5));by_cases h0:n < 0
 ·have HE:=af (show be k (dE k n)=List.replicate k 0 by
   unfold dE;rw [if_pos h0]
   apply List.ext_getElem<;>simp [be,digit])
  go_enter Tryz.func191,Tryz.ntmps191;go_wp2_with fail;refine (zy _ k jm dy).mono ?_;rintro e w' ⟨rfl,rfl⟩;go_wp2_with fail;go_ret;exact ⟨w'.heap.size,rfl,Nat.le_refl _,by rw [HE.o];simpa using kA.o,by simpa using fE.o⟩
 ·obtain ⟨m,rfl⟩:=Int.eq_ofNat_of_zero_le (show 0≤n by omega);have HM:=af hn;clear hn h0;have h0:¬(m:Int) < 0:=by omega
  go_enter Tryz.func191,Tryz.ntmps191;go_wp2_with fail;refine (zy _ k jm dy).mono ?_;rintro e w' ⟨rfl,rfl⟩;go_wp2_with fail;go_loopw [6,0] (fun i s wr=>∃j:Nat,j≤k∧i=ae aa ((k:Int)-1-j)∧s=ae aa (m / 256 ^ j:Nat)∧Row wr w'.heap.size 5 ((uD k m j).map (.int .u8))∧Below w'.heap.size w' wr) (fun i _ _=>(intOf i+1).toNat)
  case atStart=>exact ⟨0,by omega,by simp,by simp,by rw [RG];simpa using kA.o,by simpa using fE.o⟩
  case round =>
   obtain ⟨j,hj,rfl,rfl,hr,hb⟩:=hrel;have HR:=af hr;have HB:=af hb;clear hr hb;have hq:m / 256 ^ j≤9223372036854775807:=Nat.le_trans (Nat.div_le_self _ _) (by have:=HM.o;omega);have HD:=af (show m / 256 ^ (j+1)=m / 256 ^ j / 256 by rw [Nat.pow_succ,Nat.div_div_eq_div_mul]);by_cases aH:j < k
   ·have HS:=af (U9 k m j aH);generalize hqq:m / 256 ^ j=q at *;have HQ:=af hqq;clear hqq;have hg:(k:Int)-1-j=((k-1-j:Nat):Int):=by omega
    rw [hg];obtain ⟨v0,xF⟩:∃v,((uD k m j).map (Value.int .u8))[k-1-j]?=some v:=⟨_,cN (by simp [M1 k m j hj];omega)⟩
    have hc:=(HR.o.cell (k-1-j)).trans xF;clear xF;have hf:=HR.o.frozen (k-1-j);have hl:=HR.o.lt;have ht:((k-1-j:Nat):Int) < (k:Int):=by omega
    have ht0:(0:Int)≤((k-1-j:Nat):Int):=by omega
    have HG:=af hg;generalize k-1-j=t at *;clear hg;go_wp2_with fail;go_roundw;case rel=>refine ⟨j+1,by omega,by rw [show (t:Int)-1=(k:Int)-1-(j+1:Nat) by have:=HG.o;omega],by rw [HD.o];go_num,by rw [←HS.o,←R6];exact HR.o.setCell t _,HB.o.setCell (p:=⟨w'.heap.size,t,none⟩) (Nat.le_refl _) _⟩
    case measure=>simp [intOf]<;>omega
   ·have xP:j=k:=by omega
    have df:¬(k:Int)-1-j≥0:=by omega
    have HJ:=af xP;by_cases PV:256 ^ k≤m
    ·have AF:0 < m / 256 ^ j:=by rw [xP];exact Nat.div_pos PV (Nat.pow_pos (by decide))
     have HE:=af (show be k (dE k (m:Int))=List.replicate k 255 by
      unfold dE
      rw [if_neg (by omega),if_pos (by simpa using PV),Za])
     have adT:(0:Int) < ((m / 256 ^ j:Nat):Int):=by omega
     have rV:=af (show Row wr w'.heap.size 5 ((List.replicate 0 (255:Int)++(be k m)).map (.int .u8)) by
      have h:=HR.o;rw [HJ.o,KH] at h
      exact h)
     generalize m / 256 ^ j=q at *;clear xP PV AF;go_wp2_with fail;go_loopw [7] (fun i wx=>∃t:Nat,t≤k∧i=ae aa t∧Row wx w'.heap.size 5 ((List.replicate t (255:Int)++(be k m).drop t).map (.int .u8))∧Below w'.heap.size w' wx) (fun i _=>k-(intOf i).toNat)
     case atStart=>exact ⟨0,by omega,rfl,rV.o,HB.o⟩
     case round =>
      obtain ⟨t,ht,rfl,hr,hb⟩:=hrel;have dK:=af hr;have aO:=af hb;clear hr hb;by_cases qJ:t < k
      ·obtain ⟨v0,xF⟩:∃v,((List.replicate t (255:Int)++(be k m).drop t).map (Value.int .u8))[t]?=some v:=⟨_,cN (by simp [bp];omega)⟩
       have hc:=(dK.o.cell t).trans xF;clear xF;have hf:=dK.o.frozen t;have hl:=dK.o.lt;have ht1:(t:Int) < (k:Int):=by omega
       have ht0:(0:Int)≤(t:Int):=by omega
       have HS:=af (show (List.replicate t (255:Int)++(be k m).drop t).set t 255=List.replicate (t+1) 255++(be k m).drop (t+1) by
        rw [List.set_append_right _ _ (by simp),List.drop_eq_getElem_cons (l:=be k m) (i:=t) (by rw [bp];exact qJ),List.replicate_succ',List.append_assoc]
        simp only [Bf,Nat.sub_self,List.set_cons_zero,List.singleton_append])
       go_wp2_with fail;go_roundw;case rel=>exact ⟨t+1,by omega,by go_num,by rw [←HS.o,←R6];exact dK.o.setCell t _,aO.o.setCell (p:=⟨w'.heap.size,t,none⟩) (Nat.le_refl _) _⟩
       case measure=>simp [intOf]<;>omega
      ·have aaj:t=k:=by omega
       have adR:¬(t:Int) < (k:Int):=by omega
       have HT:=af aaj;clear aaj;go_wp2_with fail;go_ret;refine ⟨w'.heap.size,rfl,Nat.le_refl _,?_,aO.o⟩;have h:=dK.o;rw [HT.o,List.drop_of_length_le (by rw [bp];exact Nat.le_refl _),List.append_nil] at h;rw [HE.o];exact h
    ·have NT:m / 256 ^ j=0:=by rw [xP];exact Nat.div_eq_of_lt (by omega)
     have HE:=af (show be k (dE k (m:Int))=uD k m j by rw [EE k m (by omega),xP,KH]);rw [NT];clear xP PV NT;go_wp2_with fail;go_ret;exact ⟨w'.heap.size,rfl,Nat.le_refl _,by rw [HE.o];exact HR.o,HB.o⟩
end oH
end Go.Proofs.YtdldkkoplgkloaaGreat
