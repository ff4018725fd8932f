/-
  PROVED HERE: lemmas and contracts that the law's proof leans on (texts put together: RefTab).
  CONDITIONS: each names its own.
-/
import Derived.Test.YtdldkkoplgkloaaGreatPz2
namespace Go.Proofs.YtdldkkoplgkloaaGreat
set_option linter.unusedVariables false
set_option linter.unusedSimpArgs false
set_option maxRecDepth 100000
set_option maxHeartbeats 32000000
namespace tab

open Go.RowKit base obj mem sep plan
def bools (U:List Bool):Array Value:=(U.map Value.bool).toArray
theorem infoBool:(Tryz.prog.info? 4).map (fun i=>(i.zero,i.size,i.bytes))=some (some (.bool false),1,1):=by kernel_rfl
theorem make_bools (k:Nat) (hk:k≤1000000) (w:World):(Instr.makeSlice 148 (.int .i64 (k:Int)) (.int .i64 (k:Int))).run Tryz.prog w=.ok (.slice (some ⟨w.heap.size,0,none⟩) k k) (w.alloc (.cells (bools (List.replicate k false)) 4)):=by
 obtain ⟨i0,hi,hz0,hz1,hz2⟩:=info_parts infoBool
 have h:=run_make_rowN (P:=Tryz.prog) 148 4 i0 _ Tryz.underlying148 hi hz0 .i64 .i64 k k (Nat.le_refl _) (by rw [hz2];omega) (by omega) w
 rw [h,hz1]
 have e:madeCells (Value.bool false).cells (k*1)=bools (List.replicate k false):=by
  unfold bools
  apply Array.ext'
  rw [madeCells_all (v:=.bool false) (by decide) (by simp [Value.cells])]
  simp
 rw [e]
def smallT (t:Tab):Bool:=okr t.frame 1 64&&(okr t.trial 1 7&&(okr t.parts.length 2 4&&(decide (t.wins.length≤8)&&decide (t.chans.length≤4))))
theorem right_small {t:Tab} (h:smallT t=false):t.right=false:=by
 cases hr:t.right with
 | false=>rfl
 | true =>
   simp [Tab.right,Tab.winsR] at hr
   simp [smallT,hr] at h
theorem right_part {t:Tab} {k:Nat} (hk:k < t.parts.length) (h:t.parts[k].part=false):t.right=false:=by
 have h1:(t.parts.any fun x=>!x.part)=true:=List.any_eq_true.2 ⟨_,List.getElem_mem hk,by rw [h];rfl⟩
 unfold Tab.right
 rw [h1]
 simp
theorem right_win {t:Tab} (h:t.winsR=false):t.right=false:=by
 unfold Tab.right
 rw [h]
 simp
theorem right_chan {t:Tab} {k:Nat} (hk:k < t.chans.length) (h:chanOk t.parts.length t.chans[k]=false):t.right=false:=by
 have h1:(t.chans.any fun x=>!chanOk t.parts.length x)=true:=List.any_eq_true.2 ⟨_,List.getElem_mem hk,by rw [h];rfl⟩
 unfold Tab.right
 rw [h1]
 simp
theorem right_all {t:Tab} {e:Int} {care:Bool} (hs:smallT t=true) (hp:(t.parts.any fun x=>!x.part)=false) (hw:WI t t.wins.length e care) (hc:(t.chans.any fun x=>!chanOk t.parts.length x)=false):t.right=care:=by
 simp [smallT] at hs
 unfold Tab.right
 rw [hw.end_,hp,hc]
 simp [hs]
structure UI (U:List Bool) (f:Nat) (last e:Int):Prop where
 len:U.length=f
 free:∀j (h:j < U.length),e≤j→U[j]=false
 used:∀j (h:j < U.length),last≤j→(j:Int) < e→U[j]=true
 le:last < e∨(last=-1∧e=0)
theorem UI.start (f:Nat):UI (List.replicate f false) f (-1) 0:=⟨by simp,fun j h _=>by simp,fun j h h1 h2=>by omega,.inr ⟨rfl,rfl⟩⟩
structure UJ (U:List Bool) (f:Nat) (b j:Nat):Prop where
 len:U.length=f
 free:∀i (h:i < U.length),j≤i→U[i]=false
 used:∀i (h:i < U.length),b≤i→i < j→U[i]=true
theorem UJ.start {U:List Bool} {f:Nat} {last e:Int} (h:UI U f last e) {b:Nat} (hb:e≤b):UJ U f b b:=⟨h.len,fun i hi hbi=>h.free i hi (by omega),fun i hi h1 h2=>by omega⟩
theorem UJ.step {U:List Bool} {f b j:Nat} (h:UJ U f b j) (hj:j < f):UJ (U.set j true) f b (j+1):=⟨by rw [List.length_set];exact h.len,fun i hi hji=>by
 rw [List.getElem_set_ne (by omega)]
 exact h.free i (by rw [List.length_set] at hi;exact hi) (by omega),fun i hi h1 h2=>by
 by_cases e:j=i
 ·subst e;simp
 ·rw [List.getElem_set_ne e]
  exact h.used i (by rw [List.length_set] at hi;exact hi) h1 (by omega)⟩
theorem UJ.end_ {U:List Bool} {f b j:Nat} (h:UJ U f b j) (hbj:b < j):UI U f b j:=⟨h.len,fun i hi h1=>h.free i hi (by omega),fun i hi h1 h2=>h.used i hi (by omega) (by omega),.inl (by omega)⟩
section
variable {w : World} {t : Tab} {AP AW AC : Option Addr} {nP cP nW cW nC cC : Nat}
theorem rright_at (h:TabV w w.heap.size t AP nP cP AW nW cW AC nC cC):Calls Tryz.prog 34 #[tabAgg t.frame AP nP cP AW nW cW AC nC cC t.trial] w fun e w'=>e=.returned (.bool t.right)∧Below w.heap.size w w':=by
 have HV:=Lib.hid h
 have mp:=h.mp;have mw:=h.mw;have mc:=h.mc
 obtain ⟨T,hT⟩:∃T,T=w.heap.size:=⟨_,rfl⟩
 obtain ⟨w1,hw1⟩:∃w1,w1=w.alloc (.cells #[.int .i64 t.frame,.slice AP nP cP,.slice AW nW cW,.slice AC nC cC,.int .i64 t.trial] 46):=⟨_,rfl⟩
 have H1:=Lib.hid (show St w w1 [row T 46 (tabRow t.frame AP nP cP AW nW cW AC nC cC t.trial)] by rw [hw1,hT];exact (St.nil w).new _ _)
 have HSM:=Lib.hid (show smallT t=(okr t.frame 1 64&&(okr t.trial 1 7&&(okr nP 2 4&&(decide (nW≤8)&&decide (nC≤4))))) by unfold smallT;rw [h.lp,h.lw,h.lc])
 obtain ⟨fr,hfr⟩:∃fr,fr=t.frame:=⟨_,rfl⟩
 obtain ⟨tr,htr⟩:∃tr,tr=t.trial:=⟨_,rfl⟩
 rw [←hfr,←htr] at H1 HSM hw1 ⊢
 have HF:=Lib.hid hfr
 have HW1:=Lib.hid hw1;have HT:=Lib.hid hT
 clear h hw1 hT hfr htr
 go_enter Tryz.func34,Tryz.ntmps34
 go_upto_region 1 with fail
 rw [←HW1.out,←HT.out]
 have t0:w1.cell? ⟨T,0,none⟩=some (.int .i64 fr):=H1.out.row.1.cell 0
 have t1:w1.cell? ⟨T,1,none⟩=some (.slice AP nP cP):=H1.out.row.1.cell 1
 have t2:w1.cell? ⟨T,2,none⟩=some (.slice AW nW cW):=H1.out.row.1.cell 2
 have t3:w1.cell? ⟨T,3,none⟩=some (.slice AC nC cC):=H1.out.row.1.cell 3
 have t4:w1.cell? ⟨T,4,none⟩=some (.int .i64 tr):=H1.out.row.1.cell 4
 have lT:T < w1.heap.size:=H1.out.row.1.lt
 by_cases q0:fr < 1
 ·have HQ:=Lib.hid (show t.right=false from right_small (by rw [HSM.out];unfold okr;simp;omega))
  go_wp2_with (fail)
  go_ret
  exact ⟨ret_bool HQ.out.symm,H1.out.bel⟩
 ·by_cases q1:fr > 64
  ·have HQ:=Lib.hid (show t.right=false from right_small (by rw [HSM.out];unfold okr;simp;omega))
   go_wp2_with (fail)
   go_ret
   exact ⟨ret_bool HQ.out.symm,H1.out.bel⟩
  ·by_cases q2:(nP:Int) < 2
   ·have HQ:=Lib.hid (show t.right=false from right_small (by rw [HSM.out];unfold okr;simp;omega))
    go_wp2_with (fail)
    go_ret
    exact ⟨ret_bool HQ.out.symm,H1.out.bel⟩
   ·by_cases q3:(nP:Int) > 4
    ·have HQ:=Lib.hid (show t.right=false from right_small (by rw [HSM.out];unfold okr;simp;omega))
     go_wp2_with (fail)
     go_ret
     exact ⟨ret_bool HQ.out.symm,H1.out.bel⟩
    ·by_cases q4:tr < 1
     ·have HQ:=Lib.hid (show t.right=false from right_small (by rw [HSM.out];unfold okr;simp;omega))
      go_wp2_with (fail)
      go_ret
      exact ⟨ret_bool HQ.out.symm,H1.out.bel⟩
     ·by_cases q5:tr > 7
      ·have HQ:=Lib.hid (show t.right=false from right_small (by rw [HSM.out];unfold okr;simp;omega))
       go_wp2_with (fail)
       go_ret
       exact ⟨ret_bool HQ.out.symm,H1.out.bel⟩
      ·by_cases q6:(nW:Int) > 8
       ·have HQ:=Lib.hid (show t.right=false from right_small (by rw [HSM.out];unfold okr;simp;omega))
        go_wp2_with (fail)
        go_ret
        exact ⟨ret_bool HQ.out.symm,H1.out.bel⟩
       ·by_cases q7:(nC:Int) > 4
        ·have HQ:=Lib.hid (show t.right=false from right_small (by rw [HSM.out];unfold okr;simp;omega))
         go_wp2_with (fail)
         go_ret
         exact ⟨ret_bool HQ.out.symm,H1.out.bel⟩
        ·have HSQ:=Lib.hid (show smallT t=true by rw [HSM.out];unfold okr;simp;omega)
         clear HSM
         obtain ⟨f,hf⟩:∃f:Nat,(f:Int)=fr:=⟨fr.toNat,by omega⟩
         have hf1:1≤f:=by omega
         have hf64:f≤64:=by omega
         have hnp:nP≤4:=by omega
         have hnw:nW≤8:=by omega
         have hnc:nC≤4:=by omega
         have HFF:=Lib.hid hf
         clear hf
         go_upto_region 4 with fail
         clear t0 t1 t2 t3 t4 lT
         go_wp2_with (fail)
         go_loopw [4] (fun i wr=>∃k:Nat,k≤nP∧i=.int .i64 k∧((t.parts.take k).any fun x=>!x.part)=false∧St w wr [row T 46 (tabRow fr AP nP cP AW nW cW AC nC cC tr)]) (fun i _=>nP-(intOf i).toNat)
         case atStart=>exact ⟨0,by omega,rfl,by simp,H1.out⟩
         case round =>
          obtain ⟨k,hk,rfl,hno,hst⟩:=hrel
          have HST:=Lib.hid hst;have HNO:=Lib.hid hno
          clear hst hno H1
          have t0:wr.cell? ⟨T,0,none⟩=some (.int .i64 fr):=HST.out.row.1.cell 0
          have t1:wr.cell? ⟨T,1,none⟩=some (.slice AP nP cP):=HST.out.row.1.cell 1
          have lT:T < wr.heap.size:=HST.out.row.1.lt
          by_cases hlt:k < nP
          ·have hlt':(k:Int) < (nP:Int):=by omega
           have hk0:(0:Int)≤(k:Int):=by omega
           have hkl:k < t.parts.length:=by rw [←HV.out.lp];exact hlt
           obtain ⟨b,off,rfl,lb,c0,c1,c2⟩:=t3s_get (HV.out.over HST.out.bel).ps HV.out.lp hkl
           have HBAD:=Lib.hid (fun h=>right_part hkl h)
           have HGO:=Lib.hid (fun (h:t.parts[k].part=true)=>find_next (p:=fun x=>!x.part) HNO.out hkl (by simp [h]))
           have HPT:=Lib.hid (show t.parts[k].part=(okr t.parts[k].a 1 16&&(okr t.parts[k].b 1 32&&okr t.parts[k].c 0 65535)) from rfl)
           generalize t.parts[k]=x at c0 c1 c2 HBAD HGO HPT
           obtain ⟨xa,xb,xc⟩:=x
           dsimp only at c0 c1 c2 HPT
           go_upto_region 8 with fail
           obtain ⟨Z,hZ⟩:∃Z,Z=wr.heap.size:=⟨_,rfl⟩
           obtain ⟨w2,hw2⟩:∃w2,w2=wr.alloc (.cells #[.int .i64 xa,.int .i64 xb,.int .i64 xc] 147):=⟨_,rfl⟩
           have H2:=Lib.hid (show St w w2 [row Z 147 [.int .i64 xa,.int .i64 xb,.int .i64 xc],row T 46 (tabRow fr (some ⟨b,off,none⟩) nP cP AW nW cW AC nC cC tr)] by rw [hw2,hZ];exact HST.out.new _ _)
           have HW2:=Lib.hid hw2;have HZ:=Lib.hid hZ
           clear hw2 hZ c0 c1 c2 lb t0 t1 lT
           rw [←HW2.out,←HZ.out]
           have z0:w2.cell? ⟨Z,0,none⟩=some (.int .i64 xa):=H2.out.row.1.cell 0
           have z1:w2.cell? ⟨Z,1,none⟩=some (.int .i64 xb):=H2.out.row.1.cell 1
           have z2:w2.cell? ⟨Z,2,none⟩=some (.int .i64 xc):=H2.out.row.1.cell 2
           have lz:Z < w2.heap.size:=H2.out.row.1.lt
           by_cases q0:xa < 1
           ·have HQ:=Lib.hid (HBAD.out (by rw [HPT.out];unfold okr;simp;omega))
            clear HPT HBAD HGO
            go_wp2_with (fail)
            go_ret
            exact ⟨ret_bool HQ.out.symm,H2.out.bel⟩
           ·by_cases q1:xa > 16
            ·have HQ:=Lib.hid (HBAD.out (by rw [HPT.out];unfold okr;simp;omega))
             clear HPT HBAD HGO
             go_wp2_with (fail)
             go_ret
             exact ⟨ret_bool HQ.out.symm,H2.out.bel⟩
            ·by_cases q2:xb < 1
             ·have HQ:=Lib.hid (HBAD.out (by rw [HPT.out];unfold okr;simp;omega))
              clear HPT HBAD HGO
              go_wp2_with (fail)
              go_ret
              exact ⟨ret_bool HQ.out.symm,H2.out.bel⟩
             ·by_cases q3:xb > 32
              ·have HQ:=Lib.hid (HBAD.out (by rw [HPT.out];unfold okr;simp;omega))
               clear HPT HBAD HGO
               go_wp2_with (fail)
               go_ret
               exact ⟨ret_bool HQ.out.symm,H2.out.bel⟩
              ·by_cases q4:xc < 0
               ·have HQ:=Lib.hid (HBAD.out (by rw [HPT.out];unfold okr;simp;omega))
                clear HPT HBAD HGO
                go_wp2_with (fail)
                go_ret
                exact ⟨ret_bool HQ.out.symm,H2.out.bel⟩
               ·by_cases q5:xc > 65535
                ·have HQ:=Lib.hid (HBAD.out (by rw [HPT.out];unfold okr;simp;omega))
                 clear HPT HBAD HGO
                 go_wp2_with (fail)
                 go_ret
                 exact ⟨ret_bool HQ.out.symm,H2.out.bel⟩
                ·have HQ:=Lib.hid (HGO.out (by rw [HPT.out];unfold okr;simp;omega))
                 clear HPT HBAD HGO
                 have H3:=Lib.hid H2.out.drop
                 go_wp2_with (fail)
                 go_roundw
                 case rel=>exact ⟨k+1,by omega,by go_num,HQ.out,H3.out⟩
                 case measure=>simp [intOf]<;>omega
          ·have hkn:k=nP:=by omega
           have hlt':¬(k:Int) < (nP:Int):=by omega
           have HNP:=Lib.hid (show (t.parts.any fun x=>!x.part)=false by
            have h:=HNO.out
            rw [List.take_of_length_le (by rw [←HV.out.lp];omega)] at h
            exact h)
           clear hkn HNO
           go_upto_region 10 with fail
           clear t0 t1 lT hlt hlt'
           have t0:wr.cell? ⟨T,0,none⟩=some (.int .i64 (f:Int)):=by rw [HFF.out];exact HST.out.row.1.cell 0
           have lT:T < wr.heap.size:=HST.out.row.1.lt
           have hmk:=make_bools f (by omega) wr
           go_upto_region 11 with fail
           obtain ⟨G,hG⟩:∃G,G=wr.heap.size:=⟨_,rfl⟩
           obtain ⟨w5,hw5⟩:∃w5,w5=wr.alloc (.cells (bools (List.replicate f false)) 4):=⟨_,rfl⟩
           have H5:=Lib.hid (show St w w5 [row G 4 ((List.replicate f false).map Value.bool),row T 46 (tabRow fr AP nP cP AW nW cW AC nC cC tr)] by
            rw [hw5,hG]
            have h:=HST.out.new 4 (bools (List.replicate f false))
            exact h)
           have HW5:=Lib.hid hw5;have HG:=Lib.hid hG
           clear hw5 hG hmk t0 lT
           rw [←HW5.out,←HG.out]
           clear HST
           go_wp2_with (fail)
           go_loopw [7,8,9] (fun s7 s8 i wr=>∃(k:Nat) (e:Int) (care:Bool) (last:Int) (U:List Bool),k≤nW∧i=.int .i64 k∧s7=.int .i64 last∧s8=.bool care∧WI t k e care∧UI U f last e∧St w wr [row G 4 (U.map Value.bool),row T 46 (tabRow fr AP nP cP AW nW cW AC nC cC tr)]) (fun _ _ i _=>nW-(intOf i).toNat)
           case atStart=>exact ⟨0,0,false,-1,List.replicate f false,by omega,rfl,rfl,rfl,WI.start t,UI.start f,H5.out⟩
           case round =>
            obtain ⟨k,e,care,last,U,hk,rfl,rfl,rfl,hwi,hui,hst⟩:=hrel
            have HST:=Lib.hid hst;have HWI:=Lib.hid hwi;have HUI:=Lib.hid hui
            have he0:=hwi.e0
            have he1:=hwi.e1
            have hle:=hui.le
            clear hst hwi hui H5
            have t0:wr.cell? ⟨T,0,none⟩=some (.int .i64 fr):=(HST.out.pick 1 rfl).row.1.cell 0
            have t2:wr.cell? ⟨T,2,none⟩=some (.slice AW nW cW):=(HST.out.pick 1 rfl).row.1.cell 2
            have lT:T < wr.heap.size:=(HST.out.pick 1 rfl).row.1.lt
            by_cases hlt:k < nW
            ·have hlt':(k:Int) < (nW:Int):=by omega
             have hk0:(0:Int)≤(k:Int):=by omega
             have hkl:k < t.wins.length:=by rw [←HV.out.lw];exact hlt
             obtain ⟨b,off,rfl,lb,c0,c1,c2⟩:=t3s_get (HV.out.over HST.out.bel).ws HV.out.lw hkl
             have HBAD:=Lib.hid (fun h=>right_win (HWI.out.bad hkl h))
             have HGO:=Lib.hid (fun h=>HWI.out.go hkl h (by rw [←HF.out];exact q1))
             have HOK:=Lib.hid (show winOk t.parts.length t.frame e t.wins[k]=(okr t.wins[k].a 0 ((nP:Int)-1)&&(decide (e≤t.wins[k].b)&&(decide (t.wins[k].b≤fr)&&(decide (1≤t.wins[k].c)&&decide (t.wins[k].c≤fr-t.wins[k].b))))) by rw [HF.out,HV.out.lp];rfl)
             generalize t.wins[k]=x at c0 c1 c2 HBAD HGO HOK
             obtain ⟨xa,xb,xc⟩:=x
             dsimp only at c0 c1 c2 HOK
             go_upto_region 17 with fail
             obtain ⟨Z,hZ⟩:∃Z,Z=wr.heap.size:=⟨_,rfl⟩
             obtain ⟨w2,hw2⟩:∃w2,w2=wr.alloc (.cells #[.int .i64 xa,.int .i64 xb,.int .i64 xc] 150):=⟨_,rfl⟩
             have H2:=Lib.hid (show St w w2 [row G 4 (U.map Value.bool),row Z 150 [.int .i64 xa,.int .i64 xb,.int .i64 xc],row T 46 (tabRow fr AP nP cP (some ⟨b,off,none⟩) nW cW AC nC cC tr)] by rw [hw2,hZ];exact (HST.out.new 150 #[.int .i64 xa,.int .i64 xb,.int .i64 xc]).swap)
             have HW2:=Lib.hid hw2;have HZ:=Lib.hid hZ
             clear hw2 hZ c0 c1 c2 lb t0 t2 lT
             rw [←HW2.out,←HZ.out]
             have t0:w2.cell? ⟨T,0,none⟩=some (.int .i64 fr):=(H2.out.pick 2 rfl).row.1.cell 0
             have lT:T < w2.heap.size:=(H2.out.pick 2 rfl).row.1.lt
             have z0:w2.cell? ⟨Z,0,none⟩=some (.int .i64 xa):=(H2.out.pick 1 rfl).row.1.cell 0
             have z1:w2.cell? ⟨Z,1,none⟩=some (.int .i64 xb):=(H2.out.pick 1 rfl).row.1.cell 1
             have z2:w2.cell? ⟨Z,2,none⟩=some (.int .i64 xc):=(H2.out.pick 1 rfl).row.1.cell 2
             have lz:Z < w2.heap.size:=(H2.out.pick 1 rfl).row.1.lt
             by_cases p0:xa < 0
             ·have HQ:=Lib.hid (HBAD.out (by rw [HOK.out];unfold okr;simp;omega))
              clear HOK HBAD HGO
              go_wp2_with (fail)
              go_ret
              exact ⟨ret_bool HQ.out.symm,H2.out.bel⟩
             ·by_cases p1:xa≥(nP:Int)
              ·have HQ:=Lib.hid (HBAD.out (by rw [HOK.out];unfold okr;simp;omega))
               clear HOK HBAD HGO
               go_wp2_with (fail)
               go_ret
               exact ⟨ret_bool HQ.out.symm,H2.out.bel⟩
              ·by_cases p2:xb < 0
               ·have HQ:=Lib.hid (HBAD.out (by rw [HOK.out];unfold okr;simp;omega))
                clear HOK HBAD HGO
                go_wp2_with (fail)
                go_ret
                exact ⟨ret_bool HQ.out.symm,H2.out.bel⟩
               ·by_cases p3:xb≥fr
                ·have HQ:=Lib.hid (HBAD.out (by rw [HOK.out];unfold okr;simp;omega))
                 clear HOK HBAD HGO
                 go_wp2_with (fail)
                 go_ret
                 exact ⟨ret_bool HQ.out.symm,H2.out.bel⟩
                ·by_cases p4:xc < 1
                 ·have HQ:=Lib.hid (HBAD.out (by rw [HOK.out];unfold okr;simp;omega))
                  clear HOK HBAD HGO
                  go_wp2_with (fail)
                  go_ret
                  exact ⟨ret_bool HQ.out.symm,H2.out.bel⟩
                 ·by_cases p5:xc > 64
                  ·have HQ:=Lib.hid (HBAD.out (by rw [HOK.out];unfold okr;simp;omega))
                   clear HOK HBAD HGO
                   go_wp2_with (fail)
                   go_ret
                   exact ⟨ret_bool HQ.out.symm,H2.out.bel⟩
                  ·by_cases p6:xb+xc > fr
                   ·have HQ:=Lib.hid (HBAD.out (by rw [HOK.out];unfold okr;simp;omega))
                    clear HOK HBAD HGO
                    go_wp2_with (fail)
                    go_ret
                    exact ⟨ret_bool HQ.out.symm,H2.out.bel⟩
                   ·by_cases p7:xb≤last
                    ·have HQ:=Lib.hid (HBAD.out (by rw [HOK.out];unfold okr;simp;omega))
                     clear HOK HBAD HGO
                     go_wp2_with (fail)
                     go_ret
                     exact ⟨ret_bool HQ.out.symm,H2.out.bel⟩
                    ·skip
                     obtain ⟨B,hB⟩:∃B:Nat,(B:Int)=xb:=⟨xb.toNat,by omega⟩
                     obtain ⟨C,hC⟩:∃C:Nat,(C:Int)=xb+xc:=⟨(xb+xc).toNat,by omega⟩
                     have hBf:B < f:=by have:=HFF.out;omega
                     have hBf':(B:Int) < (f:Int):=by omega
                     have hB0:(0:Int)≤(B:Int):=by omega
                     by_cases hbe:xb < e
                     ·have HQ:=Lib.hid (HBAD.out (by rw [HOK.out];simp;omega))
                      have hBU:B < U.length:=by rw [HUI.out.len];exact hBf
                      have gB:w2.cell? ⟨G,B,none⟩=some (.bool true):=by
                       have h1:w2.cell? ⟨G,B,none⟩=(U.map Value.bool)[B]?:=H2.out.row.1.cell B
                       rw [h1,List.getElem?_map,List.getElem?_eq_getElem hBU,HUI.out.used B hBU (by omega) (by omega)]
                       rfl
                      have lG:G < w2.heap.size:=H2.out.row.1.lt
                      have hlt9:xb < xb+xc:=by omega
                      have HB:=Lib.hid hB
                      clear HOK HBAD HGO hB hC
                      go_upto_region 20 with fail
                      go_loopw [11] (fun s wr=>s=.int .i64 xb∧wr=w2) (fun _ _=>0)
                      case atStart=>exact ⟨rfl,rfl⟩
                      case round =>
                       obtain ⟨rfl,hw⟩:=hrel
                       rw [hw,←HB.out]
                       rw [←HB.out] at z1 hlt9
                       clear hw
                       go_wp2_with (fail)
                       go_ret
                       exact ⟨ret_bool HQ.out.symm,H2.out.bel⟩
                     ·have HWO:=Lib.hid (show winOk t.parts.length t.frame e ⟨xa,xb,xc⟩=true by rw [HOK.out];unfold okr;simp;omega)
                      have HGO2:=Lib.hid (HGO.out HWO.out)
                      have HUJ:=Lib.hid (UJ.start HUI.out (b:=B) (by omega))
                      have hBC:B < C:=by omega
                      have hCf:C≤f:=by have:=HFF.out;omega
                      have hC64:C≤64:=by omega
                      have HB:=Lib.hid hB;have HC:=Lib.hid hC
                      clear HOK HBAD HGO HWO hB hC
                      go_upto_region 20 with fail
                      rw [←HB.out]
                      go_loopw [11] (fun s wr=>∃(j:Nat) (V:List Bool),B≤j∧j≤C∧s=.int .i64 j∧UJ V f B j∧St w wr [row G 4 (V.map Value.bool),row Z 150 [.int .i64 xa,.int .i64 xb,.int .i64 xc],row T 46 (tabRow fr AP nP cP (some ⟨b,off,none⟩) nW cW AC nC cC tr)]) (fun s _=>C-(intOf s).toNat)
                      case atStart=>exact ⟨B,U,by omega,by omega,rfl,HUJ.out,H2.out⟩
                      case round =>
                       obtain ⟨j,V,hBj,hjC,rfl,huj,hst⟩:=hrel
                       have HJ:=Lib.hid huj;have HSJ:=Lib.hid hst
                       clear huj hst H2 HUJ t0 lT z0 z1 z2 lz
                       have z0:wr.cell? ⟨Z,0,none⟩=some (.int .i64 xa):=(HSJ.out.pick 1 rfl).row.1.cell 0
                       have z1:wr.cell? ⟨Z,1,none⟩=some (.int .i64 xb):=(HSJ.out.pick 1 rfl).row.1.cell 1
                       have z2:wr.cell? ⟨Z,2,none⟩=some (.int .i64 xc):=(HSJ.out.pick 1 rfl).row.1.cell 2
                       have lz:Z < wr.heap.size:=(HSJ.out.pick 1 rfl).row.1.lt
                       have hCC:xb+xc=(C:Int):=HC.out.symm
                       by_cases hjl:j < C
                       ·have hjl':(j:Int) < (C:Int):=by omega
                        have hj0:(0:Int)≤(j:Int):=by omega
                        have hjf:(j:Int) < (f:Int):=by omega
                        have hjf':j < f:=by omega
                        have hjV:j < V.length:=by rw [HJ.out.len];exact hjf'
                        have gj:wr.cell? ⟨G,j,none⟩=some (.bool false):=by
                         have h1:wr.cell? ⟨G,j,none⟩=(V.map Value.bool)[j]?:=HSJ.out.row.1.cell j
                         rw [h1,List.getElem?_map,List.getElem?_eq_getElem hjV,HJ.out.free j hjV (Nat.le_refl _)]
                         rfl
                        have fj:=HSJ.out.row.1.frozen j
                        have lG:G < wr.heap.size:=HSJ.out.row.1.lt
                        have H6:=Lib.hid (show St w (wr.setCell ⟨G,j,none⟩ (.bool true)) (row G 4 ((V.set j true).map Value.bool)::_) by
                         rw [List.map_set]
                         exact HSJ.out.set j (.bool true))
                        have HJ2:=Lib.hid (HJ.out.step hjf')
                        go_wp2_with (fail)
                        go_roundw
                        case rel=>exact ⟨j+1,V.set j true,by omega,by omega,by go_num,HJ2.out,H6.out⟩
                        case measure=>simp [intOf]<;>omega
                       ·have hjC2:j=C:=by omega
                        have hjl':¬(j:Int) < (C:Int):=by omega
                        have HU2:=Lib.hid (show UI V f xb (xb+xc) by
                         have h:=HJ.out
                         rw [hjC2] at h
                         have h2:=h.end_ hBC
                         rw [HB.out,HC.out] at h2
                         exact h2)
                        have H7:=Lib.hid ((HSJ.out.pick 1 rfl).drop)
                        clear hjC2 HJ
                        cases care
                        ·cases hxa:(xa==0)
                         ·have HR2:=Lib.hid (show WI t (k+1) (xb+xc) false by have h:=HGO2.out;simp only [hxa] at h;exact h)
                          go_wp2_with (fail)
                          go_roundw
                          case rel=>exact ⟨k+1,xb+xc,false,xb,V,by omega,by go_num,rfl,rfl,HR2.out,HU2.out,H7.out⟩
                          case measure=>simp [intOf]<;>omega
                         ·have HR2:=Lib.hid (show WI t (k+1) (xb+xc) true by have h:=HGO2.out;simp only [hxa] at h;exact h)
                          go_wp2_with (fail)
                          go_roundw
                          case rel=>exact ⟨k+1,xb+xc,true,xb,V,by omega,by go_num,rfl,rfl,HR2.out,HU2.out,H7.out⟩
                          case measure=>simp [intOf]<;>omega
                        ·have HR2:=Lib.hid (show WI t (k+1) (xb+xc) true by have h:=HGO2.out;simp only [Bool.true_or] at h;exact h)
                         go_wp2_with (fail)
                         go_roundw
                         case rel=>exact ⟨k+1,xb+xc,true,xb,V,by omega,by go_num,rfl,rfl,HR2.out,HU2.out,H7.out⟩
                         case measure=>simp [intOf]<;>omega
            ·have hkn:k=nW:=by omega
             have hlt':¬(k:Int) < (nW:Int):=by omega
             have HWE:=Lib.hid (show WI t t.wins.length e care by rw [←HV.out.lw,←hkn];exact HWI.out)
             have H8:=Lib.hid HST.out.drop
             clear hkn HWI HUI hle
             go_upto_region 28 with fail
             clear t0 t2 lT hlt hlt' HST
             go_loopw [12] (fun i wr=>∃k:Nat,k≤nC∧i=.int .i64 k∧((t.chans.take k).any fun x=>!chanOk t.parts.length x)=false∧St w wr [row T 46 (tabRow fr AP nP cP AW nW cW AC nC cC tr)]) (fun i _=>nC-(intOf i).toNat)
             case atStart=>exact ⟨0,by omega,rfl,by simp,H8.out⟩
             case round =>
             obtain ⟨k,hk,rfl,hno,hst⟩:=hrel
             have HST:=Lib.hid hst;have HNO:=Lib.hid hno
             clear hst hno H8
             have t3:wr.cell? ⟨T,3,none⟩=some (.slice AC nC cC):=HST.out.row.1.cell 3
             have lT:T < wr.heap.size:=HST.out.row.1.lt
             by_cases hlt:k < nC
             ·have hlt':(k:Int) < (nC:Int):=by omega
              have hk0:(0:Int)≤(k:Int):=by omega
              have hkl:k < t.chans.length:=by rw [←HV.out.lc];exact hlt
              obtain ⟨b,off,rfl,lb,c0,c1,c2⟩:=t3s_get (HV.out.over HST.out.bel).cs HV.out.lc hkl
              have HBAD:=Lib.hid (fun h=>right_chan hkl h)
              have HGO:=Lib.hid (fun (h:chanOk t.parts.length t.chans[k]=true)=>find_next (p:=fun x=>!chanOk t.parts.length x) HNO.out hkl (by simp [h]))
              have HPT:=Lib.hid (show chanOk t.parts.length t.chans[k]=(okr t.chans[k].a 0 ((nP:Int)-1)&&(okr t.chans[k].b 0 ((nP:Int)-1)&&(!(t.chans[k].a==t.chans[k].b)&&okr t.chans[k].c 0 4))) by rw [HV.out.lp];rfl)
              generalize t.chans[k]=x at c0 c1 c2 HBAD HGO HPT
              obtain ⟨xa,xb,xc⟩:=x
              dsimp only at c0 c1 c2 HPT
              go_upto_region 31 with fail
              obtain ⟨Z,hZ⟩:∃Z,Z=wr.heap.size:=⟨_,rfl⟩
              obtain ⟨w2,hw2⟩:∃w2,w2=wr.alloc (.cells #[.int .i64 xa,.int .i64 xb,.int .i64 xc] 152):=⟨_,rfl⟩
              have H2:=Lib.hid (show St w w2 [row Z 152 [.int .i64 xa,.int .i64 xb,.int .i64 xc],row T 46 (tabRow fr AP nP cP AW nW cW (some ⟨b,off,none⟩) nC cC tr)] by rw [hw2,hZ];exact HST.out.new _ _)
              have HW2:=Lib.hid hw2;have HZ:=Lib.hid hZ
              clear hw2 hZ c0 c1 c2 lb t3 lT
              rw [←HW2.out,←HZ.out]
              have z0:w2.cell? ⟨Z,0,none⟩=some (.int .i64 xa):=H2.out.row.1.cell 0
              have z1:w2.cell? ⟨Z,1,none⟩=some (.int .i64 xb):=H2.out.row.1.cell 1
              have z2:w2.cell? ⟨Z,2,none⟩=some (.int .i64 xc):=H2.out.row.1.cell 2
              have lz:Z < w2.heap.size:=H2.out.row.1.lt
              by_cases p0:xa < 0
              ·have HQ:=Lib.hid (HBAD.out (by rw [HPT.out];unfold okr;simp;omega))
               clear HPT HBAD HGO
               go_wp2_with (fail)
               go_ret
               exact ⟨ret_bool HQ.out.symm,H2.out.bel⟩
              ·by_cases p1:xa≥(nP:Int)
               ·have HQ:=Lib.hid (HBAD.out (by rw [HPT.out];unfold okr;simp;omega))
                clear HPT HBAD HGO
                go_wp2_with (fail)
                go_ret
                exact ⟨ret_bool HQ.out.symm,H2.out.bel⟩
               ·by_cases p2:xb < 0
                ·have HQ:=Lib.hid (HBAD.out (by rw [HPT.out];unfold okr;simp;omega))
                 clear HPT HBAD HGO
                 go_wp2_with (fail)
                 go_ret
                 exact ⟨ret_bool HQ.out.symm,H2.out.bel⟩
                ·by_cases p3:xb≥(nP:Int)
                 ·have HQ:=Lib.hid (HBAD.out (by rw [HPT.out];unfold okr;simp;omega))
                  clear HPT HBAD HGO
                  go_wp2_with (fail)
                  go_ret
                  exact ⟨ret_bool HQ.out.symm,H2.out.bel⟩
                 ·skip
                  by_cases hab:xa=xb
                  ·have b1:(xa==xb)=true:=by simpa using hab
                   have HQ:=Lib.hid (HBAD.out (by rw [HPT.out,b1];simp))
                   clear HPT HBAD HGO hab
                   go_wp2_with (fail)
                   go_ret
                   exact ⟨ret_bool HQ.out.symm,H2.out.bel⟩
                  ·have b1:(xa==xb)=false:=by simpa using hab
                   rw [b1] at HPT
                   clear hab
                   by_cases p5:xc < 0
                   ·have HQ:=Lib.hid (HBAD.out (by rw [HPT.out];unfold okr;simp;omega))
                    clear HPT HBAD HGO
                    go_wp2_with (fail)
                    go_ret
                    exact ⟨ret_bool HQ.out.symm,H2.out.bel⟩
                   ·by_cases p6:xc > 4
                    ·have HQ:=Lib.hid (HBAD.out (by rw [HPT.out];unfold okr;simp;omega))
                     clear HPT HBAD HGO
                     go_wp2_with (fail)
                     go_ret
                     exact ⟨ret_bool HQ.out.symm,H2.out.bel⟩
                    ·have HQ:=Lib.hid (HGO.out (by rw [HPT.out];unfold okr;simp;omega))
                     clear HPT HBAD HGO
                     have H3:=Lib.hid H2.out.drop
                     go_wp2_with (fail)
                     go_roundw
                     case rel=>exact ⟨k+1,by omega,by go_num,HQ.out,H3.out⟩
                     case measure=>simp [intOf]<;>omega
             ·have hkn:k=nC:=by omega
              have hlt':¬(k:Int) < (nC:Int):=by omega
              have HR:=Lib.hid (show t.right=care from right_all HSQ.out HNP.out HWE.out (by
               have h:=HNO.out
               rw [List.take_of_length_le (by rw [←HV.out.lc];omega)] at h
               exact h))
              clear hkn HNO
              go_wp2_with (fail)
              go_ret
              exact ⟨ret_bool HR.out.symm,HST.out.bel⟩
end
end tab
end Go.Proofs.YtdldkkoplgkloaaGreat
