/-
  PROVED HERE: lemmas and contracts that the law's proof leans on (texts put together: ShaBlock, Chain, ShaFull).
  CONDITIONS: each names its own.
-/
import Derived.Deep.Cut
import Derived.Deep.MidRow
import Derived.Laws.Rows
import Derived.Still
import Derived.Test.YtdldkkoplgkloaaGreatPz0
import Derived.Test.YtdldkkoplgkloaaGreatPz4
namespace Go.Proofs.YtdldkkoplgkloaaGreat
set_option linter.unusedVariables false
set_option linter.unusedSimpArgs false
set_option maxRecDepth 100000
set_option maxHeartbeats 32000000
namespace sha

open Go.RowKit base obj mem sep crc plan
def wCells (b:List Int) (k:Nat):List Value:=(wUp b k).map (fun x:Nat=>Value.int .u32 x)++List.replicate (64-k) (.int .u32 0)
theorem wCells_len (b:List Int) (k:Nat) (hk:k≤64):(wCells b k).length=64:=by simp [wCells,wUp_len];omega
theorem wCells_set (b:List Int) (k:Nat) (hk:k < 64):(wCells b k).set k (.int .u32 ((if k < 16 then wd b k else wx (wUp b k):Nat):Int))=wCells b (k+1):=by
 unfold wCells
 rw [List.set_append_right _ _ (by simp [wUp_len]),wUp,List.map_append,List.append_assoc]
 congr 1
 simp only [List.length_map,wUp_len,Nat.sub_self]
 rw [show 64-k=(64-(k+1))+1 by omega,List.replicate_succ]
 rfl
theorem wCells_get (b:List Int) (k i:Nat) (h:i < k):(wCells b k)[i]?=some (.int .u32 ((wUp b k).getD i 0:Nat)):=by
 unfold wCells
 rw [List.getElem?_append_left (by simp [wUp_len];exact h),List.getElem?_map,List.getD_eq_getElem?_getD,List.getElem?_eq_getElem (by rw [wUp_len];exact h)]
 rfl
theorem wCells_zero (b:List Int) (k i:Nat) (h:k≤i) (hi:i < 64):(wCells b k)[i]?=some (.int .u32 0):=by
 unfold wCells
 rw [List.getElem?_append_right (by simp [wUp_len];exact h)]
 simp only [List.length_map,wUp_len]
 rw [List.getElem?_replicate,if_pos (by omega)]
def wpart (b:List Int) (i:Nat):Nat→Nat
 | 0=>0
 | j+1=>(wpart b i j*256 % M+byt b (4*i+j)) % M
theorem wpart_lt (b:List Int) (i j:Nat):wpart b i j < 2 ^ 32:=by
 cases j with
 | zero=>exact Nat.two_pow_pos 32
 | succ j=>exact Nat.mod_lt _ (by decide)
theorem wpart_all {b:List Int} (hb:Byt b) (i:Nat):wpart b i 4=wd b i:=by
 have h1:=byt_lt hb (4*i);have h2:=byt_lt hb (4*i+1);have h3:=byt_lt hb (4*i+2);have h4:=byt_lt hb (4*i+3)
 simp only [wpart,wd,M,Nat.add_zero]
 generalize byt b (4*i)=p at *
 generalize byt b (4*i+1)=q at *
 generalize byt b (4*i+2)=r at *
 generalize byt b (4*i+3)=s at *
 omega
theorem cell_off (w:World) (g a b:Nat) (v:Value) (h:a≠b):(w.setCell ⟨g,a,none⟩ v).cell? ⟨g,b,none⟩=w.cell? ⟨g,b,none⟩ :=
 World.cell?_setCell_other _ _ _ _ fun e=>h (congrArg Addr.off e)
def zW:Array Value:=(wCells [] 0).toArray
theorem zW_zero:(Tryz.prog.info? 270).map (·.zero)=some (some (.agg zW)):=by kernel_rfl
theorem part_slice (g k:Nat) (hk:k < 16) (w:World):(Instr.sliceAt 136 (.pointer (some ⟨g,8,none⟩)) (some (.int .i64 (4*(k:Int)))) (some (.int .i64 (4*(k:Int)+4))) none).run Tryz.prog w=.ok (.slice (some ⟨g,8+4*k,none⟩) 4 (64-4*k)) w:=by
 have ha:Tryz.prog.arrayLen 136=64:=by kernel_rfl
 have he:Tryz.prog.elem 136=5:=by kernel_rfl
 have ht:Tryz.prog.underlying 136=some (.array (Tryz.prog.arrayLen 136) (Tryz.prog.elem 136)):=by rw [ha,he];kernel_rfl
 have hs:(sizeOf (Tryz.prog.elem 136)).run Tryz.prog w=.ok 1 w:=by rw [he];kernel_rfl
 rw [run_sliceAt_array_lh w 136 ⟨g,8,none⟩ ht .i64 .i64 (4*(k:Int)) (4*(k:Int)+4) (by omega) (by omega) (by rw [ha];omega),hs]
 show Result.ok (slicedAt ⟨g,8,none⟩ (4*(k:Int)).toNat (4*(k:Int)+4).toNat (Tryz.prog.arrayLen 136) 1) w=_
 rw [ha,show (4*(k:Int)).toNat=4*k by omega,show (4*(k:Int)+4).toNat=4*k+4 by omega]
 unfold slicedAt
 have e:(⟨g,8,none⟩:Addr).add (4*k)=⟨g,8+4*k,none⟩:=by unfold Addr.add;split<;>simp_all
 rw [if_neg (by omega),show 4*k+4-4*k=4 by omega,Nat.mul_one,e]
theorem words_at (w:World) (g:Nat) (b:List Int) (hl:b.length=64) (hb:Byt b) (hc:∀i (h:i < 64),w.cell? ⟨g,8+i,none⟩=some (.int .u8 (byt b i:Nat))) (hg:g < w.heap.size):Calls Tryz.prog 207 #[.pointer (some ⟨g,8,none⟩)] w fun e w'=>e=.returned (.agg (wCells b 64).toArray)∧Below w.heap.size w w':=by
 have Z:=Lib.hid zW_zero
 have HC:=Lib.hid hc;have HB:=Lib.hid hb;have HL:=Lib.hid hl
 clear hc hb hl
 go_enter Tryz.func207,Tryz.ntmps207
 go_wp2_with (with_reducible refine wpList_alloc rfl 270 rfl (.agg zW) Z.out ?_)
 go_loopw [7] (fun i wr=>∃(k:Nat),k≤64∧i=.int .i64 k∧Row wr (w.heap.size+1) 270 (wCells b k)∧Row wr w.heap.size 270 (wCells [] 0)∧Below w.heap.size w wr) (fun i _=>64-(intOf i).toNat)
 case atStart=>exact ⟨0,by omega,rfl,row_at (alloc_sz _ _) _ _,(Row.new w _ _).alloc _,((Below.refl w.heap.size w).alloc (Nat.le_refl _) _).alloc (by simp only [alloc_sz];omega) _⟩
 case round =>
  obtain ⟨k,hk,rfl,hr,hr0,hbl⟩:=hrel
  have HR:=Lib.hid hr;have HR0:=Lib.hid hr0;have HBL:=Lib.hid hbl
  clear hr hr0 hbl
  by_cases hlt:k < 64
  ·have hlt':(k:Int) < 64:=by omega
   by_cases h16:k < 16
   ·have h16':(k:Int) < 16:=by omega
    have hsl:=part_slice g k h16
    go_wp2_with (fail)
    have hd0:(wCells b k).set k (.int .u32 (wpart b k 0:Nat))=wCells b k:=by
     have h:=wCells_zero b k k (Nat.le_refl _) hlt
     obtain ⟨h1,h2⟩:=List.getElem?_eq_some_iff.1 h
     rw [show ((wpart b k 0:Nat):Int)=0 from rfl,←h2]
     exact List.set_getElem_self _
    have HD0:=Lib.hid hd0
    clear hd0
    go_loopw [21] (fun i wx=>∃j:Nat,j≤4∧i=.int .i64 j∧Row wx (w.heap.size+1) 270 ((wCells b k).set k (.int .u32 (wpart b k j:Nat)))∧Row wx w.heap.size 270 (wCells [] 0)∧Below w.heap.size w wx) (fun i _=>4-(intOf i).toNat)
    case atStart=>exact ⟨0,by omega,rfl,by rw [HD0.out];exact HR.out,HR0.out,HBL.out⟩
    case round =>
     obtain ⟨j,hj,rfl,hr,hr0,hbl⟩:=hrel
     by_cases hlj:j < 4
     ·have hlj':(j:Int) < 4:=by omega
      have hlw:=wpart_lt b k j
      have hnx:wpart b k (j+1)=(wpart b k j*256 % M+byt b (4*k+j)) % M:=rfl
      have hby:=byt_lt HB.out (4*k+j)
      have c1:wr.cell? ⟨g,8+4*k+j,none⟩=some (.int .u8 (byt b (4*k+j):Nat)):=by
       have h:=HC.out (4*k+j) (by omega)
       rw [show 8+(4*k+j)=8+4*k+j by omega] at h
       exact (hbl.cell hg).trans h
      have c2:=(hr.cell k).trans (List.getElem?_set_self (by rw [wCells_len b k hk];exact hlt))
      have hf:=hr.frozen k
      have hlr:=hr.lt
      generalize hx:byt b (4*k+j)=x at *
      generalize hy:wpart b k j=y at *
      have HR1:=Lib.hid hr;have HR2:=Lib.hid hr0;have HB1:=Lib.hid hbl;have HNX:=Lib.hid hnx;have HX:=Lib.hid hx;have HY:=Lib.hid hy
      clear hr hr0 hbl hnx hx hy
      go_wp2_with (fail)
      go_roundw
      case rel =>
       refine ⟨j+1,by omega,by go_num,?_,HR2.out.setCell_other (by simp) _,HB1.out.setCell (p:=⟨w.heap.size+1,k,none⟩) (by simp) _⟩
       have h:=HR1.out.setCell k (.int .u32 (wpart b k (j+1):Nat))
       rw [List.set_set] at h
       have hN:(y*256 % M+x) % M=y*256 % M+x:=Nat.mod_eq_of_lt (by simp only [M];omega)
       rw [HNX.out,hN] at h ⊢
       exact h
      case measure=>simp [intOf];omega
     ·have hlj':¬(j:Int) < 4:=by omega
      have hj8:j=4:=by omega
      have HJ:=Lib.hid hj8
      clear hj8
      have HR1:=Lib.hid hr;have HR2:=Lib.hid hr0;have HB1:=Lib.hid hbl
      clear hr hr0 hbl
      go_wp2_with (fail)
      go_roundw
      case rel =>
       refine ⟨k+1,by omega,by go_num,?_,HR2.out,HB1.out⟩
       have h:=HR1.out
       rw [HJ.out,wpart_all HB.out k] at h
       have h2:=wCells_set b k hlt
       rw [if_pos h16] at h2
       rw [←h2]
       exact h
      case measure=>simp [intOf];omega
   ·obtain ⟨q,hq⟩:∃q,k=q+16:=⟨k-16,by omega⟩
    subst hq
    have h16':(16:Int)≤(q:Int)+16:=by omega
    have hlt'':(q:Int)+16 < 64:=by omega
    have hx:=wUp_lt HB.out (q+16)
    have gx:∀i,i < q+16→(wUp b (q+16)).getD i 0 < 2 ^ 32:=fun i hi=>by
     rw [List.getD_eq_getElem?_getD,List.getElem?_eq_getElem (by rw [wUp_len];exact hi)]
     exact hx _ (List.getElem_mem _)
    have c2:=(HR.out.cell (q+14)).trans (wCells_get b (q+16) (q+14) (by omega))
    have c15:=(HR.out.cell (q+1)).trans (wCells_get b (q+16) (q+1) (by omega))
    have c7:=(HR.out.cell (q+9)).trans (wCells_get b (q+16) (q+9) (by omega))
    have c16:=(HR.out.cell q).trans (wCells_get b (q+16) q (by omega))
    have c0:=(HR.out.cell (q+16)).trans (wCells_zero b (q+16) (q+16) (Nat.le_refl _) hlt)
    have hf:=HR.out.frozen (q+16)
    have hlr:=HR.out.lt
    have l2:=gx (q+14) (by omega);have l15:=gx (q+1) (by omega)
    have hw:wx (wUp b (q+16))=((((sp ((wUp b (q+16)).getD (q+14) 0) 17 19 10+sp ((wUp b (q+16)).getD (q+1) 0) 7 18 3) % M+(wUp b (q+16)).getD (q+9) 0) % M+(wUp b (q+16)).getD q 0) % M):=by
     rw [next_same]
     unfold wx
     rw [wUp_len]
     rfl
    generalize hy2:(wUp b (q+16)).getD (q+14) 0=x2 at *
    generalize hy15:(wUp b (q+16)).getD (q+1) 0=x15 at *
    generalize hy7:(wUp b (q+16)).getD (q+9) 0=x7 at *
    generalize hy16:(wUp b (q+16)).getD q 0=x16 at *
    have HS1:RowKit.Hid (∀w',Calls Tryz.prog 218 #[.int .u32 x2,.int .i64 17,.int .i64 19,.int .i64 10] w' fun e w''=>e=.returned (.int .u32 (sp x2 17 19 10:Nat))∧∃j,w''=w'.drewN j):=Lib.hid fun w'=>spread_at w' x2 17 19 10 l2 (by omega) (by omega) (by omega) (by omega) (by omega)
    have HS2:RowKit.Hid (∀w',Calls Tryz.prog 218 #[.int .u32 x15,.int .i64 7,.int .i64 18,.int .i64 3] w' fun e w''=>e=.returned (.int .u32 (sp x15 7 18 3:Nat))∧∃j,w''=w'.drewN j):=Lib.hid fun w'=>spread_at w' x15 7 18 3 l15 (by omega) (by omega) (by omega) (by omega) (by omega)
    have HW:=Lib.hid hw
    clear hx gx l2 l15 hy2 hy15 hy7 hy16 hw
    have m0:IntKind.i64.wrap ((q:Int)+16-2)=(q:Int)+14:=by rw [IntWalk.i64_in _ ⟨by omega,by omega⟩];omega
    have n0:((q:Int)+14).toNat=q+14:=by omega
    have p0:(0:Int)≤(q:Int)+14:=by omega
    have r0:(q:Int)+14 < 64:=by omega
    have m1:IntKind.i64.wrap ((q:Int)+16-15)=(q:Int)+1:=by rw [IntWalk.i64_in _ ⟨by omega,by omega⟩];omega
    have n1:((q:Int)+1).toNat=q+1:=by omega
    have p1:(0:Int)≤(q:Int)+1:=by omega
    have r1:(q:Int)+1 < 64:=by omega
    have m2:IntKind.i64.wrap ((q:Int)+16-7)=(q:Int)+9:=by rw [IntWalk.i64_in _ ⟨by omega,by omega⟩];omega
    have n2:((q:Int)+9).toNat=q+9:=by omega
    have p2:(0:Int)≤(q:Int)+9:=by omega
    have r2:(q:Int)+9 < 64:=by omega
    have m3:IntKind.i64.wrap ((q:Int)+16-16)=(q:Int):=by rw [IntWalk.i64_in _ ⟨by omega,by omega⟩];omega
    have n5:((q:Int)+16).toNat=q+16:=by omega
    have r4:(q:Int) < 64:=by omega
    have p5:(0:Int)≤((q+16:Nat):Int):=by omega
    have p6:(0:Int)≤(q:Int)+16:=by omega
    have p4:(0:Int)≤(q:Int):=by omega
    have m4:IntKind.i64.wrap (q:Int)=(q:Int):=IntWalk.i64_in _ ⟨by omega,by omega⟩
    go_wp2_with (fail)
    go_region_held3 (fun w'=>w'.cell? ⟨w.heap.size+1,q+14,none⟩=some (.int .u32 x2)∧w'.cell? ⟨w.heap.size+1,q+1,none⟩=some (.int .u32 x15)∧w'.cell? ⟨w.heap.size+1,q+9,none⟩=some (.int .u32 x7)∧w'.cell? ⟨w.heap.size+1,q,none⟩=some (.int .u32 x16)) (first|(exact ⟨(cell_off _ _ _ _ _ (by omega)).trans c2,(cell_off _ _ _ _ _ (by omega)).trans c15,(cell_off _ _ _ _ _ (by omega)).trans c7,(cell_off _ _ _ _ _ (by omega)).trans c16⟩)|go_keep) (first
     | ((with_reducible refine (HS1.out _).mono ?_);rintro e1 w1 ⟨rfl,j1,rfl⟩)
     | ((with_reducible refine (HS2.out _).mono ?_);rintro e2 w2 ⟨rfl,j2,rfl⟩))
    go_wp2_with (fail)
    go_roundw
    case rel =>
     refine ⟨q+16+1,by omega,by go_num,?_,(HR0.out.drewN _).setCell_other (by simp) _,(below_drewN HBL.out _).setCell (p:=⟨w.heap.size+1,q+16,none⟩) (by simp) _⟩
     rw [←wCells_set b (q+16) hlt,if_neg h16,HW.out]
     have h:=(HR.out.drewN (1+j1+j2)).setCell (q+16) (.int .u32 (((((sp x2 17 19 10+sp x15 7 18 3) % M+x7) % M+x16) % M:Nat):Int))
     exact h
    case measure=>simp [intOf];omega
  ·have hlt':¬(k:Int) < 64:=by omega
   have hk8:k=64:=by omega
   have HK:=Lib.hid hk8
   clear hk8
   have hr:=HR.out
   rw [HK.out] at hr
   have HRR:=Lib.hid hr
   have hcs:((wCells b 64).drop 0).take (wCells b 64).length=wCells b 64:=by rw [List.drop_zero,List.take_length]
   have hsz:(Tryz.prog.info? 270).map (·.size)=some 64:=by kernel_rfl
   have hput:(wCells [] 0).take 0++(wCells b 64).toArray.toList++(wCells [] 0).drop (0+(wCells b 64).toArray.size)=wCells b 64:=by
    rw [List.take_zero,List.nil_append,List.drop_of_length_le (by rw [wCells_len [] 0 (by omega)];simp only [List.size_toArray,wCells_len b 64 (by omega)];omega),List.append_nil]
   have h1:∀v∈(wCells b 64).toArray.toList,v.oneCell'=true:=fun v hv=>by
    rcases List.mem_append.1 hv with h|h
    ·obtain ⟨x,_,rfl⟩:=List.mem_map.1 h;rfl
    ·rw [(List.mem_replicate.1 h).2];rfl
   have HCS:=Lib.hid hcs;have HSZ:=Lib.hid hsz;have HPUT:=Lib.hid hput;have HO:=Lib.hid h1
   clear hr hcs hsz hput h1
   go_wp2_with (first
    | (with_reducible refine wpList_get rfl 270 (.tmp 3) rfl (w.heap.size+1) 0 rfl (wCells b 64) _ HRR.out HCS.out Tryz.underlying270 rfl (by rw [HSZ.out,wCells_len b 64 (by omega)]) ?_)
    | (with_reducible refine wpList_putR rfl 270 (.tmp 2) (.tmp 59) rfl w.heap.size 0 (wCells b 64).toArray rfl rfl HR0.out (by rw [HSZ.out,List.size_toArray,wCells_len b 64 (by omega)]) (by rw [List.size_toArray,wCells_len b 64 (by omega),wCells_len [] 0 (by omega)];omega) HO.out (wCells b 64) HPUT.out ?_))
   refine bodyPost_ret (results_cell_row rfl _ _ w.heap.size _ (wCells b 64).toArray _ _ rfl (HR0.out.setRow (wCells b 64)) Tryz.underlying270 rfl (by rw [HSZ.out,List.size_toArray,wCells_len b 64 (by omega)])) rfl ?_
   exact ⟨rfl,below_setRow' HBL.out (Nat.le_refl _) _⟩
end sha
namespace chain

open Go.RowKit
section
variable {P : Program} {ops : Array Oper} {Q : Exit → Act → World → Prop} {w : World}
theorem list_still:∀(l rest:List Oper) (a:Act),wpStill P ops w (fun a'=>wpList P ops Q rest a' w) l a→wpList P ops Q (l++rest) a w
 | [],rest,a,h=>h
 | o::l,rest,a,h=>by
   rw [List.cons_append]
   unfold wpStill at h
   unfold wpList
   split at h
   ·rename_i hw
    rw [if_pos hw]
    refine .inl ?_
    unfold Oper.still at h
    unfold Oper.wp
    revert h
    generalize (execOp a.eval o).run P w=r
    intro h
    unfold Oper.stillUpon at h
    unfold Oper.upon
    split at h
    ·obtain ⟨he,h⟩:=h
     rw [he]
     exact list_still l rest _ h
    ·obtain ⟨he,h⟩:=h
     rw [he]
     exact list_still l rest _ h
    ·obtain ⟨he,v,hc,h⟩:=h
     rw [he]
     refine hc.mono ?_
     rintro e w2 ⟨rfl,he2⟩
     rw [he2]
     exact list_still l rest _ h
    ·exact h.elim
   ·rename_i hw
    rw [if_neg hw]
    exact list_still l rest _ h
theorem list_one {o:Oper} {rest:List Oper} {a:Act} (hw:Region.wanted o (yielded ops a.tmps)=true) (h:o.wp P a w (wpList P ops Q rest) Q):wpList P ops Q (o::rest) a w:=by
 unfold wpList
 rw [if_pos hw]
 exact .inl h
theorem list_val {o:Oper} {rest:List Oper} {a:Act} {v:Value} (hg:o.guard=none) (hv:(execOp a.eval o).run P w=.ok (.value v) w) (h:wpList P ops Q rest (a.put o.dst v) w):wpList P ops Q (o::rest) a w:=by
 refine list_one (by simp [Region.wanted,hg]) ?_
 unfold Oper.wp
 rw [hv]
 exact h
end
end chain
namespace sha


open Go.RowKit base obj mem sep crc plan chain
def kRow (r:Nat):Value:=.agg ((List.range 8).map fun i=>Value.int .u32 ((ks.getD (8*r+i) 0:Nat):Int)).toArray
def kArr:Array Value:=(ks.map fun n:Nat=>Value.int .u32 (n:Int)).toArray
theorem kRow_at (k:Nat) (h:k < 8) (w:World):(Instr.index 273 (.agg kArr) (.int .i64 (k:Int))).run Tryz.prog w=.ok (kRow k) w:=by
 rcases (by omega:k=0∨k=1∨k=2∨k=3∨k=4∨k=5∨k=6∨k=7) with rfl|rfl|rfl|rfl|rfl|rfl|rfl|rfl<;>kernel_rfl
theorem kWord_at (k i:Nat) (h:k < 8) (hi:i < 8) (w:World):(Instr.index 242 (kRow k) (.int .i64 (i:Int))).run Tryz.prog w=.ok (.int .u32 ((ks.getD (8*k+i) 0:Nat):Int)) w:=by
 rcases (by omega:k=0∨k=1∨k=2∨k=3∨k=4∨k=5∨k=6∨k=7) with rfl|rfl|rfl|rfl|rfl|rfl|rfl|rfl <;>
 rcases (by omega:i=0∨i=1∨i=2∨i=3∨i=4∨i=5∨i=6∨i=7) with rfl|rfl|rfl|rfl|rfl|rfl|rfl|rfl<;>kernel_rfl
theorem kArr_size:(Tryz.prog.info? 273).map (·.size)=some kArr.size:=by kernel_rfl
theorem kArr_one:∀v∈kArr.toList,v.oneCell'=true:=fun v hv=>by
 obtain ⟨n,_,rfl⟩:=List.mem_map.1 hv
 rfl
theorem constants_at (w:World):Calls Tryz.prog 208 #[] w fun e w'=>e=.returned (.agg kArr)∧Below w.heap.size w w':=by
 have MS:=Lib.hid kArr_size;have MO:=Lib.hid kArr_one
 go_enter Tryz.func208,Tryz.ntmps208
 go_upto_region 1 with fail
 refine wp_region_lit ?_
 refine list_val (v:=kRow 0) rfl (by kernel_rfl) ?_
 try dsimp only
 try simp only [Act.put,xSi,xSz,xSs]
 refine list_val (v:=kRow 1) rfl (by kernel_rfl) ?_
 try dsimp only
 try simp only [Act.put,xSi,xSz,xSs]
 refine list_val (v:=kRow 2) rfl (by kernel_rfl) ?_
 try dsimp only
 try simp only [Act.put,xSi,xSz,xSs]
 refine list_val (v:=kRow 3) rfl (by kernel_rfl) ?_
 try dsimp only
 try simp only [Act.put,xSi,xSz,xSs]
 refine list_val (v:=kRow 4) rfl (by kernel_rfl) ?_
 try dsimp only
 try simp only [Act.put,xSi,xSz,xSs]
 refine list_val (v:=kRow 5) rfl (by kernel_rfl) ?_
 try dsimp only
 try simp only [Act.put,xSi,xSz,xSs]
 refine list_val (v:=kRow 6) rfl (by kernel_rfl) ?_
 try dsimp only
 try simp only [Act.put,xSi,xSz,xSs]
 refine list_val (v:=kRow 7) rfl (by kernel_rfl) ?_
 try dsimp only
 try simp only [Act.put,xSi,xSz,xSs]
 refine list_val (v:=.agg kArr) rfl (by kernel_rfl) ?_
 try dsimp only
 try simp only [Act.put,xSi,xSz,xSs]
 have HBW:=Lib.hid ((Below.refl w.heap.size w).alloc (Nat.le_refl _) (.cells kArr 273))
 refine wpList_fill rfl 273 (.tmp 0) (.tmp 9) rfl kArr _ 273 w.heap.size rfl rfl MS.out (by rfl) MO.out ?_ rfl
 go_wp2_with (fail)
 refine bodyPost_ret (results_cell_row (cs:=kArr) rfl _ _ w.heap.size _ _ _ rfl (heap_alloc_new _ _) Tryz.underlying273 rfl MS.out) rfl ?_
 exact ⟨rfl,HBW.out⟩
def W8.arr (v:W8):Array Value:=#[.int .u32 v.a,.int .u32 v.b,.int .u32 v.c,.int .u32 v.d,.int .u32 v.e,.int .u32 v.f,.int .u32 v.g,.int .u32 v.h]
def hCells (v:W8) (part:List Int) (n:Int):List Value:=v.arr.toList++(part.map (Value.int .u8)++[.int .i64 n])
theorem hCells_len (v:W8) {part:List Int} (hl:part.length=64) (n:Int):(hCells v part n).length=73:=by simp [hCells,W8.arr,hl]
theorem hCells_part (v:W8) {part:List Int} (hl:part.length=64) (hb:Byt part) (n:Int) (i:Nat) (hi:i < 64):(hCells v part n)[8+i]?=some (.int .u8 (byt part i:Nat)):=by
 have h1:=hb part[i] (List.getElem_mem _)
 unfold hCells byt
 rw [List.getElem?_append_right (by simp [W8.arr]),show 8+i-v.arr.toList.length=i by simp [W8.arr],List.getElem?_append_left (by simp [hl];exact hi),List.getElem?_map,List.getD_eq_getElem?_getD,List.getElem?_eq_getElem (by omega)]
 simp only [Option.map_some,Option.getD_some]
 rw [Int.toNat_of_nonneg h1.1]
theorem hCells_n (v:W8) {part:List Int} (hl:part.length=64) (n:Int):(hCells v part n)[72]?=some (.int .i64 n):=by
 unfold hCells
 rw [List.getElem?_append_right (by simp [W8.arr]),List.getElem?_append_right (by simp [W8.arr,hl])]
 simp [W8.arr,hl]
theorem hCells_v (v:W8) (part:List Int) (n:Int):((hCells v part n).drop 0).take v.arr.toList.length=v.arr.toList:=by
 simp [hCells]
theorem hCells_setv (v u:W8) (part:List Int) (n:Int):(hCells v part n).take 0++u.arr.toList++(hCells v part n).drop (0+u.arr.size)=hCells u part n:=by
 simp [hCells,W8.arr]
theorem arr_one (v:W8):∀x∈v.arr.toList,x.oneCell'=true:=by
 intro x hx
 simp [W8.arr] at hx
 rcases hx with rfl|rfl|rfl|rfl|rfl|rfl|rfl|rfl<;>rfl
def z8:W8:=⟨0,0,0,0,0,0,0,0⟩
theorem z8_zero:(Tryz.prog.info? 238).map (·.zero)=some (some (.agg z8.arr)):=by kernel_rfl
theorem arr_size (v:W8):(Tryz.prog.info? 238).map (·.size)=some v.arr.size:=by kernel_rfl
theorem wp_putR {P:Program} {o:Oper} {a:Act} {w:World} {K:Act→World→Prop} {Q:Exit→Act→World→Prop} (ty:TypeId) (x y:Operand) (ho:o.op=.store ty x y) (g off:Nat) (cells:Array Value) (hx:a.eval x=.pointer (some ⟨g,off,none⟩)) (hy:a.eval y=.agg cells)
  {t:TypeId} {xs:List Value} (hg:Row w g t xs) (hi:(P.info? ty).map (·.size)=some cells.size) (hfit:off+cells.size≤xs.length) (h1:∀v∈cells.toList,v.oneCell'=true)
  (r:List Value) (hr:xs.take off++cells.toList++xs.drop (off+cells.size)=r)
  (h:K (a.put o.dst undef) (w.setRow g r.toArray)):Oper.wp P o a w K Q:=by
 subst hr
 have hst:=run_storeCells_at P g off t cells.toList 0 xs.toArray w hg (by simpa using hfit) h1
 simp only [Nat.add_zero,Array.length_toList] at hst
 cases hq:P.info? ty with
 | none=>simp [hq] at hi
 | some i =>
   have hs:i.size=cells.size:=by simpa [hq] using hi
   have hv:(storeVar ty ⟨g,off,none⟩ (.agg cells)).run P w=.ok () (w.setRow g (xs.take off++cells.toList++xs.drop (off+cells.size)).toArray):=by
    simp [storeVar,sizeOf,typeInfo,hq,Value.cells,hs]
    simpa using hst
   unfold Oper.wp execOp
   simp only [ho,hx,hy,Instr.storeAt,Instr.sureAddr,Sem.run_bind,Sem.run_pure,Result.andThen_ok,hv]
   exact h
theorem kRowA (k:Nat):kRow k=.agg ((List.range 8).map fun i=>Value.int .u32 ((ks.getD (8*k+i) 0:Nat):Int)).toArray:=rfl
theorem ks_lt (i:Nat):ks.getD i 0 < 2 ^ 32:=by
 by_cases h:i < 64
 ·have:∀i,i < 64→ks.getD i 0 < 2 ^ 32:=by decide +kernel
  exact this i h
 ·rw [List.getD_eq_getElem?_getD,List.getElem?_eq_none (by show ks.length≤i;rw [show ks.length=64 from rfl];omega)]
  decide
theorem full_at {w0 w:World} {l:List Asn} {g:Nat} {v:W8} {part:List Int} {n:Int} (h:St w0 w (row g 240 (hCells v part n)::l)) (hv:v.Ok) (hl:part.length=64) (hb:Byt part) :
  Calls Tryz.prog 197 #[.pointer (some ⟨g,0,none⟩)] w fun e w'=>e=.returned (.tuple #[])∧St w0 w' (row g 240 (hCells (comp v part) part n)::l):=by
 have Z:=Lib.hid zW_zero;have Z8:=Lib.hid z8_zero
 have H:=Lib.hid h
 have hw:=words_at w g part hl hb (fun i hi=>(h.row.1.cell (8+i)).trans (hCells_part v hl hb n i hi)) h.row.1.lt
 have HV:=Lib.hid hv;have HL:=Lib.hid hl;have HB:=Lib.hid hb
 have hsw:(Tryz.prog.info? 270).map (·.size)=some (wCells part 64).toArray.size:=by rw [List.size_toArray,wCells_len part 64 (by omega)];kernel_rfl
 have how:∀v∈(wCells part 64).toArray.toList,v.oneCell'=true:=fun v hv=>by
  rcases List.mem_append.1 hv with h|h
  ·obtain ⟨x,_,rfl⟩:=List.mem_map.1 h;rfl
  ·rw [(List.mem_replicate.1 h).2];rfl
 have hsz:zW.size=(wCells part 64).toArray.size:=(wCells_len [] 0 (by omega)).trans (wCells_len part 64 (by omega)).symm
 have hget:∀j,j < 64→(wCells part 64).toArray.toList[j]?=some (.int .u32 ((wUp part 64).getD j 0:Nat)):=fun j hj=>wCells_get part 64 j hj
 generalize (wCells part 64).toArray=WA at hw hsw how hsz hget
 have HW:=Lib.hid hw;have HSW:=Lib.hid hsw;have HOW:=Lib.hid how;have HSZ:=Lib.hid hsz;have HGET:=Lib.hid hget
 clear hw hsw how hsz hget
 clear h hv hl hb
 go_enter Tryz.func197,Tryz.ntmps197
 go_wp2_with (fail)
 refine HW.out.mono ?_;rintro e w1 ⟨rfl,hb1⟩
 have H1:=Lib.hid (H.out.below hb1)
 clear hb1
 have hgr:=H1.out.row.1
 have HGR:=Lib.hid hgr
 have HH:=Lib.hid (((H1.out.new 270 WA).new 238 v.arr))
 clear hgr
 generalize hva:v.arr=VA at *
 have hva8:VA.size=8:=by rw [←hva];rfl
 have hva1:∀x∈VA.toList,x.oneCell'=true:=by rw [←hva];exact arr_one v
 have hvs:(Tryz.prog.info? 238).map (·.size)=some VA.size:=by rw [←hva];exact arr_size v
 have hvg:((hCells v part n).drop 0).take VA.toList.length=VA.toList:=by rw [←hva];exact hCells_v v part n
 have HVA:=Lib.hid hva;have HVA8:=Lib.hid hva8;have HVA1:=Lib.hid hva1;have HVS:=Lib.hid hvs;have HVG:=Lib.hid hvg
 clear hva hva8 hva1 hvs hvg
 go_upto_region 1 with (first
  | (with_reducible refine wpList_alloc rfl 270 rfl (.agg zW) Z.out ?_)
  | (refine wpList_fill rfl 270 (.tmp 2) (.tmp 11) rfl WA _ 270 w1.heap.size rfl rfl HSW.out HSZ.out HOW.out ?_ rfl))
 refine wp_region_lit ?_
 refine list_still [_,_,_] _ _ ?_
 iterate 3 still_step
 refine wpStill_nil ?_
 refine wpList_get rfl 238 (.tmp 14) rfl g 0 rfl VA.toList _ (HGR.out.alloc _) HVG.out Tryz.underlying238 rfl (by rw [HVS.out];rfl) ?_
 refine wpList_alloc rfl 238 rfl (.agg z8.arr) Z8.out ?_
 refine wpList_fill rfl 238 (.tmp 3) (.tmp 15) rfl VA _ 238 (w1.alloc (.cells WA 270)).heap.size rfl rfl HVS.out (by rw [HVA8.out];rfl) HVA1.out ?_ rfl
 try simp only [alloc_sz]
 go_wp2_with (fail)
 have hci:=kRow_at;have hcw:=kWord_at
 have HC:=Lib.hid constants_at
 clear hci hcw
 refine (HC.out _).mono ?_;rintro e w2 ⟨rfl,hb2⟩
 have hh:=HH.out.below hb2
 rw [alloc_sz] at hh
 have H2:=Lib.hid hh
 clear hh hb2
 have HI:RowKit.Hid (∀(k:Nat),k < 8→∀w,(Instr.index 273 (.agg kArr) (.int .i64 (k:Int))).run Tryz.prog w=.ok (kRow k) w):=Lib.hid kRow_at
 generalize kArr=KA at HI ⊢
 go_wp2_with (fail)
 go_loopw [17] (fun i wr=>∃k:Nat,k≤8∧i=.int .i64 k∧St w0 wr (row (w1.heap.size+1) 238 (rnd v (wUp part 64) (8*k)).arr.toList::row w1.heap.size 270 WA.toList::row g 240 (hCells v part n)::l)) (fun i _=>8-(intOf i).toNat)
 case atStart=>exact ⟨0,by omega,rfl,by rw [Nat.mul_zero,rnd,HVA.out];exact H2.out⟩
 case round =>
  obtain ⟨k,hk,rfl,h3⟩:=hrel
  have H3:=Lib.hid h3
  clear h3
  by_cases hlt:k < 8
  ·have hlt':(k:Int) < 8:=by omega
   have hix:=HI.out k hlt
   obtain ⟨KR,hKR,hks,hk1⟩:∃KR:Array Value,kRow k=.agg KR∧KR.size=8∧∀v∈KR.toList,v.oneCell'=true:=⟨_,kRowA k,by simp,fun v hv=>by
    obtain ⟨x,_,rfl⟩:=List.mem_map.1 hv;rfl⟩
   have hcw:∀i:Nat,i < 8→∀w,(Instr.index 242 (.agg KR) (.int .i64 (i:Int))).run Tryz.prog w=.ok (.int .u32 ((ks.getD (8*k+i) 0:Nat):Int)) w:=by rw [←hKR];exact fun i hi=>kWord_at k i hlt hi
   rw [hKR] at hix
   have hkz:(Tryz.prog.info? 242).map (·.size)=some KR.size:=by rw [hks];kernel_rfl
   have HKS:=Lib.hid hks;have HK1:=Lib.hid hk1;have HCW:=Lib.hid hcw;have HKZ:=Lib.hid hkz
   clear hKR hks hk1 hcw hkz
   go_upto_region 5 with (refine wpList_fill rfl 242 (.tmp 5) (.tmp 20) rfl KR _ 242 wr.heap.size rfl rfl HKZ.out (by rw [HKS.out];rfl) HK1.out ?_ rfl)
   refine wp_region_lit ?_
   refine wpList_get rfl 242 (.tmp 5) rfl wr.heap.size 0 rfl KR.toList _ (Row.new wr _ KR) (by rw [List.drop_zero,List.take_length]) Tryz.underlying242 rfl (by rw [HKZ.out];rfl) ?_
   have H4:=Lib.hid (H3.out.below ((Below.refl _ _).alloc (Nat.le_refl _) (.cells KR 242)))
   go_wp2_with (fail)
   go_loopw [22] (fun i wx=>∃j:Nat,j≤8∧i=.int .i64 j∧St w0 wx (row (w1.heap.size+1) 238 (rnd v (wUp part 64) (8*k+j)).arr.toList::row w1.heap.size 270 WA.toList::row g 240 (hCells v part n)::l)) (fun i _=>8-(intOf i).toNat)
   case atStart=>exact ⟨0,by omega,rfl,H4.out⟩
   case round =>
    obtain ⟨j,hj,rfl,h5⟩:=hrel
    have H5:=Lib.hid h5
    clear h5
    by_cases hlj:j < 8
    ·have hlj':(j:Int) < 8:=by omega
     have hxj:=HCW.out j hlj
     obtain ⟨u,hu⟩:∃u,u=rnd v (wUp part 64) (8*k+j):=⟨_,rfl⟩
     have h5:=H5.out
     rw [←hu] at h5
     have huo:u.Ok:=by rw [hu];exact rnd_ok HV.out _ _
     have hnx:rnd v (wUp part 64) (8*k+(j+1))=stepP u ((ks.getD (8*k+j) 0+(wUp part 64).getD (8*k+j) 0) % M):=by
      rw [show 8*k+(j+1)=8*k+j+1 by omega,rnd,←hu,step_same u huo]
     have hkl:=ks_lt (8*k+j)
     have hwl:(wUp part 64).getD (8*k+j) 0 < 2 ^ 32:=by
      rw [List.getD_eq_getElem?_getD,List.getElem?_eq_getElem (by rw [wUp_len];omega)]
      exact wUp_lt HB.out 64 _ (List.getElem_mem _)
     have hwc:=((h5.pick 1 rfl).row.1.cell (8*k+j)).trans (HGET.out (8*k+j) (by omega))
     have hrd:=fun w=>round_at w u huo ((ks.getD (8*k+j) 0+(wUp part 64).getD (8*k+j) 0) % M) (Nat.mod_lt _ (by decide))
     generalize ks.getD (8*k+j) 0=kj at *
     generalize (wUp part 64).getD (8*k+j) 0=wj at *
     have hm:((((kj+wj) % M:Nat)):Int)=((kj:Int)+(wj:Int)) % 4294967296:=rfl
     rw [hm] at hrd
     have hua8:u.arr.size=8:=rfl
     have huas:=arr_size u
     change ∀w,Calls Tryz.prog _ #[.agg u.arr,_,_,_] w _ at hrd
     obtain ⟨N,hN⟩:∃N,N=stepP u ((kj+wj) % M):=⟨_,rfl⟩
     rw [←hN] at hrd hnx
     have hN1:=arr_one N
     have hNs:=arr_size N
     have hNz:N.arr.size=8:=rfl
     change ∀w,Calls Tryz.prog _ _ w (fun e w'=>e=.returned (.agg N.arr)∧_) at hrd
     rw [←hnx] at hN
     have HNX:=Lib.hid hnx
     generalize u.arr=UA at *
     generalize hna:N.arr=NA at *
     have HNA:=Lib.hid hna;have HN1:=Lib.hid hN1;have HNS:=Lib.hid hNs;have HNZ:=Lib.hid hNz;have HUA8:=Lib.hid hua8;have HUAS:=Lib.hid huas;have H5':=Lib.hid h5;have HRD:=Lib.hid hrd
     clear hu huo hnx hkl hwl hrd hm hN hna hN1 hNs hNz hua8 huas h5
     have i1:IntKind.i64.wrap (8*(k:Int))=8*(k:Int):=IntWalk.i64_in _ ⟨by omega,by omega⟩
     have i2:IntKind.i64.wrap (8*(k:Int)+(j:Int))=8*(k:Int)+(j:Int):=IntWalk.i64_in _ ⟨by omega,by omega⟩
     have i3:(0:Int)≤8*(k:Int)+(j:Int):=by omega
     have i4:8*(k:Int)+(j:Int) < 64:=by omega
     have i5:(8*(k:Int)+(j:Int)).toNat=8*k+j:=by omega
     go_wp2_with (fail)
     refine segs_start (by kernel_rfl) ?_
     refine segs_take [1,2,4] (by kernel_rfl) (fun _ _ _ _ _ h=>h) ?_
     simp only [pick,xGs,xGz,xGo]
     iterate 3 still_step
     refine wpStill_nil ?_
     refine segs_pure 3 (.int .i64 (8*(k:Int))) (by kernel_rfl) (fun _ _ _ _ _ h=>h) (by rfl) ?_ ?_
     ·intro w2
      try simp only [xGs,xGz,xGo]
      go_simp
     try simp only [xGs,xGz,xGo,Act.put,xSi,xSz,xSs]
     refine segs_pure 5 (.int .i64 (8*(k:Int)+(j:Int))) (by kernel_rfl) (fun _ _ _ _ _ h=>h) (by rfl) ?_ ?_
     ·intro w2
      try simp only [xGs,xGz,xGo]
      go_simp
     try simp only [xGs,xGz,xGo,Act.put,xSi,xSz,xSs]
     refine segs_take [6,7] (by kernel_rfl) (fun _ _ _ _ _ h=>h) ?_
     simp only [pick,xGs,xGz,xGo]
     iterate 2 still_step
     refine wpStill_nil ?_
     refine segs_pure 8 (.int .u32 (((kj:Int)+(wj:Int)) % 4294967296)) (by kernel_rfl) (fun _ _ _ _ _ h=>h) (by rfl) ?_ ?_
     ·intro w2
      try simp only [xGs,xGz,xGo]
      go_simp
      exact IntKind.wrap_u32 _
     try simp only [xGs,xGz,xGo,Act.put,xSi,xSz,xSs]
     refine segs_take [0] (by kernel_rfl) (fun _ _ _ _ _ h=>h) ?_
     simp only [pick,xGs,xGz,xGo]
     refine still_get rfl 238 (.tmp 3) rfl UA ⟨w1.heap.size+1,0,none⟩ rfl (run_loadVar_row wr.drew (w1.heap.size+1) 238 238 UA (0,0) _ (by exact H5'.out.drew.row.1) Tryz.underlying238 rfl HUAS.out) ?_
     refine wpStill_nil ?_
     try simp only [xGs,xGz,xGo,Act.put,xSi,xSz,xSs]
     refine segs_one 9 (by kernel_rfl) (by rfl) ?_
     try simp only [xGs,xGz,xGo]
     go_simp
     refine (HRD.out _).mono ?_
     rintro e w6 ⟨rfl,hb6⟩
     have H6:=Lib.hid (H5'.out.drew.below hb6)
     clear hb6
     try dsimp only
     try simp only [Act.put,xSi,xSz,xSs]
     refine segs_one 10 (by kernel_rfl) (by rfl) ?_
     try simp only [xGs,xGz,xGo]
     refine wp_putR 238 (.tmp 3) (.tmp 35) rfl (w1.heap.size+1) 0 NA rfl rfl H6.out.row.1 HNS.out (by rw [HNZ.out,Array.length_toList,HUA8.out];omega) HN1.out NA.toList (by rw [List.take_zero,List.nil_append,List.drop_of_length_le (by rw [HNZ.out,Array.length_toList,HUA8.out];omega),List.append_nil]) ?_
     have H7:=Lib.hid (H6.out.setRow NA.toList)
     try dsimp only
     refine segs_end (by kernel_rfl) ?_
     go_wp2_with (fail)
     go_roundw
     case rel =>
      refine ⟨j+1,by omega,by go_num,?_⟩
      rw [HNX.out,HNA.out]
      exact H7.out
     case measure=>simp [intOf];omega
    ·have hlj':¬(j:Int) < 8:=by omega
     have hj8:j=8:=by omega
     have HJ:=Lib.hid hj8
     clear hj8
     go_wp2_with (fail)
     go_roundw
     case rel =>
      refine ⟨k+1,by omega,by go_num,?_⟩
      have h:=H5.out
      rw [HJ.out] at h
      exact h
     case measure=>simp [intOf];omega
  ·have hlt':¬(k:Int) < 8:=by omega
   have hk8:k=8:=by omega
   have HK:=Lib.hid hk8
   clear hk8
   obtain ⟨u,hu⟩:∃u,u=rnd v (wUp part 64) (8*k):=⟨_,rfl⟩
   have h3:=H3.out
   rw [←hu] at h3
   have hpl:=fun w=>plus_at w v u
   have hN:comp v part=plus v u:=by rw [hu,HK.out];rfl
   obtain ⟨N,hN2⟩:∃N,N=plus v u:=⟨_,rfl⟩
   rw [←hN2] at hpl hN
   have HCOMP:=Lib.hid hN
   change ∀w,Calls Tryz.prog _ #[.agg v.arr,.agg u.arr] w (fun e w'=>e=.returned (.agg N.arr)∧_) at hpl
   have huas:=arr_size u
   have hN1:=arr_one N
   have hNs:=arr_size N
   have hNz:N.arr.size=8:=rfl
   have hset:=hCells_setv v N part n
   rw [HVA.out] at hpl
   generalize u.arr=UA at *
   generalize hna:N.arr=NA at *
   have H8:=Lib.hid h3;have HPL:=Lib.hid hpl;have HUAS:=Lib.hid huas;have HN1:=Lib.hid hN1;have HNS:=Lib.hid hNs;have HNZ:=Lib.hid hNz;have HSET:=Lib.hid hset;have HNA:=Lib.hid hna
   clear hu h3 hpl hN hN2 huas hN1 hNs hNz hset hna
   have hlh:=hCells_len v HL.out n
   have HLH:=Lib.hid hlh
   clear hlh
   go_wp2_with (fail)
   refine segs_start (by kernel_rfl) ?_
   refine segs_take [0,1,2,3,4,5] (by kernel_rfl) (fun _ _ _ _ _ h=>h) ?_
   simp only [pick,xGs,xGz,xGo]
   iterate 4 still_step
   refine still_get rfl 238 (.tmp 41) rfl VA ⟨g,0,none⟩ rfl (run_loadVar_mid wr.drew g 0 238 VA.toList _ (by rw [←HVG.out];exact (H8.out.drew.pick 2 rfl).row.1.range 0 VA.toList.length) Tryz.underlying238 rfl HVS.out) ?_
   refine still_get rfl 238 (.tmp 3) rfl UA ⟨w1.heap.size+1,0,none⟩ rfl (run_loadVar_row wr.drew (w1.heap.size+1) 238 238 UA (0,0) _ (by exact H8.out.drew.row.1) Tryz.underlying238 rfl HUAS.out) ?_
   refine wpStill_nil ?_
   refine segs_one 6 (by kernel_rfl) (by rfl) ?_
   try simp only [xGs,xGz,xGo]
   go_simp
   refine (HPL.out _).mono ?_
   rintro e w6 ⟨rfl,hb6⟩
   have H9:=Lib.hid ((H8.out.drew.below hb6).pick 2 rfl)
   clear hb6
   try dsimp only
   try simp only [Act.put,xSi,xSz,xSs]
   refine segs_take [7,8] (by kernel_rfl) (fun _ _ _ _ _ h=>h) ?_
   simp only [pick,xGs,xGz,xGo]
   iterate 2 still_step
   refine wpStill_nil ?_
   refine segs_one 9 (by kernel_rfl) (by rfl) ?_
   try simp only [xGs,xGz,xGo]
   refine wp_putR 238 (.tmp 46) (.tmp 44) rfl g 0 NA rfl rfl H9.out.row.1 HNS.out (by rw [HNZ.out,HLH.out];omega) HN1.out (hCells N part n) (by rw [←HNA.out];rw [←HNA.out] at HSET;exact HSET.out) ?_
   have H10:=Lib.hid ((H9.out.setRow (hCells N part n)))
   try dsimp only
   refine segs_end (by kernel_rfl) ?_
   go_wp2_with (fail)
   go_end0
   refine ⟨rfl,?_⟩
   rw [HCOMP.out]
   exact H10.out.swap.drop.swap.drop
end sha
end Go.Proofs.YtdldkkoplgkloaaGreat
