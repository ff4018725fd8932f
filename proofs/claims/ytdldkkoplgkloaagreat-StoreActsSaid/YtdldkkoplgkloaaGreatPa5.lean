/- PROVED HERE: lemmas of the law. CONDITIONS: each names its own. -/
import Derived.Deep.Cut
import Derived.Deep.MidRow
import Derived.Test.YtdldkkoplgkloaaGreatPa0
import Derived.Test.YtdldkkoplgkloaaGreatPa4
namespace Go.Proofs.YtdldkkoplgkloaaGreat
set_option linter.unusedVariables false
set_option linter.unusedSimpArgs false
set_option maxRecDepth 100000
set_option maxHeartbeats 32000000
open Go.Value renaming int → ae
open Go.IntKind renaming i64 → aa
namespace fZ
open Go.RowKit base obj mem sep bC aW chain
def tA (r:Nat):Value:=.agg ((List.range 8).map fun i=>Value.int .u32 ((ks.getD (8*r+i) 0:Nat):Int)).toArray
def yr:Array Value:=(ks.map fun n:Nat=>Value.int .u32 (n:Int)).toArray
theorem NI (k:Nat) (h:k < 8) (w:World):(Instr.index 273 (.agg yr) (ae aa (k:Int))).run Tryz.prog w=.ok (tA k) w:=by
 rcases (by omega:k=0∨k=1∨k=2∨k=3∨k=4∨k=5∨k=6∨k=7) with rfl|rfl|rfl|rfl|rfl|rfl|rfl|rfl<;>kernel_rfl
theorem KZ (k i:Nat) (h:k < 8) (hi:i < 8) (w:World):(Instr.index 242 (tA k) (ae aa (i:Int))).run Tryz.prog w=.ok (.int .u32 ((ks.getD (8*k+i) 0:Nat):Int)) w:=by
 rcases (by omega:k=0∨k=1∨k=2∨k=3∨k=4∨k=5∨k=6∨k=7) with rfl|rfl|rfl|rfl|rfl|rfl|rfl|rfl <;>
 rcases (by omega:i=0∨i=1∨i=2∨i=3∨i=4∨i=5∨i=6∨i=7) with rfl|rfl|rfl|rfl|rfl|rfl|rfl|rfl<;>kernel_rfl
theorem Sc:(Tryz.prog.info? 273).map (·.size)=some yr.size:=by kernel_rfl
theorem Vz:∀v∈yr.toList,v.oneCell'=true:=fun v hv=>by
 obtain ⟨n,_,rfl⟩:=List.mem_map.1 hv;rfl
theorem LY (w:World):Calls Tryz.prog 208 #[] w fun e w'=>e=.returned (.agg yr)∧Below w.heap.size w w':=by
 have MS:=af Sc;have MO:=af Vz;go_enter Tryz.func208,Tryz.ntmps208;go_upto_region 1 with fail;refine wp_region_lit ?_;refine kS (v:=tA 0) rfl (by kernel_rfl) ?_;try dsimp only
 try simp only [Act.put,xS]
 refine kS (v:=tA 1) rfl (by kernel_rfl) ?_;try dsimp only
 try simp only [Act.put,xS]
 refine kS (v:=tA 2) rfl (by kernel_rfl) ?_;try dsimp only
 try simp only [Act.put,xS]
 refine kS (v:=tA 3) rfl (by kernel_rfl) ?_;try dsimp only
 try simp only [Act.put,xS]
 refine kS (v:=tA 4) rfl (by kernel_rfl) ?_;try dsimp only
 try simp only [Act.put,xS]
 refine kS (v:=tA 5) rfl (by kernel_rfl) ?_;try dsimp only
 try simp only [Act.put,xS]
 refine kS (v:=tA 6) rfl (by kernel_rfl) ?_;try dsimp only
 try simp only [Act.put,xS]
 refine kS (v:=tA 7) rfl (by kernel_rfl) ?_;try dsimp only
 try simp only [Act.put,xS]
 refine kS (v:=.agg yr) rfl (by kernel_rfl) ?_;try dsimp only
 try simp only [Act.put,xS]
 have Bd:=af ((Below.refl w.heap.size w).alloc (Nat.le_refl _) (.cells yr 273));refine ie rfl 273 (.tmp 0) (.tmp 9) rfl yr _ 273 w.heap.size rfl rfl MS.o (by rfl) MO.o ?_ rfl;go_wp2_with fail;refine bodyPost_ret (results_cell_row (cs:=yr) rfl _ _ w.heap.size _ _ _ rfl (heap_alloc_new _ _) Tryz.underlying273 rfl MS.o) rfl ?_;exact ⟨rfl,Bd.o⟩
def W8.arr (v:W8):Array Value:=#[.int .u32 v.a,.int .u32 v.b,.int .u32 v.c,.int .u32 v.d,.int .u32 v.e,.int .u32 v.f,.int .u32 v.g,.int .u32 v.h]
def dt (v:W8) (part:List Int) (n:Int):List Value:=v.arr.toList++(part.map (Value.int .u8)++[ae aa n])
theorem vr (v:W8) {part:List Int} (hl:part.length=64) (n:Int):(dt v part n).length=73:=by simp [dt,W8.arr,hl]
theorem DG (v:W8) {part:List Int} (hl:part.length=64) (hb:bn part) (n:Int) (i:Nat) (hi:i < 64):(dt v part n)[8+i]?=some (.int .u8 (jo part i:Nat)):=by
 have h1:=hb part[i] (List.getElem_mem _);unfold dt jo;rw [List.getElem?_append_right (by simp [W8.arr]),show 8+i-v.arr.toList.length=i by simp [W8.arr],List.getElem?_append_left (by simp [hl];exact hi),List.getElem?_map,dD,cN (by omega)];simp only [Option.map_some,Option.getD_some];rw [Int.toNat_of_nonneg h1.1]
theorem Ae (v:W8) {part:List Int} (hl:part.length=64) (n:Int):(dt v part n)[72]?=some (ae aa n):=by
 unfold dt;rw [List.getElem?_append_right (by simp [W8.arr]),List.getElem?_append_right (by simp [W8.arr,hl])];simp [W8.arr,hl]
theorem V0 (v:W8) (part:List Int) (n:Int):((dt v part n).drop 0).take v.arr.toList.length=v.arr.toList:=by
 simp [dt]
theorem M6 (v u:W8) (part:List Int) (n:Int):(dt v part n).take 0++u.arr.toList++(dt v part n).drop (0+u.arr.size)=dt u part n:=by
 simp [dt,W8.arr]
theorem Da (v:W8):∀x∈v.arr.toList,x.oneCell'=true:=by
 intro x hx;simp [W8.arr] at hx;rcases hx with rfl|rfl|rfl|rfl|rfl|rfl|rfl|rfl<;>rfl
def z8:W8:=⟨0,0,0,0,0,0,0,0⟩
theorem Xv:(Tryz.prog.info? 238).map (·.zero)=some (some (.agg z8.arr)):=by kernel_rfl
theorem wS (v:W8):(Tryz.prog.info? 238).map (·.size)=some v.arr.size:=by kernel_rfl
theorem tj {P:Program} {o:Oper} {a:Act} {w:World} {K:Act→World→Prop} {Q:Exit→Act→World→Prop} (ty:TypeId) (x y:Operand) (ho:o.op=.store ty x y) (g off:Nat) (cells:Array Value) (hx:a.eval x=.pointer (some ⟨g,off,none⟩)) (hy:a.eval y=.agg cells)
  {t:TypeId} {xs:List Value} (hg:Row w g t xs) (hi:(P.info? ty).map (·.size)=some cells.size) (oq:off+cells.size≤xs.length) (h1:∀v∈cells.toList,v.oneCell'=true)
  (r:List Value) (hr:xs.take off++cells.toList++xs.drop (off+cells.size)=r)
  (h:K (a.put o.dst undef) (w.setRow g r.toArray)):Oper.wp P o a w K Q:=by
 subst hr;have ak:=run_storeCells_at P g off t cells.toList 0 xs.toArray w hg (by simpa using oq) h1;simp only [Nat.add_zero,Array.length_toList] at ak;cases hq:P.info? ty with
 | none=>simp [hq] at hi
 | some i =>
   have hs:i.size=cells.size:=by simpa [hq] using hi
   have hv:(storeVar ty ⟨g,off,none⟩ (.agg cells)).run P w=.ok () (w.setRow g (xs.take off++cells.toList++xs.drop (off+cells.size)).toArray):=by
    simp [storeVar,sizeOf,typeInfo,hq,Value.cells,hs];simpa using ak
   unfold Oper.wp execOp;simp only [ho,hx,hy,Instr.storeAt,Instr.sureAddr,Sem.run_bind,Sem.run_pure,Result.andThen_ok,hv];exact h
theorem abB (k:Nat):tA k=.agg ((List.range 8).map fun i=>Value.int .u32 ((ks.getD (8*k+i) 0:Nat):Int)).toArray:=rfl
theorem abA (i:Nat):ks.getD i 0 < 2 ^ 32:=by
 by_cases h:i < 64
 ·have:∀i,i < 64→ks.getD i 0 < 2 ^ 32:=by decide +kernel
  exact this i h
 ·rw [dD,List.getElem?_eq_none (by show ks.length≤i;rw [show ks.length=64 from rfl];omega)]
  decide
theorem YO {w0 w:World} {l:List aI} {g:Nat} {v:W8} {part:List Int} {n:Int} (h:St w0 w (row g 240 (dt v part n)::l)) (hv:v.Ok) (hl:part.length=64) (hb:bn part) :
  Calls Tryz.prog 197 #[.pointer (some ⟨g,0,none⟩)] w fun e w'=>e=.returned (.tuple #[])∧St w0 w' (row g 240 (dt (comp v part) part n)::l):=by
 have Z:=af Ni;have Z8:=af Xv;have H:=af h;have hw:=Uq w g part hl hb (fun i hi=>(h.row.1.cell (8+i)).trans (DG v hl hb n i hi)) h.row.1.lt;have HV:=af hv;have HL:=af hl;have HB:=af hb;have hsw:(Tryz.prog.info? 270).map (·.size)=some (dx part 64).toArray.size:=by rw [List.size_toArray,iT part 64 (by omega)];kernel_rfl
 have how:∀v∈(dx part 64).toArray.toList,v.oneCell'=true:=fun v hv=>by
  rcases List.mem_append.1 hv with h|h
  ·obtain ⟨x,_,rfl⟩:=List.mem_map.1 h;rfl
  ·rw [(List.mem_replicate.1 h).2];rfl
 have iP:zW.size=(dx part 64).toArray.size:=(iT [] 0 (by omega)).trans (iT part 64 (by omega)).symm;have z9:∀j,j < 64→(dx part 64).toArray.toList[j]?=some (.int .u32 ((fh part 64).getD j 0:Nat)):=fun j hj=>sg part 64 j hj;generalize (dx part 64).toArray=WA at hw hsw how iP z9;have HW:=af hw;have HSW:=af hsw;have Ba:=af how;have mv:=af iP;have adx:=af z9;clear hw hsw how iP z9;clear h hv hl hb;go_enter Tryz.func197,Tryz.ntmps197;go_wp2_with fail;refine HW.o.mono ?_;rintro e w1 ⟨rfl,kb⟩;have H1:=af (H.o.below kb);clear kb;have sU:=H1.o.row.1;have Gp:=af sU;have HH:=af (((H1.o.new 270 WA).new 238 v.arr));clear sU;generalize NO:v.arr=VA at *;have aae:VA.size=8:=by rw [←NO];rfl
 have aaf:∀x∈VA.toList,x.oneCell'=true:=by rw [←NO];exact Da v
 have hvs:(Tryz.prog.info? 238).map (·.size)=some VA.size:=by rw [←NO];exact wS v
 have hvg:((dt v part n).drop 0).take VA.toList.length=VA.toList:=by rw [←NO];exact V0 v part n
 have HVA:=af NO;have acZ:=af aae;have ac0:=af aaf;have TP:=af hvs;have HVG:=af hvg;clear NO aae aaf hvs hvg
 go_upto_region 1 with (first
  | (with_reducible refine ig rfl 270 rfl (.agg zW) Z.o ?_)
  | (refine ie rfl 270 (.tmp 2) (.tmp 11) rfl WA _ 270 w1.heap.size rfl rfl HSW.o mv.o Ba.o ?_ rfl))
 refine wp_region_lit ?_;refine qo [_,_,_] _ _ ?_;iterate 3 still_step
 refine wpStill_nil ?_;refine jM rfl 238 (.tmp 14) rfl g 0 rfl VA.toList _ (Gp.o.alloc _) HVG.o Tryz.underlying238 rfl (by rw [TP.o];rfl) ?_;refine ig rfl 238 rfl (.agg z8.arr) Z8.o ?_;refine ie rfl 238 (.tmp 3) (.tmp 15) rfl VA _ 238 (w1.alloc (.cells WA 270)).heap.size rfl rfl TP.o (by rw [acZ.o];rfl) ac0.o ?_ rfl;try simp only [k9]
 go_wp2_with fail;have hci:=NI;have hcw:=KZ;have HC:=af LY;clear hci hcw;refine (HC.o _).mono ?_;rintro e w2 ⟨rfl,bT⟩;have hh:=HH.o.below bT;rw [k9] at hh;have H2:=af hh;clear hh bT;have HI:RowKit.Hid (∀(k:Nat),k < 8→∀w,(Instr.index 273 (.agg yr) (ae aa (k:Int))).run Tryz.prog w=.ok (tA k) w):=af NI;generalize yr=KA at HI ⊢;go_wp2_with fail;go_loopw [17] (fun i wr=>∃k:Nat,k≤8∧i=ae aa k∧St w0 wr (row (w1.heap.size+1) 238 (uK v (fh part 64) (8*k)).arr.toList::row w1.heap.size 270 WA.toList::row g 240 (dt v part n)::l)) (fun i _=>8-(intOf i).toNat)
 case atStart=>exact ⟨0,by omega,rfl,by rw [Nat.mul_zero,uK,HVA.o];exact H2.o⟩
 case round =>
  obtain ⟨k,hk,rfl,h3⟩:=hrel;have H3:=af h3;clear h3;by_cases aH:k < 8
  ·have df:(k:Int) < 8:=by omega
   have N0:=HI.o k aH
   obtain ⟨KR,hKR,AM,jm⟩:∃KR:Array Value,tA k=.agg KR∧KR.size=8∧∀v∈KR.toList,v.oneCell'=true:=⟨_,abB k,by simp,fun v hv=>by
    obtain ⟨x,_,rfl⟩:=List.mem_map.1 hv;rfl⟩
   have hcw:∀i:Nat,i < 8→∀w,(Instr.index 242 (.agg KR) (ae aa (i:Int))).run Tryz.prog w=.ok (.int .u32 ((ks.getD (8*k+i) 0:Nat):Int)) w:=by rw [←hKR];exact fun i hi=>KZ k i aH hi
   rw [hKR] at N0;have Sy:(Tryz.prog.info? 242).map (·.size)=some KR.size:=by rw [AM];kernel_rfl
   have HKS:=af AM;have MC:=af jm;have HCW:=af hcw;have HKZ:=af Sy;clear hKR AM jm hcw Sy;go_upto_region 5 with (refine ie rfl 242 (.tmp 5) (.tmp 20) rfl KR _ 242 wr.heap.size rfl rfl HKZ.o (by rw [HKS.o];rfl) MC.o ?_ rfl)
   refine wp_region_lit ?_;refine jM rfl 242 (.tmp 5) rfl wr.heap.size 0 rfl KR.toList _ (Row.new wr _ KR) (by rw [List.drop_zero,List.take_length]) Tryz.underlying242 rfl (by rw [HKZ.o];rfl) ?_;have H4:=af (H3.o.below ((Below.refl _ _).alloc (Nat.le_refl _) (.cells KR 242)));go_wp2_with fail;go_loopw [22] (fun i wx=>∃j:Nat,j≤8∧i=ae aa j∧St w0 wx (row (w1.heap.size+1) 238 (uK v (fh part 64) (8*k+j)).arr.toList::row w1.heap.size 270 WA.toList::row g 240 (dt v part n)::l)) (fun i _=>8-(intOf i).toNat)
   case atStart=>exact ⟨0,by omega,rfl,H4.o⟩
   case round =>
    obtain ⟨j,hj,rfl,h5⟩:=hrel;have H5:=af h5;clear h5;by_cases uM:j < 8
    ·have tD:(j:Int) < 8:=by omega
     have hxj:=HCW.o j uM;obtain ⟨u,hu⟩:=xE (uK v (fh part 64) (8*k+j));have h5:=H5.o;rw [←hu] at h5;have FB:u.Ok:=by rw [hu];exact Fe HV.o _ _
     have gp:uK v (fh part 64) (8*k+(j+1))=E6 u ((ks.getD (8*k+j) 0+(fh part 64).getD (8*k+j) 0) % M):=by
      rw [show 8*k+(j+1)=8*k+j+1 by omega,uK,←hu,Q7 u FB]
     have iG:=abA (8*k+j)
     have fF:(fh part 64).getD (8*k+j) 0 < 2 ^ 32:=by
      rw [dD,cN (by rw [ib];omega)];exact Bl HB.o 64 _ (List.getElem_mem _)
     have hwc:=((h5.pick 1 rfl).row.1.cell (8*k+j)).trans (adx.o (8*k+j) (by omega));have bQ:=fun w=>UY w u FB ((ks.getD (8*k+j) 0+(fh part 64).getD (8*k+j) 0) % M) (Nat.mod_lt _ (by decide));generalize ks.getD (8*k+j) 0=kj at *;generalize (fh part 64).getD (8*k+j) 0=wj at *;have hm:((((kj+wj) % M:Nat)):Int)=((kj:Int)+(wj:Int)) % 4294967296:=rfl;rw [hm] at bQ;have aah:u.arr.size=8:=rfl;have La:=wS u;change ∀w,Calls Tryz.prog _ #[.agg u.arr,_,_,_] w _ at bQ;obtain ⟨N,hN⟩:=xE (E6 u ((kj+wj) % M));rw [←hN] at bQ gp;have S2:=Da N;have SZ:=wS N;have SY:N.arr.size=8:=rfl;change ∀w,Calls Tryz.prog _ _ w (fun e w'=>e=.returned (.agg N.arr)∧_) at bQ;rw [←gp] at hN;have lK:=af gp;generalize u.arr=UA at *;generalize Sv:N.arr=NA at *;have HNA:=af Sv;have TX:=af S2;have TW:=af SZ;have HNZ:=af SY;have aa9:=af aah;have WB:=af La;have H5':=af h5;have px:=af bQ;clear hu FB gp iG fF bQ hm hN Sv S2 SZ SY aah La h5;have i1:IntKind.i64.wrap (8*(k:Int))=8*(k:Int):=IntWalk.i64_in _ ⟨by omega,by omega⟩;have i2:IntKind.i64.wrap (8*(k:Int)+(j:Int))=8*(k:Int)+(j:Int):=IntWalk.i64_in _ ⟨by omega,by omega⟩;have i3:(0:Int)≤8*(k:Int)+(j:Int):=by omega
     have i4:8*(k:Int)+(j:Int) < 64:=by omega
     have i5:(8*(k:Int)+(j:Int)).toNat=8*k+j:=by omega
     go_wp2_with fail;refine dN ?_;refine bk [1,2,4] ?_;simp only [pick,xG];iterate 3 still_step
     refine wpStill_nil ?_;refine gh 3 (ae aa (8*(k:Int))) (by kernel_rfl) (fun _ _ _ _ _ h=>h) (by rfl) ?_ ?_
     ·intro w2;try simp only [xG]
      go_simp
     try simp only [ai]
     refine gh 5 (ae aa (8*(k:Int)+(j:Int))) (by kernel_rfl) (fun _ _ _ _ _ h=>h) (by rfl) ?_ ?_
     ·intro w2;try simp only [xG]
      go_simp
     try simp only [ai]
     refine bk [6,7] ?_;simp only [pick,xG];iterate 2 still_step
     refine wpStill_nil ?_;refine gh 8 (.int .u32 (((kj:Int)+(wj:Int)) % 4294967296)) (by kernel_rfl) (fun _ _ _ _ _ h=>h) (by rfl) ?_ ?_
     ·intro w2;try simp only [xG]
      go_simp;exact IntKind.wrap_u32 _
     try simp only [ai]
     refine bk [0] ?_;simp only [pick,xG];refine tX rfl 238 (.tmp 3) rfl UA ⟨w1.heap.size+1,0,none⟩ rfl (run_loadVar_row wr.drew (w1.heap.size+1) 238 238 UA (0,0) _ (by exact H5'.o.drew.row.1) Tryz.underlying238 rfl WB.o) ?_;refine wpStill_nil ?_;try simp only [ai]
     refine aK 9 ?_;try simp only [xG]
     go_simp;refine (px.o _).mono ?_;rintro e w6 ⟨rfl,um⟩;have H6:=af (H5'.o.drew.below um);clear um;try dsimp only
     try simp only [Act.put,xS]
     refine aK 10 ?_;try simp only [xG]
     refine tj 238 (.tmp 3) (.tmp 35) rfl (w1.heap.size+1) 0 NA rfl rfl H6.o.row.1 TW.o (by rw [HNZ.o,Array.length_toList,aa9.o];omega) TX.o NA.toList (by rw [List.take_zero,List.nil_append,List.drop_of_length_le (by rw [HNZ.o,Array.length_toList,aa9.o];omega),List.append_nil]) ?_;have H7:=af (H6.o.setRow NA.toList);try dsimp only
     refine cw ?_;go_wp2_with fail;go_roundw
     case rel =>
      refine ⟨j+1,by omega,by go_num,?_⟩;rw [lK.o,HNA.o];exact H7.o
     case measure=>simp [intOf];omega
    ·have tD:¬(j:Int) < 8:=by omega
     have BR:j=8:=by omega
     have HJ:=af BR;clear BR;go_wp2_with fail;go_roundw
     case rel =>
      refine ⟨k+1,by omega,by go_num,?_⟩;have h:=H5.o;rw [HJ.o] at h;exact h
     case measure=>simp [intOf];omega
  ·have df:¬(k:Int) < 8:=by omega
   have xO:k=8:=by omega
   have HK:=af xO;clear xO;obtain ⟨u,hu⟩:=xE (uK v (fh part 64) (8*k));have h3:=H3.o;rw [←hu] at h3;have iQ:=fun w=>Yf w v u;have hN:comp v part=plus v u:=by rw [hu,HK.o];rfl
   obtain ⟨N,hN2⟩:=xE (plus v u);rw [←hN2] at iQ hN;have QO:=af hN;change ∀w,Calls Tryz.prog _ #[.agg v.arr,.agg u.arr] w (fun e w'=>e=.returned (.agg N.arr)∧_) at iQ;have La:=wS u;have S2:=Da N;have SZ:=wS N;have SY:N.arr.size=8:=rfl;have kT:=M6 v N part n;rw [HVA.o] at iQ;generalize u.arr=UA at *;generalize Sv:N.arr=NA at *;have H8:=af h3;have Mx:=af iQ;have WB:=af La;have TX:=af S2;have TW:=af SZ;have HNZ:=af SY;have wZ:=af kT;have HNA:=af Sv;clear hu h3 iQ hN hN2 La S2 SZ SY kT Sv;have hlh:=vr v HL.o n;have HLH:=af hlh;clear hlh;go_wp2_with fail;refine dN ?_;refine bk [0,1,2,3,4,5] ?_;simp only [pick,xG];iterate 4 still_step
   refine tX rfl 238 (.tmp 41) rfl VA ⟨g,0,none⟩ rfl (run_loadVar_mid wr.drew g 0 238 VA.toList _ (by rw [←HVG.o];exact (H8.o.drew.pick 2 rfl).row.1.range 0 VA.toList.length) Tryz.underlying238 rfl TP.o) ?_;refine tX rfl 238 (.tmp 3) rfl UA ⟨w1.heap.size+1,0,none⟩ rfl (run_loadVar_row wr.drew (w1.heap.size+1) 238 238 UA (0,0) _ (by exact H8.o.drew.row.1) Tryz.underlying238 rfl WB.o) ?_;refine wpStill_nil ?_;refine aK 6 ?_;try simp only [xG]
   go_simp;refine (Mx.o _).mono ?_;rintro e w6 ⟨rfl,um⟩;have H9:=af ((H8.o.drew.below um).pick 2 rfl);clear um;try dsimp only
   try simp only [Act.put,xS]
   refine bk [7,8] ?_;simp only [pick,xG];iterate 2 still_step
   refine wpStill_nil ?_;refine aK 9 ?_;try simp only [xG]
   refine tj 238 (.tmp 46) (.tmp 44) rfl g 0 NA rfl rfl H9.o.row.1 TW.o (by rw [HNZ.o,HLH.o];omega) TX.o (dt N part n) (by rw [←HNA.o];rw [←HNA.o] at wZ;exact wZ.o) ?_;have mR:=af ((H9.o.setRow (dt N part n)));try dsimp only
   refine cw ?_;go_wp2_with fail
   go_end0
   refine ⟨rfl,?_⟩;rw [QO.o];exact mR.o.swap.drop.swap.drop
end fZ
namespace fZ
open Go.RowKit base obj mem sep bC num aW chain
section
variable {l:List aI} {g:Nat} {w w0:World}
def qx (g:Nat) (h:HS):aI:=row g 240 (dt h.v h.part h.n)
theorem Qb (v:W8) (part:List Int) (hl:part.length=64) (n c:Int) (q:Nat) (hq:q < 64):(dt v part n).set (8+q) (.int .u8 c)=dt v (part.set q c) n:=by
 unfold dt;rw [List.set_append_right _ _ (by simp [W8.arr]),show 8+q-v.arr.toList.length=q by simp [W8.arr],List.set_append_left _ _ (by simp [hl];exact hq),List.map_set]
theorem M7 (v:W8) (part:List Int) (hl:part.length=64) (n c:Int):(dt v part n).set 72 (ae aa c)=dt v part c:=by
 unfold dt;rw [List.set_append_right _ _ (by simp [W8.arr]),List.set_append_right _ _ (by simp [W8.arr,hl])];simp [W8.arr,hl]
theorem jw {h:HS} (H:St w0 w (qx g h::l)) (hh:h.Ok) (hn:h.n < 1099511627776) (c:Int) (h0:0≤c) (h1:c≤255) :
  Calls Tryz.prog 171 #[.pointer (some ⟨g,0,none⟩),.int .u8 c] w fun e w'=>e=.returned (.tuple #[])∧St w0 w' (qx g (h.put c)::l):=by
 obtain ⟨v,part,n⟩:=h;obtain ⟨hv,hl,hb⟩:=hh;simp only [qx] at *;have HF:=af (fun (w:World) (part:List Int) (n:Int) (H:St w0 w (row g 240 (dt v part n)::l)) (hl:part.length=64) (hb:bn part)=>YO H hv hl hb);have hlg:=H.row.1.lt;have cn:=(H.row.1.cell 72).trans (Ae v hl n);have fn:=H.row.1.frozen 72;obtain ⟨q,hq⟩:=xE (n % 64);have aap:q < 64:=by omega
 have cq:=(H.row.1.cell (8+q)).trans (DG v hl hb n q aap);have fq:=H.row.1.frozen (8+q);have e1:(n:Int) % 64=(q:Int):=by omega
 have e2:(0:Int)≤(q:Int):=by omega
 have e3:(q:Int) < 64:=by omega
 have bT:bn (part.set q c):=fun z hz=>by
  rcases List.mem_or_eq_of_mem_set hz with k|k
  ·exact hb z k
  ·rw [k];exact ⟨h0,h1⟩
 have pK:=((H.set (8+q) (.int .u8 c)).set 72 (ae aa ((n:Int)+1)))
 rw [Qb v part hl (n:Int) c q aap,M7 v (part.set q c) (by simp [hl]) (n:Int) ((n:Int)+1)] at pK;have iy:=af pK.drew;clear pK;have HL:=af hl;have aO:=af bT;have HQ:=af hq;clear H hv hl hb bT hq;by_cases hz:(n+1) % 64=0
 ·have e4:(((n:Int)+1) % 64==0)=true:=by
   rw [beq_iff_eq];omega
  have uH:HS.put ⟨v,part,n⟩ c=⟨comp v (part.set q c),part.set q c,n+1⟩:=by
   unfold HS.put;simp only [hz,if_true,HQ.o]
  rw [uH];clear hz uH;go_enter Tryz.func171,Tryz.ntmps171;go_wp2_with fail
  go_region
  go_wp2_with fail;refine (HF.o _ _ _ iy.o (by simp [HL.o]) aO.o).mono ?_;rintro e w2 ⟨rfl,h2⟩;have H2:=af h2;clear h2;go_wp2_with fail
  go_end0
  exact ⟨rfl,H2.o⟩
 ·have e4:(((n:Int)+1) % 64==0)=false:=by
   rw [beq_eq_false_iff_ne];omega
  have uH:HS.put ⟨v,part,n⟩ c=⟨v,part.set q c,n+1⟩:=by
   unfold HS.put;simp only [hz,if_false,HQ.o]
  rw [uH];clear hz uH;go_enter Tryz.func171,Tryz.ntmps171;go_wp2_with fail
  go_region
  go_wp2_with fail
  go_end0
  exact ⟨rfl,iy.o⟩
theorem Vp:(Tryz.prog.info? 240).map (·.zero)=some (some (.agg (dt z8 (List.replicate 64 0) 0).toArray)):=by kernel_rfl
theorem ZU (H:St w0 w l):Calls Tryz.prog 125 #[] w fun e w'=>∃g,e=.returned (.pointer (some ⟨g,0,none⟩))∧St w0 w' (qx g h0::l):=by
 have nX:=af (H.new 240 (dt first (List.replicate 64 0) 0).toArray);clear H;go_enter Tryz.func125,Tryz.ntmps125;go_upto_region 1 with fail;refine wp_region_lit ?_;refine kS (v:=.agg first.arr) rfl (by kernel_rfl) ?_;try dsimp only
 try simp only [Act.put,xS]
 refine kS (v:=.agg (dt first (List.replicate 64 0) 0).toArray) rfl (by kernel_rfl) ?_;try dsimp only
 try simp only [Act.put,xS]
 generalize first.arr=FA
 generalize S3:(dt first (List.replicate 64 0) 0).toArray=HA at nX ⊢;have zt:=af S3;clear S3;go_wp2_with fail;go_ret;refine ⟨w.heap.size,rfl,?_⟩;have h:=nX.o;rw [←zt.o] at h ⊢;exact h
theorem kf {h:HS} (H:St w0 w (qx g h::l)) (hh:h.Ok) (A:Option Addr) (n c:Nat) (bs:List Int) (hn:bs.length=n) (hm:h.n+n < 1099511627776) (hb:bn bs) (hs:∀(w':World) (x:HS),St w0 w' (qx g x::l)→Sl w' w'.heap.size 1 A n (bs.map (.int .u8))) :
  Calls Tryz.prog 127 #[.pointer (some ⟨g,0,none⟩),.slice A n c] w fun e w'=>e=.returned (.tuple #[])∧St w0 w' (qx g (h.write bs)::l):=by
 have HH:=af H;have HO:=af hh;have HB:=af hb;have lJ:=af hs;have HN:=af hn;clear H hh hb hs hn;go_enter Tryz.func127,Tryz.ntmps127;go_wp2_with fail;go_loopw [10] (fun i wr=>∃k:Nat,k≤n∧i=ae aa k∧St w0 wr (qx g (h.write (bs.take k))::l)) (fun i _=>n-(intOf i).toNat)
 case atStart=>exact ⟨0,by omega,rfl,HH.o⟩
 case round =>
  obtain ⟨k,hk,rfl,hr⟩:=hrel;have HR:=af hr;clear hr;by_cases aH:k < n
  ·have df:(k:Int) < (n:Int):=by omega
   have i0:(0:Int)≤(k:Int):=by omega
   have zc:k < bs.length:=by rw [HN.o];exact aH
   obtain ⟨b,off,rfl,cm,hc⟩:=(lJ.o _ _ HR.o).2 (by omega);have hz:=HB.o bs[k] (List.getElem_mem zc);have c1:=hc k (.int .u8 bs[k]) (by simp [zc]);have uH:=jw HR.o (zu (bs.take k) h HO.o fun z hz=>HB.o z (List.mem_of_mem_take hz)) (by rw [CA,fW];omega) bs[k] hz.1 hz.2;rw [←qh,←kr zc] at uH;generalize bs[k]=z at *;have HP:=af uH;clear uH hc hz;go_wp2_with fail;refine HP.o.mono ?_;rintro e w2 ⟨rfl,h2⟩;have H2:=af h2;clear h2;go_wp2_with fail;go_roundw;case rel=>exact ⟨k+1,by omega,by go_num,H2.o⟩
   case measure=>simp [intOf];omega
  ·have df:¬(k:Int) < (n:Int):=by omega
   have dy:k=n:=by omega
   have HK:=af dy;clear dy;go_wp2_with fail
   go_end0
   refine ⟨rfl,?_⟩;have h:=HR.o;rw [HK.o,List.take_of_length_le (by rw [HN.o];exact Nat.le_refl _)] at h;exact h
def jx (v:W8) (p:Nat):List Value:=((su v).take p).map (Value.int .u8)++List.replicate (32-p) (.int .u8 0)
theorem zQ (v:W8) (p:Nat) (hp:p≤32):(jx v p).length=32:=by simp [jx,qY];omega
theorem Vh (v:W8) (i k:Nat) (hi:i < 8) (hk:k < 4):(su v)[4*i+k]?=some (digit 4 (v.list.getD i 0) k):=by
 rcases (by omega:i=0∨i=1∨i=2∨i=3∨i=4∨i=5∨i=6∨i=7) with rfl|rfl|rfl|rfl|rfl|rfl|rfl|rfl <;>
 rcases (by omega:k=0∨k=1∨k=2∨k=3) with rfl|rfl|rfl|rfl<;>rfl
theorem Pw (v:W8) (i k:Nat) (hi:i < 8) (hk:k < 4):(jx v (4*i+k)).set (4*i+k) (.int .u8 (digit 4 (v.list.getD i 0) k))=jx v (4*i+k+1):=by
 have h:=Vh v i k hi hk;obtain ⟨h1,h2⟩:=List.getElem?_eq_some_iff.1 h;unfold jx;rw [List.set_append_right _ _ (by simp;omega),kr h1,List.map_append,List.append_assoc]
 congr 1
 simp only [iB,fW,qY];rw [show 4*i+k-min (4*i+k) 32=0 by omega,show 32-(4*i+k)=(32-(4*i+k+1))+1 by omega,List.replicate_succ,h2];rfl
theorem Ug:(Tryz.prog.info? 198).map (·.zero)=some (some (.agg (jx z8 0).toArray)):=by kernel_rfl
theorem Ur (v:W8) (i:Nat) (hi:i < 8) (w:World):(Instr.index 242 (.agg v.arr) (ae aa (i:Int))).run Tryz.prog w=.ok (.int .u32 ((v.list.getD i 0:Nat):Int)) w:=by
 rcases (by omega:i=0∨i=1∨i=2∨i=3∨i=4∨i=5∨i=6∨i=7) with rfl|rfl|rfl|rfl|rfl|rfl|rfl|rfl<;>kernel_rfl
def UC (X B:Nat) (w:World):Nat:=B-(match w.cell? ⟨X,72,none⟩ with|some (.int _ z)=>z.toNat|_=>0)
theorem Nq {h:HS} (H:St w0 w (qx g h::l)) (hl:h.part.length=64) (B:Nat):UC g B w=B-h.n:=by
 unfold UC;rw [(H.row.1.cell 72).trans (Ae h.v hl h.n)];simp
theorem vV {bs:List Int} (H:St w0 w (qx g (h0.write bs)::l)) (hb:bn bs) (hm:bs.length≤1000000) :
  Calls Tryz.prog 128 #[.pointer (some ⟨g,0,none⟩)] w fun e w'=>e=.returned (.agg ((gG bs).map (Value.int .u8)).toArray)∧Below w.heap.size w w':=by
 have HH:=af H;have HB:=af hb;have HM:=af hm;have ho:=zu bs h0 J3 hb;have hn:(h0.write bs).n=bs.length:=by rw [CA];simp [h0]
 have Z73:=af Vp;have iP:(Tryz.prog.info? 240).map (·.size)=some (dt (h0.write bs).v (h0.write bs).part (h0.write bs).n).toArray.size:=by rw [List.size_toArray,vr _ ho.2.1];kernel_rfl
 have aac:(dt z8 (List.replicate 64 0) 0).toArray.size=(dt (h0.write bs).v (h0.write bs).part (h0.write bs).n).toArray.size:=(vr z8 (by simp) 0).trans (vr _ ho.2.1 _).symm
 have GV:∀x∈(dt (h0.write bs).v (h0.write bs).part (h0.write bs).n).toArray.toList,x.oneCell'=true:=fun x hx=>by
  rcases List.mem_append.1 hx with h|h
  ·exact Da _ x h
  ·rcases List.mem_append.1 h with h|h
   ·obtain ⟨y,_,rfl⟩:=List.mem_map.1 h;rfl
   ·rw [List.mem_singleton.1 h];rfl
 have bo:=H.row.1;have hlg:=bo.lt;change Row w g 240 (dt (h0.write bs).v (h0.write bs).part (h0.write bs).n).toArray.toList at bo;generalize S3:(dt (h0.write bs).v (h0.write bs).part (h0.write bs).n).toArray=HA at *;have zt:=af S3;have mv:=af iP;have HZ:=af aac;have adh:=af GV;have hM:=af bo;have HO:=af ho;have HN:=af hn;clear H hb hm ho hn S3 iP aac GV bo;go_enter Tryz.func128,Tryz.ntmps128;go_upto_region 4 with fail;have ack:(#[.int .u8 0,.int .u8 0,.int .u8 0,.int .u8 0,.int .u8 0,.int .u8 0,.int .u8 0,.int .u8 0,.int .u8 0,.int .u8 0,.int .u8 0,.int .u8 0,.int .u8 0,.int .u8 0,.int .u8 0,.int .u8 0,.int .u8 0,.int .u8 0,.int .u8 0,.int .u8 0,.int .u8 0,.int .u8 0,.int .u8 0,.int .u8 0,.int .u8 0,.int .u8 0,.int .u8 0,.int .u8 0,.int .u8 0,.int .u8 0,.int .u8 0,.int .u8 0]:Array Value)=(jx z8 0).toArray:=rfl;rw [ack];generalize hOZ:(jx z8 0).toArray=OZ;have ak:=(((St.nil w).new 198 OZ).new 198 OZ).new 240 HA;have WZ:=((hM.o.alloc (.cells OZ 198)).alloc (.cells OZ 198))
 simp only [k9] at ak;have bH:=af ak;have De:=af WZ;have HOZ:=af hOZ;clear ak WZ hOZ;refine wp_region_lit ?_;refine qo [_,_] _ _ ?_;iterate 2 still_step
 refine wpStill_nil ?_;refine jM rfl 240 (.tmp 13) rfl g 0 rfl HA.toList _ De.o (by rw [List.drop_zero,List.take_length]) Tryz.underlying240 rfl (by rw [mv.o];rfl) ?_;refine ig rfl 240 rfl _ Z73.o ?_;refine ie rfl 240 (.tmp 4) (.tmp 14) rfl HA _ 240 _ rfl rfl mv.o HZ.o adh.o ?_ rfl;try simp only [k9]
 have hX:w.heap.size+1+1=w.heap.size+2:=rfl
 have uw:RowKit.Hid (St w (((w.alloc (.cells OZ 198)).alloc (.cells OZ 198)).alloc (.cells HA 240)) (qx (w.heap.size+1+1) (h0.write bs)::[row (w.heap.size+1) 198 OZ.toList,row w.heap.size 198 OZ.toList])):=af (by
  have h:=bH.o;rw [←zt.o] at h ⊢
  exact h)
 have Cl:=af (jw uw.o HO.o (by rw [HN.o];have:=HM.o;omega) 128 (by omega) (by omega));generalize ((w.alloc (.cells OZ 198)).alloc (.cells OZ 198)).alloc (.cells HA 240)=W4 at Cl ⊢;clear uw bH hX;go_wp2_with fail;refine Cl.o.mono ?_;rintro e w5 ⟨rfl,h5⟩;rw [←qh] at h5;have H5:=af h5;clear h5;go_wp2_with fail;generalize hR:([row (w.heap.size+1) 198 OZ.toList,row w.heap.size 198 OZ.toList]:List aI)=R at H5;have HR:=af hR;generalize hXX:w.heap.size+1+1=X at H5 ⊢;clear hR hXX Cl;obtain ⟨K,hK⟩:∃K,K=(119-bs.length % 64) % 64:=⟨_,rfl⟩
 have HK:=af hK;have acP:K < 64:=by omega
 have hlen:∀k,(h0.write (bs++[128]++List.replicate k 0)).n=bs.length+1+k:=fun k=>by rw [CA];simp [h0];omega
 have jL:∀k,(h0.write (bs++[128]++List.replicate k 0)).Ok:=fun k=>zu _ _ J3 fun z hz=>by
  rcases List.mem_append.1 hz with h|h
  ·rcases List.mem_append.1 h with h|h
   ·exact HB.o z h
   ·rw [List.mem_singleton.1 h];omega
  ·rw [(List.mem_replicate.1 h).2];omega
 have jr:=af hlen;have fb:=af jL;clear hK hlen jL;go_loopw [] (fun wr=>∃k:Nat,k≤K∧St w wr (qx X (h0.write (bs++[128]++List.replicate k 0))::R)) (fun wr=>UC X 2000000 wr)
 case atStart=>exact ⟨0,by omega,by rw [List.replicate_zero,List.append_nil];exact H5.o⟩
 case round =>
  obtain ⟨k,hk,hr⟩:=hrel;have c72:=(hr.row.1.cell 72).trans (Ae _ (fb.o k).2.1 _);have hm:=Nq hr (fb.o k).2.1 2000000;rw [jr.o k] at c72 hm;have rV:=af hr;have HTG:=af hm;clear hr hm;by_cases aH:k < K
  ·have e1:(((bs.length+1+k:Nat):Int) % 64 != 56)=true:=by
    rw [bne_iff_ne];have:=HK.o;omega
   have pz:=af (jw rV.o (fb.o k) (by rw [jr.o];have:=HM.o;omega) 0 (by omega) (by omega));have nk0:(0:Int)≤((bs.length+1+k:Nat):Int):=by omega
   generalize ((bs.length+1+k:Nat):Int)=nk at *;go_wp2_with fail;refine pz.o.mono ?_;rintro e w6 ⟨rfl,h6⟩;rw [←qh,List.append_assoc,←List.replicate_succ'] at h6;have H6:=af h6;clear h6;go_wp2_with fail;go_roundw;case rel=>exact ⟨k+1,by omega,H6.o⟩
   case measure =>
    have h:=Nq H6.o (fb.o (k+1)).2.1 2000000;rw [jr.o] at h;rw [h,HTG.o];have:=HM.o;omega
  ·have IG:k=K:=by omega
   have e1:(((bs.length+1+k:Nat):Int) % 64 != 56)=false:=by
    rw [bne_eq_false_iff_eq];have:=HK.o;omega
   have DU:=af IG;clear IG;have nk0:(0:Int)≤((bs.length+1+k:Nat):Int):=by omega
   generalize ((bs.length+1+k:Nat):Int)=nk at *;have oM:=rV.o;rw [DU.o,HK.o] at oM;have dK:=af oM;clear oM;have AH:=HM.o
   have aau:∀j,(h0.write (bs++[128]++List.replicate ((119-bs.length % 64) % 64) 0++(be 8 (8*bs.length)).take j)).Ok:=fun j=>zu _ _ J3 fun z hz=>by
    rcases List.mem_append.1 hz with h|h
    ·rcases List.mem_append.1 h with h|h
     ·rcases List.mem_append.1 h with h|h
      ·exact HB.o z h
      ·rw [List.mem_singleton.1 h];omega
     ·rw [(List.mem_replicate.1 h).2];omega
    ·exact qO _ _ z (List.mem_of_mem_take h)
   have Xd:∀j,(h0.write (bs++[128]++List.replicate ((119-bs.length % 64) % 64) 0++(be 8 (8*bs.length)).take j)).n < 1099511627776:=fun j=>by
    rw [CA];simp only [h0,gC,fW,bp,Bf,List.length_singleton];omega
   have adk:=af aau;have ab3:=af Xd;have cg:=(hM.o.cell 72)
   rw [←zt.o] at cg;have cg2:=cg.trans (Ae _ HO.o.2.1 _);rw [HN.o] at cg2;clear aau Xd cg AH;go_wp2_with fail;clear c72 e1 nk0;go_loopw [5] (fun i wr=>∃s:Nat,s≤8∧i=ae aa (8*(s:Int)-8)∧St w wr (qx X (h0.write (bs++[128]++List.replicate ((119-bs.length % 64) % 64) 0++(be 8 (8*bs.length)).take (8-s)))::R)) (fun i _=>(intOf i+8).toNat)
   case atStart=>exact ⟨8,by omega,rfl,by rw [Nat.sub_self,List.take_zero,List.append_nil];exact dK.o⟩
   case round =>
    obtain ⟨s,hs,rfl,h7⟩:=hrel;have H7:=af h7;clear h7;rcases Nat.eq_zero_or_pos s with BM|BM
    ·subst BM;have hn8:¬(0:Int)≤8*((0:Nat):Int)-8:=by omega
     have h9:=H7.o;rw [Nat.sub_zero,List.take_of_length_le (by rw [bp];exact Nat.le_refl _)] at h9;change St w wr (qx X (h0.write (tx bs))::R) at h9;have yt:=aaZ bs;generalize (h0.write (tx bs))=hV at h9 yt;obtain ⟨V,pV,nV⟩:=hV;have AE:=h9.row.1;have Aa:=h9.drop;rw [←HR.o,←HOZ.o] at Aa;change St w wr [row (w.heap.size+1) 198 (jx V 0),row w.heap.size 198 (jx z8 0)] at Aa;change su V=gG bs at yt;have x0:=AE.cell 0;have x1:=AE.cell 1;have x2:=AE.cell 2;have x3:=AE.cell 3;have x4:=AE.cell 4;have x5:=AE.cell 5;have x6:=AE.cell 6;have x7:=AE.cell 7;change _=some (Value.int .u32 V.a) at x0;change _=some (Value.int .u32 V.b) at x1;change _=some (Value.int .u32 V.c) at x2;change _=some (Value.int .u32 V.d) at x3;change _=some (Value.int .u32 V.e) at x4;change _=some (Value.int .u32 V.f) at x5;change _=some (Value.int .u32 V.g) at x6;change _=some (Value.int .u32 V.h) at x7;have HDR:=af Aa;have QN:=af yt;clear h9 AE Aa yt;go_wp2_with fail;clear x0 x1 x2 x3 x4 x5 x6 x7;go_loopw [60] (fun i wx=>∃k:Nat,k≤8∧i=ae aa k∧St w wx [row (w.heap.size+1) 198 (jx V (4*k)),row w.heap.size 198 (jx z8 0)]) (fun i _=>8-(intOf i).toNat)
     case atStart=>exact ⟨0,by omega,rfl,HDR.o⟩
     case round =>
      obtain ⟨k,hk,rfl,dR⟩:=hrel;have mR:=af dR;clear dR;by_cases aH:k < 8
      ·have df:(k:Int) < 8:=by omega
       have yS:=Ur V k aH;simp only [W8.arr] at yS;have kT:=fun j hj=>Pw V k j aH hj;generalize V.list.getD k 0=x at yS kT;have wZ:=af kT;clear kT;go_wp2_with fail;clear yS;go_loopw [64] (fun i wx=>∃j:Nat,j≤4∧i=ae aa j∧St w wx [row (w.heap.size+1) 198 (jx V (4*k+j)),row w.heap.size 198 (jx z8 0)]) (fun i _=>4-(intOf i).toNat)
       case atStart=>exact ⟨0,by omega,rfl,mR.o⟩
       case round =>
        obtain ⟨j,hj,rfl,jn⟩:=hrel;have uz:=af jn;clear jn;by_cases uM:j < 4
        ·have tD:(j:Int) < 4:=by omega
         have c1:=(uz.o.row.1.cell (4*k+j)).trans (cN (by rw [zQ V _ (by omega)];omega));have f1:=uz.o.row.1.frozen (4*k+j);have l1:=uz.o.row.1.lt;generalize (jx V (4*k+j))[4*k+j]'_=old at c1;have i1:IntKind.i64.wrap (4*(k:Int))=4*(k:Int):=IntWalk.i64_in _ ⟨by omega,by omega⟩;have i2:IntKind.i64.wrap (4*(k:Int)+(j:Int))=4*(k:Int)+(j:Int):=IntWalk.i64_in _ ⟨by omega,by omega⟩;have i3:(0:Int)≤4*(k:Int)+(j:Int):=by omega
         have i4:4*(k:Int)+(j:Int) < 32:=by omega
         have i5:(4*(k:Int)+(j:Int)).toNat=4*k+j:=by omega
         have i6:IntKind.i64.wrap (8*(j:Int))=8*(j:Int):=IntWalk.i64_in _ ⟨by omega,by omega⟩;have i7:IntKind.i64.wrap (24-8*(j:Int))=24-8*(j:Int):=IntWalk.i64_in _ ⟨by omega,by omega⟩;have i8:(0:Int)≤24-8*(j:Int):=by omega
         have i9:(24-8*(j:Int)).toNat=24-8*j:=by omega
         have SQ:(x:Int) / 2 ^ (24-8*j) % 256=digit 4 x j:=by
          unfold digit;rw [show (256:Nat) ^ (4-1-j)=2 ^ (24-8*j) by rw [show (256:Nat)=2 ^ 8 from rfl,←Nat.pow_mul];congr 1;omega,Int.natCast_emod,Int.natCast_ediv,Int.natCast_pow];rfl
         have HDG:=af SQ;clear SQ;go_wp2_with fail;go_roundw
         case rel =>
          refine ⟨j+1,by omega,by go_num,?_⟩;have h:=uz.o.set (4*k+j) (.int .u8 (digit 4 x j));rw [wZ.o j uM] at h;rw [HDG.o];exact h
         case measure=>simp [intOf];omega
        ·have tD:¬(j:Int) < 4:=by omega
         have uO:j=4:=by omega
         have HJ4:=af uO;clear uO;go_wp2_with fail;go_roundw
         case rel =>
          refine ⟨k+1,by omega,by go_num,?_⟩;have h:=uz.o;rw [HJ4.o] at h;exact h
         case measure=>simp [intOf];omega
      ·have df:¬(k:Int) < 8:=by omega
       have xO:k=8:=by omega
       have HK8:=af xO;clear xO;have nR:=mR.o;rw [HK8.o] at nR
       have hoc:jx V (4*8)=(gG bs).map (Value.int .u8):=by
        unfold jx;rw [←QN.o,List.take_of_length_le (by rw [qY];exact Nat.le_refl _)];simp
       rw [hoc] at nR;have uj:((gG bs).map (Value.int .u8)).length=32:=by rw [iB,rS]
       have nO:=zQ z8 0 (by omega)
       have Li:∀v∈((gG bs).map (Value.int .u8)).toArray.toList,v.oneCell'=true:=fun v hv=>by
        obtain ⟨x,_,rfl⟩:=List.mem_map.1 hv;rfl
       generalize hD:(gG bs).map (Value.int .u8)=D at nR uj Li;have HD:=af hD;clear hD;have Cx:=af nR;have Gk:=af uj;have My:=af Li;have HZL:=af nO;clear nR hoc uj Li nO;go_upto_region 21 with fail;refine wp_region_lit ?_;refine jM rfl 198 (.tmp 3) rfl (w.heap.size+1) 0 rfl D _ Cx.o.row.1 (by rw [List.drop_zero,List.take_length]) Tryz.underlying198 rfl (by rw [Gk.o];kernel_rfl) ?_;refine aB rfl 198 (.tmp 2) (.tmp 80) rfl w.heap.size 0 D.toArray rfl rfl (Cx.o.pick 1 rfl).row.1 (by rw [List.size_toArray,Gk.o];kernel_rfl) (by rw [List.size_toArray,Gk.o,HZL.o];omega) My.o D (by rw [List.take_zero,List.nil_append,List.drop_of_length_le (by rw [List.size_toArray,Gk.o,HZL.o];omega),List.append_nil]) ?_;go_wp2_with fail;refine bodyPost_ret (results_cell_row (cs:=D.toArray) rfl _ _ w.heap.size _ _ _ rfl ((Cx.o.pick 1 rfl).row.1.setRow D) Tryz.underlying198 rfl (by rw [List.size_toArray,Gk.o];kernel_rfl)) rfl ?_;exact ⟨by rw [HD.o],((Cx.o.pick 1 rfl).setRow D).aE⟩
    ·obtain ⟨q,rfl⟩:∃q,s=q+1:=⟨s-1,by omega⟩
     have hq:8*((q+1:Nat):Int)-8=8*(q:Int):=by omega
     rw [hq];have q0:(0:Int)≤8*(q:Int):=by omega
     have hcg:=(H7.o.aE.cell (p:=⟨g,72,none⟩) hlg).trans cg2;clear hq;have DB:=HM.o
     have ed:IntKind.u64.wrap (IntKind.u64.wrap (bs.length:Int)*8) / 2 ^ (8*q) % 256=digit 8 (8*bs.length) (7-q):=by
      rw [IntKind.wrap_u64,IntKind.wrap_u64];unfold digit;rw [show 8-1-(7-q)=q by omega,show (256:Nat)=2 ^ 8 from rfl,←Nat.pow_mul,Int.natCast_emod,Int.natCast_ediv,Int.natCast_pow,show ((bs.length:Int) % 18446744073709551616*8) % 18446744073709551616=((8*bs.length:Nat):Int) by omega];rfl
     have FU:(0:Int)≤digit 8 (8*bs.length) (7-q)∧digit 8 (8*bs.length) (7-q)≤255:=by unfold digit;omega
     have xM:(be 8 (8*bs.length)).take (8-q)=(be 8 (8*bs.length)).take (8-(q+1))++[digit 8 (8*bs.length) (7-q)]:=by
      rw [show 8-q=(8-(q+1))+1 by omega,kr (by rw [bp];omega)]
      congr 2
      simp [be]
     have OB:=af (jw H7.o (adk.o _) (ab3.o _) (digit 8 (8*bs.length) (7-q)) FU.1 FU.2);have QL:=af xM;have HED:=af ed;clear FU xM ed DB;go_wp2_with fail;rw [HED.o];refine OB.o.mono ?_;rintro e w8 ⟨rfl,h8⟩;rw [←qh,List.append_assoc,←QL.o] at h8;have H8:=af h8;clear h8;go_wp2_with fail;go_roundw;case rel=>exact ⟨q,by omega,by go_num,H8.o⟩
     case measure=>simp [intOf];omega
end
end fZ
end Go.Proofs.YtdldkkoplgkloaaGreat
