/-
  PROVED HERE: lemmas that the law leans on.
  CONDITIONS: each names its own.
-/
import Derived.Deep.Cut
import Derived.Deep.MidRow
import Derived.Test.YtdldkkoplgkloaaGreatPy0
import Derived.Test.YtdldkkoplgkloaaGreatPy4
namespace Go.Proofs.YtdldkkoplgkloaaGreat
set_option linter.unusedVariables false
set_option linter.unusedSimpArgs false
set_option maxRecDepth 100000
set_option maxHeartbeats 32000000
namespace fH


open Go.RowKit base obj mem sep bw bf chain
def sr (r:Nat):Value:=.agg ((List.range 8).map fun i=>Value.int .u32 ((ks.getD (8*r+i) 0:Nat):Int)).toArray
def wU:Array Value:=(ks.map fun n:Nat=>Value.int .u32 (n:Int)).toArray
theorem LY (k:Nat) (h:k < 8) (w:World):(Instr.index 273 (.agg wU) (.int .i64 (k:Int))).run Tryz.prog w=.ok (sr k) w:=by
 rcases (by omega:k=0∨k=1∨k=2∨k=3∨k=4∨k=5∨k=6∨k=7) with rfl|rfl|rfl|rfl|rfl|rfl|rfl|rfl<;>kernel_rfl
theorem JE (k i:Nat) (h:k < 8) (hi:i < 8) (w:World):(Instr.index 242 (sr k) (.int .i64 (i:Int))).run Tryz.prog w=.ok (.int .u32 ((ks.getD (8*k+i) 0:Nat):Int)) w:=by
 rcases (by omega:k=0∨k=1∨k=2∨k=3∨k=4∨k=5∨k=6∨k=7) with rfl|rfl|rfl|rfl|rfl|rfl|rfl|rfl <;>
 rcases (by omega:i=0∨i=1∨i=2∨i=3∨i=4∨i=5∨i=6∨i=7) with rfl|rfl|rfl|rfl|rfl|rfl|rfl|rfl<;>kernel_rfl
theorem Qm:(Tryz.prog.info? 273).map (·.size)=some wU.size:=by kernel_rfl
theorem Ts:∀v∈wU.toList,v.oneCell'=true:=fun v hv=>by
 obtain ⟨n,_,rfl⟩:=List.mem_map.1 hv;rfl
theorem Ku (w:World):Calls Tryz.prog 208 #[] w fun e w'=>e=.returned (.agg wU)∧Below w.heap.size w w':=by
 have MS:=aa Qm;have MO:=aa Ts;go_enter Tryz.func208,Tryz.ntmps208;go_upto_region 1 with fail;refine wp_region_lit ?_;refine kh (v:=sr 0) rfl (by kernel_rfl) ?_;try dsimp only
 try simp only [Act.put,aq,ak,ao]
 refine kh (v:=sr 1) rfl (by kernel_rfl) ?_;try dsimp only
 try simp only [Act.put,aq,ak,ao]
 refine kh (v:=sr 2) rfl (by kernel_rfl) ?_;try dsimp only
 try simp only [Act.put,aq,ak,ao]
 refine kh (v:=sr 3) rfl (by kernel_rfl) ?_;try dsimp only
 try simp only [Act.put,aq,ak,ao]
 refine kh (v:=sr 4) rfl (by kernel_rfl) ?_;try dsimp only
 try simp only [Act.put,aq,ak,ao]
 refine kh (v:=sr 5) rfl (by kernel_rfl) ?_;try dsimp only
 try simp only [Act.put,aq,ak,ao]
 refine kh (v:=sr 6) rfl (by kernel_rfl) ?_;try dsimp only
 try simp only [Act.put,aq,ak,ao]
 refine kh (v:=sr 7) rfl (by kernel_rfl) ?_;try dsimp only
 try simp only [Act.put,aq,ak,ao]
 refine kh (v:=.agg wU) rfl (by kernel_rfl) ?_;try dsimp only
 try simp only [Act.put,aq,ak,ao]
 have zH:=aa ((Below.refl w.heap.size w).alloc (Nat.le_refl _) (.cells wU 273));refine gF rfl 273 (.tmp 0) (.tmp 9) rfl wU _ 273 w.heap.size rfl rfl MS.o (by rfl) MO.o ?_ rfl;go_wp2_with fail;refine bodyPost_ret (results_cell_row (cs:=wU) rfl _ _ w.heap.size _ _ _ rfl (heap_alloc_new _ _) Tryz.underlying273 rfl MS.o) rfl ?_;exact ⟨rfl,zH.o⟩
def W8.arr (v:W8):Array Value:=#[.int .u32 v.a,.int .u32 v.b,.int .u32 v.c,.int .u32 v.d,.int .u32 v.e,.int .u32 v.f,.int .u32 v.g,.int .u32 v.h]
def dh (v:W8) (part:List Int) (n:Int):List Value:=v.arr.toList++(part.map (Value.int .u8)++[.int .i64 n])
theorem um (v:W8) {part:List Int} (hl:part.length=64) (n:Int):(dh v part n).length=73:=by simp [dh,W8.arr,hl]
theorem Cv (v:W8) {part:List Int} (hl:part.length=64) (hb:bo part) (n:Int) (i:Nat) (hi:i < 64):(dh v part n)[8+i]?=some (.int .u8 (iS part i:Nat)):=by
 have h1:=hb part[i] (List.getElem_mem _);unfold dh iS;rw [List.getElem?_append_right (by simp [W8.arr]),show 8+i-v.arr.toList.length=i by simp [W8.arr],List.getElem?_append_left (by simp [hl];exact hi),List.getElem?_map,dz,cM (by omega)];simp only [Option.map_some,Option.getD_some];rw [Int.toNat_of_nonneg h1.1]
theorem yR (v:W8) {part:List Int} (hl:part.length=64) (n:Int):(dh v part n)[72]?=some (.int .i64 n):=by
 unfold dh;rw [List.getElem?_append_right (by simp [W8.arr]),List.getElem?_append_right (by simp [W8.arr,hl])];simp [W8.arr,hl]
theorem TS (v:W8) (part:List Int) (n:Int):((dh v part n).drop 0).take v.arr.toList.length=v.arr.toList:=by
 simp [dh]
theorem Lt (v u:W8) (part:List Int) (n:Int):(dh v part n).take 0++u.arr.toList++(dh v part n).drop (0+u.arr.size)=dh u part n:=by
 simp [dh,W8.arr]
theorem BZ (v:W8):∀x∈v.arr.toList,x.oneCell'=true:=by
 intro x hx;simp [W8.arr] at hx;rcases hx with rfl|rfl|rfl|rfl|rfl|rfl|rfl|rfl<;>rfl
def z8:W8:=⟨0,0,0,0,0,0,0,0⟩
theorem VF:(Tryz.prog.info? 238).map (·.zero)=some (some (.agg z8.arr)):=by kernel_rfl
theorem vn (v:W8):(Tryz.prog.info? 238).map (·.size)=some v.arr.size:=by kernel_rfl
theorem qx {P:Program} {o:Oper} {a:Act} {w:World} {K:Act→World→Prop} {Q:Exit→Act→World→Prop} (ty:TypeId) (x y:Operand) (ho:o.op=.store ty x y) (g off:Nat) (cells:Array Value) (hx:a.eval x=.pointer (some ⟨g,off,none⟩)) (hy:a.eval y=.agg cells)
  {t:TypeId} {xs:List Value} (hg:Row w g t xs) (hi:(P.info? ty).map (·.size)=some cells.size) (kP:off+cells.size≤xs.length) (h1:∀v∈cells.toList,v.oneCell'=true)
  (r:List Value) (hr:xs.take off++cells.toList++xs.drop (off+cells.size)=r)
  (h:K (a.put o.dst undef) (w.setRow g r.toArray)):Oper.wp P o a w K Q:=by
 subst hr;have av:=run_storeCells_at P g off t cells.toList 0 xs.toArray w hg (by simpa using kP) h1;simp only [Nat.add_zero,Array.length_toList] at av;cases hq:P.info? ty with
 | none=>simp [hq] at hi
 | some i =>
   have hs:i.size=cells.size:=by simpa [hq] using hi
   have hv:(storeVar ty ⟨g,off,none⟩ (.agg cells)).run P w=.ok () (w.setRow g (xs.take off++cells.toList++xs.drop (off+cells.size)).toArray):=by
    simp [storeVar,sizeOf,typeInfo,hq,Value.cells,hs];simpa using av
   unfold Oper.wp execOp;simp only [ho,hx,hy,Instr.storeAt,Instr.sureAddr,Sem.run_bind,Sem.run_pure,Result.andThen_ok,hv];exact h
theorem ZW (k:Nat):sr k=.agg ((List.range 8).map fun i=>Value.int .u32 ((ks.getD (8*k+i) 0:Nat):Int)).toArray:=rfl
theorem ZV (i:Nat):ks.getD i 0 < 2 ^ 32:=by
 by_cases h:i < 64
 ·have:∀i,i < 64→ks.getD i 0 < 2 ^ 32:=by decide +kernel
  exact this i h
 ·rw [dz,List.getElem?_eq_none (by show ks.length≤i;rw [show ks.length=64 from rfl];omega)]
  decide
theorem WY {w0 w:World} {l:List aD} {g:Nat} {v:W8} {part:List Int} {n:Int} (h:St w0 w (row g 240 (dh v part n)::l)) (hv:v.Ok) (hl:part.length=64) (hb:bo part) :
  Calls Tryz.prog 197 #[.pointer (some ⟨g,0,none⟩)] w fun e w'=>e=.returned (.tuple #[])∧St w0 w' (row g 240 (dh (comp v part) part n)::l):=by
 have Z:=aa LC;have Z8:=aa VF;have H:=aa h;have hw:=So w g part hl hb (fun i hi=>(h.row.1.cell (8+i)).trans (Cv v hl hb n i hi)) h.row.1.lt;have HV:=aa hv;have HL:=aa hl;have HB:=aa hb;have hsw:(Tryz.prog.info? 270).map (·.size)=some (dq part 64).toArray.size:=by rw [List.size_toArray,iz part 64 (by omega)];kernel_rfl
 have how:∀v∈(dq part 64).toArray.toList,v.oneCell'=true:=fun v hv=>by
  rcases List.mem_append.1 hv with h|h
  ·obtain ⟨x,_,rfl⟩:=List.mem_map.1 h;rfl
  ·rw [(List.mem_replicate.1 h).2];rfl
 have iu:zW.size=(dq part 64).toArray.size:=(iz [] 0 (by omega)).trans (iz part 64 (by omega)).symm;have yN:∀j,j < 64→(dq part 64).toArray.toList[j]?=some (.int .u32 ((eP part 64).getD j 0:Nat)):=fun j hj=>qT part 64 j hj;generalize (dq part 64).toArray=WA at hw hsw how iu yN;have HW:=aa hw;have HSW:=aa hsw;have CF:=aa how;have lv:=aa iu;have abQ:=aa yN;clear hw hsw how iu yN;clear h hv hl hb;go_enter Tryz.func197,Tryz.ntmps197;go_wp2_with fail;refine HW.o.mono ?_;rintro e w1 ⟨rfl,ku⟩;have H1:=aa (H.o.below ku);clear ku;have wo:=H1.o.row.1;have E6:=aa wo;have HH:=aa (((H1.o.new 270 WA).new 238 v.arr));clear wo;generalize L8:v.arr=VA at *;have Ys:VA.size=8:=by rw [←L8];rfl
 have Yt:∀x∈VA.toList,x.oneCell'=true:=by rw [←L8];exact BZ v
 have hvs:(Tryz.prog.info? 238).map (·.size)=some VA.size:=by rw [←L8];exact vn v
 have hvg:((dh v part n).drop 0).take VA.toList.length=VA.toList:=by rw [←L8];exact TS v part n
 have HVA:=aa L8;have abl:=aa Ys;have abm:=aa Yt;have RK:=aa hvs;have HVG:=aa hvg;clear L8 Ys Yt hvs hvg
 go_upto_region 1 with (first
  | (with_reducible refine gG rfl 270 rfl (.agg zW) Z.o ?_)
  | (refine gF rfl 270 (.tmp 2) (.tmp 11) rfl WA _ 270 w1.heap.size rfl rfl HSW.o lv.o CF.o ?_ rfl))
 refine wp_region_lit ?_;refine pA [_,_,_] _ _ ?_;iterate 3 still_step
 refine wpStill_nil ?_;refine jo rfl 238 (.tmp 14) rfl g 0 rfl VA.toList _ (E6.o.alloc _) HVG.o Tryz.underlying238 rfl (by rw [RK.o];rfl) ?_;refine gG rfl 238 rfl (.agg z8.arr) Z8.o ?_;refine gF rfl 238 (.tmp 3) (.tmp 15) rfl VA _ 238 (w1.alloc (.cells WA 270)).heap.size rfl rfl RK.o (by rw [abl.o];rfl) abm.o ?_ rfl;try simp only [kD]
 go_wp2_with fail;have hci:=LY;have hcw:=JE;have HC:=aa Ku;clear hci hcw;refine (HC.o _).mono ?_;rintro e w2 ⟨rfl,bN⟩;have hh:=HH.o.below bN;rw [kD] at hh;have H2:=aa hh;clear hh bN;have HI:RowKit.Hid (∀(k:Nat),k < 8→∀w,(Instr.index 273 (.agg wU) (.int .i64 (k:Int))).run Tryz.prog w=.ok (sr k) w):=aa LY;generalize wU=KA at HI ⊢;go_wp2_with fail;go_loopw [17] (fun i wr=>∃k:Nat,k≤8∧i=.int .i64 k∧St w0 wr (row (w1.heap.size+1) 238 (tR v (eP part 64) (8*k)).arr.toList::row w1.heap.size 270 WA.toList::row g 240 (dh v part n)::l)) (fun i _=>8-(intOf i).toNat)
 case atStart=>exact ⟨0,by omega,rfl,by rw [Nat.mul_zero,tR,HVA.o];exact H2.o⟩
 case round =>
  obtain ⟨k,hk,rfl,h3⟩:=hrel;have H3:=aa h3;clear h3;by_cases aK:k < 8
  ·have cZ:(k:Int) < 8:=by omega
   have Mg:=HI.o k aK
   obtain ⟨KR,hKR,zu,jP⟩:∃KR:Array Value,sr k=.agg KR∧KR.size=8∧∀v∈KR.toList,v.oneCell'=true:=⟨_,ZW k,by simp,fun v hv=>by
    obtain ⟨x,_,rfl⟩:=List.mem_map.1 hv;rfl⟩
   have hcw:∀i:Nat,i < 8→∀w,(Instr.index 242 (.agg KR) (.int .i64 (i:Int))).run Tryz.prog w=.ok (.int .u32 ((ks.getD (8*k+i) 0:Nat):Int)) w:=by rw [←hKR];exact fun i hi=>JE k i aK hi
   rw [hKR] at Mg;have QD:(Tryz.prog.info? 242).map (·.size)=some KR.size:=by rw [zu];kernel_rfl
   have HKS:=aa zu;have HK1:=aa jP;have HCW:=aa hcw;have HKZ:=aa QD;clear hKR zu jP hcw QD;go_upto_region 5 with (refine gF rfl 242 (.tmp 5) (.tmp 20) rfl KR _ 242 wr.heap.size rfl rfl HKZ.o (by rw [HKS.o];rfl) HK1.o ?_ rfl)
   refine wp_region_lit ?_;refine jo rfl 242 (.tmp 5) rfl wr.heap.size 0 rfl KR.toList _ (Row.new wr _ KR) (by rw [List.drop_zero,List.take_length]) Tryz.underlying242 rfl (by rw [HKZ.o];rfl) ?_;have H4:=aa (H3.o.below ((Below.refl _ _).alloc (Nat.le_refl _) (.cells KR 242)));go_wp2_with fail;go_loopw [22] (fun i wx=>∃j:Nat,j≤8∧i=.int .i64 j∧St w0 wx (row (w1.heap.size+1) 238 (tR v (eP part 64) (8*k+j)).arr.toList::row w1.heap.size 270 WA.toList::row g 240 (dh v part n)::l)) (fun i _=>8-(intOf i).toNat)
   case atStart=>exact ⟨0,by omega,rfl,H4.o⟩
   case round =>
    obtain ⟨j,hj,rfl,h5⟩:=hrel;have H5:=aa h5;clear h5;by_cases tS:j < 8
    ·have sx:(j:Int) < 8:=by omega
     have hxj:=HCW.o j tS;obtain ⟨u,hu⟩:∃u,u=tR v (eP part 64) (8*k+j):=⟨_,rfl⟩
     have h5:=H5.o;rw [←hu] at h5;have Eh:u.Ok:=by rw [hu];exact DU HV.o _ _
     have fQ:tR v (eP part 64) (8*k+(j+1))=DN u ((ks.getD (8*k+j) 0+(eP part 64).getD (8*k+j) 0) % M):=by
      rw [show 8*k+(j+1)=8*k+j+1 by omega,tR,←hu,Pm u Eh]
     have gZ:=ZV (8*k+j)
     have fY:(eP part 64).getD (8*k+j) 0 < 2 ^ 32:=by
      rw [dz,cM (by rw [gD];omega)];exact zN HB.o 64 _ (List.getElem_mem _)
     have hwc:=((h5.pick 1 rfl).row.1.cell (8*k+j)).trans (abQ.o (8*k+j) (by omega));have bG:=fun w=>SU w u Eh ((ks.getD (8*k+j) 0+(eP part 64).getD (8*k+j) 0) % M) (Nat.mod_lt _ (by decide));generalize ks.getD (8*k+j) 0=kj at *;generalize (eP part 64).getD (8*k+j) 0=wj at *;have hm:((((kj+wj) % M:Nat)):Int)=((kj:Int)+(wj:Int)) % 4294967296:=rfl;rw [hm] at bG;have Yv:u.arr.size=8:=rfl;have JJ:=vn u;change ∀w,Calls Tryz.prog _ #[.agg u.arr,_,_,_] w _ at bG;obtain ⟨N,hN⟩:∃N,N=DN u ((kj+wj) % M):=⟨_,rfl⟩
     rw [←hN] at bG fQ;have QZ:=BZ N;have QY:=vn N;have QX:N.arr.size=8:=rfl;change ∀w,Calls Tryz.prog _ _ w (fun e w'=>e=.returned (.agg N.arr)∧_) at bG;rw [←fQ] at hN;have kM:=aa fQ;generalize u.arr=UA at *;generalize Qy:N.arr=NA at *;have HNA:=aa Qy;have RT:=aa QZ;have RQ:=aa QY;have HNZ:=aa QX;have Zq:=aa Yv;have Uv:=aa JJ;have H5':=aa h5;have oc:=aa bG;clear hu Eh fQ gZ fY bG hm hN Qy QZ QY QX Yv JJ h5;have i1:IntKind.i64.wrap (8*(k:Int))=8*(k:Int):=IntWalk.i64_in _ ⟨by omega,by omega⟩;have i2:IntKind.i64.wrap (8*(k:Int)+(j:Int))=8*(k:Int)+(j:Int):=IntWalk.i64_in _ ⟨by omega,by omega⟩;have i3:(0:Int)≤8*(k:Int)+(j:Int):=by omega
     have i4:8*(k:Int)+(j:Int) < 64:=by omega
     have i5:(8*(k:Int)+(j:Int)).toNat=8*k+j:=by omega
     go_wp2_with fail;refine dA ?_;refine bj [1,2,4] ?_;simp only [pick,af,ae,ah];iterate 3 still_step
     refine wpStill_nil ?_;refine fM 3 (.int .i64 (8*(k:Int))) (by kernel_rfl) (fun _ _ _ _ _ h=>h) (by rfl) ?_ ?_
     ·intro w2;try simp only [af,ae,ah]
      go_simp
     try simp only [af,ae,ah,Act.put,aq,ak,ao]
     refine fM 5 (.int .i64 (8*(k:Int)+(j:Int))) (by kernel_rfl) (fun _ _ _ _ _ h=>h) (by rfl) ?_ ?_
     ·intro w2;try simp only [af,ae,ah]
      go_simp
     try simp only [af,ae,ah,Act.put,aq,ak,ao]
     refine bj [6,7] ?_;simp only [pick,af,ae,ah];iterate 2 still_step
     refine wpStill_nil ?_;refine fM 8 (.int .u32 (((kj:Int)+(wj:Int)) % 4294967296)) (by kernel_rfl) (fun _ _ _ _ _ h=>h) (by rfl) ?_ ?_
     ·intro w2;try simp only [af,ae,ah]
      go_simp;exact IntKind.wrap_u32 _
     try simp only [af,ae,ah,Act.put,aq,ak,ao]
     refine bj [0] ?_;simp only [pick,af,ae,ah];refine sW rfl 238 (.tmp 3) rfl UA ⟨w1.heap.size+1,0,none⟩ rfl (run_loadVar_row wr.drew (w1.heap.size+1) 238 238 UA (0,0) _ (by exact H5'.o.drew.row.1) Tryz.underlying238 rfl Uv.o) ?_;refine wpStill_nil ?_;try simp only [af,ae,ah,Act.put,aq,ak,ao]
     refine aL 9 ?_;try simp only [af,ae,ah]
     go_simp;refine (oc.o _).mono ?_;rintro e w6 ⟨rfl,tq⟩;have H6:=aa (H5'.o.drew.below tq);clear tq;try dsimp only
     try simp only [Act.put,aq,ak,ao]
     refine aL 10 ?_;try simp only [af,ae,ah]
     refine qx 238 (.tmp 3) (.tmp 35) rfl (w1.heap.size+1) 0 NA rfl rfl H6.o.row.1 RQ.o (by rw [HNZ.o,Array.length_toList,Zq.o];omega) RT.o NA.toList (by rw [List.take_zero,List.nil_append,List.drop_of_length_le (by rw [HNZ.o,Array.length_toList,Zq.o];omega),List.append_nil]) ?_;have H7:=aa (H6.o.setRow NA.toList);try dsimp only
     refine bZ ?_;go_wp2_with fail;go_roundw
     case rel =>
      refine ⟨j+1,by omega,by go_num,?_⟩;rw [kM.o,HNA.o];exact H7.o
     case measure=>simp [intOf];omega
    ·have sx:¬(j:Int) < 8:=by omega
     have Ax:j=8:=by omega
     have HJ:=aa Ax;clear Ax;go_wp2_with fail;go_roundw
     case rel =>
      refine ⟨k+1,by omega,by go_num,?_⟩;have h:=H5.o;rw [HJ.o] at h;exact h
     case measure=>simp [intOf];omega
  ·have cZ:¬(k:Int) < 8:=by omega
   have we:k=8:=by omega
   have HK:=aa we;clear we;obtain ⟨u,hu⟩:∃u,u=tR v (eP part 64) (8*k):=⟨_,rfl⟩
   have h3:=H3.o;rw [←hu] at h3;have iG:=fun w=>Wj w v u;have hN:comp v part=plus v u:=by rw [hu,HK.o];rfl
   obtain ⟨N,hN2⟩:∃N,N=plus v u:=⟨_,rfl⟩
   rw [←hN2] at iG hN;have OW:=aa hN;change ∀w,Calls Tryz.prog _ #[.agg v.arr,.agg u.arr] w (fun e w'=>e=.returned (.agg N.arr)∧_) at iG;have JJ:=vn u;have QZ:=BZ N;have QY:=vn N;have QX:N.arr.size=8:=rfl;have km:=Lt v N part n;rw [HVA.o] at iG;generalize u.arr=UA at *;generalize Qy:N.arr=NA at *;have H8:=aa h3;have EY:=aa iG;have Uv:=aa JJ;have RT:=aa QZ;have RQ:=aa QY;have HNZ:=aa QX;have vt:=aa km;have HNA:=aa Qy;clear hu h3 iG hN hN2 JJ QZ QY QX km Qy;have hlh:=um v HL.o n;have HLH:=aa hlh;clear hlh;go_wp2_with fail;refine dA ?_;refine bj [0,1,2,3,4,5] ?_;simp only [pick,af,ae,ah];iterate 4 still_step
   refine sW rfl 238 (.tmp 41) rfl VA ⟨g,0,none⟩ rfl (run_loadVar_mid wr.drew g 0 238 VA.toList _ (by rw [←HVG.o];exact (H8.o.drew.pick 2 rfl).row.1.range 0 VA.toList.length) Tryz.underlying238 rfl RK.o) ?_;refine sW rfl 238 (.tmp 3) rfl UA ⟨w1.heap.size+1,0,none⟩ rfl (run_loadVar_row wr.drew (w1.heap.size+1) 238 238 UA (0,0) _ (by exact H8.o.drew.row.1) Tryz.underlying238 rfl Uv.o) ?_;refine wpStill_nil ?_;refine aL 6 ?_;try simp only [af,ae,ah]
   go_simp;refine (EY.o _).mono ?_;rintro e w6 ⟨rfl,tq⟩;have H9:=aa ((H8.o.drew.below tq).pick 2 rfl);clear tq;try dsimp only
   try simp only [Act.put,aq,ak,ao]
   refine bj [7,8] ?_;simp only [pick,af,ae,ah];iterate 2 still_step
   refine wpStill_nil ?_;refine aL 9 ?_;try simp only [af,ae,ah]
   refine qx 238 (.tmp 46) (.tmp 44) rfl g 0 NA rfl rfl H9.o.row.1 RQ.o (by rw [HNZ.o,HLH.o];omega) RT.o (dh N part n) (by rw [←HNA.o];rw [←HNA.o] at vt;exact vt.o) ?_;have mm:=aa ((H9.o.setRow (dh N part n)));try dsimp only
   refine bZ ?_;go_wp2_with fail
   go_end0
   refine ⟨rfl,?_⟩;rw [OW.o];exact mm.o.swap.drop.swap.drop
end fH
namespace fH


open Go.RowKit base obj mem sep bw num bf chain
def pI (g:Nat) (h:HS):aD:=row g 240 (dh h.v h.part h.n)
theorem Oi (v:W8) (part:List Int) (hl:part.length=64) (n c:Int) (q:Nat) (hq:q < 64):(dh v part n).set (8+q) (.int .u8 c)=dh v (part.set q c) n:=by
 unfold dh;rw [List.set_append_right _ _ (by simp [W8.arr]),show 8+q-v.arr.toList.length=q by simp [W8.arr],List.set_append_left _ _ (by simp [hl];exact hq),List.map_set]
theorem Lu (v:W8) (part:List Int) (hl:part.length=64) (n c:Int):(dh v part n).set 72 (.int .i64 c)=dh v part c:=by
 unfold dh;rw [List.set_append_right _ _ (by simp [W8.arr]),List.set_append_right _ _ (by simp [W8.arr,hl])];simp [W8.arr,hl]
theorem iX {w0 w:World} {l:List aD} {g:Nat} {h:HS} (H:St w0 w (pI g h::l)) (hh:h.Ok) (hn:h.n < 1099511627776) (c:Int) (h0:0≤c) (h1:c≤255) :
  Calls Tryz.prog 171 #[.pointer (some ⟨g,0,none⟩),.int .u8 c] w fun e w'=>e=.returned (.tuple #[])∧St w0 w' (pI g (h.put c)::l):=by
 obtain ⟨v,part,n⟩:=h;obtain ⟨hv,hl,hb⟩:=hh;simp only [pI] at *;have HF:=aa (fun (w:World) (part:List Int) (n:Int) (H:St w0 w (row g 240 (dh v part n)::l)) (hl:part.length=64) (hb:bo part)=>WY H hv hl hb);have hlg:=H.row.1.lt;have cn:=(H.row.1.cell 72).trans (yR v hl n);have fn:=H.row.1.frozen 72;obtain ⟨q,hq⟩:∃q,q=n % 64:=⟨_,rfl⟩
 have YE:q < 64:=by omega
 have cq:=(H.row.1.cell (8+q)).trans (Cv v hl hb n q YE);have fq:=H.row.1.frozen (8+q);have e1:(n:Int) % 64=(q:Int):=by omega
 have e2:(0:Int)≤(q:Int):=by omega
 have e3:(q:Int) < 64:=by omega
 have bN:bo (part.set q c):=fun z hz=>by
  rcases List.mem_or_eq_of_mem_set hz with k|k
  ·exact hb z k
  ·rw [k];exact ⟨h0,h1⟩
 have oy:=((H.set (8+q) (.int .u8 c)).set 72 (.int .i64 ((n:Int)+1)))
 rw [Oi v part hl (n:Int) c q YE,Lu v (part.set q c) (by simp [hl]) (n:Int) ((n:Int)+1)] at oy;have jJ:=aa oy.drew;clear oy;have HL:=aa hl;have aO:=aa bN;have HQ:=aa hq;clear H hv hl hb bN hq;by_cases hz:(n+1) % 64=0
 ·have e4:(((n:Int)+1) % 64==0)=true:=by
   rw [beq_iff_eq];omega
  have tN:HS.put ⟨v,part,n⟩ c=⟨comp v (part.set q c),part.set q c,n+1⟩:=by
   unfold HS.put;simp only [hz,if_true,HQ.o]
  rw [tN];clear hz tN;go_enter Tryz.func171,Tryz.ntmps171;go_wp2_with fail
  go_region
  go_wp2_with fail;refine (HF.o _ _ _ jJ.o (by simp [HL.o]) aO.o).mono ?_;rintro e w2 ⟨rfl,h2⟩;have H2:=aa h2;clear h2;go_wp2_with fail
  go_end0
  exact ⟨rfl,H2.o⟩
 ·have e4:(((n:Int)+1) % 64==0)=false:=by
   rw [beq_eq_false_iff_ne];omega
  have tN:HS.put ⟨v,part,n⟩ c=⟨v,part.set q c,n+1⟩:=by
   unfold HS.put;simp only [hz,if_false,HQ.o]
  rw [tN];clear hz tN;go_enter Tryz.func171,Tryz.ntmps171;go_wp2_with fail
  go_region
  go_wp2_with fail
  go_end0
  exact ⟨rfl,jJ.o⟩
theorem Ti:(Tryz.prog.info? 240).map (·.zero)=some (some (.agg (dh z8 (List.replicate 64 0) 0).toArray)):=by kernel_rfl
theorem Ye {w0 w:World} {l:List aD} (H:St w0 w l):Calls Tryz.prog 125 #[] w fun e w'=>∃g,e=.returned (.pointer (some ⟨g,0,none⟩))∧St w0 w' (pI g h0::l):=by
 have mU:=aa (H.new 240 (dh first (List.replicate 64 0) 0).toArray);clear H;go_enter Tryz.func125,Tryz.ntmps125;go_upto_region 1 with fail;refine wp_region_lit ?_;refine kh (v:=.agg first.arr) rfl (by kernel_rfl) ?_;try dsimp only
 try simp only [Act.put,aq,ak,ao]
 refine kh (v:=.agg (dh first (List.replicate 64 0) 0).toArray) rfl (by kernel_rfl) ?_;try dsimp only
 try simp only [Act.put,aq,ak,ao]
 generalize first.arr=FA
 generalize Q0:(dh first (List.replicate 64 0) 0).toArray=HA at mU ⊢;have CM:=aa Q0;clear Q0;go_wp2_with fail;go_ret;refine ⟨w.heap.size,rfl,?_⟩;have h:=mU.o;rw [←CM.o] at h ⊢;exact h
theorem jL {w0 w:World} {l:List aD} {g:Nat} {h:HS} (H:St w0 w (pI g h::l)) (hh:h.Ok) (A:Option Addr) (n c:Nat) (bs:List Int) (hn:bs.length=n) (hm:h.n+n < 1099511627776) (hb:bo bs) (hs:∀(w':World) (x:HS),St w0 w' (pI g x::l)→Sl w' w'.heap.size 1 A n (bs.map (.int .u8))) :
  Calls Tryz.prog 127 #[.pointer (some ⟨g,0,none⟩),.slice A n c] w fun e w'=>e=.returned (.tuple #[])∧St w0 w' (pI g (h.write bs)::l):=by
 have HH:=aa H;have HO:=aa hh;have HB:=aa hb;have kL:=aa hs;have HN:=aa hn;clear H hh hb hs hn;go_enter Tryz.func127,Tryz.ntmps127;go_wp2_with fail;go_loopw [10] (fun i wr=>∃k:Nat,k≤n∧i=.int .i64 k∧St w0 wr (pI g (h.write (bs.take k))::l)) (fun i _=>n-(intOf i).toNat)
 case atStart=>exact ⟨0,by omega,rfl,HH.o⟩
 case round =>
  obtain ⟨k,hk,rfl,hr⟩:=hrel;have HR:=aa hr;clear hr;by_cases aK:k < n
  ·have cZ:(k:Int) < (n:Int):=by omega
   have i0:(0:Int)≤(k:Int):=by omega
   have xN:k < bs.length:=by rw [HN.o];exact aK
   obtain ⟨b,off,rfl,cy,hc⟩:=(kL.o _ _ HR.o).2 (by omega);have hz:=HB.o bs[k] (List.getElem_mem xN);have c1:=hc k (.int .u8 bs[k]) (by simp [xN]);have tN:=iX HR.o (ye (bs.take k) h HO.o fun z hz=>HB.o z (List.mem_of_mem_take hz)) (by rw [Bt,fv];omega) bs[k] hz.1 hz.2;rw [←pj,←jz xN] at tN;generalize bs[k]=z at *;have HP:=aa tN;clear tN hc hz;go_wp2_with fail;refine HP.o.mono ?_;rintro e w2 ⟨rfl,h2⟩;have H2:=aa h2;clear h2;go_wp2_with fail;go_roundw;case rel=>exact ⟨k+1,by omega,by go_num,H2.o⟩
   case measure=>simp [intOf];omega
  ·have cZ:¬(k:Int) < (n:Int):=by omega
   have dC:k=n:=by omega
   have HK:=aa dC;clear dC;go_wp2_with fail
   go_end0
   refine ⟨rfl,?_⟩;have h:=HR.o;rw [HK.o,List.take_of_length_le (by rw [HN.o];exact Nat.le_refl _)] at h;exact h
def iY (v:W8) (p:Nat):List Value:=((qZ v).take p).map (Value.int .u8)++List.replicate (32-p) (.int .u8 0)
theorem yG (v:W8) (p:Nat) (hp:p≤32):(iY v p).length=32:=by simp [iY,qo];omega
theorem Tc (v:W8) (i k:Nat) (hi:i < 8) (hk:k < 4):(qZ v)[4*i+k]?=some (digit 4 (v.list.getD i 0) k):=by
 rcases (by omega:i=0∨i=1∨i=2∨i=3∨i=4∨i=5∨i=6∨i=7) with rfl|rfl|rfl|rfl|rfl|rfl|rfl|rfl <;>
 rcases (by omega:k=0∨k=1∨k=2∨k=3) with rfl|rfl|rfl|rfl<;>rfl
theorem NI (v:W8) (i k:Nat) (hi:i < 8) (hk:k < 4):(iY v (4*i+k)).set (4*i+k) (.int .u8 (digit 4 (v.list.getD i 0) k))=iY v (4*i+k+1):=by
 have h:=Tc v i k hi hk;obtain ⟨h1,h2⟩:=List.getElem?_eq_some_iff.1 h;unfold iY;rw [List.set_append_right _ _ (by simp;omega),jz h1,List.map_append,List.append_assoc]
 congr 1
 simp only [gN,fv,qo];rw [show 4*i+k-min (4*i+k) 32=0 by omega,show 32-(4*i+k)=(32-(4*i+k+1))+1 by omega,List.replicate_succ,h2];rfl
theorem R9:(Tryz.prog.info? 198).map (·.zero)=some (some (.agg (iY z8 0).toArray)):=by kernel_rfl
theorem Sp (v:W8) (i:Nat) (hi:i < 8) (w:World):(Instr.index 242 (.agg v.arr) (.int .i64 (i:Int))).run Tryz.prog w=.ok (.int .u32 ((v.list.getD i 0:Nat):Int)) w:=by
 rcases (by omega:i=0∨i=1∨i=2∨i=3∨i=4∨i=5∨i=6∨i=7) with rfl|rfl|rfl|rfl|rfl|rfl|rfl|rfl<;>kernel_rfl
def Sz (X B:Nat) (w:World):Nat:=B-(match w.cell? ⟨X,72,none⟩ with|some (.int _ z)=>z.toNat|_=>0)
theorem LK {w0 w:World} {l:List aD} {g:Nat} {h:HS} (H:St w0 w (pI g h::l)) (hl:h.part.length=64) (B:Nat):Sz g B w=B-h.n:=by
 unfold Sz;rw [(H.row.1.cell 72).trans (yR h.v hl h.n)];simp
theorem uJ {w0 w:World} {l:List aD} {g:Nat} {bs:List Int} (H:St w0 w (pI g (h0.write bs)::l)) (hb:bo bs) (hm:bs.length≤1000000) :
  Calls Tryz.prog 128 #[.pointer (some ⟨g,0,none⟩)] w fun e w'=>e=.returned (.agg ((gh bs).map (Value.int .u8)).toArray)∧Below w.heap.size w w':=by
 have HH:=aa H;have HB:=aa hb;have HM:=aa hm;have ho:=ye bs h0 Iy hb;have hn:(h0.write bs).n=bs.length:=by rw [Bt];simp [h0]
 have Z73:=aa Ti;have iu:(Tryz.prog.info? 240).map (·.size)=some (dh (h0.write bs).v (h0.write bs).part (h0.write bs).n).toArray.size:=by rw [List.size_toArray,um _ ho.2.1];kernel_rfl
 have Yq:(dh z8 (List.replicate 64 0) 0).toArray.size=(dh (h0.write bs).v (h0.write bs).part (h0.write bs).n).toArray.size:=(um z8 (by simp) 0).trans (um _ ho.2.1 _).symm
 have FG:∀x∈(dh (h0.write bs).v (h0.write bs).part (h0.write bs).n).toArray.toList,x.oneCell'=true:=fun x hx=>by
  rcases List.mem_append.1 hx with h|h
  ·exact BZ _ x h
  ·rcases List.mem_append.1 h with h|h
   ·obtain ⟨y,_,rfl⟩:=List.mem_map.1 h;rfl
   ·rw [List.mem_singleton.1 h];rfl
 have aZ:=H.row.1;have hlg:=aZ.lt;change Row w g 240 (dh (h0.write bs).v (h0.write bs).part (h0.write bs).n).toArray.toList at aZ;generalize Q0:(dh (h0.write bs).v (h0.write bs).part (h0.write bs).n).toArray=HA at *;have CM:=aa Q0;have lv:=aa iu;have HZ:=aa Yq;have abC:=aa FG;have gy:=aa aZ;have HO:=aa ho;have HN:=aa hn;clear H hb hm ho hn Q0 iu Yq FG aZ;go_enter Tryz.func128,Tryz.ntmps128;go_upto_region 4 with fail;have aaG:(#[.int .u8 0,.int .u8 0,.int .u8 0,.int .u8 0,.int .u8 0,.int .u8 0,.int .u8 0,.int .u8 0,.int .u8 0,.int .u8 0,.int .u8 0,.int .u8 0,.int .u8 0,.int .u8 0,.int .u8 0,.int .u8 0,.int .u8 0,.int .u8 0,.int .u8 0,.int .u8 0,.int .u8 0,.int .u8 0,.int .u8 0,.int .u8 0,.int .u8 0,.int .u8 0,.int .u8 0,.int .u8 0,.int .u8 0,.int .u8 0,.int .u8 0,.int .u8 0]:Array Value)=(iY z8 0).toArray:=rfl;rw [aaG];generalize hOZ:(iY z8 0).toArray=OZ;have av:=(((St.nil w).new 198 OZ).new 198 OZ).new 240 HA;have Vb:=((gy.o.alloc (.cells OZ 198)).alloc (.cells OZ 198))
 simp only [kD] at av;have bJ:=aa av;have B3:=aa Vb;have HOZ:=aa hOZ;clear av Vb hOZ;refine wp_region_lit ?_;refine pA [_,_] _ _ ?_;iterate 2 still_step
 refine wpStill_nil ?_;refine jo rfl 240 (.tmp 13) rfl g 0 rfl HA.toList _ B3.o (by rw [List.drop_zero,List.take_length]) Tryz.underlying240 rfl (by rw [lv.o];rfl) ?_;refine gG rfl 240 rfl _ Z73.o ?_;refine gF rfl 240 (.tmp 4) (.tmp 14) rfl HA _ 240 _ rfl rfl lv.o HZ.o abC.o ?_ rfl;try simp only [kD]
 have hX:w.heap.size+1+1=w.heap.size+2:=rfl
 have tC:RowKit.Hid (St w (((w.alloc (.cells OZ 198)).alloc (.cells OZ 198)).alloc (.cells HA 240)) (pI (w.heap.size+1+1) (h0.write bs)::[row (w.heap.size+1) 198 OZ.toList,row w.heap.size 198 OZ.toList])):=aa (by
  have h:=bJ.o;rw [←CM.o] at h ⊢
  exact h)
 have Be:=aa (iX tC.o HO.o (by rw [HN.o];have:=HM.o;omega) 128 (by omega) (by omega));generalize ((w.alloc (.cells OZ 198)).alloc (.cells OZ 198)).alloc (.cells HA 240)=W4 at Be ⊢;clear tC bJ hX;go_wp2_with fail;refine Be.o.mono ?_;rintro e w5 ⟨rfl,h5⟩;rw [←pj] at h5;have H5:=aa h5;clear h5;go_wp2_with fail;generalize hR:([row (w.heap.size+1) 198 OZ.toList,row w.heap.size 198 OZ.toList]:List aD)=R at H5;have HR:=aa hR;generalize hXX:w.heap.size+1+1=X at H5 ⊢;clear hR hXX Be;obtain ⟨K,hK⟩:∃K,K=(119-bs.length % 64) % 64:=⟨_,rfl⟩
 have HK:=aa hK;have abb:K < 64:=by omega
 have hlen:∀k,(h0.write (bs++[128]++List.replicate k 0)).n=bs.length+1+k:=fun k=>by rw [Bt];simp [h0];omega
 have nY:∀k,(h0.write (bs++[128]++List.replicate k 0)).Ok:=fun k=>ye _ _ Iy fun z hz=>by
  rcases List.mem_append.1 hz with h|h
  ·rcases List.mem_append.1 h with h|h
   ·exact HB.o z h
   ·rw [List.mem_singleton.1 h];omega
  ·rw [(List.mem_replicate.1 h).2];omega
 have iM:=aa hlen;have fG:=aa nY;clear hK hlen nY;go_loopw [] (fun wr=>∃k:Nat,k≤K∧St w wr (pI X (h0.write (bs++[128]++List.replicate k 0))::R)) (fun wr=>Sz X 2000000 wr)
 case atStart=>exact ⟨0,by omega,by rw [List.replicate_zero,List.append_nil];exact H5.o⟩
 case round =>
  obtain ⟨k,hk,hr⟩:=hrel;have c72:=(hr.row.1.cell 72).trans (yR _ (fG.o k).2.1 _);have hm:=LK hr (fG.o k).2.1 2000000;rw [iM.o k] at c72 hm;have qM:=aa hr;have HTG:=aa hm;clear hr hm;by_cases aK:k < K
  ·have e1:(((bs.length+1+k:Nat):Int) % 64 != 56)=true:=by
    rw [bne_iff_ne];have:=HK.o;omega
   have tE:=aa (iX qM.o (fG.o k) (by rw [iM.o];have:=HM.o;omega) 0 (by omega) (by omega));have U2:(0:Int)≤((bs.length+1+k:Nat):Int):=by omega
   generalize ((bs.length+1+k:Nat):Int)=nk at *;go_wp2_with fail;refine tE.o.mono ?_;rintro e w6 ⟨rfl,h6⟩;rw [←pj,List.append_assoc,←List.replicate_succ'] at h6;have H6:=aa h6;clear h6;go_wp2_with fail;go_roundw;case rel=>exact ⟨k+1,by omega,H6.o⟩
   case measure =>
    have h:=LK H6.o (fG.o (k+1)).2.1 2000000;rw [iM.o] at h;rw [h,HTG.o];have:=HM.o;omega
  ·have GC:k=K:=by omega
   have e1:(((bs.length+1+k:Nat):Int) % 64 != 56)=false:=by
    rw [bne_eq_false_iff_eq];have:=HK.o;omega
   have CJ:=aa GC;clear GC;have U2:(0:Int)≤((bs.length+1+k:Nat):Int):=by omega
   generalize ((bs.length+1+k:Nat):Int)=nk at *;have nX:=qM.o;rw [CJ.o,HK.o] at nX;have dI:=aa nX;clear nX;have zt:=HM.o
   have YJ:∀j,(h0.write (bs++[128]++List.replicate ((119-bs.length % 64) % 64) 0++(be 8 (8*bs.length)).take j)).Ok:=fun j=>ye _ _ Iy fun z hz=>by
    rcases List.mem_append.1 hz with h|h
    ·rcases List.mem_append.1 h with h|h
     ·rcases List.mem_append.1 h with h|h
      ·exact HB.o z h
      ·rw [List.mem_singleton.1 h];omega
     ·rw [(List.mem_replicate.1 h).2];omega
    ·exact pW _ _ z (List.mem_of_mem_take h)
   have Vl:∀j,(h0.write (bs++[128]++List.replicate ((119-bs.length % 64) % 64) 0++(be 8 (8*bs.length)).take j)).n < 1099511627776:=fun j=>by
    rw [Bt];simp only [h0,gA,fv,bp,zI,List.length_singleton];omega
   have abE:=aa YJ;have aaq:=aa Vl;have cg:=(gy.o.cell 72)
   rw [←CM.o] at cg;have cg2:=cg.trans (yR _ HO.o.2.1 _);rw [HN.o] at cg2;clear YJ Vl cg zt;go_wp2_with fail;clear c72 e1 U2;go_loopw [5] (fun i wr=>∃s:Nat,s≤8∧i=.int .i64 (8*(s:Int)-8)∧St w wr (pI X (h0.write (bs++[128]++List.replicate ((119-bs.length % 64) % 64) 0++(be 8 (8*bs.length)).take (8-s)))::R)) (fun i _=>(intOf i+8).toNat)
   case atStart=>exact ⟨8,by omega,rfl,by rw [Nat.sub_self,List.take_zero,List.append_nil];exact dI.o⟩
   case round =>
    obtain ⟨s,hs,rfl,h7⟩:=hrel;have H7:=aa h7;clear h7;rcases Nat.eq_zero_or_pos s with Am|Am
    ·subst Am;have hn8:¬(0:Int)≤8*((0:Nat):Int)-8:=by omega
     have h9:=H7.o;rw [Nat.sub_zero,List.take_of_length_le (by rw [bp];exact Nat.le_refl _)] at h9;change St w wr (pI X (h0.write (sq bs))::R) at h9;have wV:=Zf bs;generalize (h0.write (sq bs))=hV at h9 wV;obtain ⟨V,pV,nV⟩:=hV;have zp:=h9.row.1;have yO:=h9.drop;rw [←HR.o,←HOZ.o] at yO;change St w wr [row (w.heap.size+1) 198 (iY V 0),row w.heap.size 198 (iY z8 0)] at yO;change qZ V=gh bs at wV;have x0:=zp.cell 0;have x1:=zp.cell 1;have x2:=zp.cell 2;have x3:=zp.cell 3;have x4:=zp.cell 4;have x5:=zp.cell 5;have x6:=zp.cell 6;have x7:=zp.cell 7;change _=some (Value.int .u32 V.a) at x0;change _=some (Value.int .u32 V.b) at x1;change _=some (Value.int .u32 V.c) at x2;change _=some (Value.int .u32 V.d) at x3;change _=some (Value.int .u32 V.e) at x4;change _=some (Value.int .u32 V.f) at x5;change _=some (Value.int .u32 V.g) at x6;change _=some (Value.int .u32 V.h) at x7;have HDR:=aa yO;have OV:=aa wV;clear h9 zp yO wV;go_wp2_with fail;clear x0 x1 x2 x3 x4 x5 x6 x7;go_loopw [60] (fun i wx=>∃k:Nat,k≤8∧i=.int .i64 k∧St w wx [row (w.heap.size+1) 198 (iY V (4*k)),row w.heap.size 198 (iY z8 0)]) (fun i _=>8-(intOf i).toNat)
     case atStart=>exact ⟨0,by omega,rfl,HDR.o⟩
     case round =>
      obtain ⟨k,hk,rfl,dG⟩:=hrel;have mm:=aa dG;clear dG;by_cases aK:k < 8
      ·have cZ:(k:Int) < 8:=by omega
       have xE:=Sp V k aK;simp only [W8.arr] at xE;have km:=fun j hj=>NI V k j aK hj;generalize V.list.getD k 0=x at xE km;have vt:=aa km;clear km;go_wp2_with fail;clear xE;go_loopw [64] (fun i wx=>∃j:Nat,j≤4∧i=.int .i64 j∧St w wx [row (w.heap.size+1) 198 (iY V (4*k+j)),row w.heap.size 198 (iY z8 0)]) (fun i _=>4-(intOf i).toNat)
       case atStart=>exact ⟨0,by omega,rfl,mm.o⟩
       case round =>
        obtain ⟨j,hj,rfl,jH⟩:=hrel;have Bp:=aa jH;clear jH;by_cases tS:j < 4
        ·have sx:(j:Int) < 4:=by omega
         have c1:=(Bp.o.row.1.cell (4*k+j)).trans (cM (by rw [yG V _ (by omega)];omega));have f1:=Bp.o.row.1.frozen (4*k+j);have l1:=Bp.o.row.1.lt;generalize (iY V (4*k+j))[4*k+j]'_=old at c1;have i1:IntKind.i64.wrap (4*(k:Int))=4*(k:Int):=IntWalk.i64_in _ ⟨by omega,by omega⟩;have i2:IntKind.i64.wrap (4*(k:Int)+(j:Int))=4*(k:Int)+(j:Int):=IntWalk.i64_in _ ⟨by omega,by omega⟩;have i3:(0:Int)≤4*(k:Int)+(j:Int):=by omega
         have i4:4*(k:Int)+(j:Int) < 32:=by omega
         have i5:(4*(k:Int)+(j:Int)).toNat=4*k+j:=by omega
         have i6:IntKind.i64.wrap (8*(j:Int))=8*(j:Int):=IntWalk.i64_in _ ⟨by omega,by omega⟩;have i7:IntKind.i64.wrap (24-8*(j:Int))=24-8*(j:Int):=IntWalk.i64_in _ ⟨by omega,by omega⟩;have i8:(0:Int)≤24-8*(j:Int):=by omega
         have i9:(24-8*(j:Int)).toNat=24-8*j:=by omega
         have QQ:(x:Int) / 2 ^ (24-8*j) % 256=digit 4 x j:=by
          unfold digit;rw [show (256:Nat) ^ (4-1-j)=2 ^ (24-8*j) by rw [show (256:Nat)=2 ^ 8 from rfl,←Nat.pow_mul];congr 1;omega,Int.natCast_emod,Int.natCast_ediv,Int.natCast_pow];rfl
         have HDG:=aa QQ;clear QQ;go_wp2_with fail;go_roundw
         case rel =>
          refine ⟨j+1,by omega,by go_num,?_⟩;have h:=Bp.o.set (4*k+j) (.int .u8 (digit 4 x j));rw [vt.o j tS] at h;rw [HDG.o];exact h
         case measure=>simp [intOf];omega
        ·have sx:¬(j:Int) < 4:=by omega
         have tT:j=4:=by omega
         have HJ4:=aa tT;clear tT;go_wp2_with fail;go_roundw
         case rel =>
          refine ⟨k+1,by omega,by go_num,?_⟩;have h:=Bp.o;rw [HJ4.o] at h;exact h
         case measure=>simp [intOf];omega
      ·have cZ:¬(k:Int) < 8:=by omega
       have we:k=8:=by omega
       have HK8:=aa we;clear we;have mg:=mm.o;rw [HK8.o] at mg
       have hoc:iY V (4*8)=(gh bs).map (Value.int .u8):=by
        unfold iY;rw [←OV.o,List.take_of_length_le (by rw [qo];exact Nat.le_refl _)];simp
       rw [hoc] at mg;have tj:((gh bs).map (Value.int .u8)).length=32:=by rw [gN,qI]
       have pQ:=yG z8 0 (by omega)
       have ho1:∀v∈((gh bs).map (Value.int .u8)).toArray.toList,v.oneCell'=true:=fun v hv=>by
        obtain ⟨x,_,rfl⟩:=List.mem_map.1 hv;rfl
       generalize hD:(gh bs).map (Value.int .u8)=D at mg tj ho1;have HD:=aa hD;clear hD;have Bo:=aa mg;have E2:=aa tj;have K7:=aa ho1;have RD:=aa pQ;clear mg hoc tj ho1 pQ;go_upto_region 21 with fail;refine wp_region_lit ?_;refine jo rfl 198 (.tmp 3) rfl (w.heap.size+1) 0 rfl D _ Bo.o.row.1 (by rw [List.drop_zero,List.take_length]) Tryz.underlying198 rfl (by rw [E2.o];kernel_rfl) ?_;refine aF rfl 198 (.tmp 2) (.tmp 80) rfl w.heap.size 0 D.toArray rfl rfl (Bo.o.pick 1 rfl).row.1 (by rw [List.size_toArray,E2.o];kernel_rfl) (by rw [List.size_toArray,E2.o,RD.o];omega) K7.o D (by rw [List.take_zero,List.nil_append,List.drop_of_length_le (by rw [List.size_toArray,E2.o,RD.o];omega),List.append_nil]) ?_;go_wp2_with fail;refine bodyPost_ret (results_cell_row (cs:=D.toArray) rfl _ _ w.heap.size _ _ _ rfl ((Bo.o.pick 1 rfl).row.1.setRow D) Tryz.underlying198 rfl (by rw [List.size_toArray,E2.o];kernel_rfl)) rfl ?_;exact ⟨by rw [HD.o],((Bo.o.pick 1 rfl).setRow D).aI⟩
    ·obtain ⟨q,rfl⟩:∃q,s=q+1:=⟨s-1,by omega⟩
     have hq:8*((q+1:Nat):Int)-8=8*(q:Int):=by omega
     rw [hq];have q0:(0:Int)≤8*(q:Int):=by omega
     have hcg:=(H7.o.aI.cell (p:=⟨g,72,none⟩) hlg).trans cg2;clear hq;have Cp:=HM.o
     have ed:IntKind.u64.wrap (IntKind.u64.wrap (bs.length:Int)*8) / 2 ^ (8*q) % 256=digit 8 (8*bs.length) (7-q):=by
      rw [IntKind.wrap_u64,IntKind.wrap_u64];unfold digit;rw [show 8-1-(7-q)=q by omega,show (256:Nat)=2 ^ 8 from rfl,←Nat.pow_mul,Int.natCast_emod,Int.natCast_ediv,Int.natCast_pow,show ((bs.length:Int) % 18446744073709551616*8) % 18446744073709551616=((8*bs.length:Nat):Int) by omega];rfl
     have Ez:(0:Int)≤digit 8 (8*bs.length) (7-q)∧digit 8 (8*bs.length) (7-q)≤255:=by unfold digit;omega
     have vZ:(be 8 (8*bs.length)).take (8-q)=(be 8 (8*bs.length)).take (8-(q+1))++[digit 8 (8*bs.length) (7-q)]:=by
      rw [show 8-q=(8-(q+1))+1 by omega,jz (by rw [bp];omega)]
      congr 2
      simp [be]
     have MN:=aa (iX H7.o (abE.o _) (aaq.o _) (digit 8 (8*bs.length) (7-q)) Ez.1 Ez.2);have OT:=aa vZ;have HED:=aa ed;clear Ez vZ ed Cp;go_wp2_with fail;rw [HED.o];refine MN.o.mono ?_;rintro e w8 ⟨rfl,h8⟩;rw [←pj,List.append_assoc,←OT.o] at h8;have H8:=aa h8;clear h8;go_wp2_with fail;go_roundw;case rel=>exact ⟨q,by omega,by go_num,H8.o⟩
     case measure=>simp [intOf];omega
end fH
end Go.Proofs.YtdldkkoplgkloaaGreat
