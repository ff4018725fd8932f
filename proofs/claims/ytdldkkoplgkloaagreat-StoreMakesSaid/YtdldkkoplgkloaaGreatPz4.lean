/-
  PROVED HERE: lemmas and contracts that the law's proof leans on (texts put together: Crc, Segs, Sha, Res).
  CONDITIONS: each names its own.
-/
import Derived.Deep.RegionHeld3
import Derived.Deep.RegionLaw
import Derived.Laws.Rows
import Derived.Shelf.RegionOpen
import Derived.Test.YtdldkkoplgkloaaGreatPz0
import Derived.Test.YtdldkkoplgkloaaGreatPz1
import Derived.Test.YtdldkkoplgkloaaGreatPz2
import Derived.Test.YtdldkkoplgkloaaGreatPz3
namespace Go.Proofs.YtdldkkoplgkloaaGreat
set_option linter.unusedVariables false
set_option linter.unusedSimpArgs false
set_option maxRecDepth 100000
set_option maxHeartbeats 32000000
namespace crc

open Go.RowKit base obj mem
theorem xor32 (a b:Nat) (ha:a < 2 ^ 32) (hb:b < 2 ^ 32):Go.bits .xor .u32 (a:Int) (b:Int)=((a ^^^ b:Nat):Int):=by
 show IntKind.u32.wrap ((BitVec.ofInt 32 (a:Int) ^^^ BitVec.ofInt 32 (b:Int)).toNat:Int)=_
 have hx:a ^^^ b < 2 ^ 32:=Nat.xor_lt_two_pow ha hb
 rw [BitVec.toNat_xor,BitVec.toNat_ofInt,BitVec.toNat_ofInt,show ((a:Int) % ((2 ^ 32:Nat):Int)).toNat=a by omega,show ((b:Int) % ((2 ^ 32:Nat):Int)).toNat=b by omega,IntKind.wrap_u32]
 omega
theorem and32_one (a:Nat) (ha:a < 2 ^ 32):Go.bits .and .u32 (a:Int) 1=((a % 2:Nat):Int):=by
 show IntKind.u32.wrap ((BitVec.ofInt 32 (a:Int) &&& BitVec.ofInt 32 1).toNat:Int)=_
 rw [BitVec.toNat_and,show (BitVec.ofInt 32 1).toNat=1 from rfl,Nat.and_one_is_mod,BitVec.toNat_ofInt,show ((a:Int) % ((2 ^ 32:Nat):Int)).toNat=a by omega,IntKind.wrap_u32]
 omega
theorem down_eq (x:Nat) (hx:x < 2 ^ 32):Go.bits .xor .u32 ((x:Int) / 2) (3988292384*Go.bits .and .u32 (x:Int) 1 % 4294967296)=((dn x:Nat):Int):=by
 have e:(3988292384*Go.bits .and .u32 (x:Int) 1 % 4294967296)=(((if x % 2=1 then poly else 0:Nat)):Int):=by
  rw [and32_one x hx]
  split
  ·rename_i h;rw [h];rfl
  ·rename_i h;rw [show x % 2=0 by omega];rfl
 rw [e,show (x:Int) / 2=((x / 2:Nat):Int) by omega,xor32 _ _ (by omega) (by split<;>decide)]
 rfl
theorem down_at (w:World) (x:Nat) (hx:x < 2 ^ 32):Calls Tryz.prog 172 #[.int .u32 x] w fun e w'=>e=.returned (.int .u32 (dn x:Nat))∧w'=w:=by
 go_enter Tryz.func172,Tryz.ntmps172
 go_wp2_with (fail)
 go_ret
 exact ⟨by rw [down_eq x hx];rfl,rfl⟩
def tabCells (k:Nat):List Value:=(List.range k).map (fun i=>Value.int .u32 (it 8 i:Nat))++List.replicate (256-k) (.int .u32 0)
theorem tabCells_length (k:Nat) (hk:k≤256):(tabCells k).length=256:=by simp [tabCells];omega
theorem tabCells_set (k:Nat) (hk:k < 256):(tabCells k).set k (.int .u32 (it 8 k:Nat))=tabCells (k+1):=by
 unfold tabCells
 rw [List.set_append_right _ _ (by simp),List.range_succ,List.map_append,List.append_assoc]
 congr 1
 simp only [List.length_map,List.length_range,Nat.sub_self]
 rw [show 256-k=(256-(k+1))+1 by omega,List.replicate_succ]
 rfl
theorem tabCells_get (i:Nat) (hi:i < 256):(tabCells 256)[i]?=some (.int .u32 (it 8 i:Nat)):=by
 simp [tabCells,hi]
def zTab:Array Value:=(tabCells 0).toArray
theorem zTab_zero:(Tryz.prog.info? 244).map (·.zero)=some (some (.agg zTab)):=by kernel_rfl
theorem make_at (w:World):Calls Tryz.prog 129 #[] w fun e w'=>∃g,e=.returned (.pointer (some ⟨g,0,none⟩))∧w.heap.size≤g∧Row w' g 244 (tabCells 256)∧Below w.heap.size w w':=by
 have Z:=Lib.hid zTab_zero
 have HR0:=Lib.hid (show Row (w.alloc (.cells zTab 244)) w.heap.size 244 (tabCells 0) from Row.new w _ _)
 have HB0:=Lib.hid ((Below.refl w.heap.size w).alloc (Nat.le_refl _) (.cells zTab 244))
 go_enter Tryz.func129,Tryz.ntmps129
 go_wp2_with (with_reducible refine wpList_alloc rfl 244 rfl (.agg zTab) Z.out ?_)
 go_loopw [4] (fun i wr=>∃(k:Nat),k≤256∧i=.int .i64 k∧Row wr w.heap.size 244 (tabCells k)∧Below w.heap.size w wr) (fun i _=>256-(intOf i).toNat)
 case atStart=>exact ⟨0,by omega,rfl,HR0.out,HB0.out⟩
 case round =>
  obtain ⟨k,hk,rfl,hr,hb⟩:=hrel
  have HR:=Lib.hid hr;have HB:=Lib.hid hb
  clear hr hb
  by_cases hlt:k < 256
  ·have hlt':(k:Int) < 256:=by omega
   go_wp2_with (fail)
   go_loopw [9,3] (fun i x wx=>∃(j:Nat),j≤8∧i=.int .i64 j∧x=.int .u32 (it j k:Nat)∧wx=wr) (fun i _ _=>8-(intOf i).toNat)
   case atStart=>exact ⟨0,by omega,rfl,by go_num,rfl⟩
   case round =>
    obtain ⟨j,hj,rfl,rfl,rfl⟩:=hrel
    by_cases hlj:j < 8
    ·have hlj':(j:Int) < 8:=by omega
     go_wp2_with (fail)
     refine (down_at _ (it j k) (it_lt j (by omega))).mono ?_;rintro e w' ⟨rfl,rfl⟩
     go_wp2_with (fail)
     go_roundw
     case rel=>exact ⟨j+1,by omega,by go_num,rfl,trivial⟩
     case measure=>simp [intOf];omega
    ·have hlj':¬(j:Int) < 8:=by omega
     have hj8:j=8:=by omega
     have HJ:=Lib.hid hj8
     have hc:=(HR.out.cell k).trans (List.getElem?_eq_getElem (by rw [tabCells_length k hk];exact hlt))
     have hf:=HR.out.frozen k
     have hl:=HR.out.lt
     clear hj8
     go_wp2_with (fail)
     go_roundw
     case rel=>exact ⟨k+1,by omega,by go_num,by rw [HJ.out,←tabCells_set k hlt];exact HR.out.setCell k _,HB.out.setCell (p:=⟨w.heap.size,k,none⟩) (Nat.le_refl _) _⟩
     case measure=>simp [intOf];omega
  ·have hlt':¬(k:Int) < 256:=by omega
   have hk8:k=256:=by omega
   have HK:=Lib.hid hk8
   clear hk8
   go_wp2_with (fail)
   go_ret
   refine ⟨w.heap.size,rfl,Nat.le_refl _,?_,HB.out⟩
   rw [←HK.out]
   exact HR.out
theorem xor8 (a b:Nat) (ha:a < 256) (hb:b < 256):Go.bits .xor .u8 (a:Int) (b:Int)=((a ^^^ b:Nat):Int):=by
 show IntKind.u8.wrap ((BitVec.ofInt 8 (a:Int) ^^^ BitVec.ofInt 8 (b:Int)).toNat:Int)=_
 have hx:a ^^^ b < 2 ^ 8:=Nat.xor_lt_two_pow (by omega) (by omega)
 rw [BitVec.toNat_xor,BitVec.toNat_ofInt,BitVec.toNat_ofInt,show ((a:Int) % ((2 ^ 8:Nat):Int)).toNat=a by omega,show ((b:Int) % ((2 ^ 8:Nat):Int)).toNat=b by omega,IntKind.wrap_u8]
 omega
theorem feed_at (w:World) (g:Nat) (hg:Row w g 244 (tabCells 256)) (x:Nat) (hx:x < 2 ^ 32) (A:Option Addr) (n c:Nat) (bs:List Int) (hn:bs.length=n) (hm:n≤1000000) (hb:Byt bs) (hs:Sl w w.heap.size 1 A n (bs.map (.int .u8))) :
  Calls Tryz.prog 174 #[.pointer (some ⟨g,0,none⟩),.int .u32 x,.slice A n c] w fun e w'=>e=.returned (.int .u32 (fold x bs:Nat))∧w'=w:=by
 have HG:=Lib.hid hg;have HN:=Lib.hid hn;have HB:=Lib.hid hb;have HS:=Lib.hid hs;have HX:=Lib.hid hx
 clear hg hn hb hs hx
 go_enter Tryz.func174,Tryz.ntmps174
 go_wp2_with (fail)
 go_loopw [14,1] (fun i s wr=>∃k:Nat,k≤n∧i=.int .i64 k∧s=.int .u32 (fold x (bs.take k):Nat)∧wr=w) (fun i _ _=>n-(intOf i).toNat)
 case atStart=>exact ⟨0,by omega,rfl,by rw [List.take_zero];rfl,rfl⟩
 case round =>
  obtain ⟨k,hk,rfl,rfl,rfl⟩:=hrel
  by_cases hlt:k < n
  ·have hkb:k < bs.length:=by rw [HN.out];exact hlt
   obtain ⟨b,off,rfl,hbl,hc⟩:=HS.out.2 (by omega)
   have hz:=HB.out bs[k] (List.getElem_mem hkb)
   have c1:=hc k (.int .u8 bs[k]) (by simp [hkb])
   have hfk:fold x (bs.take k) < 2 ^ 32:=fold_lt HX.out fun y hy=>HB.out y (List.mem_of_mem_take hy)
   have hnx:=fold_take_succ x bs k hkb
   generalize hf:fold x (bs.take k)=f at *
   have hz2:bs[k]=((bs[k].toNat:Nat):Int):=by omega
   rw [hz2] at c1
   generalize hzn:bs[k].toNat=z at *
   have hzl:z < 256:=by omega
   have ei:Go.bits .xor .u8 ((f:Int) % 256) (z:Int)=(((f % 256) ^^^ z:Nat):Int):=by
    rw [show (f:Int) % 256=((f % 256:Nat):Int) by omega,xor8 _ _ (by omega) hzl]
   have hil:(f % 256) ^^^ z < 256:=Nat.xor_lt_two_pow (n:=8) (by omega) (by omega)
   have ct:=(HG.out.cell ((f % 256) ^^^ z)).trans (tabCells_get _ hil)
   have hft:=feed_table f z hzl
   have ht32:it 8 ((f % 256) ^^^ z) < 2 ^ 32:=it_lt 8 (by omega)
   generalize (f % 256) ^^^ z=i at *
   generalize it 8 i=t at *
   have ex:Go.bits .xor .u32 ((f:Int) / 256) (t:Int)=((feed f z:Nat):Int):=by
    rw [show (f:Int) / 256=((f / 256:Nat):Int) by omega,xor32 _ _ (by omega) ht32,hft]
   have i0:(0:Int)≤(k:Int):=by omega
   have i1:(k:Int) < (n:Int):=by omega
   have j1:(i:Int) < 256:=by omega
   have HNX:=Lib.hid hnx;have HF:=Lib.hid hf
   clear hc hnx hft ht32 hf hz hz2 hzn hzl hil hfk hkb
   go_wp2_with (fail)
   go_roundw
   case rel=>exact ⟨k+1,by omega,by go_num,by rw [HNX.out],trivial⟩
   case measure=>simp [intOf];omega
  ·have hk2:k=n:=by omega
   have hlt':¬(k:Int) < (n:Int):=by omega
   have HK:=Lib.hid hk2
   clear hk2
   go_wp2_with (fail)
   go_ret
   refine ⟨?_,rfl⟩
   have e:fold x (bs.take k)=fold x bs:=by rw [HK.out,←HN.out,List.take_length]
   rw [e]
   rfl
theorem begin_at (w:World):Calls Tryz.prog 199 #[] w fun e w'=>e=.returned (.int .u32 (4294967295:Nat))∧w'=w:=by
 go_enter Tryz.func199,Tryz.ntmps199
 go_wp2_with (fail)
 go_ret
 exact ⟨rfl,rfl⟩
theorem xor_all (x:Nat) (hx:x < 2 ^ 32):4294967295 ^^^ x=4294967295-x:=by
 apply Nat.eq_of_testBit_eq
 intro i
 rw [Nat.testBit_xor,show 4294967295-x=2 ^ 32-(x+1) by omega,Nat.testBit_two_pow_sub_succ hx,show 4294967295=2 ^ 32-1 by rfl,Nat.testBit_two_pow_sub_one]
 by_cases h:i < 32
 ·simp [h]
 ·have:x.testBit i=false:=Nat.testBit_lt_two_pow (Nat.lt_of_lt_of_le hx (Nat.pow_le_pow_right (by decide) (by omega)))
  simp [h,this]
theorem end_at (w:World) (x:Nat) (hx:x < 2 ^ 32):Calls Tryz.prog 198 #[.int .u32 x] w fun e w'=>e=.returned (.int .u32 (4294967295-x:Nat))∧w'=w:=by
 go_enter Tryz.func198,Tryz.ntmps198
 go_wp2_with (fail)
 have e:bits BinOp.xor IntKind.u32 IntKind.u32.max (x:Int)=((4294967295-x:Nat):Int):=by
  rw [show IntKind.u32.max=((4294967295:Nat):Int) from rfl,xor32 _ _ (by decide) hx,xor_all x hx]
 go_ret
 exact ⟨by rw [e];rfl,rfl⟩
theorem whole_at (w:World) (g:Nat) (hg:Row w g 244 (tabCells 256)) (A:Option Addr) (n c:Nat) (bs:List Int) (hn:bs.length=n) (hm:n≤1000000) (hb:Byt bs) (hs:Sl w w.heap.size 1 A n (bs.map (.int .u8))) :
  Calls Tryz.prog 173 #[.func (Fn.func 174) #[.pointer (some ⟨g,0,none⟩)] #[],.slice A n c] w fun e w'=>e=.returned (.int .u32 (sum bs:Nat))∧w'=w:=by
 have HF:=Lib.hid (feed_at w g hg 4294967295 (by decide) A n c bs hn hm hb hs)
 have HL:=Lib.hid (fold_lt (bs:=bs) (x:=4294967295) (by decide) hb)
 clear hg hn hb hs
 go_enter Tryz.func173,Tryz.ntmps173
 go_wp2_with (fail)
 refine (begin_at _).mono ?_;rintro e w' ⟨rfl,rfl⟩
 go_wp2_with (fail)
 refine HF.out.mono ?_;rintro e w' ⟨rfl,rfl⟩
 go_wp2_with (fail)
 refine (end_at _ _ HL.out).mono ?_;rintro e w' ⟨rfl,rfl⟩
 go_wp2_with (fail)
 go_ret
 exact ⟨rfl,rfl⟩
theorem sum_at (w:World) (g:Nat) (hg:Row w g 244 (tabCells 256)) (A:Option Addr) (n c:Nat) (bs:List Int) (hn:bs.length=n) (hm:n≤1000000) (hb:Byt bs) (hs:Sl w w.heap.size 1 A n (bs.map (.int .u8))) :
  Calls Tryz.prog 130 #[.pointer (some ⟨g,0,none⟩),.slice A n c] w fun e w'=>e=.returned (.int .u32 (sum bs:Nat))∧w'=w:=by
 have HF:=Lib.hid (whole_at w g hg A n c bs hn hm hb hs)
 clear hg hn hb hs
 go_enter Tryz.func130,Tryz.ntmps130
 go_wp2_with (fail)
 refine HF.out.mono ?_;rintro e w' ⟨rfl,rfl⟩
 go_wp2_with (fail)
 go_ret
 exact ⟨rfl,rfl⟩
end crc
namespace plan

open Go.RowKit
section
variable {P : Program} {Q : Exit → Act → World → Prop} {md : Region.Mode} {w : World} {l : List Oper} {a : Act}
theorem segs_start {id:Nat} (hm:P.follows .mixedOrders=true) (h:wpAny P .any l.toArray Q l.toArray.size (Array.replicate l.toArray.size false) a w.drew):(Code.region id l.toArray true).wp P Q a w:=wp_region_any hm h
def closedB (md:Region.Mode) (ops:Array Oper) (listed:Array Bool):Bool :=
 (List.range ops.size).all fun j=>!listed.getD j false||(match ops[j]? with|some oj=>oj.after.all fun e=>!Region.binds md e||listed.getD e.on false|none=>true)
theorem closed_of {ops:Array Oper} {listed:Array Bool} (h:closedB md ops listed=true):Closed md ops listed:=by
 intro j oj hj hl e he hb
 have hjl:j < ops.size:=(Array.getElem?_eq_some_iff.1 hj).1
 have h1:=List.all_eq_true.1 h j (List.mem_range.2 hjl)
 rw [hl,hj] at h1
 simp only [Bool.not_true,Bool.false_or] at h1
 obtain ⟨k,hk,e2⟩:=Array.mem_iff_getElem.1 he
 have h2:=(Array.all_eq_true.1 h1) k hk
 rw [e2,hb] at h2
 simpa using h2
def headsB (P:Program) (md:Region.Mode) (ops:Array Oper):List Nat→Array Bool→Bool
 | [],_=>true
 | i::r,listed=>(Region.ready md ops listed).contains i&&Region.free md ops listed i&&(match ops[i]? with
    | some oi=>indepB P oi||(waitB md ops i (waitSet md ops i)&&(List.range ops.size).all fun j=>j==i||listed.getD j true||(waitSet md ops i).getD j false||(match ops[j]? with
      | some oj=>calmB P oj
      | none=>true))
    | none=>false)&&headsB P md ops r (listed.setIfInBounds i true)
def heard:List Nat→Array Bool→Array Bool
 | [],listed=>listed
 | i::r,listed=>heard r (listed.setIfInBounds i true)
theorem wpAny_heads {n:Nat} (hsel:Region.noSelect l.toArray=true) (hQ:∀c a d v w,Q (.panic c) (Act.put a (some d) v) w→Q (.panic c) a w) :
  ∀(hd:List Nat) (listed:Array Bool) (a:Act),Closed md l.toArray listed→headsB P md l.toArray hd listed=true→
  wpStill P l.toArray w (fun a'=>wpAny P md l.toArray Q n (heard hd listed) a' w) (pick l hd) a→wpAny P md l.toArray Q (hd.length+n) listed a w
 | [],listed,a,_,hB,h=>by
   rw [List.length_nil,Nat.zero_add]
   exact h
 | i::r,listed,a,hc,hB,h=>by
   simp only [headsB,Bool.and_eq_true] at hB
   obtain ⟨⟨⟨hr,hf⟩,hk⟩,hB⟩:=hB
   have hr':i∈Region.ready md l.toArray listed:=by simpa using hr
   cases hoi:l.toArray[i]? with
   | none=>rw [hoi] at hk;cases hk
   | some oi =>
     have hget:(l[i]?).getD default=oi:=by
      have:l[i]?=some oi:=by simpa using hoi
      rw [this];rfl
     have h':stOp P l.toArray w i (wpStill P l.toArray w (fun a'=>wpAny P md l.toArray Q n (heard r (listed.setIfInBounds i true)) a' w) (pick l r)) a:=by
      unfold stOp
      simp only [hoi]
      simp only [pick,hget] at h
      exact h
     obtain ⟨v,hy,hn⟩:=yieldsAt_of_stOp hoi h'
     have ih:=wpAny_heads (n:=n) hsel hQ r _ _ (hc.set hr') hB hn
     rw [List.length_cons,show r.length+1+n=(r.length+n)+1 by omega]
     rw [hoi] at hk
     simp only [Bool.or_eq_true,Bool.and_eq_true] at hk
     rcases hk with hk|⟨hW,hk⟩
     ·refine wpAny_take hoi hsel hf hr (fun c a w h=>put_some hQ c a _ _ w h) ?_ ih
      rcases hy with ⟨hw,hv|⟨hv,rfl⟩|⟨f,args,hv,hcl⟩⟩|⟨hw,rfl⟩
      ·exact .inl ⟨hw,(indep_op hk _ _ _ _ hv).2⟩
      ·obtain ⟨u,hu⟩:=calm_kind (by unfold calmB;split;exact rfl;exact hk) _ _ _ _ hv
       cases hu
      ·obtain ⟨u,hu⟩:=calm_kind (by unfold calmB;split;exact rfl;exact hk) _ _ _ _ hv
       cases hu
      ·exact .inr ⟨hw,rfl⟩
     ·refine wpAny_calm hoi (Region.noSelect_spec hsel) (fun c a w h=>put_some hQ c a _ _ w h) hW _ listed a hc (Region.free_spec hoi hf) (fun j oj hj hji hun=>?_) hr' hy ih
      have hjl:j < l.toArray.size:=(Array.getElem?_eq_some_iff.1 hj).1
      have h1:=List.all_eq_true.1 hk j (List.mem_range.2 hjl)
      simp only [Bool.or_eq_true,beq_iff_eq,hji,false_or,hun,Bool.false_eq_true,hj] at h1
      exact h1
def takeB (P:Program) (md:Region.Mode) (ops:Array Oper) (hd:List Nat) (listed:Array Bool) (N:Nat):Bool :=
 Region.noSelect ops&&closedB md ops listed&&decide (hd.length≤N)&&headsB P md ops hd listed
theorem segs_take {N:Nat} {listed:Array Bool} (hd:List Nat) (hB:takeB P md l.toArray hd listed N=true) (hQ:∀c a d v w,Q (.panic c) (Act.put a (some d) v) w→Q (.panic c) a w)
  (h:wpStill P l.toArray w (fun a'=>wpAny P md l.toArray Q (N-hd.length) (heard hd listed) a' w) (pick l hd) a):wpAny P md l.toArray Q N listed a w:=by
 simp only [takeB,Bool.and_eq_true,decide_eq_true_eq] at hB
 obtain ⟨⟨⟨hsel,hc⟩,hn⟩,hB⟩:=hB
 have:=wpAny_heads (n:=N-hd.length) hsel hQ hd listed a (closed_of hc) hB h
 rwa [show hd.length+(N-hd.length)=N by omega] at this
def oneB (md:Region.Mode) (ops:Array Oper) (i:Nat) (listed:Array Bool) (N:Nat):Bool:=decide (0 < N)&&decide (i < ops.size)&&decide (Region.ready md ops listed=[i])
theorem segs_one {N:Nat} {listed:Array Bool} (i:Nat) (hB:oneB md l.toArray i listed N=true) (hw:Region.wanted ((l[i]?).getD default) (yielded l.toArray a.tmps)=true)
  (h:Oper.wp P ((l[i]?).getD default) a w (wpAny P md l.toArray Q (N-1) (listed.setIfInBounds i true)) Q):wpAny P md l.toArray Q N listed a w:=by
 simp only [oneB,Bool.and_eq_true,decide_eq_true_eq] at hB
 obtain ⟨⟨hN,hi⟩,hr⟩:=hB
 obtain ⟨n,rfl⟩:∃n,N=n+1:=⟨N-1,by omega⟩
 have h0:l.toArray[i]?=some ((l[i]?).getD default):=by simp [List.getElem?_eq_getElem (show i < l.length by simpa using hi)]
 refine ⟨fun h1=>(by rw [hr] at h1;cases h1),fun j hj=>?_⟩
 rw [hr] at hj
 have hji:j=i:=by simpa using hj
 subst hji
 unfold wpOp
 simp only [h0]
 rw [if_pos hw]
 exact .inl h
theorem segs_skip {N:Nat} {listed:Array Bool} (i:Nat) (hB:oneB md l.toArray i listed N=true) (hw:Region.wanted ((l[i]?).getD default) (yielded l.toArray a.tmps)=false)
  (h:wpAny P md l.toArray Q (N-1) (listed.setIfInBounds i true) (a.put ((l[i]?).getD default).dst undef) w):wpAny P md l.toArray Q N listed a w:=by
 simp only [oneB,Bool.and_eq_true,decide_eq_true_eq] at hB
 obtain ⟨⟨hN,hi⟩,hr⟩:=hB
 obtain ⟨n,rfl⟩:∃n,N=n+1:=⟨N-1,by omega⟩
 have h0:l.toArray[i]?=some ((l[i]?).getD default):=by simp [List.getElem?_eq_getElem (show i < l.length by simpa using hi)]
 refine ⟨fun h1=>(by rw [hr] at h1;cases h1),fun j hj=>?_⟩
 rw [hr] at hj
 have hji:j=i:=by simpa using hj
 subst hji
 unfold wpOp
 simp only [h0]
 rw [if_neg (by rw [hw];decide)]
 exact h
def freeB (md:Region.Mode) (ops:Array Oper) (i:Nat) (listed:Array Bool) (N:Nat):Bool:=Region.noSelect ops&&decide (0 < N)&&decide (i < ops.size)&&Region.free md ops listed i&&(Region.ready md ops listed).contains i
theorem segs_pure {N:Nat} {listed:Array Bool} (i:Nat) (v:Value) (hB:freeB md l.toArray i listed N=true) (hQ:∀c a d v w,Q (.panic c) (Act.put a (some d) v) w→Q (.panic c) a w)
  (hw:Region.wanted ((l[i]?).getD default) (yielded l.toArray a.tmps)=true) (hv:∀w2,(execOp a.eval ((l[i]?).getD default)).run P w2=.ok (.value v) w2)
  (h:wpAny P md l.toArray Q (N-1) (listed.setIfInBounds i true) (a.put ((l[i]?).getD default).dst v) w):wpAny P md l.toArray Q N listed a w:=by
 simp only [freeB,Bool.and_eq_true,decide_eq_true_eq] at hB
 obtain ⟨⟨⟨⟨hsel,hN⟩,hi⟩,hf⟩,hr⟩:=hB
 obtain ⟨n,rfl⟩:∃n,N=n+1:=⟨N-1,by omega⟩
 have h0:l.toArray[i]?=some ((l[i]?).getD default):=by simp [List.getElem?_eq_getElem (show i < l.length by simpa using hi)]
 exact wpAny_take h0 hsel hf hr (fun c a w h=>put_some hQ c a _ _ w h) (.inl ⟨hw,fun w2=>hv w2⟩) h
def twoB (md:Region.Mode) (ops:Array Oper) (i j:Nat) (listed:Array Bool) (N:Nat):Bool:=decide (0 < N)&&decide (i < ops.size)&&decide (j < ops.size)&&decide (Region.ready md ops listed=[i,j])
theorem segs_two {N:Nat} {listed:Array Bool} (i j:Nat) (hB:twoB md l.toArray i j listed N=true)
  (hi:Region.wanted ((l[i]?).getD default) (yielded l.toArray a.tmps)=true) (hj:Region.wanted ((l[j]?).getD default) (yielded l.toArray a.tmps)=true)
  (h1:Oper.wp P ((l[i]?).getD default) a w (wpAny P md l.toArray Q (N-1) (listed.setIfInBounds i true)) Q)
  (h2:Oper.wp P ((l[j]?).getD default) a w (wpAny P md l.toArray Q (N-1) (listed.setIfInBounds j true)) Q):wpAny P md l.toArray Q N listed a w:=by
 simp only [twoB,Bool.and_eq_true,decide_eq_true_eq] at hB
 obtain ⟨⟨⟨hN,hil⟩,hjl⟩,hr⟩:=hB
 obtain ⟨n,rfl⟩:∃n,N=n+1:=⟨N-1,by omega⟩
 have g:∀k,k < l.toArray.size→l.toArray[k]?=some ((l[k]?).getD default):=fun k hk=>by simp [List.getElem?_eq_getElem (show k < l.length by simpa using hk)]
 refine ⟨fun h1=>(by rw [hr] at h1;cases h1),fun k hk=>?_⟩
 rw [hr] at hk
 unfold wpOp
 rcases List.mem_cons.1 hk with rfl|hk
 ·simp only [g _ hil]
  rw [if_pos hi]
  exact .inl h1
 ·have hkj:k=j:=by simpa using hk
  subst hkj
  simp only [g _ hjl]
  rw [if_pos hj]
  exact .inl h2
theorem segs_end {N:Nat} {listed:Array Bool} {ops:Array Oper} (hr:(Region.ready md ops listed).isEmpty=true) (h:Q .normal a w):wpAny P md ops Q N listed a w:=wpAny_done (by simpa using hr) h N
end
end plan
namespace sha

open Go.RowKit base obj mem sep crc
theorem or32 (a b:Nat) (ha:a < 2 ^ 32) (hb:b < 2 ^ 32):Go.bits .or .u32 (a:Int) (b:Int)=((a ||| b:Nat):Int):=by
 show IntKind.u32.wrap ((BitVec.ofInt 32 (a:Int) ||| BitVec.ofInt 32 (b:Int)).toNat:Int)=_
 have hx:a ||| b < 2 ^ 32:=Nat.or_lt_two_pow ha hb
 rw [BitVec.toNat_or,BitVec.toNat_ofInt,BitVec.toNat_ofInt,show ((a:Int) % ((2 ^ 32:Nat):Int)).toNat=a by omega,show ((b:Int) % ((2 ^ 32:Nat):Int)).toNat=b by omega,IntKind.wrap_u32]
 omega
theorem and32 (a b:Nat) (ha:a < 2 ^ 32) (hb:b < 2 ^ 32):Go.bits .and .u32 (a:Int) (b:Int)=((a &&& b:Nat):Int):=by
 show IntKind.u32.wrap ((BitVec.ofInt 32 (a:Int) &&& BitVec.ofInt 32 (b:Int)).toNat:Int)=_
 have hx:a &&& b < 2 ^ 32:=Nat.and_lt_two_pow _ hb
 rw [BitVec.toNat_and,BitVec.toNat_ofInt,BitVec.toNat_ofInt,show ((a:Int) % ((2 ^ 32:Nat):Int)).toNat=a by omega,show ((b:Int) % ((2 ^ 32:Nat):Int)).toNat=b by omega,IntKind.wrap_u32]
 omega
theorem and31 (a:Nat) (ha:a < 32):Go.bits .and .u64 (a:Int) 31=(a:Int):=by
 have h:a=0∨a=1∨a=2∨a=3∨a=4∨a=5∨a=6∨a=7∨a=8∨a=9∨a=10∨a=11∨a=12∨a=13∨a=14∨a=15∨a=16∨a=17∨a=18∨a=19∨a=20∨a=21∨a=22∨a=23∨a=24∨a=25∨a=26∨a=27∨a=28∨a=29∨a=30∨a=31:=by omega
 rcases h with rfl|rfl|rfl|rfl|rfl|rfl|rfl|rfl|rfl|rfl|rfl|rfl|rfl|rfl|rfl|rfl|rfl|rfl|rfl|rfl|rfl|rfl|rfl|rfl|rfl|rfl|rfl|rfl|rfl|rfl|rfl|rfl<;>decide +kernel
theorem rot_at (w:World) (x n:Nat) (hx:x < 2 ^ 32) (h0:0 < n) (hn:n < 32):Calls Tryz.prog 221 #[.int .u32 x,.int .i64 ((32-n:Nat):Int)] w fun e w'=>e=.returned (.int .u32 (tn x n:Nat))∧w'=w:=by
 have e1:=and31 (32-n) (by omega)
 go_enter Tryz.func221,Tryz.ntmps221
 go_wp2_with (fail)
 go_ret
 refine ⟨?_,rfl⟩
 rw [←tn_or x n hx h0 hn,show (x:Int)*2 ^ (32-n) % 4294967296=((x*2 ^ (32-n) % 2 ^ 32:Nat):Int) by rw [Int.natCast_emod,Int.natCast_mul,Int.natCast_pow];rfl,show 32-(32-n)=n by omega,show (x:Int) / 2 ^ n=((x / 2 ^ n:Nat):Int) by rw [Int.natCast_ediv,Int.natCast_pow];rfl,or32 _ _ (Nat.mod_lt _ (by decide)) (Nat.lt_of_le_of_lt (Nat.div_le_self _ _) hx)]
 rfl
theorem right_at (w:World) (x n:Nat) (hx:x < 2 ^ 32) (h0:0 < n) (hn:n < 32):Calls Tryz.prog 219 #[.int .u32 x,.int .i64 n] w fun e w'=>e=.returned (.int .u32 (tn x n:Nat))∧w'=w:=by
 go_enter Tryz.func219,Tryz.ntmps219
 go_wp2_with (fail)
 have h:=rot_at w x n hx h0 hn
 rw [show ((32-n:Nat):Int)=32-(n:Int) by omega] at h
 refine h.mono ?_;rintro e w' ⟨rfl,rfl⟩
 go_wp2_with (fail)
 go_ret
 exact ⟨rfl,rfl⟩
theorem q_right (w:World) (x n:Nat) (hx:x < 2 ^ 32) (h0:0 < n) (hn:n < 32) (k:Nat):Calls Tryz.prog 219 #[.int .u32 x,.int .i64 n] (w.drewN k) fun e w'=>e=.returned (.int .u32 (tn x n:Nat))∧∃j,w'=w.drewN j :=
 (right_at _ x n hx h0 hn).mono fun e w' ⟨h1,h2⟩=>⟨h1,k,h2⟩
theorem alloc_sz (w:World) (o:Obj):(w.alloc o).heap.size=w.heap.size+1:=Array.size_push _
theorem row_at {W:World} {n:Nat} (h:W.heap.size=n) (t:TypeId) (cs:Array Value):Row (W.alloc (.cells cs t)) n t cs.toList:=by
 subst h
 exact Row.new W t cs
theorem row8 {w:World} {n:Nat} {t:TypeId} {a b c d e f g h:Value} (r:Row w n t [a,b,c,d,e,f,g,h]):w.cell? ⟨n,0,none⟩=some a∧w.cell? ⟨n,1,none⟩=some b∧w.cell? ⟨n,2,none⟩=some c∧w.cell? ⟨n,3,none⟩=some d∧w.cell? ⟨n,4,none⟩=some e∧w.cell? ⟨n,5,none⟩=some f∧w.cell? ⟨n,6,none⟩=some g∧w.cell? ⟨n,7,none⟩=some h :=
 ⟨r.cell 0,r.cell 1,r.cell 2,r.cell 3,r.cell 4,r.cell 5,r.cell 6,r.cell 7⟩
theorem row8_keep {w:World} {n:Nat} {t:TypeId} {xs:List Value} (r:Row w n t xs) (a b c d e f g h:Value):Row ((((((((w.setCell ⟨n+1,0,none⟩ a).setCell ⟨n+1,1,none⟩ b).setCell ⟨n+1,2,none⟩ c).setCell ⟨n+1,3,none⟩ d).setCell ⟨n+1,4,none⟩ e).setCell ⟨n+1,5,none⟩ f).setCell ⟨n+1,6,none⟩ g).setCell ⟨n+1,7,none⟩ h) n t xs :=
 have z:n≠n+1:=by omega
 (((((((r.setCell_other z a).setCell_other z b).setCell_other z c).setCell_other z d).setCell_other z e).setCell_other z f).setCell_other z g).setCell_other z h
theorem row8_set {w:World} {n:Nat} {t:TypeId} {x0 x1 x2 x3 x4 x5 x6 x7:Value} (r:Row w n t [x0,x1,x2,x3,x4,x5,x6,x7]) (a b c d e f g h:Value):Row ((((((((w.setCell ⟨n,0,none⟩ a).setCell ⟨n,1,none⟩ b).setCell ⟨n,2,none⟩ c).setCell ⟨n,3,none⟩ d).setCell ⟨n,4,none⟩ e).setCell ⟨n,5,none⟩ f).setCell ⟨n,6,none⟩ g).setCell ⟨n,7,none⟩ h) n t [a,b,c,d,e,f,g,h] :=
 (((((((r.setCell 0 a).setCell 1 b).setCell 2 c).setCell 3 d).setCell 4 e).setCell 5 f).setCell 6 g).setCell 7 h
def W8.list (v:W8):List Nat:=[v.a,v.b,v.c,v.d,v.e,v.f,v.g,v.h]
def W8.val (v:W8):Value:=.agg #[.int .u32 v.a,.int .u32 v.b,.int .u32 v.c,.int .u32 v.d,.int .u32 v.e,.int .u32 v.f,.int .u32 v.g,.int .u32 v.h]
theorem upper_at (w:World) (v:W8) (hv:v.Ok):Calls Tryz.prog 210 #[v.val] w fun e w'=>e=.returned (.int .u32 (upP v:Nat))∧Below w.heap.size w w':=by
 obtain ⟨a,b,c,d,e,f,g,h⟩:=v
 obtain ⟨ha,hb,hc,hd,he,hf,hg,hh⟩:=hv
 simp only [W8.val] at *
 have l1:=tn_lt a 9 ha (by omega)
 have x1:=xor_lt l1 ha
 have l2:=tn_lt _ 11 x1 (by omega)
 have x2:=xor_lt l2 ha
 have l3:=tn_lt _ 2 x2 (by omega)
 have r1:RowKit.Hid (∀(w:World) (k:Nat),Calls Tryz.prog 219 #[.int .u32 a,.int .i64 9] (w.drewN k) fun e w'=>e=.returned (.int .u32 (tn a 9:Nat))∧∃j,w'=w.drewN j):=Lib.hid fun w k=>q_right w a 9 ha (by omega) (by omega) k
 have r2:RowKit.Hid (∀(w:World) (k:Nat),Calls Tryz.prog 219 #[.int .u32 (tn a 9 ^^^ a:Nat),.int .i64 11] (w.drewN k) fun e w'=>e=.returned (.int .u32 (tn (tn a 9 ^^^ a) 11:Nat))∧∃j,w'=w.drewN j):=Lib.hid fun w k=>q_right w _ 11 x1 (by omega) (by omega) k
 have r3:RowKit.Hid (∀(w:World) (k:Nat),Calls Tryz.prog 219 #[.int .u32 (tn (tn a 9 ^^^ a) 11 ^^^ a:Nat),.int .i64 2] (w.drewN k) fun e w'=>e=.returned (.int .u32 (tn (tn (tn a 9 ^^^ a) 11 ^^^ a) 2:Nat))∧∃j,w'=w.drewN j):=Lib.hid fun w k=>q_right w _ 2 x2 (by omega) (by omega) k
 have e1:=xor32 (tn a 9) a l1 ha
 have e2:=xor32 (tn (tn a 9 ^^^ a) 11) a l2 ha
 have e3:=or32 a b ha hb
 have e4:=and32 (a ||| b) c (Nat.or_lt_two_pow ha hb) hc
 have e5:=and32 a b ha hb
 have e6:=or32 ((a ||| b) &&& c) (a &&& b) (Nat.and_lt_two_pow _ hc) (Nat.and_lt_two_pow _ hb)
 clear l1 l2 l3 x1 x2 ha hb hc hd he hf hg hh
 go_enter Tryz.func210,Tryz.ntmps210
 go_wp2_with (fail)
 go_quiet ((first
  | (with_reducible exact r1.out _ _)
  | (with_reducible exact r2.out _ _)
  | (with_reducible exact r3.out _ _)))
 go_wp2_with (fail)
 go_ret
 exact ⟨by congr 1,(below_drewN ((Below.refl _ _).alloc (Nat.le_refl _) _) _)⟩
theorem lower_at (w:World) (v:W8) (hv:v.Ok):Calls Tryz.prog 211 #[v.val] w fun e w'=>e=.returned (.int .u32 (loP v:Nat))∧Below w.heap.size w w':=by
 obtain ⟨b,c,d,g,a,e,f,h⟩:=v
 obtain ⟨hb,hc,hd,hg,ha,he,hf,hh⟩:=hv
 simp only [W8.val] at *
 have l1:=tn_lt a 14 ha (by omega)
 have x1:=xor_lt l1 ha
 have l2:=tn_lt _ 5 x1 (by omega)
 have x2:=xor_lt l2 ha
 have l3:=tn_lt _ 6 x2 (by omega)
 have r1:RowKit.Hid (∀(w:World) (k:Nat),Calls Tryz.prog 219 #[.int .u32 a,.int .i64 14] (w.drewN k) fun e w'=>e=.returned (.int .u32 (tn a 14:Nat))∧∃j,w'=w.drewN j):=Lib.hid fun w k=>q_right w a 14 ha (by omega) (by omega) k
 have r2:RowKit.Hid (∀(w:World) (k:Nat),Calls Tryz.prog 219 #[.int .u32 (tn a 14 ^^^ a:Nat),.int .i64 5] (w.drewN k) fun e w'=>e=.returned (.int .u32 (tn (tn a 14 ^^^ a) 5:Nat))∧∃j,w'=w.drewN j):=Lib.hid fun w k=>q_right w _ 5 x1 (by omega) (by omega) k
 have r3:RowKit.Hid (∀(w:World) (k:Nat),Calls Tryz.prog 219 #[.int .u32 (tn (tn a 14 ^^^ a) 5 ^^^ a:Nat),.int .i64 6] (w.drewN k) fun e w'=>e=.returned (.int .u32 (tn (tn (tn a 14 ^^^ a) 5 ^^^ a) 6:Nat))∧∃j,w'=w.drewN j):=Lib.hid fun w k=>q_right w _ 6 x2 (by omega) (by omega) k
 have e1:=xor32 (tn a 14) a l1 ha
 have e2:=xor32 (tn (tn a 14 ^^^ a) 5) a l2 ha
 have e3:=xor32 e f he hf
 have e4:=and32 (e ^^^ f) a (xor_lt he hf) ha
 have e5:=xor32 ((e ^^^ f) &&& a) f (Nat.and_lt_two_pow _ ha) hf
 clear l1 l2 l3 x1 x2 ha hb hc hd he hf hg hh
 go_enter Tryz.func211,Tryz.ntmps211
 go_wp2_with (fail)
 go_quiet ((first
  | (with_reducible exact r1.out _ _)
  | (with_reducible exact r2.out _ _)
  | (with_reducible exact r3.out _ _)))
 go_wp2_with (fail)
 go_ret
 exact ⟨by congr 1,(below_drewN ((Below.refl _ _).alloc (Nat.le_refl _) _) _)⟩
theorem spread_at (w:World) (x a b c:Nat) (hx:x < 2 ^ 32) (ha0:0 < a) (ha:a < 32) (hb0:0 < b) (hb:b < 32) (hc:c < 32):Calls Tryz.prog 218 #[.int .u32 x,.int .i64 a,.int .i64 b,.int .i64 c] w fun e w'=>e=.returned (.int .u32 (sp x a b c:Nat))∧∃j,w'=w.drewN j:=by
 have r1:RowKit.Hid (∀(w:World) (k:Nat),Calls Tryz.prog 219 #[.int .u32 x,.int .i64 a] (w.drewN k) fun e w'=>e=.returned (.int .u32 (tn x a:Nat))∧∃j,w'=w.drewN j):=Lib.hid fun w k=>q_right w x a hx ha0 ha k
 have r2:RowKit.Hid (∀(w:World) (k:Nat),Calls Tryz.prog 219 #[.int .u32 x,.int .i64 b] (w.drewN k) fun e w'=>e=.returned (.int .u32 (tn x b:Nat))∧∃j,w'=w.drewN j):=Lib.hid fun w k=>q_right w x b hx hb0 hb k
 have e1:=xor32 (tn x a) (tn x b) (tn_lt x a hx ha) (tn_lt x b hx hb)
 have e2:=xor32 (tn x a ^^^ tn x b) (x / 2 ^ c) (xor_lt (tn_lt x a hx ha) (tn_lt x b hx hb)) (Nat.lt_of_le_of_lt (Nat.div_le_self _ _) hx)
 have e3:((x / 2 ^ c:Nat):Int)=(x:Int) / 2 ^ c:=by rw [Int.natCast_ediv,Int.natCast_pow];rfl
 rw [e3] at e2
 clear e3 ha hb ha0 hb0 hx
 go_enter Tryz.func218,Tryz.ntmps218
 go_wp2_with (fail)
 go_quiet ((first
  | (with_reducible exact r1.out _ _)
  | (with_reducible exact r2.out _ _)))
 go_wp2_with (fail)
 go_ret
 exact ⟨rfl,_,rfl⟩
theorem plus_at (w:World) (v u:W8):Calls Tryz.prog 212 #[v.val,u.val] w fun e w'=>e=.returned (plus v u).val∧Below w.heap.size w w':=by
 obtain ⟨a,b,c,d,e,f,g,h⟩:=v
 obtain ⟨a',b',c',d',e',f',g',h'⟩:=u
 simp only [W8.val] at *
 go_enter Tryz.func212,Tryz.ntmps212
 go_wp2_with (fail)
 refine bodyPost_ret (results_cell_row rfl _ _ (w.heap.size+1+1) _ _ _ _ rfl (row_at (by simp only [alloc_sz]) _ _) Tryz.underlying238 rfl (by kernel_rfl)) rfl ?_
 exact ⟨rfl,(((Below.refl _ _).alloc (Nat.le_refl _) _).alloc (by simp only [alloc_sz];omega) _).alloc (by simp only [alloc_sz];omega) _⟩
theorem round_at (w:World) (v:W8) (hv:v.Ok) (wi:Nat) (hw:wi < 2 ^ 32):Calls Tryz.prog 209 #[v.val,.int .u32 wi,.func (Fn.func 210) #[] #[],.func (Fn.func 211) #[] #[]] w fun e w'=>e=.returned (stepP v wi).val∧Below w.heap.size w w':=by
 have HU:=Lib.hid fun w=>upper_at w v hv
 have HL:=Lib.hid fun w=>lower_at w v hv
 obtain ⟨a,b,c,d,e,f,g,h⟩:=v
 simp only [W8.val] at *
 clear hv
 have rb:=(Row.new w 238 #[.int .u32 a,.int .u32 b,.int .u32 c,.int .u32 d,.int .u32 e,.int .u32 f,.int .u32 g,.int .u32 h]).alloc (.cells #[.int .u32 0,.int .u32 0,.int .u32 0,.int .u32 0,.int .u32 0,.int .u32 0,.int .u32 0,.int .u32 0] 238)
 have rz:=row_at (W:=w.alloc (.cells #[.int .u32 a,.int .u32 b,.int .u32 c,.int .u32 d,.int .u32 e,.int .u32 f,.int .u32 g,.int .u32 h] 238)) (alloc_sz _ _) 238 #[.int .u32 0,.int .u32 0,.int .u32 0,.int .u32 0,.int .u32 0,.int .u32 0,.int .u32 0,.int .u32 0]
 have hb0:=((Below.refl w.heap.size w).alloc (Nat.le_refl _) (.cells #[.int .u32 a,.int .u32 b,.int .u32 c,.int .u32 d,.int .u32 e,.int .u32 f,.int .u32 g,.int .u32 h] 238)).alloc (by simp only [alloc_sz];omega) (.cells #[.int .u32 0,.int .u32 0,.int .u32 0,.int .u32 0,.int .u32 0,.int .u32 0,.int .u32 0,.int .u32 0] 238)
 have RB:=Lib.hid rb;have RZ:=Lib.hid rz;have HB0:=Lib.hid hb0
 clear rb rz hb0
 go_enter Tryz.func209,Tryz.ntmps209
 go_wp2_with (fail)
 refine (HL.out _).mono ?_;rintro e1 w1 ⟨rfl,hb1⟩
 have rb:=RB.out.below hb1 RB.out.lt;have rz:=RZ.out.below hb1 RZ.out.lt
 have HB1:=Lib.hid (HB0.out.trans (hb1.mono HB0.out.size))
 have t0:=rb.cell 0;have t1:=rb.cell 1;have t2:=rb.cell 2;have t3:=rb.cell 3;have t4:=rb.cell 4;have t5:=rb.cell 5;have t6:=rb.cell 6;have t7:=rb.cell 7
 simp only [List.getElem?_cons_succ,List.getElem?_cons_zero] at t0 t1 t2 t3 t4 t5 t6 t7
 have hz0:=rz.cell 0
 have hzf:=rz.frozen 0
 have hzl:=rz.lt;have hbl:=rb.lt
 have RB1:=Lib.hid rb;have RZ1:=Lib.hid rz
 clear rb rz hb1
 go_wp2_with (fail)
 go_region_held3 (fun w'=>w'.cell? ⟨w.heap.size,0,none⟩=some (.int .u32 a)∧w'.cell? ⟨w.heap.size,1,none⟩=some (.int .u32 b)∧w'.cell? ⟨w.heap.size,2,none⟩=some (.int .u32 c)∧w'.cell? ⟨w.heap.size,3,none⟩=some (.int .u32 d)∧w'.cell? ⟨w.heap.size,4,none⟩=some (.int .u32 e)∧w'.cell? ⟨w.heap.size,5,none⟩=some (.int .u32 f)∧w'.cell? ⟨w.heap.size,6,none⟩=some (.int .u32 g)∧w'.cell? ⟨w.heap.size,7,none⟩=some (.int .u32 h)) (first|(with_reducible exact row8 (row8_keep RB2.out _ _ _ _ _ _ _ _))|((fail_if_success (have:=RB2));go_keep)|(refine ⟨?_,?_,?_,?_,?_,?_,?_,?_⟩<;>(refine cell_below HB2.out ?_;go_simp))) (((with_reducible refine (HU.out _).mono ?_);rintro e2 w2 ⟨rfl,hb2⟩;have HB2:=Lib.hid hb2;have rz2:=Row.below (g:=w.heap.size+1) (by exact RZ1.out) hb2 (by exact RZ1.out.lt);have RZ2:=Lib.hid rz2;have RB2:=Lib.hid (show Row w2 w.heap.size 238 [.int .u32 a,.int .u32 b,.int .u32 c,.int .u32 d,.int .u32 e,.int .u32 f,.int .u32 g,.int .u32 h] from Row.below (g:=w.heap.size) (by exact RB1.out) hb2 (by exact RB1.out.lt));have z0:=rz2.cell 0;have f0:=rz2.frozen 0;have z1:=rz2.cell 1;have f1:=rz2.frozen 1;have z2:=rz2.cell 2;have f2:=rz2.frozen 2;have z3:=rz2.cell 3;have f3:=rz2.frozen 3;have z4:=rz2.cell 4;have f4:=rz2.frozen 4;have z5:=rz2.cell 5;have f5:=rz2.frozen 5;have z6:=rz2.cell 6;have f6:=rz2.frozen 6;have z7:=rz2.cell 7;have f7:=rz2.frozen 7;simp only [List.getElem?_cons_succ,List.getElem?_cons_zero] at z0 z1 z2 z3 z4 z5 z6 z7;have zl:=rz2.lt;clear hb2 rz2))
 go_wp2_with (fail)
 refine bodyPost_ret (results_cell_row rfl _ _ (w.heap.size+1) _ _ _ _ rfl (row8_set (show Row w2 (w.heap.size+1) 238 [.int .u32 0,.int .u32 0,.int .u32 0,.int .u32 0,.int .u32 0,.int .u32 0,.int .u32 0,.int .u32 0] from RZ2.out) _ _ _ _ _ _ _ _) Tryz.underlying238 rfl (by kernel_rfl)) rfl ?_
 refine ⟨by simp only [IntKind.wrap_u32];rfl,?_⟩
 have hb:=HB1.out.drew.trans (HB2.out.mono HB1.out.drew.size)
 have z:w.heap.size≤w.heap.size+1:=by omega
 exact (((((((hb.setCell (p:=⟨w.heap.size+1,0,none⟩) z _).setCell (p:=⟨w.heap.size+1,1,none⟩) z _).setCell (p:=⟨w.heap.size+1,2,none⟩) z _).setCell (p:=⟨w.heap.size+1,3,none⟩) z _).setCell (p:=⟨w.heap.size+1,4,none⟩) z _).setCell (p:=⟨w.heap.size+1,5,none⟩) z _).setCell (p:=⟨w.heap.size+1,6,none⟩) z _).setCell (p:=⟨w.heap.size+1,7,none⟩) z _
end sha
namespace mem

open Go.RowKit base obj
theorem res_cell_slot {P:Program} {fn:Func} {p q:Tmp} {ty:TypeId} (h:fn.results=#[.cell p ty,.tmp q]) (tmps:Array Value) (w:World) (g:Nat) (t:TypeId) (cs:Array Value) (fr:Nat×Nat) (d:TypeDesc) (v:Value)
  (hp:tmps.getD p undef=.pointer (some ⟨g,0,none⟩)) (hq:tmps.getD q undef=v) (hg:w.heap[g]?=some (.cells cs t fr))
  (hu:P.underlying ty=some d) (hd:(match d with|.struct _|.array _ _=>true|_=>false)=true) (hi:(P.info? ty).map (·.size)=some cs.size) :
  (results fn tmps).run P w=.ok (.tuple #[.agg cs,v]) w:=by
 have hp':tmps[p]?.getD undef=.pointer (some ⟨g,0,none⟩):=by simpa using hp
 have hq':tmps[q]?.getD undef=v:=by simpa using hq
 simp [results,h,hp',hq',asAddr,run_loadVar_row w g t ty cs fr d hg hu hd hi]
theorem below_setRow' {B:Nat} {a w:World} (h:Below B a w) {g:Nat} (hg:B≤g) (cs:Array Value):Below B a (w.setRow g cs) :=
 ⟨h.os,h.tape,h.output,by have:=h.size;simpa using this,fun k hk=>(Go.setRow_other w g k cs (by omega)).trans (h.block k hk)⟩
theorem step_app' {P:Program} {t e size bytes:Nat} (T:SlT P t e size bytes) {ops:Array Oper} {o:Oper} {a:Act} {K:Act→World→Prop} {Q:Exit→Act→World→Prop} {E:Prop} {w:World} (hgd:o.guard=none) (s x:Operand)
  (ho:o.op=.call { callee:=.builtin .append,args:=#[s,x],argTypes:=#[t,t] })
  {base:Nat} {v:Value} {n:Nat} {xs:List Value} (hown:w.ownsRow base e size v n xs) (hs:a.eval s=v) {B m c:Nat} {A:Option Addr} {ys:List Value} (hx:a.eval x=.slice A m c)
  (hr:Sl w B size A m ys) (h1:∀u∈ys,u.oneCell'=true) (hm:0 < m) (hb:(n+m)*bytes≤140737488355328) (h63:n+m≤maxLen) (hbase:base≤w.heap.size)
  (h:∀g cap w',w'.ownsRow base e size (.slice (some ⟨g,0,none⟩) (n+m) cap) (n+m) (xs++ys)→w.grownBy w' v.ownBlock→(v.ownBlock=some g∨w.heap.size≤g)→g < w'.heap.size→K (a.put o.dst (.slice (some ⟨g,0,none⟩) (n+m) cap)) w') :
  if Region.wanted o (yielded ops a.tmps)=true then Oper.wp P o a w K Q else E:=by
 have hw:Region.wanted o (yielded ops a.tmps)=true:=by simp [Region.wanted,hgd]
 rw [if_pos hw]
 obtain ⟨i,z,hi,hz,h2,h3,h4⟩:=T.hi
 obtain ⟨b,off,rfl,_,hc⟩:=hr.2 hm
 refine wp_append_lies w s x t ho base e i z size bytes T.ht hi hz h2 h3 h4 T.hs v n xs hs hown ⟨b,off,none⟩ m c ys hx hr.1 (fun j u hu=>?_) h1 hm h63 hb hbase w.heap.size rfl ?_
 ·rw [Addr.add_mid]
  exact hc j u hu
 ·intro g cap w' ho' hg' hor hlt
  exact h g cap w' ho' hg' (hor.imp id fun e=>by omega) hlt
end mem
end Go.Proofs.YtdldkkoplgkloaaGreat
