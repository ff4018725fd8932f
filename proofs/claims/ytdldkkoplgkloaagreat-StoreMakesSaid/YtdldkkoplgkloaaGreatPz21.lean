/-
  PROVED HERE: lemmas and contracts that the law's proof leans on (texts put together: RecMath, BitsMath, Bits, BitsPlain).
  CONDITIONS: each names its own.
-/
import Derived.LoopIn
import Derived.LoopNIn
import Derived.Maps.AppendAt
import Derived.OrdersIn
import Derived.OwnWalkIn
import Derived.RangeFuncBound
import Derived.RangeFuncCalls
import Derived.RangeFuncLeaves
import Derived.RangeFuncNested
import Derived.Shelf.Abstract
import Derived.Shelf.RegionOpen
import Derived.StillTailTactics
import Derived.TacticsInMore
import Derived.Test.YtdldkkoplgkloaaGreatPz0
import Derived.Test.YtdldkkoplgkloaaGreatPz20
namespace Go.Proofs.YtdldkkoplgkloaaGreat
set_option linter.unusedVariables false
set_option linter.unusedSimpArgs false
set_option maxRecDepth 100000
set_option maxHeartbeats 32000000
namespace record

open Go.RowKit base crc num
theorem pre_length (mark:Nat) (ks vs:List Nat) (i:Nat) (h:i≤ks.length):(pre mark ks vs i).length=offs ks i:=by
 induction i with
 | zero=>simp [pre,offs,be_length]
 | succ i ih=>rw [pre_succ,List.length_append,be_length,ih (by omega),offs_succ ks i (by omega)]
theorem pre_more (mark:Nat) (ks vs:List Nat) (i n:Nat) (h:i≤n):∃rest,pre mark ks vs n=pre mark ks vs i++rest:=by
 induction n with
 | zero=>obtain rfl:i=0:=by omega
         exact ⟨[],by simp⟩
 | succ n ih =>
   rcases Nat.lt_or_ge i (n+1) with h'|h'
   ·obtain ⟨r,hr⟩:=ih (by omega)
    exact ⟨r++be (ks.getD n 0) (vs.getD n 0),by rw [pre_succ,hr,List.append_assoc]⟩
   ·obtain rfl:i=n+1:=by omega
    exact ⟨[],by simp⟩
theorem got_pre (mark:Nat) (ks vs:List Nat) (n i:Nat) (q:List Int) (hi:i < n) (hn:n≤ks.length) (hv:vs.getD i 0 < 256 ^ ks.getD i 0):got ks (pre mark ks vs n++q) i=vs.getD i 0:=by
 obtain ⟨r,hr⟩:=pre_more mark ks vs (i+1) n hi
 unfold got
 rw [hr,pre_succ,List.append_assoc,List.append_assoc,List.drop_left' (pre_length mark ks vs i (by omega)),List.take_left' (be_length _ _),val_be _ _ hv]
theorem seal_length (p:List Int) (h:p.length≤60):(sealB p).length=64:=by simp [sealB,be_length];omega
theorem seal_byt (p:List Int) (h:Byt p):Byt (sealB p):=by
 intro z hz
 unfold sealB at hz
 rcases List.mem_append.1 hz with hz|hz
 ·rcases List.mem_append.1 hz with hz|hz
  ·exact h z hz
  ·exact be_byt _ _ z hz
 ·rw [List.eq_of_mem_replicate hz];omega
theorem seal_take (p:List Int):(sealB p).take p.length=p:=by unfold sealB;rw [List.append_assoc,List.take_left]
theorem seal_sum (p:List Int):((sealB p).drop p.length).take 4=be 4 (sum p):=by
 unfold sealB
 rw [List.append_assoc,List.drop_left,List.take_left' (be_length _ _)]
theorem seal_rest (p:List Int):(sealB p).drop (p.length+4)=List.replicate (60-p.length) 0:=by
 unfold sealB
 rw [List.drop_left' (by simp [be_length])]
theorem sum_val (p:List Int):val (be 4 (sum p))=sum p:=val_be 4 _ (Nat.lt_of_lt_of_le sum_lt (by decide))
theorem open_seal (mark:Nat) (p:List Int) (h:val (p.take 2)=mark) (h2:2≤p.length):openE mark p.length (sealB p)=0:=by
 unfold openE
 rw [if_pos ⟨by rw [←h];unfold sealB;rw [List.append_assoc,List.take_append_of_le_length h2],seal_rest p⟩,if_pos (by rw [seal_sum,seal_take,sum_val])]
theorem pre_mark (mark:Nat) (ks vs:List Nat) (n:Nat) (hm:mark < 65536):val ((pre mark ks vs n).take 2)=mark:=by
 unfold pre
 rw [List.take_left' (be_length _ _),val_be 2 mark (by omega)]
theorem Rec.bytes_length (r:Rec):r.bytes.length=64:=seal_length _ (by rw [r.head_length];omega)
theorem Rec.bytes_byt (r:Rec):Byt r.bytes:=seal_byt _ (pre_byt _ _ _ _)
theorem Stg.bytes_length (s:Stg):s.bytes.length=64:=seal_length _ (by rw [s.head_length];omega)
theorem Stg.bytes_byt (s:Stg):Byt s.bytes:=seal_byt _ (pre_byt _ _ _ _)
theorem nat_eq {z:Int} (h:0≤z):((z.toNat:Nat):Int)=z:=by omega
theorem gotRec_bytes {r:Rec} (h:r.right=true):gotRec r.bytes=r:=by
 obtain ⟨⟨a1,a2⟩,⟨b1,b2⟩,⟨c1,c2⟩,⟨d1,d2⟩,⟨e1,e2⟩,⟨f1,f2⟩⟩:=refRec.rec_in h
 have g:∀i,i < 6→r.nums.getD i 0 < 256 ^ recWidths.getD i 0→got recWidths r.bytes i=r.nums.getD i 0:=fun i hi hv=>by
  unfold Rec.bytes sealB Rec.head
  rw [List.append_assoc]
  exact got_pre 19523 recWidths r.nums 6 i _ hi (Nat.le_refl 6) hv
 obtain ⟨part,seq,active,confirmed,left,bad⟩:=r
 simp only at *
 unfold gotRec
 rw [g 0 (by decide) (by simp [Rec.nums];omega),g 1 (by decide) (by simp [Rec.nums];omega),g 2 (by decide) (by simp [Rec.nums];omega),g 3 (by decide) (by simp [Rec.nums];omega),g 4 (by decide) (by simp [Rec.nums];omega),g 5 (by decide) (by simp [Rec.nums];omega)]
 simp [Rec.nums,nat_eq a1,nat_eq c1,nat_eq d1,nat_eq e1,nat_eq f1,nat_eq (show 0≤seq by omega)]
theorem getRec_bytes {r:Rec} (h:r.right=true):getRec r.bytes=(r,0):=by
 unfold getRec
 have e:openE 19523 11 r.bytes=0:=by
  have:=open_seal 19523 r.head (pre_mark 19523 recWidths r.nums 6 (by decide)) (by rw [r.head_length];decide)
  rwa [r.head_length] at this
 rw [if_pos r.bytes_length,if_pos e,gotRec_bytes h,h]
 rfl
theorem gotStg_bytes {s:Stg} (h:s.right=true):gotStg s.bytes=s:=by
 obtain ⟨⟨h1,h2⟩,⟨h3,h4⟩,h5,h6⟩:=stg_in h
 have g:∀i,i < 3→s.nums.getD i 0 < 256 ^ stgWidths.getD i 0→got stgWidths s.bytes i=s.nums.getD i 0:=fun i hi hv=>by
  unfold Stg.bytes sealB Stg.head
  rw [List.append_assoc]
  exact got_pre 19539 stgWidths s.nums 3 i _ hi (Nat.le_refl 3) hv
 obtain ⟨session,size,have_⟩:=s
 simp only at *
 unfold gotStg
 rw [g 0 (by decide) (by simp [Stg.nums];omega),g 1 (by decide) (by simp [Stg.nums];omega),g 2 (by decide) (by simp [Stg.nums];omega)]
 simp [Stg.nums,nat_eq h5,nat_eq (show 0≤session by omega),nat_eq (show 0≤size by omega)]
theorem getStg_bytes {s:Stg} (h:s.right=true):getStg s.bytes=(s,0):=by
 unfold getStg
 have e:openE 19539 8 s.bytes=0:=by
  have:=open_seal 19539 s.head (pre_mark 19539 stgWidths s.nums 3 (by decide)) (by rw [s.head_length];decide)
  rwa [s.head_length] at this
 rw [if_pos s.bytes_length,if_pos e,gotStg_bytes h,h]
 rfl
theorem open_same (mark N:Nat) (z:Int) (hz:0≤z∧z≤255) (hm:mark=19523∨mark=19539):openE mark N (List.replicate 64 z)=2:=by
 unfold openE
 rw [if_neg]
 rintro ⟨h,_⟩
 rw [show (List.replicate 64 z).take 2=[z,z] by simp] at h
 simp [val] at h
 omega
end record
namespace bits

open Go.RowKit
def bitb (s:Int) (i:Nat):Bool:=decide (s / 2 ^ i % 2=1)
def InI64 (s:Int):Prop:=-9223372036854775808≤s∧s≤9223372036854775807
theorem and_one (x:Int):Go.bits .and .i64 x 1=x % 2:=by
 show IntKind.i64.wrap ((BitVec.ofInt 64 x &&& BitVec.ofInt 64 1).toNat:Int)=_
 rw [BitVec.toNat_and,show (BitVec.ofInt 64 1).toNat=1 from rfl,Nat.and_one_is_mod,BitVec.toNat_ofInt,IntKind.wrap_i64]
 omega
theorem bit_ne (s:Int) (k:Nat):(Go.bits .and .i64 (s / 2 ^ k) 1 != 0)=bitb s k:=by
 rw [and_one,bitb]
 generalize s / 2 ^ k=x
 rw [Bool.eq_iff_iff]
 simp
 omega
theorem or_pow (n k:Nat):n ||| 2 ^ k=if n / 2 ^ k % 2=1 then n else n+2 ^ k:=by
 have hp:0 < 2 ^ k:=Nat.two_pow_pos k
 have hd:n=2 ^ k*(n / 2 ^ k)+n % 2 ^ k:=(Nat.div_add_mod n (2 ^ k)).symm
 have hm:n % 2 ^ k < 2 ^ k:=Nat.mod_lt _ hp
 generalize n / 2 ^ k=q at *
 generalize n % 2 ^ k=r at *
 subst hd
 have e1:2 ^ k*q+r=2 ^ k*q ||| r:=Nat.two_pow_add_eq_or_of_lt hm q
 split
 ·rename_i h
  have e2:2 ^ k*q=2 ^ (k+1)*(q / 2) ||| 2 ^ k:=by
   have:=Nat.two_pow_add_eq_or_of_lt (i:=k+1) (b:=2 ^ k) (by rw [Nat.pow_succ];omega) (q / 2)
   rw [←this,Nat.pow_succ]
   have hq:q=2*(q / 2)+1:=by omega
   conv=>lhs;rw [hq]
   rw [Nat.mul_add,Nat.mul_one,Nat.mul_assoc]
  rw [e1,e2,Nat.or_assoc,Nat.or_assoc,Nat.or_comm r,←Nat.or_assoc (2 ^ k) (2 ^ k),Nat.or_self,Nat.or_assoc]
 ·rename_i h
  have e2:2 ^ k*q=2 ^ (k+1)*(q / 2):=by
   rw [Nat.pow_succ]
   have hq:q=2*(q / 2):=by omega
   conv=>lhs;rw [hq]
   rw [Nat.mul_assoc]
  have e3:2 ^ k+r=2 ^ k ||| r:=by
   have:=Nat.two_pow_add_eq_or_of_lt hm 1
   simpa using this
  have e4:=Nat.two_pow_add_eq_or_of_lt (i:=k+1) (b:=2 ^ k+r) (by rw [Nat.pow_succ];omega) (q / 2)
  rw [e1,e2,Nat.or_assoc,Nat.or_comm r,←e3,←e4,←e2,←e1]
  omega
def withB (s:Int) (k:Nat):Int:=if bitb s k then s else s+2 ^ k
theorem or_bit (s:Int) (k:Nat) (hk:k < 16) (h:InI64 s):Go.bits .or .i64 s (2 ^ k)=withB s k:=by
 show IntKind.i64.wrap ((BitVec.ofInt 64 s ||| BitVec.ofInt 64 (2 ^ k)).toNat:Int)=_
 obtain ⟨h1,h2⟩:=h
 have hpow:(BitVec.ofInt 64 (2 ^ k)).toNat=2 ^ k:=by
  rw [BitVec.toNat_ofInt]
  have:(2:Int) ^ k=((2 ^ k:Nat):Int):=by simp
  rw [this]
  have hlt:2 ^ k < 65536:=Nat.pow_lt_pow_right (m:=k) (n:=16) (a:=2) (by omega) hk
  generalize 2 ^ k=m at hlt ⊢
  rw [show ((m:Int) % ((2 ^ 64:Nat):Int))=(m:Int) from Int.emod_eq_of_lt (by omega) (by omega)]
  omega
 rw [BitVec.toNat_or,hpow,or_pow,BitVec.toNat_ofInt,IntKind.wrap_i64]
 unfold withB bitb
 rcases (by omega:k=0∨k=1∨k=2∨k=3∨k=4∨k=5∨k=6∨k=7∨k=8∨k=9∨k=10∨k=11∨k=12∨k=13∨k=14∨k=15) with rfl|rfl|rfl|rfl|rfl|rfl|rfl|rfl|rfl|rfl|rfl|rfl|rfl|rfl|rfl|rfl <;>
 ·simp only [Nat.reducePow,Int.reducePow,decide_eq_true_eq]
  split<;>split<;>omega
theorem bitb_withB (s:Int) (j k:Nat):bitb (withB s k) j=(bitb s j||j==k):=by
 unfold withB
 cases h:bitb s k
 ·simp only [Bool.false_eq_true,if_false]
  simp only [bitb,decide_eq_false_iff_not] at h
  unfold bitb
  rcases Nat.lt_trichotomy j k with hjk|rfl|hjk
  ·have e:(2:Int) ^ k=2 ^ (k-j)*2 ^ j:=by rw [←Int.pow_add];congr 1;omega
   have e2:(2:Int) ^ (k-j)=2*2 ^ (k-j-1):=by
    have:k-j=1+(k-j-1):=by omega
    rw [this,Int.pow_add];simp
   have hp:(2:Int) ^ j≠0:=by have:=Int.pow_pos (n:=2) (m:=j) (by omega);omega
   rw [e,Int.add_mul_ediv_right _ _ hp,e2]
   have:(j==k)=false:=by simp;omega
   rw [this,Bool.or_false,Bool.eq_iff_iff]
   simp only [decide_eq_true_eq]
   generalize (2:Int) ^ (k-j-1)=y
   omega
  ·have hp:(2:Int) ^ j≠0:=by have:=Int.pow_pos (n:=2) (m:=j) (by omega);omega
   rw [show s+2 ^ j=s+1*2 ^ j from by rw [Int.one_mul],Int.add_mul_ediv_right _ _ hp]
   simp
   omega
  ·have hp:(0:Int) < 2 ^ k:=Int.pow_pos (by omega)
   have e:(2:Int) ^ j=2 ^ k*2*2 ^ (j-k-1):=by
    have h1:j=k+1+(j-k-1):=by omega
    conv=>lhs;rw [h1]
    rw [Int.pow_add,Int.pow_add];simp
   have:(j==k)=false:=by simp;omega
   rw [this,Bool.or_false,e,Int.ediv_ediv_of_nonneg (by omega) |>.symm,←Int.ediv_ediv_of_nonneg (x:=s) (by omega)]
   have e3:(s+2 ^ k) / (2 ^ k*2)=s / (2 ^ k*2):=by
    rw [←Int.ediv_ediv_of_nonneg (by omega),←Int.ediv_ediv_of_nonneg (x:=s) (by omega)]
    rw [show s+2 ^ k=s+1*2 ^ k from by rw [Int.one_mul],Int.add_mul_ediv_right _ _ (by omega)]
    omega
   rw [e3]
 ·simp only [if_true]
  by_cases e:j=k
  ·subst e;simp [h]
  ·simp [e]
end bits
namespace bits

open Go.RowKit Go.Shelf base
attribute [local go_sem] Oper.semAt_some
def heldN (n:Int):Nat:=(min (max n 0) 16).toNat
theorem heldN_le (n:Int):heldN n≤16:=by unfold heldN;omega
theorem held_any (n:Int) (w:World):Calls Tryz.prog 180 #[.int .i64 n] w fun e w'=>e=.returned (.int .i64 (heldN n))∧w=w':=by
 by_cases h0:n < 0
 ·have e:heldN n=0:=by unfold heldN;omega
  rw [e]
  clear e
  go_enter Tryz.func180,Tryz.ntmps180
  go_wp2
  go_ret
  exact ⟨by first|rfl|(show Ending.returned (Value.int .i64 (min (max n 0) 16))=_;first|(rw [show min (max n 0) 16=(0:Int) by omega]<;>rfl)|(rw [show min (max n 0) 16=(16:Int) by omega]<;>rfl))|(show Ending.returned (Value.int .i64 (min (k:Int) 16))=_;rw [show min (k:Int) 16=(k:Int) by omega]),rfl⟩
 ·by_cases h1:n≤16
  ·obtain ⟨k,rfl⟩:=Int.eq_ofNat_of_zero_le (show 0≤n by omega)
   have e:heldN (k:Int)=k:=by unfold heldN;omega
   rw [e]
   clear e h0
   go_enter Tryz.func180,Tryz.ntmps180
   go_wp2
   go_ret
   exact ⟨by first|rfl|(show Ending.returned (Value.int .i64 (min (max n 0) 16))=_;first|(rw [show min (max n 0) 16=(0:Int) by omega]<;>rfl)|(rw [show min (max n 0) 16=(16:Int) by omega]<;>rfl))|(show Ending.returned (Value.int .i64 (min (k:Int) 16))=_;rw [show min (k:Int) 16=(k:Int) by omega]),rfl⟩
  ·have e:heldN n=16:=by unfold heldN;omega
   rw [e]
   clear e
   have h2:0≤n:=by omega
   go_enter Tryz.func180,Tryz.ntmps180
   go_wp2
   go_ret
   exact ⟨by first|rfl|(show Ending.returned (Value.int .i64 (min (max n 0) 16))=_;first|(rw [show min (max n 0) 16=(0:Int) by omega]<;>rfl)|(rw [show min (max n 0) 16=(16:Int) by omega]<;>rfl))|(show Ending.returned (Value.int .i64 (min (k:Int) 16))=_;rw [show min (k:Int) 16=(k:Int) by omega]),rfl⟩
theorem has_in (s:Int) (k:Nat) (w:World) (hk:k < 16):Calls Tryz.prog 92 #[.int .i64 s,.int .i64 k] w fun e w'=>e=.returned (.bool (bitb s k))∧w=w':=by
 have i0:(0:Int)≤k:=by omega
 have i1:(k:Int) < 16:=by omega
 have HB:=Lib.hid (bit_ne s k)
 go_enter Tryz.func92,Tryz.ntmps92
 go_wp2
 go_ret
 exact ⟨ret_bool HB.out,rfl⟩
theorem wrap_pow (k:Nat) (hk:k < 16):wrap64 (2 ^ k)=2 ^ k:=by
 have h1:(0:Int) < 2 ^ k:=Int.pow_pos (by omega)
 have h2:(2:Int) ^ k≤2 ^ 16:=by
  have:2 ^ k≤2 ^ 16:=Nat.pow_le_pow_right (by omega) (by omega)
  exact_mod_cast this
 exact IntWalk.wrap64_in _ ⟨by omega,by omega⟩
theorem with_in (s:Int) (k:Nat) (w:World) (hk:k < 16) (hs:InI64 s):Calls Tryz.prog 95 #[.int .i64 s,.int .i64 k] w fun e w'=>e=.returned (.int .i64 (withB s k))∧w=w':=by
 have i0:¬(k:Int) < 0:=by omega
 have i1:¬(16:Int)≤k:=by omega
 have HB:=Lib.hid (show Go.bits .or .i64 s (wrap64 (2 ^ k))=withB s k by rw [wrap_pow k hk];exact or_bit s k hk hs)
 go_enter Tryz.func95,Tryz.ntmps95
 go_wp2
 go_ret
 exact ⟨ret_int HB.out,rfl⟩
def elems (s:Int) (m:Nat):List (Int×Bool):=(List.range m).map fun i:Nat=>((i:Int),bitb s i)
theorem elems_len (s:Int) (m:Nat):(elems s m).length=m:=by simp [elems]
theorem elems_take (s:Int) (m k:Nat) (h:k < m):(elems s m).take (k+1)=(elems s m).take k++[((k:Int),bitb s k)]:=by
 rw [List.take_succ_eq_append_getElem (by simpa [elems] using h)]
 simp [elems]
def Kp2 (a b:Nat) (W W':World):Prop:=W'.heap[a]?=W.heap[a]?∧W'.heap[b]?=W.heap[b]?
theorem Kp2.t {a b:Nat} {A B C:World} (h:Kp2 a b A B) (k:Kp2 a b B C):Kp2 a b A C:=⟨k.1.trans h.1,k.2.trans h.2⟩
theorem Kp2.b {a b:Nat} {w:World} (ha:a < w.heap.size) (hb:b < w.heap.size) (W:World) (l:Nat) (o o':Obj) (hl:w.heap.size≤l) (h:W.heap[l]?=some o) (_:o.isCells=false) (_:o.isWalk=false):Kp2 a b W (W.putObj l o') :=
 ⟨World.putObj_heap_other (by omega),World.putObj_heap_other (by omega)⟩
theorem Kp2.cell1 {a b:Nat} {W W':World} (h:Kp2 a b W W') {v:Value} (hc:W.cell? ⟨a,0,none⟩=some v):W'.cell? ⟨a,0,none⟩=some v:=(World.cell?_of_block (a:=⟨a,0,none⟩) h.1).trans hc
theorem Kp2.of_below {a b n₀:Nat} {W W':World} (h:Below n₀ W W') (ha:a < n₀) (hb:b < n₀):Kp2 a b W W':=⟨h.block a ha,h.block b hb⟩
theorem each_in (s n:Int) (w:World):CallsIn Fence.wide 9 Tryz.prog 142 #[.int .i64 s,.int .i64 n] w fun e w' =>
  e=.returned (.func (.func 179) #[] #[.pointer (some ⟨w.heap.size+1,0,none⟩),.pointer (some ⟨w.heap.size,0,none⟩)])∧(w.alloc (.cells #[.int .i64 s] 3)).alloc (.cells #[.int .i64 n] 3)=w':=by
 refine callsIn_wide.2 ?_
 go_enter Tryz.func142,Tryz.ntmps142
 go_wp2
 go_ret
 exact ⟨rfl,rfl⟩
theorem each1_in (l Bs Bn:Nat) (s n:Int) (J Jx:List (Int×Bool)→World→Prop)
  (hY:∀pre x W,J pre W→pre.length < heldN n→YieldAt Fence.wide 8 Tryz.prog l #[.int .i64 x.1,.bool x.2] W fun e W' =>
   (e=.returned (.bool true)∧J (pre++[x]) W'∧Kp2 Bs Bn W W')∨(e=.returned (.bool false)∧Jx (pre++[x]) W'))
  (W:World) (cs:W.cell? ⟨Bs,0,none⟩=some (.int .i64 s)) (cn:W.cell? ⟨Bn,0,none⟩=some (.int .i64 n)) (h0:J [] W) :
  CallsIn Fence.wide 9 Tryz.prog 179 #[.func (.yield l) #[] #[],.pointer (some ⟨Bn,0,none⟩),.pointer (some ⟨Bs,0,none⟩)] W fun e W'=>(∃v,e=.returned v)∧
   ((∃ys,ys=elems s (heldN n)∧J ys W')∨(∃pre,pre <+: elems s (heldN n)∧Jx pre W')):=by
 have hm:=heldN_le n
 refine callsIn_of_wp Tryz.func179 rfl trivial ?_ rfl
 simp only [Tryz.ntmps179,List.size_toArray,List.length_cons,List.length_nil,Nat.reduceAdd,Nat.reduceSub,Array.replicate_succ,Array.replicate_zero,List.push_toArray,List.append_toArray,List.nil_append,List.cons_append]
 gi_wp2_with (refine ⟨trivial,?_⟩;gi_at_call 180;refine (callsIn_wide.2 (held_any _ _)).mono ?_;rintro e w' ⟨rfl,rfl⟩)
 gi_loopw [7] (fun i wr=>∃k:Nat,k≤heldN n∧i=.int .i64 k∧J ((elems s (heldN n)).take k) wr∧wr.cell? ⟨Bs,0,none⟩=some (.int .i64 s)) (fun i _=>heldN n-(intOf i).toNat)
 case atStart=>exact ⟨0,by omega,rfl,h0,cs⟩
 case round =>
  obtain ⟨k,hk,rfl,hJ,c1⟩:=hrel
  by_cases hlt:k < heldN n
  ·obtain ⟨fn,tmps,assign,body,hy,hR⟩:=hY _ ((k:Int),bitb s k) wr hJ (by simp [elems];omega)
   dsimp only at hy
   have hk16:k < 16:=by omega
   gi_wp2_with (refine ⟨trivial,?_⟩;gi_at_call 92;refine (callsIn_wide.2 (has_in _ _ _ hk16)).mono ?_;rintro e w' ⟨rfl,rfl⟩)
   refine hR.mono ?_
   rintro e W3 (⟨rfl,hJ3,hk3⟩|⟨rfl,hJx3⟩)
   ·have c3:=hk3.cell1 c1
    gi_wp2
    go_roundw
    case rel=>exact ⟨k+1,by omega,by go_num,by rw [elems_take _ _ _ hlt];exact hJ3,c3⟩
    case measure=>simp [intOf];omega
   ·gi_wp2
    refine bodyPost_ret (results_none rfl _ _ _) rfl ?_
    exact ⟨⟨_,rfl⟩,.inr ⟨(elems s (heldN n)).take (k+1),List.take_prefix _ _,by rw [elems_take _ _ _ hlt];exact hJx3⟩⟩
  ·have hJ':J (elems s (heldN n)) wr:=by rwa [List.take_of_length_le (by rw [elems_len];omega)] at hJ
   have HJ:=Lib.hid hJ'
   gi_wp2
   go_end0
   exact ⟨⟨_,rfl⟩,.inl ⟨_,rfl,HJ.out⟩⟩
theorem each_stops (s n:Int) (Bs Bn:Nat) (w:World) (hBs:Bs < w.heap.size) (hBn:Bn < w.heap.size) (cs:w.cell? ⟨Bs,0,none⟩=some (.int .i64 s)) (cn:w.cell? ⟨Bn,0,none⟩=some (.int .i64 n)) :
  SeqStopsK Fence.wide 9 Tryz.prog 179 #[.pointer (some ⟨Bn,0,none⟩),.pointer (some ⟨Bs,0,none⟩)] (fun x:Int×Bool=>#[Value.int .i64 x.1,Value.bool x.2]) (Kp2 Bs Bn) (fun ys=>ys=elems s (heldN n)) (fun pre=>pre <+: elems s (heldN n)) (heldN n) w:=fun l J Jx W hW _ _ hY h0 =>
 each1_in l Bs Bn s n J Jx hY W ((hW.cell (p:=⟨Bs,0,none⟩) hBs).trans cs) ((hW.cell (p:=⟨Bn,0,none⟩) hBn).trans cn) h0
theorem boxed_keep {W W':World} {row:Option Nat} {B:Nat} {t:TypeId} {v:Value} (h:Boxed W B t v) (hg:W.grownBy W' row) (hr:∀r,row=some r→∃o:Obj,W.heap[r]?=some o∧o.isCells=false):Boxed W' B t v :=
 h.kept hg fun e=>by
  obtain ⟨o,ho,hc⟩:=hr B e.symm
  have h':W.heap[B]?=_:=h
  rw [h'] at ho
  cases ho
  cases hc
theorem boxed_set {W:World} {B B':Nat} {t:TypeId} {v u:Value} (h:Boxed W B t v) (hne:B≠B'):Boxed (W.setCell ⟨B',0,none⟩ u) B t v:=(Below.heap_setCell _ _ _ _ hne).trans h
def FirstPost (s n:Int) (w:World) (e:Ending) (w':World):Prop :=
 ((∃(k:Nat),k < heldN n∧bitb s k=false∧(∀j,j < k→bitb s j=true)∧e=.returned (.tuple #[.int .i64 k,.bool true]))∨
   ((∀j,j < heldN n→bitb s j=true)∧e=.returned (.tuple #[.int .i64 0,.bool false])))∧Below w.heap.size w w'
def AllOn (l:List (Int×Bool)):Prop:=∀x∈l,x.2=true
theorem allOn_elems (s:Int) (m:Nat) (h:AllOn (elems s m)):∀j,j < m→bitb s j=true:=by
 intro j hj
 exact h ((j:Int),bitb s j) (by simp only [elems,List.mem_map,List.mem_range];exact ⟨j,hj,rfl⟩)
theorem first_of (s:Int) (m:Nat) (pre:List (Int×Bool)) (i:Int) (h:pre++[(i,false)] <+: elems s m) (ha:AllOn pre):∃k:Nat,k < m∧i=k∧bitb s k=false∧∀j,j < k→bitb s j=true:=by
 obtain ⟨t,ht⟩:=h
 have hlen:pre.length < m:=by have:=congrArg List.length ht;simp [elems_len] at this;omega
 have g:∀j:Nat,(elems s m)[j]?=(pre++[(i,false)]++t)[j]?:=fun j=>by rw [ht]
 have gk:=g pre.length
 simp [elems,hlen] at gk
 refine ⟨pre.length,hlen,gk.1.symm,gk.2,fun j hj=>?_⟩
 have gj:=g j
 have hjm:j < m:=by omega
 simp only [elems,List.append_assoc] at gj
 rw [List.getElem?_append_left hj] at gj
 simp [hjm] at gj
 have:=ha pre[j] (List.getElem_mem hj)
 rw [List.getElem?_eq_getElem hj] at gj
 injection gj with gj
 rw [←gj] at this
 exact this
theorem first_in (s n:Int) (w:World) :
  CallsIn Fence.wide 10 Tryz.prog 96 #[.int .i64 s,.int .i64 n] w (FirstPost s n w):=by
 have hm:=heldN_le n
 refine callsIn_of_wp_marks Tryz.func96 rfl trivial ?_ rfl
 simp only [Tryz.ntmps96,List.size_toArray,List.length_cons,List.length_nil,Nat.reduceAdd,Nat.reduceSub,Array.replicate_succ,Array.replicate_zero,List.push_toArray,List.append_toArray,List.nil_append,List.cons_append]
 gi_wp2_with (refine ⟨trivial,?_⟩;gi_at_call 142;refine (each_in _ _ _).mono ?_;rintro e w' ⟨rfl,rfl⟩)
 obtain ⟨W0,hW0⟩:∃W0:World,(((w.alloc (.cells #[.int .i64 0] 3)).alloc (.cells #[.bool false] 4)).alloc (.cells #[.int .i64 s] 3)).alloc (.cells #[.int .i64 n] 3)=W0:=⟨_,rfl⟩
 have hsz:W0.heap.size=w.heap.size+4:=by rw [←hW0];simp
 have b0:=Boxed.new w 3 (.int .i64 0)
 have b1:=Boxed.new (w.alloc (.cells #[.int .i64 0] 3)) 4 (.bool false)
 have b2:=Boxed.new ((w.alloc (.cells #[.int .i64 0] 3)).alloc (.cells #[.bool false] 4)) 3 (.int .i64 s)
 have b3:=Boxed.new (((w.alloc (.cells #[.int .i64 0] 3)).alloc (.cells #[.bool false] 4)).alloc (.cells #[.int .i64 s] 3)) 3 (.int .i64 n)
 simp only [World.size_alloc] at b1 b2 b3
 have bA:Boxed W0 w.heap.size 3 (.int .i64 0):=by rw [←hW0];exact ((b0.alloc _).alloc _).alloc _
 have bB:Boxed W0 (w.heap.size+1) 4 (.bool false):=by rw [←hW0];exact (b1.alloc _).alloc _
 have cs:W0.cell? ⟨w.heap.size+1+1,0,none⟩=some (.int .i64 s):=by rw [←hW0];exact (b2.alloc _).cell
 have cn:W0.cell? ⟨w.heap.size+1+1+1,0,none⟩=some (.int .i64 n):=by rw [←hW0];exact b3.cell
 have hB0:Below w.heap.size w W0:=by rw [←hW0];exact ((((Below.refl _ w).alloc (Nat.le_refl _) _).alloc (by simp) _).alloc (by simp;omega) _).alloc (by simp;omega) _
 rw [hW0]
 refine wpIn_rangeFunc_ownG rfl (by omega) (gf:=179) (lb:=#[.pointer (some ⟨w.heap.size+1+1+1,0,none⟩),.pointer (some ⟨w.heap.size+1+1,0,none⟩)]) rfl trivial (enters_of Tryz.func179 (by kernel_rfl) rfl)
  (each_stops s n (w.heap.size+1+1) (w.heap.size+1+1+1) W0 (by omega) (by omega) cs cn) Kp2.t (Kp2.b (by omega) (by omega)) (Below.refl _ _) (fun _=>rfl)
  (fun pre W=>(Boxed W w.heap.size 3 (.int .i64 0)∧Boxed W (w.heap.size+1) 4 (.bool false))∧Below w.heap.size w W∧AllOn pre)
  (fun c pre W=>(∃q i,c=.ret∧pre=q++[(i,false)]∧AllOn q∧Boxed W w.heap.size 3 (.int .i64 i)∧Boxed W (w.heap.size+1) 4 (.bool true))∧Below w.heap.size w W)
  (OwnFrom.and (Own.from (fun s A B row hs hg hr=>⟨boxed_keep hs.1 hg hr,boxed_keep hs.2 hg hr⟩) _) (OwnFrom.and (ownFrom_below (Nat.le_refl _) (by omega)) (fun _ _ _ _ hs _ _=>hs)))
  (fun c=>OwnFrom.and (Own.from (fun s A B row hs hg hr=>by obtain ⟨q,i,h1,h2,h3,h4,h5⟩:=hs;exact ⟨q,i,h1,h2,h3,boxed_keep h4 hg hr,boxed_keep h5 hg hr⟩) _) (ownFrom_below (Nat.le_refl _) (by omega)))
  ⟨⟨bA,bB⟩,hB0,by intro x hx;cases hx⟩
  (fun x=>{ tmps:=#[.int .i64 s,.int .i64 n,undef,undef,.pointer (some ⟨w.heap.size,0,none⟩),.pointer (some ⟨w.heap.size+1,0,none⟩),.int .i64 x.1,.bool x.2,.int .i64 s,.int .i64 n,.func (.func 179) #[] #[.pointer (some ⟨w.heap.size+1+1+1,0,none⟩),.pointer (some ⟨w.heap.size+1+1,0,none⟩)],.int .i64 x.1,.bool x.2,undef,undef,undef],defers:=[] }) ?assign ?body ?done ?stop
 case assign =>
  intro l x W K hK
  gi_wp2
  exact hK
 case body =>
  rintro l pre ⟨i,b⟩ W ⟨⟨hA,hBb⟩,hB,hall⟩ hlt
  have HALL:=Lib.hid hall
  have cA:=hA.cell
  have fA:=hA.frozen
  have cB:=hBb.cell
  have fB:=hBb.frozen
  clear hall
  cases b
  ·gi_wp2
   refine ⟨((KeepsOthers.setCell _ _ _).trans (KeepsOthers.setCell _ _ _)).from _,⟨pre,i,rfl,rfl,HALL.out,boxed_set (hA.set _) (by omega),(boxed_set hBb (by omega)).set _⟩,?_⟩
   exact (hB.setCell (p:=⟨w.heap.size,0,none⟩) (Nat.le_refl _) _).setCell (p:=⟨w.heap.size+1,0,none⟩) (by simp) _
  ·gi_wp2
   exact ⟨KeepsFrom.refl _ _,⟨rfl,rfl⟩,⟨hA,hBb⟩,hB,by intro x hx;rcases List.mem_append.1 hx with h|h;exact HALL.out x h;simp at h;subst h;rfl⟩
 case done =>
  rintro D ys W hD rfl ⟨⟨hA,hBb⟩,hB,hall⟩ hK
  have HALL:=Lib.hid hall
  have cA:=hA.cell
  have fA:=hA.frozen
  have cB:=hBb.cell
  have fB:=hBb.frozen
  clear hall
  gi_wp2
  have hK2:((W.setCell ⟨w.heap.size,0,none⟩ (.int .i64 0)).setCell ⟨w.heap.size+1,0,none⟩ (.bool false)).heap[D]?=some (.deferred (some [])):=by
   rw [Below.heap_setCell _ _ _ _ (by show D≠w.heap.size+1;omega),Below.heap_setCell _ _ _ _ (by show D≠w.heap.size;omega)];exact hK
  have hB2:Below w.heap.size w ((W.setCell ⟨w.heap.size,0,none⟩ (.int .i64 0)).setCell ⟨w.heap.size+1,0,none⟩ (.bool false)):=(hB.setCell (p:=⟨w.heap.size,0,none⟩) (Nat.le_refl _) _).setCell (p:=⟨w.heap.size+1,0,none⟩) (by simp) _
  have hA2:=boxed_set (B':=w.heap.size+1) (u:=.bool false) (hA.set (.int .i64 0)) (by omega)
  have hBb2:=(boxed_set (B':=w.heap.size) (u:=.int .i64 0) hBb (by omega)).set (.bool false)
  generalize (W.setCell ⟨w.heap.size,0,none⟩ (.int .i64 0)).setCell ⟨w.heap.size+1,0,none⟩ (.bool false)=W2 at *
  refine ⟨by simp,.inl ⟨_,_,rfl,run_takeDeferred hK2,?_⟩⟩
  have g1:(W2.putObj D (.deferred none)).cell? ⟨w.heap.size,0,none⟩=some (.int .i64 0):=(World.cell?_of_block (a:=⟨w.heap.size,0,none⟩) (World.putObj_heap_other (by show w.heap.size≠D;omega))).trans hA2.cell
  have g2:(W2.putObj D (.deferred none)).cell? ⟨w.heap.size+1,0,none⟩=some (.bool false):=(World.cell?_of_block (a:=⟨w.heap.size+1,0,none⟩) (World.putObj_heap_other (by show w.heap.size+1≠D;omega))).trans hBb2.cell
  refine ⟨.tuple #[.int .i64 0,.bool false],by simp [results,Tryz.results96,go_sem,g1,g2],.inr ⟨allOn_elems _ _ HALL.out,rfl⟩,hB2.trans (belowK_b (w:=w) (Nat.le_refl _) W2 D _ _ (by omega) hK2 rfl rfl)⟩
 case stop =>
  rintro D c pre W hD hpre ⟨⟨q,i,rfl,rfl,hall,hA,hBb⟩,hB⟩ hK
  obtain ⟨k,hk,rfl,hb,hj⟩:=first_of s (heldN n) q i hpre hall
  have HB:=Lib.hid hb;have HJ:=Lib.hid hj
  have cA:=hA.cell
  have cB:=hBb.cell
  clear hall hb hj
  gi_wp2
  refine ⟨by simp,.inl ⟨_,_,rfl,run_takeDeferred hK,?_⟩⟩
  have g1:(W.putObj D (.deferred none)).cell? ⟨w.heap.size,0,none⟩=some (.int .i64 k):=(World.cell?_of_block (a:=⟨w.heap.size,0,none⟩) (World.putObj_heap_other (by show w.heap.size≠D;omega))).trans cA
  have g2:(W.putObj D (.deferred none)).cell? ⟨w.heap.size+1,0,none⟩=some (.bool true):=(World.cell?_of_block (a:=⟨w.heap.size+1,0,none⟩) (World.putObj_heap_other (by show w.heap.size+1≠D;omega))).trans cB
  refine ⟨.tuple #[.int .i64 k,.bool true],by simp [results,Tryz.results96,go_sem,g1,g2],.inl ⟨k,hk,HB.out,HJ.out,rfl⟩,hB.trans (belowK_b (w:=w) (Nat.le_refl _) W D _ _ (by omega) hK rfl rfl)⟩
theorem first_any (s n:Int) (w:World):Calls Tryz.prog 96 #[.int .i64 s,.int .i64 n] w (FirstPost s n w):=callsIn_wide.1 (first_in s n w)
end bits
namespace bits

open Go.RowKit
theorem bitb_nat (x j:Nat):bitb (x:Int) j=x.testBit j:=by
 rw [Nat.testBit_eq_decide_div_mod_eq]
 unfold bitb
 have:(x:Int) / 2 ^ j % 2=((x / 2 ^ j % 2:Nat):Int):=by simp
 rw [this]
 simp only [decide_eq_decide]
 omega
theorem bitb_zero (j:Nat):bitb 0 j=false:=by simp [bitb]
end bits
end Go.Proofs.YtdldkkoplgkloaaGreat
