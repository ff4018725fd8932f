/-
  PROVED HERE: lemmas and contracts that the law's proof leans on (texts put together: RefStage, BitsRef).
  CONDITIONS: each names its own.
-/
import Derived.BigQuiet
import Derived.Deep.QuietTactic
import Derived.Test.YtdldkkoplgkloaaGreatPq19
import Derived.Test.YtdldkkoplgkloaaGreatPq20
import Derived.Test.YtdldkkoplgkloaaGreatPq21
namespace Go.Proofs.YtdldkkoplgkloaaGreat
set_option linter.unusedVariables false
set_option linter.unusedSimpArgs false
namespace refRec

open Go.RowKit base obj mem crc num bytes record refNum
set_option maxHeartbeats 1000000 in
theorem blocks_at (w:World) (size:Int) (h1:size≤1000) (h0:-9223372036854775808≤size):Calls Tryz.prog 158 #[.int .i64 size] w fun e w'=>e=.returned (.int .i64 (blocksN size:Nat))∧w'=w:=by
 go_enter Tryz.func158,Tryz.ntmps158
 go_wp2_with (fail)
 go_loopw [3,0] (fun k s wr=>∃j:Nat,j≤63∧(0 < j→16*((j:Int)-1) < size)∧k=.int .i64 j∧s=.int .i64 (size-16*j)∧wr=w) (fun _ s _=>(intOf s).toNat)
 case atStart=>exact ⟨0,by omega,by omega,rfl,by simp,rfl⟩
 case round =>
  obtain ⟨j,hj,hj2,rfl,rfl,rfl⟩:=hrel
  have a1:(j:Int) < 1000:=by omega
  by_cases hlt:size-16*(j:Int) > 0
  ·have HJ:=Lib.hid hj2
   clear hj2
   generalize hs:size-16*(j:Int)=s at *
   have hs1:s≤1000:=by omega
   have HS:=Lib.hid hs
   clear hs
   go_wp2_with (fail)
   go_roundw
   case rel=>exact ⟨j+1,by have:=HS.out;omega,by have:=HS.out;omega,by go_num,by rw [show s-16=size-16*((j+1:Nat):Int) by have:=HS.out;omega],trivial⟩
   case measure=>simp [intOf]<;>omega
  ·have HB:=Lib.hid (show ((blocksN size:Nat):Int)=j by unfold blocksN;omega)
   have hs2:size-16*(j:Int)≤0:=by omega
   generalize hs:size-16*(j:Int)=s at *
   have HS:=Lib.hid hs
   clear hs hj2 hlt
   have hlt:¬s > 0:=by omega
   go_wp2_with (fail)
   go_ret
   exact ⟨ret_int (by rw [HB.out]),rfl⟩
set_option maxRecDepth 100000 in
set_option maxHeartbeats 8000000 in
theorem rightStage_at (s:Stg) (w:World) (hI:-9223372036854775808≤s.size):Calls Tryz.prog 157 #[s.val] w fun e w'=>e=.returned (.bool s.right)∧Below w.heap.size w w':=by
 obtain ⟨session,size,have_⟩:=s
 unfold Stg.val Stg.cells
 have HB:=Lib.hid (fun o=>(Below.refl w.heap.size w).alloc (Nat.le_refl _) o)
 by_cases hr:1≤session∧session≤65535∧1≤size∧size≤160∧0≤have_
 ·obtain ⟨a1,a2,a3,a4,a5⟩:=hr
  obtain ⟨b,hb⟩:∃b,b=blocksN size:=⟨_,rfl⟩
  have hb1:1≤b:=by rw [hb];unfold blocksN;omega
  have hb10:b≤10:=by rw [hb];unfold blocksN;omega
  have HBL:=Lib.hid (show ∀W,Calls Tryz.prog 158 #[.int .i64 size] W fun e w'=>e=.returned (.int .i64 (b:Nat))∧w'=W by rw [hb];exact fun W=>blocks_at W size (by omega) (by omega))
  have HE:=Lib.hid (show Stg.right ⟨session,size,have_⟩=decide (have_ < 2 ^ b) by
   unfold Stg.right
   simp only
   rw [←hb]
   rw [Bool.eq_iff_iff]
   simp
   omega)
  clear hb hI
  go_enter Tryz.func157,Tryz.ntmps157
  go_wp2_with (fail)
  obtain ⟨w1,hw1⟩:∃w1,w1=w.alloc (.cells #[.int .i64 session,.int .i64 size,.int .i64 have_] 31):=⟨_,rfl⟩
  rw [←hw1]
  have d1:w1.cell? ⟨w.heap.size,1,none⟩=some (.int .i64 size):=by rw [hw1];exact World.cell?_alloc_new _ _ _ _
  have d2:w1.cell? ⟨w.heap.size,2,none⟩=some (.int .i64 have_):=by rw [hw1];exact World.cell?_alloc_new _ _ _ _
  have HB1:=Lib.hid (show Below w.heap.size w w1 by rw [hw1];exact HB.out _)
  clear hw1 HB
  go_loopw [4,3] (fun k s wr=>∃j:Nat,j≤b∧k=.int .i64 j∧s=.int .i64 ((2 ^ j:Nat):Int)∧wr=w1) (fun k _ _=>b-(intOf k).toNat)
  case atStart=>exact ⟨0,by omega,rfl,rfl,rfl⟩
  case round =>
   obtain ⟨j,hj,rfl,rfl,rfl⟩:=hrel
   have hp:2 ^ j≤1024:=by
    have:=Nat.pow_le_pow_right (n:=2) (by decide) (show j≤10 by omega)
    simpa using this
   have HP:=Lib.hid (show 2 ^ (j+1)=2*2 ^ j by rw [Nat.pow_succ,Nat.mul_comm])
   have HPB:=Lib.hid (show j=b→((2 ^ j:Nat):Int)=2 ^ b by rintro rfl;simp)
   by_cases hlt:j < b
   ·have hlt':(j:Int) < (b:Int):=by omega
    generalize 2 ^ j=p at *
    go_wp2_with (fail)
    refine (HBL.out _).mono ?_;rintro e w' ⟨rfl,rfl⟩
    go_wp2_with (fail)
    go_roundw
    case rel=>exact ⟨j+1,by omega,by go_num,by rw [HP.out];go_num,trivial⟩
    case measure=>simp [intOf]<;>omega
   ·have hjb:j=b:=by omega
    have hlt':¬(j:Int) < (b:Int):=by omega
    have HPE:=Lib.hid (HPB.out hjb)
    clear hjb
    generalize 2 ^ j=p at *
    go_wp2_with (fail)
    refine (HBL.out _).mono ?_;rintro e w' ⟨rfl,rfl⟩
    go_wp2_with (fail)
    go_ret
    exact ⟨ret_bool (by rw [HE.out,←HPE.out]),HB1.out⟩
 ·go_enter Tryz.func157,Tryz.ntmps157
  have HR:=Lib.hid hr
  clear hr
  go_wp2_with (fail)
  all_goals first
   | (go_ret;refine ⟨ret_bool ?_,HB.out _⟩;simp [Stg.right]<;>omega)
   | (exfalso;have:=HR.out;omega)
end refRec
namespace bits

open Go.RowKit base
theorem pow_bd (k:Nat) (hk:k≤16):(0:Int) < 2 ^ k∧(2:Int) ^ k≤65536:=by
 refine ⟨Int.pow_pos (by omega),?_⟩
 have:2 ^ k≤2 ^ 16:=Nat.pow_le_pow_right (by omega) hk
 have:(2:Int) ^ k≤2 ^ 16:=by exact_mod_cast this
 simpa using this
theorem power_in (k:Nat) (w:World) (hk:k≤16):Calls Tryz.prog 131 #[.int .i64 k] w fun e w'=>e=.returned (.int .i64 (2 ^ k))∧w=w':=by
 go_enter Tryz.func131,Tryz.ntmps131
 go_wp2
 go_loop [3,4] (fun n i=>∃j:Nat,j≤k∧i=.int .i64 j∧n=.int .i64 (2 ^ j)) (fun _ i=>k-(intOf i).toNat)
 case atStart=>exact ⟨0,by omega,rfl,rfl⟩
 case round =>
  obtain ⟨j,hj,rfl,rfl⟩:=hrel
  by_cases hlt:j < k
  ·have hb:=pow_bd j (by omega)
   have h0:=hb.1
   have h1:=hb.2
   have HS:=Lib.hid (show (2:Int) ^ j+2 ^ j=2 ^ (j+1) by rw [Int.pow_succ];omega)
   clear hb
   generalize hp:(2:Int) ^ j=p at *
   clear hp
   go_wp2
   go_round
   case rel=>exact ⟨j+1,by omega,by go_num,by rw [←HS.out]⟩
   case measure=>simp [intOf];omega
  ·obtain rfl:j=k:=by omega
   go_wp2
   go_ret
   exact ⟨rfl,rfl⟩
theorem low_bit (s:Int) (k:Nat) (hk:k < 16):s % 65536 / 2 ^ k % 2=s / 2 ^ k % 2:=by
 rcases (by omega:k=0∨k=1∨k=2∨k=3∨k=4∨k=5∨k=6∨k=7∨k=8∨k=9∨k=10∨k=11∨k=12∨k=13∨k=14∨k=15) with rfl|rfl|rfl|rfl|rfl|rfl|rfl|rfl|rfl|rfl|rfl|rfl|rfl|rfl|rfl|rfl <;>
 ·simp only [Int.reducePow]
  omega
theorem rhas_tail (x s:Int) (k:Nat) (hk:k < 16) (hx:x=s % 65536):((x / 2 ^ k).tmod 2==1)=bitb s k:=by
 have h0:0≤x / 2 ^ k:=Int.ediv_nonneg (by omega) (Int.le_of_lt (Int.pow_pos (by omega)))
 rw [Int.tmod_eq_emod_of_nonneg h0]
 subst hx
 unfold bitb
 rw [low_bit s k hk,Bool.eq_iff_iff]
 simp
set_option maxHeartbeats 1000000 in
theorem rhas_in (s:Int) (k:Nat) (w:World) (hk:k < 16) (hs:InI64 s):Calls Tryz.prog 84 #[.int .i64 s,.int .i64 k] w fun e w'=>e=.returned (.bool (bitb s k))∧w=w':=by
 have i0:¬(k:Int) < 0:=by omega
 have i1:¬(15:Int) < k:=by omega
 have hb:=pow_bd k (by omega)
 have p0:=hb.1
 have p1:=hb.2
 clear hb
 by_cases h0:0≤s
 ·have HT:=Lib.hid (rhas_tail (s % 65536) s k hk rfl)
  go_enter Tryz.func84,Tryz.ntmps84
  go_wp2_with (fail)
  refine (power_in k _ (by omega)).mono ?_;rintro e w' ⟨rfl,rfl⟩
  go_wp2_with (fail)
  go_ret
  exact ⟨ret_bool HT.out,rfl⟩
 ·have hd:=Int.mul_tdiv_add_tmod s 65536
  have hlt:=Int.lt_tmod_of_pos s (show (0:Int) < 65536 by omega)
  have hle:s.tmod 65536≤0:=by
   have:=Int.tmod_nonneg (a:=-s) 65536 (by omega)
   rw [Int.neg_tmod] at this
   omega
  generalize hm:s.tmod 65536=m at *
  generalize s.tdiv 65536=q at *
  by_cases hm0:m < 0
  ·have HT:=Lib.hid (rhas_tail (m+65536) s k hk (by omega))
   have HM:=Lib.hid hm
   have m0:-65536 < m:=by omega
   clear hm hd hle hlt
   go_enter Tryz.func84,Tryz.ntmps84
   have hm:=HM.out
   go_wp2_with (fail)
   clear hm
   refine (power_in k _ (by omega)).mono ?_;rintro e w' ⟨rfl,rfl⟩
   go_wp2_with (fail)
   go_ret
   exact ⟨ret_bool HT.out,rfl⟩
  ·obtain rfl:m=0:=by omega
   have HT:=Lib.hid (rhas_tail 0 s k hk (by omega))
   have HM:=Lib.hid hm
   clear hm hd hle hlt hm0
   go_enter Tryz.func84,Tryz.ntmps84
   have hm:=HM.out
   go_wp2_with (fail)
   clear hm
   refine (power_in k _ (by omega)).mono ?_;rintro e w' ⟨rfl,rfl⟩
   go_wp2_with (fail)
   go_ret
   exact ⟨ret_bool (by simpa using HT.out),rfl⟩
end bits
end Go.Proofs.YtdldkkoplgkloaaGreat
