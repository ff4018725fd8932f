/-
  PROVED HERE: lemmas and contracts that the law's proof leans on (texts put together: BitsRef).
  CONDITIONS: each names its own.
-/
import Derived.BigQuiet
import Derived.Deep.QuietTactic
import Derived.Test.YtdldkkoplgkloaaGreatPz21
namespace Go.Proofs.YtdldkkoplgkloaaGreat
set_option linter.unusedVariables false
set_option linter.unusedSimpArgs false
set_option maxRecDepth 100000
set_option maxHeartbeats 32000000
namespace bits

open Go.RowKit base
theorem pow_bd (k:Nat) (hk:k≤16):(0:Int) < 2 ^ k∧(2:Int) ^ k≤65536:=by
 refine ⟨Int.pow_pos (by omega),?_⟩
 have:2 ^ k≤2 ^ 16:=Nat.pow_le_pow_right (by omega) hk
 have:(2:Int) ^ k≤2 ^ 16:=by exact_mod_cast this
 simpa using this
theorem power_in (k:Nat) (w:World) (hk:k≤16):Calls Tryz.prog 131 #[.int .i64 k] w fun e w'=>e=.returned (.int .i64 (2 ^ k))∧w=w':=by
 go_enter Tryz.func131,Tryz.ntmps131
 go_wp2
 go_loop [3,4] (fun n i=>∃j:Nat,j≤k∧i=.int .i64 j∧n=.int .i64 (2 ^ j)) (fun _ i=>k-(intOf i).toNat)
 case atStart=>exact ⟨0,by omega,rfl,rfl⟩
 case round =>
  obtain ⟨j,hj,rfl,rfl⟩:=hrel
  by_cases hlt:j < k
  ·have hb:=pow_bd j (by omega)
   have h0:=hb.1
   have h1:=hb.2
   have HS:=Lib.hid (show (2:Int) ^ j+2 ^ j=2 ^ (j+1) by rw [Int.pow_succ];omega)
   clear hb
   generalize hp:(2:Int) ^ j=p at *
   clear hp
   go_wp2
   go_round
   case rel=>exact ⟨j+1,by omega,by go_num,by rw [←HS.out]⟩
   case measure=>simp [intOf];omega
  ·obtain rfl:j=k:=by omega
   go_wp2
   go_ret
   exact ⟨rfl,rfl⟩
theorem low_bit (s:Int) (k:Nat) (hk:k < 16):s % 65536 / 2 ^ k % 2=s / 2 ^ k % 2:=by
 rcases (by omega:k=0∨k=1∨k=2∨k=3∨k=4∨k=5∨k=6∨k=7∨k=8∨k=9∨k=10∨k=11∨k=12∨k=13∨k=14∨k=15) with rfl|rfl|rfl|rfl|rfl|rfl|rfl|rfl|rfl|rfl|rfl|rfl|rfl|rfl|rfl|rfl <;>
 ·simp only [Int.reducePow]
  omega
theorem rhas_tail (x s:Int) (k:Nat) (hk:k < 16) (hx:x=s % 65536):((x / 2 ^ k).tmod 2==1)=bitb s k:=by
 have h0:0≤x / 2 ^ k:=Int.ediv_nonneg (by omega) (Int.le_of_lt (Int.pow_pos (by omega)))
 rw [Int.tmod_eq_emod_of_nonneg h0]
 subst hx
 unfold bitb
 rw [low_bit s k hk,Bool.eq_iff_iff]
 simp
theorem rhas_in (s:Int) (k:Nat) (w:World) (hk:k < 16) (hs:InI64 s):Calls Tryz.prog 84 #[.int .i64 s,.int .i64 k] w fun e w'=>e=.returned (.bool (bitb s k))∧w=w':=by
 have i0:¬(k:Int) < 0:=by omega
 have i1:¬(15:Int) < k:=by omega
 have hb:=pow_bd k (by omega)
 have p0:=hb.1
 have p1:=hb.2
 clear hb
 by_cases h0:0≤s
 ·have HT:=Lib.hid (rhas_tail (s % 65536) s k hk rfl)
  go_enter Tryz.func84,Tryz.ntmps84
  go_wp2_with (fail)
  refine (power_in k _ (by omega)).mono ?_;rintro e w' ⟨rfl,rfl⟩
  go_wp2_with (fail)
  go_ret
  exact ⟨ret_bool HT.out,rfl⟩
 ·have hd:=Int.mul_tdiv_add_tmod s 65536
  have hlt:=Int.lt_tmod_of_pos s (show (0:Int) < 65536 by omega)
  have hle:s.tmod 65536≤0:=by
   have:=Int.tmod_nonneg (a:=-s) 65536 (by omega)
   rw [Int.neg_tmod] at this
   omega
  generalize hm:s.tmod 65536=m at *
  generalize s.tdiv 65536=q at *
  by_cases hm0:m < 0
  ·have HT:=Lib.hid (rhas_tail (m+65536) s k hk (by omega))
   have HM:=Lib.hid hm
   have m0:-65536 < m:=by omega
   clear hm hd hle hlt
   go_enter Tryz.func84,Tryz.ntmps84
   have hm:=HM.out
   go_wp2_with (fail)
   clear hm
   refine (power_in k _ (by omega)).mono ?_;rintro e w' ⟨rfl,rfl⟩
   go_wp2_with (fail)
   go_ret
   exact ⟨ret_bool HT.out,rfl⟩
  ·obtain rfl:m=0:=by omega
   have HT:=Lib.hid (rhas_tail 0 s k hk (by omega))
   have HM:=Lib.hid hm
   clear hm hd hle hlt hm0
   go_enter Tryz.func84,Tryz.ntmps84
   have hm:=HM.out
   go_wp2_with (fail)
   clear hm
   refine (power_in k _ (by omega)).mono ?_;rintro e w' ⟨rfl,rfl⟩
   go_wp2_with (fail)
   go_ret
   exact ⟨ret_bool (by simpa using HT.out),rfl⟩
end bits
end Go.Proofs.YtdldkkoplgkloaaGreat
