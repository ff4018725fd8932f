/- PROVED HERE: lemmas of the law. CONDITIONS: each names its own. -/
import Derived.LoopIn
import Derived.LoopNIn
import Derived.Maps.AppendAt
import Derived.OrdersIn
import Derived.OwnWalkIn
import Derived.RangeFuncBound
import Derived.RangeFuncCalls
import Derived.RangeFuncLeaves
import Derived.RangeFuncNested
import Derived.Shelf.Abstract
import Derived.Shelf.RegionOpen
import Derived.StillTailTactics
import Derived.TacticsInMore
import Derived.Test.YtdldkkoplgkloaaGreatPa0
import Derived.Test.YtdldkkoplgkloaaGreatPa3
import Derived.Test.YtdldkkoplgkloaaGreatPa16
import Derived.Test.YtdldkkoplgkloaaGreatPa17
namespace Go.Proofs.YtdldkkoplgkloaaGreat
set_option linter.unusedVariables false
set_option linter.unusedSimpArgs false
set_option maxRecDepth 100000
set_option maxHeartbeats 32000000
open Go.Value renaming int → ae
open Go.IntKind renaming i64 → aa
namespace Rw
open Go.RowKit base obj mem bC
theorem ZR (z:Nat) (hz:z < 2 ^ 32) (h:z % 2=1):Go.bits .xor .u32 ((z:Int) / 2) 3988292384=((dn z:Nat):Int):=by
 rw [show (z:Int) / 2=((z / 2:Nat):Int) by omega,show (3988292384:Int)=((3988292384:Nat):Int) from rfl,qd _ _ (by omega) (by decide)];unfold dn;rw [if_pos h]
theorem YW (z:Nat) (h:¬z % 2=1):((dn z:Nat):Int)=(z:Int) / 2:=by
 unfold dn;rw [if_neg h,Nat.xor_zero];omega
theorem V9 (w:World) (x c:Nat) (hx:x < 2 ^ 32) (hc:c < 256):Calls Tryz.prog 217 #[.int .u32 x,.int .u8 c] w fun e w'=>e=.returned (.int .u32 (feed x c:Nat))∧w'=w:=by
 have e0:=qd x c hx (by omega);have hy:x ^^^ c < 2 ^ 32:=Nat.xor_lt_two_pow hx (by omega);have HF:=af (show feed x c=it 8 (x ^^^ c) from rfl);generalize x ^^^ c=y at *;have HY:=af hy;go_enter Tryz.func217,Tryz.ntmps217;go_wp2_with fail;go_loopw [5,0] (fun i s wr=>∃j:Nat,j≤8∧i=ae aa j∧s=.int .u32 (it j y:Nat)∧wr=w) (fun i _ _=>8-(intOf i).toNat)
 case atStart=>exact ⟨0,by omega,rfl,rfl,rfl⟩
 case round =>
  obtain ⟨j,hj,rfl,rfl,rfl⟩:=hrel;by_cases aH:j < 8
  ·have df:(j:Int) < 8:=by omega
   have hz:=JZ j HY.o;have HN:=af (show it (j+1) y=dn (it j y) from rfl);generalize it j y=z at *;by_cases ho:z % 2=1
   ·have b1:(((z:Int) % 2)==1)=true:=by rw [beq_iff_eq];omega
    have e1:=ZR z hz ho;have HZ:=af hz;have HO:=af ho;clear ho;go_wp2_with fail;go_roundw;case rel=>exact ⟨j+1,by omega,by go_num,by rw [HN.o],trivial⟩
    case measure=>simp [intOf];omega
   ·have b1:(((z:Int) % 2)==1)=false:=by rw [beq_eq_false_iff_ne];omega
    have HE:=af (YW z ho);clear ho;go_wp2_with fail;go_roundw;case rel=>exact ⟨j+1,by omega,by go_num,by rw [HN.o,HE.o],trivial⟩
    case measure=>simp [intOf];omega
  ·have BR:j=8:=by omega
   have df:¬(j:Int) < 8:=by omega
   have HJ:=af BR;clear BR;go_wp2_with fail;go_ret;exact ⟨bx (by rw [HF.o,HJ.o]),rfl⟩
theorem Hf (w:World) (x:Nat) (hx:x < 2 ^ 32) (A:Option Addr) (n c:Nat) (bs:List Int) (hn:bs.length=n) (hm:n≤1000000) (hb:bn bs) (hs:Sl w w.heap.size 1 A n (bs.map (.int .u8))) :
  Calls Tryz.prog 205 #[.int .u32 x,.slice A n c] w fun e w'=>e=.returned (.int .u32 (fold x bs:Nat))∧w'=w:=by
 have HN:=af hn;have HB:=af hb;have HS:=af hs;have HX:=af hx;clear hn hb hs hx;go_enter Tryz.func205,Tryz.ntmps205;go_wp2_with fail;go_loopw [5,0] (fun i s wr=>∃k:Nat,k≤n∧i=ae aa k∧s=.int .u32 (fold x (bs.take k):Nat)∧wr=w) (fun i _ _=>n-(intOf i).toNat)
 case atStart=>exact ⟨0,by omega,rfl,by rw [List.take_zero];rfl,rfl⟩
 case round =>
  obtain ⟨k,hk,rfl,rfl,rfl⟩:=hrel;by_cases aH:k < n
  ·have zc:k < bs.length:=by rw [HN.o];exact aH
   obtain ⟨b,off,rfl,cm,hc⟩:=HS.o.2 (by omega);have hz:=HB.o bs[k] (List.getElem_mem zc);have c1:=hc k (.int .u8 bs[k]) (by simp [zc]);have hfk:fold x (bs.take k) < 2 ^ 32:=CY HX.o fun y hy=>HB.o y (List.mem_of_mem_take hy);have gp:=zi x bs k zc;generalize hf:fold x (bs.take k)=f at *;have gm:bs[k]=((bs[k].toNat:Nat):Int):=by omega
   rw [gm] at c1;generalize Fv:bs[k].toNat=z at *;have HC:=af (V9 wr f z hfk (by omega));have lK:=af gp;have HF:=af hf;have i0:(0:Int)≤(k:Int):=by omega
   have i1:(k:Int) < (n:Int):=by omega
   clear hc gp hf hz gm Fv hfk zc;go_wp2_with fail;refine HC.o.mono ?_;rintro e w' ⟨rfl,rfl⟩;go_wp2_with fail;go_roundw;case rel=>exact ⟨k+1,by omega,by go_num,by rw [lK.o],trivial⟩
   case measure=>simp [intOf];omega
  ·have dy:k=n:=by omega
   have df:¬(k:Int) < (n:Int):=by omega
   have HK:=af dy;clear dy;go_wp2_with fail;go_ret;exact ⟨bx (by rw [HK.o,←HN.o,List.take_length]),rfl⟩
theorem vV (w:World) (A:Option Addr) (n c:Nat) (bs:List Int) (hn:bs.length=n) (hm:n≤1000000) (hb:bn bs) (hs:Sl w w.heap.size 1 A n (bs.map (.int .u8))) :
  Calls Tryz.prog 192 #[.slice A n c] w fun e w'=>e=.returned (.int .u32 (sum bs:Nat))∧w'=w:=by
 have hf:=CY (bs:=bs) (x:=4294967295) (by decide) hb;have HC:=af (Hf w 4294967295 (by decide) A n c bs hn hm hb hs);have HS:=af (show sum bs=4294967295-fold 4294967295 bs from rfl);generalize fold 4294967295 bs=f at *;clear hn hb hs;go_enter Tryz.func192,Tryz.ntmps192;go_wp2_with fail;refine HC.o.mono ?_;rintro e w' ⟨rfl,rfl⟩;have hf':(f:Int)≤4294967295:=by omega
 go_wp2_with fail;go_ret;refine ⟨bx ?_,rfl⟩;rw [HS.o];omega
end Rw
namespace eu
open Go.RowKit base obj mem bC num bytes record oH
theorem aa4 (w:World) (n i:Nat) (hn:n≤1000000) (hi:i≤1000):Calls Tryz.prog 206 #[ae aa n,ae aa i] w fun e w'=>e=.returned (.bool (decide (n / 2 ^ i % 2=1)))∧w'=w:=by
 go_enter Tryz.func206,Tryz.ntmps206;go_wp2_with fail;go_loopw [5,0] (fun k s wr=>∃j:Nat,j≤i∧k=ae aa j∧s=ae aa (n / 2 ^ j:Nat)∧wr=w) (fun k _ _=>i-(intOf k).toNat)
 case atStart=>exact ⟨0,by omega,rfl,by simp,rfl⟩
 case round =>
  obtain ⟨j,hj,rfl,rfl,rfl⟩:=hrel;have hq:n / 2 ^ j≤1000000:=Nat.le_trans (Nat.div_le_self _ _) hn;by_cases aH:j < i
  ·have df:(j:Int) < (i:Int):=by omega
   have HD:=af (show n / 2 ^ (j+1)=n / 2 ^ j / 2 by rw [Nat.pow_succ,Nat.div_div_eq_div_mul]);generalize n / 2 ^ j=q at *;go_wp2_with fail;go_roundw;case rel=>exact ⟨j+1,by omega,by go_num,by rw [HD.o];go_num,trivial⟩
   case measure=>simp [intOf]<;>omega
  ·have kt:j=i:=by omega
   have df:¬(j:Int) < (i:Int):=by omega
   have HR:=af (show decide (n / 2 ^ i % 2=1)=(((((n / 2 ^ j:Nat):Int) % 2)==1)) by
    rw [kt,Bool.eq_iff_iff,decide_eq_true_iff,beq_iff_eq];omega)
   clear kt;generalize n / 2 ^ j=q at *;go_wp2_with fail;go_ret;exact ⟨aA (by rw [HR.o]),rfl⟩
theorem C9 (w:World) (n i:Int) (h0:0≤n) (h1:n≤3) (i0:0≤i) (i1:i≤1):Calls Tryz.prog 206 #[ae aa n,ae aa i] w fun e w'=>e=.returned (.bool (!kZ n i))∧w'=w:=by
 obtain ⟨n,rfl⟩:=Int.eq_ofNat_of_zero_le h0;obtain ⟨i,rfl⟩:=Int.eq_ofNat_of_zero_le i0;refine (aa4 w n i (by omega) (by omega)).mono ?_;rintro e w' ⟨rfl,rfl⟩;refine ⟨aA ?_,rfl⟩;have hi:i=0∨i=1:=by omega
 unfold kZ;rcases hi with rfl|rfl<;>(rw [Bool.eq_iff_iff];simp;omega)
theorem fR (r:Rec) (w:World):Calls Tryz.prog 195 #[r.val] w fun e w'=>e=.returned (.bool r.right)∧Below w.heap.size w w':=by
 obtain ⟨part,seq,au,aj,left,bad⟩:=r;unfold Rec.val Rec.cells;have HB:=af (fun o=>(Below.refl w.heap.size w).alloc (Nat.le_refl _) o);go_enter Tryz.func195,Tryz.ntmps195;go_wp2_with fail
 all_goals first
  | (go_ret;refine ⟨aA ?_,HB.o _⟩;simp [Rec.right]<;>omega)
  | (refine (C9 _ _ _ (by omega) (by omega) (by omega) (by omega)).mono ?_
     rintro e w' ⟨rfl,rfl⟩;obtain ⟨ba,zg⟩:=xE (kZ bad au);rw [←zg];have uy:=af zg;clear zg;cases ba;all_goals go_wp2_with fail
     ·go_ret;refine ⟨aA ?_,HB.o _⟩;simp [Rec.right,←uy.o]<;>omega
     ·refine (C9 _ _ _ (by omega) (by omega) (by omega) (by omega)).mono ?_;rintro e w' ⟨rfl,rfl⟩;obtain ⟨bc,DE⟩:=xE (kZ bad aj);rw [←DE];have HBC:=af DE;clear DE;go_wp2_with fail
      go_ret;refine ⟨aA ?_,HB.o _⟩;cases bc<;>simp [Rec.right,←uy.o,←HBC.o]<;>omega)
  | (have he:au=aj:=by assumption
     refine (C9 _ _ _ (by omega) (by omega) (by omega) (by omega)).mono ?_;rintro e w' ⟨rfl,rfl⟩;obtain ⟨ba,zg⟩:=xE (kZ bad aj);rw [←zg];have uy:=af zg;have HE:=af he;clear zg he;cases ba;all_goals go_wp2_with fail
     ·go_ret;refine ⟨aA ?_,HB.o _⟩;simp [Rec.right,HE.o,←uy.o]<;>omega
     ·refine (C9 _ _ _ (by omega) (by omega) (by omega) (by omega)).mono ?_;rintro e w' ⟨rfl,rfl⟩;rw [←uy.o];go_wp2_with fail
      go_ret;refine ⟨aA ?_,HB.o _⟩;simp [Rec.right,HE.o,←uy.o]<;>omega)
theorem _root_.Go.Proofs.YtdldkkoplgkloaaGreat.mem.Row.grown {w w':World} {g:Nat} {t:TypeId} {xs:List Value} {row:Option Nat} (h:Row w g t xs) (k:w.grownBy w' row) (hn:row≠some g):Row w' g t xs:=(k.block g h.lt (fun e=>hn e.symm)).trans h
def z64:Array Value:=Array.replicate 64 (.int .u8 0)
theorem Fq (w:World):(Instr.makeSlice 24 (ae aa 64) (ae aa 64)).run Tryz.prog w=.ok (.slice (some ⟨w.heap.size,0,none⟩) 64 64) (w.alloc (.cells z64 5)):=by
 have h:=vJ 64 (by decide) w;rw [show ((64:Nat):Int)=64 from rfl] at h;rw [h];rfl
theorem Mg (n:Nat) (h:n < 256):be 1 n=[(n:Int)]:=by
 simp [be,digit];omega
theorem iZ {r:Rec} (h:r.right=true):(0≤r.part∧r.part≤3)∧(1≤r.seq∧r.seq≤4294967295)∧(0≤r.au∧r.au≤1)∧(0≤r.aj∧r.aj≤1)∧(0≤r.left∧r.left≤7)∧(0≤r.bad∧r.bad≤3):=by
 simp [Rec.right] at h;obtain ⟨⟨⟨⟨⟨⟨⟨h1,h2⟩,h3⟩,h4⟩,h5⟩,_⟩,h7⟩,_⟩:=h;exact ⟨h1,h2,h3,h4,h5,h7⟩
end eu
namespace record
open Go.RowKit base bC num
section
variable {r:Rec} {s:aR}
theorem Po (mark:Nat) (ks vs:List Nat) (i:Nat) (h:i≤ks.length):(pre mark ks vs i).length=og ks i:=by
 induction i with
 | zero=>simp [pre,og,bp]
 | succ i ih=>rw [tu,gC,bp,ih (by omega),xA ks i (by omega)]
theorem Vb (mark:Nat) (ks vs:List Nat) (i n:Nat) (h:i≤n):∃rest,pre mark ks vs n=pre mark ks vs i++rest:=by
 induction n with
 | zero=>obtain rfl:i=0:=by omega
         exact ⟨[],by simp⟩
 | succ n ih =>
   rcases Nat.lt_or_ge i (n+1) with h'|h'
   ·obtain ⟨r,hr⟩:=ih (by omega);exact ⟨r++be (ks.getD n 0) (vs.getD n 0),by rw [tu,hr,List.append_assoc]⟩
   ·obtain rfl:i=n+1:=by omega
    exact ⟨[],by simp⟩
theorem Oj (mark:Nat) (ks vs:List Nat) (n i:Nat) (q:List Int) (hi:i < n) (hn:n≤ks.length) (hv:vs.getD i 0 < 256 ^ ks.getD i 0):got ks (pre mark ks vs n++q) i=vs.getD i 0:=by
 obtain ⟨r,hr⟩:=Vb mark ks vs (i+1) n hi;unfold got;rw [hr,tu,List.append_assoc,List.append_assoc,List.drop_left' (Po mark ks vs i (by omega)),List.take_left' (bp _ _),Bm _ _ hv]
theorem Dm (p:List Int) (h:p.length≤60):(jY p).length=64:=by simp [jY,bp];omega
theorem Ku (p:List Int) (h:bn p):bn (jY p):=by
 intro z hz;unfold jY at hz;rcases List.mem_append.1 hz with hz|hz
 ·rcases List.mem_append.1 hz with hz|hz
  ·exact h z hz
  ·exact qO _ _ z hz
 ·rw [List.eq_of_mem_replicate hz];omega
theorem Rh (p:List Int):(jY p).take p.length=p:=by unfold jY;rw [List.append_assoc,List.take_left]
theorem US (p:List Int):((jY p).drop p.length).take 4=be 4 (sum p):=by
 unfold jY;rw [List.append_assoc,List.drop_left,List.take_left' (bp _ _)]
theorem Ri (p:List Int):(jY p).drop (p.length+4)=List.replicate (60-p.length) 0:=by
 unfold jY;rw [List.drop_left' (by simp [bp])]
theorem XO (p:List Int):val (be 4 (sum p))=sum p:=Bm 4 _ (Nat.lt_of_lt_of_le Bp (by decide))
theorem Ii (mark:Nat) (p:List Int) (h:val (p.take 2)=mark) (h2:2≤p.length):jO mark p.length (jY p)=0:=by
 unfold jO;rw [if_pos ⟨by rw [←h];unfold jY;rw [List.append_assoc,List.take_append_of_le_length h2],Ri p⟩,if_pos (by rw [US,Rh,XO])]
theorem KJ (mark:Nat) (ks vs:List Nat) (n:Nat) (hm:mark < 65536):val ((pre mark ks vs n).take 2)=mark:=by
 unfold pre;rw [List.take_left' (bp _ _),Bm 2 mark (by omega)]
theorem Rec.bY (r:Rec):r.bytes.length=64:=Dm _ (by rw [r.jQ];omega)
theorem Rec.pT (r:Rec):bn r.bytes:=Ku _ (GF _ _ _ _)
theorem aR.bY (s:aR):s.bytes.length=64:=Dm _ (by rw [s.jQ];omega)
theorem aR.pT (s:aR):bn s.bytes:=Ku _ (GF _ _ _ _)
theorem nat_eq {z:Int} (h:0≤z):((z.toNat:Nat):Int)=z:=by omega
theorem LH (h:r.right=true):sH r.bytes=r:=by
 obtain ⟨⟨a1,a2⟩,⟨b1,b2⟩,⟨c1,c2⟩,⟨d1,d2⟩,⟨e1,e2⟩,⟨f1,f2⟩⟩:=eu.iZ h
 have g:∀i,i < 6→r.iN.getD i 0 < 256 ^ fO.getD i 0→got fO r.bytes i=r.iN.getD i 0:=fun i hi hv=>by
  unfold Rec.bytes jY Rec.head;rw [List.append_assoc];exact Oj 19523 fO r.iN 6 i _ hi (Nat.le_refl 6) hv
 obtain ⟨part,seq,au,aj,left,bad⟩:=r;simp only at *;unfold sH;rw [g 0 (by decide) (by simp [Rec.iN];omega),g 1 (by decide) (by simp [Rec.iN];omega),g 2 (by decide) (by simp [Rec.iN];omega),g 3 (by decide) (by simp [Rec.iN];omega),g 4 (by decide) (by simp [Rec.iN];omega),g 5 (by decide) (by simp [Rec.iN];omega)];simp [Rec.iN,nat_eq a1,nat_eq c1,nat_eq d1,nat_eq e1,nat_eq f1,nat_eq (show 0≤seq by omega)]
theorem B2 (h:r.right=true):dS r.bytes=(r,0):=by
 unfold dS
 have e:jO 19523 11 r.bytes=0:=by
  have:=Ii 19523 r.head (KJ 19523 fO r.iN 6 (by decide)) (by rw [r.jQ];decide)
  rwa [r.jQ] at this
 rw [if_pos r.bY,if_pos e,LH h,h];rfl
theorem LF (h:s.right=true):sG s.bytes=s:=by
 obtain ⟨⟨h1,h2⟩,⟨h3,h4⟩,h5,h6⟩:=iD h
 have g:∀i,i < 3→s.iN.getD i 0 < 256 ^ iE.getD i 0→got iE s.bytes i=s.iN.getD i 0:=fun i hi hv=>by
  unfold aR.bytes jY aR.head;rw [List.append_assoc];exact Oj 19539 iE s.iN 3 i _ hi (Nat.le_refl 3) hv
 obtain ⟨aC,size,bf⟩:=s;simp only at *;unfold sG;rw [g 0 (by decide) (by simp [aR.iN];omega),g 1 (by decide) (by simp [aR.iN];omega),g 2 (by decide) (by simp [aR.iN];omega)];simp [aR.iN,nat_eq h5,nat_eq (show 0≤aC by omega),nat_eq (show 0≤size by omega)]
theorem LL (h:s.right=true):jb s.bytes=(s,0):=by
 unfold jb
 have e:jO 19539 8 s.bytes=0:=by
  have:=Ii 19539 s.head (KJ 19539 iE s.iN 3 (by decide)) (by rw [s.jQ];decide)
  rwa [s.jQ] at this
 rw [if_pos s.bY,if_pos e,LF h,h];rfl
theorem nM (mark N:Nat) (z:Int) (hz:0≤z∧z≤255) (hm:mark=19523∨mark=19539):jO mark N (List.replicate 64 z)=2:=by
 unfold jO;rw [if_neg];rintro ⟨h,_⟩;rw [show (List.replicate 64 z).take 2=[z,z] by simp] at h;simp [val] at h;omega
end
end record
namespace bits
open Go.RowKit
def dg (s:Int) (i:Nat):Bool:=decide (s / 2 ^ i % 2=1)
def Dc (s:Int):Prop:=-9223372036854775808≤s∧s≤9223372036854775807
theorem Zf (x:Int):Go.bits .and .i64 x 1=x % 2:=by
 show IntKind.i64.wrap ((BitVec.ofInt 64 x &&& BitVec.ofInt 64 1).toNat:Int)=_
 rw [BitVec.toNat_and,show (BitVec.ofInt 64 1).toNat=1 from rfl,Nat.and_one_is_mod,BitVec.toNat_ofInt,IntKind.wrap_i64];omega
theorem aa3 (s:Int) (k:Nat):(Go.bits .and .i64 (s / 2 ^ k) 1 != 0)=dg s k:=by
 rw [Zf,dg];generalize s / 2 ^ k=x;rw [Bool.eq_iff_iff];simp;omega
theorem Fj (n k:Nat):n ||| 2 ^ k=if n / 2 ^ k % 2=1 then n else n+2 ^ k:=by
 have hp:0 < 2 ^ k:=Nat.two_pow_pos k;have hd:n=2 ^ k*(n / 2 ^ k)+n % 2 ^ k:=(Nat.div_add_mod n (2 ^ k)).symm;have hm:n % 2 ^ k < 2 ^ k:=Nat.mod_lt _ hp;generalize n / 2 ^ k=q at *;generalize n % 2 ^ k=r at *;subst hd;have e1:2 ^ k*q+r=2 ^ k*q ||| r:=Nat.two_pow_add_eq_or_of_lt hm q;split
 ·rename_i h
  have e2:2 ^ k*q=2 ^ (k+1)*(q / 2) ||| 2 ^ k:=by
   have:=Nat.two_pow_add_eq_or_of_lt (i:=k+1) (b:=2 ^ k) (by rw [Nat.pow_succ];omega) (q / 2);rw [←this,Nat.pow_succ];have hq:q=2*(q / 2)+1:=by omega
   conv=>lhs;rw [hq]
   rw [Nat.mul_add,Nat.mul_one,Nat.mul_assoc]
  rw [e1,e2,Nat.or_assoc,Nat.or_assoc,Nat.or_comm r,←Nat.or_assoc (2 ^ k) (2 ^ k),Nat.or_self,Nat.or_assoc]
 ·rename_i h
  have e2:2 ^ k*q=2 ^ (k+1)*(q / 2):=by
   rw [Nat.pow_succ];have hq:q=2*(q / 2):=by omega
   conv=>lhs;rw [hq]
   rw [Nat.mul_assoc]
  have e3:2 ^ k+r=2 ^ k ||| r:=by
   have:=Nat.two_pow_add_eq_or_of_lt hm 1;simpa using this
  have e4:=Nat.two_pow_add_eq_or_of_lt (i:=k+1) (b:=2 ^ k+r) (by rw [Nat.pow_succ];omega) (q / 2);rw [e1,e2,Nat.or_assoc,Nat.or_comm r,←e3,←e4,←e2,←e1];omega
def oa (s:Int) (k:Nat):Int:=if dg s k then s else s+2 ^ k
theorem ZP (s:Int) (k:Nat) (hk:k < 16) (h:Dc s):Go.bits .or .i64 s (2 ^ k)=oa s k:=by
 show IntKind.i64.wrap ((BitVec.ofInt 64 s ||| BitVec.ofInt 64 (2 ^ k)).toNat:Int)=_
 obtain ⟨h1,h2⟩:=h
 have acv:(BitVec.ofInt 64 (2 ^ k)).toNat=2 ^ k:=by
  rw [BitVec.toNat_ofInt];have:(2:Int) ^ k=((2 ^ k:Nat):Int):=by simp
  rw [this];have aH:2 ^ k < 65536:=Nat.pow_lt_pow_right (m:=k) (n:=16) (a:=2) (by omega) hk;generalize 2 ^ k=m at aH ⊢;rw [show ((m:Int) % ((2 ^ 64:Nat):Int))=(m:Int) from Int.emod_eq_of_lt (by omega) (by omega)];omega
 rw [BitVec.toNat_or,acv,Fj,BitVec.toNat_ofInt,IntKind.wrap_i64];unfold oa dg;rcases (by omega:k=0∨k=1∨k=2∨k=3∨k=4∨k=5∨k=6∨k=7∨k=8∨k=9∨k=10∨k=11∨k=12∨k=13∨k=14∨k=15) with rfl|rfl|rfl|rfl|rfl|rfl|rfl|rfl|rfl|rfl|rfl|rfl|rfl|rfl|rfl|rfl <;>
 ·simp only [Nat.reducePow,Int.reducePow,decide_eq_true_eq];split<;>split<;>omega
theorem Qx (s:Int) (j k:Nat):dg (oa s k) j=(dg s j||j==k):=by
 unfold oa;cases h:dg s k
 ·simp only [Bool.false_eq_true,if_false];simp only [dg,decide_eq_false_iff_not] at h;unfold dg;rcases Nat.lt_trichotomy j k with xP|rfl|xP
  ·have e:(2:Int) ^ k=2 ^ (k-j)*2 ^ j:=by rw [←Int.pow_add];congr 1;omega
   have e2:(2:Int) ^ (k-j)=2*2 ^ (k-j-1):=by
    have:k-j=1+(k-j-1):=by omega
    rw [this,Int.pow_add];simp
   have hp:(2:Int) ^ j≠0:=by have:=Int.pow_pos (n:=2) (m:=j) (by omega);omega
   rw [e,Int.add_mul_ediv_right _ _ hp,e2];have:(j==k)=false:=by simp;omega
   rw [this,Bool.or_false,Bool.eq_iff_iff];simp only [decide_eq_true_eq];generalize (2:Int) ^ (k-j-1)=y;omega
  ·have hp:(2:Int) ^ j≠0:=by have:=Int.pow_pos (n:=2) (m:=j) (by omega);omega
   rw [show s+2 ^ j=s+1*2 ^ j from by rw [Int.one_mul],Int.add_mul_ediv_right _ _ hp];simp;omega
  ·have hp:(0:Int) < 2 ^ k:=Int.pow_pos (by omega)
   have e:(2:Int) ^ j=2 ^ k*2*2 ^ (j-k-1):=by
    have h1:j=k+1+(j-k-1):=by omega
    conv=>lhs;rw [h1]
    rw [Int.pow_add,Int.pow_add];simp
   have:(j==k)=false:=by simp;omega
   rw [this,Bool.or_false,e,Int.ediv_ediv_of_nonneg (by omega) |>.symm,←Int.ediv_ediv_of_nonneg (x:=s) (by omega)]
   have e3:(s+2 ^ k) / (2 ^ k*2)=s / (2 ^ k*2):=by
    rw [←Int.ediv_ediv_of_nonneg (by omega),←Int.ediv_ediv_of_nonneg (x:=s) (by omega)];rw [show s+2 ^ k=s+1*2 ^ k from by rw [Int.one_mul],Int.add_mul_ediv_right _ _ (by omega)];omega
   rw [e3]
 ·simp only [if_true];by_cases e:j=k
  ·subst e;simp [h]
  ·simp [e]
end bits
namespace bits
open Go.RowKit Go.Shelf base
section
variable {B a:Nat} {v:Value} {W W':World}
attribute [local go_sem] Oper.semAt_some
def dE (n:Int):Nat:=(min (max n 0) 16).toNat
theorem Lt (n:Int):dE n≤16:=by unfold dE;omega
theorem VU (n:Int) (w:World):Calls Tryz.prog 180 #[ae aa n] w fun e w'=>e=.returned (ae aa (dE n))∧w=w':=by
 by_cases h0:n < 0
 ·have e:dE n=0:=by unfold dE;omega
  rw [e];clear e;go_enter Tryz.func180,Tryz.ntmps180
  go_wp2
  go_ret;exact ⟨by first|rfl|(show Ending.returned (Value.int .i64 (min (max n 0) 16))=_;first|(rw [show min (max n 0) 16=(0:Int) by omega]<;>rfl)|(rw [show min (max n 0) 16=(16:Int) by omega]<;>rfl))|(show Ending.returned (Value.int .i64 (min (k:Int) 16))=_;rw [show min (k:Int) 16=(k:Int) by omega]),rfl⟩
 ·by_cases h1:n≤16
  ·obtain ⟨k,rfl⟩:=Int.eq_ofNat_of_zero_le (show 0≤n by omega);have e:dE (k:Int)=k:=by unfold dE;omega
   rw [e];clear e h0;go_enter Tryz.func180,Tryz.ntmps180
   go_wp2
   go_ret;exact ⟨by first|rfl|(show Ending.returned (Value.int .i64 (min (max n 0) 16))=_;first|(rw [show min (max n 0) 16=(0:Int) by omega]<;>rfl)|(rw [show min (max n 0) 16=(16:Int) by omega]<;>rfl))|(show Ending.returned (Value.int .i64 (min (k:Int) 16))=_;rw [show min (k:Int) 16=(k:Int) by omega]),rfl⟩
  ·have e:dE n=16:=by unfold dE;omega
   rw [e];clear e;have h2:0≤n:=by omega
   go_enter Tryz.func180,Tryz.ntmps180
   go_wp2
   go_ret;exact ⟨by first|rfl|(show Ending.returned (Value.int .i64 (min (max n 0) 16))=_;first|(rw [show min (max n 0) 16=(0:Int) by omega]<;>rfl)|(rw [show min (max n 0) 16=(16:Int) by omega]<;>rfl))|(show Ending.returned (Value.int .i64 (min (k:Int) 16))=_;rw [show min (k:Int) 16=(k:Int) by omega]),rfl⟩
theorem Lz (s:Int) (k:Nat) (w:World) (hk:k < 16):Calls Tryz.prog 92 #[ae aa s,ae aa k] w fun e w'=>e=.returned (.bool (dg s k))∧w=w':=by
 have i0:(0:Int)≤k:=by omega
 have i1:(k:Int) < 16:=by omega
 have HB:=af (aa3 s k);go_enter Tryz.func92,Tryz.ntmps92
 go_wp2
 go_ret;exact ⟨aA HB.o,rfl⟩
theorem Un (k:Nat) (hk:k < 16):wrap64 (2 ^ k)=2 ^ k:=by
 have h1:(0:Int) < 2 ^ k:=Int.pow_pos (by omega)
 have h2:(2:Int) ^ k≤2 ^ 16:=by
  have:2 ^ k≤2 ^ 16:=Nat.pow_le_pow_right (by omega) (by omega)
  exact_mod_cast this
 exact IntWalk.wrap64_in _ ⟨by omega,by omega⟩
theorem XG (s:Int) (k:Nat) (w:World) (hk:k < 16) (hs:Dc s):Calls Tryz.prog 95 #[ae aa s,ae aa k] w fun e w'=>e=.returned (ae aa (oa s k))∧w=w':=by
 have i0:¬(k:Int) < 0:=by omega
 have i1:¬(16:Int)≤k:=by omega
 have HB:=af (show Go.bits .or .i64 s (wrap64 (2 ^ k))=oa s k by rw [Un k hk];exact ZP s k hk hs);go_enter Tryz.func95,Tryz.ntmps95
 go_wp2
 go_ret;exact ⟨bx HB.o,rfl⟩
def elems (s:Int) (m:Nat):List (Int×Bool):=(List.range m).map fun i:Nat=>((i:Int),dg s i)
theorem I6 (s:Int) (m:Nat):(elems s m).length=m:=by simp [elems]
theorem F7 (s:Int) (m k:Nat) (h:k < m):(elems s m).take (k+1)=(elems s m).take k++[((k:Int),dg s k)]:=by
 rw [kr (by simpa [elems] using h)];simp [elems]
def yb (a b:Nat) (W W':World):Prop:=W'.heap[a]?=W.heap[a]?∧W'.heap[b]?=W.heap[b]?
theorem yb.t {b:Nat} {A B C:World} (h:yb a b A B) (k:yb a b B C):yb a b A C:=⟨k.1.trans h.1,k.2.trans h.2⟩
theorem yb.b {a b:Nat} {w:World} (ha:a < w.heap.size) (hb:b < w.heap.size) (W:World) (l:Nat) (o o':Obj) (hl:w.heap.size≤l) (h:W.heap[l]?=some o) (_:o.isCells=false) (_:o.isWalk=false):yb a b W (W.putObj l o') :=
 ⟨World.putObj_heap_other (by omega),World.putObj_heap_other (by omega)⟩
theorem yb.abW {b:Nat} (h:yb a b W W') {v:Value} (hc:W.cell? ⟨a,0,none⟩=some v):W'.cell? ⟨a,0,none⟩=some v:=(World.cell?_of_block (a:=⟨a,0,none⟩) h.1).trans hc
theorem yb.oh {b n₀:Nat} (h:Below n₀ W W') (ha:a < n₀) (hb:b < n₀):yb a b W W':=⟨h.block a ha,h.block b hb⟩
theorem YY (s n:Int) (w:World):CallsIn Fence.wide 9 Tryz.prog 142 #[ae aa s,ae aa n] w fun e w' =>
  e=.returned (.func (.func 179) #[] #[.pointer (some ⟨w.heap.size+1,0,none⟩),.pointer (some ⟨w.heap.size,0,none⟩)])∧(w.alloc (.cells #[ae aa s] 3)).alloc (.cells #[ae aa n] 3)=w':=by
 refine callsIn_wide.2 ?_;go_enter Tryz.func142,Tryz.ntmps142
 go_wp2
 go_ret;exact ⟨rfl,rfl⟩
theorem Wd (l Bs Bn:Nat) (s n:Int) (J Jx:List (Int×Bool)→World→Prop)
  (hY:∀pre x W,J pre W→pre.length < dE n→YieldAt Fence.wide 8 Tryz.prog l #[ae aa x.1,.bool x.2] W fun e W' =>
   (e=.returned (.bool true)∧J (pre++[x]) W'∧yb Bs Bn W W')∨(e=.returned (.bool false)∧Jx (pre++[x]) W'))
  (W:World) (cs:W.cell? ⟨Bs,0,none⟩=some (ae aa s)) (cn:W.cell? ⟨Bn,0,none⟩=some (ae aa n)) (h0:J [] W) :
  CallsIn Fence.wide 9 Tryz.prog 179 #[.func (.yield l) #[] #[],.pointer (some ⟨Bn,0,none⟩),.pointer (some ⟨Bs,0,none⟩)] W fun e W'=>(∃v,e=.returned v)∧
   ((∃ys,ys=elems s (dE n)∧J ys W')∨(∃pre,pre <+: elems s (dE n)∧Jx pre W')):=by
 have hm:=Lt n;refine callsIn_of_wp Tryz.func179 rfl trivial ?_ rfl;simp only [Tryz.ntmps179,List.size_toArray,List.length_cons,List.length_nil,Nat.reduceAdd,Nat.reduceSub,Array.replicate_succ,Array.replicate_zero,List.push_toArray,List.append_toArray,List.nil_append,List.cons_append]
 gi_wp2_with (refine ⟨trivial,?_⟩;gi_at_call 180;refine (callsIn_wide.2 (VU _ _)).mono ?_;rintro e w' ⟨rfl,rfl⟩)
 gi_loopw [7] (fun i wr=>∃k:Nat,k≤dE n∧i=ae aa k∧J ((elems s (dE n)).take k) wr∧wr.cell? ⟨Bs,0,none⟩=some (ae aa s)) (fun i _=>dE n-(intOf i).toNat)
 case atStart=>exact ⟨0,by omega,rfl,h0,cs⟩
 case round =>
  obtain ⟨k,hk,rfl,hJ,c1⟩:=hrel;by_cases aH:k < dE n
  ·obtain ⟨fn,tmps,assign,body,hy,hR⟩:=hY _ ((k:Int),dg s k) wr hJ (by simp [elems];omega);dsimp only at hy;have aaC:k < 16:=by omega
   gi_wp2_with (refine ⟨trivial,?_⟩;gi_at_call 92;refine (callsIn_wide.2 (Lz _ _ _ aaC)).mono ?_;rintro e w' ⟨rfl,rfl⟩)
   refine hR.mono ?_;rintro e W3 (⟨rfl,hJ3,hk3⟩|⟨rfl,acQ⟩)
   ·have c3:=hk3.abW c1
    gi_wp2
    go_roundw;case rel=>exact ⟨k+1,by omega,by go_num,by rw [F7 _ _ _ aH];exact hJ3,c3⟩
    case measure=>simp [intOf];omega
   ·gi_wp2
    refine bodyPost_ret (results_none rfl _ _ _) rfl ?_;exact ⟨⟨_,rfl⟩,.inr ⟨(elems s (dE n)).take (k+1),List.take_prefix _ _,by rw [F7 _ _ _ aH];exact acQ⟩⟩
  ·have hJ':J (elems s (dE n)) wr:=by rwa [List.take_of_length_le (by rw [I6];omega)] at hJ
   have HJ:=af hJ'
   gi_wp2
   go_end0
   exact ⟨⟨_,rfl⟩,.inl ⟨_,rfl,HJ.o⟩⟩
theorem Qm (s n:Int) (Bs Bn:Nat) (w:World) (hBs:Bs < w.heap.size) (hBn:Bn < w.heap.size) (cs:w.cell? ⟨Bs,0,none⟩=some (ae aa s)) (cn:w.cell? ⟨Bn,0,none⟩=some (ae aa n)) :
  SeqStopsK Fence.wide 9 Tryz.prog 179 #[.pointer (some ⟨Bn,0,none⟩),.pointer (some ⟨Bs,0,none⟩)] (fun x:Int×Bool=>#[Value.int .i64 x.1,Value.bool x.2]) (yb Bs Bn) (fun ys=>ys=elems s (dE n)) (fun pre=>pre <+: elems s (dE n)) (dE n) w:=fun l J Jx W hW _ _ hY h0 =>
 Wd l Bs Bn s n J Jx hY W ((hW.cell (p:=⟨Bs,0,none⟩) hBs).trans cs) ((hW.cell (p:=⟨Bn,0,none⟩) hBn).trans cn) h0
theorem vt {row:Option Nat} {t:TypeId} (h:Boxed W B t v) (hg:W.grownBy W' row) (hr:∀r,row=some r→∃o:Obj,W.heap[r]?=some o∧o.isCells=false):Boxed W' B t v :=
 h.kept hg fun e=>by
  obtain ⟨o,ho,hc⟩:=hr B e.symm;have h':W.heap[B]?=_:=h;rw [h'] at ho;cases ho;cases hc
theorem xZ {B':Nat} {t:TypeId} {u:Value} (h:Boxed W B t v) (rN:B≠B'):Boxed (W.setCell ⟨B',0,none⟩ u) B t v:=(Below.heap_setCell _ _ _ _ rN).trans h
def JI (s n:Int) (w:World) (e:Ending) (w':World):Prop :=
 ((∃(k:Nat),k < dE n∧dg s k=false∧(∀j,j < k→dg s j=true)∧e=.returned (.tuple #[ae aa k,.bool true]))∨
   ((∀j,j < dE n→dg s j=true)∧e=.returned (.tuple #[ae aa 0,.bool false])))∧Below w.heap.size w w'
def J6 (l:List (Int×Bool)):Prop:=∀x∈l,x.2=true
theorem Nh (s:Int) (m:Nat) (h:J6 (elems s m)):∀j,j < m→dg s j=true:=by
 intro j hj;exact h ((j:Int),dg s j) (by simp only [elems,List.mem_map,List.mem_range];exact ⟨j,hj,rfl⟩)
theorem V6 (s:Int) (m:Nat) (pre:List (Int×Bool)) (i:Int) (h:pre++[(i,false)] <+: elems s m) (ha:J6 pre):∃k:Nat,k < m∧i=k∧dg s k=false∧∀j,j < k→dg s j=true:=by
 obtain ⟨t,ht⟩:=h;have hlen:pre.length < m:=by have:=congrArg List.length ht;simp [I6] at this;omega
 have g:∀j:Nat,(elems s m)[j]?=(pre++[(i,false)]++t)[j]?:=fun j=>by rw [ht]
 have gk:=g pre.length;simp [elems,hlen] at gk;refine ⟨pre.length,hlen,gk.1.symm,gk.2,fun j hj=>?_⟩;have gj:=g j;have hjm:j < m:=by omega
 simp only [elems,List.append_assoc] at gj;rw [List.getElem?_append_left hj] at gj;simp [hjm] at gj;have:=ha pre[j] (List.getElem_mem hj);rw [cN hj] at gj;injection gj with gj
 rw [←gj] at this;exact this
theorem V7 (s n:Int) (w:World) :
  CallsIn Fence.wide 10 Tryz.prog 96 #[ae aa s,ae aa n] w (JI s n w):=by
 have hm:=Lt n;refine callsIn_of_wp_marks Tryz.func96 rfl trivial ?_ rfl;simp only [Tryz.ntmps96,List.size_toArray,List.length_cons,List.length_nil,Nat.reduceAdd,Nat.reduceSub,Array.replicate_succ,Array.replicate_zero,List.push_toArray,List.append_toArray,List.nil_append,List.cons_append]
 gi_wp2_with (refine ⟨trivial,?_⟩;gi_at_call 142;refine (YY _ _ _).mono ?_;rintro e w' ⟨rfl,rfl⟩)
 obtain ⟨W0,LA⟩:∃W0:World,(((w.alloc (.cells #[ae aa 0] 3)).alloc (.cells #[.bool false] 4)).alloc (.cells #[ae aa s] 3)).alloc (.cells #[ae aa n] 3)=W0:=⟨_,rfl⟩
 have iP:W0.heap.size=w.heap.size+4:=by rw [←LA];simp
 have b0:=Boxed.new w 3 (ae aa 0);have b1:=Boxed.new (w.alloc (.cells #[ae aa 0] 3)) 4 (.bool false);have b2:=Boxed.new ((w.alloc (.cells #[ae aa 0] 3)).alloc (.cells #[.bool false] 4)) 3 (ae aa s);have b3:=Boxed.new (((w.alloc (.cells #[ae aa 0] 3)).alloc (.cells #[.bool false] 4)).alloc (.cells #[ae aa s] 3)) 3 (ae aa n);simp only [World.size_alloc] at b1 b2 b3;have bA:Boxed W0 w.heap.size 3 (ae aa 0):=by rw [←LA];exact ((b0.alloc _).alloc _).alloc _
 have bB:Boxed W0 (w.heap.size+1) 4 (.bool false):=by rw [←LA];exact (b1.alloc _).alloc _
 have cs:W0.cell? ⟨w.heap.size+1+1,0,none⟩=some (ae aa s):=by rw [←LA];exact (b2.alloc _).cell
 have cn:W0.cell? ⟨w.heap.size+1+1+1,0,none⟩=some (ae aa n):=by rw [←LA];exact b3.cell
 have hB0:Below w.heap.size w W0:=by rw [←LA];exact ((((Below.refl _ w).alloc (Nat.le_refl _) _).alloc (by simp) _).alloc (by simp;omega) _).alloc (by simp;omega) _
 rw [LA]
 refine wpIn_rangeFunc_ownG rfl (by omega) (gf:=179) (lb:=#[.pointer (some ⟨w.heap.size+1+1+1,0,none⟩),.pointer (some ⟨w.heap.size+1+1,0,none⟩)]) rfl trivial (enters_of Tryz.func179 (by kernel_rfl) rfl)
  (Qm s n (w.heap.size+1+1) (w.heap.size+1+1+1) W0 (by omega) (by omega) cs cn) yb.t (yb.b (by omega) (by omega)) (Below.refl _ _) (fun _=>rfl)
  (fun pre W=>(Boxed W w.heap.size 3 (ae aa 0)∧Boxed W (w.heap.size+1) 4 (.bool false))∧Below w.heap.size w W∧J6 pre)
  (fun c pre W=>(∃q i,c=.ret∧pre=q++[(i,false)]∧J6 q∧Boxed W w.heap.size 3 (ae aa i)∧Boxed W (w.heap.size+1) 4 (.bool true))∧Below w.heap.size w W)
  (OwnFrom.and (Own.from (fun s A B row hs hg hr=>⟨vt hs.1 hg hr,vt hs.2 hg hr⟩) _) (OwnFrom.and (ownFrom_below (Nat.le_refl _) (by omega)) (fun _ _ _ _ hs _ _=>hs)))
  (fun c=>OwnFrom.and (Own.from (fun s A B row hs hg hr=>by obtain ⟨q,i,h1,h2,h3,h4,h5⟩:=hs;exact ⟨q,i,h1,h2,h3,vt h4 hg hr,vt h5 hg hr⟩) _) (ownFrom_below (Nat.le_refl _) (by omega)))
  ⟨⟨bA,bB⟩,hB0,by intro x hx;cases hx⟩
  (fun x=>{ tmps:=#[ae aa s,ae aa n,undef,undef,.pointer (some ⟨w.heap.size,0,none⟩),.pointer (some ⟨w.heap.size+1,0,none⟩),ae aa x.1,.bool x.2,ae aa s,ae aa n,.func (.func 179) #[] #[.pointer (some ⟨w.heap.size+1+1+1,0,none⟩),.pointer (some ⟨w.heap.size+1+1,0,none⟩)],ae aa x.1,.bool x.2,undef,undef,undef],defers:=[] }) ?assign ?body ?done ?stop
 case assign =>
  intro l x W K hK
  gi_wp2
  exact hK
 case body =>
  rintro l pre ⟨i,b⟩ W ⟨⟨hA,DH⟩,hB,cH⟩ aH;have o6:=af cH;have cA:=hA.cell;have fA:=hA.frozen;have cB:=DH.cell;have fB:=DH.frozen;clear cH;cases b
  ·gi_wp2
   refine ⟨((KeepsOthers.setCell _ _ _).trans (KeepsOthers.setCell _ _ _)).from _,⟨pre,i,rfl,rfl,o6.o,xZ (hA.set _) (by omega),(xZ DH (by omega)).set _⟩,?_⟩;exact (hB.setCell (p:=⟨w.heap.size,0,none⟩) (Nat.le_refl _) _).setCell (p:=⟨w.heap.size+1,0,none⟩) (by simp) _
  ·gi_wp2
   exact ⟨KeepsFrom.refl _ _,⟨rfl,rfl⟩,⟨hA,DH⟩,hB,by intro x hx;rcases List.mem_append.1 hx with h|h;exact o6.o x h;simp at h;subst h;rfl⟩
 case done =>
  rintro D ys W hD rfl ⟨⟨hA,DH⟩,hB,cH⟩ hK;have o6:=af cH;have cA:=hA.cell;have fA:=hA.frozen;have cB:=DH.cell;have fB:=DH.frozen;clear cH
  gi_wp2
  have zh:((W.setCell ⟨w.heap.size,0,none⟩ (ae aa 0)).setCell ⟨w.heap.size+1,0,none⟩ (.bool false)).heap[D]?=some (.deferred (some [])):=by
   rw [Below.heap_setCell _ _ _ _ (by show D≠w.heap.size+1;omega),Below.heap_setCell _ _ _ _ (by show D≠w.heap.size;omega)];exact hK
  have hB2:Below w.heap.size w ((W.setCell ⟨w.heap.size,0,none⟩ (ae aa 0)).setCell ⟨w.heap.size+1,0,none⟩ (.bool false)):=(hB.setCell (p:=⟨w.heap.size,0,none⟩) (Nat.le_refl _) _).setCell (p:=⟨w.heap.size+1,0,none⟩) (by simp) _;have S5:=xZ (B':=w.heap.size+1) (u:=.bool false) (hA.set (ae aa 0)) (by omega);have acR:=(xZ (B':=w.heap.size) (u:=ae aa 0) DH (by omega)).set (.bool false);generalize (W.setCell ⟨w.heap.size,0,none⟩ (ae aa 0)).setCell ⟨w.heap.size+1,0,none⟩ (.bool false)=W2 at *;refine ⟨by simp,.inl ⟨_,_,rfl,run_takeDeferred zh,?_⟩⟩;have g1:(W2.putObj D (.deferred none)).cell? ⟨w.heap.size,0,none⟩=some (ae aa 0):=(World.cell?_of_block (a:=⟨w.heap.size,0,none⟩) (World.putObj_heap_other (by show w.heap.size≠D;omega))).trans S5.cell;have g2:(W2.putObj D (.deferred none)).cell? ⟨w.heap.size+1,0,none⟩=some (.bool false):=(World.cell?_of_block (a:=⟨w.heap.size+1,0,none⟩) (World.putObj_heap_other (by show w.heap.size+1≠D;omega))).trans acR.cell;refine ⟨.tuple #[ae aa 0,.bool false],by simp [results,Tryz.results96,go_sem,g1,g2],.inr ⟨Nh _ _ o6.o,rfl⟩,hB2.trans (belowK_b (w:=w) (Nat.le_refl _) W2 D _ _ (by omega) zh rfl rfl)⟩
 case stop =>
  rintro D c pre W hD acs ⟨⟨q,i,rfl,rfl,cH,hA,DH⟩,hB⟩ hK;obtain ⟨k,hk,rfl,hb,hj⟩:=V6 s (dE n) q i acs cH;have HB:=af hb;have HJ:=af hj;have cA:=hA.cell;have cB:=DH.cell;clear cH hb hj
  gi_wp2
  refine ⟨by simp,.inl ⟨_,_,rfl,run_takeDeferred hK,?_⟩⟩;have g1:(W.putObj D (.deferred none)).cell? ⟨w.heap.size,0,none⟩=some (ae aa k):=(World.cell?_of_block (a:=⟨w.heap.size,0,none⟩) (World.putObj_heap_other (by show w.heap.size≠D;omega))).trans cA;have g2:(W.putObj D (.deferred none)).cell? ⟨w.heap.size+1,0,none⟩=some (.bool true):=(World.cell?_of_block (a:=⟨w.heap.size+1,0,none⟩) (World.putObj_heap_other (by show w.heap.size+1≠D;omega))).trans cB;refine ⟨.tuple #[ae aa k,.bool true],by simp [results,Tryz.results96,go_sem,g1,g2],.inl ⟨k,hk,HB.o,HJ.o,rfl⟩,hB.trans (belowK_b (w:=w) (Nat.le_refl _) W D _ _ (by omega) hK rfl rfl)⟩
theorem IV (s n:Int) (w:World):Calls Tryz.prog 96 #[ae aa s,ae aa n] w (JI s n w):=callsIn_wide.1 (V7 s n w)
end
end bits
namespace bits
open Go.RowKit
theorem Wr (x j:Nat):dg (x:Int) j=x.testBit j:=by
 rw [Nat.testBit_eq_decide_div_mod_eq];unfold dg;have:(x:Int) / 2 ^ j % 2=((x / 2 ^ j % 2:Nat):Int):=by simp
 rw [this];simp only [decide_eq_decide];omega
theorem Jm (j:Nat):dg 0 j=false:=by simp [dg]
end bits
end Go.Proofs.YtdldkkoplgkloaaGreat
