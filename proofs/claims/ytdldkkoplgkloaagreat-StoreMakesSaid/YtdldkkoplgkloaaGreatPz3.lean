/-
  PROVED HERE: lemmas and contracts that the law's proof leans on (texts put together: Bytes, Num, ShaMath, ShaKnow, ShaLong, ShaFold, ShaRefMath).
  CONDITIONS: each names its own.
-/
import Derived.KernelRfl
import Derived.Test.YtdldkkoplgkloaaGreatPz1
import Derived.Test.YtdldkkoplgkloaaGreatPz2
namespace Go.Proofs.YtdldkkoplgkloaaGreat
set_option linter.unusedVariables false
set_option linter.unusedSimpArgs false
set_option maxRecDepth 100000
set_option maxHeartbeats 32000000
namespace bytes

open Go.RowKit base obj mem
theorem infoB:(Tryz.prog.info? 5).map (fun i=>(i.zero,i.size,i.bytes))=some (some (.int .u8 0),1,1):=by kernel_rfl
theorem slB:SlT Tryz.prog 24 5 1 1:=by
 obtain ⟨i0,hi,hz0,hz1,hz2⟩:=info_parts infoB
 exact ⟨Tryz.underlying24,⟨i0,_,hi,hz0,hz1,hz2,rfl⟩,by decide⟩
theorem map_one (bs:List Int):∀v∈bs.map (Value.int .u8),v.oneCell'=true:=by
 intro v hv
 obtain ⟨_,_,rfl⟩:=List.mem_map.1 hv
 rfl
theorem clone_own (w:World) (A:Option Addr) (n c:Nat) (xs:List Value) (hs:Sl w w.heap.size 1 A n xs) (h1:∀v∈xs,v.oneCell'=true) (hn:n≤1000000) :
  Calls Tryz.prog 170 #[.slice A n c] w fun e w'=>∃v,e=.returned v∧w'.ownsRow w.heap.size 5 1 v n xs∧Below w.heap.size w w':=by
 cases A with
 | none =>
   have hn0:n=0:=by
    rcases Nat.eq_zero_or_pos n with h|h
    ·exact h
    ·obtain ⟨b,o,e,_⟩:=hs.2 h
     cases e
   subst hn0
   have HS:=Lib.hid hs.1
   clear hs h1 hn
   have he:∀w:World,(binOp BinOp.eql 24 (Value.slice none 0 c) (Value.slice none 0 0)).run Tryz.prog w=.ok (.bool true) w:=fun w=>by kernel_rfl
   go_enter Tryz.func170,Tryz.ntmps170
   go_wp2_with (fail)
   go_ret
   exact ⟨_,rfl,⟨HS.out,.inl ⟨rfl,rfl⟩⟩,Below.refl _ _⟩
 | some a =>
   have HS:=Lib.hid hs
   have H1:=Lib.hid h1
   clear hs h1
   have he:∀w:World,(binOp BinOp.eql 24 (Value.slice (some a) n c) (Value.slice none 0 0)).run Tryz.prog w=.ok (.bool false) w:=fun w=>by kernel_rfl
   have HB0:=Lib.hid ((Below.refl w.heap.size w).alloc (Nat.le_refl _) (.cells #[] 5))
   have HOW:=Lib.hid ((Row.new w 5 #[]).own (base:=w.heap.size) (size:=1) (n:=0) (cap:=0) (Nat.le_refl _) (Nat.le_refl _) (by decide) rfl)
   have HS0:=Lib.hid (HS.out.below HB0.out)
   go_enter Tryz.func170,Tryz.ntmps170
   go_wp2_with (refine app_sl slB rfl (.tmp 5) (.tmp 6) rfl HOW.out rfl rfl (by simp) HS0.out H1.out (by omega) (by unfold maxLen;omega) (by simp) ?_;intro v2 w2 ho hg;have HO2:=Lib.hid ho;have HB2:=Lib.hid (below_own HB0.out HOW.out hg (by simp));clear ho hg)
   go_ret
   refine ⟨v2,rfl,?_,HB2.out⟩
   have h:=HO2.out
   simpa using h
end bytes
namespace num

open Go.RowKit base obj mem crc bytes
theorem held_at (w:World) (k:Nat) (h1:1≤k) (h2:k≤6):Calls Tryz.prog 169 #[.int .i64 k] w fun e w'=>e=.returned (.int .i64 k)∧w'=w:=by
 go_enter Tryz.func169,Tryz.ntmps169
 go_wp2_with (fail)
 go_ret
 exact ⟨rfl,rfl⟩
theorem put_at (w:World) (A:Option Addr) (n c:Nat) (xs:List Value) (hs:Sl w w.heap.size 1 A n xs) (h1:∀v∈xs,v.oneCell'=true) (hn:n≤100000) (m k:Nat) (hk1:1≤k) (hk2:k≤6) (hm:m < 256 ^ k) :
  Calls Tryz.prog 123 #[.slice A n c,.int .i64 m,.int .i64 k] w fun e w'=>∃v,e=.returned v∧w'.ownsRow w.heap.size 5 1 v (n+k) (xs++(be k m).map (.int .u8))∧Below w.heap.size w w':=by
 have HC:=Lib.hid (clone_own w A n c xs hs h1 (by omega))
 clear hs h1
 go_enter Tryz.func123,Tryz.ntmps123
 go_wp2_with (fail)
 refine (held_at _ k hk1 hk2).mono ?_;rintro e w' ⟨rfl,rfl⟩
 have hle:(m:Int)≤wrap64 (wrap64 (2 ^ (8*k))-1):=by
  have h:(m:Int)≤256 ^ k-1:=by
   have e:((256 ^ k:Nat):Int)=(256:Int) ^ k:=by simp
   rw [←e];omega
  have h6:k=1∨k=2∨k=3∨k=4∨k=5∨k=6:=by omega
  rcases h6 with rfl|rfl|rfl|rfl|rfl|rfl<;>exact Int.le_trans h (by decide +kernel)
 go_wp2_with (fail)
 refine HC.out.mono ?_;rintro e w1 ⟨v,rfl,ho,hb⟩
 have HI:=Lib.hid (And.intro ho hb)
 clear ho hb HC hle
 have HM:=Lib.hid hm
 clear hm
 go_wp2_with (fail)
 go_loopw [8,7] (fun i v wr=>∃r:Nat,r≤k∧i=.int .i64 r∧wr.ownsRow w'.heap.size 5 1 v (n+(k-r)) (xs++((be k m).take (k-r)).map (.int .u8))∧Below w'.heap.size w' wr) (fun i _ _=>(intOf i).toNat)
 case atStart=>exact ⟨k,Nat.le_refl _,rfl,by rw [Nat.sub_self,List.take_zero,List.map_nil,List.append_nil];exact HI.out.1,HI.out.2⟩
 case round =>
  obtain ⟨r,hr,rfl,ho,hb⟩:=hrel
  have HO:=Lib.hid ho;have HB:=Lib.hid hb
  clear ho hb
  by_cases h0:0 < r
  ·have h0':(0:Int) < (r:Int):=by omega
   obtain ⟨d,hd⟩:∃d,d=digit k m (k-r):=⟨_,rfl⟩
   have heb:(m:Int) / 2 ^ (8*(r-1)) % 256=d:=by
    rw [hd]
    unfold digit
    rw [show k-1-(k-r)=r-1 by omega,show (256:Nat)=2 ^ 8 from rfl,←Nat.pow_mul]
    simp
   have hmore:(be k m).take (k-(r-1))=(be k m).take (k-r)++[d]:=by
    rw [show k-(r-1)=(k-r)+1 by omega,List.take_succ_eq_append_getElem (by rw [be_length];omega),hd]
    congr 2
    simp [be]
   have HD:=Lib.hid hmore
   clear hd hmore
   obtain ⟨A2,c2,e2,hc2,_⟩:=own_form HO.out
   have HSZ:=Lib.hid HB.out.size
   subst e2
   go_wp2_with (at_builtin;refine app_new slB rfl (.tmp 25) (.tmp 32) rfl HO.out rfl rfl rfl (by simp [Value.oneCell']) (by omega) (by unfold maxLen;omega) HSZ.out ?_;intro v2 w2 hown2 hg2;have HB2:=Lib.hid (below_own HB.out HO.out hg2 HSZ.out);have HO2:=Lib.hid hown2;clear hg2 hown2)
   go_roundw
   case rel =>
    refine ⟨r-1,by omega,by congr 1;omega,?_,HB2.out⟩
    have h:=HO2.out
    rw [show n+(k-r)+1=n+(k-(r-1)) by omega] at h
    rw [HD.out,List.map_append,←List.append_assoc]
    exact h
   case measure=>simp [intOf];omega
  ·have hr0:r=0:=by omega
   have h0':¬(0:Int) < (r:Int):=by omega
   have HR:=Lib.hid hr0
   clear hr0
   go_wp2_with (fail)
   go_ret
   refine ⟨_,rfl,?_,HB.out⟩
   have h:=HO.out
   rw [HR.out,Nat.sub_zero,List.take_of_length_le (by rw [be_length];exact Nat.le_refl _)] at h
   exact h
end num
namespace sha

def tn (x n:Nat):Nat:=x / 2 ^ n+x % 2 ^ n*2 ^ (32-n)
theorem tn_bit (x n i:Nat) (hx:x < 2 ^ 32) (hn:n < 32) (hi:i < 32):(tn x n).testBit i=x.testBit ((i+n) % 32):=by
 have hb:x / 2 ^ n < 2 ^ (32-n):=by
  rw [Nat.div_lt_iff_lt_mul (Nat.two_pow_pos n),←Nat.pow_add,show 32-n+n=32 by omega]
  exact hx
 unfold tn
 rw [Nat.add_comm,Nat.mul_comm,Nat.testBit_two_pow_mul_add _ hb]
 split
 ·rename_i h
  rw [Nat.testBit_div_two_pow,Nat.mod_eq_of_lt (by omega)]
 ·rename_i h
  rw [Nat.testBit_mod_two_pow,show (i+n) % 32=i-(32-n) by omega]
  simp
  omega
theorem tn_lt (x n:Nat) (hx:x < 2 ^ 32) (hn:n < 32):tn x n < 2 ^ 32:=by
 have hb:x / 2 ^ n < 2 ^ (32-n):=by
  rw [Nat.div_lt_iff_lt_mul (Nat.two_pow_pos n),←Nat.pow_add,show 32-n+n=32 by omega]
  exact hx
 have h2:x % 2 ^ n+1≤2 ^ n:=Nat.mod_lt _ (Nat.two_pow_pos n)
 have h3:(x % 2 ^ n+1)*2 ^ (32-n)≤2 ^ n*2 ^ (32-n):=Nat.mul_le_mul_right _ h2
 rw [←Nat.pow_add,show n+(32-n)=32 by omega,Nat.add_mul,Nat.one_mul] at h3
 unfold tn
 omega
theorem word_ext {a b:Nat} (ha:a < 2 ^ 32) (hb:b < 2 ^ 32) (h:∀i,i < 32→a.testBit i=b.testBit i):a=b:=by
 apply Nat.eq_of_testBit_eq
 intro i
 by_cases hi:i < 32
 ·exact h i hi
 ·have h1:2 ^ 32≤2 ^ i:=Nat.pow_le_pow_right (by omega) (by omega)
  rw [Nat.testBit_lt_two_pow (Nat.lt_of_lt_of_le ha h1),Nat.testBit_lt_two_pow (Nat.lt_of_lt_of_le hb h1)]
theorem tn_or (x n:Nat) (hx:x < 2 ^ 32) (h0:0 < n) (hn:n < 32):(x*2 ^ (32-n)) % 2 ^ 32 ||| x / 2 ^ n=tn x n:=by
 have h1:x / 2 ^ n < 2 ^ 32:=Nat.lt_of_le_of_lt (Nat.div_le_self _ _) hx
 refine word_ext (Nat.or_lt_two_pow (Nat.mod_lt _ (Nat.two_pow_pos 32)) h1) (tn_lt x n hx hn) fun i hi=>?_
 rw [tn_bit x n i hx hn hi,Nat.testBit_or,Nat.testBit_mod_two_pow,Nat.mul_comm,Nat.testBit_two_pow_mul,Nat.testBit_div_two_pow]
 by_cases h:i < 32-n
 ·rw [show (i+n) % 32=i+n by omega]
  simp [hi]
  omega
 ·have h2:x.testBit (i+n)=false:=Nat.testBit_lt_two_pow (Nat.lt_of_lt_of_le hx (Nat.pow_le_pow_right (by omega) (by omega)))
  rw [show (i+n) % 32=i-(32-n) by omega,h2]
  simp [hi]
  omega
theorem xor_lt {a b:Nat} (ha:a < 2 ^ 32) (hb:b < 2 ^ 32):a ^^^ b < 2 ^ 32:=Nat.xor_lt_two_pow ha hb
theorem joined (x p q r:Nat) (hx:x < 2 ^ 32) (hp:p < 32) (hq:q < 32) (hr:r < 32) (h1:q+r < 32) (h2:p+q+r < 32):tn (tn (tn x p ^^^ x) q ^^^ x) r=tn x (p+q+r) ^^^ tn x (q+r) ^^^ tn x r:=by
 have a1:=tn_lt x p hx hp
 have a2:=xor_lt a1 hx
 have a3:=tn_lt _ q a2 hq
 have a4:=xor_lt a3 hx
 refine word_ext (tn_lt _ r a4 hr) (xor_lt (xor_lt (tn_lt x _ hx h2) (tn_lt x _ hx h1)) (tn_lt x r hx hr)) fun i hi=>?_
 rw [tn_bit _ r i a4 hr hi,Nat.testBit_xor,tn_bit _ q _ a2 hq (Nat.mod_lt _ (by omega)),Nat.testBit_xor,tn_bit x p _ hx hp (Nat.mod_lt _ (by omega)),Nat.testBit_xor,Nat.testBit_xor,tn_bit x _ i hx h2 hi,tn_bit x _ i hx h1 hi,tn_bit x r i hx hr hi]
 rw [show (((i+r) % 32+q) % 32+p) % 32=(i+(p+q+r)) % 32 by omega,show ((i+r) % 32+q) % 32=(i+(q+r)) % 32 by omega]
theorem majority (a b c:Nat):((a ||| b) &&& c) ||| (a &&& b)=((a &&& b) ||| (a &&& c)) ||| (b &&& c):=by
 apply Nat.eq_of_testBit_eq
 intro i
 simp only [Nat.testBit_or,Nat.testBit_and]
 cases a.testBit i<;>cases b.testBit i<;>cases c.testBit i<;>rfl
theorem choice (e f g:Nat) (he:e < 2 ^ 32) (hf:f < 2 ^ 32) (hg:g < 2 ^ 32):(((f ^^^ g) &&& e) ^^^ g)=(e &&& f) ||| ((4294967295-e) &&& g):=by
 have hn:4294967295-e < 2 ^ 32:=by omega
 refine word_ext (xor_lt (Nat.and_lt_two_pow _ he) hg) (Nat.or_lt_two_pow (Nat.and_lt_two_pow _ hf) (Nat.and_lt_two_pow _ hg)) fun i hi=>?_
 have hb:(4294967295-e).testBit i=!e.testBit i:=by
  have h:=Nat.testBit_two_pow_sub_succ (n:=32) (x:=e) he i
  rw [show 2 ^ 32-(e+1)=4294967295-e by omega] at h
  rw [h]
  simp [hi]
 simp only [Nat.testBit_or,Nat.testBit_and,Nat.testBit_xor,hb]
 cases e.testBit i<;>cases f.testBit i<;>cases g.testBit i<;>rfl
abbrev M:Nat:=4294967296
structure W8 where
 a:Nat
 b:Nat
 c:Nat
 d:Nat
 e:Nat
 f:Nat
 g:Nat
 h:Nat
def W8.Ok (v:W8):Prop:=v.a < 2 ^ 32∧v.b < 2 ^ 32∧v.c < 2 ^ 32∧v.d < 2 ^ 32∧v.e < 2 ^ 32∧v.f < 2 ^ 32∧v.g < 2 ^ 32∧v.h < 2 ^ 32
def upP (v:W8):Nat:=(tn (tn (tn v.a 9 ^^^ v.a) 11 ^^^ v.a) 2+(((v.a ||| v.b) &&& v.c) ||| (v.a &&& v.b))) % M
def loP (v:W8):Nat:=((v.h+tn (tn (tn v.e 14 ^^^ v.e) 5 ^^^ v.e) 6) % M+(((v.f ^^^ v.g) &&& v.e) ^^^ v.g)) % M
def stepP (v:W8) (wi:Nat):W8 :=
 let x:=(loP v+wi) % M
 ⟨(x+upP v) % M,v.a,v.b,v.c,(v.d+x) % M,v.e,v.f,v.g⟩
def mix (x a b c:Nat):Nat:=tn x a ^^^ tn x b ^^^ tn x c
def stepR (v:W8) (k w:Nat):W8 :=
 let x:=(v.h+mix v.e 6 11 25+((v.e &&& v.f) ||| ((4294967295-v.e) &&& v.g))+k+w) % M
 let y:=(mix v.a 2 13 22+(((v.a &&& v.b) ||| (v.a &&& v.c)) ||| (v.b &&& v.c))) % M
 ⟨(x+y) % M,v.a,v.b,v.c,(v.d+x) % M,v.e,v.f,v.g⟩
theorem mix_turned (x a b c:Nat):tn x c ^^^ tn x b ^^^ tn x a=mix x a b c:=by
 unfold mix
 rw [Nat.xor_comm (tn x c) (tn x b),Nat.xor_assoc,Nat.xor_comm (tn x c) (tn x a),←Nat.xor_assoc,Nat.xor_comm (tn x b) (tn x a)]
theorem step_same (v:W8) (hv:v.Ok) (k w:Nat):stepP v ((k+w) % M)=stepR v k w:=by
 obtain ⟨ha,hb,hc,hd,he,hf,hg,hh⟩:=hv
 have e1:upP v=(mix v.a 2 13 22+(((v.a &&& v.b) ||| (v.a &&& v.c)) ||| (v.b &&& v.c))) % M:=by
  unfold upP
  rw [joined v.a 9 11 2 ha (by omega) (by omega) (by omega) (by omega) (by omega),majority,mix_turned]
 have e2:(loP v+(k+w) % M) % M=(v.h+mix v.e 6 11 25+((v.e &&& v.f) ||| ((4294967295-v.e) &&& v.g))+k+w) % M:=by
  unfold loP
  rw [joined v.e 14 5 6 he (by omega) (by omega) (by omega) (by omega) (by omega),choice v.e v.f v.g he hf hg,mix_turned]
  generalize mix v.e 6 11 25=q
  generalize ((v.e &&& v.f) ||| ((4294967295-v.e) &&& v.g))=r
  simp only [M]
  omega
 unfold stepP stepR
 simp only [e1,e2]
theorem step_ok (v:W8) (hv:v.Ok) (k w:Nat):(stepR v k w).Ok:=by
 obtain ⟨ha,hb,hc,hd,he,hf,hg,hh⟩:=hv
 exact ⟨Nat.mod_lt _ (by decide),ha,hb,hc,Nat.mod_lt _ (by decide),he,hf,hg⟩
end sha
namespace sha

def addAt:Nat→List Nat→Nat→Nat→Nat→List Nat
 | 0,out,_,_,_=>out
 | f+1,out,i,xi,rest=>if rest=0 then out else addAt f (out.set i (out.getD i 0+xi*(rest % 65536))) (i+1) xi (rest / 65536)
def mulAll:List Nat→Nat→Nat→List Nat→List Nat
 | [],_,_,out=>out
 | xi::r,i,m,out=>mulAll r (i+1) m (addAt 64 out i xi m)
def carry:Nat→Nat→List Nat→List Nat
 | 0,_,out=>out
 | f+1,i,out=>if i+1 < out.length then carry f (i+1) ((out.set (i+1) (out.getD (i+1) 0+out.getD i 0 / 65536)).set i (out.getD i 0 % 65536)) else out
def timesL (x:List Nat) (m:Nat):List Nat:=let out:=mulAll x 0 m (List.replicate (x.length+4) 0);carry out.length 0 out
def powL (m:Nat):Nat→List Nat
 | 0=>[1]
 | d+1=>timesL (powL m d) m
def topOf (x:List Nat) (lo:Nat):Nat:=(x.drop lo).foldr (fun y n=>65536*n+y) 0
def fitsL (m p d:Nat):Bool:=let x:=powL m d;let n:=topOf x (2*d);decide (n < p)||(decide (n=p)&&(x.take (2*d)).all (·==0))
def rootAt:Nat→Nat→Nat→Nat→Nat→Nat
 | 0,low,_,_,_=>low % 4294967296
 | f+1,low,high,p,d=>if high-low > 1 then (if fitsL ((low+high) / 2) p d then rootAt f ((low+high) / 2) high p d else rootAt f low ((low+high) / 2) p d) else low % 4294967296
def rootL (p d:Nat):Nat:=rootAt 64 0 (8*4294967296) p d
def primes:List Nat:=[2,3,5,7,11,13,17,19,23,29,31,37,41,43,47,53,59,61,67,71,73,79,83,89,97,101,103,107,109,113,127,131,137,139,149,151,157,163,167,173,179,181,191,193,197,199,211,223,227,229,233,239,241,251,257,263,269,271,277,281,283,293,307,311]
def first8:List Nat:=[0x6a09e667,0xbb67ae85,0x3c6ef372,0xa54ff53a,0x510e527f,0x9b05688c,0x1f83d9ab,0x5be0cd19]
def ks:List Nat:=[0x428a2f98,0x71374491,0xb5c0fbcf,0xe9b5dba5,0x3956c25b,0x59f111f1,0x923f82a4,0xab1c5ed5,
 0xd807aa98,0x12835b01,0x243185be,0x550c7dc3,0x72be5d74,0x80deb1fe,0x9bdc06a7,0xc19bf174,
 0xe49b69c1,0xefbe4786,0x0fc19dc6,0x240ca1cc,0x2de92c6f,0x4a7484aa,0x5cb0a9dc,0x76f988da,
 0x983e5152,0xa831c66d,0xb00327c8,0xbf597fc7,0xc6e00bf3,0xd5a79147,0x06ca6351,0x14292967,
 0x27b70a85,0x2e1b2138,0x4d2c6dfc,0x53380d13,0x650a7354,0x766a0abb,0x81c2c92e,0x92722c85,
 0xa2bfe8a1,0xa81a664b,0xc24b8b70,0xc76c51a3,0xd192e819,0xd6990624,0xf40e3585,0x106aa070,
 0x19a4c116,0x1e376c08,0x2748774c,0x34b0bcb5,0x391c0cb3,0x4ed8aa4a,0x5b9cca4f,0x682e6ff3,
 0x748f82ee,0x78a5636f,0x84c87814,0x8cc70208,0x90befffa,0xa4506ceb,0xbef9a3f7,0xc67178f2]
theorem first_roots:(primes.take 8).map (rootL · 2)=first8:=by decide +kernel
def fitsN (m p d:Nat):Bool:=decide (m ^ d≤p*2 ^ (32*d))
def rootAtN:Nat→Nat→Nat→Nat→Nat→Nat
 | 0,low,_,_,_=>low % 4294967296
 | f+1,low,high,p,d=>if high-low > 1 then (if fitsN ((low+high) / 2) p d then rootAtN f ((low+high) / 2) high p d else rootAtN f low ((low+high) / 2) p d) else low % 4294967296
def rootN (p d:Nat):Nat:=rootAtN 64 0 (8*4294967296) p d
theorem ks_rootsN:primes.map (rootN · 3)=ks:=by decide +kernel
theorem root_eq (p d:Nat) (h:∀m,m < 8*4294967296→fitsL m p d=fitsN m p d):rootL p d=rootN p d:=by
 have key:∀f low high,low≤high→high≤8*4294967296→rootAt f low high p d=rootAtN f low high p d:=by
  intro f
  induction f with
  | zero=>intro low high _ _;rfl
  | succ f ih =>
    intro low high h1 h2
    unfold rootAt rootAtN
    by_cases h3:high-low > 1
    ·rw [if_pos h3,if_pos h3,h ((low+high) / 2) (by omega),ih ((low+high) / 2) high (by omega) h2,ih low ((low+high) / 2) (by omega) (by omega)]
    ·rw [if_neg h3,if_neg h3]
 exact key 64 0 _ (by omega) (by omega)
def sp (x a b c:Nat):Nat:=tn x a ^^^ tn x b ^^^ x / 2 ^ c
theorem next_same (w2 w7 w15 w16:Nat):(((sp w2 17 19 10+sp w15 7 18 3) % M+w7) % M+w16) % M=(w16+sp w15 7 18 3+w7+sp w2 17 19 10) % M:=by
 simp only [M]
 omega
end sha
namespace sha

def valL:List Nat→Nat
 | []=>0
 | y::r=>y+65536*valL r
theorem val_set:∀(l:List Nat) (i z:Nat),i < l.length→valL (l.set i (l.getD i 0+z))=valL l+z*65536 ^ i
 | [],i,z,h=>absurd h (by simp)
 | y::r,0,z,h=>by simp [valL];omega
 | y::r,i+1,z,h=>by
   have ih:=val_set r i z (by simpa using h)
   simp only [List.set_cons_succ,List.getD_cons_succ,valL]
   rw [ih,Nat.mul_add,Nat.pow_succ,Nat.add_assoc]
   congr 2
   rw [←Nat.mul_assoc,Nat.mul_comm 65536 z,Nat.mul_assoc,Nat.mul_comm 65536 (65536 ^ i)]
theorem addAt_len:∀(f:Nat) (out:List Nat) (i xi rest:Nat),(addAt f out i xi rest).length=out.length
 | 0,_,_,_,_=>rfl
 | f+1,out,i,xi,rest=>by
   unfold addAt
   split
   ·rfl
   ·rw [addAt_len]
    simp
theorem addAt_val:∀(k f:Nat) (out:List Nat) (i xi rest:Nat),k < f→rest < 65536 ^ k→i+k≤out.length→valL (addAt f out i xi rest)=valL out+xi*rest*65536 ^ i
 | k,0,_,_,_,_,h,_,_=>absurd h (by omega)
 | 0,f+1,out,i,xi,rest,_,h,_=>by
   obtain rfl:rest=0:=by simpa using h
   unfold addAt
   simp
 | k+1,f+1,out,i,xi,rest,hf,h,hl=>by
   unfold addAt
   by_cases h0:rest=0
   ·rw [if_pos h0,h0]
    simp
   ·rw [if_neg h0,addAt_val k f _ (i+1) xi (rest / 65536) (by omega) (by rw [Nat.div_lt_iff_lt_mul (by omega),←Nat.pow_succ];exact h) (by simp;omega),val_set out i _ (by omega)]
    have e:rest=rest % 65536+65536*(rest / 65536):=(Nat.mod_add_div rest 65536).symm
    generalize rest % 65536=a at e ⊢
    generalize rest / 65536=b at e ⊢
    subst e
    rw [Nat.pow_succ,Nat.add_assoc,Nat.mul_add,Nat.add_mul]
    congr 2
    simp [Nat.mul_assoc,Nat.mul_comm]
theorem mulAll_val (m:Nat) (hm:m < 65536 ^ 3):∀(x:List Nat) (i:Nat) (out:List Nat),i+x.length+2≤out.length→valL (mulAll x i m out)=valL out+valL x*m*65536 ^ i
 | [],i,out,_=>by simp [mulAll,valL]
 | xi::r,i,out,h=>by
   simp only [List.length_cons] at h
   have h1:=addAt_val 3 64 out i xi m (by omega) hm (by omega)
   have ih:=mulAll_val m hm r (i+1) (addAt 64 out i xi m) (by rw [addAt_len];omega)
   simp only [mulAll,valL]
   rw [ih,h1,Nat.add_mul,Nat.add_mul,Nat.add_assoc,Nat.pow_succ]
   congr 2
   rw [Nat.mul_comm (65536 ^ i) 65536,←Nat.mul_assoc,Nat.mul_assoc 65536 (valL r) m,Nat.mul_comm 65536 (valL r*m)]
theorem carry_val:∀(f i:Nat) (out:List Nat),valL (carry f i out)=valL out
 | 0,_,_=>rfl
 | f+1,i,out=>by
   unfold carry
   split
   ·rename_i h
    rw [carry_val f (i+1)]
    have h1:=val_set out (i+1) (out.getD i 0 / 65536) h
    generalize hq:out.set (i+1) (out.getD (i+1) 0+out.getD i 0 / 65536)=o1 at h1 ⊢
    have hl:i < o1.length:=by rw [←hq];simp;omega
    have hg:o1.getD i 0=out.getD i 0:=by
     rw [←hq,List.getD_eq_getElem?_getD,List.getElem?_set_ne (by omega),←List.getD_eq_getElem?_getD]
    have h2:=val_set (o1.set i (out.getD i 0 % 65536)) i (out.getD i 0 / 65536*65536) (by simpa using hl)
    have e1:(o1.set i (out.getD i 0 % 65536)).getD i 0=out.getD i 0 % 65536:=by
     rw [List.getD_eq_getElem?_getD,List.getElem?_set_self hl]
     rfl
    have e2:out.getD i 0 % 65536+out.getD i 0 / 65536*65536=o1.getD i 0:=by rw [hg,Nat.mul_comm];exact Nat.mod_add_div _ _
    rw [e1,e2,List.set_set] at h2
    have e3:o1.set i (o1.getD i 0)=o1:=by
     rw [List.getD_eq_getElem?_getD,List.getElem?_eq_getElem hl]
     exact List.set_getElem_self hl
    rw [e3,h1,Nat.pow_succ] at h2
    have e4:out.getD i 0 / 65536*(65536 ^ i*65536)=out.getD i 0 / 65536*65536*65536 ^ i:=by rw [Nat.mul_assoc,Nat.mul_comm 65536 (65536 ^ i)]
    rw [e4] at h2
    omega
   ·rfl
theorem val_zero (n:Nat):valL (List.replicate n 0)=0:=by
 induction n with
 | zero=>rfl
 | succ n ih=>rw [List.replicate_succ,valL,ih]
theorem times_val (x:List Nat) (m:Nat) (hm:m < 65536 ^ 3):valL (timesL x m)=valL x*m:=by
 unfold timesL
 simp only
 rw [carry_val,mulAll_val m hm x 0 _ (by simp),val_zero]
 simp
theorem pow_val (m:Nat) (hm:m < 65536 ^ 3):∀d,valL (powL m d)=m ^ d
 | 0=>rfl
 | d+1=>by rw [powL,times_val _ _ hm,pow_val m hm d,Nat.pow_succ]
theorem getD_set (l:List Nat) (i j z:Nat):(l.set i z).getD j 0=if i=j∧j < l.length then z else l.getD j 0:=by
 rw [List.getD_eq_getElem?_getD,List.getD_eq_getElem?_getD,List.getElem?_set]
 by_cases h:i=j
 ·subst h
  by_cases h2:i < l.length
  ·simp [h2]
  ·simp [h2]
 ·simp [h]
theorem carry_low:∀(f i:Nat) (out:List Nat),out.length≤i+f+1→(∀j,j < i→out.getD j 0 < 65536)→∀j,j+1 < out.length→(carry f i out).getD j 0 < 65536
 | 0,i,out,h1,h2,j,hj=>h2 j (by omega)
 | f+1,i,out,h1,h2,j,hj=>by
   unfold carry
   split
   ·rename_i h
    refine carry_low f (i+1) _ (by simp;omega) (fun k hk=>?_) j (by simpa using hj)
    rw [getD_set,getD_set]
    by_cases h3:i=k
    ·subst h3
     rw [if_pos ⟨rfl,by simp;omega⟩]
     exact Nat.mod_lt _ (by omega)
    ·rw [if_neg (fun h=>h3 h.1),if_neg (fun h=>by omega)]
     exact h2 k (by omega)
   ·exact h2 j (by omega)
theorem carry_len:∀(f i:Nat) (out:List Nat),(carry f i out).length=out.length
 | 0,_,_=>rfl
 | f+1,i,out=>by
   unfold carry
   split
   ·rw [carry_len]
    simp
   ·rfl
theorem mulAll_len (m:Nat):∀(x:List Nat) (i:Nat) (out:List Nat),(mulAll x i m out).length=out.length
 | [],_,_=>rfl
 | xi::r,i,out=>by rw [mulAll,mulAll_len,addAt_len]
theorem times_len (x:List Nat) (m:Nat):(timesL x m).length=x.length+4:=by
 unfold timesL
 simp only
 rw [carry_len,mulAll_len,List.length_replicate]
theorem times_low (x:List Nat) (m j:Nat) (hj:j < x.length+3):(timesL x m).getD j 0 < 65536:=by
 unfold timesL
 simp only
 exact carry_low _ 0 _ (by omega) (fun k hk=>absurd hk (by omega)) j (by rw [mulAll_len,List.length_replicate];omega)
theorem val_split:∀(n:Nat) (l:List Nat),n≤l.length→valL l=valL (l.take n)+65536 ^ n*valL (l.drop n)
 | 0,l,_=>by simp [valL]
 | n+1,[],h=>absurd h (by simp)
 | n+1,y::r,h=>by
   have ih:=val_split n r (by simpa using h)
   simp only [List.take_succ_cons,List.drop_succ_cons,valL]
   rw [ih,Nat.mul_add,Nat.pow_succ,Nat.add_assoc,Nat.mul_comm (65536 ^ n) 65536,Nat.mul_assoc]
theorem val_lt:∀(l:List Nat),(∀y∈l,y < 65536)→valL l < 65536 ^ l.length
 | [],_=>by simp [valL]
 | y::r,h=>by
   have ih:=val_lt r (fun z hz=>h z (by simp [hz]))
   have hy:=h y (by simp)
   simp only [valL,List.length_cons]
   rw [Nat.pow_succ]
   omega
theorem val_null:∀(l:List Nat),valL l=0 ↔ l.all (·==0)=true
 | []=>by simp [valL]
 | y::r=>by
   have ih:=val_null r
   simp only [valL,List.all_cons,Bool.and_eq_true,beq_iff_eq]
   rw [←ih]
   omega
theorem top_eq (l:List Nat) (n:Nat):topOf l n=valL (l.drop n):=by
 unfold topOf
 generalize l.drop n=r
 induction r with
 | nil=>rfl
 | cons y r ih=>rw [List.foldr_cons,ih,valL,Nat.add_comm]
theorem fits_of (l:List Nat) (n p:Nat) (hn:n≤l.length) (hl:∀j,j < n→l.getD j 0 < 65536):(decide (topOf l n < p)||(decide (topOf l n=p)&&(l.take n).all (·==0)))=decide (valL l≤p*65536 ^ n):=by
 have h1:=val_split n l hn
 have h2:valL (l.take n) < 65536 ^ n:=by
  have:=val_lt (l.take n) (fun y hy=>by
   obtain ⟨j,hj,rfl⟩:=List.mem_iff_getElem.1 hy
   have hj2:j < n:=by rw [List.length_take] at hj;omega
   have:=hl j hj2
   rw [List.getD_eq_getElem?_getD,List.getElem?_eq_getElem (by omega)] at this
   rw [List.getElem_take]
   exact this)
  rwa [List.length_take,Nat.min_eq_left hn] at this
 rw [top_eq,h1]
 rw [Bool.eq_iff_iff]
 simp only [Bool.or_eq_true,Bool.and_eq_true,decide_eq_true_eq]
 rw [←val_null]
 generalize valL (l.take n)=a at h2 ⊢
 generalize valL (l.drop n)=b
 generalize 65536 ^ n=B at h2 ⊢
 constructor
 ·rintro (h|⟨rfl,rfl⟩)
  ·have h3:B*(b+1)≤B*p:=Nat.mul_le_mul_left B h
   rw [Nat.mul_add,Nat.mul_one] at h3
   rw [Nat.mul_comm p B]
   omega
  ·rw [Nat.mul_comm b B]
   omega
 ·intro h
  rw [Nat.mul_comm p B] at h
  rcases Nat.lt_trichotomy b p with h3|h3|h3
  ·exact .inl h3
  ·subst h3
   exact .inr ⟨rfl,by omega⟩
  ·have h4:B*(p+1)≤B*b:=Nat.mul_le_mul_left B h3
   rw [Nat.mul_add,Nat.mul_one] at h4
   omega
theorem pow_len (m:Nat):∀d,(powL m d).length=4*d+1
 | 0=>rfl
 | d+1=>by rw [powL,times_len,pow_len m d];omega
theorem fits_same (m p d:Nat) (hm:m < 65536 ^ 3):fitsL m p (d+1)=fitsN m p (d+1):=by
 have h:=fits_of (powL m (d+1)) (2*(d+1)) p (by rw [pow_len];omega) (fun j hj=>by
  rw [powL]
  exact times_low _ _ j (by rw [pow_len];omega))
 rw [pow_val m hm] at h
 unfold fitsL fitsN
 simp only
 rw [h,show (65536:Nat)=2 ^ 16 from rfl,←Nat.pow_mul,show 16*(2*(d+1))=32*(d+1) by omega]
theorem root_same (p d:Nat):rootL p (d+1)=rootN p (d+1):=root_eq p (d+1) fun m hm=>fits_same m p d (by omega)
theorem ks_roots:primes.map (rootL · 3)=ks:=by
 rw [show (fun x=>rootL x 3)=(fun x=>rootN x 3) from funext fun x=>root_same x 2]
 exact ks_rootsN
end sha
namespace sha

open num crc
def byt (b:List Int) (i:Nat):Nat:=(b.getD i 0).toNat
def wd (b:List Int) (i:Nat):Nat:=byt b (4*i)*16777216+byt b (4*i+1)*65536+byt b (4*i+2)*256+byt b (4*i+3)
def wx (w:List Nat):Nat:=(w.getD (w.length-16) 0+sp (w.getD (w.length-15) 0) 7 18 3+w.getD (w.length-7) 0+sp (w.getD (w.length-2) 0) 17 19 10) % M
def wUp (b:List Int):Nat→List Nat
 | 0=>[]
 | i+1=>wUp b i++[if i < 16 then wd b i else wx (wUp b i)]
theorem wUp_len (b:List Int):∀i,(wUp b i).length=i
 | 0=>rfl
 | i+1=>by simp [wUp,wUp_len b i]
theorem byt_lt {b:List Int} (hb:Byt b) (i:Nat):byt b i < 256:=by
 unfold byt
 by_cases h:i < b.length
 ·rw [List.getD_eq_getElem?_getD,List.getElem?_eq_getElem h]
  have:=hb b[i] (List.getElem_mem h)
  simp only [Option.getD_some]
  omega
 ·rw [List.getD_eq_getElem?_getD,List.getElem?_eq_none (by omega)]
  simp
theorem wd_lt {b:List Int} (hb:Byt b) (i:Nat):wd b i < 2 ^ 32:=by
 have h1:=byt_lt hb (4*i);have h2:=byt_lt hb (4*i+1);have h3:=byt_lt hb (4*i+2);have h4:=byt_lt hb (4*i+3)
 unfold wd
 omega
theorem wUp_lt {b:List Int} (hb:Byt b):∀i,∀x∈wUp b i,x < 2 ^ 32
 | 0=>by simp [wUp]
 | i+1=>by
   intro x hx
   rcases List.mem_append.1 hx with h|h
   ·exact wUp_lt hb i x h
   ·rw [List.mem_singleton.1 h]
    split
    ·exact wd_lt hb i
    ·exact Nat.mod_lt _ (by decide)
def rnd (v:W8) (w:List Nat):Nat→W8
 | 0=>v
 | i+1=>stepR (rnd v w i) (ks.getD i 0) (w.getD i 0)
def plus (v u:W8):W8:=⟨(v.a+u.a) % M,(v.b+u.b) % M,(v.c+u.c) % M,(v.d+u.d) % M,(v.e+u.e) % M,(v.f+u.f) % M,(v.g+u.g) % M,(v.h+u.h) % M⟩
def comp (v:W8) (b:List Int):W8:=plus v (rnd v (wUp b 64) 64)
theorem rnd_ok {v:W8} (hv:v.Ok) (w:List Nat):∀i,(rnd v w i).Ok
 | 0=>hv
 | i+1=>step_ok _ (rnd_ok hv w i) _ _
theorem comp_ok (v:W8) (b:List Int):(comp v b).Ok:=by
 refine ⟨?_,?_,?_,?_,?_,?_,?_,?_⟩<;>exact Nat.mod_lt _ (by decide)
structure HS where
 v:W8
 part:List Int
 n:Nat
def HS.put (h:HS) (c:Int):HS:=if (h.n+1) % 64=0 then ⟨comp h.v (h.part.set (h.n % 64) c),h.part.set (h.n % 64) c,h.n+1⟩ else ⟨h.v,h.part.set (h.n % 64) c,h.n+1⟩
def HS.write (h:HS) (l:List Int):HS:=l.foldl HS.put h
def first:W8:=⟨0x6a09e667,0xbb67ae85,0x3c6ef372,0xa54ff53a,0x510e527f,0x9b05688c,0x1f83d9ab,0x5be0cd19⟩
theorem first_ok:first.Ok:=by unfold first W8.Ok;decide
def h0:HS:=⟨first,List.replicate 64 0,0⟩
def HS.Ok (h:HS):Prop:=h.v.Ok∧h.part.length=64∧Byt h.part
theorem h0_ok:h0.Ok:=⟨first_ok,by simp [h0],fun z hz=>by rw [(List.mem_replicate.1 hz).2];omega⟩
theorem put_ok {h:HS} (hh:h.Ok) {c:Int} (h1:0≤c) (h2:c≤255):(h.put c).Ok:=by
 have hb:Byt (h.part.set (h.n % 64) c):=fun z hz=>by
  rcases List.mem_or_eq_of_mem_set hz with k|k
  ·exact hh.2.2 z k
  ·rw [k];exact ⟨h1,h2⟩
 unfold HS.put
 split
 ·exact ⟨comp_ok _ _,by simp [hh.2.1],hb⟩
 ·exact ⟨hh.1,by simp [hh.2.1],hb⟩
theorem put_n (h:HS) (c:Int):(h.put c).n=h.n+1:=by unfold HS.put;split<;>rfl
theorem write_n (l:List Int):∀h:HS,(h.write l).n=h.n+l.length:=by
 induction l with
 | nil=>intro h;rfl
 | cons c l ih=>intro h;rw [show h.write (c::l)=(h.put c).write l from rfl,ih,put_n];simp;omega
theorem write_ok (l:List Int):∀h:HS,h.Ok→Byt l→(h.write l).Ok:=by
 induction l with
 | nil=>intro h hh _;exact hh
 | cons c l ih=>intro h hh hb;exact ih _ (put_ok hh (hb c (by simp)).1 (hb c (by simp)).2) fun z hz=>hb z (by simp [hz])
theorem write_append (h:HS) (a b:List Int):h.write (a++b)=(h.write a).write b:=by simp [HS.write]
theorem write_snoc (h:HS) (a:List Int) (c:Int):h.write (a++[c])=(h.write a).put c:=by simp [HS.write]
theorem write_part (h:HS) (hl:h.part.length=64) (hn:h.n % 64=0) (c:List Int):∀j,j < 64→j≤c.length→h.write (c.take j)=⟨h.v,c.take j++h.part.drop j,h.n+j⟩:=by
 intro j
 induction j with
 | zero=>intro _ _;simp [HS.write]
 | succ j ih =>
   intro h1 h2
   have hj:j < c.length:=by omega
   rw [List.take_succ_eq_append_getElem hj,write_snoc,ih (by omega) (by omega)]
   have e1:(h.n+j) % 64=j:=by omega
   have e2:¬(h.n+j+1) % 64=0:=by omega
   simp only [HS.put,e1,e2,if_false]
   have hd:h.part.drop j=h.part[j]'(by omega)::h.part.drop (j+1):=List.drop_eq_getElem_cons (by omega)
   rw [List.set_append_right _ _ (by simp;omega)]
   have e3:j-(c.take j).length=0:=by simp;omega
   rw [e3,hd,List.set_cons_zero]
   simp only [List.append_assoc,List.singleton_append,Nat.add_assoc]
theorem write_block (h:HS) (hl:h.part.length=64) (hn:h.n % 64=0) (c:List Int) (hc:c.length=64):h.write c=⟨comp h.v c,c,h.n+64⟩:=by
 have e:c=c.take 63++[c[63]]:=by
  have:=List.take_succ_eq_append_getElem (l:=c) (i:=63) (by omega)
  rw [←this,List.take_of_length_le (by omega)]
 have hp:(c.take 63++h.part.drop 63).set 63 c[63]=c:=by
  have hd:h.part.drop 63=h.part[63]'(by omega)::h.part.drop 64:=List.drop_eq_getElem_cons (by omega)
  rw [List.set_append_right _ _ (by simp;omega)]
  have e3:63-(c.take 63).length=0:=by simp;omega
  rw [e3,hd,List.set_cons_zero,List.drop_of_length_le (by omega)]
  exact e.symm
 have e4:h.write c=(h.write (c.take 63)).put c[63]:=by
  rw [←write_snoc,←e]
 rw [e4,write_part h hl hn c 63 (by omega) (by omega)]
 have e1:(h.n+63) % 64=63:=by omega
 have e2:(h.n+63+1) % 64=0:=by omega
 simp only [HS.put,e1,e2,if_true,hp]
def cf (t:List Int):Nat→W8
 | 0=>first
 | m+1=>comp (cf t m) ((t.drop (64*m)).take 64)
theorem write_blocks (t:List Int):∀m,64*m≤t.length→∃p,p.length=64∧h0.write (t.take (64*m))=⟨cf t m,p,64*m⟩
 | 0,_=>⟨List.replicate 64 0,by simp,by simp [HS.write,h0,cf]⟩
 | m+1,h=>by
   obtain ⟨p,hp,e⟩:=write_blocks t m (by omega)
   refine ⟨(t.drop (64*m)).take 64,by simp;omega,?_⟩
   rw [show 64*(m+1)=64*m+64 by omega,List.take_add,write_append,e,write_block ⟨cf t m,p,64*m⟩ hp (by simp) ((t.drop (64*m)).take 64) (by simp;omega)]
   rfl
def padL (l:List Int):List Int:=l++[128]++List.replicate ((119-l.length % 64) % 64) 0++be 8 (8*l.length)
theorem padL_len (l:List Int):(padL l).length=64*((l.length+72) / 64):=by
 simp only [padL,List.length_append,List.length_replicate,be_length,List.length_singleton]
 omega
def outL (v:W8):List Int:=be 4 v.a++be 4 v.b++be 4 v.c++be 4 v.d++be 4 v.e++be 4 v.f++be 4 v.g++be 4 v.h
def dig (l:List Int):List Int:=outL (cf (padL l) ((l.length+72) / 64))
theorem outL_len (v:W8):(outL v).length=32:=by simp [outL,be_length]
theorem outL_byt (v:W8):Byt (outL v):=by
 intro z hz
 simp only [outL,List.mem_append] at hz
 rcases hz with ((((((hz|hz)|hz)|hz)|hz)|hz)|hz)|hz<;>exact be_byt _ _ z hz
theorem dig_len (l:List Int):(dig l).length=32:=outL_len _
theorem dig_byt (l:List Int):Byt (dig l):=outL_byt _
theorem dig_eq (l:List Int):outL (h0.write (padL l)).v=dig l:=by
 obtain ⟨p,hp,e⟩:=write_blocks (padL l) ((l.length+72) / 64) (by rw [padL_len];omega)
 rw [List.take_of_length_le (by rw [padL_len];omega)] at e
 rw [e]
 rfl
end sha
namespace sha

def All (l:List Nat) (b:Nat):Prop:=∀y∈l,y < b
theorem All.get {l:List Nat} {b:Nat} (h:All l b) (hb:0 < b) (i:Nat):l.getD i 0 < b:=by
 by_cases hi:i < l.length
 ·rw [List.getD_eq_getElem?_getD,List.getElem?_eq_getElem hi]
  exact h _ (List.getElem_mem hi)
 ·rw [List.getD_eq_getElem?_getD,List.getElem?_eq_none (by omega)]
  exact hb
theorem All.set {l:List Nat} {b z:Nat} (h:All l b) (hz:z < b) (i:Nat):All (l.set i z) b:=fun y hy=>by
 rcases List.mem_or_eq_of_mem_set hy with k|k
 ·exact h y k
 ·rw [k];exact hz
theorem All.mono {l:List Nat} {b c:Nat} (h:All l b) (hc:b≤c):All l c:=fun y hy=>Nat.lt_of_lt_of_le (h y hy) hc
theorem val_ge:∀(l:List Nat) (i:Nat),l.getD i 0*65536 ^ i≤valL l
 | [],i=>by simp
 | x::r,0=>by simp [valL]
 | x::r,i+1=>by
   have:=val_ge r i
   simp only [valL,List.getD_cons_succ,Nat.pow_succ]
   rw [Nat.mul_comm (65536 ^ i),←Nat.mul_assoc,Nat.mul_right_comm]
   omega
theorem times_all {x:List Nat} (hx:All x 65536) {m:Nat} (hm:m < 65536 ^ 3):All (timesL x m) 65536:=by
 intro y hy
 obtain ⟨i,hi,rfl⟩:=List.mem_iff_getElem.1 hy
 have e:(timesL x m)[i]=(timesL x m).getD i 0:=by rw [List.getD_eq_getElem?_getD,List.getElem?_eq_getElem hi];rfl
 rw [e]
 rw [times_len] at hi
 by_cases h:i < x.length+3
 ·exact times_low x m i h
 ·have h1:=val_ge (timesL x m) i
  rw [times_val x m hm] at h1
  have h2:=val_lt x hx
  have h3:valL x*m < 65536 ^ x.length*65536 ^ 3:=Nat.mul_lt_mul'' h2 hm
  rw [←Nat.pow_add,show x.length+3=i by omega] at h3
  have h4:(timesL x m).getD i 0*65536 ^ i < 1*65536 ^ i:=by omega
  have:=Nat.lt_of_mul_lt_mul_right h4
  omega
theorem pow_all {m:Nat} (hm:m < 65536 ^ 3):∀d,All (powL m d) 65536
 | 0=>by intro y hy;rw [List.mem_singleton.1 hy];omega
 | d+1=>times_all (pow_all hm d) hm
theorem top_step (x:List Nat) (i:Nat) (hi:i < x.length):topOf x i=65536*topOf x (i+1)+x.getD i 0:=by
 unfold topOf
 rw [List.drop_eq_getElem_cons hi,List.foldr_cons,List.getD_eq_getElem?_getD,List.getElem?_eq_getElem hi]
 rfl
theorem top_end (x:List Nat) (i:Nat) (hi:x.length≤i):topOf x i=0:=by
 unfold topOf
 rw [List.drop_of_length_le hi]
 rfl
theorem top_mono (x:List Nat):∀k i,topOf x (i+k)≤topOf x i
 | 0,i=>Nat.le_refl _
 | k+1,i=>by
   have h1:=top_mono x k (i+1)
   rw [show i+1+k=i+(k+1) by omega] at h1
   by_cases hi:i < x.length
   ·have:=top_step x i hi
    omega
   ·rw [top_end x (i+(k+1)) (by omega)]
    omega
theorem fits_over (m p d i:Nat) (hi:2*d≤i) (h:p < topOf (powL m d) i):fitsL m p d=false:=by
 have h1:=top_mono (powL m d) (i-2*d) (2*d)
 rw [show 2*d+(i-2*d)=i by omega] at h1
 unfold fitsL
 have e1:¬topOf (powL m d) (2*d) < p:=by omega
 have e2:¬topOf (powL m d) (2*d)=p:=by omega
 simp [e1,e2]
theorem fits_under (m p d:Nat) (h:topOf (powL m d) (2*d) < p):fitsL m p d=true:=by
 unfold fitsL
 simp [h]
theorem fits_even (m p d:Nat) (h:topOf (powL m d) (2*d)=p):fitsL m p d=((powL m d).take (2*d)).all (·==0):=by
 unfold fitsL
 simp [h]
theorem rootAt_step (f low high p d:Nat) (h:high-low > 1):rootAt (f+1) low high p d=if fitsL ((low+high) / 2) p d then rootAt f ((low+high) / 2) high p d else rootAt f low ((low+high) / 2) p d:=by
 rw [rootAt,if_pos h]
theorem rootAt_end (f low high p d:Nat) (h:¬high-low > 1):rootAt f low high p d=low % 4294967296:=by
 cases f with
 | zero=>rfl
 | succ f=>rw [rootAt,if_neg h]
def pl (n:Nat):List Nat:=primes.filter (· < n)
theorem pl_all:∀n,n < 312→2≤n→(pl n).all (fun q=>decide (n % q≠0))=decide (n∈primes):=by decide +kernel
theorem pl_next:∀n,n < 312→2≤n→pl (n+1)=if n∈primes then pl n++[n] else pl n:=by decide +kernel
theorem pl_len:∀n,n < 313→(pl n).length≤64∧((pl n).length < 64→n < 312)∧((pl n).length=64→pl n=primes):=by decide +kernel
theorem pl_pos (n:Nat):∀q∈pl n,2≤q∧q < 312:=fun q hq=>by
 have h1:q∈primes:=(List.mem_filter.1 hq).1
 have h2:∀q∈primes,2≤q∧q < 312:=by decide
 exact h2 q h1
end sha
end Go.Proofs.YtdldkkoplgkloaaGreat
