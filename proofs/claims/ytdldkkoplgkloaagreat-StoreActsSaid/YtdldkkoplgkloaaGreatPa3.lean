/- PROVED HERE: lemmas of the law. CONDITIONS: each names its own. -/
import Derived.KernelRfl
import Derived.Test.YtdldkkoplgkloaaGreatPa0
import Derived.Test.YtdldkkoplgkloaaGreatPa1
import Derived.Test.YtdldkkoplgkloaaGreatPa2
namespace Go.Proofs.YtdldkkoplgkloaaGreat
set_option linter.unusedVariables false
set_option linter.unusedSimpArgs false
set_option maxRecDepth 100000
set_option maxHeartbeats 32000000
open Go.Value renaming int → ae
open Go.IntKind renaming i64 → aa
namespace fZ
section
variable {a b:Nat}
def tn (x n:Nat):Nat:=x / 2 ^ n+x % 2 ^ n*2 ^ (32-n)
theorem vU (x n i:Nat) (hx:x < 2 ^ 32) (hn:n < 32) (hi:i < 32):(tn x n).testBit i=x.testBit ((i+n) % 32):=by
 have hb:x / 2 ^ n < 2 ^ (32-n):=by
  rw [Nat.div_lt_iff_lt_mul (Nat.two_pow_pos n),←Nat.pow_add,show 32-n+n=32 by omega];exact hx
 unfold tn;rw [Nat.add_comm,Nat.mul_comm,Nat.testBit_two_pow_mul_add _ hb];split
 ·rename_i h
  rw [Nat.testBit_div_two_pow,Nat.mod_eq_of_lt (by omega)]
 ·rename_i h
  rw [Nat.testBit_mod_two_pow,show (i+n) % 32=i-(32-n) by omega];simp;omega
theorem eT (x n:Nat) (hx:x < 2 ^ 32) (hn:n < 32):tn x n < 2 ^ 32:=by
 have hb:x / 2 ^ n < 2 ^ (32-n):=by
  rw [Nat.div_lt_iff_lt_mul (Nat.two_pow_pos n),←Nat.pow_add,show 32-n+n=32 by omega];exact hx
 have h2:x % 2 ^ n+1≤2 ^ n:=Nat.mod_lt _ (Nat.two_pow_pos n);have h3:(x % 2 ^ n+1)*2 ^ (32-n)≤2 ^ n*2 ^ (32-n):=Nat.mul_le_mul_right _ h2;rw [←Nat.pow_add,show n+(32-n)=32 by omega,Nat.add_mul,Nat.one_mul] at h3;unfold tn;omega
theorem Ea (ha:a < 2 ^ 32) (hb:b < 2 ^ 32) (h:∀i,i < 32→a.testBit i=b.testBit i):a=b:=by
 apply Nat.eq_of_testBit_eq;intro i;by_cases hi:i < 32
 ·exact h i hi
 ·have h1:2 ^ 32≤2 ^ i:=Nat.pow_le_pow_right (by omega) (by omega);rw [Nat.testBit_lt_two_pow (Nat.lt_of_lt_of_le ha h1),Nat.testBit_lt_two_pow (Nat.lt_of_lt_of_le hb h1)]
theorem abr (x n:Nat) (hx:x < 2 ^ 32) (h0:0 < n) (hn:n < 32):(x*2 ^ (32-n)) % 2 ^ 32 ||| x / 2 ^ n=tn x n:=by
 have h1:x / 2 ^ n < 2 ^ 32:=Nat.lt_of_le_of_lt (Nat.div_le_self _ _) hx;refine Ea (Nat.or_lt_two_pow (Nat.mod_lt _ (Nat.two_pow_pos 32)) h1) (eT x n hx hn) fun i hi=>?_;rw [vU x n i hx hn hi,Nat.testBit_or,Nat.testBit_mod_two_pow,Nat.mul_comm,Nat.testBit_two_pow_mul,Nat.testBit_div_two_pow];by_cases h:i < 32-n
 ·rw [show (i+n) % 32=i+n by omega];simp [hi];omega
 ·have h2:x.testBit (i+n)=false:=Nat.testBit_lt_two_pow (Nat.lt_of_lt_of_le hx (Nat.pow_le_pow_right (by omega) (by omega)));rw [show (i+n) % 32=i-(32-n) by omega,h2];simp [hi];omega
theorem gM (ha:a < 2 ^ 32) (hb:b < 2 ^ 32):a ^^^ b < 2 ^ 32:=Nat.xor_lt_two_pow ha hb
theorem Se (x p q r:Nat) (hx:x < 2 ^ 32) (hp:p < 32) (hq:q < 32) (hr:r < 32) (h1:q+r < 32) (h2:p+q+r < 32):tn (tn (tn x p ^^^ x) q ^^^ x) r=tn x (p+q+r) ^^^ tn x (q+r) ^^^ tn x r:=by
 have a1:=eT x p hx hp;have a2:=gM a1 hx;have a3:=eT _ q a2 hq;have a4:=gM a3 hx;refine Ea (eT _ r a4 hr) (gM (gM (eT x _ hx h2) (eT x _ hx h1)) (eT x r hx hr)) fun i hi=>?_;rw [vU _ r i a4 hr hi,Nat.testBit_xor,vU _ q _ a2 hq (Nat.mod_lt _ (by omega)),Nat.testBit_xor,vU x p _ hx hp (Nat.mod_lt _ (by omega)),Nat.testBit_xor,Nat.testBit_xor,vU x _ i hx h2 hi,vU x _ i hx h1 hi,vU x r i hx hr hi];rw [show (((i+r) % 32+q) % 32+p) % 32=(i+(p+q+r)) % 32 by omega,show ((i+r) % 32+q) % 32=(i+(q+r)) % 32 by omega]
theorem Vq (a b c:Nat):((a ||| b) &&& c) ||| (a &&& b)=((a &&& b) ||| (a &&& c)) ||| (b &&& c):=by
 apply Nat.eq_of_testBit_eq;intro i;simp only [Nat.testBit_or,Nat.testBit_and];cases a.testBit i<;>cases b.testBit i<;>cases c.testBit i<;>rfl
theorem choice (e f g:Nat) (he:e < 2 ^ 32) (hf:f < 2 ^ 32) (hg:g < 2 ^ 32):(((f ^^^ g) &&& e) ^^^ g)=(e &&& f) ||| ((4294967295-e) &&& g):=by
 have hn:4294967295-e < 2 ^ 32:=by omega
 refine Ea (gM (Nat.and_lt_two_pow _ he) hg) (Nat.or_lt_two_pow (Nat.and_lt_two_pow _ hf) (Nat.and_lt_two_pow _ hg)) fun i hi=>?_
 have hb:(4294967295-e).testBit i=!e.testBit i:=by
  have h:=Nat.testBit_two_pow_sub_succ (n:=32) (x:=e) he i;rw [show 2 ^ 32-(e+1)=4294967295-e by omega] at h;rw [h];simp [hi]
 simp only [Nat.testBit_or,Nat.testBit_and,Nat.testBit_xor,hb];cases e.testBit i<;>cases f.testBit i<;>cases g.testBit i<;>rfl
abbrev M:Nat:=4294967296
structure W8 where
 a:Nat
 b:Nat
 c:Nat
 d:Nat
 e:Nat
 f:Nat
 g:Nat
 h:Nat
def W8.Ok (v:W8):Prop:=v.a < 2 ^ 32∧v.b < 2 ^ 32∧v.c < 2 ^ 32∧v.d < 2 ^ 32∧v.e < 2 ^ 32∧v.f < 2 ^ 32∧v.g < 2 ^ 32∧v.h < 2 ^ 32
def upP (v:W8):Nat:=(tn (tn (tn v.a 9 ^^^ v.a) 11 ^^^ v.a) 2+(((v.a ||| v.b) &&& v.c) ||| (v.a &&& v.b))) % M
def loP (v:W8):Nat:=((v.h+tn (tn (tn v.e 14 ^^^ v.e) 5 ^^^ v.e) 6) % M+(((v.f ^^^ v.g) &&& v.e) ^^^ v.g)) % M
def E6 (v:W8) (wi:Nat):W8 :=
 let x:=(loP v+wi) % M
 ⟨(x+upP v) % M,v.a,v.b,v.c,(v.d+x) % M,v.e,v.f,v.g⟩
def mix (x a b c:Nat):Nat:=tn x a ^^^ tn x b ^^^ tn x c
def CJ (v:W8) (k w:Nat):W8 :=
 let x:=(v.h+mix v.e 6 11 25+((v.e &&& v.f) ||| ((4294967295-v.e) &&& v.g))+k+w) % M
 let y:=(mix v.a 2 13 22+(((v.a &&& v.b) ||| (v.a &&& v.c)) ||| (v.b &&& v.c))) % M
 ⟨(x+y) % M,v.a,v.b,v.c,(v.d+x) % M,v.e,v.f,v.g⟩
theorem Fp (x a b c:Nat):tn x c ^^^ tn x b ^^^ tn x a=mix x a b c:=by
 unfold mix;rw [Nat.xor_comm (tn x c) (tn x b),Nat.xor_assoc,Nat.xor_comm (tn x c) (tn x a),←Nat.xor_assoc,Nat.xor_comm (tn x b) (tn x a)]
theorem Q7 (v:W8) (hv:v.Ok) (k w:Nat):E6 v ((k+w) % M)=CJ v k w:=by
 obtain ⟨ha,hb,hc,hd,he,hf,hg,hh⟩:=hv
 have e1:upP v=(mix v.a 2 13 22+(((v.a &&& v.b) ||| (v.a &&& v.c)) ||| (v.b &&& v.c))) % M:=by
  unfold upP;rw [Se v.a 9 11 2 ha (by omega) (by omega) (by omega) (by omega) (by omega),Vq,Fp]
 have e2:(loP v+(k+w) % M) % M=(v.h+mix v.e 6 11 25+((v.e &&& v.f) ||| ((4294967295-v.e) &&& v.g))+k+w) % M:=by
  unfold loP;rw [Se v.e 14 5 6 he (by omega) (by omega) (by omega) (by omega) (by omega),choice v.e v.f v.g he hf hg,Fp];generalize mix v.e 6 11 25=q;generalize ((v.e &&& v.f) ||| ((4294967295-v.e) &&& v.g))=r;simp only [M];omega
 unfold E6 CJ;simp only [e1,e2]
theorem XQ (v:W8) (hv:v.Ok) (k w:Nat):(CJ v k w).Ok:=by
 obtain ⟨ha,hb,hc,hd,he,hf,hg,hh⟩:=hv;exact ⟨Nat.mod_lt _ (by decide),ha,hb,hc,Nat.mod_lt _ (by decide),he,hf,hg⟩
end
def ow:Nat→List Nat→Nat→Nat→Nat→List Nat
 | 0,out,_,_,_=>out
 | f+1,out,i,xi,rest=>if rest=0 then out else ow f (out.set i (out.getD i 0+xi*(rest % 65536))) (i+1) xi (rest / 65536)
def nv:List Nat→Nat→Nat→List Nat→List Nat
 | [],_,_,out=>out
 | xi::r,i,m,out=>nv r (i+1) m (ow 64 out i xi m)
def carry:Nat→Nat→List Nat→List Nat
 | 0,_,out=>out
 | f+1,i,out=>if i+1 < out.length then carry f (i+1) ((out.set (i+1) (out.getD (i+1) 0+out.getD i 0 / 65536)).set i (out.getD i 0 % 65536)) else out
def iV (x:List Nat) (m:Nat):List Nat:=let out:=nv x 0 m (List.replicate (x.length+4) 0);carry out.length 0 out
def mD (m:Nat):Nat→List Nat
 | 0=>[1]
 | d+1=>iV (mD m d) m
def iU (x:List Nat) (lo:Nat):Nat:=(x.drop lo).foldr (fun y n=>65536*n+y) 0
def qp (m p d:Nat):Bool:=let x:=mD m d;let n:=iU x (2*d);decide (n < p)||(decide (n=p)&&(x.take (2*d)).all (·==0))
def oE:Nat→Nat→Nat→Nat→Nat→Nat
 | 0,low,_,_,_=>low % 4294967296
 | f+1,low,high,p,d=>if high-low > 1 then (if qp ((low+high) / 2) p d then oE f ((low+high) / 2) high p d else oE f low ((low+high) / 2) p d) else low % 4294967296
def o8 (p d:Nat):Nat:=oE 64 0 (8*4294967296) p d
def fi:List Nat:=[2,3,5,7,11,13,17,19,23,29,31,37,41,43,47,53,59,61,67,71,73,79,83,89,97,101,103,107,109,113,127,131,137,139,149,151,157,163,167,173,179,181,191,193,197,199,211,223,227,229,233,239,241,251,257,263,269,271,277,281,283,293,307,311]
def F0:List Nat:=[0x6a09e667,0xbb67ae85,0x3c6ef372,0xa54ff53a,0x510e527f,0x9b05688c,0x1f83d9ab,0x5be0cd19]
def ks:List Nat:=[0x428a2f98,0x71374491,0xb5c0fbcf,0xe9b5dba5,0x3956c25b,0x59f111f1,0x923f82a4,0xab1c5ed5,
 0xd807aa98,0x12835b01,0x243185be,0x550c7dc3,0x72be5d74,0x80deb1fe,0x9bdc06a7,0xc19bf174,
 0xe49b69c1,0xefbe4786,0x0fc19dc6,0x240ca1cc,0x2de92c6f,0x4a7484aa,0x5cb0a9dc,0x76f988da,
 0x983e5152,0xa831c66d,0xb00327c8,0xbf597fc7,0xc6e00bf3,0xd5a79147,0x06ca6351,0x14292967,
 0x27b70a85,0x2e1b2138,0x4d2c6dfc,0x53380d13,0x650a7354,0x766a0abb,0x81c2c92e,0x92722c85,
 0xa2bfe8a1,0xa81a664b,0xc24b8b70,0xc76c51a3,0xd192e819,0xd6990624,0xf40e3585,0x106aa070,
 0x19a4c116,0x1e376c08,0x2748774c,0x34b0bcb5,0x391c0cb3,0x4ed8aa4a,0x5b9cca4f,0x682e6ff3,
 0x748f82ee,0x78a5636f,0x84c87814,0x8cc70208,0x90befffa,0xa4506ceb,0xbef9a3f7,0xc67178f2]
theorem Nc:(fi.take 8).map (o8 · 2)=F0:=by decide +kernel
def J4 (m p d:Nat):Bool:=decide (m ^ d≤p*2 ^ (32*d))
def yE:Nat→Nat→Nat→Nat→Nat→Nat
 | 0,low,_,_,_=>low % 4294967296
 | f+1,low,high,p,d=>if high-low > 1 then (if J4 ((low+high) / 2) p d then yE f ((low+high) / 2) high p d else yE f low ((low+high) / 2) p d) else low % 4294967296
def JW (p d:Nat):Nat:=yE 64 0 (8*4294967296) p d
theorem Sb:fi.map (JW · 3)=ks:=by decide +kernel
theorem X5 (p d:Nat) (h:∀m,m < 8*4294967296→qp m p d=J4 m p d):o8 p d=JW p d:=by
 have key:∀f low high,low≤high→high≤8*4294967296→oE f low high p d=yE f low high p d:=by
  intro f
  induction f with
  | zero=>intro low high _ _;rfl
  | succ f ih =>
    intro low high h1 h2;unfold oE yE;by_cases h3:high-low > 1
    ·rw [if_pos h3,if_pos h3,h ((low+high) / 2) (by omega),ih ((low+high) / 2) high (by omega) h2,ih low ((low+high) / 2) (by omega) (by omega)]
    ·rw [if_neg h3,if_neg h3]
 exact key 64 0 _ (by omega) (by omega)
def sp (x a b c:Nat):Nat:=tn x a ^^^ tn x b ^^^ x / 2 ^ c
theorem R4 (w2 w7 w15 w16:Nat):(((sp w2 17 19 10+sp w15 7 18 3) % M+w7) % M+w16) % M=(w16+sp w15 7 18 3+w7+sp w2 17 19 10) % M:=by
 simp only [M];omega
def eO:List Nat→Nat
 | []=>0
 | y::r=>y+65536*eO r
theorem CD:∀(l:List Nat) (i z:Nat),i < l.length→eO (l.set i (l.getD i 0+z))=eO l+z*65536 ^ i
 | [],i,z,h=>absurd h (by simp)
 | y::r,0,z,h=>by simp [eO];omega
 | y::r,i+1,z,h=>by
   have ih:=CD r i z (by simpa using h);simp only [List.set_cons_succ,List.getD_cons_succ,eO];rw [ih,Nat.mul_add,Nat.pow_succ,Nat.add_assoc]
   congr 2
   rw [←Nat.mul_assoc,Nat.mul_comm 65536 z,Nat.mul_assoc,Nat.mul_comm 65536 (65536 ^ i)]
theorem Cf:∀(f:Nat) (out:List Nat) (i xi rest:Nat),(ow f out i xi rest).length=out.length
 | 0,_,_,_,_=>rfl
 | f+1,out,i,xi,rest=>by
   unfold ow;split
   ·rfl
   ·rw [Cf];simp
theorem Jt:∀(k f:Nat) (out:List Nat) (i xi rest:Nat),k < f→rest < 65536 ^ k→i+k≤out.length→eO (ow f out i xi rest)=eO out+xi*rest*65536 ^ i
 | k,0,_,_,_,_,h,_,_=>absurd h (by omega)
 | 0,f+1,out,i,xi,rest,_,h,_=>by
   obtain rfl:rest=0:=by simpa using h
   unfold ow;simp
 | k+1,f+1,out,i,xi,rest,hf,h,hl=>by
   unfold ow;by_cases h0:rest=0
   ·rw [if_pos h0,h0];simp
   ·rw [if_neg h0,Jt k f _ (i+1) xi (rest / 65536) (by omega) (by rw [Nat.div_lt_iff_lt_mul (by omega),←Nat.pow_succ];exact h) (by simp;omega),CD out i _ (by omega)];have e:rest=rest % 65536+65536*(rest / 65536):=(Nat.mod_add_div rest 65536).symm;generalize rest % 65536=a at e ⊢;generalize rest / 65536=b at e ⊢;subst e;rw [Nat.pow_succ,Nat.add_assoc,Nat.mul_add,Nat.add_mul]
    congr 2
    simp [Nat.mul_assoc,Nat.mul_comm]
theorem Fm (m:Nat) (hm:m < 65536 ^ 3):∀(x:List Nat) (i:Nat) (out:List Nat),i+x.length+2≤out.length→eO (nv x i m out)=eO out+eO x*m*65536 ^ i
 | [],i,out,_=>by simp [nv,eO]
 | xi::r,i,out,h=>by
   simp only [List.length_cons] at h;have h1:=Jt 3 64 out i xi m (by omega) hm (by omega);have ih:=Fm m hm r (i+1) (ow 64 out i xi m) (by rw [Cf];omega);simp only [nv,eO];rw [ih,h1,Nat.add_mul,Nat.add_mul,Nat.add_assoc,Nat.pow_succ]
   congr 2
   rw [Nat.mul_comm (65536 ^ i) 65536,←Nat.mul_assoc,Nat.mul_assoc 65536 (eO r) m,Nat.mul_comm 65536 (eO r*m)]
theorem Jd:∀(f i:Nat) (out:List Nat),eO (carry f i out)=eO out
 | 0,_,_=>rfl
 | f+1,i,out=>by
   unfold carry;split
   ·rename_i h
    rw [Jd f (i+1)];have h1:=CD out (i+1) (out.getD i 0 / 65536) h;generalize hq:out.set (i+1) (out.getD (i+1) 0+out.getD i 0 / 65536)=o1 at h1 ⊢;have hl:i < o1.length:=by rw [←hq];simp;omega
    have hg:o1.getD i 0=out.getD i 0:=by
     rw [←hq,dD,List.getElem?_set_ne (by omega),←dD]
    have h2:=CD (o1.set i (out.getD i 0 % 65536)) i (out.getD i 0 / 65536*65536) (by simpa using hl)
    have e1:(o1.set i (out.getD i 0 % 65536)).getD i 0=out.getD i 0 % 65536:=by
     rw [dD,List.getElem?_set_self hl];rfl
    have e2:out.getD i 0 % 65536+out.getD i 0 / 65536*65536=o1.getD i 0:=by rw [hg,Nat.mul_comm];exact Nat.mod_add_div _ _
    rw [e1,e2,List.set_set] at h2
    have e3:o1.set i (o1.getD i 0)=o1:=by
     rw [dD,cN hl];exact List.set_getElem_self hl
    rw [e3,h1,Nat.pow_succ] at h2;have e4:out.getD i 0 / 65536*(65536 ^ i*65536)=out.getD i 0 / 65536*65536*65536 ^ i:=by rw [Nat.mul_assoc,Nat.mul_comm 65536 (65536 ^ i)]
    rw [e4] at h2;omega
   ·rfl
theorem val_zero (n:Nat):eO (List.replicate n 0)=0:=by
 induction n with
 | zero=>rfl
 | succ n ih=>rw [List.replicate_succ,eO,ih]
theorem Ht (x:List Nat) (m:Nat) (hm:m < 65536 ^ 3):eO (iV x m)=eO x*m:=by
 unfold iV;simp only;rw [Jd,Fm m hm x 0 _ (by simp),val_zero];simp
theorem Nx (m:Nat) (hm:m < 65536 ^ 3):∀d,eO (mD m d)=m ^ d
 | 0=>rfl
 | d+1=>by rw [mD,Ht _ _ hm,Nx m hm d,Nat.pow_succ]
theorem kW (l:List Nat) (i j z:Nat):(l.set i z).getD j 0=if i=j∧j < l.length then z else l.getD j 0:=by
 rw [dD,dD,List.getElem?_set];by_cases h:i=j
 ·subst h;by_cases h2:i < l.length
  ·simp [h2]
  ·simp [h2]
 ·simp [h]
theorem Je:∀(f i:Nat) (out:List Nat),out.length≤i+f+1→(∀j,j < i→out.getD j 0 < 65536)→∀j,j+1 < out.length→(carry f i out).getD j 0 < 65536
 | 0,i,out,h1,h2,j,hj=>h2 j (by omega)
 | f+1,i,out,h1,h2,j,hj=>by
   unfold carry;split
   ·rename_i h
    refine Je f (i+1) _ (by simp;omega) (fun k hk=>?_) j (by simpa using hj);rw [kW,kW];by_cases h3:i=k
    ·subst h3;rw [if_pos ⟨rfl,by simp;omega⟩];exact Nat.mod_lt _ (by omega)
    ·rw [if_neg (fun h=>h3 h.1),if_neg (fun h=>by omega)];exact h2 k (by omega)
   ·exact h2 j (by omega)
theorem Jf:∀(f i:Nat) (out:List Nat),(carry f i out).length=out.length
 | 0,_,_=>rfl
 | f+1,i,out=>by
   unfold carry;split
   ·rw [Jf];simp
   ·rfl
theorem zT (m:Nat):∀(x:List Nat) (i:Nat) (out:List Nat),(nv x i m out).length=out.length
 | [],_,_=>rfl
 | xi::r,i,out=>by rw [nv,zT,Cf]
theorem Bo (x:List Nat) (m:Nat):(iV x m).length=x.length+4:=by
 unfold iV;simp only;rw [Jf,zT,Bf]
theorem Hu (x:List Nat) (m j:Nat) (hj:j < x.length+3):(iV x m).getD j 0 < 65536:=by
 unfold iV;simp only;exact Je _ 0 _ (by omega) (fun k hk=>absurd hk (by omega)) j (by rw [zT,Bf];omega)
theorem Hs:∀(n:Nat) (l:List Nat),n≤l.length→eO l=eO (l.take n)+65536 ^ n*eO (l.drop n)
 | 0,l,_=>by simp [eO]
 | n+1,[],h=>absurd h (by simp)
 | n+1,y::r,h=>by
   have ih:=Hs n r (by simpa using h);simp only [List.take_succ_cons,List.drop_succ_cons,eO];rw [ih,Nat.mul_add,Nat.pow_succ,Nat.add_assoc,Nat.mul_comm (65536 ^ n) 65536,Nat.mul_assoc]
theorem sj:∀(l:List Nat),(∀y∈l,y < 65536)→eO l < 65536 ^ l.length
 | [],_=>by simp [eO]
 | y::r,h=>by
   have ih:=sj r (fun z hz=>h z (by simp [hz]));have hy:=h y (by simp);simp only [eO,List.length_cons];rw [Nat.pow_succ];omega
theorem Kg:∀(l:List Nat),eO l=0 ↔ l.all (·==0)=true
 | []=>by simp [eO]
 | y::r=>by
   have ih:=Kg r;simp only [eO,List.all_cons,Bool.and_eq_true,beq_iff_eq];rw [←ih];omega
theorem Zq (l:List Nat) (n:Nat):iU l n=eO (l.drop n):=by
 unfold iU;generalize l.drop n=r
 induction r with
 | nil=>rfl
 | cons y r ih=>rw [List.foldr_cons,ih,eO,Nat.add_comm]
theorem YR (l:List Nat) (n p:Nat) (hn:n≤l.length) (hl:∀j,j < n→l.getD j 0 < 65536):(decide (iU l n < p)||(decide (iU l n=p)&&(l.take n).all (·==0)))=decide (eO l≤p*65536 ^ n):=by
 have h1:=Hs n l hn
 have h2:eO (l.take n) < 65536 ^ n:=by
  have:=sj (l.take n) (fun y hy=>by
   obtain ⟨j,hj,rfl⟩:=List.mem_iff_getElem.1 hy;have BS:j < n:=by rw [fW] at hj;omega
   have:=hl j BS;rw [dD,cN (by omega)] at this;rw [List.getElem_take]
   exact this)
  rwa [fW,Nat.min_eq_left hn] at this
 rw [Zq,h1];rw [Bool.eq_iff_iff];simp only [Bool.or_eq_true,Bool.and_eq_true,decide_eq_true_eq];rw [←Kg];generalize eO (l.take n)=a at h2 ⊢;generalize eO (l.drop n)=b;generalize 65536 ^ n=B at h2 ⊢
 constructor
 ·rintro (h|⟨rfl,rfl⟩)
  ·have h3:B*(b+1)≤B*p:=Nat.mul_le_mul_left B h;rw [Nat.mul_add,Nat.mul_one] at h3;rw [Nat.mul_comm p B];omega
  ·rw [Nat.mul_comm b B];omega
 ·intro h;rw [Nat.mul_comm p B] at h;rcases Nat.lt_trichotomy b p with h3|h3|h3
  ·exact .inl h3
  ·subst h3;exact .inr ⟨rfl,by omega⟩
  ·have h4:B*(p+1)≤B*b:=Nat.mul_le_mul_left B h3;rw [Nat.mul_add,Nat.mul_one] at h4;omega
theorem rJ (m:Nat):∀d,(mD m d).length=4*d+1
 | 0=>rfl
 | d+1=>by rw [mD,Bo,rJ m d];omega
theorem Tg (m p d:Nat) (hm:m < 65536 ^ 3):qp m p (d+1)=J4 m p (d+1):=by
 have h:=YR (mD m (d+1)) (2*(d+1)) p (by rw [rJ];omega) (fun j hj=>by
  rw [mD]
  exact Hu _ _ j (by rw [rJ];omega))
 rw [Nx m hm] at h;unfold qp J4;simp only;rw [h,show (65536:Nat)=2 ^ 16 from rfl,←Nat.pow_mul,show 16*(2*(d+1))=32*(d+1) by omega]
theorem Rq (p d:Nat):o8 p (d+1)=JW p (d+1):=X5 p (d+1) fun m hm=>Tg m p d (by omega)
theorem Vw:fi.map (o8 · 3)=ks:=by
 rw [show (fun x=>o8 x 3)=(fun x=>JW x 3) from funext fun x=>Rq x 2];exact Sb
end fZ
namespace fZ
open num bC
section
variable {b:List Int}
def jo (b:List Int) (i:Nat):Nat:=(b.getD i 0).toNat
def wd (b:List Int) (i:Nat):Nat:=jo b (4*i)*16777216+jo b (4*i+1)*65536+jo b (4*i+2)*256+jo b (4*i+3)
def wx (w:List Nat):Nat:=(w.getD (w.length-16) 0+sp (w.getD (w.length-15) 0) 7 18 3+w.getD (w.length-7) 0+sp (w.getD (w.length-2) 0) 17 19 10) % M
def fh (b:List Int):Nat→List Nat
 | 0=>[]
 | i+1=>fh b i++[if i < 16 then wd b i else wx (fh b i)]
theorem ib (b:List Int):∀i,(fh b i).length=i
 | 0=>rfl
 | i+1=>by simp [fh,ib b i]
theorem nF (hb:bn b) (i:Nat):jo b i < 256:=by
 unfold jo;by_cases h:i < b.length
 ·rw [dD,cN h];have:=hb b[i] (List.getElem_mem h);simp only [Option.getD_some];omega
 ·rw [dD,List.getElem?_eq_none (by omega)];simp
theorem abq (hb:bn b) (i:Nat):wd b i < 2 ^ 32:=by
 have h1:=nF hb (4*i);have h2:=nF hb (4*i+1);have h3:=nF hb (4*i+2);have h4:=nF hb (4*i+3);unfold wd;omega
theorem Bl {b:List Int} (hb:bn b):∀i,∀x∈fh b i,x < 2 ^ 32
 | 0=>by simp [fh]
 | i+1=>by
   intro x hx;rcases List.mem_append.1 hx with h|h
   ·exact Bl hb i x h
   ·rw [List.mem_singleton.1 h];split
    ·exact abq hb i
    ·exact Nat.mod_lt _ (by decide)
def uK (v:W8) (w:List Nat):Nat→W8
 | 0=>v
 | i+1=>CJ (uK v w i) (ks.getD i 0) (w.getD i 0)
def plus (v u:W8):W8:=⟨(v.a+u.a) % M,(v.b+u.b) % M,(v.c+u.c) % M,(v.d+u.d) % M,(v.e+u.e) % M,(v.f+u.f) % M,(v.g+u.g) % M,(v.h+u.h) % M⟩
def comp (v:W8) (b:List Int):W8:=plus v (uK v (fh b 64) 64)
theorem Fe {v:W8} (hv:v.Ok) (w:List Nat):∀i,(uK v w i).Ok
 | 0=>hv
 | i+1=>XQ _ (Fe hv w i) _ _
theorem Oo (v:W8) (b:List Int):(comp v b).Ok:=by
 refine ⟨?_,?_,?_,?_,?_,?_,?_,?_⟩<;>exact Nat.mod_lt _ (by decide)
structure HS where
 v:W8
 part:List Int
 n:Nat
def HS.put (h:HS) (c:Int):HS:=if (h.n+1) % 64=0 then ⟨comp h.v (h.part.set (h.n % 64) c),h.part.set (h.n % 64) c,h.n+1⟩ else ⟨h.v,h.part.set (h.n % 64) c,h.n+1⟩
def HS.write (h:HS) (l:List Int):HS:=l.foldl HS.put h
def first:W8:=⟨0x6a09e667,0xbb67ae85,0x3c6ef372,0xa54ff53a,0x510e527f,0x9b05688c,0x1f83d9ab,0x5be0cd19⟩
theorem LO:first.Ok:=by unfold first W8.Ok;decide
def h0:HS:=⟨first,List.replicate 64 0,0⟩
def HS.Ok (h:HS):Prop:=h.v.Ok∧h.part.length=64∧bn h.part
theorem J3:h0.Ok:=⟨LO,by simp [h0],fun z hz=>by rw [(List.mem_replicate.1 hz).2];omega⟩
theorem ZJ {h:HS} (hh:h.Ok) {c:Int} (h1:0≤c) (h2:c≤255):(h.put c).Ok:=by
 have hb:bn (h.part.set (h.n % 64) c):=fun z hz=>by
  rcases List.mem_or_eq_of_mem_set hz with k|k
  ·exact hh.2.2 z k
  ·rw [k];exact ⟨h1,h2⟩
 unfold HS.put;split
 ·exact ⟨Oo _ _,by simp [hh.2.1],hb⟩
 ·exact ⟨hh.1,by simp [hh.2.1],hb⟩
theorem abx (h:HS) (c:Int):(h.put c).n=h.n+1:=by unfold HS.put;split<;>rfl
theorem CA (l:List Int):∀h:HS,(h.write l).n=h.n+l.length:=by
 induction l with
 | nil=>intro h;rfl
 | cons c l ih=>intro h;rw [show h.write (c::l)=(h.put c).write l from rfl,ih,abx];simp;omega
theorem zu (l:List Int):∀h:HS,h.Ok→bn l→(h.write l).Ok:=by
 induction l with
 | nil=>intro h hh _;exact hh
 | cons c l ih=>intro h hh hb;exact ih _ (ZJ hh (hb c (by simp)).1 (hb c (by simp)).2) fun z hz=>hb z (by simp [hz])
theorem Ka (h:HS) (a b:List Int):h.write (a++b)=(h.write a).write b:=by simp [HS.write]
theorem qh (h:HS) (a:List Int) (c:Int):h.write (a++[c])=(h.write a).put c:=by simp [HS.write]
theorem OP (h:HS) (hl:h.part.length=64) (hn:h.n % 64=0) (c:List Int):∀j,j < 64→j≤c.length→h.write (c.take j)=⟨h.v,c.take j++h.part.drop j,h.n+j⟩:=by
 intro j
 induction j with
 | zero=>intro _ _;simp [HS.write]
 | succ j ih =>
   intro h1 h2;have hj:j < c.length:=by omega
   rw [kr hj,qh,ih (by omega) (by omega)];have e1:(h.n+j) % 64=j:=by omega
   have e2:¬(h.n+j+1) % 64=0:=by omega
   simp only [HS.put,e1,e2,if_false];have hd:h.part.drop j=h.part[j]'(by omega)::h.part.drop (j+1):=List.drop_eq_getElem_cons (by omega);rw [List.set_append_right _ _ (by simp;omega)];have e3:j-(c.take j).length=0:=by simp;omega
   rw [e3,hd,List.set_cons_zero];simp only [List.append_assoc,List.singleton_append,Nat.add_assoc]
theorem MU (h:HS) (hl:h.part.length=64) (hn:h.n % 64=0) (c:List Int) (hc:c.length=64):h.write c=⟨comp h.v c,c,h.n+64⟩:=by
 have e:c=c.take 63++[c[63]]:=by
  have:=kr (l:=c) (i:=63) (by omega);rw [←this,List.take_of_length_le (by omega)]
 have hp:(c.take 63++h.part.drop 63).set 63 c[63]=c:=by
  have hd:h.part.drop 63=h.part[63]'(by omega)::h.part.drop 64:=List.drop_eq_getElem_cons (by omega);rw [List.set_append_right _ _ (by simp;omega)];have e3:63-(c.take 63).length=0:=by simp;omega
  rw [e3,hd,List.set_cons_zero,List.drop_of_length_le (by omega)];exact e.symm
 have e4:h.write c=(h.write (c.take 63)).put c[63]:=by
  rw [←qh,←e]
 rw [e4,OP h hl hn c 63 (by omega) (by omega)];have e1:(h.n+63) % 64=63:=by omega
 have e2:(h.n+63+1) % 64=0:=by omega
 simp only [HS.put,e1,e2,if_true,hp]
def cf (t:List Int):Nat→W8
 | 0=>first
 | m+1=>comp (cf t m) ((t.drop (64*m)).take 64)
theorem Bh (t:List Int):∀m,64*m≤t.length→∃p,p.length=64∧h0.write (t.take (64*m))=⟨cf t m,p,64*m⟩
 | 0,_=>⟨List.replicate 64 0,by simp,by simp [HS.write,h0,cf]⟩
 | m+1,h=>by
   obtain ⟨p,hp,e⟩:=Bh t m (by omega);refine ⟨(t.drop (64*m)).take 64,by simp;omega,?_⟩;rw [show 64*(m+1)=64*m+64 by omega,List.take_add,Ka,e,MU ⟨cf t m,p,64*m⟩ hp (by simp) ((t.drop (64*m)).take 64) (by simp;omega)];rfl
def tx (l:List Int):List Int:=l++[128]++List.replicate ((119-l.length % 64) % 64) 0++be 8 (8*l.length)
theorem Ek (l:List Int):(tx l).length=64*((l.length+72) / 64):=by
 simp only [tx,gC,Bf,bp,List.length_singleton];omega
def su (v:W8):List Int:=be 4 v.a++be 4 v.b++be 4 v.c++be 4 v.d++be 4 v.e++be 4 v.f++be 4 v.g++be 4 v.h
def gG (l:List Int):List Int:=su (cf (tx l) ((l.length+72) / 64))
theorem qY (v:W8):(su v).length=32:=by simp [su,bp]
theorem Vi (v:W8):bn (su v):=by
 intro z hz;simp only [su,List.mem_append] at hz;rcases hz with ((((((hz|hz)|hz)|hz)|hz)|hz)|hz)|hz<;>exact qO _ _ z hz
theorem rS (l:List Int):(gG l).length=32:=qY _
theorem CZ (l:List Int):bn (gG l):=Vi _
theorem aaZ (l:List Int):su (h0.write (tx l)).v=gG l:=by
 obtain ⟨p,hp,e⟩:=Bh (tx l) ((l.length+72) / 64) (by rw [Ek];omega);rw [List.take_of_length_le (by rw [Ek];omega)] at e;rw [e];rfl
end
end fZ
namespace fZ
def xp (l:List Nat) (b:Nat):Prop:=∀y∈l,y < b
theorem xp.get {l:List Nat} {b:Nat} (h:xp l b) (hb:0 < b) (i:Nat):l.getD i 0 < b:=by
 by_cases hi:i < l.length
 ·rw [dD,cN hi];exact h _ (List.getElem_mem hi)
 ·rw [dD,List.getElem?_eq_none (by omega)];exact hb
theorem xp.set {l:List Nat} {b z:Nat} (h:xp l b) (hz:z < b) (i:Nat):xp (l.set i z) b:=fun y hy=>by
 rcases List.mem_or_eq_of_mem_set hy with k|k
 ·exact h y k
 ·rw [k];exact hz
theorem xp.mono {l:List Nat} {b c:Nat} (h:xp l b) (hc:b≤c):xp l c:=fun y hy=>Nat.lt_of_lt_of_le (h y hy) hc
theorem Q2:∀(l:List Nat) (i:Nat),l.getD i 0*65536 ^ i≤eO l
 | [],i=>by simp
 | x::r,0=>by simp [eO]
 | x::r,i+1=>by
   have:=Q2 r i;simp only [eO,List.getD_cons_succ,Nat.pow_succ];rw [Nat.mul_comm (65536 ^ i),←Nat.mul_assoc,Nat.mul_right_comm];omega
theorem Q3 {x:List Nat} (hx:xp x 65536) {m:Nat} (hm:m < 65536 ^ 3):xp (iV x m) 65536:=by
 intro y hy;obtain ⟨i,hi,rfl⟩:=List.mem_iff_getElem.1 hy;have e:(iV x m)[i]=(iV x m).getD i 0:=by rw [dD,cN hi];rfl
 rw [e];rw [Bo] at hi;by_cases h:i < x.length+3
 ·exact Hu x m i h
 ·have h1:=Q2 (iV x m) i;rw [Ht x m hm] at h1;have h2:=sj x hx;have h3:eO x*m < 65536 ^ x.length*65536 ^ 3:=Nat.mul_lt_mul'' h2 hm;rw [←Nat.pow_add,show x.length+3=i by omega] at h3;have h4:(iV x m).getD i 0*65536 ^ i < 1*65536 ^ i:=by omega
  have:=Nat.lt_of_mul_lt_mul_right h4;omega
theorem GG {m:Nat} (hm:m < 65536 ^ 3):∀d,xp (mD m d) 65536
 | 0=>by intro y hy;rw [List.mem_singleton.1 hy];omega
 | d+1=>Q3 (GG hm d) hm
theorem Ki (x:List Nat) (i:Nat) (hi:i < x.length):iU x i=65536*iU x (i+1)+x.getD i 0:=by
 unfold iU;rw [List.drop_eq_getElem_cons hi,List.foldr_cons,dD,cN hi];rfl
theorem Np (x:List Nat) (i:Nat) (hi:x.length≤i):iU x i=0:=by
 unfold iU;rw [List.drop_of_length_le hi];rfl
theorem Kj (x:List Nat):∀k i,iU x (i+k)≤iU x i
 | 0,i=>Nat.le_refl _
 | k+1,i=>by
   have h1:=Kj x k (i+1);rw [show i+1+k=i+(k+1) by omega] at h1;by_cases hi:i < x.length
   ·have:=Ki x i hi;omega
   ·rw [Np x (i+(k+1)) (by omega)];omega
theorem Th (m p d i:Nat) (hi:2*d≤i) (h:p < iU (mD m d) i):qp m p d=false:=by
 have h1:=Kj (mD m d) (i-2*d) (2*d);rw [show 2*d+(i-2*d)=i by omega] at h1;unfold qp;have e1:¬iU (mD m d) (2*d) < p:=by omega
 have e2:¬iU (mD m d) (2*d)=p:=by omega
 simp [e1,e2]
theorem Qf (m p d:Nat) (h:iU (mD m d) (2*d) < p):qp m p d=true:=by
 unfold qp;simp [h]
theorem Ti (m p d:Nat) (h:iU (mD m d) (2*d)=p):qp m p d=((mD m d).take (2*d)).all (·==0):=by
 unfold qp;simp [h]
theorem MY (f low high p d:Nat) (h:high-low > 1):oE (f+1) low high p d=if qp ((low+high) / 2) p d then oE f ((low+high) / 2) high p d else oE f low ((low+high) / 2) p d:=by
 rw [oE,if_pos h]
theorem Pg (f low high p d:Nat) (h:¬high-low > 1):oE f low high p d=low % 4294967296:=by
 cases f with
 | zero=>rfl
 | succ f=>rw [oE,if_neg h]
def pl (n:Nat):List Nat:=fi.filter (· < n)
theorem ZN:∀n,n < 312→2≤n→(pl n).all (fun q=>decide (n % q≠0))=decide (n∈fi):=by decide +kernel
theorem Yg:∀n,n < 312→2≤n→pl (n+1)=if n∈fi then pl n++[n] else pl n:=by decide +kernel
theorem ZM:∀n,n < 313→(pl n).length≤64∧((pl n).length < 64→n < 312)∧((pl n).length=64→pl n=fi):=by decide +kernel
theorem ZL (n:Nat):∀q∈pl n,2≤q∧q < 312:=fun q hq=>by
 have h1:q∈fi:=(List.mem_filter.1 hq).1;have h2:∀q∈fi,2≤q∧q < 312:=by decide
 exact h2 q h1
end fZ
namespace bC
open Go.RowKit base obj mem
theorem qd (a b:Nat) (ha:a < 2 ^ 32) (hb:b < 2 ^ 32):Go.bits .xor .u32 (a:Int) (b:Int)=((a ^^^ b:Nat):Int):=by
 show IntKind.u32.wrap ((BitVec.ofInt 32 (a:Int) ^^^ BitVec.ofInt 32 (b:Int)).toNat:Int)=_
 have hx:a ^^^ b < 2 ^ 32:=Nat.xor_lt_two_pow ha hb;rw [BitVec.toNat_xor,BitVec.toNat_ofInt,BitVec.toNat_ofInt,show ((a:Int) % ((2 ^ 32:Nat):Int)).toNat=a by omega,show ((b:Int) % ((2 ^ 32:Nat):Int)).toNat=b by omega,IntKind.wrap_u32];omega
theorem TH (a:Nat) (ha:a < 2 ^ 32):Go.bits .and .u32 (a:Int) 1=((a % 2:Nat):Int):=by
 show IntKind.u32.wrap ((BitVec.ofInt 32 (a:Int) &&& BitVec.ofInt 32 1).toNat:Int)=_
 rw [BitVec.toNat_and,show (BitVec.ofInt 32 1).toNat=1 from rfl,Nat.and_one_is_mod,BitVec.toNat_ofInt,show ((a:Int) % ((2 ^ 32:Nat):Int)).toNat=a by omega,IntKind.wrap_u32];omega
theorem Y0 (x:Nat) (hx:x < 2 ^ 32):Go.bits .xor .u32 ((x:Int) / 2) (3988292384*Go.bits .and .u32 (x:Int) 1 % 4294967296)=((dn x:Nat):Int):=by
 have e:(3988292384*Go.bits .and .u32 (x:Int) 1 % 4294967296)=(((if x % 2=1 then Pp else 0:Nat)):Int):=by
  rw [TH x hx];split
  ·rename_i h;rw [h];rfl
  ·rename_i h;rw [show x % 2=0 by omega];rfl
 rw [e,show (x:Int) / 2=((x / 2:Nat):Int) by omega,qd _ _ (by omega) (by split<;>decide)];rfl
theorem Hh (w:World) (x:Nat) (hx:x < 2 ^ 32):Calls Tryz.prog 172 #[.int .u32 x] w fun e w'=>e=.returned (.int .u32 (dn x:Nat))∧w'=w:=by
 go_enter Tryz.func172,Tryz.ntmps172;go_wp2_with fail;go_ret;exact ⟨by rw [Y0 x hx];rfl,rfl⟩
def iW (k:Nat):List Value:=(List.range k).map (fun i=>Value.int .u32 (it 8 i:Nat))++List.replicate (256-k) (.int .u32 0)
theorem E4 (k:Nat) (hk:k≤256):(iW k).length=256:=by simp [iW];omega
theorem Kl (k:Nat) (hk:k < 256):(iW k).set k (.int .u32 (it 8 k:Nat))=iW (k+1):=by
 unfold iW;rw [List.set_append_right _ _ (by simp),List.range_succ,List.map_append,List.append_assoc]
 congr 1
 simp only [iB,List.length_range,Nat.sub_self];rw [show 256-k=(256-(k+1))+1 by omega,List.replicate_succ];rfl
theorem Km (i:Nat) (hi:i < 256):(iW 256)[i]?=some (.int .u32 (it 8 i:Nat)):=by
 simp [iW,hi]
def OK:Array Value:=(iW 0).toArray
theorem QQ:(Tryz.prog.info? 244).map (·.zero)=some (some (.agg OK)):=by kernel_rfl
theorem yN (w:World):Calls Tryz.prog 129 #[] w fun e w'=>∃g,e=.returned (.pointer (some ⟨g,0,none⟩))∧w.heap.size≤g∧Row w' g 244 (iW 256)∧Below w.heap.size w w':=by
 have Z:=af QQ;have kA:=af (show Row (w.alloc (.cells OK 244)) w.heap.size 244 (iW 0) from Row.new w _ _);have fE:=af ((Below.refl w.heap.size w).alloc (Nat.le_refl _) (.cells OK 244));go_enter Tryz.func129,Tryz.ntmps129;go_wp2_with (with_reducible refine ig rfl 244 rfl (.agg OK) Z.o ?_);go_loopw [4] (fun i wr=>∃(k:Nat),k≤256∧i=ae aa k∧Row wr w.heap.size 244 (iW k)∧Below w.heap.size w wr) (fun i _=>256-(intOf i).toNat)
 case atStart=>exact ⟨0,by omega,rfl,kA.o,fE.o⟩
 case round =>
  obtain ⟨k,hk,rfl,hr,hb⟩:=hrel;have HR:=af hr;have HB:=af hb;clear hr hb;by_cases aH:k < 256
  ·have df:(k:Int) < 256:=by omega
   go_wp2_with fail;go_loopw [9,3] (fun i x wx=>∃(j:Nat),j≤8∧i=ae aa j∧x=.int .u32 (it j k:Nat)∧wx=wr) (fun i _ _=>8-(intOf i).toNat)
   case atStart=>exact ⟨0,by omega,rfl,by go_num,rfl⟩
   case round =>
    obtain ⟨j,hj,rfl,rfl,rfl⟩:=hrel;by_cases uM:j < 8
    ·have tD:(j:Int) < 8:=by omega
     go_wp2_with fail;refine (Hh _ (it j k) (JZ j (by omega))).mono ?_;rintro e w' ⟨rfl,rfl⟩;go_wp2_with fail;go_roundw;case rel=>exact ⟨j+1,by omega,by go_num,rfl,trivial⟩
     case measure=>simp [intOf];omega
    ·have tD:¬(j:Int) < 8:=by omega
     have BR:j=8:=by omega
     have HJ:=af BR;have hc:=(HR.o.cell k).trans (cN (by rw [E4 k hk];exact aH));have hf:=HR.o.frozen k;have hl:=HR.o.lt;clear BR;go_wp2_with fail;go_roundw;case rel=>exact ⟨k+1,by omega,by go_num,by rw [HJ.o,←Kl k aH];exact HR.o.setCell k _,HB.o.setCell (p:=⟨w.heap.size,k,none⟩) (Nat.le_refl _) _⟩
     case measure=>simp [intOf];omega
  ·have df:¬(k:Int) < 256:=by omega
   have xO:k=256:=by omega
   have HK:=af xO;clear xO;go_wp2_with fail;go_ret;refine ⟨w.heap.size,rfl,Nat.le_refl _,?_,HB.o⟩;rw [←HK.o];exact HR.o
theorem Zj (a b:Nat) (ha:a < 256) (hb:b < 256):Go.bits .xor .u8 (a:Int) (b:Int)=((a ^^^ b:Nat):Int):=by
 show IntKind.u8.wrap ((BitVec.ofInt 8 (a:Int) ^^^ BitVec.ofInt 8 (b:Int)).toNat:Int)=_
 have hx:a ^^^ b < 2 ^ 8:=Nat.xor_lt_two_pow (by omega) (by omega);rw [BitVec.toNat_xor,BitVec.toNat_ofInt,BitVec.toNat_ofInt,show ((a:Int) % ((2 ^ 8:Nat):Int)).toNat=a by omega,show ((b:Int) % ((2 ^ 8:Nat):Int)).toNat=b by omega,IntKind.wrap_u8];omega
theorem Hf (w:World) (g:Nat) (hg:Row w g 244 (iW 256)) (x:Nat) (hx:x < 2 ^ 32) (A:Option Addr) (n c:Nat) (bs:List Int) (hn:bs.length=n) (hm:n≤1000000) (hb:bn bs) (hs:Sl w w.heap.size 1 A n (bs.map (.int .u8))) :
  Calls Tryz.prog 174 #[.pointer (some ⟨g,0,none⟩),.int .u32 x,.slice A n c] w fun e w'=>e=.returned (.int .u32 (fold x bs:Nat))∧w'=w:=by
 have HG:=af hg;have HN:=af hn;have HB:=af hb;have HS:=af hs;have HX:=af hx;clear hg hn hb hs hx;go_enter Tryz.func174,Tryz.ntmps174;go_wp2_with fail;go_loopw [14,1] (fun i s wr=>∃k:Nat,k≤n∧i=ae aa k∧s=.int .u32 (fold x (bs.take k):Nat)∧wr=w) (fun i _ _=>n-(intOf i).toNat)
 case atStart=>exact ⟨0,by omega,rfl,by rw [List.take_zero];rfl,rfl⟩
 case round =>
  obtain ⟨k,hk,rfl,rfl,rfl⟩:=hrel;by_cases aH:k < n
  ·have zc:k < bs.length:=by rw [HN.o];exact aH
   obtain ⟨b,off,rfl,cm,hc⟩:=HS.o.2 (by omega);have hz:=HB.o bs[k] (List.getElem_mem zc);have c1:=hc k (.int .u8 bs[k]) (by simp [zc]);have hfk:fold x (bs.take k) < 2 ^ 32:=CY HX.o fun y hy=>HB.o y (List.mem_of_mem_take hy);have gp:=zi x bs k zc;generalize hf:fold x (bs.take k)=f at *;have gm:bs[k]=((bs[k].toNat:Nat):Int):=by omega
   rw [gm] at c1;generalize Fv:bs[k].toNat=z at *;have nO:z < 256:=by omega
   have ei:Go.bits .xor .u8 ((f:Int) % 256) (z:Int)=(((f % 256) ^^^ z:Nat):Int):=by
    rw [show (f:Int) % 256=((f % 256:Nat):Int) by omega,Zj _ _ (by omega) nO]
   have N6:(f % 256) ^^^ z < 256:=Nat.xor_lt_two_pow (n:=8) (by omega) (by omega);have ct:=(HG.o.cell ((f % 256) ^^^ z)).trans (Km _ N6);have hft:=Qj f z nO;have aak:it 8 ((f % 256) ^^^ z) < 2 ^ 32:=JZ 8 (by omega);generalize (f % 256) ^^^ z=i at *;generalize it 8 i=t at *
   have ex:Go.bits .xor .u32 ((f:Int) / 256) (t:Int)=((feed f z:Nat):Int):=by
    rw [show (f:Int) / 256=((f / 256:Nat):Int) by omega,qd _ _ (by omega) aak,hft]
   have i0:(0:Int)≤(k:Int):=by omega
   have i1:(k:Int) < (n:Int):=by omega
   have j1:(i:Int) < 256:=by omega
   have lK:=af gp;have HF:=af hf;clear hc gp hft aak hf hz gm Fv nO N6 hfk zc;go_wp2_with fail;go_roundw;case rel=>exact ⟨k+1,by omega,by go_num,by rw [lK.o],trivial⟩
   case measure=>simp [intOf];omega
  ·have dy:k=n:=by omega
   have df:¬(k:Int) < (n:Int):=by omega
   have HK:=af dy;clear dy;go_wp2_with fail;go_ret;refine ⟨?_,rfl⟩;have e:fold x (bs.take k)=fold x bs:=by rw [HK.o,←HN.o,List.take_length]
   rw [e];rfl
theorem ru (w:World):Calls Tryz.prog 199 #[] w fun e w'=>e=.returned (.int .u32 (4294967295:Nat))∧w'=w:=by
 go_enter Tryz.func199,Tryz.ntmps199;go_wp2_with fail;go_ret;exact ⟨rfl,rfl⟩
theorem Xw (x:Nat) (hx:x < 2 ^ 32):4294967295 ^^^ x=4294967295-x:=by
 apply Nat.eq_of_testBit_eq;intro i;rw [Nat.testBit_xor,show 4294967295-x=2 ^ 32-(x+1) by omega,Nat.testBit_two_pow_sub_succ hx,show 4294967295=2 ^ 32-1 by rfl,Nat.testBit_two_pow_sub_one];by_cases h:i < 32
 ·simp [h]
 ·have:x.testBit i=false:=Nat.testBit_lt_two_pow (Nat.lt_of_lt_of_le hx (Nat.pow_le_pow_right (by decide) (by omega)));simp [h,this]
theorem aaW (w:World) (x:Nat) (hx:x < 2 ^ 32):Calls Tryz.prog 198 #[.int .u32 x] w fun e w'=>e=.returned (.int .u32 (4294967295-x:Nat))∧w'=w:=by
 go_enter Tryz.func198,Tryz.ntmps198;go_wp2_with fail
 have e:bits BinOp.xor IntKind.u32 IntKind.u32.max (x:Int)=((4294967295-x:Nat):Int):=by
  rw [show IntKind.u32.max=((4294967295:Nat):Int) from rfl,qd _ _ (by decide) hx,Xw x hx]
 go_ret;exact ⟨by rw [e];rfl,rfl⟩
theorem Eb (w:World) (g:Nat) (hg:Row w g 244 (iW 256)) (A:Option Addr) (n c:Nat) (bs:List Int) (hn:bs.length=n) (hm:n≤1000000) (hb:bn bs) (hs:Sl w w.heap.size 1 A n (bs.map (.int .u8))) :
  Calls Tryz.prog 173 #[.func (Fn.func 174) #[.pointer (some ⟨g,0,none⟩)] #[],.slice A n c] w fun e w'=>e=.returned (.int .u32 (sum bs:Nat))∧w'=w:=by
 have HF:=af (Hf w g hg 4294967295 (by decide) A n c bs hn hm hb hs);have HL:=af (CY (bs:=bs) (x:=4294967295) (by decide) hb);clear hg hn hb hs;go_enter Tryz.func173,Tryz.ntmps173;go_wp2_with fail;refine (ru _).mono ?_;rintro e w' ⟨rfl,rfl⟩;go_wp2_with fail;refine HF.o.mono ?_;rintro e w' ⟨rfl,rfl⟩;go_wp2_with fail;refine (aaW _ _ HL.o).mono ?_;rintro e w' ⟨rfl,rfl⟩;go_wp2_with fail;go_ret;exact ⟨rfl,rfl⟩
theorem vV (w:World) (g:Nat) (hg:Row w g 244 (iW 256)) (A:Option Addr) (n c:Nat) (bs:List Int) (hn:bs.length=n) (hm:n≤1000000) (hb:bn bs) (hs:Sl w w.heap.size 1 A n (bs.map (.int .u8))) :
  Calls Tryz.prog 130 #[.pointer (some ⟨g,0,none⟩),.slice A n c] w fun e w'=>e=.returned (.int .u32 (sum bs:Nat))∧w'=w:=by
 have HF:=af (Eb w g hg A n c bs hn hm hb hs);clear hg hn hb hs;go_enter Tryz.func130,Tryz.ntmps130;go_wp2_with fail;refine HF.o.mono ?_;rintro e w' ⟨rfl,rfl⟩;go_wp2_with fail;go_ret;exact ⟨rfl,rfl⟩
end bC
end Go.Proofs.YtdldkkoplgkloaaGreat
