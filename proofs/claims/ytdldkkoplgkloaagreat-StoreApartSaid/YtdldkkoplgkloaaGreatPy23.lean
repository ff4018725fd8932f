/-
  PROVED HERE: lemmas that the law leans on.
  CONDITIONS: each names its own.
-/
import Derived.BigQuiet
import Derived.Deep.QuietTactic
import Derived.Laws.Rows
import Derived.Test.YtdldkkoplgkloaaGreatPy0
import Derived.Test.YtdldkkoplgkloaaGreatPy17
import Derived.Test.YtdldkkoplgkloaaGreatPy20
import Derived.Test.YtdldkkoplgkloaaGreatPy21
import Derived.Test.YtdldkkoplgkloaaGreatPy22
namespace Go.Proofs.YtdldkkoplgkloaaGreat
set_option linter.unusedVariables false
set_option linter.unusedSimpArgs false
set_option maxRecDepth 100000
set_option maxHeartbeats 32000000
namespace bits

open Go.RowKit base
theorem PU (k:Nat) (hk:k≤16):(0:Int) < 2 ^ k∧(2:Int) ^ k≤65536:=by
 refine ⟨Int.pow_pos (by omega),?_⟩;have:2 ^ k≤2 ^ 16:=Nat.pow_le_pow_right (by omega) hk;have:(2:Int) ^ k≤2 ^ 16:=by exact_mod_cast this
 simpa using this
theorem yA (k:Nat) (w:World) (hk:k≤16):Calls Tryz.prog 131 #[.int .i64 k] w fun e w'=>e=.returned (.int .i64 (2 ^ k))∧w=w':=by
 go_enter Tryz.func131,Tryz.ntmps131
 go_wp2
 go_loop [3,4] (fun n i=>∃j:Nat,j≤k∧i=.int .i64 j∧n=.int .i64 (2 ^ j)) (fun _ i=>k-(intOf i).toNat)
 case atStart=>exact ⟨0,by omega,rfl,rfl⟩
 case round =>
  obtain ⟨j,hj,rfl,rfl⟩:=hrel;by_cases aK:j < k
  ·have hb:=PU j (by omega);have h0:=hb.1;have h1:=hb.2;have HS:=aa (show (2:Int) ^ j+2 ^ j=2 ^ (j+1) by rw [Int.pow_succ];omega);clear hb;generalize hp:(2:Int) ^ j=p at *;clear hp
   go_wp2
   go_round
   case rel=>exact ⟨j+1,by omega,by go_num,by rw [←HS.o]⟩
   case measure=>simp [intOf];omega
  ·obtain rfl:j=k:=by omega
   go_wp2
   go_ret;exact ⟨rfl,rfl⟩
theorem WD (s:Int) (k:Nat) (hk:k < 16):s % 65536 / 2 ^ k % 2=s / 2 ^ k % 2:=by
 rcases (by omega:k=0∨k=1∨k=2∨k=3∨k=4∨k=5∨k=6∨k=7∨k=8∨k=9∨k=10∨k=11∨k=12∨k=13∨k=14∨k=15) with rfl|rfl|rfl|rfl|rfl|rfl|rfl|rfl|rfl|rfl|rfl|rfl|rfl|rfl|rfl|rfl <;>
 ·simp only [Int.reducePow];omega
theorem zX (x s:Int) (k:Nat) (hk:k < 16) (hx:x=s % 65536):((x / 2 ^ k).tmod 2==1)=df s k:=by
 have h0:0≤x / 2 ^ k:=Int.ediv_nonneg (by omega) (Int.le_of_lt (Int.pow_pos (by omega)));rw [Int.tmod_eq_emod_of_nonneg h0];subst hx;unfold df;rw [WD s k hk,Bool.eq_iff_iff];simp
theorem Fp (s:Int) (k:Nat) (w:World) (hk:k < 16) (hs:B1 s):Calls Tryz.prog 84 #[.int .i64 s,.int .i64 k] w fun e w'=>e=.returned (.bool (df s k))∧w=w':=by
 have i0:¬(k:Int) < 0:=by omega
 have i1:¬(15:Int) < k:=by omega
 have hb:=PU k (by omega);have p0:=hb.1;have p1:=hb.2;clear hb;by_cases h0:0≤s
 ·have HT:=aa (zX (s % 65536) s k hk rfl);go_enter Tryz.func84,Tryz.ntmps84;go_wp2_with fail;refine (yA k _ (by omega)).mono ?_;rintro e w' ⟨rfl,rfl⟩;go_wp2_with fail;go_ret;exact ⟨aE HT.o,rfl⟩
 ·have hd:=Int.mul_tdiv_add_tmod s 65536;have aK:=Int.lt_tmod_of_pos s (show (0:Int) < 65536 by omega)
  have hle:s.tmod 65536≤0:=by
   have:=Int.tmod_nonneg (a:=-s) 65536 (by omega);rw [Int.neg_tmod] at this;omega
  generalize hm:s.tmod 65536=m at *;generalize s.tdiv 65536=q at *;by_cases Au:m < 0
  ·have HT:=aa (zX (m+65536) s k hk (by omega));have HM:=aa hm;have m0:-65536 < m:=by omega
   clear hm hd hle aK;go_enter Tryz.func84,Tryz.ntmps84;have hm:=HM.o;go_wp2_with fail;clear hm;refine (yA k _ (by omega)).mono ?_;rintro e w' ⟨rfl,rfl⟩;go_wp2_with fail;go_ret;exact ⟨aE HT.o,rfl⟩
  ·obtain rfl:m=0:=by omega
   have HT:=aa (zX 0 s k hk (by omega));have HM:=aa hm;clear hm hd hle aK Au;go_enter Tryz.func84,Tryz.ntmps84;have hm:=HM.o;go_wp2_with fail;clear hm;refine (yA k _ (by omega)).mono ?_;rintro e w' ⟨rfl,rfl⟩;go_wp2_with fail;go_ret;exact ⟨aE (by simpa using HT.o),rfl⟩
end bits
namespace aU

open Go.RowKit Go.ChangeShapes Go.WideShapes Go.ChangeAt Go.Deep Go.Joins base obj mem bw bk record Go.Proofs.YtdldkkoplgkloaaGreat.bits sep bf bytes
theorem GP (h n:Int) (w:World) (ha:∀j,j < dw n→df h j=true):Calls Tryz.prog 96 #[.int .i64 h,.int .i64 n] w fun e w'=>e=.returned (.tuple #[.int .i64 0,.bool false])∧Below w.heap.size w w' :=
 (GO h n w).mono fun e w' ⟨h1,h2⟩=>⟨by
  rcases h1 with ⟨k,hk,hb,_⟩|⟨_,e⟩
  ·rw [ha k hk] at hb;exact absurd hb (by decide)
  ·exact e,h2⟩
theorem Rc (h n:Int) (w:World) (ha:¬∀j,j < dw n→df h j=true):Calls Tryz.prog 96 #[.int .i64 h,.int .i64 n] w fun e w'=>(∃k:Nat,e=.returned (.tuple #[.int .i64 k,.bool true]))∧Below w.heap.size w w' :=
 (GO h n w).mono fun e w' ⟨h1,h2⟩=>⟨by
  rcases h1 with ⟨k,_,_,_,e⟩|⟨h,_⟩
  ·exact ⟨k,e⟩
  ·exact absurd h ha,h2⟩
theorem Hh {w:World} {g d:Nat} {p k:Int} {s:bC} (h:Row w g 158 (dJ d p k s)) (hh:s.has=false):Calls Tryz.prog 53 #[.pointer (some ⟨g,0,none⟩)] w fun e w'=>e=.returned (.tuple #[.slice none 0 0,.int .i64 16])∧w'=w:=by
 obtain ⟨c0,c1,c2,c3,c4,c5,c6,lg⟩:=fp h;rw [hh] at c3;clear h;go_enter Tryz.func53,Tryz.ntmps53;go_wp2_with fail;go_ret2;exact ⟨rfl,rfl⟩
theorem zB {w:World} {g d:Nat} {p k:Int} {s:bC} (h:Row w g 158 (dJ d p k s)) (hh:s.has=true) (hr:s.st.right=true) (ha:¬qh s) :
  Calls Tryz.prog 53 #[.pointer (some ⟨g,0,none⟩)] w fun e w'=>e=.returned (.tuple #[.slice none 0 0,.int .i64 11])∧Below w.heap.size w w':=by
 obtain ⟨⟨z1,z2⟩,⟨z3,z4⟩,z5,z6⟩:=iD hr;have wm:dw ((aR s.st.size:Nat):Int)=aR s.st.size:=by unfold dw aR;omega
 have HF:=aa (fun w=>Rc s.st.bd ((aR s.st.size:Nat):Int) w (by rw [wm];exact ha));have HB:=aa (fun w=>record.ka w s.st.size (by omega) (by omega));obtain ⟨c0,c1,c2,c3,c4,c5,c6,lg⟩:=fp h;rw [hh] at c3;obtain ⟨b,hb⟩:∃b,b=aR s.st.size:=⟨_,rfl⟩
 rw [←hb] at HF HB;clear h hh hr ha wm hb z1 z2 z3 z4 z5 z6;go_enter Tryz.func53,Tryz.ntmps53;go_wp2_with fail
 go_region_held3 (fun w'=>w'.cell? ⟨g,5,none⟩=some (.int .i64 s.st.size)∧w'.cell? ⟨g,6,none⟩=some (.int .i64 s.st.bd)) (first|go_keep|(refine ⟨?_,?_⟩<;>(refine lu bn.o ?_;go_simp))) (first
  | ((with_reducible refine (HB.o _).mono ?_);rintro e w1 ⟨rfl,rfl⟩)
  | ((with_reducible refine (HF.o _).mono ?_);rintro e w1 ⟨⟨x,rfl⟩,hb⟩;have bn:=aa hb;clear hb))
 go_wp2_with fail;go_ret2;exact ⟨rfl,⟨bn.o.os,bn.o.tape,bn.o.output,bn.o.size,bn.o.block⟩⟩
theorem mD {w0 w:World} {l:List aD} {e size z c:Nat} {A:Option Addr} {L:List Value} (h:St w0 w (sep.own e size (.slice A z c) z L::l)) (hz:0 < z):∃(t:Nat) (xs:List Value),A=some ⟨t,0,none⟩∧z≤c∧xs.length=c*size∧xs.take (z*size)=L∧St w0 w (row t e xs::l):=by
 obtain ⟨F,⟨F1,F2,h1,h2,h3,h4⟩,k⟩:=h.sat;obtain ⟨⟨_,hv⟩,hF⟩:=h1;rcases hv with ⟨_,h0⟩|⟨t,cap,cur,hv,hb,hg,vY,tk,cX,pS⟩
 ·omega
 ·injection hv with hA _ hc
  subst hA;subst hc;refine ⟨t,cur.toList,rfl,vY,by simpa using cX,pS,h.aI,F,⟨F1,F2,⟨?_,fun i=>?_⟩,h2,h3,h4⟩,k⟩
  ·unfold Row;simpa using hg
  ·rw [hF i];simp [Value.ownBlock,eq_comm]
theorem oR {w0 w:World} {l:List aD} {g d:Nat} {m:DS} {p k:Int} {s:bC} (h:St w0 w (slt g d p k s::bU d m::l)) (hp:Pl m p k) (hh:s.has=true) (hr:s.st.right=true) (ha:qh s) (hd:m.down=false) (fY:m.waits.length≤1000) :
  Calls Tryz.prog 53 #[.pointer (some ⟨g,0,none⟩)] w fun e w'=>∃(t:Nat) (xs:List Value),e=.returned (.tuple #[.slice (some ⟨t,0,none⟩) s.st.size.toNat s.st.size.toNat,.int .i64 0])∧
   xs.take s.st.size.toNat=((qs m p k).take s.st.size.toNat).map (.int .u8)∧St w0 w' (row t 5 xs::slt g d p k s::bU d m::l):=by
 obtain ⟨⟨z1,z2⟩,⟨z3,z4⟩,z5,z6⟩:=iD hr;have wm:dw ((aR s.st.size:Nat):Int)=aR s.st.size:=by unfold dw aR;omega
 have HF:=aa (fun w=>GP s.st.bd ((aR s.st.size:Nat):Int) w (by rw [wm];exact ha));have HB:=aa (fun w=>record.ka w s.st.size (by omega) (by omega));obtain ⟨c0,c1,c2,c3,c4,c5,c6,lg⟩:=fp h.row.1;rw [hh] at c3;obtain ⟨b,hb⟩:∃b,b=aR s.st.size:=⟨_,rfl⟩
 rw [←hb] at HF HB;obtain ⟨n,hn⟩:∃n:Nat,(n:Int)=s.st.size:=⟨s.st.size.toNat,by omega⟩
 have Ep:s.st.size.toNat=n:=by omega
 rw [Ep];rw [←hn] at c5 HB;have Md:1≤n:=by omega
 have Er:n≤160:=by omega
 have H:=aa h;have HP:=aa hp;have HD:=aa hd;have HN:=aa hn;have HH:=aa hh;clear h hh hr ha wm hb z1 z2 z3 z4 z5 z6 hp hd Ep hn;go_enter Tryz.func53,Tryz.ntmps53;go_wp2_with fail
 go_region_held3 (fun w'=>w'.cell? ⟨g,5,none⟩=some (.int .i64 (n:Int))∧w'.cell? ⟨g,6,none⟩=some (.int .i64 s.st.bd)) (first|go_keep|(refine ⟨?_,?_⟩<;>(refine lu bn.o ?_;go_simp))) (first
  | ((with_reducible refine (HB.o _).mono ?_);rintro e w1 ⟨rfl,rfl⟩)
  | ((with_reducible refine (HF.o _).mono ?_);rintro e w1 ⟨rfl,hb⟩;have bn:=aa hb;clear hb))
 have H1:=aa (H.o.drew.below bn.o)
 have ua:=aa (show St w0 w1 (sep.own 5 1 (.slice none 0 0) 0 (((qs m p k).take 0).map (.int .u8))::slt g d p k s::bU d m::l) by
  refine H1.o.cQ (Below.refl _ _) ?_;rw [List.take_zero]
  exact World.ownsRow_nil _ _ _ _)
 clear c0 c1 c2 c3 c4 c5 c6 lg;go_wp2_with fail;go_loopw [6,7] (fun v i wr=>∃(q:Nat) (A:Option Addr) (c:Nat),q≤3∧(0 < q→64*(q-1) < n)∧v=.slice A (64*q) c∧i=.int .i64 q∧St w0 wr (sep.own 5 1 (.slice A (64*q) c) (64*q) (((qs m p k).take (64*q)).map (.int .u8))::slt g d p k s::bU d m::l)) (fun _ i _=>3-(intOf i).toNat)
 case atStart=>exact ⟨0,none,0,by omega,by omega,rfl,rfl,ua.o⟩
 case round =>
  obtain ⟨q,A,c,hq,El,rfl,rfl,hi⟩:=hrel;have HI:=aa hi;clear hi H1 ua;obtain ⟨c0,c1,c2,c3,c4,c5,c6,lg⟩:=fp (HI.o.pick 1 rfl).row.1;rw [←HN.o] at c5;obtain ⟨z,hz⟩:∃z,z=64*q:=⟨_,rfl⟩
  have HZ:=aa hz;rw [←hz] at HI ⊢;clear hz;by_cases aK:z < n
  ·have cZ:(z:Int) < (n:Int):=by omega
   have hq3:q < 3:=by have:=HZ.o;omega
   have tD:=aa HP.o.pk;have E7:=aa (fun w=>place.BS p k (q:Int) w tD.o.p0 tD.o.p1 tD.o.k0 tD.o.k1 (by omega) (by omega));obtain ⟨at_,j9⟩:∃at_,at_=eH p k (q:Int):=⟨_,rfl⟩
   rw [show p*10+(2+k*4+1+(q:Int))=at_ by rw [j9];rfl] at E7;obtain ⟨a0,a1⟩:=HP.o.at_ (i:=(q:Int)) (by omega) (by omega);rw [←j9] at a0 a1;obtain ⟨bs,fZ⟩:∃bs,bs=m.now at_.toNat:=⟨_,rfl⟩
   have ch:=aa (show bs.length=64 by rw [fZ];exact HP.o.b8.BI (by omega))
   have oc:=aa (fun (w1:World) (ls:List aD) (h1:St w0 w1 (bU d m::ls))=>by
    have h:=yX h1 at_ at_.toNat (by omega) (by omega) HD.o (by omega);rw [←fZ] at h
    exact h)
   have abT:=aa (show (qs m p k).take z++bs=(qs m p k).take (64*(q+1)) by
    rw [HZ.o,fZ,j9,Nat.mul_succ,List.take_add]
    congr 1
    unfold qs;have l0:=HP.o.len (i:=0) (by omega) (by omega);have l1:=HP.o.len (i:=1) (by omega) (by omega);have l2:=HP.o.len (i:=2) (by omega) (by omega);have hq':q=0∨q=1∨q=2:=by omega
    rcases hq' with rfl|rfl|rfl
    ·rw [List.drop_zero,List.take_append_of_le_length (by omega),List.take_of_length_le (by omega)];rfl
    ·rw [List.drop_append,List.drop_of_length_le (by omega),List.nil_append,l0,List.drop_zero,List.take_append_of_le_length (by omega),List.take_of_length_le (by omega)];rfl
    ·rw [List.drop_append,List.drop_of_length_le (by omega),List.nil_append,l0,List.drop_append,List.drop_of_length_le (by omega),List.nil_append,l1,List.drop_zero,List.take_of_length_le (by omega)];rfl)
   clear j9 fZ;go_wp2_with fail
   go_region_held3 (fun w'=>w'.cell? ⟨g,1,none⟩=some (.int .i64 p)∧w'.cell? ⟨g,2,none⟩=some (.int .i64 k)) (first|go_keep|(refine ⟨?_,?_⟩<;>(refine lu aO.o ?_;go_simp))) (((with_reducible refine (E7.o _).mono ?_);rintro e w2 ⟨rfl,hb⟩;have aO:=aa hb;clear hb))
   have H2:=aa (HI.o.drew.below aO.o);clear c0 c1 c2 c3 c4 c5 c6 lg;obtain ⟨c0,c1,c2,c3,c4,c5,c6,lg⟩:=fp (H2.o.pick 1 rfl).row.1;go_wp2_with fail;refine (oc.o _ _ (H2.o.pick 2 rfl)).mono ?_;rintro e w3 ⟨t,rfl,h3⟩;have H3:=aa (h3.pick 2 rfl);clear h3;have KX:=aa (pF (H3.o.pick 1 rfl).row.1 ch.o);clear c0 c1 c2 c3 c4 c5 c6 lg;go_wp2_with (refine sI qW rfl (.tmp 72) (.tmp 73) rfl H3.o.own rfl rfl KX.o (iO bs) (by omega) (by omega) (by unfold maxLen;omega) (H3.o.aI.size) ?_;intro g2 cap w4 ho hg kr JW;have H4:=aa (H3.o.grown hg ho (fun x hx=>by injection hx with hx;rw [←hx];exact kr));clear ho hg kr);go_roundw
   case rel=>exact ⟨q+1,some ⟨g2,0,none⟩,cap,by omega,fun _=>by have:=HZ.o;rw [Nat.add_sub_cancel];omega,by rw [HZ.o,Nat.mul_succ],by go_num,by
    have h:=H4.o;rw [←List.map_append,abT.o,show z+64=64*(q+1) by rw [HZ.o,Nat.mul_succ]] at h
    exact ((h.pick 1 rfl).drop.pick 2 rfl).swap⟩
   case measure=>simp [intOf]<;>omega
  ·have zx:n≤z:=by omega
   have cZ:¬(z:Int) < (n:Int):=by omega
   have iu:s.st.size=(n:Int):=HN.o.symm;have R7:=aa (aH HI.o.own)
   have Qr:z≤c:=by
    obtain ⟨A',c',e,hc,_⟩:=R7.o;injection e with _ _ e
    omega
   clear iu;go_wp2_with fail;go_quiet (fail);go_wp2_with fail;go_ret2;obtain ⟨t,xs,hA,_,_,Gq,av⟩:=mD HI.o (by omega);subst hA;refine ⟨t,xs,rfl,?_,av.drewN nq⟩;have h:=congrArg (List.take n) Gq;rw [Nat.mul_one,List.take_take,Nat.min_eq_left zx,←List.map_take,List.take_take,Nat.min_eq_left zx] at h;exact h
end aU
namespace aU

open Go.RowKit Go.ChangeShapes Go.WideShapes Go.ChangeAt Go.Deep Go.Joins base obj mem bw bk record Go.Proofs.YtdldkkoplgkloaaGreat.bits sep bf bytes
def Oo (y:Int) (n:Nat):List Int:=(List.range n).map fun i:Nat=>(y+3*(i:Int)) % 256
theorem Rf (y:Int) (n:Nat):bo (Oo y n):=fun z hz=>by
 obtain ⟨i,_,rfl⟩:=List.mem_map.1 hz;omega
theorem take_set {l:List Value} {q:Nat} (hq:q < l.length) (v:Value):(l.set q v).take (q+1)=l.take q++[v]:=by
 rw [jz (by simpa using hq)];simp [List.take_set_of_le]
theorem Jz (w:World):(Instr.makeSlice 24 (.int .i64 16) (.int .i64 16)).run Tryz.prog w=.ok (.slice (some ⟨w.heap.size,0,none⟩) 16 16) (w.alloc (.cells (Array.replicate 16 (.int .u8 0)) 5)):=by
 have h:=uC 16 (by decide) w;rw [show ((16:Nat):Int)=16 from rfl] at h;rw [h];rfl
def Vt (long:Bool):Nat:=if long then 17 else 16
end aU
namespace aU

open Go.RowKit Go.ChangeShapes Go.WideShapes Go.ChangeAt Go.Deep Go.Joins base obj mem bw bk record Go.Proofs.YtdldkkoplgkloaaGreat.bits sep bf bytes
theorem iX {w0 w:World} {l:List aD} {g d:Nat} {m:DS} {p k:Int} {s:bC} (h:St w0 w (slt g d p k s::bU d m::l)) (hp:Pl m p k) (hr:s.has=true→s.st.right=true) (fY:m.waits.length≤800) (se no:Int) (A:Option Addr) (n c:Nat) (data:List Int) (hn:data.length=n)
  (hs:∀w' m',St w0 w' (slt g d p k s::bU d m'::l)→Sl w' w'.heap.size 1 A n (data.map (.int .u8))) :
  Calls Tryz.prog 51 #[.pointer (some ⟨g,0,none⟩),.int .i64 se,.int .i64 no,.slice A n c] w fun e w'=>e=.returned (.int .i64 (ig m p k s se no data).1)∧St w0 w' (slt g d p k (ig m p k s se no data).2.2::bU d (ig m p k s se no data).2.1::l):=by
 by_cases hw:gQ s se no n=0
 ·obtain ⟨hh,w1,w2,w3,w4⟩:=sR hw;subst w4;obtain ⟨q,rfl⟩:=Int.eq_ofNat_of_zero_le w2
  have hq:q < 16:=by
   have:=(iD (hr hh)).2.1;unfold aR at w3;omega
  cases hb:df s.st.bd q with
  | true =>
    have e:ig m p k s se q data=(0,m,s):=by
     unfold ig;rw [hn,if_neg (not_not_intro hw),ea,if_pos hb]
    rw [e];exact Wg h hr se q hq A 16 c hw hb
  | false=>exact Wf h hp hr fY se q A c data hn hs hw hb
 ·have e:ig m p k s se no data=(gQ s se no n,m,s):=by
   unfold ig;rw [hn,if_pos hw]
  rw [e];exact PO h hr se no A n c hw
def qi (w0:World) (B:aD) (A:Option Addr) (n:Nat) (bs:List Int):Prop:=bs.length=n∧∀w l,St w0 w (B::l)→Sl w w.heap.size 1 A n (bs.map (.int .u8))
theorem oJ {w0:World} {t n:Nat} {xs:List Value} {bs:List Int} (hl:bs.length=n) (hx:xs.take n=bs.map (.int .u8)):qi w0 (row t 5 xs) (some ⟨t,0,none⟩) n bs :=
 ⟨hl,fun w l h=>h.row.1.sl (o:=0) h.row.1.lt (by rw [List.drop_zero,Nat.mul_one,hx]) (by simpa using hl)⟩
theorem oK (w0:World):qi w0 (fact True) none 0 []:=⟨rfl,fun w l h=>Sl.Fy _ _ _⟩
theorem KB {m:DS} {p k:Int} {s:bC} (hd:m.down=false):(cE m p k s=([],16)∧s.has=false)∨(cE m p k s=([],11)∧s.has=true∧¬qh s)∨(cE m p k s=((qs m p k).take s.st.size.toNat,0)∧s.has=true∧qh s):=by
 unfold cE;cases hh:s.has with
 | false=>exact .inl ⟨rfl,rfl⟩
 | true =>
   rw [if_neg (show ¬(true=false) by decide),hd];by_cases ha:qh s
   ·rw [if_neg (not_not_intro ha)];exact .inr (.inr ⟨rfl,rfl,ha⟩)
   ·rw [if_pos ha];exact .inr (.inl ⟨rfl,rfl,ha⟩)
theorem Uh {m:DS} {p k:Int} (h:Pl m p k):(qs m p k).length=192:=by
 unfold qs;rw [gA,gA,h.len (by omega) (by omega),h.len (by omega) (by omega),h.len (by omega) (by omega)]
theorem Ui {w0 w:World} {l:List aD} {g d:Nat} {m:DS} {p k:Int} {s:bC} (h:St w0 w (slt g d p k s::bU d m::l)) (hp:Pl m p k) (hr:s.has=true→s.st.right=true) (hd:m.down=false) (fY:m.waits.length≤1000) :
  Calls Tryz.prog 53 #[.pointer (some ⟨g,0,none⟩)] w fun e w'=>∃A n B,e=.returned (.tuple #[.slice A n n,.int .i64 (cE m p k s).2])∧qi w0 B A n (cE m p k s).1∧St w0 w' (B::slt g d p k s::bU d m::l):=by
 rcases KB (p:=p) (k:=k) (s:=s) hd with ⟨e,hh⟩|⟨e,hh,ha⟩|⟨e,hh,ha⟩
 ·rw [e];exact (Hh h.row.1 hh).mono fun e w' ⟨h1,h2⟩=>⟨none,0,fact True,h1,oK _,by rw [h2];exact h.addFact trivial⟩
 ·rw [e];exact (zB h.row.1 hh (hr hh) ha).mono fun e w' ⟨h1,h2⟩=>⟨none,0,fact True,h1,oK _,(h.below h2).addFact trivial⟩
 ·rw [e];refine (oR h hp hh (hr hh) ha hd fY).mono fun e w' ⟨t,xs,h1,h2,h3⟩=>⟨some ⟨t,0,none⟩,_,row t 5 xs,h1,oJ ?_ h2,h3⟩
  have:=(iD (hr hh)).2.1;rw [fv,Uh hp];omega
end aU
namespace aU

open Go.RowKit Go.ChangeShapes Go.WideShapes Go.ChangeAt Go.Deep Go.Joins base obj mem bw bk record Go.Proofs.YtdldkkoplgkloaaGreat.bits sep bf bytes same
theorem SI.right {m:DS} {p k:Int} {s:bC} {R:RS} {jD:Option RS} (h:SI m p k s R jD):s.has=true→s.st.right=true:=h.mem.right
theorem SI.Rv {m:DS} {p k:Int} {s:bC} {R:RS} (h:SI m p k s R Option.none) (hu:m.Up) (se sz:Int):(fU m p k s se sz).1=(fF R se sz).1∧SI (fU m p k s se sz).2.1 p k (fU m p k s se sz).2.2 (fF R se sz).2 Option.none∧(fU m p k s se sz).2.1.Up:=by
 have Ck:=Uq h.pl hu s se sz;exact ⟨((h.begin se sz).up Ck).1,((h.begin se sz).up Ck).2,Ck⟩
theorem SI.X0 {m:DS} {p k:Int} {s:bC} {R:RS} (h:SI m p k s R Option.none) (hu:m.Up) (se no:Int) {data:List Int} (hb:bo data):(ig m p k s se no data).1=(jU R se no data).1∧SI (ig m p k s se no data).2.1 p k (ig m p k s se no data).2.2 (jU R se no data).2 Option.none∧(ig m p k s se no data).2.1.Up:=by
 have Ck:=XX h.pl hu h.right se no hb;exact ⟨((h.put se no hb).up Ck).1,((h.put se no hb).up Ck).2,Ck⟩
theorem SI.Kz {m:DS} {p k:Int} {s:bC} {R:RS} (h:SI m p k s R Option.none) (hu:m.down=false):cE m p k s=dt R:=Uj h.pl h.mem (h.up hu).2.2.1 hu
theorem Sv (m:DS) (i:Int) (bs:List Int) (j:Int) (cs:List Int):(xm m i bs j cs).2.az.length=m.az.length:=by
 unfold xm;split
 ·rw [jB,jB]
 ·exact jB _ _ _
theorem z9 (m:DS) (p k:Int) (s:bC) (se no:Int) (data:List Int):(ig m p k s se no data).2.1.az.length=m.az.length:=by
 unfold ig;split
 ·rfl
 ·split
  ·rfl
  ·split
   ·rfl
   ·split<;>exact Sv _ _ _ _ _
end aU
namespace aU

open Go.RowKit Go.ChangeShapes Go.WideShapes Go.ChangeAt Go.Deep Go.Joins base obj mem bw bk record Go.Proofs.YtdldkkoplgkloaaGreat.bits sep bf bytes
def Outside (p k:Int) (j:Nat):Prop:=(j:Int) < bM p k∨bM p k+4≤(j:Int)
theorem BG {p k:Int} {j:Nat} (h:Outside p k j) (h0:0≤bM p k):j≠(bM p k).toNat:=by
 unfold Outside at h;omega
theorem Ju {p k i:Int} {j:Nat} (h:Outside p k j) (h0:0≤bM p k) (i0:0≤i) (i3:i < 3):j≠(eH p k i).toNat:=by
 unfold Outside bM at h;unfold bM at h0;unfold eH;omega
theorem Ho {m:DS} {p k:Int} (h:Pl m p k) (s:bC) (se sz:Int) {j:Nat} (hj:Outside p k j):(fU m p k s se sz).2.1.now j=m.now j:=by
 have key:=yl h.b8 h.own.1 h.own.2 (aS.di ⟨se,sz,0⟩) (BG hj h.own.1);unfold fU;split
 ·split<;>exact key
 ·rfl
theorem Ro {m:DS} {p k:Int} (h:Pl m p k) (s:bC) {j:Nat} (hj:Outside p k j):(ja m p k s).2.1.now j=m.now j:=by
 have key:=yl h.b8 h.own.1 h.own.2 (show br.length=64 from rfl) (BG hj h.own.1);unfold ja;split<;>exact key
theorem LS {m:DS} {p k:Int} (h:Pl m p k) {s:bC} (hs:s.has=true→s.st.right=true) (se no:Int) {data:List Int} (Cr:bo data) {j:Nat} (hj:Outside p k j):(ig m p k s se no data).2.1.now j=m.now j:=by
 unfold ig;by_cases hw:gQ s se no data.length=0
 ·rw [if_neg (not_not_intro hw)];obtain ⟨hh,w1,w2,w3,w4⟩:=sR hw;obtain ⟨n,rfl⟩:=Int.eq_ofNat_of_zero_le w2;rw [ea];split
  ·rfl
  ·split
   ·rfl
   ·have FH:n < 10:=by
     have:=(iD (hs hh)).2.1;unfold aR at w3;omega
    have hq:((n:Int) / 4)=((n / 4:Nat):Int):=by omega
    rw [hq];obtain ⟨d0,d1⟩:=h.at_ (i:=((n / 4:Nat):Int)) (by omega) (by omega);have dB:=qc (h.len (i:=((n / 4:Nat):Int)) (by omega) (by omega)) n w4;have uW:=yr (h.jm.now (eH p k ((n / 4:Nat):Int)).toNat) n Cr;have rC:=h.wf (eH p k ((n / 4:Nat):Int)) uW;have k1:=yl h.b8 d0 d1 dB (Ju hj h.own.1 (i:=((n / 4:Nat):Int)) (by omega) (by omega));have k2:=yl rC.b8 rC.own.1 rC.own.2 (aS.di (sY s.st n)) (BG hj h.own.1)
    have key:(xm m (eH p k ((n / 4:Nat):Int)) (splice (m.now (eH p k ((n / 4:Nat):Int)).toNat) n data) (bM p k) (sY s.st n).bytes).2.now j=m.now j:=by
     unfold xm;split
     ·rw [k2,k1]
     ·exact k1
    split<;>exact key
 ·rw [if_pos hw]
theorem SI.other {m m':DS} {p k:Int} {s:bC} {R:RS} (h:SI m p k s R Option.none) (hu:m.down=false) (hg:m'.Good) (hb:m'.iU) (hl:m'.az.length=m.az.length) (hw:m'.waits=[]) (hd:m'.down=false)
  (hn:∀j,¬Outside p k j→m'.now j=m.now j):SI m' p k s R Option.none:=by
 obtain ⟨u1,u2,u3,u4⟩:=h.up hu;have hi:∀i:Int,0≤i→i < 3→¬Outside p k (eH p k i).toNat:=fun i i0 i3 ho=>Ju ho h.pl.own.1 i0 i3 rfl;refine ⟨⟨hg,hb,h.pl.p0,h.pl.p1,h.pl.k0,h.pl.k1,by rw [hl];exact h.pl.room⟩,h.mem,by rw [hw];simp,fun _=>⟨rfl,hw,fun j hj=>?_,?_⟩,fun h'=>absurd (hd.symm.trans h') (by decide)⟩
 ·have iZ:=BN hj;have:=h.mem.l9;rw [←u3 j hj];unfold AV;rw [hn _ (hi _ (by omega) (by omega))]
 ·exact (mQ (hn _ fun ho=>BG ho h.pl.own.1 rfl)).trans u4
structure Bq where
 kind:Int
 n:Int
 size:Int
 no:Int
 Rt:Int
 long:Bool
 keep:Int
instance:Inhabited Bq:=⟨⟨0,0,0,0,0,false,0⟩⟩
structure Bq.Ok (a:Bq):Prop where
 n:qL a.n
 size:qL a.size
 no:qL a.no
 by0:0≤a.Rt
 by1:a.Rt≤255
 ab1:0≤a.keep
 ab0:a.keep≤18446744073709551615
def Bq.cells (a:Bq):List Value:=[.int .i64 a.kind,.int .i64 a.n,.int .i64 a.size,.int .i64 a.no,.int .u8 a.Rt,.bool a.long,.int .u64 a.keep]
theorem Pz {H:Type} {enc:TypeId×Value→H} {P:Program} {W:World} {e:TypeId} {fs:Array Field} {cs:List Value} {m:Nat} {x:DataW H×List MemPlace} (he:P.underlying e=some (.struct fs))
  (h:DataW.trod enc P W 0 (fun _=>true) true m e cs=some x):∀(j:Nat) (f:Field) (n:Nat),fs[j]?=some f→P.cellsOf f.type=n→∃(k:Nat) (y:DataW H×List MemPlace),DataW.trod enc P W 0 (fun _=>true) true k f.type ((cs.drop f.offset).take n)=some y:=by
 obtain ⟨ys,n',uZ,hy,hlen,ru,hf⟩:=DataW.trod_struct he h;intro j f n hj hn;subst hn;have iZ:j < fs.size:=(Array.getElem?_eq_some_iff.1 hj).1;have rq:ys[j]?=some (ys[j]'(by rw [ru];exact iZ)):=cM _;exact ⟨n',_,(hf j f hj).trans rq⟩
end aU
namespace aU

open Go.RowKit Go.ChangeShapes Go.WideShapes Go.ChangeAt Go.Deep Go.Joins base obj mem bw bk record Go.Proofs.YtdldkkoplgkloaaGreat.bits sep bf bytes
section
variable {w0 w : World} {g d go : Nat} {p k p' k' : Int} {m : DS} {s : bC} {R : RS} {s' : bC} {R' : RS} {l : List aD}
end
end aU
namespace aU

open Go.RowKit Go.ChangeShapes Go.WideShapes Go.ChangeAt Go.Deep Go.Joins base obj mem bw bk record Go.Proofs.YtdldkkoplgkloaaGreat.bits sep bf bytes
theorem Qo:(Tryz.prog.info? 24).map (fun i=>(i.zero,i.size,i.bytes))=some (some (.slice none 0 0),1,24):=by kernel_rfl
theorem aaw:pX Tryz.prog 116 24 1 24:=by
 obtain ⟨i0,hi,j8,mF,iq⟩:=info_parts Qo;exact ⟨Tryz.underlying116,⟨i0,_,hi,j8,mF,iq,rfl⟩,by decide⟩
def eL (P:List (Nat×List Value)):aD:=dr (P.map fun x=>row x.1 5 x.2)
theorem Jr {w0 w:World} {P:List (Nat×List Value)} {l:List aD} (h:St w0 w (eL P::l)) {x:Nat×List Value} (hx:x∈P):Row w x.1 5 x.2∧w0.heap.size≤x.1:=by
 obtain ⟨a,b,rfl⟩:=List.append_of_mem hx;have h2:=h.fI;rw [List.map_append,List.map_cons,List.append_assoc,List.cons_append] at h2;exact (h2.perm List.perm_middle).row
theorem Js {w0 w:World} {P:List (Nat×List Value)} {l:List aD} {g:Nat} {xs:List Value} (h:St w0 w (row g 5 xs::eL P::l)):St w0 w (eL ((g,xs)::P)::l):=by
 have h2:=h.swap.fI;exact St.eR (L:=((g,xs)::P).map fun x=>row x.1 5 x.2) (h2.perm List.perm_middle)
def HB (P:List (Nat×List Value)) (b:List Int) (v:Value):Prop:=(b=[]∧v=.slice none 0 0)∨(b.length=16∧∃g c xs,(g,xs)∈P∧v=.slice (some ⟨g,0,none⟩) 16 c∧xs.take 16=b.map (.int .u8))
def o8 (P:List (Nat×List Value)) (bs:List (List Int)) (vs:List Value):Prop:=vs.length=bs.length∧∀(i:Nat) (b:List Int) (v:Value),bs[i]?=some b→vs[i]?=some v→HB P b v
theorem HB.mono {P P':List (Nat×List Value)} {b:List Int} {v:Value} (h:HB P b v) (hp:∀x∈P,x∈P'):HB P' b v:=by
 rcases h with h|⟨h1,g,c,xs,h2,h3⟩
 ·exact .inl h
 ·exact .inr ⟨h1,g,c,xs,hp _ h2,h3⟩
theorem o8.mono {P P':List (Nat×List Value)} {bs:List (List Int)} {vs:List Value} (h:o8 P bs vs) (hp:∀x∈P,x∈P'):o8 P' bs vs:=⟨h.1,fun i b v h1 h2=>(h.2 i b v h1 h2).mono hp⟩
theorem HB.one {P:List (Nat×List Value)} {b:List Int} {v:Value} (h:HB P b v):v.oneCell'=true:=by
 rcases h with ⟨_,rfl⟩|⟨_,g,c,xs,_,rfl,_⟩<;>rfl
theorem o8.one {P:List (Nat×List Value)} {bs:List (List Int)} {vs:List Value} (h:o8 P bs vs):∀u∈vs,u.oneCell'=true:=by
 intro u hu;obtain ⟨i,hi,e⟩:=List.getElem_of_mem hu;exact (h.2 i (bs[i]'(by rw [←h.1];exact hi)) u (cM _) (by rw [cM hi,e])).one
def bE (R:RS) (v:Value):List Value:=[.bool R.has,.int .i64 R.st.aG,.int .i64 R.st.size,.int .i64 R.st.bd,v]
theorem WB (k:Nat) (hk:k≤1000) (w:World):(Instr.makeSlice 116 (.int .i64 (k:Int)) (.int .i64 (k:Int))).run Tryz.prog w=.ok (.slice (some ⟨w.heap.size,0,none⟩) k k) (w.alloc (.cells (List.replicate k (Value.slice none 0 0)).toArray 24)):=by
 rw [run_make_row' (P:=Tryz.prog) 116 24 (.slice none 0 0) 24 Tryz.underlying116 Qo rfl .i64 .i64 k (by omega) (by omega) w]
 congr 2
 congr 1
 apply Array.ext
 ·simp [madeCells]
 ·intro i h1 h2;simp [madeCells,Nat.mod_one]
end aU
namespace aU

open Go.RowKit Go.ChangeShapes Go.WideShapes Go.ChangeAt Go.Deep Go.Joins base obj mem bw bk record Go.Proofs.YtdldkkoplgkloaaGreat.bits sep bf bytes
theorem M3 {R:RS} {se no:Int} {n:Nat} (h:jv R se no n=0):R.has=true∧0≤no∧no < (R.blocks.length:Int)∧n=16:=by
 unfold jv at h;cases hh:R.has with
 | false=>rw [hh,if_pos rfl] at h;exact absurd h (by decide)
 | true =>
   rw [hh,if_neg (show ¬(true=false) by decide)] at h;split at h
   ·exact absurd h (by decide)
   ·split at h
    ·exact absurd h (by decide)
    ·split at h
     ·exact absurd h (by decide)
     ·refine ⟨rfl,by omega,by omega,by omega⟩
theorem o8.set {P:List (Nat×List Value)} {bs:List (List Int)} {vs:List Value} (h:o8 P bs vs) {k:Nat} {b:List Int} {v:Value} (hv:HB P b v):o8 P (bs.set k b) (vs.set k v):=by
 refine ⟨by simp [h.1],fun i b' v' h1 h2=>?_⟩;rw [List.getElem?_set] at h1 h2;by_cases e:k=i
 ·rw [if_pos e] at h1 h2;split at h1
  ·split at h2
   ·injection h1 with h1;injection h2 with h2
    subst h1;subst h2;exact hv
   ·exact absurd h2 (by simp)
  ·exact absurd h1 (by simp)
 ·rw [if_neg e] at h1 h2;exact h.2 i b' v' h1 h2
end aU
namespace aU

open Go.RowKit Go.ChangeShapes Go.WideShapes Go.ChangeAt Go.Deep Go.Joins base obj mem bw bk record Go.Proofs.YtdldkkoplgkloaaGreat.bits sep bf bytes
structure wF (R:RS):Prop where
 none:R.has=false→R=RS.none
 size:R.has=true→1≤R.st.size∧R.st.size≤160∧R.blocks.length=aR R.st.size
theorem wF.b10 {R:RS} (h:wF R):R.blocks.length≤10:=by
 cases hh:R.has with
 | false=>rw [h.none hh];simp [RS.none]
 | true =>
   obtain ⟨h1,h2,h3⟩:=h.size hh;rw [h3];unfold aR;omega
structure Seen (R:RS) (q:Nat):Prop where
 all:∀j b,j < q→R.blocks[j]?=some b→b≠[]
theorem Seen.len {R:RS} {q:Nat} {P:List (Nat×List Value)} {vs:List Value} (h:Seen R q) (hb:o8 P R.blocks vs) (hq:q≤R.blocks.length):(R.blocks.take q).flatten.length=16*q:=by
 induction q with
 | zero=>rfl
 | succ q ih =>
   have hl:q < R.blocks.length:=hq;rw [jz hl,List.flatten_append,gA,ih ⟨fun j b hj=>h.all j b (by omega)⟩ (by omega)];rcases hb.2 q R.blocks[q] (vs[q]'(by rw [hb.1];exact hl)) (cM _) (cM _) with ⟨e,_⟩|⟨e,_⟩
   ·exact absurd e (h.all q _ (by omega) (cM _))
   ·simp [e];omega
end aU
namespace aU

open Go.RowKit Go.ChangeShapes Go.WideShapes Go.ChangeAt Go.Deep Go.Joins base obj mem bw bk record Go.Proofs.YtdldkkoplgkloaaGreat.bits sep bf bytes same
def doR (R:RS) (a:Bq):Int×RS:=if a.kind=0 then fF R a.n a.size else if a.kind=1 then jU R a.n a.no (Oo a.Rt (Vt a.long)) else (0,RS.none)
def Alike (m:DS) (p k:Int) (s:bC) (R:RS):Prop:=s.has=R.has∧(s.has=true→s.st=R.st)∧cE m p k s=dt R
instance (m:DS) (p k:Int) (s:bC) (R:RS):Decidable (Alike m p k s R):=by
 unfold Alike
 infer_instance
end aU
namespace aU

open base bw bk record Go.Proofs.YtdldkkoplgkloaaGreat.bits
def Zn (m:DS) (p k:Int) (s:bC) (a:Bq):Int×DS×bC :=
 if a.kind=0 then fU m p k s a.n a.size else if a.kind=1 then ig m p k s a.n a.no (Oo a.Rt (Vt a.long)) else ja m p k s
theorem SI.act {m:DS} {p k:Int} {s:bC} {R:RS} {jD:Option RS} (h:SI m p k s R jD) (a:Bq):Stepped m p k s R jD (Zn m p k s a) (doR R a):=by
 unfold Zn doR;by_cases h0:a.kind=0
 ·rw [if_pos h0,if_pos h0];exact h.begin _ _
 ·rw [if_neg h0,if_neg h0];by_cases h1:a.kind=1
  ·rw [if_pos h1,if_pos h1];exact h.put _ _ (Rf _ _)
  ·rw [if_neg h1,if_neg h1];exact h.clear
theorem wF.ZU {s:bC} {R:RS} (h:qv s R):wF R:=by
 refine ⟨fun hh=>h.none (h.has.trans hh),fun hh=>?_⟩;have h1:=h.has.trans hh;have h2:=(iD (h.right h1)).2.1;have h3:=h.len h1;rw [h.st] at h2 h3;exact ⟨h2.1,h2.2,h3⟩
theorem OD {R:RS} (h:wF R):(dt R).1.length≤1000:=by
 unfold dt;split
 ·simp
 ·split
  ·simp
  ·rename_i hh _
   have h1:R.has=true:=by simpa using hh
   have h2:=h.size h1;simp only;rw [fv];omega
theorem EM {m:DS} {p k:Int} {s:bC} (h:s.has=true→s.st.right=true):(cE m p k s).1.length≤1000:=by
 unfold cE;split
 ·simp
 ·split
  ·simp
  ·split
   ·simp
   ·rename_i hh _ _
    have h1:s.has=true:=by simpa using hh
    have h2:=(iD (h h1)).2.1;simp only;rw [fv];omega
end aU
namespace bP

open Go.RowKit base obj mem bw bk record sep bf
def fO (d:Nat) (part MF ME held:Int) (r:Rec):List Value:=[.pointer (some ⟨d,0,none⟩),.int .i64 part,.int .i64 MF,.int .i64 ME,.int .i64 held]++r.cells.toList
def log (g d:Nat) (part:Int) (held:Int) (r:Rec):aD:=row g 155 (fO d part (part*10) (part*10+1) held r)
theorem qq {w0 w:World} {l:List aD} {g d:Nat} {part MF ME held:Int} {r:Rec} (h:St w0 w (row g 155 (fO d part MF ME held r)::l)) :
  w.cell? ⟨g,0,none⟩=some (.pointer (some ⟨d,0,none⟩))∧w.cell? ⟨g,1,none⟩=some (.int .i64 part)∧w.cell? ⟨g,2,none⟩=some (.int .i64 MF)∧w.cell? ⟨g,3,none⟩=some (.int .i64 ME)∧w.cell? ⟨g,4,none⟩=some (.int .i64 held)∧g < w.heap.size:=by
 have h1:=h.row.1;exact ⟨h1.cell 0,h1.cell 1,h1.cell 2,h1.cell 3,h1.cell 4,h1.lt⟩
theorem Fz {w0 w:World} {l:List aD} {g d:Nat} {part MF ME held:Int} {r:Rec} (h:St w0 w (row g 155 (fO d part MF ME held r)::l)) :
  w.cell? ⟨g,5,none⟩=some (.int .i64 r.part)∧w.cell? ⟨g,6,none⟩=some (.int .i64 r.seq)∧w.cell? ⟨g,7,none⟩=some (.int .i64 r.ax)∧w.cell? ⟨g,8,none⟩=some (.int .i64 r.aj)∧w.cell? ⟨g,9,none⟩=some (.int .i64 r.left)∧w.cell? ⟨g,10,none⟩=some (.int .i64 r.bad):=by
 have h1:=h.row.1;exact ⟨h1.cell 5,h1.cell 6,h1.cell 7,h1.cell 8,h1.cell 9,h1.cell 10⟩
def qE (part:Int):Bool:=decide (0≤part∧part < 4)
def roomFor (part:Int) (len:Nat):Bool:=decide (0≤part∧part < 4∧part*10+1 < (len:Int))
theorem Kv (p c:Int) (w:World) (hc:0≤c∧c < 2):Calls Tryz.prog 166 #[.int .i64 p,.int .i64 c] w fun e w'=>(∃a b,e=.returned (.tuple #[.int .i64 a,.bool b])∧b=qE p∧(b=true→a=p*10+c))∧Below w.heap.size w w':=by
 by_cases h:0≤p∧p < 4
 ·exact (place.Rn p c w h.1 h.2 hc.1 hc.2).mono fun e w' ⟨h1,h2⟩=>⟨⟨_,_,h1,by simp [qE,h],fun _=>rfl⟩,h2⟩
 ·exact (place.Oz p c w (by omega)).mono fun e w' ⟨h1,h2⟩=>⟨⟨_,_,h1,by simp [qE,h],fun h=>by simp at h⟩,h2⟩
def aau (w0:World) (l:List aD) (d:Nat) (m:DS) (part:Int) (n:Nat) (e:Ending) (w':World):Prop :=
 (roomFor part n=true→∃g,e=.returned (.tuple #[.pointer (some ⟨g,0,none⟩),.int .i64 0])∧St w0 w' (log g d part (-1) Rec.zero::bU d m::l))∧
 (roomFor part n=false→e=.returned (.tuple #[.pointer none,.int .i64 3])∧St w0 w' (bU d m::l))
theorem qt {w0 w:World} {l:List aD} {d:Nat} {m:DS} (h:St w0 w (bU d m::l)) (part:Int) :
  Calls Tryz.prog 118 #[.pointer (some ⟨d,0,none⟩),.int .i64 part] w (aau w0 l d m part m.az.length):=by
 obtain ⟨w1,aJ⟩:∃w1,w1=w.alloc (.cells #[.pointer (some ⟨d,0,none⟩),.int .i64 part,.int .i64 0,.int .i64 0,.int .i64 (-1),.int .i64 0,.int .i64 0,.int .i64 0,.int .i64 0,.int .i64 0,.int .i64 0] 155):=⟨_,rfl⟩
 have H1:=aa (show St w0 w1 (row w.heap.size 155 (fO d part 0 0 (-1) Rec.zero)::bU d m::l) by rw [aJ];exact h.new _ _);have HW:=aa aJ;have HG:=aa (h.b8.n1);clear aJ h;obtain ⟨L,hL⟩:∃L,L=m.az.length:=⟨_,rfl⟩
 have HL:=aa hL;rw [←hL] at HG ⊢;clear hL;go_enter Tryz.func118,Tryz.ntmps118;go_wp2_with fail;rw [←HW.o];go_loopw [16] (fun i wr=>∃k:Nat,k≤2∧i=.int .i64 k∧(0 < k→qE part=true∧part*10+((k-1:Nat):Int) < (L:Int))∧St w0 wr (row w.heap.size 155 (fO d part (if 0 < k then part*10 else 0) (if 1 < k then part*10+1 else 0) (-1) Rec.zero)::bU d m::l)) (fun i _=>2-(intOf i).toNat)
 case atStart=>exact ⟨0,by omega,rfl,fun h=>absurd h (by omega),H1.o⟩
 case round =>
  obtain ⟨k,hk,rfl,hp,hi⟩:=hrel;have HI:=aa hi;have HP:=aa hp;clear hi hp;by_cases aK:k < 2
  ·have cZ:(k:Int) < 2:=by omega
   go_wp2_with fail;refine (Kv part k _ ⟨by omega,by omega⟩).mono ?_;rintro e w3 ⟨⟨a,b,rfl,hb,ha⟩,wW⟩;have CL:=aa (HI.o.below wW);have HA:=aa ha;have CN:=aa hb;clear wW ha hb;cases b with
   | false =>
     have HR:=aa (show roomFor part L=false by
      have h:=CN.o;unfold roomFor;unfold qE at h;simp at h ⊢
      omega)
     go_wp2_with fail;go_ret2;exact ⟨fun h=>absurd (h.symm.trans HR.o) (by decide),fun _=>⟨rfl,CL.o.drop⟩⟩
   | true =>
     have ha:=HA.o rfl;subst ha;have iM:=aa (FP CL.o.swap);rw [←HL.o] at iM;go_wp2_with fail;refine iM.o.mono ?_;rintro e w4 ⟨rfl,rfl⟩;obtain ⟨c0,c1,c2,c3,c4,lg⟩:=qq CL.o;have f2:=CL.o.row.1.frozen 2;have f3:=CL.o.row.1.frozen 3;by_cases hr:part*10+(k:Int)≥(L:Int)
     ·have HR:=aa (show roomFor part L=false by unfold roomFor;simp;omega);go_wp2_with fail;go_ret2;exact ⟨fun h=>absurd (h.symm.trans HR.o) (by decide),fun _=>⟨rfl,CL.o.drop⟩⟩
     ·have rA:part*10+(k:Int) < (L:Int):=by omega
      clear hr;have hr:¬part*10+(k:Int)≥(L:Int):=by omega
      have dC:k=0∨k=1:=by omega
      rcases dC with rfl|rfl
      ·have HS:=aa (CL.o.set 2 (.int .i64 (part*10)));have HF:=aa (fun h:0 < 1=>(⟨CN.o.symm,by simpa using rA⟩:qE part=true∧part*10+((1-1:Nat):Int) < (L:Int)));go_wp2_with fail;go_roundw;case rel=>exact ⟨1,by omega,rfl,HF.o,HS.o⟩
       case measure=>simp [intOf]<;>omega
      ·have HS:=aa (CL.o.set 3 (.int .i64 (part*10+1)));have HF:=aa (fun h:0 < 2=>(⟨CN.o.symm,by simpa using rA⟩:qE part=true∧part*10+((2-1:Nat):Int) < (L:Int)));go_wp2_with fail;go_roundw;case rel=>exact ⟨2,by omega,rfl,HF.o,HS.o⟩
       case measure=>simp [intOf]<;>omega
  ·obtain rfl:k=2:=by omega
   have HR:=aa (show roomFor part L=true by
    obtain ⟨h1,h2⟩:=HP.o (by omega);unfold qE at h1;unfold roomFor;simp at h1 h2 ⊢
    omega)
   go_wp2_with fail;go_ret2;exact ⟨fun _=>⟨_,rfl,HI.o⟩,fun h=>absurd (h.symm.trans HR.o) (by decide)⟩
theorem B5 (m:DS) (i:Int) (bs:List Int):(m.write i bs).2.waits.length≤m.waits.length+1:=by
 unfold DS.write;split
 ·exact Nat.le_succ _
 ·split
  ·exact Nat.le_succ _
  ·split
   ·simp [DS.put,DS.fk]
   ·show m.bH.waits.length≤_
    rw [DS.fk];exact Nat.le_succ _
theorem jL {w0 w:World} {l:List aD} {g d:Nat} {m:DS} {part held:Int} {r:Rec} (h:St w0 w (log g d part held r::bU d m::l)) (c i:Int) (hc:c=0∧i=part*10∨c=1∧i=part*10+1)
  (A:Option Addr) (n k:Nat) (bs:List Int) (hn:bs.length=n) (hs:Sl w w.heap.size 1 A n (bs.map (.int .u8))) (fY:m.waits.length≤1000) :
  Calls Tryz.prog 87 #[.pointer (some ⟨g,0,none⟩),.int .i64 c,.slice A n k] w fun e w'=>e=.returned (.int .i64 (wf m i bs).1)∧St w0 w' (log g d part held r::bU d (wf m i bs).2::l):=by
 obtain ⟨c0,c1,c2,c3,c4,lg⟩:=qq h;have HW:=aa (GV h.drew.swap i A n k bs hn (hs.below (Below.refl _ _).drew) (by omega));clear hn;have HL:=aa (show (m.write i bs).2.waits.length≤1000000 by have:=B5 m i bs;omega);clear h hs;obtain ⟨x,hx⟩:∃x,x=m.write i bs:=⟨_,rfl⟩
 have HX:=aa (show wf m i bs=if x.1=0 then x.2.flush else x by rw [hx];rfl);rw [←hx] at HW HL;clear hx;obtain ⟨ev,m1⟩:=x;simp only at HX HW HL;rcases hc with ⟨rfl,hi⟩|⟨rfl,hi⟩
 all_goals
  subst hi;go_enter Tryz.func87,Tryz.ntmps87;go_wp2_with fail;refine ff [0,1,2,4,5,6,7,8,10,3,9] [[11,12]] (by kernel_rfl) (by kernel_rfl) (fun _ _ _ _ _ h=>h) ?_;simp only [mq,pick,af,ae,ah];iterate 11 still_step
  refine wpStill_nil ?_;go_wp2_with fail;refine HW.o.mono ?_;rintro e w2 ⟨rfl,h2⟩;obtain ⟨c0,c1,c2,c3,c4,lg⟩:=qq h2.swap;by_cases he:ev=0
  ·subst he;have HF:=aa (GY h2 HL.o);have oa:=aa (HX.o.trans (if_pos rfl));clear h2;go_wp2_with fail;refine HF.o.mono ?_;rintro e w3 ⟨rfl,h3⟩;have H3:=aa h3.swap;clear h3;go_wp2_with fail;go_ret;rw [oa.o];exact ⟨rfl,H3.o⟩
  ·have b1:(ev != 0)=true:=by simpa using he
   have oa:=aa (HX.o.trans (if_neg he));have H2:=aa h2.swap;clear h2 he;go_wp2_with fail;go_ret;rw [oa.o];exact ⟨rfl,H2.o⟩
end bP
end Go.Proofs.YtdldkkoplgkloaaGreat
