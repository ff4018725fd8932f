/- PROVED HERE: lemmas of the law. CONDITIONS: each names its own. -/
import Derived.BigQuiet
import Derived.Deep.QuietTactic
import Derived.Laws.Rows
import Derived.Test.YtdldkkoplgkloaaGreatPa0
import Derived.Test.YtdldkkoplgkloaaGreatPa15
import Derived.Test.YtdldkkoplgkloaaGreatPa18
import Derived.Test.YtdldkkoplgkloaaGreatPa19
import Derived.Test.YtdldkkoplgkloaaGreatPa20
namespace Go.Proofs.YtdldkkoplgkloaaGreat
set_option linter.unusedVariables false
set_option linter.unusedSimpArgs false
set_option maxRecDepth 100000
set_option maxHeartbeats 32000000
open Go.Value renaming int → ae
open Go.IntKind renaming i64 → aa
namespace bits
open Go.RowKit base
theorem RK (k:Nat) (hk:k≤16):(0:Int) < 2 ^ k∧(2:Int) ^ k≤65536:=by
 refine ⟨Int.pow_pos (by omega),?_⟩;have:2 ^ k≤2 ^ 16:=Nat.pow_le_pow_right (by omega) hk;have:(2:Int) ^ k≤2 ^ 16:=by exact_mod_cast this
 simpa using this
theorem zM (k:Nat) (w:World) (hk:k≤16):Calls Tryz.prog 131 #[ae aa k] w fun e w'=>e=.returned (ae aa (2 ^ k))∧w=w':=by
 go_enter Tryz.func131,Tryz.ntmps131
 go_wp2
 go_loop [3,4] (fun n i=>∃j:Nat,j≤k∧i=ae aa j∧n=ae aa (2 ^ j)) (fun _ i=>k-(intOf i).toNat)
 case atStart=>exact ⟨0,by omega,rfl,rfl⟩
 case round =>
  obtain ⟨j,hj,rfl,rfl⟩:=hrel;by_cases aH:j < k
  ·have hb:=RK j (by omega);have h0:=hb.1;have h1:=hb.2;have HS:=af (show (2:Int) ^ j+2 ^ j=2 ^ (j+1) by rw [Int.pow_succ];omega);clear hb;generalize hp:(2:Int) ^ j=p at *;clear hp
   go_wp2
   go_round
   case rel=>exact ⟨j+1,by omega,by go_num,by rw [←HS.o]⟩
   case measure=>simp [intOf];omega
  ·obtain rfl:j=k:=by omega
   go_wp2
   go_ret;exact ⟨rfl,rfl⟩
theorem Yv (s:Int) (k:Nat) (hk:k < 16):s % 65536 / 2 ^ k % 2=s / 2 ^ k % 2:=by
 rcases (by omega:k=0∨k=1∨k=2∨k=3∨k=4∨k=5∨k=6∨k=7∨k=8∨k=9∨k=10∨k=11∨k=12∨k=13∨k=14∨k=15) with rfl|rfl|rfl|rfl|rfl|rfl|rfl|rfl|rfl|rfl|rfl|rfl|rfl|rfl|rfl|rfl <;>
 ·simp only [Int.reducePow];omega
theorem Bz (x s:Int) (k:Nat) (hk:k < 16) (hx:x=s % 65536):((x / 2 ^ k).tmod 2==1)=dg s k:=by
 have h0:0≤x / 2 ^ k:=Int.ediv_nonneg (by omega) (Int.le_of_lt (Int.pow_pos (by omega)));rw [Int.tmod_eq_emod_of_nonneg h0];subst hx;unfold dg;rw [Yv s k hk,Bool.eq_iff_iff];simp
theorem GD (s:Int) (k:Nat) (w:World) (hk:k < 16) (hs:Dc s):Calls Tryz.prog 84 #[ae aa s,ae aa k] w fun e w'=>e=.returned (.bool (dg s k))∧w=w':=by
 have i0:¬(k:Int) < 0:=by omega
 have i1:¬(15:Int) < k:=by omega
 have hb:=RK k (by omega);have p0:=hb.1;have p1:=hb.2;clear hb;by_cases h0:0≤s
 ·have HT:=af (Bz (s % 65536) s k hk rfl);go_enter Tryz.func84,Tryz.ntmps84;go_wp2_with fail;refine (zM k _ (by omega)).mono ?_;rintro e w' ⟨rfl,rfl⟩;go_wp2_with fail;go_ret;exact ⟨aA HT.o,rfl⟩
 ·have hd:=Int.mul_tdiv_add_tmod s 65536;have aH:=Int.lt_tmod_of_pos s (show (0:Int) < 65536 by omega)
  have hle:s.tmod 65536≤0:=by
   have:=Int.tmod_nonneg (a:=-s) 65536 (by omega);rw [Int.neg_tmod] at this;omega
  generalize hm:s.tmod 65536=m at *;generalize s.tdiv 65536=q at *;by_cases BP:m < 0
  ·have HT:=af (Bz (m+65536) s k hk (by omega));have HM:=af hm;have m0:-65536 < m:=by omega
   clear hm hd hle aH;go_enter Tryz.func84,Tryz.ntmps84;have hm:=HM.o;go_wp2_with fail;clear hm;refine (zM k _ (by omega)).mono ?_;rintro e w' ⟨rfl,rfl⟩;go_wp2_with fail;go_ret;exact ⟨aA HT.o,rfl⟩
  ·obtain rfl:m=0:=by omega
   have HT:=af (Bz 0 s k hk (by omega));have HM:=af hm;clear hm hd hle aH BP;go_enter Tryz.func84,Tryz.ntmps84;have hm:=HM.o;go_wp2_with fail;clear hm;refine (zM k _ (by omega)).mono ?_;rintro e w' ⟨rfl,rfl⟩;go_wp2_with fail;go_ret;exact ⟨aA (by simpa using HT.o),rfl⟩
end bits
namespace aG
open Go.RowKit Go.ChangeShapes Go.WideShapes Go.ChangeAt Go.Deep Go.Joins base obj mem bC aX record Go.Proofs.YtdldkkoplgkloaaGreat.bits sep aW bytes
theorem IW (h n:Int) (w:World) (ha:∀j,j < dE n→dg h j=true):Calls Tryz.prog 96 #[ae aa h,ae aa n] w fun e w'=>e=.returned (.tuple #[ae aa 0,.bool false])∧Below w.heap.size w w' :=
 (IV h n w).mono fun e w' ⟨h1,h2⟩=>⟨by
  rcases h1 with ⟨k,hk,hb,_⟩|⟨_,e⟩
  ·rw [ha k hk] at hb;exact absurd hb (by decide)
  ·exact e,h2⟩
theorem Tj (h n:Int) (w:World) (ha:¬∀j,j < dE n→dg h j=true):Calls Tryz.prog 96 #[ae aa h,ae aa n] w fun e w'=>(∃k:Nat,e=.returned (.tuple #[ae aa k,.bool true]))∧Below w.heap.size w w' :=
 (IV h n w).mono fun e w' ⟨h1,h2⟩=>⟨by
  rcases h1 with ⟨k,_,_,_,e⟩|⟨h,_⟩
  ·exact ⟨k,e⟩
  ·exact absurd h ha,h2⟩
theorem Jj {w:World} {g d:Nat} {p k:Int} {s:cy} (h:Row w g 158 (dM d p k s)) (hh:s.has=false):Calls Tryz.prog 53 #[.pointer (some ⟨g,0,none⟩)] w fun e w'=>e=.returned (.tuple #[.slice none 0 0,ae aa 16])∧w'=w:=by
 obtain ⟨c0,c1,c2,c3,c4,c5,c6,lg⟩:=fP h;rw [hh] at c3;clear h;go_enter Tryz.func53,Tryz.ntmps53;go_wp2_with fail;go_ret2;exact ⟨rfl,rfl⟩
theorem AY {w:World} {g d:Nat} {p k:Int} {s:cy} (h:Row w g 158 (dM d p k s)) (hh:s.has=true) (hr:s.st.right=true) (ha:¬qu s) :
  Calls Tryz.prog 53 #[.pointer (some ⟨g,0,none⟩)] w fun e w'=>e=.returned (.tuple #[.slice none 0 0,ae aa 11])∧Below w.heap.size w w':=by
 obtain ⟨⟨z1,z2⟩,⟨z3,z4⟩,z5,z6⟩:=iD hr;have xR:dE ((aQ s.st.size:Nat):Int)=aQ s.st.size:=by unfold dE aQ;omega
 have HF:=af (fun w=>Tj s.st.bf ((aQ s.st.size:Nat):Int) w (by rw [xR];exact ha));have HB:=af (fun w=>record.kK w s.st.size (by omega) (by omega));obtain ⟨c0,c1,c2,c3,c4,c5,c6,lg⟩:=fP h;rw [hh] at c3;obtain ⟨b,hb⟩:=xE (aQ s.st.size);rw [←hb] at HF HB;clear h hh hr ha xR hb z1 z2 z3 z4 z5 z6;go_enter Tryz.func53,Tryz.ntmps53;go_wp2_with fail
 go_region_held3 (fun w'=>w'.cell? ⟨g,5,none⟩=some (ae aa s.st.size)∧w'.cell? ⟨g,6,none⟩=some (ae aa s.st.bf)) (first|go_keep|(refine ⟨?_,?_⟩<;>(refine mq bh.o ?_;go_simp))) (first
  | ((with_reducible refine (HB.o _).mono ?_);rintro e w1 ⟨rfl,rfl⟩)
  | ((with_reducible refine (HF.o _).mono ?_);rintro e w1 ⟨⟨x,rfl⟩,hb⟩;have bh:=af hb;clear hb))
 go_wp2_with fail;go_ret2;exact ⟨rfl,⟨bh.o.os,bh.o.tape,bh.o.output,bh.o.size,bh.o.block⟩⟩
theorem nu {w0 w:World} {l:List aI} {e size z c:Nat} {A:Option Addr} {L:List Value} (h:St w0 w (sep.own e size (.slice A z c) z L::l)) (hz:0 < z):∃(t:Nat) (xs:List Value),A=some ⟨t,0,none⟩∧z≤c∧xs.length=c*size∧xs.take (z*size)=L∧St w0 w (row t e xs::l):=by
 obtain ⟨F,⟨F1,F2,h1,h2,h3,h4⟩,k⟩:=h.sat;obtain ⟨⟨_,hv⟩,hF⟩:=h1;rcases hv with ⟨_,h0⟩|⟨t,cap,cur,hv,hb,hg,xL,uk,cY,qJ⟩
 ·omega
 ·injection hv with hA _ hc
  subst hA;subst hc;refine ⟨t,cur.toList,rfl,xL,by simpa using cY,qJ,h.aE,F,⟨F1,F2,⟨?_,fun i=>?_⟩,h2,h3,h4⟩,k⟩
  ·unfold Row;simpa using hg
  ·rw [hF i];simp [Value.ownBlock,eq_comm]
theorem pU {w0 w:World} {l:List aI} {g d:Nat} {m:DS} {p k:Int} {s:cy} (h:St w0 w (slt g d p k s::bE d m::l)) (hp:Pl m p k) (hh:s.has=true) (hr:s.st.right=true) (ha:qu s) (hd:m.down=false) (fF:m.waits.length≤1000) :
  Calls Tryz.prog 53 #[.pointer (some ⟨g,0,none⟩)] w fun e w'=>∃(t:Nat) (xs:List Value),e=.returned (.tuple #[.slice (some ⟨t,0,none⟩) s.st.size.toNat s.st.size.toNat,ae aa 0])∧
   xs.take s.st.size.toNat=((rq m p k).take s.st.size.toNat).map (.int .u8)∧St w0 w' (row t 5 xs::slt g d p k s::bE d m::l):=by
 obtain ⟨⟨z1,z2⟩,⟨z3,z4⟩,z5,z6⟩:=iD hr;have xR:dE ((aQ s.st.size:Nat):Int)=aQ s.st.size:=by unfold dE aQ;omega
 have HF:=af (fun w=>IW s.st.bf ((aQ s.st.size:Nat):Int) w (by rw [xR];exact ha));have HB:=af (fun w=>record.kK w s.st.size (by omega) (by omega));obtain ⟨c0,c1,c2,c3,c4,c5,c6,lg⟩:=fP h.row.1;rw [hh] at c3;obtain ⟨b,hb⟩:=xE (aQ s.st.size);rw [←hb] at HF HB;obtain ⟨n,hn⟩:∃n:Nat,(n:Int)=s.st.size:=⟨s.st.size.toNat,by omega⟩
 have AG:s.st.size.toNat=n:=by omega
 rw [AG];rw [←hn] at c5 HB;have hn0:1≤n:=by omega
 have FK:n≤160:=by omega
 have H:=af h;have HP:=af hp;have HD:=af hd;have HN:=af hn;have HH:=af hh;clear h hh hr ha xR hb z1 z2 z3 z4 z5 z6 hp hd AG hn;go_enter Tryz.func53,Tryz.ntmps53;go_wp2_with fail
 go_region_held3 (fun w'=>w'.cell? ⟨g,5,none⟩=some (ae aa (n:Int))∧w'.cell? ⟨g,6,none⟩=some (ae aa s.st.bf)) (first|go_keep|(refine ⟨?_,?_⟩<;>(refine mq bh.o ?_;go_simp))) (first
  | ((with_reducible refine (HB.o _).mono ?_);rintro e w1 ⟨rfl,rfl⟩)
  | ((with_reducible refine (HF.o _).mono ?_);rintro e w1 ⟨rfl,hb⟩;have bh:=af hb;clear hb))
 have H1:=af (H.o.drew.below bh.o)
 have uV:=af (show St w0 w1 (sep.own 5 1 (.slice none 0 0) 0 (((rq m p k).take 0).map (.int .u8))::slt g d p k s::bE d m::l) by
  refine H1.o.cX (Below.refl _ _) ?_;rw [List.take_zero]
  exact World.ownsRow_nil _ _ _ _)
 clear c0 c1 c2 c3 c4 c5 c6 lg;go_wp2_with fail;go_loopw [6,7] (fun v i wr=>∃(q:Nat) (A:Option Addr) (c:Nat),q≤3∧(0 < q→64*(q-1) < n)∧v=.slice A (64*q) c∧i=ae aa q∧St w0 wr (sep.own 5 1 (.slice A (64*q) c) (64*q) (((rq m p k).take (64*q)).map (.int .u8))::slt g d p k s::bE d m::l)) (fun _ i _=>3-(intOf i).toNat)
 case atStart=>exact ⟨0,none,0,by omega,by omega,rfl,rfl,uV.o⟩
 case round =>
  obtain ⟨q,A,c,hq,AF,rfl,rfl,hi⟩:=hrel;have HI:=af hi;clear hi H1 uV;obtain ⟨c0,c1,c2,c3,c4,c5,c6,lg⟩:=fP (HI.o.pick 1 rfl).row.1;rw [←HN.o] at c5;obtain ⟨z,hz⟩:=xE (64*q);have HZ:=af hz;rw [←hz] at HI ⊢;clear hz;by_cases aH:z < n
  ·have df:(z:Int) < (n:Int):=by omega
   have NS:q < 3:=by have:=HZ.o;omega
   have ux:=af HP.o.pk;have Gq:=af (fun w=>place.C5 p k (q:Int) w ux.o.p0 ux.o.p1 ux.o.k0 ux.o.k1 (by omega) (by omega));obtain ⟨at_,mo⟩:=xE (eg p k (q:Int));rw [show p*10+(2+k*4+1+(q:Int))=at_ by rw [mo];rfl] at Gq;obtain ⟨a0,a1⟩:=HP.o.at_ (i:=(q:Int)) (by omega) (by omega);rw [←mo] at a0 a1;obtain ⟨bs,gF⟩:=xE (m.now at_.toNat);have ch:=af (show bs.length=64 by rw [gF];exact HP.o.bu.yK (by omega))
   have px:=af (fun (w1:World) (ls:List aI) (h1:St w0 w1 (bE d m::ls))=>by
    have h:=Al h1 at_ at_.toNat (by omega) (by omega) HD.o (by omega);rw [←gF] at h
    exact h)
   have adA:=af (show (rq m p k).take z++bs=(rq m p k).take (64*(q+1)) by
    rw [HZ.o,gF,mo,Nat.mul_succ,List.take_add]
    congr 1
    unfold rq;have l0:=HP.o.len (i:=0) (by omega) (by omega);have l1:=HP.o.len (i:=1) (by omega) (by omega);have l2:=HP.o.len (i:=2) (by omega) (by omega);have hq':q=0∨q=1∨q=2:=by omega
    rcases hq' with rfl|rfl|rfl
    ·rw [List.drop_zero,List.take_append_of_le_length (by omega),List.take_of_length_le (by omega)];rfl
    ·rw [List.drop_append,List.drop_of_length_le (by omega),List.nil_append,l0,List.drop_zero,List.take_append_of_le_length (by omega),List.take_of_length_le (by omega)];rfl
    ·rw [List.drop_append,List.drop_of_length_le (by omega),List.nil_append,l0,List.drop_append,List.drop_of_length_le (by omega),List.nil_append,l1,List.drop_zero,List.take_of_length_le (by omega)];rfl)
   clear mo gF;go_wp2_with fail
   go_region_held3 (fun w'=>w'.cell? ⟨g,1,none⟩=some (ae aa p)∧w'.cell? ⟨g,2,none⟩=some (ae aa k)) (first|go_keep|(refine ⟨?_,?_⟩<;>(refine mq aO.o ?_;go_simp))) (((with_reducible refine (Gq.o _).mono ?_);rintro e w2 ⟨rfl,hb⟩;have aO:=af hb;clear hb))
   have H2:=af (HI.o.drew.below aO.o);clear c0 c1 c2 c3 c4 c5 c6 lg;obtain ⟨c0,c1,c2,c3,c4,c5,c6,lg⟩:=fP (H2.o.pick 1 rfl).row.1;go_wp2_with fail;refine (px.o _ _ (H2.o.pick 2 rfl)).mono ?_;rintro e w3 ⟨t,rfl,h3⟩;have H3:=af (h3.pick 2 rfl);clear h3;have Ge:=af (qt (H3.o.pick 1 rfl).row.1 ch.o);clear c0 c1 c2 c3 c4 c5 c6 lg;go_wp2_with (refine tK sn rfl (.tmp 72) (.tmp 73) rfl H3.o.own rfl rfl Ge.o (ji bs) (by omega) (by omega) (by unfold maxLen;omega) (H3.o.aE.size) ?_;intro g2 cap w4 ho hg kU Lm;have H4:=af (H3.o.grown hg ho (fun x hx=>by injection hx with hx;rw [←hx];exact kU));clear ho hg kU);go_roundw
   case rel=>exact ⟨q+1,some ⟨g2,0,none⟩,cap,by omega,fun _=>by have:=HZ.o;rw [Nat.add_sub_cancel];omega,by rw [HZ.o,Nat.mul_succ],by go_num,by
    have h:=H4.o;rw [←List.map_append,adA.o,show z+64=64*(q+1) by rw [HZ.o,Nat.mul_succ]] at h
    exact ((h.pick 1 rfl).drop.pick 2 rfl).swap⟩
   case measure=>simp [intOf]<;>omega
  ·have AQ:n≤z:=by omega
   have df:¬(z:Int) < (n:Int):=by omega
   have iP:s.st.size=(n:Int):=HN.o.symm;have Ue:=af (aD HI.o.own)
   have Si:z≤c:=by
    obtain ⟨A',c',e,hc,_⟩:=Ue.o;injection e with _ _ e
    omega
   clear iP;go_wp2_with fail;go_quiet (fail);go_wp2_with fail;go_ret2;obtain ⟨t,xs,hA,_,_,Is,ak⟩:=nu HI.o (by omega);subst hA;refine ⟨t,xs,rfl,?_,ak.drewN nq⟩;have h:=congrArg (List.take n) Is;rw [Nat.mul_one,List.take_take,Nat.min_eq_left AQ,←List.map_take,List.take_take,Nat.min_eq_left AQ] at h;exact h
end aG
namespace aG
open Go.RowKit Go.ChangeShapes Go.WideShapes Go.ChangeAt Go.Deep Go.Joins base obj mem bC aX record Go.Proofs.YtdldkkoplgkloaaGreat.bits sep aW bytes
def Qg (y:Int) (n:Nat):List Int:=(List.range n).map fun i:Nat=>(y+3*(i:Int)) % 256
theorem Tk (y:Int) (n:Nat):bn (Qg y n):=fun z hz=>by
 obtain ⟨i,_,rfl⟩:=List.mem_map.1 hz;omega
theorem take_set {l:List Value} {q:Nat} (hq:q < l.length) (v:Value):(l.set q v).take (q+1)=l.take q++[v]:=by
 rw [kr (by simpa using hq)];simp [List.take_set_of_le]
theorem KT (w:World):(Instr.makeSlice 24 (ae aa 16) (ae aa 16)).run Tryz.prog w=.ok (.slice (some ⟨w.heap.size,0,none⟩) 16 16) (w.alloc (.cells (Array.replicate 16 (.int .u8 0)) 5)):=by
 have h:=vJ 16 (by decide) w;rw [show ((16:Nat):Int)=16 from rfl] at h;rw [h];rfl
def Xl (long:Bool):Nat:=if long then 17 else 16
end aG
namespace aG
open Go.RowKit Go.ChangeShapes Go.WideShapes Go.ChangeAt Go.Deep Go.Joins base obj mem bC aX record Go.Proofs.YtdldkkoplgkloaaGreat.bits sep aW bytes
theorem jw {w0 w:World} {l:List aI} {g d:Nat} {m:DS} {p k:Int} {s:cy} (h:St w0 w (slt g d p k s::bE d m::l)) (hp:Pl m p k) (hr:s.has=true→s.st.right=true) (fF:m.waits.length≤800) (se no:Int) (A:Option Addr) (n c:Nat) (data:List Int) (hn:data.length=n)
  (hs:∀w' m',St w0 w' (slt g d p k s::bE d m'::l)→Sl w' w'.heap.size 1 A n (data.map (.int .u8))) :
  Calls Tryz.prog 51 #[.pointer (some ⟨g,0,none⟩),ae aa se,ae aa no,.slice A n c] w fun e w'=>e=.returned (ae aa (gU m p k s se no data).1)∧St w0 w' (slt g d p k (gU m p k s se no data).2.2::bE d (gU m p k s se no data).2.1::l):=by
 by_cases hw:gN s se no n=0
 ·obtain ⟨hh,w1,w2,w3,w4⟩:=pC hw;subst w4;obtain ⟨q,rfl⟩:=Int.eq_ofNat_of_zero_le w2
  have hq:q < 16:=by
   have:=(iD (hr hh)).2.1;unfold aQ at w3;omega
  cases hb:dg s.st.bf q with
  | true =>
    have e:gU m p k s se q data=(0,m,s):=by
     unfold gU;rw [hn,if_neg (not_not_intro hw),dC,if_pos hb]
    rw [e];exact Yc h hr se q hq A 16 c hw hb
  | false=>exact Yb h hp hr fF se q A c data hn hs hw hb
 ·have e:gU m p k s se no data=(gN s se no n,m,s):=by
   unfold gU;rw [hn,if_pos hw]
  rw [e];exact RF h hr se no A n c hw
def qV (w0:World) (B:aI) (A:Option Addr) (n:Nat) (bs:List Int):Prop:=bs.length=n∧∀w l,St w0 w (B::l)→Sl w w.heap.size 1 A n (bs.map (.int .u8))
theorem pP {w0:World} {t n:Nat} {xs:List Value} {bs:List Int} (hl:bs.length=n) (hx:xs.take n=bs.map (.int .u8)):qV w0 (row t 5 xs) (some ⟨t,0,none⟩) n bs :=
 ⟨hl,fun w l h=>h.row.1.sl (o:=0) h.row.1.lt (by rw [List.drop_zero,Nat.mul_one,hx]) (by simpa using hl)⟩
theorem pQ (w0:World):qV w0 (fact True) none 0 []:=⟨rfl,fun w l h=>Sl.GL _ _ _⟩
theorem L8 {m:DS} {p k:Int} {s:cy} (hd:m.down=false):(b9 m p k s=([],16)∧s.has=false)∨(b9 m p k s=([],11)∧s.has=true∧¬qu s)∨(b9 m p k s=((rq m p k).take s.st.size.toNat,0)∧s.has=true∧qu s):=by
 unfold b9;cases hh:s.has with
 | false=>exact .inl ⟨rfl,rfl⟩
 | true =>
   rw [if_neg (show ¬(true=false) by decide),hd];by_cases ha:qu s
   ·rw [if_neg (not_not_intro ha)];exact .inr (.inr ⟨rfl,rfl,ha⟩)
   ·rw [if_pos ha];exact .inr (.inl ⟨rfl,rfl,ha⟩)
theorem Wl {m:DS} {p k:Int} (h:Pl m p k):(rq m p k).length=192:=by
 unfold rq;rw [gC,gC,h.len (by omega) (by omega),h.len (by omega) (by omega),h.len (by omega) (by omega)]
theorem Wm {w0 w:World} {l:List aI} {g d:Nat} {m:DS} {p k:Int} {s:cy} (h:St w0 w (slt g d p k s::bE d m::l)) (hp:Pl m p k) (hr:s.has=true→s.st.right=true) (hd:m.down=false) (fF:m.waits.length≤1000) :
  Calls Tryz.prog 53 #[.pointer (some ⟨g,0,none⟩)] w fun e w'=>∃A n B,e=.returned (.tuple #[.slice A n n,ae aa (b9 m p k s).2])∧qV w0 B A n (b9 m p k s).1∧St w0 w' (B::slt g d p k s::bE d m::l):=by
 rcases L8 (p:=p) (k:=k) (s:=s) hd with ⟨e,hh⟩|⟨e,hh,ha⟩|⟨e,hh,ha⟩
 ·rw [e];exact (Jj h.row.1 hh).mono fun e w' ⟨h1,h2⟩=>⟨none,0,fact True,h1,pQ _,by rw [h2];exact h.addFact trivial⟩
 ·rw [e];exact (AY h.row.1 hh (hr hh) ha).mono fun e w' ⟨h1,h2⟩=>⟨none,0,fact True,h1,pQ _,(h.below h2).addFact trivial⟩
 ·rw [e];refine (pU h hp hh (hr hh) ha hd fF).mono fun e w' ⟨t,xs,h1,h2,h3⟩=>⟨some ⟨t,0,none⟩,_,row t 5 xs,h1,pP ?_ h2,h3⟩
  have:=(iD (hr hh)).2.1;rw [fW,Wl hp];omega
end aG
namespace aG
open Go.RowKit Go.ChangeShapes Go.WideShapes Go.ChangeAt Go.Deep Go.Joins base obj mem bC aX record Go.Proofs.YtdldkkoplgkloaaGreat.bits sep aW bytes same
theorem SI.right {m:DS} {p k:Int} {s:cy} {R:RS} {jZ:Option RS} (h:SI m p k s R jZ):s.has=true→s.st.right=true:=h.mem.right
theorem SI.TB {m:DS} {p k:Int} {s:cy} {R:RS} (h:SI m p k s R Option.none) (hu:m.Up) (se sz:Int):(eL m p k s se sz).1=(fk R se sz).1∧SI (eL m p k s se sz).2.1 p k (eL m p k s se sz).2.2 (fk R se sz).2 Option.none∧(eL m p k s se sz).2.1.Up:=by
 have wG:=Wu h.pl hu s se sz;exact ⟨((h.begin se sz).up wG).1,((h.begin se sz).up wG).2,wG⟩
theorem SI.ZK {m:DS} {p k:Int} {s:cy} {R:RS} (h:SI m p k s R Option.none) (hu:m.Up) (se no:Int) {data:List Int} (hb:bn data):(gU m p k s se no data).1=(ja R se no data).1∧SI (gU m p k s se no data).2.1 p k (gU m p k s se no data).2.2 (ja R se no data).2 Option.none∧(gU m p k s se no data).2.1.Up:=by
 have wG:=ZH h.pl hu h.right se no hb;exact ⟨((h.put se no hb).up wG).1,((h.put se no hb).up wG).2,wG⟩
theorem SI.Cc {m:DS} {p k:Int} {s:cy} {R:RS} (h:SI m p k s R Option.none) (hu:m.down=false):b9 m p k s=dm R:=Wn h.pl h.mem (h.up hu).2.2.1 hu
theorem Uw (m:DS) (i:Int) (bs:List Int) (j:Int) (cs:List Int):(vR m i bs j cs).2.ar.length=m.ar.length:=by
 unfold vR;split
 ·rw [iC,iC]
 ·exact iC _ _ _
theorem xx (m:DS) (p k:Int) (s:cy) (se no:Int) (data:List Int):(gU m p k s se no data).2.1.ar.length=m.ar.length:=by
 unfold gU;split
 ·rfl
 ·split
  ·rfl
  ·split
   ·rfl
   ·split<;>exact Uw _ _ _ _ _
end aG
namespace aG
open Go.RowKit Go.ChangeShapes Go.WideShapes Go.ChangeAt Go.Deep Go.Joins base obj mem bC aX record Go.Proofs.YtdldkkoplgkloaaGreat.bits sep aW bytes
def Outside (p k:Int) (j:Nat):Prop:=(j:Int) < bz p k∨bz p k+4≤(j:Int)
theorem tz {p k:Int} {j:Nat} (h:Outside p k j) (h0:0≤bz p k):j≠(bz p k).toNat:=by
 unfold Outside at h;omega
theorem Em {p k i:Int} {j:Nat} (h:Outside p k j) (h0:0≤bz p k) (i0:0≤i) (i3:i < 3):j≠(eg p k i).toNat:=by
 unfold Outside bz at h;unfold bz at h0;unfold eg;omega
theorem Jq {m:DS} {p k:Int} (h:Pl m p k) (s:cy) (se sz:Int) {j:Nat} (hj:Outside p k j):(eL m p k s se sz).2.1.now j=m.now j:=by
 have key:=zA h.bu h.own.1 h.own.2 (aR.bY ⟨se,sz,0⟩) (tz hj h.own.1);unfold eL;split
 ·split<;>exact key
 ·rfl
theorem Tv {m:DS} {p k:Int} (h:Pl m p k) (s:cy) {j:Nat} (hj:Outside p k j):(gy m p k s).2.1.now j=m.now j:=by
 have key:=zA h.bu h.own.1 h.own.2 (show bt.length=64 from rfl) (tz hj h.own.1);unfold gy;split<;>exact key
theorem Nw {m:DS} {p k:Int} (h:Pl m p k) {s:cy} (hs:s.has=true→s.st.right=true) (se no:Int) {data:List Int} (AT:bn data) {j:Nat} (hj:Outside p k j):(gU m p k s se no data).2.1.now j=m.now j:=by
 unfold gU;by_cases hw:gN s se no data.length=0
 ·rw [if_neg (not_not_intro hw)];obtain ⟨hh,w1,w2,w3,w4⟩:=pC hw;obtain ⟨n,rfl⟩:=Int.eq_ofNat_of_zero_le w2;rw [dC];split
  ·rfl
  ·split
   ·rfl
   ·have EB:n < 10:=by
     have:=(iD (hs hh)).2.1;unfold aQ at w3;omega
    have hq:((n:Int) / 4)=((n / 4:Nat):Int):=by omega
    rw [hq];obtain ⟨d0,d1⟩:=h.at_ (i:=((n / 4:Nat):Int)) (by omega) (by omega);have dk:=oz (h.len (i:=((n / 4:Nat):Int)) (by omega) (by omega)) n w4;have rM:=u9 (h.eQ.now (eg p k ((n / 4:Nat):Int)).toNat) n AT;have oU:=h.wf (eg p k ((n / 4:Nat):Int)) rM;have k1:=zA h.bu d0 d1 dk (Em hj h.own.1 (i:=((n / 4:Nat):Int)) (by omega) (by omega));have k2:=zA oU.bu oU.own.1 oU.own.2 (aR.bY (sw s.st n)) (tz hj h.own.1)
    have key:(vR m (eg p k ((n / 4:Nat):Int)) (splice (m.now (eg p k ((n / 4:Nat):Int)).toNat) n data) (bz p k) (sw s.st n).bytes).2.now j=m.now j:=by
     unfold vR;split
     ·rw [k2,k1]
     ·exact k1
    split<;>exact key
 ·rw [if_pos hw]
theorem SI.other {m m':DS} {p k:Int} {s:cy} {R:RS} (h:SI m p k s R Option.none) (hu:m.down=false) (hg:m'.Good) (hb:m'.ia) (hl:m'.ar.length=m.ar.length) (hw:m'.waits=[]) (hd:m'.down=false)
  (hn:∀j,¬Outside p k j→m'.now j=m.now j):SI m' p k s R Option.none:=by
 obtain ⟨u1,u2,u3,u4⟩:=h.up hu;have hi:∀i:Int,0≤i→i < 3→¬Outside p k (eg p k i).toNat:=fun i i0 i3 ho=>Em ho h.pl.own.1 i0 i3 rfl;refine ⟨⟨hg,hb,h.pl.p0,h.pl.p1,h.pl.k0,h.pl.k1,by rw [hl];exact h.pl.room⟩,h.mem,by rw [hw];simp,fun _=>⟨rfl,hw,fun j hj=>?_,?_⟩,fun h'=>absurd (hd.symm.trans h') (by decide)⟩
 ·have jz:=CV hj;have:=h.mem.mH;rw [←u3 j hj];unfold B9;rw [hn _ (hi _ (by omega) (by omega))]
 ·exact (nM (hn _ fun ho=>tz ho h.pl.own.1 rfl)).trans u4
structure Cy where
 kind:Int
 n:Int
 size:Int
 no:Int
 Tz:Int
 long:Bool
 keep:Int
instance:Inhabited Cy:=⟨⟨0,0,0,0,0,false,0⟩⟩
structure Cy.Ok (a:Cy):Prop where
 n:pZ a.n
 size:pZ a.size
 no:pZ a.no
 by0:0≤a.Tz
 by1:a.Tz≤255
 adI:0≤a.keep
 adH:a.keep≤18446744073709551615
def Cy.cells (a:Cy):List Value:=[ae aa a.kind,ae aa a.n,ae aa a.size,ae aa a.no,.int .u8 a.Tz,.bool a.long,.int .u64 a.keep]
theorem Ro {H:Type} {enc:TypeId×Value→H} {P:Program} {W:World} {e:TypeId} {fs:Array Field} {cs:List Value} {m:Nat} {x:DataW H×List MemPlace} (he:P.underlying e=some (.struct fs))
  (h:DataW.trod enc P W 0 (fun _=>true) true m e cs=some x):∀(j:Nat) (f:Field) (n:Nat),fs[j]?=some f→P.cellsOf f.type=n→∃(k:Nat) (y:DataW H×List MemPlace),DataW.trod enc P W 0 (fun _=>true) true k f.type ((cs.drop f.offset).take n)=some y:=by
 obtain ⟨ys,n',wM,hy,hlen,sB,hf⟩:=DataW.trod_struct he h;intro j f n hj hn;subst hn;have jz:j < fs.size:=(Array.getElem?_eq_some_iff.1 hj).1;have sA:ys[j]?=some (ys[j]'(by rw [sB];exact jz)):=cN _;exact ⟨n',_,(hf j f hj).trans sA⟩
end aG
namespace aG
open Go.RowKit Go.ChangeShapes Go.WideShapes Go.ChangeAt Go.Deep Go.Joins base obj mem bC aX record Go.Proofs.YtdldkkoplgkloaaGreat.bits sep aW bytes
section
variable {w0 w : World} {g d go : Nat} {p k p' k' : Int} {m : DS} {s : cy} {R : RS} {s' : cy} {R' : RS} {l : List aI}
end
end aG
namespace aG
open Go.RowKit Go.ChangeShapes Go.WideShapes Go.ChangeAt Go.Deep Go.Joins base obj mem bC aX record Go.Proofs.YtdldkkoplgkloaaGreat.bits sep aW bytes
theorem Sf:(Tryz.prog.info? 24).map (fun i=>(i.zero,i.size,i.bytes))=some (some (.slice none 0 0),1,24):=by kernel_rfl
theorem ab9:qP Tryz.prog 116 24 1 24:=by
 obtain ⟨i0,hi,kJ,ny,gm⟩:=info_parts Sf;exact ⟨Tryz.underlying116,⟨i0,_,hi,kJ,ny,gm,rfl⟩,by decide⟩
def eG (P:List (Nat×List Value)):aI:=du (P.map fun x=>row x.1 5 x.2)
theorem KL {w0 w:World} {P:List (Nat×List Value)} {l:List aI} (h:St w0 w (eG P::l)) {x:Nat×List Value} (hx:x∈P):Row w x.1 5 x.2∧w0.heap.size≤x.1:=by
 obtain ⟨a,b,rfl⟩:=List.append_of_mem hx;have h2:=h.fI;rw [List.map_append,List.map_cons,List.append_assoc,List.cons_append] at h2;exact (h2.perm List.perm_middle).row
theorem KM {w0 w:World} {P:List (Nat×List Value)} {l:List aI} {g:Nat} {xs:List Value} (h:St w0 w (row g 5 xs::eG P::l)):St w0 w (eG ((g,xs)::P)::l):=by
 have h2:=h.swap.fI;exact St.eJ (L:=((g,xs)::P).map fun x=>row x.1 5 x.2) (h2.perm List.perm_middle)
def HB (P:List (Nat×List Value)) (b:List Int) (v:Value):Prop:=(b=[]∧v=.slice none 0 0)∨(b.length=16∧∃g c xs,(g,xs)∈P∧v=.slice (some ⟨g,0,none⟩) 16 c∧xs.take 16=b.map (.int .u8))
def qc (P:List (Nat×List Value)) (bs:List (List Int)) (vs:List Value):Prop:=vs.length=bs.length∧∀(i:Nat) (b:List Int) (v:Value),bs[i]?=some b→vs[i]?=some v→HB P b v
theorem HB.mono {P P':List (Nat×List Value)} {b:List Int} {v:Value} (h:HB P b v) (hp:∀x∈P,x∈P'):HB P' b v:=by
 rcases h with h|⟨h1,g,c,xs,h2,h3⟩
 ·exact .inl h
 ·exact .inr ⟨h1,g,c,xs,hp _ h2,h3⟩
theorem qc.mono {P P':List (Nat×List Value)} {bs:List (List Int)} {vs:List Value} (h:qc P bs vs) (hp:∀x∈P,x∈P'):qc P' bs vs:=⟨h.1,fun i b v h1 h2=>(h.2 i b v h1 h2).mono hp⟩
theorem HB.one {P:List (Nat×List Value)} {b:List Int} {v:Value} (h:HB P b v):v.oneCell'=true:=by
 rcases h with ⟨_,rfl⟩|⟨_,g,c,xs,_,rfl,_⟩<;>rfl
theorem qc.one {P:List (Nat×List Value)} {bs:List (List Int)} {vs:List Value} (h:qc P bs vs):∀u∈vs,u.oneCell'=true:=by
 intro u hu;obtain ⟨i,hi,e⟩:=List.getElem_of_mem hu;exact (h.2 i (bs[i]'(by rw [←h.1];exact hi)) u (cN _) (by rw [cN hi,e])).one
def bO (R:RS) (v:Value):List Value:=[.bool R.has,ae aa R.st.aC,ae aa R.st.size,ae aa R.st.bf,v]
theorem Yt (k:Nat) (hk:k≤1000) (w:World):(Instr.makeSlice 116 (ae aa (k:Int)) (ae aa (k:Int))).run Tryz.prog w=.ok (.slice (some ⟨w.heap.size,0,none⟩) k k) (w.alloc (.cells (List.replicate k (Value.slice none 0 0)).toArray 24)):=by
 rw [run_make_row' (P:=Tryz.prog) 116 24 (.slice none 0 0) 24 Tryz.underlying116 Sf rfl .i64 .i64 k (by omega) (by omega) w]
 congr 2
 congr 1
 apply Array.ext
 ·simp [madeCells]
 ·intro i h1 h2;simp [madeCells,Nat.mod_one]
end aG
namespace aG
open Go.RowKit Go.ChangeShapes Go.WideShapes Go.ChangeAt Go.Deep Go.Joins base obj mem bC aX record Go.Proofs.YtdldkkoplgkloaaGreat.bits sep aW bytes
theorem OO {R:RS} {se no:Int} {n:Nat} (h:ju R se no n=0):R.has=true∧0≤no∧no < (R.blocks.length:Int)∧n=16:=by
 unfold ju at h;cases hh:R.has with
 | false=>rw [hh,if_pos rfl] at h;exact absurd h (by decide)
 | true =>
   rw [hh,if_neg (show ¬(true=false) by decide)] at h;split at h
   ·exact absurd h (by decide)
   ·split at h
    ·exact absurd h (by decide)
    ·split at h
     ·exact absurd h (by decide)
     ·refine ⟨rfl,by omega,by omega,by omega⟩
theorem qc.set {P:List (Nat×List Value)} {bs:List (List Int)} {vs:List Value} (h:qc P bs vs) {k:Nat} {b:List Int} {v:Value} (hv:HB P b v):qc P (bs.set k b) (vs.set k v):=by
 refine ⟨by simp [h.1],fun i b' v' h1 h2=>?_⟩;rw [List.getElem?_set] at h1 h2;by_cases e:k=i
 ·rw [if_pos e] at h1 h2;split at h1
  ·split at h2
   ·injection h1 with h1;injection h2 with h2
    subst h1;subst h2;exact hv
   ·exact absurd h2 (by simp)
  ·exact absurd h1 (by simp)
 ·rw [if_neg e] at h1 h2;exact h.2 i b' v' h1 h2
end aG
namespace aG
open Go.RowKit Go.ChangeShapes Go.WideShapes Go.ChangeAt Go.Deep Go.Joins base obj mem bC aX record Go.Proofs.YtdldkkoplgkloaaGreat.bits sep aW bytes
structure x9 (R:RS):Prop where
 none:R.has=false→R=RS.none
 size:R.has=true→1≤R.st.size∧R.st.size≤160∧R.blocks.length=aQ R.st.size
theorem x9.b10 {R:RS} (h:x9 R):R.blocks.length≤10:=by
 cases hh:R.has with
 | false=>rw [h.none hh];simp [RS.none]
 | true =>
   obtain ⟨h1,h2,h3⟩:=h.size hh;rw [h3];unfold aQ;omega
structure Seen (R:RS) (q:Nat):Prop where
 all:∀j b,j < q→R.blocks[j]?=some b→b≠[]
theorem Seen.len {R:RS} {q:Nat} {P:List (Nat×List Value)} {vs:List Value} (h:Seen R q) (hb:qc P R.blocks vs) (hq:q≤R.blocks.length):(R.blocks.take q).flatten.length=16*q:=by
 induction q with
 | zero=>rfl
 | succ q ih =>
   have hl:q < R.blocks.length:=hq;rw [kr hl,List.flatten_append,gC,ih ⟨fun j b hj=>h.all j b (by omega)⟩ (by omega)];rcases hb.2 q R.blocks[q] (vs[q]'(by rw [hb.1];exact hl)) (cN _) (cN _) with ⟨e,_⟩|⟨e,_⟩
   ·exact absurd e (h.all q _ (by omega) (cN _))
   ·simp [e];omega
end aG
namespace aG
open Go.RowKit Go.ChangeShapes Go.WideShapes Go.ChangeAt Go.Deep Go.Joins base obj mem bC aX record Go.Proofs.YtdldkkoplgkloaaGreat.bits sep aW bytes same
def doR (R:RS) (a:Cy):Int×RS:=if a.kind=0 then fk R a.n a.size else if a.kind=1 then ja R a.n a.no (Qg a.Tz (Xl a.long)) else (0,RS.none)
def Alike (m:DS) (p k:Int) (s:cy) (R:RS):Prop:=s.has=R.has∧(s.has=true→s.st=R.st)∧b9 m p k s=dm R
instance (m:DS) (p k:Int) (s:cy) (R:RS):Decidable (Alike m p k s R):=by
 unfold Alike
 infer_instance
end aG
namespace aG
open base bC aX record Go.Proofs.YtdldkkoplgkloaaGreat.bits
def aa7 (m:DS) (p k:Int) (s:cy) (a:Cy):Int×DS×cy :=
 if a.kind=0 then eL m p k s a.n a.size else if a.kind=1 then gU m p k s a.n a.no (Qg a.Tz (Xl a.long)) else gy m p k s
theorem SI.act {m:DS} {p k:Int} {s:cy} {R:RS} {jZ:Option RS} (h:SI m p k s R jZ) (a:Cy):Stepped m p k s R jZ (aa7 m p k s a) (doR R a):=by
 unfold aa7 doR;by_cases h0:a.kind=0
 ·rw [if_pos h0,if_pos h0];exact h.begin _ _
 ·rw [if_neg h0,if_neg h0];by_cases h1:a.kind=1
  ·rw [if_pos h1,if_pos h1];exact h.put _ _ (Tk _ _)
  ·rw [if_neg h1,if_neg h1];exact h.clear
theorem x9.abz {s:cy} {R:RS} (h:nH s R):x9 R:=by
 refine ⟨fun hh=>h.none (h.has.trans hh),fun hh=>?_⟩;have h1:=h.has.trans hh;have h2:=(iD (h.right h1)).2.1;have h3:=h.len h1;rw [h.st] at h2 h3;exact ⟨h2.1,h2.2,h3⟩
theorem Qu {R:RS} (h:x9 R):(dm R).1.length≤1000:=by
 unfold dm;split
 ·simp
 ·split
  ·simp
  ·rename_i hh _
   have h1:R.has=true:=by simpa using hh
   have h2:=h.size h1;simp only;rw [fW];omega
theorem F9 {m:DS} {p k:Int} {s:cy} (h:s.has=true→s.st.right=true):(b9 m p k s).1.length≤1000:=by
 unfold b9;split
 ·simp
 ·split
  ·simp
  ·split
   ·simp
   ·rename_i hh _ _
    have h1:s.has=true:=by simpa using hh
    have h2:=(iD (h h1)).2.1;simp only;rw [fW];omega
end aG
namespace bD
open Go.RowKit base obj mem bC aX record sep aW
section
variable {m:DS} {TE TD held part:Int} {l:List aI} {d g:Nat} {r:Rec} {w w0:World}
def gi (d:Nat) (part TE TD held:Int) (r:Rec):List Value:=[.pointer (some ⟨d,0,none⟩),ae aa part,ae aa TE,ae aa TD,ae aa held]++r.cells.toList
def log (g d:Nat) (part:Int) (held:Int) (r:Rec):aI:=row g 155 (gi d part (part*10) (part*10+1) held r)
theorem rj (h:St w0 w (row g 155 (gi d part TE TD held r)::l)) :
  w.cell? ⟨g,0,none⟩=some (.pointer (some ⟨d,0,none⟩))∧w.cell? ⟨g,1,none⟩=some (ae aa part)∧w.cell? ⟨g,2,none⟩=some (ae aa TE)∧w.cell? ⟨g,3,none⟩=some (ae aa TD)∧w.cell? ⟨g,4,none⟩=some (ae aa held)∧g < w.heap.size:=by
 have h1:=h.row.1;exact ⟨h1.cell 0,h1.cell 1,h1.cell 2,h1.cell 3,h1.cell 4,h1.lt⟩
theorem GN (h:St w0 w (row g 155 (gi d part TE TD held r)::l)) :
  w.cell? ⟨g,5,none⟩=some (ae aa r.part)∧w.cell? ⟨g,6,none⟩=some (ae aa r.seq)∧w.cell? ⟨g,7,none⟩=some (ae aa r.au)∧w.cell? ⟨g,8,none⟩=some (ae aa r.aj)∧w.cell? ⟨g,9,none⟩=some (ae aa r.left)∧w.cell? ⟨g,10,none⟩=some (ae aa r.bad):=by
 have h1:=h.row.1;exact ⟨h1.cell 5,h1.cell 6,h1.cell 7,h1.cell 8,h1.cell 9,h1.cell 10⟩
def rK (part:Int):Bool:=decide (0≤part∧part < 4)
def roomFor (part:Int) (len:Nat):Bool:=decide (0≤part∧part < 4∧part*10+1 < (len:Int))
theorem L1 (p c:Int) (w:World) (hc:0≤c∧c < 2):Calls Tryz.prog 166 #[ae aa p,ae aa c] w fun e w'=>(∃a b,e=.returned (.tuple #[ae aa a,.bool b])∧b=rK p∧(b=true→a=p*10+c))∧Below w.heap.size w w':=by
 by_cases h:0≤p∧p < 4
 ·exact (place.Tu p c w h.1 h.2 hc.1 hc.2).mono fun e w' ⟨h1,h2⟩=>⟨⟨_,_,h1,by simp [rK,h],fun _=>rfl⟩,h2⟩
 ·exact (place.Qp p c w (by omega)).mono fun e w' ⟨h1,h2⟩=>⟨⟨_,_,h1,by simp [rK,h],fun h=>by simp at h⟩,h2⟩
def ab7 (w0:World) (l:List aI) (d:Nat) (m:DS) (part:Int) (n:Nat) (e:Ending) (w':World):Prop :=
 (roomFor part n=true→∃g,e=.returned (.tuple #[.pointer (some ⟨g,0,none⟩),ae aa 0])∧St w0 w' (log g d part (-1) Rec.zero::bE d m::l))∧
 (roomFor part n=false→e=.returned (.tuple #[.pointer none,ae aa 3])∧St w0 w' (bE d m::l))
theorem ru (h:St w0 w (bE d m::l)) (part:Int) :
  Calls Tryz.prog 118 #[.pointer (some ⟨d,0,none⟩),ae aa part] w (ab7 w0 l d m part m.ar.length):=by
 obtain ⟨w1,aF⟩:=xE (w.alloc (.cells #[.pointer (some ⟨d,0,none⟩),ae aa part,ae aa 0,ae aa 0,ae aa (-1),ae aa 0,ae aa 0,ae aa 0,ae aa 0,ae aa 0,ae aa 0] 155));have H1:=af (show St w0 w1 (row w.heap.size 155 (gi d part 0 0 (-1) Rec.zero)::bE d m::l) by rw [aF];exact h.new _ _);have HW:=af aF;have HG:=af (h.bu.n1);clear aF h;obtain ⟨L,hL⟩:=xE m.ar.length;have HL:=af hL;rw [←hL] at HG ⊢;clear hL;go_enter Tryz.func118,Tryz.ntmps118;go_wp2_with fail;rw [←HW.o];go_loopw [16] (fun i wr=>∃k:Nat,k≤2∧i=ae aa k∧(0 < k→rK part=true∧part*10+((k-1:Nat):Int) < (L:Int))∧St w0 wr (row w.heap.size 155 (gi d part (if 0 < k then part*10 else 0) (if 1 < k then part*10+1 else 0) (-1) Rec.zero)::bE d m::l)) (fun i _=>2-(intOf i).toNat)
 case atStart=>exact ⟨0,by omega,rfl,fun h=>absurd h (by omega),H1.o⟩
 case round =>
  obtain ⟨k,hk,rfl,hp,hi⟩:=hrel;have HI:=af hi;have HP:=af hp;clear hi hp;by_cases aH:k < 2
  ·have df:(k:Int) < 2:=by omega
   go_wp2_with fail;refine (L1 part k _ ⟨by omega,by omega⟩).mono ?_;rintro e w3 ⟨⟨a,b,rfl,hb,ha⟩,yu⟩;have DW:=af (HI.o.below yu);have HA:=af ha;have DZ:=af hb;clear yu ha hb;cases b with
   | false =>
     have HR:=af (show roomFor part L=false by
      have h:=DZ.o;unfold roomFor;unfold rK at h;simp at h ⊢
      omega)
     go_wp2_with fail;go_ret2;exact ⟨fun h=>absurd (h.symm.trans HR.o) (by decide),fun _=>⟨rfl,DW.o.drop⟩⟩
   | true =>
     have ha:=HA.o rfl;subst ha;have jr:=af (Hg DW.o.swap);rw [←HL.o] at jr;go_wp2_with fail;refine jr.o.mono ?_;rintro e w4 ⟨rfl,rfl⟩;obtain ⟨c0,c1,c2,c3,c4,lg⟩:=rj DW.o;have f2:=DW.o.row.1.frozen 2;have f3:=DW.o.row.1.frozen 3;by_cases hr:part*10+(k:Int)≥(L:Int)
     ·have HR:=af (show roomFor part L=false by unfold roomFor;simp;omega);go_wp2_with fail;go_ret2;exact ⟨fun h=>absurd (h.symm.trans HR.o) (by decide),fun _=>⟨rfl,DW.o.drop⟩⟩
     ·have sC:part*10+(k:Int) < (L:Int):=by omega
      clear hr;have hr:¬part*10+(k:Int)≥(L:Int):=by omega
      have dy:k=0∨k=1:=by omega
      rcases dy with rfl|rfl
      ·have HS:=af (DW.o.set 2 (ae aa (part*10)));have HF:=af (fun h:0 < 1=>(⟨DZ.o.symm,by simpa using sC⟩:rK part=true∧part*10+((1-1:Nat):Int) < (L:Int)));go_wp2_with fail;go_roundw;case rel=>exact ⟨1,by omega,rfl,HF.o,HS.o⟩
       case measure=>simp [intOf]<;>omega
      ·have HS:=af (DW.o.set 3 (ae aa (part*10+1)));have HF:=af (fun h:0 < 2=>(⟨DZ.o.symm,by simpa using sC⟩:rK part=true∧part*10+((2-1:Nat):Int) < (L:Int)));go_wp2_with fail;go_roundw;case rel=>exact ⟨2,by omega,rfl,HF.o,HS.o⟩
       case measure=>simp [intOf]<;>omega
  ·obtain rfl:k=2:=by omega
   have HR:=af (show roomFor part L=true by
    obtain ⟨h1,h2⟩:=HP.o (by omega);unfold rK at h1;unfold roomFor;simp at h1 h2 ⊢
    omega)
   go_wp2_with fail;go_ret2;exact ⟨fun _=>⟨_,rfl,HI.o⟩,fun h=>absurd (h.symm.trans HR.o) (by decide)⟩
theorem Dg (m:DS) (i:Int) (bs:List Int):(m.write i bs).2.waits.length≤m.waits.length+1:=by
 unfold DS.write;split
 ·exact Nat.le_succ _
 ·split
  ·exact Nat.le_succ _
  ·split
   ·simp [DS.put,DS.fN]
   ·show m.bR.waits.length≤_
    rw [DS.fN];exact Nat.le_succ _
theorem kf (h:St w0 w (log g d part held r::bE d m::l)) (c i:Int) (hc:c=0∧i=part*10∨c=1∧i=part*10+1)
  (A:Option Addr) (n k:Nat) (bs:List Int) (hn:bs.length=n) (hs:Sl w w.heap.size 1 A n (bs.map (.int .u8))) (fF:m.waits.length≤1000) :
  Calls Tryz.prog 87 #[.pointer (some ⟨g,0,none⟩),ae aa c,.slice A n k] w fun e w'=>e=.returned (ae aa (wf m i bs).1)∧St w0 w' (log g d part held r::bE d (wf m i bs).2::l):=by
 obtain ⟨c0,c1,c2,c3,c4,lg⟩:=rj h;have HW:=af (I7 h.drew.swap i A n k bs hn (hs.below (Below.refl _ _).drew) (by omega));clear hn;have HL:=af (show (m.write i bs).2.waits.length≤1000000 by have:=Dg m i bs;omega);clear h hs;obtain ⟨x,hx⟩:=xE (m.write i bs);have HX:=af (show wf m i bs=if x.1=0 then x.2.flush else x by rw [hx];rfl);rw [←hx] at HW HL;clear hx;obtain ⟨ev,m1⟩:=x;simp only at HX HW HL;rcases hc with ⟨rfl,hi⟩|⟨rfl,hi⟩
 all_goals
  subst hi;go_enter Tryz.func87,Tryz.ntmps87;go_wp2_with fail;refine fK [0,1,2,4,5,6,7,8,10,3,9] [[11,12]] (by kernel_rfl) (by kernel_rfl) (fun _ _ _ _ _ h=>h) ?_;simp only [mU,pick,xG];iterate 11 still_step
  refine wpStill_nil ?_;go_wp2_with fail;refine HW.o.mono ?_;rintro e w2 ⟨rfl,h2⟩;obtain ⟨c0,c1,c2,c3,c4,lg⟩:=rj h2.swap;by_cases he:ev=0
  ·subst he;have HF:=af (I8 h2 HL.o);have po:=af (HX.o.trans (if_pos rfl));clear h2;go_wp2_with fail;refine HF.o.mono ?_;rintro e w3 ⟨rfl,h3⟩;have H3:=af h3.swap;clear h3;go_wp2_with fail;go_ret;rw [po.o];exact ⟨rfl,H3.o⟩
  ·have b1:(ev != 0)=true:=by simpa using he
   have po:=af (HX.o.trans (if_neg he));have H2:=af h2.swap;clear h2 he;go_wp2_with fail;go_ret;rw [po.o];exact ⟨rfl,H2.o⟩
end
end bD
end Go.Proofs.YtdldkkoplgkloaaGreat
