/-
  PROVED HERE: lemmas that the law leans on.
  CONDITIONS: each names its own.
-/
import Derived.BigQuiet
import Derived.Test.YtdldkkoplgkloaaGreatPy0
import Derived.Test.YtdldkkoplgkloaaGreatPy17
import Derived.Test.YtdldkkoplgkloaaGreatPy23
import Derived.Test.YtdldkkoplgkloaaGreatPy25
namespace Go.Proofs.YtdldkkoplgkloaaGreat
set_option linter.unusedVariables false
set_option linter.unusedSimpArgs false
set_option maxRecDepth 100000
set_option maxHeartbeats 32000000
namespace store


open Go.RowKit Go.Deep base obj mem sep bf bk record bP aU image bK bR chain
section
variable {w0 w : World} {l : List aD}
theorem JB {ad:du} {t:aQ} {d:Nat} {m:DS} {xs:List PP} {B:aD} {A:Option Addr} {n c:Nat} {data:List Int} (h:St w0 w (bL ad t d m xs::B::l)) (ok:n8 t m xs) (q se no:Int) (hg:qi w0 B A n data) :
  Calls Tryz.prog 15 #[.pointer (some ⟨ad.S,0,none⟩),.int .i64 q,.int .i64 se,.int .i64 no,.slice A n c] w fun e w'=>e=.returned (.int .i64 (nO m xs q se no data).1)∧St w0 w' (bL ad t d (nO m xs q se no data).2.1 (nO m xs q se no data).2.2::B::l):=by
 have HF:=aa (CX h q);have H:=aa h;by_cases hf:ia xs q=0
 ·have et:0≤q∧q < xs.length:=by
   have:=rG (xs:=xs) (q:=q) (by first|exact hf|exact sP hf);exact this
  obtain ⟨p,rfl⟩:∃p:Nat,q=p:=⟨q.toNat,by omega⟩
  have hp:p < xs.length:=by omega
  have eJ:=ok.at_ hp
  have HD:=aa (show nO m xs p se no data=((ig m p (xs.getD p default).sp ((xs.getD p default).slot (xs.getD p default).sp) se no data).1,(ig m p (xs.getD p default).sp ((xs.getD p default).slot (xs.getD p default).sp) se no data).2.1,xs.set p ((xs.getD p default).bx (xs.getD p default).sp (ig m p (xs.getD p default).sp ((xs.getD p default).slot (xs.getD p default).sp) se no data).2.2)) by
   unfold nO
   rw [if_neg (by rw [hf];simp),ea])
  rw [hf] at HF;have je:=aa et;have jI:=aa (fun (w':World) (hb:Below w.heap.size w w')=>qz eJ (ji (H.o.below hb) hp));have rZ:=aa (fun (w':World) (hb:Below w.heap.size w w')=>(iX (uw (H.o.below hb) hp eJ) (ok.pl hp eJ.sp) (eJ.rk _) (by have:=ok.tx;omega) se no A n c data hg.1 (fun w' m' h'=>hg.2 _ _ (h'.pick 10 rfl))).mono fun e kV ⟨h1,h2⟩=>(And.intro h1 (Fg h2 hp eJ):_∧_));obtain ⟨sd,vQ⟩:∃v,v=nO m xs p se no data:=⟨_,rfl⟩
  rw [←vQ] at HD ⊢;generalize (xs.getD p default).slot (xs.getD p default).sp=sl at *;generalize EA:(ig m p (xs.getD p default).sp sl se no data)=bm at *;generalize (ad.al.getD p default).slot (xs.getD p default).sp=g at *;clear h hf vQ EA eJ et;go_enter Tryz.func15,Tryz.ntmps15;go_wp2_with fail;refine HF.o.mono ?_;rintro e w1 ⟨⟨v,rfl,hv⟩,hb⟩;rw [hv je.o,ea];have HB:=aa hb;clear hv hb;go_wp2_with fail;refine (jI.o w1 HB.o).mono ?_;rintro e w2 ⟨rfl,hb⟩;have aO:=aa (HB.o.trans (hb.mono HB.o.size));clear hb;go_wp2_with fail;refine (rZ.o w2 aO.o).mono ?_;rintro e w3 ⟨rfl,av⟩;have H3:=aa av;clear av;go_wp2_with fail;go_ret;rw [HD.o];exact ⟨rfl,H3.o⟩
 ·have HD:=aa (show nO m xs q se no data=(ia xs q,m,xs) from if_pos hf);rw [HD.o];generalize ia xs q=fe at *;have hf2:(fe != 0)=true:=by simpa using hf
  clear h hf;go_enter Tryz.func15,Tryz.ntmps15;go_wp2_with fail;refine HF.o.mono ?_;rintro e w1 ⟨⟨v,rfl,hv⟩,hb⟩;have HB:=aa hb;clear hv hb;go_wp2_with fail;go_ret;exact ⟨rfl,H.o.below HB.o⟩
def recAt (xs:List PP) (q:Int):Rec:=if q < 0∨(xs.length:Int)≤q then Rec.zero else (xs.getD q.toNat default).log.now
theorem Nt {ad:du} {t:aQ} {d:Nat} {m:DS} {xs:List PP} (h:St w0 w (bL ad t d m xs::l)) (q:Int):Calls Tryz.prog 13 #[.pointer (some ⟨ad.S,0,none⟩),.int .i64 q] w fun e w'=>e=.returned (recAt xs q).val∧Below w.heap.size w w':=by
 obtain ⟨R,hR⟩:∃R,R=w.heap.size:=⟨_,rfl⟩
 obtain ⟨w1,aJ⟩:∃w1,w1=w.alloc (.cells #[.int .i64 0,.int .i64 0,.int .i64 0,.int .i64 0,.int .i64 0,.int .i64 0] 35):=⟨_,rfl⟩
 have H1:=aa (show St w0 w1 (row R 35 [.int .i64 0,.int .i64 0,.int .i64 0,.int .i64 0,.int .i64 0,.int .i64 0]::bL ad t d m xs::l) by
  have h:=h.new 35 #[.int .i64 0,.int .i64 0,.int .i64 0,.int .i64 0,.int .i64 0,.int .i64 0];rw [←hR,←aJ] at h
  exact h)
 have bn:=aa (show Below w.heap.size w w1 by rw [aJ];exact (Below.refl _ w).alloc (Nat.le_refl _) _);have vx:=aa (show w.heap.size≤R by omega);have bq:=aa aJ;have HR:=aa hR;obtain ⟨s1,s2,s3⟩:=po H1.o.swap;clear aJ h;by_cases hq:q < 0∨(xs.length:Int)≤q
 ·have HP:=aa (ux s1 q hq);rw [recAt,if_pos hq];clear s1 s2 s3 hq hR;go_enter Tryz.func13,Tryz.ntmps13;go_upto_region 1 with fail;rw [←bq.o,←HR.o];go_wp2_with fail;refine HP.o.mono ?_;rintro e w' ⟨rfl,rfl⟩;go_wp2_with (refine aF rfl 35 (.tmp 4) (.tmp 15) rfl R 0 #[.int .i64 0,.int .i64 0,.int .i64 0,.int .i64 0,.int .i64 0,.int .i64 0] rfl rfl H1.o.row.1 (by kernel_rfl) (by simp) (by simp [Value.oneCell']) [.int .i64 0,.int .i64 0,.int .i64 0,.int .i64 0,.int .i64 0,.int .i64 0] (by simp) ?_);refine bodyPost_ret (v:=Rec.zero.val) (results_cell_row rfl _ _ R _ _ _ _ rfl (H1.o.row.1.setRow _) Tryz.underlying35 rfl (by kernel_rfl)) rfl ?_;exact ⟨rfl,dN bn.o vx.o _⟩
 ·obtain ⟨p,rfl⟩:∃p:Nat,q=p:=⟨q.toNat,by omega⟩
  have hp:p < xs.length:=by omega
  rw [recAt,if_neg hq,ea];have HP:=aa (uy s1 s2 s3 p hp);have ho:=pq H1.o.swap hp;have co:w1.cell? ⟨(ad.al.getD p default).O,0,none⟩=some (.pointer (some ⟨(ad.al.getD p default).L,0,none⟩)):=ho.cell 0;have lo:=ho.lt;have HL:=aa (ox (uD H1.o.swap hp));generalize (xs.getD p default).log.now=r at *;generalize (ad.al.getD p default).O=O,(ad.al.getD p default).L=L at *;obtain ⟨rp,rs,ra,rc,rl,rb⟩:=r;simp only [Rec.val,Rec.cells] at *;clear s1 s2 s3 hq ho hR;go_enter Tryz.func13,Tryz.ntmps13;go_upto_region 1 with fail;rw [←bq.o,←HR.o];go_wp2_with fail;refine HP.o.mono ?_;rintro e w' ⟨rfl,rfl⟩;go_wp2_with fail;refine HL.o.mono ?_;rintro e w2 ⟨rfl,hb⟩;have aO:=aa (bn.o.trans (hb.mono bn.o.size));have H2:=aa (H1.o.below hb);clear hb co lo;go_wp2_with (refine aF rfl 35 (.tmp 4) (.tmp 20) rfl R 0 #[.int .i64 rp,.int .i64 rs,.int .i64 ra,.int .i64 rc,.int .i64 rl,.int .i64 rb] rfl rfl H2.o.row.1 (by kernel_rfl) (by simp) (by simp [Value.oneCell']) [.int .i64 rp,.int .i64 rs,.int .i64 ra,.int .i64 rc,.int .i64 rl,.int .i64 rb] (by simp) ?_);refine bodyPost_ret (v:=.agg #[.int .i64 rp,.int .i64 rs,.int .i64 ra,.int .i64 rc,.int .i64 rl,.int .i64 rb]) (results_cell_row rfl _ _ R _ _ _ _ rfl (H2.o.row.1.setRow _) Tryz.underlying35 rfl (by kernel_rfl)) rfl ?_;exact ⟨rfl,dN aO.o vx.o _⟩
def By (xs:List PP) (q:Int):aS×Bool:=if q < 0∨(xs.length:Int)≤q then (aS.zero,false) else (told ((xs.getD q.toNat default).slot (xs.getD q.toNat default).sp),((xs.getD q.toNat default).slot (xs.getD q.toNat default).sp).has)
theorem Nc {ad:du} {t:aQ} {d:Nat} {m:DS} {xs:List PP} (h:St w0 w (bL ad t d m xs::l)) (ok:n8 t m xs) (q:Int):Calls Tryz.prog 12 #[.pointer (some ⟨ad.S,0,none⟩),.int .i64 q] w fun e w'=>e=.returned (.tuple #[(By xs q).1.val,.bool (By xs q).2])∧Below w.heap.size w w':=by
 obtain ⟨R,hR⟩:∃R,R=w.heap.size:=⟨_,rfl⟩
 obtain ⟨w1,aJ⟩:∃w1,w1=w.alloc (.cells #[.int .i64 0,.int .i64 0,.int .i64 0] 31):=⟨_,rfl⟩
 have H1:=aa (show St w0 w1 (row R 31 [.int .i64 0,.int .i64 0,.int .i64 0]::bL ad t d m xs::l) by
  have h:=h.new 31 #[.int .i64 0,.int .i64 0,.int .i64 0];rw [←hR,←aJ] at h
  exact h)
 have bn:=aa (show Below w.heap.size w w1 by rw [aJ];exact (Below.refl _ w).alloc (Nat.le_refl _) _);have vx:=aa (show w.heap.size≤R by omega);have bq:=aa aJ;have HR:=aa hR;obtain ⟨s1,s2,s3⟩:=po H1.o.swap;clear aJ h;by_cases hq:q < 0∨(xs.length:Int)≤q
 ·have HP:=aa (ux s1 q hq);rw [By,if_pos hq];clear s1 s2 s3 hq hR;go_enter Tryz.func12,Tryz.ntmps12;go_upto_region 1 with fail;rw [←bq.o,←HR.o];go_wp2_with fail;refine HP.o.mono ?_;rintro e w' ⟨rfl,rfl⟩;go_wp2_with (refine aF rfl 31 (.tmp 4) (.tmp 16) rfl R 0 #[.int .i64 0,.int .i64 0,.int .i64 0] rfl rfl H1.o.row.1 (by kernel_rfl) (by simp) (by simp [Value.oneCell']) [.int .i64 0,.int .i64 0,.int .i64 0] (by simp) ?_);refine bodyPost_ret (aM rfl _ _ R _ _ _ _ _ rfl rfl (H1.o.row.1.setRow _) Tryz.underlying31 rfl (by kernel_rfl)) rfl ?_;exact ⟨rfl,dN bn.o vx.o _⟩
 ·obtain ⟨p,rfl⟩:∃p:Nat,q=p:=⟨q.toNat,by omega⟩
  have hp:p < xs.length:=by omega
  have eJ:=ok.at_ hp;rw [By,if_neg hq,ea];have HP:=aa (uy s1 s2 s3 p hp);have jI:=aa (qz eJ (ji H1.o.swap hp));have CD:=aa (fun (w':World) (hb:Below w1.heap.size w1 w')=>I7 (uw (H1.o.below hb).swap hp eJ).row.1);generalize (xs.getD p default).slot (xs.getD p default).sp=sl at *;generalize (ad.al.getD p default).slot (xs.getD p default).sp=g at *;generalize (ad.al.getD p default).O=O at *;dsimp only;obtain ⟨⟨ss,sz,sh⟩,hts⟩:∃v:aS,v=told sl:=⟨_,rfl⟩
  rw [←hts] at CD ⊢;simp only [aS.val,aS.cells] at *;clear s1 s2 s3 hq hR eJ ok hts;go_enter Tryz.func12,Tryz.ntmps12;go_upto_region 1 with fail;rw [←bq.o,←HR.o];go_wp2_with fail;refine HP.o.mono ?_;rintro e w' ⟨rfl,rfl⟩;go_wp2_with fail;refine jI.o.mono ?_;rintro e w2 ⟨rfl,hb⟩;have aO:=aa hb;clear hb;go_wp2_with fail;refine (CD.o w2 aO.o).mono ?_;rintro e w3 ⟨rfl,hb⟩;have bD:=aa (aO.o.trans (hb.mono aO.o.size));have H3:=aa (H1.o.below bD.o);clear hb;go_wp2_with (refine aF rfl 31 (.tmp 4) (.tmp 20) rfl R 0 #[.int .i64 ss,.int .i64 sz,.int .i64 sh] rfl rfl H3.o.row.1 (by kernel_rfl) (by simp) (by simp [Value.oneCell']) [.int .i64 ss,.int .i64 sz,.int .i64 sh] (by simp) ?_);refine bodyPost_ret (aM rfl _ _ R _ _ _ _ _ rfl rfl (H3.o.row.1.setRow _) Tryz.underlying31 rfl (by kernel_rfl)) rfl ?_;exact ⟨rfl,dN (bn.o.trans (bD.o.mono bn.o.size)) vx.o _⟩
end
end store
namespace aU


open Go.RowKit base record bw Go.Proofs.YtdldkkoplgkloaaGreat.bits
def dU (bs:List Int):Nat:=(bs.length+15) / 16
def tK (bs:List Int):List Int:=bs++List.replicate (16*dU bs-bs.length) 0
def eO (bs:List Int) (j:Nat):List Int:=((tK bs).drop (16*j)).take 16
def dK (bs:List Int) (no:Nat):RS:=⟨true,⟨1,bs.length,2 ^ no-1⟩,(List.range no).map (eO bs)++List.replicate (dU bs-no) []⟩
def fD (bs:List Int):RS:=dK bs (dU bs)
theorem C7 (bs:List Int):(tK bs).length=16*dU bs:=by simp [tK,dU];omega
theorem oU {bs:List Int} {j:Nat} (hj:j < dU bs):(eO bs j).length=16:=by
 simp only [eO,fv,List.length_drop,C7];omega
theorem FT {bs:List Int} {j:Nat} (hj:16*j < bs.length):eO bs j=(bs.drop (16*j)).take 16++List.replicate (16-min 16 (bs.length-16*j)) 0:=by
 have hn:16*dU bs-bs.length < 16:=by unfold dU;omega
 have Gz:bs.length≤16*dU bs:=by unfold dU;omega
 unfold eO tK;rw [List.drop_append_of_le_length (by omega),List.take_append,List.length_drop,List.take_replicate]
 congr 2
 by_cases h:16≤bs.length-16*j
 ·rw [Nat.min_eq_left h];omega
 ·rw [Nat.min_eq_right (by omega)];have:dU bs=j+1:=by unfold dU;omega
  rw [this];omega
theorem KF {bs:List Int} (h:bo bs) (j:Nat):bo (eO bs j):=fun z hz=>by
 have h1:=List.mem_of_mem_drop (List.mem_of_mem_take hz);simp only [tK,List.mem_append,List.mem_replicate] at h1;rcases h1 with h1|⟨_,rfl⟩
 ·exact h z h1
 ·omega
theorem xd (bs:List Int):aR (bs.length:Int)=dU bs:=by unfold aR dU;omega
theorem Ea (R:RS) {bs:List Int} (h1:1≤bs.length) (h2:bs.length≤160):fF R 1 bs.length=(0,dK bs 0):=by
 unfold fF
 rw [if_pos (by
  have:(0:Int)≤2 ^ aR (bs.length:Int)-1:=by
   have:(1:Int)≤2 ^ aR (bs.length:Int):=by exact_mod_cast Nat.one_le_two_pow
   omega
  simp only [aS.right,Bool.and_eq_true,decide_eq_true_eq]
  omega),xd]
 simp [dK]
theorem De {bs:List Int} {no:Nat} (hn:no < dU bs):jU (dK bs no) 1 no (eO bs no)=(0,dK bs (no+1)):=by
 have hl:(dK bs no).blocks.length=dU bs:=by simp [dK];omega
 have hw:jv (dK bs no) 1 no (eO bs no).length=0:=by
  unfold jv;rw [if_neg (by simp [dK]),if_neg (by simp [dK]),if_neg (by rw [hl];omega),if_neg (by rw [oU hn];simp)]
 have hg:(dK bs no).blocks.getD no []=[]:=by
  have e:((List.range no).map (eO bs)++List.replicate (dU bs-no) ([]:List Int)).getD no []=[]:=by
   rw [dz,List.getElem?_append_right (by simp)];simp;cases h:(List.replicate (dU bs-no) ([]:List Int))[0]? with
   | none=>rfl
   | some x =>
     have:=List.eq_of_mem_replicate (List.mem_of_getElem? h);simp [this]
  exact e
 unfold jU;rw [hw,if_neg (by simp),ea,if_neg (by rw [hg];simp)]
 have km:(dK bs no).blocks.set no (eO bs no)=(List.range (no+1)).map (eO bs)++List.replicate (dU bs-(no+1)) []:=by
  obtain ⟨k,hk⟩:∃k,dU bs-no=k+1:=⟨dU bs-no-1,by omega⟩
  have:dU bs-(no+1)=k:=by omega
  simp only [dK,hk,this,List.replicate_succ,List.range_succ,List.map_append,List.map_cons,List.map_nil,List.append_assoc,List.cons_append,List.nil_append];rw [List.set_append_right _ _ (by simp)];simp
 rw [km];simp only [dK,Prod.mk.injEq,true_and,RS.mk.injEq,aS.mk.injEq];refine ⟨?_,trivial⟩;have:(2:Int) ^ (no+1)=2 ^ no*2:=by rw [Int.pow_succ]
 omega
theorem NN {bs:List Int} (h1:1≤bs.length):dt (fD bs)=(bs,0):=by
 unfold dt;have hb:(fD bs).blocks=(List.range (dU bs)).map (eO bs):=by simp [fD,dK]
 rw [if_neg (by simp [fD,dK]),if_neg (by
  rw [hb];rintro ⟨b,hb,rfl⟩;obtain ⟨j,hj,e⟩:=List.mem_map.1 hb;have:=oU (List.mem_range.1 hj);rw [e] at this
  simp at this),hb]
 have h2:=chunks (tK bs) (dU bs);rw [show ((List.range (dU bs)).map (eO bs))=((List.range (dU bs)).map fun j=>((tK bs).drop (16*j)).take 16) from rfl,h2,←C7,List.take_length];simp [fD,dK,tK]
end aU
namespace store


open Go.RowKit Go.Deep base obj mem sep bf bk record bP aU image bK bR chain bw
structure rK (w0 w:World) (g d:Nat) (p k:Int) (m0 m:DS) (s:bC) (R:RS) (l:List aD):Prop where
 st:St w0 w (slt g d p k s::bU d m::l)
 si:SI m p k s R Option.none
 up:m.Up
 len:m.az.length=m0.az.length
 out:∀j,aU.Outside p k j→m.now j=m0.now j
theorem rK.below {w0 w w':World} {g d:Nat} {p k:Int} {m0 m:DS} {s:bC} {R:RS} {l:List aD} (h:rK w0 w g d p k m0 m s R l) (hb:Below w.heap.size w w'):rK w0 w' g d p k m0 m s R l:=⟨h.st.below hb,h.si,h.up,h.len,h.out⟩
theorem rK.ext {w0 w w':World} {g d:Nat} {p k:Int} {m0 m:DS} {s:bC} {R:RS} {l:List aD} {B:aD} (h:rK w0 w g d p k m0 m s R l) (av:St w0 w' (B::slt g d p k s::bU d m::l)):rK w0 w' g d p k m0 m s R (B::l):=⟨(av.pick 2 rfl).pick 2 rfl,h.si,h.up,h.len,h.out⟩
theorem rK.drop {w0 w:World} {g d:Nat} {p k:Int} {m0 m:DS} {s:bC} {R:RS} {l:List aD} {B:aD} (h:rK w0 w g d p k m0 m s R (B::l)):rK w0 w g d p k m0 m s R l:=⟨((h.st.pick 2 rfl).drop),h.si,h.up,h.len,h.out⟩
theorem Qi {w0 w:World} {g d:Nat} {p k:Int} {m0 m:DS} {s:bC} {R:RS} {l:List aD} (h:rK w0 w g d p k m0 m s R l) (se sz:Int) :
  Calls Tryz.prog 50 #[.pointer (some ⟨g,0,none⟩),.int .i64 se,.int .i64 sz] w fun e w'=>e=.returned (.int .i64 (fF R se sz).1)∧∃m' s',rK w0 w' g d p k m0 m' s' (fF R se sz).2 l:=by
 obtain ⟨h1,h2,h3⟩:=h.si.Rv h.up se sz;refine (qt h.st h.si.pl.pk (by have:=h.si.tx;omega) se sz).mono fun e w' ⟨e1,e2⟩=>⟨by rw [e1,h1],_,_,e2,h2,h3,?_,fun j hj=>by rw [Ho h.si.pl s se sz hj];exact h.out j hj⟩
 rw [←h.len];unfold fU;split
 ·split<;>exact jB _ _ _
 ·rfl
theorem WC {w0 w:World} {g d:Nat} {p k:Int} {m0 m:DS} {s:bC} {R:RS} {l:List aD} {B:aD} {A:Option Addr} {n c:Nat} {data:List Int} (h:rK w0 w g d p k m0 m s R (B::l)) (hg:qi w0 B A n data) (hb:bo data) (se no:Int) :
  Calls Tryz.prog 51 #[.pointer (some ⟨g,0,none⟩),.int .i64 se,.int .i64 no,.slice A n c] w fun e w'=>e=.returned (.int .i64 (jU R se no data).1)∧∃m' s',rK w0 w' g d p k m0 m' s' (jU R se no data).2 (B::l):=by
 obtain ⟨h1,h2,h3⟩:=h.si.X0 h.up se no hb;exact (iX h.st h.si.pl h.si.right (by have:=h.si.tx;omega) se no A n c data hg.1 (fun w' m' h'=>hg.2 _ _ (h'.pick 2 rfl))).mono fun e w' ⟨e1,e2⟩=>⟨by rw [e1,h1],_,_,e2,h2,h3,by rw [z9];exact h.len,fun j hj=>by rw [LS h.si.pl h.si.right se no hb hj];exact h.out j hj⟩
theorem WE {w0 w:World} {g d:Nat} {p k:Int} {m0 m:DS} {s:bC} {R:RS} {l:List aD} (h:rK w0 w g d p k m0 m s R l) (i:aw) (hr:i.right) (cu:bo i.code) (A:Option Addr) (c:Nat) (hc:i.code.length≤c) (hs:Sl w w.heap.size 1 A i.code.length (aP i.code)) :
  Calls Tryz.prog 81 #[.pointer (some ⟨g,0,none⟩),i.val A c] w fun e w'=>e=.returned (.int .i64 0)∧∃m' s',rK w0 w' g d p k m0 m' s' (fD i.bytes) l:=by
 have HP:=aa (fun (w':World) (hb:Below w.heap.size w w')=>FC w' i hr A c hc cu ((hs.below hb).more hb.size));have YP:i.code.length≤96:=by obtain ⟨_,_,_,_,_,_,_,h⟩:=hr;omega
 have ch:=aa (mS i);have kN:=aa (show bo i.bytes from ue _ (sy i cu));obtain ⟨n,hn⟩:∃n,n=49+i.code.length:=⟨_,rfl⟩
 rw [←hn] at HP ch;obtain ⟨bs,fZ⟩:∃v,v=i.bytes:=⟨_,rfl⟩
 rw [←fZ] at HP ch kN ⊢;have Er:49≤n:=by omega
 have Gz:n≤145:=by omega
 have H:=aa h;simp only [aw.val] at HP ⊢;have bn:=aa ((Below.refl w.heap.size w).alloc (Nat.le_refl _) (.cells #[.int .i64 i.part,.int .i64 i.version,.int .i64 i.aY,.int .i64 i.mem,.int .i64 i.fuel,.int .i64 i.aN,.int .i64 i.aB,.slice A i.code.length c] 26));generalize i.part=i0,i.version=i1,i.aY=i2,i.mem=i3,i.fuel=i4,i.aN=i5,i.aB=i6,i.code.length=i7 at *;have rZ:=aa (fun (R:RS)=>Ea R (bs:=bs) (by have:=ch.o;omega) (by have:=ch.o;omega));rw [ch.o] at rZ;have yb:=aa (show dU bs=(n+15) / 16 by unfold dU;rw [ch.o]);clear h hr hs hn fZ cu hc;go_enter Tryz.func81,Tryz.ntmps81;go_wp2_with fail;refine (HP.o _ bn.o).mono ?_;rintro e w2 ⟨v,rfl,ho,hb⟩;obtain ⟨A2,c2,rfl,AB,At⟩:=aH ho;have H2:=aa (H.o.ext ((H.o.st.below bn.o).cQ hb ho));clear ho hb;go_wp2_with fail;refine (Qi H2.o 1 (n:Int)).mono ?_;rintro e w3 ⟨rfl,m3,s3,h3⟩;rw [rZ.o R] at h3 ⊢;have H3:=aa h3;clear h3;dsimp only at H3 ⊢;go_wp2_with fail;go_loopw [8] (fun x wr=>∃(no:Nat) (m':DS) (s':bC),no≤dU bs∧x=.int .i64 no∧rK w0 wr g d p k m0 m' s' (dK bs no) (own 5 1 (.slice A2 n c2) n (aP bs)::l)) (fun x _=>dU bs-(intOf x).toNat)
 case atStart=>exact ⟨0,m3,s3,by omega,rfl,H3.o⟩
 case round =>
  obtain ⟨no,m',s',kt,rfl,av⟩:=hrel;clear H3;by_cases aK:no < dU bs
  ·have bJ:=aa av;have oD:=yb.o;have dB:=Sl.bz ((av.st.pick 2 rfl).own);obtain ⟨b,off,hA,cy,qF⟩:=dB.2 (by omega);have HA:=aa hA;have aaR:16*no < n:=by omega
   obtain ⟨f,hf⟩:∃f,f=16*no:=⟨_,rfl⟩
   have W1:IntKind.i64.wrap ((no:Int)*16)=(f:Int):=by rw [IntWalk.i64_in _ (by omega)];omega
   have k1:(f:Int) < (n:Int):=by omega
   have k2:(0:Int)≤(f:Int):=by omega
   have k3:(f:Int)≤(n:Int):=by omega
   have k4:(n:Int)≤(c2:Int):=by omega
   have k5:(f:Int)≤(c2:Int):=by omega
   have k6:¬c2=f:=by omega
   have pL:=Jz;obtain ⟨cs,cX⟩:∃v,v=aP ((bs.drop (16*no)).take 16):=⟨_,rfl⟩
   have pM:cs.length=Nat.min (n-16*no) 16:=by
    rw [cX];simp [aP,ch.o,Nat.min_comm]
   have HCN:=aa pM
   have KW:=aa (show ∀j v,cs[j]?=some v→wr.cell? ((⟨b,off+16*no,none⟩:Addr).add j)=some v from fun j v hv=>by
    rw [show (⟨b,off+16*no,none⟩:Addr).add j=⟨b,off+(16*no+j),none⟩ by unfold Addr.add;split<;>simp_all [Nat.add_assoc]];refine qF (16*no+j) v ?_;rw [cX,aP,List.map_take,List.getElem?_take] at hv;split at hv
    ·rwa [List.map_drop,List.getElem?_drop] at hv
    ·simp at hv)
   have Lc:=aa (show 0+cs.length≤(Array.replicate 16 (Value.int .u8 0)).size by rw [pM];simp only [Nat.zero_add,Array.size_replicate];exact Nat.min_le_right _ _);have zG:=aa (show ∀v∈cs,v.oneCell'=true by rw [cX];exact iO _)
   have qM:=aa (show ((Array.replicate 16 (Value.int .u8 0)).toList.take 0++(cs++(Array.replicate 16 (Value.int .u8 0)).toList.drop (0+cs.length))).toArray=(aP (eO bs no)).toArray by
    rw [FT (by rw [ch.o];exact aaR),pM,cX,ch.o];simp only [List.take_zero,List.nil_append,Nat.zero_add,Array.toList_replicate,List.drop_replicate,aP,List.map_append,List.map_replicate]
    rw [show Nat.min (n-16*no) 16=min 16 (n-16*no) from Nat.min_comm _ _])
   have Bg:=aa (De (bs:=bs) aK);have ZD:=aa (oU aK);clear av dB hA cX pM qF;rw [HA.o];go_upto_region 10 with (refine qQ rfl (.tmp 31) (.tmp 35) 24 24 rfl Tryz.underlying24 CU wr.heap.size 0 16 16 ⟨b,off+16*no,none⟩ (n-16*no) (c2-16*no) rfl rfl (Array.replicate 16 (.int .u8 0)) 5 cs HCN.o KW.o Lc.o zG.o _ qM.o ?_ rfl)
   have Dk:=bJ.o.st.new 5 (aP (eO bs no)).toArray;obtain ⟨D,hD⟩:∃D,D=wr.heap.size:=⟨_,rfl⟩
   obtain ⟨w5,dQ⟩:∃v,v=wr.alloc (.cells (aP (eO bs no)).toArray 5):=⟨_,rfl⟩
   rw [←hD,←dQ] at Dk;rw [←hD,←dQ];have H5:=aa (bJ.o.ext Dk);have wO:=aa (oJ (w0:=w0) (t:=D) (n:=16) (xs:=aP (eO bs no)) (bs:=eO bs no) ZD.o (by rw [List.take_of_length_le (by simp [aP,ZD.o])]));clear Dk hD dQ W1;go_wp2_with fail;refine (WC (data:=eO bs no) H5.o wO.o (KF kN.o no) 1 (no:Int)).mono ?_;rintro e w6 ⟨rfl,m6,s6,h6⟩;rw [Bg.o] at h6 ⊢;have H6:=aa h6.drop;clear h6;dsimp only at H6 ⊢;go_wp2_with fail;go_roundw;case rel=>exact ⟨no+1,m6,s6,by omega,by go_num,by rw [←HA.o];exact H6.o⟩
   case measure=>simp [intOf];omega
  ·have Ep:=yb.o;have HE:=aa (show no=dU bs by omega);have bJ:=aa av.drop;have W1:IntKind.i64.wrap ((no:Int)*16)=(16*no:Nat):=by rw [IntWalk.i64_in _ (by omega)];omega
   have k1:¬((16*no:Nat):Int) < (n:Int):=by omega
   have k2:¬(16*(no:Int)) < (n:Int):=by omega
   clear av;go_wp2_with fail;go_ret;refine ⟨rfl,m',s',?_⟩;have h:=bJ.o;rw [HE.o] at h;exact h
end store
namespace store


open Go.RowKit base bk record bP aU image bK bR
instance:Inhabited RS:=⟨RS.none⟩
theorem AM {α:Type} {l l':List α} {n:Nat} (h:n < l.length) (d:α):(l++l').getD n d=l.getD n d:=by simp [dz,List.getElem?_append_left h]
theorem AK {α:Type} {l l':List α} {n:Nat} (h:l.length≤n) (d:α):(l++l').getD n d=l'.getD (n-l.length) d:=by simp [dz,List.getElem?_append_right h]
theorem tu {α:Type} {l:List α} {n:Nat} (h:n < l.length) (d:α):l.getD n d=l[n]:=by simp [h]
structure KL (m:DS) (p:Nat) (x:PP) (R:RS×RS):Prop where
 log:nv m p x.log
 s0:SI m p 0 x.s0 R.1 Option.none
 s1:SI m p 1 x.s1 R.2 Option.none
structure Calm (m:DS):Prop where
 up:m.Up
 waits:m.waits=[]
 b8:m.Good
 jm:m.iU
structure rJ (m:DS) (xs:List PP) (Rs:List (RS×RS)):Prop where
 calm:Calm m
 len:Rs.length=xs.length
 parts:∀p,p < xs.length→KL m p (xs.getD p default) (Rs.getD p default)
 recs:∀p,p < xs.length→(xs.getD p default).log.now=bh p
theorem KL.other {m m':DS} {p:Nat} {x:PP} {R:RS×RS} (h:KL m p x R) (hc:Calm m) (fS:Calm m') (hl:m'.az.length=m.az.length) (hn:∀j:Nat,10*p≤j→j < 10*p+10→m'.now j=m.now j):KL m' p x R:=by
 have td:=h.log.p0;have JR:=h.log.p1;have hh:=h.log.held;refine ⟨?_,?_,?_⟩
 ·refine ⟨fS.b8,fS.jm,td,JR,by rw [hl];exact h.log.room,hh,h.log.right,h.log.part,?_,?_⟩
  ·rw [hn _ (by omega) (by omega)];exact h.log.cur
  ·intro r;rw [hn _ (by omega) (by omega)];exact h.log.old r
 ·exact h.s0.other hc.up.1 fS.b8 fS.jm hl fS.waits fS.up.1 fun j hj=>hn j (by unfold aU.Outside bM at hj;omega) (by unfold aU.Outside bM at hj;omega)
 ·exact h.s1.other hc.up.1 fS.b8 fS.jm hl fS.waits fS.up.1 fun j hj=>hn j (by unfold aU.Outside bM at hj;omega) (by unfold aU.Outside bM at hj;omega)
theorem KG {m:DS} (hc:Calm m) {p k:Int} (hp:Pl m p k) (hz:m.now (bM p k).toNat=br):SI m p k bC.none RS.none Option.none :=
 ⟨hp,Db,by rw [hc.waits];simp,fun _=>⟨rfl,hc.waits,Dc _ _ _,sX hz⟩,fun h=>absurd (hc.up.1.symm.trans h) (by decide)⟩
theorem rK.calm {w0 w:World} {g d:Nat} {p k:Int} {m0 m:DS} {s:bC} {R:RS} {l:List sep.aD} (h:rK w0 w g d p k m0 m s R l):Calm m:=⟨h.up,(h.si.up h.up.1).2.1,h.si.pl.b8,h.si.pl.jm⟩
def NL (p:Nat) (s:bC):PP:=⟨⟨0,bh p⟩,s,bC.none⟩
theorem rJ.make {m m1 m2:DS} {xs:List PP} {Rs:List (RS×RS)} (h:rJ m xs Rs) {q:Nat} (hq:xs.length=q) (rB:q < 4) (hlen:10*(q+1)≤m.az.length) (hz:∀j:Nat,10*q≤j→j < m.az.length→m.now j=br)
  {s:bC} {R:RS} (h1:SI m1 q 0 s R Option.none) (u1:m1.Up) (l1:m1.az.length=m.az.length) (o1:∀j,aU.Outside q 0 j→m1.now j=m.now j)
  (h2:nv m2 q ⟨0,bh q⟩) (u2:m2.Up) (w2:m2.waits=[]) (l2:m2.az.length=m1.az.length) (o2:∀j:Nat,j≠10*q→j≠10*q+1→m2.now j=m1.now j) :
  rJ m2 (xs++[NL q s]) (Rs++[(R,RS.none)])∧∀j:Nat,10*(q+1)≤j→j < m2.az.length→m2.now j=br:=by
 have c1:Calm m1:=⟨u1,(h1.up u1.1).2.1,h1.pl.b8,h1.pl.jm⟩
 have c2:Calm m2:=⟨u2,w2,h2.b8,h2.jm⟩
 have xL:m2.az.length=m.az.length:=l2.trans l1
 have TE:∀j:Nat,(j < 10*q∨10*q+6≤j)→m2.now j=m.now j:=fun j hj=>by
  rw [o2 j (by omega) (by omega)];exact o1 j (by unfold aU.Outside bM;omega)
 refine ⟨⟨c2,by simp [h.len],fun p hp=>?_,fun p hp=>?_⟩,fun j hj iZ=>?_⟩
 ·rw [gA,List.length_singleton] at hp;by_cases Mb:p < xs.length
  ·rw [AM Mb,AM (by rw [h.len];exact Mb)];exact (h.parts p Mb).other h.calm c2 xL fun j h1 h2=>TE j (by omega)
  ·have Mc:p=q:=by omega
   subst Mc;rw [AK (by omega),AK (by rw [h.len];omega),h.len,hq,Nat.sub_self];refine ⟨h2,?_,?_⟩
   ·exact h1.other u1.1 c2.b8 c2.jm l2 w2 u2.1 fun j hj=>o2 j (by unfold aU.Outside bM at hj;omega) (by unfold aU.Outside bM at hj;omega)
   ·refine KG c2 ⟨c2.b8,c2.jm,by omega,by omega,by omega,by omega,by unfold eH;omega⟩ ?_;rw [show (bM (p:Int) 1).toNat=10*p+6 by unfold bM;omega,TE _ (by omega)];exact hz _ (by omega) (by omega)
 ·rw [gA,List.length_singleton] at hp;by_cases Mb:p < xs.length
  ·rw [AM Mb];exact h.recs p Mb
  ·have Mc:p=q:=by omega
   subst Mc;rw [AK (by omega),hq,Nat.sub_self];rfl
 ·rw [TE j (by omega)];exact hz j (by omega) (by omega)
theorem rJ.start {m:DS} (hc:Calm m):rJ m [] []:=⟨hc,rfl,fun p hp=>absurd hp (by simp),fun p hp=>absurd hp (by simp)⟩
theorem rJ.ok {t:aQ} {m:DS} {xs:List PP} {Rs:List (RS×RS)} (h:rJ m xs Rs) (hr:t.right=true) (hl:xs.length=t.parts.length) (ll:10*xs.length≤m.az.length):n8 t m xs:=by
 refine ⟨hr,hl,h.calm.jm,h.calm.b8,ll,by rw [h.calm.waits];simp,fun x hx=>?_⟩;obtain ⟨p,hp,rfl⟩:=List.mem_iff_getElem.1 hx;have hi:=h.parts p hp;rw [tu hp] at hi;have hr:=fC.la hi.log.right;exact ⟨by omega,by omega,hi.log.held,by omega,by omega,hi.s0.right,hi.s1.right⟩
end store
namespace store


open Go.RowKit Go.Deep base obj mem sep bf bk record bP aU image bK bR chain bw
inductive KM (w0:World) (O d:Nat) (p:Int) (m:DS) (v0 c1 c2:Value) (l:List aD):Int→World→Prop
 | zero {w:World} (h:St w0 w (row O 102 [v0,c1,c2]::bU d m::l)):KM w0 O d p m v0 c1 c2 l 0 w
 | one {w:World} (g0:Nat) (h:St w0 w (row O 102 [v0,.pointer (some ⟨g0,0,none⟩),c2]::slt g0 d p 0 (iV m p 0)::bU d m::l)):KM w0 O d p m v0 c1 c2 l 1 w
 | two {w:World} (g0 g1:Nat) (h:St w0 w (row O 102 [v0,.pointer (some ⟨g0,0,none⟩),.pointer (some ⟨g1,0,none⟩)]::slt g0 d p 0 (iV m p 0)::slt g1 d p 1 (iV m p 1)::bU d m::l)):KM w0 O d p m v0 c1 c2 l 2 w
theorem Ya {w0 w:World} {l:List aD} {O d:Nat} {m:DS} {p:Int} {v0 c1 c2:Value} (h:St w0 w (row O 102 [v0,c1,c2]::bU d m::l)) (oz:pB p 0 m.az.length=true) (vT:pB p 1 m.az.length=true) (hd:m.down=false) (fY:m.waits.length≤1000) (cu:m.iU) :
  Calls Tryz.prog 71 #[.pointer (some ⟨O,0,none⟩),.pointer (some ⟨d,0,none⟩),.int .i64 p] w fun e w'=>e=.returned (.int .i64 0)∧∃g0 g1,St w0 w' (row O 102 [v0,.pointer (some ⟨g0,0,none⟩),.pointer (some ⟨g1,0,none⟩)]::slt g0 d p 0 (iV m p 0)::slt g1 d p 1 (iV m p 1)::bU d m::l):=by
 have H:=aa (KM.zero (p:=p) h);have HO:=aa (fun (w':World) (l':List aD) (hs:St w0 w' (bU d m::l'))=>Fv hs p 0 oz hd fY cu);have K7:=aa (fun (w':World) (l':List aD) (hs:St w0 w' (bU d m::l'))=>Fv hs p 1 vT hd fY cu);clear h oz vT hd fY cu;go_enter Tryz.func71,Tryz.ntmps71;go_wp2_with fail;go_loopw [10] (fun x wr=>∃j:Int,x=.int .i64 j∧KM w0 O d p m v0 c1 c2 l j wr) (fun x _=>3-(intOf x).toNat)
 case atStart=>exact ⟨0,rfl,H.o⟩
 case round =>
  obtain ⟨j,rfl,av⟩:=hrel;clear H;cases av with
  | zero h =>
    have H:=aa h;clear h;go_wp2_with fail;refine (HO.o wr _ H.o.swap).mono ?_;rintro e w1 ⟨g0,rfl,h1⟩;have h2:=h1.pick 2 rfl;have H1:=aa h2;have z1:w1.cell? ⟨O,1,none⟩=some c1:=h2.row.1.cell 1;have f1:w1.frozen? ⟨O,1,none⟩=false:=h2.row.1.frozen 1;have lO:=h2.row.1.lt;clear h1 h2;go_wp2_with fail;go_roundw;case rel=>exact ⟨1,rfl,.one g0 (H1.o.set 1 (.pointer (some ⟨g0,0,none⟩)))⟩
    case measure=>simp [intOf]
  | one g0 h =>
    have H:=aa h;clear h;go_wp2_with fail;refine (K7.o wr _ (H.o.pick 2 rfl)).mono ?_;rintro e w1 ⟨g1,rfl,h1⟩;have h2:=h1.pick 2 rfl;have H1:=aa h2;have z1:w1.cell? ⟨O,2,none⟩=some c2:=h2.row.1.cell 2;have f1:w1.frozen? ⟨O,2,none⟩=false:=h2.row.1.frozen 2;have lO:=h2.row.1.lt;clear h1 h2;go_wp2_with fail;go_roundw
    case rel =>
     have h:=H1.o.set 2 (.pointer (some ⟨g1,0,none⟩));simp only [List.set_cons_succ,List.set_cons_zero] at h;exact ⟨2,rfl,.two g0 g1 ((h.pick 3 rfl).pick 1 rfl)⟩
    case measure=>simp [intOf]
  | two g0 g1 h =>
    have H:=aa h;clear h;go_wp2_with fail;go_ret;exact ⟨rfl,g0,g1,H.o⟩
def oh (n:Nat) (t:aQ):Int:=if t.right=false then 9 else if (n:Int) < 10*t.parts.length then 3 else 0
theorem lK {w0 w:World} {l:List aD} {d:Nat} {m:DS} (h:St w0 w (bU d m::l)) {a:en} {t:aQ} (ht:ma w a t) :
  Calls Tryz.prog 68 #[.pointer (some ⟨d,0,none⟩),a.val t] w fun e w'=>e=.returned (.int .i64 (oh m.az.length t))∧Below w.heap.size w w':=by
 have ez:=aa (fun w' (hb:Below w.heap.size w w')=>ft (ht.over hb));have Bh:=aa (fun (w':World) (hb:Below w.heap.size w w')=>FP (h.below hb));obtain ⟨Z,hZ⟩:∃Z,Z=w.heap.size:=⟨_,rfl⟩
 obtain ⟨w1,aJ⟩:∃w1,w1=w.alloc (.cells #[.int .i64 t.frame,.slice a.AP t.parts.length a.cP,.slice a.AW t.aC.length a.cW,.slice a.AC t.au.length a.cC,.int .i64 t.ay] 46):=⟨_,rfl⟩
 have H1:=aa (show St w w1 [row Z 46 [.int .i64 t.frame,.slice a.AP t.parts.length a.cP,.slice a.AW t.aC.length a.cW,.slice a.AC t.au.length a.cC,.int .i64 t.ay]] by
  have h:=(St.nil w).new 46 #[.int .i64 t.frame,.slice a.AP t.parts.length a.cP,.slice a.AW t.aC.length a.cW,.slice a.AC t.au.length a.cC,.int .i64 t.ay];rw [←hZ,←aJ] at h
  exact h)
 have HN:=aa (show oh m.az.length t=if t.right=false then 9 else if (m.az.length:Int) < 10*t.parts.length then 3 else 0 from rfl);have rV:=aa (fun hr=>(aQ.r (t:=t) hr).np);obtain ⟨wl,fY⟩:∃v,v=oh m.az.length t:=⟨_,rfl⟩
 rw [←fY] at HN ⊢;have bq:=aa aJ;have HZ:=aa hZ;simp only [en.val] at bq ⊢;generalize t.right=rr at *;generalize m.az.length=n at *;generalize t.parts.length=nP,t.aC.length=nW,t.au.length=nC,t.frame=fr,t.ay=tr at *;have t0:w1.cell? ⟨Z,0,none⟩=some (.int .i64 fr):=H1.o.row.1.cell 0;have t1:w1.cell? ⟨Z,1,none⟩=some (.slice a.AP nP a.cP):=H1.o.row.1.cell 1;have t2:w1.cell? ⟨Z,2,none⟩=some (.slice a.AW nW a.cW):=H1.o.row.1.cell 2;have t3:w1.cell? ⟨Z,3,none⟩=some (.slice a.AC nC a.cC):=H1.o.row.1.cell 3;have t4:w1.cell? ⟨Z,4,none⟩=some (.int .i64 tr):=H1.o.row.1.cell 4;have lT:=H1.o.row.1.lt;clear aJ hZ h ht fY;go_enter Tryz.func68,Tryz.ntmps68;go_upto_region 1 with fail;rw [←bq.o,←HZ.o];go_wp2_with fail;refine (ez.o w1 H1.o.aI).mono ?_;rintro e w2 ⟨rfl,hb⟩;have H2:=aa (H1.o.below hb);clear hb t0 t1 t2 t3 t4 lT;cases rr with
 | false =>
   go_wp2_with fail;go_ret;exact ⟨bt (by rw [HN.o];rfl),H2.o.aI⟩
 | true =>
   have JT:=rV.o rfl;have t1:w2.cell? ⟨Z,1,none⟩=some (.slice a.AP nP a.cP):=H2.o.row.1.cell 1;have lT:=H2.o.row.1.lt;have xZ:=aa (fun (w':World)=>place.Ni (nP:Int) w' (by omega) (by omega));have abM:=aa (Bh.o w2.drew H2.o.aI.drew);go_upto_region 5 with fail;refine eh (fun w'=>w'.cell? ⟨Z,1,none⟩=some (.slice a.AP nP a.cP)∧Z < w'.heap.size) (by kernel_rfl) (⟨t1,lT⟩) (fun bQ=>?_);(refine ai 0 ?_;(try simp only [af,ae,ah,Act.put,aq,ak,ao]));(refine ai 2 ?_;(try simp only [af,ae,ah,Act.put,aq,ak,ao]));(refine ai 3 ?_;(try simp only [af,ae,ah,Act.put,aq,ak,ao]));(refine ai 4 ?_;(try simp only [af,ae,ah,Act.put,aq,ak,ao]));(refine dV 1 ?_;(try simp only [af,ae,ah]);go_simp);refine abM.o.mono ?_;rintro e w3 ⟨rfl,rfl⟩;dsimp only;(refine cG (⟨t1,lT⟩) (fun bQ=>?_);(try simp only [af,ae,ah,Act.put,aq,ak,ao]));(refine dV 5 ?_;(try simp only [af,ae,ah]);go_simp);refine (xZ.o _).mono ?_;rintro e w4 ⟨rfl,rfl⟩;dsimp only;(refine cG (⟨t1,lT⟩) (fun bQ=>?_);(try simp only [af,ae,ah,Act.put,aq,ak,ao]));(refine ai 6 ?_;(try simp only [af,ae,ah,Act.put,aq,ak,ao]));(refine ai 7 ?_;(try simp only [af,ae,ah,Act.put,aq,ak,ao]));refine dW (by kernel_rfl) ?_;by_cases aK:(n:Int) < 10*(nP:Int)
   ·have HL:=aa (show wl=3 by rw [HN.o,if_neg (by simp)];exact if_pos aK);rw [decide_eq_true aK];clear aK;go_wp2_with fail;go_ret;exact ⟨bt HL.o.symm,H2.o.aI.drew⟩
   ·have HL:=aa (show wl=0 by rw [HN.o,if_neg (by simp)];exact if_neg aK);rw [decide_eq_false aK];clear aK;go_wp2_with fail;go_ret;exact ⟨bt HL.o.symm,H2.o.aI.drew⟩
end store
end Go.Proofs.YtdldkkoplgkloaaGreat
