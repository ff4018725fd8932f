/- PROVED HERE: lemmas of the law. CONDITIONS: each names its own. -/
import Derived.Test.YtdldkkoplgkloaaGreatPa23
namespace Go.Proofs.YtdldkkoplgkloaaGreat
set_option linter.unusedVariables false
set_option linter.unusedSimpArgs false
set_option maxRecDepth 100000
set_option maxHeartbeats 32000000
open Go.Value renaming int → ae
open Go.IntKind renaming i64 → aa
namespace store
open Go.RowKit Go.Deep base obj mem sep aW aX record bD aG image bN bL chain
section
variable {m:DS} {xs:List PP} {d:Nat} {ad:fy} {t:aY}
section
variable {w0 w : World} {l : List aI}
theorem KW {B:aI} {A:Option Addr} {n c:Nat} {data:List Int} (h:St w0 w (aZ ad t d m xs::B::l)) (ok:iJ t m xs) (q se no:Int) (hg:qV w0 B A n data) :
  Calls Tryz.prog 15 #[.pointer (some ⟨ad.S,0,none⟩),ae aa q,ae aa se,ae aa no,.slice A n c] w fun e w'=>e=.returned (ae aa (lf m xs q se no data).1)∧St w0 w' (aZ ad t d (lf m xs q se no data).2.1 (lf m xs q se no data).2.2::B::l):=by
 have HF:=af (Ef h q);have H:=af h;by_cases hf:gL xs q=0
 ·have eE:0≤q∧q < xs.length:=by
   have:=sI (xs:=xs) (q:=q) (by first|exact hf|exact tR hf);exact this
  obtain ⟨p,rfl⟩:∃p:Nat,q=p:=⟨q.toNat,by omega⟩
  have hp:p < xs.length:=by omega
  have ez:=ok.at_ hp
  have HD:=af (show lf m xs p se no data=((gU m p (xs.getD p default).sp ((xs.getD p default).slot (xs.getD p default).sp) se no data).1,(gU m p (xs.getD p default).sp ((xs.getD p default).slot (xs.getD p default).sp) se no data).2.1,xs.set p ((xs.getD p default).bj (xs.getD p default).sp (gU m p (xs.getD p default).sp ((xs.getD p default).slot (xs.getD p default).sp) se no data).2.2)) by
   unfold lf
   rw [if_neg (by rw [hf];simp),dC])
  rw [hf] at HF;have jg:=af eE;have kz:=af (fun (w':World) (hb:Below w.heap.size w w')=>rD ez (iX (H.o.below hb) hp));have td:=af (fun (w':World) (hb:Below w.heap.size w w')=>(jw (vA (H.o.below hb) hp ez) (ok.pl hp ez.sp) (ez.rk _) (by have:=ok.pR;omega) se no A n c data hg.1 (fun w' m' h'=>hg.2 _ _ (h'.pick 10 rfl))).mono fun e mf ⟨h1,h2⟩=>(And.intro h1 (Gv h2 hp ez):_∧_));obtain ⟨sd,ue⟩:=xE (lf m xs p se no data);rw [←ue] at HD ⊢;generalize (xs.getD p default).slot (xs.getD p default).sp=sl at *;generalize FV:(gU m p (xs.getD p default).sp sl se no data)=bm at *;generalize (ad.al.getD p default).slot (xs.getD p default).sp=g at *;clear h hf ue FV ez eE;go_enter Tryz.func15,Tryz.ntmps15;go_wp2_with fail;refine HF.o.mono ?_;rintro e w1 ⟨⟨v,rfl,hv⟩,hb⟩;rw [hv jg.o,dC];have HB:=af hb;clear hv hb;go_wp2_with fail;refine (kz.o w1 HB.o).mono ?_;rintro e w2 ⟨rfl,hb⟩;have aO:=af (HB.o.trans (hb.mono HB.o.size));clear hb;go_wp2_with fail;refine (td.o w2 aO.o).mono ?_;rintro e w3 ⟨rfl,ak⟩;have H3:=af ak;clear ak;go_wp2_with fail;go_ret;rw [HD.o];exact ⟨rfl,H3.o⟩
 ·have HD:=af (show lf m xs q se no data=(gL xs q,m,xs) from if_pos hf);rw [HD.o];generalize gL xs q=fe at *;have hf2:(fe != 0)=true:=by simpa using hf
  clear h hf;go_enter Tryz.func15,Tryz.ntmps15;go_wp2_with fail;refine HF.o.mono ?_;rintro e w1 ⟨⟨v,rfl,hv⟩,hb⟩;have HB:=af hb;clear hv hb;go_wp2_with fail;go_ret;exact ⟨rfl,H.o.below HB.o⟩
def recAt (xs:List PP) (q:Int):Rec:=if q < 0∨(xs.length:Int)≤q then Rec.zero else (xs.getD q.toNat default).log.now
theorem Fg (h:St w0 w (aZ ad t d m xs::l)) (q:Int):Calls Tryz.prog 13 #[.pointer (some ⟨ad.S,0,none⟩),ae aa q] w fun e w'=>e=.returned (recAt xs q).val∧Below w.heap.size w w':=by
 obtain ⟨R,hR⟩:=xE w.heap.size;obtain ⟨w1,aF⟩:=xE (w.alloc (.cells #[ae aa 0,ae aa 0,ae aa 0,ae aa 0,ae aa 0,ae aa 0] 35))
 have H1:=af (show St w0 w1 (row R 35 [ae aa 0,ae aa 0,ae aa 0,ae aa 0,ae aa 0,ae aa 0]::aZ ad t d m xs::l) by
  have h:=h.new 35 #[ae aa 0,ae aa 0,ae aa 0,ae aa 0,ae aa 0,ae aa 0];rw [←hR,←aF] at h
  exact h)
 have bh:=af (show Below w.heap.size w w1 by rw [aF];exact (Below.refl _ w).alloc (Nat.le_refl _) _);have xe:=af (show w.heap.size≤R by omega);have br:=af aF;have HR:=af hR;obtain ⟨s1,s2,s3⟩:=nh H1.o.swap;clear aF h;by_cases hq:q < 0∨(xs.length:Int)≤q
 ·have HP:=af (vD s1 q hq);rw [recAt,if_pos hq];clear s1 s2 s3 hq hR;go_enter Tryz.func13,Tryz.ntmps13;go_upto_region 1 with fail;rw [←br.o,←HR.o];go_wp2_with fail;refine HP.o.mono ?_;rintro e w' ⟨rfl,rfl⟩;go_wp2_with (refine aB rfl 35 (.tmp 4) (.tmp 15) rfl R 0 #[ae aa 0,ae aa 0,ae aa 0,ae aa 0,ae aa 0,ae aa 0] rfl rfl H1.o.row.1 (by kernel_rfl) (by simp) (by simp [Value.oneCell']) [ae aa 0,ae aa 0,ae aa 0,ae aa 0,ae aa 0,ae aa 0] (by simp) ?_);refine bodyPost_ret (v:=Rec.zero.val) (results_cell_row rfl _ _ R _ _ _ _ rfl (H1.o.row.1.setRow _) Tryz.underlying35 rfl (by kernel_rfl)) rfl ?_;exact ⟨rfl,dX bh.o xe.o _⟩
 ·obtain ⟨p,rfl⟩:∃p:Nat,q=p:=⟨q.toNat,by omega⟩
  have hp:p < xs.length:=by omega
  rw [recAt,if_neg hq,dC];have HP:=af (vE s1 s2 s3 p hp);have ho:=qj H1.o.swap hp;have co:=ho.c0;have lo:=ho.lt;have HL:=af (nN (vK H1.o.swap hp));generalize (xs.getD p default).log.now=r at *;generalize (ad.al.getD p default).O=O,(ad.al.getD p default).L=L at *;obtain ⟨rp,rs,ra,rc,rl,rb⟩:=r;simp only [Rec.val,Rec.cells] at *;clear s1 s2 s3 hq ho hR;go_enter Tryz.func13,Tryz.ntmps13;go_upto_region 1 with fail;rw [←br.o,←HR.o];go_wp2_with fail;refine HP.o.mono ?_;rintro e w' ⟨rfl,rfl⟩;go_wp2_with fail;refine HL.o.mono ?_;rintro e w2 ⟨rfl,hb⟩;have aO:=af (bh.o.trans (hb.mono bh.o.size));have H2:=af (H1.o.below hb);clear hb co lo;go_wp2_with (refine aB rfl 35 (.tmp 4) (.tmp 20) rfl R 0 #[ae aa rp,ae aa rs,ae aa ra,ae aa rc,ae aa rl,ae aa rb] rfl rfl H2.o.row.1 (by kernel_rfl) (by simp) (by simp [Value.oneCell']) [ae aa rp,ae aa rs,ae aa ra,ae aa rc,ae aa rl,ae aa rb] (by simp) ?_);refine bodyPost_ret (v:=.agg #[ae aa rp,ae aa rs,ae aa ra,ae aa rc,ae aa rl,ae aa rb]) (results_cell_row rfl _ _ R _ _ _ _ rfl (H2.o.row.1.setRow _) Tryz.underlying35 rfl (by kernel_rfl)) rfl ?_;exact ⟨rfl,dX aO.o xe.o _⟩
def CH (xs:List PP) (q:Int):aR×Bool:=if q < 0∨(xs.length:Int)≤q then (aR.zero,false) else (told ((xs.getD q.toNat default).slot (xs.getD q.toNat default).sp),((xs.getD q.toNat default).slot (xs.getD q.toNat default).sp).has)
theorem OX (h:St w0 w (aZ ad t d m xs::l)) (ok:iJ t m xs) (q:Int):Calls Tryz.prog 12 #[.pointer (some ⟨ad.S,0,none⟩),ae aa q] w fun e w'=>e=.returned (.tuple #[(CH xs q).1.val,.bool (CH xs q).2])∧Below w.heap.size w w':=by
 obtain ⟨R,hR⟩:=xE w.heap.size;obtain ⟨w1,aF⟩:=xE (w.alloc (.cells #[ae aa 0,ae aa 0,ae aa 0] 31))
 have H1:=af (show St w0 w1 (row R 31 [ae aa 0,ae aa 0,ae aa 0]::aZ ad t d m xs::l) by
  have h:=h.new 31 #[ae aa 0,ae aa 0,ae aa 0];rw [←hR,←aF] at h
  exact h)
 have bh:=af (show Below w.heap.size w w1 by rw [aF];exact (Below.refl _ w).alloc (Nat.le_refl _) _);have xe:=af (show w.heap.size≤R by omega);have br:=af aF;have HR:=af hR;obtain ⟨s1,s2,s3⟩:=nh H1.o.swap;clear aF h;by_cases hq:q < 0∨(xs.length:Int)≤q
 ·have HP:=af (vD s1 q hq);rw [CH,if_pos hq];clear s1 s2 s3 hq hR;go_enter Tryz.func12,Tryz.ntmps12;go_upto_region 1 with fail;rw [←br.o,←HR.o];go_wp2_with fail;refine HP.o.mono ?_;rintro e w' ⟨rfl,rfl⟩;go_wp2_with (refine aB rfl 31 (.tmp 4) (.tmp 16) rfl R 0 #[ae aa 0,ae aa 0,ae aa 0] rfl rfl H1.o.row.1 (by kernel_rfl) (by simp) (by simp [Value.oneCell']) [ae aa 0,ae aa 0,ae aa 0] (by simp) ?_);refine bodyPost_ret (aL rfl _ _ R _ _ _ _ _ rfl rfl (H1.o.row.1.setRow _) Tryz.underlying31 rfl (by kernel_rfl)) rfl ?_;exact ⟨rfl,dX bh.o xe.o _⟩
 ·obtain ⟨p,rfl⟩:∃p:Nat,q=p:=⟨q.toNat,by omega⟩
  have hp:p < xs.length:=by omega
  have ez:=ok.at_ hp;rw [CH,if_neg hq,dC];have HP:=af (vE s1 s2 s3 p hp);have kz:=af (rD ez (iX H1.o.swap hp));have DO:=af (fun (w':World) (hb:Below w1.heap.size w1 w')=>Kp (vA (H1.o.below hb).swap hp ez).row.1);generalize (xs.getD p default).slot (xs.getD p default).sp=sl at *;generalize (ad.al.getD p default).slot (xs.getD p default).sp=g at *;generalize (ad.al.getD p default).O=O at *;dsimp only;obtain ⟨⟨ss,sz,sh⟩,hts⟩:∃v:aR,v=told sl:=⟨_,rfl⟩
  rw [←hts] at DO ⊢;simp only [aR.val,aR.cells] at *;clear s1 s2 s3 hq hR ez ok hts;go_enter Tryz.func12,Tryz.ntmps12;go_upto_region 1 with fail;rw [←br.o,←HR.o];go_wp2_with fail;refine HP.o.mono ?_;rintro e w' ⟨rfl,rfl⟩;go_wp2_with fail;refine kz.o.mono ?_;rintro e w2 ⟨rfl,hb⟩;have aO:=af hb;clear hb;go_wp2_with fail;refine (DO.o w2 aO.o).mono ?_;rintro e w3 ⟨rfl,hb⟩;have bM:=af (aO.o.trans (hb.mono aO.o.size));have H3:=af (H1.o.below bM.o);clear hb;go_wp2_with (refine aB rfl 31 (.tmp 4) (.tmp 20) rfl R 0 #[ae aa ss,ae aa sz,ae aa sh] rfl rfl H3.o.row.1 (by kernel_rfl) (by simp) (by simp [Value.oneCell']) [ae aa ss,ae aa sz,ae aa sh] (by simp) ?_);refine bodyPost_ret (aL rfl _ _ R _ _ _ _ _ rfl rfl (H3.o.row.1.setRow _) Tryz.underlying31 rfl (by kernel_rfl)) rfl ?_;exact ⟨rfl,dX (bh.o.trans (bM.o.mono bh.o.size)) xe.o _⟩
end
end
end store
namespace aG
open Go.RowKit base record bC Go.Proofs.YtdldkkoplgkloaaGreat.bits
section
variable {bs:List Int} {j:Nat}
def ec (bs:List Int):Nat:=(bs.length+15) / 16
def uE (bs:List Int):List Int:=bs++List.replicate (16*ec bs-bs.length) 0
def fc (bs:List Int) (j:Nat):List Int:=((uE bs).drop (16*j)).take 16
def dP (bs:List Int) (no:Nat):RS:=⟨true,⟨1,bs.length,2 ^ no-1⟩,(List.range no).map (fc bs)++List.replicate (ec bs-no) []⟩
def fU (bs:List Int):RS:=dP bs (ec bs)
theorem El (bs:List Int):(uE bs).length=16*ec bs:=by simp [uE,ec];omega
theorem pW (hj:j < ec bs):(fc bs j).length=16:=by
 simp only [fc,fW,List.length_drop,El];omega
theorem Hk (hj:16*j < bs.length):fc bs j=(bs.drop (16*j)).take 16++List.replicate (16-min 16 (bs.length-16*j)) 0:=by
 have hn:16*ec bs-bs.length < 16:=by unfold ec;omega
 have ID:bs.length≤16*ec bs:=by unfold ec;omega
 unfold fc uE;rw [List.drop_append_of_le_length (by omega),List.take_append,List.length_drop,List.take_replicate]
 congr 2
 by_cases h:16≤bs.length-16*j
 ·rw [Nat.min_eq_left h];omega
 ·rw [Nat.min_eq_right (by omega)];have:ec bs=j+1:=by unfold ec;omega
  rw [this];omega
theorem Me (h:bn bs) (j:Nat):bn (fc bs j):=fun z hz=>by
 have h1:=List.mem_of_mem_drop (List.mem_of_mem_take hz);simp only [uE,List.mem_append,List.mem_replicate] at h1;rcases h1 with h1|⟨_,rfl⟩
 ·exact h z h1
 ·omega
theorem yx (bs:List Int):aQ (bs.length:Int)=ec bs:=by unfold aQ ec;omega
theorem Fs (R:RS) {bs:List Int} (h1:1≤bs.length) (h2:bs.length≤160):fk R 1 bs.length=(0,dP bs 0):=by
 unfold fk
 rw [if_pos (by
  have:(0:Int)≤2 ^ aQ (bs.length:Int)-1:=by
   have:(1:Int)≤2 ^ aQ (bs.length:Int):=by exact_mod_cast Nat.one_le_two_pow
   omega
  simp only [aR.right,Bool.and_eq_true,decide_eq_true_eq]
  omega),yx]
 simp [dP]
theorem Eu {no:Nat} (hn:no < ec bs):ja (dP bs no) 1 no (fc bs no)=(0,dP bs (no+1)):=by
 have hl:(dP bs no).blocks.length=ec bs:=by simp [dP];omega
 have hw:ju (dP bs no) 1 no (fc bs no).length=0:=by
  unfold ju;rw [if_neg (by simp [dP]),if_neg (by simp [dP]),if_neg (by rw [hl];omega),if_neg (by rw [pW hn];simp)]
 have hg:(dP bs no).blocks.getD no []=[]:=by
  have e:((List.range no).map (fc bs)++List.replicate (ec bs-no) ([]:List Int)).getD no []=[]:=by
   rw [dD,List.getElem?_append_right (by simp)];simp;cases h:(List.replicate (ec bs-no) ([]:List Int))[0]? with
   | none=>rfl
   | some x =>
     have:=List.eq_of_mem_replicate (List.mem_of_getElem? h);simp [this]
  exact e
 unfold ja;rw [hw,if_neg (by simp),dC,if_neg (by rw [hg];simp)]
 have kT:(dP bs no).blocks.set no (fc bs no)=(List.range (no+1)).map (fc bs)++List.replicate (ec bs-(no+1)) []:=by
  obtain ⟨k,hk⟩:∃k,ec bs-no=k+1:=⟨ec bs-no-1,by omega⟩
  have:ec bs-(no+1)=k:=by omega
  simp only [dP,hk,this,List.replicate_succ,List.range_succ,List.map_append,List.map_cons,List.map_nil,List.append_assoc,List.cons_append,List.nil_append];rw [List.set_append_right _ _ (by simp)];simp
 rw [kT];simp only [dP,Prod.mk.injEq,true_and,RS.mk.injEq,aR.mk.injEq];refine ⟨?_,trivial⟩;have:(2:Int) ^ (no+1)=2 ^ no*2:=by rw [Int.pow_succ]
 omega
theorem PB (h1:1≤bs.length):dm (fU bs)=(bs,0):=by
 unfold dm;have hb:(fU bs).blocks=(List.range (ec bs)).map (fc bs):=by simp [fU,dP]
 rw [if_neg (by simp [fU,dP]),if_neg (by
  rw [hb];rintro ⟨b,hb,rfl⟩;obtain ⟨j,hj,e⟩:=List.mem_map.1 hb;have:=pW (List.mem_range.1 hj);rw [e] at this
  simp at this),hb]
 have h2:=chunks (uE bs) (ec bs);rw [show ((List.range (ec bs)).map (fc bs))=((List.range (ec bs)).map fun j=>((uE bs).drop (16*j)).take 16) from rfl,h2,←El,List.take_length];simp [fU,dP,uE]
end
end aG
namespace store
open Go.RowKit Go.Deep base obj mem sep aW aX record bD aG image bN bL chain bC
section
variable {B:aI} {m m0:DS} {k p:Int} {l:List aI} {d g:Nat} {R:RS} {s:cy} {w w0:World}
structure sL (w0 w:World) (g d:Nat) (p k:Int) (m0 m:DS) (s:cy) (R:RS) (l:List aI):Prop where
 st:St w0 w (slt g d p k s::bE d m::l)
 si:SI m p k s R Option.none
 up:m.Up
 len:m.ar.length=m0.ar.length
 out:∀j,aG.Outside p k j→m.now j=m0.now j
theorem sL.below {w0 w w':World} {g d:Nat} {p k:Int} {m0 m:DS} {s:cy} {R:RS} {l:List aI} (h:sL w0 w g d p k m0 m s R l) (hb:Below w.heap.size w w'):sL w0 w' g d p k m0 m s R l:=⟨h.st.below hb,h.si,h.up,h.len,h.out⟩
theorem sL.ext {w':World} (h:sL w0 w g d p k m0 m s R l) (ak:St w0 w' (B::slt g d p k s::bE d m::l)):sL w0 w' g d p k m0 m s R (B::l):=⟨(ak.pick 2 rfl).pick 2 rfl,h.si,h.up,h.len,h.out⟩
theorem sL.drop {w0 w:World} {g d:Nat} {p k:Int} {m0 m:DS} {s:cy} {R:RS} {l:List aI} {B:aI} (h:sL w0 w g d p k m0 m s R (B::l)):sL w0 w g d p k m0 m s R l:=⟨((h.st.pick 2 rfl).drop),h.si,h.up,h.len,h.out⟩
theorem R8 (h:sL w0 w g d p k m0 m s R l) (se sz:Int) :
  Calls Tryz.prog 50 #[.pointer (some ⟨g,0,none⟩),ae aa se,ae aa sz] w fun e w'=>e=.returned (ae aa (fk R se sz).1)∧∃m' s',sL w0 w' g d p k m0 m' s' (fk R se sz).2 l:=by
 obtain ⟨h1,h2,h3⟩:=h.si.TB h.up se sz;refine (ru h.st h.si.pl.pk (by have:=h.si.pR;omega) se sz).mono fun e w' ⟨e1,e2⟩=>⟨by rw [e1,h1],_,_,e2,h2,h3,?_,fun j hj=>by rw [Jq h.si.pl s se sz hj];exact h.out j hj⟩
 rw [←h.len];unfold eL;split
 ·split<;>exact iC _ _ _
 ·rfl
theorem Yu {A:Option Addr} {n c:Nat} {data:List Int} (h:sL w0 w g d p k m0 m s R (B::l)) (hg:qV w0 B A n data) (hb:bn data) (se no:Int) :
  Calls Tryz.prog 51 #[.pointer (some ⟨g,0,none⟩),ae aa se,ae aa no,.slice A n c] w fun e w'=>e=.returned (ae aa (ja R se no data).1)∧∃m' s',sL w0 w' g d p k m0 m' s' (ja R se no data).2 (B::l):=by
 obtain ⟨h1,h2,h3⟩:=h.si.ZK h.up se no hb;exact (jw h.st h.si.pl h.si.right (by have:=h.si.pR;omega) se no A n c data hg.1 (fun w' m' h'=>hg.2 _ _ (h'.pick 2 rfl))).mono fun e w' ⟨e1,e2⟩=>⟨by rw [e1,h1],_,_,e2,h2,h3,by rw [xx];exact h.len,fun j hj=>by rw [Nw h.si.pl h.si.right se no hb hj];exact h.out j hj⟩
theorem Yw (h:sL w0 w g d p k m0 m s R l) (i:aq) (hr:i.right) (cG:bn i.code) (A:Option Addr) (c:Nat) (hc:i.code.length≤c) (hs:Sl w w.heap.size 1 A i.code.length (aP i.code)) :
  Calls Tryz.prog 81 #[.pointer (some ⟨g,0,none⟩),i.val A c] w fun e w'=>e=.returned (ae aa 0)∧∃m' s',sL w0 w' g d p k m0 m' s' (fU i.bytes) l:=by
 have HP:=af (fun (w':World) (hb:Below w.heap.size w w')=>GP w' i hr A c hc cG ((hs.below hb).more hb.size));have aaz:i.code.length≤96:=by obtain ⟨_,_,_,_,_,_,_,h⟩:=hr;omega
 have ch:=af (nS i);have lM:=af (show bn i.bytes from vd _ (tE i cG));obtain ⟨n,hn⟩:=xE (49+i.code.length);rw [←hn] at HP ch;obtain ⟨bs,gF⟩:=xE i.bytes;rw [←gF] at HP ch lM ⊢;have FK:49≤n:=by omega
 have ID:n≤145:=by omega
 have H:=af h;simp only [aq.val] at HP ⊢;have bh:=af ((Below.refl w.heap.size w).alloc (Nat.le_refl _) (.cells #[ae aa i.part,ae aa i.version,ae aa i.aV,ae aa i.mem,ae aa i.fuel,ae aa i.aM,ae aa i.ax,.slice A i.code.length c] 26));generalize i.part=i0,i.version=i1,i.aV=i2,i.mem=i3,i.fuel=i4,i.aM=i5,i.ax=i6,i.code.length=i7 at *;have td:=af (fun (R:RS)=>Fs R (bs:=bs) (by have:=ch.o;omega) (by have:=ch.o;omega));rw [ch.o] at td;have xh:=af (show ec bs=(n+15) / 16 by unfold ec;rw [ch.o]);clear h hr hs hn gF cG hc;go_enter Tryz.func81,Tryz.ntmps81;go_wp2_with fail;refine (HP.o _ bh.o).mono ?_;rintro e w2 ⟨v,rfl,ho,hb⟩;obtain ⟨A2,c2,rfl,BW,xN⟩:=aD ho;have H2:=af (H.o.ext ((H.o.st.below bh.o).cX hb ho));clear ho hb;go_wp2_with fail;refine (R8 H2.o 1 (n:Int)).mono ?_;rintro e w3 ⟨rfl,m3,s3,h3⟩;rw [td.o R] at h3 ⊢;have H3:=af h3;clear h3;dsimp only at H3 ⊢;go_wp2_with fail;go_loopw [8] (fun x wr=>∃(no:Nat) (m':DS) (s':cy),no≤ec bs∧x=ae aa no∧sL w0 wr g d p k m0 m' s' (dP bs no) (own 5 1 (.slice A2 n c2) n (aP bs)::l)) (fun x _=>ec bs-(intOf x).toNat)
 case atStart=>exact ⟨0,m3,s3,by omega,rfl,H3.o⟩
 case round =>
  obtain ⟨no,m',s',jS,rfl,ak⟩:=hrel;clear H3;by_cases aH:no < ec bs
  ·have bH:=af ak;have kV:=xh.o;have dk:=Sl.bP ((ak.st.pick 2 rfl).own);obtain ⟨b,off,hA,cm,pN⟩:=dk.2 (by omega);have HA:=af hA;have acw:16*no < n:=by omega
   obtain ⟨f,hf⟩:=xE (16*no);have W1:IntKind.i64.wrap ((no:Int)*16)=(f:Int):=by rw [IntWalk.i64_in _ (by omega)];omega
   have k1:(f:Int) < (n:Int):=by omega
   have k2:(0:Int)≤(f:Int):=by omega
   have k3:(f:Int)≤(n:Int):=by omega
   have k4:(n:Int)≤(c2:Int):=by omega
   have k5:(f:Int)≤(c2:Int):=by omega
   have k6:¬c2=f:=by omega
   have qB:=KT;obtain ⟨cs,cY⟩:=xE (aP ((bs.drop (16*no)).take 16))
   have qC:cs.length=Nat.min (n-16*no) 16:=by
    rw [cY];simp [aP,ch.o,Nat.min_comm]
   have HCN:=af qC
   have Ms:=af (show ∀j v,cs[j]?=some v→wr.cell? ((⟨b,off+16*no,none⟩:Addr).add j)=some v from fun j v hv=>by
    rw [show (⟨b,off+16*no,none⟩:Addr).add j=⟨b,off+(16*no+j),none⟩ by unfold Addr.add;split<;>simp_all [Nat.add_assoc]];refine pN (16*no+j) v ?_;rw [cY,aP,List.map_take,List.getElem?_take] at hv;split at hv
    ·rwa [List.map_drop,List.getElem?_drop] at hv
    ·simp at hv)
   have MG:=af (show 0+cs.length≤(Array.replicate 16 (Value.int .u8 0)).size by rw [qC];simp only [Nat.zero_add,Array.size_replicate];exact Nat.min_le_right _ _);have yn:=af (show ∀v∈cs,v.oneCell'=true by rw [cY];exact ji _)
   have rV:=af (show ((Array.replicate 16 (Value.int .u8 0)).toList.take 0++(cs++(Array.replicate 16 (Value.int .u8 0)).toList.drop (0+cs.length))).toArray=(aP (fc bs no)).toArray by
    rw [Hk (by rw [ch.o];exact acw),qC,cY,ch.o];simp only [List.take_zero,List.nil_append,Nat.zero_add,Array.toList_replicate,List.drop_replicate,aP,List.map_append,List.map_replicate]
    rw [show Nat.min (n-16*no) 16=min 16 (n-16*no) from Nat.min_comm _ _])
   have Cp:=af (Eu (bs:=bs) aH);have abl:=af (pW aH);clear ak dk hA cY qC pN;rw [HA.o];go_upto_region 10 with (refine sa rfl (.tmp 31) (.tmp 35) 24 24 rfl Tryz.underlying24 Ed wr.heap.size 0 16 16 ⟨b,off+16*no,none⟩ (n-16*no) (c2-16*no) rfl rfl (Array.replicate 16 (.int .u8 0)) 5 cs HCN.o Ms.o MG.o yn.o _ rV.o ?_ rfl)
   have EA:=bH.o.st.new 5 (aP (fc bs no)).toArray;obtain ⟨D,hD⟩:=xE wr.heap.size;obtain ⟨w5,eD⟩:=xE (wr.alloc (.cells (aP (fc bs no)).toArray 5));rw [←hD,←eD] at EA;rw [←hD,←eD];have H5:=af (bH.o.ext EA);have yl:=af (pP (w0:=w0) (t:=D) (n:=16) (xs:=aP (fc bs no)) (bs:=fc bs no) abl.o (by rw [List.take_of_length_le (by simp [aP,abl.o])]));clear EA hD eD W1;go_wp2_with fail;refine (Yu (data:=fc bs no) H5.o yl.o (Me lM.o no) 1 (no:Int)).mono ?_;rintro e w6 ⟨rfl,m6,s6,h6⟩;rw [Cp.o] at h6 ⊢;have H6:=af h6.drop;clear h6;dsimp only at H6 ⊢;go_wp2_with fail;go_roundw;case rel=>exact ⟨no+1,m6,s6,by omega,by go_num,by rw [←HA.o];exact H6.o⟩
   case measure=>simp [intOf];omega
  ·have AG:=xh.o;have HE:=af (show no=ec bs by omega);have bH:=af ak.drop;have W1:IntKind.i64.wrap ((no:Int)*16)=(16*no:Nat):=by rw [IntWalk.i64_in _ (by omega)];omega
   have k1:¬((16*no:Nat):Int) < (n:Int):=by omega
   have k2:¬(16*(no:Int)) < (n:Int):=by omega
   clear ak;go_wp2_with fail;go_ret;refine ⟨rfl,m',s',?_⟩;have h:=bH.o;rw [HE.o] at h;exact h
end
end store
namespace store
open Go.RowKit base aX record bD aG image bN bL
section
variable {m:DS} {xs:List PP} {n:Nat}
instance:Inhabited RS:=⟨RS.none⟩
theorem B4 {α:Type} {l l':List α} (h:n < l.length) (d:α):(l++l').getD n d=l.getD n d:=by simp [dD,List.getElem?_append_left h]
theorem B3 {α:Type} {l l':List α} (h:l.length≤n) (d:α):(l++l').getD n d=l'.getD (n-l.length) d:=by simp [dD,List.getElem?_append_right h]
theorem qM {α:Type} {l:List α} (h:n < l.length) (d:α):l.getD n d=l[n]:=by simp [h]
structure Mj (m:DS) (p:Nat) (x:PP) (R:RS×RS):Prop where
 log:kE m p x.log
 s0:SI m p 0 x.s0 R.1 Option.none
 s1:SI m p 1 x.s1 R.2 Option.none
structure Calm (m:DS):Prop where
 up:m.Up
 waits:m.waits=[]
 bu:m.Good
 eQ:m.ia
structure sK (m:DS) (xs:List PP) (Rs:List (RS×RS)):Prop where
 calm:Calm m
 len:Rs.length=xs.length
 parts:∀p,p < xs.length→Mj m p (xs.getD p default) (Rs.getD p default)
 recs:∀p,p < xs.length→(xs.getD p default).log.now=bd p
theorem Mj.other {m m':DS} {p:Nat} {x:PP} {R:RS×RS} (h:Mj m p x R) (hc:Calm m) (cZ:Calm m') (hl:m'.ar.length=m.ar.length) (hn:∀j:Nat,10*p≤j→j < 10*p+10→m'.now j=m.now j):Mj m' p x R:=by
 have ug:=h.log.p0;have Lg:=h.log.p1;have hh:=h.log.held;refine ⟨?_,?_,?_⟩
 ·refine ⟨cZ.bu,cZ.eQ,ug,Lg,by rw [hl];exact h.log.room,hh,h.log.right,h.log.part,?_,?_⟩
  ·rw [hn _ (by omega) (by omega)];exact h.log.cur
  ·intro r;rw [hn _ (by omega) (by omega)];exact h.log.old r
 ·exact h.s0.other hc.up.1 cZ.bu cZ.eQ hl cZ.waits cZ.up.1 fun j hj=>hn j (by unfold aG.Outside bz at hj;omega) (by unfold aG.Outside bz at hj;omega)
 ·exact h.s1.other hc.up.1 cZ.bu cZ.eQ hl cZ.waits cZ.up.1 fun j hj=>hn j (by unfold aG.Outside bz at hj;omega) (by unfold aG.Outside bz at hj;omega)
theorem Mf (hc:Calm m) {p k:Int} (hp:Pl m p k) (hz:m.now (bz p k).toNat=bt):SI m p k cy.none RS.none Option.none :=
 ⟨hp,Er,by rw [hc.waits];simp,fun _=>⟨rfl,hc.waits,Es _ _ _,ua hz⟩,fun h=>absurd (hc.up.1.symm.trans h) (by decide)⟩
theorem sL.calm {w0 w:World} {g d:Nat} {p k:Int} {m0:DS} {s:cy} {R:RS} {l:List sep.aI} (h:sL w0 w g d p k m0 m s R l):Calm m:=⟨h.up,(h.si.up h.up.1).2.1,h.si.pl.bu,h.si.pl.eQ⟩
def Pz (p:Nat) (s:cy):PP:=⟨⟨0,bd p⟩,s,cy.none⟩
theorem sK.make {m1 m2:DS} {Rs:List (RS×RS)} (h:sK m xs Rs) {q:Nat} (hq:xs.length=q) (qz:q < 4) (hlen:10*(q+1)≤m.ar.length) (hz:∀j:Nat,10*q≤j→j < m.ar.length→m.now j=bt)
  {s:cy} {R:RS} (h1:SI m1 q 0 s R Option.none) (u1:m1.Up) (l1:m1.ar.length=m.ar.length) (o1:∀j,aG.Outside q 0 j→m1.now j=m.now j)
  (h2:kE m2 q ⟨0,bd q⟩) (u2:m2.Up) (w2:m2.waits=[]) (l2:m2.ar.length=m1.ar.length) (o2:∀j:Nat,j≠10*q→j≠10*q+1→m2.now j=m1.now j) :
  sK m2 (xs++[Pz q s]) (Rs++[(R,RS.none)])∧∀j:Nat,10*(q+1)≤j→j < m2.ar.length→m2.now j=bt:=by
 have c1:Calm m1:=⟨u1,(h1.up u1.1).2.1,h1.pl.bu,h1.pl.eQ⟩
 have c2:Calm m2:=⟨u2,w2,h2.bu,h2.eQ⟩
 have uN:m2.ar.length=m.ar.length:=l2.trans l1
 have VO:∀j:Nat,(j < 10*q∨10*q+6≤j)→m2.now j=m.now j:=fun j hj=>by
  rw [o2 j (by omega) (by omega)];exact o1 j (by unfold aG.Outside bz;omega)
 refine ⟨⟨c2,by simp [h.len],fun p hp=>?_,fun p hp=>?_⟩,fun j hj jz=>?_⟩
 ·rw [gC,List.length_singleton] at hp;by_cases Dy:p < xs.length
  ·rw [B4 Dy,B4 (by rw [h.len];exact Dy)];exact (h.parts p Dy).other h.calm c2 uN fun j h1 h2=>VO j (by omega)
  ·have NV:p=q:=by omega
   subst NV;rw [B3 (by omega),B3 (by rw [h.len];omega),h.len,hq,Nat.sub_self];refine ⟨h2,?_,?_⟩
   ·exact h1.other u1.1 c2.bu c2.eQ l2 w2 u2.1 fun j hj=>o2 j (by unfold aG.Outside bz at hj;omega) (by unfold aG.Outside bz at hj;omega)
   ·refine Mf c2 ⟨c2.bu,c2.eQ,by omega,by omega,by omega,by omega,by unfold eg;omega⟩ ?_;rw [show (bz (p:Int) 1).toNat=10*p+6 by unfold bz;omega,VO _ (by omega)];exact hz _ (by omega) (by omega)
 ·rw [gC,List.length_singleton] at hp;by_cases Dy:p < xs.length
  ·rw [B4 Dy];exact h.recs p Dy
  ·have NV:p=q:=by omega
   subst NV;rw [B3 (by omega),hq,Nat.sub_self];rfl
 ·rw [VO j (by omega)];exact hz j (by omega) (by omega)
theorem sK.start (hc:Calm m):sK m [] []:=⟨hc,rfl,fun p hp=>absurd hp (by simp),fun p hp=>absurd hp (by simp)⟩
theorem sK.ok {t:aY} {Rs:List (RS×RS)} (h:sK m xs Rs) (hr:t.right=true) (hl:xs.length=t.parts.length) (gH:10*xs.length≤m.ar.length):iJ t m xs:=by
 refine ⟨hr,hl,h.calm.eQ,h.calm.bu,gH,by rw [h.calm.waits];simp,fun x hx=>?_⟩;obtain ⟨p,hp,rfl⟩:=List.mem_iff_getElem.1 hx;have hi:=h.parts p hp;rw [qM hp] at hi;have hr:=eu.iZ hi.log.right;exact ⟨by omega,by omega,hi.log.held,by omega,by omega,hi.s0.right,hi.s1.right⟩
end
end store
namespace store
open Go.RowKit Go.Deep base obj mem sep aW aX record bD aG image bN bL chain bC
section
variable {m:DS} {l:List aI} {d:Nat} {w w0:World}
inductive Mk (w0:World) (O d:Nat) (p:Int) (m:DS) (v0 c1 c2:Value) (l:List aI):Int→World→Prop
 | zero {w:World} (h:St w0 w (row O 102 [v0,c1,c2]::bE d m::l)):Mk w0 O d p m v0 c1 c2 l 0 w
 | one {w:World} (g0:Nat) (h:St w0 w (row O 102 [v0,.pointer (some ⟨g0,0,none⟩),c2]::slt g0 d p 0 (eU m p 0)::bE d m::l)):Mk w0 O d p m v0 c1 c2 l 1 w
 | two {w:World} (g0 g1:Nat) (h:St w0 w (row O 102 [v0,.pointer (some ⟨g0,0,none⟩),.pointer (some ⟨g1,0,none⟩)]::slt g0 d p 0 (eU m p 0)::slt g1 d p 1 (eU m p 1)::bE d m::l)):Mk w0 O d p m v0 c1 c2 l 2 w
theorem RQ {O:Nat} {p:Int} {v0 c1 c2:Value} (h:St w0 w (row O 102 [v0,c1,c2]::bE d m::l)) (ph:nD p 0 m.ar.length=true) (wK:nD p 1 m.ar.length=true) (hd:m.down=false) (fF:m.waits.length≤1000) (cG:m.ia) :
  Calls Tryz.prog 71 #[.pointer (some ⟨O,0,none⟩),.pointer (some ⟨d,0,none⟩),ae aa p] w fun e w'=>e=.returned (ae aa 0)∧∃g0 g1,St w0 w' (row O 102 [v0,.pointer (some ⟨g0,0,none⟩),.pointer (some ⟨g1,0,none⟩)]::slt g0 d p 0 (eU m p 0)::slt g1 d p 1 (eU m p 1)::bE d m::l):=by
 have H:=af (Mk.zero (p:=p) h);have HO:=af (fun (w':World) (l':List aI) (hs:St w0 w' (bE d m::l'))=>rL hs p 0 ph hd fF cG);have My:=af (fun (w':World) (l':List aI) (hs:St w0 w' (bE d m::l'))=>rL hs p 1 wK hd fF cG);clear h ph wK hd fF cG;go_enter Tryz.func71,Tryz.ntmps71;go_wp2_with fail;go_loopw [10] (fun x wr=>∃j:Int,x=ae aa j∧Mk w0 O d p m v0 c1 c2 l j wr) (fun x _=>3-(intOf x).toNat)
 case atStart=>exact ⟨0,rfl,H.o⟩
 case round =>
  obtain ⟨j,rfl,ak⟩:=hrel;clear H;cases ak with
  | zero h =>
    have H:=af h;clear h;go_wp2_with fail;refine (HO.o wr _ H.o.swap).mono ?_;rintro e w1 ⟨g0,rfl,h1⟩;have h2:=h1.pick 2 rfl;have H1:=af h2;have z1:=h2.row.1.c1;have f1:w1.frozen? ⟨O,1,none⟩=false:=h2.row.1.frozen 1;have lO:=h2.row.1.lt;clear h1 h2;go_wp2_with fail;go_roundw;case rel=>exact ⟨1,rfl,.one g0 (H1.o.set 1 (.pointer (some ⟨g0,0,none⟩)))⟩
    case measure=>simp [intOf]
  | one g0 h =>
    have H:=af h;clear h;go_wp2_with fail;refine (My.o wr _ (H.o.pick 2 rfl)).mono ?_;rintro e w1 ⟨g1,rfl,h1⟩;have h2:=h1.pick 2 rfl;have H1:=af h2;have z1:=h2.row.1.c2;have f1:w1.frozen? ⟨O,2,none⟩=false:=h2.row.1.frozen 2;have lO:=h2.row.1.lt;clear h1 h2;go_wp2_with fail;go_roundw
    case rel =>
     have h:=H1.o.set 2 (.pointer (some ⟨g1,0,none⟩));simp only [List.set_cons_succ,List.set_cons_zero] at h;exact ⟨2,rfl,.two g0 g1 ((h.pick 3 rfl).pick 1 rfl)⟩
    case measure=>simp [intOf]
  | two g0 g1 h =>
    have H:=af h;clear h;go_wp2_with fail;go_ret;exact ⟨rfl,g0,g1,H.o⟩
def m9 (n:Nat) (t:aY):Int:=if t.right=false then 9 else if (n:Int) < 10*t.parts.length then 3 else 0
theorem kO (h:St w0 w (bE d m::l)) {a:dF} {t:aY} (ht:ko w a t) :
  Calls Tryz.prog 68 #[.pointer (some ⟨d,0,none⟩),a.val t] w fun e w'=>e=.returned (ae aa (m9 m.ar.length t))∧Below w.heap.size w w':=by
 have eR:=af (fun w' (hb:Below w.heap.size w w')=>fR (ht.over hb));have Gn:=af (fun (w':World) (hb:Below w.heap.size w w')=>Hg (h.below hb));obtain ⟨Z,hZ⟩:=xE w.heap.size;obtain ⟨w1,aF⟩:=xE (w.alloc (.cells #[ae aa t.frame,.slice a.AP t.parts.length a.cP,.slice a.AW t.aJ.length a.cW,.slice a.AC t.av.length a.cC,ae aa t.ay] 46))
 have H1:=af (show St w w1 [row Z 46 [ae aa t.frame,.slice a.AP t.parts.length a.cP,.slice a.AW t.aJ.length a.cW,.slice a.AC t.av.length a.cC,ae aa t.ay]] by
  have h:=(St.nil w).new 46 #[ae aa t.frame,.slice a.AP t.parts.length a.cP,.slice a.AW t.aJ.length a.cW,.slice a.AC t.av.length a.cC,ae aa t.ay];rw [←hZ,←aF] at h
  exact h)
 have HN:=af (show m9 m.ar.length t=if t.right=false then 9 else if (m.ar.length:Int) < 10*t.parts.length then 3 else 0 from rfl);have sP:=af (fun hr=>(aY.r (t:=t) hr).np);obtain ⟨wl,fF⟩:=xE (m9 m.ar.length t);rw [←fF] at HN ⊢;have br:=af aF;have HZ:=af hZ;simp only [dF.val] at br ⊢;generalize t.right=rr at *;generalize m.ar.length=n at *;generalize t.parts.length=nP,t.aJ.length=nW,t.av.length=nC,t.frame=fr,t.ay=tr at *;have t0:=H1.o.row.1.c0;have t1:=H1.o.row.1.c1;have t2:=H1.o.row.1.c2;have t3:=H1.o.row.1.c3;have t4:=H1.o.row.1.c4;have lT:=H1.o.row.1.lt;clear aF hZ h ht fF;go_enter Tryz.func68,Tryz.ntmps68;go_upto_region 1 with fail;rw [←br.o,←HZ.o];go_wp2_with fail;refine (eR.o w1 H1.o.aE).mono ?_;rintro e w2 ⟨rfl,hb⟩;have H2:=af (H1.o.below hb);clear hb t0 t1 t2 t3 t4 lT;cases rr with
 | false =>
   go_wp2_with fail;go_ret;exact ⟨bx (by rw [HN.o];rfl),H2.o.aE⟩
 | true =>
   have Lj:=sP.o rfl;have t1:=H2.o.row.1.c1;have lT:=H2.o.row.1.lt;have xd:=af (fun (w':World)=>place.O7 (nP:Int) w' (by omega) (by omega));have ads:=af (Gn.o w2.drew H2.o.aE.drew);go_upto_region 5 with fail;refine eb (fun w'=>w'.cell? ⟨Z,1,none⟩=some (.slice a.AP nP a.cP)∧Z < w'.heap.size) (by kernel_rfl) (⟨t1,lT⟩) (fun bJ=>?_);(refine ah 0 ?_;(try simp only [ai]));(refine ah 2 ?_;(try simp only [ai]));(refine ah 3 ?_;(try simp only [ai]));(refine ah 4 ?_;(try simp only [ai]));(refine dQ 1 ?_;(try simp only [xG]);go_simp);refine ads.o.mono ?_;rintro e w3 ⟨rfl,rfl⟩;dsimp only;(refine cu (⟨t1,lT⟩) (fun bJ=>?_);(try simp only [ai]));(refine dQ 5 ?_;(try simp only [xG]);go_simp);refine (xd.o _).mono ?_;rintro e w4 ⟨rfl,rfl⟩;dsimp only;(refine cu (⟨t1,lT⟩) (fun bJ=>?_);(try simp only [ai]));(refine ah 6 ?_;(try simp only [ai]));(refine ah 7 ?_;(try simp only [ai]));refine dw (by kernel_rfl) ?_;by_cases aH:(n:Int) < 10*(nP:Int)
   ·have HL:=af (show wl=3 by rw [HN.o,if_neg (by simp)];exact if_pos aH);rw [decide_eq_true aH];clear aH;go_wp2_with fail;go_ret;exact ⟨bx HL.o.symm,H2.o.aE.drew⟩
   ·have HL:=af (show wl=0 by rw [HN.o,if_neg (by simp)];exact if_neg aH);rw [decide_eq_false aH];clear aH;go_wp2_with fail;go_ret;exact ⟨bx HL.o.symm,H2.o.aE.drew⟩
end
end store
end Go.Proofs.YtdldkkoplgkloaaGreat
