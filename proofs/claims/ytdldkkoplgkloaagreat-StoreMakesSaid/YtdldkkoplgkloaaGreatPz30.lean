/-
  PROVED HERE: lemmas and contracts that the law's proof leans on (texts put together: StoreMake, RefImage).
  CONDITIONS: each names its own.
-/
import Derived.Test.YtdldkkoplgkloaaGreatPz4
import Derived.Test.YtdldkkoplgkloaaGreatPz10
import Derived.Test.YtdldkkoplgkloaaGreatPz20
import Derived.Test.YtdldkkoplgkloaaGreatPz29
namespace Go.Proofs.YtdldkkoplgkloaaGreat
set_option linter.unusedVariables false
set_option linter.unusedSimpArgs false
set_option maxRecDepth 100000
set_option maxHeartbeats 32000000
namespace store


open Go.RowKit Go.Deep base obj mem sep plan disk record commit stage image tab compat chain crc
structure ImgsV (w:World) (B:Nat) (js:List Img) (A:Option Addr) (n:Nat) (K:Nat→Option Addr×Nat):Prop where
 len:js.length=n
 byt:∀i∈js,Byt i.code
 at_:∀k,k < n→∃b off,A=some ⟨b,off,none⟩∧b < B∧w.cell? ⟨b,off+k*8,none⟩=some (.int .i64 (js.getD k Img.none).part)∧w.cell? ⟨b,off+k*8+1,none⟩=some (.int .i64 (js.getD k Img.none).version)∧w.cell? ⟨b,off+k*8+2,none⟩=some (.int .i64 (js.getD k Img.none).hard)∧w.cell? ⟨b,off+k*8+3,none⟩=some (.int .i64 (js.getD k Img.none).mem)∧w.cell? ⟨b,off+k*8+4,none⟩=some (.int .i64 (js.getD k Img.none).fuel)∧w.cell? ⟨b,off+k*8+5,none⟩=some (.int .i64 (js.getD k Img.none).sends)∧w.cell? ⟨b,off+k*8+6,none⟩=some (.int .i64 (js.getD k Img.none).receives)∧w.cell? ⟨b,off+k*8+7,none⟩=some (.slice (K k).1 (js.getD k Img.none).code.length (K k).2)∧(js.getD k Img.none).code.length≤(K k).2∧Sl w B 1 (K k).1 (js.getD k Img.none).code.length (u8s (js.getD k Img.none).code)
theorem ImgsV.over {w w':World} {js:List Img} {A:Option Addr} {n:Nat} {K:Nat→Option Addr×Nat} (h:ImgsV w w.heap.size js A n K) (k:Below w.heap.size w w'):ImgsV w' w'.heap.size js A n K:=by
 refine ⟨h.len,h.byt,fun j hj=>?_⟩
 obtain ⟨b,off,e,hb,c0,c1,c2,c3,c4,c5,c6,c7,hc,hs⟩:=h.at_ j hj
 exact ⟨b,off,e,Nat.lt_of_lt_of_le hb k.size,(k.cell hb).trans c0,(k.cell hb).trans c1,(k.cell hb).trans c2,(k.cell hb).trans c3,(k.cell hb).trans c4,(k.cell hb).trans c5,(k.cell hb).trans c6,(k.cell hb).trans c7,hc,(hs.below k).more k.size⟩
def ImgsG (w0:World) (B:Asn) (js:List Img) (A:Option Addr) (n:Nat) (K:Nat→Option Addr×Nat):Prop:=∀w l,St w0 w (B::l)→ImgsV w w.heap.size js A n K
def firstE (t:Tab):Nat→List Img→Int
 | _,[]=>0
 | p,i::r=>if checkL t p i 0≠0 then checkL t p i 0 else firstE t (p+1) r
theorem firstE_all {t:Tab}:∀(r:List Img) (p:Nat),(∀k,k < r.length→checkL t ((p+k:Nat):Int) (r.getD k Img.none) 0=0)→firstE t p r=0
 | [],_,_=>rfl
 | i::r,p,h=>by
   have h0:=h 0 (by simp)
   simp only [Nat.add_zero,List.getD_cons_zero] at h0
   rw [firstE,if_neg (by simpa using h0)]
   refine firstE_all r (p+1) fun k hk=>?_
   have:=h (k+1) (by simpa using hk)
   rw [show p+1+k=p+(k+1) by omega]
   simpa using this
theorem firstE_at {t:Tab}:∀(r:List Img) (p j:Nat),j < r.length→(∀k,k < j→checkL t ((p+k:Nat):Int) (r.getD k Img.none) 0=0)→checkL t ((p+j:Nat):Int) (r.getD j Img.none) 0≠0→firstE t p r=checkL t ((p+j:Nat):Int) (r.getD j Img.none) 0
 | [],_,j,hj,_,_=>absurd hj (by simp)
 | i::r,p,0,_,_,hn=>by
   simp only [Nat.add_zero,List.getD_cons_zero] at hn ⊢
   rw [firstE,if_pos hn]
 | i::r,p,j+1,hj,h,hn=>by
   have h0:=h 0 (by omega)
   simp only [Nat.add_zero,List.getD_cons_zero] at h0
   rw [firstE,if_neg (by simpa using h0),firstE_at r (p+1) j (by simpa using hj) (fun k hk=>by
    have:=h (k+1) (by omega)
    rw [show p+1+k=p+(k+1) by omega]
    simpa using this) (by rw [show p+1+j=p+(j+1) by omega];simpa using hn)]
   rw [show p+1+j=p+(j+1) by omega]
   simp
def makeE (n:Nat) (t:Tab) (js:List Img):Int:=if wrongL n t≠0 then wrongL n t else if js.length≠t.parts.length then 3 else firstE t 0 js
theorem wrongL_0 {n:Nat} {t:Tab} (h:wrongL n t=0):t.right=true∧10*t.parts.length≤n:=by
 unfold wrongL at h
 split at h
 ·simp at h
 ·split at h
  ·simp at h
  ·rename_i h1 h2
   exact ⟨by simpa using h1,by omega⟩
theorem checkL_right {t:Tab} {p:Int} {i:Img} {v:Int} (h:checkL t p i v=0):i.right:=by
 unfold checkL at h
 split at h
 ·simp at h
 ·split at h
  ·simp at h
  ·rename_i h1 h2
   exact Classical.byContradiction fun hn=>h2 (.inr hn)

theorem str_mk {w0 w:World} {l:List Asn} {ad:StAd} {t:Tab} {d:Nat} {m:DS} {xs:List PP} {q:Nat} (hq:xs.length=q) (h:St w0 w (row ad.S 114 (stRow ad t q)::own 94 1 (.slice ad.AL q ad.cL) q (ptrs ad.al)::tbl ad.tab t::dsk d m::lst (partsA d ad.al xs)::l)) (hl:ad.al.length=xs.length):St w0 w (strA ad t d m xs::l):=by
 subst hq
 refine St.tolst ((h.addFact hl).perm ?_)
 simp only [strH,List.cons_append,List.nil_append]
 exact (List.perm_middle (l₁:=[_,_,_,_,_]) (l₂:=l)).symm
theorem str_un {w0 w:World} {l:List Asn} {ad:StAd} {t:Tab} {d:Nat} {m:DS} {xs:List PP} (h:St w0 w (strA ad t d m xs::l)):St w0 w (row ad.S 114 (stRow ad t xs.length)::own 94 1 (.slice ad.AL xs.length ad.cL) xs.length (ptrs ad.al)::tbl ad.tab t::dsk d m::lst (partsA d ad.al xs)::l)∧ad.al.length=xs.length:=by
 have h1:=h.unlst
 simp only [strH,List.cons_append,List.nil_append] at h1
 have h2:=h1.pick 5 rfl
 exact ⟨h2.drop,h2.fact⟩
theorem parts_snoc {d:Nat} {al:List PAd} {xs:List PP} (hl:al.length=xs.length) (a:PAd) (x:PP):partsA d (al++[a]) (xs++[x])=partsA d al xs++[partA d xs.length a x]:=by
 simp only [partsA,List.length_append,List.length_singleton,List.range_succ,List.map_append,List.map_cons,List.map_nil]
 congr 1
 ·refine List.map_congr_left fun p hp=>?_
  have hp':=List.mem_range.1 hp
  rw [getD_l (by omega),getD_l hp']
 ·rw [getD_r (by omega),getD_r (Nat.le_refl _),hl,Nat.sub_self]
  rfl
theorem parts_add {w0 w:World} {l:List Asn} {d:Nat} {al:List PAd} {xs:List PP} (hl:al.length=xs.length) {a:PAd} {x:PP} {q:Nat} (hq:xs.length=q) (h:St w0 w (lst (partsA d al xs)::row a.O 102 (ownRow a)::log a.L d q x.log.held x.log.now::slt a.S0 d q 0 x.s0::slt a.S1 d q 1 x.s1::l)):St w0 w (lst (partsA d (al++[a]) (xs++[x]))::l):=by
 subst hq
 rw [parts_snoc hl]
 have h1:=h.swap
 have h2:St w0 w (partA d xs.length a x::lst (partsA d al xs)::l):=St.tolst (L:=[row a.O 102 (ownRow a),log a.L d xs.length x.log.held x.log.now,slt a.S0 d xs.length 0 x.s0,slt a.S1 d xs.length 1 x.s1]) (h.perm (by
  simp only [List.cons_append,List.nil_append]
  exact (List.perm_middle (l₁:=[_,_,_,_]) (l₂:=l)).symm))
 have h3:=h2.swap.unlst
 refine St.tolst (h3.perm ?_)
 rw [List.append_assoc]
 exact List.Perm.refl _
theorem ptr_info:(Tryz.prog.info? 94).map (fun i=>(i.zero,i.size,i.bytes))=some (some (.pointer none),1,8):=by kernel_rfl
theorem slPtr:SlT Tryz.prog 112 94 1 8:=by
 obtain ⟨i0,hi,hz0,hz1,hz2⟩:=info_parts ptr_info
 exact ⟨Tryz.underlying112,⟨i0,_,hi,hz0,hz1,hz2,rfl⟩,by decide⟩
def madeR (js:List Img):List (RS×RS):=js.map fun i=>(loadR i.bytes,RS.none)
theorem madeR_take {js:List Img} {q:Nat} (hq:q < js.length):madeR (js.take (q+1))=madeR (js.take q)++[(loadR (js.getD q Img.none).bytes,RS.none)]:=by
 simp only [madeR]
 rw [List.take_succ_eq_append_getElem hq,List.map_append,getD_e hq]
 rfl
theorem make_at {w0 w:World} {l:List Asn} {d:Nat} {m:DS} {B:Asn} {js:List Img} {AI:Option Addr} {n cI:Nat} {K:Nat→Option Addr×Nat} (h:St w0 w (dsk d m::B::l)) (hg:ImgsG w0 B js AI n K) {a:TabA} {t:Tab} (ht:TabW w a t) (hE:makeE m.secs.length t js=0) (hc:Calm m) (hz:∀j:Nat,j < m.secs.length→m.now j=zeroSec) :
  Calls Tryz.prog 33 #[.pointer (some ⟨d,0,none⟩),a.val t,.slice AI n cI] w fun e w'=>∃(ad:StAd),e=.returned (.tuple #[.pointer (some ⟨ad.S,0,none⟩),.int .i64 0])∧∃(m':DS) (xs:List PP),St w0 w' (strA ad t d m' xs::B::l)∧SInv m' xs (madeR js)∧xs.length=t.parts.length∧m'.secs.length=m.secs.length:=by
 have hIV:=hg w _ (h.pick 1 rfl)
 have hjn:=hIV.len
 have hw0:wrongL m.secs.length t=0:=by
  by_cases h0:wrongL m.secs.length t=0
  ·exact h0
  ·rw [makeE,if_pos h0] at hE;exact absurd hE h0
 have hlp:js.length=t.parts.length:=by
  by_cases h0:js.length=t.parts.length
  ·exact h0
  ·rw [makeE,if_neg (by simpa using hw0),if_pos h0] at hE;simp at hE
 have hfe:firstE t 0 js=0:=by rwa [makeE,if_neg (by simpa using hw0),if_neg (by simpa using hlp)] at hE
 have hchk:∀k,k < n→checkL t (k:Int) (js.getD k Img.none) 0=0:=fun k hk=>by
  induction k using Nat.strongRecOn with
  | _ k ih =>
    by_cases h0:checkL t (k:Int) (js.getD k Img.none) 0=0
    ·exact h0
    ·have:=firstE_at js 0 k (by omega) (fun i hi=>by rw [Nat.zero_add];exact ih i hi (by omega)) (by rw [Nat.zero_add];exact h0)
     rw [hfe,Nat.zero_add] at this
     exact absurd this.symm h0
 obtain ⟨hrt,hroom⟩:=wrongL_0 hw0
 have hr24:=(Tab.r hrt).np
 have HWR:=Lib.hid (wrong_at h ht)
 rw [hw0] at HWR
 obtain ⟨Z,hZ⟩:∃Z,Z=w.heap.size:=⟨_,rfl⟩
 obtain ⟨w1,hw1⟩:∃w1,w1=w.alloc (.cells #[.int .i64 t.frame,.slice a.AP t.parts.length a.cP,.slice a.AW t.wins.length a.cW,.slice a.AC t.chans.length a.cC,.int .i64 t.trial] 46):=⟨_,rfl⟩
 have hbw1:Below w.heap.size w w1:=by rw [hw1];exact (Below.refl _ w).alloc (Nat.le_refl _) _
 have HWR1:=Lib.hid (by have:=wrong_at (h.below hbw1) (ht.over hbw1);rw [hw0] at this;exact this)
 have H1:=Lib.hid (show St w w1 [row Z 46 [.int .i64 t.frame,.slice a.AP t.parts.length a.cP,.slice a.AW t.wins.length a.cW,.slice a.AC t.chans.length a.cC,.int .i64 t.trial]] by
  have h:=(St.nil w).new 46 #[.int .i64 t.frame,.slice a.AP t.parts.length a.cP,.slice a.AW t.wins.length a.cW,.slice a.AC t.chans.length a.cC,.int .i64 t.trial]
  rw [←hZ,←hw1] at h
  exact h)
 have H:=Lib.hid h
 have HIV:=Lib.hid (fun (w':World) (hb:Below w.heap.size w w')=>hIV.over hb)
 have HCK:=Lib.hid (fun (w':World) (hb:Below w.heap.size w w') (k:Nat) (hk:k < n) (Ak:Option Addr) (ck:Nat)=>by
  have hh:=check_at (ver:=0) (i:=js.getD k Img.none) (A:=Ak) (c:=ck) (ht.over hb) (k:Int) (by
   have:=checkL_right (hchk k hk)
   obtain ⟨_,_,_,_,_,_,_,h8⟩:=this
   omega)
  rw [hchk k hk] at hh
  exact hh)
 have HIR:=Lib.hid (fun k hk=>checkL_right (hchk k hk))
 have HO2:=Lib.hid (fun (w':World) (hb:Below w.heap.size w w')=>own2_at (H.out.below hb) (ht.over hb) hrt)
 have HROWS:=Lib.hid (fun (w':World) (hb:Below w1.heap.size w1 w')=>(H1.out.below hb).row.1)
 have HLP:=Lib.hid hlp;have HJN:=Lib.hid hjn;have HZ:=Lib.hid hZ;have HW1:=Lib.hid hw1;have HC:=Lib.hid hc;have HZS:=Lib.hid hz;have HRM:=Lib.hid hroom;have HG:=Lib.hid hg;have HB1:=Lib.hid hbw1
 have hnp:n=t.parts.length:=by omega
 have HNP:=Lib.hid hnp
 have hn4:2≤n∧n≤4:=by omega
 simp only [TabA.val] at HWR1 HCK HO2 HW1 ⊢
 clear h ht hE hc hz hIV hw0 hlp hfe hchk hw1 hZ hjn hroom hg hbw1 hnp hr24
 have t0:w1.cell? ⟨Z,0,none⟩=some (.int .i64 t.frame):=H1.out.row.1.cell 0
 have t1:w1.cell? ⟨Z,1,none⟩=some (.slice a.AP t.parts.length a.cP):=H1.out.row.1.cell 1
 have t2:w1.cell? ⟨Z,2,none⟩=some (.slice a.AW t.wins.length a.cW):=H1.out.row.1.cell 2
 have t3:w1.cell? ⟨Z,3,none⟩=some (.slice a.AC t.chans.length a.cC):=H1.out.row.1.cell 3
 have t4:w1.cell? ⟨Z,4,none⟩=some (.int .i64 t.trial):=H1.out.row.1.cell 4
 have lT:=H1.out.row.1.lt
 go_enter Tryz.func33,Tryz.ntmps33
 go_upto_region 1 with fail
 rw [←HW1.out,←HZ.out]
 go_wp2_with (fail)
 refine HWR1.out.mono ?_
 rintro e w2 ⟨rfl,hb⟩
 have HB2:=Lib.hid hb
 clear hb t0 t1 t2 t3 t4 lT
 have t1:w2.cell? ⟨Z,1,none⟩=some (.slice a.AP t.parts.length a.cP):=(HROWS.out w2 HB2.out).cell 1
 have lT:=(HROWS.out w2 HB2.out).lt
 have e0:((n:Int) != (t.parts.length:Int))=false:=by rw [HNP.out];simp
 go_wp2_with (fail)
 clear t1 lT e0
 go_loopw [34] (fun x wr=>∃q:Nat,q≤n∧x=.int .i64 q∧Below w1.heap.size w1 wr) (fun x _=>n-(intOf x).toNat)
 case atStart=>exact ⟨0,by omega,rfl,HB2.out⟩
 case round =>
  obtain ⟨q,hq,rfl,hbr⟩:=hrel
  have HBR:=Lib.hid hbr
  have HBW:=Lib.hid (HB1.out.trans (hbr.mono HB1.out.size))
  clear HB2 hbr
  by_cases hlt:q < n
  ·obtain ⟨b,off,hA,hbl,c0,c1,c2,c3,c4,c5,c6,c7,hck,hsk⟩:=(HIV.out wr HBW.out).at_ q hlt
   generalize (K q).1=Ak,(K q).2=ck at *
   have hba:Below w.heap.size w (wr.alloc (.cells #[.int .i64 (js.getD q Img.none).part,.int .i64 (js.getD q Img.none).version,.int .i64 (js.getD q Img.none).hard,.int .i64 (js.getD q Img.none).mem,.int .i64 (js.getD q Img.none).fuel,.int .i64 (js.getD q Img.none).sends,.int .i64 (js.getD q Img.none).receives,.slice Ak (js.getD q Img.none).code.length ck] 26)):=HBW.out.trans (((Below.refl wr.heap.size wr).alloc (Nat.le_refl _) _).mono HBW.out.size)
   have HCQ:=Lib.hid (HCK.out _ hba q hlt Ak ck)
   have HBA:=Lib.hid (show Below w1.heap.size w1 (wr.alloc (.cells #[.int .i64 (js.getD q Img.none).part,.int .i64 (js.getD q Img.none).version,.int .i64 (js.getD q Img.none).hard,.int .i64 (js.getD q Img.none).mem,.int .i64 (js.getD q Img.none).fuel,.int .i64 (js.getD q Img.none).sends,.int .i64 (js.getD q Img.none).receives,.slice Ak (js.getD q Img.none).code.length ck] 26)) from HBR.out.trans (((Below.refl wr.heap.size wr).alloc (Nat.le_refl _) _).mono HBR.out.size))
   have HA:=Lib.hid hA
   simp only [Img.val] at HCQ
   generalize js.getD q Img.none=j at *
   have hr:=HROWS.out wr HBR.out
   have t0:wr.cell? ⟨Z,0,none⟩=some (.int .i64 t.frame):=hr.cell 0
   have t1:wr.cell? ⟨Z,1,none⟩=some (.slice a.AP t.parts.length a.cP):=hr.cell 1
   have t2:wr.cell? ⟨Z,2,none⟩=some (.slice a.AW t.wins.length a.cW):=hr.cell 2
   have t3:wr.cell? ⟨Z,3,none⟩=some (.slice a.AC t.chans.length a.cC):=hr.cell 3
   have t4:wr.cell? ⟨Z,4,none⟩=some (.int .i64 t.trial):=hr.cell 4
   have lT:=hr.lt
   have k0:(0:Int)≤(q:Int):=by omega
   have k1:(q:Int) < (n:Int):=by omega
   clear hA hr hba hck hsk
   rw [HA.out]
   go_wp2_with (fail)
   refine HCQ.out.mono ?_
   rintro e w3 ⟨rfl,hb⟩
   have HB3:=Lib.hid (HBA.out.trans (hb.mono HBA.out.size))
   clear hb t0 t1 t2 t3 t4 lT c0 c1 c2 c3 c4 c5 c6 c7
   go_wp2_with (fail)
   go_roundw
   case rel=>exact ⟨q+1,by omega,by go_num,HB3.out⟩
   case measure=>simp [intOf];omega
  ·have k1:¬(q:Int) < (n:Int):=by omega
   have hr:=HROWS.out wr HBR.out
   have t0:wr.cell? ⟨Z,0,none⟩=some (.int .i64 t.frame):=hr.cell 0
   have t1:wr.cell? ⟨Z,1,none⟩=some (.slice a.AP t.parts.length a.cP):=hr.cell 1
   have t2:wr.cell? ⟨Z,2,none⟩=some (.slice a.AW t.wins.length a.cW):=hr.cell 2
   have t3:wr.cell? ⟨Z,3,none⟩=some (.slice a.AC t.chans.length a.cC):=hr.cell 3
   have t4:wr.cell? ⟨Z,4,none⟩=some (.int .i64 t.trial):=hr.cell 4
   have lT:=hr.lt
   clear hr
   go_wp2_with (fail)
   refine (HO2.out wr HBW.out).mono ?_
   rintro e w3 ⟨a',rfl,hst⟩
   have H3:=Lib.hid hst
   clear hst t0 t1 t2 t3 t4 lT
   simp only [TabA.val]
   obtain ⟨S,hS⟩:∃S,S=w3.heap.size:=⟨_,rfl⟩
   obtain ⟨w4,hw4⟩:∃v,v=w3.alloc (.cells #[.int .i64 t.frame,.slice a'.AP t.parts.length a'.cP,.slice a'.AW t.wins.length a'.cW,.slice a'.AC t.chans.length a'.cC,.int .i64 t.trial,.slice none 0 0] 114):=⟨_,rfl⟩
   have h4:=H3.out.new 114 #[.int .i64 t.frame,.slice a'.AP t.parts.length a'.cP,.slice a'.AW t.wins.length a'.cW,.slice a'.AC t.chans.length a'.cC,.int .i64 t.trial,.slice none 0 0]
   rw [←hS,←hw4] at h4
   have hstr:St w0 w4 (strA ⟨S,a',none,0,[]⟩ t d m []::B::l) :=
    str_mk (q:=0) rfl (by
     have h5:=((h4.addOwn (Below.refl _ _) (show w4.ownsRow w4.heap.size 94 1 (.slice none 0 0) 0 [] from ⟨rfl,.inl ⟨rfl,rfl⟩⟩)).swap)
     have h6:=(St.tolst (L:=[]) h5)
     exact h6.perm (List.perm_middle (l₁:=[_,_,_,_]) (l₂:=B::l)).symm) rfl
   have H4:=Lib.hid hstr
   have HSV:=Lib.hid (SInv.start HC.out)
   clear hstr h4
   go_upto_region 14 with fail
   rw [←hS,←hw4]
   clear hw4 hS
   have HZ0:=Lib.hid (fun (x:Nat) (hx:10*0≤x) (hl:x < m.secs.length)=>HZS.out x hl)
   have HLL:=Lib.hid (show m.secs.length=m.secs.length from rfl)
   obtain ⟨sl,hsl⟩:∃v,v=m.secs.length:=⟨_,rfl⟩
   rw [←hsl] at HRM
   have HSL:=Lib.hid hsl.symm
   have HMR:=Lib.hid (show SInv m [] (madeR (js.take 0)) from HSV.out)
   clear HSV HLL hsl
   go_wp2_with (fail)
   go_loopw [53] (fun x wr=>∃(q:Nat) (ad:StAd) (m':DS) (xs:List PP),q≤n∧x=.int .i64 q∧ad.S=S∧xs.length=q∧St w0 wr (strA ad t d m' xs::B::l)∧SInv m' xs (madeR (js.take q))∧m'.secs.length=sl∧∀j:Nat,10*q≤j→j < m'.secs.length→m'.now j=zeroSec) (fun x _=>n-(intOf x).toNat)
   case atStart=>exact ⟨0,_,m,[],by omega,rfl,rfl,rfl,H4.out,HMR.out,HSL.out,HZ0.out⟩
   case round =>
    obtain ⟨q,ad,m',xs,hq2,rfl,hS,hxl,hst,hsi,hsl,hzz⟩:=hrel
    have HST:=Lib.hid hst;have HSI:=Lib.hid hsi
    clear H4 HMR HZ0 hst hsi
    by_cases hlt:q < n
    ·have hqj:q < js.length:=by have:=HJN.out;omega
     have HIQ:=Lib.hid (fun (w':World) (l':List Asn) (hb:St w0 w' (B::l'))=>(HG.out w' l' hb).at_ q hlt)
     obtain ⟨b,off,hA,hbl,c0,c1,c2,c3,c4,c5,c6,c7,hck,hsk⟩:=HIQ.out wr _ HST.out.swap
     have HSL2:=Lib.hid (fun (w':World) (l':List Asn) (hb:St w0 w' (B::l'))=>show Sl w' w'.heap.size 1 (K q).1 (js.getD q Img.none).code.length (u8s (js.getD q Img.none).code) from by obtain ⟨_,_,_,_,_,_,_,_,_,_,_,_,_,h⟩:=HIQ.out w' l' hb;exact h)
     have HJR:=Lib.hid (HIR.out q hlt)
     have HJB:=Lib.hid (show Byt (js.getD q Img.none).code by rw [getD_e hqj];exact (HG.out wr _ HST.out.swap).byt _ (List.getElem_mem hqj))
     have HMT:=Lib.hid (madeR_take hqj)
     have HA:=Lib.hid hA
     have HCK2:=Lib.hid hck
     generalize js.getD q Img.none=j at *
     generalize (K q).1=Ak,(K q).2=ck at *
     obtain ⟨Q,hQ⟩:∃Q,Q=wr.heap.size:=⟨_,rfl⟩
     obtain ⟨w5,hw5⟩:∃v,v=(wr.alloc (.cells #[.int .i64 j.part,.int .i64 j.version,.int .i64 j.hard,.int .i64 j.mem,.int .i64 j.fuel,.int .i64 j.sends,.int .i64 j.receives,.slice Ak j.code.length ck] 26)).alloc (.cells #[.pointer none,.pointer none,.pointer none] 102):=⟨_,rfl⟩
     have h5:=(HST.out.new 26 #[.int .i64 j.part,.int .i64 j.version,.int .i64 j.hard,.int .i64 j.mem,.int .i64 j.fuel,.int .i64 j.sends,.int .i64 j.receives,.slice Ak j.code.length ck]).new 102 #[.pointer none,.pointer none,.pointer none]
     rw [show (wr.alloc (.cells #[.int .i64 j.part,.int .i64 j.version,.int .i64 j.hard,.int .i64 j.mem,.int .i64 j.fuel,.int .i64 j.sends,.int .i64 j.receives,.slice Ak j.code.length ck] 26)).heap.size=Q+1 by rw [hQ];exact Array.size_push _,←hQ,←hw5] at h5
     have hun:=str_un (h5.pick 2 rfl)
     have hall:=hun.2
     have H5:=Lib.hid ((hun.1.pick 3 rfl).pick 5 rfl)
     have HQ:=Lib.hid hQ;have HW5:=Lib.hid hw5
     have k0:(0:Int)≤(q:Int):=by omega
     have k1:(q:Int) < (n:Int):=by omega
     have hsz:10*(q+1)≤m'.secs.length:=by have:=HRM.out;have:=HNP.out;omega
     clear hA hck hsk h5 hun hQ hw5
     rw [HA.out]
     go_upto_region 18 with fail
     rw [←HW5.out,←HQ.out]
     clear c0 c1 c2 c3 c4 c5 c6 c7
     have hr0:hasRoom (q:Int) 0 m'.secs.length=true:=by unfold hasRoom dAt;simp;omega
     have hr1:hasRoom (q:Int) 1 m'.secs.length=true:=by unfold hasRoom dAt;simp;omega
     have HOP:=Lib.hid (opn_at H5.out hr0 hr1 HSI.out.calm.up.1 (by rw [HSI.out.calm.waits];simp) HSI.out.calm.bts)
     have hz0:openS m' (q:Int) 0=SlS.none:=open_zero (hzz _ (by unfold sAt;omega) (by unfold sAt;omega))
     have hz1:openS m' (q:Int) 1=SlS.none:=open_zero (hzz _ (by unfold sAt;omega) (by unfold sAt;omega))
     rw [hz0,hz1] at HOP
     clear hr0 hr1 hz0 hz1
     go_wp2_with (fail)
     refine HOP.out.mono ?_
     rintro e w6 ⟨rfl,g0,g1,hst⟩
     have H6:=Lib.hid hst
     have o1:w6.cell? ⟨Q+1,1,none⟩=some (.pointer (some ⟨g0,0,none⟩)):=hst.row.1.cell 1
     have o2:=hst.row.1.lt
     have hq6:=(hst.pick 8 rfl).row.1
     have q0:w6.cell? ⟨Q,0,none⟩=some (.int .i64 j.part):=hq6.cell 0
     have q1:w6.cell? ⟨Q,1,none⟩=some (.int .i64 j.version):=hq6.cell 1
     have q2:w6.cell? ⟨Q,2,none⟩=some (.int .i64 j.hard):=hq6.cell 2
     have q3:w6.cell? ⟨Q,3,none⟩=some (.int .i64 j.mem):=hq6.cell 3
     have q4:w6.cell? ⟨Q,4,none⟩=some (.int .i64 j.fuel):=hq6.cell 4
     have q5:w6.cell? ⟨Q,5,none⟩=some (.int .i64 j.sends):=hq6.cell 5
     have q6:w6.cell? ⟨Q,6,none⟩=some (.int .i64 j.receives):=hq6.cell 6
     have q7:w6.cell? ⟨Q,7,none⟩=some (.slice Ak j.code.length ck):=hq6.cell 7
     have q8:=hq6.lt
     have hlv:LvO w0 w6.drew g0 d q 0 m' m' SlS.none RS.none _:=⟨(hst.drew.pick 3 rfl).pick 2 rfl,blank_at HSI.out.calm ⟨HSI.out.calm.good,HSI.out.calm.bts,by omega,by omega,by omega,by omega,by unfold dAt;omega⟩ (hzz _ (by unfold sAt;omega) (by unfold sAt;omega)),HSI.out.calm.up,rfl,fun _ _=>rfl⟩
     have HLD:=Lib.hid (load_at hlv j HJR.out HJB.out Ak ck HCK2.out (HSL2.out w6.drew _ (hst.drew.pick 9 rfl)))
     simp only [Img.val] at HLD
     clear hst hq6 hlv HOP
     go_upto_region 21 with fail
     refine segs_start (by kernel_rfl) ?_
     (refine segs_take [0,1,2,3,4,5] (by kernel_rfl) (fun _ _ _ _ _ h=>h) ?_;simp only [pick,xGs,xGz,xGo];(iterate 6 still_step);refine wpStill_nil ?_)
     (try simp only [xGs,xGz,xGo,Act.put,xSi,xSz,xSs])
     (refine segs_one 6 (by kernel_rfl) (by rfl) ?_;(try simp only [xGs,xGz,xGo]);go_simp)
     refine HLD.out.mono ?_
     rintro e w7 ⟨rfl,m7,s7,h7⟩
     have H7:=Lib.hid h7
     clear h7 q0 q1 q2 q3 q4 q5 q6 q7 q8 o1 o2
     dsimp only
     (try simp only [xGs,xGz,xGo,Act.put,xSi,xSz,xSs])
     (refine segs_take [7] (by kernel_rfl) (fun _ _ _ _ _ h=>h) ?_;simp only [pick,xGs,xGz,xGo];(iterate 1 still_step);refine wpStill_nil ?_)
     refine segs_end (by kernel_rfl) ?_
     have hc7:=H7.out.calm
     have hrf:roomFor (q:Int) m7.secs.length=true:=by unfold roomFor;have:=H7.out.len;simp;omega
     obtain ⟨f1,f2,f3,f4,f5,f6⟩:=format_up hc7.good hc7.bts hc7.up hrf
     have HFM:=Lib.hid ((format_at (H7.out.st.pick 1 rfl) (q:Int) hrf (by rw [hc7.waits];simp)).mono fun e w' h=>h.1 f1)
     have HMK:=Lib.hid (HSI.out.make hxl (by omega) hsz (fun x h1 h2=>hzz x h1 h2) H7.out.si H7.out.up H7.out.len H7.out.out f2 f3 f4 f5 (fun x h1 h2=>by rw [f6,if_neg (by omega),if_neg (by omega)]))
     have HL8:=Lib.hid (show (formatM m7 (q:Int)).2.secs.length=sl by rw [f5,H7.out.len,hsl])
     generalize (formatM m7 (q:Int)).1=fe,(formatM m7 (q:Int)).2=m8 at *
     clear hc7 hrf f1 f2 f3 f4 f5 f6
     go_wp2_with (fail)
     refine HFM.out.mono ?_
     rintro e w8 ⟨g,rfl,hst⟩
     have h8:=hst.pick 3 rfl
     have H8:=Lib.hid h8
     have z0:w8.cell? ⟨Q+1,0,none⟩=some (.pointer none):=h8.row.1.cell 0
     have z1:w8.frozen? ⟨Q+1,0,none⟩=false:=h8.row.1.frozen 0
     have z2:=h8.row.1.lt
     clear hst h8
     go_upto_region 28 with fail
     obtain ⟨w9,hw9⟩:∃v,v=w8.setCell ⟨Q+1,0,none⟩ (.pointer (some ⟨g,0,none⟩)):=⟨_,rfl⟩
     rw [←hw9]
     have h9:=H8.out.set 0 (.pointer (some ⟨g,0,none⟩))
     rw [←hw9] at h9
     simp only [List.set_cons_zero] at h9
     have H9:=Lib.hid (h9.pick 5 rfl)
     have hS9:=(h9.pick 5 rfl).row.1
     rw [hxl,hS] at hS9
     have s5:w9.cell? ⟨S,5,none⟩=some (.slice ad.AL q ad.cL):=hS9.cell 5
     have s6:=hS9.lt
     clear z0 z1 z2 hw9 h9 hS9 H8
     have hown:=(H9.out.pick 6 rfl)
     rw [hxl] at hown
     have HOW:=Lib.hid hown
     clear hown
     obtain ⟨wb,hwb⟩:∃v,v=w9.alloc (.cells #[.pointer (some ⟨Q+1,0,none⟩)] 94):=⟨_,rfl⟩
     obtain ⟨D,hD⟩:∃D,D=w9.heap.size:=⟨_,rfl⟩
     have hnb:=HOW.out.new 94 #[.pointer (some ⟨Q+1,0,none⟩)]
     rw [←hwb,←hD] at hnb
     have HNB:=Lib.hid hnb
     have hsb:Sl wb wb.heap.size 1 (some ⟨D,0,none⟩) 1 [.pointer (some ⟨Q+1,0,none⟩)]:=hnb.row.1.sl hnb.row.1.lt rfl rfl
     have HSB:=Lib.hid hsb
     have HOB:=Lib.hid hnb.swap.own
     have HBS:=Lib.hid hnb.bel.size
     have HD:=Lib.hid hD;have HWB:=Lib.hid hwb
     clear hnb hsb hD hwb
     go_upto_region 29 with (first
      | (at_builtin;rw [←HWB.out,←HD.out];refine app_at slPtr rfl (.tmp 94) (.tmp 96) rfl HOB.out rfl rfl (fun h=>by cases h) HSB.out (by simp [Value.oneCell']) (by omega) (by unfold maxLen;omega) HBS.out ?_;intro v' wc ho hg hl;have hgr:=HNB.out.swap.grown hg ho hl;obtain ⟨A9,c9,rfl,_,_⟩:=own_form ho;have HC1:=Lib.hid hgr;have hsc:=(hgr.pick 2 rfl).row.1;have y5:wc.cell? ⟨ad.S,5,none⟩=some (.slice ad.AL q ad.cL):=hsc.cell 5;have y6:wc.frozen? ⟨ad.S,5,none⟩=false:=hsc.frozen 5;have y7:=hsc.lt;rw [hS] at y5 y6 y7;clear hsc ho hg hl hgr))
     go_wp2_with (fail)
     go_roundw
     case rel =>
      refine ⟨q+1,⟨ad.S,ad.tab,A9,c9,ad.al++[⟨Q+1,g,g0,g1⟩]⟩,m8,xs++[madeP q s7],by omega,by go_num,hS,by rw [List.length_append,hxl];rfl,?_,by rw [HMT.out];exact HMK.out.1,HL8.out,HMK.out.2⟩
      have h:=(HC1.out.pick 2 rfl).set 5 (.slice A9 (q+1) c9)
      rw [hS] at h
      have h2:=((((((((((((h.pick 11 rfl).pick 6 rfl).pick 9 rfl).pick 4 rfl).pick 4 rfl).pick 9 rfl).pick 9 rfl).pick 9 rfl).pick 9 rfl).pick 10 rfl).pick 11 rfl).pick 11 rfl).drop.drop
      have h3:=parts_add (a:=⟨Q+1,g,g0,g1⟩) (x:=madeP q s7) hall hxl h2
      have h4:=((((((h3.pick 5 rfl).pick 1 rfl).pick 5 rfl).pick 5 rfl).pick 5 rfl).pick 5 rfl)
      refine str_mk (q:=q+1) (by rw [List.length_append,hxl];rfl) ?_ (by rw [List.length_append,List.length_append,hall];rfl)
      rw [hS]
      have hpt:ptrs (ad.al++[⟨Q+1,g,g0,g1⟩])=ptrs ad.al++[.pointer (some ⟨Q+1,0,none⟩)]:=by simp [ptrs]
      rw [hpt]
      exact h4
     case measure=>simp [intOf];omega
    ·have HE:=Lib.hid (show js.take q=js by rw [List.take_of_length_le];have:=HJN.out;omega)
     have k1:¬(q:Int) < (n:Int):=by omega
     go_wp2_with (fail)
     go_ret2
     have h:=HSI.out
     rw [HE.out] at h
     exact ⟨ad,by rw [hS];rfl,m',xs,HST.out,h,by have:=HNP.out;omega,by rw [hsl,HSL.out]⟩
end store
namespace refImage


open Go.RowKit Go.Deep base obj mem sep crc num bytes plan chain image
theorem u8s_one (l:List Int):∀v∈u8s l,v.oneCell'=true:=fun v hv=>by
 obtain ⟨z,_,rfl⟩:=List.mem_map.1 hv
 rfl
theorem rtext_at (w:World) (m c:Nat) (A:Option Addr) (bs:List Int) (hm0:0 < m) (hm:m≤1000) (hmc:m≤c) (hs:Sl w w.heap.size 1 A m (u8s bs)) :
  Calls Tryz.prog 200 #[.slice A m c] w fun e w'=>∃v,e=.returned v∧w'.ownsRow w.heap.size 5 1 v (2+m) (u8s (be 2 m++bs))∧Below w.heap.size w w':=by
 obtain ⟨B,off,rfl,_,_⟩:=hs.2 hm0
 have c0:¬((m:Int) > 65535):=by omega
 have c1:(0:Int)≤(m:Int):=by omega
 have c2:(m:Int)≤(c:Int):=by omega
 have HS:=Lib.hid hs
 have HP:=Lib.hid (refNum.put_at w m (by omega) 2 (by omega) (by omega))
 have HH:=Lib.hid (heldN_in 2 m (by omega))
 clear hs
 go_enter Tryz.func200,Tryz.ntmps200
 go_wp2_with (fail)
 refine HP.out.mono ?_
 rintro e w1 ⟨g,rfl,hg,hr,hb⟩
 rw [HH.out] at hr
 have ho:w1.ownsRow w.heap.size 5 1 (.slice (some ⟨g,0,none⟩) 2 2) 2 (u8s (be 2 m)):=by
  have h:=hr.own (size:=1) (n:=2) (cap:=2) hg (Nat.le_refl _) (by decide) (by simp [be_length])
  rwa [List.take_of_length_le (by simp [be_length])] at h
 have HO:=Lib.hid ho
 have HB:=Lib.hid hb
 have HS1:=Lib.hid ((HS.out.below hb).more hb.size)
 clear hg hr hb ho
 go_wp2_with (at_builtin;refine app_at slB rfl (.tmp 11) (.tmp 14) rfl HO.out rfl rfl (fun h=>by cases h) HS1.out (u8s_one _) (by omega) (by unfold maxLen;omega) HB.out.size ?_;intro v3 w3 ho3 hg3 hl3;have HO3:=Lib.hid ho3;have HB3:=Lib.hid (below_own HB.out HO.out hg3 HB.out.size);clear ho3 hg3 hl3)
 go_ret
 exact ⟨_,rfl,by rw [u8s,List.map_append];exact HO3.out,HB3.out⟩
theorem rright_at (w:World) (i:Img) (A:Option Addr) (c:Nat) (hc:i.code.length≤9223372036854775807):Calls Tryz.prog 83 #[i.val A c] w fun e w'=>e=.returned (.bool (decide i.right))∧Below w.heap.size w w':=by
 obtain ⟨part,version,hard,mem,fuel,sends,receives,code⟩:=i
 simp only [Img.val]
 have hb:Below w.heap.size w (w.alloc (.cells #[.int .i64 part,.int .i64 version,.int .i64 hard,.int .i64 mem,.int .i64 fuel,.int .i64 sends,.int .i64 receives,.slice A code.length c] 26)):=(Below.refl _ w).alloc (Nat.le_refl _) _
 have HB:=Lib.hid hb
 generalize hn:code.length=n
 have hd:decide (Img.right ⟨part,version,hard,mem,fuel,sends,receives,code⟩)=decide ((0≤part∧part≤3)∧(1≤version∧version≤65535)∧(0≤hard∧hard≤65535)∧(1≤mem∧mem≤16)∧(1≤fuel∧fuel≤32)∧(0≤sends∧sends≤15)∧(0≤receives∧receives≤15)∧(1≤(n:Int)∧(n:Int)≤96)):=by
  simp only [Img.right,hn]
 rw [hd,←hn]
 have HN:=Lib.hid hn
 clear hd hb hn
 rw [HN.out] at *
 go_enter Tryz.func83,Tryz.ntmps83
 go_wp2_with (fail)
 all_goals (go_ret;refine ⟨?_,(Below.refl _ w).alloc (Nat.le_refl _) _⟩;first|(simp;omega)|rfl|(simp;done)|(simp;intros;omega)|(simp;constructor<;>omega)|skip)
theorem be1 (n:Nat) (h:n < 256):be 1 n=[(n:Int)]:=by
 simp only [be,List.range_one,List.map_cons,List.map_nil,digit]
 simp
 omega
theorem be2 (n:Nat) (h:n < 65536):be 2 n=[((n / 256:Nat):Int),((n % 256:Nat):Int)]:=by
 simp only [be,List.range,List.range.loop,List.map_cons,List.map_nil,digit]
 simp
 omega
theorem rhead_at (w:World) (i:Img) (hr:i.right) (hby:Byt i.code) (A:Option Addr) (c:Nat) (hc:i.code.length≤c) (hs:Sl w w.heap.size 1 A i.code.length (u8s i.code)) :
  Calls Tryz.prog 175 #[i.val A c] w fun e w'=>∃v,e=.returned v∧w'.ownsRow w.heap.size 5 1 v (13+i.code.length) (u8s i.head)∧Below w.heap.size w w':=by
 obtain ⟨part,version,hard,mem,fuel,sends,receives,code⟩:=i
 obtain ⟨⟨a0,a1⟩,⟨b0,b1⟩,⟨c0,c1⟩,⟨d0,d1⟩,⟨e0,e1⟩,⟨f0,f1⟩,⟨g0,g1⟩,⟨h0,h1⟩⟩:=hr
 simp only at *
 obtain ⟨p,rfl⟩:∃p:Nat,part=p:=⟨part.toNat,by omega⟩
 obtain ⟨ve,rfl⟩:∃p:Nat,version=p:=⟨version.toNat,by omega⟩
 obtain ⟨ha,rfl⟩:∃p:Nat,hard=p:=⟨hard.toNat,by omega⟩
 obtain ⟨me,rfl⟩:∃p:Nat,mem=p:=⟨mem.toNat,by omega⟩
 obtain ⟨fu,rfl⟩:∃p:Nat,fuel=p:=⟨fuel.toNat,by omega⟩
 obtain ⟨se,rfl⟩:∃p:Nat,sends=p:=⟨sends.toNat,by omega⟩
 obtain ⟨re,rfl⟩:∃p:Nat,receives=p:=⟨receives.toNat,by omega⟩
 have hH:u8s (Img.head ⟨(p:Int),(ve:Int),(ha:Int),(me:Int),(fu:Int),(se:Int),(re:Int),code⟩)=([.int .u8 76,.int .u8 73,.int .u8 p,.int .u8 ((ve:Int) / 256),.int .u8 ((ve:Int) % 256),.int .u8 ((ha:Int) / 256),.int .u8 ((ha:Int) % 256),.int .u8 me,.int .u8 fu,.int .u8 se,.int .u8 re]:List Value)++u8s (be 2 code.length++code):=by
  simp only [Img.head,Int.toNat_natCast,List.append_assoc]
  rw [be2 19529 (by omega),be1 p (by omega),be2 ve (by omega),be2 ha (by omega),be1 me (by omega),be1 fu (by omega),be1 se (by omega),be1 re (by omega)]
  simp [u8s]
 have W:∀n:Nat,n < 256→IntKind.u8.wrap (n:Int)=n:=fun n h=>by rw [IntKind.wrap_u8];omega
 have w0:=W p (by omega);have w1:=W me (by omega);have w2:=W fu (by omega);have w3:=W se (by omega);have w4:=W re (by omega)
 have w5:IntKind.u8.wrap ((ve:Int).tdiv 256)=(ve:Int) / 256:=W (ve / 256) (by omega)
 have w6:IntKind.u8.wrap ((ve:Int).tmod 256)=(ve:Int) % 256:=W (ve % 256) (by omega)
 have w7:IntKind.u8.wrap ((ha:Int).tdiv 256)=(ha:Int) / 256:=W (ha / 256) (by omega)
 have w8:IntKind.u8.wrap ((ha:Int).tmod 256)=(ha:Int) % 256:=W (ha % 256) (by omega)
 have HT:=Lib.hid (fun w' (hb:Below w.heap.size w w')=>rtext_at w' code.length c A code (by omega) (by omega) hc ((hs.below hb).more hb.size))
 simp only [Img.val]
 go_enter Tryz.func175,Tryz.ntmps175
 have HH:=Lib.hid hH
 clear hH
 go_wp2_with (fail)
 obtain ⟨w1,hw1⟩:∃v,v=w.alloc (.cells #[.int .i64 p,.int .i64 ve,.int .i64 ha,.int .i64 me,.int .i64 fu,.int .i64 se,.int .i64 re,.slice A code.length c] 26):=⟨_,rfl⟩
 have hz:w1.heap.size=w.heap.size+1:=by rw [hw1];exact Array.size_push _
 have f7:Row w1 w.heap.size 26 [.int .i64 p,.int .i64 ve,.int .i64 ha,.int .i64 me,.int .i64 fu,.int .i64 se,.int .i64 re,.slice A code.length c]:=by rw [hw1];exact Row.new w _ _
 have hb1:Below w.heap.size w w1:=by rw [hw1];exact (Below.refl _ w).alloc (Nat.le_refl _) _
 rw [←hw1]
 clear hw1
 obtain ⟨w2,hw2⟩:∃v,v=w1.alloc (.cells #[.int .u8 76,.int .u8 73,.int .u8 p,.int .u8 ((ve:Int) / 256),.int .u8 ((ve:Int) % 256),.int .u8 ((ha:Int) / 256),.int .u8 ((ha:Int) % 256),.int .u8 me,.int .u8 fu,.int .u8 se,.int .u8 re] 5):=⟨_,rfl⟩
 have hr2:Row w2 (w.heap.size+1) 5 [.int .u8 76,.int .u8 73,.int .u8 p,.int .u8 ((ve:Int) / 256),.int .u8 ((ve:Int) % 256),.int .u8 ((ha:Int) / 256),.int .u8 ((ha:Int) % 256),.int .u8 me,.int .u8 fu,.int .u8 se,.int .u8 re]:=by rw [hw2,←hz];exact Row.new w1 _ _
 have hb2:Below w.heap.size w w2:=by rw [hw2];exact hb1.alloc hb1.size _
 rw [←hw2]
 clear hw2 f7 hb1 hz w1
 refine (HT.out w2 hb2).mono ?_
 rintro e w3 ⟨v,rfl,ho,hb⟩
 obtain ⟨g3,c3,rfl,_,_⟩:=ho.form (by omega)
 have hb3:=hb2.trans (hb.mono hb2.size)
 have ho3:=(hr2.below hb hr2.lt).own (base:=w.heap.size) (size:=1) (n:=11) (cap:=11) (Nat.le_succ _) (Nat.le_refl _) (by decide) rfl
 have HS:=Lib.hid (Sl.of_own ho);have HO:=Lib.hid ho3;have HB:=Lib.hid hb3
 clear ho hb hb2 hr2 hb3 ho3
 go_wp2_with (at_builtin;refine app_at slB rfl (.tmp 36) (.tmp 39) rfl HO.out rfl rfl (fun h=>by cases h) HS.out (u8s_one _) (by omega) (by unfold maxLen;omega) HB.out.size ?_;intro v3 w3 ho3 hg3 hl3;have HO3:=Lib.hid ho3;have HB3:=Lib.hid (below_own HB.out HO.out hg3 HB.out.size);clear ho3 hg3 hl3)
 go_ret
 refine ⟨_,rfl,?_,HB3.out⟩
 have h:=HO3.out
 rw [HH.out]
 rw [show 11+(2+code.length)=13+code.length by omega] at h
 exact h
theorem byt_app {a b:List Int} (ha:Byt a) (hb:Byt b):Byt (a++b):=fun z hz=>by
 rcases List.mem_append.1 hz with h|h
 ·exact ha z h
 ·exact hb z h
theorem nil_own (w:World) (B:Nat):w.ownsRow B 5 1 (.slice none 0 0) 0 (u8s []):=⟨rfl,.inl ⟨rfl,rfl⟩⟩
theorem rtail_at (w:World) (A:Option Addr) (n c:Nat) (bs:List Int) (hn:bs.length=n) (h0:0 < n) (hm:n≤90000) (hby:Byt bs) (hs:Sl w w.heap.size 1 A n (u8s bs)) :
  Calls Tryz.prog 160 #[.slice A n c] w fun e w'=>∃v,e=.returned v∧w'.ownsRow w.heap.size 5 1 v (n+36) (u8s (sealed bs))∧Below w.heap.size w w':=by
 obtain ⟨B,off,rfl,_,_⟩:=hs.2 h0
 have HS:=Lib.hid hs;have HN:=Lib.hid hn;have HY:=Lib.hid hby
 have H0:=Lib.hid (nil_own w w.heap.size)
 have HB0:=Lib.hid (Below.refl w.heap.size w)
 clear hs hn hby
 go_enter Tryz.func160,Tryz.ntmps160
 go_wp2_with (at_builtin;refine app_at slB rfl (.tmp 4) (.tmp 5) rfl H0.out rfl rfl (fun h=>by cases h) HS.out (u8s_one _) (by omega) (by unfold maxLen;omega) HB0.out.size ?_;intro v3 w3 ho3 hg3 hl3;have HO3:=Lib.hid ho3;have HB3:=Lib.hid (below_own HB0.out H0.out hg3 HB0.out.size);clear ho3 hg3 hl3)
 have HO3':=Lib.hid (show w3.ownsRow w.heap.size 5 1 v3 n (u8s bs) by have h:=HO3.out;rwa [Nat.zero_add] at h)
 clear HO3 H0 HB0
 refine (sha.know_at w3).mono ?_
 rintro e w4 ⟨v1,v2,rfl,hst⟩
 have hq1:=hst.own
 have hq2:=(hst.pick 1 rfl).own
 obtain ⟨A1,c1,rfl,hs1⟩:=own_sl hq1
 obtain ⟨A2,c2,rfl,hs2⟩:=own_sl hq2
 have hb4:=hst.bel
 have HQ1:=Lib.hid hs1;have HQ2:=Lib.hid hs2
 have HB4:=Lib.hid (HB3.out.trans (hb4.mono HB3.out.size))
 have HO4:=Lib.hid (own_below HO3'.out hb4)
 have HS4:=Lib.hid ((HS.out.below HB4.out).more HB4.out.size)
 clear hst hq1 hq2 hs1 hs2 hb4
 go_wp2_with (fail)
 refine (sha.of_at w4 A1 A2 _ c1 c2 n c bs HY.out HN.out (by omega) HQ1.out HQ2.out HS4.out (fun h=>by cases h)).mono ?_
 rintro e w5 ⟨r,rfl,ho,hb⟩
 obtain ⟨g5,c5,rfl,_,_⟩:=ho.form (by omega)
 have HB5:=Lib.hid (HB4.out.trans (hb.mono HB4.out.size))
 have HO5:=Lib.hid (own_below HO4.out hb)
 have HS5:=Lib.hid (Sl.of_own ho)
 clear ho hb
 go_wp2_with (at_builtin;refine app_at slB rfl (.tmp 7) (.tmp 10) rfl HO5.out rfl rfl (fun h=>by cases h) HS5.out (u8s_one _) (by omega) (by unfold maxLen;omega) HB5.out.size ?_;intro v6 w6 ho6 hg6 hl6;have HO6:=Lib.hid ho6;have HB6:=Lib.hid (below_own HB5.out HO5.out hg6 HB5.out.size);clear ho6 hg6 hl6;obtain ⟨A6,c6,rfl,_⟩:=own_form HO6.out)
 have HS6:=Lib.hid (Sl.of_own HO6.out)
 have HY6:=Lib.hid (byt_app HY.out (sha.dig_byt bs))
 have HU6:=Lib.hid (show u8s bs++u8s (dig bs)=u8s (bs++dig bs) by simp [u8s])
 refine (refCrc.sum_at w6 A6 (n+32) c6 (bs++dig bs) (by rw [List.length_append,HN.out,sha.dig_len]) (by omega) HY6.out (by rw [←u8s,←HU6.out];exact HS6.out)).mono ?_
 rintro e w6' ⟨rfl,rfl⟩
 have hsum:sum (bs++dig bs) < 4294967296:=sum_lt
 obtain ⟨q,hq⟩:∃q,q=sum (bs++dig bs):=⟨_,rfl⟩
 rw [←hq] at hsum ⊢
 have HQ:=Lib.hid hq
 clear hq
 have hwr:IntKind.i64.wrap (q:Int)=q:=IntWalk.i64_in _ (by omega)
 go_wp2_with (fail)
 refine (refNum.put_at w6' q (by omega) 4 (by omega) (by omega)).mono ?_
 rintro e w7 ⟨g7,rfl,hg7,hr7,hb7⟩
 rw [heldN_in 4 q (by omega)] at hr7
 have HS7:=Lib.hid (show Sl w7 w7.heap.size 1 (some ⟨g7,0,none⟩) 4 (u8s (be 4 q)) from hr7.sl hr7.lt (by rw [List.drop_zero,List.take_of_length_le (by simp [be_length])]) (by simp [be_length,u8s]))
 have HB7:=Lib.hid (HB6.out.trans (hb7.mono HB6.out.size))
 have HO7:=Lib.hid (own_below HO6.out hb7)
 clear hr7 hb7 hg7
 go_wp2_with (at_builtin;refine app_at slB rfl (.tmp 12) (.tmp 16) rfl HO7.out rfl rfl (fun h=>by cases h) HS7.out (u8s_one _) (by omega) (by unfold maxLen;omega) HB7.out.size ?_;intro v8 w8 ho8 hg8 hl8;have HO8:=Lib.hid ho8;have HB8:=Lib.hid (below_own HB7.out HO7.out hg8 HB7.out.size);clear ho8 hg8 hl8)
 go_ret
 refine ⟨_,rfl,?_,HB8.out⟩
 have h:=HO8.out
 rw [HU6.out,HQ.out,←List.map_append] at h
 exact h
theorem rbytes_at (w:World) (i:Img) (hr:i.right) (hby:Byt i.code) (A:Option Addr) (c:Nat) (hc:i.code.length≤c) (hs:Sl w w.heap.size 1 A i.code.length (u8s i.code)) :
  Calls Tryz.prog 132 #[i.val A c] w fun e w'=>∃v,e=.returned v∧w'.ownsRow w.heap.size 5 1 v (49+i.code.length) (u8s i.bytes)∧Below w.heap.size w w':=by
 have hl:i.code.length≤96:=by obtain ⟨_,_,_,_,_,_,_,h⟩:=hr;omega
 have HY:=Lib.hid (head_byt i hby)
 have HB:=Lib.hid (show i.bytes=sealed i.head from rfl)
 have hh:=fun w' (hb:Below w.heap.size w w')=>rhead_at w' i hr hby A c hc ((hs.below hb).more hb.size)
 have HHL:=Lib.hid (head_len i)
 obtain ⟨n,hn⟩:∃n,n=i.code.length:=⟨_,rfl⟩
 obtain ⟨hd,hhd⟩:∃v,v=i.head:=⟨_,rfl⟩
 rw [←hhd] at hh HY HB HHL
 rw [←hn] at hh HHL hl ⊢
 rw [HB.out]
 have hv:i.val A c=.agg #[.int .i64 i.part,.int .i64 i.version,.int .i64 i.hard,.int .i64 i.mem,.int .i64 i.fuel,.int .i64 i.sends,.int .i64 i.receives,.slice A n c]:=by rw [hn];rfl
 rw [hv] at hh ⊢
 have HH:=Lib.hid hh
 generalize i.part=p1,i.version=p2,i.hard=p3,i.mem=p4,i.fuel=p5,i.sends=p6,i.receives=p7 at HH ⊢
 clear hr hs hn hhd hv hh
 go_enter Tryz.func132,Tryz.ntmps132
 go_wp2_with (fail)
 refine (HH.out _ ((Below.refl _ w).alloc (Nat.le_refl _) _)).mono ?_
 rintro e w1 ⟨v,rfl,ho,hb⟩
 obtain ⟨A1,c1,rfl,_,_⟩:=own_form ho
 have HB1:=Lib.hid (((Below.refl _ w).alloc (Nat.le_refl _) _).trans (hb.mono (by simp)))
 have HS1:=Lib.hid (Sl.of_own ho)
 clear ho hb
 go_wp2_with (fail)
 refine (rtail_at w1 A1 (13+n) c1 hd HHL.out (by omega) (by omega) HY.out (HS1.out)).mono ?_
 rintro e w2 ⟨v,rfl,ho,hb⟩
 have HO:=Lib.hid ho;have HB2:=Lib.hid (HB1.out.trans (hb.mono HB1.out.size))
 have HSZ:=Lib.hid HB1.out.size
 clear ho hb
 go_wp2_with (fail)
 go_ret
 refine ⟨_,rfl,?_,HB2.out⟩
 have h:=HO.out.mono HSZ.out
 rwa [show 13+n+36=49+n by omega] at h
end refImage
end Go.Proofs.YtdldkkoplgkloaaGreat
