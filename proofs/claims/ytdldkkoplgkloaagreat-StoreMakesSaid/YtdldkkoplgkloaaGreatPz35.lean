/-
  PROVED HERE: lemmas and contracts that the law's proof leans on (texts put together: Made, StoreSave).
  CONDITIONS: each names its own.
-/
import Derived.Test.YtdldkkoplgkloaaGreatPz29
import Derived.Test.YtdldkkoplgkloaaGreatPz32
import Derived.Test.YtdldkkoplgkloaaGreatPz34
namespace Go.Proofs.YtdldkkoplgkloaaGreat
set_option linter.unusedVariables false
set_option linter.unusedSimpArgs false
set_option maxRecDepth 100000
set_option maxHeartbeats 32000000
namespace store


open Go.RowKit Go.Deep base obj mem sep plan disk record commit stage image tab compat chain crc
theorem getD_take {α:Type} {l:List α} {n k:Nat} (h:k < n) (d:α):(l.take n).getD k d=l.getD k d:=by
 simp only [List.getD_eq_getElem?_getD,List.getElem?_take,if_pos h]
theorem ImgsG.take {w0:World} {B:Asn} {js:List Img} {A:Option Addr} {n m:Nat} {K:Nat→Option Addr×Nat} (h:ImgsG w0 B js A n K) (hm:m≤n):ImgsG w0 B (js.take m) A m K:=by
 intro w l hst
 have hI:=h w l hst
 refine ⟨by rw [List.length_take,hI.len];omega,fun i hi=>hI.byt i (List.mem_of_mem_take hi),fun k hk=>?_⟩
 rw [getD_take hk]
 exact hI.at_ k (by omega)
theorem clampN_in {n:Nat} (h0:1≤n) (h1:n≤128):clampN (n:Int)=n:=by unfold clampN;rw [if_neg (by omega),if_neg (by omega)];omega
theorem calm_new {n:Nat} (h0:1≤n) (h1:n≤128):Calm (DS.new n):=⟨DS.new_up n,rfl,DS.new_good h0 h1,DS.new_bts n⟩
def layRow (a:TabA) (t:Tab) (AI:Option Addr) (nI cI:Nat):List Value:=[.int .i64 t.frame,.slice a.AP t.parts.length a.cP,.slice a.AW t.wins.length a.cW,.slice a.AC t.chans.length a.cC,.int .i64 t.trial,.slice AI nI cI]
theorem fits_make {t:Tab} {js:List Img} (hr:t.right=true) (hp:t.parts.length≤js.length) (hk:∀p:Nat,p < t.parts.length→checkL t p (js.getD p Img.none) 0=0):makeE (10*t.parts.length) t (js.take t.parts.length)=0:=by
 have hw:wrongL (10*t.parts.length) t=0:=by
  unfold wrongL
  rw [if_neg (by rw [hr];simp),if_neg (by omega)]
 have hl:(js.take t.parts.length).length=t.parts.length:=by rw [List.length_take];omega
 rw [makeE,if_neg (by rw [hw];simp),if_neg (by rw [hl];simp)]
 refine firstE_all _ 0 fun k hk2=>?_
 rw [hl] at hk2
 rw [Nat.zero_add,getD_take hk2]
 exact hk k hk2

theorem made_at {w0 w:World} {l:List Asn} {B:Asn} (h:St w0 w (B::l)) {js:List Img} {AI:Option Addr} {nI cI:Nat} {K:Nat→Option Addr×Nat} (hg:ImgsG w0 B js AI nI K) {a:TabA} {t:Tab} (ht:∀w' l',St w0 w' (B::l')→TabW w' a t) (hc:nI≤cI) (hr:t.right=true) (hp:t.parts.length≤nI) (h10:nI≤10) (hk:∀p:Nat,p < t.parts.length→checkL t p (js.getD p Img.none) 0=0) :
  Calls Tryz.prog 20 #[.agg (layRow a t AI nI cI).toArray] w fun e w'=>∃(ad:StAd) (d X:Nat),e=.returned (.tuple #[.pointer (some ⟨ad.S,0,none⟩),.pointer (some ⟨d,0,none⟩),.pointer (some ⟨X,0,none⟩)])∧∃(m:DS) (xs:List PP) (v:Value) (P:List (Nat×List Value)) (ys:List (RPA×RP)),
   St w0 w' (rstr X [.int .i64 t.frame,.slice a.AP t.parts.length a.cP,.slice a.AW t.wins.length a.cW,.slice a.AC t.chans.length a.cC,.int .i64 t.trial] v P ys::strA ad t d m xs::B::l)∧SInv m xs (madeR (js.take t.parts.length))∧xs.length=t.parts.length∧m.secs.length=10*t.parts.length∧ys.map (·.2)=(List.range t.parts.length).map (madeRP js)∧∀k (hk:k < ys.length),ys[k].1.K0=K k∧ys[k].1.K1=(none,0):=by
 have hP4:=(Tab.r hr).np
 have hIV:=hg w _ h
 have HJL:=Lib.hid hIV.len
 obtain ⟨b0,o0,hA0,_⟩:=hIV.at_ 0 (by have:=(Tab.r hr).np;omega)
 subst hA0
 have HMK:=Lib.hid (fits_make hr (by rw [hIV.len];exact hp) hk)
 have HCALM:=Lib.hid (calm_new (n:=10*t.parts.length) (by omega) (by omega))
 obtain ⟨Z,hZ⟩:∃Z,Z=w.heap.size:=⟨_,rfl⟩
 obtain ⟨w1,hw1⟩:∃w1,w1=w.alloc (.cells (layRow a t (some ⟨b0,o0,none⟩) nI cI).toArray 49):=⟨_,rfl⟩
 have h1:St w0 w1 (B::row Z 49 (layRow a t (some ⟨b0,o0,none⟩) nI cI)::l):=by
  have h3:=(h.new 49 (layRow a t (some ⟨b0,o0,none⟩) nI cI).toArray).swap
  rw [←hw1,←hZ] at h3
  exact h3
 have H1:=Lib.hid h1
 have HRT:=Lib.hid (fun (w':World) (hb:Below w1.heap.size w1 w')=>tab.rright_at ((ht w1 _ h1).over hb))
 rw [hr] at HRT
 have HI1:=Lib.hid (fun (w':World) (hb:Below w1.heap.size w1 w')=>hg w' _ (h1.below hb))
 have HCK:=Lib.hid (fun (w':World) (hb:Below w1.heap.size w1 w') (p:Nat) (hp':p < t.parts.length) (A:Option Addr) (c:Nat) (hcl:(js.getD p Img.none).code.length≤9223372036854775807)=>by
  have hh:=rcheck_at (A:=A) (c:=c) (ver:=0) ((ht w1 _ h1).over hb) (p:Int) hcl
  rw [hk p hp'] at hh
  exact hh)
 have HRI:=Lib.hid (fun (p:Nat) (hp':p < t.parts.length)=>checkL_right (hk p hp'))
 have HMAKE:=Lib.hid (fun (w':World) (d:Nat) (l':List Asn) (hst:St w0 w' (dsk d (DS.new (10*t.parts.length))::B::l'))=>make_at (n:=t.parts.length) (cI:=cI) hst (hg.take hp) (ht w' _ hst.drop) (by have:=fits_make hr (by rw [hIV.len];exact hp) hk;simpa [DS.new] using this) (calm_new (by omega) (by omega)) (fun j hj=>DS.new_now (by simpa [DS.new] using hj)))
 have HRM:=Lib.hid (fun (w':World) (l':List Asn) (hst:St w0 w' (B::l'))=>rmake_at (cI:=cI) hst (hg.take hp) (fun k hk2=>by rw [getD_take hk2];exact checkL_right (hk k hk2)) (by omega) t.frame t.trial a.AP a.AW a.AC t.parts.length a.cP t.wins.length a.cW t.chans.length a.cC)
 have HR:=Lib.hid (fun (w':World) (hb:Below w1.heap.size w1 w')=>(h1.pick 1 rfl).row.1.below hb (h1.pick 1 rfl).row.1.lt)
 have HW1:=Lib.hid hw1;have HZ:=Lib.hid hZ
 have HNP:=Lib.hid (show t.parts.length=t.parts.length from rfl)
 simp only [layRow,TabA.val,Img.val] at HRT HCK HMAKE HRM HR HW1 H1 ⊢
 obtain ⟨nP,hnP⟩:∃v,v=t.parts.length:=⟨_,rfl⟩
 have HNP:=Lib.hid hnP
 simp only [←hnP] at HRT HCK HMAKE HRM HR HW1 H1 HRI HMK HCALM hP4 hp ⊢
 have HP2:=Lib.hid (show 2≤nP by omega)
 generalize hfr:t.frame=fr at *
 generalize htr:t.trial=tr at *
 generalize hnW:t.wins.length=nW at *
 generalize hnC:t.chans.length=nC at *
 have rows:∀w':World,Below w1.heap.size w1 w'→w'.cell? ⟨Z,0,none⟩=some (.int .i64 fr)∧w'.cell? ⟨Z,1,none⟩=some (.slice a.AP nP a.cP)∧w'.cell? ⟨Z,2,none⟩=some (.slice a.AW nW a.cW)∧w'.cell? ⟨Z,3,none⟩=some (.slice a.AC nC a.cC)∧w'.cell? ⟨Z,4,none⟩=some (.int .i64 tr)∧w'.cell? ⟨Z,5,none⟩=some (.slice (some ⟨b0,o0,none⟩) nI cI)∧Z < w'.heap.size:=fun w' hb=>⟨(HR.out w' hb).cell 0,(HR.out w' hb).cell 1,(HR.out w' hb).cell 2,(HR.out w' hb).cell 3,(HR.out w' hb).cell 4,(HR.out w' hb).cell 5,(HR.out w' hb).lt⟩
 have HROWS:=Lib.hid rows
 clear rows hw1 hZ h1 hIV hg ht hk hr h hfr htr hnW hnC hnP
 obtain ⟨z0,z1,z2,z3,z4,z5,lZ⟩:=HROWS.out w1 (Below.refl _ _)
 go_enter Tryz.func20,Tryz.ntmps20
 go_upto_region 1 with fail
 rw [←HW1.out,←HZ.out]
 have k1:decide (nI < nP)=false:=by simp;omega
 have k2:decide ((10:Int) < (nI:Int))=false:=by simp;omega
 have k3:decide ((nI:Int) < (nP:Int))=false:=by simp;omega
 go_wp2_with (fail)
 refine (HRT.out w1 (Below.refl _ _)).mono ?_
 rintro e w2 ⟨rfl,hb2⟩
 have HB2:=Lib.hid hb2
 clear z0 z1 z2 z3 z4 z5 lZ
 clear hb2
 obtain ⟨z0,z1,z2,z3,z4,z5,lZ⟩:=HROWS.out w2 HB2.out
 go_wp2_with (fail)
 clear z0 z1 z2 z3 z4 z5 lZ k1 k2 k3
 go_loopw [35] (fun x wr=>∃p:Nat,p≤nP∧x=.int .i64 (p:Int)∧Below w1.heap.size w1 wr) (fun x _=>nP-(intOf x).toNat)
 case atStart=>exact ⟨0,by omega,rfl,HB2.out⟩
 case round =>
  obtain ⟨p,hp1,rfl,hbr⟩:=hrel
  have HBR:=Lib.hid hbr
  clear HB2 hbr
  by_cases hlt:p < nP
  ·obtain ⟨b,off,hA,hbl,c0,c1,c2,c3,c4,c5,c6,c7,hck,hsk⟩:=(HI1.out wr HBR.out).at_ p (by omega)
   generalize (K p).1=KA,(K p).2=Kc at *
   have HCP:=Lib.hid (HCK.out wr.drew HBR.out.drew p hlt KA Kc (by obtain ⟨_,_,_,_,_,_,_,h8⟩:=HRI.out p hlt;omega))
   obtain ⟨rfl,rfl⟩:b0=b∧o0=off:=by injection hA with e;injection e with e1 e2 _;exact ⟨e1,e2⟩
   clear hA
   generalize js.getD p Img.none=j at *
   obtain ⟨i0,hi0⟩:∃v,v=j.part:=⟨_,rfl⟩
   obtain ⟨i1,hi1⟩:∃v,v=j.version:=⟨_,rfl⟩
   obtain ⟨i2,hi2⟩:∃v,v=j.hard:=⟨_,rfl⟩
   obtain ⟨i3,hi3⟩:∃v,v=j.mem:=⟨_,rfl⟩
   obtain ⟨i4,hi4⟩:∃v,v=j.fuel:=⟨_,rfl⟩
   obtain ⟨i5,hi5⟩:∃v,v=j.sends:=⟨_,rfl⟩
   obtain ⟨i6,hi6⟩:∃v,v=j.receives:=⟨_,rfl⟩
   obtain ⟨i7,hi7⟩:∃v,v=j.code.length:=⟨_,rfl⟩
   simp only [←hi0,←hi1,←hi2,←hi3,←hi4,←hi5,←hi6,←hi7] at HCP c0 c1 c2 c3 c4 c5 c6 c7
   clear hi0 hi1 hi2 hi3 hi4 hi5 hi6 hi7 hck hsk
   have k0:(0:Int)≤(p:Int):=by omega
   have k1:(p:Int) < (nP:Int):=by omega
   have k2:(p:Int) < (nI:Int):=by omega
   have HIM:=Lib.hid (fun (w':World) (hb:Below wr.heap.size wr w')=>show w'.cell? ⟨b0,o0+p*8,none⟩=some (.int .i64 i0)∧w'.cell? ⟨b0,o0+p*8+1,none⟩=some (.int .i64 i1)∧w'.cell? ⟨b0,o0+p*8+2,none⟩=some (.int .i64 i2)∧w'.cell? ⟨b0,o0+p*8+3,none⟩=some (.int .i64 i3)∧w'.cell? ⟨b0,o0+p*8+4,none⟩=some (.int .i64 i4)∧w'.cell? ⟨b0,o0+p*8+5,none⟩=some (.int .i64 i5)∧w'.cell? ⟨b0,o0+p*8+6,none⟩=some (.int .i64 i6)∧w'.cell? ⟨b0,o0+p*8+7,none⟩=some (.slice KA i7 Kc)∧b0 < w'.heap.size from ⟨(hb.cell hbl).trans c0,(hb.cell hbl).trans c1,(hb.cell hbl).trans c2,(hb.cell hbl).trans c3,(hb.cell hbl).trans c4,(hb.cell hbl).trans c5,(hb.cell hbl).trans c6,(hb.cell hbl).trans c7,Nat.lt_of_lt_of_le hbl hb.size⟩)
   clear c0 c1 c2 c3 c4 c5 c6 c7 hbl
   go_upto_region 7 with fail
   refine held_start (fun w'=>(w'.cell? ⟨Z,0,none⟩=some (.int .i64 fr)∧w'.cell? ⟨Z,1,none⟩=some (.slice a.AP nP a.cP)∧w'.cell? ⟨Z,2,none⟩=some (.slice a.AW nW a.cW)∧w'.cell? ⟨Z,3,none⟩=some (.slice a.AC nC a.cC)∧w'.cell? ⟨Z,4,none⟩=some (.int .i64 tr)∧w'.cell? ⟨Z,5,none⟩=some (.slice (some ⟨b0,o0,none⟩) nI cI)∧Z < w'.heap.size)∧(w'.cell? ⟨b0,o0+p*8,none⟩=some (.int .i64 i0)∧w'.cell? ⟨b0,o0+p*8+1,none⟩=some (.int .i64 i1)∧w'.cell? ⟨b0,o0+p*8+2,none⟩=some (.int .i64 i2)∧w'.cell? ⟨b0,o0+p*8+3,none⟩=some (.int .i64 i3)∧w'.cell? ⟨b0,o0+p*8+4,none⟩=some (.int .i64 i4)∧w'.cell? ⟨b0,o0+p*8+5,none⟩=some (.int .i64 i5)∧w'.cell? ⟨b0,o0+p*8+6,none⟩=some (.int .i64 i6)∧w'.cell? ⟨b0,o0+p*8+7,none⟩=some (.slice KA i7 Kc)∧b0 < w'.heap.size)) (by kernel_rfl) (⟨HROWS.out wr.drew HBR.out.drew,HIM.out wr.drew (Below.refl wr.heap.size wr).drew⟩) (fun hHeld=>?_)
   (refine held_t 0 (h:=?_);(try simp only [xGs,xGz,xGo,Act.put,xSi,xSz,xSs]));(refine held_t 1 (h:=?_);(try simp only [xGs,xGz,xGo,Act.put,xSi,xSz,xSs]));(refine held_t 2 (h:=?_);(try simp only [xGs,xGz,xGo,Act.put,xSi,xSz,xSs]));(refine held_t 3 (h:=?_);(try simp only [xGs,xGz,xGo,Act.put,xSi,xSz,xSs]));(refine held_t 4 (h:=?_);(try simp only [xGs,xGz,xGo,Act.put,xSi,xSz,xSs]));(refine held_t 5 (h:=?_);(try simp only [xGs,xGz,xGo,Act.put,xSi,xSz,xSs]));(refine held_t 6 (h:=?_);(try simp only [xGs,xGz,xGo,Act.put,xSi,xSz,xSs]));(refine held_t 7 (h:=?_);(try simp only [xGs,xGz,xGo,Act.put,xSi,xSz,xSs]))
   (refine held_one 8 (by kernel_rfl) (by rfl) ?_;(try simp only [xGs,xGz,xGo]);go_simp)
   refine HCP.out.mono ?_
   rintro e w3 ⟨rfl,hb⟩
   have HB3:=Lib.hid (HBR.out.drew.trans (hb.mono HBR.out.drew.size))
   have HB3b:=Lib.hid ((Below.refl wr.heap.size wr).drew.trans hb)
   clear hb
   dsimp only
   (refine and_hand (⟨HROWS.out w3 HB3.out,HIM.out w3 HB3b.out⟩) (fun hHeld=>?_);(try simp only [xGs,xGz,xGo,Act.put,xSi,xSz,xSs]))
   (refine held_t 9 (h:=?_);(try simp only [xGs,xGz,xGo,Act.put,xSi,xSz,xSs]))
   refine held_end (by kernel_rfl) ?_
   clear hHeld
   go_wp2_with (fail)
   go_roundw
   case rel=>exact ⟨p+1,by omega,by go_num,HB3.out⟩
   case measure=>simp [intOf];omega
  ·have k1:¬(p:Int) < (nP:Int):=by omega
   obtain ⟨z0,z1,z2,z3,z4,z5,lZ⟩:=HROWS.out wr HBR.out
   go_wp2_with (fail)
   refine (placeSays.rsectors (nP:Int) wr).mono ?_
   rintro e w3 ⟨⟨r,rfl,hr⟩,rfl⟩
   obtain rfl:r=10*(nP:Int):=by omega
   clear hr
   go_wp2_with (fail)
   refine (dsk_new (H1.out.below HBR.out) (10*(nP:Int))).mono ?_
   rintro e w4 ⟨d,rfl,hst⟩
   rw [show (10*(nP:Int))=((10*nP:Nat):Int) by omega,clampN_in (by omega) (by omega)] at hst
   have HST:=Lib.hid hst
   have hz:=(hst.pick 2 rfl).row.1
   clear z0 z1 z2 z3 z4 z5 lZ hst
   have HZ4:=Lib.hid hz.drew
   have z0:w4.drew.cell? ⟨Z,0,none⟩=some (.int .i64 fr):=HZ4.out.cell 0
   have z1:w4.drew.cell? ⟨Z,1,none⟩=some (.slice a.AP nP a.cP):=HZ4.out.cell 1
   have z2:w4.drew.cell? ⟨Z,2,none⟩=some (.slice a.AW nW a.cW):=HZ4.out.cell 2
   have z3:w4.drew.cell? ⟨Z,3,none⟩=some (.slice a.AC nC a.cC):=HZ4.out.cell 3
   have z4:w4.drew.cell? ⟨Z,4,none⟩=some (.int .i64 tr):=HZ4.out.cell 4
   have z5:w4.drew.cell? ⟨Z,5,none⟩=some (.slice (some ⟨b0,o0,none⟩) nI cI):=HZ4.out.cell 5
   have lZ:Z < w4.drew.heap.size:=HZ4.out.lt
   have hcp:nP≤cI:=by omega
   have hc0:¬cI=0:=by omega
   have HMK2:=Lib.hid (HMAKE.out w4.drew d _ HST.out.drew)
   clear hz
   go_upto_region 11 with fail
   refine segs_start (by kernel_rfl) ?_
   (refine segs_take [3,4,5] (by kernel_rfl) (fun _ _ _ _ _ h=>h) ?_;simp only [pick,xGs,xGz,xGo];(iterate 3 still_step);refine wpStill_nil ?_)
   (try simp only [xGs,xGz,xGo,Act.put,xSi,xSz,xSs])
   (refine segs_pure 6 (.slice (some ⟨b0,o0,none⟩) nP cI) (by kernel_rfl) (fun _ _ _ _ _ h=>h) (by rfl) (by intro w2;(try simp only [xGs,xGz,xGo]);go_simp) ?_;(try simp only [xGs,xGz,xGo,Act.put,xSi,xSz,xSs]))
   (refine segs_take [0,1,2] (by kernel_rfl) (fun _ _ _ _ _ h=>h) ?_;simp only [pick,xGs,xGz,xGo];(iterate 3 still_step);refine wpStill_nil ?_)
   (try simp only [xGs,xGz,xGo,Act.put,xSi,xSz,xSs])
   (refine segs_one 7 (by kernel_rfl) (by rfl) ?_;(try simp only [xGs,xGz,xGo]);go_simp)
   refine HMK2.out.mono ?_
   rintro e w5 ⟨ad,rfl,m,xs,h5,hsi,hxl,hml⟩
   have H5:=Lib.hid h5;have HSI:=Lib.hid hsi;have HXL:=Lib.hid hxl
   have HML:=Lib.hid (show m.secs.length=10*nP by rw [hml];simp [DS.new])
   clear h5 hsi hxl hml z0 z1 z2 z3 z4 z5 lZ
   dsimp only
   (try simp only [xGs,xGz,xGo,Act.put,xSi,xSz,xSs])
   (refine segs_take [8] (by kernel_rfl) (fun _ _ _ _ _ h=>h) ?_;simp only [pick,xGs,xGz,xGo];(iterate 1 still_step);refine wpStill_nil ?_)
   (try simp only [xGs,xGz,xGo,Act.put,xSi,xSz,xSs])
   (refine segs_pure 9 (.pointer (some ⟨ad.S,0,none⟩)) (by kernel_rfl) (fun _ _ _ _ _ h=>h) (by rfl) (by intro w2;(try simp only [xGs,xGz,xGo]);go_simp) ?_;(try simp only [xGs,xGz,xGo,Act.put,xSi,xSz,xSs]))
   (refine segs_pure 10 (.int .i64 0) (by kernel_rfl) (fun _ _ _ _ _ h=>h) (by rfl) (by intro w2;(try simp only [xGs,xGz,xGo]);go_simp) ?_;(try simp only [xGs,xGz,xGo,Act.put,xSi,xSz,xSs]))
   (refine segs_take [11,12] (by kernel_rfl) (fun _ _ _ _ _ h=>h) ?_;simp only [pick,xGs,xGz,xGo];(iterate 2 still_step);refine wpStill_nil ?_)
   refine segs_end (by kernel_rfl) ?_
   have hz:=(H5.out.pick 2 rfl).row.1
   have HZ6:=Lib.hid hz.drew
   clear hz
   have z0:w5.drew.cell? ⟨Z,0,none⟩=some (.int .i64 fr):=HZ6.out.cell 0
   have z1:w5.drew.cell? ⟨Z,1,none⟩=some (.slice a.AP nP a.cP):=HZ6.out.cell 1
   have z2:w5.drew.cell? ⟨Z,2,none⟩=some (.slice a.AW nW a.cW):=HZ6.out.cell 2
   have z3:w5.drew.cell? ⟨Z,3,none⟩=some (.slice a.AC nC a.cC):=HZ6.out.cell 3
   have z4:w5.drew.cell? ⟨Z,4,none⟩=some (.int .i64 tr):=HZ6.out.cell 4
   have z5:w5.drew.cell? ⟨Z,5,none⟩=some (.slice (some ⟨b0,o0,none⟩) nI cI):=HZ6.out.cell 5
   have lZ:Z < w5.drew.heap.size:=HZ6.out.lt
   have HMR:=Lib.hid (HRM.out w5.drew _ (H5.out.drew.pick 1 rfl))
   go_upto_region 14 with fail
   refine segs_start (by kernel_rfl) ?_
   (refine segs_take [4,5,6] (by kernel_rfl) (fun _ _ _ _ _ h=>h) ?_;simp only [pick,xGs,xGz,xGo];(iterate 3 still_step);refine wpStill_nil ?_)
   (try simp only [xGs,xGz,xGo,Act.put,xSi,xSz,xSs])
   (refine segs_pure 7 (.slice (some ⟨b0,o0,none⟩) nP cI) (by kernel_rfl) (fun _ _ _ _ _ h=>h) (by rfl) (by intro w2;(try simp only [xGs,xGz,xGo]);go_simp) ?_;(try simp only [xGs,xGz,xGo,Act.put,xSi,xSz,xSs]))
   (refine segs_take [0,1,2,3] (by kernel_rfl) (fun _ _ _ _ _ h=>h) ?_;simp only [pick,xGs,xGz,xGo];(iterate 4 still_step);refine wpStill_nil ?_)
   (try simp only [xGs,xGz,xGo,Act.put,xSi,xSz,xSs])
   (refine segs_one 8 (by kernel_rfl) (by rfl) ?_;(try simp only [xGs,xGz,xGo]);go_simp)
   refine HMR.out.mono ?_
   rintro e w7 ⟨X,rfl,v,P,ys,h7,hys,hK⟩
   have H7:=Lib.hid h7;have HYS:=Lib.hid hys;have HKK:=Lib.hid hK
   clear h7 hys hK z0 z1 z2 z3 z4 z5 lZ
   dsimp only
   (try simp only [xGs,xGz,xGo,Act.put,xSi,xSz,xSs])
   (refine segs_take [9,10,11] (by kernel_rfl) (fun _ _ _ _ _ h=>h) ?_;simp only [pick,xGs,xGz,xGo];(iterate 3 still_step);refine wpStill_nil ?_)
   refine segs_end (by kernel_rfl) ?_
   go_wp2_with (fail)
   go_ret3
   refine ⟨ad,d,X,rfl,m,xs,v,P,ys,((((H7.out.pick 3 rfl).drop).pick 2 rfl).swap),HSI.out,HXL.out,HML.out,?_,HKK.out⟩
   rw [HYS.out]
   refine List.map_congr_left fun k hk=>?_
   simp only [madeRP,getD_take (List.mem_range.1 hk)]
end store
namespace store


open Go.RowKit Go.Deep base obj mem sep plan disk record commit stage image tab compat chain crc
section
variable {w0 w : World} {l : List Asn}
def sSave (m:DS) (xs:List PP) (p:Nat) (r:Rec):Int×DS×List PP :=
 ((saveM m p (xs.getD p default).log r).1,(saveM m p (xs.getD p default).log r).2.1,xs.set p ⟨(saveM m p (xs.getD p default).log r).2.2,(xs.getD p default).s0,(xs.getD p default).s1⟩)
theorem ssave_str {ad:StAd} {t:Tab} {d:Nat} {m:DS} {xs:List PP} (h:St w0 w (strA ad t d m xs::l)) (ok:SOk t m xs) {p:Nat} (hp:p < xs.length) (r:Rec) :
  Calls Tryz.prog 46 #[.pointer (some ⟨(ad.al.getD p default).L,0,none⟩),r.val] w fun e w'=>e=.returned (.int .i64 (sSave m xs p r).1)∧St w0 w' (strA ad t d (sSave m xs p r).2.1 (sSave m xs p r).2.2::l) :=
 (save_at (lg_open h hp) (ok.at_ hp).held (ok.at_ hp).seq (by have:=ok.few;omega) r).mono fun e w' ⟨h1,h2⟩=>⟨h1,lg_shut h2 hp⟩
theorem flush_waits {m:DS} (h:m.flush.1=0):m.flush.2.waits=[]:=by
 unfold DS.flush at h ⊢
 split
 ·rfl
 ·rename_i hg;rw [if_neg hg] at h;simp at h
theorem wf_waits0 {m:DS} {i:Int} {bs:List Int} (h:(wf m i bs).1=0):(wf m i bs).2.waits=[]:=by
 unfold wf at h ⊢
 split
 ·rename_i h0;rw [if_pos h0] at h;exact flush_waits h
 ·rename_i h0;rw [if_neg h0] at h;exact absurd h h0
theorem next_ok {p:Int} {now r:Rec} (h:(nextRec p now r).right=true):(r.active=0∨r.active=1)∧(r.confirmed=0∨r.confirmed=1)∧0≤now.seq+1∧0≤r.left∧r.left≤7:=by
 have:=refRec.rec_in h
 simp only [nextRec] at this
 omega
theorem ssave_ok {t:Tab} {m:DS} {xs:List PP} (ok:SOk t m xs) {p:Nat} (hp:p < xs.length) {r:Rec} (h:(sSave m xs p r).1=0):SOk t (sSave m xs p r).2.1 (sSave m xs p r).2.2:=by
 have okx:=ok.at_ hp
 simp only [sSave] at h ⊢
 unfold saveM at h ⊢
 split at h
 ·simp at h
 ·split at h
  ·rename_i h1 h2
   split at h
   ·rename_i h3
    rw [if_neg h1,if_pos h2,if_pos h3]
    dsimp only
    refine ⟨ok.right,by rw [List.length_set];exact ok.len,ok.bts.wf _ (Rec.bytes_byt _),ok.good.wf _ _,by rw [List.length_set,wf_slen];exact ok.room,by rw [wf_waits0 h3];simp,fun x hx=>?_⟩
    rcases List.mem_or_eq_of_mem_set hx with hx|rfl
    ·exact ok.ok x hx
    ·obtain ⟨a1,a2,a3,a4⟩:=next_ok h2
     exact ⟨a1,a2,by have:=okx.held;dsimp only;omega,a3,a4,okx.r0,okx.r1⟩
   ·rename_i h3
    exact absurd h h3
  ·simp at h
def Rec.conf (r:Rec):Rec:=⟨r.part,r.seq,r.active,r.active,0,0⟩
def sImage (t:Tab) (m:DS) (xs:List PP) (q:Int):Img×Int:=if q < 0∨(xs.length:Int)≤q then (Img.none,3) else holdL t m q.toNat (xs.getD q.toNat default) (xs.getD q.toNat default).log.now.active
def bootRec (r:Rec):Rec:=if r.left=0 then ⟨r.part,r.seq,r.confirmed,r.confirmed,r.left,2 ^ r.active.toNat⟩ else ⟨r.part,r.seq,r.active,r.confirmed,r.left-1,r.bad⟩
def sBoot (t:Tab) (m:DS) (xs:List PP) (q:Int):(Img×Int)×DS×List PP :=
 if q < 0∨(xs.length:Int)≤q then ((Img.none,3),m,xs)
 else if (xs.getD q.toNat default).trial=false then (holdL t m q.toNat (xs.getD q.toNat default) (xs.getD q.toNat default).log.now.active,m,xs)
 else if (sSave m xs q.toNat (bootRec (xs.getD q.toNat default).log.now)).1≠0 then ((Img.none,(sSave m xs q.toNat (bootRec (xs.getD q.toNat default).log.now)).1),(sSave m xs q.toNat (bootRec (xs.getD q.toNat default).log.now)).2)
 else (holdL t (sSave m xs q.toNat (bootRec (xs.getD q.toNat default).log.now)).2.1 q.toNat ((sSave m xs q.toNat (bootRec (xs.getD q.toNat default).log.now)).2.2.getD q.toNat default) (bootRec (xs.getD q.toNat default).log.now).active,(sSave m xs q.toNat (bootRec (xs.getD q.toNat default).log.now)).2)
theorem image_str {ad:StAd} {t:Tab} {d:Nat} {m:DS} {xs:List PP} (h:St w0 w (strA ad t d m xs::l)) (ok:SOk t m xs) (q:Int) :
  Calls Tryz.prog 11 #[.pointer (some ⟨ad.S,0,none⟩),.int .i64 q] w fun e w'=>∃(i:Img) (A:Option Addr) (c:Nat) (er:Int),e=.returned (.tuple #[i.val A c,.int .i64 er])∧(i,er)=sImage t m xs q∧St w0 w' (own 5 1 (.slice A i.code.length c) i.code.length (u8s i.code)::strA ad t d m xs::l):=by
 obtain ⟨R,hR⟩:∃R,R=w.heap.size:=⟨_,rfl⟩
 obtain ⟨w1,hw1⟩:∃w1,w1=w.alloc (.cells #[.int .i64 0,.int .i64 0,.int .i64 0,.int .i64 0,.int .i64 0,.int .i64 0,.int .i64 0,.slice none 0 0] 26):=⟨_,rfl⟩
 have H1:=Lib.hid (show St w0 w1 (row R 26 [.int .i64 0,.int .i64 0,.int .i64 0,.int .i64 0,.int .i64 0,.int .i64 0,.int .i64 0,.slice none 0 0]::strA ad t d m xs::l) by
  have h:=h.new 26 #[.int .i64 0,.int .i64 0,.int .i64 0,.int .i64 0,.int .i64 0,.int .i64 0,.int .i64 0,.slice none 0 0]
  rw [←hR,←hw1] at h
  exact h)
 have HW1:=Lib.hid hw1;have HR:=Lib.hid hR
 obtain ⟨s1,s2,s3⟩:=str_row H1.out.swap
 clear hw1 h hR
 by_cases hq:q < 0∨(xs.length:Int)≤q
 ·have HP:=Lib.hid (part_no s1 q hq)
  have HD:=Lib.hid (show sImage t m xs q=(Img.none,3) from if_pos hq)
  clear s1 s2 s3 hq ok
  go_enter Tryz.func11,Tryz.ntmps11
  go_upto_region 1 with fail
  rw [←HW1.out,←HR.out]
  go_wp2_with (fail)
  refine HP.out.mono ?_;rintro e w' ⟨rfl,rfl⟩
  go_wp2_with (refine wpList_putR rfl 26 (.tmp 4) (.tmp 16) rfl R 0 #[.int .i64 0,.int .i64 0,.int .i64 0,.int .i64 0,.int .i64 0,.int .i64 0,.int .i64 0,.slice none 0 0] rfl rfl H1.out.row.1 (by kernel_rfl) (by simp) (by simp [Value.oneCell']) [.int .i64 0,.int .i64 0,.int .i64 0,.int .i64 0,.int .i64 0,.int .i64 0,.int .i64 0,.slice none 0 0] (by simp) ?_)
  have h:=H1.out.setRow [.int .i64 0,.int .i64 0,.int .i64 0,.int .i64 0,.int .i64 0,.int .i64 0,.int .i64 0,.slice none 0 0]
  refine bodyPost_ret (res_cell_slot rfl _ _ R _ _ _ _ _ rfl rfl h.row.1 Tryz.underlying26 rfl (by kernel_rfl)) rfl ?_
  exact ⟨Img.none,none,0,_,rfl,HD.out.symm,h.drop.addOwn (Below.refl _ _) (nil_own _ _)⟩
 ·obtain ⟨p,rfl⟩:∃p:Nat,q=p:=⟨q.toNat,by omega⟩
  have hp:p < xs.length:=by omega
  have okx:=ok.at_ hp
  have HD:=Lib.hid (show sImage t m xs p=holdL t m p (xs.getD p default) (xs.getD p default).log.now.active by rw [sImage,if_neg hq,Int.toNat_natCast])
  have HP:=Lib.hid (part_at s1 s2 s3 p hp)
  have HL:=Lib.hid (latest_at (lg_open H1.out.swap hp))
  have HH:=Lib.hid (fun (w':World) (hb:Below w1.heap.size w1 w')=>holds_str ((H1.out.below hb).swap) ok hp okx.act)
  have ho:=str_own H1.out.swap hp
  have o0:w1.cell? ⟨(ad.al.getD p default).O,0,none⟩=some (.pointer (some ⟨(ad.al.getD p default).L,0,none⟩)):=ho.cell 0
  have o1:=ho.lt
  obtain ⟨hl,hhl⟩:∃v,v=holdL t m p (xs.getD p default) (xs.getD p default).log.now.active:=⟨_,rfl⟩
  rw [←hhl] at HD HH
  have r2:=rfld2 (xs.getD p default).log.now
  generalize (xs.getD p default).log.now=r at *
  generalize r.val=rv at *
  generalize r.active=ra at *
  generalize (ad.al.getD p default).O=O,(ad.al.getD p default).L=L at *
  clear s1 s2 s3 hq ho ok okx hhl
  go_enter Tryz.func11,Tryz.ntmps11
  go_upto_region 1 with fail
  rw [←HW1.out,←HR.out]
  go_wp2_with (fail)
  refine HP.out.mono ?_;rintro e w' ⟨rfl,rfl⟩
  go_wp2_with (fail)
  refine HL.out.mono ?_;rintro e w2 ⟨rfl,hb⟩
  have HB2:=Lib.hid hb
  clear hb o0 o1
  go_wp2_with (fail)
  refine (HH.out w2 HB2.out).mono ?_
  rintro e w9 ⟨j,A3,c3,e9,rfl,hj,hst⟩
  have H9:=Lib.hid (hst.pick 2 rfl)
  have HJ9:=Lib.hid hj
  clear hst hj
  simp only [Img.val]
  go_wp2_with (refine wpList_putR rfl 26 (.tmp 4) (.tmp 27) rfl R 0 #[.int .i64 j.part,.int .i64 j.version,.int .i64 j.hard,.int .i64 j.mem,.int .i64 j.fuel,.int .i64 j.sends,.int .i64 j.receives,.slice A3 j.code.length c3] rfl rfl H9.out.row.1 (by kernel_rfl) (by simp) (by simp [Value.oneCell']) [.int .i64 j.part,.int .i64 j.version,.int .i64 j.hard,.int .i64 j.mem,.int .i64 j.fuel,.int .i64 j.sends,.int .i64 j.receives,.slice A3 j.code.length c3] (by simp) ?_)
  have h:=H9.out.setRow [.int .i64 j.part,.int .i64 j.version,.int .i64 j.hard,.int .i64 j.mem,.int .i64 j.fuel,.int .i64 j.sends,.int .i64 j.receives,.slice A3 j.code.length c3]
  refine bodyPost_ret (res_cell_slot rfl _ _ R _ _ _ _ _ rfl rfl h.row.1 Tryz.underlying26 rfl (by kernel_rfl)) rfl ?_
  exact ⟨j,A3,c3,e9,rfl,by rw [HD.out];exact HJ9.out,h.drop⟩
end
end store
end Go.Proofs.YtdldkkoplgkloaaGreat
