/-
  PROVED HERE: longeronlaw14.StoreOpens is true whatever the input: a blank disk opens as no store; a disk of which a sector of what runs is turned opens as none.
  CONDITIONS: none beyond the row's own.
-/
import Derived.Test.YtdldkkoplgkloaaGreatPq19
import Derived.Test.YtdldkkoplgkloaaGreatPq38
import Derived.Test.YtdldkkoplgkloaaGreatPq40
namespace Go.Proofs.YtdldkkoplgkloaaGreat
set_option linter.unusedVariables false
set_option linter.unusedSimpArgs false
namespace storeOpens


open Go.RowKit Go.ChangeShapes Go.WideShapes Go.ChangeAt Go.Deep Go.Joins base obj mem sep plan disk record commit stage image tab compat chain crc store
theorem str_dsk {w0 w:World} {l:List Asn} {ad:StAd} {t:Tab} {d:Nat} {m:DS} {xs:List PP} (h:St w0 w (strA ad t d m xs::l)):St w0 w (dsk d m::l):=by
 have h1:=(str_un h).1.pick 3 rfl
 exact ((((h1.pick 1 rfl).drop.pick 1 rfl).drop.pick 1 rfl).drop.pick 1 rfl).drop
theorem xor_one {x:Int} (h:0≤x∧x≤255):(0≤Go.bits .xor .u8 x 1∧Go.bits .xor .u8 x 1≤255)∧Go.bits .xor .u8 x 1≠x:=by
 obtain ⟨n,rfl⟩:∃n:Nat,x=n:=⟨x.toNat,by omega⟩
 have e:Go.bits .xor .u8 (n:Int) 1=((n ^^^ 1:Nat):Int):=xor8 n 1 (by omega) (by decide)
 have hl:n ^^^ 1 < 2 ^ 8:=Nat.xor_lt_two_pow (by omega) (by decide)
 rw [e]
 refine ⟨by omega,fun h=>?_⟩
 have h2:n ^^^ 1=n:=by omega
 have h3:=congrArg (fun a=>n ^^^ a) h2
 simp only [←Nat.xor_assoc,Nat.xor_self,Nat.zero_xor] at h3
 exact absurd h3 (by decide)
theorem blank_open {w0 w:World} {l:List Asn} {d:Nat} (h:St w0 w (dsk d (DS.new 40)::l)) {a:TabA} {t:Tab} (ht:TabW w a t) (hr:t.right=true) :
  Calls Tryz.prog 25 #[.pointer (some ⟨d,0,none⟩),a.val t] w fun e w'=>e=.returned (.tuple #[.pointer none,.int .i64 5])∧St w0 w' l:=by
 have hc:=calm_new (n:=40) (by omega) (by omega)
 have hn:=(Tab.r hr).np
 have hl:(DS.new 40).secs.length=40:=by simp [DS.new]
 have hno:¬recsOk (DS.new 40) t.parts.length:=fun h=>h 0 (by omega) (blank_none (p:=0) (by omega))
 refine (open_str h ht rfl hr (by rw [hl];omega) hc.up.1 (by rw [hc.waits];simp) hc.bts hc.good).mono fun e w' hE=>?_
 rcases hE with ⟨ad,_,h2,_⟩|⟨e1,_,e3⟩|⟨c,_,h2,_⟩
 ·exact absurd h2 hno
 ·exact ⟨e1,e3.drop⟩
 ·exact absurd h2 hno
set_option maxRecDepth 100000 in
set_option maxHeartbeats 32000000 in
theorem walk (w:World) (a:TabA) (t:Tab) (AI:Option Addr) (nI cI:Nat) (js:List Img) (K:Nat→Option Addr×Nat) (hin:LayIn w a t AI nI cI js K) (part:Int) (hb:(Lit.int .u8 part).wf=true) (at_:Int) (hk:(Lit.int .u8 at_).wf=true) :
  Calls Tryz.prog 5 #[.agg #[.int .i64 t.frame,.slice a.AP t.parts.length a.cP,.slice a.AW t.wins.length a.cW,.slice a.AC t.chans.length a.cC,.int .i64 t.trial,.slice AI nI cI],.int .u8 part,.int .u8 at_] w fun e w'=>e=.returned (.bool true)∧Below w.heap.size w w':=by
 obtain ⟨Z,hZ⟩:∃Z,Z=w.heap.size:=⟨_,rfl⟩
 obtain ⟨w1,hw1⟩:∃w1,w1=w.alloc (.cells #[.int .i64 t.frame,.slice a.AP t.parts.length a.cP,.slice a.AW t.wins.length a.cW,.slice a.AC t.chans.length a.cC,.int .i64 t.trial,.slice AI nI cI] 49):=⟨_,rfl⟩
 have h1:St w w1 [row Z 49 [.int .i64 t.frame,.slice a.AP t.parts.length a.cP,.slice a.AW t.wins.length a.cW,.slice a.AC t.chans.length a.cC,.int .i64 t.trial,.slice AI nI cI]]:=by
  have h3:=(St.nil w).new 49 #[.int .i64 t.frame,.slice a.AP t.parts.length a.cP,.slice a.AW t.wins.length a.cW,.slice a.AC t.chans.length a.cC,.int .i64 t.trial,.slice AI nI cI]
  rw [←hw1,←hZ] at h3
  exact h3
 have H1:=Lib.hid h1
 have HB1:=Lib.hid h1.bel
 have HIN:=Lib.hid (fun (w':World) (hb:Below w.heap.size w w')=>hin.over hb)
 have HFA:=Lib.hid (fun (w':World) (hb:Below w.heap.size w w')=>fits_at (hin.over hb))
 have HZ:=Lib.hid hZ;have HW1:=Lib.hid hw1;have HBT:=Lib.hid hb;have HKP:=Lib.hid hk
 simp only [layRow] at HFA
 clear h1 hw1 hZ hin hb hk
 go_enter Tryz.func5,Tryz.ntmps5
 go_upto_region 1 with fail
 rw [←HW1.out,←HZ.out]
 go_wp2_with (fail)
 refine (wakes_at w1).mono ?_
 rintro e w2 ⟨rfl,hb⟩
 have HB2:=Lib.hid hb
 have HW2:=Lib.hid (HB1.out.trans (hb.mono HB1.out.size))
 have hz:=(H1.out.below hb).row.1
 have z0:w2.cell? ⟨Z,0,none⟩=some (.int .i64 t.frame):=hz.cell 0
 have z1:w2.cell? ⟨Z,1,none⟩=some (.slice a.AP t.parts.length a.cP):=hz.cell 1
 have z2:w2.cell? ⟨Z,2,none⟩=some (.slice a.AW t.wins.length a.cW):=hz.cell 2
 have z3:w2.cell? ⟨Z,3,none⟩=some (.slice a.AC t.chans.length a.cC):=hz.cell 3
 have z4:w2.cell? ⟨Z,4,none⟩=some (.int .i64 t.trial):=hz.cell 4
 have z5:w2.cell? ⟨Z,5,none⟩=some (.slice AI nI cI):=hz.cell 5
 have lZ:=hz.lt
 clear hb hz
 go_wp2_with (fail)
 refine (HFA.out w2 HW2.out).mono ?_
 rintro e w3 ⟨⟨b,rfl,hF⟩,hb⟩
 have HB3:=Lib.hid (HB2.out.trans (hb.mono HB2.out.size))
 have HW3:=Lib.hid (HW2.out.trans (hb.mono HW2.out.size))
 clear z0 z1 z2 z3 z4 z5 lZ hb
 cases b with
 | false =>
   clear hF
   go_wp2_with (fail)
   go_ret
   exact ⟨rfl,HW3.out⟩
 | true =>
   have F:=hF rfl
   have HF:=Lib.hid F
   have T:=Tab.r F.right
   have hnp:=T.np;have htr:=T.tr
   have hen:=F.enough
   have HNP:=Lib.hid hnp;have HTR:=Lib.hid htr;have HEN:=Lib.hid hen
   have hst:=H1.out.below HB3.out
   have hz:=hst.row.1
   have z0:w3.cell? ⟨Z,0,none⟩=some (.int .i64 t.frame):=hz.cell 0
   have z1:w3.cell? ⟨Z,1,none⟩=some (.slice a.AP t.parts.length a.cP):=hz.cell 1
   have z2:w3.cell? ⟨Z,2,none⟩=some (.slice a.AW t.wins.length a.cW):=hz.cell 2
   have z3:w3.cell? ⟨Z,3,none⟩=some (.slice a.AC t.chans.length a.cC):=hz.cell 3
   have z4:w3.cell? ⟨Z,4,none⟩=some (.int .i64 t.trial):=hz.cell 4
   have z5:w3.cell? ⟨Z,5,none⟩=some (.slice AI nI cI):=hz.cell 5
   have lZ:=hz.lt
   clear hz z0 z1 z2 z3 z4 z5 lZ
   have HST:=Lib.hid hst
   have hrow:∀w':World,Below w1.heap.size w1 w'→w'.cell? ⟨Z,0,none⟩=some (.int .i64 t.frame)∧w'.cell? ⟨Z,1,none⟩=some (.slice a.AP t.parts.length a.cP)∧w'.cell? ⟨Z,2,none⟩=some (.slice a.AW t.wins.length a.cW)∧w'.cell? ⟨Z,3,none⟩=some (.slice a.AC t.chans.length a.cC)∧w'.cell? ⟨Z,4,none⟩=some (.int .i64 t.trial)∧w'.cell? ⟨Z,5,none⟩=some (.slice AI nI cI)∧Z < w'.heap.size:=fun w' hb=>by
    have h:=(H1.out.below hb).row.1
    exact ⟨h.cell 0,h.cell 1,h.cell 2,h.cell 3,h.cell 4,h.cell 5,h.lt⟩
   have HROW:=Lib.hid hrow
   have HDN:=Lib.hid (dsk_new hst.drew 40)
   rw [show (40:Int)=((40:Nat):Int) from rfl,clampN_in (by omega) (by omega)] at HDN
   have HBO:=Lib.hid (fun (w':World) (d:Nat) (h:St w w' (dsk d (DS.new 40)::[row Z 49 [.int .i64 t.frame,.slice a.AP t.parts.length a.cP,.slice a.AW t.wins.length a.cW,.slice a.AC t.chans.length a.cC,.int .i64 t.trial,.slice AI nI cI]]))=>blank_open (a:=a) (t:=t) h ((HIN.out w' h.bel).tab) HF.out.right)
   simp only [TabA.val] at HBO
   clear hF F T hst hrow hnp htr
   go_upto_region 5 with fail
   refine held_start (fun w'=>w'.cell? ⟨Z,0,none⟩=some (.int .i64 t.frame)∧w'.cell? ⟨Z,1,none⟩=some (.slice a.AP t.parts.length a.cP)∧w'.cell? ⟨Z,2,none⟩=some (.slice a.AW t.wins.length a.cW)∧w'.cell? ⟨Z,3,none⟩=some (.slice a.AC t.chans.length a.cC)∧w'.cell? ⟨Z,4,none⟩=some (.int .i64 t.trial)∧w'.cell? ⟨Z,5,none⟩=some (.slice AI nI cI)∧Z < w'.heap.size) (by kernel_rfl) (HROW.out w3.drew (HB3.out.drew)) (fun hHeld=>?_)
   (refine held_t 1 (h:=?_);(try simp only [xGs,xGz,xGo,Act.put,xSi,xSz,xSs]));(refine held_t 2 (h:=?_);(try simp only [xGs,xGz,xGo,Act.put,xSi,xSz,xSs]))
   (refine held_one 0 (by kernel_rfl) (by rfl) ?_;(try simp only [xGs,xGz,xGo]);go_simp)
   refine HDN.out.mono ?_
   rintro e w4 ⟨g,rfl,h4⟩
   have H4:=Lib.hid h4
   have hz:=(h4.pick 1 rfl).row.1
   have HC4:=Lib.hid (show w4.cell? ⟨Z,0,none⟩=some (.int .i64 t.frame)∧w4.cell? ⟨Z,1,none⟩=some (.slice a.AP t.parts.length a.cP)∧w4.cell? ⟨Z,2,none⟩=some (.slice a.AW t.wins.length a.cW)∧w4.cell? ⟨Z,3,none⟩=some (.slice a.AC t.chans.length a.cC)∧w4.cell? ⟨Z,4,none⟩=some (.int .i64 t.trial)∧w4.cell? ⟨Z,5,none⟩=some (.slice AI nI cI)∧Z < w4.heap.size from ⟨hz.cell 0,hz.cell 1,hz.cell 2,hz.cell 3,hz.cell 4,hz.cell 5,hz.lt⟩)
   clear h4 hz hHeld
   dsimp only
   (refine and_hand (HC4.out) (fun hHeld=>?_);(try simp only [xGs,xGz,xGo,Act.put,xSi,xSz,xSs]))
   (refine held_one 3 (by kernel_rfl) (by rfl) ?_;(try simp only [xGs,xGz,xGo]);go_simp)
   refine (HBO.out w4 g H4.out).mono ?_
   rintro e w5 ⟨rfl,h5⟩
   have H5:=Lib.hid h5
   have hz:=h5.row.1
   have HC5:=Lib.hid (show w5.cell? ⟨Z,0,none⟩=some (.int .i64 t.frame)∧w5.cell? ⟨Z,1,none⟩=some (.slice a.AP t.parts.length a.cP)∧w5.cell? ⟨Z,2,none⟩=some (.slice a.AW t.wins.length a.cW)∧w5.cell? ⟨Z,3,none⟩=some (.slice a.AC t.chans.length a.cC)∧w5.cell? ⟨Z,4,none⟩=some (.int .i64 t.trial)∧w5.cell? ⟨Z,5,none⟩=some (.slice AI nI cI)∧Z < w5.heap.size from ⟨hz.cell 0,hz.cell 1,hz.cell 2,hz.cell 3,hz.cell 4,hz.cell 5,hz.lt⟩)
   clear h5 hz hHeld
   dsimp only
   (refine and_hand (HC5.out) (fun hHeld=>?_);(try simp only [xGs,xGz,xGo,Act.put,xSi,xSz,xSs]))
   (refine held_t 4 (h:=?_);(try simp only [xGs,xGz,xGo,Act.put,xSi,xSz,xSs]));(refine held_t 5 (h:=?_);(try simp only [xGs,xGz,xGo,Act.put,xSi,xSz,xSs]));(refine held_t 6 (h:=?_);(try simp only [xGs,xGz,xGo,Act.put,xSi,xSz,xSs]));(refine held_t 7 (h:=?_);(try simp only [xGs,xGz,xGo,Act.put,xSi,xSz,xSs]));(refine held_t 8 (h:=?_);(try simp only [xGs,xGz,xGo,Act.put,xSi,xSz,xSs]))
   refine held_end (by kernel_rfl) ?_
   clear hHeld
   obtain ⟨z0,z1,z2,z3,z4,z5,lZ⟩:=HC5.out
   have HMD:=Lib.hid (made_at (js:=js) (K:=K) (B:=fact True) (H5.out.addFact trivial) (fun w' l' h=>(HIN.out w' h.bel).imgs) (fun w' l' h=>(HIN.out w' h.bel).tab) (HIN.out w5 H5.out.bel).cap HF.out.right HF.out.enough HF.out.few HF.out.chk)
   simp only [layRow] at HMD
   go_wp2_with (fail)
   refine HMD.out.mono ?_
   rintro e w6 ⟨ad,d,X,rfl,m,xs,v,P,ys,h4,hsi,hxl,hml,-,-⟩
   have hjl:=(HIN.out w5 H5.out.bel).imgs.len
   have HLT:=Lib.hid (show (js.take t.parts.length).length=t.parts.length by rw [List.length_take];omega)
   generalize rstr X [.int .i64 t.frame,.slice a.AP t.parts.length a.cP,.slice a.AW t.wins.length a.cW,.slice a.AC t.chans.length a.cC,.int .i64 t.trial] v P ys=RA at h4
   have HD:=Lib.hid (show St w w6 (dsk d m::row Z 49 [.int .i64 t.frame,.slice a.AP t.parts.length a.cP,.slice a.AW t.wins.length a.cW,.slice a.AC t.chans.length a.cC,.int .i64 t.trial,.slice AI nI cI]::[RA,fact True]) from str_dsk ((h4.pick 1 rfl).perm (.cons _ (List.perm_append_singleton _ [RA,fact True]))))
   have HU:=Lib.hid hsi.made
   have HXL:=Lib.hid hxl;have HML:=Lib.hid hml
   clear h4 hsi hxl hml hjl z0 z1 z2 z3 z4 z5 lZ HMD
   have hz:=(HD.out.pick 1 rfl).row.1
   have z0:w6.cell? ⟨Z,0,none⟩=some (.int .i64 t.frame):=hz.cell 0
   have z1:w6.cell? ⟨Z,1,none⟩=some (.slice a.AP t.parts.length a.cP):=hz.cell 1
   have z2:w6.cell? ⟨Z,2,none⟩=some (.slice a.AW t.wins.length a.cW):=hz.cell 2
   have z3:w6.cell? ⟨Z,3,none⟩=some (.slice a.AC t.chans.length a.cC):=hz.cell 3
   have z4:w6.cell? ⟨Z,4,none⟩=some (.int .i64 t.trial):=hz.cell 4
   have z5:w6.cell? ⟨Z,5,none⟩=some (.slice AI nI cI):=hz.cell 5
   have lZ:=hz.lt
   clear hz
   dsimp only
   have hb2:0≤part∧part≤255:=by
    have hbt:=HBT.out
    have e1:IntKind.u8.min=0:=rfl
    have e2:IntKind.u8.max=255:=rfl
    simp only [Lit.wf,Bool.and_eq_true,decide_eq_true_eq] at hbt
    omega
   have hn0:¬t.parts.length=0:=by have:=HNP.out;omega
   go_upto_region 10 with fail
   obtain ⟨p,hp,hpl⟩:∃p:Nat,part % (t.parts.length:Int)=p∧p < t.parts.length:=by
    have h1:=Int.emod_nonneg part (show (t.parts.length:Int)≠0 by omega)
    have h2:=Int.emod_lt_of_pos part (show (0:Int) < (t.parts.length:Int) by omega)
    exact ⟨(part % (t.parts.length:Int)).toNat,by omega,by omega⟩
   rw [hp]
   have HPL:=Lib.hid hpl
   clear hp hpl hn0 hb2 z0 z1 z2 z3 z4 z5 lZ
   go_wp2_with (fail)
   refine (Go.Proofs.YtdldkkoplgkloaaGreat.placeSays.rdata_in (p:Int) 0 0 w6 (by omega) (by have:=HNP.out;have:=HPL.out;omega) (by omega) (by omega) (by omega) (by omega)).mono ?_
   rintro e w7 ⟨⟨r,hr,rfl⟩,rfl⟩
   obtain rfl:r=((10*p+3:Nat):Int):=by omega
   clear hr
   have hslt:10*p+3 < m.secs.length:=by have:=HML.out;have:=HPL.out;omega
   have HRD:=Lib.hid (dsk_read HD.out ((10*p+3:Nat):Int) (10*p+3) rfl hslt HU.out.calm.up.1 (by rw [HU.out.calm.waits];simp))
   have HBL:=Lib.hid (HU.out.calm.good.now_len hslt)
   have HBB:=Lib.hid (HU.out.calm.bts.now (10*p+3))
   have HSL:=Lib.hid hslt
   obtain ⟨sec,hsec⟩:∃v,v=10*p+3:=⟨_,rfl⟩
   obtain ⟨bs,hbs⟩:∃v,v=m.now sec:=⟨_,rfl⟩
   rw [←hsec] at HRD HBL HBB HSL ⊢
   rw [←hbs] at HRD HBL HBB
   have HSEC:=Lib.hid hsec;have HBS:=Lib.hid hbs
   clear hslt hsec hbs
   go_wp2_with (fail)
   refine HRD.out.mono ?_
   rintro e w8 ⟨b,rfl,h8⟩
   have H8:=Lib.hid h8
   have ha2:0≤at_∧at_≤255:=by
    have hbt:=HKP.out
    have e1:IntKind.u8.min=0:=rfl
    have e2:IntKind.u8.max=255:=rfl
    simp only [Lit.wf,Bool.and_eq_true,decide_eq_true_eq] at hbt
    omega
   obtain ⟨k,hk⟩:∃k:Nat,at_ % 40=k∧k < 40:=⟨(at_ % 40).toNat,by omega,by omega⟩
   have hkl:k < bs.length:=by rw [HBL.out];omega
   obtain ⟨x,hx⟩:∃x,bs[k]?=some x:=⟨_,List.getElem?_eq_getElem hkl⟩
   have hx2:0≤x∧x≤255:=HBB.out x (List.mem_of_getElem? hx)
   have r8:=h8.row.1
   have c8:w8.cell? ⟨b,k,none⟩=some (.int .u8 x):=(r8.cell k).trans (by rw [List.getElem?_map,hx];rfl)
   have f8:w8.frozen? ⟨b,k,none⟩=false:=r8.frozen k
   have l8:=r8.lt
   obtain ⟨zz,hzz⟩:∃z,z=Go.bits .xor .u8 x 1:=⟨_,rfl⟩
   have hxo:Go.bits .xor .u8 x 1=zz:=hzz.symm
   have HXO:=Lib.hid (xor_one hx2)
   rw [hxo] at HXO
   have hk0:=hk.1
   have hk1:(k:Int) < 64:=by omega
   have hk2:(0:Int)≤(k:Int):=by omega
   have HKK:=Lib.hid hk.2;have HX:=Lib.hid hx
   clear h8 r8 hk hkl hx hx2 hzz
   go_upto_region 13 with fail
   obtain ⟨w9,hw9⟩:∃v,v=w8.setCell ⟨b,k,none⟩ (.int .u8 zz):=⟨_,rfl⟩
   rw [←hw9]
   have h9:=H8.out.set k (.int .u8 zz)
   rw [←hw9,show ((bs.map (Value.int .u8)).set k (.int .u8 zz))=(bs.set k zz).map (.int .u8) by rw [List.map_set]] at h9
   obtain ⟨b1,hb1⟩:∃v,v=bs.set k zz:=⟨_,rfl⟩
   rw [←hb1] at h9
   have hb1l:b1.length=64:=by rw [hb1,List.length_set];exact HBL.out
   have hb1b:Byt b1:=by
    rw [hb1]
    intro u hu
    rcases List.mem_or_eq_of_mem_set hu with h|h
    ·exact HBB.out u h
    ·rw [h];exact HXO.out.1
   have hs9:=(gives_row (w0:=w) (t:=b) (xs:=b1.map (.int .u8)) hb1l (by rw [List.take_of_length_le (by rw [List.length_map];omega)])).2 w9 _ h9
   have HWR:=Lib.hid (dsk_write (h9.pick 1 rfl) (sec:Int) (some ⟨b,0,none⟩) 64 64 b1 hb1l hs9 (by rw [HU.out.calm.waits];simp))
   have HB1:=Lib.hid hb1
   have hwi:m.write (sec:Int) b1=(0,m.burnt.put sec b1):=by
    have hg:m.goes=true:=by
     have hu:=HU.out.calm.up
     unfold DS.goes
     rw [hu.1,hu.2]
     decide
    rw [write_in (by omega) (by have:=HSL.out;omega) hb1l,if_pos hg,Int.toNat_natCast]
   have hgo:m.goes=true:=by
    have hu:=HU.out.calm.up
    unfold DS.goes
    rw [hu.1,hu.2]
    decide
   rw [hwi] at HWR
   have hgd:(m.burnt.put sec b1).Good:=DS.put_good (DS.burnt_good HU.out.calm.good) (by rw [DS.burnt_secs];exact HSL.out) hb1l
   have hbt:(m.burnt.put sec b1).Bts:=by
    have h:=HU.out.calm.bts.write (sec:Int) hb1b
    rwa [hwi] at h
   have hdn:(m.burnt.put sec b1).down=false:=burnt_go hgo
   have hnw:∀j,(m.burnt.put sec b1).now j=if j=10*p+3 then (m.now (10*p+3)).set k zz else m.now j:=fun j=>by
    rw [DS.put_now,DS.burnt_now,HSEC.out,hb1,HBS.out,HSEC.out]
   have hwt:(m.burnt.put sec b1).waits.length≤700:=by
    have hw:m.burnt.waits=[]:=by rw [DS.burnt_waits];exact HU.out.calm.waits
    show (m.burnt.waits++[(sec,b1)]).length≤700
    rw [hw];simp
   have hsc:(m.burnt.put sec b1).secs.length=m.secs.length:=by
    show m.burnt.secs.length=_
    rw [DS.burnt_secs]
   generalize m.burnt.put sec b1=m1 at *
   have hpj:p < (js.take t.parts.length).length:=by rw [HLT.out];exact HPL.out
   have hDp:=madeD_at (js:=js.take t.parts.length) hpj
   have hne:zz≠(m.now (10*p+3)).getD k 0:=by
    rw [←HSEC.out,←HBS.out,List.getD_eq_getElem?_getD,HX.out]
    exact HXO.out.2
   have hck:=HF.out.chk p HPL.out
   have hbyt:Byt (js.getD p Img.none).code:=by
    have hI:=(HIN.out w5 H5.out.bel).imgs
    have hl:=hI.len
    rw [getD_e (by have:=HPL.out;have:=HF.out.enough;omega)]
    exact hI.byt _ (List.getElem_mem _)
   have hgt:=getD_take (l:=js) HPL.out Img.none
   have HT:=Lib.hid (turned_runs (t:=t) HU.out (made_runs (fun q hq=>by
    rw [HLT.out] at hq
    rw [getD_take hq]
    exact HF.out.chk q hq)) (by rw [HXL.out];exact HPL.out) (by rw [hDp];exact ⟨rfl,rfl⟩) (checkL_right hck) hbyt (by rw [hDp,hgt]) (by rw [hDp]) HKK.out HXO.out.1 hne hdn hnw)
   rw [HXL.out] at HT
   have HOE:=Lib.hid (fun (w':World) (l':List Asn) (hst:St w w' (dsk d m1::l'))=>(open_str hst ((HIN.out w' hst.bel).tab) rfl HF.out.right (by rw [hsc,HML.out];exact Nat.le_refl _) hdn hwt hbt hgd).mono (fun e w'' hE=>show e=.returned (.tuple #[.pointer none,.int .i64 2])∧Below w.heap.size w w'' from by
    rcases hE with ⟨ad,_,h2,h3,_⟩|⟨_,⟨q,hq,hneg⟩,_⟩|⟨c,e1,_,⟨q,kk,hq,hkk,hn,he,hce⟩,e3⟩
    ·exact absurd (h3 p HPL.out) HT.out.2.1
    ·exact absurd hneg (HT.out.1 q hq)
    ·rw [if_neg (HT.out.2.2 q hq kk hkk hn)] at hce
     rw [e1,hce]
     exact ⟨rfl,e3.bel⟩))
   simp only [TabA.val] at HOE
   clear hb1 hb1l hb1b hs9 hwi hgo hgd hbt hdn hnw hwt hsc hpj hDp hne hck hbyt hgt h9 hw9 c8 f8 l8 hxo hk0 hk1 hk2 ha2
   go_wp2_with (fail)
   refine HWR.out.mono ?_
   rintro e w10 ⟨rfl,hst⟩
   have H10:=Lib.hid hst
   have hz:=(hst.pick 2 rfl).row.1
   have z0:w10.cell? ⟨Z,0,none⟩=some (.int .i64 t.frame):=hz.cell 0
   have z1:w10.cell? ⟨Z,1,none⟩=some (.slice a.AP t.parts.length a.cP):=hz.cell 1
   have z2:w10.cell? ⟨Z,2,none⟩=some (.slice a.AW t.wins.length a.cW):=hz.cell 2
   have z3:w10.cell? ⟨Z,3,none⟩=some (.slice a.AC t.chans.length a.cC):=hz.cell 3
   have z4:w10.cell? ⟨Z,4,none⟩=some (.int .i64 t.trial):=hz.cell 4
   have z5:w10.cell? ⟨Z,5,none⟩=some (.slice AI nI cI):=hz.cell 5
   have lZ:=hz.lt
   clear hst hz
   dsimp only
   go_wp2_with (fail)
   refine (HOE.out w10 _ H10.out).mono ?_
   rintro e w11 ⟨rfl,hb⟩
   have HB11:=Lib.hid hb
   clear hb z0 z1 z2 z3 z4 z5 lZ
   go_wp2_with (fail)
   go_ret
   exact ⟨rfl,HB11.out⟩
set_option maxRecDepth 100000 in
theorem lifted (os:Os) (started:os.Started) (H:Type) (enc:TypeId×Value→H) :
  ReturnsInHanded {} Tryz.checked os 5 .any (Rows.storeOpensSpec.pre6 enc Tryz.prog Tryz.f5 Rows.storeOpensRow.domain false) (Rows.storeOpensSpec.post enc Tryz.prog Tryz.f5 false true false false):=by
 refine returnsInHanded_of_change (C:=Tryz.checked) Go.Proofs.YtdldkkoplgkloaaGreat.lift.own started (by kernel_rfl) Tryz.func5
  (ChangeSpec.witness6 (enc:=enc) (C:=Tryz.checked) false ⟨#[],#[.agg #[.int .i64 0,.slice none 0 0,.slice none 0 0,.slice none 0 0,.int .i64 0,.slice none 0 0],.int .u8 0,.int .u8 0],[]⟩ 8 (by kernel_rfl) (by kernel_rfl) (by kernel_rfl) (by kernel_rfl)) ?_
 intro W base args ds gs before hval0 hW hcnd _
 have hval:∀(j:Nat) t v,Tryz.f5.params[j]?=some t→args[j]?=some v→Value.okWide Tryz.prog W .any base t v:=hval0
 have hW':=hW
 obtain ⟨p,q,hA0,hV,rfl,hfz,hnd⟩:=hW
 have hA:DataW.TrodAll enc Tryz.prog W 0 (fun _=>true) true Tryz.f5.params.toList args.toList ds p:=hA0
 have hAk:=hA
 rw [Tryz.params5] at hA hval
 obtain ⟨v0,vs0,d0,ds0,p0,q0,hargs,rfl,rfl,h0,r0⟩:=trodAll_cons hA
 obtain ⟨v1,vs1,d1,ds1,p1,q1,rfl,rfl,rfl,h1,r1⟩:=trodAll_cons r0
 obtain ⟨v2,vs2,d2,ds2,p2,q2,rfl,rfl,rfl,h2,r2⟩:=trodAll_cons r1
 obtain ⟨rfl,rfl,rfl⟩:=trodAll_nil r2
 obtain rfl:args=#[v0,v1,v2]:=by cases args;simp_all
 obtain ⟨rfl,rfl⟩:=trodVars_none hV
 have hlt:=hW'.lt
 obtain ⟨a,t,AI,nI,cI,js,K,rfl,hin⟩:=store.arg_lay (hval 0 49 v0 rfl rfl) h0
 obtain ⟨a1,rfl,_,_,w1⟩:=open_int Tryz.underlying5 (hval 1 5 v1 rfl rfl) h1
 obtain ⟨a2,rfl,_,_,w2⟩:=open_int Tryz.underlying5 (hval 2 5 v2 rfl rfl) h2
 refine (walk W a t AI nI cI js K hin a1 w1 a2 w2).mono fun e W' ⟨he,hg⟩=>?_
 subst he
 exact ⟨_,rfl,Go.Proofs.YtdldkkoplgkloaaGreat.base.postBelow (pv:=[]) hW' (fun _ _ _=>(trodAll_cons_mk (shut_bool Tryz.underlying4 _) trodAll_mk0)) (fun sp hsp=>Go.Proofs.YtdldkkoplgkloaaGreat.lift.args_stay Go.Proofs.YtdldkkoplgkloaaGreat.lift.laidOut hg _ _ _ _ (by kernel_rfl) hAk (fun x hx=>hlt x (by simpa using hx)) (fun x hx=>hsp x (by simpa using hx))) (fun _ _=>rfl) (by simp)
  hg (ok_one (by kernel_rfl) rfl (okWide_bool_mk Tryz.underlying4 _))⟩
theorem over:Rows.storeOpensRow.holds Tryz.pinned (OpenSpec.ofChange Rows.storeOpensSpec) :=
 OpenClaim.holds_of_wide 5 Tryz.f5 rfl rfl rfl rfl rfl rfl rfl ⟨rfl,rfl,rfl,rfl,rfl⟩ rfl rfl rfl rfl rfl (by kernel_rfl) Tryz.func5 (by kernel_rfl)
  (of_decide_eq_true (by kernel_rfl)) (by unfold Func.isWrapper;first|(rw [if_pos (by decide +kernel)];kernel_rfl)|(rw [if_neg (by decide +kernel)];exact ⟨rfl,rfl⟩))
  (fun os started H enc _=>lifted os started H enc)
theorem proved:Rows.StoreOpensSaid :=
 over
#print axioms proved
end storeOpens
end Go.Proofs.YtdldkkoplgkloaaGreat
