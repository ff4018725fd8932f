/-
  PROVED HERE: longeronlaw14.StoreTrials is true whatever the input: a trial image boots at most as often as the table says; then what was confirmed runs, and the slot is bad.
  CONDITIONS: none beyond the row's own.
-/
import Derived.Test.YtdldkkoplgkloaaGreatPq19
import Derived.Test.YtdldkkoplgkloaaGreatPq38
import Derived.Test.YtdldkkoplgkloaaGreatPq39
import Derived.Test.YtdldkkoplgkloaaGreatPq40
namespace Go.Proofs.YtdldkkoplgkloaaGreat
set_option linter.unusedVariables false
set_option linter.unusedSimpArgs false
namespace storeTrials


open Go.RowKit Go.ChangeShapes Go.WideShapes Go.ChangeAt Go.Deep Go.Joins base obj mem sep plan disk record commit stage image tab compat chain crc store
theorem str_dsk {w0 w:World} {l:List Asn} {ad:StAd} {t:Tab} {d:Nat} {m:DS} {xs:List PP} (h:St w0 w (strA ad t d m xs::l)):St w0 w (dsk d m::l):=by
 have h1:=(str_un h).1.pick 3 rfl
 exact ((((h1.pick 1 rfl).drop.pick 1 rfl).drop.pick 1 rfl).drop.pick 1 rfl).drop
set_option maxRecDepth 100000 in
set_option maxHeartbeats 32000000 in
theorem walk (w:World) (a:TabA) (t:Tab) (AI:Option Addr) (nI cI:Nat) (js:List Img) (K:Nat→Option Addr×Nat) (hin:LayIn w a t AI nI cI js K) (boots:Int) (hb:(Lit.int .u8 boots).wf=true) (keep:Int) (hk:(Lit.int .u64 keep).wf=true) :
  Calls Tryz.prog 6 #[.agg #[.int .i64 t.frame,.slice a.AP t.parts.length a.cP,.slice a.AW t.wins.length a.cW,.slice a.AC t.chans.length a.cC,.int .i64 t.trial,.slice AI nI cI],.int .u8 boots,.int .u64 keep] w fun e w'=>e=.returned (.bool true)∧Below w.heap.size w w':=by
 obtain ⟨Z,hZ⟩:∃Z,Z=w.heap.size:=⟨_,rfl⟩
 obtain ⟨w1,hw1⟩:∃w1,w1=w.alloc (.cells #[.int .i64 t.frame,.slice a.AP t.parts.length a.cP,.slice a.AW t.wins.length a.cW,.slice a.AC t.chans.length a.cC,.int .i64 t.trial,.slice AI nI cI] 49):=⟨_,rfl⟩
 have h1:St w w1 [row Z 49 [.int .i64 t.frame,.slice a.AP t.parts.length a.cP,.slice a.AW t.wins.length a.cW,.slice a.AC t.chans.length a.cC,.int .i64 t.trial,.slice AI nI cI]]:=by
  have h3:=(St.nil w).new 49 #[.int .i64 t.frame,.slice a.AP t.parts.length a.cP,.slice a.AW t.wins.length a.cW,.slice a.AC t.chans.length a.cC,.int .i64 t.trial,.slice AI nI cI]
  rw [←hw1,←hZ] at h3
  exact h3
 have H1:=Lib.hid h1
 have HB1:=Lib.hid h1.bel
 have HIN:=Lib.hid (fun (w':World) (hb:Below w.heap.size w w')=>hin.over hb)
 have HFA:=Lib.hid (fun (w':World) (hb:Below w.heap.size w w')=>fits_at (hin.over hb))
 have HZ:=Lib.hid hZ;have HW1:=Lib.hid hw1;have HBT:=Lib.hid hb;have HKP:=Lib.hid hk
 simp only [layRow] at HFA
 clear h1 hw1 hZ hin hb hk
 go_enter Tryz.func6,Tryz.ntmps6
 go_upto_region 1 with fail
 rw [←HW1.out,←HZ.out]
 go_wp2_with (fail)
 refine (wakes_at w1).mono ?_
 rintro e w2 ⟨rfl,hb⟩
 have HB2:=Lib.hid hb
 have HW2:=Lib.hid (HB1.out.trans (hb.mono HB1.out.size))
 have hz:=(H1.out.below hb).row.1
 have z0:w2.cell? ⟨Z,0,none⟩=some (.int .i64 t.frame):=hz.cell 0
 have z1:w2.cell? ⟨Z,1,none⟩=some (.slice a.AP t.parts.length a.cP):=hz.cell 1
 have z2:w2.cell? ⟨Z,2,none⟩=some (.slice a.AW t.wins.length a.cW):=hz.cell 2
 have z3:w2.cell? ⟨Z,3,none⟩=some (.slice a.AC t.chans.length a.cC):=hz.cell 3
 have z4:w2.cell? ⟨Z,4,none⟩=some (.int .i64 t.trial):=hz.cell 4
 have z5:w2.cell? ⟨Z,5,none⟩=some (.slice AI nI cI):=hz.cell 5
 have lZ:=hz.lt
 clear hb hz
 go_wp2_with (fail)
 refine (HFA.out w2 HW2.out).mono ?_
 rintro e w3 ⟨⟨b,rfl,hF⟩,hb⟩
 have HB3:=Lib.hid (HB2.out.trans (hb.mono HB2.out.size))
 have HW3:=Lib.hid (HW2.out.trans (hb.mono HW2.out.size))
 clear z0 z1 z2 z3 z4 z5 lZ hb
 cases b with
 | false =>
   clear hF
   go_wp2_with (fail)
   go_ret
   exact ⟨rfl,HW3.out⟩
 | true =>
   have F:=hF rfl
   have HF:=Lib.hid F
   have T:=Tab.r F.right
   have hnp:=T.np;have htr:=T.tr
   have hen:=F.enough
   have HNP:=Lib.hid hnp;have HTR:=Lib.hid htr;have HEN:=Lib.hid hen
   have hst:=H1.out.below HB3.out
   have hz:=hst.row.1
   have z0:w3.cell? ⟨Z,0,none⟩=some (.int .i64 t.frame):=hz.cell 0
   have z1:w3.cell? ⟨Z,1,none⟩=some (.slice a.AP t.parts.length a.cP):=hz.cell 1
   have z2:w3.cell? ⟨Z,2,none⟩=some (.slice a.AW t.wins.length a.cW):=hz.cell 2
   have z3:w3.cell? ⟨Z,3,none⟩=some (.slice a.AC t.chans.length a.cC):=hz.cell 3
   have z4:w3.cell? ⟨Z,4,none⟩=some (.int .i64 t.trial):=hz.cell 4
   have z5:w3.cell? ⟨Z,5,none⟩=some (.slice AI nI cI):=hz.cell 5
   have lZ:=hz.lt
   have HMD:=Lib.hid (made_at (js:=js) (K:=K) (B:=fact True) (hst.addFact trivial) (fun w' l' h=>(HIN.out w' h.bel).imgs) (fun w' l' h=>(HIN.out w' h.bel).tab) (HIN.out w3 HW3.out).cap F.right F.enough F.few F.chk)
   simp only [layRow] at HMD
   obtain ⟨b0,o0,hA0,_,hcc⟩:=(HIN.out w3 HW3.out).imgs.at_ 0 (by omega)
   subst hA0
   clear hF F T hnp htr hst hz hcc
   go_wp2_with (fail)
   refine HMD.out.mono ?_
   rintro e w4 ⟨ad,d,X,rfl,m,xs,v,P,ys,h4,hsi,hxl,hml,-,-⟩
   have hlt:(js.take t.parts.length).length=t.parts.length:=by rw [List.length_take,(HIN.out w3 HW3.out).imgs.len];omega
   have HLT:=Lib.hid hlt
   generalize rstr X [.int .i64 t.frame,.slice a.AP t.parts.length a.cP,.slice a.AW t.wins.length a.cW,.slice a.AC t.chans.length a.cC,.int .i64 t.trial] v P ys=RA at h4
   have h5:St w w4 (strA ad t d m xs::row Z 49 [.int .i64 t.frame,.slice a.AP t.parts.length a.cP,.slice a.AW t.wins.length a.cW,.slice a.AC t.chans.length a.cC,.int .i64 t.trial,.slice (some ⟨b0,o0,none⟩) nI cI]::[RA,fact True]):=by
    have h6:=(h4.pick 1 rfl)
    exact h6.perm (.cons _ ((List.perm_append_singleton _ [RA,fact True]).symm.symm))
   have HS:=Lib.hid (show StoU w w4 ad t d m xs (madeD (js.take t.parts.length)) (row Z 49 [.int .i64 t.frame,.slice a.AP t.parts.length a.cP,.slice a.AW t.wins.length a.cW,.slice a.AC t.chans.length a.cC,.int .i64 t.trial,.slice (some ⟨b0,o0,none⟩) nI cI]::[RA,fact True]) from ⟨h5,hsi.made,hxl,by rw [hxl,hml];exact Nat.le_refl _,HF.out.right⟩)
   clear h4 h5 hsi hxl hml z0 z1 z2 z3 z4 z5 lZ hlt HMD
   obtain ⟨i,hi⟩:∃i,i=js.getD 0 Img.none:=⟨_,rfl⟩
   have hck0:checkL t 0 i 0=0:=by rw [hi];exact HF.out.chk 0 (by have:=HNP.out;omega)
   have HR:=Lib.hid (checkL_right hck0)
   have hcd:=(HIN.out w4 HS.out.st.bel).imgs
   obtain ⟨b1,o1,hA1,hbl,c0,c1,c2,c3,c4,c5,c6,c7,hcap,hsl⟩:=hcd.at_ 0 (by have:=HNP.out;omega)
   obtain ⟨rfl,rfl⟩:b0=b1∧o0=o1:=by injection hA1 with e;injection e with e1 e2 _;exact ⟨e1,e2⟩
   have HBY:=Lib.hid (show Byt i.code by rw [hi,getD_e (by rw [hcd.len];have:=HNP.out;omega)];exact hcd.byt _ (List.getElem_mem _))
   have HCO:=Lib.hid (fun (w':World) (hb:Below w.heap.size w w')=>show Sl w' w'.heap.size 1 (K 0).1 i.code.length (u8s i.code) from by
    obtain ⟨_,_,_,_,_,_,_,_,_,_,_,_,_,h⟩:=(HIN.out w' hb).imgs.at_ 0 (by have:=HNP.out;omega)
    rw [hi];exact h)
   rw [←hi] at c0 c1 c2 c3 c4 c5 c6 c7 hcap
   simp only [Nat.zero_mul,Nat.add_zero] at c0 c1 c2 c3 c4 c5 c6 c7
   have HCAP:=Lib.hid hcap;have HCK0:=Lib.hid hck0;have HI:=Lib.hid hi
   have HD0:=Lib.hid (show (madeD (js.take t.parts.length)).getD 0 default=⟨firstRec 0,loadR i.bytes,RS.none⟩ by
    rw [madeD_at (by rw [HLT.out];have:=HNP.out;omega),getD_take (by have:=HNP.out;omega),hi];rfl)
   have HDL:=Lib.hid (show 0 < (madeD (js.take t.parts.length)).length by rw [madeD_len,HLT.out];have:=HNP.out;omega)
   have HDR:=Lib.hid (made_runs (t:=t) (js:=js.take t.parts.length) (fun p hp=>by
    rw [HLT.out] at hp
    rw [getD_take hp]
    exact HF.out.chk p hp))
   have HH0:=Lib.hid (dHold_is (p:=0) HR.out (loadR_bytes i) hck0)
   generalize madeD (js.take t.parts.length)=D0 at *
   obtain ⟨R0,hR0⟩:∃R,R=loadR i.bytes:=⟨_,rfl⟩
   rw [←hR0] at HH0 HD0
   clear hi hck0 hcd hA1 hsl hcap hR0
   have hz:=(HS.out.st.pick 1 rfl).row.1
   have z0:w4.cell? ⟨Z,0,none⟩=some (.int .i64 t.frame):=hz.cell 0
   have z1:w4.cell? ⟨Z,1,none⟩=some (.slice a.AP t.parts.length a.cP):=hz.cell 1
   have z2:w4.cell? ⟨Z,2,none⟩=some (.slice a.AW t.wins.length a.cW):=hz.cell 2
   have z3:w4.cell? ⟨Z,3,none⟩=some (.slice a.AC t.chans.length a.cC):=hz.cell 3
   have z4:w4.cell? ⟨Z,4,none⟩=some (.int .i64 t.trial):=hz.cell 4
   have z5:w4.cell? ⟨Z,5,none⟩=some (.slice (some ⟨b0,o0,none⟩) nI cI):=hz.cell 5
   have lZ:=hz.lt
   have hnI:(0:Int) < (nI:Int):=by have:=HNP.out;omega
   obtain ⟨KA,hKA⟩:∃v,v=(K 0).1:=⟨_,rfl⟩
   obtain ⟨Kc,hKc⟩:∃v,v=(K 0).2:=⟨_,rfl⟩
   rw [←hKA,←hKc] at c7
   rw [←hKA] at HCO
   rw [←hKc] at HCAP
   obtain ⟨I,hI⟩:∃I,I=w4.heap.size:=⟨_,rfl⟩
   obtain ⟨w5,hw5⟩:∃v,v=w4.alloc (.cells #[.int .i64 i.part,.int .i64 i.version,.int .i64 i.hard,.int .i64 i.mem,.int .i64 i.fuel,.int .i64 i.sends,.int .i64 i.receives,.slice KA i.code.length Kc] 26):=⟨_,rfl⟩
   have h5:=HS.out.st.new 26 #[.int .i64 i.part,.int .i64 i.version,.int .i64 i.hard,.int .i64 i.mem,.int .i64 i.fuel,.int .i64 i.sends,.int .i64 i.receives,.slice KA i.code.length Kc]
   rw [←hI,←hw5] at h5
   have H5:=Lib.hid h5
   have hr5:=h5.row.1
   have d1:w5.cell? ⟨I,1,none⟩=some (.int .i64 i.version):=hr5.cell 1
   have f1:w5.frozen? ⟨I,1,none⟩=false:=hr5.frozen 1
   have lI:=hr5.lt
   have HIq:=Lib.hid hI;have HW5:=Lib.hid hw5
   clear hz h5 hr5 hI hw5 hKA hKc
   dsimp only
   go_upto_region 9 with fail
   rw [←HW5.out,←HIq.out]
   clear c0 c1 c2 c3 c4 c5 c6 c7 hbl z0 z1 z2 z3 z4 z5 lZ hnI
   by_cases hv:i.version=65535
   ·have e0:(i.version==65535)=true:=by simpa using hv
    have HB5:=Lib.hid H5.out.bel
    clear hv
    go_wp2_with (fail)
    go_ret
    exact ⟨rfl,HB5.out⟩
   ·have e0:(i.version==65535)=false:=by simpa using hv
    have HNR:=Lib.hid (newer_right HR.out hv)
    have HNC:=Lib.hid (newer_check HCK0.out hv)
    have hvr:=HR.out.2.1
    obtain ⟨vn,hvn⟩:∃v,v=i.version+1:=⟨_,rfl⟩
    have hvw:IntKind.i64.wrap (i.version+1)=vn:=by rw [IntWalk.i64_in _ (by omega)];exact hvn.symm
    have HVN:=Lib.hid hvn
    clear hv hvr hvn
    go_upto_region 12 with fail
    obtain ⟨w6,hw6⟩:∃v,v=w5.setCell ⟨I,1,none⟩ (.int .i64 vn):=⟨_,rfl⟩
    rw [←hw6]
    have h6:=H5.out.set 1 (.int .i64 vn)
    rw [←hw6] at h6
    simp only [List.set_cons_succ,List.set_cons_zero] at h6
    have H6:=Lib.hid h6
    have hr6:=h6.row.1
    have d0:w6.cell? ⟨I,0,none⟩=some (.int .i64 i.part):=hr6.cell 0
    have d2:w6.cell? ⟨I,2,none⟩=some (.int .i64 i.hard):=hr6.cell 2
    have d3:w6.cell? ⟨I,3,none⟩=some (.int .i64 i.mem):=hr6.cell 3
    have d4:w6.cell? ⟨I,4,none⟩=some (.int .i64 i.fuel):=hr6.cell 4
    have d5:w6.cell? ⟨I,5,none⟩=some (.int .i64 i.sends):=hr6.cell 5
    have d6:w6.cell? ⟨I,6,none⟩=some (.int .i64 i.receives):=hr6.cell 6
    have d7:w6.cell? ⟨I,7,none⟩=some (.slice KA i.code.length Kc):=hr6.cell 7
    clear d1 f1 lI e0
    have d1:w6.cell? ⟨I,1,none⟩=some (.int .i64 vn):=hr6.cell 1
    have lI:=hr6.lt
    obtain ⟨j,hj⟩:∃j,j=newer i:=⟨_,rfl⟩
    have hjv:∀(A:Option Addr) (c:Nat),j.val A c=.agg #[.int .i64 i.part,.int .i64 vn,.int .i64 i.hard,.int .i64 i.mem,.int .i64 i.fuel,.int .i64 i.sends,.int .i64 i.receives,.slice A i.code.length c]:=fun A c=>by rw [hj,HVN.out];rfl
    have hjc:j.code=i.code:=by rw [hj];rfl
    rw [←hj] at HNR HNC
    have HJC:=Lib.hid hjc
    have HJV:=Lib.hid hjv
    have HPUT:=Lib.hid (iput_at w6 j HNR.out KA Kc (by rw [hjc];exact HCAP.out) (by rw [hjc];exact HBY.out) (by rw [hjc];exact HCO.out w6 H6.out.bel))
    rw [hjv,hjc] at HPUT
    have HJVER:=Lib.hid (show j.version=vn by rw [hj,HVN.out];rfl)
    have hc96:1≤i.code.length∧i.code.length≤96:=by have:=HR.out.2.2.2.2.2.2.2;omega
    obtain ⟨n,hn⟩:∃n,n=49+i.code.length:=⟨_,rfl⟩
    have HBL:=Lib.hid (show j.bytes.length=n by rw [bytes_len,hjc,hn])
    have HBYT:=Lib.hid (show Byt j.bytes from sealed_byt _ (head_byt j (by rw [hjc];exact HBY.out)))
    rw [←hn] at HPUT
    have hn1:50≤n:=by omega
    have hn2:n≤145:=by omega
    clear hj hjv hjc h6 hr6 hw6 hn hvw
    have HN1:=Lib.hid hn1;have HN2:=Lib.hid hn2
    go_wp2_with (fail)
    refine HPUT.out.mono ?_
    rintro e w7 ⟨v,rfl,ho,hb⟩
    obtain ⟨A2,q2,rfl,hc2,hm2⟩:=own_form ho
    have h7:=H6.out.addOwn hb ho
    clear d0 d1 d2 d3 d4 d5 d6 d7 lI ho hb
    obtain ⟨bs,hbs⟩:∃v,v=j.bytes:=⟨_,rfl⟩
    rw [←hbs] at h7 HBL HBYT
    have HBS:=Lib.hid hbs
    have HS7:=Lib.hid (show StoU w w7 ad t d m xs D0 (own 5 1 (.slice A2 n q2) n (u8s bs)::row I 26 [.int .i64 i.part,.int .i64 vn,.int .i64 i.hard,.int .i64 i.mem,.int .i64 i.fuel,.int .i64 i.sends,.int .i64 i.receives,.slice KA i.code.length Kc]::row Z 49 [.int .i64 t.frame,.slice a.AP t.parts.length a.cP,.slice a.AW t.wins.length a.cW,.slice a.AC t.chans.length a.cC,.int .i64 t.trial,.slice (some ⟨b0,o0,none⟩) nI cI]::[RA,fact True]) from HS.out.move (h7.pick 2 rfl))
    have HBG:=Lib.hid (begin_u HS7.out 0 3 (n:Int))
    have hsr:(Stg.mk 3 bs.length 0).right=true:=by
     have:(0:Int)≤2 ^ blocksN (bs.length:Int)-1:=by
      have:(1:Int)≤2 ^ blocksN (bs.length:Int):=by exact_mod_cast Nat.one_le_two_pow
      omega
     have:=HBL.out
     simp only [Stg.right,Bool.and_eq_true,decide_eq_true_eq]
     omega
    have htb:=tr_begin HDL.out HD0.out (se:=3) hsr
    rw [HBL.out] at htb
    rw [htb] at HBG
    clear h7 hbs hsr htb
    go_wp2_with (fail)
    refine HBG.out.mono ?_
    rintro e w8 ⟨rfl,m8,xs8,hs⟩
    have HS8:=Lib.hid hs
    clear hs HBG
    dsimp only
    have HNB:=Lib.hid (show nbB bs=(n+15) / 16 by unfold nbB;rw [HBL.out])
    go_wp2_with (fail)
    go_loopw [13] (fun x wr=>∃(no:Nat) (m:DS) (xs:List PP),no≤nbB bs∧x=.int .i64 (no:Int)∧StoU w wr ad t d m xs (trD D0 (firstRec 0) R0 (loadS 3 bs no)) (own 5 1 (.slice A2 n q2) n (u8s bs)::row I 26 [.int .i64 i.part,.int .i64 vn,.int .i64 i.hard,.int .i64 i.mem,.int .i64 i.fuel,.int .i64 i.sends,.int .i64 i.receives,.slice KA i.code.length Kc]::row Z 49 [.int .i64 t.frame,.slice a.AP t.parts.length a.cP,.slice a.AW t.wins.length a.cW,.slice a.AC t.chans.length a.cC,.int .i64 t.trial,.slice (some ⟨b0,o0,none⟩) nI cI]::[RA,fact True])) (fun x _=>nbB bs-(intOf x).toNat)
    case atStart=>exact ⟨0,_,_,by omega,rfl,HS8.out⟩
    case round =>
     obtain ⟨no,m,xs,hno,rfl,hs⟩:=hrel
     clear HS8 HS7
     have HS:=Lib.hid hs
     clear hs
     have hnb:=HNB.out
     by_cases hlt:no < nbB bs
     ·obtain ⟨f,hf⟩:∃f,f=16*no:=⟨_,rfl⟩
      have W1:IntKind.i64.wrap ((no:Int)*16)=(f:Int):=by rw [IntWalk.i64_in _ (by omega)];omega
      have k1:(f:Int) < (n:Int):=by omega
      have hr6:=(HS.out.st.pick 2 rfl).row.1
      have d0:wr.cell? ⟨I,0,none⟩=some (.int .i64 i.part):=hr6.cell 0
      have d1:wr.cell? ⟨I,1,none⟩=some (.int .i64 vn):=hr6.cell 1
      have d2:wr.cell? ⟨I,2,none⟩=some (.int .i64 i.hard):=hr6.cell 2
      have d3:wr.cell? ⟨I,3,none⟩=some (.int .i64 i.mem):=hr6.cell 3
      have d4:wr.cell? ⟨I,4,none⟩=some (.int .i64 i.fuel):=hr6.cell 4
      have d5:wr.cell? ⟨I,5,none⟩=some (.int .i64 i.sends):=hr6.cell 5
      have d6:wr.cell? ⟨I,6,none⟩=some (.int .i64 i.receives):=hr6.cell 6
      have d7:wr.cell? ⟨I,7,none⟩=some (.slice KA i.code.length Kc):=hr6.cell 7
      have lI:=hr6.lt
      have HBK:=Lib.hid (block_at HS.out.st j (by rw [HJC.out];exact HBY.out) KA Kc (by rw [HJC.out];exact HCAP.out) (by rw [HJC.out];have:=HR.out.2.2.2.2.2.2.2;omega) (by rw [HJC.out];exact HCO.out wr HS.out.st.bel) (no:Int) false)
      rw [HJV.out] at HBK
      rw [blockL_is HNR.out (by rw [←HBS.out,HBL.out];omega),←HBS.out] at HBK
      have HTL:=Lib.hid (tr_load (R0:=R0) (se:=3) HDL.out hlt)
      have HBL16:=Lib.hid (blkB_len hlt)
      clear hr6
      go_wp2_with (fail)
      refine HBK.out.mono ?_
      rintro e w9 ⟨B,rfl,h9⟩
      have HLD:=Lib.hid (load_u (HS.out.move h9.swap) (gives_row (bs:=blkB bs no) HBL16.out (by rw [List.take_of_length_le (by simp [u8s,HBL16.out])])) (blkB_byt HBYT.out no) 0 3 (no:Int) (c:=16))
      rw [HTL.out] at HLD
      clear h9 d0 d1 d2 d3 d4 d5 d6 d7 lI HBK W1
      go_wp2_with (fail)
      refine HLD.out.mono ?_
      rintro e w10 ⟨rfl,m10,xs10,hs⟩
      have H10:=Lib.hid (hs.move ((hs.st.pick 1 rfl).drop))
      clear hs HLD hf
      dsimp only
      go_wp2_with (fail)
      go_roundw
      case rel=>exact ⟨no+1,m10,xs10,by omega,by go_num,H10.out⟩
      case measure=>simp [intOf];omega
     ·have hne:no=nbB bs:=by omega
      subst hne
      obtain ⟨f,hf⟩:∃f,f=16*nbB bs:=⟨_,rfl⟩
      have W1:IntKind.i64.wrap ((nbB bs:Int)*16)=(f:Int):=by rw [IntWalk.i64_in _ (by omega)];omega
      have k1:¬(f:Int) < (n:Int):=by omega
      obtain ⟨tr,htr⟩:∃tr:Nat,t.trial=tr:=⟨t.trial.toNat,by have:=HTR.out;omega⟩
      have htr7:1≤tr∧tr≤7:=by have:=HTR.out;omega
      have HSL:=Lib.hid (seal_u HS.out 0 3)
      rw [tr_seal HDL.out htr htr7.2 HH0.out HNR.out HBS.out HNC.out.2] at HSL
      have HH1:=Lib.hid (dHold_is (p:=0) (t:=t) (R:=loadS 3 bs (nbB bs)) HNR.out (by rw [loadS_bytes,HBS.out]) HNC.out.1)
      generalize loadS 3 bs (nbB bs)=R1 at *
      obtain ⟨q,hq⟩:∃q,q=i:=⟨_,rfl⟩
      have HH0:=Lib.hid (show dHold t 0 R0=(q,0) by rw [hq];exact HH0.out)
      have HQV:=Lib.hid (show q.version=i.version by rw [hq])
      clear hq
      have HTRE:=Lib.hid htr;have HT7:=Lib.hid htr7
      generalize nbB bs=nb at *
      have hbt:=HBT.out
      have hb2:0≤boots∧boots≤255:=by
       have e1:IntKind.u8.min=0:=rfl
       have e2:IntKind.u8.max=255:=rfl
       simp only [Lit.wf,Bool.and_eq_true,decide_eq_true_eq] at hbt
       omega
      clear HS hf htr htr7 hbt hnb hno hlt
      go_wp2_with (fail)
      refine HSL.out.mono ?_
      rintro e w11 ⟨rfl,m11,xs11,hs⟩
      have HS11:=Lib.hid hs
      clear hs HSL W1 k1
      dsimp only
      go_wp2_with (fail)
      obtain ⟨bm,hbm⟩:∃bm,bm=boots % 10:=⟨_,rfl⟩
      rw [←hbm]
      obtain ⟨bn,hbn⟩:∃bn:Nat,1+bm=(bn:Int):=⟨(1+bm).toNat,by omega⟩
      have hbn2:1≤bn∧bn≤10:=by omega
      rw [hbn]
      clear hbm hbn hb2
      have hkp:=HKP.out
      have hk2:0≤keep∧keep≤18446744073709551615:=by
       have e1:IntKind.u64.min=0:=rfl
       have e2:IntKind.u64.max=18446744073709551615:=rfl
       simp only [Lit.wf,Bool.and_eq_true,decide_eq_true_eq] at hkp
       omega
      have HK2:=Lib.hid hk2
      clear hkp hk2
      go_loopw [7,75] (fun s x wr=>∃(k:Nat) (ad:StAd) (m:DS) (xs:List PP),k≤bn∧s=.pointer (some ⟨ad.S,0,none⟩)∧x=.int .i64 (k:Int)∧StoU w wr ad t d m xs (trD D0 (trRec tr k) R0 R1) (own 5 1 (.slice A2 n q2) n (u8s bs)::row I 26 [.int .i64 i.part,.int .i64 vn,.int .i64 i.hard,.int .i64 i.mem,.int .i64 i.fuel,.int .i64 i.sends,.int .i64 i.receives,.slice KA i.code.length Kc]::row Z 49 [.int .i64 t.frame,.slice a.AP t.parts.length a.cP,.slice a.AW t.wins.length a.cW,.slice a.AC t.chans.length a.cC,.int .i64 t.trial,.slice (some ⟨b0,o0,none⟩) nI cI]::[RA,fact True])) (fun _ x _=>bn-(intOf x).toNat)
      case atStart=>exact ⟨0,ad,_,_,by omega,rfl,rfl,HS11.out⟩
      case round =>
       obtain ⟨k,ad,m,xs,hkb,rfl,rfl,hs⟩:=hrel
       clear HS11
       have HS:=Lib.hid hs
       clear hs
       by_cases hlt:k < bn
       ·have k1:(k:Int) < (bn:Int):=by omega
        have k64:(k:Int) < 64:=by omega
        have kk0:(0:Int)≤(k:Int):=by omega
        have k0:0≤keep∧keep≤18446744073709551615:=HK2.out
        cases hkb2:(Go.bits .and .u64 (keep / 2 ^ k) 1==1)
        ·have HX:=Lib.hid HS.out
         by_cases hkt:k < tr
         ·skip
          have HBO:=Lib.hid (boot_u HX.out 0)
          rw [tr_boot HDL.out HT7.out.2 HH0.out HH1.out,if_pos hkt] at HBO
          have hq:j.version=vn:=HJVER.out
          clear k1 k64 kk0 k0
          go_wp2_with (fail)
          refine HBO.out.mono ?_
          rintro e w12 ⟨KB,Kd,rfl,m12,xs12,hs⟩
          have H12:=Lib.hid (hs.move ((hs.st.pick 1 rfl).drop))
          dsimp only
          simp only [Img.val]
          rw [hq]
          generalize j.part=j0,j.hard=j1,j.mem=j2,j.fuel=j3,j.sends=j4,j.receives=j5,j.code.length=j6
          obtain ⟨vq,hvq⟩:∃v,v=vn:=⟨_,rfl⟩
          obtain ⟨J,hJ⟩:∃J,J=w12.heap.size:=⟨_,rfl⟩
          obtain ⟨w13,hw13⟩:∃v,v=w12.alloc (.cells #[.int .i64 j0,.int .i64 vn,.int .i64 j1,.int .i64 j2,.int .i64 j3,.int .i64 j4,.int .i64 j5,.slice KB j6 Kd] 26):=⟨_,rfl⟩
          have h13:=H12.out.st.new 26 #[.int .i64 j0,.int .i64 vn,.int .i64 j1,.int .i64 j2,.int .i64 j3,.int .i64 j4,.int .i64 j5,.slice KB j6 Kd]
          rw [←hJ,←hw13] at h13
          have y1:w13.cell? ⟨J,1,none⟩=some (.int .i64 vn):=h13.row.1.cell 1
          have lJ:=h13.row.1.lt
          have hri:=(h13.pick 3 rfl).row.1
          have d1:w13.cell? ⟨I,1,none⟩=some (.int .i64 vn):=hri.cell 1
          have lI:=hri.lt
          have hrz:=(h13.pick 4 rfl).row.1
          have z4:w13.cell? ⟨Z,4,none⟩=some (.int .i64 t.trial):=hrz.cell 4
          have lZ:=hrz.lt
          have H13:=Lib.hid (H12.out.move h13.drop)
          have HJ:=Lib.hid hJ;have HW13:=Lib.hid hw13
          have e4:decide (t.trial≤(k:Int))=false:=by have:=HTRE.out;simp;omega
          have HRU:=Lib.hid (record_u (H13.out.move (H13.out.st.drew)) 0)
          have hrec:dRec (trD D0 (trRec tr (k+1)) R0 R1) 0=trRec tr (k+1):=by unfold dRec;rw [if_neg (by rw [trD_len];have:=HDL.out;omega),show (0:Int).toNat=0 from rfl,trD_at HDL.out]
          have hbad:(trRec tr (k+1)).bad=0:=by unfold trRec;rw [if_pos (by omega)]
          have r5:=rfld5 (trRec tr (k+1))
          rw [hbad] at r5
          rw [hrec] at HRU
          generalize (trRec tr (k+1)).val=rv at *
          clear hs h13 hri hrz hJ hw13 HBO hq hrec hbad
          go_upto_region 32 with fail
          rw [←HW13.out,←HJ.out]
          go_upto_region 35 with fail
          have e5:(vn != vn)=false:=by simp
          refine held_start (fun w'=>w'.cell? ⟨J,1,none⟩=some (.int .i64 vn)∧J < w'.heap.size∧w'.cell? ⟨Z,4,none⟩=some (.int .i64 t.trial)∧Z < w'.heap.size) (by kernel_rfl) (⟨y1,lJ,z4,lZ⟩) (fun hHeld=>?_)
          (refine held_t 0 (h:=?_);(try simp only [xGs,xGz,xGo,Act.put,xSi,xSz,xSs]));(refine held_t 1 (h:=?_);(try simp only [xGs,xGz,xGo,Act.put,xSi,xSz,xSs]));(refine held_t 2 (h:=?_);(try simp only [xGs,xGz,xGo,Act.put,xSi,xSz,xSs]));(refine held_t 3 (h:=?_);(try simp only [xGs,xGz,xGo,Act.put,xSi,xSz,xSs]));(refine held_t 4 (h:=?_);(try simp only [xGs,xGz,xGo,Act.put,xSi,xSz,xSs]));(refine held_t 5 (h:=?_);(try simp only [xGs,xGz,xGo,Act.put,xSi,xSz,xSs]));(refine held_t 6 (h:=?_);(try simp only [xGs,xGz,xGo,Act.put,xSi,xSz,xSs]));(refine held_t 7 (h:=?_);(try simp only [xGs,xGz,xGo,Act.put,xSi,xSz,xSs]));(refine held_t 8 (h:=?_);(try simp only [xGs,xGz,xGo,Act.put,xSi,xSz,xSs]));(refine held_t 9 (h:=?_);(try simp only [xGs,xGz,xGo,Act.put,xSi,xSz,xSs]));(refine held_t 13 (h:=?_);(try simp only [xGs,xGz,xGo,Act.put,xSi,xSz,xSs]));(refine held_t 14 (h:=?_);(try simp only [xGs,xGz,xGo,Act.put,xSi,xSz,xSs]));(refine held_t 15 (h:=?_);(try simp only [xGs,xGz,xGo,Act.put,xSi,xSz,xSs]));(refine held_t 16 (h:=?_);(try simp only [xGs,xGz,xGo,Act.put,xSi,xSz,xSs]));(refine held_t 17 (h:=?_);(try simp only [xGs,xGz,xGo,Act.put,xSi,xSz,xSs]))
          (refine held_one 10 (by kernel_rfl) (by rfl) ?_;(try simp only [xGs,xGz,xGo]);go_simp)
          refine HRU.out.mono ?_
          rintro e w14 ⟨rfl,hb⟩
          have HS14:=Lib.hid (H13.out.below ((Below.refl w13.heap.size w13).drew.trans hb))
          have HC14:=Lib.hid (show w14.cell? ⟨J,1,none⟩=some (.int .i64 vn)∧J < w14.heap.size∧w14.cell? ⟨Z,4,none⟩=some (.int .i64 t.trial)∧Z < w14.heap.size from ⟨(hb.cell lJ).trans y1,Nat.lt_of_lt_of_le lJ hb.size,(hb.cell lZ).trans z4,Nat.lt_of_lt_of_le lZ hb.size⟩)
          clear hb
          dsimp only
          (refine and_hand (HC14.out) (fun hHeld=>?_);(try simp only [xGs,xGz,xGo,Act.put,xSi,xSz,xSs]))
          (refine held_t 11 (h:=?_);(try simp only [xGs,xGz,xGo,Act.put,xSi,xSz,xSs]));(refine held_t 12 (h:=?_);(try simp only [xGs,xGz,xGo,Act.put,xSi,xSz,xSs]));(refine held_t 18 (h:=?_);(try simp only [xGs,xGz,xGo,Act.put,xSi,xSz,xSs]));(refine held_t 19 (h:=?_);(try simp only [xGs,xGz,xGo,Act.put,xSi,xSz,xSs]))
          refine held_end (by kernel_rfl) ?_
          clear hHeld
          go_wp2_with (fail)
          go_roundw
          case rel=>exact ⟨k+1,ad,m12,xs12,by omega,rfl,by go_num,HS14.out⟩
          case measure=>clear e4 e5 r5;simp [intOf];omega
         ·skip
          have HBO:=Lib.hid (boot_u HX.out 0)
          rw [tr_boot HDL.out HT7.out.2 HH0.out HH1.out,if_neg hkt] at HBO
          clear k1 k64 kk0 k0
          go_wp2_with (fail)
          refine HBO.out.mono ?_
          rintro e w12 ⟨KB,Kd,rfl,m12,xs12,hs⟩
          have H12:=Lib.hid (hs.move ((hs.st.pick 1 rfl).drop))
          dsimp only
          simp only [Img.val]
          generalize q.part=j0,q.hard=j1,q.mem=j2,q.fuel=j3,q.sends=j4,q.receives=j5,q.code.length=j6
          obtain ⟨vq,hvq⟩:∃v,v=q.version:=⟨_,rfl⟩
          rw [←hvq]
          have HVQ:=Lib.hid hvq
          obtain ⟨J,hJ⟩:∃J,J=w12.heap.size:=⟨_,rfl⟩
          obtain ⟨w13,hw13⟩:∃v,v=w12.alloc (.cells #[.int .i64 j0,.int .i64 vq,.int .i64 j1,.int .i64 j2,.int .i64 j3,.int .i64 j4,.int .i64 j5,.slice KB j6 Kd] 26):=⟨_,rfl⟩
          have h13:=H12.out.st.new 26 #[.int .i64 j0,.int .i64 vq,.int .i64 j1,.int .i64 j2,.int .i64 j3,.int .i64 j4,.int .i64 j5,.slice KB j6 Kd]
          rw [←hJ,←hw13] at h13
          have y1:w13.cell? ⟨J,1,none⟩=some (.int .i64 vq):=h13.row.1.cell 1
          have lJ:=h13.row.1.lt
          have hri:=(h13.pick 3 rfl).row.1
          have d1:w13.cell? ⟨I,1,none⟩=some (.int .i64 vn):=hri.cell 1
          have lI:=hri.lt
          have hrz:=(h13.pick 4 rfl).row.1
          have z4:w13.cell? ⟨Z,4,none⟩=some (.int .i64 t.trial):=hrz.cell 4
          have lZ:=hrz.lt
          have H13:=Lib.hid (H12.out.move h13.drop)
          have HJ:=Lib.hid hJ;have HW13:=Lib.hid hw13
          have e4:decide (t.trial≤(k:Int))=true:=by have:=HTRE.out;simp;omega
          have hw:IntKind.i64.wrap (vn-1)=vq:=by have:=HR.out.2.1;have:=HVN.out;have:=HQV.out;rw [IntWalk.i64_in _ (by omega)];omega
          clear hvq
          have HRU:=Lib.hid (record_u (H13.out.move (H13.out.st.drew)) 0)
          have hrec:dRec (trD D0 (trRec tr (k+1)) R0 R1) 0=trRec tr (k+1):=by unfold dRec;rw [if_neg (by rw [trD_len];have:=HDL.out;omega),show (0:Int).toNat=0 from rfl,trD_at HDL.out]
          have hbad:(trRec tr (k+1)).bad=2:=by unfold trRec;rw [if_neg (by omega)]
          have r5:=rfld5 (trRec tr (k+1))
          rw [hbad] at r5
          rw [hrec] at HRU
          generalize (trRec tr (k+1)).val=rv at *
          clear hs h13 hri hrz hJ hw13 HBO hrec hbad
          go_upto_region 32 with fail
          rw [←HW13.out,←HJ.out]
          go_upto_region 35 with fail
          have e5:(vq != vq)=false:=by simp
          refine held_start (fun w'=>w'.cell? ⟨J,1,none⟩=some (.int .i64 vq)∧J < w'.heap.size∧w'.cell? ⟨Z,4,none⟩=some (.int .i64 t.trial)∧Z < w'.heap.size) (by kernel_rfl) (⟨y1,lJ,z4,lZ⟩) (fun hHeld=>?_)
          (refine held_t 0 (h:=?_);(try simp only [xGs,xGz,xGo,Act.put,xSi,xSz,xSs]));(refine held_t 1 (h:=?_);(try simp only [xGs,xGz,xGo,Act.put,xSi,xSz,xSs]));(refine held_t 2 (h:=?_);(try simp only [xGs,xGz,xGo,Act.put,xSi,xSz,xSs]));(refine held_t 3 (h:=?_);(try simp only [xGs,xGz,xGo,Act.put,xSi,xSz,xSs]));(refine held_t 4 (h:=?_);(try simp only [xGs,xGz,xGo,Act.put,xSi,xSz,xSs]));(refine held_t 5 (h:=?_);(try simp only [xGs,xGz,xGo,Act.put,xSi,xSz,xSs]));(refine held_t 6 (h:=?_);(try simp only [xGs,xGz,xGo,Act.put,xSi,xSz,xSs]));(refine held_t 7 (h:=?_);(try simp only [xGs,xGz,xGo,Act.put,xSi,xSz,xSs]));(refine held_t 8 (h:=?_);(try simp only [xGs,xGz,xGo,Act.put,xSi,xSz,xSs]));(refine held_t 9 (h:=?_);(try simp only [xGs,xGz,xGo,Act.put,xSi,xSz,xSs]));(refine held_t 13 (h:=?_);(try simp only [xGs,xGz,xGo,Act.put,xSi,xSz,xSs]));(refine held_t 14 (h:=?_);(try simp only [xGs,xGz,xGo,Act.put,xSi,xSz,xSs]));(refine held_t 15 (h:=?_);(try simp only [xGs,xGz,xGo,Act.put,xSi,xSz,xSs]));(refine held_t 16 (h:=?_);(try simp only [xGs,xGz,xGo,Act.put,xSi,xSz,xSs]));(refine held_t 17 (h:=?_);(try simp only [xGs,xGz,xGo,Act.put,xSi,xSz,xSs]))
          (refine held_one 10 (by kernel_rfl) (by rfl) ?_;(try simp only [xGs,xGz,xGo]);go_simp)
          refine HRU.out.mono ?_
          rintro e w14 ⟨rfl,hb⟩
          have HS14:=Lib.hid (H13.out.below ((Below.refl w13.heap.size w13).drew.trans hb))
          have HC14:=Lib.hid (show w14.cell? ⟨J,1,none⟩=some (.int .i64 vq)∧J < w14.heap.size∧w14.cell? ⟨Z,4,none⟩=some (.int .i64 t.trial)∧Z < w14.heap.size from ⟨(hb.cell lJ).trans y1,Nat.lt_of_lt_of_le lJ hb.size,(hb.cell lZ).trans z4,Nat.lt_of_lt_of_le lZ hb.size⟩)
          clear hb
          dsimp only
          (refine and_hand (HC14.out) (fun hHeld=>?_);(try simp only [xGs,xGz,xGo,Act.put,xSi,xSz,xSs]))
          (refine held_t 11 (h:=?_);(try simp only [xGs,xGz,xGo,Act.put,xSi,xSz,xSs]));(refine held_t 12 (h:=?_);(try simp only [xGs,xGz,xGo,Act.put,xSi,xSz,xSs]));(refine held_t 18 (h:=?_);(try simp only [xGs,xGz,xGo,Act.put,xSi,xSz,xSs]));(refine held_t 19 (h:=?_);(try simp only [xGs,xGz,xGo,Act.put,xSi,xSz,xSs]))
          refine held_end (by kernel_rfl) ?_
          clear hHeld
          go_wp2_with (fail)
          go_roundw
          case rel=>exact ⟨k+1,ad,m12,xs12,by omega,rfl,by go_num,HS14.out⟩
          case measure=>clear e4 e5 r5 hw;simp [intOf];omega
        ·have HDK:=Lib.hid (dsk_power (str_dsk HS.out.st) keep HK2.out.1 HK2.out.2 (by rw [HS.out.inv.calm.waits];simp))
         go_wp2_with (fail)
         refine HDK.out.mono ?_
         rintro e wp ⟨rfl,hst⟩
         have HP:=Lib.hid hst
         have hz:=(hst.pick 3 rfl).row.1
         have z0:wp.cell? ⟨Z,0,none⟩=some (.int .i64 t.frame):=hz.cell 0
         have z1:wp.cell? ⟨Z,1,none⟩=some (.slice a.AP t.parts.length a.cP):=hz.cell 1
         have z2:wp.cell? ⟨Z,2,none⟩=some (.slice a.AW t.wins.length a.cW):=hz.cell 2
         have z3:wp.cell? ⟨Z,3,none⟩=some (.slice a.AC t.chans.length a.cC):=hz.cell 3
         have z4:wp.cell? ⟨Z,4,none⟩=some (.int .i64 t.trial):=hz.cell 4
         have lZ:=hz.lt
         have HOU:=Lib.hid (open_u (a:=a) (t:=t) HP.out (HS.out.inv.power keep) (HIN.out wp hst.bel).tab HF.out.right HS.out.len (by rw [DS.power_slen];exact HS.out.room) (tr_runs HDL.out HDR.out HH0.out HH1.out))
         simp only [TabA.val] at HOU
         clear hst hz HDK
         go_wp2_with (fail)
         refine HOU.out.mono ?_
         rintro e wo ⟨ad,rfl,hs⟩
         have HX:=Lib.hid hs
         clear hs HOU z0 z1 z2 z3 z4 lZ
         dsimp only
         by_cases hkt:k < tr
         ·skip
          have HBO:=Lib.hid (boot_u HX.out 0)
          rw [tr_boot HDL.out HT7.out.2 HH0.out HH1.out,if_pos hkt] at HBO
          have hq:j.version=vn:=HJVER.out
          clear k1 k64 kk0 k0
          go_wp2_with (fail)
          refine HBO.out.mono ?_
          rintro e w12 ⟨KB,Kd,rfl,m12,xs12,hs⟩
          have H12:=Lib.hid (hs.move ((hs.st.pick 1 rfl).drop))
          dsimp only
          simp only [Img.val]
          rw [hq]
          generalize j.part=j0,j.hard=j1,j.mem=j2,j.fuel=j3,j.sends=j4,j.receives=j5,j.code.length=j6
          obtain ⟨vq,hvq⟩:∃v,v=vn:=⟨_,rfl⟩
          obtain ⟨J,hJ⟩:∃J,J=w12.heap.size:=⟨_,rfl⟩
          obtain ⟨w13,hw13⟩:∃v,v=w12.alloc (.cells #[.int .i64 j0,.int .i64 vn,.int .i64 j1,.int .i64 j2,.int .i64 j3,.int .i64 j4,.int .i64 j5,.slice KB j6 Kd] 26):=⟨_,rfl⟩
          have h13:=H12.out.st.new 26 #[.int .i64 j0,.int .i64 vn,.int .i64 j1,.int .i64 j2,.int .i64 j3,.int .i64 j4,.int .i64 j5,.slice KB j6 Kd]
          rw [←hJ,←hw13] at h13
          have y1:w13.cell? ⟨J,1,none⟩=some (.int .i64 vn):=h13.row.1.cell 1
          have lJ:=h13.row.1.lt
          have hri:=(h13.pick 3 rfl).row.1
          have d1:w13.cell? ⟨I,1,none⟩=some (.int .i64 vn):=hri.cell 1
          have lI:=hri.lt
          have hrz:=(h13.pick 4 rfl).row.1
          have z4:w13.cell? ⟨Z,4,none⟩=some (.int .i64 t.trial):=hrz.cell 4
          have lZ:=hrz.lt
          have H13:=Lib.hid (H12.out.move h13.drop)
          have HJ:=Lib.hid hJ;have HW13:=Lib.hid hw13
          have e4:decide (t.trial≤(k:Int))=false:=by have:=HTRE.out;simp;omega
          have HRU:=Lib.hid (record_u (H13.out.move (H13.out.st.drew)) 0)
          have hrec:dRec (trD D0 (trRec tr (k+1)) R0 R1) 0=trRec tr (k+1):=by unfold dRec;rw [if_neg (by rw [trD_len];have:=HDL.out;omega),show (0:Int).toNat=0 from rfl,trD_at HDL.out]
          have hbad:(trRec tr (k+1)).bad=0:=by unfold trRec;rw [if_pos (by omega)]
          have r5:=rfld5 (trRec tr (k+1))
          rw [hbad] at r5
          rw [hrec] at HRU
          generalize (trRec tr (k+1)).val=rv at *
          clear hs h13 hri hrz hJ hw13 HBO hq hrec hbad
          go_upto_region 32 with fail
          rw [←HW13.out,←HJ.out]
          go_upto_region 35 with fail
          have e5:(vn != vn)=false:=by simp
          refine held_start (fun w'=>w'.cell? ⟨J,1,none⟩=some (.int .i64 vn)∧J < w'.heap.size∧w'.cell? ⟨Z,4,none⟩=some (.int .i64 t.trial)∧Z < w'.heap.size) (by kernel_rfl) (⟨y1,lJ,z4,lZ⟩) (fun hHeld=>?_)
          (refine held_t 0 (h:=?_);(try simp only [xGs,xGz,xGo,Act.put,xSi,xSz,xSs]));(refine held_t 1 (h:=?_);(try simp only [xGs,xGz,xGo,Act.put,xSi,xSz,xSs]));(refine held_t 2 (h:=?_);(try simp only [xGs,xGz,xGo,Act.put,xSi,xSz,xSs]));(refine held_t 3 (h:=?_);(try simp only [xGs,xGz,xGo,Act.put,xSi,xSz,xSs]));(refine held_t 4 (h:=?_);(try simp only [xGs,xGz,xGo,Act.put,xSi,xSz,xSs]));(refine held_t 5 (h:=?_);(try simp only [xGs,xGz,xGo,Act.put,xSi,xSz,xSs]));(refine held_t 6 (h:=?_);(try simp only [xGs,xGz,xGo,Act.put,xSi,xSz,xSs]));(refine held_t 7 (h:=?_);(try simp only [xGs,xGz,xGo,Act.put,xSi,xSz,xSs]));(refine held_t 8 (h:=?_);(try simp only [xGs,xGz,xGo,Act.put,xSi,xSz,xSs]));(refine held_t 9 (h:=?_);(try simp only [xGs,xGz,xGo,Act.put,xSi,xSz,xSs]));(refine held_t 13 (h:=?_);(try simp only [xGs,xGz,xGo,Act.put,xSi,xSz,xSs]));(refine held_t 14 (h:=?_);(try simp only [xGs,xGz,xGo,Act.put,xSi,xSz,xSs]));(refine held_t 15 (h:=?_);(try simp only [xGs,xGz,xGo,Act.put,xSi,xSz,xSs]));(refine held_t 16 (h:=?_);(try simp only [xGs,xGz,xGo,Act.put,xSi,xSz,xSs]));(refine held_t 17 (h:=?_);(try simp only [xGs,xGz,xGo,Act.put,xSi,xSz,xSs]))
          (refine held_one 10 (by kernel_rfl) (by rfl) ?_;(try simp only [xGs,xGz,xGo]);go_simp)
          refine HRU.out.mono ?_
          rintro e w14 ⟨rfl,hb⟩
          have HS14:=Lib.hid (H13.out.below ((Below.refl w13.heap.size w13).drew.trans hb))
          have HC14:=Lib.hid (show w14.cell? ⟨J,1,none⟩=some (.int .i64 vn)∧J < w14.heap.size∧w14.cell? ⟨Z,4,none⟩=some (.int .i64 t.trial)∧Z < w14.heap.size from ⟨(hb.cell lJ).trans y1,Nat.lt_of_lt_of_le lJ hb.size,(hb.cell lZ).trans z4,Nat.lt_of_lt_of_le lZ hb.size⟩)
          clear hb
          dsimp only
          (refine and_hand (HC14.out) (fun hHeld=>?_);(try simp only [xGs,xGz,xGo,Act.put,xSi,xSz,xSs]))
          (refine held_t 11 (h:=?_);(try simp only [xGs,xGz,xGo,Act.put,xSi,xSz,xSs]));(refine held_t 12 (h:=?_);(try simp only [xGs,xGz,xGo,Act.put,xSi,xSz,xSs]));(refine held_t 18 (h:=?_);(try simp only [xGs,xGz,xGo,Act.put,xSi,xSz,xSs]));(refine held_t 19 (h:=?_);(try simp only [xGs,xGz,xGo,Act.put,xSi,xSz,xSs]))
          refine held_end (by kernel_rfl) ?_
          clear hHeld
          go_wp2_with (fail)
          go_roundw
          case rel=>exact ⟨k+1,ad,m12,xs12,by omega,rfl,by go_num,HS14.out⟩
          case measure=>clear e4 e5 r5;simp [intOf];omega
         ·skip
          have HBO:=Lib.hid (boot_u HX.out 0)
          rw [tr_boot HDL.out HT7.out.2 HH0.out HH1.out,if_neg hkt] at HBO
          clear k1 k64 kk0 k0
          go_wp2_with (fail)
          refine HBO.out.mono ?_
          rintro e w12 ⟨KB,Kd,rfl,m12,xs12,hs⟩
          have H12:=Lib.hid (hs.move ((hs.st.pick 1 rfl).drop))
          dsimp only
          simp only [Img.val]
          generalize q.part=j0,q.hard=j1,q.mem=j2,q.fuel=j3,q.sends=j4,q.receives=j5,q.code.length=j6
          obtain ⟨vq,hvq⟩:∃v,v=q.version:=⟨_,rfl⟩
          rw [←hvq]
          have HVQ:=Lib.hid hvq
          obtain ⟨J,hJ⟩:∃J,J=w12.heap.size:=⟨_,rfl⟩
          obtain ⟨w13,hw13⟩:∃v,v=w12.alloc (.cells #[.int .i64 j0,.int .i64 vq,.int .i64 j1,.int .i64 j2,.int .i64 j3,.int .i64 j4,.int .i64 j5,.slice KB j6 Kd] 26):=⟨_,rfl⟩
          have h13:=H12.out.st.new 26 #[.int .i64 j0,.int .i64 vq,.int .i64 j1,.int .i64 j2,.int .i64 j3,.int .i64 j4,.int .i64 j5,.slice KB j6 Kd]
          rw [←hJ,←hw13] at h13
          have y1:w13.cell? ⟨J,1,none⟩=some (.int .i64 vq):=h13.row.1.cell 1
          have lJ:=h13.row.1.lt
          have hri:=(h13.pick 3 rfl).row.1
          have d1:w13.cell? ⟨I,1,none⟩=some (.int .i64 vn):=hri.cell 1
          have lI:=hri.lt
          have hrz:=(h13.pick 4 rfl).row.1
          have z4:w13.cell? ⟨Z,4,none⟩=some (.int .i64 t.trial):=hrz.cell 4
          have lZ:=hrz.lt
          have H13:=Lib.hid (H12.out.move h13.drop)
          have HJ:=Lib.hid hJ;have HW13:=Lib.hid hw13
          have e4:decide (t.trial≤(k:Int))=true:=by have:=HTRE.out;simp;omega
          have hw:IntKind.i64.wrap (vn-1)=vq:=by have:=HR.out.2.1;have:=HVN.out;have:=HQV.out;rw [IntWalk.i64_in _ (by omega)];omega
          clear hvq
          have HRU:=Lib.hid (record_u (H13.out.move (H13.out.st.drew)) 0)
          have hrec:dRec (trD D0 (trRec tr (k+1)) R0 R1) 0=trRec tr (k+1):=by unfold dRec;rw [if_neg (by rw [trD_len];have:=HDL.out;omega),show (0:Int).toNat=0 from rfl,trD_at HDL.out]
          have hbad:(trRec tr (k+1)).bad=2:=by unfold trRec;rw [if_neg (by omega)]
          have r5:=rfld5 (trRec tr (k+1))
          rw [hbad] at r5
          rw [hrec] at HRU
          generalize (trRec tr (k+1)).val=rv at *
          clear hs h13 hri hrz hJ hw13 HBO hrec hbad
          go_upto_region 32 with fail
          rw [←HW13.out,←HJ.out]
          go_upto_region 35 with fail
          have e5:(vq != vq)=false:=by simp
          refine held_start (fun w'=>w'.cell? ⟨J,1,none⟩=some (.int .i64 vq)∧J < w'.heap.size∧w'.cell? ⟨Z,4,none⟩=some (.int .i64 t.trial)∧Z < w'.heap.size) (by kernel_rfl) (⟨y1,lJ,z4,lZ⟩) (fun hHeld=>?_)
          (refine held_t 0 (h:=?_);(try simp only [xGs,xGz,xGo,Act.put,xSi,xSz,xSs]));(refine held_t 1 (h:=?_);(try simp only [xGs,xGz,xGo,Act.put,xSi,xSz,xSs]));(refine held_t 2 (h:=?_);(try simp only [xGs,xGz,xGo,Act.put,xSi,xSz,xSs]));(refine held_t 3 (h:=?_);(try simp only [xGs,xGz,xGo,Act.put,xSi,xSz,xSs]));(refine held_t 4 (h:=?_);(try simp only [xGs,xGz,xGo,Act.put,xSi,xSz,xSs]));(refine held_t 5 (h:=?_);(try simp only [xGs,xGz,xGo,Act.put,xSi,xSz,xSs]));(refine held_t 6 (h:=?_);(try simp only [xGs,xGz,xGo,Act.put,xSi,xSz,xSs]));(refine held_t 7 (h:=?_);(try simp only [xGs,xGz,xGo,Act.put,xSi,xSz,xSs]));(refine held_t 8 (h:=?_);(try simp only [xGs,xGz,xGo,Act.put,xSi,xSz,xSs]));(refine held_t 9 (h:=?_);(try simp only [xGs,xGz,xGo,Act.put,xSi,xSz,xSs]));(refine held_t 13 (h:=?_);(try simp only [xGs,xGz,xGo,Act.put,xSi,xSz,xSs]));(refine held_t 14 (h:=?_);(try simp only [xGs,xGz,xGo,Act.put,xSi,xSz,xSs]));(refine held_t 15 (h:=?_);(try simp only [xGs,xGz,xGo,Act.put,xSi,xSz,xSs]));(refine held_t 16 (h:=?_);(try simp only [xGs,xGz,xGo,Act.put,xSi,xSz,xSs]));(refine held_t 17 (h:=?_);(try simp only [xGs,xGz,xGo,Act.put,xSi,xSz,xSs]))
          (refine held_one 10 (by kernel_rfl) (by rfl) ?_;(try simp only [xGs,xGz,xGo]);go_simp)
          refine HRU.out.mono ?_
          rintro e w14 ⟨rfl,hb⟩
          have HS14:=Lib.hid (H13.out.below ((Below.refl w13.heap.size w13).drew.trans hb))
          have HC14:=Lib.hid (show w14.cell? ⟨J,1,none⟩=some (.int .i64 vq)∧J < w14.heap.size∧w14.cell? ⟨Z,4,none⟩=some (.int .i64 t.trial)∧Z < w14.heap.size from ⟨(hb.cell lJ).trans y1,Nat.lt_of_lt_of_le lJ hb.size,(hb.cell lZ).trans z4,Nat.lt_of_lt_of_le lZ hb.size⟩)
          clear hb
          dsimp only
          (refine and_hand (HC14.out) (fun hHeld=>?_);(try simp only [xGs,xGz,xGo,Act.put,xSi,xSz,xSs]))
          (refine held_t 11 (h:=?_);(try simp only [xGs,xGz,xGo,Act.put,xSi,xSz,xSs]));(refine held_t 12 (h:=?_);(try simp only [xGs,xGz,xGo,Act.put,xSi,xSz,xSs]));(refine held_t 18 (h:=?_);(try simp only [xGs,xGz,xGo,Act.put,xSi,xSz,xSs]));(refine held_t 19 (h:=?_);(try simp only [xGs,xGz,xGo,Act.put,xSi,xSz,xSs]))
          refine held_end (by kernel_rfl) ?_
          clear hHeld
          go_wp2_with (fail)
          go_roundw
          case rel=>exact ⟨k+1,ad,m12,xs12,by omega,rfl,by go_num,HS14.out⟩
          case measure=>clear e4 e5 r5 hw;simp [intOf];omega
       ·have hkn:k=bn:=by omega
        subst hkn
        have k1:¬(k:Int) < (k:Int):=by omega
        have HRU:=Lib.hid (record_u HS.out 0)
        have hrec:dRec (trD D0 (trRec tr k) R0 R1) 0=trRec tr k:=by unfold dRec;rw [if_neg (by rw [trD_len];have:=HDL.out;omega),show (0:Int).toNat=0 from rfl,trD_at HDL.out]
        have hcf:(trRec tr k).confirmed=0:=by unfold trRec;split<;>rfl
        have r3:=rfld3 (trRec tr k)
        rw [hcf] at r3
        rw [hrec] at HRU
        generalize (trRec tr k).val=rv at *
        clear hrec hcf
        go_wp2_with (fail)
        refine HRU.out.mono ?_
        rintro e w14 ⟨rfl,hb⟩
        have HE:=Lib.hid (HS.out.st.bel.trans (hb.mono HS.out.st.bel.size))
        clear hb
        go_wp2_with (fail)
        go_ret
        exact ⟨rfl,HE.out⟩
set_option maxRecDepth 100000 in
theorem lifted (os:Os) (started:os.Started) (H:Type) (enc:TypeId×Value→H) :
  ReturnsInHanded {} Tryz.checked os 6 .any (Rows.storeTrialsSpec.pre6 enc Tryz.prog Tryz.f6 Rows.storeTrialsRow.domain false) (Rows.storeTrialsSpec.post enc Tryz.prog Tryz.f6 false true false false):=by
 refine returnsInHanded_of_change (C:=Tryz.checked) Go.Proofs.YtdldkkoplgkloaaGreat.lift.own started (by kernel_rfl) Tryz.func6
  (ChangeSpec.witness6 (enc:=enc) (C:=Tryz.checked) false ⟨#[],#[.agg #[.int .i64 0,.slice none 0 0,.slice none 0 0,.slice none 0 0,.int .i64 0,.slice none 0 0],.int .u8 0,.int .u64 0],[]⟩ 8 (by kernel_rfl) (by kernel_rfl) (by kernel_rfl) (by kernel_rfl)) ?_
 intro W base args ds gs before hval0 hW hcnd _
 have hval:∀(j:Nat) t v,Tryz.f6.params[j]?=some t→args[j]?=some v→Value.okWide Tryz.prog W .any base t v:=hval0
 have hW':=hW
 obtain ⟨p,q,hA0,hV,rfl,hfz,hnd⟩:=hW
 have hA:DataW.TrodAll enc Tryz.prog W 0 (fun _=>true) true Tryz.f6.params.toList args.toList ds p:=hA0
 have hAk:=hA
 rw [Tryz.params6] at hA hval
 obtain ⟨v0,vs0,d0,ds0,p0,q0,hargs,rfl,rfl,h0,r0⟩:=trodAll_cons hA
 obtain ⟨v1,vs1,d1,ds1,p1,q1,rfl,rfl,rfl,h1,r1⟩:=trodAll_cons r0
 obtain ⟨v2,vs2,d2,ds2,p2,q2,rfl,rfl,rfl,h2,r2⟩:=trodAll_cons r1
 obtain ⟨rfl,rfl,rfl⟩:=trodAll_nil r2
 obtain rfl:args=#[v0,v1,v2]:=by cases args;simp_all
 obtain ⟨rfl,rfl⟩:=trodVars_none hV
 have hlt:=hW'.lt
 obtain ⟨a,t,AI,nI,cI,js,K,rfl,hin⟩:=store.arg_lay (hval 0 49 v0 rfl rfl) h0
 obtain ⟨a1,rfl,_,_,w1⟩:=open_int Tryz.underlying5 (hval 1 5 v1 rfl rfl) h1
 obtain ⟨a2,rfl,_,_,w2⟩:=open_int Tryz.underlying56 (hval 2 56 v2 rfl rfl) h2
 refine (walk W a t AI nI cI js K hin a1 w1 a2 w2).mono fun e W' ⟨he,hg⟩=>?_
 subst he
 exact ⟨_,rfl,Go.Proofs.YtdldkkoplgkloaaGreat.base.postBelow (pv:=[]) hW' (fun _ _ _=>(trodAll_cons_mk (shut_bool Tryz.underlying4 _) trodAll_mk0)) (fun sp hsp=>Go.Proofs.YtdldkkoplgkloaaGreat.lift.args_stay Go.Proofs.YtdldkkoplgkloaaGreat.lift.laidOut hg _ _ _ _ (by kernel_rfl) hAk (fun x hx=>hlt x (by simpa using hx)) (fun x hx=>hsp x (by simpa using hx))) (fun _ _=>rfl) (by simp)
  hg (ok_one (by kernel_rfl) rfl (okWide_bool_mk Tryz.underlying4 _))⟩
theorem over:Rows.storeTrialsRow.holds Tryz.pinned (OpenSpec.ofChange Rows.storeTrialsSpec) :=
 OpenClaim.holds_of_wide 6 Tryz.f6 rfl rfl rfl rfl rfl rfl rfl ⟨rfl,rfl,rfl,rfl,rfl⟩ rfl rfl rfl rfl rfl (by kernel_rfl) Tryz.func6 (by kernel_rfl)
  (of_decide_eq_true (by kernel_rfl)) (by unfold Func.isWrapper;first|(rw [if_pos (by decide +kernel)];kernel_rfl)|(rw [if_neg (by decide +kernel)];exact ⟨rfl,rfl⟩))
  (fun os started H enc _=>lifted os started H enc)
theorem proved:Rows.StoreTrialsSaid :=
 over
#print axioms proved
end storeTrials
end Go.Proofs.YtdldkkoplgkloaaGreat
