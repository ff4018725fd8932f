/-
  PROVED HERE: longeronlaw14.StoreMakes is true whatever the input: a store is made of any disk, table and images that fit, or refused as the document says; it opens, and runs them.
  CONDITIONS: none beyond the row's own.
-/
import Derived.Test.YtdldkkoplgkloaaGreatPz19
import Derived.Test.YtdldkkoplgkloaaGreatPz38
import Derived.Test.YtdldkkoplgkloaaGreatPz41
namespace Go.Proofs.YtdldkkoplgkloaaGreat
set_option linter.unusedVariables false
set_option linter.unusedSimpArgs false
set_option maxRecDepth 100000
set_option maxHeartbeats 32000000
namespace storeMakes


open Go.RowKit Go.ChangeShapes Go.WideShapes Go.ChangeAt Go.Deep Go.Joins base obj mem sep plan disk record commit stage image tab compat chain crc store
theorem walk (w:World) (a:TabA) (t:Tab) (AI:Option Addr) (nI cI:Nat) (js:List Img) (K:Nat→Option Addr×Nat) (hin:LayIn w a t AI nI cI js K) (sectors:Int) (hse:(Lit.int .i64 sectors).wf=true) :
  Calls Tryz.prog 7 #[.agg #[.int .i64 t.frame,.slice a.AP t.parts.length a.cP,.slice a.AW t.wins.length a.cW,.slice a.AC t.chans.length a.cC,.int .i64 t.trial,.slice AI nI cI],.int .i64 sectors] w fun e w'=>e=.returned (.bool true)∧Below w.heap.size w w':=by
 obtain ⟨Z,hZ⟩:∃Z,Z=w.heap.size:=⟨_,rfl⟩
 obtain ⟨w1,hw1⟩:∃w1,w1=w.alloc (.cells #[.int .i64 t.frame,.slice a.AP t.parts.length a.cP,.slice a.AW t.wins.length a.cW,.slice a.AC t.chans.length a.cC,.int .i64 t.trial,.slice AI nI cI] 49):=⟨_,rfl⟩
 have h1:St w w1 [row Z 49 [.int .i64 t.frame,.slice a.AP t.parts.length a.cP,.slice a.AW t.wins.length a.cW,.slice a.AC t.chans.length a.cC,.int .i64 t.trial,.slice AI nI cI]]:=by
  have h3:=(St.nil w).new 49 #[.int .i64 t.frame,.slice a.AP t.parts.length a.cP,.slice a.AW t.wins.length a.cW,.slice a.AC t.chans.length a.cC,.int .i64 t.trial,.slice AI nI cI]
  rw [←hw1,←hZ] at h3
  exact h3
 have H1:=Lib.hid h1
 have HB1:=Lib.hid h1.bel
 have HIN:=Lib.hid (fun (w':World) (hb:Below w.heap.size w w')=>hin.over hb)
 have HZ:=Lib.hid hZ;have HW1:=Lib.hid hw1
 clear h1 hw1 hZ hin hse
 go_enter Tryz.func7,Tryz.ntmps7
 go_upto_region 1 with fail
 rw [←HW1.out,←HZ.out]
 go_wp2_with (fail)
 refine (wakes_at w1).mono ?_
 rintro e w2 ⟨rfl,hb⟩
 have HB2:=Lib.hid hb
 have HW2:=Lib.hid (HB1.out.trans (hb.mono HB1.out.size))
 have hz:=(H1.out.below hb).row.1
 have z0:w2.cell? ⟨Z,0,none⟩=some (.int .i64 t.frame):=hz.cell 0
 have z1:w2.cell? ⟨Z,1,none⟩=some (.slice a.AP t.parts.length a.cP):=hz.cell 1
 have z2:w2.cell? ⟨Z,2,none⟩=some (.slice a.AW t.wins.length a.cW):=hz.cell 2
 have z3:w2.cell? ⟨Z,3,none⟩=some (.slice a.AC t.chans.length a.cC):=hz.cell 3
 have z4:w2.cell? ⟨Z,4,none⟩=some (.int .i64 t.trial):=hz.cell 4
 have z5:w2.cell? ⟨Z,5,none⟩=some (.slice AI nI cI):=hz.cell 5
 have lZ:=hz.lt
 clear hb hz
 by_cases g1:t.parts.length≤20
 case neg =>
  have k1:decide ((20:Int) < (t.parts.length:Int))=true:=by simp;omega
  have k1':decide (20 < t.parts.length)=true:=by simp;omega
  clear g1
  go_wp2_with (fail)
  go_ret
  exact ⟨rfl,HW2.out⟩
 case pos =>
  have k1:decide ((20:Int) < (t.parts.length:Int))=false:=by simp;omega
  have k1':decide (20 < t.parts.length)=false:=by simp;omega
  by_cases g2:t.wins.length≤40
  case neg =>
   have k2:decide ((40:Int) < (t.wins.length:Int))=true:=by simp;omega
   have k2':decide (40 < t.wins.length)=true:=by simp;omega
   clear g1 g2
   go_wp2_with (fail)
   go_ret
   exact ⟨rfl,HW2.out⟩
  case pos =>
   have k2:decide ((40:Int) < (t.wins.length:Int))=false:=by simp;omega
   have k2':decide (40 < t.wins.length)=false:=by simp;omega
   by_cases g3:t.chans.length≤20
   case neg =>
    have k3:decide ((20:Int) < (t.chans.length:Int))=true:=by simp;omega
    have k3':decide (20 < t.chans.length)=true:=by simp;omega
    clear g1 g2 g3
    go_wp2_with (fail)
    go_ret
    exact ⟨rfl,HW2.out⟩
   case pos =>
    have k3:decide ((20:Int) < (t.chans.length:Int))=false:=by simp;omega
    have k3':decide (20 < t.chans.length)=false:=by simp;omega
    by_cases g4:nI≤10
    case neg =>
     have k4:decide ((10:Int) < (nI:Int))=true:=by simp;omega
     have k4':decide (10 < nI)=true:=by simp;omega
     clear g1 g2 g3 g4
     go_wp2_with (fail)
     go_ret
     exact ⟨rfl,HW2.out⟩
    case pos =>
     have k4:decide ((10:Int) < (nI:Int))=false:=by simp;omega
     have k4':decide (10 < nI)=false:=by simp;omega
     have HG1:=Lib.hid g1;have HG4:=Lib.hid g4
     clear g1 g2 g3
     go_wp2_with (fail)
     clear z0 z1 z2 z3 z4 z5 lZ k1 k1' k2 k2' k3 k3' k4 k4'
     go_loopw [49] (fun x wr=>∃q:Nat,q≤nI∧x=.int .i64 (q:Int)∧Below w1.heap.size w1 wr∧∀k:Nat,k < q→(js.getD k Img.none).code.length≤500) (fun x _=>nI-(intOf x).toNat)
     case atStart=>exact ⟨0,by omega,rfl,HB2.out,fun k hk=>absurd hk (by omega)⟩
     case round =>
      obtain ⟨q,hq1,rfl,hbr,hsh⟩:=hrel
      have HBR:=Lib.hid hbr;have HS:=Lib.hid hsh
      have HWR:=Lib.hid (HB1.out.trans (hbr.mono HB1.out.size))
      clear hbr hsh HB2 HW2
      by_cases hlt2:q < nI
      ·obtain ⟨b,off,hA,hbl,c0,c1,c2,c3,c4,c5,c6,c7,hck,hsk⟩:=(HIN.out wr HWR.out).imgs.at_ q hlt2
       generalize (K q).1=KA,(K q).2=Kc at *
       have HLQ:=Lib.hid (fun (h:(js.getD q Img.none).code.length≤500) (k:Nat) (hk:k < q+1)=>show (js.getD k Img.none).code.length≤500 from by
        by_cases hkq:k < q
        ·exact HS.out k hkq
        ·rw [show k=q by omega];exact h)
       generalize (js.getD q Img.none).part=i0,(js.getD q Img.none).version=i1,(js.getD q Img.none).hard=i2,(js.getD q Img.none).mem=i3,(js.getD q Img.none).fuel=i4,(js.getD q Img.none).sends=i5,(js.getD q Img.none).receives=i6,(js.getD q Img.none).code.length=i7 at *
       have k0:(0:Int)≤(q:Int):=by omega
       have k1:(q:Int) < (nI:Int):=by omega
       have HBA:=Lib.hid (show Below w1.heap.size w1 (wr.alloc (.cells #[.int .i64 i0,.int .i64 i1,.int .i64 i2,.int .i64 i3,.int .i64 i4,.int .i64 i5,.int .i64 i6,.slice KA i7 Kc] 26)) from HBR.out.trans (((Below.refl wr.heap.size wr).alloc (Nat.le_refl _) _).mono HBR.out.size))
       have HWA:=Lib.hid (HB1.out.trans (HBA.out.mono HB1.out.size))
       have HA:=Lib.hid hA
       clear hck hsk hA
       rw [HA.out]
       by_cases h200:i7≤500
       ·have k3:decide ((500:Int) < (i7:Int))=false:=by simp;omega
        have HQ:=Lib.hid (HLQ.out h200)
        clear HLQ h200
        go_wp2_with (fail)
        go_roundw
        case rel=>exact ⟨q+1,by omega,by go_num,HBA.out,HQ.out⟩
        case measure=>simp [intOf];omega
       ·have k3:decide ((500:Int) < (i7:Int))=true:=by simp;omega
        clear HLQ h200
        go_wp2_with (fail)
        go_ret
        exact ⟨rfl,HWA.out⟩
      ·have hqn:q=nI:=by omega
       subst hqn
       have k1:¬(q:Int) < (q:Int):=by omega
       have hst:=H1.out.below HBR.out
       have hz:=hst.row.1
       have z0:wr.cell? ⟨Z,0,none⟩=some (.int .i64 t.frame):=hz.cell 0
       have z1:wr.cell? ⟨Z,1,none⟩=some (.slice a.AP t.parts.length a.cP):=hz.cell 1
       have z2:wr.cell? ⟨Z,2,none⟩=some (.slice a.AW t.wins.length a.cW):=hz.cell 2
       have z3:wr.cell? ⟨Z,3,none⟩=some (.slice a.AC t.chans.length a.cC):=hz.cell 3
       have z4:wr.cell? ⟨Z,4,none⟩=some (.int .i64 t.trial):=hz.cell 4
       have z5:wr.cell? ⟨Z,5,none⟩=some (.slice AI q cI):=hz.cell 5
       have lZ:=hz.lt
       have HST:=Lib.hid hst
       have HMN:=Lib.hid (smake_nil wr a t AI q cI)
       simp only [TabA.val] at HMN
       clear hst hz
       go_wp2_with (fail)
       refine HMN.out.mono ?_
       rintro e w3 ⟨rfl,hb⟩
       have H3:=Lib.hid (HST.out.below hb)
       clear hb z0 z1 z2 z3 z4 z5 lZ HMN
       have hz:=H3.out.row.1
       have z0:w3.cell? ⟨Z,0,none⟩=some (.int .i64 t.frame):=hz.cell 0
       have z1:w3.cell? ⟨Z,1,none⟩=some (.slice a.AP t.parts.length a.cP):=hz.cell 1
       have z2:w3.cell? ⟨Z,2,none⟩=some (.slice a.AW t.wins.length a.cW):=hz.cell 2
       have z3:w3.cell? ⟨Z,3,none⟩=some (.slice a.AC t.chans.length a.cC):=hz.cell 3
       have z4:w3.cell? ⟨Z,4,none⟩=some (.int .i64 t.trial):=hz.cell 4
       have z5:w3.cell? ⟨Z,5,none⟩=some (.slice AI q cI):=hz.cell 5
       have lZ:=hz.lt
       have HON:=Lib.hid (sopen_nil w3 a t)
       simp only [TabA.val] at HON
       clear hz
       go_wp2_with (fail)
       refine HON.out.mono ?_
       rintro e w4 ⟨rfl,hb⟩
       have H4:=Lib.hid (H3.out.below hb)
       clear hb z0 z1 z2 z3 z4 z5 lZ HON
       have HDN:=Lib.hid (dsk_new H4.out sectors)
       go_wp2_with (fail)
       refine HDN.out.mono ?_
       rintro e w5 ⟨d,rfl,h5⟩
       obtain ⟨N,hN⟩:∃N,N=clampN sectors:=⟨_,rfl⟩
       rw [←hN] at h5
       have hN2:1≤N∧N≤128:=by
        rw [hN];unfold clampN
        split
        ·omega
        ·split<;>omega
       have H5:=Lib.hid (h5.swap.addFact trivial |> fun (h:St w w5 (fact True::_))=>(h.pick 2 rfl))
       have hz:=h5.swap.row.1
       have z0:w5.cell? ⟨Z,0,none⟩=some (.int .i64 t.frame):=hz.cell 0
       have z1:w5.cell? ⟨Z,1,none⟩=some (.slice a.AP t.parts.length a.cP):=hz.cell 1
       have z2:w5.cell? ⟨Z,2,none⟩=some (.slice a.AW t.wins.length a.cW):=hz.cell 2
       have z3:w5.cell? ⟨Z,3,none⟩=some (.slice a.AC t.chans.length a.cC):=hz.cell 3
       have z4:w5.cell? ⟨Z,4,none⟩=some (.int .i64 t.trial):=hz.cell 4
       have z5:w5.cell? ⟨Z,5,none⟩=some (.slice AI q cI):=hz.cell 5
       have lZ:=hz.lt
       have HN2:=Lib.hid hN2
       have HCL:=Lib.hid (calm_new (n:=N) hN2.1 hN2.2)
       have HLN:=Lib.hid (show (DS.new N).secs.length=N by simp [DS.new])
       clear h5 hz hN hN2 HDN
       have hjl:=(HIN.out w5 H5.out.bel).imgs.len
       have hlens:=(HIN.out w5 H5.out.bel).lens
       have HJL:=Lib.hid hjl
       have hE0:makeE N t js=if wrongL N t≠0 then wrongL N t else if js.length≠t.parts.length then 3 else firstE t 0 js:=rfl
       have HMKN:=Lib.hid (fun (h:makeE N t js≠0)=>make_no (cI:=cI) (K:=K) (js:=js) (a:=a) (t:=t) H5.out (fun w' l' h=>(HIN.out w' h.bel).imgs) (HIN.out w5 H5.out.bel).tab (by rw [HLN.out];exact h) hlens)
       rw [HLN.out] at HMKN
       simp only [TabA.val] at HMKN
       by_cases hr:t.right=true
       case neg =>
        have hwl:wrongL N t=9:=by unfold wrongL;rw [if_pos (by simpa using hr)]
        have hm:makeE N t js=9:=by rw [hE0,hwl,if_pos (by decide)]
        have hr:t.right=false:=by simpa using hr
        rw [hm] at HMKN
        have HMC:=Lib.hid (HMKN.out (by decide))
        clear HMKN hm hE0 hlens hjl
        go_wp2_with (fail)
        refine HMC.out.mono ?_
        rintro e w6 ⟨rfl,hb⟩
        have HD:=Lib.hid (H5.out.below hb)
        clear z0 z1 z2 z3 z4 z5 lZ
        clear hb HMC
        have hz:=(HD.out.pick 2 rfl).row.1
        have z0:w6.cell? ⟨Z,0,none⟩=some (.int .i64 t.frame):=hz.cell 0
        have z1:w6.cell? ⟨Z,1,none⟩=some (.slice a.AP t.parts.length a.cP):=hz.cell 1
        have z2:w6.cell? ⟨Z,2,none⟩=some (.slice a.AW t.wins.length a.cW):=hz.cell 2
        have z3:w6.cell? ⟨Z,3,none⟩=some (.slice a.AC t.chans.length a.cC):=hz.cell 3
        have z4:w6.cell? ⟨Z,4,none⟩=some (.int .i64 t.trial):=hz.cell 4
        have z5:w6.cell? ⟨Z,5,none⟩=some (.slice AI q cI):=hz.cell 5
        have lZ:=hz.lt
        clear hz
        have HLN6:=Lib.hid HLN.out
        have HRT:=Lib.hid (Go.Proofs.YtdldkkoplgkloaaGreat.tab.rright_at ((HIN.out w6 HD.out.bel).tab))
        rw [hr] at HRT
        go_wp2_with (fail)
        refine HRT.out.mono ?_
        rintro e w7 ⟨rfl,hb⟩
        have HB7:=Lib.hid hb
        have HD7:=Lib.hid (HD.out.below hb)
        have HEND:=Lib.hid HD7.out.bel
        clear hb HRT
        clear z0 z1 z2 z3 z4 z5 lZ
        clear hr
        go_wp2_with (fail)
        go_ret
        exact ⟨rfl,HEND.out⟩
       case pos =>
        have T:=Lib.hid (Tab.r hr).np
        have hr4:=T.out
        by_cases hsz:N < 10*t.parts.length∨q≠t.parts.length
        case pos =>
         have hm:makeE N t js=3:=by
          by_cases h10:N < 10*t.parts.length
          ·have hwl:wrongL N t=3:=by unfold wrongL;rw [if_neg (by rw [hr];simp),if_pos (by omega)]
           rw [hE0,hwl,if_pos (by decide)]
          ·have hwl:wrongL N t=0:=by unfold wrongL;rw [if_neg (by rw [hr];simp),if_neg (by omega)]
           rw [hE0,hwl,if_neg (by simp),if_pos (by rw [hjl];omega)]
         rw [hm] at HMKN
         have HMC:=Lib.hid (HMKN.out (by decide))
         clear HMKN hm hE0 hlens hjl
         go_wp2_with (fail)
         refine HMC.out.mono ?_
         rintro e w6 ⟨rfl,hb⟩
         have HD:=Lib.hid (H5.out.below hb)
         clear z0 z1 z2 z3 z4 z5 lZ
         clear hb HMC
         have hz:=(HD.out.pick 2 rfl).row.1
         have z0:w6.cell? ⟨Z,0,none⟩=some (.int .i64 t.frame):=hz.cell 0
         have z1:w6.cell? ⟨Z,1,none⟩=some (.slice a.AP t.parts.length a.cP):=hz.cell 1
         have z2:w6.cell? ⟨Z,2,none⟩=some (.slice a.AW t.wins.length a.cW):=hz.cell 2
         have z3:w6.cell? ⟨Z,3,none⟩=some (.slice a.AC t.chans.length a.cC):=hz.cell 3
         have z4:w6.cell? ⟨Z,4,none⟩=some (.int .i64 t.trial):=hz.cell 4
         have z5:w6.cell? ⟨Z,5,none⟩=some (.slice AI q cI):=hz.cell 5
         have lZ:=hz.lt
         clear hz
         have HLN6:=Lib.hid HLN.out
         have HRT:=Lib.hid (Go.Proofs.YtdldkkoplgkloaaGreat.tab.rright_at ((HIN.out w6 HD.out.bel).tab))
         rw [hr] at HRT
         go_wp2_with (fail)
         refine HRT.out.mono ?_
         rintro e w7 ⟨rfl,hb⟩
         have HB7:=Lib.hid hb
         have HD7:=Lib.hid (HD.out.below hb)
         have HEND:=Lib.hid HD7.out.bel
         clear hb HRT
         by_cases h10:N < 10*t.parts.length
         case pos =>
          have e4:decide ((N:Int) < 10*(t.parts.length:Int))=true:=by simp;omega
          clear hsz h10
          clear z0 z1 z2 z3 z4 z5 lZ
          have hz:=(HD7.out.pick 2 rfl).row.1
          have z0:w7.cell? ⟨Z,0,none⟩=some (.int .i64 t.frame):=hz.cell 0
          have z1:w7.cell? ⟨Z,1,none⟩=some (.slice a.AP t.parts.length a.cP):=hz.cell 1
          have z2:w7.cell? ⟨Z,2,none⟩=some (.slice a.AW t.wins.length a.cW):=hz.cell 2
          have z3:w7.cell? ⟨Z,3,none⟩=some (.slice a.AC t.chans.length a.cC):=hz.cell 3
          have z4:w7.cell? ⟨Z,4,none⟩=some (.int .i64 t.trial):=hz.cell 4
          have z5:w7.cell? ⟨Z,5,none⟩=some (.slice AI q cI):=hz.cell 5
          have lZ:=hz.lt
          clear hz
          obtain ⟨r10,hr10⟩:∃r:Int,r=10*(t.parts.length:Int):=⟨_,rfl⟩
          have HLQ:=Lib.hid (fun (n':Nat)=>Calls.quiet_of_same (dsk_len (HD7.out.below (below_drewN (Below.refl w7.heap.size w7) n'))))
          rw [HLN6.out] at HLQ
          have HSQ:=Lib.hid (fun (n':Nat)=>Calls.quiet_of_same ((Go.Proofs.YtdldkkoplgkloaaGreat.placeSays.rsectors (t.parts.length:Int) (w7.drewN n')).mono (fun e w' h=>show e=.returned (.int .i64 r10)∧w'=w7.drewN n' from by obtain ⟨⟨r,h1,h2⟩,h3⟩:=h;exact ⟨by rw [h1,show r=r10 by omega],h3.symm⟩)))
          go_wp2_with (fail)
          go_quiet ((first
           | (go_at_call 35;exact HLQ.out _)
           | (go_at_call 36;exact HSQ.out _)))
          have HEQ:=Lib.hid (HEND.out.trans ((below_drewN (Below.refl w7.heap.size w7) nq).mono HEND.out.size))
          have HEND:=HEQ
          clear z0 z1 z2 z3 z4 z5 lZ
          go_wp2_with (fail)
          go_ret
          exact ⟨rfl,HEND.out⟩
         case neg =>
          have hne:¬q=t.parts.length:=by omega
          have e4:decide ((N:Int) < 10*(t.parts.length:Int))=false:=by simp;omega
          have e5:((q:Int) != (t.parts.length:Int))=true:=by simp;omega
          clear hsz h10 hne
          clear z0 z1 z2 z3 z4 z5 lZ
          have hz:=(HD7.out.pick 2 rfl).row.1
          have z0:w7.cell? ⟨Z,0,none⟩=some (.int .i64 t.frame):=hz.cell 0
          have z1:w7.cell? ⟨Z,1,none⟩=some (.slice a.AP t.parts.length a.cP):=hz.cell 1
          have z2:w7.cell? ⟨Z,2,none⟩=some (.slice a.AW t.wins.length a.cW):=hz.cell 2
          have z3:w7.cell? ⟨Z,3,none⟩=some (.slice a.AC t.chans.length a.cC):=hz.cell 3
          have z4:w7.cell? ⟨Z,4,none⟩=some (.int .i64 t.trial):=hz.cell 4
          have z5:w7.cell? ⟨Z,5,none⟩=some (.slice AI q cI):=hz.cell 5
          have lZ:=hz.lt
          clear hz
          obtain ⟨r10,hr10⟩:∃r:Int,r=10*(t.parts.length:Int):=⟨_,rfl⟩
          have HLQ:=Lib.hid (fun (n':Nat)=>Calls.quiet_of_same (dsk_len (HD7.out.below (below_drewN (Below.refl w7.heap.size w7) n'))))
          rw [HLN6.out] at HLQ
          have HSQ:=Lib.hid (fun (n':Nat)=>Calls.quiet_of_same ((Go.Proofs.YtdldkkoplgkloaaGreat.placeSays.rsectors (t.parts.length:Int) (w7.drewN n')).mono (fun e w' h=>show e=.returned (.int .i64 r10)∧w'=w7.drewN n' from by obtain ⟨⟨r,h1,h2⟩,h3⟩:=h;exact ⟨by rw [h1,show r=r10 by omega],h3.symm⟩)))
          go_wp2_with (fail)
          go_quiet ((first
           | (go_at_call 35;exact HLQ.out _)
           | (go_at_call 36;exact HSQ.out _)))
          have HEQ:=Lib.hid (HEND.out.trans ((below_drewN (Below.refl w7.heap.size w7) nq).mono HEND.out.size))
          have HEND:=HEQ
          clear z0 z1 z2 z3 z4 z5 lZ
          go_wp2_with (fail)
          go_ret
          exact ⟨rfl,HEND.out⟩
        case neg =>
         have hqn:q=t.parts.length:=by omega
         have h10:¬N < 10*t.parts.length:=by omega
         have HQN:=Lib.hid hqn
         have hq4:2≤q∧q≤4:=by omega
         have hwl:wrongL N t=0:=by unfold wrongL;rw [if_neg (by rw [hr];simp),if_neg (by omega)]
         have hm:makeE N t js=firstE t 0 js:=by rw [hE0,hwl,if_neg (by simp),if_neg (by rw [hjl];omega)]
         have HWF:=Lib.hid (show wantTo t js q=firstE t 0 js by have:=wantTo_first (t:=t) (js:=js);rwa [hjl] at this)
         obtain ⟨b0,o0,hA0,_⟩:=(HIN.out w5 H5.out.bel).imgs.at_ 0 (by omega)
         subst hA0
         clear hsz
         have HRI:=Lib.hid hr
         have H10:=Lib.hid h10
         clear h10
         obtain ⟨mE,hmE⟩:∃v,v=makeE N t js:=⟨_,rfl⟩
         have HWM:=Lib.hid (show wantTo t js q=mE by rw [HWF.out,hmE,hm])
         by_cases hE:mE=0
         case neg =>
          rw [←hmE] at HMKN
          have HMC:=Lib.hid (HMKN.out hE)
          have HNE:=Lib.hid hE
          clear HMKN hm hE0 hlens hjl hmE hE hr hwl hr4 hqn
          go_wp2_with (fail)
          refine HMC.out.mono ?_
          rintro e w6 ⟨rfl,hb⟩
          have HD:=Lib.hid (H5.out.below hb)
          clear z0 z1 z2 z3 z4 z5 lZ
          clear hb HMC
          have HLN6:=Lib.hid HLN.out
          have hz:=(HD.out.pick 2 rfl).row.1
          have z0:w6.cell? ⟨Z,0,none⟩=some (.int .i64 t.frame):=hz.cell 0
          have z1:w6.cell? ⟨Z,1,none⟩=some (.slice a.AP t.parts.length a.cP):=hz.cell 1
          have z2:w6.cell? ⟨Z,2,none⟩=some (.slice a.AW t.wins.length a.cW):=hz.cell 2
          have z3:w6.cell? ⟨Z,3,none⟩=some (.slice a.AC t.chans.length a.cC):=hz.cell 3
          have z4:w6.cell? ⟨Z,4,none⟩=some (.int .i64 t.trial):=hz.cell 4
          have z5:w6.cell? ⟨Z,5,none⟩=some (.slice (some ⟨b0,o0,none⟩) q cI):=hz.cell 5
          have lZ:=hz.lt
          clear hz
          have HRT:=Lib.hid (Go.Proofs.YtdldkkoplgkloaaGreat.tab.rright_at ((HIN.out w6 HD.out.bel).tab))
          rw [HRI.out] at HRT
          go_wp2_with (fail)
          refine HRT.out.mono ?_
          rintro e w7 ⟨rfl,hb⟩
          have HD7:=Lib.hid (HD.out.below hb)
          clear z0 z1 z2 z3 z4 z5 lZ
          clear hb HRT
          have hz:=(HD7.out.pick 2 rfl).row.1
          have z0:w7.cell? ⟨Z,0,none⟩=some (.int .i64 t.frame):=hz.cell 0
          have z1:w7.cell? ⟨Z,1,none⟩=some (.slice a.AP t.parts.length a.cP):=hz.cell 1
          have z2:w7.cell? ⟨Z,2,none⟩=some (.slice a.AW t.wins.length a.cW):=hz.cell 2
          have z3:w7.cell? ⟨Z,3,none⟩=some (.slice a.AC t.chans.length a.cC):=hz.cell 3
          have z4:w7.cell? ⟨Z,4,none⟩=some (.int .i64 t.trial):=hz.cell 4
          have z5:w7.cell? ⟨Z,5,none⟩=some (.slice (some ⟨b0,o0,none⟩) q cI):=hz.cell 5
          have lZ:=hz.lt
          clear hz
          have e4:decide ((N:Int) < 10*(t.parts.length:Int))=false:=by have:=H10.out;simp;omega
          have e5:((q:Int) != (t.parts.length:Int))=false:=by have:=HQN.out;simp;omega
          obtain ⟨r10,hr10⟩:∃r:Int,r=10*(t.parts.length:Int):=⟨_,rfl⟩
          have HLQ:=Lib.hid (fun (n':Nat)=>Calls.quiet_of_same (dsk_len (HD7.out.below (below_drewN (Below.refl w7.heap.size w7) n'))))
          rw [HLN6.out] at HLQ
          have HSQ:=Lib.hid (fun (n':Nat)=>Calls.quiet_of_same ((Go.Proofs.YtdldkkoplgkloaaGreat.placeSays.rsectors (t.parts.length:Int) (w7.drewN n')).mono (fun e w' h=>show e=.returned (.int .i64 r10)∧w'=w7.drewN n' from by have:=T.out;obtain ⟨⟨r,h1,h2⟩,h3⟩:=h;exact ⟨by rw [h1,show r=r10 by omega],h3.symm⟩)))
          go_wp2_with (fail)
          go_quiet ((first
           | (go_at_call 35;exact HLQ.out _)
           | (go_at_call 36;exact HSQ.out _)))
          have HB8:=Lib.hid (below_drewN (Below.refl w7.heap.size w7) nq)
          have HD8:=Lib.hid (HD7.out.below HB8.out)
          clear z0 z1 z2 z3 z4 z5 lZ
          clear hr10 HLQ HSQ
          generalize w7.drewN nq=w8 at *
          have hz:=(HD8.out.pick 2 rfl).row.1
          have z0:w8.cell? ⟨Z,0,none⟩=some (.int .i64 t.frame):=hz.cell 0
          have z1:w8.cell? ⟨Z,1,none⟩=some (.slice a.AP t.parts.length a.cP):=hz.cell 1
          have z2:w8.cell? ⟨Z,2,none⟩=some (.slice a.AW t.wins.length a.cW):=hz.cell 2
          have z3:w8.cell? ⟨Z,3,none⟩=some (.slice a.AC t.chans.length a.cC):=hz.cell 3
          have z4:w8.cell? ⟨Z,4,none⟩=some (.int .i64 t.trial):=hz.cell 4
          have z5:w8.cell? ⟨Z,5,none⟩=some (.slice (some ⟨b0,o0,none⟩) q cI):=hz.cell 5
          have lZ:=hz.lt
          clear hz
          go_wp2_with (fail)
          clear e4 e5
          clear z0 z1 z2 z3 z4 z5 lZ
          go_loopw [14,92] (fun x y wr=>∃p:Nat,p≤q∧x=.int .i64 (wantTo t js p)∧y=.int .i64 (p:Int)∧Below w8.heap.size w8 wr) (fun _ y _=>q-(intOf y).toNat)
          case atStart=>exact ⟨0,by omega,rfl,rfl,Below.refl _ _⟩
          case round =>
           obtain ⟨p,hp1,rfl,rfl,hbr⟩:=hrel
           have HBR:=Lib.hid hbr
           have HDR:=Lib.hid (HD8.out.below hbr)
           clear hbr
           by_cases hlt:p < q
           ·obtain ⟨wp,hwp⟩:∃v,v=wantTo t js p:=⟨_,rfl⟩
            rw [←hwp]
            have HWP:=Lib.hid hwp
            clear hwp
            have k1:(p:Int) < (q:Int):=by omega
            by_cases hw:wp=0
            ·have e8:(wp==0)=true:=by simpa using hw
             have HW0:=Lib.hid hw
             clear hw
             obtain ⟨b,off,hA,hbl,c0,c1,c2,c3,c4,c5,c6,c7,hck,hsk⟩:=(HIN.out wr HDR.out.bel).imgs.at_ p hlt
             obtain ⟨rfl,rfl⟩:b0=b∧o0=off:=by injection hA with e;injection e with e1 e2 _;exact ⟨e1,e2⟩
             generalize (K p).1=KA,(K p).2=Kc at *
             have HCP:=Lib.hid (rcheck_at (A:=KA) (c:=Kc) (ver:=0) (i:=js.getD p Img.none) ((HIN.out wr.drew HDR.out.bel.drew).tab) (p:Int) ((HIN.out wr HDR.out.bel).lens p hlt))
             obtain ⟨ck,hckv⟩:∃v,v=checkL t p (js.getD p Img.none) 0:=⟨_,rfl⟩
             rw [←hckv] at HCP
             have HCV:=Lib.hid hckv
             simp only [TabA.val,Img.val] at HCP
             obtain ⟨i0,hi0⟩:∃v,v=(js.getD p Img.none).part:=⟨_,rfl⟩
             obtain ⟨i1,hi1⟩:∃v,v=(js.getD p Img.none).version:=⟨_,rfl⟩
             obtain ⟨i2,hi2⟩:∃v,v=(js.getD p Img.none).hard:=⟨_,rfl⟩
             obtain ⟨i3,hi3⟩:∃v,v=(js.getD p Img.none).mem:=⟨_,rfl⟩
             obtain ⟨i4,hi4⟩:∃v,v=(js.getD p Img.none).fuel:=⟨_,rfl⟩
             obtain ⟨i5,hi5⟩:∃v,v=(js.getD p Img.none).sends:=⟨_,rfl⟩
             obtain ⟨i6,hi6⟩:∃v,v=(js.getD p Img.none).receives:=⟨_,rfl⟩
             obtain ⟨i7,hi7⟩:∃v,v=(js.getD p Img.none).code.length:=⟨_,rfl⟩
             simp only [←hi0,←hi1,←hi2,←hi3,←hi4,←hi5,←hi6,←hi7] at HCP c0 c1 c2 c3 c4 c5 c6 c7
             clear hi0 hi1 hi2 hi3 hi4 hi5 hi6 hi7 hck hsk hA hckv
             have k0:(0:Int)≤(p:Int):=by omega
             have HIM:=Lib.hid (fun (w':World) (hb:Below wr.heap.size wr w')=>show w'.cell? ⟨b0,o0+p*8,none⟩=some (.int .i64 i0)∧w'.cell? ⟨b0,o0+p*8+1,none⟩=some (.int .i64 i1)∧w'.cell? ⟨b0,o0+p*8+2,none⟩=some (.int .i64 i2)∧w'.cell? ⟨b0,o0+p*8+3,none⟩=some (.int .i64 i3)∧w'.cell? ⟨b0,o0+p*8+4,none⟩=some (.int .i64 i4)∧w'.cell? ⟨b0,o0+p*8+5,none⟩=some (.int .i64 i5)∧w'.cell? ⟨b0,o0+p*8+6,none⟩=some (.int .i64 i6)∧w'.cell? ⟨b0,o0+p*8+7,none⟩=some (.slice KA i7 Kc)∧b0 < w'.heap.size from ⟨(hb.cell hbl).trans c0,(hb.cell hbl).trans c1,(hb.cell hbl).trans c2,(hb.cell hbl).trans c3,(hb.cell hbl).trans c4,(hb.cell hbl).trans c5,(hb.cell hbl).trans c6,(hb.cell hbl).trans c7,Nat.lt_of_lt_of_le hbl hb.size⟩)
             have HRO:=Lib.hid (fun (w':World) (hb:Below wr.heap.size wr w')=>show w'.cell? ⟨Z,0,none⟩=some (.int .i64 t.frame)∧w'.cell? ⟨Z,1,none⟩=some (.slice a.AP t.parts.length a.cP)∧w'.cell? ⟨Z,2,none⟩=some (.slice a.AW t.wins.length a.cW)∧w'.cell? ⟨Z,3,none⟩=some (.slice a.AC t.chans.length a.cC)∧w'.cell? ⟨Z,4,none⟩=some (.int .i64 t.trial)∧w'.cell? ⟨Z,5,none⟩=some (.slice (some ⟨b0,o0,none⟩) q cI)∧Z < w'.heap.size from by
              have h:=((HDR.out.below hb).pick 2 rfl).row.1
              exact ⟨h.cell 0,h.cell 1,h.cell 2,h.cell 3,h.cell 4,h.cell 5,h.lt⟩)
             clear c0 c1 c2 c3 c4 c5 c6 c7 hbl
             go_upto_region 22 with fail
             refine held_start (fun w'=>(w'.cell? ⟨Z,0,none⟩=some (.int .i64 t.frame)∧w'.cell? ⟨Z,1,none⟩=some (.slice a.AP t.parts.length a.cP)∧w'.cell? ⟨Z,2,none⟩=some (.slice a.AW t.wins.length a.cW)∧w'.cell? ⟨Z,3,none⟩=some (.slice a.AC t.chans.length a.cC)∧w'.cell? ⟨Z,4,none⟩=some (.int .i64 t.trial)∧w'.cell? ⟨Z,5,none⟩=some (.slice (some ⟨b0,o0,none⟩) q cI)∧Z < w'.heap.size)∧(w'.cell? ⟨b0,o0+p*8,none⟩=some (.int .i64 i0)∧w'.cell? ⟨b0,o0+p*8+1,none⟩=some (.int .i64 i1)∧w'.cell? ⟨b0,o0+p*8+2,none⟩=some (.int .i64 i2)∧w'.cell? ⟨b0,o0+p*8+3,none⟩=some (.int .i64 i3)∧w'.cell? ⟨b0,o0+p*8+4,none⟩=some (.int .i64 i4)∧w'.cell? ⟨b0,o0+p*8+5,none⟩=some (.int .i64 i5)∧w'.cell? ⟨b0,o0+p*8+6,none⟩=some (.int .i64 i6)∧w'.cell? ⟨b0,o0+p*8+7,none⟩=some (.slice KA i7 Kc)∧b0 < w'.heap.size)) (by kernel_rfl) (⟨HRO.out wr.drew (Below.refl wr.heap.size wr).drew,HIM.out wr.drew (Below.refl wr.heap.size wr).drew⟩) (fun hHeld=>?_)
             (refine held_t 0 (h:=?_);(try simp only [xGs,xGz,xGo,Act.put,xSi,xSz,xSs]));(refine held_t 1 (h:=?_);(try simp only [xGs,xGz,xGo,Act.put,xSi,xSz,xSs]));(refine held_t 2 (h:=?_);(try simp only [xGs,xGz,xGo,Act.put,xSi,xSz,xSs]));(refine held_t 3 (h:=?_);(try simp only [xGs,xGz,xGo,Act.put,xSi,xSz,xSs]));(refine held_t 4 (h:=?_);(try simp only [xGs,xGz,xGo,Act.put,xSi,xSz,xSs]));(refine held_t 5 (h:=?_);(try simp only [xGs,xGz,xGo,Act.put,xSi,xSz,xSs]));(refine held_t 6 (h:=?_);(try simp only [xGs,xGz,xGo,Act.put,xSi,xSz,xSs]));(refine held_t 7 (h:=?_);(try simp only [xGs,xGz,xGo,Act.put,xSi,xSz,xSs]))
             (refine held_one 8 (by kernel_rfl) (by rfl) ?_;(try simp only [xGs,xGz,xGo]);go_simp)
             refine HCP.out.mono ?_
             rintro e w9 ⟨rfl,hb⟩
             have HB9:=Lib.hid ((Below.refl wr.heap.size wr).drew.trans hb)
             have HB9b:=Lib.hid (HBR.out.trans (HB9.out.mono HBR.out.size))
             clear hb
             dsimp only
             (refine and_hand (⟨HRO.out w9 HB9.out,HIM.out w9 HB9.out⟩) (fun hHeld=>?_);(try simp only [xGs,xGz,xGo,Act.put,xSi,xSz,xSs]))
             (refine held_t 9 (h:=?_);(try simp only [xGs,xGz,xGo,Act.put,xSi,xSz,xSs]))
             refine held_end (by kernel_rfl) ?_
             clear hHeld
             go_wp2_with (fail)
             go_roundw
             case rel=>exact ⟨p+1,by omega,by unfold wantTo;rw [←HWP.out,if_pos HW0.out,←HCV.out],by go_num,HB9b.out⟩
             case measure=>simp [intOf];omega
            ·have e8:(wp==0)=false:=by simpa using hw
             have HW0:=Lib.hid hw
             clear hw
             go_wp2_with (fail)
             go_roundw
             case rel=>exact ⟨p+1,by omega,by unfold wantTo;rw [←HWP.out,if_neg HW0.out],by go_num,HBR.out⟩
             case measure=>simp [intOf];omega
           ·have hpq:p=q:=by omega
            subst hpq
            have k1:¬(p:Int) < (p:Int):=by omega
            rw [HWM.out]
            have e6:(mE != mE)=false:=by simp
            have e7:(mE != 0)=true:=by have:=HNE.out;simpa using this
            have HEND:=Lib.hid HDR.out.bel
            go_wp2_with (fail)
            go_ret
            exact ⟨rfl,HEND.out⟩
         case pos =>
          subst hE
          have hfe:firstE t 0 js=0:=by rw [←hm,←hmE]
          have hchk:∀k:Nat,k < js.length→checkL t k (js.getD k Img.none) 0=0:=fun k hk=>by
           induction k using Nat.strongRecOn with
           | _ k ih =>
             by_cases h0:checkL t (k:Int) (js.getD k Img.none) 0=0
             ·exact h0
             ·have:=firstE_at (t:=t) js 0 k hk (fun i hi=>by rw [Nat.zero_add];exact ih i hi (by omega)) (by rw [Nat.zero_add];exact h0)
              rw [hfe,Nat.zero_add] at this
              exact absurd this.symm h0
          have HCH:=Lib.hid hchk
          have HJQ:=Lib.hid hjl
          have HMA:=Lib.hid (make_at (js:=js) (K:=K) (n:=q) (cI:=cI) (a:=a) (t:=t) H5.out (fun w' l' h=>(HIN.out w' h.bel).imgs) (HIN.out w5 H5.out.bel).tab (by rw [HLN.out];exact hmE.symm) HCL.out (fun j hj=>DS.new_now (by rwa [HLN.out] at hj)))
          simp only [TabA.val] at HMA
          clear HMKN hm hE0 hlens hjl hmE hr hwl hr4 hqn hfe hchk
          go_wp2_with (fail)
          refine HMA.out.mono ?_
          rintro e w6 ⟨ad,rfl,m,xs,h6,hsi,hxl,hml⟩
          have HD:=Lib.hid (str_split h6)
          have HLN6:=Lib.hid (show m.secs.length=N by rw [hml];exact HLN.out)
          have HU:=Lib.hid hsi.made
          have HXL:=Lib.hid hxl
          have HRO0:=Lib.hid (show 10*xs.length≤m.secs.length by have:=HLN6.out;have:=H10.out;omega)
          clear h6 hsi hxl hml HMA
          clear z0 z1 z2 z3 z4 z5 lZ
          have hz:=(HD.out.pick 3 rfl).row.1
          have z0:w6.cell? ⟨Z,0,none⟩=some (.int .i64 t.frame):=hz.cell 0
          have z1:w6.cell? ⟨Z,1,none⟩=some (.slice a.AP t.parts.length a.cP):=hz.cell 1
          have z2:w6.cell? ⟨Z,2,none⟩=some (.slice a.AW t.wins.length a.cW):=hz.cell 2
          have z3:w6.cell? ⟨Z,3,none⟩=some (.slice a.AC t.chans.length a.cC):=hz.cell 3
          have z4:w6.cell? ⟨Z,4,none⟩=some (.int .i64 t.trial):=hz.cell 4
          have z5:w6.cell? ⟨Z,5,none⟩=some (.slice (some ⟨b0,o0,none⟩) q cI):=hz.cell 5
          have lZ:=hz.lt
          clear hz
          have HRT:=Lib.hid (Go.Proofs.YtdldkkoplgkloaaGreat.tab.rright_at ((HIN.out w6 HD.out.bel).tab))
          rw [HRI.out] at HRT
          go_wp2_with (fail)
          refine HRT.out.mono ?_
          rintro e w7 ⟨rfl,hb⟩
          have HD7:=Lib.hid (HD.out.below hb)
          clear z0 z1 z2 z3 z4 z5 lZ
          clear hb HRT
          have hz:=(HD7.out.pick 3 rfl).row.1
          have z0:w7.cell? ⟨Z,0,none⟩=some (.int .i64 t.frame):=hz.cell 0
          have z1:w7.cell? ⟨Z,1,none⟩=some (.slice a.AP t.parts.length a.cP):=hz.cell 1
          have z2:w7.cell? ⟨Z,2,none⟩=some (.slice a.AW t.wins.length a.cW):=hz.cell 2
          have z3:w7.cell? ⟨Z,3,none⟩=some (.slice a.AC t.chans.length a.cC):=hz.cell 3
          have z4:w7.cell? ⟨Z,4,none⟩=some (.int .i64 t.trial):=hz.cell 4
          have z5:w7.cell? ⟨Z,5,none⟩=some (.slice (some ⟨b0,o0,none⟩) q cI):=hz.cell 5
          have lZ:=hz.lt
          clear hz
          have e4:decide ((N:Int) < 10*(t.parts.length:Int))=false:=by have:=H10.out;simp;omega
          have e5:((q:Int) != (t.parts.length:Int))=false:=by have:=HQN.out;simp;omega
          obtain ⟨r10,hr10⟩:∃r:Int,r=10*(t.parts.length:Int):=⟨_,rfl⟩
          have HLQ:=Lib.hid (fun (n':Nat)=>Calls.quiet_of_same (dsk_len (HD7.out.below (below_drewN (Below.refl w7.heap.size w7) n'))))
          rw [HLN6.out] at HLQ
          have HSQ:=Lib.hid (fun (n':Nat)=>Calls.quiet_of_same ((Go.Proofs.YtdldkkoplgkloaaGreat.placeSays.rsectors (t.parts.length:Int) (w7.drewN n')).mono (fun e w' h=>show e=.returned (.int .i64 r10)∧w'=w7.drewN n' from by have:=T.out;obtain ⟨⟨r,h1,h2⟩,h3⟩:=h;exact ⟨by rw [h1,show r=r10 by omega],h3.symm⟩)))
          go_wp2_with (fail)
          go_quiet ((first
           | (go_at_call 35;exact HLQ.out _)
           | (go_at_call 36;exact HSQ.out _)))
          have HB8:=Lib.hid (below_drewN (Below.refl w7.heap.size w7) nq)
          have HD8:=Lib.hid (HD7.out.below HB8.out)
          clear z0 z1 z2 z3 z4 z5 lZ
          clear hr10 HLQ HSQ
          generalize w7.drewN nq=w8 at *
          have hz:=(HD8.out.pick 3 rfl).row.1
          have z0:w8.cell? ⟨Z,0,none⟩=some (.int .i64 t.frame):=hz.cell 0
          have z1:w8.cell? ⟨Z,1,none⟩=some (.slice a.AP t.parts.length a.cP):=hz.cell 1
          have z2:w8.cell? ⟨Z,2,none⟩=some (.slice a.AW t.wins.length a.cW):=hz.cell 2
          have z3:w8.cell? ⟨Z,3,none⟩=some (.slice a.AC t.chans.length a.cC):=hz.cell 3
          have z4:w8.cell? ⟨Z,4,none⟩=some (.int .i64 t.trial):=hz.cell 4
          have z5:w8.cell? ⟨Z,5,none⟩=some (.slice (some ⟨b0,o0,none⟩) q cI):=hz.cell 5
          have lZ:=hz.lt
          clear hz
          go_wp2_with (fail)
          clear e4 e5
          clear z0 z1 z2 z3 z4 z5 lZ
          go_loopw [14,92] (fun x y wr=>∃p:Nat,p≤q∧x=.int .i64 (wantTo t js p)∧y=.int .i64 (p:Int)∧Below w8.heap.size w8 wr) (fun _ y _=>q-(intOf y).toNat)
          case atStart=>exact ⟨0,by omega,rfl,rfl,Below.refl _ _⟩
          case round =>
           obtain ⟨p,hp1,rfl,rfl,hbr⟩:=hrel
           have HBR:=Lib.hid hbr
           have HDR:=Lib.hid (HD8.out.below hbr)
           clear hbr
           by_cases hlt:p < q
           ·obtain ⟨wp,hwp⟩:∃v,v=wantTo t js p:=⟨_,rfl⟩
            rw [←hwp]
            have HWP:=Lib.hid hwp
            clear hwp
            have k1:(p:Int) < (q:Int):=by omega
            by_cases hw:wp=0
            ·have e8:(wp==0)=true:=by simpa using hw
             have HW0:=Lib.hid hw
             clear hw
             obtain ⟨b,off,hA,hbl,c0,c1,c2,c3,c4,c5,c6,c7,hck,hsk⟩:=(HIN.out wr HDR.out.bel).imgs.at_ p hlt
             obtain ⟨rfl,rfl⟩:b0=b∧o0=off:=by injection hA with e;injection e with e1 e2 _;exact ⟨e1,e2⟩
             generalize (K p).1=KA,(K p).2=Kc at *
             have HCP:=Lib.hid (rcheck_at (A:=KA) (c:=Kc) (ver:=0) (i:=js.getD p Img.none) ((HIN.out wr.drew HDR.out.bel.drew).tab) (p:Int) ((HIN.out wr HDR.out.bel).lens p hlt))
             obtain ⟨ck,hckv⟩:∃v,v=checkL t p (js.getD p Img.none) 0:=⟨_,rfl⟩
             rw [←hckv] at HCP
             have HCV:=Lib.hid hckv
             simp only [TabA.val,Img.val] at HCP
             obtain ⟨i0,hi0⟩:∃v,v=(js.getD p Img.none).part:=⟨_,rfl⟩
             obtain ⟨i1,hi1⟩:∃v,v=(js.getD p Img.none).version:=⟨_,rfl⟩
             obtain ⟨i2,hi2⟩:∃v,v=(js.getD p Img.none).hard:=⟨_,rfl⟩
             obtain ⟨i3,hi3⟩:∃v,v=(js.getD p Img.none).mem:=⟨_,rfl⟩
             obtain ⟨i4,hi4⟩:∃v,v=(js.getD p Img.none).fuel:=⟨_,rfl⟩
             obtain ⟨i5,hi5⟩:∃v,v=(js.getD p Img.none).sends:=⟨_,rfl⟩
             obtain ⟨i6,hi6⟩:∃v,v=(js.getD p Img.none).receives:=⟨_,rfl⟩
             obtain ⟨i7,hi7⟩:∃v,v=(js.getD p Img.none).code.length:=⟨_,rfl⟩
             simp only [←hi0,←hi1,←hi2,←hi3,←hi4,←hi5,←hi6,←hi7] at HCP c0 c1 c2 c3 c4 c5 c6 c7
             clear hi0 hi1 hi2 hi3 hi4 hi5 hi6 hi7 hck hsk hA hckv
             have k0:(0:Int)≤(p:Int):=by omega
             have HIM:=Lib.hid (fun (w':World) (hb:Below wr.heap.size wr w')=>show w'.cell? ⟨b0,o0+p*8,none⟩=some (.int .i64 i0)∧w'.cell? ⟨b0,o0+p*8+1,none⟩=some (.int .i64 i1)∧w'.cell? ⟨b0,o0+p*8+2,none⟩=some (.int .i64 i2)∧w'.cell? ⟨b0,o0+p*8+3,none⟩=some (.int .i64 i3)∧w'.cell? ⟨b0,o0+p*8+4,none⟩=some (.int .i64 i4)∧w'.cell? ⟨b0,o0+p*8+5,none⟩=some (.int .i64 i5)∧w'.cell? ⟨b0,o0+p*8+6,none⟩=some (.int .i64 i6)∧w'.cell? ⟨b0,o0+p*8+7,none⟩=some (.slice KA i7 Kc)∧b0 < w'.heap.size from ⟨(hb.cell hbl).trans c0,(hb.cell hbl).trans c1,(hb.cell hbl).trans c2,(hb.cell hbl).trans c3,(hb.cell hbl).trans c4,(hb.cell hbl).trans c5,(hb.cell hbl).trans c6,(hb.cell hbl).trans c7,Nat.lt_of_lt_of_le hbl hb.size⟩)
             have HRO:=Lib.hid (fun (w':World) (hb:Below wr.heap.size wr w')=>show w'.cell? ⟨Z,0,none⟩=some (.int .i64 t.frame)∧w'.cell? ⟨Z,1,none⟩=some (.slice a.AP t.parts.length a.cP)∧w'.cell? ⟨Z,2,none⟩=some (.slice a.AW t.wins.length a.cW)∧w'.cell? ⟨Z,3,none⟩=some (.slice a.AC t.chans.length a.cC)∧w'.cell? ⟨Z,4,none⟩=some (.int .i64 t.trial)∧w'.cell? ⟨Z,5,none⟩=some (.slice (some ⟨b0,o0,none⟩) q cI)∧Z < w'.heap.size from by
              have h:=((HDR.out.below hb).pick 3 rfl).row.1
              exact ⟨h.cell 0,h.cell 1,h.cell 2,h.cell 3,h.cell 4,h.cell 5,h.lt⟩)
             clear c0 c1 c2 c3 c4 c5 c6 c7 hbl
             go_upto_region 22 with fail
             refine held_start (fun w'=>(w'.cell? ⟨Z,0,none⟩=some (.int .i64 t.frame)∧w'.cell? ⟨Z,1,none⟩=some (.slice a.AP t.parts.length a.cP)∧w'.cell? ⟨Z,2,none⟩=some (.slice a.AW t.wins.length a.cW)∧w'.cell? ⟨Z,3,none⟩=some (.slice a.AC t.chans.length a.cC)∧w'.cell? ⟨Z,4,none⟩=some (.int .i64 t.trial)∧w'.cell? ⟨Z,5,none⟩=some (.slice (some ⟨b0,o0,none⟩) q cI)∧Z < w'.heap.size)∧(w'.cell? ⟨b0,o0+p*8,none⟩=some (.int .i64 i0)∧w'.cell? ⟨b0,o0+p*8+1,none⟩=some (.int .i64 i1)∧w'.cell? ⟨b0,o0+p*8+2,none⟩=some (.int .i64 i2)∧w'.cell? ⟨b0,o0+p*8+3,none⟩=some (.int .i64 i3)∧w'.cell? ⟨b0,o0+p*8+4,none⟩=some (.int .i64 i4)∧w'.cell? ⟨b0,o0+p*8+5,none⟩=some (.int .i64 i5)∧w'.cell? ⟨b0,o0+p*8+6,none⟩=some (.int .i64 i6)∧w'.cell? ⟨b0,o0+p*8+7,none⟩=some (.slice KA i7 Kc)∧b0 < w'.heap.size)) (by kernel_rfl) (⟨HRO.out wr.drew (Below.refl wr.heap.size wr).drew,HIM.out wr.drew (Below.refl wr.heap.size wr).drew⟩) (fun hHeld=>?_)
             (refine held_t 0 (h:=?_);(try simp only [xGs,xGz,xGo,Act.put,xSi,xSz,xSs]));(refine held_t 1 (h:=?_);(try simp only [xGs,xGz,xGo,Act.put,xSi,xSz,xSs]));(refine held_t 2 (h:=?_);(try simp only [xGs,xGz,xGo,Act.put,xSi,xSz,xSs]));(refine held_t 3 (h:=?_);(try simp only [xGs,xGz,xGo,Act.put,xSi,xSz,xSs]));(refine held_t 4 (h:=?_);(try simp only [xGs,xGz,xGo,Act.put,xSi,xSz,xSs]));(refine held_t 5 (h:=?_);(try simp only [xGs,xGz,xGo,Act.put,xSi,xSz,xSs]));(refine held_t 6 (h:=?_);(try simp only [xGs,xGz,xGo,Act.put,xSi,xSz,xSs]));(refine held_t 7 (h:=?_);(try simp only [xGs,xGz,xGo,Act.put,xSi,xSz,xSs]))
             (refine held_one 8 (by kernel_rfl) (by rfl) ?_;(try simp only [xGs,xGz,xGo]);go_simp)
             refine HCP.out.mono ?_
             rintro e w9 ⟨rfl,hb⟩
             have HB9:=Lib.hid ((Below.refl wr.heap.size wr).drew.trans hb)
             have HB9b:=Lib.hid (HBR.out.trans (HB9.out.mono HBR.out.size))
             clear hb
             dsimp only
             (refine and_hand (⟨HRO.out w9 HB9.out,HIM.out w9 HB9.out⟩) (fun hHeld=>?_);(try simp only [xGs,xGz,xGo,Act.put,xSi,xSz,xSs]))
             (refine held_t 9 (h:=?_);(try simp only [xGs,xGz,xGo,Act.put,xSi,xSz,xSs]))
             refine held_end (by kernel_rfl) ?_
             clear hHeld
             go_wp2_with (fail)
             go_roundw
             case rel=>exact ⟨p+1,by omega,by unfold wantTo;rw [←HWP.out,if_pos HW0.out,←HCV.out],by go_num,HB9b.out⟩
             case measure=>simp [intOf];omega
            ·have e8:(wp==0)=false:=by simpa using hw
             have HW0:=Lib.hid hw
             clear hw
             go_wp2_with (fail)
             go_roundw
             case rel=>exact ⟨p+1,by omega,by unfold wantTo;rw [←HWP.out,if_neg HW0.out],by go_num,HBR.out⟩
             case measure=>simp [intOf];omega
           ·have hpq:p=q:=by omega
            subst hpq
            have k1:¬(p:Int) < (p:Int):=by omega
            rw [HWM.out]
            have hz:=(HDR.out.pick 3 rfl).row.1
            have z0:wr.cell? ⟨Z,0,none⟩=some (.int .i64 t.frame):=hz.cell 0
            have z1:wr.cell? ⟨Z,1,none⟩=some (.slice a.AP t.parts.length a.cP):=hz.cell 1
            have z2:wr.cell? ⟨Z,2,none⟩=some (.slice a.AW t.wins.length a.cW):=hz.cell 2
            have z3:wr.cell? ⟨Z,3,none⟩=some (.slice a.AC t.chans.length a.cC):=hz.cell 3
            have z4:wr.cell? ⟨Z,4,none⟩=some (.int .i64 t.trial):=hz.cell 4
            have z5:wr.cell? ⟨Z,5,none⟩=some (.slice (some ⟨b0,o0,none⟩) p cI):=hz.cell 5
            have lZ:=hz.lt
            have HOU:=Lib.hid (open_u (a:=a) (t:=t) HDR.out HU.out (HIN.out wr HDR.out.bel).tab HRI.out HXL.out HRO0.out (made_runs HCH.out))
            simp only [TabA.val] at HOU
            clear hz
            go_wp2_with (fail)
            refine HOU.out.mono ?_
            rintro e w9 ⟨ad2,rfl,hs9⟩
            have HS9:=Lib.hid hs9
            clear z0 z1 z2 z3 z4 z5 lZ
            clear hs9 HOU
            have hz:=(HS9.out.st.pick 3 rfl).row.1
            have z0:w9.cell? ⟨Z,0,none⟩=some (.int .i64 t.frame):=hz.cell 0
            have z1:w9.cell? ⟨Z,1,none⟩=some (.slice a.AP t.parts.length a.cP):=hz.cell 1
            have z2:w9.cell? ⟨Z,2,none⟩=some (.slice a.AW t.wins.length a.cW):=hz.cell 2
            have z3:w9.cell? ⟨Z,3,none⟩=some (.slice a.AC t.chans.length a.cC):=hz.cell 3
            have z4:w9.cell? ⟨Z,4,none⟩=some (.int .i64 t.trial):=hz.cell 4
            have z5:w9.cell? ⟨Z,5,none⟩=some (.slice (some ⟨b0,o0,none⟩) p cI):=hz.cell 5
            have lZ:=hz.lt
            have HRM:=Lib.hid (rmake_at (B:=fact True) (js:=js) (n:=p) (cI:=cI) (K:=K) (HS9.out.st.pick 2 rfl) (fun w' l' h=>(HIN.out w' h.bel).imgs) (fun k hk=>checkL_right (HCH.out k (by rw [HJQ.out];exact hk))) (by omega) t.frame t.trial a.AP a.AW a.AC t.parts.length a.cP t.wins.length a.cW t.chans.length a.cC)
            clear hz
            dsimp only
            go_wp2_with (fail)
            refine HRM.out.mono ?_
            rintro e w10 ⟨X,rfl,v,P,ys,h10,hys,hK⟩
            have hyl:ys.length=p:=by
             have:=congrArg List.length hys
             simpa using this
            have hy2:∀i (hi:i < ys.length),ys[i].2=madeRP js i:=fun i hi=>by
             have e1:(ys.map (·.2))[i]?=some ys[i].2:=by simp [hi]
             have e2:((List.range p).map (madeRP js))[i]?=some (madeRP js i):=by simp [show i < p by omega]
             rw [hys,e2] at e1
             injection e1 with e1
             exact e1.symm
            have HY2:=Lib.hid hy2;have HYL:=Lib.hid hyl;have HKK:=Lib.hid hK
            have HSY:=Lib.hid (fun (w':World) (ad':StAd) (l':List Asn) (h:StoU w w' ad' t d m xs (madeD js) (rstr X [.int .i64 t.frame,.slice a.AP t.parts.length a.cP,.slice a.AW t.wins.length a.cW,.slice a.AC t.chans.length a.cC,.int .i64 t.trial] v P ys::l'))=>same_yes h rfl (by rw [hyl,HXL.out];exact HQN.out) (fun y hy=>by
             obtain ⟨i,hi,rfl⟩:=List.mem_iff_getElem.1 hy
             rw [hy2 i hi]
             exact firstRec_right (by omega) (by omega)) (fun w2 l2 hst y hy k=>by
             obtain ⟨i,hi,rfl⟩:=List.mem_iff_getElem.1 hy
             have hip:i < p:=by omega
             rw [hy2 i hi]
             unfold RPA.K RP.img
             obtain ⟨k0,k1⟩:=hK i hi
             by_cases hk0:k=0
             ·rw [if_pos hk0,if_pos hk0,k0]
              have hI:=HIN.out w2 hst.bel
              obtain ⟨_,_,_,_,_,_,_,_,_,_,_,_,_,hsl⟩:=hI.imgs.at_ i hip
              have hrt:=checkL_right (HCH.out i (by rw [HJQ.out];exact hip))
              exact ⟨hsl,by obtain ⟨_,_,_,_,_,_,_,h8⟩:=hrt;show (js.getD i Img.none).code.length≤1000000;omega⟩
             ·rw [if_neg hk0,if_neg hk0,k1]
              exact ⟨Sl.nil_ _ _ _,by show (0:Nat)≤1000000;omega⟩) (fun i hi=>by
             rw [hy2 i hi]
             exact made_same HCH.out (by rw [HJQ.out];omega)))
            have a1:=h10.pick 2 rfl
            have a5:=((str_join ((str_split a1).pick 4 rfl).swap).pick 2 rfl).swap
            have HSA:=Lib.hid (show StoU w w10 ad t d m xs (madeD js) _ from ⟨a5,HU.out,HXL.out,HRO0.out,HRI.out⟩)
            clear a1 a5 h10 hys hK hyl hy2 HRM
            clear z0 z1 z2 z3 z4 z5 lZ
            dsimp only
            go_wp2_with (fail)
            refine (HSY.out w10 ad _ HSA.out).mono ?_
            rintro e w11 ⟨rfl,hs11⟩
            have b4:=((str_join ((str_split hs11.st).pick 3 rfl).swap).pick 2 rfl).swap
            have HSB:=Lib.hid (show StoU w w11 ad2 t d m xs (madeD js) _ from ⟨b4,HU.out,HXL.out,HRO0.out,HRI.out⟩)
            clear hs11 b4
            go_wp2_with (fail)
            refine (HSY.out w11 ad2 _ HSB.out).mono ?_
            rintro e w12 ⟨rfl,hs12⟩
            have HEND:=Lib.hid hs12.st.bel
            clear hs12
            go_wp2_with (fail)
            go_ret
            exact ⟨rfl,HEND.out⟩
theorem lifted (os:Os) (started:os.Started) (H:Type) (enc:TypeId×Value→H) :
  ReturnsInHanded {} Tryz.checked os 7 .any (Rows.storeMakesSpec.pre6 enc Tryz.prog Tryz.f7 Rows.storeMakesRow.domain false) (Rows.storeMakesSpec.post enc Tryz.prog Tryz.f7 false true false false):=by
 refine returnsInHanded_of_change (C:=Tryz.checked) Go.Proofs.YtdldkkoplgkloaaGreat.lift.own started (by kernel_rfl) Tryz.func7
  (ChangeSpec.witness6 (enc:=enc) (C:=Tryz.checked) false ⟨#[],#[.agg #[.int .i64 0,.slice none 0 0,.slice none 0 0,.slice none 0 0,.int .i64 0,.slice none 0 0],.int .i64 0],[]⟩ 8 (by kernel_rfl) (by kernel_rfl) (by kernel_rfl) (by kernel_rfl)) ?_
 intro W base args ds gs before hval0 hW hcnd _
 have hval:∀(j:Nat) t v,Tryz.f7.params[j]?=some t→args[j]?=some v→Value.okWide Tryz.prog W .any base t v:=hval0
 have hW':=hW
 obtain ⟨p,q,hA0,hV,rfl,hfz,hnd⟩:=hW
 have hA:DataW.TrodAll enc Tryz.prog W 0 (fun _=>true) true Tryz.f7.params.toList args.toList ds p:=hA0
 have hAk:=hA
 rw [Tryz.params7] at hA hval
 obtain ⟨v0,vs0,d0,ds0,p0,q0,hargs,rfl,rfl,h0,r0⟩:=trodAll_cons hA
 obtain ⟨v1,vs1,d1,ds1,p1,q1,rfl,rfl,rfl,h1,r1⟩:=trodAll_cons r0
 obtain ⟨rfl,rfl,rfl⟩:=trodAll_nil r1
 obtain rfl:args=#[v0,v1]:=by cases args;simp_all
 obtain ⟨rfl,rfl⟩:=trodVars_none hV
 have hlt:=hW'.lt
 obtain ⟨a,t,AI,nI,cI,js,K,rfl,hin⟩:=store.arg_lay (hval 0 49 v0 rfl rfl) h0
 obtain ⟨a1,rfl,_,_,w1⟩:=open_int Tryz.underlying3 (hval 1 3 v1 rfl rfl) h1
 refine (walk W a t AI nI cI js K hin a1 w1).mono fun e W' ⟨he,hg⟩=>?_
 subst he
 exact ⟨_,rfl,Go.Proofs.YtdldkkoplgkloaaGreat.base.postBelow (pv:=[]) hW' (fun _ _ _=>(trodAll_cons_mk (shut_bool Tryz.underlying4 _) trodAll_mk0)) (fun sp hsp=>Go.Proofs.YtdldkkoplgkloaaGreat.lift.args_stay Go.Proofs.YtdldkkoplgkloaaGreat.lift.laidOut hg _ _ _ _ (by kernel_rfl) hAk (fun x hx=>hlt x (by simpa using hx)) (fun x hx=>hsp x (by simpa using hx))) (fun _ _=>rfl) (by simp)
  hg (ok_one (by kernel_rfl) rfl (okWide_bool_mk Tryz.underlying4 _))⟩
theorem over:Rows.storeMakesRow.holds Tryz.pinned (OpenSpec.ofChange Rows.storeMakesSpec) :=
 OpenClaim.holds_of_wide 7 Tryz.f7 rfl rfl rfl rfl rfl rfl rfl ⟨rfl,rfl,rfl,rfl,rfl⟩ rfl rfl rfl rfl rfl (by kernel_rfl) Tryz.func7 (by kernel_rfl)
  (of_decide_eq_true (by kernel_rfl)) (by unfold Func.isWrapper;first|(rw [if_pos (by decide +kernel)];kernel_rfl)|(rw [if_neg (by decide +kernel)];exact ⟨rfl,rfl⟩))
  (fun os started H enc _=>lifted os started H enc)
theorem proved:Rows.StoreMakesSaid :=
 over
#print axioms proved
end storeMakes
end Go.Proofs.YtdldkkoplgkloaaGreat
