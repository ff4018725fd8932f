/-
  PROVED HERE: lemmas and contracts that the law's proof leans on (texts put together: StoreSeal, StoreDoc).
  CONDITIONS: each names its own.
-/
import Derived.Test.YtdldkkoplgkloaaGreatPz30
import Derived.Test.YtdldkkoplgkloaaGreatPz35
import Derived.Test.YtdldkkoplgkloaaGreatPz36
namespace Go.Proofs.YtdldkkoplgkloaaGreat
set_option linter.unusedVariables false
set_option linter.unusedSimpArgs false
set_option maxRecDepth 100000
set_option maxHeartbeats 32000000
namespace store


open Go.RowKit Go.Deep base obj mem sep plan disk record commit stage image tab compat chain crc
section
variable {w0 w : World} {l : List Asn}
def sealRec (t:Tab) (r:Rec):Rec:=⟨r.part,r.seq,1-r.confirmed,r.confirmed,t.trial,0⟩
def spB (m:DS) (p:Int) (x:PP):List Int×Int:=bytesM m p x.sp (x.slot x.sp)
def sSeal (t:Tab) (m:DS) (xs:List PP) (q se:Int):Int×DS×List PP :=
 if begunE xs q se≠0 then (begunE xs q se,m,xs)
 else if (spB m q (xs.getD q.toNat default)).2≠0 then ((spB m q (xs.getD q.toNat default)).2,m,xs)
 else if (getL (spB m q (xs.getD q.toNat default)).1).2≠0 then ((getL (spB m q (xs.getD q.toNat default)).1).2,m,xs)
 else if (holdL t m q.toNat (xs.getD q.toNat default) (xs.getD q.toNat default).log.now.active).2≠0 then ((holdL t m q.toNat (xs.getD q.toNat default) (xs.getD q.toNat default).log.now.active).2,m,xs)
 else if checkL t q (getL (spB m q (xs.getD q.toNat default)).1).1 (holdL t m q.toNat (xs.getD q.toNat default) (xs.getD q.toNat default).log.now.active).1.version≠0 then (checkL t q (getL (spB m q (xs.getD q.toNat default)).1).1 (holdL t m q.toNat (xs.getD q.toNat default) (xs.getD q.toNat default).log.now.active).1.version,m,xs)
 else sSave m xs q.toNat (sealRec t (xs.getD q.toNat default).log.now)
theorem sseal_str {ad:StAd} {t:Tab} {d:Nat} {m:DS} {xs:List PP} (h:St w0 w (strA ad t d m xs::l)) (ok:SOk t m xs) (q se:Int) :
  Calls Tryz.prog 16 #[.pointer (some ⟨ad.S,0,none⟩),.int .i64 q,.int .i64 se] w fun e w'=>e=.returned (.int .i64 (sSeal t m xs q se).1)∧St w0 w' (strA ad t d (sSeal t m xs q se).2.1 (sSeal t m xs q se).2.2::l):=by
 have HF:=Lib.hid (begun_str h ok q se)
 have H:=Lib.hid h
 by_cases hf:begunE xs q se=0
 case neg =>
  have HD:=Lib.hid (show sSeal t m xs q se=(begunE xs q se,m,xs) from if_pos hf)
  rw [HD.out]
  generalize begunE xs q se=fe at *
  have hf2:(fe != 0)=true:=by simpa using hf
  clear h hf
  go_enter Tryz.func16,Tryz.ntmps16
  go_wp2_with (fail)
  refine HF.out.mono ?_
  rintro e w1 ⟨⟨v,rfl,hv⟩,hb⟩
  have HB:=Lib.hid hb
  clear hv hb
  go_wp2_with (fail)
  go_ret
  exact ⟨rfl,H.out.below HB.out⟩
 case pos =>
  have hin:0≤q∧q < xs.length:=freeE_zero (begunE_free hf)
  obtain ⟨p,rfl⟩:∃p:Nat,q=p:=⟨q.toNat,by omega⟩
  have hp:p < xs.length:=by omega
  have okx:=ok.at_ hp
  have hD:sSeal t m xs p se=if (spB m p (xs.getD p default)).2≠0 then ((spB m p (xs.getD p default)).2,m,xs)
   else if (getL (spB m p (xs.getD p default)).1).2≠0 then ((getL (spB m p (xs.getD p default)).1).2,m,xs)
   else if (holdL t m p (xs.getD p default) (xs.getD p default).log.now.active).2≠0 then ((holdL t m p (xs.getD p default) (xs.getD p default).log.now.active).2,m,xs)
   else if checkL t p (getL (spB m p (xs.getD p default)).1).1 (holdL t m p (xs.getD p default) (xs.getD p default).log.now.active).1.version≠0 then (checkL t p (getL (spB m p (xs.getD p default)).1).1 (holdL t m p (xs.getD p default) (xs.getD p default).log.now.active).1.version,m,xs)
   else sSave m xs p (sealRec t (xs.getD p default).log.now):=by
    rw [sSeal,if_neg (by rw [hf];simp),Int.toNat_natCast]
  rw [hf] at HF
  have HIN:=Lib.hid hin
  have HSP:=Lib.hid (fun (w':World) (l':List Asn) (hb:St w0 w' (strA ad t d m xs::l'))=>str_spare okx (str_open hb hp))
  have HBY:=Lib.hid (fun (w':World) (l':List Asn) (hb:St w0 w' (strA ad t d m xs::l'))=>(bytes_any (sp_open hb hp okx) (ok.pl hp okx.sp) (okx.rk _) (by have:=ok.few;omega)).mono fun e w' ⟨A,n,B,h1,h2,h3⟩=>(⟨A,n,B,h1,h2,sl_same (k:=(xs.getD p default).sp) (sl_ext h3) hp okx.sp⟩:∃A n B,e=Ending.returned (.tuple #[.slice A n n,.int .i64 (bytesM m p (xs.getD p default).sp ((xs.getD p default).slot (xs.getD p default).sp)).2])∧Gives w0 B A n (bytesM m p (xs.getD p default).sp ((xs.getD p default).slot (xs.getD p default).sp)).1∧St w0 w' (strA ad t d m xs::B::l')))
  have HBT:=Lib.hid (bytesM_byt ok.bts p (xs.getD p default).sp ((xs.getD p default).slot (xs.getD p default).sp))
  have HBL:=Lib.hid (bytesM_len (m:=m) (p:=p) (k:=(xs.getD p default).sp) (okx.rk (xs.getD p default).sp))
  have HL:=Lib.hid (fun (w':World) (l':List Asn) (hb:St w0 w' (strA ad t d m xs::l'))=>latest_at (lg_open hb hp))
  have HO:=Lib.hid (fun (w':World) (l':List Asn) (hb:St w0 w' (strA ad t d m xs::l'))=>show w'.cell? ⟨(ad.al.getD p default).O,0,none⟩=some (.pointer (some ⟨(ad.al.getD p default).L,0,none⟩))∧(ad.al.getD p default).O < w'.heap.size from ⟨(str_own hb hp).cell 0,(str_own hb hp).lt⟩)
  have HH:=Lib.hid (fun (w':World) (l':List Asn) (hb:St w0 w' (strA ad t d m xs::l'))=>holds_str hb ok hp okx.act)
  have HS:=Lib.hid (fun (w':World) (l':List Asn) (hb:St w0 w' (strA ad t d m xs::l'))=>ssave_str hb ok hp (sealRec t (xs.getD p default).log.now))
  have HSR:=Lib.hid (fun (w':World) (l':List Asn) (hb:St w0 w' (strA ad t d m xs::l'))=>(str_row hb).1)
  have HTW:=Lib.hid (fun (w':World) (l':List Asn) (hb:St w0 w' (strA ad t d m xs::l'))=>str_tab hb)
  have hcf:=okx.conf
  rw [show bytesM m p (xs.getD p default).sp ((xs.getD p default).slot (xs.getD p default).sp)=spB m p (xs.getD p default) from rfl] at HBY HBT HBL
  obtain ⟨ss,hss⟩:∃v,v=sSeal t m xs p se:=⟨_,rfl⟩
  rw [←hss] at hD ⊢
  obtain ⟨bb,hbb⟩:∃v,v=spB m p (xs.getD p default):=⟨_,rfl⟩
  rw [←hbb] at hD HBY HBT HBL
  obtain ⟨bs,e1⟩:=bb
  dsimp only at hD HBY HBT HBL
  obtain ⟨gg,hgg⟩:∃v,v=getL bs:=⟨_,rfl⟩
  rw [←hgg] at hD
  obtain ⟨hh,hhh⟩:∃v,v=holdL t m p (xs.getD p default) (xs.getD p default).log.now.active:=⟨_,rfl⟩
  rw [←hhh] at hD HH
  obtain ⟨sv,hsv⟩:∃v,v=sSave m xs p (sealRec t (xs.getD p default).log.now):=⟨_,rfl⟩
  rw [←hsv] at hD HS
  obtain ⟨r,hr⟩:∃r,r=(xs.getD p default).log.now:=⟨_,rfl⟩
  rw [←hr] at HL HS hcf HH
  obtain ⟨rp,rs,ra,rc,rl,rb⟩:=r
  generalize (xs.getD p default).slot (xs.getD p default).sp=sl at *
  generalize (ad.al.getD p default).slot (xs.getD p default).sp=g at *
  rw [Int.toNat_natCast] at HF
  generalize (ad.al.getD p default).O=O,(ad.al.getD p default).L=L at *
  obtain ⟨gj,ge⟩:=gg
  obtain ⟨hj,he⟩:=hh
  have HGG:=Lib.hid hgg
  have HD:=Lib.hid hD
  obtain ⟨Sd,hSd⟩:∃S,S=ad.S:=⟨_,rfl⟩
  rw [←hSd] at HF HH HSR ⊢
  simp only [Rec.val,Rec.cells,sealRec] at HL HS
  have r2:=rfld2 ⟨rp,rs,ra,rc,rl,rb⟩
  simp only [Rec.val,Rec.cells] at r2
  dsimp only at HH hcf
  clear h hf hss hbb hgg hhh hsv hr okx hin hD hSd ok
  go_enter Tryz.func16,Tryz.ntmps16
  go_wp2_with (fail)
  refine HF.out.mono ?_
  rintro e w1 ⟨⟨v,rfl,hv⟩,hb⟩
  rw [hv HIN.out]
  have H1:=Lib.hid (H.out.below hb)
  clear hv hb
  go_wp2_with (fail)
  refine (HSP.out w1 _ H1.out).mono ?_
  rintro e w2 ⟨rfl,hb⟩
  have H2:=Lib.hid (H1.out.below hb)
  clear hb
  go_wp2_with (fail)
  refine (HBY.out w2 _ H2.out).mono ?_
  rintro e w3 ⟨A,z,B,rfl,hgv,hst⟩
  have H3:=Lib.hid hst
  have HGV:=Lib.hid hgv
  have HE:=Lib.hid (hgv.2 w3 _ hst.swap)
  clear hst hgv
  by_cases h1:e1=0
  case neg =>
   have h1b:(e1 != 0)=true:=by simpa using h1
   have HD1:=Lib.hid (show ss=(e1,m,xs) by rw [HD.out];exact if_pos h1)
   clear h1
   go_wp2_with (fail)
   go_ret
   rw [HD1.out]
   exact ⟨rfl,H3.out.swap.drop⟩
  case pos =>
   subst h1
   have HD1:=Lib.hid (HD.out.trans (if_neg (by simp)))
   go_wp2_with (fail)
   refine (get_x w3 A z z bs HGV.out.1 (by have:=HBL.out;have:=HGV.out.1;omega) (Nat.le_refl _) HBT.out HE.out).mono ?_
   rintro e w4 ⟨j,A4,c4,e2,rfl,ho,hb,hj4⟩
   have H4:=Lib.hid ((H3.out.addOwn hb ho).swap)
   rw [←HGG.out] at hj4
   rw [Prod.mk.injEq] at hj4
   obtain ⟨rfl,rfl⟩:=hj4
   clear ho hb
   simp only [Img.val]
   obtain ⟨Q,hQ⟩:∃Q,Q=w4.heap.size:=⟨_,rfl⟩
   obtain ⟨w5,hw5⟩:∃v,v=w4.alloc (.cells #[.int .i64 j.part,.int .i64 j.version,.int .i64 j.hard,.int .i64 j.mem,.int .i64 j.fuel,.int .i64 j.sends,.int .i64 j.receives,.slice A4 j.code.length c4] 26):=⟨_,rfl⟩
   have h5:=H4.out.new 26 #[.int .i64 j.part,.int .i64 j.version,.int .i64 j.hard,.int .i64 j.mem,.int .i64 j.fuel,.int .i64 j.sends,.int .i64 j.receives,.slice A4 j.code.length c4]
   rw [←hQ,←hw5] at h5
   have H5:=Lib.hid h5.swap
   have HQ:=Lib.hid hQ;have HW5:=Lib.hid hw5
   clear h5 hQ hw5
   go_upto_region 8 with fail
   rw [←HW5.out,←HQ.out]
   by_cases h2:e2=0
   case neg =>
    have h2b:(e2 != 0)=true:=by simpa using h2
    have HD2:=Lib.hid (show ss=(e2,m,xs) by rw [HD1.out];exact if_pos h2)
    clear h2
    go_wp2_with (fail)
    go_ret
    rw [HD2.out]
    exact ⟨rfl,H5.out.swap.drop.swap.drop.swap.drop⟩
   case pos =>
    subst h2
    have HD2:=Lib.hid (HD1.out.trans (if_neg (by simp)))
    obtain ⟨o0,o1⟩:=HO.out w5 _ H5.out
    go_wp2_with (fail)
    refine (HL.out w5 _ H5.out).mono ?_
    rintro e w6 ⟨rfl,hb⟩
    have H6:=Lib.hid (H5.out.below hb)
    clear hb o0 o1
    go_wp2_with (fail)
    refine (HH.out w6 _ H6.out).mono ?_
    rintro e w7 ⟨y,A7,c7,e3,rfl,hy,hst⟩
    have H7:=Lib.hid hst.swap
    rw [Prod.mk.injEq] at hy
    obtain ⟨rfl,rfl⟩:=hy
    clear hst
    simp only [Img.val]
    obtain ⟨Y,hY⟩:∃Q,Q=w7.heap.size:=⟨_,rfl⟩
    obtain ⟨w8,hw8⟩:∃v,v=w7.alloc (.cells #[.int .i64 y.part,.int .i64 y.version,.int .i64 y.hard,.int .i64 y.mem,.int .i64 y.fuel,.int .i64 y.sends,.int .i64 y.receives,.slice A7 y.code.length c7] 26):=⟨_,rfl⟩
    have h8:=H7.out.new 26 #[.int .i64 y.part,.int .i64 y.version,.int .i64 y.hard,.int .i64 y.mem,.int .i64 y.fuel,.int .i64 y.sends,.int .i64 y.receives,.slice A7 y.code.length c7]
    rw [←hY,←hw8] at h8
    have H8:=Lib.hid h8.swap
    have HY:=Lib.hid hY;have HW8:=Lib.hid hw8
    clear h8 hY hw8
    go_upto_region 11 with fail
    rw [←HW8.out,←HY.out]
    by_cases h3:e3=0
    case neg =>
     have h3b:(e3 != 0)=true:=by simpa using h3
     have HD3:=Lib.hid (show ss=(e3,m,xs) by rw [HD2.out];exact if_pos h3)
     clear h3
     go_wp2_with (fail)
     go_ret
     rw [HD3.out]
     exact ⟨rfl,H8.out.swap.drop.swap.drop.swap.drop.swap.drop.swap.drop⟩
    case pos =>
     subst h3
     have HD3:=Lib.hid (HD2.out.trans (if_neg (by simp)))
     have hcl4:j.code.length≤9223372036854775807:=by
      have h1:=congrArg Prod.fst HGG.out
      have h2:=getL_len bs
      have h3:=HBL.out
      rw [←h1] at h2
      dsimp only at h2
      omega
     have HCK:=Lib.hid (fun (w':World) (l':List Asn) (hb:St w0 w' (strA ad t d m xs::l'))=>check_at (ver:=y.version) (i:=j) (A:=A4) (c:=c4) (HTW.out w' l' hb) (p:Int) hcl4)
     simp only [TabA.val,Img.val] at HCK
     obtain ⟨e4,he4⟩:∃v,v=checkL t p j y.version:=⟨_,rfl⟩
     rw [←he4] at HCK HD3
     clear he4
     have hsr:=HSR.out w8.drew _ H8.out.drew
     have t0:w8.cell? ⟨Sd,0,none⟩=some (.int .i64 t.frame):=hsr.cell 0
     have t1:w8.cell? ⟨Sd,1,none⟩=some (.slice ad.tab.AP t.parts.length ad.tab.cP):=hsr.cell 1
     have t2:w8.cell? ⟨Sd,2,none⟩=some (.slice ad.tab.AW t.wins.length ad.tab.cW):=hsr.cell 2
     have t3:w8.cell? ⟨Sd,3,none⟩=some (.slice ad.tab.AC t.chans.length ad.tab.cC):=hsr.cell 3
     have t4:w8.cell? ⟨Sd,4,none⟩=some (.int .i64 t.trial):=hsr.cell 4
     have lS:Sd < w8.heap.size:=hsr.lt
     have hq:=(H8.out.pick 3 rfl).row.1
     have u0:w8.cell? ⟨Q,0,none⟩=some (.int .i64 j.part):=hq.cell 0
     have u1:w8.cell? ⟨Q,1,none⟩=some (.int .i64 j.version):=hq.cell 1
     have u2:w8.cell? ⟨Q,2,none⟩=some (.int .i64 j.hard):=hq.cell 2
     have u3:w8.cell? ⟨Q,3,none⟩=some (.int .i64 j.mem):=hq.cell 3
     have u4:w8.cell? ⟨Q,4,none⟩=some (.int .i64 j.fuel):=hq.cell 4
     have u5:w8.cell? ⟨Q,5,none⟩=some (.int .i64 j.sends):=hq.cell 5
     have u6:w8.cell? ⟨Q,6,none⟩=some (.int .i64 j.receives):=hq.cell 6
     have u7:w8.cell? ⟨Q,7,none⟩=some (.slice A4 j.code.length c4):=hq.cell 7
     have lQ:=hq.lt
     have y1:w8.cell? ⟨Y,1,none⟩=some (.int .i64 y.version):=(H8.out.pick 1 rfl).row.1.cell 1
     have lY:=(H8.out.pick 1 rfl).row.1.lt
     clear hsr hq
     go_upto_region 13 with fail
     refine segs_start (by kernel_rfl) ?_
     (refine segs_take [0,1,2,3,4,5,6,7] (by kernel_rfl) (fun _ _ _ _ _ h=>h) ?_;simp only [pick,xGs,xGz,xGo];(iterate 8 still_step);refine wpStill_nil ?_)
     (try simp only [xGs,xGz,xGo,Act.put,xSi,xSz,xSs])
     (refine segs_one 8 (by kernel_rfl) (by rfl) ?_;(try simp only [xGs,xGz,xGo]);go_simp)
     refine (HCK.out w8.drew _ H8.out.drew).mono ?_
     rintro e w9 ⟨rfl,hb⟩
     have H9:=Lib.hid (H8.out.drew.below hb)
     clear hb t0 t1 t2 t3 t4 lS u0 u1 u2 u3 u4 u5 u6 u7 lQ y1 lY
     dsimp only
     (try simp only [xGs,xGz,xGo,Act.put,xSi,xSz,xSs])
     (refine segs_take [9] (by kernel_rfl) (fun _ _ _ _ _ h=>h) ?_;simp only [pick,xGs,xGz,xGo];(iterate 1 still_step);refine wpStill_nil ?_)
     refine segs_end (by kernel_rfl) ?_
     by_cases h4:e4=0
     case neg =>
      have h4b:(e4 != 0)=true:=by simpa using h4
      have HD4:=Lib.hid (show ss=(e4,m,xs) by rw [HD3.out];exact if_pos h4)
      clear h4
      go_wp2_with (fail)
      go_ret
      rw [HD4.out]
      exact ⟨rfl,H9.out.swap.drop.swap.drop.swap.drop.swap.drop.swap.drop⟩
     case pos =>
      subst h4
      have HD4:=Lib.hid (show ss=sv by rw [HD3.out];exact if_neg (by simp))
      obtain ⟨o0,o1⟩:=HO.out w9 _ H9.out
      go_wp2_with (fail)
      refine (HL.out w9 _ H9.out).mono ?_
      rintro e wa ⟨rfl,hb⟩
      have HA:=Lib.hid (H9.out.below hb)
      clear hb o0 o1
      obtain ⟨K,hK⟩:∃Q,Q=wa.heap.size:=⟨_,rfl⟩
      obtain ⟨wb,hwb⟩:∃v,v=wa.alloc (.cells #[.int .i64 rp,.int .i64 rs,.int .i64 ra,.int .i64 rc,.int .i64 rl,.int .i64 rb] 35):=⟨_,rfl⟩
      have hB:=HA.out.new 35 #[.int .i64 rp,.int .i64 rs,.int .i64 ra,.int .i64 rc,.int .i64 rl,.int .i64 rb]
      rw [←hK,←hwb] at hB
      have HB:=Lib.hid hB
      have HK:=Lib.hid hK;have HWB:=Lib.hid hwb
      clear hB hK hwb
      go_upto_region 17 with fail
      rw [←HWB.out,←HK.out]
      have k2:wb.cell? ⟨K,2,none⟩=some (.int .i64 ra):=HB.out.row.1.cell 2
      have k3:wb.cell? ⟨K,3,none⟩=some (.int .i64 rc):=HB.out.row.1.cell 3
      have k4:wb.cell? ⟨K,4,none⟩=some (.int .i64 rl):=HB.out.row.1.cell 4
      have k5:wb.cell? ⟨K,5,none⟩=some (.int .i64 rb):=HB.out.row.1.cell 5
      have f2:wb.frozen? ⟨K,2,none⟩=false:=HB.out.row.1.frozen 2
      have f4:wb.frozen? ⟨K,4,none⟩=false:=HB.out.row.1.frozen 4
      have f5:wb.frozen? ⟨K,5,none⟩=false:=HB.out.row.1.frozen 5
      have k6:=HB.out.row.1.lt
      have hsr:=HSR.out wb _ HB.out.swap
      have t4:wb.cell? ⟨Sd,4,none⟩=some (.int .i64 t.trial):=hsr.cell 4
      have lS:Sd < wb.heap.size:=hsr.lt
      have hwc:IntKind.i64.wrap (1-rc)=1-rc:=IntWalk.i64_in _ (by omega)
      clear hsr
      go_region
      obtain ⟨wc,hwc2⟩:∃v,v=(((wb.setCell ⟨K,2,none⟩ (.int .i64 (1-rc))).setCell ⟨K,4,none⟩ (.int .i64 t.trial)).setCell ⟨K,5,none⟩ (.int .i64 0)).drew:=⟨_,rfl⟩
      rw [←hwc2]
      have hC:=(((HB.out.set 2 (.int .i64 (1-rc))).set 4 (.int .i64 t.trial)).set 5 (.int .i64 0)).drew
      rw [←hwc2] at hC
      simp only [List.set_cons_succ,List.set_cons_zero] at hC
      have HC:=Lib.hid hC
      have HC2:=Lib.hid hC.swap
      clear hC hwc2 k2 k3 k4 k5 k6 f2 f4 f5 t4 lS
      obtain ⟨o0,o1⟩:=HO.out wc _ HC2.out
      have q0:wc.cell? ⟨K,0,none⟩=some (.int .i64 rp):=HC.out.row.1.cell 0
      have q1:wc.cell? ⟨K,1,none⟩=some (.int .i64 rs):=HC.out.row.1.cell 1
      have q2:wc.cell? ⟨K,2,none⟩=some (.int .i64 (1-rc)):=HC.out.row.1.cell 2
      have q3:wc.cell? ⟨K,3,none⟩=some (.int .i64 rc):=HC.out.row.1.cell 3
      have q4:wc.cell? ⟨K,4,none⟩=some (.int .i64 t.trial):=HC.out.row.1.cell 4
      have q5:wc.cell? ⟨K,5,none⟩=some (.int .i64 0):=HC.out.row.1.cell 5
      have q6:=HC.out.row.1.lt
      go_wp2_with (fail)
      refine segs_start (by kernel_rfl) ?_
      (refine segs_take [0,1,2,3,4] (by kernel_rfl) (fun _ _ _ _ _ h=>h) ?_;simp only [pick,xGs,xGz,xGo];(iterate 5 still_step);refine wpStill_nil ?_)
      (try simp only [xGs,xGz,xGo,Act.put,xSi,xSz,xSs])
      (refine segs_one 5 (by kernel_rfl) (by rfl) ?_;(try simp only [xGs,xGz,xGo]);go_simp)
      refine (HS.out wc.drew _ HC2.out.drew).mono ?_
      rintro e wd ⟨rfl,hst⟩
      have HX:=Lib.hid hst
      clear hst q0 q1 q2 q3 q4 q5 q6 o0 o1
      dsimp only
      (try simp only [xGs,xGz,xGo,Act.put,xSi,xSz,xSs])
      (refine segs_take [6] (by kernel_rfl) (fun _ _ _ _ _ h=>h) ?_;simp only [pick,xGs,xGz,xGo];(iterate 1 still_step);refine wpStill_nil ?_)
      refine segs_end (by kernel_rfl) ?_
      go_wp2_with (fail)
      go_ret
      rw [HD4.out]
      exact ⟨rfl,HX.out.swap.drop.swap.drop.swap.drop.swap.drop.swap.drop.swap.drop⟩
end
end store
namespace store


open Go.RowKit Go.Deep base crc disk record commit stage image tab compat
structure DP where
 r:Rec
 s0:RS
 s1:RS
instance:Inhabited DP:=⟨⟨Rec.zero,RS.none,RS.none⟩⟩
def DP.slot (x:DP) (k:Int):RS:=if k=0 then x.s0 else x.s1
def DP.setSlot (x:DP) (k:Int) (s:RS):DP:=if k=0 then ⟨x.r,s,x.s1⟩ else ⟨x.r,x.s0,s⟩
def DP.trial (x:DP):Bool:=!(x.r.active==x.r.confirmed)
def DP.sp (x:DP):Int:=1-x.r.confirmed
structure UP (m:DS) (p:Nat) (x:PP) (X:DP):Prop where
 inv:PInv m p x (X.s0,X.s1)
 now:x.log.now=X.r
structure UInv (m:DS) (xs:List PP) (D:List DP):Prop where
 calm:Calm m
 len:D.length=xs.length
 parts:∀p,p < xs.length→UP m p (xs.getD p default) (D.getD p default)
theorem getD_set_same {α:Type} {l:List α} {n:Nat} (h:n < l.length) (a d:α):(l.set n a).getD n d=a:=by simp [List.getD_eq_getElem?_getD,h]
theorem getD_set_other {α:Type} {l:List α} {n k:Nat} (h:n≠k) (a d:α):(l.set n a).getD k d=l.getD k d:=by simp [List.getD_eq_getElem?_getD,List.getElem?_set,h]
theorem UP.trial {m:DS} {p:Nat} {x:PP} {X:DP} (h:UP m p x X):x.trial=X.trial:=by unfold PP.trial DP.trial;rw [h.now]
theorem UP.sp {m:DS} {p:Nat} {x:PP} {X:DP} (h:UP m p x X):x.sp=X.sp:=by unfold PP.sp DP.sp;rw [h.now]
theorem UP.right {m:DS} {p:Nat} {x:PP} {X:DP} (h:UP m p x X):X.r.right=true:=by rw [←h.now];exact h.inv.log.right
theorem UP.sp01 {m:DS} {p:Nat} {x:PP} {X:DP} (h:UP m p x X):X.sp=0∨X.sp=1:=by
 have:=refRec.rec_in h.right
 unfold DP.sp
 omega
theorem UP.act01 {m:DS} {p:Nat} {x:PP} {X:DP} (h:UP m p x X):X.r.active=0∨X.r.active=1:=by
 have:=refRec.rec_in h.right
 omega
theorem UP.si {m:DS} {p:Nat} {x:PP} {X:DP} (h:UP m p x X) {k:Int} (hk:k=0∨k=1):SI m p k (x.slot k) (X.slot k) Option.none:=by
 rcases hk with rfl|rfl
 ·exact h.inv.s0
 ·exact h.inv.s1
theorem UP.other {m m':DS} {p:Nat} {x:PP} {X:DP} (h:UP m p x X) (hc:Calm m) (hc':Calm m') (hl:m'.secs.length=m.secs.length) (hn:∀j:Nat,10*p≤j→j < 10*p+10→m'.now j=m.now j):UP m' p x X:=⟨h.inv.other hc hc' hl hn,h.now⟩
theorem logOk_same {m m':DS} {p:Nat} {s:LogS} (h:LogOk m p s) (hg:m'.Good) (hb:m'.Bts) (hl:m'.secs.length=m.secs.length) (h0:m'.now (10*p)=m.now (10*p)) (h1:m'.now (10*p+1)=m.now (10*p+1)):LogOk m' p s:=by
 have hh:=h.held
 have e0:∀c:Int,c=0∨c=1→m'.now ((p:Int)*10+c).toNat=m.now ((p:Int)*10+c).toNat:=fun c hc=>by
  rcases hc with rfl|rfl
  ·rw [show ((p:Int)*10+0).toNat=10*p by omega];exact h0
  ·rw [show ((p:Int)*10+1).toNat=10*p+1 by omega];exact h1
 refine ⟨hg,hb,h.p0,h.p1,by rw [hl];exact h.room,hh,h.right,h.part,?_,?_⟩
 ·rw [e0 _ hh];exact h.cur
 ·intro r
  rw [e0 _ (by omega)]
  exact h.old r
theorem UInv.slot {m m':DS} {xs:List PP} {D:List DP} (h:UInv m xs D) {p:Nat} (hp:p < xs.length) {k:Int} (hk:k=0∨k=1) {s:SlS} {R:RS} (hs:SI m' p k s R Option.none) (hu:m'.Up) (hl:m'.secs.length=m.secs.length) (ho:∀j,stage.Outside p k j→m'.now j=m.now j) :
  UInv m' (xs.set p ((xs.getD p default).setSlot k s)) (D.set p ((D.getD p default).setSlot k R)):=by
 have hc':Calm m':=⟨hu,(hs.up hu.1).2.1,hs.pl.good,hs.pl.bts⟩
 refine ⟨hc',by simp [h.len],fun q hq=>?_⟩
 rw [List.length_set] at hq
 by_cases hqp:p=q
 ·subst hqp
  rw [getD_set_same hp,getD_set_same (by rw [h.len];exact hp)]
  have hu0:=h.parts p hp
  have hlog:LogOk m' p (xs.getD p default).log:=logOk_same hu0.inv.log hc'.good hc'.bts hl (ho _ (by unfold stage.Outside sAt;omega)) (ho _ (by unfold stage.Outside sAt;omega))
  rcases hk with rfl|rfl
  ·exact ⟨⟨hlog,hs,hu0.inv.s1.other h.calm.up.1 hc'.good hc'.bts hl hc'.waits hc'.up.1 fun j hj=>ho j (by unfold stage.Outside sAt at hj ⊢;omega)⟩,hu0.now⟩
  ·exact ⟨⟨hlog,hu0.inv.s0.other h.calm.up.1 hc'.good hc'.bts hl hc'.waits hc'.up.1 fun j hj=>ho j (by unfold stage.Outside sAt at hj ⊢;omega),hs⟩,hu0.now⟩
 ·rw [getD_set_other hqp,getD_set_other hqp]
  exact (h.parts q hq).other h.calm hc' hl fun j h1 h2=>ho j (by unfold stage.Outside sAt;omega)
theorem UInv.log {m m':DS} {xs:List PP} {D:List DP} (h:UInv m xs D) {p:Nat} (hp:p < xs.length) {y:LogS} (hy:LogOk m' p y) (hu:m'.Up) (hw:m'.waits=[]) (hl:m'.secs.length=m.secs.length) (ho:∀j:Nat,j≠10*p→j≠10*p+1→m'.now j=m.now j) :
  UInv m' (xs.set p ⟨y,(xs.getD p default).s0,(xs.getD p default).s1⟩) (D.set p ⟨y.now,(D.getD p default).s0,(D.getD p default).s1⟩):=by
 have hc':Calm m':=⟨hu,hw,hy.good,hy.bts⟩
 refine ⟨hc',by simp [h.len],fun q hq=>?_⟩
 rw [List.length_set] at hq
 by_cases hqp:p=q
 ·subst hqp
  rw [getD_set_same hp,getD_set_same (by rw [h.len];exact hp)]
  have hu0:=h.parts p hp
  exact ⟨⟨hy,hu0.inv.s0.other h.calm.up.1 hc'.good hc'.bts hl hc'.waits hc'.up.1 fun j hj=>ho j (by unfold stage.Outside sAt at hj;omega) (by unfold stage.Outside sAt at hj;omega),hu0.inv.s1.other h.calm.up.1 hc'.good hc'.bts hl hc'.waits hc'.up.1 fun j hj=>ho j (by unfold stage.Outside sAt at hj;omega) (by unfold stage.Outside sAt at hj;omega)⟩,rfl⟩
 ·rw [getD_set_other hqp,getD_set_other hqp]
  exact (h.parts q hq).other h.calm hc' hl fun j h1 h2=>ho j (by omega) (by omega)
theorem UInv.sok {t:Tab} {m:DS} {xs:List PP} {D:List DP} (h:UInv m xs D) (hr:t.right=true) (hl:xs.length=t.parts.length) (hroom:10*xs.length≤m.secs.length):SOk t m xs:=by
 refine ⟨hr,hl,h.calm.bts,h.calm.good,hroom,by rw [h.calm.waits];simp,fun x hx=>?_⟩
 obtain ⟨p,hp,rfl⟩:=List.mem_iff_getElem.1 hx
 have hi:=(h.parts p hp).inv
 rw [getD_e hp] at hi
 have hr:=refRec.rec_in hi.log.right
 exact ⟨by omega,by omega,hi.log.held,by omega,by omega,hi.s0.right,hi.s1.right⟩
def dFree (D:List DP) (q:Int):Int:=if q < 0∨(D.length:Int)≤q then 3 else if (D.getD q.toNat default).trial then 18 else 0
def dBegin (D:List DP) (q se sz:Int):Int×List DP :=
 if dFree D q≠0 then (dFree D q,D)
 else ((beginR ((D.getD q.toNat default).slot (D.getD q.toNat default).sp) se sz).1,D.set q.toNat ((D.getD q.toNat default).setSlot (D.getD q.toNat default).sp (beginR ((D.getD q.toNat default).slot (D.getD q.toNat default).sp) se sz).2))
def dLoad (D:List DP) (q se no:Int) (data:List Int):Int×List DP :=
 if dFree D q≠0 then (dFree D q,D)
 else ((putR ((D.getD q.toNat default).slot (D.getD q.toNat default).sp) se no data).1,D.set q.toNat ((D.getD q.toNat default).setSlot (D.getD q.toNat default).sp (putR ((D.getD q.toNat default).slot (D.getD q.toNat default).sp) se no data).2))
def dBegun (D:List DP) (q se:Int):Int :=
 if dFree D q≠0 then dFree D q
 else if ((D.getD q.toNat default).slot (D.getD q.toNat default).sp).has=false then 16 else if ((D.getD q.toNat default).slot (D.getD q.toNat default).sp).st.session≠se then 17 else 0
def dDrop (D:List DP) (q se:Int):Int×List DP :=
 if dBegun D q se≠0 then (dBegun D q se,D)
 else (0,D.set q.toNat ((D.getD q.toNat default).setSlot (D.getD q.toNat default).sp RS.none))
def dHold (t:Tab) (p:Nat) (R:RS):Img×Int :=
 if (bytesR R).2≠0 then (Img.none,(bytesR R).2)
 else if (getL (bytesR R).1).2≠0 then (Img.none,(getL (bytesR R).1).2)
 else if checkL t p (getL (bytesR R).1).1 0≠0 then (Img.none,checkL t p (getL (bytesR R).1).1 0)
 else ((getL (bytesR R).1).1,0)
def dSave (D:List DP) (p:Nat) (r:Rec):Int×List DP :=
 if 4294967295≤(D.getD p default).r.seq then (4,D)
 else if (nextRec p (D.getD p default).r r).right then (0,D.set p ⟨nextRec p (D.getD p default).r r,(D.getD p default).s0,(D.getD p default).s1⟩)
 else (3,D)
def dAct (t:Tab) (D:List DP) (p:Nat):Img×Int:=dHold t p ((D.getD p default).slot (D.getD p default).r.active)
def dImage (t:Tab) (D:List DP) (q:Int):Img×Int:=if q < 0∨(D.length:Int)≤q then (Img.none,3) else dAct t D q.toNat
def dBoot (t:Tab) (D:List DP) (q:Int):(Img×Int)×List DP :=
 if q < 0∨(D.length:Int)≤q then ((Img.none,3),D)
 else if (D.getD q.toNat default).trial=false then (dAct t D q.toNat,D)
 else if (dSave D q.toNat (bootRec (D.getD q.toNat default).r)).1≠0 then ((Img.none,(dSave D q.toNat (bootRec (D.getD q.toNat default).r)).1),(dSave D q.toNat (bootRec (D.getD q.toNat default).r)).2)
 else (dHold t q.toNat (((dSave D q.toNat (bootRec (D.getD q.toNat default).r)).2.getD q.toNat default).slot (bootRec (D.getD q.toNat default).r).active),(dSave D q.toNat (bootRec (D.getD q.toNat default).r)).2)
def dSp (D:List DP) (p:Nat):List Int×Int:=bytesR ((D.getD p default).slot (D.getD p default).sp)
def dSeal (t:Tab) (D:List DP) (q se:Int):Int×List DP :=
 if dBegun D q se≠0 then (dBegun D q se,D)
 else if (dSp D q.toNat).2≠0 then ((dSp D q.toNat).2,D)
 else if (getL (dSp D q.toNat).1).2≠0 then ((getL (dSp D q.toNat).1).2,D)
 else if (dAct t D q.toNat).2≠0 then ((dAct t D q.toNat).2,D)
 else if checkL t q (getL (dSp D q.toNat).1).1 (dAct t D q.toNat).1.version≠0 then (checkL t q (getL (dSp D q.toNat).1).1 (dAct t D q.toNat).1.version,D)
 else dSave D q.toNat (sealRec t (D.getD q.toNat default).r)
section
variable {m : DS} {xs : List PP} {D : List DP}
theorem UInv.free (h:UInv m xs D) (q:Int):freeE xs q=dFree D q:=by
 unfold freeE dFree
 rw [h.len]
 by_cases hq:q < 0∨(xs.length:Int)≤q
 ·rw [if_pos hq,if_pos hq]
 ·rw [if_neg hq,if_neg hq,(h.parts q.toNat (by omega)).trial]
theorem dFree_in {q:Int} (h:dFree D q=0):∃p:Nat,q=p∧p < D.length:=by
 unfold dFree at h
 by_cases hq:q < 0∨(D.length:Int)≤q
 ·rw [if_pos hq] at h;simp at h
 ·exact ⟨q.toNat,by omega,by omega⟩
theorem UInv.begin (h:UInv m xs D) (q se sz:Int):(sBegin m xs q se sz).1=(dBegin D q se sz).1∧UInv (sBegin m xs q se sz).2.1 (sBegin m xs q se sz).2.2 (dBegin D q se sz).2∧(sBegin m xs q se sz).2.1.secs.length=m.secs.length:=by
 unfold sBegin dBegin
 rw [h.free q]
 by_cases h0:dFree D q≠0
 ·rw [if_pos h0,if_pos h0];exact ⟨rfl,h,rfl⟩
 ·rw [if_neg h0,if_neg h0]
  obtain ⟨p,rfl,hp⟩:=dFree_in (by simpa using h0)
  rw [h.len] at hp
  have hu:=h.parts p hp
  simp only [Int.toNat_natCast]
  rw [hu.sp]
  have hs:=hu.si hu.sp01
  obtain ⟨e1,e2,e3⟩:=hs.beginU h.calm.up se sz
  have hl:(beginM m p (D.getD p default).sp ((xs.getD p default).slot (D.getD p default).sp) se sz).2.1.secs.length=m.secs.length:=by
   unfold beginM
   split
   ·split<;>exact wf_slen _ _ _
   ·rfl
  exact ⟨e1,h.slot hp hu.sp01 e2 e3 hl fun j hj=>begin_out hs.pl _ se sz hj,hl⟩
theorem UInv.load (h:UInv m xs D) (q se no:Int) {data:List Int} (hb:Byt data):(sLoad m xs q se no data).1=(dLoad D q se no data).1∧UInv (sLoad m xs q se no data).2.1 (sLoad m xs q se no data).2.2 (dLoad D q se no data).2∧(sLoad m xs q se no data).2.1.secs.length=m.secs.length:=by
 unfold sLoad dLoad
 rw [h.free q]
 by_cases h0:dFree D q≠0
 ·rw [if_pos h0,if_pos h0];exact ⟨rfl,h,rfl⟩
 ·rw [if_neg h0,if_neg h0]
  obtain ⟨p,rfl,hp⟩:=dFree_in (by simpa using h0)
  rw [h.len] at hp
  have hu:=h.parts p hp
  simp only [Int.toNat_natCast]
  rw [hu.sp]
  have hs:=hu.si hu.sp01
  obtain ⟨e1,e2,e3⟩:=hs.putU h.calm.up se no hb
  exact ⟨e1,h.slot hp hu.sp01 e2 e3 (putM_slen _ _ _ _ _ _ _) fun j hj=>put_out hs.pl hs.right se no hb hj,putM_slen _ _ _ _ _ _ _⟩
theorem UInv.begun (h:UInv m xs D) (q se:Int):begunE xs q se=dBegun D q se:=by
 unfold begunE dBegun
 rw [h.free q]
 by_cases h0:dFree D q≠0
 ·rw [if_pos h0,if_pos h0]
 ·rw [if_neg h0,if_neg h0]
  obtain ⟨p,rfl,hp⟩:=dFree_in (by simpa using h0)
  rw [h.len] at hp
  have hu:=h.parts p hp
  simp only [Int.toNat_natCast]
  simp only [hu.sp]
  have hm:=(hu.si hu.sp01).mem
  simp only [hm.has,hm.st]
theorem UInv.hold {t:Tab} (h:UInv m xs D) {p:Nat} (hp:p < xs.length) {k:Int} (hk:k=0∨k=1):holdL t m p (xs.getD p default) k=dHold t p ((D.getD p default).slot k):=by
 unfold holdL dHold
 rw [((h.parts p hp).si hk).bytesU h.calm.up.1]
theorem UInv.hold' {t:Tab} (h:UInv m xs D) {p:Nat} (hp:p < xs.length):holdL t m p (xs.getD p default) (xs.getD p default).log.now.active=dAct t D p:=by
 rw [(h.parts p hp).now]
 exact h.hold hp (h.parts p hp).act01
theorem UInv.save (h:UInv m xs D) {p:Nat} (hp:p < xs.length) (r:Rec):(sSave m xs p r).1=(dSave D p r).1∧UInv (sSave m xs p r).2.1 (sSave m xs p r).2.2 (dSave D p r).2∧(sSave m xs p r).2.1.secs.length=m.secs.length:=by
 have hu:=h.parts p hp
 have hl:=hu.inv.log
 unfold sSave dSave saveM
 rw [hu.now]
 by_cases h1:4294967295≤(D.getD p default).r.seq
 ·rw [if_pos h1,if_pos h1]
  refine ⟨rfl,?_,rfl⟩
  have e:xs.set p ⟨(xs.getD p default).log,(xs.getD p default).s0,(xs.getD p default).s1⟩=xs:=str_same hp
  simp only [e]
  exact h
 ·rw [if_neg h1,if_neg h1]
  by_cases h2:(nextRec p (D.getD p default).r r).right=true
  ·rw [if_pos h2,if_pos h2]
   obtain ⟨a0,a1⟩:=hl.at_in
   obtain ⟨w1,w2⟩:=wf_up (m:=m) (i:=(p:Int)*10+(1-(xs.getD p default).log.held)) (bs:=(nextRec p (D.getD p default).r r).bytes) a0 a1 (Rec.bytes_length _) h.calm.up
   have w3:(wf m ((p:Int)*10+(1-(xs.getD p default).log.held)) (nextRec p (D.getD p default).r r).bytes).1=0:=by rw [w1]
   obtain ⟨v1,v2,v3⟩:=wf_ok h.calm.good a0 a1 (Rec.bytes_length _) w3
   have hsv:=hl.save (nx:=nextRec p (D.getD p default).r r) (r:=r) (by rw [hu.now]) h2 w3
   rw [if_pos w3]
   have hh:=hl.held
   exact ⟨rfl,h.log hp hsv.1 w2 v1 (wf_slen _ _ _) fun j h1 h2=>by rw [v3,if_neg (by omega)],wf_slen _ _ _⟩
  ·rw [if_neg h2,if_neg h2]
   refine ⟨rfl,?_,rfl⟩
   have e:xs.set p ⟨(xs.getD p default).log,(xs.getD p default).s0,(xs.getD p default).s1⟩=xs:=str_same hp
   simp only [e]
   exact h
theorem UInv.drop (h:UInv m xs D) (q se:Int):(sDrop m xs q se).1=(dDrop D q se).1∧UInv (sDrop m xs q se).2.1 (sDrop m xs q se).2.2 (dDrop D q se).2∧(sDrop m xs q se).2.1.secs.length=m.secs.length:=by
 unfold sDrop dDrop
 rw [h.begun q se]
 by_cases h0:dBegun D q se≠0
 ·rw [if_pos h0,if_pos h0];exact ⟨rfl,h,rfl⟩
 ·rw [if_neg h0,if_neg h0]
  have hf:dFree D q=0:=by
   by_cases h1:dFree D q=0
   ·exact h1
   ·exfalso;apply h0;unfold dBegun;rw [if_pos h1];exact h1
  obtain ⟨p,rfl,hp⟩:=dFree_in hf
  rw [h.len] at hp
  have hu:=h.parts p hp
  simp only [Int.toNat_natCast]
  rw [hu.sp]
  have hs:=hu.si hu.sp01
  have hup:=clear_up hs.pl h.calm.up ((xs.getD p default).slot (D.getD p default).sp)
  obtain ⟨e1,e2⟩:=hs.clear.up hup
  have hl:(clearM m p (D.getD p default).sp ((xs.getD p default).slot (D.getD p default).sp)).2.1.secs.length=m.secs.length:=by
   unfold clearM
   split<;>exact wf_slen _ _ _
  exact ⟨e1,h.slot hp hu.sp01 e2 hup hl fun j hj=>clear_out hs.pl _ hj,hl⟩
theorem UInv.image {t:Tab} (h:UInv m xs D) (q:Int):sImage t m xs q=dImage t D q:=by
 unfold sImage dImage
 rw [h.len]
 by_cases hq:q < 0∨(xs.length:Int)≤q
 ·rw [if_pos hq,if_pos hq]
 ·rw [if_neg hq,if_neg hq]
  exact h.hold' (by omega)
theorem boot_act {X:Rec} (h:X.right=true):(bootRec X).active=0∨(bootRec X).active=1:=by
 have:=refRec.rec_in h
 unfold bootRec
 split
 ·show X.confirmed=0∨X.confirmed=1;omega
 ·show X.active=0∨X.active=1;omega
theorem UInv.boot {t:Tab} (h:UInv m xs D) (q:Int):(sBoot t m xs q).1=(dBoot t D q).1∧UInv (sBoot t m xs q).2.1 (sBoot t m xs q).2.2 (dBoot t D q).2∧(sBoot t m xs q).2.1.secs.length=m.secs.length:=by
 unfold sBoot dBoot
 rw [h.len]
 by_cases hq:q < 0∨(xs.length:Int)≤q
 ·rw [if_pos hq,if_pos hq];exact ⟨rfl,h,rfl⟩
 ·rw [if_neg hq,if_neg hq]
  have hp:q.toNat < xs.length:=by omega
  have hu:=h.parts q.toNat hp
  rw [hu.trial]
  by_cases h2:(D.getD q.toNat default).trial=false
  ·rw [if_pos h2,if_pos h2]
   exact ⟨h.hold' hp,h,rfl⟩
  ·rw [if_neg h2,if_neg h2,hu.now]
   obtain ⟨s1,s2,s3⟩:=h.save hp (bootRec (D.getD q.toNat default).r)
   rw [s1]
   by_cases h3:(dSave D q.toNat (bootRec (D.getD q.toNat default).r)).1≠0
   ·rw [if_pos h3,if_pos h3];exact ⟨rfl,s2,s3⟩
   ·rw [if_neg h3,if_neg h3]
    exact ⟨s2.hold (by simpa [sSave] using hp) (boot_act hu.right),s2,s3⟩
theorem UInv.seal_ {t:Tab} (h:UInv m xs D) (q se:Int):(sSeal t m xs q se).1=(dSeal t D q se).1∧UInv (sSeal t m xs q se).2.1 (sSeal t m xs q se).2.2 (dSeal t D q se).2∧(sSeal t m xs q se).2.1.secs.length=m.secs.length:=by
 unfold sSeal dSeal
 rw [h.begun q se]
 by_cases h0:dBegun D q se≠0
 ·rw [if_pos h0,if_pos h0];exact ⟨rfl,h,rfl⟩
 ·rw [if_neg h0,if_neg h0]
  have hf:dFree D q=0:=by
   by_cases h1:dFree D q=0
   ·exact h1
   ·exfalso;apply h0;unfold dBegun;rw [if_pos h1];exact h1
  obtain ⟨p,rfl,hp⟩:=dFree_in hf
  rw [h.len] at hp
  have hu:=h.parts p hp
  simp only [Int.toNat_natCast]
  have e1:spB m p (xs.getD p default)=dSp D p:=by
   unfold spB dSp
   rw [hu.sp]
   exact (hu.si hu.sp01).bytesU h.calm.up.1
  rw [e1,h.hold' hp]
  by_cases h1:(dSp D p).2≠0
  ·rw [if_pos h1,if_pos h1];exact ⟨rfl,h,rfl⟩
  rw [if_neg h1,if_neg h1]
  by_cases h2:(getL (dSp D p).1).2≠0
  ·rw [if_pos h2,if_pos h2];exact ⟨rfl,h,rfl⟩
  rw [if_neg h2,if_neg h2]
  by_cases h3:(dAct t D p).2≠0
  ·rw [if_pos h3,if_pos h3];exact ⟨rfl,h,rfl⟩
  rw [if_neg h3,if_neg h3]
  by_cases h4:checkL t p (getL (dSp D p).1).1 (dAct t D p).1.version≠0
  ·rw [if_pos h4,if_pos h4];exact ⟨rfl,h,rfl⟩
  rw [if_neg h4,if_neg h4,hu.now]
  exact h.save hp _
end
def madeD (js:List Img):List DP:=(List.range js.length).map fun (p:Nat)=>⟨firstRec p,loadR (js.getD p Img.none).bytes,RS.none⟩
theorem SInv.made {m:DS} {xs:List PP} {js:List Img} (h:SInv m xs (madeR js)):UInv m xs (madeD js):=by
 have hl:js.length=xs.length:=by have:=h.len;simpa [madeR] using this
 refine ⟨h.calm,by simp [madeD,hl],fun p hp=>?_⟩
 have e1:(madeR js).getD p default=(loadR (js.getD p Img.none).bytes,RS.none):=by
  simp only [madeR,List.getD_eq_getElem?_getD,List.getElem?_map]
  rw [List.getElem?_eq_getElem (by omega)]
  rfl
 have e2:(madeD js).getD p default=⟨firstRec p,loadR (js.getD p Img.none).bytes,RS.none⟩:=by
  simp [madeD,List.getD_eq_getElem?_getD,List.getElem?_map,show p < js.length by omega]
 have:=h.parts p hp
 rw [e1] at this
 rw [e2]
 exact ⟨this,h.recs p hp⟩
end store
end Go.Proofs.YtdldkkoplgkloaaGreat
