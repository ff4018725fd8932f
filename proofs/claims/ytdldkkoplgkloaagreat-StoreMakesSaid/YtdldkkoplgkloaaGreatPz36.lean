/-
  PROVED HERE: lemmas and contracts that the law's proof leans on (texts put together: StoreBoot).
  CONDITIONS: each names its own.
-/
import Derived.Test.YtdldkkoplgkloaaGreatPz35
namespace Go.Proofs.YtdldkkoplgkloaaGreat
set_option linter.unusedVariables false
set_option linter.unusedSimpArgs false
set_option maxRecDepth 100000
set_option maxHeartbeats 32000000
namespace store


open Go.RowKit Go.Deep base obj mem sep plan disk record commit stage image tab compat chain crc
section
variable {w0 w : World} {l : List Asn}
theorem boot_str {ad:StAd} {t:Tab} {d:Nat} {m:DS} {xs:List PP} (h:St w0 w (strA ad t d m xs::l)) (ok:SOk t m xs) (q:Int) :
  Calls Tryz.prog 10 #[.pointer (some ⟨ad.S,0,none⟩),.int .i64 q] w fun e w'=>∃(i:Img) (A:Option Addr) (c:Nat) (er:Int),e=.returned (.tuple #[i.val A c,.int .i64 er])∧(i,er)=(sBoot t m xs q).1∧St w0 w' (own 5 1 (.slice A i.code.length c) i.code.length (u8s i.code)::strA ad t d (sBoot t m xs q).2.1 (sBoot t m xs q).2.2::l):=by
 obtain ⟨R,hR⟩:∃R,R=w.heap.size:=⟨_,rfl⟩
 obtain ⟨w1,hw1⟩:∃w1,w1=w.alloc (.cells #[.int .i64 0,.int .i64 0,.int .i64 0,.int .i64 0,.int .i64 0,.int .i64 0,.int .i64 0,.slice none 0 0] 26):=⟨_,rfl⟩
 have H1:=Lib.hid (show St w0 w1 (row R 26 [.int .i64 0,.int .i64 0,.int .i64 0,.int .i64 0,.int .i64 0,.int .i64 0,.int .i64 0,.slice none 0 0]::strA ad t d m xs::l) by
  have h:=h.new 26 #[.int .i64 0,.int .i64 0,.int .i64 0,.int .i64 0,.int .i64 0,.int .i64 0,.int .i64 0,.slice none 0 0]
  rw [←hR,←hw1] at h
  exact h)
 have HW1:=Lib.hid hw1;have HR:=Lib.hid hR
 obtain ⟨s1,s2,s3⟩:=str_row H1.out.swap
 clear hw1 h hR
 by_cases hq:q < 0∨(xs.length:Int)≤q
 ·have HP:=Lib.hid (part_no s1 q hq)
  have HD:=Lib.hid (show sBoot t m xs q=((Img.none,3),m,xs) from if_pos hq)
  rw [HD.out]
  clear s1 s2 s3 hq ok
  go_enter Tryz.func10,Tryz.ntmps10
  go_upto_region 1 with fail
  rw [←HW1.out,←HR.out]
  go_wp2_with (fail)
  refine HP.out.mono ?_;rintro e w' ⟨rfl,rfl⟩
  go_wp2_with (refine wpList_putR rfl 26 (.tmp 4) (.tmp 18) rfl R 0 #[.int .i64 0,.int .i64 0,.int .i64 0,.int .i64 0,.int .i64 0,.int .i64 0,.int .i64 0,.slice none 0 0] rfl rfl H1.out.row.1 (by kernel_rfl) (by simp) (by simp [Value.oneCell']) [.int .i64 0,.int .i64 0,.int .i64 0,.int .i64 0,.int .i64 0,.int .i64 0,.int .i64 0,.slice none 0 0] (by simp) ?_)
  have h:=H1.out.setRow [.int .i64 0,.int .i64 0,.int .i64 0,.int .i64 0,.int .i64 0,.int .i64 0,.int .i64 0,.slice none 0 0]
  refine bodyPost_ret (res_cell_slot rfl _ _ R _ _ _ _ _ rfl rfl h.row.1 Tryz.underlying26 rfl (by kernel_rfl)) rfl ?_
  exact ⟨Img.none,none,0,_,rfl,rfl,h.drop.addOwn (Below.refl _ _) (nil_own _ _)⟩
 ·obtain ⟨p,rfl⟩:∃p:Nat,q=p:=⟨q.toNat,by omega⟩
  have hp:p < xs.length:=by omega
  have okx:=ok.at_ hp
  have HD:=Lib.hid (show sBoot t m xs p=if (xs.getD p default).trial=false then (holdL t m p (xs.getD p default) (xs.getD p default).log.now.active,m,xs)
   else if (sSave m xs p (bootRec (xs.getD p default).log.now)).1≠0 then ((Img.none,(sSave m xs p (bootRec (xs.getD p default).log.now)).1),(sSave m xs p (bootRec (xs.getD p default).log.now)).2)
   else (holdL t (sSave m xs p (bootRec (xs.getD p default).log.now)).2.1 p ((sSave m xs p (bootRec (xs.getD p default).log.now)).2.2.getD p default) (bootRec (xs.getD p default).log.now).active,(sSave m xs p (bootRec (xs.getD p default).log.now)).2) by rw [sBoot,if_neg hq,Int.toNat_natCast])
  have HP:=Lib.hid (part_at s1 s2 s3 p hp)
  have HT:=Lib.hid (fun (w':World) (hb:Below w1.heap.size w1 w')=>str_trial (str_open (H1.out.below hb).swap hp))
  have HL:=Lib.hid (latest_at (lg_open H1.out.swap hp))
  have HH:=Lib.hid (fun (w':World) (hb:Below w1.heap.size w1 w')=>holds_str ((H1.out.below hb).swap) ok hp okx.act)
  have HO2:=Lib.hid (fun (w':World) (l':List Asn) (hb:St w0 w' (strA ad t d m xs::l'))=>show w'.cell? ⟨(ad.al.getD p default).O,0,none⟩=some (.pointer (some ⟨(ad.al.getD p default).L,0,none⟩))∧(ad.al.getD p default).O < w'.heap.size from ⟨(str_own hb hp).cell 0,(str_own hb hp).lt⟩)
  have HO:=Lib.hid (fun (w':World) (hb:Below w1.heap.size w1 w')=>HO2.out w' _ (H1.out.below hb).swap)
  have HS:=Lib.hid (fun (w':World) (l':List Asn) (hb:St w0 w' (strA ad t d m xs::l'))=>ssave_str hb ok hp (bootRec (xs.getD p default).log.now))
  have HSO:=Lib.hid (fun h0=>ssave_ok ok hp (r:=bootRec (xs.getD p default).log.now) h0)
  have HLEN:=Lib.hid (show (sSave m xs p (bootRec (xs.getD p default).log.now)).2.2.length=xs.length by simp [sSave])
  have HBA:=Lib.hid (show (bootRec (xs.getD p default).log.now).active=0∨(bootRec (xs.getD p default).log.now).active=1 by
   unfold bootRec
   split
   ·exact okx.conf
   ·exact okx.act)
  have hact:=okx.act
  have hlf:=okx.left
  obtain ⟨sb,hsb⟩:∃v,v=sBoot t m xs p:=⟨_,rfl⟩
  rw [←hsb] at HD ⊢
  obtain ⟨hl,hhl⟩:∃v,v=holdL t m p (xs.getD p default) (xs.getD p default).log.now.active:=⟨_,rfl⟩
  rw [←hhl] at HD HH
  obtain ⟨ss,hss⟩:∃v,v=sSave m xs p (bootRec (xs.getD p default).log.now):=⟨_,rfl⟩
  rw [←hss] at HD HS HSO HLEN
  generalize (xs.getD p default).trial=tr at *
  obtain ⟨r,hr⟩:∃r,r=(xs.getD p default).log.now:=⟨_,rfl⟩
  rw [←hr] at HD HL HS HBA hact hlf HH
  generalize (ad.al.getD p default).O=O,(ad.al.getD p default).L=L at *
  obtain ⟨rp,rs,ra,rc,rl,rb⟩:=r
  have HHB:=Lib.hid (fun (h0:ss.1=0) (w':World) (l':List Asn) (h:St w0 w' (strA ad t d ss.2.1 ss.2.2::l'))=>holds_str h (HSO.out h0) (by rw [HLEN.out];exact hp) HBA.out)
  simp only [Rec.val,Rec.cells] at HL
  dsimp only at hact hlf HH
  clear s1 s2 s3 hq ok okx hhl hsb hr hss
  have HAC:=Lib.hid hact
  clear hact
  cases tr with
  | false =>
    have HD2:=Lib.hid (show sb=(hl,m,xs) from HD.out)
    obtain ⟨o0,o1⟩:=HO.out w1 (Below.refl _ _)
    go_enter Tryz.func10,Tryz.ntmps10
    go_upto_region 1 with fail
    rw [←HW1.out,←HR.out]
    go_wp2_with (fail)
    refine HP.out.mono ?_;rintro e w' ⟨rfl,rfl⟩
    go_wp2_with (fail)
    refine HL.out.mono ?_;rintro e w3 ⟨rfl,hb⟩
    have HB3:=Lib.hid (hb.trans (((Below.refl w3.heap.size w3).alloc (Nat.le_refl _) (.cells #[.int .i64 rp,.int .i64 rs,.int .i64 ra,.int .i64 rc,.int .i64 rl,.int .i64 rb] 35)).mono hb.size))
    have hrow:=Row.new w3 35 #[.int .i64 rp,.int .i64 rs,.int .i64 ra,.int .i64 rc,.int .i64 rl,.int .i64 rb]
    obtain ⟨Q,hQ⟩:∃Q,Q=w3.heap.size:=⟨_,rfl⟩
    obtain ⟨w4,hw4⟩:∃v,v=w3.alloc (.cells #[.int .i64 rp,.int .i64 rs,.int .i64 ra,.int .i64 rc,.int .i64 rl,.int .i64 rb] 35):=⟨_,rfl⟩
    rw [←hw4] at HB3 hrow
    rw [←hQ] at hrow
    have HQ:=Lib.hid hQ;have HW4:=Lib.hid hw4;have HROW:=Lib.hid hrow
    clear hb o0 o1 hrow hQ hw4
    go_upto_region 6 with fail
    rw [←HW4.out,←HQ.out]
    go_wp2_with (fail)
    refine (HT.out w4 HB3.out).mono ?_;rintro e w5 ⟨rfl,hb⟩
    have HB5:=Lib.hid (HB3.out.trans (hb.mono HB3.out.size))
    have hrow:=HROW.out.below hb HROW.out.lt
    have q2:w5.cell? ⟨Q,2,none⟩=some (.int .i64 ra):=hrow.cell 2
    have lq:=hrow.lt
    clear hb hrow
    go_wp2_with (fail)
    refine (HH.out w5 HB5.out).mono ?_
    rintro e w9 ⟨j,A3,c3,e9,rfl,hj,hst⟩
    have H9:=Lib.hid (hst.pick 2 rfl)
    have HJ9:=Lib.hid hj
    clear hst hj
    simp only [Img.val]
    go_wp2_with (refine wpList_putR rfl 26 (.tmp 4) (.tmp 38) rfl R 0 #[.int .i64 j.part,.int .i64 j.version,.int .i64 j.hard,.int .i64 j.mem,.int .i64 j.fuel,.int .i64 j.sends,.int .i64 j.receives,.slice A3 j.code.length c3] rfl rfl H9.out.row.1 (by kernel_rfl) (by simp) (by simp [Value.oneCell']) [.int .i64 j.part,.int .i64 j.version,.int .i64 j.hard,.int .i64 j.mem,.int .i64 j.fuel,.int .i64 j.sends,.int .i64 j.receives,.slice A3 j.code.length c3] (by simp) ?_)
    have h:=H9.out.setRow [.int .i64 j.part,.int .i64 j.version,.int .i64 j.hard,.int .i64 j.mem,.int .i64 j.fuel,.int .i64 j.sends,.int .i64 j.receives,.slice A3 j.code.length c3]
    refine bodyPost_ret (res_cell_slot rfl _ _ R _ _ _ _ _ rfl rfl h.row.1 Tryz.underlying26 rfl (by kernel_rfl)) rfl ?_
    rw [HD2.out]
    exact ⟨j,A3,c3,e9,rfl,HJ9.out,h.drop⟩
  | true =>
    have HD2:=Lib.hid (show sb=if ss.1≠0 then ((Img.none,ss.1),ss.2) else (holdL t ss.2.1 p (ss.2.2.getD p default) (bootRec ⟨rp,rs,ra,rc,rl,rb⟩).active,ss.2) from HD.out)
    by_cases hl0:rl=0
    case pos =>
     have hl1:(rl==0)=true:=by simpa using hl0
     have HLZ:=Lib.hid hl0
     clear hl0
     rcases HAC.out with rfl|rfl
     ·skip
      have HBR:=Lib.hid (show bootRec ⟨rp,rs,0,rc,rl,rb⟩=⟨rp,rs,rc,rc,rl,1⟩ from if_pos HLZ.out)
      have HSR:=Lib.hid (fun w' l' hb=>by have h:=HS.out w' l' hb;rw [HBR.out] at h;simp only [Rec.val,Rec.cells] at h;exact h)
      go_enter Tryz.func10,Tryz.ntmps10
      go_upto_region 1 with fail
      rw [←HW1.out,←HR.out]
      obtain ⟨o0,o1⟩:=HO.out w1 (Below.refl _ _)
      go_wp2_with (fail)
      refine HP.out.mono ?_;rintro e w' ⟨rfl,rfl⟩
      go_wp2_with (fail)
      refine HL.out.mono ?_;rintro e w3 ⟨rfl,hb⟩
      have HB3:=Lib.hid hb
      obtain ⟨Q,hQ⟩:∃Q,Q=w3.heap.size:=⟨_,rfl⟩
      obtain ⟨w4,hw4⟩:∃v,v=w3.alloc (.cells #[.int .i64 rp,.int .i64 rs,.int .i64 0,.int .i64 rc,.int .i64 rl,.int .i64 rb] 35):=⟨_,rfl⟩
      have h4:=(H1.out.below hb).new 35 #[.int .i64 rp,.int .i64 rs,.int .i64 0,.int .i64 rc,.int .i64 rl,.int .i64 rb]
      rw [←hQ,←hw4] at h4
      have H4:=Lib.hid h4
      have HQ:=Lib.hid hQ;have HW4:=Lib.hid hw4
      clear hb o0 o1 h4 hQ hw4
      go_upto_region 6 with fail
      rw [←HW4.out,←HQ.out]
      go_wp2_with (fail)
      refine (HT.out w4 (by rw [HW4.out];exact HB3.out.trans (((Below.refl w3.heap.size w3).alloc (Nat.le_refl _) _).mono HB3.out.size))).mono ?_;rintro e w6 ⟨rfl,hb⟩
      have H6:=Lib.hid (H4.out.below hb)
      have q0:w6.cell? ⟨Q,0,none⟩=some (.int .i64 rp):=H6.out.row.1.cell 0
      have q2:w6.cell? ⟨Q,2,none⟩=some (.int .i64 0):=H6.out.row.1.cell 2
      have q3:w6.cell? ⟨Q,3,none⟩=some (.int .i64 rc):=H6.out.row.1.cell 3
      have q4:w6.cell? ⟨Q,4,none⟩=some (.int .i64 rl):=H6.out.row.1.cell 4
      have q5:w6.cell? ⟨Q,5,none⟩=some (.int .i64 rb):=H6.out.row.1.cell 5
      have f2:w6.frozen? ⟨Q,2,none⟩=false:=H6.out.row.1.frozen 2
      have f4:w6.frozen? ⟨Q,4,none⟩=false:=H6.out.row.1.frozen 4
      have f5:w6.frozen? ⟨Q,5,none⟩=false:=H6.out.row.1.frozen 5
      have q6:=H6.out.row.1.lt
      clear hb
      go_upto_region 9 with fail
      go_region
      go_upto_region 10 with fail
      obtain ⟨wq,hwq⟩:∃v,v=((w6.setCell ⟨Q,5,none⟩ (.int .i64 1)).setCell ⟨Q,2,none⟩ (.int .i64 rc)).drew:=⟨_,rfl⟩
      have hq4:St w0 wq (row Q 35 [.int .i64 rp,.int .i64 rs,.int .i64 rc,.int .i64 rc,.int .i64 rl,.int .i64 1]::row R 26 [.int .i64 0,.int .i64 0,.int .i64 0,.int .i64 0,.int .i64 0,.int .i64 0,.int .i64 0,.slice none 0 0]::strA ad t d m xs::l):=by
       have h:=((H6.out.set 5 (.int .i64 1)).set 2 (.int .i64 rc)).drew
       rw [←hwq] at h
       exact h
      have HQ4:=Lib.hid hq4
      clear q0 q2 q3 q4 q5 q6 f2 f4 f5
      rw [←hwq]
      clear hq4 hwq
      have HS2:=Lib.hid (fun hb=>HSR.out wq.drew (row Q 35 [.int .i64 rp,.int .i64 rs,.int .i64 rc,.int .i64 rc,.int .i64 rl,.int .i64 1]::row R 26 [.int .i64 0,.int .i64 0,.int .i64 0,.int .i64 0,.int .i64 0,.int .i64 0,.int .i64 0,.slice none 0 0]::l) hb)
      obtain ⟨o0,o1⟩:=HO2.out wq _ (HQ4.out.pick 2 rfl)
      have q0:wq.cell? ⟨Q,0,none⟩=some (.int .i64 rp):=HQ4.out.row.1.cell 0
      have q1:wq.cell? ⟨Q,1,none⟩=some (.int .i64 rs):=HQ4.out.row.1.cell 1
      have q2:wq.cell? ⟨Q,2,none⟩=some (.int .i64 rc):=HQ4.out.row.1.cell 2
      have q3:wq.cell? ⟨Q,3,none⟩=some (.int .i64 rc):=HQ4.out.row.1.cell 3
      have q4:wq.cell? ⟨Q,4,none⟩=some (.int .i64 rl):=HQ4.out.row.1.cell 4
      have q5:wq.cell? ⟨Q,5,none⟩=some (.int .i64 1):=HQ4.out.row.1.cell 5
      have q6:=HQ4.out.row.1.lt
      refine segs_start (by kernel_rfl) ?_
      (refine segs_take [0,1,2,3,4] (by kernel_rfl) (fun _ _ _ _ _ h=>h) ?_;simp only [pick,xGs,xGz,xGo];(iterate 5 still_step);refine wpStill_nil ?_)
      (try simp only [xGs,xGz,xGo,Act.put,xSi,xSz,xSs])
      (refine segs_one 5 (by kernel_rfl) (by rfl) ?_;(try simp only [xGs,xGz,xGo]);go_simp)
      refine (HS2.out ((HQ4.out.pick 2 rfl).drew)).mono ?_;rintro e w5 ⟨rfl,hst⟩
      have H5:=Lib.hid (hst.pick 2 rfl)
      clear hst q0 q1 q2 q3 q4 q5 q6 o0 o1
      dsimp only
      (try simp only [xGs,xGz,xGo,Act.put,xSi,xSz,xSs])
      (refine segs_take [6] (by kernel_rfl) (fun _ _ _ _ _ h=>h) ?_;simp only [pick,xGs,xGz,xGo];(iterate 1 still_step);refine wpStill_nil ?_)
      refine segs_end (by kernel_rfl) ?_
      obtain ⟨se,ms,xss⟩:=ss
      dsimp only at HD2 HHB H5
      dsimp only
      by_cases hse:se=0
      case neg =>
       have hse1:(se != 0)=true:=by simpa using hse
       have HD3:=Lib.hid (show sb=((Img.none,se),ms,xss) by rw [HD2.out];exact if_pos hse)
       clear hse
       go_wp2_with (refine wpList_putR rfl 26 (.tmp 4) (.tmp 59) rfl R 0 #[.int .i64 0,.int .i64 0,.int .i64 0,.int .i64 0,.int .i64 0,.int .i64 0,.int .i64 0,.slice none 0 0] rfl rfl H5.out.row.1 (by kernel_rfl) (by simp) (by simp [Value.oneCell']) [.int .i64 0,.int .i64 0,.int .i64 0,.int .i64 0,.int .i64 0,.int .i64 0,.int .i64 0,.slice none 0 0] (by simp) ?_)
       have h:=H5.out.setRow [.int .i64 0,.int .i64 0,.int .i64 0,.int .i64 0,.int .i64 0,.int .i64 0,.int .i64 0,.slice none 0 0]
       refine bodyPost_ret (res_cell_slot rfl _ _ R _ _ _ _ _ rfl rfl h.row.1 Tryz.underlying26 rfl (by kernel_rfl)) rfl ?_
       rw [HD3.out]
       exact ⟨Img.none,none,0,_,rfl,rfl,h.drop.swap.drop.addOwn (Below.refl _ _) (nil_own _ _)⟩
      case pos =>
       subst hse
       have HD3:=Lib.hid (show sb=(holdL t ms p (xss.getD p default) (bootRec ⟨rp,rs,0,rc,rl,rb⟩).active,ms,xss) by rw [HD2.out];exact if_neg (by simp))
       rw [HBR.out] at HD3 HHB
       dsimp only at HD3 HHB
       have q2:w5.cell? ⟨Q,2,none⟩=some (.int .i64 rc):=(H5.out.pick 2 rfl).row.1.cell 2
       have q6:=(H5.out.pick 2 rfl).row.1.lt
       go_wp2_with (fail)
       refine (HHB.out trivial w5 _ (H5.out.pick 1 rfl)).mono ?_
       rintro e w9 ⟨j,A3,c3,e9,rfl,hj,hst⟩
       have H9:=Lib.hid (hst.pick 2 rfl)
       have HJ9:=Lib.hid hj
       clear hst hj
       simp only [Img.val]
       go_wp2_with (refine wpList_putR rfl 26 (.tmp 4) (.tmp 66) rfl R 0 #[.int .i64 j.part,.int .i64 j.version,.int .i64 j.hard,.int .i64 j.mem,.int .i64 j.fuel,.int .i64 j.sends,.int .i64 j.receives,.slice A3 j.code.length c3] rfl rfl H9.out.row.1 (by kernel_rfl) (by simp) (by simp [Value.oneCell']) [.int .i64 j.part,.int .i64 j.version,.int .i64 j.hard,.int .i64 j.mem,.int .i64 j.fuel,.int .i64 j.sends,.int .i64 j.receives,.slice A3 j.code.length c3] (by simp) ?_)
       have h:=H9.out.setRow [.int .i64 j.part,.int .i64 j.version,.int .i64 j.hard,.int .i64 j.mem,.int .i64 j.fuel,.int .i64 j.sends,.int .i64 j.receives,.slice A3 j.code.length c3]
       refine bodyPost_ret (res_cell_slot rfl _ _ R _ _ _ _ _ rfl rfl h.row.1 Tryz.underlying26 rfl (by kernel_rfl)) rfl ?_
       rw [HD3.out]
       exact ⟨j,A3,c3,e9,rfl,HJ9.out,(h.drop.pick 2 rfl).drop⟩
     ·skip
      have HBR:=Lib.hid (show bootRec ⟨rp,rs,1,rc,rl,rb⟩=⟨rp,rs,rc,rc,rl,2⟩ from if_pos HLZ.out)
      have HSR:=Lib.hid (fun w' l' hb=>by have h:=HS.out w' l' hb;rw [HBR.out] at h;simp only [Rec.val,Rec.cells] at h;exact h)
      go_enter Tryz.func10,Tryz.ntmps10
      go_upto_region 1 with fail
      rw [←HW1.out,←HR.out]
      obtain ⟨o0,o1⟩:=HO.out w1 (Below.refl _ _)
      go_wp2_with (fail)
      refine HP.out.mono ?_;rintro e w' ⟨rfl,rfl⟩
      go_wp2_with (fail)
      refine HL.out.mono ?_;rintro e w3 ⟨rfl,hb⟩
      have HB3:=Lib.hid hb
      obtain ⟨Q,hQ⟩:∃Q,Q=w3.heap.size:=⟨_,rfl⟩
      obtain ⟨w4,hw4⟩:∃v,v=w3.alloc (.cells #[.int .i64 rp,.int .i64 rs,.int .i64 1,.int .i64 rc,.int .i64 rl,.int .i64 rb] 35):=⟨_,rfl⟩
      have h4:=(H1.out.below hb).new 35 #[.int .i64 rp,.int .i64 rs,.int .i64 1,.int .i64 rc,.int .i64 rl,.int .i64 rb]
      rw [←hQ,←hw4] at h4
      have H4:=Lib.hid h4
      have HQ:=Lib.hid hQ;have HW4:=Lib.hid hw4
      clear hb o0 o1 h4 hQ hw4
      go_upto_region 6 with fail
      rw [←HW4.out,←HQ.out]
      go_wp2_with (fail)
      refine (HT.out w4 (by rw [HW4.out];exact HB3.out.trans (((Below.refl w3.heap.size w3).alloc (Nat.le_refl _) _).mono HB3.out.size))).mono ?_;rintro e w6 ⟨rfl,hb⟩
      have H6:=Lib.hid (H4.out.below hb)
      have q0:w6.cell? ⟨Q,0,none⟩=some (.int .i64 rp):=H6.out.row.1.cell 0
      have q2:w6.cell? ⟨Q,2,none⟩=some (.int .i64 1):=H6.out.row.1.cell 2
      have q3:w6.cell? ⟨Q,3,none⟩=some (.int .i64 rc):=H6.out.row.1.cell 3
      have q4:w6.cell? ⟨Q,4,none⟩=some (.int .i64 rl):=H6.out.row.1.cell 4
      have q5:w6.cell? ⟨Q,5,none⟩=some (.int .i64 rb):=H6.out.row.1.cell 5
      have f2:w6.frozen? ⟨Q,2,none⟩=false:=H6.out.row.1.frozen 2
      have f4:w6.frozen? ⟨Q,4,none⟩=false:=H6.out.row.1.frozen 4
      have f5:w6.frozen? ⟨Q,5,none⟩=false:=H6.out.row.1.frozen 5
      have q6:=H6.out.row.1.lt
      clear hb
      go_upto_region 9 with fail
      go_region
      go_upto_region 10 with fail
      obtain ⟨wq,hwq⟩:∃v,v=((w6.setCell ⟨Q,5,none⟩ (.int .i64 2)).setCell ⟨Q,2,none⟩ (.int .i64 rc)).drew:=⟨_,rfl⟩
      have hq4:St w0 wq (row Q 35 [.int .i64 rp,.int .i64 rs,.int .i64 rc,.int .i64 rc,.int .i64 rl,.int .i64 2]::row R 26 [.int .i64 0,.int .i64 0,.int .i64 0,.int .i64 0,.int .i64 0,.int .i64 0,.int .i64 0,.slice none 0 0]::strA ad t d m xs::l):=by
       have h:=((H6.out.set 5 (.int .i64 2)).set 2 (.int .i64 rc)).drew
       rw [←hwq] at h
       exact h
      have HQ4:=Lib.hid hq4
      clear q0 q2 q3 q4 q5 q6 f2 f4 f5
      rw [←hwq]
      clear hq4 hwq
      have HS2:=Lib.hid (fun hb=>HSR.out wq.drew (row Q 35 [.int .i64 rp,.int .i64 rs,.int .i64 rc,.int .i64 rc,.int .i64 rl,.int .i64 2]::row R 26 [.int .i64 0,.int .i64 0,.int .i64 0,.int .i64 0,.int .i64 0,.int .i64 0,.int .i64 0,.slice none 0 0]::l) hb)
      obtain ⟨o0,o1⟩:=HO2.out wq _ (HQ4.out.pick 2 rfl)
      have q0:wq.cell? ⟨Q,0,none⟩=some (.int .i64 rp):=HQ4.out.row.1.cell 0
      have q1:wq.cell? ⟨Q,1,none⟩=some (.int .i64 rs):=HQ4.out.row.1.cell 1
      have q2:wq.cell? ⟨Q,2,none⟩=some (.int .i64 rc):=HQ4.out.row.1.cell 2
      have q3:wq.cell? ⟨Q,3,none⟩=some (.int .i64 rc):=HQ4.out.row.1.cell 3
      have q4:wq.cell? ⟨Q,4,none⟩=some (.int .i64 rl):=HQ4.out.row.1.cell 4
      have q5:wq.cell? ⟨Q,5,none⟩=some (.int .i64 2):=HQ4.out.row.1.cell 5
      have q6:=HQ4.out.row.1.lt
      refine segs_start (by kernel_rfl) ?_
      (refine segs_take [0,1,2,3,4] (by kernel_rfl) (fun _ _ _ _ _ h=>h) ?_;simp only [pick,xGs,xGz,xGo];(iterate 5 still_step);refine wpStill_nil ?_)
      (try simp only [xGs,xGz,xGo,Act.put,xSi,xSz,xSs])
      (refine segs_one 5 (by kernel_rfl) (by rfl) ?_;(try simp only [xGs,xGz,xGo]);go_simp)
      refine (HS2.out ((HQ4.out.pick 2 rfl).drew)).mono ?_;rintro e w5 ⟨rfl,hst⟩
      have H5:=Lib.hid (hst.pick 2 rfl)
      clear hst q0 q1 q2 q3 q4 q5 q6 o0 o1
      dsimp only
      (try simp only [xGs,xGz,xGo,Act.put,xSi,xSz,xSs])
      (refine segs_take [6] (by kernel_rfl) (fun _ _ _ _ _ h=>h) ?_;simp only [pick,xGs,xGz,xGo];(iterate 1 still_step);refine wpStill_nil ?_)
      refine segs_end (by kernel_rfl) ?_
      obtain ⟨se,ms,xss⟩:=ss
      dsimp only at HD2 HHB H5
      dsimp only
      by_cases hse:se=0
      case neg =>
       have hse1:(se != 0)=true:=by simpa using hse
       have HD3:=Lib.hid (show sb=((Img.none,se),ms,xss) by rw [HD2.out];exact if_pos hse)
       clear hse
       go_wp2_with (refine wpList_putR rfl 26 (.tmp 4) (.tmp 59) rfl R 0 #[.int .i64 0,.int .i64 0,.int .i64 0,.int .i64 0,.int .i64 0,.int .i64 0,.int .i64 0,.slice none 0 0] rfl rfl H5.out.row.1 (by kernel_rfl) (by simp) (by simp [Value.oneCell']) [.int .i64 0,.int .i64 0,.int .i64 0,.int .i64 0,.int .i64 0,.int .i64 0,.int .i64 0,.slice none 0 0] (by simp) ?_)
       have h:=H5.out.setRow [.int .i64 0,.int .i64 0,.int .i64 0,.int .i64 0,.int .i64 0,.int .i64 0,.int .i64 0,.slice none 0 0]
       refine bodyPost_ret (res_cell_slot rfl _ _ R _ _ _ _ _ rfl rfl h.row.1 Tryz.underlying26 rfl (by kernel_rfl)) rfl ?_
       rw [HD3.out]
       exact ⟨Img.none,none,0,_,rfl,rfl,h.drop.swap.drop.addOwn (Below.refl _ _) (nil_own _ _)⟩
      case pos =>
       subst hse
       have HD3:=Lib.hid (show sb=(holdL t ms p (xss.getD p default) (bootRec ⟨rp,rs,1,rc,rl,rb⟩).active,ms,xss) by rw [HD2.out];exact if_neg (by simp))
       rw [HBR.out] at HD3 HHB
       dsimp only at HD3 HHB
       have q2:w5.cell? ⟨Q,2,none⟩=some (.int .i64 rc):=(H5.out.pick 2 rfl).row.1.cell 2
       have q6:=(H5.out.pick 2 rfl).row.1.lt
       go_wp2_with (fail)
       refine (HHB.out trivial w5 _ (H5.out.pick 1 rfl)).mono ?_
       rintro e w9 ⟨j,A3,c3,e9,rfl,hj,hst⟩
       have H9:=Lib.hid (hst.pick 2 rfl)
       have HJ9:=Lib.hid hj
       clear hst hj
       simp only [Img.val]
       go_wp2_with (refine wpList_putR rfl 26 (.tmp 4) (.tmp 66) rfl R 0 #[.int .i64 j.part,.int .i64 j.version,.int .i64 j.hard,.int .i64 j.mem,.int .i64 j.fuel,.int .i64 j.sends,.int .i64 j.receives,.slice A3 j.code.length c3] rfl rfl H9.out.row.1 (by kernel_rfl) (by simp) (by simp [Value.oneCell']) [.int .i64 j.part,.int .i64 j.version,.int .i64 j.hard,.int .i64 j.mem,.int .i64 j.fuel,.int .i64 j.sends,.int .i64 j.receives,.slice A3 j.code.length c3] (by simp) ?_)
       have h:=H9.out.setRow [.int .i64 j.part,.int .i64 j.version,.int .i64 j.hard,.int .i64 j.mem,.int .i64 j.fuel,.int .i64 j.sends,.int .i64 j.receives,.slice A3 j.code.length c3]
       refine bodyPost_ret (res_cell_slot rfl _ _ R _ _ _ _ _ rfl rfl h.row.1 Tryz.underlying26 rfl (by kernel_rfl)) rfl ?_
       rw [HD3.out]
       exact ⟨j,A3,c3,e9,rfl,HJ9.out,(h.drop.pick 2 rfl).drop⟩
    case neg =>
     have hl1:(rl==0)=false:=by simpa using hl0
     have hwr:IntKind.i64.wrap (rl-1)=rl-1:=IntWalk.i64_in _ (by omega)
     have HLZ:=Lib.hid hl0
     clear hl0
     rcases HAC.out with rfl|rfl
     ·skip
      have HBR:=Lib.hid (show bootRec ⟨rp,rs,0,rc,rl,rb⟩=⟨rp,rs,0,rc,rl-1,rb⟩ from if_neg HLZ.out)
      have HSR:=Lib.hid (fun w' l' hb=>by have h:=HS.out w' l' hb;rw [HBR.out] at h;simp only [Rec.val,Rec.cells] at h;exact h)
      go_enter Tryz.func10,Tryz.ntmps10
      go_upto_region 1 with fail
      rw [←HW1.out,←HR.out]
      obtain ⟨o0,o1⟩:=HO.out w1 (Below.refl _ _)
      go_wp2_with (fail)
      refine HP.out.mono ?_;rintro e w' ⟨rfl,rfl⟩
      go_wp2_with (fail)
      refine HL.out.mono ?_;rintro e w3 ⟨rfl,hb⟩
      have HB3:=Lib.hid hb
      obtain ⟨Q,hQ⟩:∃Q,Q=w3.heap.size:=⟨_,rfl⟩
      obtain ⟨w4,hw4⟩:∃v,v=w3.alloc (.cells #[.int .i64 rp,.int .i64 rs,.int .i64 0,.int .i64 rc,.int .i64 rl,.int .i64 rb] 35):=⟨_,rfl⟩
      have h4:=(H1.out.below hb).new 35 #[.int .i64 rp,.int .i64 rs,.int .i64 0,.int .i64 rc,.int .i64 rl,.int .i64 rb]
      rw [←hQ,←hw4] at h4
      have H4:=Lib.hid h4
      have HQ:=Lib.hid hQ;have HW4:=Lib.hid hw4
      clear hb o0 o1 h4 hQ hw4
      go_upto_region 6 with fail
      rw [←HW4.out,←HQ.out]
      go_wp2_with (fail)
      refine (HT.out w4 (by rw [HW4.out];exact HB3.out.trans (((Below.refl w3.heap.size w3).alloc (Nat.le_refl _) _).mono HB3.out.size))).mono ?_;rintro e w6 ⟨rfl,hb⟩
      have H6:=Lib.hid (H4.out.below hb)
      have q0:w6.cell? ⟨Q,0,none⟩=some (.int .i64 rp):=H6.out.row.1.cell 0
      have q2:w6.cell? ⟨Q,2,none⟩=some (.int .i64 0):=H6.out.row.1.cell 2
      have q3:w6.cell? ⟨Q,3,none⟩=some (.int .i64 rc):=H6.out.row.1.cell 3
      have q4:w6.cell? ⟨Q,4,none⟩=some (.int .i64 rl):=H6.out.row.1.cell 4
      have q5:w6.cell? ⟨Q,5,none⟩=some (.int .i64 rb):=H6.out.row.1.cell 5
      have f2:w6.frozen? ⟨Q,2,none⟩=false:=H6.out.row.1.frozen 2
      have f4:w6.frozen? ⟨Q,4,none⟩=false:=H6.out.row.1.frozen 4
      have f5:w6.frozen? ⟨Q,5,none⟩=false:=H6.out.row.1.frozen 5
      have q6:=H6.out.row.1.lt
      clear hb
      skip
      go_upto_region 10 with fail
      obtain ⟨wq,hwq⟩:∃v,v=w6.setCell ⟨Q,4,none⟩ (.int .i64 (rl-1)):=⟨_,rfl⟩
      have hq4:St w0 wq (row Q 35 [.int .i64 rp,.int .i64 rs,.int .i64 0,.int .i64 rc,.int .i64 (rl-1),.int .i64 rb]::row R 26 [.int .i64 0,.int .i64 0,.int .i64 0,.int .i64 0,.int .i64 0,.int .i64 0,.int .i64 0,.slice none 0 0]::strA ad t d m xs::l):=by
       have h:=H6.out.set 4 (.int .i64 (rl-1))
       rw [←hwq] at h
       exact h
      have HQ4:=Lib.hid hq4
      clear q0 q2 q3 q4 q5 q6 f2 f4 f5
      rw [←hwq]
      clear hq4 hwq
      have HS2:=Lib.hid (fun hb=>HSR.out wq.drew (row Q 35 [.int .i64 rp,.int .i64 rs,.int .i64 0,.int .i64 rc,.int .i64 (rl-1),.int .i64 rb]::row R 26 [.int .i64 0,.int .i64 0,.int .i64 0,.int .i64 0,.int .i64 0,.int .i64 0,.int .i64 0,.slice none 0 0]::l) hb)
      obtain ⟨o0,o1⟩:=HO2.out wq _ (HQ4.out.pick 2 rfl)
      have q0:wq.cell? ⟨Q,0,none⟩=some (.int .i64 rp):=HQ4.out.row.1.cell 0
      have q1:wq.cell? ⟨Q,1,none⟩=some (.int .i64 rs):=HQ4.out.row.1.cell 1
      have q2:wq.cell? ⟨Q,2,none⟩=some (.int .i64 0):=HQ4.out.row.1.cell 2
      have q3:wq.cell? ⟨Q,3,none⟩=some (.int .i64 rc):=HQ4.out.row.1.cell 3
      have q4:wq.cell? ⟨Q,4,none⟩=some (.int .i64 (rl-1)):=HQ4.out.row.1.cell 4
      have q5:wq.cell? ⟨Q,5,none⟩=some (.int .i64 rb):=HQ4.out.row.1.cell 5
      have q6:=HQ4.out.row.1.lt
      refine segs_start (by kernel_rfl) ?_
      (refine segs_take [0,1,2,3,4] (by kernel_rfl) (fun _ _ _ _ _ h=>h) ?_;simp only [pick,xGs,xGz,xGo];(iterate 5 still_step);refine wpStill_nil ?_)
      (try simp only [xGs,xGz,xGo,Act.put,xSi,xSz,xSs])
      (refine segs_one 5 (by kernel_rfl) (by rfl) ?_;(try simp only [xGs,xGz,xGo]);go_simp)
      refine (HS2.out ((HQ4.out.pick 2 rfl).drew)).mono ?_;rintro e w5 ⟨rfl,hst⟩
      have H5:=Lib.hid (hst.pick 2 rfl)
      clear hst q0 q1 q2 q3 q4 q5 q6 o0 o1
      dsimp only
      (try simp only [xGs,xGz,xGo,Act.put,xSi,xSz,xSs])
      (refine segs_take [6] (by kernel_rfl) (fun _ _ _ _ _ h=>h) ?_;simp only [pick,xGs,xGz,xGo];(iterate 1 still_step);refine wpStill_nil ?_)
      refine segs_end (by kernel_rfl) ?_
      obtain ⟨se,ms,xss⟩:=ss
      dsimp only at HD2 HHB H5
      dsimp only
      by_cases hse:se=0
      case neg =>
       have hse1:(se != 0)=true:=by simpa using hse
       have HD3:=Lib.hid (show sb=((Img.none,se),ms,xss) by rw [HD2.out];exact if_pos hse)
       clear hse
       go_wp2_with (refine wpList_putR rfl 26 (.tmp 4) (.tmp 59) rfl R 0 #[.int .i64 0,.int .i64 0,.int .i64 0,.int .i64 0,.int .i64 0,.int .i64 0,.int .i64 0,.slice none 0 0] rfl rfl H5.out.row.1 (by kernel_rfl) (by simp) (by simp [Value.oneCell']) [.int .i64 0,.int .i64 0,.int .i64 0,.int .i64 0,.int .i64 0,.int .i64 0,.int .i64 0,.slice none 0 0] (by simp) ?_)
       have h:=H5.out.setRow [.int .i64 0,.int .i64 0,.int .i64 0,.int .i64 0,.int .i64 0,.int .i64 0,.int .i64 0,.slice none 0 0]
       refine bodyPost_ret (res_cell_slot rfl _ _ R _ _ _ _ _ rfl rfl h.row.1 Tryz.underlying26 rfl (by kernel_rfl)) rfl ?_
       rw [HD3.out]
       exact ⟨Img.none,none,0,_,rfl,rfl,h.drop.swap.drop.addOwn (Below.refl _ _) (nil_own _ _)⟩
      case pos =>
       subst hse
       have HD3:=Lib.hid (show sb=(holdL t ms p (xss.getD p default) (bootRec ⟨rp,rs,0,rc,rl,rb⟩).active,ms,xss) by rw [HD2.out];exact if_neg (by simp))
       rw [HBR.out] at HD3 HHB
       dsimp only at HD3 HHB
       have q2:w5.cell? ⟨Q,2,none⟩=some (.int .i64 0):=(H5.out.pick 2 rfl).row.1.cell 2
       have q6:=(H5.out.pick 2 rfl).row.1.lt
       go_wp2_with (fail)
       refine (HHB.out trivial w5 _ (H5.out.pick 1 rfl)).mono ?_
       rintro e w9 ⟨j,A3,c3,e9,rfl,hj,hst⟩
       have H9:=Lib.hid (hst.pick 2 rfl)
       have HJ9:=Lib.hid hj
       clear hst hj
       simp only [Img.val]
       go_wp2_with (refine wpList_putR rfl 26 (.tmp 4) (.tmp 66) rfl R 0 #[.int .i64 j.part,.int .i64 j.version,.int .i64 j.hard,.int .i64 j.mem,.int .i64 j.fuel,.int .i64 j.sends,.int .i64 j.receives,.slice A3 j.code.length c3] rfl rfl H9.out.row.1 (by kernel_rfl) (by simp) (by simp [Value.oneCell']) [.int .i64 j.part,.int .i64 j.version,.int .i64 j.hard,.int .i64 j.mem,.int .i64 j.fuel,.int .i64 j.sends,.int .i64 j.receives,.slice A3 j.code.length c3] (by simp) ?_)
       have h:=H9.out.setRow [.int .i64 j.part,.int .i64 j.version,.int .i64 j.hard,.int .i64 j.mem,.int .i64 j.fuel,.int .i64 j.sends,.int .i64 j.receives,.slice A3 j.code.length c3]
       refine bodyPost_ret (res_cell_slot rfl _ _ R _ _ _ _ _ rfl rfl h.row.1 Tryz.underlying26 rfl (by kernel_rfl)) rfl ?_
       rw [HD3.out]
       exact ⟨j,A3,c3,e9,rfl,HJ9.out,(h.drop.pick 2 rfl).drop⟩
     ·skip
      have HBR:=Lib.hid (show bootRec ⟨rp,rs,1,rc,rl,rb⟩=⟨rp,rs,1,rc,rl-1,rb⟩ from if_neg HLZ.out)
      have HSR:=Lib.hid (fun w' l' hb=>by have h:=HS.out w' l' hb;rw [HBR.out] at h;simp only [Rec.val,Rec.cells] at h;exact h)
      go_enter Tryz.func10,Tryz.ntmps10
      go_upto_region 1 with fail
      rw [←HW1.out,←HR.out]
      obtain ⟨o0,o1⟩:=HO.out w1 (Below.refl _ _)
      go_wp2_with (fail)
      refine HP.out.mono ?_;rintro e w' ⟨rfl,rfl⟩
      go_wp2_with (fail)
      refine HL.out.mono ?_;rintro e w3 ⟨rfl,hb⟩
      have HB3:=Lib.hid hb
      obtain ⟨Q,hQ⟩:∃Q,Q=w3.heap.size:=⟨_,rfl⟩
      obtain ⟨w4,hw4⟩:∃v,v=w3.alloc (.cells #[.int .i64 rp,.int .i64 rs,.int .i64 1,.int .i64 rc,.int .i64 rl,.int .i64 rb] 35):=⟨_,rfl⟩
      have h4:=(H1.out.below hb).new 35 #[.int .i64 rp,.int .i64 rs,.int .i64 1,.int .i64 rc,.int .i64 rl,.int .i64 rb]
      rw [←hQ,←hw4] at h4
      have H4:=Lib.hid h4
      have HQ:=Lib.hid hQ;have HW4:=Lib.hid hw4
      clear hb o0 o1 h4 hQ hw4
      go_upto_region 6 with fail
      rw [←HW4.out,←HQ.out]
      go_wp2_with (fail)
      refine (HT.out w4 (by rw [HW4.out];exact HB3.out.trans (((Below.refl w3.heap.size w3).alloc (Nat.le_refl _) _).mono HB3.out.size))).mono ?_;rintro e w6 ⟨rfl,hb⟩
      have H6:=Lib.hid (H4.out.below hb)
      have q0:w6.cell? ⟨Q,0,none⟩=some (.int .i64 rp):=H6.out.row.1.cell 0
      have q2:w6.cell? ⟨Q,2,none⟩=some (.int .i64 1):=H6.out.row.1.cell 2
      have q3:w6.cell? ⟨Q,3,none⟩=some (.int .i64 rc):=H6.out.row.1.cell 3
      have q4:w6.cell? ⟨Q,4,none⟩=some (.int .i64 rl):=H6.out.row.1.cell 4
      have q5:w6.cell? ⟨Q,5,none⟩=some (.int .i64 rb):=H6.out.row.1.cell 5
      have f2:w6.frozen? ⟨Q,2,none⟩=false:=H6.out.row.1.frozen 2
      have f4:w6.frozen? ⟨Q,4,none⟩=false:=H6.out.row.1.frozen 4
      have f5:w6.frozen? ⟨Q,5,none⟩=false:=H6.out.row.1.frozen 5
      have q6:=H6.out.row.1.lt
      clear hb
      skip
      go_upto_region 10 with fail
      obtain ⟨wq,hwq⟩:∃v,v=w6.setCell ⟨Q,4,none⟩ (.int .i64 (rl-1)):=⟨_,rfl⟩
      have hq4:St w0 wq (row Q 35 [.int .i64 rp,.int .i64 rs,.int .i64 1,.int .i64 rc,.int .i64 (rl-1),.int .i64 rb]::row R 26 [.int .i64 0,.int .i64 0,.int .i64 0,.int .i64 0,.int .i64 0,.int .i64 0,.int .i64 0,.slice none 0 0]::strA ad t d m xs::l):=by
       have h:=H6.out.set 4 (.int .i64 (rl-1))
       rw [←hwq] at h
       exact h
      have HQ4:=Lib.hid hq4
      clear q0 q2 q3 q4 q5 q6 f2 f4 f5
      rw [←hwq]
      clear hq4 hwq
      have HS2:=Lib.hid (fun hb=>HSR.out wq.drew (row Q 35 [.int .i64 rp,.int .i64 rs,.int .i64 1,.int .i64 rc,.int .i64 (rl-1),.int .i64 rb]::row R 26 [.int .i64 0,.int .i64 0,.int .i64 0,.int .i64 0,.int .i64 0,.int .i64 0,.int .i64 0,.slice none 0 0]::l) hb)
      obtain ⟨o0,o1⟩:=HO2.out wq _ (HQ4.out.pick 2 rfl)
      have q0:wq.cell? ⟨Q,0,none⟩=some (.int .i64 rp):=HQ4.out.row.1.cell 0
      have q1:wq.cell? ⟨Q,1,none⟩=some (.int .i64 rs):=HQ4.out.row.1.cell 1
      have q2:wq.cell? ⟨Q,2,none⟩=some (.int .i64 1):=HQ4.out.row.1.cell 2
      have q3:wq.cell? ⟨Q,3,none⟩=some (.int .i64 rc):=HQ4.out.row.1.cell 3
      have q4:wq.cell? ⟨Q,4,none⟩=some (.int .i64 (rl-1)):=HQ4.out.row.1.cell 4
      have q5:wq.cell? ⟨Q,5,none⟩=some (.int .i64 rb):=HQ4.out.row.1.cell 5
      have q6:=HQ4.out.row.1.lt
      refine segs_start (by kernel_rfl) ?_
      (refine segs_take [0,1,2,3,4] (by kernel_rfl) (fun _ _ _ _ _ h=>h) ?_;simp only [pick,xGs,xGz,xGo];(iterate 5 still_step);refine wpStill_nil ?_)
      (try simp only [xGs,xGz,xGo,Act.put,xSi,xSz,xSs])
      (refine segs_one 5 (by kernel_rfl) (by rfl) ?_;(try simp only [xGs,xGz,xGo]);go_simp)
      refine (HS2.out ((HQ4.out.pick 2 rfl).drew)).mono ?_;rintro e w5 ⟨rfl,hst⟩
      have H5:=Lib.hid (hst.pick 2 rfl)
      clear hst q0 q1 q2 q3 q4 q5 q6 o0 o1
      dsimp only
      (try simp only [xGs,xGz,xGo,Act.put,xSi,xSz,xSs])
      (refine segs_take [6] (by kernel_rfl) (fun _ _ _ _ _ h=>h) ?_;simp only [pick,xGs,xGz,xGo];(iterate 1 still_step);refine wpStill_nil ?_)
      refine segs_end (by kernel_rfl) ?_
      obtain ⟨se,ms,xss⟩:=ss
      dsimp only at HD2 HHB H5
      dsimp only
      by_cases hse:se=0
      case neg =>
       have hse1:(se != 0)=true:=by simpa using hse
       have HD3:=Lib.hid (show sb=((Img.none,se),ms,xss) by rw [HD2.out];exact if_pos hse)
       clear hse
       go_wp2_with (refine wpList_putR rfl 26 (.tmp 4) (.tmp 59) rfl R 0 #[.int .i64 0,.int .i64 0,.int .i64 0,.int .i64 0,.int .i64 0,.int .i64 0,.int .i64 0,.slice none 0 0] rfl rfl H5.out.row.1 (by kernel_rfl) (by simp) (by simp [Value.oneCell']) [.int .i64 0,.int .i64 0,.int .i64 0,.int .i64 0,.int .i64 0,.int .i64 0,.int .i64 0,.slice none 0 0] (by simp) ?_)
       have h:=H5.out.setRow [.int .i64 0,.int .i64 0,.int .i64 0,.int .i64 0,.int .i64 0,.int .i64 0,.int .i64 0,.slice none 0 0]
       refine bodyPost_ret (res_cell_slot rfl _ _ R _ _ _ _ _ rfl rfl h.row.1 Tryz.underlying26 rfl (by kernel_rfl)) rfl ?_
       rw [HD3.out]
       exact ⟨Img.none,none,0,_,rfl,rfl,h.drop.swap.drop.addOwn (Below.refl _ _) (nil_own _ _)⟩
      case pos =>
       subst hse
       have HD3:=Lib.hid (show sb=(holdL t ms p (xss.getD p default) (bootRec ⟨rp,rs,1,rc,rl,rb⟩).active,ms,xss) by rw [HD2.out];exact if_neg (by simp))
       rw [HBR.out] at HD3 HHB
       dsimp only at HD3 HHB
       have q2:w5.cell? ⟨Q,2,none⟩=some (.int .i64 1):=(H5.out.pick 2 rfl).row.1.cell 2
       have q6:=(H5.out.pick 2 rfl).row.1.lt
       go_wp2_with (fail)
       refine (HHB.out trivial w5 _ (H5.out.pick 1 rfl)).mono ?_
       rintro e w9 ⟨j,A3,c3,e9,rfl,hj,hst⟩
       have H9:=Lib.hid (hst.pick 2 rfl)
       have HJ9:=Lib.hid hj
       clear hst hj
       simp only [Img.val]
       go_wp2_with (refine wpList_putR rfl 26 (.tmp 4) (.tmp 66) rfl R 0 #[.int .i64 j.part,.int .i64 j.version,.int .i64 j.hard,.int .i64 j.mem,.int .i64 j.fuel,.int .i64 j.sends,.int .i64 j.receives,.slice A3 j.code.length c3] rfl rfl H9.out.row.1 (by kernel_rfl) (by simp) (by simp [Value.oneCell']) [.int .i64 j.part,.int .i64 j.version,.int .i64 j.hard,.int .i64 j.mem,.int .i64 j.fuel,.int .i64 j.sends,.int .i64 j.receives,.slice A3 j.code.length c3] (by simp) ?_)
       have h:=H9.out.setRow [.int .i64 j.part,.int .i64 j.version,.int .i64 j.hard,.int .i64 j.mem,.int .i64 j.fuel,.int .i64 j.sends,.int .i64 j.receives,.slice A3 j.code.length c3]
       refine bodyPost_ret (res_cell_slot rfl _ _ R _ _ _ _ _ rfl rfl h.row.1 Tryz.underlying26 rfl (by kernel_rfl)) rfl ?_
       rw [HD3.out]
       exact ⟨j,A3,c3,e9,rfl,HJ9.out,(h.drop.pick 2 rfl).drop⟩
end
end store
end Go.Proofs.YtdldkkoplgkloaaGreat
