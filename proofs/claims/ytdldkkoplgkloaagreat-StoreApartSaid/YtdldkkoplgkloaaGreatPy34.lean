/-
  PROVED HERE: lemmas that the law leans on.
  CONDITIONS: each names its own.
-/
import Derived.Test.YtdldkkoplgkloaaGreatPy0
import Derived.Test.YtdldkkoplgkloaaGreatPy27
import Derived.Test.YtdldkkoplgkloaaGreatPy29
import Derived.Test.YtdldkkoplgkloaaGreatPy32
import Derived.Test.YtdldkkoplgkloaaGreatPy33
namespace Go.Proofs.YtdldkkoplgkloaaGreat
set_option linter.unusedVariables false
set_option linter.unusedSimpArgs false
set_option maxRecDepth 100000
set_option maxHeartbeats 32000000
namespace store


open Go.RowKit Go.Deep base obj mem sep bf bk record bP aU image bK bR chain bw
section
variable {w0 w : World} {l : List aD}
def fh (t:aQ) (r:Rec):Rec:=⟨r.part,r.seq,1-r.aj,r.aj,t.ay,0⟩
def tQ (m:DS) (p:Int) (x:PP):List Int×Int:=cE m p x.sp (x.slot x.sp)
def nN (t:aQ) (m:DS) (xs:List PP) (q se:Int):Int×DS×List PP :=
 if iK xs q se≠0 then (iK xs q se,m,xs)
 else if (tQ m q (xs.getD q.toNat default)).2≠0 then ((tQ m q (xs.getD q.toNat default)).2,m,xs)
 else if (b9 (tQ m q (xs.getD q.toNat default)).1).2≠0 then ((b9 (tQ m q (xs.getD q.toNat default)).1).2,m,xs)
 else if (fK t m q.toNat (xs.getD q.toNat default) (xs.getD q.toNat default).log.now.ax).2≠0 then ((fK t m q.toNat (xs.getD q.toNat default) (xs.getD q.toNat default).log.now.ax).2,m,xs)
 else if bX t q (b9 (tQ m q (xs.getD q.toNat default)).1).1 (fK t m q.toNat (xs.getD q.toNat default) (xs.getD q.toNat default).log.now.ax).1.version≠0 then (bX t q (b9 (tQ m q (xs.getD q.toNat default)).1).1 (fK t m q.toNat (xs.getD q.toNat default) (xs.getD q.toNat default).log.now.ax).1.version,m,xs)
 else ep m xs q.toNat (fh t (xs.getD q.toNat default).log.now)
theorem Ga {ad:du} {t:aQ} {d:Nat} {m:DS} {xs:List PP} (h:St w0 w (bL ad t d m xs::l)) (ok:n8 t m xs) (q se:Int) :
  Calls Tryz.prog 16 #[.pointer (some ⟨ad.S,0,none⟩),.int .i64 q,.int .i64 se] w fun e w'=>e=.returned (.int .i64 (nN t m xs q se).1)∧St w0 w' (bL ad t d (nN t m xs q se).2.1 (nN t m xs q se).2.2::l):=by
 have HF:=aa (Hm h ok q se);have H:=aa h;by_cases hf:iK xs q se=0
 case neg =>
  have HD:=aa (show nN t m xs q se=(iK xs q se,m,xs) from if_pos hf);rw [HD.o];generalize iK xs q se=fe at *;have hf2:(fe != 0)=true:=by simpa using hf
  clear h hf;go_enter Tryz.func16,Tryz.ntmps16;go_wp2_with fail;refine HF.o.mono ?_;rintro e w1 ⟨⟨v,rfl,hv⟩,hb⟩;have HB:=aa hb;clear hv hb;go_wp2_with fail;go_ret;exact ⟨rfl,H.o.below HB.o⟩
 case pos =>
  have et:0≤q∧q < xs.length:=rG (sP hf);obtain ⟨p,rfl⟩:∃p:Nat,q=p:=⟨q.toNat,by omega⟩
  have hp:p < xs.length:=by omega
  have eJ:=ok.at_ hp
  have hD:nN t m xs p se=if (tQ m p (xs.getD p default)).2≠0 then ((tQ m p (xs.getD p default)).2,m,xs)
   else if (b9 (tQ m p (xs.getD p default)).1).2≠0 then ((b9 (tQ m p (xs.getD p default)).1).2,m,xs)
   else if (fK t m p (xs.getD p default) (xs.getD p default).log.now.ax).2≠0 then ((fK t m p (xs.getD p default) (xs.getD p default).log.now.ax).2,m,xs)
   else if bX t p (b9 (tQ m p (xs.getD p default)).1).1 (fK t m p (xs.getD p default) (xs.getD p default).log.now.ax).1.version≠0 then (bX t p (b9 (tQ m p (xs.getD p default)).1).1 (fK t m p (xs.getD p default) (xs.getD p default).log.now.ax).1.version,m,xs)
   else ep m xs p (fh t (xs.getD p default).log.now):=by
    rw [nN,if_neg (by rw [hf];simp),ea]
  rw [hf] at HF;have je:=aa et;have jI:=aa (fun (w':World) (l':List aD) (hb:St w0 w' (bL ad t d m xs::l'))=>qz eJ (ji hb hp));have kN:=aa (fun (w':World) (l':List aD) (hb:St w0 w' (bL ad t d m xs::l'))=>(Hi (uw hb hp eJ) (ok.pl hp eJ.sp) (eJ.rk _) (by have:=ok.tx;omega)).mono fun e w' ⟨A,n,B,h1,h2,h3⟩=>(⟨A,n,B,h1,h2,LN (k:=(xs.getD p default).sp) (Pp h3) hp eJ.sp⟩:∃A n B,e=Ending.returned (.tuple #[.slice A n n,.int .i64 (cE m p (xs.getD p default).sp ((xs.getD p default).slot (xs.getD p default).sp)).2])∧qi w0 B A n (cE m p (xs.getD p default).sp ((xs.getD p default).slot (xs.getD p default).sp)).1∧St w0 w' (bL ad t d m xs::B::l')));have yd:=aa (y9 ok.jm p (xs.getD p default).sp ((xs.getD p default).slot (xs.getD p default).sp));have ch:=aa (EM (m:=m) (p:=p) (k:=(xs.getD p default).sp) (eJ.rk (xs.getD p default).sp));have HL:=aa (fun (w':World) (l':List aD) (hb:St w0 w' (bL ad t d m xs::l'))=>ox (uD hb hp));have HO:=aa (fun (w':World) (l':List aD) (hb:St w0 w' (bL ad t d m xs::l'))=>show w'.cell? ⟨(ad.al.getD p default).O,0,none⟩=some (.pointer (some ⟨(ad.al.getD p default).L,0,none⟩))∧(ad.al.getD p default).O < w'.heap.size from ⟨(pq hb hp).cell 0,(pq hb hp).lt⟩);have HH:=aa (fun (w':World) (l':List aD) (hb:St w0 w' (bL ad t d m xs::l'))=>vV hb ok hp eJ.act);have HS:=aa (fun (w':World) (l':List aD) (hb:St w0 w' (bL ad t d m xs::l'))=>zT hb ok hp (fh t (xs.getD p default).log.now));have tZ:=aa (fun (w':World) (l':List aD) (hb:St w0 w' (bL ad t d m xs::l'))=>(po hb).1);have HTW:=aa (fun (w':World) (l':List aD) (hb:St w0 w' (bL ad t d m xs::l'))=>LL hb);have oG:=eJ.oN;rw [show cE m p (xs.getD p default).sp ((xs.getD p default).slot (xs.getD p default).sp)=tQ m p (xs.getD p default) from rfl] at kN yd ch;obtain ⟨ss,Qw⟩:∃v,v=nN t m xs p se:=⟨_,rfl⟩
  rw [←Qw] at hD ⊢;obtain ⟨bb,mH⟩:∃v,v=tQ m p (xs.getD p default):=⟨_,rfl⟩
  rw [←mH] at hD kN yd ch;obtain ⟨bs,e1⟩:=bb;dsimp only at hD kN yd ch;obtain ⟨gg,Ev⟩:∃v,v=b9 bs:=⟨_,rfl⟩
  rw [←Ev] at hD;obtain ⟨hh,hhh⟩:∃v,v=fK t m p (xs.getD p default) (xs.getD p default).log.now.ax:=⟨_,rfl⟩
  rw [←hhh] at hD HH;obtain ⟨sv,uV⟩:∃v,v=ep m xs p (fh t (xs.getD p default).log.now):=⟨_,rfl⟩
  rw [←uV] at hD HS;obtain ⟨r,hr⟩:∃r,r=(xs.getD p default).log.now:=⟨_,rfl⟩
  rw [←hr] at HL HS oG HH;obtain ⟨rp,rs,ra,rc,rl,rb⟩:=r;generalize (xs.getD p default).slot (xs.getD p default).sp=sl at *;generalize (ad.al.getD p default).slot (xs.getD p default).sp=g at *;rw [ea] at HF;generalize (ad.al.getD p default).O=O,(ad.al.getD p default).L=L at *;obtain ⟨gj,ge⟩:=gg;obtain ⟨hj,he⟩:=hh;have HGG:=aa Ev;have HD:=aa hD;obtain ⟨Sd,Mp⟩:∃S,S=ad.S:=⟨_,rfl⟩
  rw [←Mp] at HF HH tZ ⊢;simp only [Rec.val,Rec.cells,fh] at HL HS;have r2:=Ns ⟨rp,rs,ra,rc,rl,rb⟩;simp only [Rec.val,Rec.cells] at r2;dsimp only at HH oG;clear h hf Qw mH Ev hhh uV hr eJ et hD Mp ok;go_enter Tryz.func16,Tryz.ntmps16;go_wp2_with fail;refine HF.o.mono ?_;rintro e w1 ⟨⟨v,rfl,hv⟩,hb⟩;rw [hv je.o];have H1:=aa (H.o.below hb);clear hv hb;go_wp2_with fail;refine (jI.o w1 _ H1.o).mono ?_;rintro e w2 ⟨rfl,hb⟩;have H2:=aa (H1.o.below hb);clear hb;go_wp2_with fail;refine (kN.o w2 _ H2.o).mono ?_;rintro e w3 ⟨A,z,B,rfl,JZ,av⟩;have H3:=aa av;have wO:=aa JZ;have HE:=aa (JZ.2 w3 _ av.swap);clear av JZ;by_cases h1:e1=0
  case neg =>
   have h1b:(e1 != 0)=true:=by simpa using h1
   have MU:=aa (show ss=(e1,m,xs) by rw [HD.o];exact if_pos h1);clear h1;go_wp2_with fail;go_ret;rw [MU.o];exact ⟨rfl,H3.o.swap.drop⟩
  case pos =>
   subst h1;have MU:=aa (HD.o.trans (if_neg (by simp)));go_wp2_with fail;refine (Vs w3 A z z bs wO.o.1 (by have:=ch.o;have:=wO.o.1;omega) (Nat.le_refl _) yd.o HE.o).mono ?_;rintro e w4 ⟨j,A4,c4,e2,rfl,ho,hb,tT⟩;have H4:=aa ((H3.o.cQ hb ho).swap);rw [←HGG.o] at tT;rw [Prod.mk.injEq] at tT;obtain ⟨rfl,rfl⟩:=tT;clear ho hb;simp only [aw.val];obtain ⟨Q,hQ⟩:∃Q,Q=w4.heap.size:=⟨_,rfl⟩
   obtain ⟨w5,dQ⟩:∃v,v=w4.alloc (.cells #[.int .i64 j.part,.int .i64 j.version,.int .i64 j.aY,.int .i64 j.mem,.int .i64 j.fuel,.int .i64 j.aN,.int .i64 j.aB,.slice A4 j.code.length c4] 26):=⟨_,rfl⟩
   have h5:=H4.o.new 26 #[.int .i64 j.part,.int .i64 j.version,.int .i64 j.aY,.int .i64 j.mem,.int .i64 j.fuel,.int .i64 j.aN,.int .i64 j.aB,.slice A4 j.code.length c4];rw [←hQ,←dQ] at h5;have H5:=aa h5.swap;have HQ:=aa hQ;have pZ:=aa dQ;clear h5 hQ dQ;go_upto_region 8 with fail;rw [←pZ.o,←HQ.o];by_cases h2:e2=0
   case neg =>
    have h2b:(e2 != 0)=true:=by simpa using h2
    have jy:=aa (show ss=(e2,m,xs) by rw [MU.o];exact if_pos h2);clear h2;go_wp2_with fail;go_ret;rw [jy.o];exact ⟨rfl,H5.o.swap.drop.swap.drop.swap.drop⟩
   case pos =>
    subst h2;have jy:=aa (MU.o.trans (if_neg (by simp)));obtain ⟨o0,o1⟩:=HO.o w5 _ H5.o;go_wp2_with fail;refine (HL.o w5 _ H5.o).mono ?_;rintro e w6 ⟨rfl,hb⟩;have H6:=aa (H5.o.below hb);clear hb o0 o1;go_wp2_with fail;refine (HH.o w6 _ H6.o).mono ?_;rintro e w7 ⟨y,A7,c7,e3,rfl,hy,av⟩;have H7:=aa av.swap;rw [Prod.mk.injEq] at hy;obtain ⟨rfl,rfl⟩:=hy;clear av;simp only [aw.val];obtain ⟨Y,hY⟩:∃Q,Q=w7.heap.size:=⟨_,rfl⟩
    obtain ⟨w8,Aj⟩:∃v,v=w7.alloc (.cells #[.int .i64 y.part,.int .i64 y.version,.int .i64 y.aY,.int .i64 y.mem,.int .i64 y.fuel,.int .i64 y.aN,.int .i64 y.aB,.slice A7 y.code.length c7] 26):=⟨_,rfl⟩
    have h8:=H7.o.new 26 #[.int .i64 y.part,.int .i64 y.version,.int .i64 y.aY,.int .i64 y.mem,.int .i64 y.fuel,.int .i64 y.aN,.int .i64 y.aB,.slice A7 y.code.length c7];rw [←hY,←Aj] at h8;have H8:=aa h8.swap;have HY:=aa hY;have RJ:=aa Aj;clear h8 hY Aj;go_upto_region 11 with fail;rw [←RJ.o,←HY.o];by_cases h3:e3=0
    case neg =>
     have h3b:(e3 != 0)=true:=by simpa using h3
     have lH:=aa (show ss=(e3,m,xs) by rw [jy.o];exact if_pos h3);clear h3;go_wp2_with fail;go_ret;rw [lH.o];exact ⟨rfl,H8.o.swap.drop.swap.drop.swap.drop.swap.drop.swap.drop⟩
    case pos =>
     subst h3;have lH:=aa (jy.o.trans (if_neg (by simp)))
     have aa7:j.code.length≤9223372036854775807:=by
      have h1:=congrArg Prod.fst HGG.o;have h2:=Kl bs;have h3:=ch.o;rw [←h1] at h2;dsimp only at h2;omega
     have mj:=aa (fun (w':World) (l':List aD) (hb:St w0 w' (bL ad t d m xs::l'))=>Dt (bu:=y.version) (i:=j) (A:=A4) (c:=c4) (HTW.o w' l' hb) (p:Int) aa7);simp only [en.val,aw.val] at mj;obtain ⟨e4,he4⟩:∃v,v=bX t p j y.version:=⟨_,rfl⟩
     rw [←he4] at mj lH;clear he4;have Al:=tZ.o w8.drew _ H8.o.drew;have t0:w8.cell? ⟨Sd,0,none⟩=some (.int .i64 t.frame):=Al.cell 0;have t1:w8.cell? ⟨Sd,1,none⟩=some (.slice ad.bK.AP t.parts.length ad.bK.cP):=Al.cell 1;have t2:w8.cell? ⟨Sd,2,none⟩=some (.slice ad.bK.AW t.aC.length ad.bK.cW):=Al.cell 2;have t3:w8.cell? ⟨Sd,3,none⟩=some (.slice ad.bK.AC t.au.length ad.bK.cC):=Al.cell 3;have t4:w8.cell? ⟨Sd,4,none⟩=some (.int .i64 t.ay):=Al.cell 4;have lS:Sd < w8.heap.size:=Al.lt;have hq:=(H8.o.pick 3 rfl).row.1;have u0:w8.cell? ⟨Q,0,none⟩=some (.int .i64 j.part):=hq.cell 0;have u1:w8.cell? ⟨Q,1,none⟩=some (.int .i64 j.version):=hq.cell 1;have u2:w8.cell? ⟨Q,2,none⟩=some (.int .i64 j.aY):=hq.cell 2;have u3:w8.cell? ⟨Q,3,none⟩=some (.int .i64 j.mem):=hq.cell 3;have u4:w8.cell? ⟨Q,4,none⟩=some (.int .i64 j.fuel):=hq.cell 4;have u5:w8.cell? ⟨Q,5,none⟩=some (.int .i64 j.aN):=hq.cell 5;have u6:w8.cell? ⟨Q,6,none⟩=some (.int .i64 j.aB):=hq.cell 6;have u7:w8.cell? ⟨Q,7,none⟩=some (.slice A4 j.code.length c4):=hq.cell 7;have lQ:=hq.lt;have y1:w8.cell? ⟨Y,1,none⟩=some (.int .i64 y.version):=(H8.o.pick 1 rfl).row.1.cell 1;have lY:=(H8.o.pick 1 rfl).row.1.lt;clear Al hq;go_upto_region 13 with fail;refine dA ?_;(refine bj [0,1,2,3,4,5,6,7] ?_;simp only [pick,af,ae,ah];(iterate 8 still_step);refine wpStill_nil ?_);(try simp only [af,ae,ah,Act.put,aq,ak,ao]);(refine aL 8 ?_;(try simp only [af,ae,ah]);go_simp);refine (mj.o w8.drew _ H8.o.drew).mono ?_;rintro e w9 ⟨rfl,hb⟩;have H9:=aa (H8.o.drew.below hb);clear hb t0 t1 t2 t3 t4 lS u0 u1 u2 u3 u4 u5 u6 u7 lQ y1 lY;dsimp only;(try simp only [af,ae,ah,Act.put,aq,ak,ao]);(refine bj [9] ?_;simp only [pick,af,ae,ah];(iterate 1 still_step);refine wpStill_nil ?_);refine bZ ?_;by_cases h4:e4=0
     case neg =>
      have h4b:(e4 != 0)=true:=by simpa using h4
      have HD4:=aa (show ss=(e4,m,xs) by rw [lH.o];exact if_pos h4);clear h4;go_wp2_with fail;go_ret;rw [HD4.o];exact ⟨rfl,H9.o.swap.drop.swap.drop.swap.drop.swap.drop.swap.drop⟩
     case pos =>
      subst h4;have HD4:=aa (show ss=sv by rw [lH.o];exact if_neg (by simp));obtain ⟨o0,o1⟩:=HO.o w9 _ H9.o;go_wp2_with fail;refine (HL.o w9 _ H9.o).mono ?_;rintro e wa ⟨rfl,hb⟩;have HA:=aa (H9.o.below hb);clear hb o0 o1;obtain ⟨K,hK⟩:∃Q,Q=wa.heap.size:=⟨_,rfl⟩
      obtain ⟨wb,zn⟩:∃v,v=wa.alloc (.cells #[.int .i64 rp,.int .i64 rs,.int .i64 ra,.int .i64 rc,.int .i64 rl,.int .i64 rb] 35):=⟨_,rfl⟩
      have hB:=HA.o.new 35 #[.int .i64 rp,.int .i64 rs,.int .i64 ra,.int .i64 rc,.int .i64 rl,.int .i64 rb];rw [←hK,←zn] at hB;have HB:=aa hB;have HK:=aa hK;have HWB:=aa zn;clear hB hK zn;go_upto_region 17 with fail;rw [←HWB.o,←HK.o];have k2:wb.cell? ⟨K,2,none⟩=some (.int .i64 ra):=HB.o.row.1.cell 2;have k3:wb.cell? ⟨K,3,none⟩=some (.int .i64 rc):=HB.o.row.1.cell 3;have k4:wb.cell? ⟨K,4,none⟩=some (.int .i64 rl):=HB.o.row.1.cell 4;have k5:wb.cell? ⟨K,5,none⟩=some (.int .i64 rb):=HB.o.row.1.cell 5;have f2:wb.frozen? ⟨K,2,none⟩=false:=HB.o.row.1.frozen 2;have f4:wb.frozen? ⟨K,4,none⟩=false:=HB.o.row.1.frozen 4;have f5:wb.frozen? ⟨K,5,none⟩=false:=HB.o.row.1.frozen 5;have k6:=HB.o.row.1.lt;have Al:=tZ.o wb _ HB.o.swap;have t4:wb.cell? ⟨Sd,4,none⟩=some (.int .i64 t.ay):=Al.cell 4;have lS:Sd < wb.heap.size:=Al.lt;have hwc:IntKind.i64.wrap (1-rc)=1-rc:=IntWalk.i64_in _ (by omega);clear Al
      go_region
      obtain ⟨wc,TA⟩:∃v,v=(((wb.setCell ⟨K,2,none⟩ (.int .i64 (1-rc))).setCell ⟨K,4,none⟩ (.int .i64 t.ay)).setCell ⟨K,5,none⟩ (.int .i64 0)).drew:=⟨_,rfl⟩
      rw [←TA];have hC:=(((HB.o.set 2 (.int .i64 (1-rc))).set 4 (.int .i64 t.ay)).set 5 (.int .i64 0)).drew;rw [←TA] at hC;simp only [List.set_cons_succ,List.set_cons_zero] at hC;have HC:=aa hC;have HC2:=aa hC.swap;clear hC TA k2 k3 k4 k5 k6 f2 f4 f5 t4 lS;obtain ⟨o0,o1⟩:=HO.o wc _ HC2.o;have q0:wc.cell? ⟨K,0,none⟩=some (.int .i64 rp):=HC.o.row.1.cell 0;have q1:wc.cell? ⟨K,1,none⟩=some (.int .i64 rs):=HC.o.row.1.cell 1;have q2:wc.cell? ⟨K,2,none⟩=some (.int .i64 (1-rc)):=HC.o.row.1.cell 2;have q3:wc.cell? ⟨K,3,none⟩=some (.int .i64 rc):=HC.o.row.1.cell 3;have q4:wc.cell? ⟨K,4,none⟩=some (.int .i64 t.ay):=HC.o.row.1.cell 4;have q5:wc.cell? ⟨K,5,none⟩=some (.int .i64 0):=HC.o.row.1.cell 5;have q6:=HC.o.row.1.lt;go_wp2_with fail;refine dA ?_;(refine bj [0,1,2,3,4] ?_;simp only [pick,af,ae,ah];(iterate 5 still_step);refine wpStill_nil ?_);(try simp only [af,ae,ah,Act.put,aq,ak,ao]);(refine aL 5 ?_;(try simp only [af,ae,ah]);go_simp);refine (HS.o wc.drew _ HC2.o.drew).mono ?_;rintro e wd ⟨rfl,av⟩;have HX:=aa av;clear av q0 q1 q2 q3 q4 q5 q6 o0 o1;dsimp only;(try simp only [af,ae,ah,Act.put,aq,ak,ao]);(refine bj [6] ?_;simp only [pick,af,ae,ah];(iterate 1 still_step);refine wpStill_nil ?_);refine bZ ?_;go_wp2_with fail;go_ret;rw [HD4.o];exact ⟨rfl,HX.o.swap.drop.swap.drop.swap.drop.swap.drop.swap.drop.swap.drop⟩
end
end store
namespace store


open Go.RowKit Go.Deep base bw bk record bP aU image bK bR
structure DP where
 r:Rec
 s0:RS
 s1:RS
instance:Inhabited DP:=⟨⟨Rec.zero,RS.none,RS.none⟩⟩
def DP.slot (x:DP) (k:Int):RS:=if k=0 then x.s0 else x.s1
def DP.bx (x:DP) (k:Int) (s:RS):DP:=if k=0 then ⟨x.r,s,x.s1⟩ else ⟨x.r,x.s0,s⟩
def DP.ay (x:DP):Bool:=!(x.r.ax==x.r.aj)
def DP.sp (x:DP):Int:=1-x.r.aj
structure UP (m:DS) (p:Nat) (x:PP) (X:DP):Prop where
 inv:KL m p x (X.s0,X.s1)
 now:x.log.now=X.r
structure dD (m:DS) (xs:List PP) (D:List DP):Prop where
 calm:Calm m
 len:D.length=xs.length
 parts:∀p,p < xs.length→UP m p (xs.getD p default) (D.getD p default)
theorem kT {α:Type} {l:List α} {n:Nat} (h:n < l.length) (a d:α):(l.set n a).getD n d=a:=by simp [dz,h]
theorem ke {α:Type} {l:List α} {n k:Nat} (h:n≠k) (a d:α):(l.set n a).getD k d=l.getD k d:=by simp [dz,List.getElem?_set,h]
theorem UP.ay {m:DS} {p:Nat} {x:PP} {X:DP} (h:UP m p x X):x.ay=X.ay:=by unfold PP.ay DP.ay;rw [h.now]
theorem UP.sp {m:DS} {p:Nat} {x:PP} {X:DP} (h:UP m p x X):x.sp=X.sp:=by unfold PP.sp DP.sp;rw [h.now]
theorem UP.right {m:DS} {p:Nat} {x:PP} {X:DP} (h:UP m p x X):X.r.right=true:=by rw [←h.now];exact h.inv.log.right
theorem UP.yt {m:DS} {p:Nat} {x:PP} {X:DP} (h:UP m p x X):X.sp=0∨X.sp=1:=by
 have:=fC.la h.right;unfold DP.sp;omega
theorem UP.aan {m:DS} {p:Nat} {x:PP} {X:DP} (h:UP m p x X):X.r.ax=0∨X.r.ax=1:=by
 have:=fC.la h.right;omega
theorem UP.si {m:DS} {p:Nat} {x:PP} {X:DP} (h:UP m p x X) {k:Int} (hk:k=0∨k=1):SI m p k (x.slot k) (X.slot k) Option.none:=by
 rcases hk with rfl|rfl
 ·exact h.inv.s0
 ·exact h.inv.s1
theorem UP.other {m m':DS} {p:Nat} {x:PP} {X:DP} (h:UP m p x X) (hc:Calm m) (fS:Calm m') (hl:m'.az.length=m.az.length) (hn:∀j:Nat,10*p≤j→j < 10*p+10→m'.now j=m.now j):UP m' p x X:=⟨h.inv.other hc fS hl hn,h.now⟩
theorem NM {m m':DS} {p:Nat} {s:sK} (h:nv m p s) (hg:m'.Good) (hb:m'.iU) (hl:m'.az.length=m.az.length) (h0:m'.now (10*p)=m.now (10*p)) (h1:m'.now (10*p+1)=m.now (10*p+1)):nv m' p s:=by
 have hh:=h.held
 have e0:∀c:Int,c=0∨c=1→m'.now ((p:Int)*10+c).toNat=m.now ((p:Int)*10+c).toNat:=fun c hc=>by
  rcases hc with rfl|rfl
  ·rw [show ((p:Int)*10+0).toNat=10*p by omega];exact h0
  ·rw [show ((p:Int)*10+1).toNat=10*p+1 by omega];exact h1
 refine ⟨hg,hb,h.p0,h.p1,by rw [hl];exact h.room,hh,h.right,h.part,?_,?_⟩
 ·rw [e0 _ hh];exact h.cur
 ·intro r;rw [e0 _ (by omega)];exact h.old r
theorem dD.slot {m m':DS} {xs:List PP} {D:List DP} (h:dD m xs D) {p:Nat} (hp:p < xs.length) {k:Int} (hk:k=0∨k=1) {s:bC} {R:RS} (hs:SI m' p k s R Option.none) (hu:m'.Up) (hl:m'.az.length=m.az.length) (ho:∀j,aU.Outside p k j→m'.now j=m.now j) :
  dD m' (xs.set p ((xs.getD p default).bx k s)) (D.set p ((D.getD p default).bx k R)):=by
 have fS:Calm m':=⟨hu,(hs.up hu.1).2.1,hs.pl.b8,hs.pl.jm⟩
 refine ⟨fS,by simp [h.len],fun q hq=>?_⟩;rw [List.length_set] at hq;by_cases An:p=q
 ·subst An;rw [kT hp,kT (by rw [h.len];exact hp)];have Gt:=h.parts p hp;have YN:nv m' p (xs.getD p default).log:=NM Gt.inv.log fS.b8 fS.jm hl (ho _ (by unfold aU.Outside bM;omega)) (ho _ (by unfold aU.Outside bM;omega));rcases hk with rfl|rfl
  ·exact ⟨⟨YN,hs,Gt.inv.s1.other h.calm.up.1 fS.b8 fS.jm hl fS.waits fS.up.1 fun j hj=>ho j (by unfold aU.Outside bM at hj ⊢;omega)⟩,Gt.now⟩
  ·exact ⟨⟨YN,Gt.inv.s0.other h.calm.up.1 fS.b8 fS.jm hl fS.waits fS.up.1 fun j hj=>ho j (by unfold aU.Outside bM at hj ⊢;omega),hs⟩,Gt.now⟩
 ·rw [ke An,ke An];exact (h.parts q hq).other h.calm fS hl fun j h1 h2=>ho j (by unfold aU.Outside bM;omega)
theorem dD.log {m m':DS} {xs:List PP} {D:List DP} (h:dD m xs D) {p:Nat} (hp:p < xs.length) {y:sK} (hy:nv m' p y) (hu:m'.Up) (hw:m'.waits=[]) (hl:m'.az.length=m.az.length) (ho:∀j:Nat,j≠10*p→j≠10*p+1→m'.now j=m.now j) :
  dD m' (xs.set p ⟨y,(xs.getD p default).s0,(xs.getD p default).s1⟩) (D.set p ⟨y.now,(D.getD p default).s0,(D.getD p default).s1⟩):=by
 have fS:Calm m':=⟨hu,hw,hy.b8,hy.jm⟩
 refine ⟨fS,by simp [h.len],fun q hq=>?_⟩;rw [List.length_set] at hq;by_cases An:p=q
 ·subst An;rw [kT hp,kT (by rw [h.len];exact hp)];have Gt:=h.parts p hp;exact ⟨⟨hy,Gt.inv.s0.other h.calm.up.1 fS.b8 fS.jm hl fS.waits fS.up.1 fun j hj=>ho j (by unfold aU.Outside bM at hj;omega) (by unfold aU.Outside bM at hj;omega),Gt.inv.s1.other h.calm.up.1 fS.b8 fS.jm hl fS.waits fS.up.1 fun j hj=>ho j (by unfold aU.Outside bM at hj;omega) (by unfold aU.Outside bM at hj;omega)⟩,rfl⟩
 ·rw [ke An,ke An];exact (h.parts q hq).other h.calm fS hl fun j h1 h2=>ho j (by omega) (by omega)
theorem dD.UO {t:aQ} {m:DS} {xs:List PP} {D:List DP} (h:dD m xs D) (hr:t.right=true) (hl:xs.length=t.parts.length) (ll:10*xs.length≤m.az.length):n8 t m xs:=by
 refine ⟨hr,hl,h.calm.jm,h.calm.b8,ll,by rw [h.calm.waits];simp,fun x hx=>?_⟩;obtain ⟨p,hp,rfl⟩:=List.mem_iff_getElem.1 hx;have hi:=(h.parts p hp).inv;rw [tu hp] at hi;have hr:=fC.la hi.log.right;exact ⟨by omega,by omega,hi.log.held,by omega,by omega,hi.s0.right,hi.s1.right⟩
def dm (D:List DP) (q:Int):Int:=if q < 0∨(D.length:Int)≤q then 3 else if (D.getD q.toNat default).ay then 18 else 0
def nJ (D:List DP) (q se sz:Int):Int×List DP :=
 if dm D q≠0 then (dm D q,D)
 else ((fF ((D.getD q.toNat default).slot (D.getD q.toNat default).sp) se sz).1,D.set q.toNat ((D.getD q.toNat default).bx (D.getD q.toNat default).sp (fF ((D.getD q.toNat default).slot (D.getD q.toNat default).sp) se sz).2))
def qf (D:List DP) (q se no:Int) (data:List Int):Int×List DP :=
 if dm D q≠0 then (dm D q,D)
 else ((jU ((D.getD q.toNat default).slot (D.getD q.toNat default).sp) se no data).1,D.set q.toNat ((D.getD q.toNat default).bx (D.getD q.toNat default).sp (jU ((D.getD q.toNat default).slot (D.getD q.toNat default).sp) se no data).2))
def dR (D:List DP) (q se:Int):Int :=
 if dm D q≠0 then dm D q
 else if ((D.getD q.toNat default).slot (D.getD q.toNat default).sp).has=false then 16 else if ((D.getD q.toNat default).slot (D.getD q.toNat default).sp).st.aG≠se then 17 else 0
def BU (D:List DP) (q se:Int):Int×List DP :=
 if dR D q se≠0 then (dR D q se,D)
 else (0,D.set q.toNat ((D.getD q.toNat default).bx (D.getD q.toNat default).sp RS.none))
def iH (t:aQ) (p:Nat) (R:RS):aw×Int :=
 if (dt R).2≠0 then (aw.none,(dt R).2)
 else if (b9 (dt R).1).2≠0 then (aw.none,(b9 (dt R).1).2)
 else if bX t p (b9 (dt R).1).1 0≠0 then (aw.none,bX t p (b9 (dt R).1).1 0)
 else ((b9 (dt R).1).1,0)
def gC (D:List DP) (p:Nat) (r:Rec):Int×List DP :=
 if 4294967295≤(D.getD p default).r.seq then (4,D)
 else if (bY p (D.getD p default).r r).right then (0,D.set p ⟨bY p (D.getD p default).r r,(D.getD p default).s0,(D.getD p default).s1⟩)
 else (3,D)
def sG (D:List DP) (q:Int):Int×List DP :=
 if q < 0∨(D.length:Int)≤q then (3,D)
 else if (D.getD q.toNat default).ay=false then (16,D)
 else gC D q.toNat (Rec.oN (D.getD q.toNat default).r)
def tO (t:aQ) (D:List DP) (p:Nat):aw×Int:=iH t p ((D.getD p default).slot (D.getD p default).r.ax)
def oM (t:aQ) (D:List DP) (q:Int):aw×Int:=if q < 0∨(D.length:Int)≤q then (aw.none,3) else tO t D q.toNat
def jW (t:aQ) (D:List DP) (q:Int):(aw×Int)×List DP :=
 if q < 0∨(D.length:Int)≤q then ((aw.none,3),D)
 else if (D.getD q.toNat default).ay=false then (tO t D q.toNat,D)
 else if (gC D q.toNat (aW (D.getD q.toNat default).r)).1≠0 then ((aw.none,(gC D q.toNat (aW (D.getD q.toNat default).r)).1),(gC D q.toNat (aW (D.getD q.toNat default).r)).2)
 else (iH t q.toNat (((gC D q.toNat (aW (D.getD q.toNat default).r)).2.getD q.toNat default).slot (aW (D.getD q.toNat default).r).ax),(gC D q.toNat (aW (D.getD q.toNat default).r)).2)
def wD (D:List DP) (p:Nat):List Int×Int:=dt ((D.getD p default).slot (D.getD p default).sp)
def qe (t:aQ) (D:List DP) (q se:Int):Int×List DP :=
 if dR D q se≠0 then (dR D q se,D)
 else if (wD D q.toNat).2≠0 then ((wD D q.toNat).2,D)
 else if (b9 (wD D q.toNat).1).2≠0 then ((b9 (wD D q.toNat).1).2,D)
 else if (tO t D q.toNat).2≠0 then ((tO t D q.toNat).2,D)
 else if bX t q (b9 (wD D q.toNat).1).1 (tO t D q.toNat).1.version≠0 then (bX t q (b9 (wD D q.toNat).1).1 (tO t D q.toNat).1.version,D)
 else gC D q.toNat (fh t (D.getD q.toNat default).r)
section
variable {m : DS} {xs : List PP} {D : List DP}
theorem dD.free (h:dD m xs D) (q:Int):ia xs q=dm D q:=by
 unfold ia dm;rw [h.len];by_cases hq:q < 0∨(xs.length:Int)≤q
 ·rw [if_pos hq,if_pos hq]
 ·rw [if_neg hq,if_neg hq,(h.parts q.toNat (by omega)).ay]
theorem sF {q:Int} (h:dm D q=0):∃p:Nat,q=p∧p < D.length:=by
 unfold dm at h;by_cases hq:q < 0∨(D.length:Int)≤q
 ·rw [if_pos hq] at h;simp at h
 ·exact ⟨q.toNat,by omega,by omega⟩
theorem dD.begin (h:dD m xs D) (q se sz:Int):(kY m xs q se sz).1=(nJ D q se sz).1∧dD (kY m xs q se sz).2.1 (kY m xs q se sz).2.2 (nJ D q se sz).2∧(kY m xs q se sz).2.1.az.length=m.az.length:=by
 unfold kY nJ;rw [h.free q];by_cases h0:dm D q≠0
 ·rw [if_pos h0,if_pos h0];exact ⟨rfl,h,rfl⟩
 ·rw [if_neg h0,if_neg h0];obtain ⟨p,rfl,hp⟩:=sF (by simpa using h0);rw [h.len] at hp;have hu:=h.parts p hp;simp only [ea];rw [hu.sp];have hs:=hu.si hu.yt;obtain ⟨e1,e2,e3⟩:=hs.Rv h.calm.up se sz
  have hl:(fU m p (D.getD p default).sp ((xs.getD p default).slot (D.getD p default).sp) se sz).2.1.az.length=m.az.length:=by
   unfold fU;split
   ·split<;>exact jB _ _ _
   ·rfl
  exact ⟨e1,h.slot hp hu.yt e2 e3 hl fun j hj=>Ho hs.pl _ se sz hj,hl⟩
theorem dD.load (h:dD m xs D) (q se no:Int) {data:List Int} (hb:bo data):(nO m xs q se no data).1=(qf D q se no data).1∧dD (nO m xs q se no data).2.1 (nO m xs q se no data).2.2 (qf D q se no data).2∧(nO m xs q se no data).2.1.az.length=m.az.length:=by
 unfold nO qf;rw [h.free q];by_cases h0:dm D q≠0
 ·rw [if_pos h0,if_pos h0];exact ⟨rfl,h,rfl⟩
 ·rw [if_neg h0,if_neg h0];obtain ⟨p,rfl,hp⟩:=sF (by simpa using h0);rw [h.len] at hp;have hu:=h.parts p hp;simp only [ea];rw [hu.sp];have hs:=hu.si hu.yt;obtain ⟨e1,e2,e3⟩:=hs.X0 h.calm.up se no hb;exact ⟨e1,h.slot hp hu.yt e2 e3 (z9 _ _ _ _ _ _ _) fun j hj=>LS hs.pl hs.right se no hb hj,z9 _ _ _ _ _ _ _⟩
theorem dD.begun (h:dD m xs D) (q se:Int):iK xs q se=dR D q se:=by
 unfold iK dR;rw [h.free q];by_cases h0:dm D q≠0
 ·rw [if_pos h0,if_pos h0]
 ·rw [if_neg h0,if_neg h0];obtain ⟨p,rfl,hp⟩:=sF (by simpa using h0);rw [h.len] at hp;have hu:=h.parts p hp;simp only [ea];simp only [hu.sp];have hm:=(hu.si hu.yt).mem;simp only [hm.has,hm.st]
theorem dD.hold {t:aQ} (h:dD m xs D) {p:Nat} (hp:p < xs.length) {k:Int} (hk:k=0∨k=1):fK t m p (xs.getD p default) k=iH t p ((D.getD p default).slot k):=by
 unfold fK iH;rw [((h.parts p hp).si hk).Kz h.calm.up.1]
theorem dD.NZ {t:aQ} (h:dD m xs D) {p:Nat} (hp:p < xs.length):fK t m p (xs.getD p default) (xs.getD p default).log.now.ax=tO t D p:=by
 rw [(h.parts p hp).now];exact h.hold hp (h.parts p hp).aan
theorem dD.save (h:dD m xs D) {p:Nat} (hp:p < xs.length) (r:Rec):(ep m xs p r).1=(gC D p r).1∧dD (ep m xs p r).2.1 (ep m xs p r).2.2 (gC D p r).2∧(ep m xs p r).2.1.az.length=m.az.length:=by
 have hu:=h.parts p hp;have hl:=hu.inv.log;unfold ep gC qX;rw [hu.now];by_cases h1:4294967295≤(D.getD p default).r.seq
 ·rw [if_pos h1,if_pos h1];refine ⟨rfl,?_,rfl⟩;have e:xs.set p ⟨(xs.getD p default).log,(xs.getD p default).s0,(xs.getD p default).s1⟩=xs:=CW hp;simp only [e];exact h
 ·rw [if_neg h1,if_neg h1];by_cases h2:(bY p (D.getD p default).r r).right=true
  ·rw [if_pos h2,if_pos h2];obtain ⟨a0,a1⟩:=hl.Vz;obtain ⟨w1,w2⟩:=yj (m:=m) (i:=(p:Int)*10+(1-(xs.getD p default).log.held)) (bs:=(bY p (D.getD p default).r r).bytes) a0 a1 (Rec.di _) h.calm.up;have w3:(wf m ((p:Int)*10+(1-(xs.getD p default).log.held)) (bY p (D.getD p default).r r).bytes).1=0:=by rw [w1]
   obtain ⟨v1,v2,v3⟩:=ud h.calm.b8 a0 a1 (Rec.di _) w3;have uV:=hl.save (nx:=bY p (D.getD p default).r r) (r:=r) (by rw [hu.now]) h2 w3;rw [if_pos w3];have hh:=hl.held;exact ⟨rfl,h.log hp uV.1 w2 v1 (jB _ _ _) fun j h1 h2=>by rw [v3,if_neg (by omega)],jB _ _ _⟩
  ·rw [if_neg h2,if_neg h2];refine ⟨rfl,?_,rfl⟩;have e:xs.set p ⟨(xs.getD p default).log,(xs.getD p default).s0,(xs.getD p default).s1⟩=xs:=CW hp;simp only [e];exact h
theorem dD.drop (h:dD m xs D) (q se:Int):(nQ m xs q se).1=(BU D q se).1∧dD (nQ m xs q se).2.1 (nQ m xs q se).2.2 (BU D q se).2∧(nQ m xs q se).2.1.az.length=m.az.length:=by
 unfold nQ BU;rw [h.begun q se];by_cases h0:dR D q se≠0
 ·rw [if_pos h0,if_pos h0];exact ⟨rfl,h,rfl⟩
 ·rw [if_neg h0,if_neg h0]
  have hf:dm D q=0:=by
   by_cases h1:dm D q=0
   ·exact h1
   ·exfalso;apply h0;unfold dR;rw [if_pos h1];exact h1
  obtain ⟨p,rfl,hp⟩:=sF hf;rw [h.len] at hp;have hu:=h.parts p hp;simp only [ea];rw [hu.sp];have hs:=hu.si hu.yt;have Ck:=Uf hs.pl h.calm.up ((xs.getD p default).slot (D.getD p default).sp);obtain ⟨e1,e2⟩:=hs.clear.up Ck
  have hl:(ja m p (D.getD p default).sp ((xs.getD p default).slot (D.getD p default).sp)).2.1.az.length=m.az.length:=by
   unfold ja;split<;>exact jB _ _ _
  exact ⟨e1,h.slot hp hu.yt e2 Ck hl fun j hj=>Ro hs.pl _ hj,hl⟩
theorem dD.Xk (h:dD m xs D) (q:Int):(iE m xs q).1=(sG D q).1∧dD (iE m xs q).2.1 (iE m xs q).2.2 (sG D q).2∧(iE m xs q).2.1.az.length=m.az.length:=by
 unfold iE sG;rw [h.len];by_cases hq:q < 0∨(xs.length:Int)≤q
 ·rw [if_pos hq,if_pos hq];exact ⟨rfl,h,rfl⟩
 ·rw [if_neg hq,if_neg hq];have hp:q.toNat < xs.length:=by omega
  have hu:=h.parts q.toNat hp;rw [hu.ay,hu.now];by_cases h2:(D.getD q.toNat default).ay=false
  ·rw [if_pos h2,if_pos h2];exact ⟨rfl,h,rfl⟩
  ·rw [if_neg h2,if_neg h2];exact h.save hp _
theorem dD.image {t:aQ} (h:dD m xs D) (q:Int):xp t m xs q=oM t D q:=by
 unfold xp oM;rw [h.len];by_cases hq:q < 0∨(xs.length:Int)≤q
 ·rw [if_pos hq,if_pos hq]
 ·rw [if_neg hq,if_neg hq];exact h.NZ (by omega)
theorem Ul {X:Rec} (h:X.right=true):(aW X).ax=0∨(aW X).ax=1:=by
 have:=fC.la h;unfold aW;split
 ·show X.aj=0∨X.aj=1;omega
 ·show X.ax=0∨X.ax=1;omega
theorem dD.Zi {t:aQ} (h:dD m xs D) (q:Int):(kX t m xs q).1=(jW t D q).1∧dD (kX t m xs q).2.1 (kX t m xs q).2.2 (jW t D q).2∧(kX t m xs q).2.1.az.length=m.az.length:=by
 unfold kX jW;rw [h.len];by_cases hq:q < 0∨(xs.length:Int)≤q
 ·rw [if_pos hq,if_pos hq];exact ⟨rfl,h,rfl⟩
 ·rw [if_neg hq,if_neg hq];have hp:q.toNat < xs.length:=by omega
  have hu:=h.parts q.toNat hp;rw [hu.ay];by_cases h2:(D.getD q.toNat default).ay=false
  ·rw [if_pos h2,if_pos h2];exact ⟨h.NZ hp,h,rfl⟩
  ·rw [if_neg h2,if_neg h2,hu.now];obtain ⟨s1,s2,s3⟩:=h.save hp (aW (D.getD q.toNat default).r);rw [s1];by_cases h3:(gC D q.toNat (aW (D.getD q.toNat default).r)).1≠0
   ·rw [if_pos h3,if_pos h3];exact ⟨rfl,s2,s3⟩
   ·rw [if_neg h3,if_neg h3];exact ⟨s2.hold (by simpa [ep] using hp) (Ul hu.right),s2,s3⟩
theorem dD.UQ {t:aQ} (h:dD m xs D) (q se:Int):(nN t m xs q se).1=(qe t D q se).1∧dD (nN t m xs q se).2.1 (nN t m xs q se).2.2 (qe t D q se).2∧(nN t m xs q se).2.1.az.length=m.az.length:=by
 unfold nN qe;rw [h.begun q se];by_cases h0:dR D q se≠0
 ·rw [if_pos h0,if_pos h0];exact ⟨rfl,h,rfl⟩
 ·rw [if_neg h0,if_neg h0]
  have hf:dm D q=0:=by
   by_cases h1:dm D q=0
   ·exact h1
   ·exfalso;apply h0;unfold dR;rw [if_pos h1];exact h1
  obtain ⟨p,rfl,hp⟩:=sF hf;rw [h.len] at hp;have hu:=h.parts p hp;simp only [ea]
  have e1:tQ m p (xs.getD p default)=wD D p:=by
   unfold tQ wD;rw [hu.sp];exact (hu.si hu.yt).Kz h.calm.up.1
  rw [e1,h.NZ hp];by_cases h1:(wD D p).2≠0
  ·rw [if_pos h1,if_pos h1];exact ⟨rfl,h,rfl⟩
  rw [if_neg h1,if_neg h1];by_cases h2:(b9 (wD D p).1).2≠0
  ·rw [if_pos h2,if_pos h2];exact ⟨rfl,h,rfl⟩
  rw [if_neg h2,if_neg h2];by_cases h3:(tO t D p).2≠0
  ·rw [if_pos h3,if_pos h3];exact ⟨rfl,h,rfl⟩
  rw [if_neg h3,if_neg h3];by_cases h4:bX t p (b9 (wD D p).1).1 (tO t D p).1.version≠0
  ·rw [if_pos h4,if_pos h4];exact ⟨rfl,h,rfl⟩
  rw [if_neg h4,if_neg h4,hu.now];exact h.save hp _
end
def vN (js:List aw):List DP:=(List.range js.length).map fun (p:Nat)=>⟨bh p,fD (js.getD p aw.none).bytes,RS.none⟩
theorem rJ.made {m:DS} {xs:List PP} {js:List aw} (h:rJ m xs (rj js)):dD m xs (vN js):=by
 have hl:js.length=xs.length:=by have:=h.len;simpa [rj] using this
 refine ⟨h.calm,by simp [vN,hl],fun p hp=>?_⟩
 have e1:(rj js).getD p default=(fD (js.getD p aw.none).bytes,RS.none):=by
  simp only [rj,dz,List.getElem?_map];rw [cM (by omega)];rfl
 have e2:(vN js).getD p default=⟨bh p,fD (js.getD p aw.none).bytes,RS.none⟩:=by
  simp [vN,dz,List.getElem?_map,show p < js.length by omega]
 have:=h.parts p hp;rw [e1] at this;rw [e2];exact ⟨this,h.recs p hp⟩
end store
namespace store


open Go.RowKit Go.Deep base bw bk record bP aU image bK bR
def dx (se:Int) (bs:List Int) (no:Nat):RS:=⟨true,⟨se,bs.length,2 ^ no-1⟩,(List.range no).map (eO bs)++List.replicate (dU bs-no) []⟩
theorem Lr (R:RS) {bs:List Int} {se:Int} (h:(aS.mk se bs.length 0).right=true):fF R se bs.length=(0,dx se bs 0):=by
 unfold fF;rw [if_pos h,xd];simp [dx]
theorem Qj {bs:List Int} {se:Int} {no:Nat} (hn:no < dU bs):jU (dx se bs no) se no (eO bs no)=(0,dx se bs (no+1)):=by
 have hl:(dx se bs no).blocks.length=dU bs:=by simp [dx];omega
 have hw:jv (dx se bs no) se no (eO bs no).length=0:=by
  unfold jv;rw [if_neg (by simp [dx]),if_neg (by simp [dx]),if_neg (by rw [hl];omega),if_neg (by rw [oU hn];simp)]
 have hg:(dx se bs no).blocks.getD no []=[]:=by
  have e:((List.range no).map (eO bs)++List.replicate (dU bs-no) ([]:List Int)).getD no []=[]:=by
   rw [dz,List.getElem?_append_right (by simp)];simp;cases h:(List.replicate (dU bs-no) ([]:List Int))[0]? with
   | none=>rfl
   | some x =>
     have:=List.eq_of_mem_replicate (List.mem_of_getElem? h);simp [this]
  exact e
 unfold jU;rw [hw,if_neg (by simp),ea,if_neg (by rw [hg];simp)]
 have km:(dx se bs no).blocks.set no (eO bs no)=(List.range (no+1)).map (eO bs)++List.replicate (dU bs-(no+1)) []:=by
  obtain ⟨k,hk⟩:∃k,dU bs-no=k+1:=⟨dU bs-no-1,by omega⟩
  have:dU bs-(no+1)=k:=by omega
  simp only [dx,hk,this,List.replicate_succ,List.range_succ,List.map_append,List.map_cons,List.map_nil,List.append_assoc,List.cons_append,List.nil_append];rw [List.set_append_right _ _ (by simp)];simp
 rw [km];simp only [dx,Prod.mk.injEq,true_and,RS.mk.injEq,aS.mk.injEq];refine ⟨?_,trivial⟩;have:(2:Int) ^ (no+1)=2 ^ no*2:=by rw [Int.pow_succ]
 omega
theorem Cd {bs:List Int} {se:Int}:dt (dx se bs (dU bs))=(bs,0):=by
 unfold dt;have hb:(dx se bs (dU bs)).blocks=(List.range (dU bs)).map (eO bs):=by simp [dx]
 rw [if_neg (by simp [dx]),if_neg (by
  rw [hb];rintro ⟨b,hb,rfl⟩;obtain ⟨j,hj,e⟩:=List.mem_map.1 hb;have:=oU (List.mem_range.1 hj);rw [e] at this
  simp at this),hb]
 have h2:=chunks (tK bs) (dU bs);rw [show ((List.range (dU bs)).map (eO bs))=((List.range (dU bs)).map fun j=>((tK bs).drop (16*j)).take 16) from rfl,h2,←C7,List.take_length];simp [dx,tK]
theorem Hj {i:aw} (hr:i.right) {no:Nat} (h:16*no < i.bytes.length):jd i no false=eO i.bytes no:=by
 have hb:=mS i;have h96:i.code.length≤96:=by obtain ⟨_,_,_,_,_,_,_,h⟩:=hr;omega
 show lh i no=_
 unfold lh;rw [if_pos ⟨hr,by omega,by omega,by omega⟩,ea]
theorem Dq {t:aQ} {p:Nat} {R:RS} {i:aw} (hr:i.right) (hb:dt R=(i.bytes,0)) (hc:bX t p i 0=0):iH t p R=(i,0):=by
 unfold iH;rw [hb];simp only [GJ i hr];rw [if_neg (by simp),if_neg (by simp),if_neg (by simpa using hc)]
theorem Ce (i:aw):dt (fD i.bytes)=(i.bytes,0):=NN (by rw [mS];omega)
def gm (r:Rec) (R:RS):List DP:=[⟨r,fD tW.bytes,R⟩,⟨bh 1,fD exJ.bytes,RS.none⟩]
theorem Rg:tW.right:=by unfold aw.right tW;decide
theorem wC:fT.right:=by unfold aw.right fT;decide
theorem xU:fT.bytes.length=50:=by rw [mS];rfl
theorem Kp:dU fT.bytes=4:=by unfold dU;rw [xU]
theorem VM:vN (EG.take 2)=gm (bh 0) RS.none:=by simp [vN,EG,gm,List.range_succ]
theorem Sr:nJ (gm (bh 0) RS.none) 0 5 50=(0,gm (bh 0) (dx 5 fT.bytes 0)):=by
 have h:fF RS.none 5 50=(0,dx 5 fT.bytes 0):=by
  have h:=Lr (bs:=fT.bytes) (se:=5) RS.none (by rw [xU];decide);rw [xU] at h;exact h
 generalize dx 5 fT.bytes 0=S at *;simp [nJ,dm,gm,DP.ay,DP.sp,DP.slot,DP.bx,bh];exact ⟨by rw [h],by rw [h]⟩
theorem VN {no:Nat} (h:no < 4):qf (gm (bh 0) (dx 5 fT.bytes no)) 0 5 no (jd fT no false)=(0,gm (bh 0) (dx 5 fT.bytes (no+1))):=by
 have h1:=Qj (bs:=fT.bytes) (se:=5) (no:=no) (by rw [Kp];exact h);rw [←Hj wC (by rw [xU];omega)] at h1;generalize dx 5 fT.bytes no=S,dx 5 fT.bytes (no+1)=S',jd fT no false=dd at *;simp [qf,dm,gm,DP.ay,DP.sp,DP.slot,DP.bx,bh];exact ⟨by rw [h1],by rw [h1]⟩
def kI (n:Nat):Rec:=match n with
 | 0=>⟨0,2,1,0,2,0⟩
 | 1=>⟨0,3,1,0,1,0⟩
 | 2=>⟨0,4,1,0,0,0⟩
 | _=>⟨0,5,0,0,0,2⟩
theorem IN:iH rR 0 (fD tW.bytes)=(tW,0):=Dq Rg (Ce tW) (by decide +kernel)
theorem Sq:iH rR 0 (dx 5 fT.bytes 4)=(fT,0):=Dq wC (by have:=Cd (bs:=fT.bytes) (se:=5);rwa [Kp] at this) (by decide +kernel)
theorem VL (R r:Rec) (S:RS) (h1:¬4294967295≤R.seq) (h2:(bY 0 R r).right=true):gC (gm R S) 0 r=(0,gm (bY 0 R r) S):=by
 unfold gC;rw [show ((gm R S).getD 0 default)=⟨R,fD tW.bytes,S⟩ from rfl,if_neg h1,if_pos (by exact h2)];rfl
theorem yg {R r R':Rec} (S:RS) (h1:¬4294967295≤R.seq) (h2:bY 0 R r=R') (h3:R'.right=true):gC (gm R S) 0 r=(0,gm R' S):=by
 have:=VL R r S h1 (by rw [h2];exact h3)
 rwa [h2] at this
theorem VK:qe rR (gm (bh 0) (dx 5 fT.bytes 4)) 0 5=(0,gm (kI 0) (dx 5 fT.bytes 4)):=by
 have hb:dt (dx 5 fT.bytes 4)=(fT.bytes,0):=by have:=Cd (bs:=fT.bytes) (se:=5);rwa [Kp] at this
 have h1:(dx 5 fT.bytes 4).has=true:=rfl;have h2:(dx 5 fT.bytes 4).st.aG=5:=rfl;have h0:=IN;have hg:=GJ fT wC;have hc:bX rR 0 fT tW.version=0:=by decide +kernel
 generalize dx 5 fT.bytes 4=S at *;have hB:dR (gm (bh 0) S) 0 5=0:=by simp [dR,dm,gm,DP.ay,DP.sp,DP.slot,bh,h1,h2]
 have hS:wD (gm (bh 0) S) 0=(fT.bytes,0):=hb;have hA:tO rR (gm (bh 0) S) 0=(tW,0):=h0;unfold qe;rw [hB,if_neg (by simp),show (0:Int).toNat=0 from rfl,hS,hA,hg,if_neg (by simp),if_neg (by simp),if_neg (by simp),if_neg (by simpa using hc)];exact yg S (by decide) (by simp [bY,fh,kI,gm,bh,rR]) (by decide)
theorem VO (n:Nat) (h:n < 4):jW rR (gm (kI n) (dx 5 fT.bytes 4)) 0=((if n < 2 then fT else tW,0),gm (kI (n+1)) (dx 5 fT.bytes 4)):=by
 have h0:=IN;have h1:=Sq;generalize dx 5 fT.bytes 4=S at *;generalize hA:fD tW.bytes=A at *;rcases (by omega:n=0∨n=1∨n=2∨n=3) with rfl|rfl|rfl|rfl
 ·have e:gC (gm (kI 0) S) 0 (aW (kI 0))=(0,gm (kI 1) S):=yg S (by decide) (by simp [bY,aW,kI]) (by decide);unfold jW;rw [if_neg (by simp [gm]),if_neg (by simp [gm,kI,DP.ay]),show ((gm (kI 0) S).getD (0:Int).toNat default).r=kI 0 from rfl,show (0:Int).toNat=0 from rfl,e,if_neg (by simp)];show (iH rR 0 S,_)=_
  rw [h1];rfl
 ·have e:gC (gm (kI 1) S) 0 (aW (kI 1))=(0,gm (kI 2) S):=yg S (by decide) (by simp [bY,aW,kI]) (by decide);unfold jW;rw [if_neg (by simp [gm]),if_neg (by simp [gm,kI,DP.ay]),show ((gm (kI 1) S).getD (0:Int).toNat default).r=kI 1 from rfl,show (0:Int).toNat=0 from rfl,e,if_neg (by simp)];show (iH rR 0 S,_)=_
  rw [h1];rfl
 ·have e:gC (gm (kI 2) S) 0 (aW (kI 2))=(0,gm (kI 3) S):=yg S (by decide) (by simp [bY,aW,kI]) (by decide);unfold jW;rw [if_neg (by simp [gm]),if_neg (by simp [gm,kI,DP.ay]),show ((gm (kI 2) S).getD (0:Int).toNat default).r=kI 2 from rfl,show (0:Int).toNat=0 from rfl,e,if_neg (by simp)];show (iH rR 0 (fD tW.bytes),_)=_
  rw [hA,h0];rfl
 ·unfold jW;rw [if_neg (by simp [gm]),if_pos (by simp [gm,kI,DP.ay])];show (iH rR 0 (fD tW.bytes),_)=_
  rw [hA,h0];rfl
end store
end Go.Proofs.YtdldkkoplgkloaaGreat
