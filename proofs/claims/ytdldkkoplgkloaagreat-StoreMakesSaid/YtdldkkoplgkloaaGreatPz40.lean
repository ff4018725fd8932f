/-
  PROVED HERE: lemmas and contracts that the law's proof leans on (texts put together: StoreOpen, MakeNo, Trials).
  CONDITIONS: each names its own.
-/
import Derived.Test.YtdldkkoplgkloaaGreatPz30
import Derived.Test.YtdldkkoplgkloaaGreatPz38
namespace Go.Proofs.YtdldkkoplgkloaaGreat
set_option linter.unusedVariables false
set_option linter.unusedSimpArgs false
set_option maxRecDepth 100000
set_option maxHeartbeats 32000000
namespace store


open Go.RowKit Go.Deep base obj mem sep plan disk record commit stage image tab compat chain crc
def opnPP (m:DS) (p:Nat):PP:=⟨⟨(openTo m p 2).2,(openTo m p 2).1⟩,openS m p 0,openS m p 1⟩
def opnL (m:DS) (n:Nat):List PP:=(List.range n).map (opnPP m)
theorem opnL_len (m:DS) (n:Nat):(opnL m n).length=n:=by simp [opnL]
theorem opnL_at {m:DS} {n p:Nat} (h:p < n):(opnL m n).getD p default=opnPP m p:=by simp [opnL,List.getD_eq_getElem?_getD,h]
theorem opnL_snoc (m:DS) (n:Nat):opnL m (n+1)=opnL m n++[opnPP m n]:=by simp [opnL,List.range_succ]
def recsOk (m:DS) (n:Nat):Prop:=∀p,p < n→¬(openTo m p 2).2 < 0
def runsOk (t:Tab) (m:DS) (p:Nat):Prop:=(holdL t m p (opnPP m p) (opnPP m p).log.now.active).2=0∧(holdL t m p (opnPP m p) (opnPP m p).log.now.confirmed).2=0
theorem getRec_ok {bs:List Int} {r:Rec} (h:getRec bs=(r,0)):r.right=true:=by
 unfold getRec at h
 split at h
 ·split at h
  ·split at h
   ·rename_i hr
    injection h with h _
    rw [←h];exact hr
   ·injection h with _ h
    exact absurd h (by decide)
  ·rename_i he
   injection h with _ h
   exact absurd h he
 ·injection h with _ h
  exact absurd h (by decide)
theorem getStg_ok {bs:List Int} {r:Stg} (h:getStg bs=(r,0)):r.right=true:=by
 unfold getStg at h
 split at h
 ·split at h
  ·split at h
   ·rename_i hr
    injection h with h _
    rw [←h];exact hr
   ·injection h with _ h
    exact absurd h (by decide)
  ·rename_i he
   injection h with _ h
   exact absurd h he
 ·injection h with _ h
  exact absurd h (by decide)
theorem openS_right (m:DS) (p k:Int):(openS m p k).has=true→(openS m p k).st.right=true:=by
 unfold openS
 split
 ·rename_i h0
  intro _
  exact getStg_ok (bs:=m.now (sAt p k).toNat) (by rw [←h0])
 ·intro h;exact absurd h (by decide)
theorem pick_ok {part c:Int} {bs:List Int} {x:Rec×Int} (hb:Byt bs) (hx:¬x.2 < 0→x.1.right=true) (h:¬(pickRec part c bs x).2 < 0):(pickRec part c bs x).1.right=true:=by
 unfold pickRec at h ⊢
 by_cases h0:(getRec bs).2=0∧(getRec bs).1.part=part∧x.1.seq < (getRec bs).1.seq
 ·rw [if_pos h0]
  exact getRec_ok (bs:=bs) (by rw [←h0.1])
 ·rw [if_neg h0] at h ⊢
  exact hx h
theorem pick_held {part c:Int} {bs:List Int} {x:Rec×Int} (hc:0≤c):(pickRec part c bs x).2=x.2∨(pickRec part c bs x).2=c:=by
 unfold pickRec
 split
 ·exact .inr rfl
 ·exact .inl rfl
theorem openTo_right {m:DS} {p:Nat} (hb:m.Bts) (h:¬(openTo m p 2).2 < 0):(openTo m p 2).1.right=true :=
 pick_ok (hb.now _) (pick_ok (hb.now _) (fun h=>absurd (show ((-1:Int)) < 0 by decide) h)) h
theorem openTo_held (m:DS) (p:Nat):(openTo m p 2).2 < 0∨(openTo m p 2).2=0∨(openTo m p 2).2=1:=by
 have h0:(openTo m p 1).2=-1∨(openTo m p 1).2=0:=pick_held (x:=(Rec.zero,-1)) (by decide)
 have h1:(openTo m p 2).2=(openTo m p 1).2∨(openTo m p 2).2=1:=pick_held (x:=openTo m p 1) (by decide)
 omega
theorem opnPP_ok {m:DS} {p:Nat} (hb:m.Bts) (h:¬(openTo m p 2).2 < 0):PPOk (opnPP m p):=by
 have hr:=refRec.rec_in (openTo_right hb h)
 have hh:=openTo_held m p
 refine ⟨by simp only [opnPP];omega,by simp only [opnPP];omega,by simp only [opnPP];omega,by simp only [opnPP];omega,by simp only [opnPP];omega,?_,?_⟩
 ·exact openS_right m p 0
 ·exact openS_right m p 1
theorem opnL_ok {t:Tab} {m:DS} {n:Nat} (hr:t.right=true) (hn:n=t.parts.length) (hb:m.Bts) (hg:m.Good) (hroom:10*n≤m.secs.length) (hw:m.waits.length≤700) (h:recsOk m n):SOk t m (opnL m n):=by
 refine ⟨hr,by rw [opnL_len,hn],hb,hg,by rw [opnL_len];exact hroom,hw,fun x hx=>?_⟩
 obtain ⟨p,hp,rfl⟩:=List.mem_map.1 hx
 exact opnPP_ok hb (h p (List.mem_range.1 hp))
theorem idxS0 (a b:Int) (w:World):(Instr.index 131 (.agg #[.int .i64 a,.int .i64 b]) (.int .i64 0)).run Tryz.prog w=.ok (.int .i64 a) w:=by kernel_rfl
theorem idxS1 (a b:Int) (w:World):(Instr.index 131 (.agg #[.int .i64 a,.int .i64 b]) (.int .i64 1)).run Tryz.prog w=.ok (.int .i64 b) w:=by kernel_rfl
def OpenE (w0:World) (l:List Asn) (t:Tab) (d:Nat) (m:DS) (n:Nat) (e:Ending) (w':World):Prop :=
 (∃ad,e=.returned (.tuple #[.pointer (some ⟨StAd.S ad,0,none⟩),.int .i64 0])∧recsOk m n∧(∀p,p < n→runsOk t m p)∧St w0 w' (strA ad t d m (opnL m n)::l))∨
 (e=.returned (.tuple #[.pointer none,.int .i64 5])∧(∃p,p < n∧(openTo m p 2).2 < 0)∧St w0 w' (dsk d m::l))∨
 (∃c:Int,e=.returned (.tuple #[.pointer none,.int .i64 c])∧recsOk m n∧(∃(p:Nat) (k:Int),p < n∧(k=0∨k=1)∧¬runsOk t m p∧(holdL t m p (opnPP m p) k).2≠0∧c=if (holdL t m p (opnPP m p) k).2=8 then 8 else 2)∧St w0 w' (dsk d m::l))
theorem open_str {w0 w:World} {l:List Asn} {d:Nat} {m:DS} (h:St w0 w (dsk d m::l)) {a:TabA} {t:Tab} (ht:TabW w a t) {n:Nat} (hn:n=t.parts.length) (hr:t.right=true) (hroom:10*n≤m.secs.length) (hd:m.down=false) (hwl:m.waits.length≤700) (hb:m.Bts) (hg:m.Good) :
  Calls Tryz.prog 25 #[.pointer (some ⟨d,0,none⟩),a.val t] w (OpenE w0 l t d m n):=by
 have hr24:=(Tab.r hr).np
 have hn4:2≤n∧n≤4:=by omega
 have hw0:wrongL m.secs.length t=0:=by
  unfold wrongL
  rw [if_neg (by rw [hr];simp),if_neg (by omega)]
 obtain ⟨Z,hZ⟩:∃Z,Z=w.heap.size:=⟨_,rfl⟩
 obtain ⟨w1,hw1⟩:∃w1,w1=w.alloc (.cells #[.int .i64 t.frame,.slice a.AP t.parts.length a.cP,.slice a.AW t.wins.length a.cW,.slice a.AC t.chans.length a.cC,.int .i64 t.trial] 46):=⟨_,rfl⟩
 have hbw1:Below w.heap.size w w1:=by rw [hw1];exact (Below.refl _ w).alloc (Nat.le_refl _) _
 have h1:St w0 w1 (dsk d m::row Z 46 [.int .i64 t.frame,.slice a.AP t.parts.length a.cP,.slice a.AW t.wins.length a.cW,.slice a.AC t.chans.length a.cC,.int .i64 t.trial]::l):=by
  have h:=(h.new 46 #[.int .i64 t.frame,.slice a.AP t.parts.length a.cP,.slice a.AW t.wins.length a.cW,.slice a.AC t.chans.length a.cC,.int .i64 t.trial]).swap
  rw [←hZ,←hw1] at h
  exact h
 have HWR1:=Lib.hid (by have:=wrong_at h1 (ht.over hbw1);rw [hw0] at this;exact this)
 have H:=Lib.hid h1
 have HO2:=Lib.hid (fun (w':World) (hb:Below w1.heap.size w1 w')=>own2_at (H.out.below hb) ((ht.over hbw1).over hb) hr)
 have HROWS:=Lib.hid (fun (w':World) (hb:Below w1.heap.size w1 w')=>(H.out.below hb).swap.row.1)
 have HZ:=Lib.hid hZ;have HW1:=Lib.hid hw1
 have HNP:=Lib.hid hn
 have HOK:=Lib.hid (fun (h:recsOk m n)=>opnL_ok hr hn hb hg hroom hwl h)
 have HCO:=Lib.hid (fun (w':World) (l':List Asn) (p:Nat) (hp:p < n) (hst:St w0 w' (dsk d m::l'))=>commit.open_at hst (p:Int) (by unfold roomFor;simp;omega) hd (by omega) (fun i=>hb.now i) (fun i hi=>hg.now_len hi))
 have HOP:=Lib.hid (fun (w':World) (l':List Asn) (p:Nat) (hp:p < n) (O:Nat) (v0 c1 c2:Value) (hst:St w0 w' (row O 102 [v0,c1,c2]::dsk d m::l'))=>opn_at (p:=(p:Int)) hst (by unfold hasRoom dAt;simp;omega) (by unfold hasRoom dAt;simp;omega) hd (by omega) hb)
 simp only [TabA.val] at HWR1 HO2 HW1 ⊢
 clear h h1 ht hw1 hZ hbw1 hw0 hroom hd hwl hb hg hr hr24 hn
 have t0:w1.cell? ⟨Z,0,none⟩=some (.int .i64 t.frame):=H.out.swap.row.1.cell 0
 have t1:w1.cell? ⟨Z,1,none⟩=some (.slice a.AP t.parts.length a.cP):=H.out.swap.row.1.cell 1
 have t2:w1.cell? ⟨Z,2,none⟩=some (.slice a.AW t.wins.length a.cW):=H.out.swap.row.1.cell 2
 have t3:w1.cell? ⟨Z,3,none⟩=some (.slice a.AC t.chans.length a.cC):=H.out.swap.row.1.cell 3
 have t4:w1.cell? ⟨Z,4,none⟩=some (.int .i64 t.trial):=H.out.swap.row.1.cell 4
 have lT:=H.out.swap.row.1.lt
 go_enter Tryz.func25,Tryz.ntmps25
 go_upto_region 1 with fail
 rw [←HW1.out,←HZ.out]
 go_wp2_with (fail)
 refine HWR1.out.mono ?_
 rintro e w2 ⟨rfl,hb⟩
 have HB2:=Lib.hid hb
 clear hb t0 t1 t2 t3 t4 lT
 have t0:w2.cell? ⟨Z,0,none⟩=some (.int .i64 t.frame):=(HROWS.out w2 HB2.out).cell 0
 have t1:w2.cell? ⟨Z,1,none⟩=some (.slice a.AP t.parts.length a.cP):=(HROWS.out w2 HB2.out).cell 1
 have t2:w2.cell? ⟨Z,2,none⟩=some (.slice a.AW t.wins.length a.cW):=(HROWS.out w2 HB2.out).cell 2
 have t3:w2.cell? ⟨Z,3,none⟩=some (.slice a.AC t.chans.length a.cC):=(HROWS.out w2 HB2.out).cell 3
 have t4:w2.cell? ⟨Z,4,none⟩=some (.int .i64 t.trial):=(HROWS.out w2 HB2.out).cell 4
 have lT:=(HROWS.out w2 HB2.out).lt
 go_wp2_with (fail)
 refine (HO2.out w2 HB2.out).mono ?_
 rintro e w3 ⟨a',rfl,hst⟩
 have H3:=Lib.hid hst
 clear hst t0 t1 t2 t3 t4 lT
 simp only [TabA.val]
 obtain ⟨S,hS⟩:∃S,S=w3.heap.size:=⟨_,rfl⟩
 obtain ⟨w4,hw4⟩:∃v,v=w3.alloc (.cells #[.int .i64 t.frame,.slice a'.AP t.parts.length a'.cP,.slice a'.AW t.wins.length a'.cW,.slice a'.AC t.chans.length a'.cC,.int .i64 t.trial,.slice none 0 0] 114):=⟨_,rfl⟩
 have h4:=H3.out.new 114 #[.int .i64 t.frame,.slice a'.AP t.parts.length a'.cP,.slice a'.AW t.wins.length a'.cW,.slice a'.AC t.chans.length a'.cC,.int .i64 t.trial,.slice none 0 0]
 rw [←hS,←hw4] at h4
 have hstr:St w0 w4 (strA ⟨S,a',none,0,[]⟩ t d m []::row Z 46 [.int .i64 t.frame,.slice a.AP t.parts.length a.cP,.slice a.AW t.wins.length a.cW,.slice a.AC t.chans.length a.cC,.int .i64 t.trial]::l) :=
  str_mk (q:=0) rfl (by
   have h5:=((h4.addOwn (Below.refl _ _) (show w4.ownsRow w4.heap.size 94 1 (.slice none 0 0) 0 [] from ⟨rfl,.inl ⟨rfl,rfl⟩⟩)).swap)
   have h6:=(St.tolst (L:=[]) h5)
   exact h6.perm (List.perm_middle (l₁:=[_,_,_,_]) (l₂:=row Z 46 [.int .i64 t.frame,.slice a.AP t.parts.length a.cP,.slice a.AW t.wins.length a.cW,.slice a.AC t.chans.length a.cC,.int .i64 t.trial]::l)).symm) rfl
 have H4:=Lib.hid hstr
 have hz4:=(hstr.pick 1 rfl).row.1
 have t1:w4.cell? ⟨Z,1,none⟩=some (.slice a.AP t.parts.length a.cP):=hz4.cell 1
 have lT:=hz4.lt
 clear h4 hstr hz4
 have hnn:=HNP.out
 rw [←hnn] at t1
 clear hnn
 go_upto_region 5 with fail
 rw [←hS,←hw4]
 clear hw4 hS
 go_wp2_with (fail)
 go_loopw [32] (fun x wr=>∃(q:Nat) (ad:StAd),q≤n∧x=.int .i64 (q:Int)∧ad.S=S∧St w0 wr (strA ad t d m (opnL m q)::row Z 46 [.int .i64 t.frame,.slice a.AP t.parts.length a.cP,.slice a.AW t.wins.length a.cW,.slice a.AC t.chans.length a.cC,.int .i64 t.trial]::l)∧recsOk m q) (fun x _=>n-(intOf x).toNat)
 case atStart=>exact ⟨0,_,by omega,rfl,rfl,H4.out,fun p hp=>absurd hp (by omega)⟩
 case round =>
  obtain ⟨q,ad,hq,rfl,hS,hst,hrec⟩:=hrel
  have HST:=Lib.hid hst;have HRC:=Lib.hid hrec
  clear H4 hst hrec t1 lT
  by_cases hlt:q < n
  ·have hun:=str_un HST.out
   have hall:=hun.2
   have hxl:(opnL m q).length=q:=opnL_len m q
   have HC:=Lib.hid (HCO.out wr _ q hlt (hun.1.pick 3 rfl))
   have k1:(q:Int) < (n:Int):=by omega
   clear hun
   go_wp2_with (fail)
   refine HC.out.mono ?_
   rintro e w5 ⟨ho1,ho2⟩
   have HP:=Lib.hid (show opnPP m q=⟨⟨(openTo m q 2).2,(openTo m q 2).1⟩,openS m q 0,openS m q 1⟩ from rfl)
   by_cases hneg:(openTo m q 2).2 < 0
   ·obtain ⟨rfl,hst⟩:=ho1 hneg
    have HE:=Lib.hid hst
    have HN:=Lib.hid hneg
    clear ho1 ho2 hst hneg HP
    go_wp2_with (fail)
    go_ret2
    exact .inr (.inl ⟨rfl,⟨q,hlt,HN.out⟩,(((((HE.out.pick 1 rfl).drop.pick 1 rfl).drop.pick 1 rfl).drop.pick 1 rfl).drop.pick 1 rfl).drop⟩)
   ·obtain ⟨g,rfl,hst⟩:=ho2 hneg
    have HN:=Lib.hid (show recsOk m (q+1) from fun p hp=>by
     by_cases hpq:p < q
     ·exact HRC.out p hpq
     ·rw [show p=q by omega];exact hneg)
    generalize (openTo m q 2).2=hld,(openTo m q 2).1=now at *
    obtain ⟨O,hO⟩:∃O,O=w5.heap.size:=⟨_,rfl⟩
    obtain ⟨w6,hw6⟩:∃v,v=w5.alloc (.cells #[.pointer (some ⟨g,0,none⟩),.pointer none,.pointer none] 102):=⟨_,rfl⟩
    have h6:=hst.new 102 #[.pointer (some ⟨g,0,none⟩),.pointer none,.pointer none]
    rw [←hO,←hw6] at h6
    have H6:=Lib.hid ((h6.pick 2 rfl).swap)
    have HO:=Lib.hid hO;have HW6:=Lib.hid hw6
    clear ho1 ho2 hst hneg h6 hO hw6
    go_upto_region 12 with fail
    rw [←HW6.out,←HO.out]
    have HOQ:=Lib.hid (HOP.out w6 _ q hlt O _ _ _ H6.out)
    go_wp2_with (fail)
    refine HOQ.out.mono ?_
    rintro e w9 ⟨rfl,g0,g1,hst⟩
    have H9:=Lib.hid hst
    have hS9:=(hst.pick 5 rfl).row.1
    rw [hxl,hS] at hS9
    have s5:w9.cell? ⟨S,5,none⟩=some (.slice ad.AL q ad.cL):=hS9.cell 5
    have s6:=hS9.lt
    clear hst hS9
    have hown:=(H9.out.pick 6 rfl)
    rw [hxl] at hown
    have HOW:=Lib.hid hown
    clear hown
    obtain ⟨wb,hwb⟩:∃v,v=w9.alloc (.cells #[.pointer (some ⟨O,0,none⟩)] 94):=⟨_,rfl⟩
    obtain ⟨D,hD⟩:∃D,D=w9.heap.size:=⟨_,rfl⟩
    have hnb:=HOW.out.new 94 #[.pointer (some ⟨O,0,none⟩)]
    rw [←hwb,←hD] at hnb
    have HNB:=Lib.hid hnb
    have hsb:Sl wb wb.heap.size 1 (some ⟨D,0,none⟩) 1 [.pointer (some ⟨O,0,none⟩)]:=hnb.row.1.sl hnb.row.1.lt rfl rfl
    have HSB:=Lib.hid hsb
    have HOB:=Lib.hid hnb.swap.own
    have HBS:=Lib.hid hnb.bel.size
    have HD:=Lib.hid hD;have HWB:=Lib.hid hwb
    clear hnb hsb hD hwb
    go_upto_region 16 with (first
     | (at_builtin;rw [←HWB.out,←HD.out];refine app_at slPtr rfl (.tmp 58) (.tmp 60) rfl HOB.out rfl rfl (fun h=>by cases h) HSB.out (by simp [Value.oneCell']) (by omega) (by unfold maxLen;omega) HBS.out ?_;intro v' wc ho hg hl;have hgr:=HNB.out.swap.grown hg ho hl;obtain ⟨A9,c9,rfl,_,_⟩:=own_form ho;have HC1:=Lib.hid hgr;have hsc:=(hgr.pick 7 rfl).row.1;have y5:wc.cell? ⟨ad.S,5,none⟩=some (.slice ad.AL q ad.cL):=hsc.cell 5;have y6:wc.frozen? ⟨ad.S,5,none⟩=false:=hsc.frozen 5;have y7:=hsc.lt;rw [hS] at y5 y6 y7;clear hsc ho hg hl hgr))
    go_wp2_with (fail)
    go_roundw
    case rel =>
     refine ⟨q+1,⟨ad.S,ad.tab,A9,c9,ad.al++[⟨O,g,g0,g1⟩]⟩,by omega,by go_num,hS,?_,HN.out⟩
     have h:=(HC1.out.pick 7 rfl).set 5 (.slice A9 (q+1) c9)
     rw [hS] at h
     have h2:=((((((((((h.pick 2 rfl).drop.pick 5 rfl).pick 7 rfl).pick 3 rfl).pick 3 rfl).pick 6 rfl).pick 6 rfl).pick 7 rfl).pick 7 rfl).pick 8 rfl)
     have h3:=parts_add (a:=⟨O,g,g0,g1⟩) (x:=⟨⟨hld,now⟩,openS m q 0,openS m q 1⟩) hall hxl h2
     have h4:=(((h3.pick 4 rfl).pick 4 rfl).pick 4 rfl).pick 4 rfl
     rw [opnL_snoc,HP.out]
     refine str_mk (q:=q+1) (by rw [List.length_append,hxl];rfl) ?_ (by rw [List.length_append,List.length_append,hall];rfl)
     rw [hS]
     have hpt:ptrs (ad.al++[⟨O,g,g0,g1⟩])=ptrs ad.al++[.pointer (some ⟨O,0,none⟩)]:=by simp [ptrs]
     rw [hpt]
     exact h4
    case measure=>simp [intOf];omega
  ·have hqn:q=n:=by omega
   subst hqn
   have k1:¬(q:Int) < (q:Int):=by omega
   have hok:=HOK.out HRC.out
   have HSK:=Lib.hid hok
   obtain ⟨s1,s2,s3⟩:=str_row HST.out
   rw [opnL_len,hS] at s1
   have c5:wr.cell? ⟨S,5,none⟩=some (.slice ad.AL q ad.cL):=s1.cell 5
   have lS:=s1.lt
   clear hok s1 s2 s3
   go_wp2_with (fail)
   clear c5 lS
   go_loopw [70] (fun x wr=>∃(p:Nat),p≤q∧x=.int .i64 (p:Int)∧St w0 wr (strA ad t d m (opnL m q)::row Z 46 [.int .i64 t.frame,.slice a.AP t.parts.length a.cP,.slice a.AW t.wins.length a.cW,.slice a.AC t.chans.length a.cC,.int .i64 t.trial]::l)∧∀k,k < p→runsOk t m k) (fun x _=>q-(intOf x).toNat)
   case atStart=>exact ⟨0,by omega,rfl,HST.out,fun p hp=>absurd hp (by omega)⟩
   case round =>
    obtain ⟨p,hp,rfl,hst,hruns⟩:=hrel
    clear HST
    have HST:=Lib.hid hst;have HRU:=Lib.hid hruns
    clear hst hruns
    by_cases hlt2:p < q
    ·have hpl:p < (opnL m q).length:=by rw [opnL_len];exact hlt2
     have okx:=HSK.out.at_ hpl
     rw [opnL_at hlt2] at okx
     have HPA:=Lib.hid okx.act;have HPC:=Lib.hid okx.conf
     obtain ⟨s1,s2,s3⟩:=str_row HST.out
     rw [opnL_len] at s2 s3
     obtain ⟨b,off,hAL,hbl,hcc⟩:=s2.2 (by omega)
     have cp:wr.cell? ⟨b,off+p,none⟩=some (.pointer (some ⟨(ad.al.getD p default).O,0,none⟩)):=hcc p _ (by simp [ptrs,show p < ad.al.length by omega])
     have hop:=str_open HST.out hpl
     rw [opnL_at hlt2] at hop
     obtain ⟨O,hO⟩:∃O,O=(ad.al.getD p default).O:=⟨_,rfl⟩
     obtain ⟨L,hL⟩:∃L,L=(ad.al.getD p default).L:=⟨_,rfl⟩
     have HRO:=Lib.hid (fun (w':World) (hb:Below wr.heap.size wr w')=>(⟨by rw [hO,hL];exact (hop.below hb).row.1.cell 0,by rw [hO];exact (hop.below hb).row.1.lt⟩:w'.cell? ⟨O,0,none⟩=some (.pointer (some ⟨L,0,none⟩))∧O < w'.heap.size))
     have HLT:=Lib.hid (fun (w':World) (hb:Below wr.heap.size wr w')=>latest_at ((hop.below hb).pick 1 rfl))
     rw [←hO] at cp
     rw [←hL] at HLT
     have HHO:=Lib.hid (fun (w':World) (l':List Asn) (k:Int) (hk:k=0∨k=1) (h':St w0 w' (strA ad t d m (opnL m q)::l'))=>holds_str h' HSK.out hpl hk)
     rw [opnL_at hlt2] at HHO
     have HRK:=Lib.hid (show (holdL t m p (opnPP m p) (opnPP m p).log.now.active).2=0∧(holdL t m p (opnPP m p) (opnPP m p).log.now.confirmed).2=0→runsOk t m p from id)
     have HRN:=Lib.hid (show runsOk t m p→(holdL t m p (opnPP m p) (opnPP m p).log.now.active).2=0∧(holdL t m p (opnPP m p) (opnPP m p).log.now.confirmed).2=0 from id)
     have r2:=rfld2 (opnPP m p).log.now;have r3:=rfld3 (opnPP m p).log.now
     generalize (opnPP m p).log.now.val=rv at *
     generalize (opnPP m p).log.now.active=ra,(opnPP m p).log.now.confirmed=rc at *
     have i0:=idxS0 ra rc;have i1:=idxS1 ra rc
     have k2:(p:Int) < (q:Int):=by omega
     have k0:(0:Int)≤(p:Int):=by omega
     have HA:=Lib.hid hAL;have hbl':b < wr.heap.size:=hbl
     clear s1 s2 s3 hcc hop hO hL okx hAL hbl
     rw [HA.out]
     go_upto_region 20 with fail
     refine held_start (fun w'=>w'.cell? ⟨O,0,none⟩=some (.pointer (some ⟨L,0,none⟩))∧O < w'.heap.size) (by kernel_rfl) (HRO.out wr.drew (Below.refl wr.heap.size wr).drew) (fun hHeld=>?_)
     (refine held_t 0 (h:=?_);(try simp only [xGs,xGz,xGo,Act.put,xSi,xSz,xSs]));(refine held_t 1 (h:=?_);(try simp only [xGs,xGz,xGo,Act.put,xSi,xSz,xSs]));(refine held_t 2 (h:=?_);(try simp only [xGs,xGz,xGo,Act.put,xSi,xSz,xSs]));(refine held_t 3 (h:=?_);(try simp only [xGs,xGz,xGo,Act.put,xSi,xSz,xSs]));(refine held_t 6 (h:=?_);(try simp only [xGs,xGz,xGo,Act.put,xSi,xSz,xSs]));(refine held_t 7 (h:=?_);(try simp only [xGs,xGz,xGo,Act.put,xSi,xSz,xSs]));(refine held_t 8 (h:=?_);(try simp only [xGs,xGz,xGo,Act.put,xSi,xSz,xSs]));(refine held_t 9 (h:=?_);(try simp only [xGs,xGz,xGo,Act.put,xSi,xSz,xSs]));(refine held_t 13 (h:=?_);(try simp only [xGs,xGz,xGo,Act.put,xSi,xSz,xSs]))
     (refine held_one 4 (by kernel_rfl) (by rfl) ?_;(try simp only [xGs,xGz,xGo]);go_simp)
     refine (HLT.out _ (Below.refl wr.heap.size wr).drew).mono ?_
     rintro e w5 ⟨rfl,hb⟩
     have HB5:=Lib.hid ((Below.refl wr.heap.size wr).drew.trans hb)
     clear hb
     dsimp only
     (refine and_hand (HRO.out w5 HB5.out) (fun hHeld=>?_);(try simp only [xGs,xGz,xGo,Act.put,xSi,xSz,xSs]))
     (refine held_t 5 (h:=?_);(try simp only [xGs,xGz,xGo,Act.put,xSi,xSz,xSs]))
     (refine held_one 10 (by kernel_rfl) (by rfl) ?_;(try simp only [xGs,xGz,xGo]);go_simp)
     refine (HLT.out w5 HB5.out).mono ?_
     rintro e w6 ⟨rfl,hb⟩
     have HB6:=Lib.hid (HB5.out.trans (hb.mono HB5.out.size))
     clear hb
     dsimp only
     (refine and_hand (HRO.out w6 HB6.out) (fun hHeld=>?_);(try simp only [xGs,xGz,xGo,Act.put,xSi,xSz,xSs]))
     (refine held_t 11 (h:=?_);(try simp only [xGs,xGz,xGo,Act.put,xSi,xSz,xSs]));(refine held_t 12 (h:=?_);(try simp only [xGs,xGz,xGo,Act.put,xSi,xSz,xSs]))
     refine held_end (by kernel_rfl) ?_
     go_wp2_with (fail)
     have HS6:=Lib.hid (HST.out.below HB6.out)
     clear r2 r3 cp hbl' HRO HLT hHeld k0
     go_loopw [88] (fun x wr=>∃(k:Nat),k≤2∧x=.int .i64 (k:Int)∧St w0 wr (strA ad t d m (opnL m q)::row Z 46 [.int .i64 t.frame,.slice a.AP t.parts.length a.cP,.slice a.AW t.wins.length a.cW,.slice a.AC t.chans.length a.cC,.int .i64 t.trial]::l)∧(1≤k→(holdL t m p (opnPP m p) ra).2=0)∧(2≤k→(holdL t m p (opnPP m p) rc).2=0)) (fun x _=>2-(intOf x).toNat)
     case atStart=>exact ⟨0,by omega,rfl,HS6.out,fun h=>absurd h (by omega),fun h=>absurd h (by omega)⟩
     case round =>
      obtain ⟨k,hk,rfl,hst,hk1,hk2⟩:=hrel
      clear HST HS6
      have HST:=Lib.hid hst;have HK1:=Lib.hid hk1;have HK2:=Lib.hid hk2
      clear hst hk1 hk2
      by_cases hlt3:k < 2
      ·obtain ⟨rk,hrk⟩:∃rk,rk=if k=0 then ra else rc:=⟨_,rfl⟩
       have ik:∀w',(Instr.index 131 (.agg #[.int .i64 ra,.int .i64 rc]) (.int .i64 (k:Int))).run Tryz.prog w'=.ok (.int .i64 rk) w':=fun w'=>by
        rcases (by omega:k=0∨k=1) with rfl|rfl
        ·rw [hrk];exact i0 w'
        ·rw [hrk];exact i1 w'
       have hr01:rk=0∨rk=1:=by
        have:=HPA.out;have:=HPC.out
        rw [hrk];split<;>assumption
       have HH:=Lib.hid (by have hh:=HHO.out wr _ rk hr01 HST.out;rw [hS] at hh;exact hh)
       have HR01:=Lib.hid hr01
       have HRKE:=Lib.hid hrk
       have k3:(k:Int) < 2:=by omega
       clear hr01 hrk i0 i1
       go_wp2_with (fail)
       refine HH.out.mono ?_
       rintro e w7 ⟨j,KA,Kc,er,rfl,hje,hst⟩
       have H7:=Lib.hid hst.drop
       have HJE:=Lib.hid (show (holdL t m p (opnPP m p) rk).2=er by rw [←hje])
       clear hst hje ik HH
       have HNO:=Lib.hid (fun (hne:er≠0) (hro:runsOk t m p)=>show False from by
        have h0:=HRN.out hro
        have h1:=HJE.out
        have h2:=HRKE.out
        by_cases hk0:k=0
        ·rw [if_pos hk0] at h2;rw [h2,h0.1] at h1;exact hne h1.symm
        ·rw [if_neg hk0] at h2;rw [h2,h0.2] at h1;exact hne h1.symm)
       simp only [Img.val]
       generalize j.part=j0,j.version=j1,j.hard=j2,j.mem=j3,j.fuel=j4,j.sends=j5,j.receives=j6,j.code.length=j7
       obtain ⟨w8,hw8⟩:∃v,v=w7.alloc (.cells #[.int .i64 j0,.int .i64 j1,.int .i64 j2,.int .i64 j3,.int .i64 j4,.int .i64 j5,.int .i64 j6,.slice KA j7 Kc] 26):=⟨_,rfl⟩
       have H8:=Lib.hid (show St w0 w8 (strA ad t d m (opnL m q)::row Z 46 [.int .i64 t.frame,.slice a.AP t.parts.length a.cP,.slice a.AW t.wins.length a.cW,.slice a.AC t.chans.length a.cC,.int .i64 t.trial]::l) by
        rw [hw8]
        exact (H7.out.new 26 #[.int .i64 j0,.int .i64 j1,.int .i64 j2,.int .i64 j3,.int .i64 j4,.int .i64 j5,.int .i64 j6,.slice KA j7 Kc]).drop)
       have HW8:=Lib.hid hw8
       clear hw8
       go_upto_region 24 with fail
       rw [←HW8.out]
       by_cases he8:er=8
       ·subst he8
        go_wp2_with (fail)
        go_ret2
        refine .inr (.inr ⟨8,rfl,HRC.out,⟨p,rk,hlt2,HR01.out,fun h=>HNO.out (by decide) h,by rw [HJE.out];decide,by rw [HJE.out];rfl⟩,?_⟩)
        exact ((((str_un (H8.out.pick 1 rfl).drop).1.pick 3 rfl).pick 1 rfl).drop.pick 1 rfl).drop |> fun h=>((h.pick 1 rfl).drop.pick 1 rfl).drop
       ·by_cases he0:er=0
        ·subst he0
         go_wp2_with (fail)
         go_roundw
         case rel =>
          refine ⟨k+1,by omega,by go_num,H8.out,fun _=>?_,fun h=>?_⟩
          ·by_cases hk0:k=0
           ·have:=HRKE.out
            rw [if_pos hk0] at this
            rw [←this]
            exact HJE.out
           ·exact HK1.out (by omega)
          ·have:=HRKE.out
           rw [if_neg (by omega)] at this
           rw [←this]
           exact HJE.out
         case measure=>simp [intOf];omega
        ·have e8:(er==8)=false:=by simpa using he8
         have e0:(er != 0)=true:=by simpa using he0
         have HE8:=Lib.hid he8;have HE0:=Lib.hid he0
         clear he8 he0
         go_wp2_with (fail)
         go_ret2
         refine .inr (.inr ⟨2,rfl,HRC.out,⟨p,rk,hlt2,HR01.out,fun h=>HNO.out (by simpa using HE0.out) h,by rw [HJE.out];simpa using HE0.out,by rw [HJE.out,if_neg HE8.out]⟩,?_⟩)
         exact ((((str_un (H8.out.pick 1 rfl).drop).1.pick 3 rfl).pick 1 rfl).drop.pick 1 rfl).drop |> fun h=>((h.pick 1 rfl).drop.pick 1 rfl).drop
      ·have hk2:k=2:=by omega
       subst hk2
       have k3:¬((2:Nat):Int) < 2:=by omega
       have HKB:=Lib.hid (HRK.out ⟨HK1.out (by omega),HK2.out (by omega)⟩)
       clear i0 i1
       go_wp2_with (fail)
       go_roundw
       case rel =>
        refine ⟨p+1,by omega,by go_num,HST.out,fun j hj=>?_⟩
        by_cases hjp:j < p
        ·exact HRU.out j hjp
        ·rw [show j=p by omega];exact HKB.out
       case measure=>simp [intOf];omega
    ·have hpq:p=q:=by omega
     subst hpq
     have k2:¬(p:Int) < (p:Int):=by omega
     go_wp2_with (fail)
     go_ret2
     exact .inl ⟨ad,by rw [hS];rfl,HRC.out,HRU.out,(HST.out.pick 1 rfl).drop⟩
end store
namespace store


open Go.RowKit Go.Deep base obj mem sep plan disk record commit stage image tab compat chain crc
theorem smake_nil (w:World) (a:TabA) (t:Tab) (AI:Option Addr) (nI cI:Nat):Calls Tryz.prog 33 #[.pointer none,a.val t,.slice AI nI cI] w fun e w'=>e=.returned (.tuple #[.pointer none,.int .i64 7])∧Below w.heap.size w w':=by
 have HB:=Lib.hid ((Below.refl w.heap.size w).alloc (Nat.le_refl _) (.cells #[.int .i64 t.frame,.slice a.AP t.parts.length a.cP,.slice a.AW t.wins.length a.cW,.slice a.AC t.chans.length a.cC,.int .i64 t.trial] 46))
 have HWN:=Lib.hid (wrong_nil (w.alloc (.cells #[.int .i64 t.frame,.slice a.AP t.parts.length a.cP,.slice a.AW t.wins.length a.cW,.slice a.AC t.chans.length a.cC,.int .i64 t.trial] 46)) a t)
 simp only [TabA.val] at HWN ⊢
 go_enter Tryz.func33,Tryz.ntmps33
 go_wp2_with (fail)
 refine HWN.out.mono ?_
 rintro e w2 ⟨rfl,hb⟩
 have HB2:=Lib.hid (HB.out.trans (hb.mono HB.out.size))
 clear hb
 go_wp2_with (fail)
 go_ret2
 exact ⟨rfl,HB2.out⟩
theorem sopen_nil (w:World) (a:TabA) (t:Tab):Calls Tryz.prog 25 #[.pointer none,a.val t] w fun e w'=>e=.returned (.tuple #[.pointer none,.int .i64 7])∧Below w.heap.size w w':=by
 have HB:=Lib.hid ((Below.refl w.heap.size w).alloc (Nat.le_refl _) (.cells #[.int .i64 t.frame,.slice a.AP t.parts.length a.cP,.slice a.AW t.wins.length a.cW,.slice a.AC t.chans.length a.cC,.int .i64 t.trial] 46))
 have HWN:=Lib.hid (wrong_nil (w.alloc (.cells #[.int .i64 t.frame,.slice a.AP t.parts.length a.cP,.slice a.AW t.wins.length a.cW,.slice a.AC t.chans.length a.cC,.int .i64 t.trial] 46)) a t)
 simp only [TabA.val] at HWN ⊢
 go_enter Tryz.func25,Tryz.ntmps25
 go_wp2_with (fail)
 refine HWN.out.mono ?_
 rintro e w2 ⟨rfl,hb⟩
 have HB2:=Lib.hid (HB.out.trans (hb.mono HB.out.size))
 clear hb
 go_wp2_with (fail)
 go_ret2
 exact ⟨rfl,HB2.out⟩
theorem make_no {w0 w:World} {l:List Asn} {d:Nat} {m:DS} {B:Asn} {js:List Img} {AI:Option Addr} {n cI:Nat} {K:Nat→Option Addr×Nat} (h:St w0 w (dsk d m::B::l)) (hg:ImgsG w0 B js AI n K) {a:TabA} {t:Tab} (ht:TabW w a t) (hE:makeE m.secs.length t js≠0) (hln:∀k,k < n→(js.getD k Img.none).code.length≤9223372036854775807) :
  Calls Tryz.prog 33 #[.pointer (some ⟨d,0,none⟩),a.val t,.slice AI n cI] w fun e w'=>e=.returned (.tuple #[.pointer none,.int .i64 (makeE m.secs.length t js)])∧Below w.heap.size w w':=by
 have hIV:=hg w _ (h.pick 1 rfl)
 have hjn:=hIV.len
 obtain ⟨Z,hZ⟩:∃Z,Z=w.heap.size:=⟨_,rfl⟩
 obtain ⟨w1,hw1⟩:∃w1,w1=w.alloc (.cells #[.int .i64 t.frame,.slice a.AP t.parts.length a.cP,.slice a.AW t.wins.length a.cW,.slice a.AC t.chans.length a.cC,.int .i64 t.trial] 46):=⟨_,rfl⟩
 have hbw1:Below w.heap.size w w1:=by rw [hw1];exact (Below.refl _ w).alloc (Nat.le_refl _) _
 have HWR1:=Lib.hid (wrong_at (h.below hbw1) (ht.over hbw1))
 have H1:=Lib.hid (show St w w1 [row Z 46 [.int .i64 t.frame,.slice a.AP t.parts.length a.cP,.slice a.AW t.wins.length a.cW,.slice a.AC t.chans.length a.cC,.int .i64 t.trial]] by
  have h:=(St.nil w).new 46 #[.int .i64 t.frame,.slice a.AP t.parts.length a.cP,.slice a.AW t.wins.length a.cW,.slice a.AC t.chans.length a.cC,.int .i64 t.trial]
  rw [←hZ,←hw1] at h
  exact h)
 have HIV:=Lib.hid (fun (w':World) (hb:Below w.heap.size w w')=>hIV.over hb)
 have HCK:=Lib.hid (fun (w':World) (hb:Below w.heap.size w w') (k:Nat) (hk:k < n) (Ak:Option Addr) (ck:Nat)=>check_at (ver:=0) (i:=js.getD k Img.none) (A:=Ak) (c:=ck) (ht.over hb) (k:Int) (hln k hk))
 have HROWS:=Lib.hid (fun (w':World) (hb:Below w1.heap.size w1 w')=>(H1.out.below hb).row.1)
 have HZ:=Lib.hid hZ;have HW1:=Lib.hid hw1;have HB1:=Lib.hid hbw1;have HJN:=Lib.hid hjn
 simp only [TabA.val,Img.val] at HWR1 HCK HW1 ⊢
 have t0:w1.cell? ⟨Z,0,none⟩=some (.int .i64 t.frame):=H1.out.row.1.cell 0
 have t1:w1.cell? ⟨Z,1,none⟩=some (.slice a.AP t.parts.length a.cP):=H1.out.row.1.cell 1
 have t2:w1.cell? ⟨Z,2,none⟩=some (.slice a.AW t.wins.length a.cW):=H1.out.row.1.cell 2
 have t3:w1.cell? ⟨Z,3,none⟩=some (.slice a.AC t.chans.length a.cC):=H1.out.row.1.cell 3
 have t4:w1.cell? ⟨Z,4,none⟩=some (.int .i64 t.trial):=H1.out.row.1.cell 4
 have lT:=H1.out.row.1.lt
 have HE:=Lib.hid hE
 have HME:=Lib.hid (show makeE m.secs.length t js=if wrongL m.secs.length t≠0 then wrongL m.secs.length t else if js.length≠t.parts.length then 3 else firstE t 0 js from rfl)
 have HN4:=Lib.hid (fun (h:wrongL m.secs.length t=0)=>(Tab.r (wrongL_0 h).1).np)
 generalize makeE m.secs.length t js=mE at *
 generalize wrongL m.secs.length t=wE at *
 clear h ht hE hw1 hZ hg hbw1 hIV hln hjn
 by_cases hw0:wE=0
 case neg =>
  have hm:mE=wE:=by rw [HME.out,if_pos hw0]
  rw [hm]
  have e0:(wE != 0)=true:=by simpa using hw0
  clear hw0 hm HE HME
  go_enter Tryz.func33,Tryz.ntmps33
  go_upto_region 1 with fail
  rw [←HW1.out,←HZ.out]
  go_wp2_with (fail)
  refine HWR1.out.mono ?_
  rintro e w2 ⟨rfl,hb⟩
  have HB2:=Lib.hid (HB1.out.trans (hb.mono HB1.out.size))
  clear hb t0 t1 t2 t3 t4 lT
  go_wp2_with (fail)
  go_ret2
  exact ⟨rfl,HB2.out⟩
 case pos =>
  subst hw0
  by_cases hlp:n=t.parts.length
  case neg =>
   have hm:mE=3:=by rw [HME.out,if_neg (by simp),if_pos (by rw [HJN.out];exact hlp)]
   rw [hm]
   have e0:((n:Int) != (t.parts.length:Int))=true:=by simp;omega
   clear hlp hm HE HME
   go_enter Tryz.func33,Tryz.ntmps33
   go_upto_region 1 with fail
   rw [←HW1.out,←HZ.out]
   go_wp2_with (fail)
   refine HWR1.out.mono ?_
   rintro e w2 ⟨rfl,hb⟩
   have HB2:=Lib.hid (HB1.out.trans (hb.mono HB1.out.size))
   clear t0 t1 t2 t3 t4 lT
   have t1:w2.cell? ⟨Z,1,none⟩=some (.slice a.AP t.parts.length a.cP):=(HROWS.out w2 hb).cell 1
   have lT:=(HROWS.out w2 hb).lt
   clear hb
   go_wp2_with (fail)
   go_ret2
   exact ⟨rfl,HB2.out⟩
  case pos =>
   have hm:mE=firstE t 0 js:=by rw [HME.out,if_neg (by simp),if_neg (by rw [HJN.out];simpa using hlp)]
   have HM:=Lib.hid hm
   have hn4:n≤4:=by have:=HN4.out rfl;omega
   have HLP:=Lib.hid hlp
   clear HME hm
   have e0:((n:Int) != (t.parts.length:Int))=false:=by rw [hlp];simp
   clear hlp
   go_enter Tryz.func33,Tryz.ntmps33
   go_upto_region 1 with fail
   rw [←HW1.out,←HZ.out]
   go_wp2_with (fail)
   refine HWR1.out.mono ?_
   rintro e w2 ⟨rfl,hb⟩
   have HB2:=Lib.hid hb
   clear t0 t1 t2 t3 t4 lT
   have t1:w2.cell? ⟨Z,1,none⟩=some (.slice a.AP t.parts.length a.cP):=(HROWS.out w2 hb).cell 1
   have lT:=(HROWS.out w2 hb).lt
   clear hb
   go_wp2_with (fail)
   clear t1 lT e0
   go_loopw [34] (fun x wr=>∃q:Nat,q≤n∧x=.int .i64 q∧Below w1.heap.size w1 wr∧∀k:Nat,k < q→checkL t k (js.getD k Img.none) 0=0) (fun x _=>n-(intOf x).toNat)
   case atStart=>exact ⟨0,by omega,rfl,HB2.out,fun k hk=>absurd hk (by omega)⟩
   case round =>
    obtain ⟨q,hq,rfl,hbr,hcs⟩:=hrel
    have HBR:=Lib.hid hbr;have HCS:=Lib.hid hcs
    have HBW:=Lib.hid (HB1.out.trans (hbr.mono HB1.out.size))
    clear HB2 hbr hcs
    by_cases hlt:q < n
    ·obtain ⟨b,off,hA,hbl,c0,c1,c2,c3,c4,c5,c6,c7,hck,hsk⟩:=(HIV.out wr HBW.out).at_ q hlt
     generalize (K q).1=Ak,(K q).2=ck at *
     have HFE:=Lib.hid (fun (h:checkL t q (js.getD q Img.none) 0≠0)=>show firstE t 0 js=checkL t q (js.getD q Img.none) 0 from by
      have:=firstE_at (t:=t) js 0 q (by rw [HJN.out];exact hlt) (fun i hi=>by rw [Nat.zero_add];exact HCS.out i hi) (by rw [Nat.zero_add];exact h)
      rwa [Nat.zero_add] at this)
     have HCQ0:=Lib.hid (fun (w':World) (hb:Below w.heap.size w w')=>HCK.out w' hb q hlt Ak ck)
     obtain ⟨ce,hce⟩:∃v,v=checkL t q (js.getD q Img.none) 0:=⟨_,rfl⟩
     rw [←hce] at HCQ0 HFE
     have HCE:=Lib.hid hce
     obtain ⟨i0,hi0⟩:∃v,v=(js.getD q Img.none).part:=⟨_,rfl⟩
     obtain ⟨i1,hi1⟩:∃v,v=(js.getD q Img.none).version:=⟨_,rfl⟩
     obtain ⟨i2,hi2⟩:∃v,v=(js.getD q Img.none).hard:=⟨_,rfl⟩
     obtain ⟨i3,hi3⟩:∃v,v=(js.getD q Img.none).mem:=⟨_,rfl⟩
     obtain ⟨i4,hi4⟩:∃v,v=(js.getD q Img.none).fuel:=⟨_,rfl⟩
     obtain ⟨i5,hi5⟩:∃v,v=(js.getD q Img.none).sends:=⟨_,rfl⟩
     obtain ⟨i6,hi6⟩:∃v,v=(js.getD q Img.none).receives:=⟨_,rfl⟩
     obtain ⟨i7,hi7⟩:∃v,v=(js.getD q Img.none).code.length:=⟨_,rfl⟩
     simp only [←hi0,←hi1,←hi2,←hi3,←hi4,←hi5,←hi6,←hi7] at HCQ0 c0 c1 c2 c3 c4 c5 c6 c7
     clear hi0 hi1 hi2 hi3 hi4 hi5 hi6 hi7 hce
     have hba:Below w.heap.size w (wr.alloc (.cells #[.int .i64 i0,.int .i64 i1,.int .i64 i2,.int .i64 i3,.int .i64 i4,.int .i64 i5,.int .i64 i6,.slice Ak i7 ck] 26)):=HBW.out.trans (((Below.refl wr.heap.size wr).alloc (Nat.le_refl _) _).mono HBW.out.size)
     have HCQ:=Lib.hid (HCQ0.out _ hba)
     have HBA:=Lib.hid (show Below w1.heap.size w1 (wr.alloc (.cells #[.int .i64 i0,.int .i64 i1,.int .i64 i2,.int .i64 i3,.int .i64 i4,.int .i64 i5,.int .i64 i6,.slice Ak i7 ck] 26)) from HBR.out.trans (((Below.refl wr.heap.size wr).alloc (Nat.le_refl _) _).mono HBR.out.size))
     have HA:=Lib.hid hA
     have hr:=HROWS.out wr HBR.out
     have t0:wr.cell? ⟨Z,0,none⟩=some (.int .i64 t.frame):=hr.cell 0
     have t1:wr.cell? ⟨Z,1,none⟩=some (.slice a.AP t.parts.length a.cP):=hr.cell 1
     have t2:wr.cell? ⟨Z,2,none⟩=some (.slice a.AW t.wins.length a.cW):=hr.cell 2
     have t3:wr.cell? ⟨Z,3,none⟩=some (.slice a.AC t.chans.length a.cC):=hr.cell 3
     have t4:wr.cell? ⟨Z,4,none⟩=some (.int .i64 t.trial):=hr.cell 4
     have lT:=hr.lt
     have k0:(0:Int)≤(q:Int):=by omega
     have k1:(q:Int) < (n:Int):=by omega
     clear hA hr hba hck hsk HCQ0
     rw [HA.out]
     by_cases hc0:ce=0
     ·subst hc0
      go_wp2_with (fail)
      refine HCQ.out.mono ?_
      rintro e w3 ⟨rfl,hb⟩
      have HB3:=Lib.hid (HBA.out.trans (hb.mono HBA.out.size))
      clear hb t0 t1 t2 t3 t4 lT c0 c1 c2 c3 c4 c5 c6 c7
      go_wp2_with (fail)
      go_roundw
      case rel =>
       refine ⟨q+1,by omega,by go_num,HB3.out,fun k hk=>?_⟩
       by_cases hkq:k < q
       ·exact HCS.out k hkq
       ·rw [show k=q by omega];exact HCE.out.symm
      case measure=>simp [intOf];omega
     ·have e0:(ce != 0)=true:=by simpa using hc0
      have HMC:=Lib.hid (show mE=ce by rw [HM.out];exact HFE.out hc0)
      clear hc0
      go_wp2_with (fail)
      refine HCQ.out.mono ?_
      rintro e w3 ⟨rfl,hb⟩
      have HB3:=Lib.hid (HBA.out.trans (hb.mono HBA.out.size))
      clear hb t0 t1 t2 t3 t4 lT c0 c1 c2 c3 c4 c5 c6 c7
      go_wp2_with (fail)
      go_ret2
      exact ⟨by rw [HMC.out];rfl,HB1.out.trans (HB3.out.mono HB1.out.size)⟩
    ·exfalso
     apply HE.out
     rw [HM.out]
     refine firstE_all js 0 fun k hk=>?_
     rw [Nat.zero_add]
     exact HCS.out k (by have:=HJN.out;omega)
end store
namespace store


open Go.RowKit Go.Deep base obj mem sep plan disk record commit stage image tab compat chain crc
section
variable {m : DS} {xs : List PP} {D : List DP}
theorem Calm.power {m:DS} (h:Calm m) (k:Int):Calm (m.power k)∧∀j,(m.power k).now j=m.now j:=by
 have hs:(m.power k).secs=m.secs:=by
  rcases power_one (i:=0) (bs:=[]) (.inl h.waits) k with e|⟨e,_⟩
  ·exact e
  ·rw [h.waits] at e;cases e
 exact ⟨⟨DS.power_up m k,DS.power_waits m k,DS.power_good h.good k,h.bts.power k⟩,fun j=>by rw [DS.now_nil h.waits,DS.now_nil (DS.power_waits m k),hs]⟩
theorem UInv.power (h:UInv m xs D) (k:Int):UInv (m.power k) xs D :=
 ⟨(h.calm.power k).1,h.len,fun p hp=>(h.parts p hp).other h.calm (h.calm.power k).1 (DS.power_slen m k) fun j _ _=>(h.calm.power k).2 j⟩
theorem UInv.opn (h:UInv m xs D):opnL m xs.length=xs∧recsOk m xs.length:=by
 have each:∀p,p < xs.length→openTo m p 2=((xs.getD p default).log.now,(xs.getD p default).log.held)∧openS m p 0=(xs.getD p default).s0∧openS m p 1=(xs.getD p default).s1:=fun p hp =>
  ⟨(h.parts p hp).inv.log.open_,((h.parts p hp).inv.s0.up h.calm.up.1).2.2.2,((h.parts p hp).inv.s1.up h.calm.up.1).2.2.2⟩
 constructor
 ·refine List.ext_getElem (opnL_len _ _) fun p h1 h2=>?_
  obtain ⟨e1,e2,e3⟩:=each p h2
  have e4:(opnL m xs.length)[p]=opnPP m p:=by simp [opnL]
  rw [e4]
  unfold opnPP
  rw [e1,e2,e3,getD_e h2]
 ·intro p hp hneg
  rw [(each p hp).1] at hneg
  have:=(h.parts p hp).inv.log.held
  omega
def DRuns (t:Tab) (D:List DP):Prop:=∀p,p < D.length→(dHold t p ((D.getD p default).slot (D.getD p default).r.active)).2=0∧(dHold t p ((D.getD p default).slot (D.getD p default).r.confirmed)).2=0
theorem UInv.conf01 (h:UInv m xs D) {p:Nat} (hp:p < xs.length):(D.getD p default).r.confirmed=0∨(D.getD p default).r.confirmed=1:=by
 have:=refRec.rec_in (h.parts p hp).right
 omega
theorem UInv.runs {t:Tab} (h:UInv m xs D) (hr:DRuns t D) {p:Nat} (hp:p < xs.length):runsOk t m p:=by
 have hx:opnPP m p=xs.getD p default:=by
  have e:=opnL_at (m:=m) hp
  rw [h.opn.1] at e
  exact e.symm
 unfold runsOk
 rw [hx,(h.parts p hp).now,h.hold hp (h.parts p hp).act01,h.hold hp (h.conf01 hp)]
 exact hr p (by rw [h.len];exact hp)
theorem open_u {w0 w:World} {l:List Asn} {d:Nat} {t:Tab} {a:TabA} (hst:St w0 w (dsk d m::l)) (h:UInv m xs D) (ht:TabW w a t) (hr:t.right=true) (hl:xs.length=t.parts.length) (hroom:10*xs.length≤m.secs.length) (hd:DRuns t D) :
  Calls Tryz.prog 25 #[.pointer (some ⟨d,0,none⟩),a.val t] w fun e w'=>∃ad:StAd,e=.returned (.tuple #[.pointer (some ⟨ad.S,0,none⟩),.int .i64 0])∧StoU w0 w' ad t d m xs D l:=by
 refine (open_str hst ht hl hr hroom h.calm.up.1 (by rw [h.calm.waits];simp) h.calm.bts h.calm.good).mono fun e w' hE=>?_
 rcases hE with ⟨ad,e1,_,_,e2⟩|⟨_,⟨p,hp,hneg⟩,_⟩|⟨c,_,_,⟨p,k,hp,hk,hn,he,hce⟩,_⟩
 ·rw [h.opn.1] at e2
  exact ⟨ad,e1,e2,h,hl,hroom,hr⟩
 ·exact absurd hneg (h.opn.2 p hp)
 ·exact absurd (h.runs hd hp) hn
end
section
variable {D0 : List DP} {R0 R1 : RS} {t : Tab} {r : Rec}
end
theorem madeD_len (js:List Img):(madeD js).length=js.length:=by simp [madeD]
theorem madeD_at {js:List Img} {p:Nat} (h:p < js.length):(madeD js).getD p default=⟨firstRec p,loadR (js.getD p Img.none).bytes,RS.none⟩:=by
 simp [madeD,List.getD_eq_getElem?_getD,List.getElem?_map,h]
theorem made_runs {t:Tab} {js:List Img} (hc:∀p:Nat,p < js.length→checkL t p (js.getD p Img.none) 0=0):DRuns t (madeD js):=by
 intro p hp
 rw [madeD_len] at hp
 rw [madeD_at hp]
 have:=dHold_is (checkL_right (hc p hp)) (loadR_bytes _) (hc p hp)
 exact ⟨by show (dHold t p (loadR _)).2=0;rw [this],by show (dHold t p (loadR _)).2=0;rw [this]⟩
end store
end Go.Proofs.YtdldkkoplgkloaaGreat
