/-
  PROVED HERE: lemmas and contracts that the law's proof leans on (texts put together: RefSha5).
  CONDITIONS: each names its own.
-/
import Derived.Test.YtdldkkoplgkloaaGreatPz8
namespace Go.Proofs.YtdldkkoplgkloaaGreat
set_option linter.unusedVariables false
set_option linter.unusedSimpArgs false
set_option maxRecDepth 100000
set_option maxHeartbeats 32000000
namespace sha


open Go.RowKit Go.Deep base obj mem sep crc plan chain
theorem drew_st {w0 w w':World} {l:List Asn} (hw:∃n,w'=w.drewN n) (h:St w0 w l):St w0 w' l:=by
 obtain ⟨n,rfl⟩:=hw
 exact h.drewN n
theorem lst_cells {w0 w:World} {l:List Asn} {gV cV a b c d e f g h:Nat} (H:St w0 w (own 3 1 (.slice (some ⟨gV,0,none⟩) 8 cV) 8 ([.int .i64 (a:Int),.int .i64 (b:Int),.int .i64 (c:Int),.int .i64 (d:Int),.int .i64 (e:Int),.int .i64 (f:Int),.int .i64 (g:Int),.int .i64 (h:Int)])::l)) :
  w.cell? ⟨gV,0,none⟩=some (.int .i64 (a:Int))∧w.cell? ⟨gV,1,none⟩=some (.int .i64 (b:Int))∧w.cell? ⟨gV,2,none⟩=some (.int .i64 (c:Int))∧w.cell? ⟨gV,3,none⟩=some (.int .i64 (d:Int))∧w.cell? ⟨gV,4,none⟩=some (.int .i64 (e:Int))∧w.cell? ⟨gV,5,none⟩=some (.int .i64 (f:Int))∧w.cell? ⟨gV,6,none⟩=some (.int .i64 (g:Int))∧w.cell? ⟨gV,7,none⟩=some (.int .i64 (h:Int))∧gV < w.heap.size:=by
 obtain ⟨gY,oY,eY,hY,hcY⟩:=(Sl.of_own H.own).2 (by omega)
 cases eY
 exact ⟨hcY 0 _ rfl,hcY 1 _ rfl,hcY 2 _ rfl,hcY 3 _ rfl,hcY 4 _ rfl,hcY 5 _ rfl,hcY 6 _ rfl,hcY 7 _ rfl,hY⟩
theorem grownBy_below {w w':World} (h:w.grownBy w' none):Below w.heap.size w w':=⟨h.os,h.tape,h.output,h.size,fun i hi=>h.block i hi (by simp)⟩
theorem ks_lt2 (i:Nat):ks.getD i 0 < 2 ^ 32:=by
 by_cases h:i < 64
 ·have:∀i,i < 64→ks.getD i 0 < 2 ^ 32:=by decide +kernel
  exact this i h
 ·rw [List.getD_eq_getElem?_getD,List.getElem?_eq_none (by show ks.length≤i;rw [show ks.length=64 from rfl];omega)]
  decide
def W8.lst (v:W8):List Nat:=[v.a,v.b,v.c,v.d,v.e,v.f,v.g,v.h]
theorem plus_get (v u:W8) (k:Nat) (h:k < 8):(plus v u).lst.getD k 0=(v.lst.getD k 0+u.lst.getD k 0) % M:=by
 rcases (by omega:k=0∨k=1∨k=2∨k=3∨k=4∨k=5∨k=6∨k=7) with rfl|rfl|rfl|rfl|rfl|rfl|rfl|rfl<;>rfl
theorem lst_lt {v:W8} (hv:v.Ok) (k:Nat):v.lst.getD k 0 < 2 ^ 32:=by
 obtain ⟨ha,hb,hc,hd,he,hf,hg,hh⟩:=hv
 by_cases h:k < 8
 ·rcases (by omega:k=0∨k=1∨k=2∨k=3∨k=4∨k=5∨k=6∨k=7) with rfl|rfl|rfl|rfl|rfl|rfl|rfl|rfl<;>assumption
 ·rw [List.getD_eq_getElem?_getD,List.getElem?_eq_none (by show 8≤k;omega)]
  exact Nat.two_pow_pos 32
theorem bsl_get {w:World} {A:Option Addr} {n:Nat} {b:List Int} (hb:Byt b) (h:Sl w w.heap.size 1 A n (b.map (.int .u8))) (hl:b.length=n) (h0:0 < n):∃g o,A=some ⟨g,o,none⟩∧g < w.heap.size∧∀i,i < n→w.cell? ⟨g,o+i,none⟩=some (.int .u8 ((byt b i:Nat):Int)):=by
 obtain ⟨g,o,rfl,hg,hc⟩:=h.2 (by omega)
 refine ⟨g,o,rfl,hg,fun i hi=>hc i _ ?_⟩
 have h1:=hb b[i] (List.getElem_mem (by omega))
 unfold byt
 rw [List.getElem?_map,List.getD_eq_getElem?_getD,List.getElem?_eq_getElem (by omega)]
 simp only [Option.map_some,Option.getD_some]
 rw [Int.toNat_of_nonneg h1.1]
theorem q_turn (w:World) (x n:Nat) (hx:x < 2 ^ 32) (h0:0 < n) (hn:n < 32) (k:Nat):Calls Tryz.prog 214 #[.int .i64 x,.int .i64 n] (w.drewN (1+k)) fun e w'=>e=.returned (.int .i64 (tn x n:Nat))∧∃j,w'=w.drewN (1+j) :=
 (turn_at _ x n hx h0 hn).mono fun e w' ⟨h1,j,h2⟩=>⟨h1,k+j,by rw [h2,World.drewN_drewN,Nat.add_assoc]⟩
theorem q_mod (w:World) (n:Nat) (k:Nat):Calls Tryz.prog 213 #[.int .i64 n] (w.drewN (1+k)) fun e w'=>e=.returned (.int .i64 (n % M:Nat))∧∃j,w'=w.drewN (1+j) :=
 (mod_at _ n).mono fun e w' ⟨h1,h2⟩=>⟨h1,k,h2⟩
theorem behind_at (w:World) (v1:Value) (A2 Af Ab:Option Addr) (c2 cf cb:Nat) (v:W8) (hv:v.Ok) (b:List Int) (hb:Byt b) (hl:b.length=64) (h1:v1.oneCell'=true) (h2:Sl w w.heap.size 1 A2 64 (nats ks)) (hf:Sl w w.heap.size 1 Af 8 (nats v.lst)) (hbs:Sl w w.heap.size 1 Ab 64 (b.map (.int .u8))) :
  Calls Tryz.prog 202 #[.agg #[v1,.slice A2 64 c2],.slice Af 8 cf,.slice Ab 64 cb] w fun e w'=>∃r,e=.returned r∧w'.ownsRow w.heap.size 3 1 r 8 (nats (comp v b).lst)∧Below w.heap.size w w':=by
 obtain ⟨gb,ob,rfl,hgb,cB⟩:=bsl_get hb hbs hl (by omega)
 have HV:=Lib.hid hv;have HB:=Lib.hid hb;have HL:=Lib.hid hl;have H2:=Lib.hid h2;have HF:=Lib.hid hf;have HCB:=Lib.hid cB
 have HB0:=Lib.hid ((Below.refl w.heap.size w).alloc (Nat.le_refl _) (.cells #[v1,.slice A2 64 c2] 264))
 have HBX:=Lib.hid (Row.new w 264 #[v1,.slice A2 64 c2])
 clear hv hb hl h2 hf cB hbs
 go_enter Tryz.func202,Tryz.ntmps202
 go_wp2_with (fail)
 have h3:=(((St.nil w).new 264 #[v1,.slice A2 64 c2]).add (Q:=own 3 1 (.slice none 0 0) 0 []) (F:=fun _=>False) (Below.refl _ _) ⟨World.ownsRow_nil _ _ _ _,fun i=>by simp [Value.ownBlock]⟩ (fun i hi=>hi.elim))
 have H3:=Lib.hid h3
 clear h3
 go_loopw [7,8] (fun vv i wr=>∃k:Nat,k≤64∧i=.int .i64 k∧St w wr [own 3 1 vv k (nats (wUp b k)),row w.heap.size 264 [v1,.slice A2 64 c2]]) (fun _ i _=>64-(intOf i).toNat)
 case atStart=>exact ⟨0,by omega,rfl,H3.out⟩
 case round =>
  obtain ⟨k,hk,rfl,h4⟩:=hrel
  obtain ⟨AW,cW,rfl,_,_⟩:=own_form h4.own
  have H4:=Lib.hid h4
  clear h4
  by_cases hlt:k < 64
  ·have hlt':(k:Int) < 64:=by omega
   by_cases h16:k < 16
   ·have h16':(k:Int) < 16:=by omega
    have d0:=(H4.out.bel.cell (p:=⟨gb,ob+(4*k),none⟩) hgb).trans (HCB.out (4*k) (by omega))
    have d1:=(H4.out.bel.cell (p:=⟨gb,ob+(4*k+1),none⟩) hgb).trans (HCB.out (4*k+1) (by omega))
    have d2:=(H4.out.bel.cell (p:=⟨gb,ob+(4*k+2),none⟩) hgb).trans (HCB.out (4*k+2) (by omega))
    have d3:=(H4.out.bel.cell (p:=⟨gb,ob+(4*k+3),none⟩) hgb).trans (HCB.out (4*k+3) (by omega))
    have l0:=byt_lt HB.out (4*k);have l1:=byt_lt HB.out (4*k+1);have l2:=byt_lt HB.out (4*k+2);have l3:=byt_lt HB.out (4*k+3)
    have hwd:wd b k=byt b (4*k)*16777216+byt b (4*k+1)*65536+byt b (4*k+2)*256+byt b (4*k+3):=rfl
    have hw:wUp b (k+1)=wUp b k++[wd b k]:=by rw [wUp,if_pos h16]
    generalize byt b (4*k)=y0 at *
    generalize byt b (4*k+1)=y1 at *
    generalize byt b (4*k+2)=y2 at *
    generalize byt b (4*k+3)=y3 at *
    have HW:=Lib.hid hw;have HWD:=Lib.hid hwd
    have g1:IntKind.i64.wrap (4*(k:Int))=4*(k:Int):=IntWalk.i64_in _ ⟨by omega,by omega⟩
    have g2:(0:Int)≤4*(k:Int):=by omega
    have g3:4*(k:Int) < 64:=by omega
    have g4:(4*(k:Int)).toNat=4*k:=by omega
    have g5:(0:Int)≤4*(k:Int)+1:=by omega
    have g6:4*(k:Int)+1 < 64:=by omega
    have g7:(4*(k:Int)+1).toNat=4*k+1:=by omega
    have g8:(0:Int)≤4*(k:Int)+2:=by omega
    have g9:4*(k:Int)+2 < 64:=by omega
    have g10:(4*(k:Int)+2).toNat=4*k+2:=by omega
    have g11:(0:Int)≤4*(k:Int)+3:=by omega
    have g12:4*(k:Int)+3 < 64:=by omega
    have g13:(4*(k:Int)+3).toNat=4*k+3:=by omega
    clear hw hwd
    go_upto_region 6 with fail
    refine segs_start (by kernel_rfl) ?_
    refine segs_take [0] (by kernel_rfl) (fun _ _ _ _ _ h=>h) ?_
    simp only [pick,xGs,xGz,xGo]
    iterate 1 still_step
    refine wpStill_nil ?_
    refine segs_quiet [1,2,3,4,5,6,7,8,9,10,11,12,13,14,15,16,17,18,19,20,21,22,23,24,25,26,27,28,29,30,31,32,33] (by kernel_rfl) ?_
    simp only [pick,xGs,xGz,xGo]
    repeat (go_big_quiet_step (fail))
    refine wpQuiet_nil ?_
    rintro _ ⟨nq,rfl⟩
    refine segs_one 34 (by kernel_rfl) (by rfl) ?_
    try simp only [xGs,xGz,xGo]
    go_simp
    try dsimp only
    try simp only [xGs,xGz,xGo,Act.put,xSi,xSz,xSs]
    have H6:=Lib.hid (((H4.out.drewN (1+nq)).new 3 #[.int .i64 ((y0:Int)*16777216+(y1:Int)*65536+(y2:Int)*256+(y3:Int))]).pick 1 rfl)
    refine segs_one 35 (by kernel_rfl) (by rfl) ?_
    try simp only [xGs,xGz,xGo]
    refine wp_app slI (by rfl) (.tmp 25) (.tmp 59) (by rfl) H6.out.own (by rfl) (by rfl) ((Row.new (wr.drewN (1+nq)) 3 #[.int .i64 ((y0:Int)*16777216+(y1:Int)*65536+(y2:Int)*256+(y3:Int))]).sl (B:=(wr.drewN (1+nq)).heap.size+1) (size:=1) (n:=1) (o:=0) (ys:=[.int .i64 ((y0:Int)*16777216+(y1:Int)*65536+(y2:Int)*256+(y3:Int))]) (Nat.lt_succ_self _) rfl rfl) (by simp [Value.oneCell']) (by omega) (by omega) (by unfold maxLen;omega) H6.out.bel.size ?_
    intro g6 cap6 w6 ho6 hg6 hor6 hlt6
    have H7:=Lib.hid ((H6.out.grown hg6 ho6 (fun g hg=>by cases hg;exact hor6)).swap.drop)
    clear ho6 hg6 hor6 hlt6
    try dsimp only
    try simp only [xGs,xGz,xGo,Act.put,xSi,xSz,xSs]
    refine segs_one 36 (by kernel_rfl) (by rfl) ?_
    try simp only [xGs,xGz,xGo]
    go_simp
    try dsimp only
    try simp only [xGs,xGz,xGo,Act.put,xSi,xSz,xSs]
    refine segs_end (by kernel_rfl) ?_
    go_wp2_with (fail)
    go_roundw
    case rel =>
     refine ⟨k+1,by omega,by go_num,?_⟩
     rw [HW.out,nats_snoc,HWD.out]
     exact H7.out
    case measure=>simp [intOf];omega
   ·obtain ⟨q,hq⟩:∃q,k=q+16:=⟨k-16,by omega⟩
    subst hq
    obtain ⟨bW,oW,rfl,hbW,hcW⟩:=(Sl.of_own H4.out.own).2 (by omega)
    have hxl:=wUp_lt HB.out (q+16)
    have gx:∀i,i < q+16→(wUp b (q+16)).getD i 0 < 2 ^ 32:=fun i hi=>by
     rw [List.getD_eq_getElem?_getD,List.getElem?_eq_getElem (by rw [wUp_len];exact hi)]
     exact hxl _ (List.getElem_mem _)
    have c2:=hcW (q+14) _ (nats_get (wUp b (q+16)) (q+14) (by rw [wUp_len];omega))
    have c15:=hcW (q+1) _ (nats_get (wUp b (q+16)) (q+1) (by rw [wUp_len];omega))
    have c7:=hcW (q+9) _ (nats_get (wUp b (q+16)) (q+9) (by rw [wUp_len];omega))
    have c16:=hcW q _ (nats_get (wUp b (q+16)) q (by rw [wUp_len];omega))
    have l2:=gx (q+14) (by omega);have l15:=gx (q+1) (by omega);have l7:=gx (q+9) (by omega);have l16:=gx q (by omega)
    have hw:wUp b (q+16+1)=wUp b (q+16)++[(((wUp b (q+16)).getD q 0+sp ((wUp b (q+16)).getD (q+1) 0) 7 18 3+(wUp b (q+16)).getD (q+9) 0+sp ((wUp b (q+16)).getD (q+14) 0) 17 19 10) % M)]:=by
     rw [wUp,if_neg h16]
     unfold wx
     rw [wUp_len]
     rfl
    generalize (wUp b (q+16)).getD (q+14) 0=x2 at *
    generalize (wUp b (q+16)).getD (q+1) 0=x15 at *
    generalize (wUp b (q+16)).getD (q+9) 0=x7 at *
    generalize (wUp b (q+16)).getD q 0=x16 at *
    have t1:RowKit.Hid (∀(w:World) (k:Nat),Calls Tryz.prog 214 #[.int .i64 x15,.int .i64 7] (w.drewN (1+k)) fun e w'=>e=.returned (.int .i64 (tn x15 7:Nat))∧∃j,w'=w.drewN (1+j)):=Lib.hid fun w k=>q_turn w x15 7 l15 (by omega) (by omega) k
    have t2:RowKit.Hid (∀(w:World) (k:Nat),Calls Tryz.prog 214 #[.int .i64 x15,.int .i64 18] (w.drewN (1+k)) fun e w'=>e=.returned (.int .i64 (tn x15 18:Nat))∧∃j,w'=w.drewN (1+j)):=Lib.hid fun w k=>q_turn w x15 18 l15 (by omega) (by omega) k
    have t3:RowKit.Hid (∀(w:World) (k:Nat),Calls Tryz.prog 214 #[.int .i64 x2,.int .i64 17] (w.drewN (1+k)) fun e w'=>e=.returned (.int .i64 (tn x2 17:Nat))∧∃j,w'=w.drewN (1+j)):=Lib.hid fun w k=>q_turn w x2 17 l2 (by omega) (by omega) k
    have t4:RowKit.Hid (∀(w:World) (k:Nat),Calls Tryz.prog 214 #[.int .i64 x2,.int .i64 19] (w.drewN (1+k)) fun e w'=>e=.returned (.int .i64 (tn x2 19:Nat))∧∃j,w'=w.drewN (1+j)):=Lib.hid fun w k=>q_turn w x2 19 l2 (by omega) (by omega) k
    have b1:=tn_lt x15 7 l15 (by omega);have b2:=tn_lt x15 18 l15 (by omega);have b3:=tn_lt x2 17 l2 (by omega);have b4:=tn_lt x2 19 l2 (by omega)
    have e1:=xor64 (tn x15 7) (tn x15 18) b1 b2
    have e2:Go.bits .xor .i64 ((tn x15 7 ^^^ tn x15 18:Nat):Int) ((x15:Int) / 8)=((sp x15 7 18 3:Nat):Int):=xor64 (tn x15 7 ^^^ tn x15 18) (x15 / 8) (xor_lt b1 b2) (by omega)
    have e3:=xor64 (tn x2 17) (tn x2 19) b3 b4
    have e4:Go.bits .xor .i64 ((tn x2 17 ^^^ tn x2 19:Nat):Int) ((x2:Int) / 1024)=((sp x2 17 19 10:Nat):Int):=xor64 (tn x2 17 ^^^ tn x2 19) (x2 / 1024) (xor_lt b3 b4) (by omega)
    have s1:sp x15 7 18 3 < 2 ^ 32:=xor_lt (xor_lt b1 b2) (Nat.lt_of_le_of_lt (Nat.div_le_self _ _) l15)
    have s2:sp x2 17 19 10 < 2 ^ 32:=xor_lt (xor_lt b3 b4) (Nat.lt_of_le_of_lt (Nat.div_le_self _ _) l2)
    generalize tn x15 7=y1 at *
    generalize tn x15 18=y2 at *
    generalize tn x2 17=y3 at *
    generalize tn x2 19=y4 at *
    generalize sp x15 7 18 3=s15 at *
    generalize sp x2 17 19 10=s02 at *
    have tm:RowKit.Hid (∀(w:World) (k:Nat),Calls Tryz.prog 213 #[.int .i64 ((x16:Int)+(s15:Int)+(x7:Int)+(s02:Int))] (w.drewN (1+k)) fun e w'=>e=.returned (.int .i64 (((x16+s15+x7+s02) % M:Nat):Int))∧∃j,w'=w.drewN (1+j)):=Lib.hid fun w k=>q_mod w (x16+s15+x7+s02) k
    generalize ((x16+s15+x7+s02) % M:Nat)=nw at *
    have HW:=Lib.hid hw
    have m0:IntKind.i64.wrap ((q:Int)+16-15)=(q:Int)+1:=by rw [IntWalk.i64_in _ ⟨by omega,by omega⟩];omega
    have m1:IntKind.i64.wrap ((q:Int)+16-2)=(q:Int)+14:=by rw [IntWalk.i64_in _ ⟨by omega,by omega⟩];omega
    have m2:IntKind.i64.wrap ((q:Int)+16-7)=(q:Int)+9:=by rw [IntWalk.i64_in _ ⟨by omega,by omega⟩];omega
    have m3:IntKind.i64.wrap ((q:Int)+16-16)=(q:Int):=by rw [IntWalk.i64_in _ ⟨by omega,by omega⟩];omega
    have m4:IntKind.i64.wrap (q:Int)=(q:Int):=IntWalk.i64_in _ ⟨by omega,by omega⟩
    have n0:((q:Int)+1).toNat=q+1:=by omega
    have n1:((q:Int)+14).toNat=q+14:=by omega
    have n2:((q:Int)+9).toNat=q+9:=by omega
    have p0:(0:Int)≤(q:Int):=by omega
    have p1:(0:Int)≤(q:Int)+1:=by omega
    have p2:(0:Int)≤(q:Int)+14:=by omega
    have p3:(0:Int)≤(q:Int)+9:=by omega
    have p4:(16:Int)≤(q:Int)+16:=by omega
    have p5:(q:Int)+16 < 64:=by omega
    have p6:(q:Int) < (q:Int)+16:=by omega
    have p7:(q:Int)+1 < (q:Int)+16:=by omega
    have p8:(q:Int)+14 < (q:Int)+16:=by omega
    have p9:(q:Int)+9 < (q:Int)+16:=by omega
    clear hw hxl gx hcW b1 b2 b3 b4
    go_upto_region 9 with fail
    refine segs_start (by kernel_rfl) ?_
    refine segs_take [0] (by kernel_rfl) (fun _ _ _ _ _ h=>h) ?_
    simp only [pick,xGs,xGz,xGo]
    iterate 1 still_step
    refine wpStill_nil ?_
    refine segs_quiet [1,2,3,4,5,6,7,8,9,10,11,12,13,14,15,16,17,18,19,20,21,22,23,24,25,26,27,28,29,30] (by kernel_rfl) ?_
    simp only [pick,xGs,xGz,xGo]
    repeat (go_big_quiet_step (first|(with_reducible exact t1.out _ _)|(with_reducible exact t2.out _ _)|(with_reducible exact t3.out _ _)|(with_reducible exact t4.out _ _)|(with_reducible exact tm.out _ _)))
    refine wpQuiet_nil ?_
    rintro _ ⟨nq,rfl⟩
    refine segs_one 31 (by kernel_rfl) (by rfl) ?_
    try simp only [xGs,xGz,xGo]
    go_simp
    try dsimp only
    try simp only [xGs,xGz,xGo,Act.put,xSi,xSz,xSs]
    have H6:=Lib.hid (((H4.out.drewN (1+nq)).new 3 #[.int .i64 (nw:Int)]).pick 1 rfl)
    refine segs_one 32 (by kernel_rfl) (by rfl) ?_
    try simp only [xGs,xGz,xGo]
    refine wp_app slI (by rfl) (.tmp 71) (.tmp 102) (by rfl) H6.out.own (by rfl) (by rfl) ((Row.new (wr.drewN (1+nq)) 3 #[.int .i64 (nw:Int)]).sl (B:=(wr.drewN (1+nq)).heap.size+1) (size:=1) (n:=1) (o:=0) (ys:=[.int .i64 (nw:Int)]) (Nat.lt_succ_self _) rfl rfl) (by simp [Value.oneCell']) (by omega) (by omega) (by unfold maxLen;omega) H6.out.bel.size ?_
    intro g6 cap6 w6 ho6 hg6 hor6 hlt6
    have H7:=Lib.hid ((H6.out.grown hg6 ho6 (fun g hg=>by cases hg;exact hor6)).swap.drop)
    clear ho6 hg6 hor6 hlt6
    try dsimp only
    try simp only [xGs,xGz,xGo,Act.put,xSi,xSz,xSs]
    refine segs_one 33 (by kernel_rfl) (by rfl) ?_
    try simp only [xGs,xGz,xGo]
    go_simp
    try dsimp only
    try simp only [xGs,xGz,xGo,Act.put,xSi,xSz,xSs]
    refine segs_end (by kernel_rfl) ?_
    go_wp2_with (fail)
    go_roundw
    case rel =>
     refine ⟨q+16+1,by omega,by go_num,?_⟩
     rw [HW.out,nats_snoc]
     exact H7.out
    case measure=>simp [intOf];omega
  ·have hlt':¬(k:Int) < 64:=by omega
   have hk64:k=64:=by omega
   have h4:=H4.out
   rw [hk64] at h4
   have hWl:=wUp_lt HB.out 64
   have hWn:=wUp_len b 64
   have hcomp:comp v b=plus v (rnd v (wUp b 64) 64):=rfl
   generalize wUp b 64=W at h4 hWl hWn hcomp
   obtain ⟨gW,cW2,eW,_,_⟩:=h4.own.form (by omega)
   cases eW
   obtain ⟨b2,o2,rfl,hb2,hc2⟩:=H2.out.2 (by omega)
   have HC2:=Lib.hid hc2
   obtain ⟨bF,oF,rfl,hbF,hcF⟩:=HF.out.2 (by omega)
   have HCF:=Lib.hid hcF
   have HK64:=Lib.hid hk64;have H5:=Lib.hid h4;have HWL:=Lib.hid hWl;have HWN:=Lib.hid hWn;have HCOMP:=Lib.hid hcomp
   clear hk64 h4 hWl hWn hcomp hc2 hcF
   have hsf:∀w':World,Below w.heap.size w w'→Sl w' w'.heap.size 1 (some ⟨bF,oF,none⟩) 8 (nats v.lst):=fun w' hb=>nsl_more HF.out hb
   have HSF:=Lib.hid hsf
   clear hsf
   rw [HK64.out] at *
   go_wp2_with (at_builtin;refine app_at slI rfl (.tmp 104) (.tmp 105) rfl (World.ownsRow_nil _ w.heap.size 3 1) rfl rfl (fun h=>by cases h) (HSF.out _ H5.out.bel) (by simp [Value.oneCell',W8.lst]) (by omega) (by unfold maxLen;omega) H5.out.bel.size ?_;intro v' w6 ho6 hg6 hl6)
   have h6:=H5.out.add (Q:=own 3 1 v' 8 (nats v.lst)) (F:=fun i=>v'.ownBlock=some i) (grownBy_below hg6) ⟨ho6.mono (Nat.zero_le _),fun i=>Iff.rfl⟩ (fun i hi=>by
    rcases hl6 i hi with h|h
    ·cases h
    ·exact h)
   have H6:=Lib.hid h6
   clear h6 ho6 hg6 hl6
   go_loopw [11,12] (fun vv i wx=>∃k:Nat,k≤64∧i=.int .i64 k∧St w wx [own 3 1 vv 8 (nats (rnd v W k).lst),own 3 1 (.slice (some ⟨gW,0,none⟩) 64 cW) 64 (nats W),row w.heap.size 264 [v1,.slice (some ⟨b2,o2,none⟩) 64 c2]]) (fun _ i _=>64-(intOf i).toNat)
   case atStart=>exact ⟨0,by omega,rfl,H6.out⟩
   case round =>
    obtain ⟨k2,hk2,rfl,h7⟩:=hrel
    obtain ⟨gV,cV,rfl,_,hgV⟩:=h7.own.form (by omega)
    have H7:=Lib.hid h7
    clear h7
    by_cases hlt2:k2 < 64
    ·have hlt2':(k2:Int) < 64:=by omega
     have huo:=rnd_ok HV.out W k2
     have hnx:rnd v W (k2+1)=stepR (rnd v W k2) (ks.getD k2 0) (W.getD k2 0):=rfl
     have h7:=H7.out
     have wc:=(h7.pick 1 rfl).own
     obtain ⟨gX,oX,eX,_,hcX⟩:=(Sl.of_own (h7.pick 1 rfl).own).2 (by omega)
     cases eX
     have cW0:=hcX k2 _ (nats_get W k2 (by rw [HWN.out];exact hlt2))
     rw [Nat.zero_add] at cW0
     have cK0:=(h7.bel.cell (p:=⟨b2,o2+k2,none⟩) hb2).trans (HC2.out k2 _ (nats_get ks k2 (by show k2 < 64;exact hlt2)))
     have hwl:W.getD k2 0 < 2 ^ 32:=by
      rw [List.getD_eq_getElem?_getD,List.getElem?_eq_getElem (by rw [HWN.out];exact hlt2)]
      exact HWL.out _ (List.getElem_mem _)
     have hkl:=ks_lt2 k2
     have cB1:=(h7.pick 2 rfl).row.1.cell 1
     simp only [List.getElem?_cons_succ,List.getElem?_cons_zero] at cB1
     generalize hu:rnd v W k2=u at *
     obtain ⟨a,b',c,d,e,f,gg',h⟩:=u
     obtain ⟨ha,hb',hc,hd,he,hf,hgg,hh⟩:=huo
     have ha:a < 2 ^ 32:=ha
     have hb':b' < 2 ^ 32:=hb'
     have hc:c < 2 ^ 32:=hc
     have hd:d < 2 ^ 32:=hd
     have he:e < 2 ^ 32:=he
     have hf:f < 2 ^ 32:=hf
     have hgg:gg' < 2 ^ 32:=hgg
     have hh:h < 2 ^ 32:=hh
     obtain ⟨gY,oY,eY,_,hcY⟩:=(Sl.of_own h7.own).2 (by omega)
     cases eY
     have y0:wr.cell? ⟨gV,0,none⟩=some (.int .i64 (a:Int)):=hcY 0 _ rfl
     have y1:wr.cell? ⟨gV,1,none⟩=some (.int .i64 (b':Int)):=hcY 1 _ rfl
     have y2:wr.cell? ⟨gV,2,none⟩=some (.int .i64 (c:Int)):=hcY 2 _ rfl
     have y3:wr.cell? ⟨gV,3,none⟩=some (.int .i64 (d:Int)):=hcY 3 _ rfl
     have y4:wr.cell? ⟨gV,4,none⟩=some (.int .i64 (e:Int)):=hcY 4 _ rfl
     have y5:wr.cell? ⟨gV,5,none⟩=some (.int .i64 (f:Int)):=hcY 5 _ rfl
     have y6:wr.cell? ⟨gV,6,none⟩=some (.int .i64 (gg':Int)):=hcY 6 _ rfl
     have y7:wr.cell? ⟨gV,7,none⟩=some (.int .i64 (h:Int)):=hcY 7 _ rfl
     generalize W.getD k2 0=wi at *
     generalize ks.getD k2 0=ki at *
     have hnn:4294967295-e < 2 ^ 32:=by omega
     have e0:(4294967295:Int)-(e:Int)=((4294967295-e:Nat):Int):=by omega
     have e1:=and64 e f he hf
     have e2:Go.bits .and .i64 ((4294967295:Int)-(e:Int)) (gg':Int)=(((4294967295-e) &&& gg':Nat):Int):=by rw [e0];exact and64 _ _ hnn hgg
     have e3:=or64 (e &&& f) ((4294967295-e) &&& gg') (Nat.and_lt_two_pow _ hf) (Nat.and_lt_two_pow _ hgg)
     have l3:((e &&& f) ||| ((4294967295-e) &&& gg')) < 2 ^ 32:=Nat.or_lt_two_pow (Nat.and_lt_two_pow _ hf) (Nat.and_lt_two_pow _ hgg)
     have e4:=and64 a b' ha hb'
     have e5:=and64 a c ha hc
     have e6:=and64 b' c hb' hc
     have e7:=or64 (a &&& b') (a &&& c) (Nat.and_lt_two_pow _ hb') (Nat.and_lt_two_pow _ hc)
     have e8:=or64 ((a &&& b') ||| (a &&& c)) (b' &&& c) (Nat.or_lt_two_pow (Nat.and_lt_two_pow _ hb') (Nat.and_lt_two_pow _ hc)) (Nat.and_lt_two_pow _ hc)
     have l8:(((a &&& b') ||| (a &&& c)) ||| (b' &&& c)) < 2 ^ 32:=Nat.or_lt_two_pow (Nat.or_lt_two_pow (Nat.and_lt_two_pow _ hb') (Nat.and_lt_two_pow _ hc)) (Nat.and_lt_two_pow _ hc)
     have lm1:mix e 6 11 25 < 2 ^ 32:=xor_lt (xor_lt (tn_lt e 6 he (by omega)) (tn_lt e 11 he (by omega))) (tn_lt e 25 he (by omega))
     have lm2:mix a 2 13 22 < 2 ^ 32:=xor_lt (xor_lt (tn_lt a 2 ha (by omega)) (tn_lt a 13 ha (by omega))) (tn_lt a 22 ha (by omega))
     have t1:RowKit.Hid (∀(w:World) (k:Nat),Calls Tryz.prog 215 #[.int .i64 e,.int .i64 6,.int .i64 11,.int .i64 25] (w.drewN k) fun e' w'=>e'=.returned (.int .i64 (mix e 6 11 25:Nat))∧∃j,w'=w.drewN j):=Lib.hid fun w k=>(mix_at (w.drewN k) e 6 11 25 he (by omega) (by omega) (by omega) (by omega) (by omega) (by omega)).mono fun e' w' ⟨h1,j,h2⟩=>⟨h1,k+j,by rw [h2,World.drewN_drewN]⟩
     have t2:RowKit.Hid (∀(w:World) (k:Nat),Calls Tryz.prog 215 #[.int .i64 a,.int .i64 2,.int .i64 13,.int .i64 22] (w.drewN k) fun e' w'=>e'=.returned (.int .i64 (mix a 2 13 22:Nat))∧∃j,w'=w.drewN j):=Lib.hid fun w k=>(mix_at (w.drewN k) a 2 13 22 ha (by omega) (by omega) (by omega) (by omega) (by omega) (by omega)).mono fun e' w' ⟨h1,j,h2⟩=>⟨h1,k+j,by rw [h2,World.drewN_drewN]⟩
     unfold stepR at hnx
     simp only at hnx
     generalize ((e &&& f) ||| ((4294967295-e) &&& gg'))=o1 at *
     generalize (((a &&& b') ||| (a &&& c)) ||| (b' &&& c))=o2' at *
     generalize mix e 6 11 25=m1 at *
     generalize mix a 2 13 22=m2 at *
     have t3:RowKit.Hid (∀(w:World) (k:Nat),Calls Tryz.prog 213 #[.int .i64 ((h:Int)+(m1:Int)+(o1:Int)+(ki:Int)+(wi:Int))] (w.drewN k) fun e' w'=>e'=.returned (.int .i64 (((h+m1+o1+ki+wi) % M:Nat):Int))∧∃j,w'=w.drewN j):=Lib.hid fun w k=>(mod_at (w.drewN k) (h+m1+o1+ki+wi)).mono fun e' w' ⟨h1,h2⟩=>⟨h1,k,h2⟩
     have t4:RowKit.Hid (∀(w:World) (k:Nat),Calls Tryz.prog 213 #[.int .i64 ((m2:Int)+(o2':Int))] (w.drewN k) fun e' w'=>e'=.returned (.int .i64 (((m2+o2') % M:Nat):Int))∧∃j,w'=w.drewN j):=Lib.hid fun w k=>(mod_at (w.drewN k) (m2+o2')).mono fun e' w' ⟨h1,h2⟩=>⟨h1,k,h2⟩
     have lx:(h+m1+o1+ki+wi) % M < 2 ^ 32:=Nat.mod_lt _ (by decide)
     have ly:(m2+o2') % M < 2 ^ 32:=Nat.mod_lt _ (by decide)
     have i0:(0:Int)≤(k2:Int):=by omega
     have HNX:=Lib.hid hnx;have H8:=Lib.hid h7
     clear hnx h7 hcX hcY wc hu e0
     go_upto_region 16 with fail
     refine wp_region_quiet_lit (by kernel_rfl) (by kernel_rfl) ?_
     repeat (go_big_quiet_step (first|(with_reducible exact t1.out _ _)|(with_reducible exact t3.out _ _)))
     refine wpQuiet_nil ?_
     intro wq hwq
     have HQ:=Lib.hid (drew_st hwq H8.out)
     clear hwq y0 y1 y2 y3 y4 y5 y6 y7 cW0 cK0 cB1
     obtain ⟨y0,y1,y2,y3,y4,y5,y6,y7,_⟩:=lst_cells HQ.out
     go_upto_region 17 with fail
     refine wp_region_quiet_lit (by kernel_rfl) (by kernel_rfl) ?_
     repeat (go_big_quiet_step (first|(with_reducible exact t2.out _ _)|(with_reducible exact t4.out _ _)))
     refine wpQuiet_nil ?_
     intro wp hwp
     have HP:=Lib.hid (drew_st hwp HQ.out)
     clear hwp y0 y1 y2 y3 y4 y5 y6 y7 e1 e2 e3 e4 e5 e6 e7 e8
     obtain ⟨y0,y1,y2,y3,y4,y5,y6,y7,_⟩:=lst_cells HP.out
     generalize (h+m1+o1+ki+wi) % M=X at *
     generalize (m2+o2') % M=Y at *
     have t5:RowKit.Hid (∀(w:World) (k:Nat),Calls Tryz.prog 213 #[.int .i64 ((X:Int)+(Y:Int))] (w.drewN (1+k)) fun e' w'=>e'=.returned (.int .i64 (((X+Y) % M:Nat):Int))∧∃j,w'=w.drewN (1+j)):=Lib.hid fun w k=>q_mod w (X+Y) k
     have t6:RowKit.Hid (∀(w:World) (k:Nat),Calls Tryz.prog 213 #[.int .i64 ((d:Int)+(X:Int))] (w.drewN (1+k)) fun e' w'=>e'=.returned (.int .i64 (((d+X) % M:Nat):Int))∧∃j,w'=w.drewN (1+j)):=Lib.hid fun w k=>q_mod w (d+X) k
     generalize ((X+Y) % M:Nat)=XY at *
     generalize ((d+X) % M:Nat)=DX at *
     have hnil:=HP.out.add (Q:=own 3 1 (.slice none 0 0) 0 []) (F:=fun _=>False) (Below.refl _ _) ⟨World.ownsRow_nil _ _ _ _,fun i=>by simp [Value.ownBlock]⟩ (fun i hi=>hi.elim)
     have H9:=Lib.hid hnil
     clear hnil
     go_upto_region 19 with fail
     refine segs_start (by kernel_rfl) ?_
     refine segs_take [0] (by kernel_rfl) (fun _ _ _ _ _ h=>h) ?_
     simp only [pick,xGs,xGz,xGo]
     iterate 1 still_step
     refine wpStill_nil ?_
     refine segs_quiet [1,2,3,4,5,6,7,8,9,10,11,12,13,14,15,16,17,18,19,20,21,22,23,24,25,26,27,28] (by kernel_rfl) ?_
     simp only [pick,xGs,xGz,xGo]
     repeat (go_big_quiet_step (first|(with_reducible exact t5.out _ _)|(with_reducible exact t6.out _ _)))
     refine wpQuiet_nil ?_
     rintro _ ⟨nq,rfl⟩
     refine segs_one 29 (by kernel_rfl) (by rfl) ?_
     try simp only [xGs,xGz,xGo]
     go_simp
     try dsimp only
     try simp only [xGs,xGz,xGo,Act.put,xSi,xSz,xSs]
     have H6:=Lib.hid (((H9.out.drewN (1+nq)).new 3 #[.int .i64 (XY:Int),.int .i64 (a:Int),.int .i64 (b':Int),.int .i64 (c:Int),.int .i64 (DX:Int),.int .i64 (e:Int),.int .i64 (f:Int),.int .i64 (gg':Int)]).pick 1 rfl)
     refine segs_one 30 (by kernel_rfl) (by rfl) ?_
     try simp only [xGs,xGz,xGo]
     refine wp_app slI (by rfl) (.tmp 178) (.tmp 207) (by rfl) H6.out.own (by rfl) (by rfl) ((Row.new (wp.drewN (1+nq)) 3 #[.int .i64 (XY:Int),.int .i64 (a:Int),.int .i64 (b':Int),.int .i64 (c:Int),.int .i64 (DX:Int),.int .i64 (e:Int),.int .i64 (f:Int),.int .i64 (gg':Int)]).sl (B:=(wp.drewN (1+nq)).heap.size+1) (size:=1) (n:=8) (o:=0) (ys:=[.int .i64 (XY:Int),.int .i64 (a:Int),.int .i64 (b':Int),.int .i64 (c:Int),.int .i64 (DX:Int),.int .i64 (e:Int),.int .i64 (f:Int),.int .i64 (gg':Int)]) (Nat.lt_succ_self _) rfl rfl) (by simp [Value.oneCell']) (by omega) (by omega) (by unfold maxLen;omega) H6.out.bel.size ?_
     intro g6 cap6 w6 ho6 hg6 hor6 hlt6
     have H7:=Lib.hid ((H6.out.grown hg6 ho6 (fun g hg=>by cases hg;exact hor6)).swap.drop)
     clear ho6 hg6 hor6 hlt6
     try dsimp only
     try simp only [xGs,xGz,xGo,Act.put,xSi,xSz,xSs]
     refine segs_one 31 (by kernel_rfl) (by rfl) ?_
     try simp only [xGs,xGz,xGo]
     go_simp
     try dsimp only
     try simp only [xGs,xGz,xGo,Act.put,xSi,xSz,xSs]
     refine segs_end (by kernel_rfl) ?_
     go_wp2_with (fail)
     go_roundw
     case rel =>
      refine ⟨k2+1,by omega,by go_num,?_⟩
      rw [HNX.out]
      exact H7.out.swap.drop
     case measure=>simp [intOf];omega
    ·have hlt2':¬(k2:Int) < 64:=by omega
     have hk264:k2=64:=by omega
     have h7:=H7.out
     rw [hk264] at h7
     have huo:=rnd_ok HV.out W 64
     have hcomp:=HCOMP.out
     generalize hu:rnd v W 64=u at h7 huo hcomp
     have h8:=h7.add (Q:=own 3 1 (.slice none 0 0) 0 []) (F:=fun _=>False) (Below.refl _ _) ⟨World.ownsRow_nil _ _ _ _,fun i=>by simp [Value.ownBlock]⟩ (fun i hi=>hi.elim)
     have H8:=Lib.hid h8;have HUO:=Lib.hid huo;have HC:=Lib.hid hcomp
     clear h7 h8 hk264 huo hcomp hu
     go_wp2_with (fail)
     go_loopw [17,18] (fun vv i wx=>∃k:Nat,k≤8∧i=.int .i64 k∧St w wx [own 3 1 vv k (nats ((plus v u).lst.take k)),own 3 1 (.slice (some ⟨gV,0,none⟩) 8 cV) 8 (nats u.lst),own 3 1 (.slice (some ⟨gW,0,none⟩) 64 cW) 64 (nats W),row w.heap.size 264 [v1,.slice (some ⟨b2,o2,none⟩) 64 c2]]) (fun _ i _=>8-(intOf i).toNat)
     case atStart=>exact ⟨0,by omega,rfl,H8.out⟩
     case round =>
      obtain ⟨k3,hk3,rfl,h9⟩:=hrel
      obtain ⟨AR,cR,rfl,_,_⟩:=own_form h9.own
      have H9:=Lib.hid h9
      by_cases hlt3:k3 < 8
      ·have hlt3':(k3:Int) < 8:=by omega
       obtain ⟨gY,oY,eY,hgY,hcY⟩:=(Sl.of_own (h9.pick 1 rfl).own).2 (by omega)
       cases eY
       have cU:=hcY k3 _ (nats_get u.lst k3 hlt3)
       rw [Nat.zero_add] at cU
       have cF:=(h9.bel.cell (p:=⟨bF,oF+k3,none⟩) hbF).trans (HCF.out k3 _ (nats_get v.lst k3 hlt3))
       have lU:=lst_lt HUO.out k3;have lF:=lst_lt HV.out k3
       have hpg:=plus_get v u k3 hlt3
       have htk:(plus v u).lst.take (k3+1)=(plus v u).lst.take k3++[(plus v u).lst.getD k3 0]:=by
        rw [List.take_succ_eq_append_getElem (show k3 < (plus v u).lst.length from hlt3),List.getD_eq_getElem?_getD,List.getElem?_eq_getElem (show k3 < (plus v u).lst.length from hlt3)]
        rfl
       rw [hpg] at htk
       generalize u.lst.getD k3 0=xu at *
       generalize v.lst.getD k3 0=xf at *
       have t7:RowKit.Hid (∀(w:World) (k:Nat),Calls Tryz.prog 213 #[.int .i64 ((xf:Int)+(xu:Int))] (w.drewN (1+k)) fun e' w'=>e'=.returned (.int .i64 (((xf+xu) % M:Nat):Int))∧∃j,w'=w.drewN (1+j)):=Lib.hid fun w k=>q_mod w (xf+xu) k
       generalize (xf+xu) % M=z at *
       have HTK:=Lib.hid htk
       have i0:(0:Int)≤(k3:Int):=by omega
       clear h9 hcY hpg htk
       go_upto_region 25 with fail
       refine segs_start (by kernel_rfl) ?_
       refine segs_take [0] (by kernel_rfl) (fun _ _ _ _ _ h=>h) ?_
       simp only [pick,xGs,xGz,xGo]
       iterate 1 still_step
       refine wpStill_nil ?_
       refine segs_quiet [1,2,3,4,5,6,7,8,9,10] (by kernel_rfl) ?_
       simp only [pick,xGs,xGz,xGo]
       repeat (go_big_quiet_step (with_reducible exact t7.out _ _))
       refine wpQuiet_nil ?_
       rintro _ ⟨nq,rfl⟩
       refine segs_one 11 (by kernel_rfl) (by rfl) ?_
       try simp only [xGs,xGz,xGo]
       go_simp
       try dsimp only
       try simp only [xGs,xGz,xGo,Act.put,xSi,xSz,xSs]
       have H6:=Lib.hid (((H9.out.drewN (1+nq)).new 3 #[.int .i64 (z:Int)]).pick 1 rfl)
       refine segs_one 12 (by kernel_rfl) (by rfl) ?_
       try simp only [xGs,xGz,xGo]
       refine wp_app slI (by rfl) (.tmp 214) (.tmp 225) (by rfl) H6.out.own (by rfl) (by rfl) ((Row.new (wr.drewN (1+nq)) 3 #[.int .i64 (z:Int)]).sl (B:=(wr.drewN (1+nq)).heap.size+1) (size:=1) (n:=1) (o:=0) (ys:=[.int .i64 (z:Int)]) (Nat.lt_succ_self _) rfl rfl) (by simp [Value.oneCell']) (by omega) (by omega) (by unfold maxLen;omega) H6.out.bel.size ?_
       intro g6 cap6 w6 ho6 hg6 hor6 hlt6
       have H7:=Lib.hid ((H6.out.grown hg6 ho6 (fun g hg=>by cases hg;exact hor6)).swap.drop)
       clear ho6 hg6 hor6 hlt6
       try dsimp only
       try simp only [xGs,xGz,xGo,Act.put,xSi,xSz,xSs]
       refine segs_one 13 (by kernel_rfl) (by rfl) ?_
       try simp only [xGs,xGz,xGo]
       go_simp
       try dsimp only
       try simp only [xGs,xGz,xGo,Act.put,xSi,xSz,xSs]
       refine segs_end (by kernel_rfl) ?_
       go_wp2_with (fail)
       go_roundw
       case rel =>
        refine ⟨k3+1,by omega,by go_num,?_⟩
        rw [HTK.out,nats_snoc]
        exact H7.out
       case measure=>simp [intOf];omega
      ·have hlt3':¬(k3:Int) < 8:=by omega
       have hk38:k3=8:=by omega
       have hown:=h9.own
       rw [hk38] at hown
       have HO:=Lib.hid hown
       clear h9 hown
       go_wp2_with (fail)
       go_ret
       refine ⟨_,rfl,?_,H9.out.bel⟩
       rw [HC.out]
       have h:=HO.out
       rw [List.take_of_length_le (show (plus v u).lst.length≤8 from Nat.le_refl _)] at h
       exact h
end sha
end Go.Proofs.YtdldkkoplgkloaaGreat
