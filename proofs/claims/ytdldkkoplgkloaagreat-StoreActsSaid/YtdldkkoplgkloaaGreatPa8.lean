/- PROVED HERE: lemmas of the law. CONDITIONS: each names its own. -/
import Derived.Test.YtdldkkoplgkloaaGreatPa0
import Derived.Test.YtdldkkoplgkloaaGreatPa7
namespace Go.Proofs.YtdldkkoplgkloaaGreat
set_option linter.unusedVariables false
set_option linter.unusedSimpArgs false
set_option maxRecDepth 100000
set_option maxHeartbeats 32000000
open Go.Value renaming int → ae
open Go.IntKind renaming i64 → aa
namespace fZ
open Go.RowKit Go.Deep base obj mem sep bC aW chain
section
variable {l:List aI} {w w' w0:World}
theorem Ol (hw:∃n,w'=w.drewN n) (h:St w0 w l):St w0 w' l:=by
 obtain ⟨n,rfl⟩:=hw;exact h.drewN n
theorem Il {gV cV a b c d e f g h:Nat} (H:St w0 w (own 3 1 (.slice (some ⟨gV,0,none⟩) 8 cV) 8 ([ae aa (a:Int),ae aa (b:Int),ae aa (c:Int),ae aa (d:Int),ae aa (e:Int),ae aa (f:Int),ae aa (g:Int),ae aa (h:Int)])::l)) :
  w.cell? ⟨gV,0,none⟩=some (ae aa (a:Int))∧w.cell? ⟨gV,1,none⟩=some (ae aa (b:Int))∧w.cell? ⟨gV,2,none⟩=some (ae aa (c:Int))∧w.cell? ⟨gV,3,none⟩=some (ae aa (d:Int))∧w.cell? ⟨gV,4,none⟩=some (ae aa (e:Int))∧w.cell? ⟨gV,5,none⟩=some (ae aa (f:Int))∧w.cell? ⟨gV,6,none⟩=some (ae aa (g:Int))∧w.cell? ⟨gV,7,none⟩=some (ae aa (h:Int))∧gV < w.heap.size:=by
 obtain ⟨gY,oY,eY,hY,qK⟩:=(Sl.bP H.own).2 (by omega);cases eY;exact ⟨qK 0 _ rfl,qK 1 _ rfl,qK 2 _ rfl,qK 3 _ rfl,qK 4 _ rfl,qK 5 _ rfl,qK 6 _ rfl,qK 7 _ rfl,hY⟩
theorem AX (h:w.grownBy w' none):Below w.heap.size w w':=⟨h.os,h.tape,h.output,h.size,fun i hi=>h.block i hi (by simp)⟩
theorem Z5 (i:Nat):ks.getD i 0 < 2 ^ 32:=by
 by_cases h:i < 64
 ·have:∀i,i < 64→ks.getD i 0 < 2 ^ 32:=by decide +kernel
  exact this i h
 ·rw [dD,List.getElem?_eq_none (by show ks.length≤i;rw [show ks.length=64 from rfl];omega)]
  decide
def W8.du (v:W8):List Nat:=[v.a,v.b,v.c,v.d,v.e,v.f,v.g,v.h]
theorem Vd (v u:W8) (k:Nat) (h:k < 8):(plus v u).du.getD k 0=(v.du.getD k 0+u.du.getD k 0) % M:=by
 rcases (by omega:k=0∨k=1∨k=2∨k=3∨k=4∨k=5∨k=6∨k=7) with rfl|rfl|rfl|rfl|rfl|rfl|rfl|rfl<;>rfl
theorem KU {v:W8} (hv:v.Ok) (k:Nat):v.du.getD k 0 < 2 ^ 32:=by
 obtain ⟨ha,hb,hc,hd,he,hf,hg,hh⟩:=hv;by_cases h:k < 8
 ·rcases (by omega:k=0∨k=1∨k=2∨k=3∨k=4∨k=5∨k=6∨k=7) with rfl|rfl|rfl|rfl|rfl|rfl|rfl|rfl<;>assumption
 ·rw [dD,List.getElem?_eq_none (by show 8≤k;omega)];exact Nat.two_pow_pos 32
theorem Y7 {A:Option Addr} {n:Nat} {b:List Int} (hb:bn b) (h:Sl w w.heap.size 1 A n (b.map (.int .u8))) (hl:b.length=n) (h0:0 < n):∃g o,A=some ⟨g,o,none⟩∧g < w.heap.size∧∀i,i < n→w.cell? ⟨g,o+i,none⟩=some (.int .u8 ((jo b i:Nat):Int)):=by
 obtain ⟨g,o,rfl,hg,hc⟩:=h.2 (by omega);refine ⟨g,o,rfl,hg,fun i hi=>hc i _ ?_⟩;have h1:=hb b[i] (List.getElem_mem (by omega));unfold jo;rw [List.getElem?_map,dD,cN (by omega)];simp only [Option.map_some,Option.getD_some];rw [Int.toNat_of_nonneg h1.1]
theorem Fh (w:World) (x n:Nat) (hx:x < 2 ^ 32) (h0:0 < n) (hn:n < 32) (k:Nat):Calls Tryz.prog 214 #[ae aa x,ae aa n] (w.drewN (1+k)) fun e w'=>e=.returned (ae aa (tn x n:Nat))∧∃j,w'=w.drewN (1+j) :=
 (CF _ x n hx h0 hn).mono fun e w' ⟨h1,j,h2⟩=>⟨h1,k+j,by rw [h2,World.drewN_drewN,Nat.add_assoc]⟩
theorem JY (w:World) (n:Nat) (k:Nat):Calls Tryz.prog 213 #[ae aa n] (w.drewN (1+k)) fun e w'=>e=.returned (ae aa (n % M:Nat))∧∃j,w'=w.drewN (1+j) :=
 (Fo _ n).mono fun e w' ⟨h1,h2⟩=>⟨h1,k,h2⟩
theorem TA (w:World) (v1:Value) (A2 Af Ab:Option Addr) (c2 cf cb:Nat) (v:W8) (hv:v.Ok) (b:List Int) (hb:bn b) (hl:b.length=64) (h1:v1.oneCell'=true) (h2:Sl w w.heap.size 1 A2 64 (dZ ks)) (hf:Sl w w.heap.size 1 Af 8 (dZ v.du)) (gF:Sl w w.heap.size 1 Ab 64 (b.map (.int .u8))) :
  Calls Tryz.prog 202 #[.agg #[v1,.slice A2 64 c2],.slice Af 8 cf,.slice Ab 64 cb] w fun e w'=>∃r,e=.returned r∧w'.ownsRow w.heap.size 3 1 r 8 (dZ (comp v b).du)∧Below w.heap.size w w':=by
 obtain ⟨gb,ob,rfl,hgb,cB⟩:=Y7 hb gF hl (by omega);have HV:=af hv;have HB:=af hb;have HL:=af hl;have H2:=af h2;have HF:=af hf;have OJ:=af cB;have fE:=af ((Below.refl w.heap.size w).alloc (Nat.le_refl _) (.cells #[v1,.slice A2 64 c2] 264));have HBX:=af (Row.new w 264 #[v1,.slice A2 64 c2]);clear hv hb hl h2 hf cB gF;go_enter Tryz.func202,Tryz.ntmps202;go_wp2_with fail;have h3:=(((St.nil w).new 264 #[v1,.slice A2 64 c2]).add (Q:=own 3 1 (.slice none 0 0) 0 []) (F:=fun _=>False) (Below.refl _ _) ⟨World.ownsRow_nil _ _ _ _,fun i=>by simp [Value.ownBlock]⟩ (fun i hi=>hi.elim))
 have H3:=af h3;clear h3;go_loopw [7,8] (fun vv i wr=>∃k:Nat,k≤64∧i=ae aa k∧St w wr [own 3 1 vv k (dZ (fh b k)),row w.heap.size 264 [v1,.slice A2 64 c2]]) (fun _ i _=>64-(intOf i).toNat)
 case atStart=>exact ⟨0,by omega,rfl,H3.o⟩
 case round =>
  obtain ⟨k,hk,rfl,h4⟩:=hrel;obtain ⟨AW,cW,rfl,_,_⟩:=aD h4.own;have H4:=af h4;clear h4;by_cases aH:k < 64
  ·have df:(k:Int) < 64:=by omega
   by_cases uo:k < 16
   ·have aaP:(k:Int) < 16:=by omega
    have d0:=(H4.o.aE.cell (p:=⟨gb,ob+(4*k),none⟩) hgb).trans (OJ.o (4*k) (by omega));have d1:=(H4.o.aE.cell (p:=⟨gb,ob+(4*k+1),none⟩) hgb).trans (OJ.o (4*k+1) (by omega));have d2:=(H4.o.aE.cell (p:=⟨gb,ob+(4*k+2),none⟩) hgb).trans (OJ.o (4*k+2) (by omega));have d3:=(H4.o.aE.cell (p:=⟨gb,ob+(4*k+3),none⟩) hgb).trans (OJ.o (4*k+3) (by omega));have l0:=nF HB.o (4*k);have l1:=nF HB.o (4*k+1);have l2:=nF HB.o (4*k+2);have l3:=nF HB.o (4*k+3);have yT:wd b k=jo b (4*k)*16777216+jo b (4*k+1)*65536+jo b (4*k+2)*256+jo b (4*k+3):=rfl;have hw:fh b (k+1)=fh b k++[wd b k]:=by rw [fh,if_pos uo]
    generalize jo b (4*k)=y0 at *;generalize jo b (4*k+1)=y1 at *;generalize jo b (4*k+2)=y2 at *;generalize jo b (4*k+3)=y3 at *;have HW:=af hw;have TN:=af yT;have g1:IntKind.i64.wrap (4*(k:Int))=4*(k:Int):=IntWalk.i64_in _ ⟨by omega,by omega⟩;have g2:(0:Int)≤4*(k:Int):=by omega
    have g3:4*(k:Int) < 64:=by omega
    have g4:(4*(k:Int)).toNat=4*k:=by omega
    have g5:(0:Int)≤4*(k:Int)+1:=by omega
    have g6:4*(k:Int)+1 < 64:=by omega
    have g7:(4*(k:Int)+1).toNat=4*k+1:=by omega
    have g8:(0:Int)≤4*(k:Int)+2:=by omega
    have g9:4*(k:Int)+2 < 64:=by omega
    have g10:(4*(k:Int)+2).toNat=4*k+2:=by omega
    have g11:(0:Int)≤4*(k:Int)+3:=by omega
    have g12:4*(k:Int)+3 < 64:=by omega
    have g13:(4*(k:Int)+3).toNat=4*k+3:=by omega
    clear hw yT;go_upto_region 6 with fail;refine dN ?_;refine bk [0] ?_;simp only [pick,xG];iterate 1 still_step
    refine wpStill_nil ?_;refine kB [1,2,3,4,5,6,7,8,9,10,11,12,13,14,15,16,17,18,19,20,21,22,23,24,25,26,27,28,29,30,31,32,33] (by kernel_rfl) ?_;simp only [pick,xG];repeat (go_big_quiet_step (fail))
    refine wpQuiet_nil ?_;rintro _ ⟨nq,rfl⟩;refine aK 34 ?_;try simp only [xG]
    go_simp;try dsimp only
    try simp only [ai]
    have H6:=af (((H4.o.drewN (1+nq)).new 3 #[ae aa ((y0:Int)*16777216+(y1:Int)*65536+(y2:Int)*256+(y3:Int))]).pick 1 rfl);refine aK 35 ?_;try simp only [xG]
    refine kP vZ (by rfl) (.tmp 25) (.tmp 59) (by rfl) H6.o.own (by rfl) (by rfl) ((Row.new (wr.drewN (1+nq)) 3 #[ae aa ((y0:Int)*16777216+(y1:Int)*65536+(y2:Int)*256+(y3:Int))]).sl (B:=(wr.drewN (1+nq)).heap.size+1) (size:=1) (n:=1) (o:=0) (ys:=[ae aa ((y0:Int)*16777216+(y1:Int)*65536+(y2:Int)*256+(y3:Int))]) (Nat.lt_succ_self _) rfl rfl) (by simp [Value.oneCell']) (by omega) (by omega) (by unfold maxLen;omega) H6.o.aE.size ?_;intro g6 gZ w6 fC gq fG kh;have H7:=af ((H6.o.grown gq fC (fun g hg=>by cases hg;exact fG)).swap.drop);clear fC gq fG kh;try dsimp only
    try simp only [ai]
    refine aK 36 ?_;try simp only [xG]
    go_simp;try dsimp only
    try simp only [ai]
    refine cw ?_;go_wp2_with fail;go_roundw
    case rel =>
     refine ⟨k+1,by omega,by go_num,?_⟩;rw [HW.o,jl,TN.o];exact H7.o
    case measure=>simp [intOf];omega
   ·obtain ⟨q,hq⟩:∃q,k=q+16:=⟨k-16,by omega⟩
    subst hq;obtain ⟨bW,oW,rfl,hbW,SU⟩:=(Sl.bP H4.o.own).2 (by omega);have jy:=Bl HB.o (q+16)
    have gx:∀i,i < q+16→(fh b (q+16)).getD i 0 < 2 ^ 32:=fun i hi=>by
     rw [dD,cN (by rw [ib];exact hi)];exact jy _ (List.getElem_mem _)
    have c2:=SU (q+14) _ (jG (fh b (q+16)) (q+14) (by rw [ib];omega));have c15:=SU (q+1) _ (jG (fh b (q+16)) (q+1) (by rw [ib];omega));have c7:=SU (q+9) _ (jG (fh b (q+16)) (q+9) (by rw [ib];omega));have c16:=SU q _ (jG (fh b (q+16)) q (by rw [ib];omega));have l2:=gx (q+14) (by omega);have Iq:=gx (q+1) (by omega);have l7:=gx (q+9) (by omega);have l16:=gx q (by omega)
    have hw:fh b (q+16+1)=fh b (q+16)++[(((fh b (q+16)).getD q 0+sp ((fh b (q+16)).getD (q+1) 0) 7 18 3+(fh b (q+16)).getD (q+9) 0+sp ((fh b (q+16)).getD (q+14) 0) 17 19 10) % M)]:=by
     rw [fh,if_neg uo];unfold wx;rw [ib];rfl
    generalize (fh b (q+16)).getD (q+14) 0=x2 at *;generalize (fh b (q+16)).getD (q+1) 0=mZ at *;generalize (fh b (q+16)).getD (q+9) 0=x7 at *;generalize (fh b (q+16)).getD q 0=J9 at *;have t1:RowKit.Hid (∀(w:World) (k:Nat),Calls Tryz.prog 214 #[ae aa mZ,ae aa 7] (w.drewN (1+k)) fun e w'=>e=.returned (ae aa (tn mZ 7:Nat))∧∃j,w'=w.drewN (1+j)):=af fun w k=>Fh w mZ 7 Iq (by omega) (by omega) k;have t2:RowKit.Hid (∀(w:World) (k:Nat),Calls Tryz.prog 214 #[ae aa mZ,ae aa 18] (w.drewN (1+k)) fun e w'=>e=.returned (ae aa (tn mZ 18:Nat))∧∃j,w'=w.drewN (1+j)):=af fun w k=>Fh w mZ 18 Iq (by omega) (by omega) k;have t3:RowKit.Hid (∀(w:World) (k:Nat),Calls Tryz.prog 214 #[ae aa x2,ae aa 17] (w.drewN (1+k)) fun e w'=>e=.returned (ae aa (tn x2 17:Nat))∧∃j,w'=w.drewN (1+j)):=af fun w k=>Fh w x2 17 l2 (by omega) (by omega) k;have t4:RowKit.Hid (∀(w:World) (k:Nat),Calls Tryz.prog 214 #[ae aa x2,ae aa 19] (w.drewN (1+k)) fun e w'=>e=.returned (ae aa (tn x2 19:Nat))∧∃j,w'=w.drewN (1+j)):=af fun w k=>Fh w x2 19 l2 (by omega) (by omega) k;have b1:=eT mZ 7 Iq (by omega);have b2:=eT mZ 18 Iq (by omega);have b3:=eT x2 17 l2 (by omega);have b4:=eT x2 19 l2 (by omega);have e1:=Cz (tn mZ 7) (tn mZ 18) b1 b2;have e2:Go.bits .xor .i64 ((tn mZ 7 ^^^ tn mZ 18:Nat):Int) ((mZ:Int) / 8)=((sp mZ 7 18 3:Nat):Int):=Cz (tn mZ 7 ^^^ tn mZ 18) (mZ / 8) (gM b1 b2) (by omega);have e3:=Cz (tn x2 17) (tn x2 19) b3 b4;have e4:Go.bits .xor .i64 ((tn x2 17 ^^^ tn x2 19:Nat):Int) ((x2:Int) / 1024)=((sp x2 17 19 10:Nat):Int):=Cz (tn x2 17 ^^^ tn x2 19) (x2 / 1024) (gM b3 b4) (by omega);have s1:sp mZ 7 18 3 < 2 ^ 32:=gM (gM b1 b2) (Nat.lt_of_le_of_lt (Nat.div_le_self _ _) Iq);have s2:sp x2 17 19 10 < 2 ^ 32:=gM (gM b3 b4) (Nat.lt_of_le_of_lt (Nat.div_le_self _ _) l2);generalize tn mZ 7=y1 at *;generalize tn mZ 18=y2 at *;generalize tn x2 17=y3 at *;generalize tn x2 19=y4 at *;generalize sp mZ 7 18 3=s15 at *;generalize sp x2 17 19 10=s02 at *;have tm:RowKit.Hid (∀(w:World) (k:Nat),Calls Tryz.prog 213 #[ae aa ((J9:Int)+(s15:Int)+(x7:Int)+(s02:Int))] (w.drewN (1+k)) fun e w'=>e=.returned (ae aa (((J9+s15+x7+s02) % M:Nat):Int))∧∃j,w'=w.drewN (1+j)):=af fun w k=>JY w (J9+s15+x7+s02) k;generalize ((J9+s15+x7+s02) % M:Nat)=nw at *;have HW:=af hw;have m0:IntKind.i64.wrap ((q:Int)+16-15)=(q:Int)+1:=by rw [IntWalk.i64_in _ ⟨by omega,by omega⟩];omega
    have m1:IntKind.i64.wrap ((q:Int)+16-2)=(q:Int)+14:=by rw [IntWalk.i64_in _ ⟨by omega,by omega⟩];omega
    have m2:IntKind.i64.wrap ((q:Int)+16-7)=(q:Int)+9:=by rw [IntWalk.i64_in _ ⟨by omega,by omega⟩];omega
    have m3:IntKind.i64.wrap ((q:Int)+16-16)=(q:Int):=by rw [IntWalk.i64_in _ ⟨by omega,by omega⟩];omega
    have m4:IntKind.i64.wrap (q:Int)=(q:Int):=IntWalk.i64_in _ ⟨by omega,by omega⟩;have n0:((q:Int)+1).toNat=q+1:=by omega
    have n1:((q:Int)+14).toNat=q+14:=by omega
    have n2:((q:Int)+9).toNat=q+9:=by omega
    have p0:(0:Int)≤(q:Int):=by omega
    have p1:(0:Int)≤(q:Int)+1:=by omega
    have p2:(0:Int)≤(q:Int)+14:=by omega
    have p3:(0:Int)≤(q:Int)+9:=by omega
    have p4:(16:Int)≤(q:Int)+16:=by omega
    have p5:(q:Int)+16 < 64:=by omega
    have p6:(q:Int) < (q:Int)+16:=by omega
    have p7:(q:Int)+1 < (q:Int)+16:=by omega
    have p8:(q:Int)+14 < (q:Int)+16:=by omega
    have p9:(q:Int)+9 < (q:Int)+16:=by omega
    clear hw jy gx SU b1 b2 b3 b4;go_upto_region 9 with fail;refine dN ?_;refine bk [0] ?_;simp only [pick,xG];iterate 1 still_step
    refine wpStill_nil ?_;refine kB [1,2,3,4,5,6,7,8,9,10,11,12,13,14,15,16,17,18,19,20,21,22,23,24,25,26,27,28,29,30] (by kernel_rfl) ?_;simp only [pick,xG];repeat (go_big_quiet_step (first|(with_reducible exact t1.out _ _)|(with_reducible exact t2.out _ _)|(with_reducible exact t3.out _ _)|(with_reducible exact t4.out _ _)|(with_reducible exact tm.out _ _)))
    refine wpQuiet_nil ?_;rintro _ ⟨nq,rfl⟩;refine aK 31 ?_;try simp only [xG]
    go_simp;try dsimp only
    try simp only [ai]
    have H6:=af (((H4.o.drewN (1+nq)).new 3 #[ae aa (nw:Int)]).pick 1 rfl);refine aK 32 ?_;try simp only [xG]
    refine kP vZ (by rfl) (.tmp 71) (.tmp 102) (by rfl) H6.o.own (by rfl) (by rfl) ((Row.new (wr.drewN (1+nq)) 3 #[ae aa (nw:Int)]).sl (B:=(wr.drewN (1+nq)).heap.size+1) (size:=1) (n:=1) (o:=0) (ys:=[ae aa (nw:Int)]) (Nat.lt_succ_self _) rfl rfl) (by simp [Value.oneCell']) (by omega) (by omega) (by unfold maxLen;omega) H6.o.aE.size ?_;intro g6 gZ w6 fC gq fG kh;have H7:=af ((H6.o.grown gq fC (fun g hg=>by cases hg;exact fG)).swap.drop);clear fC gq fG kh;try dsimp only
    try simp only [ai]
    refine aK 33 ?_;try simp only [xG]
    go_simp;try dsimp only
    try simp only [ai]
    refine cw ?_;go_wp2_with fail;go_roundw
    case rel =>
     refine ⟨q+16+1,by omega,by go_num,?_⟩;rw [HW.o,jl];exact H7.o
    case measure=>simp [intOf];omega
  ·have df:¬(k:Int) < 64:=by omega
   have VQ:k=64:=by omega
   have h4:=H4.o;rw [VQ] at h4;have hWl:=Bl HB.o 64;have hWn:=ib b 64;have Ac:comp v b=plus v (uK v (fh b 64) 64):=rfl;generalize fh b 64=W at h4 hWl hWn Ac;obtain ⟨gW,cW2,eW,_,_⟩:=h4.own.form (by omega);cases eW;obtain ⟨b2,o2,rfl,bT,BW⟩:=H2.o.2 (by omega);have HC2:=af BW;obtain ⟨bF,oF,rfl,hbF,hcF⟩:=HF.o.2 (by omega);have HCF:=af hcF;have adv:=af VQ;have H5:=af h4;have HWL:=af hWl;have HWN:=af hWn;have QO:=af Ac;clear VQ h4 hWl hWn Ac BW hcF;have hsf:∀w':World,Below w.heap.size w w'→Sl w' w'.heap.size 1 (some ⟨bF,oF,none⟩) 8 (dZ v.du):=fun w' hb=>rf HF.o hb;have HSF:=af hsf;clear hsf;rw [adv.o] at *;go_wp2_with (at_builtin;refine nG vZ rfl (.tmp 104) (.tmp 105) rfl (World.ownsRow_nil _ w.heap.size 3 1) rfl rfl (fun h=>by cases h) (HSF.o _ H5.o.aE) (by simp [Value.oneCell',W8.du]) (by omega) (by unfold maxLen;omega) H5.o.aE.size ?_;intro v' w6 fC gq FM)
   have h6:=H5.o.add (Q:=own 3 1 v' 8 (dZ v.du)) (F:=fun i=>v'.ownBlock=some i) (AX gq) ⟨fC.mono (Nat.zero_le _),fun i=>Iff.rfl⟩ (fun i hi=>by
    rcases FM i hi with h|h
    ·cases h
    ·exact h)
   have H6:=af h6;clear h6 fC gq FM;go_loopw [11,12] (fun vv i wx=>∃k:Nat,k≤64∧i=ae aa k∧St w wx [own 3 1 vv 8 (dZ (uK v W k).du),own 3 1 (.slice (some ⟨gW,0,none⟩) 64 cW) 64 (dZ W),row w.heap.size 264 [v1,.slice (some ⟨b2,o2,none⟩) 64 c2]]) (fun _ i _=>64-(intOf i).toNat)
   case atStart=>exact ⟨0,by omega,rfl,H6.o⟩
   case round =>
    obtain ⟨k2,dy,rfl,h7⟩:=hrel;obtain ⟨gV,cV,rfl,_,hgV⟩:=h7.own.form (by omega);have H7:=af h7;clear h7;by_cases qF:k2 < 64
    ·have abQ:(k2:Int) < 64:=by omega
     have FB:=Fe HV.o W k2;have gp:uK v W (k2+1)=CJ (uK v W k2) (ks.getD k2 0) (W.getD k2 0):=rfl;have h7:=H7.o;have wc:=(h7.pick 1 rfl).own;obtain ⟨gX,oX,eX,_,hcX⟩:=(Sl.bP (h7.pick 1 rfl).own).2 (by omega);cases eX;have cW0:=hcX k2 _ (jG W k2 (by rw [HWN.o];exact qF));rw [Nat.zero_add] at cW0;have cK0:=(h7.aE.cell (p:=⟨b2,o2+k2,none⟩) bT).trans (HC2.o k2 _ (jG ks k2 (by show k2 < 64;exact qF)))
     have fF:W.getD k2 0 < 2 ^ 32:=by
      rw [dD,cN (by rw [HWN.o];exact qF)];exact HWL.o _ (List.getElem_mem _)
     have iG:=Z5 k2;have cB1:=(h7.pick 2 rfl).row.1.cell 1;simp only [List.getElem?_cons_succ,List.getElem?_cons_zero] at cB1;generalize hu:uK v W k2=u at *;obtain ⟨a,b',c,d,e,f,DJ,h⟩:=u;obtain ⟨ha,nB,hc,hd,he,hf,FP,hh⟩:=FB;have ha:a < 2 ^ 32:=ha;have nB:b' < 2 ^ 32:=nB;have hc:c < 2 ^ 32:=hc;have hd:d < 2 ^ 32:=hd;have he:e < 2 ^ 32:=he;have hf:f < 2 ^ 32:=hf;have FP:DJ < 2 ^ 32:=FP;have hh:h < 2 ^ 32:=hh;obtain ⟨gY,oY,eY,_,qK⟩:=(Sl.bP h7.own).2 (by omega);cases eY;have y0:wr.cell? ⟨gV,0,none⟩=some (ae aa (a:Int)):=qK 0 _ rfl;have y1:wr.cell? ⟨gV,1,none⟩=some (ae aa (b':Int)):=qK 1 _ rfl;have y2:wr.cell? ⟨gV,2,none⟩=some (ae aa (c:Int)):=qK 2 _ rfl;have y3:wr.cell? ⟨gV,3,none⟩=some (ae aa (d:Int)):=qK 3 _ rfl;have y4:wr.cell? ⟨gV,4,none⟩=some (ae aa (e:Int)):=qK 4 _ rfl;have y5:wr.cell? ⟨gV,5,none⟩=some (ae aa (f:Int)):=qK 5 _ rfl;have y6:wr.cell? ⟨gV,6,none⟩=some (ae aa (DJ:Int)):=qK 6 _ rfl;have y7:wr.cell? ⟨gV,7,none⟩=some (ae aa (h:Int)):=qK 7 _ rfl;generalize W.getD k2 0=wi at *;generalize ks.getD k2 0=ki at *;have AG:4294967295-e < 2 ^ 32:=by omega
     have e0:(4294967295:Int)-(e:Int)=((4294967295-e:Nat):Int):=by omega
     have e1:=Gb e f he hf;have e2:Go.bits .and .i64 ((4294967295:Int)-(e:Int)) (DJ:Int)=(((4294967295-e) &&& DJ:Nat):Int):=by rw [e0];exact Gb _ _ AG FP
     have e3:=Vj (e &&& f) ((4294967295-e) &&& DJ) (Nat.and_lt_two_pow _ hf) (Nat.and_lt_two_pow _ FP);have l3:((e &&& f) ||| ((4294967295-e) &&& DJ)) < 2 ^ 32:=Nat.or_lt_two_pow (Nat.and_lt_two_pow _ hf) (Nat.and_lt_two_pow _ FP);have e4:=Gb a b' ha nB;have e5:=Gb a c ha hc;have e6:=Gb b' c nB hc;have e7:=Vj (a &&& b') (a &&& c) (Nat.and_lt_two_pow _ nB) (Nat.and_lt_two_pow _ hc);have e8:=Vj ((a &&& b') ||| (a &&& c)) (b' &&& c) (Nat.or_lt_two_pow (Nat.and_lt_two_pow _ nB) (Nat.and_lt_two_pow _ hc)) (Nat.and_lt_two_pow _ hc);have l8:(((a &&& b') ||| (a &&& c)) ||| (b' &&& c)) < 2 ^ 32:=Nat.or_lt_two_pow (Nat.or_lt_two_pow (Nat.and_lt_two_pow _ nB) (Nat.and_lt_two_pow _ hc)) (Nat.and_lt_two_pow _ hc);have lm1:mix e 6 11 25 < 2 ^ 32:=gM (gM (eT e 6 he (by omega)) (eT e 11 he (by omega))) (eT e 25 he (by omega));have lm2:mix a 2 13 22 < 2 ^ 32:=gM (gM (eT a 2 ha (by omega)) (eT a 13 ha (by omega))) (eT a 22 ha (by omega));have t1:RowKit.Hid (∀(w:World) (k:Nat),Calls Tryz.prog 215 #[ae aa e,ae aa 6,ae aa 11,ae aa 25] (w.drewN k) fun e' w'=>e'=.returned (ae aa (mix e 6 11 25:Nat))∧∃j,w'=w.drewN j):=af fun w k=>(R5 (w.drewN k) e 6 11 25 he (by omega) (by omega) (by omega) (by omega) (by omega) (by omega)).mono fun e' w' ⟨h1,j,h2⟩=>⟨h1,k+j,by rw [h2,World.drewN_drewN]⟩
     have t2:RowKit.Hid (∀(w:World) (k:Nat),Calls Tryz.prog 215 #[ae aa a,ae aa 2,ae aa 13,ae aa 22] (w.drewN k) fun e' w'=>e'=.returned (ae aa (mix a 2 13 22:Nat))∧∃j,w'=w.drewN j):=af fun w k=>(R5 (w.drewN k) a 2 13 22 ha (by omega) (by omega) (by omega) (by omega) (by omega) (by omega)).mono fun e' w' ⟨h1,j,h2⟩=>⟨h1,k+j,by rw [h2,World.drewN_drewN]⟩
     unfold CJ at gp;simp only at gp;generalize ((e &&& f) ||| ((4294967295-e) &&& DJ))=o1 at *;generalize (((a &&& b') ||| (a &&& c)) ||| (b' &&& c))=RW at *;generalize mix e 6 11 25=m1 at *;generalize mix a 2 13 22=m2 at *;have t3:RowKit.Hid (∀(w:World) (k:Nat),Calls Tryz.prog 213 #[ae aa ((h:Int)+(m1:Int)+(o1:Int)+(ki:Int)+(wi:Int))] (w.drewN k) fun e' w'=>e'=.returned (ae aa (((h+m1+o1+ki+wi) % M:Nat):Int))∧∃j,w'=w.drewN j):=af fun w k=>(Fo (w.drewN k) (h+m1+o1+ki+wi)).mono fun e' w' ⟨h1,h2⟩=>⟨h1,k,h2⟩
     have t4:RowKit.Hid (∀(w:World) (k:Nat),Calls Tryz.prog 213 #[ae aa ((m2:Int)+(RW:Int))] (w.drewN k) fun e' w'=>e'=.returned (ae aa (((m2+RW) % M:Nat):Int))∧∃j,w'=w.drewN j):=af fun w k=>(Fo (w.drewN k) (m2+RW)).mono fun e' w' ⟨h1,h2⟩=>⟨h1,k,h2⟩
     have lx:(h+m1+o1+ki+wi) % M < 2 ^ 32:=Nat.mod_lt _ (by decide);have ly:(m2+RW) % M < 2 ^ 32:=Nat.mod_lt _ (by decide);have i0:(0:Int)≤(k2:Int):=by omega
     have lK:=af gp;have H8:=af h7;clear gp h7 hcX qK wc hu e0;go_upto_region 16 with fail;refine wp_region_quiet_lit (by kernel_rfl) (by kernel_rfl) ?_;repeat (go_big_quiet_step (first|(with_reducible exact t1.out _ _)|(with_reducible exact t3.out _ _)))
     refine wpQuiet_nil ?_;intro wq sR;have HQ:=af (Ol sR H8.o);clear sR y0 y1 y2 y3 y4 y5 y6 y7 cW0 cK0 cB1;obtain ⟨y0,y1,y2,y3,y4,y5,y6,y7,_⟩:=Il HQ.o;go_upto_region 17 with fail;refine wp_region_quiet_lit (by kernel_rfl) (by kernel_rfl) ?_;repeat (go_big_quiet_step (first|(with_reducible exact t2.out _ _)|(with_reducible exact t4.out _ _)))
     refine wpQuiet_nil ?_;intro wp Sk;have HP:=af (Ol Sk HQ.o);clear Sk y0 y1 y2 y3 y4 y5 y6 y7 e1 e2 e3 e4 e5 e6 e7 e8;obtain ⟨y0,y1,y2,y3,y4,y5,y6,y7,_⟩:=Il HP.o;generalize (h+m1+o1+ki+wi) % M=X at *;generalize (m2+RW) % M=Y at *;have t5:RowKit.Hid (∀(w:World) (k:Nat),Calls Tryz.prog 213 #[ae aa ((X:Int)+(Y:Int))] (w.drewN (1+k)) fun e' w'=>e'=.returned (ae aa (((X+Y) % M:Nat):Int))∧∃j,w'=w.drewN (1+j)):=af fun w k=>JY w (X+Y) k;have t6:RowKit.Hid (∀(w:World) (k:Nat),Calls Tryz.prog 213 #[ae aa ((d:Int)+(X:Int))] (w.drewN (1+k)) fun e' w'=>e'=.returned (ae aa (((d+X) % M:Nat):Int))∧∃j,w'=w.drewN (1+j)):=af fun w k=>JY w (d+X) k;generalize ((X+Y) % M:Nat)=XY at *;generalize ((d+X) % M:Nat)=DX at *;have Lk:=HP.o.add (Q:=own 3 1 (.slice none 0 0) 0 []) (F:=fun _=>False) (Below.refl _ _) ⟨World.ownsRow_nil _ _ _ _,fun i=>by simp [Value.ownBlock]⟩ (fun i hi=>hi.elim);have H9:=af Lk;clear Lk;go_upto_region 19 with fail;refine dN ?_;refine bk [0] ?_;simp only [pick,xG];iterate 1 still_step
     refine wpStill_nil ?_;refine kB [1,2,3,4,5,6,7,8,9,10,11,12,13,14,15,16,17,18,19,20,21,22,23,24,25,26,27,28] (by kernel_rfl) ?_;simp only [pick,xG];repeat (go_big_quiet_step (first|(with_reducible exact t5.out _ _)|(with_reducible exact t6.out _ _)))
     refine wpQuiet_nil ?_;rintro _ ⟨nq,rfl⟩;refine aK 29 ?_;try simp only [xG]
     go_simp;try dsimp only
     try simp only [ai]
     have H6:=af (((H9.o.drewN (1+nq)).new 3 #[ae aa (XY:Int),ae aa (a:Int),ae aa (b':Int),ae aa (c:Int),ae aa (DX:Int),ae aa (e:Int),ae aa (f:Int),ae aa (DJ:Int)]).pick 1 rfl);refine aK 30 ?_;try simp only [xG]
     refine kP vZ (by rfl) (.tmp 178) (.tmp 207) (by rfl) H6.o.own (by rfl) (by rfl) ((Row.new (wp.drewN (1+nq)) 3 #[ae aa (XY:Int),ae aa (a:Int),ae aa (b':Int),ae aa (c:Int),ae aa (DX:Int),ae aa (e:Int),ae aa (f:Int),ae aa (DJ:Int)]).sl (B:=(wp.drewN (1+nq)).heap.size+1) (size:=1) (n:=8) (o:=0) (ys:=[ae aa (XY:Int),ae aa (a:Int),ae aa (b':Int),ae aa (c:Int),ae aa (DX:Int),ae aa (e:Int),ae aa (f:Int),ae aa (DJ:Int)]) (Nat.lt_succ_self _) rfl rfl) (by simp [Value.oneCell']) (by omega) (by omega) (by unfold maxLen;omega) H6.o.aE.size ?_;intro g6 gZ w6 fC gq fG kh;have H7:=af ((H6.o.grown gq fC (fun g hg=>by cases hg;exact fG)).swap.drop);clear fC gq fG kh;try dsimp only
     try simp only [ai]
     refine aK 31 ?_;try simp only [xG]
     go_simp;try dsimp only
     try simp only [ai]
     refine cw ?_;go_wp2_with fail;go_roundw
     case rel =>
      refine ⟨k2+1,by omega,by go_num,?_⟩;rw [lK.o];exact H7.o.swap.drop
     case measure=>simp [intOf];omega
    ·have abQ:¬(k2:Int) < 64:=by omega
     have Xf:k2=64:=by omega
     have h7:=H7.o;rw [Xf] at h7;have FB:=Fe HV.o W 64;have Ac:=QO.o;generalize hu:uK v W 64=u at h7 FB Ac;have h8:=h7.add (Q:=own 3 1 (.slice none 0 0) 0 []) (F:=fun _=>False) (Below.refl _ _) ⟨World.ownsRow_nil _ _ _ _,fun i=>by simp [Value.ownBlock]⟩ (fun i hi=>hi.elim);have H8:=af h8;have HUO:=af FB;have HC:=af Ac;clear h7 h8 Xf FB Ac hu;go_wp2_with fail;go_loopw [17,18] (fun vv i wx=>∃k:Nat,k≤8∧i=ae aa k∧St w wx [own 3 1 vv k (dZ ((plus v u).du.take k)),own 3 1 (.slice (some ⟨gV,0,none⟩) 8 cV) 8 (dZ u.du),own 3 1 (.slice (some ⟨gW,0,none⟩) 64 cW) 64 (dZ W),row w.heap.size 264 [v1,.slice (some ⟨b2,o2,none⟩) 64 c2]]) (fun _ i _=>8-(intOf i).toNat)
     case atStart=>exact ⟨0,by omega,rfl,H8.o⟩
     case round =>
      obtain ⟨k3,hk3,rfl,h9⟩:=hrel;obtain ⟨AR,cR,rfl,_,_⟩:=aD h9.own;have H9:=af h9;by_cases EC:k3 < 8
      ·have PQ:(k3:Int) < 8:=by omega
       obtain ⟨gY,oY,eY,hgY,qK⟩:=(Sl.bP (h9.pick 1 rfl).own).2 (by omega);cases eY;have cU:=qK k3 _ (jG u.du k3 EC);rw [Nat.zero_add] at cU;have cF:=(h9.aE.cell (p:=⟨bF,oF+k3,none⟩) hbF).trans (HCF.o k3 _ (jG v.du k3 EC));have lU:=KU HUO.o k3;have lF:=KU HV.o k3;have hpg:=Vd v u k3 EC
       have qJ:(plus v u).du.take (k3+1)=(plus v u).du.take k3++[(plus v u).du.getD k3 0]:=by
        rw [kr (show k3 < (plus v u).du.length from EC),dD,cN (show k3 < (plus v u).du.length from EC)];rfl
       rw [hpg] at qJ;generalize u.du.getD k3 0=xu at *;generalize v.du.getD k3 0=xf at *;have t7:RowKit.Hid (∀(w:World) (k:Nat),Calls Tryz.prog 213 #[ae aa ((xf:Int)+(xu:Int))] (w.drewN (1+k)) fun e' w'=>e'=.returned (ae aa (((xf+xu) % M:Nat):Int))∧∃j,w'=w.drewN (1+j)):=af fun w k=>JY w (xf+xu) k;generalize (xf+xu) % M=z at *;have yc:=af qJ;have i0:(0:Int)≤(k3:Int):=by omega
       clear h9 qK hpg qJ;go_upto_region 25 with fail;refine dN ?_;refine bk [0] ?_;simp only [pick,xG];iterate 1 still_step
       refine wpStill_nil ?_;refine kB [1,2,3,4,5,6,7,8,9,10] (by kernel_rfl) ?_;simp only [pick,xG];repeat (go_big_quiet_step (with_reducible exact t7.out _ _))
       refine wpQuiet_nil ?_;rintro _ ⟨nq,rfl⟩;refine aK 11 ?_;try simp only [xG]
       go_simp;try dsimp only
       try simp only [ai]
       have H6:=af (((H9.o.drewN (1+nq)).new 3 #[ae aa (z:Int)]).pick 1 rfl);refine aK 12 ?_;try simp only [xG]
       refine kP vZ (by rfl) (.tmp 214) (.tmp 225) (by rfl) H6.o.own (by rfl) (by rfl) ((Row.new (wr.drewN (1+nq)) 3 #[ae aa (z:Int)]).sl (B:=(wr.drewN (1+nq)).heap.size+1) (size:=1) (n:=1) (o:=0) (ys:=[ae aa (z:Int)]) (Nat.lt_succ_self _) rfl rfl) (by simp [Value.oneCell']) (by omega) (by omega) (by unfold maxLen;omega) H6.o.aE.size ?_;intro g6 gZ w6 fC gq fG kh;have H7:=af ((H6.o.grown gq fC (fun g hg=>by cases hg;exact fG)).swap.drop);clear fC gq fG kh;try dsimp only
       try simp only [ai]
       refine aK 13 ?_;try simp only [xG]
       go_simp;try dsimp only
       try simp only [ai]
       refine cw ?_;go_wp2_with fail;go_roundw
       case rel =>
        refine ⟨k3+1,by omega,by go_num,?_⟩;rw [yc.o,jl];exact H7.o
       case measure=>simp [intOf];omega
      ·have PQ:¬(k3:Int) < 8:=by omega
       have acG:k3=8:=by omega
       have ft:=h9.own;rw [acG] at ft;have HO:=af ft;clear h9 ft;go_wp2_with fail;go_ret;refine ⟨_,rfl,?_,H9.o.aE⟩;rw [HC.o];have h:=HO.o;rw [List.take_of_length_le (show (plus v u).du.length≤8 from Nat.le_refl _)] at h;exact h
end
end fZ
end Go.Proofs.YtdldkkoplgkloaaGreat
