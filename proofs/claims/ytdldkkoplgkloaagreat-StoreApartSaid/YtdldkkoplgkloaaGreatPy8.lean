/-
  PROVED HERE: lemmas that the law leans on.
  CONDITIONS: each names its own.
-/
import Derived.Test.YtdldkkoplgkloaaGreatPy0
import Derived.Test.YtdldkkoplgkloaaGreatPy7
namespace Go.Proofs.YtdldkkoplgkloaaGreat
set_option linter.unusedVariables false
set_option linter.unusedSimpArgs false
set_option maxRecDepth 100000
set_option maxHeartbeats 32000000
namespace fH


open Go.RowKit Go.Deep base obj mem sep bw bf chain
theorem Mu {w0 w w':World} {l:List aD} (hw:∃n,w'=w.drewN n) (h:St w0 w l):St w0 w' l:=by
 obtain ⟨n,rfl⟩:=hw;exact h.drewN n
theorem Gj {w0 w:World} {l:List aD} {gV cV a b c d e f g h:Nat} (H:St w0 w (own 3 1 (.slice (some ⟨gV,0,none⟩) 8 cV) 8 ([.int .i64 (a:Int),.int .i64 (b:Int),.int .i64 (c:Int),.int .i64 (d:Int),.int .i64 (e:Int),.int .i64 (f:Int),.int .i64 (g:Int),.int .i64 (h:Int)])::l)) :
  w.cell? ⟨gV,0,none⟩=some (.int .i64 (a:Int))∧w.cell? ⟨gV,1,none⟩=some (.int .i64 (b:Int))∧w.cell? ⟨gV,2,none⟩=some (.int .i64 (c:Int))∧w.cell? ⟨gV,3,none⟩=some (.int .i64 (d:Int))∧w.cell? ⟨gV,4,none⟩=some (.int .i64 (e:Int))∧w.cell? ⟨gV,5,none⟩=some (.int .i64 (f:Int))∧w.cell? ⟨gV,6,none⟩=some (.int .i64 (g:Int))∧w.cell? ⟨gV,7,none⟩=some (.int .i64 (h:Int))∧gV < w.heap.size:=by
 obtain ⟨gY,oY,eY,hY,pT⟩:=(Sl.bz H.own).2 (by omega);cases eY;exact ⟨pT 0 _ rfl,pT 1 _ rfl,pT 2 _ rfl,pT 3 _ rfl,pT 4 _ rfl,pT 5 _ rfl,pT 6 _ rfl,pT 7 _ rfl,hY⟩
theorem zA {w w':World} (h:w.grownBy w' none):Below w.heap.size w w':=⟨h.os,h.tape,h.output,h.size,fun i hi=>h.block i hi (by simp)⟩
theorem Yj (i:Nat):ks.getD i 0 < 2 ^ 32:=by
 by_cases h:i < 64
 ·have:∀i,i < 64→ks.getD i 0 < 2 ^ 32:=by decide +kernel
  exact this i h
 ·rw [dz,List.getElem?_eq_none (by show ks.length≤i;rw [show ks.length=64 from rfl];omega)]
  decide
def W8.dr (v:W8):List Nat:=[v.a,v.b,v.c,v.d,v.e,v.f,v.g,v.h]
theorem S9 (v u:W8) (k:Nat) (h:k < 8):(plus v u).dr.getD k 0=(v.dr.getD k 0+u.dr.getD k 0) % M:=by
 rcases (by omega:k=0∨k=1∨k=2∨k=3∨k=4∨k=5∨k=6∨k=7) with rfl|rfl|rfl|rfl|rfl|rfl|rfl|rfl<;>rfl
theorem JA {v:W8} (hv:v.Ok) (k:Nat):v.dr.getD k 0 < 2 ^ 32:=by
 obtain ⟨ha,hb,hc,hd,he,hf,hg,hh⟩:=hv;by_cases h:k < 8
 ·rcases (by omega:k=0∨k=1∨k=2∨k=3∨k=4∨k=5∨k=6∨k=7) with rfl|rfl|rfl|rfl|rfl|rfl|rfl|rfl<;>assumption
 ·rw [dz,List.getElem?_eq_none (by show 8≤k;omega)];exact Nat.two_pow_pos 32
theorem Xr {w:World} {A:Option Addr} {n:Nat} {b:List Int} (hb:bo b) (h:Sl w w.heap.size 1 A n (b.map (.int .u8))) (hl:b.length=n) (h0:0 < n):∃g o,A=some ⟨g,o,none⟩∧g < w.heap.size∧∀i,i < n→w.cell? ⟨g,o+i,none⟩=some (.int .u8 ((iS b i:Nat):Int)):=by
 obtain ⟨g,o,rfl,hg,hc⟩:=h.2 (by omega);refine ⟨g,o,rfl,hg,fun i hi=>hc i _ ?_⟩;have h1:=hb b[i] (List.getElem_mem (by omega));unfold iS;rw [List.getElem?_map,dz,cM (by omega)];simp only [Option.map_some,Option.getD_some];rw [Int.toNat_of_nonneg h1.1]
theorem DW (w:World) (x n:Nat) (hx:x < 2 ^ 32) (h0:0 < n) (hn:n < 32) (k:Nat):Calls Tryz.prog 214 #[.int .i64 x,.int .i64 n] (w.drewN (1+k)) fun e w'=>e=.returned (.int .i64 (tn x n:Nat))∧∃j,w'=w.drewN (1+j) :=
 (Bw _ x n hx h0 hn).mono fun e w' ⟨h1,j,h2⟩=>⟨h1,k+j,by rw [h2,World.drewN_drewN,Nat.add_assoc]⟩
theorem It (w:World) (n:Nat) (k:Nat):Calls Tryz.prog 213 #[.int .i64 n] (w.drewN (1+k)) fun e w'=>e=.returned (.int .i64 (n % M:Nat))∧∃j,w'=w.drewN (1+j) :=
 (D6 _ n).mono fun e w' ⟨h1,h2⟩=>⟨h1,k,h2⟩
theorem Ru (w:World) (v1:Value) (A2 Af Ab:Option Addr) (c2 cf cb:Nat) (v:W8) (hv:v.Ok) (b:List Int) (hb:bo b) (hl:b.length=64) (h1:v1.oneCell'=true) (h2:Sl w w.heap.size 1 A2 64 (dP ks)) (hf:Sl w w.heap.size 1 Af 8 (dP v.dr)) (fZ:Sl w w.heap.size 1 Ab 64 (b.map (.int .u8))) :
  Calls Tryz.prog 202 #[.agg #[v1,.slice A2 64 c2],.slice Af 8 cf,.slice Ab 64 cb] w fun e w'=>∃r,e=.returned r∧w'.ownsRow w.heap.size 3 1 r 8 (dP (comp v b).dr)∧Below w.heap.size w w':=by
 obtain ⟨gb,ob,rfl,hgb,cB⟩:=Xr hb fZ hl (by omega);have HV:=aa hv;have HB:=aa hb;have HL:=aa hl;have H2:=aa h2;have HF:=aa hf;have MX:=aa cB;have eZ:=aa ((Below.refl w.heap.size w).alloc (Nat.le_refl _) (.cells #[v1,.slice A2 64 c2] 264));have HBX:=aa (Row.new w 264 #[v1,.slice A2 64 c2]);clear hv hb hl h2 hf cB fZ;go_enter Tryz.func202,Tryz.ntmps202;go_wp2_with fail;have h3:=(((St.nil w).new 264 #[v1,.slice A2 64 c2]).add (Q:=own 3 1 (.slice none 0 0) 0 []) (F:=fun _=>False) (Below.refl _ _) ⟨World.ownsRow_nil _ _ _ _,fun i=>by simp [Value.ownBlock]⟩ (fun i hi=>hi.elim))
 have H3:=aa h3;clear h3;go_loopw [7,8] (fun vv i wr=>∃k:Nat,k≤64∧i=.int .i64 k∧St w wr [own 3 1 vv k (dP (eP b k)),row w.heap.size 264 [v1,.slice A2 64 c2]]) (fun _ i _=>64-(intOf i).toNat)
 case atStart=>exact ⟨0,by omega,rfl,H3.o⟩
 case round =>
  obtain ⟨k,hk,rfl,h4⟩:=hrel;obtain ⟨AW,cW,rfl,_,_⟩:=aH h4.own;have H4:=aa h4;clear h4;by_cases aK:k < 64
  ·have cZ:(k:Int) < 64:=by omega
   by_cases tt:k < 16
   ·have Y6:(k:Int) < 16:=by omega
    have d0:=(H4.o.aI.cell (p:=⟨gb,ob+(4*k),none⟩) hgb).trans (MX.o (4*k) (by omega));have d1:=(H4.o.aI.cell (p:=⟨gb,ob+(4*k+1),none⟩) hgb).trans (MX.o (4*k+1) (by omega));have d2:=(H4.o.aI.cell (p:=⟨gb,ob+(4*k+2),none⟩) hgb).trans (MX.o (4*k+2) (by omega));have d3:=(H4.o.aI.cell (p:=⟨gb,ob+(4*k+3),none⟩) hgb).trans (MX.o (4*k+3) (by omega));have l0:=mL HB.o (4*k);have l1:=mL HB.o (4*k+1);have l2:=mL HB.o (4*k+2);have l3:=mL HB.o (4*k+3);have xF:wd b k=iS b (4*k)*16777216+iS b (4*k+1)*65536+iS b (4*k+2)*256+iS b (4*k+3):=rfl;have hw:eP b (k+1)=eP b k++[wd b k]:=by rw [eP,if_pos tt]
    generalize iS b (4*k)=y0 at *;generalize iS b (4*k+1)=y1 at *;generalize iS b (4*k+2)=y2 at *;generalize iS b (4*k+3)=y3 at *;have HW:=aa hw;have RI:=aa xF;have g1:IntKind.i64.wrap (4*(k:Int))=4*(k:Int):=IntWalk.i64_in _ ⟨by omega,by omega⟩;have g2:(0:Int)≤4*(k:Int):=by omega
    have g3:4*(k:Int) < 64:=by omega
    have g4:(4*(k:Int)).toNat=4*k:=by omega
    have g5:(0:Int)≤4*(k:Int)+1:=by omega
    have g6:4*(k:Int)+1 < 64:=by omega
    have g7:(4*(k:Int)+1).toNat=4*k+1:=by omega
    have g8:(0:Int)≤4*(k:Int)+2:=by omega
    have g9:4*(k:Int)+2 < 64:=by omega
    have g10:(4*(k:Int)+2).toNat=4*k+2:=by omega
    have g11:(0:Int)≤4*(k:Int)+3:=by omega
    have g12:4*(k:Int)+3 < 64:=by omega
    have g13:(4*(k:Int)+3).toNat=4*k+3:=by omega
    clear hw xF;go_upto_region 6 with fail;refine dA ?_;refine bj [0] ?_;simp only [pick,af,ae,ah];iterate 1 still_step
    refine wpStill_nil ?_;refine jT [1,2,3,4,5,6,7,8,9,10,11,12,13,14,15,16,17,18,19,20,21,22,23,24,25,26,27,28,29,30,31,32,33] (by kernel_rfl) ?_;simp only [pick,af,ae,ah];repeat (go_big_quiet_step (fail))
    refine wpQuiet_nil ?_;rintro _ ⟨nq,rfl⟩;refine aL 34 ?_;try simp only [af,ae,ah]
    go_simp;try dsimp only
    try simp only [af,ae,ah,Act.put,aq,ak,ao]
    have H6:=aa (((H4.o.drewN (1+nq)).new 3 #[.int .i64 ((y0:Int)*16777216+(y1:Int)*65536+(y2:Int)*256+(y3:Int))]).pick 1 rfl);refine aL 35 ?_;try simp only [af,ae,ah]
    refine kf uM (by rfl) (.tmp 25) (.tmp 59) (by rfl) H6.o.own (by rfl) (by rfl) ((Row.new (wr.drewN (1+nq)) 3 #[.int .i64 ((y0:Int)*16777216+(y1:Int)*65536+(y2:Int)*256+(y3:Int))]).sl (B:=(wr.drewN (1+nq)).heap.size+1) (size:=1) (n:=1) (o:=0) (ys:=[.int .i64 ((y0:Int)*16777216+(y1:Int)*65536+(y2:Int)*256+(y3:Int))]) (Nat.lt_succ_self _) rfl rfl) (by simp [Value.oneCell']) (by omega) (by omega) (by unfold maxLen;omega) H6.o.aI.size ?_;intro g6 gu w6 eU fR fa jN;have H7:=aa ((H6.o.grown fR eU (fun g hg=>by cases hg;exact fa)).swap.drop);clear eU fR fa jN;try dsimp only
    try simp only [af,ae,ah,Act.put,aq,ak,ao]
    refine aL 36 ?_;try simp only [af,ae,ah]
    go_simp;try dsimp only
    try simp only [af,ae,ah,Act.put,aq,ak,ao]
    refine bZ ?_;go_wp2_with fail;go_roundw
    case rel =>
     refine ⟨k+1,by omega,by go_num,?_⟩;rw [HW.o,iQ,RI.o];exact H7.o
    case measure=>simp [intOf];omega
   ·obtain ⟨q,hq⟩:∃q,k=q+16:=⟨k-16,by omega⟩
    subst hq;obtain ⟨bW,oW,rfl,hbW,QU⟩:=(Sl.bz H4.o.own).2 (by omega);have nT:=zN HB.o (q+16)
    have gx:∀i,i < q+16→(eP b (q+16)).getD i 0 < 2 ^ 32:=fun i hi=>by
     rw [dz,cM (by rw [gD];exact hi)];exact nT _ (List.getElem_mem _)
    have c2:=QU (q+14) _ (jk (eP b (q+16)) (q+14) (by rw [gD];omega));have c15:=QU (q+1) _ (jk (eP b (q+16)) (q+1) (by rw [gD];omega));have c7:=QU (q+9) _ (jk (eP b (q+16)) (q+9) (by rw [gD];omega));have c16:=QU q _ (jk (eP b (q+16)) q (by rw [gD];omega));have l2:=gx (q+14) (by omega);have Gn:=gx (q+1) (by omega);have l7:=gx (q+9) (by omega);have l16:=gx q (by omega)
    have hw:eP b (q+16+1)=eP b (q+16)++[(((eP b (q+16)).getD q 0+sp ((eP b (q+16)).getD (q+1) 0) 7 18 3+(eP b (q+16)).getD (q+9) 0+sp ((eP b (q+16)).getD (q+14) 0) 17 19 10) % M)]:=by
     rw [eP,if_neg tt];unfold wx;rw [gD];rfl
    generalize (eP b (q+16)).getD (q+14) 0=x2 at *;generalize (eP b (q+16)).getD (q+1) 0=mv at *;generalize (eP b (q+16)).getD (q+9) 0=x7 at *;generalize (eP b (q+16)).getD q 0=IK at *;have t1:RowKit.Hid (∀(w:World) (k:Nat),Calls Tryz.prog 214 #[.int .i64 mv,.int .i64 7] (w.drewN (1+k)) fun e w'=>e=.returned (.int .i64 (tn mv 7:Nat))∧∃j,w'=w.drewN (1+j)):=aa fun w k=>DW w mv 7 Gn (by omega) (by omega) k;have t2:RowKit.Hid (∀(w:World) (k:Nat),Calls Tryz.prog 214 #[.int .i64 mv,.int .i64 18] (w.drewN (1+k)) fun e w'=>e=.returned (.int .i64 (tn mv 18:Nat))∧∃j,w'=w.drewN (1+j)):=aa fun w k=>DW w mv 18 Gn (by omega) (by omega) k;have t3:RowKit.Hid (∀(w:World) (k:Nat),Calls Tryz.prog 214 #[.int .i64 x2,.int .i64 17] (w.drewN (1+k)) fun e w'=>e=.returned (.int .i64 (tn x2 17:Nat))∧∃j,w'=w.drewN (1+j)):=aa fun w k=>DW w x2 17 l2 (by omega) (by omega) k;have t4:RowKit.Hid (∀(w:World) (k:Nat),Calls Tryz.prog 214 #[.int .i64 x2,.int .i64 19] (w.drewN (1+k)) fun e w'=>e=.returned (.int .i64 (tn x2 19:Nat))∧∃j,w'=w.drewN (1+j)):=aa fun w k=>DW w x2 19 l2 (by omega) (by omega) k;have b1:=eC mv 7 Gn (by omega);have b2:=eC mv 18 Gn (by omega);have b3:=eC x2 17 l2 (by omega);have b4:=eC x2 19 l2 (by omega);have e1:=Br (tn mv 7) (tn mv 18) b1 b2;have e2:Go.bits .xor .i64 ((tn mv 7 ^^^ tn mv 18:Nat):Int) ((mv:Int) / 8)=((sp mv 7 18 3:Nat):Int):=Br (tn mv 7 ^^^ tn mv 18) (mv / 8) (gi b1 b2) (by omega);have e3:=Br (tn x2 17) (tn x2 19) b3 b4;have e4:Go.bits .xor .i64 ((tn x2 17 ^^^ tn x2 19:Nat):Int) ((x2:Int) / 1024)=((sp x2 17 19 10:Nat):Int):=Br (tn x2 17 ^^^ tn x2 19) (x2 / 1024) (gi b3 b4) (by omega);have s1:sp mv 7 18 3 < 2 ^ 32:=gi (gi b1 b2) (Nat.lt_of_le_of_lt (Nat.div_le_self _ _) Gn);have s2:sp x2 17 19 10 < 2 ^ 32:=gi (gi b3 b4) (Nat.lt_of_le_of_lt (Nat.div_le_self _ _) l2);generalize tn mv 7=y1 at *;generalize tn mv 18=y2 at *;generalize tn x2 17=y3 at *;generalize tn x2 19=y4 at *;generalize sp mv 7 18 3=US at *;generalize sp x2 17 19 10=UT at *;have tm:RowKit.Hid (∀(w:World) (k:Nat),Calls Tryz.prog 213 #[.int .i64 ((IK:Int)+(US:Int)+(x7:Int)+(UT:Int))] (w.drewN (1+k)) fun e w'=>e=.returned (.int .i64 (((IK+US+x7+UT) % M:Nat):Int))∧∃j,w'=w.drewN (1+j)):=aa fun w k=>It w (IK+US+x7+UT) k;generalize ((IK+US+x7+UT) % M:Nat)=nw at *;have HW:=aa hw;have m0:IntKind.i64.wrap ((q:Int)+16-15)=(q:Int)+1:=by rw [IntWalk.i64_in _ ⟨by omega,by omega⟩];omega
    have m1:IntKind.i64.wrap ((q:Int)+16-2)=(q:Int)+14:=by rw [IntWalk.i64_in _ ⟨by omega,by omega⟩];omega
    have m2:IntKind.i64.wrap ((q:Int)+16-7)=(q:Int)+9:=by rw [IntWalk.i64_in _ ⟨by omega,by omega⟩];omega
    have m3:IntKind.i64.wrap ((q:Int)+16-16)=(q:Int):=by rw [IntWalk.i64_in _ ⟨by omega,by omega⟩];omega
    have m4:IntKind.i64.wrap (q:Int)=(q:Int):=IntWalk.i64_in _ ⟨by omega,by omega⟩;have n0:((q:Int)+1).toNat=q+1:=by omega
    have n1:((q:Int)+14).toNat=q+14:=by omega
    have n2:((q:Int)+9).toNat=q+9:=by omega
    have p0:(0:Int)≤(q:Int):=by omega
    have p1:(0:Int)≤(q:Int)+1:=by omega
    have p2:(0:Int)≤(q:Int)+14:=by omega
    have p3:(0:Int)≤(q:Int)+9:=by omega
    have p4:(16:Int)≤(q:Int)+16:=by omega
    have p5:(q:Int)+16 < 64:=by omega
    have p6:(q:Int) < (q:Int)+16:=by omega
    have p7:(q:Int)+1 < (q:Int)+16:=by omega
    have p8:(q:Int)+14 < (q:Int)+16:=by omega
    have p9:(q:Int)+9 < (q:Int)+16:=by omega
    clear hw nT gx QU b1 b2 b3 b4;go_upto_region 9 with fail;refine dA ?_;refine bj [0] ?_;simp only [pick,af,ae,ah];iterate 1 still_step
    refine wpStill_nil ?_;refine jT [1,2,3,4,5,6,7,8,9,10,11,12,13,14,15,16,17,18,19,20,21,22,23,24,25,26,27,28,29,30] (by kernel_rfl) ?_;simp only [pick,af,ae,ah];repeat (go_big_quiet_step (first|(with_reducible exact t1.out _ _)|(with_reducible exact t2.out _ _)|(with_reducible exact t3.out _ _)|(with_reducible exact t4.out _ _)|(with_reducible exact tm.out _ _)))
    refine wpQuiet_nil ?_;rintro _ ⟨nq,rfl⟩;refine aL 31 ?_;try simp only [af,ae,ah]
    go_simp;try dsimp only
    try simp only [af,ae,ah,Act.put,aq,ak,ao]
    have H6:=aa (((H4.o.drewN (1+nq)).new 3 #[.int .i64 (nw:Int)]).pick 1 rfl);refine aL 32 ?_;try simp only [af,ae,ah]
    refine kf uM (by rfl) (.tmp 71) (.tmp 102) (by rfl) H6.o.own (by rfl) (by rfl) ((Row.new (wr.drewN (1+nq)) 3 #[.int .i64 (nw:Int)]).sl (B:=(wr.drewN (1+nq)).heap.size+1) (size:=1) (n:=1) (o:=0) (ys:=[.int .i64 (nw:Int)]) (Nat.lt_succ_self _) rfl rfl) (by simp [Value.oneCell']) (by omega) (by omega) (by unfold maxLen;omega) H6.o.aI.size ?_;intro g6 gu w6 eU fR fa jN;have H7:=aa ((H6.o.grown fR eU (fun g hg=>by cases hg;exact fa)).swap.drop);clear eU fR fa jN;try dsimp only
    try simp only [af,ae,ah,Act.put,aq,ak,ao]
    refine aL 33 ?_;try simp only [af,ae,ah]
    go_simp;try dsimp only
    try simp only [af,ae,ah,Act.put,aq,ak,ao]
    refine bZ ?_;go_wp2_with fail;go_roundw
    case rel =>
     refine ⟨q+16+1,by omega,by go_num,?_⟩;rw [HW.o,iQ];exact H7.o
    case measure=>simp [intOf];omega
  ·have cZ:¬(k:Int) < 64:=by omega
   have TG:k=64:=by omega
   have h4:=H4.o;rw [TG] at h4;have hWl:=zN HB.o 64;have hWn:=gD b 64;have yP:comp v b=plus v (tR v (eP b 64) 64):=rfl;generalize eP b 64=W at h4 hWl hWn yP;obtain ⟨gW,cW2,eW,_,_⟩:=h4.own.form (by omega);cases eW;obtain ⟨b2,o2,rfl,bN,AB⟩:=H2.o.2 (by omega);have HC2:=aa AB;obtain ⟨bF,oF,rfl,hbF,hcF⟩:=HF.o.2 (by omega);have HCF:=aa hcF;have abO:=aa TG;have H5:=aa h4;have HWL:=aa hWl;have HWN:=aa hWn;have OW:=aa yP;clear TG h4 hWl hWn yP AB hcF;have hsf:∀w':World,Below w.heap.size w w'→Sl w' w'.heap.size 1 (some ⟨bF,oF,none⟩) 8 (dP v.dr):=fun w' hb=>qp HF.o hb;have HSF:=aa hsf;clear hsf;rw [abO.o] at *;go_wp2_with (at_builtin;refine nK uM rfl (.tmp 104) (.tmp 105) rfl (World.ownsRow_nil _ w.heap.size 3 1) rfl rfl (fun h=>by cases h) (HSF.o _ H5.o.aI) (by simp [Value.oneCell',W8.dr]) (by omega) (by unfold maxLen;omega) H5.o.aI.size ?_;intro v' w6 eU fR Es)
   have h6:=H5.o.add (Q:=own 3 1 v' 8 (dP v.dr)) (F:=fun i=>v'.ownBlock=some i) (zA fR) ⟨eU.mono (Nat.zero_le _),fun i=>Iff.rfl⟩ (fun i hi=>by
    rcases Es i hi with h|h
    ·cases h
    ·exact h)
   have H6:=aa h6;clear h6 eU fR Es;go_loopw [11,12] (fun vv i wx=>∃k:Nat,k≤64∧i=.int .i64 k∧St w wx [own 3 1 vv 8 (dP (tR v W k).dr),own 3 1 (.slice (some ⟨gW,0,none⟩) 64 cW) 64 (dP W),row w.heap.size 264 [v1,.slice (some ⟨b2,o2,none⟩) 64 c2]]) (fun _ i _=>64-(intOf i).toNat)
   case atStart=>exact ⟨0,by omega,rfl,H6.o⟩
   case round =>
    obtain ⟨k2,dC,rfl,h7⟩:=hrel;obtain ⟨gV,cV,rfl,_,hgV⟩:=h7.own.form (by omega);have H7:=aa h7;clear h7;by_cases yM:k2 < 64
    ·have aad:(k2:Int) < 64:=by omega
     have Eh:=DU HV.o W k2;have fQ:tR v W (k2+1)=BA (tR v W k2) (ks.getD k2 0) (W.getD k2 0):=rfl;have h7:=H7.o;have wc:=(h7.pick 1 rfl).own;obtain ⟨gX,oX,eX,_,hcX⟩:=(Sl.bz (h7.pick 1 rfl).own).2 (by omega);cases eX;have cW0:=hcX k2 _ (jk W k2 (by rw [HWN.o];exact yM));rw [Nat.zero_add] at cW0;have cK0:=(h7.aI.cell (p:=⟨b2,o2+k2,none⟩) bN).trans (HC2.o k2 _ (jk ks k2 (by show k2 < 64;exact yM)))
     have fY:W.getD k2 0 < 2 ^ 32:=by
      rw [dz,cM (by rw [HWN.o];exact yM)];exact HWL.o _ (List.getElem_mem _)
     have gZ:=Yj k2;have cB1:=(h7.pick 2 rfl).row.1.cell 1;simp only [List.getElem?_cons_succ,List.getElem?_cons_zero] at cB1;generalize hu:tR v W k2=u at *;obtain ⟨a,b',c,d,e,f,Cy,h⟩:=u;obtain ⟨ha,mK,hc,hd,he,hf,Ev,hh⟩:=Eh;have ha:a < 2 ^ 32:=ha;have mK:b' < 2 ^ 32:=mK;have hc:c < 2 ^ 32:=hc;have hd:d < 2 ^ 32:=hd;have he:e < 2 ^ 32:=he;have hf:f < 2 ^ 32:=hf;have Ev:Cy < 2 ^ 32:=Ev;have hh:h < 2 ^ 32:=hh;obtain ⟨gY,oY,eY,_,pT⟩:=(Sl.bz h7.own).2 (by omega);cases eY;have y0:wr.cell? ⟨gV,0,none⟩=some (.int .i64 (a:Int)):=pT 0 _ rfl;have y1:wr.cell? ⟨gV,1,none⟩=some (.int .i64 (b':Int)):=pT 1 _ rfl;have y2:wr.cell? ⟨gV,2,none⟩=some (.int .i64 (c:Int)):=pT 2 _ rfl;have y3:wr.cell? ⟨gV,3,none⟩=some (.int .i64 (d:Int)):=pT 3 _ rfl;have y4:wr.cell? ⟨gV,4,none⟩=some (.int .i64 (e:Int)):=pT 4 _ rfl;have y5:wr.cell? ⟨gV,5,none⟩=some (.int .i64 (f:Int)):=pT 5 _ rfl;have y6:wr.cell? ⟨gV,6,none⟩=some (.int .i64 (Cy:Int)):=pT 6 _ rfl;have y7:wr.cell? ⟨gV,7,none⟩=some (.int .i64 (h:Int)):=pT 7 _ rfl;generalize W.getD k2 0=wi at *;generalize ks.getD k2 0=ki at *;have Ep:4294967295-e < 2 ^ 32:=by omega
     have e0:(4294967295:Int)-(e:Int)=((4294967295-e:Nat):Int):=by omega
     have e1:=EO e f he hf;have e2:Go.bits .and .i64 ((4294967295:Int)-(e:Int)) (Cy:Int)=(((4294967295-e) &&& Cy:Nat):Int):=by rw [e0];exact EO _ _ Ep Ev
     have e3:=Te (e &&& f) ((4294967295-e) &&& Cy) (Nat.and_lt_two_pow _ hf) (Nat.and_lt_two_pow _ Ev);have l3:((e &&& f) ||| ((4294967295-e) &&& Cy)) < 2 ^ 32:=Nat.or_lt_two_pow (Nat.and_lt_two_pow _ hf) (Nat.and_lt_two_pow _ Ev);have e4:=EO a b' ha mK;have e5:=EO a c ha hc;have e6:=EO b' c mK hc;have e7:=Te (a &&& b') (a &&& c) (Nat.and_lt_two_pow _ mK) (Nat.and_lt_two_pow _ hc);have e8:=Te ((a &&& b') ||| (a &&& c)) (b' &&& c) (Nat.or_lt_two_pow (Nat.and_lt_two_pow _ mK) (Nat.and_lt_two_pow _ hc)) (Nat.and_lt_two_pow _ hc);have l8:(((a &&& b') ||| (a &&& c)) ||| (b' &&& c)) < 2 ^ 32:=Nat.or_lt_two_pow (Nat.or_lt_two_pow (Nat.and_lt_two_pow _ mK) (Nat.and_lt_two_pow _ hc)) (Nat.and_lt_two_pow _ hc);have lm1:mix e 6 11 25 < 2 ^ 32:=gi (gi (eC e 6 he (by omega)) (eC e 11 he (by omega))) (eC e 25 he (by omega));have lm2:mix a 2 13 22 < 2 ^ 32:=gi (gi (eC a 2 ha (by omega)) (eC a 13 ha (by omega))) (eC a 22 ha (by omega));have t1:RowKit.Hid (∀(w:World) (k:Nat),Calls Tryz.prog 215 #[.int .i64 e,.int .i64 6,.int .i64 11,.int .i64 25] (w.drewN k) fun e' w'=>e'=.returned (.int .i64 (mix e 6 11 25:Nat))∧∃j,w'=w.drewN j):=aa fun w k=>(Qf (w.drewN k) e 6 11 25 he (by omega) (by omega) (by omega) (by omega) (by omega) (by omega)).mono fun e' w' ⟨h1,j,h2⟩=>⟨h1,k+j,by rw [h2,World.drewN_drewN]⟩
     have t2:RowKit.Hid (∀(w:World) (k:Nat),Calls Tryz.prog 215 #[.int .i64 a,.int .i64 2,.int .i64 13,.int .i64 22] (w.drewN k) fun e' w'=>e'=.returned (.int .i64 (mix a 2 13 22:Nat))∧∃j,w'=w.drewN j):=aa fun w k=>(Qf (w.drewN k) a 2 13 22 ha (by omega) (by omega) (by omega) (by omega) (by omega) (by omega)).mono fun e' w' ⟨h1,j,h2⟩=>⟨h1,k+j,by rw [h2,World.drewN_drewN]⟩
     unfold BA at fQ;simp only at fQ;generalize ((e &&& f) ||| ((4294967295-e) &&& Cy))=o1 at *;generalize (((a &&& b') ||| (a &&& c)) ||| (b' &&& c))=Qc at *;generalize mix e 6 11 25=m1 at *;generalize mix a 2 13 22=m2 at *;have t3:RowKit.Hid (∀(w:World) (k:Nat),Calls Tryz.prog 213 #[.int .i64 ((h:Int)+(m1:Int)+(o1:Int)+(ki:Int)+(wi:Int))] (w.drewN k) fun e' w'=>e'=.returned (.int .i64 (((h+m1+o1+ki+wi) % M:Nat):Int))∧∃j,w'=w.drewN j):=aa fun w k=>(D6 (w.drewN k) (h+m1+o1+ki+wi)).mono fun e' w' ⟨h1,h2⟩=>⟨h1,k,h2⟩
     have t4:RowKit.Hid (∀(w:World) (k:Nat),Calls Tryz.prog 213 #[.int .i64 ((m2:Int)+(Qc:Int))] (w.drewN k) fun e' w'=>e'=.returned (.int .i64 (((m2+Qc) % M:Nat):Int))∧∃j,w'=w.drewN j):=aa fun w k=>(D6 (w.drewN k) (m2+Qc)).mono fun e' w' ⟨h1,h2⟩=>⟨h1,k,h2⟩
     have lx:(h+m1+o1+ki+wi) % M < 2 ^ 32:=Nat.mod_lt _ (by decide);have ly:(m2+Qc) % M < 2 ^ 32:=Nat.mod_lt _ (by decide);have i0:(0:Int)≤(k2:Int):=by omega
     have kM:=aa fQ;have H8:=aa h7;clear fQ h7 hcX pT wc hu e0;go_upto_region 16 with fail;refine wp_region_quiet_lit (by kernel_rfl) (by kernel_rfl) ?_;repeat (go_big_quiet_step (first|(with_reducible exact t1.out _ _)|(with_reducible exact t3.out _ _)))
     refine wpQuiet_nil ?_;intro wq pH;have HQ:=aa (Mu pH H8.o);clear pH y0 y1 y2 y3 y4 y5 y6 y7 cW0 cK0 cB1;obtain ⟨y0,y1,y2,y3,y4,y5,y6,y7,_⟩:=Gj HQ.o;go_upto_region 17 with fail;refine wp_region_quiet_lit (by kernel_rfl) (by kernel_rfl) ?_;repeat (go_big_quiet_step (first|(with_reducible exact t2.out _ _)|(with_reducible exact t4.out _ _)))
     refine wpQuiet_nil ?_;intro wp hwp;have HP:=aa (Mu hwp HQ.o);clear hwp y0 y1 y2 y3 y4 y5 y6 y7 e1 e2 e3 e4 e5 e6 e7 e8;obtain ⟨y0,y1,y2,y3,y4,y5,y6,y7,_⟩:=Gj HP.o;generalize (h+m1+o1+ki+wi) % M=X at *;generalize (m2+Qc) % M=Y at *;have t5:RowKit.Hid (∀(w:World) (k:Nat),Calls Tryz.prog 213 #[.int .i64 ((X:Int)+(Y:Int))] (w.drewN (1+k)) fun e' w'=>e'=.returned (.int .i64 (((X+Y) % M:Nat):Int))∧∃j,w'=w.drewN (1+j)):=aa fun w k=>It w (X+Y) k;have t6:RowKit.Hid (∀(w:World) (k:Nat),Calls Tryz.prog 213 #[.int .i64 ((d:Int)+(X:Int))] (w.drewN (1+k)) fun e' w'=>e'=.returned (.int .i64 (((d+X) % M:Nat):Int))∧∃j,w'=w.drewN (1+j)):=aa fun w k=>It w (d+X) k;generalize ((X+Y) % M:Nat)=XY at *;generalize ((d+X) % M:Nat)=DX at *;have JU:=HP.o.add (Q:=own 3 1 (.slice none 0 0) 0 []) (F:=fun _=>False) (Below.refl _ _) ⟨World.ownsRow_nil _ _ _ _,fun i=>by simp [Value.ownBlock]⟩ (fun i hi=>hi.elim);have H9:=aa JU;clear JU;go_upto_region 19 with fail;refine dA ?_;refine bj [0] ?_;simp only [pick,af,ae,ah];iterate 1 still_step
     refine wpStill_nil ?_;refine jT [1,2,3,4,5,6,7,8,9,10,11,12,13,14,15,16,17,18,19,20,21,22,23,24,25,26,27,28] (by kernel_rfl) ?_;simp only [pick,af,ae,ah];repeat (go_big_quiet_step (first|(with_reducible exact t5.out _ _)|(with_reducible exact t6.out _ _)))
     refine wpQuiet_nil ?_;rintro _ ⟨nq,rfl⟩;refine aL 29 ?_;try simp only [af,ae,ah]
     go_simp;try dsimp only
     try simp only [af,ae,ah,Act.put,aq,ak,ao]
     have H6:=aa (((H9.o.drewN (1+nq)).new 3 #[.int .i64 (XY:Int),.int .i64 (a:Int),.int .i64 (b':Int),.int .i64 (c:Int),.int .i64 (DX:Int),.int .i64 (e:Int),.int .i64 (f:Int),.int .i64 (Cy:Int)]).pick 1 rfl);refine aL 30 ?_;try simp only [af,ae,ah]
     refine kf uM (by rfl) (.tmp 178) (.tmp 207) (by rfl) H6.o.own (by rfl) (by rfl) ((Row.new (wp.drewN (1+nq)) 3 #[.int .i64 (XY:Int),.int .i64 (a:Int),.int .i64 (b':Int),.int .i64 (c:Int),.int .i64 (DX:Int),.int .i64 (e:Int),.int .i64 (f:Int),.int .i64 (Cy:Int)]).sl (B:=(wp.drewN (1+nq)).heap.size+1) (size:=1) (n:=8) (o:=0) (ys:=[.int .i64 (XY:Int),.int .i64 (a:Int),.int .i64 (b':Int),.int .i64 (c:Int),.int .i64 (DX:Int),.int .i64 (e:Int),.int .i64 (f:Int),.int .i64 (Cy:Int)]) (Nat.lt_succ_self _) rfl rfl) (by simp [Value.oneCell']) (by omega) (by omega) (by unfold maxLen;omega) H6.o.aI.size ?_;intro g6 gu w6 eU fR fa jN;have H7:=aa ((H6.o.grown fR eU (fun g hg=>by cases hg;exact fa)).swap.drop);clear eU fR fa jN;try dsimp only
     try simp only [af,ae,ah,Act.put,aq,ak,ao]
     refine aL 31 ?_;try simp only [af,ae,ah]
     go_simp;try dsimp only
     try simp only [af,ae,ah,Act.put,aq,ak,ao]
     refine bZ ?_;go_wp2_with fail;go_roundw
     case rel =>
      refine ⟨k2+1,by omega,by go_num,?_⟩;rw [kM.o];exact H7.o.swap.drop
     case measure=>simp [intOf];omega
    ·have aad:¬(k2:Int) < 64:=by omega
     have Vn:k2=64:=by omega
     have h7:=H7.o;rw [Vn] at h7;have Eh:=DU HV.o W 64;have yP:=OW.o;generalize hu:tR v W 64=u at h7 Eh yP;have h8:=h7.add (Q:=own 3 1 (.slice none 0 0) 0 []) (F:=fun _=>False) (Below.refl _ _) ⟨World.ownsRow_nil _ _ _ _,fun i=>by simp [Value.ownBlock]⟩ (fun i hi=>hi.elim);have H8:=aa h8;have HUO:=aa Eh;have HC:=aa yP;clear h7 h8 Vn Eh yP hu;go_wp2_with fail;go_loopw [17,18] (fun vv i wx=>∃k:Nat,k≤8∧i=.int .i64 k∧St w wx [own 3 1 vv k (dP ((plus v u).dr.take k)),own 3 1 (.slice (some ⟨gV,0,none⟩) 8 cV) 8 (dP u.dr),own 3 1 (.slice (some ⟨gW,0,none⟩) 64 cW) 64 (dP W),row w.heap.size 264 [v1,.slice (some ⟨b2,o2,none⟩) 64 c2]]) (fun _ i _=>8-(intOf i).toNat)
     case atStart=>exact ⟨0,by omega,rfl,H8.o⟩
     case round =>
      obtain ⟨k3,hk3,rfl,h9⟩:=hrel;obtain ⟨AR,cR,rfl,_,_⟩:=aH h9.own;have H9:=aa h9;by_cases FI:k3 < 8
      ·have N0:(k3:Int) < 8:=by omega
       obtain ⟨gY,oY,eY,hgY,pT⟩:=(Sl.bz (h9.pick 1 rfl).own).2 (by omega);cases eY;have cU:=pT k3 _ (jk u.dr k3 FI);rw [Nat.zero_add] at cU;have cF:=(h9.aI.cell (p:=⟨bF,oF+k3,none⟩) hbF).trans (HCF.o k3 _ (jk v.dr k3 FI));have lU:=JA HUO.o k3;have lF:=JA HV.o k3;have hpg:=S9 v u k3 FI
       have pS:(plus v u).dr.take (k3+1)=(plus v u).dr.take k3++[(plus v u).dr.getD k3 0]:=by
        rw [jz (show k3 < (plus v u).dr.length from FI),dz,cM (show k3 < (plus v u).dr.length from FI)];rfl
       rw [hpg] at pS;generalize u.dr.getD k3 0=xu at *;generalize v.dr.getD k3 0=xf at *;have t7:RowKit.Hid (∀(w:World) (k:Nat),Calls Tryz.prog 213 #[.int .i64 ((xf:Int)+(xu:Int))] (w.drewN (1+k)) fun e' w'=>e'=.returned (.int .i64 (((xf+xu) % M:Nat):Int))∧∃j,w'=w.drewN (1+j)):=aa fun w k=>It w (xf+xu) k;generalize (xf+xu) % M=z at *;have wI:=aa pS;have i0:(0:Int)≤(k3:Int):=by omega
       clear h9 pT hpg pS;go_upto_region 25 with fail;refine dA ?_;refine bj [0] ?_;simp only [pick,af,ae,ah];iterate 1 still_step
       refine wpStill_nil ?_;refine jT [1,2,3,4,5,6,7,8,9,10] (by kernel_rfl) ?_;simp only [pick,af,ae,ah];repeat (go_big_quiet_step (with_reducible exact t7.out _ _))
       refine wpQuiet_nil ?_;rintro _ ⟨nq,rfl⟩;refine aL 11 ?_;try simp only [af,ae,ah]
       go_simp;try dsimp only
       try simp only [af,ae,ah,Act.put,aq,ak,ao]
       have H6:=aa (((H9.o.drewN (1+nq)).new 3 #[.int .i64 (z:Int)]).pick 1 rfl);refine aL 12 ?_;try simp only [af,ae,ah]
       refine kf uM (by rfl) (.tmp 214) (.tmp 225) (by rfl) H6.o.own (by rfl) (by rfl) ((Row.new (wr.drewN (1+nq)) 3 #[.int .i64 (z:Int)]).sl (B:=(wr.drewN (1+nq)).heap.size+1) (size:=1) (n:=1) (o:=0) (ys:=[.int .i64 (z:Int)]) (Nat.lt_succ_self _) rfl rfl) (by simp [Value.oneCell']) (by omega) (by omega) (by unfold maxLen;omega) H6.o.aI.size ?_;intro g6 gu w6 eU fR fa jN;have H7:=aa ((H6.o.grown fR eU (fun g hg=>by cases hg;exact fa)).swap.drop);clear eU fR fa jN;try dsimp only
       try simp only [af,ae,ah,Act.put,aq,ak,ao]
       refine aL 13 ?_;try simp only [af,ae,ah]
       go_simp;try dsimp only
       try simp only [af,ae,ah,Act.put,aq,ak,ao]
       refine bZ ?_;go_wp2_with fail;go_roundw
       case rel =>
        refine ⟨k3+1,by omega,by go_num,?_⟩;rw [wI.o,iQ];exact H7.o
       case measure=>simp [intOf];omega
      ·have N0:¬(k3:Int) < 8:=by omega
       have aa2:k3=8:=by omega
       have fP:=h9.own;rw [aa2] at fP;have HO:=aa fP;clear h9 fP;go_wp2_with fail;go_ret;refine ⟨_,rfl,?_,H9.o.aI⟩;rw [HC.o];have h:=HO.o;rw [List.take_of_length_le (show (plus v u).dr.length≤8 from Nat.le_refl _)] at h;exact h
end fH
end Go.Proofs.YtdldkkoplgkloaaGreat
