/-
  PROVED HERE: lemmas that the law leans on.
  CONDITIONS: each names its own.
-/
import Derived.Test.YtdldkkoplgkloaaGreatPy0
import Derived.Test.YtdldkkoplgkloaaGreatPy11
namespace Go.Proofs.YtdldkkoplgkloaaGreat
set_option linter.unusedVariables false
set_option linter.unusedSimpArgs false
set_option maxRecDepth 100000
set_option maxHeartbeats 32000000
namespace image


open Go.RowKit Go.Deep base obj mem sep bw num bytes bf chain
def rdNum (k:Nat):Option (List Int)→Nat×Option (List Int)
 | .none=>(0,.none)
 | .some b=>if b.length < k then (0,.none) else (val (b.take k),.some (b.drop k))
def eF:Option (List Int)→List Int×Option (List Int)
 | .none=>([],.none)
 | .some b=>if b.length < 2∨b.length < 2+val (b.take 2) then ([],.none) else ((b.drop 2).take (val (b.take 2)),.some ((b.drop 2).drop (val (b.take 2))))
def lf:Option (List Int)→Int
 | .none=>1
 | .some b=>if b.length=0 then 0 else 2
def kH (s0:Option (List Int)):aw×Option (List Int) :=
 let x1:=rdNum 1 s0
 let x2:=rdNum 2 x1.2
 let x3:=rdNum 2 x2.2
 let x4:=rdNum 1 x3.2
 let x5:=rdNum 1 x4.2
 let x6:=rdNum 1 x5.2
 let x7:=rdNum 1 x6.2
 let x8:=eF x7.2
 (⟨x1.1,x2.1,x3.1,x4.1,x5.1,x6.1,x7.1,x8.1⟩,x8.2)
def kg (b:List Int):aw×Int :=
 if (rdNum 2 (.some b)).1≠19529 then (aw.none,2)
 else if lf (kH (rdNum 2 (.some b)).2).2≠0 then (aw.none,lf (kH (rdNum 2 (.some b)).2).2)
 else if (kH (rdNum 2 (.some b)).2).1.right then ((kH (rdNum 2 (.some b)).2).1,0) else (aw.none,3)
def b9 (b:List Int):aw×Int:=if b.length < 36 then (aw.none,1) else if pn b&&pE b then kg (b.take (b.length-36)) else (aw.none,10)
def Re (w:World) (B R:Nat):Prop:=∃A n c,Row w R 255 [.slice A n c,.int .i64 1]∧B≤R
def RX (w:World) (B R:Nat):Option (List Int)→Prop
 | .none=>Re w B R
 | .some b=>Rd w B R b∧bo b∧b.length≤100000
theorem RX.lt {w:World} {B R:Nat} {s:Option (List Int)} (h:RX w B R s):R < w.heap.size∧B≤R:=by
 cases s with
 | none=>obtain ⟨A,n,c,h,hb⟩:=h;exact ⟨h.lt,hb⟩
 | some b=>exact ⟨h.1.lt,h.1.base⟩
theorem RX.kept {w w':World} {B R:Nat} {s:Option (List Int)} {S:Nat→Prop} (h:RX w B R s) (k:Kept S w w') (hS:∀i,B≤i→i≤R→¬S i):RX w' B R s:=by
 cases s with
 | none=>obtain ⟨A,n,c,h,hb⟩:=h;exact ⟨A,n,c,h.kept k (hS R hb (Nat.le_refl _)),hb⟩
 | some b=>exact ⟨h.1.kept k hS,h.2⟩
theorem RX.below {w w':World} {B R:Nat} {s:Option (List Int)} (h:RX w B R s) (k:Below w.heap.size w w'):RX w' B R s :=
 h.kept (Kept.ng k (fun _=>False)) fun _ _ _ h=>h
theorem DH {w:World} {B R:Nat} (h:Re w B R):Calls Tryz.prog 182 #[.pointer (some ⟨R,0,none⟩)] w fun e w'=>e=.returned (.bool false)∧w'=w:=by
 obtain ⟨A,n,c,h,_⟩:=h;have c1:w.cell? ⟨R,1,none⟩=some (.int .i64 1):=h.cell 1;clear h;go_enter Tryz.func182,Tryz.ntmps182;go_wp2_with fail;go_ret;exact ⟨rfl,rfl⟩
theorem MB {w:World} {B R:Nat} (h:Re w B R) (n:Int):Calls Tryz.prog 181 #[.pointer (some ⟨R,0,none⟩),.int .i64 n] w fun e w'=>e=.returned (.slice none 0 0)∧w'=w:=by
 have HW:=aa (DH h);clear h;go_enter Tryz.func181,Tryz.ntmps181;go_wp2_with fail;refine HW.o.mono ?_;rintro e w' ⟨rfl,rfl⟩;go_wp2_with fail;go_ret;exact ⟨rfl,rfl⟩
theorem Xp {w:World} {B R:Nat} {bs:List Int} (h:Rd w B R bs):Calls Tryz.prog 181 #[.pointer (some ⟨R,0,none⟩),.int .i64 0] w fun e w'=>e=.returned (.slice none 0 0)∧w'=w:=by
 have HW:=aa (kd h);clear h;go_enter Tryz.func181,Tryz.ntmps181;go_wp2_with fail;refine HW.o.mono ?_;rintro e w' ⟨rfl,rfl⟩;go_wp2_with fail;go_ret;exact ⟨rfl,rfl⟩
theorem Xd {w:World} {B R:Nat} {bs:List Int} (h:Rd w B R bs):Calls Tryz.prog 183 #[.pointer (some ⟨R,0,none⟩),.int .i64 1] w fun e w'=>e=.returned (.tuple #[])∧Re w' B R∧Kept (fun i=>i=R) w w':=by
 have HW:=aa (kd h);obtain ⟨A,c,e,_⟩:=h.cell;have hr:Row w R 255 [.slice A bs.length c,.int .i64 0]:=e;have HR:=aa hr;have HB:=aa h.base;have hf:=hr.frozen 1;have z1:w.cell? ⟨R,1,none⟩=some (.int .i64 0):=hr.cell 1;have hl:=hr.lt;clear h e hr;go_enter Tryz.func183,Tryz.ntmps183;go_wp2_with fail;refine HW.o.mono ?_;rintro e w' ⟨rfl,rfl⟩;go_wp2_with fail
 go_end0
 exact ⟨rfl,⟨A,_,c,HR.o.setCell 1 (.int .i64 1),HB.o⟩,(Kept.refl (fun i=>i=R) w').setCell (p:=⟨R,1,none⟩) (.inl rfl) _⟩
theorem y8 {w:World} {B R:Nat} {bs:List Int} (h:Rd w B R bs) (n:Nat) (h0:0 < n) (hn:bs.length < n):Calls Tryz.prog 181 #[.pointer (some ⟨R,0,none⟩),.int .i64 n] w fun e w'=>e=.returned (.slice none 0 0)∧Re w' B R∧Kept (fun i=>i=R) w w':=by
 have HW:=aa (kd h);have HF:=aa (Xd h);obtain ⟨A,c,e,_⟩:=h.cell;have hr:Row w R 255 [.slice A bs.length c,.int .i64 0]:=e;have c0:w.cell? ⟨R,0,none⟩=some (.slice A bs.length c):=hr.cell 0;have i0:¬(n:Int)≤0:=by omega
 have i1:(bs.length:Int) < (n:Int):=by omega
 clear h e hr;go_enter Tryz.func181,Tryz.ntmps181;go_wp2_with fail;refine HW.o.mono ?_;rintro e w' ⟨rfl,rfl⟩;go_wp2_with fail;refine HF.o.mono ?_;rintro e w1 ⟨rfl,h1,h2⟩;have H:=aa (And.intro h1 h2);clear h1 h2 c0;go_wp2_with fail;go_ret;exact ⟨rfl,H.o⟩
theorem Jv {w:World} {R:Nat} {Q:World→Prop} (k:Nat) (h1:1≤k) (h6:k≤6)
  (h:Calls Tryz.prog 181 #[.pointer (some ⟨R,0,none⟩),.int .i64 k] w fun e w'=>e=.returned (.slice none 0 0)∧Q w') :
  Calls Tryz.prog 144 #[.pointer (some ⟨R,0,none⟩),.int .i64 k] w fun e w'=>e=.returned (.int .i64 0)∧Q w':=by
 have HH:=aa h;clear h;go_enter Tryz.func144,Tryz.ntmps144;go_wp2_with fail;refine (FK _ k h1 h6).mono ?_;rintro e w' ⟨rfl,rfl⟩;go_wp2_with fail;refine HH.o.mono ?_;rintro e w1 ⟨rfl,hq⟩;have HQ:=aa hq;clear hq;go_wp2_with fail;go_loopw [16,6] (fun i s wr=>i=.int .i64 0∧s=.int .i64 0∧wr=w1) (fun i _ _=>0)
 case atStart=>exact ⟨rfl,rfl,rfl⟩
 case round =>
  obtain ⟨rfl,rfl,rfl⟩:=hrel;go_wp2_with fail;go_ret;exact ⟨rfl,HQ.o⟩
theorem uh {w:World} {B R:Nat} {s:Option (List Int)} (h:RX w B R s) (k:Nat) (h1:1≤k) (h6:k≤6):Calls Tryz.prog 144 #[.pointer (some ⟨R,0,none⟩),.int .i64 k] w fun e w'=>e=.returned (.int .i64 ((rdNum k s).1:Nat))∧RX w' B R (rdNum k s).2∧Kept (fun i=>i=R) w w':=by
 cases s with
 | none=>exact Jv k h1 h6 ((MB h k).mono fun e w' ⟨h1,h2⟩=>⟨h1,by rw [h2];exact h,by rw [h2];exact Kept.refl _ _⟩)
 | some b =>
   by_cases hk:b.length < k
   ·rw [show rdNum k (some b)=(0,none) from if_pos hk];exact Jv k h1 h6 (y8 h.1 k (by omega) hk)
   ·rw [show rdNum k (some b)=(val (b.take k),some (b.drop k)) from if_neg hk];exact (sZ h.1 k h1 h6 (by omega) h.2.2 h.2.1).mono fun e w' ⟨e1,e2,e3⟩=>⟨e1,⟨e2,fun z hz=>h.2.1 z (List.mem_of_mem_drop hz),by rw [List.length_drop];have:=h.2.2;omega⟩,e3⟩
theorem Re.cells {w:World} {B R:Nat} (h:Re w B R):∃A n c,Row w R 255 [.slice A n c,.int .i64 1]∧B≤R:=h
theorem XK {w:World} {B R:Nat} (h:Re w B R) (nS:Int):Calls Tryz.prog 145 #[.pointer (some ⟨R,0,none⟩),.int .i64 nS] w fun e w'=>e=.returned (.slice none 0 0)∧w'=w:=by
 have HW:=aa (DH h);clear h;go_enter Tryz.func145,Tryz.ntmps145;go_wp2_with fail;refine HW.o.mono ?_;rintro e w1 ⟨rfl,rfl⟩;go_wp2_with fail;go_ret;exact ⟨rfl,rfl⟩
theorem M7 {w:World} {B R:Nat} {bs:List Int} (h:Rd w B R bs) (hs:bs.length < 2) (nS:Int):Calls Tryz.prog 145 #[.pointer (some ⟨R,0,none⟩),.int .i64 nS] w fun e w'=>e=.returned (.slice none 0 0)∧Re w' B R∧Kept (fun i=>i=R) w w':=by
 have HW:=aa (kd h);have HN:=aa (Jv 2 (by omega) (by omega) (y8 h 2 (by omega) hs));obtain ⟨A,c,e,_⟩:=h.cell;have c0:w.cell? ⟨R,0,none⟩=some (.slice A bs.length c):=by simp [World.cell?,e]
 clear h e;go_enter Tryz.func145,Tryz.ntmps145;go_wp2_with fail;refine HW.o.mono ?_;rintro e w1 ⟨rfl,rfl⟩;go_wp2_with fail;refine HN.o.mono ?_;rintro e w2 ⟨rfl,hr,hk⟩;have iL:=aa (DH hr);have aO:=aa (MB hr 0);obtain ⟨A2,n2,c2,mG,bN⟩:=hr;have dI:=aa mG;have HB:=aa bN;have HK:=aa hk;have f2:=mG.frozen 0;have z2:w2.cell? ⟨R,0,none⟩=some (.slice A2 n2 c2):=mG.cell 0;have l2:=mG.lt;clear mG hk c0;go_wp2_with fail;refine iL.o.mono ?_;rintro e w3 ⟨rfl,rfl⟩;go_wp2_with fail;refine aO.o.mono ?_;rintro e w3 ⟨rfl,rfl⟩;go_wp2_with fail;refine iL.o.mono ?_;rintro e w3 ⟨rfl,rfl⟩;go_wp2_with fail;go_ret;exact ⟨rfl,⟨A,_,c,dI.o.setCell 0 _,HB.o⟩,HK.o.setCell (p:=⟨R,0,none⟩) (.inl rfl) _⟩
theorem Ph {w:World} {B R:Nat} {bs:List Int} (h:Rd w B R bs) (n:Nat) (hn:val (bs.take 2)=n) (h1:1≤n) (h2:2≤bs.length) (h3:bs.length < 2+n) (hm:bs.length≤100000) (cu:bo bs) (nS:Int) (hl:(n:Int)≤nS):Calls Tryz.prog 145 #[.pointer (some ⟨R,0,none⟩),.int .i64 nS] w fun e w'=>e=.returned (.slice none 0 0)∧Re w' B R∧Kept (fun i=>i=R) w w':=by
 have HW:=aa (kd h);have HN:=aa (sZ h 2 (by omega) (by omega) (by omega) hm cu);obtain ⟨A,c,e,_⟩:=h.cell;have c0:w.cell? ⟨R,0,none⟩=some (.slice A bs.length c):=by simp [World.cell?,e]
 clear h e;go_enter Tryz.func145,Tryz.ntmps145;go_wp2_with fail;refine HW.o.mono ?_;rintro e w1 ⟨rfl,rfl⟩;go_wp2_with fail;refine HN.o.mono ?_;rintro e w2 ⟨rfl,hr,hk⟩;rw [hn];have oe:=aa hk;have iL:=aa (kd hr);have aO:=aa (y8 hr n (by omega) (by rw [List.length_drop];omega));have hng:¬nS < (n:Int):=by omega
 clear hr hk c0;go_wp2_with fail;refine iL.o.mono ?_;rintro e w3 ⟨rfl,rfl⟩;go_wp2_with fail;refine aO.o.mono ?_;rintro e w4 ⟨rfl,s9,Mf⟩;have kb:=aa (DH s9);obtain ⟨A2,n2,c2,mG,bN⟩:=s9;have dI:=aa mG;have HB:=aa bN;have HK:=aa (oe.o.trans Mf (fun _ h=>h) (fun _ h _=>h));have f2:=mG.frozen 0;have z2:w4.cell? ⟨R,0,none⟩=some (.slice A2 n2 c2):=mG.cell 0;have l2:=mG.lt;clear mG Mf;go_wp2_with fail;refine kb.o.mono ?_;rintro e w5 ⟨rfl,rfl⟩;go_wp2_with fail;go_ret;exact ⟨rfl,⟨A,_,c,dI.o.setCell 0 _,HB.o⟩,HK.o.setCell (p:=⟨R,0,none⟩) (.inl rfl) _⟩
theorem XL {w:World} {B R:Nat} {bs:List Int} (h:Rd w B R bs) (hn:val (bs.take 2)=0) (h2:2≤bs.length) (hm:bs.length≤100000) (cu:bo bs) (nS:Int) (hl:0≤nS):Calls Tryz.prog 145 #[.pointer (some ⟨R,0,none⟩),.int .i64 nS] w fun e w'=>e=.returned (.slice none 0 0)∧Rd w' B R (bs.drop 2)∧Kept (fun i=>i=R) w w':=by
 have HW:=aa (kd h);have HN:=aa (sZ h 2 (by omega) (by omega) (by omega) hm cu);obtain ⟨A,c,e,_⟩:=h.cell;have c0:w.cell? ⟨R,0,none⟩=some (.slice A bs.length c):=by simp [World.cell?,e]
 clear h e;go_enter Tryz.func145,Tryz.ntmps145;go_wp2_with fail;refine HW.o.mono ?_;rintro e w1 ⟨rfl,rfl⟩;go_wp2_with fail;refine HN.o.mono ?_;rintro e w2 ⟨rfl,hr,hk⟩;rw [hn];have oe:=aa hk;have dI:=aa hr;have iL:=aa (kd hr);have aO:=aa (Xp hr);have hng:¬nS < ((0:Nat):Int):=by omega
 have ace:¬nS < (0:Int):=by omega
 clear hr hk c0;go_wp2_with fail;refine iL.o.mono ?_;rintro e w3 ⟨rfl,rfl⟩;go_wp2_with fail;refine aO.o.mono ?_;rintro e w4 ⟨rfl,rfl⟩;go_wp2_with fail;refine iL.o.mono ?_;rintro e w5 ⟨rfl,rfl⟩;go_wp2_with fail;go_ret;exact ⟨rfl,dI.o,oe.o⟩
theorem Nw {w:World} {B R:Nat} {s:Option (List Int)} (h:RX w B R s):(eF s).1.length≤100000:=by
 cases s with
 | none=>simp [eF]
 | some b =>
   unfold eF;dsimp only;split
   ·simp
   ·rw [fv,List.length_drop];have:=h.2.2;omega
theorem iP (w:World) (B:Nat):w.ownsRow B 5 1 (.slice none 0 0) 0 (aP []):=⟨rfl,.inl ⟨rfl,rfl⟩⟩
theorem XJ {w:World} {B R:Nat} {s:Option (List Int)} (h:RX w B R s) (nS:Int) (hl:65535≤nS):Calls Tryz.prog 145 #[.pointer (some ⟨R,0,none⟩),.int .i64 nS] w fun e w'=>∃A c,e=.returned (.slice A (eF s).1.length c)∧w'.ownsRow w.heap.size 5 1 (.slice A (eF s).1.length c) (eF s).1.length (aP (eF s).1)∧RX w' B R (eF s).2∧Kept (fun i=>i=R) w w':=by
 cases s with
 | none=>exact (XK h nS).mono fun e w' ⟨h1,h2⟩=>⟨none,0,h1,iP _ _,by rw [h2];exact h,by rw [h2];exact Kept.refl _ _⟩
 | some b =>
   obtain ⟨hd,cu,hm⟩:=h;by_cases h2:b.length < 2
   ·rw [show eF (some b)=([],none) from if_pos (.inl h2)];exact (M7 hd h2 nS).mono fun e w' ⟨h1,h2⟩=>⟨none,0,h1,iP _ _,h2⟩
   ·have hv:=qU (b.take 2) fun y hy=>cu y (List.mem_of_mem_take hy);rw [fv,Nat.min_eq_left (by omega)] at hv;obtain ⟨n,hn⟩:∃n,n=val (b.take 2):=⟨_,rfl⟩
    rw [←hn] at hv;by_cases h3:b.length < 2+n
    ·rw [show eF (some b)=([],none) from if_pos (.inr (by rw [←hn];exact h3))];exact (Ph hd n hn.symm (by omega) (by omega) h3 hm cu nS (by omega)).mono fun e w' ⟨h1,h2⟩=>⟨none,0,h1,iP _ _,h2⟩
    ·rw [show eF (some b)=((b.drop 2).take n,some ((b.drop 2).drop n)) by rw [hn];exact if_neg (by rw [←hn];omega)];have hX:∀w',Rd w' B R ((b.drop 2).drop n)→RX w' B R (some ((b.drop 2).drop n)):=fun w' h=>⟨h,fun z hz=>cu z (List.mem_of_mem_drop (List.mem_of_mem_drop hz)),by rw [List.length_drop,List.length_drop];omega⟩
     have hlen:((b.drop 2).take n).length=n:=by rw [fv,List.length_drop];omega
     by_cases h0:n=0
     ·subst h0;refine (XL hd hn.symm (by omega) hm cu nS (by omega)).mono fun e w' ⟨h1,h2,h3⟩=>⟨none,0,by rw [h1,hlen],?_,hX w' h2,h3⟩
      rw [hlen,List.take_zero];exact iP _ _
     ·refine (CZ hd n hn.symm (by omega) (by omega) hm cu nS (by omega)).mono fun e w' ⟨v,h1,h2,h3,h4⟩=>?_;obtain ⟨A,c,rfl,_,_⟩:=aH h2;exact ⟨A,c,by rw [h1,hlen],by rw [hlen];exact h2,hX w' h3,h4⟩
theorem aag {w:World} {B R:Nat} (h:Re w B R):Calls Tryz.prog 146 #[.pointer (some ⟨R,0,none⟩)] w fun e w'=>e=.returned (.int .i64 1)∧w'=w:=by
 obtain ⟨A,n,c,h,_⟩:=h;have c0:w.cell? ⟨R,0,none⟩=some (.slice A n c):=h.cell 0;have c1:w.cell? ⟨R,1,none⟩=some (.int .i64 1):=h.cell 1;clear h;go_enter Tryz.func146,Tryz.ntmps146;go_wp2_with fail;go_ret;exact ⟨rfl,rfl⟩
theorem Ub {w:World} {B R:Nat} {bs:List Int} (h:Rd w B R bs) (h0:0 < bs.length):Calls Tryz.prog 146 #[.pointer (some ⟨R,0,none⟩)] w fun e w'=>e=.returned (.int .i64 2)∧w'=w:=by
 obtain ⟨A,c,e,_⟩:=h.cell;have c0:w.cell? ⟨R,0,none⟩=some (.slice A bs.length c):=by simp [World.cell?,e]
 have c1:w.cell? ⟨R,1,none⟩=some (.int .i64 0):=by simp [World.cell?,e]
 have i0:(0:Int) < (bs.length:Int):=by omega
 clear h e;go_enter Tryz.func146,Tryz.ntmps146;go_wp2_with fail;go_ret;exact ⟨rfl,rfl⟩
theorem Vw {w:World} {B R:Nat} {s:Option (List Int)} (h:RX w B R s):Calls Tryz.prog 146 #[.pointer (some ⟨R,0,none⟩)] w fun e w'=>e=.returned (.int .i64 (lf s))∧w'=w:=by
 cases s with
 | none=>exact aag h
 | some b =>
   by_cases h0:b.length=0
   ·obtain rfl:b=[]:=List.length_eq_zero_iff.1 h0;exact Wc h.1
   ·rw [show lf (some b)=2 from if_neg h0];exact Ub h.1 (by omega)
structure PX (w:World) (R:Nat) (xs:List Value) (s:Option (List Int)) (wk:World):Prop where
 rd:RX wk (w.heap.size+1) R s
 row:Row wk w.heap.size 26 xs
 aI:Below w.heap.size w wk
theorem PX.step {w:World} {R:Nat} {xs:List Value} {s s':Option (List Int)} {wk zM:World} (h:PX w R xs s wk) (hr:RX zM (w.heap.size+1) R s') (hk:Kept (fun i=>i=R) wk zM):PX w R xs s' zM where
 rd:=hr
 row:=h.row.kept hk (by have:=h.rd.lt;omega)
 aI:=h.aI.trans (hk.below h.aI.size (fun i hi e=>by have:=h.rd.lt;omega))
theorem Wn (w:World) (b:List Int) (n:Nat) (hn:b.length=n) (hm:n≤90000) (cu:bo b) (A:Option Addr) (c:Nat) (hs:Sl w w.heap.size 1 A n (aP b)) :
  Calls Tryz.prog 99 #[.slice A n c] w fun e w'=>∃(j:aw) (A':Option Addr) (c':Nat) (er:Int),e=.returned (.tuple #[j.val A' c',.int .i64 er])∧w'.ownsRow w.heap.size 5 1 (.slice A' j.code.length c') j.code.length (aP j.code)∧Below w.heap.size w w'∧(j,er)=kg b:=by
 obtain ⟨z0,j8⟩:∃z,z=rdNum 2 (some b):=⟨_,rfl⟩
 have hP:kg b=if z0.1≠19529 then (aw.none,2) else if lf (kH z0.2).2≠0 then (aw.none,lf (kH z0.2).2) else if (kH z0.2).1.right then ((kH z0.2).1,0) else (aw.none,3):=by rw [kg,←j8]
 have kK:=(Below.refl w.heap.size w).alloc (Nat.le_refl _) (.cells #[.int .i64 0,.int .i64 0,.int .i64 0,.int .i64 0,.int .i64 0,.int .i64 0,.int .i64 0,.slice none 0 0] 26);have aZ:=Row.new w 26 #[.int .i64 0,.int .i64 0,.int .i64 0,.int .i64 0,.int .i64 0,.int .i64 0,.int .i64 0,.slice none 0 0];have oc:=aa (xv (w.alloc (.cells #[.int .i64 0,.int .i64 0,.int .i64 0,.int .i64 0,.int .i64 0,.int .i64 0,.int .i64 0,.slice none 0 0] 26)) A n c b hn ((hs.below kK).more kK.size) (by omega));have eZ:=aa kK;have gy:=aa aZ;have HP:=aa hP;have HZ:=aa j8;have kN:=aa cu;have ch:=aa (show b.length≤100000 by omega);clear kK aZ hs hP j8 cu;go_enter Tryz.func99,Tryz.ntmps99;go_wp2_with fail;refine oc.o.mono ?_;rintro e w1 ⟨R,rfl,bG,mH⟩;rw [show (w.alloc (.cells #[.int .i64 0,.int .i64 0,.int .i64 0,.int .i64 0,.int .i64 0,.int .i64 0,.int .i64 0,.slice none 0 0] 26)).heap.size=w.heap.size+1 from Array.size_push _] at bG;have P1:=aa (show PX w R [.int .i64 0,.int .i64 0,.int .i64 0,.int .i64 0,.int .i64 0,.int .i64 0,.int .i64 0,.slice none 0 0] (some b) w1 from ⟨⟨bG,kN.o,ch.o⟩,gy.o.below mH gy.o.lt,eZ.o.trans (mH.mono eZ.o.size)⟩);clear bG mH;go_wp2_with fail;refine (uh P1.o.rd 2 (by omega) (by omega)).mono ?_;rintro e w2 ⟨rfl,bG,hk⟩;rw [←HZ.o] at bG ⊢;have P2:=aa (P1.o.step bG hk);clear bG hk;obtain ⟨m0,s0⟩:=z0;dsimp only at P2 HP ⊢;by_cases Au:m0=19529
 case neg =>
  have hmi:¬((m0:Int)=19529):=by omega
  have acj:((m0:Int)==19529)=false:=by simpa using hmi
  have aci:((m0:Int) != 19529)=true:=by simpa using hmi
  have HE:=aa (show kg b=(aw.none,2) by rw [HP.o];exact if_pos Au);have HX:=aa P2.o.row;go_wp2_with (refine aF rfl 26 (.tmp 2) (.tmp 12) rfl w.heap.size 0 #[.int .i64 0,.int .i64 0,.int .i64 0,.int .i64 0,.int .i64 0,.int .i64 0,.int .i64 0,.slice none 0 0] rfl rfl P2.o.row (by kernel_rfl) (by simp) (by simp [Value.oneCell']) [.int .i64 0,.int .i64 0,.int .i64 0,.int .i64 0,.int .i64 0,.int .i64 0,.int .i64 0,.slice none 0 0] (by simp) ?_);have hk:=fV (Kept.refl (fun i=>i=w.heap.size) w2) (g:=w.heap.size) (Or.inl rfl) #[.int .i64 0,.int .i64 0,.int .i64 0,.int .i64 0,.int .i64 0,.int .i64 0,.int .i64 0,.slice none 0 0];refine bodyPost_ret (aM rfl _ _ w.heap.size _ _ _ _ _ rfl rfl ((P2.o.row).setRow [.int .i64 0,.int .i64 0,.int .i64 0,.int .i64 0,.int .i64 0,.int .i64 0,.int .i64 0,.slice none 0 0]) Tryz.underlying26 rfl (by kernel_rfl)) rfl ?_;exact ⟨aw.none,none,0,_,rfl,⟨rfl,.inl ⟨rfl,rfl⟩⟩,(P2.o.aI).trans (hk.below (P2.o.aI).size (fun i h e=>by have e':i=w.heap.size:=e;omega)),(HE.o).symm⟩
 case pos =>
  subst Au;have hP:=HP.o;rw [if_neg (by simp)] at hP;obtain ⟨I,hI⟩:∃I,I=kH s0:=⟨_,rfl⟩
  rw [←hI] at hP;have HI:=aa hI;have Be:=aa hP;clear hP hI;go_wp2_with fail;refine (uh P2.o.rd 1 (by omega) (by omega)).mono ?_;rintro e w3 ⟨rfl,bG,hk⟩;have P3:=aa (P2.o.step bG hk);clear bG hk;obtain ⟨n1,Er⟩:∃v,v=(rdNum 1 s0).1:=⟨_,rfl⟩
  obtain ⟨s1,jE⟩:∃v,v=(rdNum 1 s0).2:=⟨_,rfl⟩
  rw [←jE] at P3;rw [←Er];have RT:=aa Er;have mU:=aa jE;clear Er jE;go_wp2_with fail;refine (uh P3.o.rd 2 (by omega) (by omega)).mono ?_;rintro e w4 ⟨rfl,bG,hk⟩;have P4:=aa (P3.o.step bG hk);clear bG hk;obtain ⟨n2,Gz⟩:∃v,v=(rdNum 2 s1).1:=⟨_,rfl⟩
  obtain ⟨s2,oy⟩:∃v,v=(rdNum 2 s1).2:=⟨_,rfl⟩
  rw [←oy] at P4;rw [←Gz];have yc:=aa Gz;have jJ:=aa oy;clear Gz oy;go_wp2_with fail;refine (uh P4.o.rd 2 (by omega) (by omega)).mono ?_;rintro e w5 ⟨rfl,bG,hk⟩;have P5:=aa (P4.o.step bG hk);clear bG hk;obtain ⟨n3,hn3⟩:∃v,v=(rdNum 2 s2).1:=⟨_,rfl⟩
  obtain ⟨s3,xH⟩:∃v,v=(rdNum 2 s2).2:=⟨_,rfl⟩
  rw [←xH] at P5;rw [←hn3];have HN3:=aa hn3;have EU:=aa xH;clear hn3 xH;go_wp2_with fail;refine (uh P5.o.rd 1 (by omega) (by omega)).mono ?_;rintro e w6 ⟨rfl,bG,hk⟩;have P6:=aa (P5.o.step bG hk);clear bG hk;obtain ⟨n4,zr⟩:∃v,v=(rdNum 1 s3).1:=⟨_,rfl⟩
  obtain ⟨s4,Gv⟩:∃v,v=(rdNum 1 s3).2:=⟨_,rfl⟩
  rw [←Gv] at P6;rw [←zr];have HN4:=aa zr;have tC:=aa Gv;clear zr Gv;go_wp2_with fail;refine (uh P6.o.rd 1 (by omega) (by omega)).mono ?_;rintro e w7 ⟨rfl,bG,hk⟩;have P7:=aa (P6.o.step bG hk);clear bG hk;obtain ⟨n5,hn5⟩:∃v,v=(rdNum 1 s4).1:=⟨_,rfl⟩
  obtain ⟨s5,hs5⟩:∃v,v=(rdNum 1 s4).2:=⟨_,rfl⟩
  rw [←hs5] at P7;rw [←hn5];have HN5:=aa hn5;have rT:=aa hs5;clear hn5 hs5;go_wp2_with fail;refine (uh P7.o.rd 1 (by omega) (by omega)).mono ?_;rintro e w8 ⟨rfl,bG,hk⟩;have P8:=aa (P7.o.step bG hk);clear bG hk;obtain ⟨n6,hn6⟩:∃v,v=(rdNum 1 s5).1:=⟨_,rfl⟩
  obtain ⟨s6,hs6⟩:∃v,v=(rdNum 1 s5).2:=⟨_,rfl⟩
  rw [←hs6] at P8;rw [←hn6];have HN6:=aa hn6;have vu:=aa hs6;clear hn6 hs6;go_wp2_with fail;refine (uh P8.o.rd 1 (by omega) (by omega)).mono ?_;rintro e w9 ⟨rfl,bG,hk⟩;have P9:=aa (P8.o.step bG hk);clear bG hk;obtain ⟨n7,hn7⟩:∃v,v=(rdNum 1 s6).1:=⟨_,rfl⟩
  obtain ⟨s7,hs7⟩:∃v,v=(rdNum 1 s6).2:=⟨_,rfl⟩
  rw [←hs7] at P9;rw [←hn7];have HN7:=aa hn7;have HS7:=aa hs7;clear hn7 hs7;go_wp2_with fail;obtain ⟨Pe,JH⟩:∃v,v=w9.alloc (.cells #[.int .i64 (n1:Nat),.int .i64 (n2:Nat),.int .i64 (n3:Nat),.int .i64 (n4:Nat),.int .i64 (n5:Nat),.int .i64 (n6:Nat),.int .i64 (n7:Nat),.slice none 0 0] 26):=⟨_,rfl⟩
  rw [←JH];have NX:Row Pe w9.heap.size 26 [.int .i64 (n1:Nat),.int .i64 (n2:Nat),.int .i64 (n3:Nat),.int .i64 (n4:Nat),.int .i64 (n5:Nat),.int .i64 (n6:Nat),.int .i64 (n7:Nat),.slice none 0 0]:=by rw [JH];exact Row.new w9 _ _
  have Oh:=P9.o.step (zM:=Pe) (by rw [JH];exact P9.o.rd.below ((Below.refl w9.heap.size w9).alloc (Nat.le_refl _) _)) (by rw [JH];exact (Kept.refl _ w9).alloc _);have hR5:=P9.o.rd.lt.1;clear JH;refine (XJ Oh.rd 65535 (by omega)).mono ?_;rintro e uH ⟨A',c',rfl,ho,bG,hk⟩;obtain ⟨code,N7⟩:∃v,v=(eF s7).1:=⟨_,rfl⟩
  obtain ⟨s8,hs8⟩:∃v,v=(eF s7).2:=⟨_,rfl⟩
  have pM:=Nw Oh.rd;rw [←hs8] at bG;rw [←N7] at ho pM ⊢
  have hII:I=(⟨(n1:Int),(n2:Int),(n3:Int),(n4:Int),(n5:Int),(n6:Int),(n7:Int),code⟩,s8):=by
   rw [HI.o,kH,N7,hs8,HS7.o,vu.o,rT.o,tC.o,EU.o,jJ.o,mU.o,HN7.o,HN6.o,HN5.o,HN4.o,HN3.o,yc.o,RT.o,vu.o,rT.o,tC.o,EU.o,jJ.o,mU.o]
  have HII:=aa hII;clear hII N7 hs8;have hob:∀k,(Value.slice A' code.length c').ownBlock=some k→Pe.heap.size≤k:=Fu ho;have Ek:=NX.kept hk (by intro h;exact Nat.ne_of_gt hR5 h);have Y5:=Oh.step bG hk;have HL9:=aa P9.o.row.lt;have Uz:=aa NX.lt;have wL:=aa hR5;clear hR5 NX Oh bG hk;have f5:=Ek.frozen 7;have n5':=Ek.cell 7;simp only [List.getElem?_cons_succ,List.getElem?_cons_zero] at n5';have l5:=Ek.lt;have HO:=aa ho;have OR:=aa Y5;have rU:=aa Ek;have HOB:=aa hob;clear ho Y5 Ek hob;go_wp2_with fail;obtain ⟨F0,yL⟩:∃v,v=uH.setCell ⟨w9.heap.size,7,none⟩ (.slice A' code.length c'):=⟨_,rfl⟩
  rw [←yL];have FJ:Kept (fun i=>i=w9.heap.size) uH F0:=by rw [yL];exact Kept.setCell (Kept.refl (fun i=>i=w9.heap.size) uH) (Or.inl rfl) _
  have aZ:=rU.o.setCell 7 (.slice A' code.length c');rw [←yL] at aZ;simp only [List.set_cons_succ,List.set_cons_zero] at aZ;have Vc:=OR.o.rd.kept FJ (fun i h1 h2 e=>by have e':i=w9.heap.size:=e;have:=wL.o;omega);have Yr:=OR.o.row.kept FJ (by intro h;exact absurd h (Nat.ne_of_lt HL9.o));have Y1:=OR.o.aI.trans (FJ.below OR.o.aI.size (fun i h e=>by have e':i=w9.heap.size:=e;have:=HL9.o;omega));have YK:=FJ.own HO.o (fun k h e=>by have e':k=w9.heap.size:=e;have:=HOB.o k h;have:=Uz.o;omega);clear yL f5 n5' l5;refine (Vw Vc).mono ?_;rintro e vG ⟨rfl,rfl⟩;have gy:=aa aZ;have HX:=aa Yr;have HB:=aa Y1;have kG:=aa YK;have acA:=aa FJ;have hP:=Be.o;rw [HII.o] at hP;dsimp only at hP;obtain ⟨er,Mk⟩:∃v,v=lf s8:=⟨_,rfl⟩
  rw [←Mk] at hP ⊢;clear Mk;have tE:=aa hP;clear hP;have m0:=aZ.cell 0;have m1:=aZ.cell 1;have m2:=aZ.cell 2;have m3:=aZ.cell 3;have m4:=aZ.cell 4;have m5:=aZ.cell 5;have m6:=aZ.cell 6;have m7:=aZ.cell 7;simp only [List.getElem?_cons_succ,List.getElem?_cons_zero] at m0 m1 m2 m3 m4 m5 m6 m7;clear aZ Yr Y1 YK FJ Vc;by_cases h0:er=0
  case neg =>
   have HE:=aa (show kg b=(aw.none,er) by rw [tE.o];exact if_pos h0);have h0b:(er != 0)=true:=by simpa using h0
   have h0c:(er==0)=false:=by simpa using h0
   go_wp2_with (refine aF rfl 26 (.tmp 2) (.tmp 35) rfl w.heap.size 0 #[.int .i64 0,.int .i64 0,.int .i64 0,.int .i64 0,.int .i64 0,.int .i64 0,.int .i64 0,.slice none 0 0] rfl rfl HX.o (by kernel_rfl) (by simp) (by simp [Value.oneCell']) [.int .i64 0,.int .i64 0,.int .i64 0,.int .i64 0,.int .i64 0,.int .i64 0,.int .i64 0,.slice none 0 0] (by simp) ?_);have hk:=fV (Kept.refl (fun i=>i=w.heap.size) vG) (g:=w.heap.size) (Or.inl rfl) #[.int .i64 0,.int .i64 0,.int .i64 0,.int .i64 0,.int .i64 0,.int .i64 0,.int .i64 0,.slice none 0 0];refine bodyPost_ret (aM rfl _ _ w.heap.size _ _ _ _ _ rfl rfl ((HX.o).setRow [.int .i64 0,.int .i64 0,.int .i64 0,.int .i64 0,.int .i64 0,.int .i64 0,.int .i64 0,.slice none 0 0]) Tryz.underlying26 rfl (by kernel_rfl)) rfl ?_;exact ⟨aw.none,none,0,_,rfl,⟨rfl,.inl ⟨rfl,rfl⟩⟩,(HB.o).trans (hk.below (HB.o).size (fun i h e=>by have e':i=w.heap.size:=e;omega)),(HE.o).symm⟩
  case pos =>
   subst h0;have hP:=tE.o;rw [if_neg (by simp)] at hP;have MN:=aa hP;clear hP;go_wp2_with fail;obtain ⟨J,hJ⟩:∃J:aw,J=⟨(n1:Int),(n2:Int),(n3:Int),(n4:Int),(n5:Int),(n6:Int),(n7:Int),code⟩:=⟨_,rfl⟩
   have ez:=aa (show Calls Tryz.prog 75 #[.agg #[.int .i64 (n1:Nat),.int .i64 (n2:Nat),.int .i64 (n3:Nat),.int .i64 (n4:Nat),.int .i64 (n5:Nat),.int .i64 (n6:Nat),.int .i64 (n7:Nat),.slice A' code.length c']] vG fun e w'=>e=.returned (.bool (decide J.right))∧Below vG.heap.size vG w' by
    rw [hJ]
    exact ft vG ⟨(n1:Int),(n2:Int),(n3:Int),(n4:Int),(n5:Int),(n6:Int),(n7:Int),code⟩ A' c' (by simp only;omega))
   have hP:=MN.o;rw [←hJ] at hP;have HP4:=aa hP;have HJ:=aa hJ;clear hP hJ;refine ez.o.mono ?_;rintro e DJ ⟨rfl,AD⟩;have aZ:=gy.o.below AD gy.o.lt;have ON:=aa (HX.o.below AD HX.o.lt);have OX:=aa (HB.o.trans (AD.mono HB.o.size));have abG:=aa (lj kG.o AD);clear m0 m1 m2 m3 m4 m5 m6 m7 AD;have m0:=aZ.cell 0;have m1:=aZ.cell 1;have m2:=aZ.cell 2;have m3:=aZ.cell 3;have m4:=aZ.cell 4;have m5:=aZ.cell 5;have m6:=aZ.cell 6;have m7:=aZ.cell 7;simp only [List.getElem?_cons_succ,List.getElem?_cons_zero] at m0 m1 m2 m3 m4 m5 m6 m7;clear aZ;by_cases hr:J.right
   case neg =>
    have HE:=aa (show kg b=(aw.none,3) by rw [HP4.o];exact if_neg hr);have bG:decide J.right=false:=by simpa using hr
    rw [bG];go_wp2_with (refine aF rfl 26 (.tmp 2) (.tmp 40) rfl w.heap.size 0 #[.int .i64 0,.int .i64 0,.int .i64 0,.int .i64 0,.int .i64 0,.int .i64 0,.int .i64 0,.slice none 0 0] rfl rfl ON.o (by kernel_rfl) (by simp) (by simp [Value.oneCell']) [.int .i64 0,.int .i64 0,.int .i64 0,.int .i64 0,.int .i64 0,.int .i64 0,.int .i64 0,.slice none 0 0] (by simp) ?_);have hk:=fV (Kept.refl (fun i=>i=w.heap.size) DJ) (g:=w.heap.size) (Or.inl rfl) #[.int .i64 0,.int .i64 0,.int .i64 0,.int .i64 0,.int .i64 0,.int .i64 0,.int .i64 0,.slice none 0 0];refine bodyPost_ret (aM rfl _ _ w.heap.size _ _ _ _ _ rfl rfl ((ON.o).setRow [.int .i64 0,.int .i64 0,.int .i64 0,.int .i64 0,.int .i64 0,.int .i64 0,.int .i64 0,.slice none 0 0]) Tryz.underlying26 rfl (by kernel_rfl)) rfl ?_;exact ⟨aw.none,none,0,_,rfl,⟨rfl,.inl ⟨rfl,rfl⟩⟩,(OX.o).trans (hk.below (OX.o).size (fun i h e=>by have e':i=w.heap.size:=e;omega)),(HE.o).symm⟩
   case pos =>
    have HE:=aa (show kg b=(J,0) by rw [HP4.o];exact if_pos hr);have bG:decide J.right=true:=by simpa using hr
    rw [bG];go_wp2_with (refine aF rfl 26 (.tmp 2) (.tmp 41) rfl w.heap.size 0 #[.int .i64 (n1:Nat),.int .i64 (n2:Nat),.int .i64 (n3:Nat),.int .i64 (n4:Nat),.int .i64 (n5:Nat),.int .i64 (n6:Nat),.int .i64 (n7:Nat),(.slice A' code.length c')] rfl rfl ON.o (by kernel_rfl) (by simp) (by simp [Value.oneCell']) [.int .i64 (n1:Nat),.int .i64 (n2:Nat),.int .i64 (n3:Nat),.int .i64 (n4:Nat),.int .i64 (n5:Nat),.int .i64 (n6:Nat),.int .i64 (n7:Nat),(.slice A' code.length c')] (by simp) ?_);have hk:=fV (Kept.refl (fun i=>i=w.heap.size) DJ) (g:=w.heap.size) (Or.inl rfl) #[.int .i64 (n1:Nat),.int .i64 (n2:Nat),.int .i64 (n3:Nat),.int .i64 (n4:Nat),.int .i64 (n5:Nat),.int .i64 (n6:Nat),.int .i64 (n7:Nat),(.slice A' code.length c')];have aaL:=hk.own abG.o (fun k h e=>by have e':k=w.heap.size:=e;have:=HOB.o k h;have:=HL9.o;have:=Uz.o;omega);refine bodyPost_ret (aM rfl _ _ w.heap.size _ _ _ _ _ rfl rfl (ON.o.setRow [.int .i64 (n1:Nat),.int .i64 (n2:Nat),.int .i64 (n3:Nat),.int .i64 (n4:Nat),.int .i64 (n5:Nat),.int .i64 (n6:Nat),.int .i64 (n7:Nat),(.slice A' code.length c')]) Tryz.underlying26 rfl (by kernel_rfl)) rfl ?_;refine ⟨J,A',c',0,by rw [HJ.o];rfl,?_,OX.o.trans (hk.below OX.o.size (fun i h e=>by have e':i=w.heap.size:=e;omega)),HE.o.symm⟩;rw [HJ.o];exact aaL.mono (by have:=HL9.o;have:=Uz.o;omega)
theorem Vs (w:World) (A:Option Addr) (c n:Nat) (bs:List Int) (hn:bs.length=n) (hm:n≤90000) (hc:n≤c) (cu:bo bs) (hs:Sl w w.heap.size 1 A n (aP bs)) :
  Calls Tryz.prog 54 #[.slice A n c] w fun e w'=>∃(j:aw) (A':Option Addr) (c':Nat) (er:Int),e=.returned (.tuple #[j.val A' c',.int .i64 er])∧w'.ownsRow w.heap.size 5 1 (.slice A' j.code.length c') j.code.length (aP j.code)∧Below w.heap.size w w'∧(j,er)=b9 bs:=by
 by_cases Ms:n < 36
 ·exact (Q4 w A c n Ms).mono fun e w' ⟨h1,h2⟩=>⟨aw.none,none,0,1,h1,iP _ _,h2,by rw [b9,if_pos (by omega)]⟩
 ·obtain ⟨m,rfl⟩:∃m,n=m+36:=⟨n-36,by omega⟩
  refine (get_at (fun j er=>(j,er)=kg (bs.take m)) w A c m (m+36) bs hn rfl (by omega) hc cu hs fun w' hs'=>?_).mono fun e w' ⟨j,A',c',er,h1,h2,h3,h4⟩=>⟨j,A',c',er,h1,h2,h3,?_⟩
  ·exact Wn w' (bs.take m) m (by rw [fv];omega) (by omega) (fun z hz=>cu z (List.mem_of_mem_take hz)) A c hs'
  ·rw [b9,if_neg (by omega),show bs.length-36=m by omega];unfold Lg at h4;split at h4
   ·rw [if_pos (by assumption)];exact h4
   ·rw [if_neg (by assumption)];obtain ⟨rfl,rfl⟩:=h4;rfl
theorem lM {k m:Nat} (hm:m < 256 ^ k) (rest:List Int):rdNum k (some (be k m++rest))=(m,some rest):=by
 unfold rdNum;dsimp only;rw [if_neg (by rw [gA,bp];omega),List.take_left' (bp k m),List.drop_left' (bp k m),zO k m hm]
theorem PM {code:List Int} (hm:code.length < 65536):eF (some (be 2 code.length++code))=(code,some []):=by
 unfold eF;dsimp only;rw [List.take_left' (bp 2 _),List.drop_left' (bp 2 _),zO 2 _ (by omega),if_neg (by rw [gA,bp];omega),List.take_length,List.drop_length]
theorem NH (i:aw) (hr:i.right):kg i.head=(i,0):=by
 have rA:=hr;obtain ⟨part,version,aY,mem,fuel,aN,aB,code⟩:=i;obtain ⟨⟨a0,a1⟩,⟨b0,b1⟩,⟨c0,c1⟩,⟨d0,d1⟩,⟨e0,e1⟩,⟨f0,f1⟩,⟨g0,g1⟩,⟨h0,h1⟩⟩:=hr;simp only at *;obtain ⟨p,rfl⟩:∃p:Nat,part=p:=⟨part.toNat,by omega⟩
 obtain ⟨ve,rfl⟩:∃p:Nat,version=p:=⟨version.toNat,by omega⟩
 obtain ⟨ha,rfl⟩:∃p:Nat,aY=p:=⟨aY.toNat,by omega⟩
 obtain ⟨me,rfl⟩:∃p:Nat,mem=p:=⟨mem.toNat,by omega⟩
 obtain ⟨fu,rfl⟩:∃p:Nat,fuel=p:=⟨fuel.toNat,by omega⟩
 obtain ⟨se,rfl⟩:∃p:Nat,aN=p:=⟨aN.toNat,by omega⟩
 obtain ⟨re,rfl⟩:∃p:Nat,aB=p:=⟨aB.toNat,by omega⟩
 have hH:aw.head ⟨(p:Int),(ve:Int),(ha:Int),(me:Int),(fu:Int),(se:Int),(re:Int),code⟩=be 2 19529++(be 1 p++(be 2 ve++(be 2 ha++(be 1 me++(be 1 fu++(be 1 se++(be 1 re++(be 2 code.length++code)))))))):=by
  simp only [aw.head,ea,List.append_assoc]
 have hI:kH (some (be 1 p++(be 2 ve++(be 2 ha++(be 1 me++(be 1 fu++(be 1 se++(be 1 re++(be 2 code.length++code)))))))))=(⟨(p:Int),(ve:Int),(ha:Int),(me:Int),(fu:Int),(se:Int),(re:Int),code⟩,some []):=by
  unfold kH;simp only [lM (k:=1) (m:=p) (by omega),lM (k:=2) (m:=ve) (by omega),lM (k:=2) (m:=ha) (by omega),lM (k:=1) (m:=me) (by omega),lM (k:=1) (m:=fu) (by omega),lM (k:=1) (m:=se) (by omega),lM (k:=1) (m:=re) (by omega),PM (code:=code) (by omega)]
 rw [hH,kg,lM (k:=2) (m:=19529) (by omega)];dsimp only;rw [hI,if_neg (by simp),if_neg (by simp [lf]),if_pos rA]
theorem GJ (i:aw) (hr:i.right):b9 i.bytes=(i,0):=by
 have hl:=mS i;unfold b9;rw [if_neg (by omega),if_pos (by rw [aw.bytes,Nj,Nl];rfl),show i.bytes.length-36=i.head.length by rw [vg];omega,aw.bytes,Ll];exact NH i hr
theorem Oj {b:List Int} {j:aw} (h:b9 b=(j,0)):j.right:=by
 unfold b9 at h;split at h
 ·simp at h
 ·split at h
  ·unfold kg at h;split at h
   ·simp at h
   ·split at h
    ·rename_i h0
     rw [Prod.mk.injEq] at h;exact absurd h.2 h0
    ·split at h
     ·rename_i hr
      rw [Prod.mk.injEq] at h;rw [←h.1];exact hr
     ·simp at h
  ·simp at h
end image
end Go.Proofs.YtdldkkoplgkloaaGreat
