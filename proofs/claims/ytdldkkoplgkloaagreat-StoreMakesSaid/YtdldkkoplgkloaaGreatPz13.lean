/-
  PROVED HERE: lemmas and contracts that the law's proof leans on (texts put together: ImageParse).
  CONDITIONS: each names its own.
-/
import Derived.Test.YtdldkkoplgkloaaGreatPz12
namespace Go.Proofs.YtdldkkoplgkloaaGreat
set_option linter.unusedVariables false
set_option linter.unusedSimpArgs false
set_option maxRecDepth 100000
set_option maxHeartbeats 32000000
namespace image


open Go.RowKit Go.Deep base obj mem sep crc num bytes plan chain
def rdNum (k:Nat):Option (List Int)→Nat×Option (List Int)
 | .none=>(0,.none)
 | .some b=>if b.length < k then (0,.none) else (val (b.take k),.some (b.drop k))
def rdText:Option (List Int)→List Int×Option (List Int)
 | .none=>([],.none)
 | .some b=>if b.length < 2∨b.length < 2+val (b.take 2) then ([],.none) else ((b.drop 2).take (val (b.take 2)),.some ((b.drop 2).drop (val (b.take 2))))
def rdEnd:Option (List Int)→Int
 | .none=>1
 | .some b=>if b.length=0 then 0 else 2
def readI (s0:Option (List Int)):Img×Option (List Int) :=
 let x1:=rdNum 1 s0
 let x2:=rdNum 2 x1.2
 let x3:=rdNum 2 x2.2
 let x4:=rdNum 1 x3.2
 let x5:=rdNum 1 x4.2
 let x6:=rdNum 1 x5.2
 let x7:=rdNum 1 x6.2
 let x8:=rdText x7.2
 (⟨x1.1,x2.1,x3.1,x4.1,x5.1,x6.1,x7.1,x8.1⟩,x8.2)
def parseL (b:List Int):Img×Int :=
 if (rdNum 2 (.some b)).1≠19529 then (Img.none,2)
 else if rdEnd (readI (rdNum 2 (.some b)).2).2≠0 then (Img.none,rdEnd (readI (rdNum 2 (.some b)).2).2)
 else if (readI (rdNum 2 (.some b)).2).1.right then ((readI (rdNum 2 (.some b)).2).1,0) else (Img.none,3)
def getL (b:List Int):Img×Int:=if b.length < 36 then (Img.none,1) else if sumOk b&&digOk b then parseL (b.take (b.length-36)) else (Img.none,10)
def Re (w:World) (B R:Nat):Prop:=∃A n c,Row w R 255 [.slice A n c,.int .i64 1]∧B≤R
def RX (w:World) (B R:Nat):Option (List Int)→Prop
 | .none=>Re w B R
 | .some b=>Rd w B R b∧Byt b∧b.length≤100000
theorem RX.lt {w:World} {B R:Nat} {s:Option (List Int)} (h:RX w B R s):R < w.heap.size∧B≤R:=by
 cases s with
 | none=>obtain ⟨A,n,c,h,hb⟩:=h;exact ⟨h.lt,hb⟩
 | some b=>exact ⟨h.1.lt,h.1.base⟩
theorem RX.kept {w w':World} {B R:Nat} {s:Option (List Int)} {S:Nat→Prop} (h:RX w B R s) (k:Kept S w w') (hS:∀i,B≤i→i≤R→¬S i):RX w' B R s:=by
 cases s with
 | none=>obtain ⟨A,n,c,h,hb⟩:=h;exact ⟨A,n,c,h.kept k (hS R hb (Nat.le_refl _)),hb⟩
 | some b=>exact ⟨h.1.kept k hS,h.2⟩
theorem RX.below {w w':World} {B R:Nat} {s:Option (List Int)} (h:RX w B R s) (k:Below w.heap.size w w'):RX w' B R s :=
 h.kept (Kept.of_below k (fun _=>False)) fun _ _ _ h=>h
theorem well_e {w:World} {B R:Nat} (h:Re w B R):Calls Tryz.prog 182 #[.pointer (some ⟨R,0,none⟩)] w fun e w'=>e=.returned (.bool false)∧w'=w:=by
 obtain ⟨A,n,c,h,_⟩:=h
 have c1:w.cell? ⟨R,1,none⟩=some (.int .i64 1):=h.cell 1
 clear h
 go_enter Tryz.func182,Tryz.ntmps182
 go_wp2_with (fail)
 go_ret
 exact ⟨rfl,rfl⟩
theorem bytes_e {w:World} {B R:Nat} (h:Re w B R) (n:Int):Calls Tryz.prog 181 #[.pointer (some ⟨R,0,none⟩),.int .i64 n] w fun e w'=>e=.returned (.slice none 0 0)∧w'=w:=by
 have HW:=Lib.hid (well_e h)
 clear h
 go_enter Tryz.func181,Tryz.ntmps181
 go_wp2_with (fail)
 refine HW.out.mono ?_;rintro e w' ⟨rfl,rfl⟩
 go_wp2_with (fail)
 go_ret
 exact ⟨rfl,rfl⟩
theorem bytes_0 {w:World} {B R:Nat} {bs:List Int} (h:Rd w B R bs):Calls Tryz.prog 181 #[.pointer (some ⟨R,0,none⟩),.int .i64 0] w fun e w'=>e=.returned (.slice none 0 0)∧w'=w:=by
 have HW:=Lib.hid (well_at h)
 clear h
 go_enter Tryz.func181,Tryz.ntmps181
 go_wp2_with (fail)
 refine HW.out.mono ?_;rintro e w' ⟨rfl,rfl⟩
 go_wp2_with (fail)
 go_ret
 exact ⟨rfl,rfl⟩
theorem fail_at {w:World} {B R:Nat} {bs:List Int} (h:Rd w B R bs):Calls Tryz.prog 183 #[.pointer (some ⟨R,0,none⟩),.int .i64 1] w fun e w'=>e=.returned (.tuple #[])∧Re w' B R∧Kept (fun i=>i=R) w w':=by
 have HW:=Lib.hid (well_at h)
 obtain ⟨A,c,e,_⟩:=h.cell
 have hr:Row w R 255 [.slice A bs.length c,.int .i64 0]:=e
 have HR:=Lib.hid hr
 have HB:=Lib.hid h.base
 have hf:=hr.frozen 1
 have z1:w.cell? ⟨R,1,none⟩=some (.int .i64 0):=hr.cell 1
 have hl:=hr.lt
 clear h e hr
 go_enter Tryz.func183,Tryz.ntmps183
 go_wp2_with (fail)
 refine HW.out.mono ?_;rintro e w' ⟨rfl,rfl⟩
 go_wp2_with (fail)
 go_end0
 exact ⟨rfl,⟨A,_,c,HR.out.setCell 1 (.int .i64 1),HB.out⟩,(Kept.refl (fun i=>i=R) w').setCell (p:=⟨R,1,none⟩) (.inl rfl) _⟩
theorem bytes_over {w:World} {B R:Nat} {bs:List Int} (h:Rd w B R bs) (n:Nat) (h0:0 < n) (hn:bs.length < n):Calls Tryz.prog 181 #[.pointer (some ⟨R,0,none⟩),.int .i64 n] w fun e w'=>e=.returned (.slice none 0 0)∧Re w' B R∧Kept (fun i=>i=R) w w':=by
 have HW:=Lib.hid (well_at h)
 have HF:=Lib.hid (fail_at h)
 obtain ⟨A,c,e,_⟩:=h.cell
 have hr:Row w R 255 [.slice A bs.length c,.int .i64 0]:=e
 have c0:w.cell? ⟨R,0,none⟩=some (.slice A bs.length c):=hr.cell 0
 have i0:¬(n:Int)≤0:=by omega
 have i1:(bs.length:Int) < (n:Int):=by omega
 clear h e hr
 go_enter Tryz.func181,Tryz.ntmps181
 go_wp2_with (fail)
 refine HW.out.mono ?_;rintro e w' ⟨rfl,rfl⟩
 go_wp2_with (fail)
 refine HF.out.mono ?_;rintro e w1 ⟨rfl,h1,h2⟩
 have H:=Lib.hid (And.intro h1 h2)
 clear h1 h2 c0
 go_wp2_with (fail)
 go_ret
 exact ⟨rfl,H.out⟩
theorem num_no {w:World} {R:Nat} {Q:World→Prop} (k:Nat) (h1:1≤k) (h6:k≤6)
  (h:Calls Tryz.prog 181 #[.pointer (some ⟨R,0,none⟩),.int .i64 k] w fun e w'=>e=.returned (.slice none 0 0)∧Q w') :
  Calls Tryz.prog 144 #[.pointer (some ⟨R,0,none⟩),.int .i64 k] w fun e w'=>e=.returned (.int .i64 0)∧Q w':=by
 have HH:=Lib.hid h
 clear h
 go_enter Tryz.func144,Tryz.ntmps144
 go_wp2_with (fail)
 refine (held_at _ k h1 h6).mono ?_;rintro e w' ⟨rfl,rfl⟩
 go_wp2_with (fail)
 refine HH.out.mono ?_;rintro e w1 ⟨rfl,hq⟩
 have HQ:=Lib.hid hq
 clear hq
 go_wp2_with (fail)
 go_loopw [16,6] (fun i s wr=>i=.int .i64 0∧s=.int .i64 0∧wr=w1) (fun i _ _=>0)
 case atStart=>exact ⟨rfl,rfl,rfl⟩
 case round =>
  obtain ⟨rfl,rfl,rfl⟩:=hrel
  go_wp2_with (fail)
  go_ret
  exact ⟨rfl,HQ.out⟩
theorem num_x {w:World} {B R:Nat} {s:Option (List Int)} (h:RX w B R s) (k:Nat) (h1:1≤k) (h6:k≤6):Calls Tryz.prog 144 #[.pointer (some ⟨R,0,none⟩),.int .i64 k] w fun e w'=>e=.returned (.int .i64 ((rdNum k s).1:Nat))∧RX w' B R (rdNum k s).2∧Kept (fun i=>i=R) w w':=by
 cases s with
 | none=>exact num_no k h1 h6 ((bytes_e h k).mono fun e w' ⟨h1,h2⟩=>⟨h1,by rw [h2];exact h,by rw [h2];exact Kept.refl _ _⟩)
 | some b =>
   by_cases hk:b.length < k
   ·rw [show rdNum k (some b)=(0,none) from if_pos hk]
    exact num_no k h1 h6 (bytes_over h.1 k (by omega) hk)
   ·rw [show rdNum k (some b)=(val (b.take k),some (b.drop k)) from if_neg hk]
    exact (num_at h.1 k h1 h6 (by omega) h.2.2 h.2.1).mono fun e w' ⟨e1,e2,e3⟩=>⟨e1,⟨e2,fun z hz=>h.2.1 z (List.mem_of_mem_drop hz),by rw [List.length_drop];have:=h.2.2;omega⟩,e3⟩
theorem Re.cells {w:World} {B R:Nat} (h:Re w B R):∃A n c,Row w R 255 [.slice A n c,.int .i64 1]∧B≤R:=h
theorem text_e {w:World} {B R:Nat} (h:Re w B R) (lim:Int):Calls Tryz.prog 145 #[.pointer (some ⟨R,0,none⟩),.int .i64 lim] w fun e w'=>e=.returned (.slice none 0 0)∧w'=w:=by
 have HW:=Lib.hid (well_e h)
 clear h
 go_enter Tryz.func145,Tryz.ntmps145
 go_wp2_with (fail)
 refine HW.out.mono ?_;rintro e w1 ⟨rfl,rfl⟩
 go_wp2_with (fail)
 go_ret
 exact ⟨rfl,rfl⟩
theorem text_short {w:World} {B R:Nat} {bs:List Int} (h:Rd w B R bs) (hs:bs.length < 2) (lim:Int):Calls Tryz.prog 145 #[.pointer (some ⟨R,0,none⟩),.int .i64 lim] w fun e w'=>e=.returned (.slice none 0 0)∧Re w' B R∧Kept (fun i=>i=R) w w':=by
 have HW:=Lib.hid (well_at h)
 have HN:=Lib.hid (num_no 2 (by omega) (by omega) (bytes_over h 2 (by omega) hs))
 obtain ⟨A,c,e,_⟩:=h.cell
 have c0:w.cell? ⟨R,0,none⟩=some (.slice A bs.length c):=by simp [World.cell?,e]
 clear h e
 go_enter Tryz.func145,Tryz.ntmps145
 go_wp2_with (fail)
 refine HW.out.mono ?_;rintro e w1 ⟨rfl,rfl⟩
 go_wp2_with (fail)
 refine HN.out.mono ?_;rintro e w2 ⟨rfl,hr,hk⟩
 have HW2:=Lib.hid (well_e hr);have HB2:=Lib.hid (bytes_e hr 0)
 obtain ⟨A2,n2,c2,hr2,hb2⟩:=hr
 have HR2:=Lib.hid hr2;have HB:=Lib.hid hb2;have HK:=Lib.hid hk
 have f2:=hr2.frozen 0
 have z2:w2.cell? ⟨R,0,none⟩=some (.slice A2 n2 c2):=hr2.cell 0
 have l2:=hr2.lt
 clear hr2 hk c0
 go_wp2_with (fail)
 refine HW2.out.mono ?_;rintro e w3 ⟨rfl,rfl⟩
 go_wp2_with (fail)
 refine HB2.out.mono ?_;rintro e w3 ⟨rfl,rfl⟩
 go_wp2_with (fail)
 refine HW2.out.mono ?_;rintro e w3 ⟨rfl,rfl⟩
 go_wp2_with (fail)
 go_ret
 exact ⟨rfl,⟨A,_,c,HR2.out.setCell 0 _,HB.out⟩,HK.out.setCell (p:=⟨R,0,none⟩) (.inl rfl) _⟩
theorem text_over {w:World} {B R:Nat} {bs:List Int} (h:Rd w B R bs) (n:Nat) (hn:val (bs.take 2)=n) (h1:1≤n) (h2:2≤bs.length) (h3:bs.length < 2+n) (hm:bs.length≤100000) (hby:Byt bs) (lim:Int) (hl:(n:Int)≤lim):Calls Tryz.prog 145 #[.pointer (some ⟨R,0,none⟩),.int .i64 lim] w fun e w'=>e=.returned (.slice none 0 0)∧Re w' B R∧Kept (fun i=>i=R) w w':=by
 have HW:=Lib.hid (well_at h)
 have HN:=Lib.hid (num_at h 2 (by omega) (by omega) (by omega) hm hby)
 obtain ⟨A,c,e,_⟩:=h.cell
 have c0:w.cell? ⟨R,0,none⟩=some (.slice A bs.length c):=by simp [World.cell?,e]
 clear h e
 go_enter Tryz.func145,Tryz.ntmps145
 go_wp2_with (fail)
 refine HW.out.mono ?_;rintro e w1 ⟨rfl,rfl⟩
 go_wp2_with (fail)
 refine HN.out.mono ?_;rintro e w2 ⟨rfl,hr,hk⟩
 rw [hn]
 have HK2:=Lib.hid hk
 have HW2:=Lib.hid (well_at hr)
 have HB2:=Lib.hid (bytes_over hr n (by omega) (by rw [List.length_drop];omega))
 have hng:¬lim < (n:Int):=by omega
 clear hr hk c0
 go_wp2_with (fail)
 refine HW2.out.mono ?_;rintro e w3 ⟨rfl,rfl⟩
 go_wp2_with (fail)
 refine HB2.out.mono ?_;rintro e w4 ⟨rfl,hr4,hk4⟩
 have HW4:=Lib.hid (well_e hr4)
 obtain ⟨A2,n2,c2,hr2,hb2⟩:=hr4
 have HR2:=Lib.hid hr2;have HB:=Lib.hid hb2
 have HK:=Lib.hid (HK2.out.trans hk4 (fun _ h=>h) (fun _ h _=>h))
 have f2:=hr2.frozen 0
 have z2:w4.cell? ⟨R,0,none⟩=some (.slice A2 n2 c2):=hr2.cell 0
 have l2:=hr2.lt
 clear hr2 hk4
 go_wp2_with (fail)
 refine HW4.out.mono ?_;rintro e w5 ⟨rfl,rfl⟩
 go_wp2_with (fail)
 go_ret
 exact ⟨rfl,⟨A,_,c,HR2.out.setCell 0 _,HB.out⟩,HK.out.setCell (p:=⟨R,0,none⟩) (.inl rfl) _⟩
theorem text_0 {w:World} {B R:Nat} {bs:List Int} (h:Rd w B R bs) (hn:val (bs.take 2)=0) (h2:2≤bs.length) (hm:bs.length≤100000) (hby:Byt bs) (lim:Int) (hl:0≤lim):Calls Tryz.prog 145 #[.pointer (some ⟨R,0,none⟩),.int .i64 lim] w fun e w'=>e=.returned (.slice none 0 0)∧Rd w' B R (bs.drop 2)∧Kept (fun i=>i=R) w w':=by
 have HW:=Lib.hid (well_at h)
 have HN:=Lib.hid (num_at h 2 (by omega) (by omega) (by omega) hm hby)
 obtain ⟨A,c,e,_⟩:=h.cell
 have c0:w.cell? ⟨R,0,none⟩=some (.slice A bs.length c):=by simp [World.cell?,e]
 clear h e
 go_enter Tryz.func145,Tryz.ntmps145
 go_wp2_with (fail)
 refine HW.out.mono ?_;rintro e w1 ⟨rfl,rfl⟩
 go_wp2_with (fail)
 refine HN.out.mono ?_;rintro e w2 ⟨rfl,hr,hk⟩
 rw [hn]
 have HK2:=Lib.hid hk;have HR2:=Lib.hid hr
 have HW2:=Lib.hid (well_at hr)
 have HB2:=Lib.hid (bytes_0 hr)
 have hng:¬lim < ((0:Nat):Int):=by omega
 have hng2:¬lim < (0:Int):=by omega
 clear hr hk c0
 go_wp2_with (fail)
 refine HW2.out.mono ?_;rintro e w3 ⟨rfl,rfl⟩
 go_wp2_with (fail)
 refine HB2.out.mono ?_;rintro e w4 ⟨rfl,rfl⟩
 go_wp2_with (fail)
 refine HW2.out.mono ?_;rintro e w5 ⟨rfl,rfl⟩
 go_wp2_with (fail)
 go_ret
 exact ⟨rfl,HR2.out,HK2.out⟩
theorem rdText_len {w:World} {B R:Nat} {s:Option (List Int)} (h:RX w B R s):(rdText s).1.length≤100000:=by
 cases s with
 | none=>simp [rdText]
 | some b =>
   unfold rdText
   dsimp only
   split
   ·simp
   ·rw [List.length_take,List.length_drop];have:=h.2.2;omega
theorem nil_own (w:World) (B:Nat):w.ownsRow B 5 1 (.slice none 0 0) 0 (u8s []):=⟨rfl,.inl ⟨rfl,rfl⟩⟩
theorem text_x {w:World} {B R:Nat} {s:Option (List Int)} (h:RX w B R s) (lim:Int) (hl:65535≤lim):Calls Tryz.prog 145 #[.pointer (some ⟨R,0,none⟩),.int .i64 lim] w fun e w'=>∃A c,e=.returned (.slice A (rdText s).1.length c)∧w'.ownsRow w.heap.size 5 1 (.slice A (rdText s).1.length c) (rdText s).1.length (u8s (rdText s).1)∧RX w' B R (rdText s).2∧Kept (fun i=>i=R) w w':=by
 cases s with
 | none=>exact (text_e h lim).mono fun e w' ⟨h1,h2⟩=>⟨none,0,h1,nil_own _ _,by rw [h2];exact h,by rw [h2];exact Kept.refl _ _⟩
 | some b =>
   obtain ⟨hd,hby,hm⟩:=h
   by_cases h2:b.length < 2
   ·rw [show rdText (some b)=([],none) from if_pos (.inl h2)]
    exact (text_short hd h2 lim).mono fun e w' ⟨h1,h2⟩=>⟨none,0,h1,nil_own _ _,h2⟩
   ·have hv:=val_lt (b.take 2) fun y hy=>hby y (List.mem_of_mem_take hy)
    rw [List.length_take,Nat.min_eq_left (by omega)] at hv
    obtain ⟨n,hn⟩:∃n,n=val (b.take 2):=⟨_,rfl⟩
    rw [←hn] at hv
    by_cases h3:b.length < 2+n
    ·rw [show rdText (some b)=([],none) from if_pos (.inr (by rw [←hn];exact h3))]
     exact (text_over hd n hn.symm (by omega) (by omega) h3 hm hby lim (by omega)).mono fun e w' ⟨h1,h2⟩=>⟨none,0,h1,nil_own _ _,h2⟩
    ·rw [show rdText (some b)=((b.drop 2).take n,some ((b.drop 2).drop n)) by rw [hn];exact if_neg (by rw [←hn];omega)]
     have hX:∀w',Rd w' B R ((b.drop 2).drop n)→RX w' B R (some ((b.drop 2).drop n)):=fun w' h=>⟨h,fun z hz=>hby z (List.mem_of_mem_drop (List.mem_of_mem_drop hz)),by rw [List.length_drop,List.length_drop];omega⟩
     have hlen:((b.drop 2).take n).length=n:=by rw [List.length_take,List.length_drop];omega
     by_cases h0:n=0
     ·subst h0
      refine (text_0 hd hn.symm (by omega) hm hby lim (by omega)).mono fun e w' ⟨h1,h2,h3⟩=>⟨none,0,by rw [h1,hlen],?_,hX w' h2,h3⟩
      rw [hlen,List.take_zero]
      exact nil_own _ _
     ·refine (rtext_at hd n hn.symm (by omega) (by omega) hm hby lim (by omega)).mono fun e w' ⟨v,h1,h2,h3,h4⟩=>?_
      obtain ⟨A,c,rfl,_,_⟩:=own_form h2
      exact ⟨A,c,by rw [h1,hlen],by rw [hlen];exact h2,hX w' h3,h4⟩
theorem end_e {w:World} {B R:Nat} (h:Re w B R):Calls Tryz.prog 146 #[.pointer (some ⟨R,0,none⟩)] w fun e w'=>e=.returned (.int .i64 1)∧w'=w:=by
 obtain ⟨A,n,c,h,_⟩:=h
 have c0:w.cell? ⟨R,0,none⟩=some (.slice A n c):=h.cell 0
 have c1:w.cell? ⟨R,1,none⟩=some (.int .i64 1):=h.cell 1
 clear h
 go_enter Tryz.func146,Tryz.ntmps146
 go_wp2_with (fail)
 go_ret
 exact ⟨rfl,rfl⟩
theorem end_more {w:World} {B R:Nat} {bs:List Int} (h:Rd w B R bs) (h0:0 < bs.length):Calls Tryz.prog 146 #[.pointer (some ⟨R,0,none⟩)] w fun e w'=>e=.returned (.int .i64 2)∧w'=w:=by
 obtain ⟨A,c,e,_⟩:=h.cell
 have c0:w.cell? ⟨R,0,none⟩=some (.slice A bs.length c):=by simp [World.cell?,e]
 have c1:w.cell? ⟨R,1,none⟩=some (.int .i64 0):=by simp [World.cell?,e]
 have i0:(0:Int) < (bs.length:Int):=by omega
 clear h e
 go_enter Tryz.func146,Tryz.ntmps146
 go_wp2_with (fail)
 go_ret
 exact ⟨rfl,rfl⟩
theorem end_x {w:World} {B R:Nat} {s:Option (List Int)} (h:RX w B R s):Calls Tryz.prog 146 #[.pointer (some ⟨R,0,none⟩)] w fun e w'=>e=.returned (.int .i64 (rdEnd s))∧w'=w:=by
 cases s with
 | none=>exact end_e h
 | some b =>
   by_cases h0:b.length=0
   ·obtain rfl:b=[]:=List.length_eq_zero_iff.1 h0
    exact rend_at h.1
   ·rw [show rdEnd (some b)=2 from if_neg h0]
    exact end_more h.1 (by omega)
structure PX (w:World) (R:Nat) (xs:List Value) (s:Option (List Int)) (wk:World):Prop where
 rd:RX wk (w.heap.size+1) R s
 row:Row wk w.heap.size 26 xs
 bel:Below w.heap.size w wk
theorem PX.step {w:World} {R:Nat} {xs:List Value} {s s':Option (List Int)} {wk wk':World} (h:PX w R xs s wk) (hr:RX wk' (w.heap.size+1) R s') (hk:Kept (fun i=>i=R) wk wk'):PX w R xs s' wk' where
 rd:=hr
 row:=h.row.kept hk (by have:=h.rd.lt;omega)
 bel:=h.bel.trans (hk.below h.bel.size (fun i hi e=>by have:=h.rd.lt;omega))
theorem parse_x (w:World) (b:List Int) (n:Nat) (hn:b.length=n) (hm:n≤90000) (hby:Byt b) (A:Option Addr) (c:Nat) (hs:Sl w w.heap.size 1 A n (u8s b)) :
  Calls Tryz.prog 99 #[.slice A n c] w fun e w'=>∃(j:Img) (A':Option Addr) (c':Nat) (er:Int),e=.returned (.tuple #[j.val A' c',.int .i64 er])∧w'.ownsRow w.heap.size 5 1 (.slice A' j.code.length c') j.code.length (u8s j.code)∧Below w.heap.size w w'∧(j,er)=parseL b:=by
 obtain ⟨z0,hz0⟩:∃z,z=rdNum 2 (some b):=⟨_,rfl⟩
 have hP:parseL b=if z0.1≠19529 then (Img.none,2) else if rdEnd (readI z0.2).2≠0 then (Img.none,rdEnd (readI z0.2).2) else if (readI z0.2).1.right then ((readI z0.2).1,0) else (Img.none,3):=by rw [parseL,←hz0]
 have hb0:=(Below.refl w.heap.size w).alloc (Nat.le_refl _) (.cells #[.int .i64 0,.int .i64 0,.int .i64 0,.int .i64 0,.int .i64 0,.int .i64 0,.int .i64 0,.slice none 0 0] 26)
 have hrow:=Row.new w 26 #[.int .i64 0,.int .i64 0,.int .i64 0,.int .i64 0,.int .i64 0,.int .i64 0,.int .i64 0,.slice none 0 0]
 have HRD:=Lib.hid (read_at (w.alloc (.cells #[.int .i64 0,.int .i64 0,.int .i64 0,.int .i64 0,.int .i64 0,.int .i64 0,.int .i64 0,.slice none 0 0] 26)) A n c b hn ((hs.below hb0).more hb0.size) (by omega))
 have HB0:=Lib.hid hb0;have HROW:=Lib.hid hrow;have HP:=Lib.hid hP;have HZ:=Lib.hid hz0
 have HBY:=Lib.hid hby;have HBL:=Lib.hid (show b.length≤100000 by omega)
 clear hb0 hrow hs hP hz0 hby
 go_enter Tryz.func99,Tryz.ntmps99
 go_wp2_with (fail)
 refine HRD.out.mono ?_;rintro e w1 ⟨R,rfl,hrd,hbb⟩
 rw [show (w.alloc (.cells #[.int .i64 0,.int .i64 0,.int .i64 0,.int .i64 0,.int .i64 0,.int .i64 0,.int .i64 0,.slice none 0 0] 26)).heap.size=w.heap.size+1 from Array.size_push _] at hrd
 have P1:=Lib.hid (show PX w R [.int .i64 0,.int .i64 0,.int .i64 0,.int .i64 0,.int .i64 0,.int .i64 0,.int .i64 0,.slice none 0 0] (some b) w1 from ⟨⟨hrd,HBY.out,HBL.out⟩,HROW.out.below hbb HROW.out.lt,HB0.out.trans (hbb.mono HB0.out.size)⟩)
 clear hrd hbb
 go_wp2_with (fail)
 refine (num_x P1.out.rd 2 (by omega) (by omega)).mono ?_;rintro e w2 ⟨rfl,hrd,hk⟩
 rw [←HZ.out] at hrd ⊢
 have P2:=Lib.hid (P1.out.step hrd hk)
 clear hrd hk
 obtain ⟨m0,s0⟩:=z0
 dsimp only at P2 HP ⊢
 by_cases hm0:m0=19529
 case neg =>
  have hmi:¬((m0:Int)=19529):=by omega
  have hmi2:((m0:Int)==19529)=false:=by simpa using hmi
  have hmi3:((m0:Int) != 19529)=true:=by simpa using hmi
  have HE:=Lib.hid (show parseL b=(Img.none,2) by rw [HP.out];exact if_pos hm0)
  have HX:=Lib.hid P2.out.row
  go_wp2_with (refine wpList_putR rfl 26 (.tmp 2) (.tmp 12) rfl w.heap.size 0 #[.int .i64 0,.int .i64 0,.int .i64 0,.int .i64 0,.int .i64 0,.int .i64 0,.int .i64 0,.slice none 0 0] rfl rfl P2.out.row (by kernel_rfl) (by simp) (by simp [Value.oneCell']) [.int .i64 0,.int .i64 0,.int .i64 0,.int .i64 0,.int .i64 0,.int .i64 0,.int .i64 0,.slice none 0 0] (by simp) ?_)
  have hk:=kept_setRow (Kept.refl (fun i=>i=w.heap.size) w2) (g:=w.heap.size) (Or.inl rfl) #[.int .i64 0,.int .i64 0,.int .i64 0,.int .i64 0,.int .i64 0,.int .i64 0,.int .i64 0,.slice none 0 0]
  refine bodyPost_ret (res_cell_slot rfl _ _ w.heap.size _ _ _ _ _ rfl rfl ((P2.out.row).setRow [.int .i64 0,.int .i64 0,.int .i64 0,.int .i64 0,.int .i64 0,.int .i64 0,.int .i64 0,.slice none 0 0]) Tryz.underlying26 rfl (by kernel_rfl)) rfl ?_
  exact ⟨Img.none,none,0,_,rfl,⟨rfl,.inl ⟨rfl,rfl⟩⟩,(P2.out.bel).trans (hk.below (P2.out.bel).size (fun i h e=>by have e':i=w.heap.size:=e;omega)),(HE.out).symm⟩
 case pos =>
  subst hm0
  have hP:=HP.out
  rw [if_neg (by simp)] at hP
  obtain ⟨I,hI⟩:∃I,I=readI s0:=⟨_,rfl⟩
  rw [←hI] at hP
  have HI:=Lib.hid hI
  have HP1:=Lib.hid hP
  clear hP hI
  go_wp2_with (fail)
  refine (num_x P2.out.rd 1 (by omega) (by omega)).mono ?_;rintro e w3 ⟨rfl,hrd,hk⟩
  have P3:=Lib.hid (P2.out.step hrd hk)
  clear hrd hk
  obtain ⟨n1,hn1⟩:∃v,v=(rdNum 1 s0).1:=⟨_,rfl⟩
  obtain ⟨s1,hs1⟩:∃v,v=(rdNum 1 s0).2:=⟨_,rfl⟩
  rw [←hs1] at P3
  rw [←hn1]
  have HN1:=Lib.hid hn1;have HS1:=Lib.hid hs1
  clear hn1 hs1
  go_wp2_with (fail)
  refine (num_x P3.out.rd 2 (by omega) (by omega)).mono ?_;rintro e w4 ⟨rfl,hrd,hk⟩
  have P4:=Lib.hid (P3.out.step hrd hk)
  clear hrd hk
  obtain ⟨n2,hn2⟩:∃v,v=(rdNum 2 s1).1:=⟨_,rfl⟩
  obtain ⟨s2,hs2⟩:∃v,v=(rdNum 2 s1).2:=⟨_,rfl⟩
  rw [←hs2] at P4
  rw [←hn2]
  have HN2:=Lib.hid hn2;have HS2:=Lib.hid hs2
  clear hn2 hs2
  go_wp2_with (fail)
  refine (num_x P4.out.rd 2 (by omega) (by omega)).mono ?_;rintro e w5 ⟨rfl,hrd,hk⟩
  have P5:=Lib.hid (P4.out.step hrd hk)
  clear hrd hk
  obtain ⟨n3,hn3⟩:∃v,v=(rdNum 2 s2).1:=⟨_,rfl⟩
  obtain ⟨s3,hs3⟩:∃v,v=(rdNum 2 s2).2:=⟨_,rfl⟩
  rw [←hs3] at P5
  rw [←hn3]
  have HN3:=Lib.hid hn3;have HS3:=Lib.hid hs3
  clear hn3 hs3
  go_wp2_with (fail)
  refine (num_x P5.out.rd 1 (by omega) (by omega)).mono ?_;rintro e w6 ⟨rfl,hrd,hk⟩
  have P6:=Lib.hid (P5.out.step hrd hk)
  clear hrd hk
  obtain ⟨n4,hn4⟩:∃v,v=(rdNum 1 s3).1:=⟨_,rfl⟩
  obtain ⟨s4,hs4⟩:∃v,v=(rdNum 1 s3).2:=⟨_,rfl⟩
  rw [←hs4] at P6
  rw [←hn4]
  have HN4:=Lib.hid hn4;have HS4:=Lib.hid hs4
  clear hn4 hs4
  go_wp2_with (fail)
  refine (num_x P6.out.rd 1 (by omega) (by omega)).mono ?_;rintro e w7 ⟨rfl,hrd,hk⟩
  have P7:=Lib.hid (P6.out.step hrd hk)
  clear hrd hk
  obtain ⟨n5,hn5⟩:∃v,v=(rdNum 1 s4).1:=⟨_,rfl⟩
  obtain ⟨s5,hs5⟩:∃v,v=(rdNum 1 s4).2:=⟨_,rfl⟩
  rw [←hs5] at P7
  rw [←hn5]
  have HN5:=Lib.hid hn5;have HS5:=Lib.hid hs5
  clear hn5 hs5
  go_wp2_with (fail)
  refine (num_x P7.out.rd 1 (by omega) (by omega)).mono ?_;rintro e w8 ⟨rfl,hrd,hk⟩
  have P8:=Lib.hid (P7.out.step hrd hk)
  clear hrd hk
  obtain ⟨n6,hn6⟩:∃v,v=(rdNum 1 s5).1:=⟨_,rfl⟩
  obtain ⟨s6,hs6⟩:∃v,v=(rdNum 1 s5).2:=⟨_,rfl⟩
  rw [←hs6] at P8
  rw [←hn6]
  have HN6:=Lib.hid hn6;have HS6:=Lib.hid hs6
  clear hn6 hs6
  go_wp2_with (fail)
  refine (num_x P8.out.rd 1 (by omega) (by omega)).mono ?_;rintro e w9 ⟨rfl,hrd,hk⟩
  have P9:=Lib.hid (P8.out.step hrd hk)
  clear hrd hk
  obtain ⟨n7,hn7⟩:∃v,v=(rdNum 1 s6).1:=⟨_,rfl⟩
  obtain ⟨s7,hs7⟩:∃v,v=(rdNum 1 s6).2:=⟨_,rfl⟩
  rw [←hs7] at P9
  rw [←hn7]
  have HN7:=Lib.hid hn7;have HS7:=Lib.hid hs7
  clear hn7 hs7
  go_wp2_with (fail)
  obtain ⟨w10,hw10⟩:∃v,v=w9.alloc (.cells #[.int .i64 (n1:Nat),.int .i64 (n2:Nat),.int .i64 (n3:Nat),.int .i64 (n4:Nat),.int .i64 (n5:Nat),.int .i64 (n6:Nat),.int .i64 (n7:Nat),.slice none 0 0] 26):=⟨_,rfl⟩
  rw [←hw10]
  have hrow5:Row w10 w9.heap.size 26 [.int .i64 (n1:Nat),.int .i64 (n2:Nat),.int .i64 (n3:Nat),.int .i64 (n4:Nat),.int .i64 (n5:Nat),.int .i64 (n6:Nat),.int .i64 (n7:Nat),.slice none 0 0]:=by rw [hw10];exact Row.new w9 _ _
  have hP10:=P9.out.step (wk':=w10) (by rw [hw10];exact P9.out.rd.below ((Below.refl w9.heap.size w9).alloc (Nat.le_refl _) _)) (by rw [hw10];exact (Kept.refl _ w9).alloc _)
  have hR5:=P9.out.rd.lt.1
  clear hw10
  refine (text_x hP10.rd 65535 (by omega)).mono ?_
  rintro e w11 ⟨A',c',rfl,ho,hrd,hk⟩
  obtain ⟨code,hcode⟩:∃v,v=(rdText s7).1:=⟨_,rfl⟩
  obtain ⟨s8,hs8⟩:∃v,v=(rdText s7).2:=⟨_,rfl⟩
  have hcl:=rdText_len hP10.rd
  rw [←hs8] at hrd
  rw [←hcode] at ho hcl ⊢
  have hII:I=(⟨(n1:Int),(n2:Int),(n3:Int),(n4:Int),(n5:Int),(n6:Int),(n7:Int),code⟩,s8):=by
   rw [HI.out,readI,hcode,hs8,HS7.out,HS6.out,HS5.out,HS4.out,HS3.out,HS2.out,HS1.out,HN7.out,HN6.out,HN5.out,HN4.out,HN3.out,HN2.out,HN1.out,HS6.out,HS5.out,HS4.out,HS3.out,HS2.out,HS1.out]
  have HII:=Lib.hid hII
  clear hII hcode hs8
  have hob:∀k,(Value.slice A' code.length c').ownBlock=some k→w10.heap.size≤k:=own_far ho
  have hrow6:=hrow5.kept hk (by intro h;exact Nat.ne_of_gt hR5 h)
  have hP11:=hP10.step hrd hk
  have HL9:=Lib.hid P9.out.row.lt
  have HL10:=Lib.hid hrow5.lt
  have HR5:=Lib.hid hR5
  clear hR5 hrow5 hP10 hrd hk
  have f5:=hrow6.frozen 7
  have n5':=hrow6.cell 7
  simp only [List.getElem?_cons_succ,List.getElem?_cons_zero] at n5'
  have l5:=hrow6.lt
  have HO:=Lib.hid ho;have HP11:=Lib.hid hP11;have HR6:=Lib.hid hrow6;have HOB:=Lib.hid hob
  clear ho hP11 hrow6 hob
  go_wp2_with (fail)
  obtain ⟨w12,hw12⟩:∃v,v=w11.setCell ⟨w9.heap.size,7,none⟩ (.slice A' code.length c'):=⟨_,rfl⟩
  rw [←hw12]
  have hk12:Kept (fun i=>i=w9.heap.size) w11 w12:=by rw [hw12];exact Kept.setCell (Kept.refl (fun i=>i=w9.heap.size) w11) (Or.inl rfl) _
  have hrow:=HR6.out.setCell 7 (.slice A' code.length c')
  rw [←hw12] at hrow
  simp only [List.set_cons_succ,List.set_cons_zero] at hrow
  have hrd12:=HP11.out.rd.kept hk12 (fun i h1 h2 e=>by have e':i=w9.heap.size:=e;have:=HR5.out;omega)
  have hx12:=HP11.out.row.kept hk12 (by intro h;exact absurd h (Nat.ne_of_lt HL9.out))
  have hb12:=HP11.out.bel.trans (hk12.below HP11.out.bel.size (fun i h e=>by have e':i=w9.heap.size:=e;have:=HL9.out;omega))
  have ho12:=hk12.own HO.out (fun k h e=>by have e':k=w9.heap.size:=e;have:=HOB.out k h;have:=HL10.out;omega)
  clear hw12 f5 n5' l5
  refine (end_x hrd12).mono ?_
  rintro e w13 ⟨rfl,rfl⟩
  have HROW:=Lib.hid hrow;have HX:=Lib.hid hx12;have HB:=Lib.hid hb12;have HO2:=Lib.hid ho12;have HK12:=Lib.hid hk12
  have hP:=HP1.out
  rw [HII.out] at hP
  dsimp only at hP
  obtain ⟨er,her⟩:∃v,v=rdEnd s8:=⟨_,rfl⟩
  rw [←her] at hP ⊢
  clear her
  have HP2:=Lib.hid hP
  clear hP
  have m0:=hrow.cell 0;have m1:=hrow.cell 1;have m2:=hrow.cell 2;have m3:=hrow.cell 3
  have m4:=hrow.cell 4;have m5:=hrow.cell 5;have m6:=hrow.cell 6;have m7:=hrow.cell 7
  simp only [List.getElem?_cons_succ,List.getElem?_cons_zero] at m0 m1 m2 m3 m4 m5 m6 m7
  clear hrow hx12 hb12 ho12 hk12 hrd12
  by_cases h0:er=0
  case neg =>
   have HE:=Lib.hid (show parseL b=(Img.none,er) by rw [HP2.out];exact if_pos h0)
   have h0b:(er != 0)=true:=by simpa using h0
   have h0c:(er==0)=false:=by simpa using h0
   go_wp2_with (refine wpList_putR rfl 26 (.tmp 2) (.tmp 35) rfl w.heap.size 0 #[.int .i64 0,.int .i64 0,.int .i64 0,.int .i64 0,.int .i64 0,.int .i64 0,.int .i64 0,.slice none 0 0] rfl rfl HX.out (by kernel_rfl) (by simp) (by simp [Value.oneCell']) [.int .i64 0,.int .i64 0,.int .i64 0,.int .i64 0,.int .i64 0,.int .i64 0,.int .i64 0,.slice none 0 0] (by simp) ?_)
   have hk:=kept_setRow (Kept.refl (fun i=>i=w.heap.size) w13) (g:=w.heap.size) (Or.inl rfl) #[.int .i64 0,.int .i64 0,.int .i64 0,.int .i64 0,.int .i64 0,.int .i64 0,.int .i64 0,.slice none 0 0]
   refine bodyPost_ret (res_cell_slot rfl _ _ w.heap.size _ _ _ _ _ rfl rfl ((HX.out).setRow [.int .i64 0,.int .i64 0,.int .i64 0,.int .i64 0,.int .i64 0,.int .i64 0,.int .i64 0,.slice none 0 0]) Tryz.underlying26 rfl (by kernel_rfl)) rfl ?_
   exact ⟨Img.none,none,0,_,rfl,⟨rfl,.inl ⟨rfl,rfl⟩⟩,(HB.out).trans (hk.below (HB.out).size (fun i h e=>by have e':i=w.heap.size:=e;omega)),(HE.out).symm⟩
  case pos =>
   subst h0
   have hP:=HP2.out
   rw [if_neg (by simp)] at hP
   have HP3:=Lib.hid hP
   clear hP
   go_wp2_with (fail)
   obtain ⟨J,hJ⟩:∃J:Img,J=⟨(n1:Int),(n2:Int),(n3:Int),(n4:Int),(n5:Int),(n6:Int),(n7:Int),code⟩:=⟨_,rfl⟩
   have HRT:=Lib.hid (show Calls Tryz.prog 75 #[.agg #[.int .i64 (n1:Nat),.int .i64 (n2:Nat),.int .i64 (n3:Nat),.int .i64 (n4:Nat),.int .i64 (n5:Nat),.int .i64 (n6:Nat),.int .i64 (n7:Nat),.slice A' code.length c']] w13 fun e w'=>e=.returned (.bool (decide J.right))∧Below w13.heap.size w13 w' by
    rw [hJ]
    exact right_at w13 ⟨(n1:Int),(n2:Int),(n3:Int),(n4:Int),(n5:Int),(n6:Int),(n7:Int),code⟩ A' c' (by simp only;omega))
   have hP:=HP3.out
   rw [←hJ] at hP
   have HP4:=Lib.hid hP
   have HJ:=Lib.hid hJ
   clear hP hJ
   refine HRT.out.mono ?_
   rintro e w14 ⟨rfl,hb14⟩
   have hrow:=HROW.out.below hb14 HROW.out.lt
   have HX14:=Lib.hid (HX.out.below hb14 HX.out.lt)
   have HB14:=Lib.hid (HB.out.trans (hb14.mono HB.out.size))
   have HO14:=Lib.hid (own_below HO2.out hb14)
   clear m0 m1 m2 m3 m4 m5 m6 m7 hb14
   have m0:=hrow.cell 0;have m1:=hrow.cell 1;have m2:=hrow.cell 2;have m3:=hrow.cell 3
   have m4:=hrow.cell 4;have m5:=hrow.cell 5;have m6:=hrow.cell 6;have m7:=hrow.cell 7
   simp only [List.getElem?_cons_succ,List.getElem?_cons_zero] at m0 m1 m2 m3 m4 m5 m6 m7
   clear hrow
   by_cases hr:J.right
   case neg =>
    have HE:=Lib.hid (show parseL b=(Img.none,3) by rw [HP4.out];exact if_neg hr)
    have hrd:decide J.right=false:=by simpa using hr
    rw [hrd]
    go_wp2_with (refine wpList_putR rfl 26 (.tmp 2) (.tmp 40) rfl w.heap.size 0 #[.int .i64 0,.int .i64 0,.int .i64 0,.int .i64 0,.int .i64 0,.int .i64 0,.int .i64 0,.slice none 0 0] rfl rfl HX14.out (by kernel_rfl) (by simp) (by simp [Value.oneCell']) [.int .i64 0,.int .i64 0,.int .i64 0,.int .i64 0,.int .i64 0,.int .i64 0,.int .i64 0,.slice none 0 0] (by simp) ?_)
    have hk:=kept_setRow (Kept.refl (fun i=>i=w.heap.size) w14) (g:=w.heap.size) (Or.inl rfl) #[.int .i64 0,.int .i64 0,.int .i64 0,.int .i64 0,.int .i64 0,.int .i64 0,.int .i64 0,.slice none 0 0]
    refine bodyPost_ret (res_cell_slot rfl _ _ w.heap.size _ _ _ _ _ rfl rfl ((HX14.out).setRow [.int .i64 0,.int .i64 0,.int .i64 0,.int .i64 0,.int .i64 0,.int .i64 0,.int .i64 0,.slice none 0 0]) Tryz.underlying26 rfl (by kernel_rfl)) rfl ?_
    exact ⟨Img.none,none,0,_,rfl,⟨rfl,.inl ⟨rfl,rfl⟩⟩,(HB14.out).trans (hk.below (HB14.out).size (fun i h e=>by have e':i=w.heap.size:=e;omega)),(HE.out).symm⟩
   case pos =>
    have HE:=Lib.hid (show parseL b=(J,0) by rw [HP4.out];exact if_pos hr)
    have hrd:decide J.right=true:=by simpa using hr
    rw [hrd]
    go_wp2_with (refine wpList_putR rfl 26 (.tmp 2) (.tmp 41) rfl w.heap.size 0 #[.int .i64 (n1:Nat),.int .i64 (n2:Nat),.int .i64 (n3:Nat),.int .i64 (n4:Nat),.int .i64 (n5:Nat),.int .i64 (n6:Nat),.int .i64 (n7:Nat),(.slice A' code.length c')] rfl rfl HX14.out (by kernel_rfl) (by simp) (by simp [Value.oneCell']) [.int .i64 (n1:Nat),.int .i64 (n2:Nat),.int .i64 (n3:Nat),.int .i64 (n4:Nat),.int .i64 (n5:Nat),.int .i64 (n6:Nat),.int .i64 (n7:Nat),(.slice A' code.length c')] (by simp) ?_)
    have hk:=kept_setRow (Kept.refl (fun i=>i=w.heap.size) w14) (g:=w.heap.size) (Or.inl rfl) #[.int .i64 (n1:Nat),.int .i64 (n2:Nat),.int .i64 (n3:Nat),.int .i64 (n4:Nat),.int .i64 (n5:Nat),.int .i64 (n6:Nat),.int .i64 (n7:Nat),(.slice A' code.length c')]
    have hs15:=hk.own HO14.out (fun k h e=>by have e':k=w.heap.size:=e;have:=HOB.out k h;have:=HL9.out;have:=HL10.out;omega)
    refine bodyPost_ret (res_cell_slot rfl _ _ w.heap.size _ _ _ _ _ rfl rfl (HX14.out.setRow [.int .i64 (n1:Nat),.int .i64 (n2:Nat),.int .i64 (n3:Nat),.int .i64 (n4:Nat),.int .i64 (n5:Nat),.int .i64 (n6:Nat),.int .i64 (n7:Nat),(.slice A' code.length c')]) Tryz.underlying26 rfl (by kernel_rfl)) rfl ?_
    refine ⟨J,A',c',0,by rw [HJ.out];rfl,?_,HB14.out.trans (hk.below HB14.out.size (fun i h e=>by have e':i=w.heap.size:=e;omega)),HE.out.symm⟩
    rw [HJ.out]
    exact hs15.mono (by have:=HL9.out;have:=HL10.out;omega)
theorem get_x (w:World) (A:Option Addr) (c n:Nat) (bs:List Int) (hn:bs.length=n) (hm:n≤90000) (hc:n≤c) (hby:Byt bs) (hs:Sl w w.heap.size 1 A n (u8s bs)) :
  Calls Tryz.prog 54 #[.slice A n c] w fun e w'=>∃(j:Img) (A':Option Addr) (c':Nat) (er:Int),e=.returned (.tuple #[j.val A' c',.int .i64 er])∧w'.ownsRow w.heap.size 5 1 (.slice A' j.code.length c') j.code.length (u8s j.code)∧Below w.heap.size w w'∧(j,er)=getL bs:=by
 by_cases h36:n < 36
 ·exact (get_short w A c n h36).mono fun e w' ⟨h1,h2⟩=>⟨Img.none,none,0,1,h1,nil_own _ _,h2,by rw [getL,if_pos (by omega)]⟩
 ·obtain ⟨m,rfl⟩:∃m,n=m+36:=⟨n-36,by omega⟩
  refine (get_at (fun j er=>(j,er)=parseL (bs.take m)) w A c m (m+36) bs hn rfl (by omega) hc hby hs fun w' hs'=>?_).mono fun e w' ⟨j,A',c',er,h1,h2,h3,h4⟩=>⟨j,A',c',er,h1,h2,h3,?_⟩
  ·exact parse_x w' (bs.take m) m (by rw [List.length_take];omega) (by omega) (fun z hz=>hby z (List.mem_of_mem_take hz)) A c hs'
  ·rw [getL,if_neg (by omega),show bs.length-36=m by omega]
   unfold GetR at h4
   split at h4
   ·rw [if_pos (by assumption)];exact h4
   ·rw [if_neg (by assumption)];obtain ⟨rfl,rfl⟩:=h4;rfl
theorem rdNum_be {k m:Nat} (hm:m < 256 ^ k) (rest:List Int):rdNum k (some (be k m++rest))=(m,some rest):=by
 unfold rdNum
 dsimp only
 rw [if_neg (by rw [List.length_append,be_length];omega),List.take_left' (be_length k m),List.drop_left' (be_length k m),val_be k m hm]
theorem rdText_be {code:List Int} (hm:code.length < 65536):rdText (some (be 2 code.length++code))=(code,some []):=by
 unfold rdText
 dsimp only
 rw [List.take_left' (be_length 2 _),List.drop_left' (be_length 2 _),val_be 2 _ (by omega),if_neg (by rw [List.length_append,be_length];omega),List.take_length,List.drop_length]
theorem parse_head (i:Img) (hr:i.right):parseL i.head=(i,0):=by
 have hr':=hr
 obtain ⟨part,version,hard,mem,fuel,sends,receives,code⟩:=i
 obtain ⟨⟨a0,a1⟩,⟨b0,b1⟩,⟨c0,c1⟩,⟨d0,d1⟩,⟨e0,e1⟩,⟨f0,f1⟩,⟨g0,g1⟩,⟨h0,h1⟩⟩:=hr
 simp only at *
 obtain ⟨p,rfl⟩:∃p:Nat,part=p:=⟨part.toNat,by omega⟩
 obtain ⟨ve,rfl⟩:∃p:Nat,version=p:=⟨version.toNat,by omega⟩
 obtain ⟨ha,rfl⟩:∃p:Nat,hard=p:=⟨hard.toNat,by omega⟩
 obtain ⟨me,rfl⟩:∃p:Nat,mem=p:=⟨mem.toNat,by omega⟩
 obtain ⟨fu,rfl⟩:∃p:Nat,fuel=p:=⟨fuel.toNat,by omega⟩
 obtain ⟨se,rfl⟩:∃p:Nat,sends=p:=⟨sends.toNat,by omega⟩
 obtain ⟨re,rfl⟩:∃p:Nat,receives=p:=⟨receives.toNat,by omega⟩
 have hH:Img.head ⟨(p:Int),(ve:Int),(ha:Int),(me:Int),(fu:Int),(se:Int),(re:Int),code⟩=be 2 19529++(be 1 p++(be 2 ve++(be 2 ha++(be 1 me++(be 1 fu++(be 1 se++(be 1 re++(be 2 code.length++code)))))))):=by
  simp only [Img.head,Int.toNat_natCast,List.append_assoc]
 have hI:readI (some (be 1 p++(be 2 ve++(be 2 ha++(be 1 me++(be 1 fu++(be 1 se++(be 1 re++(be 2 code.length++code)))))))))=(⟨(p:Int),(ve:Int),(ha:Int),(me:Int),(fu:Int),(se:Int),(re:Int),code⟩,some []):=by
  unfold readI
  simp only [rdNum_be (k:=1) (m:=p) (by omega),rdNum_be (k:=2) (m:=ve) (by omega),rdNum_be (k:=2) (m:=ha) (by omega),rdNum_be (k:=1) (m:=me) (by omega),rdNum_be (k:=1) (m:=fu) (by omega),rdNum_be (k:=1) (m:=se) (by omega),rdNum_be (k:=1) (m:=re) (by omega),rdText_be (code:=code) (by omega)]
 rw [hH,parseL,rdNum_be (k:=2) (m:=19529) (by omega)]
 dsimp only
 rw [hI,if_neg (by simp),if_neg (by simp [rdEnd]),if_pos hr']
theorem get_bytes (i:Img) (hr:i.right):getL i.bytes=(i,0):=by
 have hl:=bytes_len i
 unfold getL
 rw [if_neg (by omega),if_pos (by rw [Img.bytes,sealed_sum,sealed_dig];rfl),show i.bytes.length-36=i.head.length by rw [head_len];omega,Img.bytes,sealed_take]
 exact parse_head i hr
end image
end Go.Proofs.YtdldkkoplgkloaaGreat
