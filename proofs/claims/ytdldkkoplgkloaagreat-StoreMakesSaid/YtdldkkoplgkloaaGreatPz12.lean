/-
  PROVED HERE: lemmas and contracts that the law's proof leans on (texts put together: Reader, ImageGet, Equal, ImageOpen).
  CONDITIONS: each names its own.
-/
import Derived.Below
import Derived.Deep.OwnRows
import Derived.Laws.BytesArg
import Derived.Lib.Bytes
import Derived.Test.YtdldkkoplgkloaaGreatPz2
import Derived.Test.YtdldkkoplgkloaaGreatPz3
import Derived.Test.YtdldkkoplgkloaaGreatPz4
import Derived.Test.YtdldkkoplgkloaaGreatPz11
namespace Go.Proofs.YtdldkkoplgkloaaGreat
set_option linter.unusedVariables false
set_option linter.unusedSimpArgs false
set_option maxRecDepth 100000
set_option maxHeartbeats 32000000
namespace num

open Go.RowKit base obj mem crc bytes
structure Rd (w:World) (B R:Nat) (bs:List Int):Prop where
 cell:∃A c,w.heap[R]?=some (.cells #[.slice A bs.length c,.int .i64 0] 255 (0,0))∧bs.length≤c∧(0 < bs.length→∃g o,A=some ⟨g,o,none⟩∧B≤g∧g < R∧∀k u,(bs.map (Value.int .u8))[k]?=some u→w.cell? ⟨g,o+k,none⟩=some u)
 base:B≤R
theorem Rd.lt {w:World} {B R:Nat} {bs:List Int} (h:Rd w B R bs):R < w.heap.size:=by
 obtain ⟨A,c,e,_⟩:=h.cell
 exact (Array.getElem?_eq_some_iff.1 e).1
theorem Rd.keep {w w':World} {B R:Nat} {bs:List Int} (h:Rd w B R bs) (hk:∀i,B≤i→i≤R→w'.heap[i]?=w.heap[i]?):Rd w' B R bs:=by
 obtain ⟨⟨A,c,e,hc,hs⟩,hb⟩:=h
 refine ⟨⟨A,c,(hk R hb (Nat.le_refl _)).trans e,hc,fun hp=>?_⟩,hb⟩
 obtain ⟨g,o,ha,h1,h2,h3⟩:=hs hp
 exact ⟨g,o,ha,h1,h2,fun k u hu=>(World.cell?_of_block (a:=⟨g,o+k,none⟩) (hk g h1 (Nat.le_of_lt h2))).trans (h3 k u hu)⟩
theorem Rd.below {w w':World} {B R:Nat} {bs:List Int} (h:Rd w B R bs) (k:Below w.heap.size w w'):Rd w' B R bs:=h.keep fun i _ hi=>k.block i (Nat.lt_of_le_of_lt hi h.lt)
theorem Rd.kept {w w':World} {B R:Nat} {bs:List Int} {S:Nat→Prop} (h:Rd w B R bs) (k:Kept S w w') (hS:∀i,B≤i→i≤R→¬S i):Rd w' B R bs:=h.keep fun i h1 h2=>k.block i (Nat.lt_of_le_of_lt h2 h.lt) (hS i h1 h2)
theorem Rd.sl {w:World} {B R:Nat} {bs:List Int} {A:Option Addr} {n c:Nat} (h:Rd w B R bs) (e:w.heap[R]?=some (.cells #[.slice A n c,.int .i64 0] 255 (0,0))):n=bs.length∧bs.length≤c∧Sl w R 1 A bs.length (bs.map (.int .u8)):=by
 obtain ⟨A2,c2,e2,hc,hs⟩:=h.cell
 rw [e] at e2
 injection e2 with e2
 injection e2 with e2 _ _
 simp at e2
 obtain ⟨rfl,rfl,rfl⟩:=e2
 refine ⟨rfl,hc,by simp,fun hp=>?_⟩
 obtain ⟨g,o,ha,h1,h2,h3⟩:=hs hp
 exact ⟨g,o,ha,h2,h3⟩
theorem read_at (w:World) (A:Option Addr) (n c:Nat) (bs:List Int) (hl:bs.length=n) (hs:Sl w w.heap.size 1 A n (bs.map (.int .u8))) (hn:n≤100000) :
  Calls Tryz.prog 143 #[.slice A n c] w fun e w'=>∃R,e=.returned (.pointer (some ⟨R,0,none⟩))∧Rd w' w.heap.size R bs∧Below w.heap.size w w':=by
 have HC:=Lib.hid (clone_own w A n c _ hs (map_one bs) (by omega))
 have HL:=Lib.hid hl
 clear hs hl
 go_enter Tryz.func143,Tryz.ntmps143
 go_wp2_with (fail)
 refine HC.out.mono ?_;rintro e w1 ⟨v,rfl,ho,hb⟩
 have HO:=Lib.hid ho;have HB:=Lib.hid hb
 obtain ⟨A2,c2,e2,hc2,_⟩:=own_form ho
 subst e2
 clear ho hb
 go_wp2_with (fail)
 go_ret
 refine ⟨w1.heap.size,rfl,⟨⟨A2,c2,?_,by rw [HL.out];exact hc2,fun hp=>?_⟩,HB.out.size⟩,HB.out.alloc HB.out.size _⟩
 ·rw [HL.out]
  exact heap_alloc_new _ _
 ·obtain ⟨g,cap,e,h1,h2⟩:=HO.out.form (by rw [←HL.out];exact hp)
  have hsl:=Sl.of_own HO.out
  obtain ⟨b,o,rfl,hb2,hcell⟩:=hsl.2 (by rw [←HL.out];exact hp)
  injection e with e3 _ _
  injection e3 with e4
  injection e4 with e5 e6 _
  subst e5
  exact ⟨_,o,rfl,h1,hb2,fun k u hu=>(World.cell?_alloc_lt _ _ _ hb2).trans (hcell k u hu)⟩
theorem well_at {w:World} {B R:Nat} {bs:List Int} (h:Rd w B R bs):Calls Tryz.prog 182 #[.pointer (some ⟨R,0,none⟩)] w fun e w'=>e=.returned (.bool true)∧w'=w:=by
 obtain ⟨A,c,e,_⟩:=h.cell
 have c1:w.cell? ⟨R,1,none⟩=some (.int .i64 0):=by simp [World.cell?,e]
 clear h e
 go_enter Tryz.func182,Tryz.ntmps182
 go_wp2_with (fail)
 go_ret
 exact ⟨rfl,rfl⟩
theorem left_at {w:World} {B R:Nat} {bs:List Int} (h:Rd w B R bs):Calls Tryz.prog 196 #[.pointer (some ⟨R,0,none⟩)] w fun e w'=>e=.returned (.int .i64 bs.length)∧w'=w:=by
 have HW:=Lib.hid (well_at h)
 obtain ⟨A,c,e,_⟩:=h.cell
 have c1:w.cell? ⟨R,0,none⟩=some (.slice A bs.length c):=by simp [World.cell?,e]
 clear h e
 go_enter Tryz.func196,Tryz.ntmps196
 go_wp2_with (fail)
 refine HW.out.mono ?_;rintro e w' ⟨rfl,rfl⟩
 go_wp2_with (fail)
 go_ret
 exact ⟨rfl,rfl⟩
theorem rd_cut {w w1:World} {B R g o o2 l n c c2:Nat} {bs:List Int} (h:Rd w B R bs) (e:w.heap[R]?=some (.cells #[.slice (some ⟨g,o,none⟩) l c,.int .i64 0] 255 (0,0))) (hb:Below w.heap.size w w1) (hl:bs.length=l) (hn:n≤l) (ho:l≤n∨o2=o+n) (hc:l-n≤c2) :
  Rd (w1.setCell ⟨R,0,none⟩ (.slice (some ⟨g,o2,none⟩) (l-n) c2)) B R (bs.drop n)∧Kept (fun i=>i=R) w (w1.setCell ⟨R,0,none⟩ (.slice (some ⟨g,o2,none⟩) (l-n) c2)):=by
 refine ⟨⟨⟨some ⟨g,o2,none⟩,c2,?_,by simp;omega,fun hp=>?_⟩,h.base⟩,(Kept.of_below hb (fun i=>i=R)).setCell (p:=⟨R,0,none⟩) (.inl rfl) _⟩
 ·have e1:=(hb.block R h.lt).trans e
  simp only [World.setCell,Array.getElem?_modify,if_true,e1,Option.map_some]
  simp [hl]
 ·obtain ⟨A2,c3,e2,_,hs⟩:=h.cell
  rw [e] at e2
  injection e2 with e2
  injection e2 with e2 _ _
  simp at e2
  obtain ⟨rfl,_,rfl⟩:=e2
  simp at hp
  obtain ⟨g2,o3,ha,h1,h2,h3⟩:=hs (by omega)
  injection ha with ha
  injection ha with ha hb2 _
  subst ha;subst hb2
  refine ⟨_,o2,rfl,h1,h2,fun k u hu=>?_⟩
  have hgl:g < w.heap.size:=Nat.lt_trans h2 h.lt
  have ho2:o2=o+n:=by rcases ho with h|h<;>omega
  rw [World.cell?_of_block (w:=w) (w':=w1.setCell ⟨R,0,none⟩ (.slice (some ⟨g,o2,none⟩) (l-n) c2)) (a:=⟨g,o2+k,none⟩) ((Below.heap_setCell w1 ⟨R,0,none⟩ _ g (show g≠R by omega)).trans (hb.block g hgl)),ho2,Nat.add_assoc]
  refine h3 (n+k) u ?_
  rw [List.getElem?_map,List.getElem?_drop] at hu
  rw [List.getElem?_map]
  exact hu
theorem bytes_at {w:World} {B R:Nat} {bs:List Int} (h:Rd w B R bs) (n:Nat) (h1:1≤n) (hn:n≤bs.length) (hm:bs.length≤100000) :
  Calls Tryz.prog 181 #[.pointer (some ⟨R,0,none⟩),.int .i64 n] w fun e w'=>∃v,e=.returned v∧w'.ownsRow w.heap.size 5 1 v n ((bs.map (.int .u8)).take n)∧Rd w' B R (bs.drop n)∧Kept (fun i=>i=R) w w':=by
 have HW:=Lib.hid (fun (w':World) (k:Below w.heap.size w w')=>well_at (h.below k))
 obtain ⟨A,c,e,hc,hs⟩:=h.cell
 obtain ⟨g,o,rfl,hBg,hgR,hcell⟩:=hs (by omega)
 have hsl:Sl w R 1 (some ⟨g,o,none⟩) n ((bs.map (.int .u8)).take n):=⟨by simp;omega,fun _=>⟨g,o,rfl,hgR,fun k u hu=>hcell k u (by
  rw [List.getElem?_take] at hu
  split at hu
  ·exact hu
  ·simp at hu)⟩⟩
 have c0:w.cell? ⟨R,0,none⟩=some (.slice (some ⟨g,o,none⟩) bs.length c):=by simp [World.cell?,e]
 have hR:=h.lt
 have HC:=Lib.hid (clone_own w (some ⟨g,o,none⟩) n c _ (hsl.more (Nat.le_of_lt hR)) (fun v hv=>map_one bs v (List.mem_of_mem_take hv)) (by omega))
 have HH:=Lib.hid h
 have HE:=Lib.hid e
 have HCELL:=Lib.hid hcell
 clear hsl h e hs hcell
 have i0:¬(n:Int)≤0:=by omega
 have i1:¬(n:Int) > (bs.length:Int):=by omega
 have i2:(0:Int)≤(n:Int):=by omega
 have i3:(n:Int)≤(bs.length:Int):=by omega
 have i4:(bs.length:Int)≤(c:Int):=by omega
 have i5:(n:Int)≤(c:Int):=by omega
 generalize hbl:bs.length=l at *
 have HBL:=Lib.hid hbl
 clear hbl
 go_enter Tryz.func181,Tryz.ntmps181
 go_wp2_with (fail)
 refine (HW.out _ (Below.refl _ _)).mono ?_;rintro e w' ⟨rfl,rfl⟩
 go_wp2_with (fail)
 refine HC.out.mono ?_;rintro e w1 ⟨v,rfl,ho,hb⟩
 have HO:=Lib.hid ho;have HB:=Lib.hid hb
 have e1:=(hb.block R hR).trans HE.out
 have c1:w1.cell? ⟨R,0,none⟩=some (.slice (some ⟨g,o,none⟩) l c):=by simp [World.cell?,e1]
 have f1:w1.frozen? ⟨R,0,none⟩=false:=by simp [World.frozen?,e1]
 have E1:=Lib.hid e1
 clear ho hb c0 e1
 go_wp2_with (fail)
 ·go_ret
  refine ⟨v,rfl,?_,?_⟩
  ·exact ownsRow_setCell_below HO.out (a:=⟨R,0,none⟩) hR _
  ·exact rd_cut HH.out HE.out HB.out HBL.out hn (.inl (by omega)) (by omega)
 ·go_ret
  refine ⟨v,rfl,?_,?_⟩
  ·exact ownsRow_setCell_below HO.out (a:=⟨R,0,none⟩) hR _
  ·exact rd_cut HH.out HE.out HB.out HBL.out hn (.inr rfl) (by omega)
theorem or_low (n z:Nat) (hn:n < 2 ^ 50) (hz:z < 256):Go.bits .or .i64 ((n*256:Nat):Int) (z:Int)=((256*n+z:Nat):Int):=by
 show IntKind.i64.wrap ((BitVec.ofInt 64 ((n*256:Nat):Int) ||| BitVec.ofInt 64 (z:Int)).toNat:Int)=_
 have e:=Nat.two_pow_add_eq_or_of_lt (i:=8) (b:=z) (by omega) n
 rw [BitVec.toNat_or,BitVec.toNat_ofInt,BitVec.toNat_ofInt,show (((n*256:Nat):Int) % ((2 ^ 64:Nat):Int)).toNat=2 ^ 8*n by omega,show ((z:Int) % ((2 ^ 64:Nat):Int)).toNat=z by omega,←e,IntKind.wrap_i64]
 omega
theorem num_at {w:World} {B R:Nat} {bs:List Int} (h:Rd w B R bs) (k:Nat) (h1:1≤k) (h6:k≤6) (hn:k≤bs.length) (hm:bs.length≤100000) (hby:Byt bs) :
  Calls Tryz.prog 144 #[.pointer (some ⟨R,0,none⟩),.int .i64 k] w fun e w'=>e=.returned (.int .i64 (val (bs.take k):Nat))∧Rd w' B R (bs.drop k)∧Kept (fun i=>i=R) w w':=by
 have HH:=Lib.hid (bytes_at h k h1 hn hm)
 have HY:=Lib.hid hby
 clear h hby
 go_enter Tryz.func144,Tryz.ntmps144
 go_wp2_with (fail)
 refine (held_at _ k h1 h6).mono ?_;rintro e w' ⟨rfl,rfl⟩
 go_wp2_with (fail)
 refine HH.out.mono ?_;rintro e w1 ⟨v,rfl,ho,hr,hk⟩
 obtain ⟨A,c,e2,hc,_⟩:=own_form ho
 subst e2
 have HS:=Lib.hid (Sl.of_own ho)
 have HF:=Lib.hid (And.intro hr hk)
 clear ho hr hk
 go_wp2_with (fail)
 go_loopw [16,6] (fun i s wr=>∃j:Nat,j≤k∧i=.int .i64 j∧s=.int .i64 (val (bs.take j):Nat)∧wr=w1) (fun i _ _=>k-(intOf i).toNat)
 case atStart=>exact ⟨0,by omega,rfl,by rw [List.take_zero];rfl,rfl⟩
 case round =>
  obtain ⟨j,hj,rfl,rfl,rfl⟩:=hrel
  by_cases hlt:j < k
  ·have hjb:j < bs.length:=by omega
   obtain ⟨b,off,rfl,hbl,hcell⟩:=HS.out.2 (by omega)
   have hz:=HY.out bs[j] (List.getElem_mem hjb)
   have c1:=hcell j (.int .u8 bs[j]) (by rw [List.getElem?_take,if_pos hlt];simp [hjb])
   have hnx:=val_take_succ bs j hjb
   have hfl:val (bs.take j) < 2 ^ 40:=by
    have h:=val_lt (bs.take j) fun y hy=>HY.out y (List.mem_of_mem_take hy)
    rw [List.length_take,Nat.min_eq_left (by omega)] at h
    exact Nat.lt_of_lt_of_le h (Nat.le_trans (Nat.pow_le_pow_right (by decide) (show j≤5 by omega)) (by decide))
   generalize hf:val (bs.take j)=f at *
   have hz2:bs[j]=((bs[j].toNat:Nat):Int):=by omega
   rw [hz2] at c1
   generalize hzn:bs[j].toNat=z at *
   have hzl:z < 256:=by omega
   have i0:(0:Int)≤(j:Int):=by omega
   have i1:(j:Int) < (k:Int):=by omega
   have ho:=or_low f z (by omega) hzl
   have HNX:=Lib.hid hnx;have HZ:=Lib.hid hz2;have HO:=Lib.hid ho;have HFL:=Lib.hid hfl
   clear hcell hnx hz2 hz hzn hf ho hfl
   go_wp2_with (fail)
   go_roundw
   case rel =>
    refine ⟨j+1,by omega,by go_num,?_,trivial⟩
    have hfl:=HFL.out
    rw [show wrap64 ((f:Int)*256)=((f*256:Nat):Int) by unfold wrap64;omega,HO.out,HNX.out]
   case measure=>simp [intOf];omega
  ·have hk2:j=k:=by omega
   have hlt':¬(j:Int) < (k:Int):=by omega
   have HK:=Lib.hid hk2
   clear hk2
   go_wp2_with (fail)
   go_ret
   exact ⟨by rw [HK.out];rfl,HF.out⟩
end num
namespace image


open Go.RowKit Go.Deep base obj mem sep crc num bytes plan chain
theorem rtext_at {w:World} {B R:Nat} {bs:List Int} (h:Rd w B R bs) (n:Nat) (hn:val (bs.take 2)=n) (h1:1≤n) (h2:2+n≤bs.length) (hm:bs.length≤100000) (hby:Byt bs) (lim:Int) (hl:(n:Int)≤lim) :
  Calls Tryz.prog 145 #[.pointer (some ⟨R,0,none⟩),.int .i64 lim] w fun e w'=>∃v,e=.returned v∧w'.ownsRow w.heap.size 5 1 v n (u8s ((bs.drop 2).take n))∧Rd w' B R ((bs.drop 2).drop n)∧Kept (fun i=>i=R) w w':=by
 have HW:=Lib.hid (well_at h)
 have HN:=Lib.hid (num_at h 2 (by omega) (by omega) (by omega) hm hby)
 obtain ⟨A,c,e,_⟩:=h.cell
 have c0:w.cell? ⟨R,0,none⟩=some (.slice A bs.length c):=by simp [World.cell?,e]
 clear h e
 go_enter Tryz.func145,Tryz.ntmps145
 go_wp2_with (fail)
 refine HW.out.mono ?_;rintro e w1 ⟨rfl,rfl⟩
 go_wp2_with (fail)
 refine HN.out.mono ?_;rintro e w2 ⟨rfl,hr,hk⟩
 rw [hn]
 have HR2:=Lib.hid hr;have HK2:=Lib.hid hk
 have HW2:=Lib.hid (well_at hr)
 have HB2:=Lib.hid (bytes_at hr n h1 (by rw [List.length_drop];omega) (by rw [List.length_drop];omega))
 have hng:¬lim < (n:Int):=by omega
 clear hr hk c0
 go_wp2_with (fail)
 refine HW2.out.mono ?_;rintro e w3 ⟨rfl,rfl⟩
 go_wp2_with (fail)
 refine HB2.out.mono ?_;rintro e w4 ⟨v,rfl,ho,hr4,hk4⟩
 have HR4:=Lib.hid hr4;have HO4:=Lib.hid ho
 have HW4:=Lib.hid (well_at hr4)
 have HK4:=Lib.hid (HK2.out.trans hk4 (fun _ h=>h) (fun _ h _=>h))
 have hsz:=HK2.out.size
 have HSZ:=Lib.hid hsz
 clear ho hr4 hk4 hsz
 go_wp2_with (fail)
 refine HW4.out.mono ?_;rintro e w5 ⟨rfl,rfl⟩
 go_wp2_with (fail)
 go_ret
 refine ⟨_,rfl,?_,HR4.out,HK4.out⟩
 have h:=HO4.out.mono HSZ.out
 rw [←List.map_take] at h
 exact h
theorem rend_at {w:World} {B R:Nat} (h:Rd w B R []):Calls Tryz.prog 146 #[.pointer (some ⟨R,0,none⟩)] w fun e w'=>e=.returned (.int .i64 0)∧w'=w:=by
 obtain ⟨A,c,e,_⟩:=h.cell
 have c0:w.cell? ⟨R,0,none⟩=some (.slice A 0 c):=by simp [World.cell?,e]
 have c1:w.cell? ⟨R,1,none⟩=some (.int .i64 0):=by simp [World.cell?,e]
 clear h e
 go_enter Tryz.func146,Tryz.ntmps146
 go_wp2_with (fail)
 go_ret
 exact ⟨rfl,rfl⟩
structure PS (w:World) (R:Nat) (xs:List Value) (rest:List Int) (wk:World):Prop where
 rd:Rd wk (w.heap.size+1) R rest
 row:Row wk w.heap.size 26 xs
 bel:Below w.heap.size w wk
theorem PS.step {w:World} {R:Nat} {xs:List Value} {rest rest':List Int} {wk wk':World} (h:PS w R xs rest wk) (hr:Rd wk' (w.heap.size+1) R rest') (hk:Kept (fun i=>i=R) wk wk'):PS w R xs rest' wk' where
 rd:=hr
 row:=h.row.kept hk (by have:=h.rd.base;omega)
 bel:=h.bel.trans (hk.below h.bel.size (fun i hi e=>by have:=h.rd.base;omega))
end image
namespace bytes

open Go.RowKit Go.Deep base obj mem crc
theorem str_inj (xs ys:List Int) (hx:Byt xs) (hy:Byt ys):((strOfNums xs).toList==(strOfNums ys).toList)=decide (xs=ys):=by
 rw [Bool.eq_iff_iff,decide_eq_true_iff,beq_iff_eq,Lib.strOfNums_toList,Lib.strOfNums_toList]
 constructor
 ·intro h
  have e:xs.map (fun n=>UInt8.ofNat n.toNat)=ys.map (fun n=>UInt8.ofNat n.toNat):=h
  have back:∀zs:List Int,Byt zs→(zs.map (fun n=>UInt8.ofNat n.toNat)).map (fun u=>((u.toNat:Nat):Int))=zs:=by
   intro zs hz
   rw [List.map_map]
   conv=>rhs;rw [←List.map_id zs]
   apply List.map_congr_left
   intro z h
   have:=hz z h
   simp [UInt8.toNat_ofNat']
   omega
  rw [←back xs hx,←back ys hy,e]
 ·intro h;rw [h]
theorem conv_str (w:World) (A:Option Addr) (n c:Nat) (xs:List Int) (hl:xs.length=n) (h0:0 < n) (hs:Sl w w.heap.size 1 A n (xs.map (.int .u8))):(convert 24 9 (.slice A n c)).run Tryz.prog w=.ok (.string (strOfNums xs)) w:=by
 obtain ⟨b,o,rfl,_,hc⟩:=hs.2 h0
 refine run_convert_bytes_arg w 24 5 Tryz.underlying24 Tryz.underlying5 b o n c xs hl (fun i hi=>?_) 9 Tryz.underlying9
 refine hc i _ ?_
 have hi2:i < xs.length:=by omega
 simp [hi2]
theorem equal_at (w:World) (A A':Option Addr) (n m c c':Nat) (xs ys:List Int) (hn:xs.length=n) (hm:ys.length=m) (h0:0 < n) (h1:0 < m) (hx:Byt xs) (hy:Byt ys) (hs:Sl w w.heap.size 1 A n (xs.map (.int .u8))) (ht:Sl w w.heap.size 1 A' m (ys.map (.int .u8))) :
  Calls Tryz.prog 98 #[.slice A n c,.slice A' m c'] w fun e w'=>e=.returned (.bool (decide (xs=ys)))∧w'=w:=by
 have e1:=conv_str w A n c xs hn h0 hs
 have e2:=conv_str w A' m c' ys hm h1 ht
 have e3:=Lib.hid (str_inj xs ys hx hy)
 clear hs ht hx hy
 go_enter Tryz.func98,Tryz.ntmps98
 go_wp2_with (fail)
 go_ret
 exact ⟨ret_bool e3.out,rfl⟩
theorem make_eq (k:Nat) (hk:k≤1000000) (w:World):(Instr.makeSlice 24 (.int .i64 (k:Int)) (.int .i64 (k:Int))).run Tryz.prog w=.ok (.slice (some ⟨w.heap.size,0,none⟩) k k) (w.alloc (.cells (List.replicate k (Value.int .u8 0)).toArray 5)):=by
 rw [run_make_row' (P:=Tryz.prog) 24 5 (.int .u8 0) 1 Tryz.underlying24 infoB rfl .i64 .i64 k (by omega) (by omega) w]
 congr 2
 congr 1
 apply Array.ext
 ·simp [madeCells]
 ·intro i h1 h2
  simp [madeCells,Nat.mod_one]
end bytes
namespace image


open Go.RowKit Go.Deep base obj mem sep crc num bytes plan chain sha
def sumOk (bs:List Int):Bool:=decide (be 4 (sum (bs.take (bs.length-4)))=bs.drop (bs.length-4))
def digOk (bs:List Int):Bool:=decide (dig (bs.take (bs.length-36))=(bs.drop (bs.length-36)).take 32)
def Img.none:Img:=⟨0,0,0,0,0,0,0,[]⟩
theorem sl_part {w:World} {B n:Nat} {A:Option Addr} {bs:List Int} (h:Sl w B 1 A n (u8s bs)) (o m k:Nat) (hk:k=m) (ho:o+m≤n) {b off:Nat} (hA:A=some ⟨b,off,none⟩):Sl w B 1 (some ⟨b,off+o,none⟩) k (u8s ((bs.drop o).take m)):=by
 subst hk
 have hl:=h.1
 simp at hl
 refine ⟨by simp;omega,fun hp=>⟨b,off+o,rfl,?_,fun j u hu=>?_⟩⟩
 ·obtain ⟨b',off',e,hb,_⟩:=h.2 (by omega)
  rw [hA] at e
  injection e with e;injection e with e1 e2 _
  omega
 ·obtain ⟨b',off',e,hb,hc⟩:=h.2 (by omega)
  rw [hA] at e
  injection e with e;injection e with e1 e2 _
  subst e1;subst e2
  rw [Nat.add_assoc]
  refine hc (o+j) u ?_
  rw [List.getElem?_map] at hu ⊢
  rw [List.getElem?_take] at hu
  split at hu
  ·rwa [List.getElem?_drop] at hu
  ·simp at hu
theorem own_far {w:World} {base:Nat} {e:TypeId} {size n:Nat} {v:Value} {xs:List Value} (h:w.ownsRow base e size v n xs):∀k,v.ownBlock=some k→base≤k:=by
 intro k hk
 rcases h.2 with ⟨rfl,_⟩|⟨g,cap,cur,rfl,hg,_⟩
 ·simp [Value.ownBlock] at hk
 ·simp only [Value.ownBlock,Option.some.injEq] at hk
  omega
def GetR (R:Img→Int→Prop) (bs:List Int) (j:Img) (er:Int):Prop:=if sumOk bs&&digOk bs then R j er else j=Img.none∧er=10
theorem get_short (w:World) (A:Option Addr) (c n:Nat) (h36:n < 36):Calls Tryz.prog 54 #[.slice A n c] w fun e w'=>e=.returned (.tuple #[Img.none.val none 0,.int .i64 1])∧Below w.heap.size w w':=by
 have c1:(n:Int) < 36:=by omega
 go_enter Tryz.func54,Tryz.ntmps54
 go_wp2_with (fail)
 refine bodyPost_ret (res_cell_slot rfl _ _ w.heap.size _ _ _ _ _ rfl rfl (Row.new w 26 _) Tryz.underlying26 rfl (by kernel_rfl)) rfl ?_
 exact ⟨rfl,(Below.refl _ w).alloc (Nat.le_refl _) _⟩
theorem get_at (R:Img→Int→Prop) (w:World) (A:Option Addr) (c m n:Nat) (bs:List Int) (hn:bs.length=n) (hnm:n=m+36) (hm:m≤90000) (hc:n≤c) (hby:Byt bs) (hs:Sl w w.heap.size 1 A n (u8s bs))
  (hp:∀w',Sl w' w'.heap.size 1 A m (u8s (bs.take m))→Calls Tryz.prog 99 #[.slice A m c] w' fun e w''=>∃(j:Img) (A':Option Addr) (c':Nat) (er:Int),e=.returned (.tuple #[j.val A' c',.int .i64 er])∧w''.ownsRow w'.heap.size 5 1 (.slice A' j.code.length c') j.code.length (u8s j.code)∧Below w'.heap.size w' w''∧R j er) :
  Calls Tryz.prog 54 #[.slice A n c] w fun e w'=>∃(j:Img) (A':Option Addr) (c':Nat) (er:Int),e=.returned (.tuple #[j.val A' c',.int .i64 er])∧w'.ownsRow w.heap.size 5 1 (.slice A' j.code.length c') j.code.length (u8s j.code)∧Below w.heap.size w w'∧GetR R bs j er:=by
 obtain ⟨B,off,rfl,hB,_⟩:=hs.2 (by omega)
 obtain ⟨k,hk⟩:∃k,k=m+32:=⟨_,rfl⟩
 have W1:IntKind.i64.wrap ((n:Int)-36)=(m:Int):=by rw [IntWalk.i64_in _ (by omega)];omega
 have W2:IntKind.i64.wrap ((n:Int)-4)=(k:Int):=by rw [IntWalk.i64_in _ (by omega)];omega
 have c0:¬((n:Int) < 36):=by omega
 have c1:(0:Int)≤(m:Int):=by omega
 have c2:(m:Int)≤(c:Int):=by omega
 have c3:(m:Int)≤(k:Int):=by omega
 have c4:(k:Int)≤(c:Int):=by omega
 have c5:(0:Int)≤(k:Int):=by omega
 have c6:(k:Int)≤(n:Int):=by omega
 have c7:(n:Int)≤(c:Int):=by omega
 have d1:¬c=m:=by omega
 have d2:¬c=k:=by omega
 have HS:=Lib.hid hs;have HNM:=Lib.hid hnm;have HK:=Lib.hid hk;have HN:=Lib.hid hn
 clear hs hnm hk hn
 go_enter Tryz.func54,Tryz.ntmps54
 go_wp2_with (fail)
 go_region
 go_wp2_with (fail)
 refine segs_start (by kernel_rfl) ?_
 (refine segs_take [0,1] (by kernel_rfl) (fun _ _ _ _ _ h=>h) ?_;simp only [pick,xGs,xGz,xGo];(iterate 2 still_step);refine wpStill_nil ?_)
 (refine segs_pure 2 (.int .i64 n) (by kernel_rfl) (fun _ _ _ _ _ h=>h) (by rfl) (by intro w2;(try simp only [xGs,xGz,xGo]);go_simp) ?_;(try simp only [xGs,xGz,xGo,Act.put,xSi,xSz,xSs]))
 (refine segs_pure 3 (.int .i64 k) (by kernel_rfl) (fun _ _ _ _ _ h=>h) (by rfl) (by intro w2;(try simp only [xGs,xGz,xGo]);go_simp) ?_;(try simp only [xGs,xGz,xGo,Act.put,xSi,xSz,xSs]))
 (refine segs_pure 4 (.slice (some ⟨B,off,none⟩) k c) (by kernel_rfl) (fun _ _ _ _ _ h=>h) (by rfl) (by intro w2;(try simp only [xGs,xGz,xGo]);go_simp) ?_;(try simp only [xGs,xGz,xGo,Act.put,xSi,xSz,xSs]))
 (refine segs_take [6,7] (by kernel_rfl) (fun _ _ _ _ _ h=>h) ?_;simp only [pick,xGs,xGz,xGo];(iterate 2 still_step);refine wpStill_nil ?_)
 (refine segs_pure 8 (.int .i64 n) (by kernel_rfl) (fun _ _ _ _ _ h=>h) (by rfl) (by intro w2;(try simp only [xGs,xGz,xGo]);go_simp) ?_;(try simp only [xGs,xGz,xGo,Act.put,xSi,xSz,xSs]))
 (refine segs_pure 9 (.int .i64 k) (by kernel_rfl) (fun _ _ _ _ _ h=>h) (by rfl) (by intro w2;(try simp only [xGs,xGz,xGo]);go_simp) ?_;(try simp only [xGs,xGz,xGo,Act.put,xSi,xSz,xSs]))
 (refine segs_pure 10 (.slice (some ⟨B,off+k,none⟩) (n-k) (c-k)) (by kernel_rfl) (fun _ _ _ _ _ h=>h) (by rfl) (by intro w2;(try simp only [xGs,xGz,xGo]);go_simp) ?_;(try simp only [xGs,xGz,xGo,Act.put,xSi,xSz,xSs]))
 obtain ⟨w1,hw1⟩:∃v,v=(w.alloc (.cells #[.int .i64 0,.int .i64 0,.int .i64 0,.int .i64 0,.int .i64 0,.int .i64 0,.int .i64 0,.slice none 0 0] 26)).drew.drew:=⟨_,rfl⟩
 rw [←hw1]
 have hrow:Row w1 w.heap.size 26 [.int .i64 0,.int .i64 0,.int .i64 0,.int .i64 0,.int .i64 0,.int .i64 0,.int .i64 0,.slice none 0 0]:=by rw [hw1];exact (Row.new w _ _).drew.drew
 have hbel:Below w.heap.size w w1:=by rw [hw1];exact ((Below.refl _ w).alloc (Nat.le_refl _) _).drew.drew
 have hs1:=(HS.out.below hbel).more hbel.size
 clear hw1
 have eK:=HK.out;have eN:=HN.out;have eM:=HNM.out
 have HSK:=Lib.hid (sl_part hs1 0 k k rfl (by omega) rfl)
 have HST:=Lib.hid (sl_part hs1 k 4 (n-k) (by omega) (by omega) rfl)
 have HSM:=Lib.hid (sl_part hs1 0 m m rfl (by omega) rfl)
 have HSD:=Lib.hid (sl_part hs1 m 32 (k-m) (by omega) (by omega) rfl)
 have HROW:=Lib.hid hrow;have HBEL:=Lib.hid hbel
 clear hrow hbel hs1 eK eN eM
 (refine segs_one 5 (by kernel_rfl) (by rfl) ?_;(try simp only [xGs,xGz,xGo]);go_simp)
 refine (isum_at w1 _ k c ((bs.drop 0).take k) (by have:=HK.out;have:=HN.out;have:=HNM.out;rw [List.length_take,List.length_drop];omega) (by have:=HK.out;omega) (fun z hz=>hby z (List.mem_of_mem_drop (List.mem_of_mem_take hz))) HSK.out).mono ?_
 rintro e w2 ⟨v,rfl,ho,hb⟩
 obtain ⟨A2,c2,rfl,hsl⟩:=own_sl ho
 have HB2:=Lib.hid (HBEL.out.trans (hb.mono HBEL.out.size))
 have HROW2:=Lib.hid (HROW.out.below hb HROW.out.lt)
 have HSM2:=Lib.hid ((HSM.out.below hb).more hb.size)
 have HSD2:=Lib.hid ((HSD.out.below hb).more hb.size)
 have HST2:=Lib.hid ((HST.out.below hb).more hb.size)
 have HS4:=Lib.hid hsl
 clear ho hb hsl
 dsimp only
 (try simp only [xGs,xGz,xGo,Act.put,xSi,xSz,xSs])
 (refine segs_one 11 (by kernel_rfl) (by rfl) ?_;(try simp only [xGs,xGz,xGo]);go_simp)
 refine (equal_at w2 A2 _ 4 (n-k) c2 (c-k) (be 4 (sum ((bs.drop 0).take k))) ((bs.drop k).take 4) (be_length _ _) (by have:=HK.out;have:=HN.out;have:=HNM.out;rw [List.length_take,List.length_drop];omega) (by omega) (by have:=HK.out;have:=HNM.out;omega) (be_byt _ _) (fun z hz=>hby z (List.mem_of_mem_drop (List.mem_of_mem_take hz))) HS4.out HST2.out).mono ?_
 rintro e w2' ⟨rfl,rfl⟩
 have hsum:sumOk bs=decide (be 4 (sum ((bs.drop 0).take k))=(bs.drop k).take 4):=by
  have:=HK.out;have:=HN.out;have:=HNM.out
  unfold sumOk
  rw [show bs.length-4=k by omega,List.drop_zero,List.take_of_length_le (l:=bs.drop k) (by rw [List.length_drop];omega)]
 rw [←hsum]
 clear hsum
 dsimp only
 (try simp only [xGs,xGz,xGo,Act.put,xSi,xSz,xSs])
 cases hq:sumOk bs with
 | false =>
   (refine segs_take [12,13] (by kernel_rfl) (fun _ _ _ _ _ h=>h) ?_;simp only [pick,xGs,xGz,xGo];(iterate 2 still_step);refine wpStill_nil ?_)
   (refine segs_take [14,16] (by kernel_rfl) (fun _ _ _ _ _ h=>h) ?_;simp only [pick,xGs,xGz,xGo];(iterate 2 still_step);refine wpStill_nil ?_)
   (try simp only [xGs,xGz,xGo,Act.put,xSi,xSz,xSs])
   (refine segs_skip 15 (by kernel_rfl) (by rfl) ?_;(try simp only [xGs,xGz,xGo,Act.put,xSi,xSz,xSs]))
   (refine segs_skip 17 (by kernel_rfl) (by rfl) ?_;(try simp only [xGs,xGz,xGo,Act.put,xSi,xSz,xSs]))
   (refine segs_skip 18 (by kernel_rfl) (by rfl) ?_;(try simp only [xGs,xGz,xGo,Act.put,xSi,xSz,xSs]))
   (refine segs_take [19] (by kernel_rfl) (fun _ _ _ _ _ h=>h) ?_;simp only [pick,xGs,xGz,xGo];(iterate 1 still_step);refine wpStill_nil ?_)
   refine segs_end (by kernel_rfl) ?_
   go_wp2_with (refine wpList_putR rfl 26 (.tmp 2) (.tmp 43) rfl w.heap.size 0 #[.int .i64 0,.int .i64 0,.int .i64 0,.int .i64 0,.int .i64 0,.int .i64 0,.int .i64 0,.slice none 0 0] rfl rfl (HROW2.out) (by kernel_rfl) (by simp) (by simp [Value.oneCell']) [.int .i64 0,.int .i64 0,.int .i64 0,.int .i64 0,.int .i64 0,.int .i64 0,.int .i64 0,.slice none 0 0] (by simp) ?_)
   have hk:=kept_setRow (Kept.refl (fun i=>i=w.heap.size) w2') (g:=w.heap.size) (Or.inl rfl) #[.int .i64 0,.int .i64 0,.int .i64 0,.int .i64 0,.int .i64 0,.int .i64 0,.int .i64 0,.slice none 0 0]
   refine bodyPost_ret (res_cell_slot rfl _ _ w.heap.size _ _ _ _ _ rfl rfl (HROW2.out.setRow [.int .i64 0,.int .i64 0,.int .i64 0,.int .i64 0,.int .i64 0,.int .i64 0,.int .i64 0,.slice none 0 0]) Tryz.underlying26 rfl (by kernel_rfl)) rfl ?_
   exact ⟨Img.none,none,0,10,rfl,⟨rfl,.inl ⟨rfl,rfl⟩⟩,HB2.out.trans (hk.below HB2.out.size (fun i h e=>by have e':i=w.heap.size:=e;omega)),by simp [GetR,hq]⟩
 | true =>
   (refine segs_take [12,13] (by kernel_rfl) (fun _ _ _ _ _ h=>h) ?_;simp only [pick,xGs,xGz,xGo];(iterate 2 still_step);refine wpStill_nil ?_)
   (refine segs_take [14,16] (by kernel_rfl) (fun _ _ _ _ _ h=>h) ?_;simp only [pick,xGs,xGz,xGo];(iterate 2 still_step);refine wpStill_nil ?_)
   (try simp only [xGs,xGz,xGo,Act.put,xSi,xSz,xSs])
   (refine segs_one 15 (by kernel_rfl) (by rfl) ?_;(try simp only [xGs,xGz,xGo]);go_simp)
   refine (digest_at w2' _ m c ((bs.drop 0).take m) (by have:=HN.out;have:=HNM.out;rw [List.length_take,List.length_drop];omega) (by omega) (fun z hz=>hby z (List.mem_of_mem_drop (List.mem_of_mem_take hz))) HSM2.out).mono ?_
   rintro e w3 ⟨g3,rfl,hsl,hb⟩
   have HB3:=Lib.hid (HB2.out.trans (hb.mono HB2.out.size))
   have HROW3:=Lib.hid (HROW2.out.below hb HROW2.out.lt)
   have HSM3:=Lib.hid ((HSM2.out.below hb).more hb.size)
   have HSD3:=Lib.hid ((HSD2.out.below hb).more hb.size)
   have HS5:=Lib.hid hsl
   clear hb hsl
   dsimp only
   (try simp only [xGs,xGz,xGo,Act.put,xSi,xSz,xSs])
   (refine segs_one 17 (by kernel_rfl) (by rfl) ?_;(try simp only [xGs,xGz,xGo]);go_simp)
   refine (equal_at w3 _ _ 32 (k-m) 32 (c-m) (dig ((bs.drop 0).take m)) ((bs.drop m).take 32) (dig_len _) (by have:=HK.out;have:=HN.out;have:=HNM.out;rw [List.length_take,List.length_drop];omega) (by omega) (by have:=HK.out;have:=HNM.out;omega) (dig_byt _) (fun z hz=>hby z (List.mem_of_mem_drop (List.mem_of_mem_take hz))) HS5.out HSD3.out).mono ?_
   rintro e w3' ⟨rfl,rfl⟩
   have hdig:digOk bs=decide (dig ((bs.drop 0).take m)=(bs.drop m).take 32):=by
    have:=HK.out;have:=HN.out;have:=HNM.out
    unfold digOk
    rw [show bs.length-36=m by omega,List.drop_zero]
   rw [←hdig]
   clear hdig
   dsimp only
   (try simp only [xGs,xGz,xGo,Act.put,xSi,xSz,xSs])
   (refine segs_take [18] (by kernel_rfl) (fun _ _ _ _ _ h=>h) ?_;simp only [pick,xGs,xGz,xGo];(iterate 1 still_step);refine wpStill_nil ?_)
   (try simp only [xGs,xGz,xGo,Act.put,xSi,xSz,xSs])
   cases hd:digOk bs with
   | false =>
     (refine segs_take [19] (by kernel_rfl) (fun _ _ _ _ _ h=>h) ?_;simp only [pick,xGs,xGz,xGo];(iterate 1 still_step);refine wpStill_nil ?_)
     refine segs_end (by kernel_rfl) ?_
     go_wp2_with (refine wpList_putR rfl 26 (.tmp 2) (.tmp 43) rfl w.heap.size 0 #[.int .i64 0,.int .i64 0,.int .i64 0,.int .i64 0,.int .i64 0,.int .i64 0,.int .i64 0,.slice none 0 0] rfl rfl (HROW3.out) (by kernel_rfl) (by simp) (by simp [Value.oneCell']) [.int .i64 0,.int .i64 0,.int .i64 0,.int .i64 0,.int .i64 0,.int .i64 0,.int .i64 0,.slice none 0 0] (by simp) ?_)
     have hk:=kept_setRow (Kept.refl (fun i=>i=w.heap.size) w3') (g:=w.heap.size) (Or.inl rfl) #[.int .i64 0,.int .i64 0,.int .i64 0,.int .i64 0,.int .i64 0,.int .i64 0,.int .i64 0,.slice none 0 0]
     refine bodyPost_ret (res_cell_slot rfl _ _ w.heap.size _ _ _ _ _ rfl rfl (HROW3.out.setRow [.int .i64 0,.int .i64 0,.int .i64 0,.int .i64 0,.int .i64 0,.int .i64 0,.int .i64 0,.slice none 0 0]) Tryz.underlying26 rfl (by kernel_rfl)) rfl ?_
     exact ⟨Img.none,none,0,10,rfl,⟨rfl,.inl ⟨rfl,rfl⟩⟩,HB3.out.trans (hk.below HB3.out.size (fun i h e=>by have e':i=w.heap.size:=e;omega)),by simp [GetR,hq,hd]⟩
   | true =>
     (refine segs_take [19] (by kernel_rfl) (fun _ _ _ _ _ h=>h) ?_;simp only [pick,xGs,xGz,xGo];(iterate 1 still_step);refine wpStill_nil ?_)
     refine segs_end (by kernel_rfl) ?_
     go_wp2_with (fail)
     refine (hp w3' HSM3.out).mono ?_
     rintro e w4 ⟨j,A',c',er,rfl,ho,hb,hR⟩
     have HB4:=Lib.hid (HB3.out.trans (hb.mono HB3.out.size))
     have HROW4:=Lib.hid (HROW3.out.below hb HROW3.out.lt)
     have HO:=Lib.hid ho
     have HL3:=Lib.hid HROW3.out.lt
     clear ho hb
     simp only [Img.val]
     go_wp2_with (refine wpList_putR rfl 26 (.tmp 2) (.tmp 46) rfl w.heap.size 0 #[.int .i64 j.part,.int .i64 j.version,.int .i64 j.hard,.int .i64 j.mem,.int .i64 j.fuel,.int .i64 j.sends,.int .i64 j.receives,.slice A' j.code.length c'] rfl rfl HROW4.out (by kernel_rfl) (by simp) (by simp [Value.oneCell']) [.int .i64 j.part,.int .i64 j.version,.int .i64 j.hard,.int .i64 j.mem,.int .i64 j.fuel,.int .i64 j.sends,.int .i64 j.receives,.slice A' j.code.length c'] (by simp) ?_)
     have hk:=kept_setRow (Kept.refl (fun i=>i=w.heap.size) w4) (g:=w.heap.size) (Or.inl rfl) #[.int .i64 j.part,.int .i64 j.version,.int .i64 j.hard,.int .i64 j.mem,.int .i64 j.fuel,.int .i64 j.sends,.int .i64 j.receives,.slice A' j.code.length c']
     have ho:=hk.own HO.out (fun k h e=>by have e':k=w.heap.size:=e;have:=own_far HO.out k h;have:=HL3.out;omega)
     refine bodyPost_ret (res_cell_slot rfl _ _ w.heap.size _ _ _ _ _ rfl rfl (HROW4.out.setRow [.int .i64 j.part,.int .i64 j.version,.int .i64 j.hard,.int .i64 j.mem,.int .i64 j.fuel,.int .i64 j.sends,.int .i64 j.receives,.slice A' j.code.length c']) Tryz.underlying26 rfl (by kernel_rfl)) rfl ?_
     exact ⟨j,A',c',er,rfl,ho.mono (by have:=HB3.out.size;omega),HB4.out.trans (hk.below HB4.out.size (fun i h e=>by have e':i=w.heap.size:=e;omega)),by simp [GetR,hq,hd,hR]⟩
theorem sealed_len (b:List Int):(sealed b).length=b.length+36:=by simp [sealed,dig_len,be_length]
theorem sealed_sum (b:List Int):sumOk (sealed b)=true:=by
 have h1:(sealed b).length-4=(b++dig b).length:=by rw [sealed_len];simp [dig_len]
 unfold sumOk
 rw [h1,show sealed b=(b++dig b)++be 4 (sum (b++dig b)) from rfl,List.take_left,List.drop_left]
 simp
theorem sealed_dig (b:List Int):digOk (sealed b)=true:=by
 have h1:(sealed b).length-36=b.length:=by rw [sealed_len];omega
 unfold digOk
 rw [h1,show sealed b=b++(dig b++be 4 (sum (b++dig b))) by simp [sealed],List.take_left,List.drop_left,List.take_left' (dig_len b)]
 simp
theorem sealed_take (b:List Int):(sealed b).take b.length=b:=by
 rw [show sealed b=b++(dig b++be 4 (sum (b++dig b))) by simp [sealed],List.take_left]
theorem byt_app {a b:List Int} (ha:Byt a) (hb:Byt b):Byt (a++b):=fun z hz=>by
 rcases List.mem_append.1 hz with h|h
 ·exact ha z h
 ·exact hb z h
theorem sealed_byt (b:List Int) (h:Byt b):Byt (sealed b):=byt_app (byt_app h (dig_byt b)) (be_byt _ _)
theorem bytes_len (i:Img):i.bytes.length=49+i.code.length:=by rw [Img.bytes,sealed_len,head_len];omega
end image
end Go.Proofs.YtdldkkoplgkloaaGreat
