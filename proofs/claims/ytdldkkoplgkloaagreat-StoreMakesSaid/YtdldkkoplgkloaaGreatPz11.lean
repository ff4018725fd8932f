/-
  PROVED HERE: lemmas and contracts that the law's proof leans on (texts put together: ImageHead, TabPut).
  CONDITIONS: each names its own.
-/
import Derived.Test.YtdldkkoplgkloaaGreatPz2
import Derived.Test.YtdldkkoplgkloaaGreatPz3
import Derived.Test.YtdldkkoplgkloaaGreatPz10
namespace Go.Proofs.YtdldkkoplgkloaaGreat
set_option linter.unusedVariables false
set_option linter.unusedSimpArgs false
set_option maxRecDepth 100000
set_option maxHeartbeats 32000000
namespace image


open Go.RowKit Go.Deep base obj mem sep crc num bytes plan chain
theorem u8s_one' (l:List Int):∀v∈u8s l,v.oneCell'=true:=fun v hv=>by
 obtain ⟨x,_,rfl⟩:=List.mem_map.1 hv;rfl
theorem more_at {w0 w:World} {v:Value} {n:Nat} {l:List Int} (ho:w.ownsRow w0.heap.size 5 1 v n (u8s l)) (hb:Below w0.heap.size w0 w) (hn:n≤100000) (m k:Nat) (hk1:1≤k) (hk2:k≤6) (hm:m < 256 ^ k) :
  Calls Tryz.prog 123 #[v,.int .i64 m,.int .i64 k] w fun e w'=>∃v',e=.returned v'∧w'.ownsRow w0.heap.size 5 1 v' (n+k) (u8s (l++be k m))∧Below w0.heap.size w0 w'∧Below w.heap.size w w':=by
 obtain ⟨A,c,rfl,hc,_⟩:=own_form ho
 refine (put_at w A n c (u8s l) (Sl.of_own ho) (u8s_one' l) hn m k hk1 hk2 hm).mono fun e w' ⟨v',h1,h2,h3⟩=>⟨v',h1,?_,hb.trans (h3.mono hb.size),h3⟩
 rw [u8s,List.map_append]
 exact h2.mono hb.size
theorem idx4i (a b c d:Int) (k:Nat) (h:k < 4) (w:World):(Instr.index 192 (.agg #[.int .i64 a,.int .i64 b,.int .i64 c,.int .i64 d]) (.int .i64 (k:Int))).run Tryz.prog w=.ok (.int .i64 ([a,b,c,d].getD k 0)) w:=by
 rcases (by omega:k=0∨k=1∨k=2∨k=3) with rfl|rfl|rfl|rfl<;>kernel_rfl
theorem head_at (w:World) (i:Img) (hr:i.right) (A:Option Addr) (c:Nat) (hc:i.code.length≤c) (hs:Sl w w.heap.size 1 A i.code.length (u8s i.code)) :
  Calls Tryz.prog 76 #[i.val A c] w fun e w'=>∃v,e=.returned v∧w'.ownsRow w.heap.size 5 1 v i.head.length (u8s i.head)∧Below w.heap.size w w':=by
 rw [head_len]
 obtain ⟨part,version,hard,mem,fuel,sends,receives,code⟩:=i
 obtain ⟨⟨a0,a1⟩,⟨b0,b1⟩,⟨c0,c1⟩,⟨d0,d1⟩,⟨e0,e1⟩,⟨f0,f1⟩,⟨g0,g1⟩,⟨h0,h1⟩⟩:=hr
 simp only [Img.val,Img.head] at *
 obtain ⟨p,rfl⟩:∃p:Nat,part=p:=⟨part.toNat,by omega⟩
 obtain ⟨ve,rfl⟩:∃p:Nat,version=p:=⟨version.toNat,by omega⟩
 obtain ⟨ha,rfl⟩:∃p:Nat,hard=p:=⟨hard.toNat,by omega⟩
 obtain ⟨me,rfl⟩:∃p:Nat,mem=p:=⟨mem.toNat,by omega⟩
 obtain ⟨fu,rfl⟩:∃p:Nat,fuel=p:=⟨fuel.toNat,by omega⟩
 obtain ⟨se,rfl⟩:∃p:Nat,sends=p:=⟨sends.toNat,by omega⟩
 obtain ⟨re,rfl⟩:∃p:Nat,receives=p:=⟨receives.toNat,by omega⟩
 simp only [Int.toNat_natCast]
 obtain ⟨X,hX⟩:∃X:List Value,X=[.int .i64 (p:Int),.int .i64 (ve:Int),.int .i64 (ha:Int),.int .i64 (me:Int),.int .i64 (fu:Int),.int .i64 (se:Int),.int .i64 (re:Int),.slice A code.length c]:=⟨_,rfl⟩
 have hrow:=Row.new w 26 #[.int .i64 (p:Int),.int .i64 (ve:Int),.int .i64 (ha:Int),.int .i64 (me:Int),.int .i64 (fu:Int),.int .i64 (se:Int),.int .i64 (re:Int),.slice A code.length c]
 have hb0:=(Below.refl w.heap.size w).alloc (Nat.le_refl _) (.cells #[.int .i64 (p:Int),.int .i64 (ve:Int),.int .i64 (ha:Int),.int .i64 (me:Int),.int .i64 (fu:Int),.int .i64 (se:Int),.int .i64 (re:Int),.slice A code.length c] 26)
 have HROW:=Lib.hid hrow;have HB0:=Lib.hid hb0;have HS:=Lib.hid hs
 clear hX hrow hb0 hs X
 go_enter Tryz.func76,Tryz.ntmps76
 go_wp2_with (fail)
 refine (more_at (w0:=w) (v:=.slice none 0 0) (n:=0) (l:=[]) (World.ownsRow_nil _ _ _ _) HB0.out (by omega) 19529 2 (by omega) (by omega) (by omega)).mono ?_;rintro e w1 ⟨v1,rfl,ho,hb,hbb⟩
 have HO1:=Lib.hid ho;have HB1:=Lib.hid hb;have HR1:=Lib.hid (HROW.out.below hbb HROW.out.lt)
 clear ho hb hbb
 have x0:w1.cell? ⟨w.heap.size,0,none⟩=some (.int .i64 (p:Int)):=HR1.out.cell 0
 go_wp2_with (fail)
 refine (more_at HO1.out HB1.out (by omega) p 1 (by omega) (by omega) (by omega)).mono ?_;rintro e w2 ⟨v2,rfl,ho,hb,hbb⟩
 have HO2:=Lib.hid ho;have HB2:=Lib.hid hb;have HR2:=Lib.hid (HR1.out.below hbb HR1.out.lt)
 clear ho hb hbb x0
 have x1:w2.cell? ⟨w.heap.size,1,none⟩=some (.int .i64 (ve:Int)):=HR2.out.cell 1
 go_wp2_with (fail)
 refine (more_at HO2.out HB2.out (by omega) ve 2 (by omega) (by omega) (by omega)).mono ?_;rintro e w3 ⟨v3,rfl,ho,hb,hbb⟩
 have HO3:=Lib.hid ho;have HB3:=Lib.hid hb;have HR3:=Lib.hid (HR2.out.below hbb HR2.out.lt)
 clear ho hb hbb x1
 have x2:w3.cell? ⟨w.heap.size,2,none⟩=some (.int .i64 (ha:Int)):=HR3.out.cell 2
 go_wp2_with (fail)
 refine (more_at HO3.out HB3.out (by omega) ha 2 (by omega) (by omega) (by omega)).mono ?_;rintro e w4 ⟨v4,rfl,ho,hb,hbb⟩
 have HO4:=Lib.hid ho;have HB4:=Lib.hid hb;have HR4:=Lib.hid (HR3.out.below hbb HR3.out.lt)
 clear ho hb hbb x2
 have x3:w4.cell? ⟨w.heap.size,3,none⟩=some (.int .i64 (me:Int)):=HR4.out.cell 3
 have x4:w4.cell? ⟨w.heap.size,4,none⟩=some (.int .i64 (fu:Int)):=HR4.out.cell 4
 have x5:w4.cell? ⟨w.heap.size,5,none⟩=some (.int .i64 (se:Int)):=HR4.out.cell 5
 have x6:w4.cell? ⟨w.heap.size,6,none⟩=some (.int .i64 (re:Int)):=HR4.out.cell 6
 go_wp2_with (fail)
 obtain ⟨P,hP⟩:∃P:List Int,P=[]++be 2 19529++be 1 p++be 2 ve++be 2 ha:=⟨_,rfl⟩
 have ho4:=HO4.out
 rw [←hP] at ho4
 have HO5:=Lib.hid ho4;have HP:=Lib.hid hP
 clear ho4 hP x3 x4 x5 x6
 go_loopw [28,3] (fun i vv wr=>∃k:Nat,k≤4∧i=.int .i64 k∧wr.ownsRow w.heap.size 5 1 vv (7+k) (u8s (P++(([me,fu,se,re]:List Nat).take k).flatMap (be 1)))∧Below w.heap.size w wr∧Row wr w.heap.size 26 [.int .i64 (p:Int),.int .i64 (ve:Int),.int .i64 (ha:Int),.int .i64 (me:Int),.int .i64 (fu:Int),.int .i64 (se:Int),.int .i64 (re:Int),.slice A code.length c]) (fun i _ _=>4-(intOf i).toNat)
 case atStart=>exact ⟨0,by omega,rfl,by rw [List.take_zero,List.flatMap_nil,List.append_nil];exact HO5.out,HB4.out,HR4.out⟩
 case round =>
  obtain ⟨k,hk,rfl,ho,hb,hrw⟩:=hrel
  have HO6:=Lib.hid ho;have HB6:=Lib.hid hb;have HR6:=Lib.hid hrw
  clear ho hb hrw
  by_cases hlt:k < 4
  ·have hlt':(k:Int) < 4:=by omega
   have hix:=idx4i me fu se re k hlt
   have hgl:[(me:Int),(fu:Int),(se:Int),(re:Int)].getD k 0=(([me,fu,se,re].getD k 0:Nat):Int):=by
    rcases (by omega:k=0∨k=1∨k=2∨k=3) with rfl|rfl|rfl|rfl<;>rfl
   have hlt256:[me,fu,se,re].getD k 0 < 256:=by
    rcases (by omega:k=0∨k=1∨k=2∨k=3) with rfl|rfl|rfl|rfl
    ·show me < 256;omega
    ·show fu < 256;omega
    ·show se < 256;omega
    ·show re < 256;omega
   have htk:([me,fu,se,re].take (k+1)).flatMap (be 1)=([me,fu,se,re].take k).flatMap (be 1)++be 1 ([me,fu,se,re].getD k 0):=by
    rcases (by omega:k=0∨k=1∨k=2∨k=3) with rfl|rfl|rfl|rfl<;>rfl
   rw [hgl] at hix
   generalize [me,fu,se,re].getD k 0=z at *
   have HTK:=Lib.hid htk
   clear hgl htk
   go_wp2_with (fail)
   refine (more_at HO6.out HB6.out (by omega) z 1 (by omega) (by omega) (by omega)).mono ?_;rintro e w7 ⟨v7,rfl,ho,hb,hbb⟩
   have HO7:=Lib.hid ho;have HB7:=Lib.hid hb;have HR7:=Lib.hid (HR6.out.below hbb HR6.out.lt)
   clear ho hb hbb hix
   go_wp2_with (fail)
   go_roundw
   case rel=>exact ⟨k+1,by omega,by go_num,by rw [HTK.out,←List.append_assoc];exact HO7.out,HB7.out,HR7.out⟩
   case measure=>simp [intOf];omega
  ·have hlt':¬(k:Int) < 4:=by omega
   obtain rfl:k=4:=by omega
   obtain ⟨A8,c8,rfl,hc8,_⟩:=own_form HO6.out
   have x7:wr.cell? ⟨w.heap.size,7,none⟩=some (.slice A code.length c):=HR6.out.cell 7
   have HT:=Lib.hid (text_at wr A8 (7+4) c8 _ (Sl.of_own HO6.out) (u8s_one' _) (by omega) A code.length c code (by omega) (by omega) hc ((HS.out.below HB6.out).more HB6.out.size))
   go_wp2_with (fail)
   refine HT.out.mono ?_;rintro e w9 ⟨v9,rfl,ho,hb9⟩
   have HO9:=Lib.hid (ho.mono HB6.out.size);have HB9:=Lib.hid (HB6.out.trans (hb9.mono HB6.out.size))
   clear ho hb9
   go_wp2_with (fail)
   go_ret
   refine ⟨_,rfl,?_,HB9.out⟩
   have h:=HO9.out
   rw [HP.out,←List.map_append,←List.map_append] at h
   have e:[]++be 2 19529++be 1 p++be 2 ve++be 2 ha++(([me,fu,se,re]:List Nat).take 4).flatMap (be 1)++be 2 code.length++code=be 2 19529++be 1 p++be 2 ve++be 2 ha++be 1 me++be 1 fu++be 1 se++be 1 re++be 2 code.length++code:=by
    simp [List.append_assoc]
   rw [e,show 7+4+2+code.length=13+code.length by omega] at h
   exact h
theorem iput_no (w:World) (i:Img) (hr:¬i.right) (A:Option Addr) (c:Nat) (hc:i.code.length≤9223372036854775807):Calls Tryz.prog 30 #[i.val A c] w fun e w'=>e=.returned (.tuple #[.slice none 0 0,.int .i64 3])∧Below w.heap.size w w':=by
 have hd:decide i.right=false:=by simpa using hr
 have HRT:=Lib.hid (fun w=>right_at w i A c hc)
 obtain ⟨part,version,hard,mem,fuel,sends,receives,code⟩:=i
 rw [hd] at HRT
 simp only [Img.val] at *
 have HB0:=Lib.hid ((Below.refl w.heap.size w).alloc (Nat.le_refl _) (.cells #[.int .i64 part,.int .i64 version,.int .i64 hard,.int .i64 mem,.int .i64 fuel,.int .i64 sends,.int .i64 receives,.slice A code.length c] 26))
 clear hr hd
 go_enter Tryz.func30,Tryz.ntmps30
 go_wp2_with (fail)
 refine (HRT.out _).mono ?_;rintro e w1 ⟨rfl,hb⟩
 have HB1:=Lib.hid (HB0.out.trans (hb.mono HB0.out.size))
 clear hb
 go_wp2_with (fail)
 go_ret2
 exact ⟨rfl,HB1.out⟩
theorem iput_at (w:World) (i:Img) (hr:i.right) (A:Option Addr) (c:Nat) (hc:i.code.length≤c) (hby:Byt i.code) (hs:Sl w w.heap.size 1 A i.code.length (u8s i.code)) :
  Calls Tryz.prog 30 #[i.val A c] w fun e w'=>∃v,e=.returned (.tuple #[v,.int .i64 0])∧w'.ownsRow w.heap.size 5 1 v (49+i.code.length) (u8s i.bytes)∧Below w.heap.size w w':=by
 have hl96:i.code.length≤96:=by obtain ⟨_,_,_,_,_,_,_,h⟩:=hr;omega
 have hd:decide i.right=true:=by simpa using hr
 have HRT:=Lib.hid (fun w=>right_at w i A c (by omega))
 have HHD:=Lib.hid (fun w (hs:Sl w w.heap.size 1 A i.code.length (u8s i.code))=>head_at w i hr A c hc hs)
 have HHB:=Lib.hid (head_byt i hby);have HHL:=Lib.hid (head_len i)
 have hbytes:i.bytes=sealed i.head:=rfl
 generalize i.head=H at *
 generalize i.bytes=BY at *
 obtain ⟨part,version,hard,mem,fuel,sends,receives,code⟩:=i
 rw [hd] at HRT
 simp only [Img.val] at *
 have HB0:=Lib.hid ((Below.refl w.heap.size w).alloc (Nat.le_refl _) (.cells #[.int .i64 part,.int .i64 version,.int .i64 hard,.int .i64 mem,.int .i64 fuel,.int .i64 sends,.int .i64 receives,.slice A code.length c] 26))
 have HROW:=Lib.hid (Row.new w 26 #[.int .i64 part,.int .i64 version,.int .i64 hard,.int .i64 mem,.int .i64 fuel,.int .i64 sends,.int .i64 receives,.slice A code.length c])
 have HS:=Lib.hid hs;have HBY:=Lib.hid hbytes
 clear hr hd hs hby hbytes
 go_enter Tryz.func30,Tryz.ntmps30
 go_wp2_with (fail)
 refine (HRT.out _).mono ?_;rintro e w1 ⟨rfl,hb⟩
 have HB1:=Lib.hid (HB0.out.trans (hb.mono HB0.out.size));have HR1:=Lib.hid (HROW.out.below hb HROW.out.lt)
 clear hb
 have x0:w1.cell? ⟨w.heap.size,0,none⟩=some (.int .i64 part):=HR1.out.cell 0
 have x1:w1.cell? ⟨w.heap.size,1,none⟩=some (.int .i64 version):=HR1.out.cell 1
 have x2:w1.cell? ⟨w.heap.size,2,none⟩=some (.int .i64 hard):=HR1.out.cell 2
 have x3:w1.cell? ⟨w.heap.size,3,none⟩=some (.int .i64 mem):=HR1.out.cell 3
 have x4:w1.cell? ⟨w.heap.size,4,none⟩=some (.int .i64 fuel):=HR1.out.cell 4
 have x5:w1.cell? ⟨w.heap.size,5,none⟩=some (.int .i64 sends):=HR1.out.cell 5
 have x6:w1.cell? ⟨w.heap.size,6,none⟩=some (.int .i64 receives):=HR1.out.cell 6
 have x7:w1.cell? ⟨w.heap.size,7,none⟩=some (.slice A code.length c):=HR1.out.cell 7
 go_wp2_with (fail)
 refine (HHD.out _ ((HS.out.below HB1.out).more HB1.out.size)).mono ?_;rintro e w2 ⟨v,rfl,ho,hb2⟩
 obtain ⟨A2,c2,rfl,hc2,_⟩:=own_form ho
 have HO2:=Lib.hid (ho.mono HB1.out.size);have HB2:=Lib.hid (HB1.out.trans (hb2.mono HB1.out.size));have HSL2:=Lib.hid (Sl.of_own ho)
 clear ho hb2 x0 x1 x2 x3 x4 x5 x6 x7
 go_wp2_with (fail)
 refine (digest_at w2 A2 H.length c2 H rfl (by rw [HHL.out];show 13+code.length≤_;omega) HHB.out HSL2.out).mono ?_;rintro e w3 ⟨g,rfl,hsd,hb3⟩
 have HO3:=Lib.hid (own_below HO2.out hb3);have HB3:=Lib.hid (HB2.out.trans (hb3.mono HB2.out.size));have HSD:=Lib.hid hsd
 have hlH:H.length≤200:=by rw [HHL.out];show 13+code.length≤_;omega
 clear hsd hb3
 go_upto_region 5 with (at_builtin;refine app_at slB rfl (.tmp 10) (.tmp 12) rfl HO3.out rfl rfl (fun h=>by cases h) HSD.out (u8s_one' _) (by omega) (by unfold maxLen;omega) HB3.out.size ?_;intro v4 w4 ho4 hg4 hl4;have HO4:=Lib.hid ho4;have HB4:=Lib.hid (below_own HB3.out HO3.out hg4 HB3.out.size);clear ho4 hg4 hl4)
 obtain ⟨A4,c4,rfl,hc4,_⟩:=own_form HO4.out
 have hjoin:u8s H++u8s (dig H)=u8s (H++dig H):=by simp [u8s]
 have ho5:=HO4.out
 rw [hjoin] at ho5
 have hbj:Byt (H++dig H):=fun z hz=>by
  rcases List.mem_append.1 hz with h|h
  ·exact HHB.out z h
  ·exact sha.dig_byt H z h
 have hlj:(H++dig H).length=H.length+32:=by rw [List.length_append,sha.dig_len]
 have HSUM:=Lib.hid (isum_at w4 A4 (H.length+32) c4 (H++dig H) hlj (by omega) hbj (Sl.of_own ho5))
 have HO5:=Lib.hid ho5
 clear ho5 hjoin hbj
 go_wp2_with (fail)
 refine HSUM.out.mono ?_;rintro e w6 ⟨v6,rfl,ho6,hb6⟩
 obtain ⟨A6,c6,rfl,hc6,_⟩:=own_form ho6
 have HO6:=Lib.hid (own_below HO5.out hb6);have HB6:=Lib.hid (HB4.out.trans (hb6.mono HB4.out.size));have HS6:=Lib.hid (Sl.of_own ho6)
 have hcap:=own_cap ho6
 have HCAP:=Lib.hid hcap
 clear ho6 hb6 hcap
 go_wp2_with (at_builtin;refine app_at slB rfl (.tmp 14) (.tmp 16) rfl HO6.out rfl rfl HCAP.out HS6.out (u8s_one' _) (by omega) (by unfold maxLen;omega) HB6.out.size ?_;intro v7 w7 ho7 hg7 hl7;have HO7:=Lib.hid ho7;have HB7:=Lib.hid (below_own HB6.out HO6.out hg7 HB6.out.size);clear ho7 hg7 hl7)
 go_ret2
 refine ⟨_,rfl,?_,HB7.out⟩
 have h:=HO7.out
 rw [←List.map_append,show H.length+32+4=49+code.length by rw [HHL.out];show 13+code.length+32+4=_;omega] at h
 rw [HBY.out]
 exact h
end image
namespace tab


open Go.RowKit Go.Deep base obj mem sep plan num bytes crc chain image
def bufr (X:Nat) (n:Nat) (bs:List Int):Asn:=some_ fun v=>lst [row X 24 [v],own 5 1 v n (u8s bs)]
section
variable {w0 w : World} {l : List Asn} {X n : Nat} {bs : List Int}
theorem buf_open (h:St w0 w (bufr X n bs::l)):∃v,St w0 w (row X 24 [v]::own 5 1 v n (u8s bs)::l):=by
 obtain ⟨v,h⟩:=h.ex
 exact ⟨v,h.unlst⟩
theorem buf_shut {v:Value} (h:St w0 w (row X 24 [v]::own 5 1 v n (u8s bs)::l)):St w0 w (bufr X n bs::l) :=
 St.toEx v (St.tolst (L:=[row X 24 [v],own 5 1 v n (u8s bs)]) h)
theorem buf_put {v:Value} (h:St w0 w (row X 24 [v]::own 5 1 v n (u8s bs)::l)) (hn:n≤100000) (m k:Nat) (hk1:1≤k) (hk2:k≤6) (hm:m < 256 ^ k) :
  Calls Tryz.prog 123 #[v,.int .i64 m,.int .i64 k] w fun e w'=>∃v',e=.returned v'∧St w0 w' (row X 24 [v]::own 5 1 v' (n+k) (u8s (bs++be k m))::l):=by
 have ho:=h.swap.own
 obtain ⟨A,c,rfl,_,_⟩:=own_form ho
 refine (num.put_at w A n c _ (Sl.of_own ho) (u8s_one bs) hn m k hk1 hk2 hm).mono ?_
 rintro e w' ⟨v',rfl,ho',hb⟩
 have h2:=(h.swap.drop.addOwn hb ho').swap
 rw [u8s,←List.map_append] at h2
 exact ⟨v',rfl,h2⟩
end
def ints (L:List Int):List Value:=L.map (.int .i64)
theorem nilU (w:World) (B:Nat):w.ownsRow B 5 1 (.slice none 0 0) 0 (u8s []):=⟨rfl,.inl ⟨rfl,rfl⟩⟩
theorem be_one {z:Int} (h0:0≤z) (h1:z≤255):be 1 z.toNat=[z]:=by
 have:((z.toNat / 256 ^ (1-1-0) % 256:Nat):Int)=z:=by simp;omega
 simp only [be,List.range_succ,List.range_zero,List.nil_append,List.map_cons,List.map_nil,digit]
 rw [this]
theorem put1_at {w0 w:World} {l:List Asn} {X n:Nat} {bs:List Int} {B c:Nat} {L:List Int} (h:St w0 w (bufr X n bs::row B 3 (ints L)::l)) (hn:n+L.length≤100000) (hL:∀z∈L,0≤z∧z≤255) (k:Nat) (hk:L.length=k) :
  Calls Tryz.prog 165 #[.slice (some ⟨B,0,none⟩) k c,.pointer (some ⟨X,0,none⟩)] w fun e w'=>e=.returned (.tuple #[])∧St w0 w' (bufr X (n+k) (bs++L)::row B 3 (ints L)::l):=by
 have H:=Lib.hid h;have HL:=Lib.hid hL;have HK:=Lib.hid hk
 clear h hL hk
 go_enter Tryz.func165,Tryz.ntmps165
 go_wp2_with (fail)
 go_loopw [7] (fun i wr=>∃j:Nat,j≤k∧i=.int .i64 j∧St w0 wr (bufr X (n+j) (bs++L.take j)::row B 3 (ints L)::l)) (fun i _=>k-(intOf i).toNat)
 case atStart=>exact ⟨0,by omega,rfl,by rw [List.take_zero,List.append_nil];exact H.out⟩
 case round =>
  obtain ⟨j,hj,rfl,hst⟩:=hrel
  clear H
  by_cases hlt:j < k
  ·have hjb:j < L.length:=by rw [HK.out];exact hlt
   have hz:=HL.out L[j] (List.getElem_mem hjb)
   obtain ⟨v,hst2⟩:=buf_open hst
   have c0:wr.cell? ⟨X,0,none⟩=some v:=hst2.row.1.cell 0
   have f0:wr.frozen? ⟨X,0,none⟩=false:=hst2.row.1.frozen 0
   have l0:=hst2.row.1.lt
   have hB:=(hst2.pick 2 rfl).row.1
   have c1:wr.cell? ⟨B,j,none⟩=some (.int .i64 L[j]):=(hB.cell j).trans (by simp [ints,hjb])
   have l1:=hB.lt
   have HST:=Lib.hid hst2
   have HZ:=Lib.hid hz
   obtain ⟨m,hm⟩:∃m:Nat,m=L[j].toNat:=⟨_,rfl⟩
   have hzm:L[j]=(m:Int):=by omega
   have HT:=Lib.hid (show bs++L.take (j+1)=bs++L.take j++be 1 m by rw [List.take_succ_eq_append_getElem hjb,hm,be_one hz.1 hz.2,List.append_assoc])
   rw [hzm] at c1
   have hm2:m < 256:=by omega
   have k0:(0:Int)≤(j:Int):=by omega
   have k1:(j:Int) < (k:Int):=by omega
   clear hst hst2 hB hz hm hzm
   go_wp2_with (fail)
   refine (buf_put HST.out (by have:=HK.out;omega) m 1 (by omega) (by omega) (by omega)).mono ?_
   rintro e w1 ⟨v1,rfl,hst1⟩
   have HS1:=Lib.hid hst1
   have f1:w1.frozen? ⟨X,0,none⟩=false:=hst1.row.1.frozen 0
   have c2:w1.cell? ⟨X,0,none⟩=some v:=hst1.row.1.cell 0
   have l2:=hst1.row.1.lt
   obtain ⟨A1,d1,rfl,_,_⟩:=own_form hst1.swap.own
   clear hst1 c0 f0 l0 c1 l1
   go_wp2_with (fail)
   go_roundw
   case rel =>
    refine ⟨j+1,by omega,by go_num,?_⟩
    have h:=HS1.out.set 0 (.slice A1 (n+j+1) d1)
    simp only [List.set_cons_zero] at h
    rw [HT.out]
    exact buf_shut h
   case measure=>simp [intOf];omega
  ·have HE:=Lib.hid (show j=k by omega)
   have HST:=Lib.hid hst
   clear hst
   have k1:¬(j:Int) < (k:Int):=by omega
   go_wp2_with (fail)
   go_end0
   refine ⟨rfl,?_⟩
   have h:=HST.out
   rw [HE.out,←HK.out,List.take_length,HK.out] at h
   exact h
def partB (x:T3):List Int:=[x.a,x.b]++be 2 x.c.toNat
def t3B (x:T3):List Int:=[x.a,x.b,x.c]
def headB (t:Tab):List Int:=[t.frame,t.trial,(t.parts.length:Int),(t.wins.length:Int),(t.chans.length:Int)]
def tabB (t:Tab):List Int:=headB t++t.parts.flatMap partB++t.wins.flatMap t3B++t.chans.flatMap t3B
structure TabR (t:Tab):Prop where
 fr:1≤t.frame∧t.frame≤64
 tr:1≤t.trial∧t.trial≤7
 np:2≤t.parts.length∧t.parts.length≤4
 nw:1≤t.wins.length∧t.wins.length≤8
 nc:t.chans.length≤4
 ps:∀x∈t.parts,(1≤x.a∧x.a≤16)∧(1≤x.b∧x.b≤32)∧0≤x.c∧x.c≤65535
 ws:∀x∈t.wins,(0≤x.a∧x.a < t.parts.length)∧(0≤x.b∧x.b≤64)∧1≤x.c∧x.c≤64
 cs:∀x∈t.chans,(0≤x.a∧x.a < t.parts.length)∧(0≤x.b∧x.b < t.parts.length)∧x.a≠x.b∧0≤x.c∧x.c≤4
theorem okr_iff {n a b:Int}:okr n a b=true ↔ a≤n∧n≤b:=by simp [okr]
theorem winsOk_all {n:Nat} {fr:Int}:∀(l:List T3) (e:Int),0≤e→fr≤64→winsOk n fr e l=true→∀x∈l,(0≤x.a∧x.a < n)∧(0≤x.b∧x.b≤64)∧1≤x.c∧x.c≤64
 | [],_,_,_,_,x,hx=>by cases hx
 | y::l,e,he,hf,h,x,hx=>by
   simp only [winsOk,Bool.and_eq_true] at h
   obtain ⟨h1,h2,h3,h4,h5⟩:=winOk_true h.1
   have h1':=okr_iff.1 h1
   rcases List.mem_cons.1 hx with rfl|hx
   ·omega
   ·exact winsOk_all l _ (by omega) hf h.2 x hx
theorem Tab.r {t:Tab} (h:t.right=true):TabR t:=by
 simp only [Tab.right,Bool.and_eq_true,okr_iff,decide_eq_true_eq,Bool.not_eq_true',List.any_eq_false] at h
 obtain ⟨h1,h2,h3,h4,h5,h6,h7⟩:=h
 simp only [Tab.winsR,Bool.and_eq_true,decide_eq_true_eq,List.any_eq_true] at h5
 obtain ⟨h8,⟨x0,hx0,_⟩,h9⟩:=h5
 refine ⟨h1,h2,by omega,⟨?_,h9⟩,h6,fun x hx=>?_,fun x hx=>winsOk_all _ 0 (by omega) (by omega) h8 x hx,fun x hx=>?_⟩
 ·cases hw:t.wins with
  | nil=>rw [hw] at hx0;cases hx0
  | cons y l=>simp
 ·have h:x.part=true:=by simpa using h4 x hx
  simp only [T3.part,Bool.and_eq_true,okr_iff] at h
  omega
 ·have h:chanOk t.parts.length x=true:=by simpa using h7 x hx
  simp only [chanOk,Bool.and_eq_true,okr_iff,beq_eq_false_iff_ne,ne_eq,Bool.not_eq_true'] at h
  omega
theorem partB_len (x:T3):(partB x).length=4:=by simp [partB,be_length]
theorem t3B_len (x:T3):(t3B x).length=3:=rfl
theorem flat_len {f:T3→List Int} {k:Nat} (hf:∀x,(f x).length=k) (l:List T3):(l.flatMap f).length=k*l.length:=by
 induction l with
 | nil=>simp
 | cons x l ih=>rw [List.flatMap_cons,List.length_append,hf,ih,List.length_cons,Nat.mul_succ,Nat.add_comm]
theorem tput_at {w:World} {t:Tab} {AP AW AC:Option Addr} {nP cP nW cW nC cC:Nat} (h:TabV w w.heap.size t AP nP cP AW nW cW AC nC cC) (hr:t.right=true) :
  Calls Tryz.prog 116 #[tabAgg t.frame AP nP cP AW nW cW AC nC cC t.trial] w fun e w'=>∃v,e=.returned (.tuple #[v,.int .i64 0])∧w'.ownsRow w.heap.size 5 1 v (tabB t).length (u8s (tabB t))∧Below w.heap.size w w':=by
 have R:=Tab.r hr
 have HV:=Lib.hid h
 have HRT:=Lib.hid (fun w' (hb:Below w.heap.size w w')=>right_at (h.over hb))
 rw [hr] at HRT
 obtain ⟨T,hT⟩:∃T,T=w.heap.size:=⟨_,rfl⟩
 obtain ⟨w1,hw1⟩:∃w1,w1=w.alloc (.cells #[.int .i64 t.frame,.slice AP nP cP,.slice AW nW cW,.slice AC nC cC,.int .i64 t.trial] 46):=⟨_,rfl⟩
 have H1:=Lib.hid (show St w w1 [row T 46 (tabRow t.frame AP nP cP AW nW cW AC nC cC t.trial)] by rw [hw1,hT];exact (St.nil w).new _ _)
 obtain ⟨fr,hfr⟩:∃fr,fr=t.frame:=⟨_,rfl⟩
 obtain ⟨tr,htr⟩:∃tr,tr=t.trial:=⟨_,rfl⟩
 have HR:=Lib.hid R
 rw [←hfr,←htr] at HRT H1 hw1 ⊢
 have HW1:=Lib.hid hw1;have HT:=Lib.hid hT;have HFR:=Lib.hid hfr;have HTR:=Lib.hid htr
 clear h hw1 hT hfr htr hr R
 go_enter Tryz.func116,Tryz.ntmps116
 go_upto_region 1 with fail
 rw [←HW1.out,←HT.out]
 have t0:w1.cell? ⟨T,0,none⟩=some (.int .i64 fr):=H1.out.row.1.cell 0
 have t1:w1.cell? ⟨T,1,none⟩=some (.slice AP nP cP):=H1.out.row.1.cell 1
 have t2:w1.cell? ⟨T,2,none⟩=some (.slice AW nW cW):=H1.out.row.1.cell 2
 have t3:w1.cell? ⟨T,3,none⟩=some (.slice AC nC cC):=H1.out.row.1.cell 3
 have t4:w1.cell? ⟨T,4,none⟩=some (.int .i64 tr):=H1.out.row.1.cell 4
 have lT:=H1.out.row.1.lt
 go_wp2_with (fail)
 refine (HRT.out w1 H1.out.bel).mono ?_
 rintro e w2 ⟨rfl,hb2⟩
 have H2:=Lib.hid (H1.out.below hb2)
 clear hb2 t0 t1 t2 t3 t4 lT H1
 have t0:w2.cell? ⟨T,0,none⟩=some (.int .i64 fr):=H2.out.row.1.cell 0
 have t1:w2.cell? ⟨T,1,none⟩=some (.slice AP nP cP):=H2.out.row.1.cell 1
 have t2:w2.cell? ⟨T,2,none⟩=some (.slice AW nW cW):=H2.out.row.1.cell 2
 have t3:w2.cell? ⟨T,3,none⟩=some (.slice AC nC cC):=H2.out.row.1.cell 3
 have t4:w2.cell? ⟨T,4,none⟩=some (.int .i64 tr):=H2.out.row.1.cell 4
 have lT:=H2.out.row.1.lt
 go_wp2_with (fail)
 obtain ⟨X,hX⟩:∃X,X=w2.heap.size:=⟨_,rfl⟩
 rw [←hX]
 obtain ⟨w3,hw3⟩:∃v,v=(w2.alloc (.cells #[.slice none 0 0] 24)).alloc (.cells #[.int .i64 fr,.int .i64 tr,.int .i64 (nP:Int),.int .i64 (nW:Int),.int .i64 (nC:Int)] 3):=⟨_,rfl⟩
 have hst3:St w w3 (row (X+1) 3 (ints [fr,tr,(nP:Int),(nW:Int),(nC:Int)])::row X 24 [.slice none 0 0]::[row T 46 (tabRow fr AP nP cP AW nW cW AC nC cC tr)]):=by
  have h:=(H2.out.new 24 #[.slice none 0 0]).new 3 #[.int .i64 fr,.int .i64 tr,.int .i64 (nP:Int),.int .i64 (nW:Int),.int .i64 (nC:Int)]
  rw [hw3]
  rw [show (w2.alloc (.cells #[.slice none 0 0] 24)).heap.size=X+1 by rw [hX];exact Array.size_push _,←hX] at h
  exact h
 have hst4:St w w3 (bufr X 0 []::row (X+1) 3 (ints [fr,tr,(nP:Int),(nW:Int),(nC:Int)])::[row T 46 (tabRow fr AP nP cP AW nW cW AC nC cC tr)]) :=
  (buf_shut ((hst3.swap.addOwn (Below.refl _ _) (nilU _ _)).swap)).swap.swap
 rw [←hw3]
 have H3:=Lib.hid hst4
 have HX:=Lib.hid hX
 clear hst3 hst4 hw3 hX t0 t1 t2 t3 t4 lT
 refine (put1_at H3.out (by simp) (by
  have hl:=HV.out;have r:=HR.out
  have:=r.fr;have:=r.tr;have:=r.np;have:=r.nw;have:=r.nc;have:=hl.lp;have:=hl.lw;have:=hl.lc;have:=HFR.out;have:=HTR.out
  intro z hz
  simp only [List.mem_cons,List.not_mem_nil,or_false] at hz
  rcases hz with rfl|rfl|rfl|rfl|rfl<;>omega) 5 rfl).mono ?_
 rintro e w4 ⟨rfl,hst4⟩
 have H4:=Lib.hid (show St w w4 (bufr X (headB t).length (headB t)::[row T 46 (tabRow fr AP nP cP AW nW cW AC nC cC tr)]) from by
  have e:headB t=[fr,tr,(nP:Int),(nW:Int),(nC:Int)]:=by rw [headB,HFR.out,HTR.out,HV.out.lp,HV.out.lw,HV.out.lc]
  rw [e]
  have h:=hst4.swap.drop
  rw [List.nil_append] at h
  exact h)
 clear hst4 H3
 have t1:w4.cell? ⟨T,1,none⟩=some (.slice AP nP cP):=H4.out.swap.row.1.cell 1
 have lT:=H4.out.swap.row.1.lt
 have HPS:=Lib.hid (show ∀w',Below w.heap.size w w'→Sl w' w'.heap.size 3 AP nP (t3s t.parts) from fun w' hb=>(HV.out.over hb).ps)
 have HWS:=Lib.hid (show ∀w',Below w.heap.size w w'→Sl w' w'.heap.size 3 AW nW (t3s t.wins) from fun w' hb=>(HV.out.over hb).ws)
 have HCS:=Lib.hid (show ∀w',Below w.heap.size w w'→Sl w' w'.heap.size 3 AC nC (t3s t.chans) from fun w' hb=>(HV.out.over hb).cs)
 have HLP:=Lib.hid HV.out.lp;have HLW:=Lib.hid HV.out.lw;have HLC:=Lib.hid HV.out.lc
 go_wp2_with (fail)
 go_loopw [35] (fun i wr=>∃j:Nat,j≤nP∧i=.int .i64 j∧St w wr [bufr X (headB t++(t.parts.take j).flatMap partB).length (headB t++(t.parts.take j).flatMap partB),row T 46 (tabRow fr AP nP cP AW nW cW AC nC cC tr)]) (fun i _=>nP-(intOf i).toNat)
 case atStart=>exact ⟨0,by omega,rfl,by rw [List.take_zero,List.flatMap_nil,List.append_nil];exact H4.out⟩
 case round =>
  obtain ⟨j,hj,rfl,hst⟩:=hrel
  clear H4 t1 lT
  have n9:nP≤8:=by have:=HR.out.np;have:=HR.out.nw;have:=HR.out.nc;have:=HLP.out;omega
  by_cases hlt:j < nP
  ·have hjb:j < t.parts.length:=by have:=HLP.out;omega
   obtain ⟨B,off,rfl,hBl,c0,c1,c2⟩:=t3s_get (HPS.out wr hst.bel) HLP.out hjb
   have HX0:=Lib.hid (HR.out.ps _ (List.getElem_mem hjb))
   have HBS:=Lib.hid (show headB t++(t.parts.take (j+1)).flatMap partB=(headB t++(t.parts.take j).flatMap partB)++partB t.parts[j] by rw [List.take_succ_eq_append_getElem hjb,List.flatMap_append,List.append_assoc];simp)
   have HL:=Lib.hid (show (headB t++(t.parts.take j).flatMap partB).length≤1000 from by
    have:=HR.out.np;have:=HR.out.nw;have:=HR.out.nc
    simp only [List.length_append,headB,List.length_cons,List.length_nil,flat_len partB_len,flat_len t3B_len,List.length_take]
    omega)
   generalize (headB t++(t.parts.take j).flatMap partB)=bs at *
   generalize t.parts[j]=x at *
   obtain ⟨xa,xb,xc⟩:=x
   simp only at c0 c1 c2 HX0
   have H:=Lib.hid hst
   have k0:(0:Int)≤(j:Int):=by omega
   have k1:(j:Int) < (nP:Int):=by omega
   clear hst
   go_wp2_with (fail)
   obtain ⟨g,hg⟩:∃g,g=wr.heap.size:=⟨_,rfl⟩
   rw [←hg]
   obtain ⟨w5,hw5⟩:∃v,v=(wr.alloc (.cells #[.int .i64 xa,.int .i64 xb,.int .i64 xc] 147)).alloc (.cells #[.int .i64 xa,.int .i64 xb] 3):=⟨_,rfl⟩
   have h5:=((H.out.new 147 #[.int .i64 xa,.int .i64 xb,.int .i64 xc]).new 3 #[.int .i64 xa,.int .i64 xb]).pick 2 rfl
   rw [show (wr.alloc (.cells #[.int .i64 xa,.int .i64 xb,.int .i64 xc] 147)).heap.size=g+1 by rw [hg];exact Array.size_push _,←hg,←hw5] at h5
   rw [←hw5]
   have H5:=Lib.hid h5
   clear h5 hw5 hg c0 c1 c2 H
   refine (put1_at (L:=[xa,xb]) H5.out (by have:=HL.out;simp;omega) (by
    have:=HX0.out;have:=HR.out.np
    intro z hz
    simp only [List.mem_cons,List.not_mem_nil,or_false] at hz
    rcases hz with rfl|rfl<;>omega) 2 rfl).mono ?_
   rintro e w6 ⟨rfl,hst6⟩
   obtain ⟨v6,hst7⟩:=buf_open (hst6.swap.drop)
   have H6:=Lib.hid hst7
   have z0:w6.cell? ⟨X,0,none⟩=some v6:=hst7.row.1.cell 0
   have l0:=hst7.row.1.lt
   have p2:w6.cell? ⟨g,2,none⟩=some (.int .i64 xc):=(hst7.pick 2 rfl).row.1.cell 2
   have l2:=(hst7.pick 2 rfl).row.1.lt
   obtain ⟨m,hm⟩:∃m:Nat,m=xc.toNat:=⟨_,rfl⟩
   have hm2:m < 65536:=by have:=HX0.out;omega
   have hm3:xc=(m:Int):=by have:=HX0.out;omega
   have HM:=Lib.hid hm
   rw [hm3] at p2
   clear hst6 hst7 H5 hm hm3
   go_wp2_with (fail)
   refine (buf_put H6.out (by have:=HL.out;omega) m 2 (by omega) (by omega) (by omega)).mono ?_
   rintro e w7 ⟨v7,rfl,hst7⟩
   have H7:=Lib.hid hst7
   have f1:w7.frozen? ⟨X,0,none⟩=false:=hst7.row.1.frozen 0
   have c2:w7.cell? ⟨X,0,none⟩=some v6:=hst7.row.1.cell 0
   have l3:=hst7.row.1.lt
   obtain ⟨A1,d1,rfl,_,_⟩:=own_form hst7.swap.own
   clear hst7 H6 z0 l0 p2 l2
   go_wp2_with (fail)
   go_roundw
   case rel =>
    refine ⟨j+1,by omega,by go_num,?_⟩
    have h:=(buf_shut ((H7.out.set 0 (.slice A1 (bs.length+2+2) d1)))).swap.drop.swap
    rw [HBS.out,show partB ⟨xa,xb,xc⟩=[xa,xb]++be 2 m by rw [HM.out];rfl,←List.append_assoc]
    rw [show (bs++[xa,xb]++be 2 m).length=bs.length+2+2 by simp [be_length]]
    exact h.swap
   case measure=>simp [intOf];omega
  ·have HE:=Lib.hid (show j=t.parts.length by have:=HLP.out;omega)
   have k1:¬(j:Int) < (nP:Int):=by omega
   have H8:=Lib.hid (show St w wr [bufr X (headB t++t.parts.flatMap partB).length (headB t++t.parts.flatMap partB),row T 46 (tabRow fr AP nP cP AW nW cW AC nC cC tr)] by
    have h:=hst
    rw [HE.out,List.take_length] at h
    exact h)
   clear hst
   have t1:wr.cell? ⟨T,2,none⟩=some (.slice AW nW cW):=H8.out.swap.row.1.cell 2
   have lT:=H8.out.swap.row.1.lt
   go_wp2_with (fail)
   generalize wr=w4 at *
   have H4:=Lib.hid H8.out
   clear H8
   go_loopw [54] (fun i wr=>∃j:Nat,j≤nW∧i=.int .i64 j∧St w wr [bufr X ((headB t++t.parts.flatMap partB)++(t.wins.take j).flatMap t3B).length ((headB t++t.parts.flatMap partB)++(t.wins.take j).flatMap t3B),row T 46 (tabRow fr AP nP cP AW nW cW AC nC cC tr)]) (fun i _=>nW-(intOf i).toNat)
   case atStart=>exact ⟨0,by omega,rfl,by rw [List.take_zero,List.flatMap_nil,List.append_nil];exact H4.out⟩
   case round =>
    obtain ⟨j,hj,rfl,hst⟩:=hrel
    clear H4 t1 lT
    have n9:nW≤8:=by have:=HR.out.np;have:=HR.out.nw;have:=HR.out.nc;have:=HLW.out;omega
    by_cases hlt:j < nW
    ·have hjb:j < t.wins.length:=by have:=HLW.out;omega
     obtain ⟨B,off,rfl,hBl,c0,c1,c2⟩:=t3s_get (HWS.out wr hst.bel) HLW.out hjb
     have HX0:=Lib.hid (HR.out.ws _ (List.getElem_mem hjb))
     have HBS:=Lib.hid (show (headB t++t.parts.flatMap partB)++(t.wins.take (j+1)).flatMap t3B=((headB t++t.parts.flatMap partB)++(t.wins.take j).flatMap t3B)++t3B t.wins[j] by rw [List.take_succ_eq_append_getElem hjb,List.flatMap_append,List.append_assoc];simp)
     have HL:=Lib.hid (show ((headB t++t.parts.flatMap partB)++(t.wins.take j).flatMap t3B).length≤1000 from by
      have:=HR.out.np;have:=HR.out.nw;have:=HR.out.nc
      simp only [List.length_append,headB,List.length_cons,List.length_nil,flat_len partB_len,flat_len t3B_len,List.length_take]
      omega)
     generalize ((headB t++t.parts.flatMap partB)++(t.wins.take j).flatMap t3B)=bs at *
     generalize t.wins[j]=x at *
     obtain ⟨xa,xb,xc⟩:=x
     simp only at c0 c1 c2 HX0
     have H:=Lib.hid hst
     have k0:(0:Int)≤(j:Int):=by omega
     have k1:(j:Int) < (nW:Int):=by omega
     clear hst
     go_wp2_with (fail)
     obtain ⟨g,hg⟩:∃g,g=wr.heap.size:=⟨_,rfl⟩
     rw [←hg]
     obtain ⟨w5,hw5⟩:∃v,v=(wr.alloc (.cells #[.int .i64 xa,.int .i64 xb,.int .i64 xc] 150)).alloc (.cells #[.int .i64 xa,.int .i64 xb,.int .i64 xc] 3):=⟨_,rfl⟩
     have h5:=((H.out.new 150 #[.int .i64 xa,.int .i64 xb,.int .i64 xc]).new 3 #[.int .i64 xa,.int .i64 xb,.int .i64 xc]).pick 2 rfl
     rw [show (wr.alloc (.cells #[.int .i64 xa,.int .i64 xb,.int .i64 xc] 150)).heap.size=g+1 by rw [hg];exact Array.size_push _,←hg,←hw5] at h5
     rw [←hw5]
     have H5:=Lib.hid h5
     clear h5 hw5 hg c0 c1 c2 H
     refine (put1_at (L:=[xa,xb,xc]) H5.out (by have:=HL.out;simp;omega) (by
      have:=HX0.out;have:=HR.out.np
      intro z hz
      simp only [List.mem_cons,List.not_mem_nil,or_false] at hz
      rcases hz with rfl|rfl|rfl<;>omega) 3 rfl).mono ?_
     rintro e w6 ⟨rfl,hst6⟩
     have H6:=Lib.hid hst6
     clear hst6 H5
     go_wp2_with (fail)
     go_roundw
     case rel =>
      refine ⟨j+1,by omega,by go_num,?_⟩
      have h:=(H6.out.swap.drop).swap.drop.swap
      rw [HBS.out,show t3B ⟨xa,xb,xc⟩=[xa,xb,xc] from rfl,show (bs++[xa,xb,xc]).length=bs.length+3 by simp]
      exact h.swap
     case measure=>simp [intOf];omega
    ·have HE:=Lib.hid (show j=t.wins.length by have:=HLW.out;omega)
     have k1:¬(j:Int) < (nW:Int):=by omega
     have H8:=Lib.hid (show St w wr [bufr X ((headB t++t.parts.flatMap partB)++t.wins.flatMap t3B).length ((headB t++t.parts.flatMap partB)++t.wins.flatMap t3B),row T 46 (tabRow fr AP nP cP AW nW cW AC nC cC tr)] by
      have h:=hst
      rw [HE.out,List.take_length] at h
      exact h)
     clear hst
     have t1:wr.cell? ⟨T,3,none⟩=some (.slice AC nC cC):=H8.out.swap.row.1.cell 3
     have lT:=H8.out.swap.row.1.lt
     go_wp2_with (fail)
     generalize wr=w4 at *
     have H4:=Lib.hid H8.out
     clear H8
     go_loopw [71] (fun i wr=>∃j:Nat,j≤nC∧i=.int .i64 j∧St w wr [bufr X ((headB t++t.parts.flatMap partB++t.wins.flatMap t3B)++(t.chans.take j).flatMap t3B).length ((headB t++t.parts.flatMap partB++t.wins.flatMap t3B)++(t.chans.take j).flatMap t3B),row T 46 (tabRow fr AP nP cP AW nW cW AC nC cC tr)]) (fun i _=>nC-(intOf i).toNat)
     case atStart=>exact ⟨0,by omega,rfl,by rw [List.take_zero,List.flatMap_nil,List.append_nil];exact H4.out⟩
     case round =>
      obtain ⟨j,hj,rfl,hst⟩:=hrel
      clear H4 t1 lT
      have n9:nC≤8:=by have:=HR.out.np;have:=HR.out.nw;have:=HR.out.nc;have:=HLC.out;omega
      by_cases hlt:j < nC
      ·have hjb:j < t.chans.length:=by have:=HLC.out;omega
       obtain ⟨B,off,rfl,hBl,c0,c1,c2⟩:=t3s_get (HCS.out wr hst.bel) HLC.out hjb
       have HX0:=Lib.hid (HR.out.cs _ (List.getElem_mem hjb))
       have HBS:=Lib.hid (show (headB t++t.parts.flatMap partB++t.wins.flatMap t3B)++(t.chans.take (j+1)).flatMap t3B=((headB t++t.parts.flatMap partB++t.wins.flatMap t3B)++(t.chans.take j).flatMap t3B)++t3B t.chans[j] by rw [List.take_succ_eq_append_getElem hjb,List.flatMap_append,List.append_assoc];simp)
       have HL:=Lib.hid (show ((headB t++t.parts.flatMap partB++t.wins.flatMap t3B)++(t.chans.take j).flatMap t3B).length≤1000 from by
        have:=HR.out.np;have:=HR.out.nw;have:=HR.out.nc
        simp only [List.length_append,headB,List.length_cons,List.length_nil,flat_len partB_len,flat_len t3B_len,List.length_take]
        omega)
       generalize ((headB t++t.parts.flatMap partB++t.wins.flatMap t3B)++(t.chans.take j).flatMap t3B)=bs at *
       generalize t.chans[j]=x at *
       obtain ⟨xa,xb,xc⟩:=x
       simp only at c0 c1 c2 HX0
       have H:=Lib.hid hst
       have k0:(0:Int)≤(j:Int):=by omega
       have k1:(j:Int) < (nC:Int):=by omega
       clear hst
       go_wp2_with (fail)
       obtain ⟨g,hg⟩:∃g,g=wr.heap.size:=⟨_,rfl⟩
       rw [←hg]
       obtain ⟨w5,hw5⟩:∃v,v=(wr.alloc (.cells #[.int .i64 xa,.int .i64 xb,.int .i64 xc] 152)).alloc (.cells #[.int .i64 xa,.int .i64 xb,.int .i64 xc] 3):=⟨_,rfl⟩
       have h5:=((H.out.new 152 #[.int .i64 xa,.int .i64 xb,.int .i64 xc]).new 3 #[.int .i64 xa,.int .i64 xb,.int .i64 xc]).pick 2 rfl
       rw [show (wr.alloc (.cells #[.int .i64 xa,.int .i64 xb,.int .i64 xc] 152)).heap.size=g+1 by rw [hg];exact Array.size_push _,←hg,←hw5] at h5
       rw [←hw5]
       have H5:=Lib.hid h5
       clear h5 hw5 hg c0 c1 c2 H
       refine (put1_at (L:=[xa,xb,xc]) H5.out (by have:=HL.out;simp;omega) (by
        have:=HX0.out;have:=HR.out.np
        intro z hz
        simp only [List.mem_cons,List.not_mem_nil,or_false] at hz
        rcases hz with rfl|rfl|rfl<;>omega) 3 rfl).mono ?_
       rintro e w6 ⟨rfl,hst6⟩
       have H6:=Lib.hid hst6
       clear hst6 H5
       go_wp2_with (fail)
       go_roundw
       case rel =>
        refine ⟨j+1,by omega,by go_num,?_⟩
        have h:=(H6.out.swap.drop).swap.drop.swap
        rw [HBS.out,show t3B ⟨xa,xb,xc⟩=[xa,xb,xc] from rfl,show (bs++[xa,xb,xc]).length=bs.length+3 by simp]
        exact h.swap
       case measure=>simp [intOf];omega
      ·have HE:=Lib.hid (show j=t.chans.length by have:=HLC.out;omega)
       have k1:¬(j:Int) < (nC:Int):=by omega
       have H8:=Lib.hid (show St w wr [bufr X ((headB t++t.parts.flatMap partB++t.wins.flatMap t3B)++t.chans.flatMap t3B).length ((headB t++t.parts.flatMap partB++t.wins.flatMap t3B)++t.chans.flatMap t3B),row T 46 (tabRow fr AP nP cP AW nW cW AC nC cC tr)] by
        have h:=hst
        rw [HE.out,List.take_length] at h
        exact h)
       clear hst
       obtain ⟨v,hst⟩:=buf_open H8.out
       have z0:wr.cell? ⟨X,0,none⟩=some v:=hst.row.1.cell 0
       have l0:=hst.row.1.lt
       have H9:=Lib.hid hst
       clear hst H8
       go_wp2_with (fail)
       go_ret2
       exact ⟨v,rfl,H9.out.swap.own,H9.out.bel⟩
end tab
end Go.Proofs.YtdldkkoplgkloaaGreat
