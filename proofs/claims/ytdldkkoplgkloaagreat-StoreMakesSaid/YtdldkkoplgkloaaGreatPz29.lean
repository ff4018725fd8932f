/-
  PROVED HERE: lemmas and contracts that the law's proof leans on (texts put together: StoreMore, LoadMath, StoreLoad, StoreInv, StoreOpenP).
  CONDITIONS: each names its own.
-/
import Derived.BigQuiet
import Derived.Test.YtdldkkoplgkloaaGreatPz18
import Derived.Test.YtdldkkoplgkloaaGreatPz25
import Derived.Test.YtdldkkoplgkloaaGreatPz28
namespace Go.Proofs.YtdldkkoplgkloaaGreat
set_option linter.unusedVariables false
set_option linter.unusedSimpArgs false
set_option maxRecDepth 100000
set_option maxHeartbeats 32000000
namespace store


open Go.RowKit Go.Deep base obj mem sep plan disk record commit stage image tab compat chain
section
variable {w0 w : World} {l : List Asn}
theorem load_str {ad:StAd} {t:Tab} {d:Nat} {m:DS} {xs:List PP} {B:Asn} {A:Option Addr} {n c:Nat} {data:List Int} (h:St w0 w (strA ad t d m xs::B::l)) (ok:SOk t m xs) (q se no:Int) (hg:Gives w0 B A n data) :
  Calls Tryz.prog 15 #[.pointer (some ⟨ad.S,0,none⟩),.int .i64 q,.int .i64 se,.int .i64 no,.slice A n c] w fun e w'=>e=.returned (.int .i64 (sLoad m xs q se no data).1)∧St w0 w' (strA ad t d (sLoad m xs q se no data).2.1 (sLoad m xs q se no data).2.2::B::l):=by
 have HF:=Lib.hid (str_free h q)
 have H:=Lib.hid h
 by_cases hf:freeE xs q=0
 ·have hin:0≤q∧q < xs.length:=by
   have:=freeE_zero (xs:=xs) (q:=q) (by first|exact hf|exact begunE_free hf)
   exact this
  obtain ⟨p,rfl⟩:∃p:Nat,q=p:=⟨q.toNat,by omega⟩
  have hp:p < xs.length:=by omega
  have okx:=ok.at_ hp
  have HD:=Lib.hid (show sLoad m xs p se no data=((putM m p (xs.getD p default).sp ((xs.getD p default).slot (xs.getD p default).sp) se no data).1,(putM m p (xs.getD p default).sp ((xs.getD p default).slot (xs.getD p default).sp) se no data).2.1,xs.set p ((xs.getD p default).setSlot (xs.getD p default).sp (putM m p (xs.getD p default).sp ((xs.getD p default).slot (xs.getD p default).sp) se no data).2.2)) by
   unfold sLoad
   rw [if_neg (by rw [hf];simp),Int.toNat_natCast])
  rw [hf] at HF
  have HIN:=Lib.hid hin
  have HSP:=Lib.hid (fun (w':World) (hb:Below w.heap.size w w')=>str_spare okx (str_open (H.out.below hb) hp))
  have HBG:=Lib.hid (fun (w':World) (hb:Below w.heap.size w w')=>(put_at (sp_open (H.out.below hb) hp okx) (ok.pl hp okx.sp) (okx.rk _) (by have:=ok.few;omega) se no A n c data hg.1 (fun w' m' h'=>hg.2 _ _ (h'.pick 10 rfl))).mono fun e w'' ⟨h1,h2⟩=>(And.intro h1 (sp_shut h2 hp okx):_∧_))
  obtain ⟨sd,hsd⟩:∃v,v=sLoad m xs p se no data:=⟨_,rfl⟩
  rw [←hsd] at HD ⊢
  generalize (xs.getD p default).slot (xs.getD p default).sp=sl at *
  generalize hbm:(putM m p (xs.getD p default).sp sl se no data)=bm at *
  generalize (ad.al.getD p default).slot (xs.getD p default).sp=g at *
  clear h hf hsd hbm okx hin
  go_enter Tryz.func15,Tryz.ntmps15
  go_wp2_with (fail)
  refine HF.out.mono ?_
  rintro e w1 ⟨⟨v,rfl,hv⟩,hb⟩
  rw [hv HIN.out,Int.toNat_natCast]
  have HB:=Lib.hid hb
  clear hv hb
  go_wp2_with (fail)
  refine (HSP.out w1 HB.out).mono ?_
  rintro e w2 ⟨rfl,hb⟩
  have HB2:=Lib.hid (HB.out.trans (hb.mono HB.out.size))
  clear hb
  go_wp2_with (fail)
  refine (HBG.out w2 HB2.out).mono ?_
  rintro e w3 ⟨rfl,hst⟩
  have H3:=Lib.hid hst
  clear hst
  go_wp2_with (fail)
  go_ret
  rw [HD.out]
  exact ⟨rfl,H3.out⟩
 ·have HD:=Lib.hid (show sLoad m xs q se no data=(freeE xs q,m,xs) from if_pos hf)
  rw [HD.out]
  generalize freeE xs q=fe at *
  have hf2:(fe != 0)=true:=by simpa using hf
  clear h hf
  go_enter Tryz.func15,Tryz.ntmps15
  go_wp2_with (fail)
  refine HF.out.mono ?_
  rintro e w1 ⟨⟨v,rfl,hv⟩,hb⟩
  have HB:=Lib.hid hb
  clear hv hb
  go_wp2_with (fail)
  go_ret
  exact ⟨rfl,H.out.below HB.out⟩
def recAt (xs:List PP) (q:Int):Rec:=if q < 0∨(xs.length:Int)≤q then Rec.zero else (xs.getD q.toNat default).log.now
theorem record_str {ad:StAd} {t:Tab} {d:Nat} {m:DS} {xs:List PP} (h:St w0 w (strA ad t d m xs::l)) (q:Int):Calls Tryz.prog 13 #[.pointer (some ⟨ad.S,0,none⟩),.int .i64 q] w fun e w'=>e=.returned (recAt xs q).val∧Below w.heap.size w w':=by
 obtain ⟨R,hR⟩:∃R,R=w.heap.size:=⟨_,rfl⟩
 obtain ⟨w1,hw1⟩:∃w1,w1=w.alloc (.cells #[.int .i64 0,.int .i64 0,.int .i64 0,.int .i64 0,.int .i64 0,.int .i64 0] 35):=⟨_,rfl⟩
 have H1:=Lib.hid (show St w0 w1 (row R 35 [.int .i64 0,.int .i64 0,.int .i64 0,.int .i64 0,.int .i64 0,.int .i64 0]::strA ad t d m xs::l) by
  have h:=h.new 35 #[.int .i64 0,.int .i64 0,.int .i64 0,.int .i64 0,.int .i64 0,.int .i64 0]
  rw [←hR,←hw1] at h
  exact h)
 have HB1:=Lib.hid (show Below w.heap.size w w1 by rw [hw1];exact (Below.refl _ w).alloc (Nat.le_refl _) _)
 have HRL:=Lib.hid (show w.heap.size≤R by omega)
 have HW1:=Lib.hid hw1;have HR:=Lib.hid hR
 obtain ⟨s1,s2,s3⟩:=str_row H1.out.swap
 clear hw1 h
 by_cases hq:q < 0∨(xs.length:Int)≤q
 ·have HP:=Lib.hid (part_no s1 q hq)
  rw [recAt,if_pos hq]
  clear s1 s2 s3 hq hR
  go_enter Tryz.func13,Tryz.ntmps13
  go_upto_region 1 with fail
  rw [←HW1.out,←HR.out]
  go_wp2_with (fail)
  refine HP.out.mono ?_;rintro e w' ⟨rfl,rfl⟩
  go_wp2_with (refine wpList_putR rfl 35 (.tmp 4) (.tmp 15) rfl R 0 #[.int .i64 0,.int .i64 0,.int .i64 0,.int .i64 0,.int .i64 0,.int .i64 0] rfl rfl H1.out.row.1 (by kernel_rfl) (by simp) (by simp [Value.oneCell']) [.int .i64 0,.int .i64 0,.int .i64 0,.int .i64 0,.int .i64 0,.int .i64 0] (by simp) ?_)
  refine bodyPost_ret (v:=Rec.zero.val) (results_cell_row rfl _ _ R _ _ _ _ rfl (H1.out.row.1.setRow _) Tryz.underlying35 rfl (by kernel_rfl)) rfl ?_
  exact ⟨rfl,below_setRow' HB1.out HRL.out _⟩
 ·obtain ⟨p,rfl⟩:∃p:Nat,q=p:=⟨q.toNat,by omega⟩
  have hp:p < xs.length:=by omega
  rw [recAt,if_neg hq,Int.toNat_natCast]
  have HP:=Lib.hid (part_at s1 s2 s3 p hp)
  have ho:=str_own H1.out.swap hp
  have co:w1.cell? ⟨(ad.al.getD p default).O,0,none⟩=some (.pointer (some ⟨(ad.al.getD p default).L,0,none⟩)):=ho.cell 0
  have lo:=ho.lt
  have HL:=Lib.hid (latest_at (lg_open H1.out.swap hp))
  generalize (xs.getD p default).log.now=r at *
  generalize (ad.al.getD p default).O=O,(ad.al.getD p default).L=L at *
  obtain ⟨rp,rs,ra,rc,rl,rb⟩:=r
  simp only [Rec.val,Rec.cells] at *
  clear s1 s2 s3 hq ho hR
  go_enter Tryz.func13,Tryz.ntmps13
  go_upto_region 1 with fail
  rw [←HW1.out,←HR.out]
  go_wp2_with (fail)
  refine HP.out.mono ?_;rintro e w' ⟨rfl,rfl⟩
  go_wp2_with (fail)
  refine HL.out.mono ?_;rintro e w2 ⟨rfl,hb⟩
  have HB2:=Lib.hid (HB1.out.trans (hb.mono HB1.out.size))
  have H2:=Lib.hid (H1.out.below hb)
  clear hb co lo
  go_wp2_with (refine wpList_putR rfl 35 (.tmp 4) (.tmp 20) rfl R 0 #[.int .i64 rp,.int .i64 rs,.int .i64 ra,.int .i64 rc,.int .i64 rl,.int .i64 rb] rfl rfl H2.out.row.1 (by kernel_rfl) (by simp) (by simp [Value.oneCell']) [.int .i64 rp,.int .i64 rs,.int .i64 ra,.int .i64 rc,.int .i64 rl,.int .i64 rb] (by simp) ?_)
  refine bodyPost_ret (v:=.agg #[.int .i64 rp,.int .i64 rs,.int .i64 ra,.int .i64 rc,.int .i64 rl,.int .i64 rb]) (results_cell_row rfl _ _ R _ _ _ _ rfl (H2.out.row.1.setRow _) Tryz.underlying35 rfl (by kernel_rfl)) rfl ?_
  exact ⟨rfl,below_setRow' HB2.out HRL.out _⟩
def stgAt (xs:List PP) (q:Int):Stg×Bool:=if q < 0∨(xs.length:Int)≤q then (Stg.zero,false) else (told ((xs.getD q.toNat default).slot (xs.getD q.toNat default).sp),((xs.getD q.toNat default).slot (xs.getD q.toNat default).sp).has)
theorem sstage_str {ad:StAd} {t:Tab} {d:Nat} {m:DS} {xs:List PP} (h:St w0 w (strA ad t d m xs::l)) (ok:SOk t m xs) (q:Int):Calls Tryz.prog 12 #[.pointer (some ⟨ad.S,0,none⟩),.int .i64 q] w fun e w'=>e=.returned (.tuple #[(stgAt xs q).1.val,.bool (stgAt xs q).2])∧Below w.heap.size w w':=by
 obtain ⟨R,hR⟩:∃R,R=w.heap.size:=⟨_,rfl⟩
 obtain ⟨w1,hw1⟩:∃w1,w1=w.alloc (.cells #[.int .i64 0,.int .i64 0,.int .i64 0] 31):=⟨_,rfl⟩
 have H1:=Lib.hid (show St w0 w1 (row R 31 [.int .i64 0,.int .i64 0,.int .i64 0]::strA ad t d m xs::l) by
  have h:=h.new 31 #[.int .i64 0,.int .i64 0,.int .i64 0]
  rw [←hR,←hw1] at h
  exact h)
 have HB1:=Lib.hid (show Below w.heap.size w w1 by rw [hw1];exact (Below.refl _ w).alloc (Nat.le_refl _) _)
 have HRL:=Lib.hid (show w.heap.size≤R by omega)
 have HW1:=Lib.hid hw1;have HR:=Lib.hid hR
 obtain ⟨s1,s2,s3⟩:=str_row H1.out.swap
 clear hw1 h
 by_cases hq:q < 0∨(xs.length:Int)≤q
 ·have HP:=Lib.hid (part_no s1 q hq)
  rw [stgAt,if_pos hq]
  clear s1 s2 s3 hq hR
  go_enter Tryz.func12,Tryz.ntmps12
  go_upto_region 1 with fail
  rw [←HW1.out,←HR.out]
  go_wp2_with (fail)
  refine HP.out.mono ?_;rintro e w' ⟨rfl,rfl⟩
  go_wp2_with (refine wpList_putR rfl 31 (.tmp 4) (.tmp 16) rfl R 0 #[.int .i64 0,.int .i64 0,.int .i64 0] rfl rfl H1.out.row.1 (by kernel_rfl) (by simp) (by simp [Value.oneCell']) [.int .i64 0,.int .i64 0,.int .i64 0] (by simp) ?_)
  refine bodyPost_ret (res_cell_slot rfl _ _ R _ _ _ _ _ rfl rfl (H1.out.row.1.setRow _) Tryz.underlying31 rfl (by kernel_rfl)) rfl ?_
  exact ⟨rfl,below_setRow' HB1.out HRL.out _⟩
 ·obtain ⟨p,rfl⟩:∃p:Nat,q=p:=⟨q.toNat,by omega⟩
  have hp:p < xs.length:=by omega
  have okx:=ok.at_ hp
  rw [stgAt,if_neg hq,Int.toNat_natCast]
  have HP:=Lib.hid (part_at s1 s2 s3 p hp)
  have HSP:=Lib.hid (str_spare okx (str_open H1.out.swap hp))
  have HSG:=Lib.hid (fun (w':World) (hb:Below w1.heap.size w1 w')=>stage_at (sp_open (H1.out.below hb).swap hp okx).row.1)
  generalize (xs.getD p default).slot (xs.getD p default).sp=sl at *
  generalize (ad.al.getD p default).slot (xs.getD p default).sp=g at *
  generalize (ad.al.getD p default).O=O at *
  dsimp only
  obtain ⟨⟨ss,sz,sh⟩,hts⟩:∃v:Stg,v=told sl:=⟨_,rfl⟩
  rw [←hts] at HSG ⊢
  simp only [Stg.val,Stg.cells] at *
  clear s1 s2 s3 hq hR okx ok hts
  go_enter Tryz.func12,Tryz.ntmps12
  go_upto_region 1 with fail
  rw [←HW1.out,←HR.out]
  go_wp2_with (fail)
  refine HP.out.mono ?_;rintro e w' ⟨rfl,rfl⟩
  go_wp2_with (fail)
  refine HSP.out.mono ?_;rintro e w2 ⟨rfl,hb⟩
  have HB2:=Lib.hid hb
  clear hb
  go_wp2_with (fail)
  refine (HSG.out w2 HB2.out).mono ?_;rintro e w3 ⟨rfl,hb⟩
  have HB3:=Lib.hid (HB2.out.trans (hb.mono HB2.out.size))
  have H3:=Lib.hid (H1.out.below HB3.out)
  clear hb
  go_wp2_with (refine wpList_putR rfl 31 (.tmp 4) (.tmp 20) rfl R 0 #[.int .i64 ss,.int .i64 sz,.int .i64 sh] rfl rfl H3.out.row.1 (by kernel_rfl) (by simp) (by simp [Value.oneCell']) [.int .i64 ss,.int .i64 sz,.int .i64 sh] (by simp) ?_)
  refine bodyPost_ret (res_cell_slot rfl _ _ R _ _ _ _ _ rfl rfl (H3.out.row.1.setRow _) Tryz.underlying31 rfl (by kernel_rfl)) rfl ?_
  exact ⟨rfl,below_setRow' (HB1.out.trans (HB3.out.mono HB1.out.size)) HRL.out _⟩
end
end store
namespace stage


open Go.RowKit base record crc Go.Proofs.YtdldkkoplgkloaaGreat.bits
def nbB (bs:List Int):Nat:=(bs.length+15) / 16
def padB (bs:List Int):List Int:=bs++List.replicate (16*nbB bs-bs.length) 0
def blkB (bs:List Int) (j:Nat):List Int:=((padB bs).drop (16*j)).take 16
def loadTo (bs:List Int) (no:Nat):RS:=⟨true,⟨1,bs.length,2 ^ no-1⟩,(List.range no).map (blkB bs)++List.replicate (nbB bs-no) []⟩
def loadR (bs:List Int):RS:=loadTo bs (nbB bs)
theorem padB_len (bs:List Int):(padB bs).length=16*nbB bs:=by simp [padB,nbB];omega
theorem blkB_len {bs:List Int} {j:Nat} (hj:j < nbB bs):(blkB bs j).length=16:=by
 simp only [blkB,List.length_take,List.length_drop,padB_len];omega
theorem blkB_eq {bs:List Int} {j:Nat} (hj:16*j < bs.length):blkB bs j=(bs.drop (16*j)).take 16++List.replicate (16-min 16 (bs.length-16*j)) 0:=by
 have hn:16*nbB bs-bs.length < 16:=by unfold nbB;omega
 have hn2:bs.length≤16*nbB bs:=by unfold nbB;omega
 unfold blkB padB
 rw [List.drop_append_of_le_length (by omega),List.take_append,List.length_drop,List.take_replicate]
 congr 2
 by_cases h:16≤bs.length-16*j
 ·rw [Nat.min_eq_left h];omega
 ·rw [Nat.min_eq_right (by omega)]
  have:nbB bs=j+1:=by unfold nbB;omega
  rw [this]
  omega
theorem blkB_byt {bs:List Int} (h:Byt bs) (j:Nat):Byt (blkB bs j):=fun z hz=>by
 have h1:=List.mem_of_mem_drop (List.mem_of_mem_take hz)
 simp only [padB,List.mem_append,List.mem_replicate] at h1
 rcases h1 with h1|⟨_,rfl⟩
 ·exact h z h1
 ·omega
theorem blocksN_len (bs:List Int):blocksN (bs.length:Int)=nbB bs:=by unfold blocksN nbB;omega
theorem load_begin (R:RS) {bs:List Int} (h1:1≤bs.length) (h2:bs.length≤160):beginR R 1 bs.length=(0,loadTo bs 0):=by
 unfold beginR
 rw [if_pos (by
  have:(0:Int)≤2 ^ blocksN (bs.length:Int)-1:=by
   have:(1:Int)≤2 ^ blocksN (bs.length:Int):=by exact_mod_cast Nat.one_le_two_pow
   omega
  simp only [Stg.right,Bool.and_eq_true,decide_eq_true_eq]
  omega),blocksN_len]
 simp [loadTo]
theorem load_put {bs:List Int} {no:Nat} (hn:no < nbB bs):putR (loadTo bs no) 1 no (blkB bs no)=(0,loadTo bs (no+1)):=by
 have hl:(loadTo bs no).blocks.length=nbB bs:=by simp [loadTo];omega
 have hw:wrongR (loadTo bs no) 1 no (blkB bs no).length=0:=by
  unfold wrongR
  rw [if_neg (by simp [loadTo]),if_neg (by simp [loadTo]),if_neg (by rw [hl];omega),if_neg (by rw [blkB_len hn];simp)]
 have hg:(loadTo bs no).blocks.getD no []=[]:=by
  have e:((List.range no).map (blkB bs)++List.replicate (nbB bs-no) ([]:List Int)).getD no []=[]:=by
   rw [List.getD_eq_getElem?_getD,List.getElem?_append_right (by simp)]
   simp
   cases h:(List.replicate (nbB bs-no) ([]:List Int))[0]? with
   | none=>rfl
   | some x =>
     have:=List.eq_of_mem_replicate (List.mem_of_getElem? h)
     simp [this]
  exact e
 unfold putR
 rw [hw,if_neg (by simp),Int.toNat_natCast,if_neg (by rw [hg];simp)]
 have hset:(loadTo bs no).blocks.set no (blkB bs no)=(List.range (no+1)).map (blkB bs)++List.replicate (nbB bs-(no+1)) []:=by
  obtain ⟨k,hk⟩:∃k,nbB bs-no=k+1:=⟨nbB bs-no-1,by omega⟩
  have:nbB bs-(no+1)=k:=by omega
  simp only [loadTo,hk,this,List.replicate_succ,List.range_succ,List.map_append,List.map_cons,List.map_nil,List.append_assoc,List.cons_append,List.nil_append]
  rw [List.set_append_right _ _ (by simp)]
  simp
 rw [hset]
 simp only [loadTo,Prod.mk.injEq,true_and,RS.mk.injEq,Stg.mk.injEq]
 refine ⟨?_,trivial⟩
 have:(2:Int) ^ (no+1)=2 ^ no*2:=by rw [Int.pow_succ]
 omega
theorem load_bytes {bs:List Int} (h1:1≤bs.length):bytesR (loadR bs)=(bs,0):=by
 unfold bytesR
 have hb:(loadR bs).blocks=(List.range (nbB bs)).map (blkB bs):=by simp [loadR,loadTo]
 rw [if_neg (by simp [loadR,loadTo]),if_neg (by
  rw [hb]
  rintro ⟨b,hb,rfl⟩
  obtain ⟨j,hj,e⟩:=List.mem_map.1 hb
  have:=blkB_len (List.mem_range.1 hj)
  rw [e] at this
  simp at this),hb]
 have h2:=chunks (padB bs) (nbB bs)
 rw [show ((List.range (nbB bs)).map (blkB bs))=((List.range (nbB bs)).map fun j=>((padB bs).drop (16*j)).take 16) from rfl,h2,←padB_len,List.take_length]
 simp [loadR,loadTo,padB]
end stage
namespace store


open Go.RowKit Go.Deep base obj mem sep plan disk record commit stage image tab compat chain crc
structure LvO (w0 w:World) (g d:Nat) (p k:Int) (m0 m:DS) (s:SlS) (R:RS) (l:List Asn):Prop where
 st:St w0 w (slt g d p k s::dsk d m::l)
 si:SI m p k s R Option.none
 up:m.Up
 len:m.secs.length=m0.secs.length
 out:∀j,stage.Outside p k j→m.now j=m0.now j
theorem LvO.below {w0 w w':World} {g d:Nat} {p k:Int} {m0 m:DS} {s:SlS} {R:RS} {l:List Asn} (h:LvO w0 w g d p k m0 m s R l) (hb:Below w.heap.size w w'):LvO w0 w' g d p k m0 m s R l:=⟨h.st.below hb,h.si,h.up,h.len,h.out⟩
theorem LvO.ext {w0 w w':World} {g d:Nat} {p k:Int} {m0 m:DS} {s:SlS} {R:RS} {l:List Asn} {B:Asn} (h:LvO w0 w g d p k m0 m s R l) (hst:St w0 w' (B::slt g d p k s::dsk d m::l)):LvO w0 w' g d p k m0 m s R (B::l):=⟨(hst.pick 2 rfl).pick 2 rfl,h.si,h.up,h.len,h.out⟩
theorem LvO.drop {w0 w:World} {g d:Nat} {p k:Int} {m0 m:DS} {s:SlS} {R:RS} {l:List Asn} {B:Asn} (h:LvO w0 w g d p k m0 m s R (B::l)):LvO w0 w g d p k m0 m s R l:=⟨((h.st.pick 2 rfl).drop),h.si,h.up,h.len,h.out⟩
theorem lvo_begin {w0 w:World} {g d:Nat} {p k:Int} {m0 m:DS} {s:SlS} {R:RS} {l:List Asn} (h:LvO w0 w g d p k m0 m s R l) (se sz:Int) :
  Calls Tryz.prog 50 #[.pointer (some ⟨g,0,none⟩),.int .i64 se,.int .i64 sz] w fun e w'=>e=.returned (.int .i64 (beginR R se sz).1)∧∃m' s',LvO w0 w' g d p k m0 m' s' (beginR R se sz).2 l:=by
 obtain ⟨h1,h2,h3⟩:=h.si.beginU h.up se sz
 refine (begin_at h.st h.si.pl.pk (by have:=h.si.few;omega) se sz).mono fun e w' ⟨e1,e2⟩=>⟨by rw [e1,h1],_,_,e2,h2,h3,?_,fun j hj=>by rw [begin_out h.si.pl s se sz hj];exact h.out j hj⟩
 rw [←h.len]
 unfold beginM
 split
 ·split<;>exact wf_slen _ _ _
 ·rfl
theorem lvo_put {w0 w:World} {g d:Nat} {p k:Int} {m0 m:DS} {s:SlS} {R:RS} {l:List Asn} {B:Asn} {A:Option Addr} {n c:Nat} {data:List Int} (h:LvO w0 w g d p k m0 m s R (B::l)) (hg:Gives w0 B A n data) (hb:Byt data) (se no:Int) :
  Calls Tryz.prog 51 #[.pointer (some ⟨g,0,none⟩),.int .i64 se,.int .i64 no,.slice A n c] w fun e w'=>e=.returned (.int .i64 (putR R se no data).1)∧∃m' s',LvO w0 w' g d p k m0 m' s' (putR R se no data).2 (B::l):=by
 obtain ⟨h1,h2,h3⟩:=h.si.putU h.up se no hb
 exact (put_at h.st h.si.pl h.si.right (by have:=h.si.few;omega) se no A n c data hg.1 (fun w' m' h'=>hg.2 _ _ (h'.pick 2 rfl))).mono fun e w' ⟨e1,e2⟩=>⟨by rw [e1,h1],_,_,e2,h2,h3,by rw [putM_slen];exact h.len,fun j hj=>by rw [put_out h.si.pl h.si.right se no hb hj];exact h.out j hj⟩
theorem load_at {w0 w:World} {g d:Nat} {p k:Int} {m0 m:DS} {s:SlS} {R:RS} {l:List Asn} (h:LvO w0 w g d p k m0 m s R l) (i:Img) (hr:i.right) (hby:Byt i.code) (A:Option Addr) (c:Nat) (hc:i.code.length≤c) (hs:Sl w w.heap.size 1 A i.code.length (u8s i.code)) :
  Calls Tryz.prog 81 #[.pointer (some ⟨g,0,none⟩),i.val A c] w fun e w'=>e=.returned (.int .i64 0)∧∃m' s',LvO w0 w' g d p k m0 m' s' (loadR i.bytes) l:=by
 have HP:=Lib.hid (fun (w':World) (hb:Below w.heap.size w w')=>iput_at w' i hr A c hc hby ((hs.below hb).more hb.size))
 have hl96:i.code.length≤96:=by obtain ⟨_,_,_,_,_,_,_,h⟩:=hr;omega
 have HBL:=Lib.hid (bytes_len i)
 have HBY:=Lib.hid (show Byt i.bytes from sealed_byt _ (head_byt i hby))
 obtain ⟨n,hn⟩:∃n,n=49+i.code.length:=⟨_,rfl⟩
 rw [←hn] at HP HBL
 obtain ⟨bs,hbs⟩:∃v,v=i.bytes:=⟨_,rfl⟩
 rw [←hbs] at HP HBL HBY ⊢
 have hn1:49≤n:=by omega
 have hn2:n≤145:=by omega
 have H:=Lib.hid h
 simp only [Img.val] at HP ⊢
 have HB1:=Lib.hid ((Below.refl w.heap.size w).alloc (Nat.le_refl _) (.cells #[.int .i64 i.part,.int .i64 i.version,.int .i64 i.hard,.int .i64 i.mem,.int .i64 i.fuel,.int .i64 i.sends,.int .i64 i.receives,.slice A i.code.length c] 26))
 generalize i.part=i0,i.version=i1,i.hard=i2,i.mem=i3,i.fuel=i4,i.sends=i5,i.receives=i6,i.code.length=i7 at *
 have HBG:=Lib.hid (fun (R:RS)=>load_begin R (bs:=bs) (by have:=HBL.out;omega) (by have:=HBL.out;omega))
 rw [HBL.out] at HBG
 have HNB:=Lib.hid (show nbB bs=(n+15) / 16 by unfold nbB;rw [HBL.out])
 clear h hr hs hn hbs hby hc
 go_enter Tryz.func81,Tryz.ntmps81
 go_wp2_with (fail)
 refine (HP.out _ HB1.out).mono ?_
 rintro e w2 ⟨v,rfl,ho,hb⟩
 obtain ⟨A2,c2,rfl,hc2,hm2⟩:=own_form ho
 have H2:=Lib.hid (H.out.ext ((H.out.st.below HB1.out).addOwn hb ho))
 clear ho hb
 go_wp2_with (fail)
 refine (lvo_begin H2.out 1 (n:Int)).mono ?_
 rintro e w3 ⟨rfl,m3,s3,h3⟩
 rw [HBG.out R] at h3 ⊢
 have H3:=Lib.hid h3
 clear h3
 dsimp only at H3 ⊢
 go_wp2_with (fail)
 go_loopw [8] (fun x wr=>∃(no:Nat) (m':DS) (s':SlS),no≤nbB bs∧x=.int .i64 no∧LvO w0 wr g d p k m0 m' s' (loadTo bs no) (own 5 1 (.slice A2 n c2) n (u8s bs)::l)) (fun x _=>nbB bs-(intOf x).toNat)
 case atStart=>exact ⟨0,m3,s3,by omega,rfl,H3.out⟩
 case round =>
  obtain ⟨no,m',s',hno,rfl,hst⟩:=hrel
  clear H3
  by_cases hlt:no < nbB bs
  ·have HST:=Lib.hid hst
   have hnb:=HNB.out
   have hsl:=Sl.of_own ((hst.st.pick 2 rfl).own)
   obtain ⟨b,off,hA,hbl,hcc⟩:=hsl.2 (by omega)
   have HA:=Lib.hid hA
   have hno2:16*no < n:=by omega
   obtain ⟨f,hf⟩:∃f,f=16*no:=⟨_,rfl⟩
   have W1:IntKind.i64.wrap ((no:Int)*16)=(f:Int):=by rw [IntWalk.i64_in _ (by omega)];omega
   have k1:(f:Int) < (n:Int):=by omega
   have k2:(0:Int)≤(f:Int):=by omega
   have k3:(f:Int)≤(n:Int):=by omega
   have k4:(n:Int)≤(c2:Int):=by omega
   have k5:(f:Int)≤(c2:Int):=by omega
   have k6:¬c2=f:=by omega
   have hmk:=make16
   obtain ⟨cs,hcs⟩:∃v,v=u8s ((bs.drop (16*no)).take 16):=⟨_,rfl⟩
   have hcl:cs.length=Nat.min (n-16*no) 16:=by
    rw [hcs];simp [u8s,HBL.out,Nat.min_comm]
   have HCN:=Lib.hid hcl
   have HSRC:=Lib.hid (show ∀j v,cs[j]?=some v→wr.cell? ((⟨b,off+16*no,none⟩:Addr).add j)=some v from fun j v hv=>by
    rw [show (⟨b,off+16*no,none⟩:Addr).add j=⟨b,off+(16*no+j),none⟩ by unfold Addr.add;split<;>simp_all [Nat.add_assoc]]
    refine hcc (16*no+j) v ?_
    rw [hcs,u8s,List.map_take,List.getElem?_take] at hv
    split at hv
    ·rwa [List.map_drop,List.getElem?_drop] at hv
    ·simp at hv)
   have HFIT:=Lib.hid (show 0+cs.length≤(Array.replicate 16 (Value.int .u8 0)).size by rw [hcl];simp only [Nat.zero_add,Array.size_replicate];exact Nat.min_le_right _ _)
   have HC1:=Lib.hid (show ∀v∈cs,v.oneCell'=true by rw [hcs];exact u8s_one _)
   have HRR:=Lib.hid (show ((Array.replicate 16 (Value.int .u8 0)).toList.take 0++(cs++(Array.replicate 16 (Value.int .u8 0)).toList.drop (0+cs.length))).toArray=(u8s (blkB bs no)).toArray by
    rw [blkB_eq (by rw [HBL.out];exact hno2),hcl,hcs,HBL.out]
    simp only [List.take_zero,List.nil_append,Nat.zero_add,Array.toList_replicate,List.drop_replicate,u8s,List.map_append,List.map_replicate]
    rw [show Nat.min (n-16*no) 16=min 16 (n-16*no) from Nat.min_comm _ _])
   have HLP:=Lib.hid (load_put (bs:=bs) hlt)
   have HBLK:=Lib.hid (blkB_len hlt)
   clear hst hsl hA hcs hcl hcc
   rw [HA.out]
   go_upto_region 10 with (refine wpList_copy_new rfl (.tmp 31) (.tmp 35) 24 24 rfl Tryz.underlying24 u8_size1 wr.heap.size 0 16 16 ⟨b,off+16*no,none⟩ (n-16*no) (c2-16*no) rfl rfl (Array.replicate 16 (.int .u8 0)) 5 cs HCN.out HSRC.out HFIT.out HC1.out _ HRR.out ?_ rfl)
   have hnew:=HST.out.st.new 5 (u8s (blkB bs no)).toArray
   obtain ⟨D,hD⟩:∃D,D=wr.heap.size:=⟨_,rfl⟩
   obtain ⟨w5,hw5⟩:∃v,v=wr.alloc (.cells (u8s (blkB bs no)).toArray 5):=⟨_,rfl⟩
   rw [←hD,←hw5] at hnew
   rw [←hD,←hw5]
   have H5:=Lib.hid (HST.out.ext hnew)
   have HGV:=Lib.hid (gives_row (w0:=w0) (t:=D) (n:=16) (xs:=u8s (blkB bs no)) (bs:=blkB bs no) HBLK.out (by rw [List.take_of_length_le (by simp [u8s,HBLK.out])]))
   clear hnew hD hw5 W1
   go_wp2_with (fail)
   refine (lvo_put (data:=blkB bs no) H5.out HGV.out (blkB_byt HBY.out no) 1 (no:Int)).mono ?_
   rintro e w6 ⟨rfl,m6,s6,h6⟩
   rw [HLP.out] at h6 ⊢
   have H6:=Lib.hid h6.drop
   clear h6
   dsimp only at H6 ⊢
   go_wp2_with (fail)
   go_roundw
   case rel=>exact ⟨no+1,m6,s6,by omega,by go_num,by rw [←HA.out];exact H6.out⟩
   case measure=>simp [intOf];omega
  ·have hnn:=HNB.out
   have HE:=Lib.hid (show no=nbB bs by omega)
   have HST:=Lib.hid hst.drop
   have W1:IntKind.i64.wrap ((no:Int)*16)=(16*no:Nat):=by rw [IntWalk.i64_in _ (by omega)];omega
   have k1:¬((16*no:Nat):Int) < (n:Int):=by omega
   have k2:¬(16*(no:Int)) < (n:Int):=by omega
   clear hst
   go_wp2_with (fail)
   go_ret
   refine ⟨rfl,m',s',?_⟩
   have h:=HST.out
   rw [HE.out] at h
   exact h
end store
namespace store


open Go.RowKit base disk record commit stage image tab compat
instance:Inhabited RS:=⟨RS.none⟩
theorem getD_l {α:Type} {l l':List α} {n:Nat} (h:n < l.length) (d:α):(l++l').getD n d=l.getD n d:=by simp [List.getD_eq_getElem?_getD,List.getElem?_append_left h]
theorem getD_r {α:Type} {l l':List α} {n:Nat} (h:l.length≤n) (d:α):(l++l').getD n d=l'.getD (n-l.length) d:=by simp [List.getD_eq_getElem?_getD,List.getElem?_append_right h]
theorem getD_e {α:Type} {l:List α} {n:Nat} (h:n < l.length) (d:α):l.getD n d=l[n]:=by simp [h]
structure PInv (m:DS) (p:Nat) (x:PP) (R:RS×RS):Prop where
 log:LogOk m p x.log
 s0:SI m p 0 x.s0 R.1 Option.none
 s1:SI m p 1 x.s1 R.2 Option.none
structure Calm (m:DS):Prop where
 up:m.Up
 waits:m.waits=[]
 good:m.Good
 bts:m.Bts
structure SInv (m:DS) (xs:List PP) (Rs:List (RS×RS)):Prop where
 calm:Calm m
 len:Rs.length=xs.length
 parts:∀p,p < xs.length→PInv m p (xs.getD p default) (Rs.getD p default)
 recs:∀p,p < xs.length→(xs.getD p default).log.now=firstRec p
theorem PInv.other {m m':DS} {p:Nat} {x:PP} {R:RS×RS} (h:PInv m p x R) (hc:Calm m) (hc':Calm m') (hl:m'.secs.length=m.secs.length) (hn:∀j:Nat,10*p≤j→j < 10*p+10→m'.now j=m.now j):PInv m' p x R:=by
 have hp0:=h.log.p0;have hp1:=h.log.p1
 have hh:=h.log.held
 refine ⟨?_,?_,?_⟩
 ·refine ⟨hc'.good,hc'.bts,hp0,hp1,by rw [hl];exact h.log.room,hh,h.log.right,h.log.part,?_,?_⟩
  ·rw [hn _ (by omega) (by omega)];exact h.log.cur
  ·intro r
   rw [hn _ (by omega) (by omega)]
   exact h.log.old r
 ·exact h.s0.other hc.up.1 hc'.good hc'.bts hl hc'.waits hc'.up.1 fun j hj=>hn j (by unfold stage.Outside sAt at hj;omega) (by unfold stage.Outside sAt at hj;omega)
 ·exact h.s1.other hc.up.1 hc'.good hc'.bts hl hc'.waits hc'.up.1 fun j hj=>hn j (by unfold stage.Outside sAt at hj;omega) (by unfold stage.Outside sAt at hj;omega)
theorem blank_at {m:DS} (hc:Calm m) {p k:Int} (hp:Pl m p k) (hz:m.now (sAt p k).toNat=zeroSec):SI m p k SlS.none RS.none Option.none :=
 ⟨hp,none_mem,by rw [hc.waits];simp,fun _=>⟨rfl,hc.waits,none_dat _ _ _,open_zero hz⟩,fun h=>absurd (hc.up.1.symm.trans h) (by decide)⟩
theorem LvO.calm {w0 w:World} {g d:Nat} {p k:Int} {m0 m:DS} {s:SlS} {R:RS} {l:List sep.Asn} (h:LvO w0 w g d p k m0 m s R l):Calm m:=⟨h.up,(h.si.up h.up.1).2.1,h.si.pl.good,h.si.pl.bts⟩
def madeP (p:Nat) (s:SlS):PP:=⟨⟨0,firstRec p⟩,s,SlS.none⟩
theorem SInv.make {m m1 m2:DS} {xs:List PP} {Rs:List (RS×RS)} (h:SInv m xs Rs) {q:Nat} (hq:xs.length=q) (hq4:q < 4) (hlen:10*(q+1)≤m.secs.length) (hz:∀j:Nat,10*q≤j→j < m.secs.length→m.now j=zeroSec)
  {s:SlS} {R:RS} (h1:SI m1 q 0 s R Option.none) (u1:m1.Up) (l1:m1.secs.length=m.secs.length) (o1:∀j,stage.Outside q 0 j→m1.now j=m.now j)
  (h2:LogOk m2 q ⟨0,firstRec q⟩) (u2:m2.Up) (w2:m2.waits=[]) (l2:m2.secs.length=m1.secs.length) (o2:∀j:Nat,j≠10*q→j≠10*q+1→m2.now j=m1.now j) :
  SInv m2 (xs++[madeP q s]) (Rs++[(R,RS.none)])∧∀j:Nat,10*(q+1)≤j→j < m2.secs.length→m2.now j=zeroSec:=by
 have c1:Calm m1:=⟨u1,(h1.up u1.1).2.1,h1.pl.good,h1.pl.bts⟩
 have c2:Calm m2:=⟨u2,w2,h2.good,h2.bts⟩
 have hl2:m2.secs.length=m.secs.length:=l2.trans l1
 have hout:∀j:Nat,(j < 10*q∨10*q+6≤j)→m2.now j=m.now j:=fun j hj=>by
  rw [o2 j (by omega) (by omega)]
  exact o1 j (by unfold stage.Outside sAt;omega)
 refine ⟨⟨c2,by simp [h.len],fun p hp=>?_,fun p hp=>?_⟩,fun j hj hjl=>?_⟩
 ·rw [List.length_append,List.length_singleton] at hp
  by_cases hpq:p < xs.length
  ·rw [getD_l hpq,getD_l (by rw [h.len];exact hpq)]
   exact (h.parts p hpq).other h.calm c2 hl2 fun j h1 h2=>hout j (by omega)
  ·have hpe:p=q:=by omega
   subst hpe
   rw [getD_r (by omega),getD_r (by rw [h.len];omega),h.len,hq,Nat.sub_self]
   refine ⟨h2,?_,?_⟩
   ·exact h1.other u1.1 c2.good c2.bts l2 w2 u2.1 fun j hj=>o2 j (by unfold stage.Outside sAt at hj;omega) (by unfold stage.Outside sAt at hj;omega)
   ·refine blank_at c2 ⟨c2.good,c2.bts,by omega,by omega,by omega,by omega,by unfold dAt;omega⟩ ?_
    rw [show (sAt (p:Int) 1).toNat=10*p+6 by unfold sAt;omega,hout _ (by omega)]
    exact hz _ (by omega) (by omega)
 ·rw [List.length_append,List.length_singleton] at hp
  by_cases hpq:p < xs.length
  ·rw [getD_l hpq];exact h.recs p hpq
  ·have hpe:p=q:=by omega
   subst hpe
   rw [getD_r (by omega),hq,Nat.sub_self]
   rfl
 ·rw [hout j (by omega)]
  exact hz j (by omega) (by omega)
theorem SInv.start {m:DS} (hc:Calm m):SInv m [] []:=⟨hc,rfl,fun p hp=>absurd hp (by simp),fun p hp=>absurd hp (by simp)⟩
theorem SInv.ok {t:Tab} {m:DS} {xs:List PP} {Rs:List (RS×RS)} (h:SInv m xs Rs) (hr:t.right=true) (hl:xs.length=t.parts.length) (hroom:10*xs.length≤m.secs.length):SOk t m xs:=by
 refine ⟨hr,hl,h.calm.bts,h.calm.good,hroom,by rw [h.calm.waits];simp,fun x hx=>?_⟩
 obtain ⟨p,hp,rfl⟩:=List.mem_iff_getElem.1 hx
 have hi:=h.parts p hp
 rw [getD_e hp] at hi
 have hr:=refRec.rec_in hi.log.right
 exact ⟨by omega,by omega,hi.log.held,by omega,by omega,hi.s0.right,hi.s1.right⟩
end store
namespace store


open Go.RowKit Go.Deep base obj mem sep plan disk record commit stage image tab compat chain crc
inductive OpSt (w0:World) (O d:Nat) (p:Int) (m:DS) (v0 c1 c2:Value) (l:List Asn):Int→World→Prop
 | zero {w:World} (h:St w0 w (row O 102 [v0,c1,c2]::dsk d m::l)):OpSt w0 O d p m v0 c1 c2 l 0 w
 | one {w:World} (g0:Nat) (h:St w0 w (row O 102 [v0,.pointer (some ⟨g0,0,none⟩),c2]::slt g0 d p 0 (openS m p 0)::dsk d m::l)):OpSt w0 O d p m v0 c1 c2 l 1 w
 | two {w:World} (g0 g1:Nat) (h:St w0 w (row O 102 [v0,.pointer (some ⟨g0,0,none⟩),.pointer (some ⟨g1,0,none⟩)]::slt g0 d p 0 (openS m p 0)::slt g1 d p 1 (openS m p 1)::dsk d m::l)):OpSt w0 O d p m v0 c1 c2 l 2 w
theorem opn_at {w0 w:World} {l:List Asn} {O d:Nat} {m:DS} {p:Int} {v0 c1 c2:Value} (h:St w0 w (row O 102 [v0,c1,c2]::dsk d m::l)) (hr0:hasRoom p 0 m.secs.length=true) (hr1:hasRoom p 1 m.secs.length=true) (hd:m.down=false) (hwl:m.waits.length≤1000) (hby:m.Bts) :
  Calls Tryz.prog 71 #[.pointer (some ⟨O,0,none⟩),.pointer (some ⟨d,0,none⟩),.int .i64 p] w fun e w'=>e=.returned (.int .i64 0)∧∃g0 g1,St w0 w' (row O 102 [v0,.pointer (some ⟨g0,0,none⟩),.pointer (some ⟨g1,0,none⟩)]::slt g0 d p 0 (openS m p 0)::slt g1 d p 1 (openS m p 1)::dsk d m::l):=by
 have H:=Lib.hid (OpSt.zero (p:=p) h)
 have HO:=Lib.hid (fun (w':World) (l':List Asn) (hs:St w0 w' (dsk d m::l'))=>open_at hs p 0 hr0 hd hwl hby)
 have HO1:=Lib.hid (fun (w':World) (l':List Asn) (hs:St w0 w' (dsk d m::l'))=>open_at hs p 1 hr1 hd hwl hby)
 clear h hr0 hr1 hd hwl hby
 go_enter Tryz.func71,Tryz.ntmps71
 go_wp2_with (fail)
 go_loopw [10] (fun x wr=>∃j:Int,x=.int .i64 j∧OpSt w0 O d p m v0 c1 c2 l j wr) (fun x _=>3-(intOf x).toNat)
 case atStart=>exact ⟨0,rfl,H.out⟩
 case round =>
  obtain ⟨j,rfl,hst⟩:=hrel
  clear H
  cases hst with
  | zero h =>
    have H:=Lib.hid h
    clear h
    go_wp2_with (fail)
    refine (HO.out wr _ H.out.swap).mono ?_
    rintro e w1 ⟨g0,rfl,h1⟩
    have h2:=h1.pick 2 rfl
    have H1:=Lib.hid h2
    have z1:w1.cell? ⟨O,1,none⟩=some c1:=h2.row.1.cell 1
    have f1:w1.frozen? ⟨O,1,none⟩=false:=h2.row.1.frozen 1
    have lO:=h2.row.1.lt
    clear h1 h2
    go_wp2_with (fail)
    go_roundw
    case rel=>exact ⟨1,rfl,.one g0 (H1.out.set 1 (.pointer (some ⟨g0,0,none⟩)))⟩
    case measure=>simp [intOf]
  | one g0 h =>
    have H:=Lib.hid h
    clear h
    go_wp2_with (fail)
    refine (HO1.out wr _ (H.out.pick 2 rfl)).mono ?_
    rintro e w1 ⟨g1,rfl,h1⟩
    have h2:=h1.pick 2 rfl
    have H1:=Lib.hid h2
    have z1:w1.cell? ⟨O,2,none⟩=some c2:=h2.row.1.cell 2
    have f1:w1.frozen? ⟨O,2,none⟩=false:=h2.row.1.frozen 2
    have lO:=h2.row.1.lt
    clear h1 h2
    go_wp2_with (fail)
    go_roundw
    case rel =>
     have h:=H1.out.set 2 (.pointer (some ⟨g1,0,none⟩))
     simp only [List.set_cons_succ,List.set_cons_zero] at h
     exact ⟨2,rfl,.two g0 g1 ((h.pick 3 rfl).pick 1 rfl)⟩
    case measure=>simp [intOf]
  | two g0 g1 h =>
    have H:=Lib.hid h
    clear h
    go_wp2_with (fail)
    go_ret
    exact ⟨rfl,g0,g1,H.out⟩
def wrongL (n:Nat) (t:Tab):Int:=if t.right=false then 9 else if (n:Int) < 10*t.parts.length then 3 else 0
theorem wrong_nil (w:World) (a:TabA) (t:Tab):Calls Tryz.prog 68 #[.pointer none,a.val t] w fun e w'=>e=.returned (.int .i64 7)∧Below w.heap.size w w':=by
 have hb:=(Below.refl w.heap.size w).alloc (Nat.le_refl _) (.cells #[.int .i64 t.frame,.slice a.AP t.parts.length a.cP,.slice a.AW t.wins.length a.cW,.slice a.AC t.chans.length a.cC,.int .i64 t.trial] 46)
 simp only [TabA.val]
 go_enter Tryz.func68,Tryz.ntmps68
 go_wp2_with (fail)
 go_ret
 exact ⟨rfl,hb⟩
theorem wrong_at {w0 w:World} {l:List Asn} {d:Nat} {m:DS} (h:St w0 w (dsk d m::l)) {a:TabA} {t:Tab} (ht:TabW w a t) :
  Calls Tryz.prog 68 #[.pointer (some ⟨d,0,none⟩),a.val t] w fun e w'=>e=.returned (.int .i64 (wrongL m.secs.length t))∧Below w.heap.size w w':=by
 have HRT:=Lib.hid (fun w' (hb:Below w.heap.size w w')=>right_at (ht.over hb))
 have HLN:=Lib.hid (fun (w':World) (hb:Below w.heap.size w w')=>dsk_len (h.below hb))
 obtain ⟨Z,hZ⟩:∃Z,Z=w.heap.size:=⟨_,rfl⟩
 obtain ⟨w1,hw1⟩:∃w1,w1=w.alloc (.cells #[.int .i64 t.frame,.slice a.AP t.parts.length a.cP,.slice a.AW t.wins.length a.cW,.slice a.AC t.chans.length a.cC,.int .i64 t.trial] 46):=⟨_,rfl⟩
 have H1:=Lib.hid (show St w w1 [row Z 46 [.int .i64 t.frame,.slice a.AP t.parts.length a.cP,.slice a.AW t.wins.length a.cW,.slice a.AC t.chans.length a.cC,.int .i64 t.trial]] by
  have h:=(St.nil w).new 46 #[.int .i64 t.frame,.slice a.AP t.parts.length a.cP,.slice a.AW t.wins.length a.cW,.slice a.AC t.chans.length a.cC,.int .i64 t.trial]
  rw [←hZ,←hw1] at h
  exact h)
 have HN:=Lib.hid (show wrongL m.secs.length t=if t.right=false then 9 else if (m.secs.length:Int) < 10*t.parts.length then 3 else 0 from rfl)
 have HNP:=Lib.hid (fun hr=>(Tab.r (t:=t) hr).np)
 obtain ⟨wl,hwl⟩:∃v,v=wrongL m.secs.length t:=⟨_,rfl⟩
 rw [←hwl] at HN ⊢
 have HW1:=Lib.hid hw1;have HZ:=Lib.hid hZ
 simp only [TabA.val] at HW1 ⊢
 generalize t.right=rr at *
 generalize m.secs.length=n at *
 generalize t.parts.length=nP,t.wins.length=nW,t.chans.length=nC,t.frame=fr,t.trial=tr at *
 have t0:w1.cell? ⟨Z,0,none⟩=some (.int .i64 fr):=H1.out.row.1.cell 0
 have t1:w1.cell? ⟨Z,1,none⟩=some (.slice a.AP nP a.cP):=H1.out.row.1.cell 1
 have t2:w1.cell? ⟨Z,2,none⟩=some (.slice a.AW nW a.cW):=H1.out.row.1.cell 2
 have t3:w1.cell? ⟨Z,3,none⟩=some (.slice a.AC nC a.cC):=H1.out.row.1.cell 3
 have t4:w1.cell? ⟨Z,4,none⟩=some (.int .i64 tr):=H1.out.row.1.cell 4
 have lT:=H1.out.row.1.lt
 clear hw1 hZ h ht hwl
 go_enter Tryz.func68,Tryz.ntmps68
 go_upto_region 1 with fail
 rw [←HW1.out,←HZ.out]
 go_wp2_with (fail)
 refine (HRT.out w1 H1.out.bel).mono ?_
 rintro e w2 ⟨rfl,hb⟩
 have H2:=Lib.hid (H1.out.below hb)
 clear hb t0 t1 t2 t3 t4 lT
 cases rr with
 | false =>
   go_wp2_with (fail)
   go_ret
   exact ⟨ret_int (by rw [HN.out];rfl),H2.out.bel⟩
 | true =>
   have hnp:=HNP.out rfl
   have t1:w2.cell? ⟨Z,1,none⟩=some (.slice a.AP nP a.cP):=H2.out.row.1.cell 1
   have lT:=H2.out.row.1.lt
   have HSE:=Lib.hid (fun (w':World)=>place.sectors_in (nP:Int) w' (by omega) (by omega))
   have HLN2:=Lib.hid (HLN.out w2.drew H2.out.bel.drew)
   go_upto_region 5 with fail
   refine held_start (fun w'=>w'.cell? ⟨Z,1,none⟩=some (.slice a.AP nP a.cP)∧Z < w'.heap.size) (by kernel_rfl) (⟨t1,lT⟩) (fun hHeld=>?_)
   (refine held_t 0 (h:=?_);(try simp only [xGs,xGz,xGo,Act.put,xSi,xSz,xSs]));(refine held_t 2 (h:=?_);(try simp only [xGs,xGz,xGo,Act.put,xSi,xSz,xSs]));(refine held_t 3 (h:=?_);(try simp only [xGs,xGz,xGo,Act.put,xSi,xSz,xSs]));(refine held_t 4 (h:=?_);(try simp only [xGs,xGz,xGo,Act.put,xSi,xSz,xSs]))
   (refine held_one 1 (by kernel_rfl) (by rfl) ?_;(try simp only [xGs,xGz,xGo]);go_simp)
   refine HLN2.out.mono ?_
   rintro e w3 ⟨rfl,rfl⟩
   dsimp only
   (refine and_hand (⟨t1,lT⟩) (fun hHeld=>?_);(try simp only [xGs,xGz,xGo,Act.put,xSi,xSz,xSs]))
   (refine held_one 5 (by kernel_rfl) (by rfl) ?_;(try simp only [xGs,xGz,xGo]);go_simp)
   refine (HSE.out _).mono ?_
   rintro e w4 ⟨rfl,rfl⟩
   dsimp only
   (refine and_hand (⟨t1,lT⟩) (fun hHeld=>?_);(try simp only [xGs,xGz,xGo,Act.put,xSi,xSz,xSs]))
   (refine held_t 6 (h:=?_);(try simp only [xGs,xGz,xGo,Act.put,xSi,xSz,xSs]));(refine held_t 7 (h:=?_);(try simp only [xGs,xGz,xGo,Act.put,xSi,xSz,xSs]))
   refine held_end (by kernel_rfl) ?_
   by_cases hlt:(n:Int) < 10*(nP:Int)
   ·have HL:=Lib.hid (show wl=3 by rw [HN.out,if_neg (by simp)];exact if_pos hlt)
    rw [decide_eq_true hlt]
    clear hlt
    go_wp2_with (fail)
    go_ret
    exact ⟨ret_int HL.out.symm,H2.out.bel.drew⟩
   ·have HL:=Lib.hid (show wl=0 by rw [HN.out,if_neg (by simp)];exact if_neg hlt)
    rw [decide_eq_false hlt]
    clear hlt
    go_wp2_with (fail)
    go_ret
    exact ⟨ret_int HL.out.symm,H2.out.bel.drew⟩
end store
end Go.Proofs.YtdldkkoplgkloaaGreat
