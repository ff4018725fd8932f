/-
  PROVED HERE: lemmas and contracts that the law's proof leans on (texts put together: ShaHash, RefSha).
  CONDITIONS: each names its own.
-/
import Derived.Deep.OwnRows
import Derived.Deep.RegionLaw
import Derived.Laws.BytesArg
import Derived.Lib.Bytes
import Derived.Shelf.RegionOpen
import Derived.Test.YtdldkkoplgkloaaGreatPz0
import Derived.Test.YtdldkkoplgkloaaGreatPz1
import Derived.Test.YtdldkkoplgkloaaGreatPz3
import Derived.Test.YtdldkkoplgkloaaGreatPz4
import Derived.Test.YtdldkkoplgkloaaGreatPz5
namespace Go.Proofs.YtdldkkoplgkloaaGreat
set_option linter.unusedVariables false
set_option linter.unusedSimpArgs false
set_option maxRecDepth 100000
set_option maxHeartbeats 32000000
namespace sha


open Go.RowKit base obj mem sep crc num plan chain
def hsh (g:Nat) (h:HS):Asn:=row g 240 (hCells h.v h.part h.n)
theorem hCells_set (v:W8) (part:List Int) (hl:part.length=64) (n c:Int) (q:Nat) (hq:q < 64):(hCells v part n).set (8+q) (.int .u8 c)=hCells v (part.set q c) n:=by
 unfold hCells
 rw [List.set_append_right _ _ (by simp [W8.arr]),show 8+q-v.arr.toList.length=q by simp [W8.arr],List.set_append_left _ _ (by simp [hl];exact hq),List.map_set]
theorem hCells_setn (v:W8) (part:List Int) (hl:part.length=64) (n c:Int):(hCells v part n).set 72 (.int .i64 c)=hCells v part c:=by
 unfold hCells
 rw [List.set_append_right _ _ (by simp [W8.arr]),List.set_append_right _ _ (by simp [W8.arr,hl])]
 simp [W8.arr,hl]
theorem put_at {w0 w:World} {l:List Asn} {g:Nat} {h:HS} (H:St w0 w (hsh g h::l)) (hh:h.Ok) (hn:h.n < 1099511627776) (c:Int) (h0:0≤c) (h1:c≤255) :
  Calls Tryz.prog 171 #[.pointer (some ⟨g,0,none⟩),.int .u8 c] w fun e w'=>e=.returned (.tuple #[])∧St w0 w' (hsh g (h.put c)::l):=by
 obtain ⟨v,part,n⟩:=h
 obtain ⟨hv,hl,hb⟩:=hh
 simp only [hsh] at *
 have HF:=Lib.hid (fun (w:World) (part:List Int) (n:Int) (H:St w0 w (row g 240 (hCells v part n)::l)) (hl:part.length=64) (hb:Byt part)=>full_at H hv hl hb)
 have hlg:=H.row.1.lt
 have cn:=(H.row.1.cell 72).trans (hCells_n v hl n)
 have fn:=H.row.1.frozen 72
 obtain ⟨q,hq⟩:∃q,q=n % 64:=⟨_,rfl⟩
 have hq64:q < 64:=by omega
 have cq:=(H.row.1.cell (8+q)).trans (hCells_part v hl hb n q hq64)
 have fq:=H.row.1.frozen (8+q)
 have e1:(n:Int) % 64=(q:Int):=by omega
 have e2:(0:Int)≤(q:Int):=by omega
 have e3:(q:Int) < 64:=by omega
 have hb2:Byt (part.set q c):=fun z hz=>by
  rcases List.mem_or_eq_of_mem_set hz with k|k
  ·exact hb z k
  ·rw [k];exact ⟨h0,h1⟩
 have hs2:=((H.set (8+q) (.int .u8 c)).set 72 (.int .i64 ((n:Int)+1)))
 rw [hCells_set v part hl (n:Int) c q hq64,hCells_setn v (part.set q c) (by simp [hl]) (n:Int) ((n:Int)+1)] at hs2
 have HS2:=Lib.hid hs2.drew
 clear hs2
 have HL:=Lib.hid hl;have HB2:=Lib.hid hb2;have HQ:=Lib.hid hq
 clear H hv hl hb hb2 hq
 by_cases hz:(n+1) % 64=0
 ·have e4:(((n:Int)+1) % 64==0)=true:=by
   rw [beq_iff_eq];omega
  have hput:HS.put ⟨v,part,n⟩ c=⟨comp v (part.set q c),part.set q c,n+1⟩:=by
   unfold HS.put
   simp only [hz,if_true,HQ.out]
  rw [hput]
  clear hz hput
  go_enter Tryz.func171,Tryz.ntmps171
  go_wp2_with (fail)
  go_region
  go_wp2_with (fail)
  refine (HF.out _ _ _ HS2.out (by simp [HL.out]) HB2.out).mono ?_;rintro e w2 ⟨rfl,h2⟩
  have H2:=Lib.hid h2
  clear h2
  go_wp2_with (fail)
  go_end0
  exact ⟨rfl,H2.out⟩
 ·have e4:(((n:Int)+1) % 64==0)=false:=by
   rw [beq_eq_false_iff_ne];omega
  have hput:HS.put ⟨v,part,n⟩ c=⟨v,part.set q c,n+1⟩:=by
   unfold HS.put
   simp only [hz,if_false,HQ.out]
  rw [hput]
  clear hz hput
  go_enter Tryz.func171,Tryz.ntmps171
  go_wp2_with (fail)
  go_region
  go_wp2_with (fail)
  go_end0
  exact ⟨rfl,HS2.out⟩
theorem new_zero:(Tryz.prog.info? 240).map (·.zero)=some (some (.agg (hCells z8 (List.replicate 64 0) 0).toArray)):=by kernel_rfl
theorem new_at {w0 w:World} {l:List Asn} (H:St w0 w l):Calls Tryz.prog 125 #[] w fun e w'=>∃g,e=.returned (.pointer (some ⟨g,0,none⟩))∧St w0 w' (hsh g h0::l):=by
 have HS1:=Lib.hid (H.new 240 (hCells first (List.replicate 64 0) 0).toArray)
 clear H
 go_enter Tryz.func125,Tryz.ntmps125
 go_upto_region 1 with fail
 refine wp_region_lit ?_
 refine list_val (v:=.agg first.arr) rfl (by kernel_rfl) ?_
 try dsimp only
 try simp only [Act.put,xSi,xSz,xSs]
 refine list_val (v:=.agg (hCells first (List.replicate 64 0) 0).toArray) rfl (by kernel_rfl) ?_
 try dsimp only
 try simp only [Act.put,xSi,xSz,xSs]
 generalize first.arr=FA
 generalize hHA:(hCells first (List.replicate 64 0) 0).toArray=HA at HS1 ⊢
 have HHA:=Lib.hid hHA
 clear hHA
 go_wp2_with (fail)
 go_ret
 refine ⟨w.heap.size,rfl,?_⟩
 have h:=HS1.out
 rw [←HHA.out] at h ⊢
 exact h
theorem write_at {w0 w:World} {l:List Asn} {g:Nat} {h:HS} (H:St w0 w (hsh g h::l)) (hh:h.Ok) (A:Option Addr) (n c:Nat) (bs:List Int) (hn:bs.length=n) (hm:h.n+n < 1099511627776) (hb:Byt bs) (hs:∀(w':World) (x:HS),St w0 w' (hsh g x::l)→Sl w' w'.heap.size 1 A n (bs.map (.int .u8))) :
  Calls Tryz.prog 127 #[.pointer (some ⟨g,0,none⟩),.slice A n c] w fun e w'=>e=.returned (.tuple #[])∧St w0 w' (hsh g (h.write bs)::l):=by
 have HH:=Lib.hid H;have HO:=Lib.hid hh;have HB:=Lib.hid hb;have HSL:=Lib.hid hs;have HN:=Lib.hid hn
 clear H hh hb hs hn
 go_enter Tryz.func127,Tryz.ntmps127
 go_wp2_with (fail)
 go_loopw [10] (fun i wr=>∃k:Nat,k≤n∧i=.int .i64 k∧St w0 wr (hsh g (h.write (bs.take k))::l)) (fun i _=>n-(intOf i).toNat)
 case atStart=>exact ⟨0,by omega,rfl,HH.out⟩
 case round =>
  obtain ⟨k,hk,rfl,hr⟩:=hrel
  have HR:=Lib.hid hr
  clear hr
  by_cases hlt:k < n
  ·have hlt':(k:Int) < (n:Int):=by omega
   have i0:(0:Int)≤(k:Int):=by omega
   have hkb:k < bs.length:=by rw [HN.out];exact hlt
   obtain ⟨b,off,rfl,hbl,hc⟩:=(HSL.out _ _ HR.out).2 (by omega)
   have hz:=HB.out bs[k] (List.getElem_mem hkb)
   have c1:=hc k (.int .u8 bs[k]) (by simp [hkb])
   have hput:=put_at HR.out (write_ok (bs.take k) h HO.out fun z hz=>HB.out z (List.mem_of_mem_take hz)) (by rw [write_n,List.length_take];omega) bs[k] hz.1 hz.2
   rw [←write_snoc,←List.take_succ_eq_append_getElem hkb] at hput
   generalize bs[k]=z at *
   have HP:=Lib.hid hput
   clear hput hc hz
   go_wp2_with (fail)
   refine HP.out.mono ?_;rintro e w2 ⟨rfl,h2⟩
   have H2:=Lib.hid h2
   clear h2
   go_wp2_with (fail)
   go_roundw
   case rel=>exact ⟨k+1,by omega,by go_num,H2.out⟩
   case measure=>simp [intOf];omega
  ·have hlt':¬(k:Int) < (n:Int):=by omega
   have hk2:k=n:=by omega
   have HK:=Lib.hid hk2
   clear hk2
   go_wp2_with (fail)
   go_end0
   refine ⟨rfl,?_⟩
   have h:=HR.out
   rw [HK.out,List.take_of_length_le (by rw [HN.out];exact Nat.le_refl _)] at h
   exact h
def oCells (v:W8) (p:Nat):List Value:=((outL v).take p).map (Value.int .u8)++List.replicate (32-p) (.int .u8 0)
theorem oCells_len (v:W8) (p:Nat) (hp:p≤32):(oCells v p).length=32:=by simp [oCells,outL_len];omega
theorem outL_get (v:W8) (i k:Nat) (hi:i < 8) (hk:k < 4):(outL v)[4*i+k]?=some (digit 4 (v.list.getD i 0) k):=by
 rcases (by omega:i=0∨i=1∨i=2∨i=3∨i=4∨i=5∨i=6∨i=7) with rfl|rfl|rfl|rfl|rfl|rfl|rfl|rfl <;>
 rcases (by omega:k=0∨k=1∨k=2∨k=3) with rfl|rfl|rfl|rfl<;>rfl
theorem oCells_set (v:W8) (i k:Nat) (hi:i < 8) (hk:k < 4):(oCells v (4*i+k)).set (4*i+k) (.int .u8 (digit 4 (v.list.getD i 0) k))=oCells v (4*i+k+1):=by
 have h:=outL_get v i k hi hk
 obtain ⟨h1,h2⟩:=List.getElem?_eq_some_iff.1 h
 unfold oCells
 rw [List.set_append_right _ _ (by simp;omega),List.take_succ_eq_append_getElem h1,List.map_append,List.append_assoc]
 congr 1
 simp only [List.length_map,List.length_take,outL_len]
 rw [show 4*i+k-min (4*i+k) 32=0 by omega,show 32-(4*i+k)=(32-(4*i+k+1))+1 by omega,List.replicate_succ,h2]
 rfl
theorem z32_zero:(Tryz.prog.info? 198).map (·.zero)=some (some (.agg (oCells z8 0).toArray)):=by kernel_rfl
theorem word_idx (v:W8) (i:Nat) (hi:i < 8) (w:World):(Instr.index 242 (.agg v.arr) (.int .i64 (i:Int))).run Tryz.prog w=.ok (.int .u32 ((v.list.getD i 0:Nat):Int)) w:=by
 rcases (by omega:i=0∨i=1∨i=2∨i=3∨i=4∨i=5∨i=6∨i=7) with rfl|rfl|rfl|rfl|rfl|rfl|rfl|rfl<;>kernel_rfl
def toGo (X B:Nat) (w:World):Nat:=B-(match w.cell? ⟨X,72,none⟩ with|some (.int _ z)=>z.toNat|_=>0)
theorem toGo_eq {w0 w:World} {l:List Asn} {g:Nat} {h:HS} (H:St w0 w (hsh g h::l)) (hl:h.part.length=64) (B:Nat):toGo g B w=B-h.n:=by
 unfold toGo
 rw [(H.row.1.cell 72).trans (hCells_n h.v hl h.n)]
 simp
theorem sum_at {w0 w:World} {l:List Asn} {g:Nat} {bs:List Int} (H:St w0 w (hsh g (h0.write bs)::l)) (hb:Byt bs) (hm:bs.length≤1000000) :
  Calls Tryz.prog 128 #[.pointer (some ⟨g,0,none⟩)] w fun e w'=>e=.returned (.agg ((dig bs).map (Value.int .u8)).toArray)∧Below w.heap.size w w':=by
 have HH:=Lib.hid H;have HB:=Lib.hid hb;have HM:=Lib.hid hm
 have ho:=write_ok bs h0 h0_ok hb
 have hn:(h0.write bs).n=bs.length:=by rw [write_n];simp [h0]
 have Z73:=Lib.hid new_zero
 have hsz:(Tryz.prog.info? 240).map (·.size)=some (hCells (h0.write bs).v (h0.write bs).part (h0.write bs).n).toArray.size:=by rw [List.size_toArray,hCells_len _ ho.2.1];kernel_rfl
 have hz73:(hCells z8 (List.replicate 64 0) 0).toArray.size=(hCells (h0.write bs).v (h0.write bs).part (h0.write bs).n).toArray.size:=(hCells_len z8 (by simp) 0).trans (hCells_len _ ho.2.1 _).symm
 have hone:∀x∈(hCells (h0.write bs).v (h0.write bs).part (h0.write bs).n).toArray.toList,x.oneCell'=true:=fun x hx=>by
  rcases List.mem_append.1 hx with h|h
  ·exact arr_one _ x h
  ·rcases List.mem_append.1 h with h|h
   ·obtain ⟨y,_,rfl⟩:=List.mem_map.1 h;rfl
   ·rw [List.mem_singleton.1 h];rfl
 have hrow:=H.row.1
 have hlg:=hrow.lt
 change Row w g 240 (hCells (h0.write bs).v (h0.write bs).part (h0.write bs).n).toArray.toList at hrow
 generalize hHA:(hCells (h0.write bs).v (h0.write bs).part (h0.write bs).n).toArray=HA at *
 have HHA:=Lib.hid hHA;have HSZ:=Lib.hid hsz;have HZ:=Lib.hid hz73;have HONE:=Lib.hid hone;have HROW:=Lib.hid hrow;have HO:=Lib.hid ho;have HN:=Lib.hid hn
 clear H hb hm ho hn hHA hsz hz73 hone hrow
 go_enter Tryz.func128,Tryz.ntmps128
 go_upto_region 4 with fail
 have hz32:(#[.int .u8 0,.int .u8 0,.int .u8 0,.int .u8 0,.int .u8 0,.int .u8 0,.int .u8 0,.int .u8 0,.int .u8 0,.int .u8 0,.int .u8 0,.int .u8 0,.int .u8 0,.int .u8 0,.int .u8 0,.int .u8 0,.int .u8 0,.int .u8 0,.int .u8 0,.int .u8 0,.int .u8 0,.int .u8 0,.int .u8 0,.int .u8 0,.int .u8 0,.int .u8 0,.int .u8 0,.int .u8 0,.int .u8 0,.int .u8 0,.int .u8 0,.int .u8 0]:Array Value)=(oCells z8 0).toArray:=rfl
 rw [hz32]
 generalize hOZ:(oCells z8 0).toArray=OZ
 have hst:=(((St.nil w).new 198 OZ).new 198 OZ).new 240 HA
 have hrow2:=((HROW.out.alloc (.cells OZ 198)).alloc (.cells OZ 198))
 simp only [alloc_sz] at hst
 have HST:=Lib.hid hst;have HROW2:=Lib.hid hrow2;have HOZ:=Lib.hid hOZ
 clear hst hrow2 hOZ
 refine wp_region_lit ?_
 refine list_still [_,_] _ _ ?_
 iterate 2 still_step
 refine wpStill_nil ?_
 refine wpList_get rfl 240 (.tmp 13) rfl g 0 rfl HA.toList _ HROW2.out (by rw [List.drop_zero,List.take_length]) Tryz.underlying240 rfl (by rw [HSZ.out];rfl) ?_
 refine wpList_alloc rfl 240 rfl _ Z73.out ?_
 refine wpList_fill rfl 240 (.tmp 4) (.tmp 14) rfl HA _ 240 _ rfl rfl HSZ.out HZ.out HONE.out ?_ rfl
 try simp only [alloc_sz]
 have hX:w.heap.size+1+1=w.heap.size+2:=rfl
 have HS4:RowKit.Hid (St w (((w.alloc (.cells OZ 198)).alloc (.cells OZ 198)).alloc (.cells HA 240)) (hsh (w.heap.size+1+1) (h0.write bs)::[row (w.heap.size+1) 198 OZ.toList,row w.heap.size 198 OZ.toList])):=Lib.hid (by
  have h:=HST.out
  rw [←HHA.out] at h ⊢
  exact h)
 have HP1:=Lib.hid (put_at HS4.out HO.out (by rw [HN.out];have:=HM.out;omega) 128 (by omega) (by omega))
 generalize ((w.alloc (.cells OZ 198)).alloc (.cells OZ 198)).alloc (.cells HA 240)=W4 at HP1 ⊢
 clear HS4 HST hX
 go_wp2_with (fail)
 refine HP1.out.mono ?_;rintro e w5 ⟨rfl,h5⟩
 rw [←write_snoc] at h5
 have H5:=Lib.hid h5
 clear h5
 go_wp2_with (fail)
 generalize hR:([row (w.heap.size+1) 198 OZ.toList,row w.heap.size 198 OZ.toList]:List Asn)=R at H5
 have HR:=Lib.hid hR
 generalize hXX:w.heap.size+1+1=X at H5 ⊢
 clear hR hXX HP1
 obtain ⟨K,hK⟩:∃K,K=(119-bs.length % 64) % 64:=⟨_,rfl⟩
 have HK:=Lib.hid hK
 have hK64:K < 64:=by omega
 have hlen:∀k,(h0.write (bs++[128]++List.replicate k 0)).n=bs.length+1+k:=fun k=>by rw [write_n];simp [h0];omega
 have hok:∀k,(h0.write (bs++[128]++List.replicate k 0)).Ok:=fun k=>write_ok _ _ h0_ok fun z hz=>by
  rcases List.mem_append.1 hz with h|h
  ·rcases List.mem_append.1 h with h|h
   ·exact HB.out z h
   ·rw [List.mem_singleton.1 h];omega
  ·rw [(List.mem_replicate.1 h).2];omega
 have HLEN:=Lib.hid hlen;have HOK:=Lib.hid hok
 clear hK hlen hok
 go_loopw [] (fun wr=>∃k:Nat,k≤K∧St w wr (hsh X (h0.write (bs++[128]++List.replicate k 0))::R)) (fun wr=>toGo X 2000000 wr)
 case atStart=>exact ⟨0,by omega,by rw [List.replicate_zero,List.append_nil];exact H5.out⟩
 case round =>
  obtain ⟨k,hk,hr⟩:=hrel
  have c72:=(hr.row.1.cell 72).trans (hCells_n _ (HOK.out k).2.1 _)
  have hm:=toGo_eq hr (HOK.out k).2.1 2000000
  rw [HLEN.out k] at c72 hm
  have HRR:=Lib.hid hr;have HTG:=Lib.hid hm
  clear hr hm
  by_cases hlt:k < K
  ·have e1:(((bs.length+1+k:Nat):Int) % 64 != 56)=true:=by
    rw [bne_iff_ne]
    have:=HK.out
    omega
   have HP2:=Lib.hid (put_at HRR.out (HOK.out k) (by rw [HLEN.out];have:=HM.out;omega) 0 (by omega) (by omega))
   have nk0:(0:Int)≤((bs.length+1+k:Nat):Int):=by omega
   generalize ((bs.length+1+k:Nat):Int)=nk at *
   go_wp2_with (fail)
   refine HP2.out.mono ?_;rintro e w6 ⟨rfl,h6⟩
   rw [←write_snoc,List.append_assoc,←List.replicate_succ'] at h6
   have H6:=Lib.hid h6
   clear h6
   go_wp2_with (fail)
   go_roundw
   case rel=>exact ⟨k+1,by omega,H6.out⟩
   case measure =>
    have h:=toGo_eq H6.out (HOK.out (k+1)).2.1 2000000
    rw [HLEN.out] at h
    rw [h,HTG.out]
    have:=HM.out
    omega
  ·have hkk:k=K:=by omega
   have e1:(((bs.length+1+k:Nat):Int) % 64 != 56)=false:=by
    rw [bne_eq_false_iff_eq]
    have:=HK.out
    omega
   have HKK:=Lib.hid hkk
   clear hkk
   have nk0:(0:Int)≤((bs.length+1+k:Nat):Int):=by omega
   generalize ((bs.length+1+k:Nat):Int)=nk at *
   have hrr:=HRR.out
   rw [HKK.out,HK.out] at hrr
   have HR2:=Lib.hid hrr
   clear hrr
   have hmm:=HM.out
   have hok2:∀j,(h0.write (bs++[128]++List.replicate ((119-bs.length % 64) % 64) 0++(be 8 (8*bs.length)).take j)).Ok:=fun j=>write_ok _ _ h0_ok fun z hz=>by
    rcases List.mem_append.1 hz with h|h
    ·rcases List.mem_append.1 h with h|h
     ·rcases List.mem_append.1 h with h|h
      ·exact HB.out z h
      ·rw [List.mem_singleton.1 h];omega
     ·rw [(List.mem_replicate.1 h).2];omega
    ·exact be_byt _ _ z (List.mem_of_mem_take h)
   have hlen2:∀j,(h0.write (bs++[128]++List.replicate ((119-bs.length % 64) % 64) 0++(be 8 (8*bs.length)).take j)).n < 1099511627776:=fun j=>by
    rw [write_n]
    simp only [h0,List.length_append,List.length_take,be_length,List.length_replicate,List.length_singleton]
    omega
   have HOK2:=Lib.hid hok2;have HLEN2:=Lib.hid hlen2
   have cg:=(HROW.out.cell 72)
   rw [←HHA.out] at cg
   have cg2:=cg.trans (hCells_n _ HO.out.2.1 _)
   rw [HN.out] at cg2
   clear hok2 hlen2 cg hmm
   go_wp2_with (fail)
   clear c72 e1 nk0
   go_loopw [5] (fun i wr=>∃s:Nat,s≤8∧i=.int .i64 (8*(s:Int)-8)∧St w wr (hsh X (h0.write (bs++[128]++List.replicate ((119-bs.length % 64) % 64) 0++(be 8 (8*bs.length)).take (8-s)))::R)) (fun i _=>(intOf i+8).toNat)
   case atStart=>exact ⟨8,by omega,rfl,by rw [Nat.sub_self,List.take_zero,List.append_nil];exact HR2.out⟩
   case round =>
    obtain ⟨s,hs,rfl,h7⟩:=hrel
    have H7:=Lib.hid h7
    clear h7
    rcases Nat.eq_zero_or_pos s with hs0|hs0
    ·subst hs0
     have hn8:¬(0:Int)≤8*((0:Nat):Int)-8:=by omega
     have h9:=H7.out
     rw [Nat.sub_zero,List.take_of_length_le (by rw [be_length];exact Nat.le_refl _)] at h9
     change St w wr (hsh X (h0.write (padL bs))::R) at h9
     have hdig:=dig_eq bs
     generalize (h0.write (padL bs))=hV at h9 hdig
     obtain ⟨V,pV,nV⟩:=hV
     have hrx:=h9.row.1
     have hdrop:=h9.drop
     rw [←HR.out,←HOZ.out] at hdrop
     change St w wr [row (w.heap.size+1) 198 (oCells V 0),row w.heap.size 198 (oCells z8 0)] at hdrop
     change outL V=dig bs at hdig
     have x0:=hrx.cell 0;have x1:=hrx.cell 1;have x2:=hrx.cell 2;have x3:=hrx.cell 3;have x4:=hrx.cell 4;have x5:=hrx.cell 5;have x6:=hrx.cell 6;have x7:=hrx.cell 7
     change _=some (Value.int .u32 V.a) at x0
     change _=some (Value.int .u32 V.b) at x1
     change _=some (Value.int .u32 V.c) at x2
     change _=some (Value.int .u32 V.d) at x3
     change _=some (Value.int .u32 V.e) at x4
     change _=some (Value.int .u32 V.f) at x5
     change _=some (Value.int .u32 V.g) at x6
     change _=some (Value.int .u32 V.h) at x7
     have HDR:=Lib.hid hdrop;have HDIG:=Lib.hid hdig
     clear h9 hrx hdrop hdig
     go_wp2_with (fail)
     clear x0 x1 x2 x3 x4 x5 x6 x7
     go_loopw [60] (fun i wx=>∃k:Nat,k≤8∧i=.int .i64 k∧St w wx [row (w.heap.size+1) 198 (oCells V (4*k)),row w.heap.size 198 (oCells z8 0)]) (fun i _=>8-(intOf i).toNat)
     case atStart=>exact ⟨0,by omega,rfl,HDR.out⟩
     case round =>
      obtain ⟨k,hk,rfl,h10⟩:=hrel
      have H10:=Lib.hid h10
      clear h10
      by_cases hlt:k < 8
      ·have hlt':(k:Int) < 8:=by omega
       have hwi:=word_idx V k hlt
       simp only [W8.arr] at hwi
       have hset:=fun j hj=>oCells_set V k j hlt hj
       generalize V.list.getD k 0=x at hwi hset
       have HSET:=Lib.hid hset
       clear hset
       go_wp2_with (fail)
       clear hwi
       go_loopw [64] (fun i wx=>∃j:Nat,j≤4∧i=.int .i64 j∧St w wx [row (w.heap.size+1) 198 (oCells V (4*k+j)),row w.heap.size 198 (oCells z8 0)]) (fun i _=>4-(intOf i).toNat)
       case atStart=>exact ⟨0,by omega,rfl,H10.out⟩
       case round =>
        obtain ⟨j,hj,rfl,h11⟩:=hrel
        have H11:=Lib.hid h11
        clear h11
        by_cases hlj:j < 4
        ·have hlj':(j:Int) < 4:=by omega
         have c1:=(H11.out.row.1.cell (4*k+j)).trans (List.getElem?_eq_getElem (by rw [oCells_len V _ (by omega)];omega))
         have f1:=H11.out.row.1.frozen (4*k+j)
         have l1:=H11.out.row.1.lt
         generalize (oCells V (4*k+j))[4*k+j]'_=old at c1
         have i1:IntKind.i64.wrap (4*(k:Int))=4*(k:Int):=IntWalk.i64_in _ ⟨by omega,by omega⟩
         have i2:IntKind.i64.wrap (4*(k:Int)+(j:Int))=4*(k:Int)+(j:Int):=IntWalk.i64_in _ ⟨by omega,by omega⟩
         have i3:(0:Int)≤4*(k:Int)+(j:Int):=by omega
         have i4:4*(k:Int)+(j:Int) < 32:=by omega
         have i5:(4*(k:Int)+(j:Int)).toNat=4*k+j:=by omega
         have i6:IntKind.i64.wrap (8*(j:Int))=8*(j:Int):=IntWalk.i64_in _ ⟨by omega,by omega⟩
         have i7:IntKind.i64.wrap (24-8*(j:Int))=24-8*(j:Int):=IntWalk.i64_in _ ⟨by omega,by omega⟩
         have i8:(0:Int)≤24-8*(j:Int):=by omega
         have i9:(24-8*(j:Int)).toNat=24-8*j:=by omega
         have hdg:(x:Int) / 2 ^ (24-8*j) % 256=digit 4 x j:=by
          unfold digit
          rw [show (256:Nat) ^ (4-1-j)=2 ^ (24-8*j) by rw [show (256:Nat)=2 ^ 8 from rfl,←Nat.pow_mul];congr 1;omega,Int.natCast_emod,Int.natCast_ediv,Int.natCast_pow]
          rfl
         have HDG:=Lib.hid hdg
         clear hdg
         go_wp2_with (fail)
         go_roundw
         case rel =>
          refine ⟨j+1,by omega,by go_num,?_⟩
          have h:=H11.out.set (4*k+j) (.int .u8 (digit 4 x j))
          rw [HSET.out j hlj] at h
          rw [HDG.out]
          exact h
         case measure=>simp [intOf];omega
        ·have hlj':¬(j:Int) < 4:=by omega
         have hj4:j=4:=by omega
         have HJ4:=Lib.hid hj4
         clear hj4
         go_wp2_with (fail)
         go_roundw
         case rel =>
          refine ⟨k+1,by omega,by go_num,?_⟩
          have h:=H11.out
          rw [HJ4.out] at h
          exact h
         case measure=>simp [intOf];omega
      ·have hlt':¬(k:Int) < 8:=by omega
       have hk8:k=8:=by omega
       have HK8:=Lib.hid hk8
       clear hk8
       have h12:=H10.out
       rw [HK8.out] at h12
       have hoc:oCells V (4*8)=(dig bs).map (Value.int .u8):=by
        unfold oCells
        rw [←HDIG.out,List.take_of_length_le (by rw [outL_len];exact Nat.le_refl _)]
        simp
       rw [hoc] at h12
       have hol:((dig bs).map (Value.int .u8)).length=32:=by rw [List.length_map,dig_len]
       have hzl:=oCells_len z8 0 (by omega)
       have ho1:∀v∈((dig bs).map (Value.int .u8)).toArray.toList,v.oneCell'=true:=fun v hv=>by
        obtain ⟨x,_,rfl⟩:=List.mem_map.1 hv;rfl
       generalize hD:(dig bs).map (Value.int .u8)=D at h12 hol ho1
       have HD:=Lib.hid hD
       clear hD
       have H12:=Lib.hid h12;have HOL:=Lib.hid hol;have HO1:=Lib.hid ho1;have HZL:=Lib.hid hzl
       clear h12 hoc hol ho1 hzl
       go_upto_region 21 with fail
       refine wp_region_lit ?_
       refine wpList_get rfl 198 (.tmp 3) rfl (w.heap.size+1) 0 rfl D _ H12.out.row.1 (by rw [List.drop_zero,List.take_length]) Tryz.underlying198 rfl (by rw [HOL.out];kernel_rfl) ?_
       refine wpList_putR rfl 198 (.tmp 2) (.tmp 80) rfl w.heap.size 0 D.toArray rfl rfl (H12.out.pick 1 rfl).row.1 (by rw [List.size_toArray,HOL.out];kernel_rfl) (by rw [List.size_toArray,HOL.out,HZL.out];omega) HO1.out D (by rw [List.take_zero,List.nil_append,List.drop_of_length_le (by rw [List.size_toArray,HOL.out,HZL.out];omega),List.append_nil]) ?_
       go_wp2_with (fail)
       refine bodyPost_ret (results_cell_row (cs:=D.toArray) rfl _ _ w.heap.size _ _ _ rfl ((H12.out.pick 1 rfl).row.1.setRow D) Tryz.underlying198 rfl (by rw [List.size_toArray,HOL.out];kernel_rfl)) rfl ?_
       exact ⟨by rw [HD.out],((H12.out.pick 1 rfl).setRow D).bel⟩
    ·obtain ⟨q,rfl⟩:∃q,s=q+1:=⟨s-1,by omega⟩
     have hq:8*((q+1:Nat):Int)-8=8*(q:Int):=by omega
     rw [hq]
     have q0:(0:Int)≤8*(q:Int):=by omega
     have hcg:=(H7.out.bel.cell (p:=⟨g,72,none⟩) hlg).trans cg2
     clear hq
     have hlm:=HM.out
     have ed:IntKind.u64.wrap (IntKind.u64.wrap (bs.length:Int)*8) / 2 ^ (8*q) % 256=digit 8 (8*bs.length) (7-q):=by
      rw [IntKind.wrap_u64,IntKind.wrap_u64]
      unfold digit
      rw [show 8-1-(7-q)=q by omega,show (256:Nat)=2 ^ 8 from rfl,←Nat.pow_mul,Int.natCast_emod,Int.natCast_ediv,Int.natCast_pow,show ((bs.length:Int) % 18446744073709551616*8) % 18446744073709551616=((8*bs.length:Nat):Int) by omega]
      rfl
     have hd0:(0:Int)≤digit 8 (8*bs.length) (7-q)∧digit 8 (8*bs.length) (7-q)≤255:=by unfold digit;omega
     have hmore:(be 8 (8*bs.length)).take (8-q)=(be 8 (8*bs.length)).take (8-(q+1))++[digit 8 (8*bs.length) (7-q)]:=by
      rw [show 8-q=(8-(q+1))+1 by omega,List.take_succ_eq_append_getElem (by rw [be_length];omega)]
      congr 2
      simp [be]
     have HP3:=Lib.hid (put_at H7.out (HOK2.out _) (HLEN2.out _) (digit 8 (8*bs.length) (7-q)) hd0.1 hd0.2)
     have HMORE:=Lib.hid hmore;have HED:=Lib.hid ed
     clear hd0 hmore ed hlm
     go_wp2_with (fail)
     rw [HED.out]
     refine HP3.out.mono ?_;rintro e w8 ⟨rfl,h8⟩
     rw [←write_snoc,List.append_assoc,←HMORE.out] at h8
     have H8:=Lib.hid h8
     clear h8
     go_wp2_with (fail)
     go_roundw
     case rel=>exact ⟨q,by omega,by go_num,H8.out⟩
     case measure=>simp [intOf];omega
end sha
namespace sha

open Go.RowKit Go.Deep base obj mem sep crc plan chain
theorem power_at (w:World) (n:Nat) (hn:n≤62):Calls Tryz.prog 201 #[.int .i64 n] w fun e w'=>e=.returned (.int .i64 (2 ^ n:Nat))∧w'=w:=by
 go_enter Tryz.func201,Tryz.ntmps201
 go_wp2_with (fail)
 go_loopw [4,3] (fun i x wr=>∃k:Nat,k≤n∧i=.int .i64 k∧x=.int .i64 (2 ^ k:Nat)∧wr=w) (fun i _ _=>n-(intOf i).toNat)
 case atStart=>exact ⟨0,by omega,rfl,rfl,rfl⟩
 case round =>
  obtain ⟨k,hk,rfl,rfl,rfl⟩:=hrel
  by_cases hlt:k < n
  ·have hlt':(k:Int) < (n:Int):=by omega
   have hp:2 ^ k≤2 ^ 61:=Nat.pow_le_pow_right (by omega) (by omega)
   have hs:2 ^ (k+1)=2 ^ k+2 ^ k:=by rw [Nat.pow_succ];omega
   have HS:=Lib.hid hs
   clear hs
   generalize 2 ^ k=p at *
   go_wp2_with (fail)
   go_roundw
   case rel=>exact ⟨k+1,by omega,by go_num,by rw [HS.out];rfl,trivial⟩
   case measure=>simp [intOf];omega
  ·have hlt':¬(k:Int) < (n:Int):=by omega
   have hkn:k=n:=by omega
   have HK:=Lib.hid hkn
   clear hkn
   go_wp2_with (fail)
   go_ret
   exact ⟨by rw [HK.out];rfl,rfl⟩
theorem mod_at (w:World) (n:Nat):Calls Tryz.prog 213 #[.int .i64 n] w fun e w'=>e=.returned (.int .i64 (n % M:Nat))∧w'=w:=by
 have h0:(0:Int)≤(n:Int):=by omega
 go_enter Tryz.func213,Tryz.ntmps213
 go_wp2_with (fail)
 go_ret
 exact ⟨rfl,rfl⟩
theorem turn_at (w:World) (x n:Nat) (hx:x < 2 ^ 32) (h0:0 < n) (hn:n < 32):Calls Tryz.prog 214 #[.int .i64 x,.int .i64 n] w fun e w'=>e=.returned (.int .i64 (tn x n:Nat))∧∃j,w'=w.drewN j:=by
 have HP1:=Lib.hid (fun w=>power_at w n (by omega))
 have HP2:RowKit.Hid (∀(w:World) (k:Nat),Calls Tryz.prog 201 #[.int .i64 (32-(n:Int))] (w.drewN k) fun e w'=>e=.returned (.int .i64 (2 ^ (32-n):Nat))∧∃j,w'=w.drewN j):=Lib.hid fun w k=>by
  have h:=power_at (w.drewN k) (32-n) (by omega)
  rw [show ((32-n:Nat):Int)=32-(n:Int) by omega] at h
  exact h.mono fun e w' ⟨h1,h2⟩=>⟨h1,k,h2⟩
 have hp0:0 < 2 ^ n:=Nat.two_pow_pos n
 have hp1:(2 ^ n:Nat)≤2 ^ 32:=Nat.pow_le_pow_right (by omega) (by omega)
 have hm:x % 2 ^ n*2 ^ (32-n) < 2 ^ 32:=by
  have h:=tn_lt x n hx hn
  unfold tn at h
  exact Nat.lt_of_le_of_lt (Nat.le_add_left _ _) h
 have hq:x / 2 ^ n≤x:=Nat.div_le_self _ _
 have HT:RowKit.Hid (tn x n=x / 2 ^ n+x % 2 ^ n*2 ^ (32-n)):=Lib.hid rfl
 have hn':(n:Int) < 32:=by omega
 clear h0 hn
 generalize 2 ^ n=p at *
 generalize 2 ^ (32-n)=r at *
 have p0:(0:Int) < (p:Int):=by omega
 obtain ⟨A,B,hA,hB,hT,eA,eB⟩:∃A B:Nat,A≤x∧B < 2 ^ 32∧tn x n=A+B∧(x:Int) / (p:Int)=(A:Int)∧((x:Int) % (p:Int))*(r:Int)=(B:Int):=⟨x / p,x % p*r,hq,hm,HT.out,by rw [Int.natCast_ediv],by rw [Int.natCast_mul,Int.natCast_emod]⟩
 have hw1:IntKind.i64.wrap (((x:Int) % (p:Int))*(r:Int))=((x:Int) % (p:Int))*(r:Int):=by rw [eB];exact IntWalk.i64_in _ ⟨by omega,by omega⟩
 have hw3:wrap64 (wrap64 ((x:Int) / (p:Int))+((x:Int) % (p:Int))*(r:Int))=((A+B:Nat):Int):=by
  rw [eA,eB,IntWalk.wrap64_in (A:Int) ⟨by omega,by omega⟩,IntWalk.wrap64_in _ ⟨by omega,by omega⟩]
  rfl
 have HW3:=Lib.hid hw3;have HT2:=Lib.hid hT
 have h32:(n:Int)≤32:=by omega
 have pne:¬(p:Int)=0:=by omega
 have x0:(0:Int)≤(x:Int):=by omega
 clear hm hq hp1 hw3 hA hB hT eA eB
 go_enter Tryz.func214,Tryz.ntmps214
 go_wp2_with (fail)
 refine (HP1.out _).mono ?_;rintro e w' ⟨rfl,rfl⟩
 go_wp2_with (fail)
 go_quiet ((with_reducible exact HP2.out _ _))
 go_wp2_with (fail)
 go_ret
 exact ⟨by rw [HW3.out,HT2.out];rfl,_,rfl⟩
theorem xor64 (a b:Nat) (ha:a < 2 ^ 32) (hb:b < 2 ^ 32):Go.bits .xor .i64 (a:Int) (b:Int)=((a ^^^ b:Nat):Int):=by
 show IntKind.i64.wrap ((BitVec.ofInt 64 (a:Int) ^^^ BitVec.ofInt 64 (b:Int)).toNat:Int)=_
 have hx:a ^^^ b < 2 ^ 32:=Nat.xor_lt_two_pow ha hb
 rw [BitVec.toNat_xor,BitVec.toNat_ofInt,BitVec.toNat_ofInt,show ((a:Int) % ((2 ^ 64:Nat):Int)).toNat=a by omega,show ((b:Int) % ((2 ^ 64:Nat):Int)).toNat=b by omega]
 exact IntWalk.i64_in _ ⟨by omega,by omega⟩
theorem and64 (a b:Nat) (ha:a < 2 ^ 32) (hb:b < 2 ^ 32):Go.bits .and .i64 (a:Int) (b:Int)=((a &&& b:Nat):Int):=by
 show IntKind.i64.wrap ((BitVec.ofInt 64 (a:Int) &&& BitVec.ofInt 64 (b:Int)).toNat:Int)=_
 have hx:a &&& b < 2 ^ 32:=Nat.and_lt_two_pow _ hb
 rw [BitVec.toNat_and,BitVec.toNat_ofInt,BitVec.toNat_ofInt,show ((a:Int) % ((2 ^ 64:Nat):Int)).toNat=a by omega,show ((b:Int) % ((2 ^ 64:Nat):Int)).toNat=b by omega]
 exact IntWalk.i64_in _ ⟨by omega,by omega⟩
theorem or64 (a b:Nat) (ha:a < 2 ^ 32) (hb:b < 2 ^ 32):Go.bits .or .i64 (a:Int) (b:Int)=((a ||| b:Nat):Int):=by
 show IntKind.i64.wrap ((BitVec.ofInt 64 (a:Int) ||| BitVec.ofInt 64 (b:Int)).toNat:Int)=_
 have hx:a ||| b < 2 ^ 32:=Nat.or_lt_two_pow ha hb
 rw [BitVec.toNat_or,BitVec.toNat_ofInt,BitVec.toNat_ofInt,show ((a:Int) % ((2 ^ 64:Nat):Int)).toNat=a by omega,show ((b:Int) % ((2 ^ 64:Nat):Int)).toNat=b by omega]
 exact IntWalk.i64_in _ ⟨by omega,by omega⟩
theorem mix_at (w:World) (x a b c:Nat) (hx:x < 2 ^ 32) (a0:0 < a) (a1:a < 32) (b0:0 < b) (b1:b < 32) (c0:0 < c) (c1:c < 32):Calls Tryz.prog 215 #[.int .i64 x,.int .i64 a,.int .i64 b,.int .i64 c] w fun e w'=>e=.returned (.int .i64 (mix x a b c:Nat))∧∃j,w'=w.drewN j:=by
 have H1:=Lib.hid (fun w=>turn_at w x a hx a0 a1)
 have H2:=Lib.hid (fun w=>turn_at w x b hx b0 b1)
 have H3:=Lib.hid (fun w=>turn_at w x c hx c0 c1)
 have e1:=xor64 (tn x a) (tn x b) (tn_lt x a hx a1) (tn_lt x b hx b1)
 have e2:=xor64 (tn x a ^^^ tn x b) (tn x c) (xor_lt (tn_lt x a hx a1) (tn_lt x b hx b1)) (tn_lt x c hx c1)
 clear hx a0 a1 b0 b1 c0 c1
 go_enter Tryz.func215,Tryz.ntmps215
 go_wp2_with (fail)
 refine (H1.out _).mono ?_;rintro e w1 ⟨rfl,j1,rfl⟩
 go_wp2_with (fail)
 refine (H2.out _).mono ?_;rintro e w1 ⟨rfl,j2,rfl⟩
 go_wp2_with (fail)
 refine (H3.out _).mono ?_;rintro e w1 ⟨rfl,j3,rfl⟩
 go_wp2_with (fail)
 go_ret
 exact ⟨rfl,_,rfl⟩
abbrev nats (l:List Nat):List Value:=l.map fun n:Nat=>Value.int .i64 (n:Int)
theorem nats_set (l:List Nat) (i z:Nat):(nats l).set i (.int .i64 (z:Int))=nats (l.set i z):=by rw [nats,nats,List.map_set]
theorem nats_get (l:List Nat) (i:Nat) (h:i < l.length):(nats l)[i]?=some (.int .i64 ((l.getD i 0:Nat):Int)):=by
 rw [nats,List.getElem?_map,List.getD_eq_getElem?_getD,List.getElem?_eq_getElem h]
 rfl
theorem infoI:(Tryz.prog.info? 3).map (fun i=>(i.zero,i.size,i.bytes))=some (some (.int .i64 0),1,8):=by kernel_rfl
theorem make_ints (k:Nat) (hk:k≤1000000) (w:World):(Instr.makeSlice 93 (.int .i64 (k:Int)) (.int .i64 (k:Int))).run Tryz.prog w=.ok (.slice (some ⟨w.heap.size,0,none⟩) k k) (w.alloc (.cells (nats (List.replicate k 0)).toArray 3)):=by
 rw [run_make_row' (P:=Tryz.prog) 93 3 (.int .i64 0) 8 Tryz.underlying93 infoI rfl .i64 .i64 k (by omega) (by omega) w]
 congr 2
 congr 1
 apply Array.ext
 ·simp [madeCells]
 ·intro i h1 h2
  simp [madeCells,Nat.mod_one]
theorem nsl_get {w:World} {A:Option Addr} {n:Nat} {l:List Nat} (h:Sl w w.heap.size 1 A n (nats l)) (hl:l.length=n) (i:Nat) (hi:i < n):∃b o,A=some ⟨b,o,none⟩∧b < w.heap.size∧w.cell? ⟨b,o+i,none⟩=some (.int .i64 ((l.getD i 0:Nat):Int)):=by
 obtain ⟨b,o,rfl,hb,hc⟩:=h.2 (by omega)
 exact ⟨b,o,rfl,hb,hc i _ (nats_get l i (by omega))⟩
theorem times_at (w:World) (A:Option Addr) (c:Nat) (x:List Nat) (n:Nat) (hn:x.length=n) (h13:n≤13) (hx:All x 65536) (m:Nat) (hm:m < 65536 ^ 3) (hs:Sl w w.heap.size 1 A n (nats x)) :
  Calls Tryz.prog 220 #[.slice A n c,.int .i64 m] w fun e w'=>∃b,e=.returned (.slice (some ⟨b,0,none⟩) (n+4) (n+4))∧w.heap.size≤b∧Row w' b 3 (nats (timesL x m))∧Below w.heap.size w w':=by
 have hmk:=make_ints (n+4) (by omega)
 rw [show ((n+4:Nat):Int)=(n:Int)+4 by omega] at hmk
 have hr:=Row.new w 3 (nats (List.replicate (n+4) 0)).toArray
 have hb:=(Below.refl w.heap.size w).alloc (Nat.le_refl _) (.cells (nats (List.replicate (n+4) 0)).toArray 3)
 generalize hZ:(nats (List.replicate (n+4) 0)).toArray=Z at hmk hr hb
 have HZ:=Lib.hid hZ;have HR:=Lib.hid hr;have HB:=Lib.hid hb;have HN:=Lib.hid hn;have HX:=Lib.hid hx;have HM:=Lib.hid hm;have HS:=Lib.hid hs
 clear hZ hr hb hn hx hm hs
 go_enter Tryz.func220,Tryz.ntmps220
 go_wp2_with (fail)
 go_loopw [6] (fun i wr=>∃(k:Nat) (out:List Nat),k≤n∧i=.int .i64 k∧out.length=n+4∧mulAll (x.drop k) k m out=mulAll x 0 m (List.replicate (n+4) 0)∧All out (k*17179869184+1)∧Row wr w.heap.size 3 (nats out)∧Below w.heap.size w wr) (fun i _=>n-(intOf i).toNat)
 case atStart =>
  refine ⟨0,List.replicate (n+4) 0,by omega,rfl,by simp,by rw [List.drop_zero],fun y hy=>by rw [(List.mem_replicate.1 hy).2];omega,?_,HB.out⟩
  have h:=HR.out
  rw [←HZ.out] at h ⊢
  exact h
 case round =>
  obtain ⟨k,out,hk,rfl,hol,hmul,hall,hr,hb⟩:=hrel
  have HOL:=Lib.hid hol;have HMUL:=Lib.hid hmul;have HALL:=Lib.hid hall;have HR1:=Lib.hid hr;have HB1:=Lib.hid hb
  clear hol hmul hall hr hb
  by_cases hlt:k < n
  ·have hlt':(k:Int) < (n:Int):=by omega
   obtain ⟨bA,oA,rfl,hbA,cA⟩:=nsl_get HS.out HN.out k hlt
   have hxk:=HX.out.get (by omega) k
   have hdrop:x.drop k=x.getD k 0::x.drop (k+1):=by
    rw [List.drop_eq_getElem_cons (by rw [HN.out];exact hlt),List.getD_eq_getElem?_getD,List.getElem?_eq_getElem (by rw [HN.out];exact hlt)]
    rfl
   have hmul1:mulAll (x.drop (k+1)) (k+1) m (addAt 64 out (k+0) (x.getD k 0) m)=mulAll x 0 m (List.replicate (n+4) 0):=by
    rw [←HMUL.out,hdrop];rfl
   generalize x.getD k 0=xk at *
   have HM1:=Lib.hid hmul1
   clear hmul1 hdrop
   go_wp2_with (fail)
   go_loopw [8,7] (fun i r wx=>∃(j:Nat) (ou:List Nat) (rest:Nat),j≤3∧rest < 65536 ^ (3-j)∧i=.int .i64 j∧r=.int .i64 rest∧ou.length=n+4∧mulAll (x.drop (k+1)) (k+1) m (addAt (64-j) ou (k+j) xk rest)=mulAll x 0 m (List.replicate (n+4) 0)∧All ou (k*17179869184+j*4294967296+1)∧Row wx w.heap.size 3 (nats ou)∧Below w.heap.size w wx) (fun i _ _=>3-(intOf i).toNat)
   case atStart=>exact ⟨0,out,m,by omega,HM.out,rfl,rfl,HOL.out,HM1.out,by simpa using HALL.out,HR1.out,HB1.out⟩
   case round =>
    obtain ⟨j,ou,rest,hj,hrl,rfl,rfl,hol,hmul,hall,hr,hb⟩:=hrel
    rcases Nat.eq_zero_or_pos rest with h0|h0
    ·subst h0
     have hn0:¬(0:Int) < ((0:Nat):Int):=by omega
     have hz:addAt (64-j) ou (k+j) xk 0=ou:=by
      cases 64-j with
      | zero=>rfl
      | succ f=>simp [addAt]
     rw [hz] at hmul
     have HOL1:=Lib.hid hol;have HMUL1:=Lib.hid hmul;have HALL1:=Lib.hid hall;have HR2:=Lib.hid hr;have HB2:=Lib.hid hb
     clear hol hmul hall hr hb hz hrl
     go_wp2_with (fail)
     go_roundw
     case rel=>exact ⟨k+1,ou,by omega,by go_num,HOL1.out,HMUL1.out,HALL1.out.mono (by omega),HR2.out,HB2.out⟩
     case measure=>simp [intOf];omega
    ·have hp0:(0:Int) < (rest:Int):=by omega
     have hj3:j < 3:=by
      rcases Nat.lt_or_ge j 3 with h|h
      ·exact h
      ·rw [show 3-j=0 by omega] at hrl;omega
     have hnext:addAt (64-j) ou (k+j) xk rest=addAt (64-(j+1)) (ou.set (k+j) (ou.getD (k+j) 0+xk*(rest % 65536))) (k+(j+1)) xk (rest / 65536):=by
      rw [show 64-j=(64-(j+1))+1 by omega,addAt,if_neg (by omega)]
      rfl
     rw [hnext] at hmul
     have hrl2:rest / 65536 < 65536 ^ (3-(j+1)):=by
      rw [show 3-j=(3-(j+1))+1 by omega,Nat.pow_succ] at hrl
      omega
     have hrm:rest < 65536 ^ 3:=Nat.lt_of_lt_of_le hrl (Nat.pow_le_pow_right (by omega) (by omega))
     have hprod:xk*(rest % 65536)≤65535*65535:=Nat.mul_le_mul (by omega) (by omega)
     have hold:=hall.get (by omega) (k+j)
     have c1:=(hr.cell (k+j)).trans (nats_get ou (k+j) (by omega))
     have f1:=hr.frozen (k+j)
     have l1:=hr.lt
     have c2:=(hb.cell (p:=⟨bA,oA+k,none⟩) hbA).trans cA
     have hset:=hr.setCell (k+j) (.int .i64 ((ou.getD (k+j) 0+xk*(rest % 65536):Nat):Int))
     rw [nats_set] at hset
     have hall2:All (ou.set (k+j) (ou.getD (k+j) 0+xk*(rest % 65536))) (k*17179869184+(j+1)*4294967296+1):=(hall.mono (by omega)).set (by omega) _
     have hl2:(ou.set (k+j) (ou.getD (k+j) 0+xk*(rest % 65536))).length=n+4:=by rw [List.length_set];exact hol
     have hb2:=hb.setCell (p:=⟨w.heap.size,k+j,none⟩) (Nat.le_refl _) (.int .i64 ((ou.getD (k+j) 0+xk*(rest % 65536):Nat):Int))
     obtain ⟨P,hP⟩:∃P:Nat,P=xk*(rest % 65536):=⟨_,rfl⟩
     have hPi:(xk:Int)*((rest:Int) % 65536)=(P:Int):=by rw [hP,Int.natCast_mul,Int.natCast_emod];rfl
     rw [←hP] at hset hall2 hl2 hb2 hmul hprod
     generalize ou.getD (k+j) 0=old at *
     have HMUL2:=Lib.hid hmul;have HSET:=Lib.hid hset;have HALL2:=Lib.hid hall2;have HL2:=Lib.hid hl2;have HB2:=Lib.hid hb2;have HRL2:=Lib.hid hrl2
     have i1:IntKind.i64.wrap ((k:Int)+(j:Int))=(k:Int)+(j:Int):=IntWalk.i64_in _ ⟨by omega,by omega⟩
     have i2:(0:Int)≤(k:Int)+(j:Int):=by omega
     have i3:(k:Int)+(j:Int) < (n:Int)+4:=by omega
     have i4:((k:Int)+(j:Int)).toNat=k+j:=by omega
     have i5:(0:Int)≤(k:Int):=by omega
     clear hmul hset hall2 hl2 hb2 hrl2 hrl hnext hall hr hb hol hP
     go_wp2_with (fail)
     go_region
     go_wp2_with (fail)
     go_roundw
     case rel=>exact ⟨j+1,_,rest / 65536,by omega,HRL2.out,by go_num,rfl,HL2.out,HMUL2.out,HALL2.out,HSET.out,HB2.out.drew⟩
     case measure=>simp [intOf];omega
  ·have hlt':¬(k:Int) < (n:Int):=by omega
   have hkn:k=n:=by omega
   have HK:=Lib.hid hkn
   clear hkn
   have hmul:=HMUL.out
   rw [HK.out,List.drop_of_length_le (by rw [HN.out];exact Nat.le_refl _)] at hmul
   have htimes:timesL x m=carry (n+4) 0 out:=by
    unfold timesL
    rw [HN.out,←hmul]
    show carry out.length 0 out=_
    rw [HOL.out]
   have hall:=HALL.out.mono (show k*17179869184+1≤1099511627776 by omega)
   have HT:=Lib.hid htimes;have HALL3:=Lib.hid hall
   clear hmul htimes hall
   go_wp2_with (fail)
   go_loopw [9] (fun i wx=>∃(j:Nat) (ou:List Nat),j+1≤n+4∧i=.int .i64 j∧ou.length=n+4∧timesL x m=carry (n+4-j) j ou∧(∀p,j < p→ou.getD p 0 < 1099511627776)∧ou.getD j 0 < 2199023255552∧Row wx w.heap.size 3 (nats ou)∧Below w.heap.size w wx) (fun i _=>n+4-(intOf i).toNat)
   case atStart=>exact ⟨0,out,by omega,rfl,HOL.out,HT.out,fun p _=>HALL3.out.get (by omega) p,by have:=HALL3.out.get (by omega) 0;omega,HR1.out,HB1.out⟩
   case round =>
    obtain ⟨j,ou,hj,rfl,hol,hca,hhi,hlo,hr,hb⟩:=hrel
    by_cases hlj:j+1 < n+4
    ·have hlj':(j:Int)+1 < (n:Int)+4:=by omega
     have hca2:timesL x m=carry (n+4-(j+1)) (j+1) ((ou.set (j+1) (ou.getD (j+1) 0+ou.getD j 0 / 65536)).set j (ou.getD j 0 % 65536)):=by
      rw [hca,show n+4-j=(n+4-(j+1))+1 by omega,carry,if_pos (by rw [hol];exact hlj)]
     have c1:=(hr.cell (j+1)).trans (nats_get ou (j+1) (by omega))
     have c2:=(hr.cell j).trans (nats_get ou j (by omega))
     have f1:=hr.frozen (j+1)
     have f2:=hr.frozen j
     have l1:=hr.lt
     have hh1:=hhi (j+1) (by omega)
     have hset:=(hr.setCell (j+1) (.int .i64 ((ou.getD (j+1) 0+ou.getD j 0 / 65536:Nat):Int))).setCell j (.int .i64 ((ou.getD j 0 % 65536:Nat):Int))
     rw [nats_set,nats_set] at hset
     have hb2:=(hb.setCell (p:=⟨w.heap.size,j+1,none⟩) (Nat.le_refl _) (.int .i64 ((ou.getD (j+1) 0+ou.getD j 0 / 65536:Nat):Int))).setCell (p:=⟨w.heap.size,j,none⟩) (Nat.le_refl _) (.int .i64 ((ou.getD j 0 % 65536:Nat):Int))
     have hl2:((ou.set (j+1) (ou.getD (j+1) 0+ou.getD j 0 / 65536)).set j (ou.getD j 0 % 65536)).length=n+4:=by simp [hol]
     have hlo2:((ou.set (j+1) (ou.getD (j+1) 0+ou.getD j 0 / 65536)).set j (ou.getD j 0 % 65536)).getD (j+1) 0 < 2199023255552:=by
      rw [getD_set,if_neg (by omega),getD_set,if_pos ⟨rfl,by omega⟩]
      omega
     have hhi2:∀p,j+1 < p→((ou.set (j+1) (ou.getD (j+1) 0+ou.getD j 0 / 65536)).set j (ou.getD j 0 % 65536)).getD p 0 < 1099511627776:=fun p hp=>by
      rw [getD_set,if_neg (by omega),getD_set,if_neg (by omega)]
      exact hhi p (by omega)
     generalize ou.getD (j+1) 0=a at *
     generalize ou.getD j 0=d at *
     have HCA:=Lib.hid hca2;have HSET:=Lib.hid hset;have HB2:=Lib.hid hb2;have HL2:=Lib.hid hl2;have HLO:=Lib.hid hlo2;have HHI:=Lib.hid hhi2
     have d0:(0:Int)≤(d:Int):=by omega
     have j0:(0:Int)≤(j:Int):=by omega
     have j1:(0:Int)≤(j:Int)+1:=by omega
     have j2:((j:Int)+1).toNat=j+1:=by omega
     have j3:(j:Int) < (n:Int)+4:=by omega
     clear hca hca2 hset hb2 hl2 hlo2 hhi2 hhi hr hb hol
     go_wp2_with (fail)
     go_region
     go_wp2_with (fail)
     go_roundw
     case rel=>exact ⟨j+1,_,by omega,by go_num,HL2.out,HCA.out,HHI.out,HLO.out,HSET.out,HB2.out.drew⟩
     case measure=>simp [intOf];omega
    ·have hlj':¬(j:Int)+1 < (n:Int)+4:=by omega
     have hfin:timesL x m=ou:=by
      rw [hca]
      cases hf:n+4-j with
      | zero=>rfl
      | succ f=>rw [carry,if_neg (by rw [hol];omega)]
     have HF:=Lib.hid hfin;have HR3:=Lib.hid hr;have HB3:=Lib.hid hb
     clear hfin hca hhi hlo hr hb hol
     go_wp2_with (fail)
     go_ret
     exact ⟨w.heap.size,rfl,Nat.le_refl _,by rw [HF.out];exact HR3.out,HB3.out⟩
end sha
end Go.Proofs.YtdldkkoplgkloaaGreat
