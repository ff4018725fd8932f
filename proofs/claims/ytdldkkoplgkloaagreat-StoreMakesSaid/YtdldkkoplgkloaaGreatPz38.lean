/-
  PROVED HERE: lemmas and contracts that the law's proof leans on (texts put together: LoadDoc, StoreU, Wakes, RefSame, RefImg).
  CONDITIONS: each names its own.
-/
import Derived.Test.YtdldkkoplgkloaaGreatPz5
import Derived.Test.YtdldkkoplgkloaaGreatPz22
import Derived.Test.YtdldkkoplgkloaaGreatPz31
import Derived.Test.YtdldkkoplgkloaaGreatPz32
import Derived.Test.YtdldkkoplgkloaaGreatPz35
import Derived.Test.YtdldkkoplgkloaaGreatPz37
namespace Go.Proofs.YtdldkkoplgkloaaGreat
set_option linter.unusedVariables false
set_option linter.unusedSimpArgs false
set_option maxRecDepth 100000
set_option maxHeartbeats 32000000
namespace store


open Go.RowKit Go.Deep base crc disk record commit stage image tab compat
def loadS (se:Int) (bs:List Int) (no:Nat):RS:=⟨true,⟨se,bs.length,2 ^ no-1⟩,(List.range no).map (blkB bs)++List.replicate (nbB bs-no) []⟩
theorem loadS_begin (R:RS) {bs:List Int} {se:Int} (h:(Stg.mk se bs.length 0).right=true):beginR R se bs.length=(0,loadS se bs 0):=by
 unfold beginR
 rw [if_pos h,blocksN_len]
 simp [loadS]
theorem loadS_put {bs:List Int} {se:Int} {no:Nat} (hn:no < nbB bs):putR (loadS se bs no) se no (blkB bs no)=(0,loadS se bs (no+1)):=by
 have hl:(loadS se bs no).blocks.length=nbB bs:=by simp [loadS];omega
 have hw:wrongR (loadS se bs no) se no (blkB bs no).length=0:=by
  unfold wrongR
  rw [if_neg (by simp [loadS]),if_neg (by simp [loadS]),if_neg (by rw [hl];omega),if_neg (by rw [blkB_len hn];simp)]
 have hg:(loadS se bs no).blocks.getD no []=[]:=by
  have e:((List.range no).map (blkB bs)++List.replicate (nbB bs-no) ([]:List Int)).getD no []=[]:=by
   rw [List.getD_eq_getElem?_getD,List.getElem?_append_right (by simp)]
   simp
   cases h:(List.replicate (nbB bs-no) ([]:List Int))[0]? with
   | none=>rfl
   | some x =>
     have:=List.eq_of_mem_replicate (List.mem_of_getElem? h)
     simp [this]
  exact e
 unfold putR
 rw [hw,if_neg (by simp),Int.toNat_natCast,if_neg (by rw [hg];simp)]
 have hset:(loadS se bs no).blocks.set no (blkB bs no)=(List.range (no+1)).map (blkB bs)++List.replicate (nbB bs-(no+1)) []:=by
  obtain ⟨k,hk⟩:∃k,nbB bs-no=k+1:=⟨nbB bs-no-1,by omega⟩
  have:nbB bs-(no+1)=k:=by omega
  simp only [loadS,hk,this,List.replicate_succ,List.range_succ,List.map_append,List.map_cons,List.map_nil,List.append_assoc,List.cons_append,List.nil_append]
  rw [List.set_append_right _ _ (by simp)]
  simp
 rw [hset]
 simp only [loadS,Prod.mk.injEq,true_and,RS.mk.injEq,Stg.mk.injEq]
 refine ⟨?_,trivial⟩
 have:(2:Int) ^ (no+1)=2 ^ no*2:=by rw [Int.pow_succ]
 omega
theorem loadS_bytes {bs:List Int} {se:Int}:bytesR (loadS se bs (nbB bs))=(bs,0):=by
 unfold bytesR
 have hb:(loadS se bs (nbB bs)).blocks=(List.range (nbB bs)).map (blkB bs):=by simp [loadS]
 rw [if_neg (by simp [loadS]),if_neg (by
  rw [hb]
  rintro ⟨b,hb,rfl⟩
  obtain ⟨j,hj,e⟩:=List.mem_map.1 hb
  have:=blkB_len (List.mem_range.1 hj)
  rw [e] at this
  simp at this),hb]
 have h2:=chunks (padB bs) (nbB bs)
 rw [show ((List.range (nbB bs)).map (blkB bs))=((List.range (nbB bs)).map fun j=>((padB bs).drop (16*j)).take 16) from rfl,h2,←padB_len,List.take_length]
 simp [loadS,padB]
theorem blockL_is {i:Img} (hr:i.right) {no:Nat} (h:16*no < i.bytes.length):blockL i no false=blkB i.bytes no:=by
 have hb:=bytes_len i
 have h96:i.code.length≤96:=by obtain ⟨_,_,_,_,_,_,_,h⟩:=hr;omega
 show plainB i no=_
 unfold plainB
 rw [if_pos ⟨hr,by omega,by omega,by omega⟩,Int.toNat_natCast]
theorem dHold_is {t:Tab} {p:Nat} {R:RS} {i:Img} (hr:i.right) (hb:bytesR R=(i.bytes,0)) (hc:checkL t p i 0=0):dHold t p R=(i,0):=by
 unfold dHold
 rw [hb]
 simp only [get_bytes i hr]
 rw [if_neg (by simp),if_neg (by simp),if_neg (by simpa using hc)]
theorem loadR_bytes (i:Img):bytesR (loadR i.bytes)=(i.bytes,0):=load_bytes (by rw [bytes_len];omega)
def wkD (r:Rec) (R:RS):List DP:=[⟨r,loadR exI.bytes,R⟩,⟨firstRec 1,loadR exJ.bytes,RS.none⟩]
theorem exI_right:exI.right:=by unfold Img.right exI;decide
theorem exK_right:exK.right:=by unfold Img.right exK;decide
theorem exK_len:exK.bytes.length=50:=by rw [bytes_len];rfl
theorem exK_nb:nbB exK.bytes=4:=by unfold nbB;rw [exK_len]
theorem wk_made:madeD (exL.take 2)=wkD (firstRec 0) RS.none:=by simp [madeD,exL,wkD,List.range_succ]
theorem wk_begin:dBegin (wkD (firstRec 0) RS.none) 0 5 50=(0,wkD (firstRec 0) (loadS 5 exK.bytes 0)):=by
 have h:beginR RS.none 5 50=(0,loadS 5 exK.bytes 0):=by
  have h:=loadS_begin (bs:=exK.bytes) (se:=5) RS.none (by rw [exK_len];decide)
  rw [exK_len] at h
  exact h
 generalize loadS 5 exK.bytes 0=S at *
 simp [dBegin,dFree,wkD,DP.trial,DP.sp,DP.slot,DP.setSlot,firstRec]
 exact ⟨by rw [h],by rw [h]⟩
theorem wk_load {no:Nat} (h:no < 4):dLoad (wkD (firstRec 0) (loadS 5 exK.bytes no)) 0 5 no (blockL exK no false)=(0,wkD (firstRec 0) (loadS 5 exK.bytes (no+1))):=by
 have h1:=loadS_put (bs:=exK.bytes) (se:=5) (no:=no) (by rw [exK_nb];exact h)
 rw [←blockL_is exK_right (by rw [exK_len];omega)] at h1
 generalize loadS 5 exK.bytes no=S,loadS 5 exK.bytes (no+1)=S',blockL exK no false=dd at *
 simp [dLoad,dFree,wkD,DP.trial,DP.sp,DP.slot,DP.setSlot,firstRec]
 exact ⟨by rw [h1],by rw [h1]⟩
def wkR (n:Nat):Rec:=match n with
 | 0=>⟨0,2,1,0,2,0⟩
 | 1=>⟨0,3,1,0,1,0⟩
 | 2=>⟨0,4,1,0,0,0⟩
 | _=>⟨0,5,0,0,0,2⟩
theorem wk_hold0:dHold exT 0 (loadR exI.bytes)=(exI,0):=dHold_is exI_right (loadR_bytes exI) (by decide +kernel)
theorem wk_hold1:dHold exT 0 (loadS 5 exK.bytes 4)=(exK,0):=dHold_is exK_right (by have:=loadS_bytes (bs:=exK.bytes) (se:=5);rwa [exK_nb] at this) (by decide +kernel)
theorem wk_save (R r:Rec) (S:RS) (h1:¬4294967295≤R.seq) (h2:(nextRec 0 R r).right=true):dSave (wkD R S) 0 r=(0,wkD (nextRec 0 R r) S):=by
 unfold dSave
 rw [show ((wkD R S).getD 0 default)=⟨R,loadR exI.bytes,S⟩ from rfl,if_neg h1,if_pos (by exact h2)]
 rfl
theorem wk_saved {R r R':Rec} (S:RS) (h1:¬4294967295≤R.seq) (h2:nextRec 0 R r=R') (h3:R'.right=true):dSave (wkD R S) 0 r=(0,wkD R' S):=by
 have:=wk_save R r S h1 (by rw [h2];exact h3)
 rwa [h2] at this
theorem wk_seal:dSeal exT (wkD (firstRec 0) (loadS 5 exK.bytes 4)) 0 5=(0,wkD (wkR 0) (loadS 5 exK.bytes 4)):=by
 have hb:bytesR (loadS 5 exK.bytes 4)=(exK.bytes,0):=by have:=loadS_bytes (bs:=exK.bytes) (se:=5);rwa [exK_nb] at this
 have h1:(loadS 5 exK.bytes 4).has=true:=rfl
 have h2:(loadS 5 exK.bytes 4).st.session=5:=rfl
 have h0:=wk_hold0
 have hg:=get_bytes exK exK_right
 have hc:checkL exT 0 exK exI.version=0:=by decide +kernel
 generalize loadS 5 exK.bytes 4=S at *
 have hB:dBegun (wkD (firstRec 0) S) 0 5=0:=by simp [dBegun,dFree,wkD,DP.trial,DP.sp,DP.slot,firstRec,h1,h2]
 have hS:dSp (wkD (firstRec 0) S) 0=(exK.bytes,0):=hb
 have hA:dAct exT (wkD (firstRec 0) S) 0=(exI,0):=h0
 unfold dSeal
 rw [hB,if_neg (by simp),show (0:Int).toNat=0 from rfl,hS,hA,hg,if_neg (by simp),if_neg (by simp),if_neg (by simp),if_neg (by simpa using hc)]
 exact wk_saved S (by decide) (by simp [nextRec,sealRec,wkR,wkD,firstRec,exT]) (by decide)
theorem wk_boot (n:Nat) (h:n < 4):dBoot exT (wkD (wkR n) (loadS 5 exK.bytes 4)) 0=((if n < 2 then exK else exI,0),wkD (wkR (n+1)) (loadS 5 exK.bytes 4)):=by
 have h0:=wk_hold0
 have h1:=wk_hold1
 generalize loadS 5 exK.bytes 4=S at *
 generalize hA:loadR exI.bytes=A at *
 rcases (by omega:n=0∨n=1∨n=2∨n=3) with rfl|rfl|rfl|rfl
 ·have e:dSave (wkD (wkR 0) S) 0 (bootRec (wkR 0))=(0,wkD (wkR 1) S):=wk_saved S (by decide) (by simp [nextRec,bootRec,wkR]) (by decide)
  unfold dBoot
  rw [if_neg (by simp [wkD]),if_neg (by simp [wkD,wkR,DP.trial]),show ((wkD (wkR 0) S).getD (0:Int).toNat default).r=wkR 0 from rfl,show (0:Int).toNat=0 from rfl,e,if_neg (by simp)]
  show (dHold exT 0 S,_)=_
  rw [h1];rfl
 ·have e:dSave (wkD (wkR 1) S) 0 (bootRec (wkR 1))=(0,wkD (wkR 2) S):=wk_saved S (by decide) (by simp [nextRec,bootRec,wkR]) (by decide)
  unfold dBoot
  rw [if_neg (by simp [wkD]),if_neg (by simp [wkD,wkR,DP.trial]),show ((wkD (wkR 1) S).getD (0:Int).toNat default).r=wkR 1 from rfl,show (0:Int).toNat=0 from rfl,e,if_neg (by simp)]
  show (dHold exT 0 S,_)=_
  rw [h1];rfl
 ·have e:dSave (wkD (wkR 2) S) 0 (bootRec (wkR 2))=(0,wkD (wkR 3) S):=wk_saved S (by decide) (by simp [nextRec,bootRec,wkR]) (by decide)
  unfold dBoot
  rw [if_neg (by simp [wkD]),if_neg (by simp [wkD,wkR,DP.trial]),show ((wkD (wkR 2) S).getD (0:Int).toNat default).r=wkR 2 from rfl,show (0:Int).toNat=0 from rfl,e,if_neg (by simp)]
  show (dHold exT 0 (loadR exI.bytes),_)=_
  rw [hA,h0];rfl
 ·unfold dBoot
  rw [if_neg (by simp [wkD]),if_pos (by simp [wkD,wkR,DP.trial])]
  show (dHold exT 0 (loadR exI.bytes),_)=_
  rw [hA,h0];rfl
end store
namespace store


open Go.RowKit Go.Deep base obj mem sep plan disk record commit stage image tab compat chain crc
structure StoU (w0 w:World) (ad:StAd) (t:Tab) (d:Nat) (m:DS) (xs:List PP) (D:List DP) (l:List Asn):Prop where
 st:St w0 w (strA ad t d m xs::l)
 inv:UInv m xs D
 len:xs.length=t.parts.length
 room:10*xs.length≤m.secs.length
 right:t.right=true
section
variable {w0 w : World} {ad : StAd} {t : Tab} {d : Nat} {m : DS} {xs : List PP} {D : List DP} {l : List Asn}
theorem StoU.ok (h:StoU w0 w ad t d m xs D l):SOk t m xs:=h.inv.sok h.right h.len h.room
theorem StoU.step (h:StoU w0 w ad t d m xs D l) {w':World} {m':DS} {xs':List PP} {D':List DP} {l':List Asn} (hst:St w0 w' (strA ad t d m' xs'::l')) (hi:UInv m' xs' D') (hD:D'.length=D.length) (hl:m'.secs.length=m.secs.length):StoU w0 w' ad t d m' xs' D' l':=by
 have e:xs'.length=xs.length:=by rw [←hi.len,hD,h.inv.len]
 exact ⟨hst,hi,by rw [e];exact h.len,by rw [e,hl];exact h.room,h.right⟩
theorem StoU.move (h:StoU w0 w ad t d m xs D l) {w':World} {l':List Asn} (hst:St w0 w' (strA ad t d m xs::l')):StoU w0 w' ad t d m xs D l':=⟨hst,h.inv,h.len,h.room,h.right⟩
theorem StoU.below {w':World} (h:StoU w0 w ad t d m xs D l) (hb:Below w.heap.size w w'):StoU w0 w' ad t d m xs D l:=h.move (h.st.below hb)
theorem dBegin_len (q se sz:Int):(dBegin D q se sz).2.length=D.length:=by unfold dBegin;split<;>simp
theorem dLoad_len (q se no:Int) (data:List Int):(dLoad D q se no data).2.length=D.length:=by unfold dLoad;split<;>simp
theorem dSave_len (p:Nat) (r:Rec):(dSave D p r).2.length=D.length:=by unfold dSave;split;rfl;split<;>simp
theorem dBoot_len (q:Int):(dBoot t D q).2.length=D.length:=by unfold dBoot;split;rfl;split;rfl;split<;>exact dSave_len _ _
theorem dSeal_len (q se:Int):(dSeal t D q se).2.length=D.length:=by
 unfold dSeal
 split;rfl
 split;rfl
 split;rfl
 split;rfl
 split;rfl
 exact dSave_len _ _
theorem begin_u (h:StoU w0 w ad t d m xs D l) (q se sz:Int):Calls Tryz.prog 14 #[.pointer (some ⟨ad.S,0,none⟩),.int .i64 q,.int .i64 se,.int .i64 sz] w fun e w'=>e=.returned (.int .i64 (dBegin D q se sz).1)∧∃m' xs',StoU w0 w' ad t d m' xs' (dBegin D q se sz).2 l:=by
 obtain ⟨h1,h2,h3⟩:=h.inv.begin q se sz
 exact (begin_str h.st h.ok q se sz).mono fun e w' ⟨e1,e2⟩=>⟨by rw [e1,h1],_,_,h.step e2 h2 (dBegin_len _ _ _) h3⟩
theorem load_u {B:Asn} {A:Option Addr} {n c:Nat} {data:List Int} (h:StoU w0 w ad t d m xs D (B::l)) (hg:Gives w0 B A n data) (hb:Byt data) (q se no:Int):Calls Tryz.prog 15 #[.pointer (some ⟨ad.S,0,none⟩),.int .i64 q,.int .i64 se,.int .i64 no,.slice A n c] w fun e w'=>e=.returned (.int .i64 (dLoad D q se no data).1)∧∃m' xs',StoU w0 w' ad t d m' xs' (dLoad D q se no data).2 (B::l):=by
 obtain ⟨h1,h2,h3⟩:=h.inv.load q se no hb
 exact (load_str h.st h.ok q se no hg).mono fun e w' ⟨e1,e2⟩=>⟨by rw [e1,h1],_,_,h.step e2 h2 (dLoad_len _ _ _ _) h3⟩
theorem seal_u (h:StoU w0 w ad t d m xs D l) (q se:Int):Calls Tryz.prog 16 #[.pointer (some ⟨ad.S,0,none⟩),.int .i64 q,.int .i64 se] w fun e w'=>e=.returned (.int .i64 (dSeal t D q se).1)∧∃m' xs',StoU w0 w' ad t d m' xs' (dSeal t D q se).2 l:=by
 obtain ⟨h1,h2,h3⟩:=h.inv.seal_ (t:=t) q se
 exact (sseal_str h.st h.ok q se).mono fun e w' ⟨e1,e2⟩=>⟨by rw [e1,h1],_,_,h.step e2 h2 (dSeal_len _ _) h3⟩
theorem boot_u (h:StoU w0 w ad t d m xs D l) (q:Int):Calls Tryz.prog 10 #[.pointer (some ⟨ad.S,0,none⟩),.int .i64 q] w fun e w'=>∃(A:Option Addr) (c:Nat),e=.returned (.tuple #[(dBoot t D q).1.1.val A c,.int .i64 (dBoot t D q).1.2])∧∃m' xs',StoU w0 w' ad t d m' xs' (dBoot t D q).2 (own 5 1 (.slice A (dBoot t D q).1.1.code.length c) (dBoot t D q).1.1.code.length (u8s (dBoot t D q).1.1.code)::l):=by
 obtain ⟨h1,h2,h3⟩:=h.inv.boot (t:=t) q
 refine (boot_str h.st h.ok q).mono fun e w' ⟨i,A,c,er,e1,e2,e3⟩=>?_
 rw [h1] at e2
 rw [←e2]
 exact ⟨A,c,e1,_,_,h.step e3.swap h2 (dBoot_len _) h3⟩
theorem image_u (h:StoU w0 w ad t d m xs D l) (q:Int):Calls Tryz.prog 11 #[.pointer (some ⟨ad.S,0,none⟩),.int .i64 q] w fun e w'=>∃(A:Option Addr) (c:Nat),e=.returned (.tuple #[(dImage t D q).1.val A c,.int .i64 (dImage t D q).2])∧StoU w0 w' ad t d m xs D (own 5 1 (.slice A (dImage t D q).1.code.length c) (dImage t D q).1.code.length (u8s (dImage t D q).1.code)::l):=by
 refine (image_str h.st h.ok q).mono fun e w' ⟨i,A,c,er,e1,e2,e3⟩=>?_
 rw [h.inv.image q] at e2
 rw [←e2]
 exact ⟨A,c,e1,h.move e3.swap⟩
def dRec (D:List DP) (q:Int):Rec:=if q < 0∨(D.length:Int)≤q then Rec.zero else (D.getD q.toNat default).r
theorem record_u (h:StoU w0 w ad t d m xs D l) (q:Int):Calls Tryz.prog 13 #[.pointer (some ⟨ad.S,0,none⟩),.int .i64 q] w fun e w'=>e=.returned (dRec D q).val∧Below w.heap.size w w':=by
 have e:recAt xs q=dRec D q:=by
  unfold recAt dRec
  rw [h.inv.len]
  by_cases hq:q < 0∨(xs.length:Int)≤q
  ·rw [if_pos hq,if_pos hq]
  ·rw [if_neg hq,if_neg hq,(h.inv.parts q.toNat (by omega)).now]
 rw [←e]
 exact record_str h.st q
def toldR (R:RS):Stg:=if R.has then R.st else Stg.zero
def dStg (D:List DP) (q:Int):Stg×Bool:=if q < 0∨(D.length:Int)≤q then (Stg.zero,false) else (toldR ((D.getD q.toNat default).slot (D.getD q.toNat default).sp),((D.getD q.toNat default).slot (D.getD q.toNat default).sp).has)
end
end store
namespace store


open Go.RowKit Go.Deep base obj mem sep plan disk record commit stage image tab compat chain crc
theorem rfld5 (r:Rec) (w:World):(Instr.field 35 r.val 5).run Tryz.prog w=.ok (.int .i64 r.bad) w:=by kernel_rfl
theorem ex_right:exT.right=true:=by decide +kernel
theorem ex_made {w0 w:World} {l:List Asn} {gP gW gI g2:Nat} (h:St w0 w (exB gP gW gI g2::l)) :
  Calls Tryz.prog 20 #[.agg #[.int .i64 4,.slice (some ⟨gP,0,none⟩) 2 2,.slice (some ⟨gW,0,none⟩) 1 1,.slice none 0 0,.int .i64 2,.slice (some ⟨gI,0,none⟩) 3 3]] w fun e w'=>∃(ad:StAd) (d X:Nat),e=.returned (.tuple #[.pointer (some ⟨ad.S,0,none⟩),.pointer (some ⟨d,0,none⟩),.pointer (some ⟨X,0,none⟩)])∧∃(m:DS) (xs:List PP) (R:Asn),StoU w0 w' ad exT d m xs (wkD (firstRec 0) RS.none) (exB gP gW gI g2::R::l):=by
 have hm:=made_at (js:=exL) (AI:=some ⟨gI,0,none⟩) (nI:=3) (cI:=3) (K:=fun _=>(some ⟨g2,0,none⟩,1)) (a:=exA gP gW) (t:=exT) h (ex_imgs w0 gP gW gI g2 3 (by omega)) (fun w' l' h'=>ex_tab h') (Nat.le_refl _) ex_right (by decide) (by decide) (fun p hp=>by
  have hp':p < 2:=hp
  rcases (by omega:p=0∨p=1) with rfl|rfl<;>decide +kernel)
 refine hm.mono fun e w' ⟨ad,d,X,h1,m,xs,v,P,ys,h2,h3,h4,h5,_,_⟩=>⟨ad,d,X,h1,m,xs,_,(h2.pick 1 rfl).perm (.cons _ (List.Perm.swap _ _ _)),?_,h4,by rw [h4,h5];exact Nat.le_refl _,ex_right⟩
 have:=h3.made
 rwa [show exT.parts.length=2 from rfl,wk_made] at this
theorem wakes_at (w:World):Calls Tryz.prog 9 #[] w fun e w'=>e=.returned (.bool true)∧Below w.heap.size w w':=by
 go_enter Tryz.func9,Tryz.ntmps9
 go_wp2_with (fail)
 refine (example_at (St.nil w)).mono ?_
 rintro e w1 ⟨gP,gW,gI,rfl,g2,hst⟩
 obtain ⟨Z,hZ⟩:∃Z,Z=w1.heap.size:=⟨_,rfl⟩
 obtain ⟨w2,hw2⟩:∃v,v=w1.alloc (.cells #[.int .i64 4,.slice (some ⟨gP,0,none⟩) 2 2,.slice (some ⟨gW,0,none⟩) 1 1,.slice none 0 0,.int .i64 2,.slice (some ⟨gI,0,none⟩) 3 3] 49):=⟨_,rfl⟩
 have h2:=(hst.new 49 #[.int .i64 4,.slice (some ⟨gP,0,none⟩) 2 2,.slice (some ⟨gW,0,none⟩) 1 1,.slice none 0 0,.int .i64 2,.slice (some ⟨gI,0,none⟩) 3 3])
 rw [←hw2,←hZ] at h2
 have h3:=exB_shut (h2.perm (List.perm_append_singleton _ [_,_,_,_]).symm)
 have H3:=Lib.hid h3
 have HZ:=Lib.hid hZ;have HW2:=Lib.hid hw2
 have hzr:=(h3.pick 1 rfl).row.1
 have z0:w2.cell? ⟨Z,0,none⟩=some (.int .i64 4):=hzr.cell 0
 have z1:w2.cell? ⟨Z,1,none⟩=some (.slice (some ⟨gP,0,none⟩) 2 2):=hzr.cell 1
 have z2:w2.cell? ⟨Z,2,none⟩=some (.slice (some ⟨gW,0,none⟩) 1 1):=hzr.cell 2
 have z3:w2.cell? ⟨Z,3,none⟩=some (.slice none 0 0):=hzr.cell 3
 have z4:w2.cell? ⟨Z,4,none⟩=some (.int .i64 2):=hzr.cell 4
 have z5:w2.cell? ⟨Z,5,none⟩=some (.slice (some ⟨gI,0,none⟩) 3 3):=hzr.cell 5
 have lZ:=hzr.lt
 clear hst h2 h3 hzr hZ hw2
 go_upto_region 2 with fail
 rw [←HW2.out,←HZ.out]
 go_wp2_with (fail)
 refine (ex_made H3.out).mono ?_
 rintro e w3 ⟨ad,d,X,rfl,m,xs,R,hs⟩
 have HS:=Lib.hid (begin_u hs 0 5 50)
 rw [wk_begin] at HS
 clear hs z0 z1 z2 z3 z4 z5 lZ H3 HZ HW2
 obtain ⟨S,hS⟩:∃S,S=ad.S:=⟨_,rfl⟩
 rw [←hS] at HS ⊢
 have HSS:=Lib.hid hS
 clear hS
 go_wp2_with (fail)
 refine HS.out.mono ?_
 rintro e w4 ⟨rfl,m',xs',hs⟩
 have H4:=Lib.hid hs
 clear hs HS
 dsimp only
 go_wp2_with (fail)
 go_loopw [24] (fun x wr=>∃(no:Nat) (m:DS) (xs:List PP),no≤4∧x=.int .i64 (no:Int)∧StoU w wr ad exT d m xs (wkD (firstRec 0) (loadS 5 exK.bytes no)) (exB gP gW gI g2::R::[row Z 49 [.int .i64 4,.slice (some ⟨gP,0,none⟩) 2 2,.slice (some ⟨gW,0,none⟩) 1 1,.slice none 0 0,.int .i64 2,.slice (some ⟨gI,0,none⟩) 3 3]])) (fun x _=>4-(intOf x).toNat)
 case atStart=>exact ⟨0,_,_,by omega,rfl,H4.out⟩
 case round =>
  obtain ⟨no,m,xs,hno,rfl,hs⟩:=hrel
  have HS:=Lib.hid hs
  clear H4 hs
  by_cases hlt:no < 4
  ·have hz:=(HS.out.st.pick 3 rfl).row.1
   have z5:wr.cell? ⟨Z,5,none⟩=some (.slice (some ⟨gI,0,none⟩) 3 3):=hz.cell 5
   have lZ:=hz.lt
   have hi:=(exB_open (HS.out.st.pick 1 rfl)).row.1
   have i0:wr.cell? ⟨gI,16,none⟩=some (.int .i64 0):=hi.cell 16
   have i1:wr.cell? ⟨gI,17,none⟩=some (.int .i64 2):=hi.cell 17
   have i2:wr.cell? ⟨gI,18,none⟩=some (.int .i64 0):=hi.cell 18
   have i3:wr.cell? ⟨gI,19,none⟩=some (.int .i64 1):=hi.cell 19
   have i4:wr.cell? ⟨gI,20,none⟩=some (.int .i64 1):=hi.cell 20
   have i5:wr.cell? ⟨gI,21,none⟩=some (.int .i64 0):=hi.cell 21
   have i6:wr.cell? ⟨gI,22,none⟩=some (.int .i64 0):=hi.cell 22
   have i7:wr.cell? ⟨gI,23,none⟩=some (.slice (some ⟨g2,0,none⟩) 1 1):=hi.cell 23
   have lI:=hi.lt
   have HBK:=Lib.hid (block_at HS.out.st exK (fun z hz=>by simp [exK] at hz;subst hz;omega) (some ⟨g2,0,none⟩) 1 (Nat.le_refl _) (by decide) (ex_sl (HS.out.st.pick 1 rfl)) (no:Int) false)
   have HNO:=Lib.hid hlt
   have k1:(no:Int) < 4:=by omega
   rw [show exK.val (some ⟨g2,0,none⟩) 1=.agg #[.int .i64 0,.int .i64 2,.int .i64 0,.int .i64 1,.int .i64 1,.int .i64 0,.int .i64 0,.slice (some ⟨g2,0,none⟩) 1 1] from rfl] at HBK
   clear hz hi
   go_wp2_with (fail)
   refine HBK.out.mono ?_
   rintro e w5 ⟨D,rfl,h5⟩
   have HLD:=Lib.hid (load_u (HS.out.move h5.swap) (gives_row (bs:=blockL exK no false) (blockL_len _ _ _) (by rw [List.take_of_length_le (by simp [u8s,blockL_len])])) (by rw [blockL_is exK_right (by rw [exK_len];omega)];exact blkB_byt (sealed_byt _ (head_byt exK (fun z hz=>by simp [exK] at hz;subst hz;omega))) no) 0 5 (no:Int) (c:=16))
   rw [wk_load HNO.out,←HSS.out] at HLD
   clear h5 z5 lZ i0 i1 i2 i3 i4 i5 i6 i7 lI HBK
   go_wp2_with (fail)
   refine HLD.out.mono ?_
   rintro e w6 ⟨rfl,m6,xs6,hs⟩
   have H6:=Lib.hid (hs.move ((hs.st.pick 1 rfl).drop))
   clear hs HLD
   dsimp only
   go_wp2_with (fail)
   go_roundw
   case rel=>exact ⟨no+1,m6,xs6,by omega,by go_num,H6.out⟩
   case measure=>simp [intOf];omega
  ·have hn4:no=4:=by omega
   subst hn4
   have HSL:=Lib.hid (seal_u HS.out 0 5)
   rw [wk_seal,←HSS.out] at HSL
   have k1:¬((4:Nat):Int) < 4:=by omega
   clear HS
   go_wp2_with (fail)
   refine HSL.out.mono ?_
   rintro e w5 ⟨rfl,m5,xs5,hs⟩
   have H5:=Lib.hid hs
   clear hs HSL
   dsimp only
   obtain ⟨Q,hQ⟩:∃Q,Q=w5.heap.size:=⟨_,rfl⟩
   obtain ⟨w6,hw6⟩:∃v,v=w5.alloc (.cells #[.int .i64 2,.int .i64 2,.int .i64 1,.int .i64 1] 3):=⟨_,rfl⟩
   have h6:=H5.out.st.new 3 #[.int .i64 2,.int .i64 2,.int .i64 1,.int .i64 1]
   rw [←hQ,←hw6] at h6
   have H6:=Lib.hid (H5.out.move h6.swap)
   have HQ:=Lib.hid hQ;have HW6:=Lib.hid hw6
   clear h6 hQ hw6 H5
   go_upto_region 14 with fail
   rw [←HW6.out,←HQ.out]
   clear k1
   go_loopw [43] (fun x wr=>∃(n:Nat) (m:DS) (xs:List PP),n≤4∧x=.int .i64 (n:Int)∧StoU w wr ad exT d m xs (wkD (wkR n) (loadS 5 exK.bytes 4)) (row Q 3 [.int .i64 2,.int .i64 2,.int .i64 1,.int .i64 1]::exB gP gW gI g2::R::[row Z 49 [.int .i64 4,.slice (some ⟨gP,0,none⟩) 2 2,.slice (some ⟨gW,0,none⟩) 1 1,.slice none 0 0,.int .i64 2,.slice (some ⟨gI,0,none⟩) 3 3]])) (fun x _=>4-(intOf x).toNat)
   case atStart=>exact ⟨0,_,_,by omega,rfl,H6.out⟩
   case round =>
    obtain ⟨n,m,xs,hn,rfl,hs⟩:=hrel
    have HS:=Lib.hid hs
    clear H6 hs
    by_cases hlt2:n < 4
    ·have hq:=(HS.out.st.pick 1 rfl).row.1
     obtain ⟨vv,hvv⟩:∃v:Int,v=if n < 2 then 2 else 1:=⟨_,rfl⟩
     have cq:wr.cell? ⟨Q,n,none⟩=some (.int .i64 vv):=by
      rw [hvv]
      rcases (by omega:n=0∨n=1∨n=2∨n=3) with rfl|rfl|rfl|rfl
      ·exact hq.cell 0
      ·exact hq.cell 1
      ·exact hq.cell 2
      ·exact hq.cell 3
     have lQ:=hq.lt
     obtain ⟨ki,hki⟩:∃i:Img,i=if n < 2 then exK else exI:=⟨_,rfl⟩
     have HVV:=Lib.hid (show ki.version=vv by rw [hki,hvv];split<;>rfl)
     have HBT:=Lib.hid (boot_u HS.out 0)
     rw [wk_boot n hlt2,←HSS.out,←hki] at HBT
     have k1:(n:Int) < 4:=by omega
     have k0:(0:Int)≤(n:Int):=by omega
     clear hq hvv hki
     go_wp2_with (fail)
     refine HBT.out.mono ?_
     rintro e w7 ⟨KA,Kc,rfl,m7,xs7,hs⟩
     have H7:=Lib.hid (hs.move ((hs.st.pick 1 rfl).drop))
     dsimp only
     simp only [Img.val]
     rw [HVV.out]
     generalize ki.part=j0,ki.hard=j2,ki.mem=j3,ki.fuel=j4,ki.sends=j5,ki.receives=j6,ki.code.length=j7
     obtain ⟨I,hI⟩:∃I,I=w7.heap.size:=⟨_,rfl⟩
     obtain ⟨w8,hw8⟩:∃v,v=w7.alloc (.cells #[.int .i64 j0,.int .i64 vv,.int .i64 j2,.int .i64 j3,.int .i64 j4,.int .i64 j5,.int .i64 j6,.slice KA j7 Kc] 26):=⟨_,rfl⟩
     have h8:=H7.out.st.new 26 #[.int .i64 j0,.int .i64 vv,.int .i64 j2,.int .i64 j3,.int .i64 j4,.int .i64 j5,.int .i64 j6,.slice KA j7 Kc]
     rw [←hI,←hw8] at h8
     have c1:w8.cell? ⟨I,1,none⟩=some (.int .i64 vv):=h8.row.1.cell 1
     have lI:=h8.row.1.lt
     have H8:=Lib.hid (H7.out.move h8.drop)
     have HI:=Lib.hid hI;have HW8:=Lib.hid hw8
     clear hs h8 hI hw8 HBT cq lQ
     go_upto_region 17 with fail
     rw [←HW8.out,←HI.out]
     go_wp2_with (fail)
     go_roundw
     case rel=>exact ⟨n+1,m7,xs7,by omega,by go_num,H8.out⟩
     case measure=>simp [intOf];omega
    ·have hn4:n=4:=by omega
     subst hn4
     have HRC:=Lib.hid (record_u HS.out 0)
     have HB:=Lib.hid HS.out.st.bel
     have r5:=rfld5 (dRec (wkD (wkR 4) (loadS 5 exK.bytes 4)) 0)
     rw [show (dRec (wkD (wkR 4) (loadS 5 exK.bytes 4)) 0).bad=2 from rfl] at r5
     rw [←HSS.out] at HRC
     generalize (dRec (wkD (wkR 4) (loadS 5 exK.bytes 4)) 0).val=rv at *
     have k1:¬((4:Nat):Int) < 4:=by omega
     clear HS
     go_wp2_with (fail)
     refine HRC.out.mono ?_
     rintro e w7 ⟨rfl,hb⟩
     have HB7:=Lib.hid (HB.out.trans (hb.mono HB.out.size))
     clear hb
     go_wp2_with (fail)
     go_ret
     exact ⟨rfl,HB7.out⟩
end store
namespace store


open Go.RowKit Go.Deep base obj mem sep plan disk record commit stage image tab compat chain crc
def sameB (i j:Img):Bool:=decide (i.part=j.part∧i.version=j.version∧i.hard=j.hard∧i.mem=j.mem∧i.fuel=j.fuel∧i.sends=j.sends∧i.receives=j.receives∧i.code=j.code)
theorem sameB_iff {i j:Img}:sameB i j=true ↔ i=j:=by
 obtain ⟨i0,i1,i2,i3,i4,i5,i6,ic⟩:=i
 obtain ⟨j0,j1,j2,j3,j4,j5,j6,jc⟩:=j
 simp only [sameB,decide_eq_true_eq,Img.mk.injEq]
theorem rsame_at (w:World) (i j:Img) (A A':Option Addr) (c c':Nat) (hs:Sl w w.heap.size 1 A i.code.length (u8s i.code)) (ht:Sl w w.heap.size 1 A' j.code.length (u8s j.code)) (hi:i.code.length≤1000000) (hj:j.code.length≤1000000) :
  Calls Tryz.prog 66 #[i.val A c,j.val A' c'] w fun e w'=>e=.returned (.bool (sameB i j))∧Below w.heap.size w w':=by
 obtain ⟨i0,i1,i2,i3,i4,i5,i6,ic⟩:=i
 obtain ⟨j0,j1,j2,j3,j4,j5,j6,jc⟩:=j
 simp only at hs ht hi hj
 simp only [Img.val,sameB]
 have hb:Below w.heap.size w ((w.alloc (.cells #[.int .i64 i0,.int .i64 i1,.int .i64 i2,.int .i64 i3,.int .i64 i4,.int .i64 i5,.int .i64 i6,.slice A ic.length c] 26)).alloc (.cells #[.int .i64 j0,.int .i64 j1,.int .i64 j2,.int .i64 j3,.int .i64 j4,.int .i64 j5,.int .i64 j6,.slice A' jc.length c'] 26)):=((Below.refl _ w).alloc (Nat.le_refl _) _).alloc (by simp) _
 have HB:=Lib.hid hb
 have HSM:=Lib.hid (same.same_any ic jc A A' ic.length jc.length c c' _ rfl rfl hi hj ((hs.below hb).more hb.size) ((ht.below hb).more hb.size))
 clear hb hs ht hi hj
 by_cases h0:i0=j0
 case neg =>
  have e0:(i0==j0)=false:=by simpa using h0
  have hd:decide (i0=j0∧i1=j1∧i2=j2∧i3=j3∧i4=j4∧i5=j5∧i6=j6∧ic=jc)=false:=by simp [h0]
  rw [hd]
  clear hd h0 HSM
  generalize ic.length=ni,jc.length=nj at *
  go_enter Tryz.func66,Tryz.ntmps66
  go_wp2_with (fail)
  go_ret
  exact ⟨rfl,HB.out⟩
 case pos =>
  subst h0
  by_cases h1:i1=j1
  case neg =>
   have e1:(i1==j1)=false:=by simpa using h1
   have hd:decide (i0=i0∧i1=j1∧i2=j2∧i3=j3∧i4=j4∧i5=j5∧i6=j6∧ic=jc)=false:=by simp [h1]
   rw [hd]
   clear hd h1 HSM
   generalize ic.length=ni,jc.length=nj at *
   go_enter Tryz.func66,Tryz.ntmps66
   go_wp2_with (fail)
   go_ret
   exact ⟨rfl,HB.out⟩
  case pos =>
   subst h1
   by_cases h2:i2=j2
   case neg =>
    have e2:(i2==j2)=false:=by simpa using h2
    have hd:decide (i0=i0∧i1=i1∧i2=j2∧i3=j3∧i4=j4∧i5=j5∧i6=j6∧ic=jc)=false:=by simp [h2]
    rw [hd]
    clear hd h2 HSM
    generalize ic.length=ni,jc.length=nj at *
    go_enter Tryz.func66,Tryz.ntmps66
    go_wp2_with (fail)
    go_ret
    exact ⟨rfl,HB.out⟩
   case pos =>
    subst h2
    by_cases h3:i3=j3
    case neg =>
     have e3:(i3==j3)=false:=by simpa using h3
     have hd:decide (i0=i0∧i1=i1∧i2=i2∧i3=j3∧i4=j4∧i5=j5∧i6=j6∧ic=jc)=false:=by simp [h3]
     rw [hd]
     clear hd h3 HSM
     generalize ic.length=ni,jc.length=nj at *
     go_enter Tryz.func66,Tryz.ntmps66
     go_wp2_with (fail)
     go_ret
     exact ⟨rfl,HB.out⟩
    case pos =>
     subst h3
     by_cases h4:i4=j4
     case neg =>
      have e4:(i4==j4)=false:=by simpa using h4
      have hd:decide (i0=i0∧i1=i1∧i2=i2∧i3=i3∧i4=j4∧i5=j5∧i6=j6∧ic=jc)=false:=by simp [h4]
      rw [hd]
      clear hd h4 HSM
      generalize ic.length=ni,jc.length=nj at *
      go_enter Tryz.func66,Tryz.ntmps66
      go_wp2_with (fail)
      go_ret
      exact ⟨rfl,HB.out⟩
     case pos =>
      subst h4
      by_cases h5:i5=j5
      case neg =>
       have e5:(i5==j5)=false:=by simpa using h5
       have hd:decide (i0=i0∧i1=i1∧i2=i2∧i3=i3∧i4=i4∧i5=j5∧i6=j6∧ic=jc)=false:=by simp [h5]
       rw [hd]
       clear hd h5 HSM
       generalize ic.length=ni,jc.length=nj at *
       go_enter Tryz.func66,Tryz.ntmps66
       go_wp2_with (fail)
       go_ret
       exact ⟨rfl,HB.out⟩
      case pos =>
       subst h5
       by_cases h6:i6=j6
       case neg =>
        have e6:(i6==j6)=false:=by simpa using h6
        have hd:decide (i0=i0∧i1=i1∧i2=i2∧i3=i3∧i4=i4∧i5=i5∧i6=j6∧ic=jc)=false:=by simp [h6]
        rw [hd]
        clear hd h6 HSM
        generalize ic.length=ni,jc.length=nj at *
        go_enter Tryz.func66,Tryz.ntmps66
        go_wp2_with (fail)
        go_ret
        exact ⟨rfl,HB.out⟩
       case pos =>
        subst h6
        have hd:decide (i0=i0∧i1=i1∧i2=i2∧i3=i3∧i4=i4∧i5=i5∧i6=i6∧ic=jc)=decide (ic=jc):=by simp
        rw [hd]
        clear hd
        generalize ic.length=ni,jc.length=nj at *
        go_enter Tryz.func66,Tryz.ntmps66
        go_wp2_with (fail)
        refine HSM.out.mono ?_
        rintro e w2 ⟨rfl,hb⟩
        have HB2:=Lib.hid (HB.out.trans (hb.mono HB.out.size))
        clear hb
        go_wp2_with (fail)
        go_ret
        exact ⟨rfl,HB2.out⟩
structure RAt (w:World) (X:Nat) (n p:Nat) (y:RPA×RP) (b off c bS oS cS bI oI cI:Nat):Prop where
 x5:w.cell? ⟨X,5,none⟩=some (.slice (some ⟨b,off,none⟩) n c)
 lX:X < w.heap.size
 lb:b < w.heap.size
 row:∀j u,j < 8→(rownRow y)[j]?=some u→w.cell? ⟨b,off+p*8+j,none⟩=some u
 eS:y.1.vS=.slice (some ⟨bS,oS,none⟩) 2 cS
 lS:bS < w.heap.size
 slots:∀j u,(rcells y.2.s0 y.1.v0++rcells y.2.s1 y.1.v1)[j]?=some u→w.cell? ⟨bS,oS+j,none⟩=some u
 eI:y.1.vI=.slice (some ⟨bI,oI,none⟩) 2 cI
 lI:bI < w.heap.size
 imgs:∀j u,(Img.row y.2.i0 y.1.K0++Img.row y.2.i1 y.1.K1)[j]?=some u→w.cell? ⟨bI,oI+j,none⟩=some u
theorem rstr_at {w0 w:World} {l:List Asn} {X:Nat} {tv:List Value} {v:Value} {P:List (Nat×List Value)} {ys:List (RPA×RP)} (h:St w0 w (rstr X tv v P ys::l)) (htv:tv.length=5) {p:Nat} (hp:p < ys.length) :
  ∃b off c bS oS cS bI oI cI,RAt w X ys.length p ys[p] b off c bS oS cS bI oI cI:=by
 have h1:=rstr_open h
 have hX:=h1.row.1
 have hO:=(h1.pick 1 rfl).own
 obtain ⟨A,c,hv,_,_⟩:=own_form hO
 rw [hv] at hO
 have hsl:=Sl.of_own hO
 obtain ⟨b,off,rfl,hbl,hcc⟩:=hsl.2 (by omega)
 have h9:∀x∈ys.map rownRow,x.length=8:=by
  intro x hx
  obtain ⟨a,_,rfl⟩:=List.mem_map.1 hx
  rfl
 have hpart:St w0 w (rpartA P ys[p].1 ys[p].2::_):=(h1.pick 3 rfl).lpick (k:=p) (by simp [hp])
 have h2:=hpart.unlst
 simp only [List.cons_append,List.nil_append] at h2
 have hS:=(h2.pick 1 rfl).own
 obtain ⟨AS,cS,hvS,_,_⟩:=own_form hS
 rw [hvS] at hS
 obtain ⟨bS,oS,rfl,lS,hcS⟩:=(Sl.of_own hS).2 (by omega)
 have hI:=(h2.pick 4 rfl).own
 obtain ⟨AI,cI,hvI,_,_⟩:=own_form hI
 rw [hvI] at hI
 obtain ⟨bI,oI,rfl,lI,hcI⟩:=(Sl.of_own hI).2 (by omega)
 refine ⟨b,off,c,bS,oS,cS,bI,oI,cI,?_,hX.lt,hbl,?_,hvS,lS,hcS,hvI,lI,hcI⟩
 ·rw [hX.cell 5,List.getElem?_append_right (by omega),htv,hv]
  rfl
 ·intro j u hj hu
  have e:=flat_elem h9 (i:=p) (by simpa using hp)
  rw [Nat.add_assoc]
  refine hcc _ _ ?_
  have e2:(((ys.map rownRow).flatten.drop (p*8)).take 8)[j]?=(ys.map rownRow).flatten[p*8+j]?:=by
   rw [List.getElem?_take,if_pos hj,List.getElem?_drop]
  rw [e] at e2
  show (rowns ys)[p*8+j]?=some u
  unfold rowns
  rw [←e2]
  simpa using hu
end store
namespace store


open Go.RowKit Go.Deep base obj mem sep plan disk record commit stage image tab compat chain crc
def RP.img (x:RP) (k:Int):Img:=if k=0 then x.i0 else x.i1
def RPA.K (a:RPA) (k:Int):Option Addr×Nat:=if k=0 then a.K0 else a.K1
theorem rimage_at {w:World} {X n p:Nat} {y:RPA×RP} {b off c bS oS cS bI oI cI:Nat} (h:RAt w X n p y b off c bS oS cS bI oI cI) (hp:p < n) (hk:y.2.rec_.active=0∨y.2.rec_.active=1) :
  Calls Tryz.prog 67 #[.pointer (some ⟨X,0,none⟩),.int .i64 p] w fun e w'=>e=.returned ((y.2.img y.2.rec_.active).val (y.1.K y.2.rec_.active).1 (y.1.K y.2.rec_.active).2)∧Below w.heap.size w w':=by
 obtain ⟨k,hk0,hk2⟩:∃k:Nat,y.2.rec_.active=k∧k < 2:=⟨y.2.rec_.active.toNat,by omega,by omega⟩
 obtain ⟨j,hj⟩:∃j,j=y.2.img y.2.rec_.active:=⟨_,rfl⟩
 obtain ⟨KK,hKK⟩:∃q,q=y.1.K y.2.rec_.active:=⟨_,rfl⟩
 have hcell:∀m u,m < 8→(Img.row j KK)[m]?=some u→w.cell? ⟨bI,oI+k*8+m,none⟩=some u:=fun m u hm hu=>by
  rw [Nat.add_assoc]
  refine h.imgs _ _ ?_
  rcases (by omega:k=0∨k=1) with rfl|rfl
  ·rw [List.getElem?_append_left (by show 0*8+m < 8;omega),Nat.zero_mul,Nat.zero_add]
   rw [hj,hKK,hk0] at hu
   exact hu
  ·rw [List.getElem?_append_right (by show 8≤1*8+m;omega),show 1*8+m-(Img.row y.2.i0 y.1.K0).length=m by show 1*8+m-8=m;omega]
   rw [hj,hKK,hk0] at hu
   exact hu
 have c0:w.cell? ⟨bI,oI+k*8,none⟩=some (.int .i64 j.part):=hcell 0 _ (by omega) rfl
 have c1:w.cell? ⟨bI,oI+k*8+1,none⟩=some (.int .i64 j.version):=hcell 1 _ (by omega) rfl
 have c2:w.cell? ⟨bI,oI+k*8+2,none⟩=some (.int .i64 j.hard):=hcell 2 _ (by omega) rfl
 have c3:w.cell? ⟨bI,oI+k*8+3,none⟩=some (.int .i64 j.mem):=hcell 3 _ (by omega) rfl
 have c4:w.cell? ⟨bI,oI+k*8+4,none⟩=some (.int .i64 j.fuel):=hcell 4 _ (by omega) rfl
 have c5:w.cell? ⟨bI,oI+k*8+5,none⟩=some (.int .i64 j.sends):=hcell 5 _ (by omega) rfl
 have c6:w.cell? ⟨bI,oI+k*8+6,none⟩=some (.int .i64 j.receives):=hcell 6 _ (by omega) rfl
 have c7:w.cell? ⟨bI,oI+k*8+7,none⟩=some (.slice KK.1 j.code.length KK.2):=hcell 7 _ (by omega) rfl
 have x5:=h.x5;have lX:=h.lX;have lb:=h.lb;have lI:=h.lI
 have r2:w.cell? ⟨b,off+p*8+2,none⟩=some (.int .i64 k):=h.row 2 _ (by omega) (by rw [←hk0];rfl)
 have r7:w.cell? ⟨b,off+p*8+7,none⟩=some (.slice (some ⟨bI,oI,none⟩) 2 cI):=h.row 7 _ (by omega) (by rw [←h.eI];rfl)
 rw [←hj,←hKK]
 simp only [Img.val]
 generalize j.part=j0,j.version=j1,j.hard=j2,j.mem=j3,j.fuel=j4,j.sends=j5,j.receives=j6,j.code.length=j7 at *
 generalize KK.1=KA,KK.2=Kc at *
 have p0:(0:Int)≤(p:Int):=by omega
 have p1:(p:Int) < (n:Int):=by omega
 have q0:(0:Int)≤(k:Int):=by omega
 have q1:(k:Int) < 2:=by omega
 have hbel:∀v,Below w.heap.size w (w.alloc v):=fun v=>(Below.refl _ w).alloc (Nat.le_refl _) v
 obtain ⟨w1,hw1⟩:∃v,v=w.alloc (.cells #[.int .i64 0,.int .i64 0,.int .i64 0,.int .i64 0,.int .i64 0,.int .i64 0,.int .i64 0,.slice none 0 0] 26):=⟨_,rfl⟩
 have HB:=Lib.hid (show Below w.heap.size w w1.drew by rw [hw1];exact (hbel _).drew)
 have HR:=Lib.hid (show Row w1.drew w.heap.size 26 [.int .i64 0,.int .i64 0,.int .i64 0,.int .i64 0,.int .i64 0,.int .i64 0,.int .i64 0,.slice none 0 0] by rw [hw1];exact (Row.new w _ _).drew)
 have hsz:=HB.out.size
 clear hj hKK hcell hk0 hk h hbel
 have MS:=Lib.hid (show (Tryz.prog.info? 26).map (·.size)=some (#[Value.int .i64 j0,.int .i64 j1,.int .i64 j2,.int .i64 j3,.int .i64 j4,.int .i64 j5,.int .i64 j6,.slice KA j7 Kc]:Array Value).size from by kernel_rfl)
 have y0:w1.drew.cell? ⟨bI,oI+k*8,none⟩=some (.int .i64 j0):=(HB.out.cell lI).trans c0
 have y1:w1.drew.cell? ⟨bI,oI+k*8+1,none⟩=some (.int .i64 j1):=(HB.out.cell lI).trans c1
 have y2:w1.drew.cell? ⟨bI,oI+k*8+2,none⟩=some (.int .i64 j2):=(HB.out.cell lI).trans c2
 have y3:w1.drew.cell? ⟨bI,oI+k*8+3,none⟩=some (.int .i64 j3):=(HB.out.cell lI).trans c3
 have y4:w1.drew.cell? ⟨bI,oI+k*8+4,none⟩=some (.int .i64 j4):=(HB.out.cell lI).trans c4
 have y5:w1.drew.cell? ⟨bI,oI+k*8+5,none⟩=some (.int .i64 j5):=(HB.out.cell lI).trans c5
 have y6:w1.drew.cell? ⟨bI,oI+k*8+6,none⟩=some (.int .i64 j6):=(HB.out.cell lI).trans c6
 have y7:w1.drew.cell? ⟨bI,oI+k*8+7,none⟩=some (.slice KA j7 Kc):=(HB.out.cell lI).trans c7
 have z5:w1.drew.cell? ⟨X,5,none⟩=some (.slice (some ⟨b,off,none⟩) n c):=(HB.out.cell lX).trans x5
 have s2:w1.drew.cell? ⟨b,off+p*8+2,none⟩=some (.int .i64 k):=(HB.out.cell lb).trans r2
 have s7:w1.drew.cell? ⟨b,off+p*8+7,none⟩=some (.slice (some ⟨bI,oI,none⟩) 2 cI):=(HB.out.cell lb).trans r7
 have mX:X < w1.drew.heap.size:=Nat.lt_of_lt_of_le lX hsz
 have mb:b < w1.drew.heap.size:=Nat.lt_of_lt_of_le lb hsz
 have mI:bI < w1.drew.heap.size:=Nat.lt_of_lt_of_le lI hsz
 clear c0 c1 c2 c3 c4 c5 c6 c7 x5 lX lb lI r2 r7 hsz
 have HST:=Lib.hid (show St w w1.drew [row w.heap.size 26 [.int .i64 0,.int .i64 0,.int .i64 0,.int .i64 0,.int .i64 0,.int .i64 0,.int .i64 0,.slice none 0 0]] by rw [hw1];exact ((St.nil w).new 26 #[.int .i64 0,.int .i64 0,.int .i64 0,.int .i64 0,.int .i64 0,.int .i64 0,.int .i64 0,.slice none 0 0]).drew)
 have HW1:=Lib.hid hw1
 clear hw1
 go_enter Tryz.func67,Tryz.ntmps67
 go_upto_region 1 with fail
 rw [←HW1.out]
 refine segs_start (by kernel_rfl) ?_
 (refine segs_take [0,1,2,3,4,5,6,7,8,9,10,11,12,13,14,15,16,17,18] (by kernel_rfl) (fun _ _ _ _ _ h=>h) ?_;simp only [pick,xGs,xGz,xGo];(iterate 19 still_step);refine wpStill_nil ?_)
 (try simp only [xGs,xGz,xGo,Act.put,xSi,xSz,xSs])
 (refine segs_one 19 (by kernel_rfl) (by rfl) ?_;(try simp only [xGs,xGz,xGo]))
 refine sha.wp_putR 26 (.tmp 4) (.tmp 23) rfl w.heap.size 0 #[.int .i64 j0,.int .i64 j1,.int .i64 j2,.int .i64 j3,.int .i64 j4,.int .i64 j5,.int .i64 j6,.slice KA j7 Kc] rfl rfl HR.out MS.out (by simp) (by simp [Value.oneCell']) [.int .i64 j0,.int .i64 j1,.int .i64 j2,.int .i64 j3,.int .i64 j4,.int .i64 j5,.int .i64 j6,.slice KA j7 Kc] rfl ?_
 have hset:=HST.out.setRow [.int .i64 j0,.int .i64 j1,.int .i64 j2,.int .i64 j3,.int .i64 j4,.int .i64 j5,.int .i64 j6,.slice KA j7 Kc]
 have HB3:=Lib.hid hset.bel
 have HR3:=Lib.hid hset.row.1
 clear hset
 (try simp only [xGs,xGz,xGo,Act.put,xSi,xSz,xSs])
 refine segs_end (by kernel_rfl) ?_
 go_wp2_with (fail)
 refine bodyPost_ret (results_cell_row rfl _ _ w.heap.size _ _ _ _ rfl HR3.out Tryz.underlying26 rfl (by kernel_rfl)) rfl ?_
 exact ⟨rfl,HB3.out⟩
end store
end Go.Proofs.YtdldkkoplgkloaaGreat
