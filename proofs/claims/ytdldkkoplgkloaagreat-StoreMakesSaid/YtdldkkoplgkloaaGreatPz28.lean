/-
  PROVED HERE: lemmas and contracts that the law's proof leans on (texts put together: StoreOps, StoreHold, StoreHolds).
  CONDITIONS: each names its own.
-/
import Derived.Test.YtdldkkoplgkloaaGreatPz13
import Derived.Test.YtdldkkoplgkloaaGreatPz27
namespace Go.Proofs.YtdldkkoplgkloaaGreat
set_option linter.unusedVariables false
set_option linter.unusedSimpArgs false
set_option maxRecDepth 100000
set_option maxHeartbeats 32000000
namespace store


open Go.RowKit Go.Deep base obj mem sep plan disk record commit stage image tab compat
structure PPOk (x:PP):Prop where
 act:x.log.now.active=0∨x.log.now.active=1
 conf:x.log.now.confirmed=0∨x.log.now.confirmed=1
 held:x.log.held=0∨x.log.held=1
 seq:0≤x.log.now.seq
 left:0≤x.log.now.left∧x.log.now.left≤7
 r0:x.s0.has=true→x.s0.st.right=true
 r1:x.s1.has=true→x.s1.st.right=true
theorem PPOk.sp {x:PP} (h:PPOk x):x.sp=0∨x.sp=1:=by have:=h.conf;unfold PP.sp;omega
theorem PPOk.rk {x:PP} (h:PPOk x) (k:Int):(x.slot k).has=true→(x.slot k).st.right=true:=by
 unfold PP.slot
 split
 ·exact h.r0
 ·exact h.r1
structure SOk (t:Tab) (m:DS) (xs:List PP):Prop where
 right:t.right=true
 len:xs.length=t.parts.length
 bts:m.Bts
 good:m.Good
 room:10*xs.length≤m.secs.length
 few:m.waits.length≤700
 ok:∀x∈xs,PPOk x
theorem SOk.at_ {t:Tab} {m:DS} {xs:List PP} (h:SOk t m xs) {p:Nat} (hp:p < xs.length):PPOk (xs.getD p default):=h.ok _ (by simp [hp])
theorem SOk.n4 {t:Tab} {m:DS} {xs:List PP} (h:SOk t m xs):2≤xs.length∧xs.length≤4:=by rw [h.len];exact (Tab.r h.right).np
theorem SOk.pl {t:Tab} {m:DS} {xs:List PP} (h:SOk t m xs) {p:Nat} (hp:p < xs.length) {k:Int} (hk:k=0∨k=1):Pl m p k:=by
 have:=h.n4;have:=h.room
 exact ⟨h.good,h.bts,by omega,by omega,by omega,by omega,by unfold dAt;omega⟩
section
variable {w0 w : World} {l : List Asn}
theorem str_row {ad:StAd} {t:Tab} {d:Nat} {m:DS} {xs:List PP} (h:St w0 w (strA ad t d m xs::l)):Row w ad.S 114 (stRow ad t xs.length)∧Sl w w.heap.size 1 ad.AL xs.length (ptrs ad.al)∧ad.al.length=xs.length:=by
 have h1:=h.unlst
 simp only [strH,List.cons_append,List.nil_append] at h1
 exact ⟨h1.row.1,Sl.of_own (h1.pick 1 rfl).own,(h1.pick 5 rfl).fact⟩
def vwS (ad:StAd) (t:Tab) (d:Nat) (n p:Nat) (a:PAd) (x:PP) (k:Int) (rest:List Asn):List Asn :=
 [row a.O 102 (ownRow a),log a.L d p x.log.held x.log.now,(if k=0 then slt a.S1 d p 1 x.s1 else slt a.S0 d p 0 x.s0),row ad.S 114 (stRow ad t n),own 94 1 (.slice ad.AL n ad.cL) n (ptrs ad.al),tbl ad.tab t]++rest
def vwL (ad:StAd) (t:Tab) (d:Nat) (n p:Nat) (a:PAd) (x:PP) (rest:List Asn):List Asn :=
 [row a.O 102 (ownRow a),slt a.S0 d p 0 x.s0,slt a.S1 d p 1 x.s1,row ad.S 114 (stRow ad t n),own 94 1 (.slice ad.AL n ad.cL) n (ptrs ad.al),tbl ad.tab t]++rest
theorem vw_slot {ad:StAd} {t:Tab} {d:Nat} {m:DS} {n p:Nat} {a:PAd} {x:PP} {rest:List Asn} {k:Int} (hk:k=0∨k=1) (h:St w0 w (vw ad t d m n p a x rest)) :
  St w0 w (slt (a.slot k) d p k (x.slot k)::dsk d m::vwS ad t d n p a x k rest):=by
 rcases hk with rfl|rfl
 ·exact ((((((((h.pick 6 rfl).pick 6 rfl).pick 6 rfl).pick 6 rfl).pick 5 rfl).pick 5 rfl).pick 7 rfl).pick 7 rfl)
 ·exact ((((((((h.pick 6 rfl).pick 6 rfl).pick 6 rfl).pick 5 rfl).pick 5 rfl).pick 5 rfl).pick 7 rfl).pick 7 rfl)
theorem vw_slot' {ad:StAd} {t:Tab} {d:Nat} {m:DS} {n p:Nat} {a:PAd} {x:PP} {rest:List Asn} {k:Int} (hk:k=0∨k=1) {s:SlS} (h:St w0 w (slt (a.slot k) d p k s::dsk d m::vwS ad t d n p a x k rest)) :
  St w0 w (vw ad t d m n p a (x.setSlot k s) rest):=by
 rcases hk with rfl|rfl
 ·exact ((((((((h.pick 1 rfl).pick 7 rfl).pick 7 rfl).pick 7 rfl).pick 7 rfl).pick 5 rfl).pick 7 rfl).pick 7 rfl)
 ·exact ((((((((h.pick 1 rfl).pick 7 rfl).pick 7 rfl).pick 7 rfl).pick 4 rfl).pick 7 rfl).pick 7 rfl).pick 7 rfl)
theorem vw_log {ad:StAd} {t:Tab} {d:Nat} {m:DS} {n p:Nat} {a:PAd} {x:PP} {rest:List Asn} (h:St w0 w (vw ad t d m n p a x rest)) :
  St w0 w (log a.L d p x.log.held x.log.now::dsk d m::vwL ad t d n p a x rest):=((((((((h.pick 6 rfl).pick 6 rfl).pick 6 rfl).pick 6 rfl).pick 6 rfl).pick 5 rfl).pick 7 rfl).pick 7 rfl)
theorem vw_log' {ad:StAd} {t:Tab} {d:Nat} {m:DS} {n p:Nat} {a:PAd} {x:PP} {rest:List Asn} {y:LogS} (h:St w0 w (log a.L d p y.held y.now::dsk d m::vwL ad t d n p a x rest)) :
  St w0 w (vw ad t d m n p a ⟨y,x.s0,x.s1⟩ rest):=((((((((h.pick 1 rfl).pick 7 rfl).pick 7 rfl).pick 7 rfl).pick 7 rfl).pick 7 rfl).pick 6 rfl).pick 7 rfl)
theorem str_same {xs:List PP} {p:Nat} (hp:p < xs.length):xs.set p (xs.getD p default)=xs:=by simp [hp]
def spV (ad:StAd) (t:Tab) (d:Nat) (xs:List PP) (p:Nat) (s:SlS) (m:DS) (l:List Asn):List Asn :=
 slt ((ad.al.getD p default).slot (xs.getD p default).sp) d p (xs.getD p default).sp s::dsk d m::vwS ad t d xs.length p (ad.al.getD p default) (xs.getD p default) (xs.getD p default).sp (lst ((partsA d ad.al xs).eraseIdx p)::fact (ad.al.length=xs.length)::l)
theorem sp_open {ad:StAd} {t:Tab} {d:Nat} {m:DS} {xs:List PP} (h:St w0 w (strA ad t d m xs::l)) {p:Nat} (hp:p < xs.length) (hx:PPOk (xs.getD p default)) :
  St w0 w (spV ad t d xs p ((xs.getD p default).slot (xs.getD p default).sp) m l):=vw_slot hx.sp (str_open h hp)
theorem sp_shut {ad:StAd} {t:Tab} {d:Nat} {m:DS} {xs:List PP} {p:Nat} {s:SlS} (h:St w0 w (spV ad t d xs p s m l)) (hp:p < xs.length) (hx:PPOk (xs.getD p default)) :
  St w0 w (strA ad t d m (xs.set p ((xs.getD p default).setSlot (xs.getD p default).sp s))::l):=str_shut (m:=m) hp (vw_slot' hx.sp h)
def lgV (ad:StAd) (t:Tab) (d:Nat) (xs:List PP) (p:Nat) (y:LogS) (m:DS) (l:List Asn):List Asn :=
 log (ad.al.getD p default).L d p y.held y.now::dsk d m::vwL ad t d xs.length p (ad.al.getD p default) (xs.getD p default) (lst ((partsA d ad.al xs).eraseIdx p)::fact (ad.al.length=xs.length)::l)
theorem lg_open {ad:StAd} {t:Tab} {d:Nat} {m:DS} {xs:List PP} (h:St w0 w (strA ad t d m xs::l)) {p:Nat} (hp:p < xs.length):St w0 w (lgV ad t d xs p (xs.getD p default).log m l):=vw_log (str_open h hp)
theorem lg_shut {ad:StAd} {t:Tab} {d:Nat} {m:DS} {xs:List PP} {p:Nat} {y:LogS} (h:St w0 w (lgV ad t d xs p y m l)) (hp:p < xs.length) :
  St w0 w (strA ad t d m (xs.set p ⟨y,(xs.getD p default).s0,(xs.getD p default).s1⟩)::l):=str_shut (m:=m) hp (vw_log' h)
def sBegin (m:DS) (xs:List PP) (q se sz:Int):Int×DS×List PP :=
 if freeE xs q≠0 then (freeE xs q,m,xs)
 else
  let x:=xs.getD q.toNat default
  let r:=beginM m q x.sp (x.slot x.sp) se sz
  (r.1,r.2.1,xs.set q.toNat (x.setSlot x.sp r.2.2))
def sLoad (m:DS) (xs:List PP) (q se no:Int) (data:List Int):Int×DS×List PP :=
 if freeE xs q≠0 then (freeE xs q,m,xs)
 else
  let x:=xs.getD q.toNat default
  let r:=putM m q x.sp (x.slot x.sp) se no data
  (r.1,r.2.1,xs.set q.toNat (x.setSlot x.sp r.2.2))
def begunE (xs:List PP) (q se:Int):Int :=
 if freeE xs q≠0 then freeE xs q
 else
  let x:=xs.getD q.toNat default
  if (x.slot x.sp).has=false then 16 else if (x.slot x.sp).st.session≠se then 17 else 0
def sDrop (m:DS) (xs:List PP) (q se:Int):Int×DS×List PP :=
 if begunE xs q se≠0 then (begunE xs q se,m,xs)
 else
  let x:=xs.getD q.toNat default
  let r:=clearM m q x.sp (x.slot x.sp)
  (r.1,r.2.1,xs.set q.toNat (x.setSlot x.sp r.2.2))
theorem freeE_out {xs:List PP} {q:Int} (h:q < 0∨(xs.length:Int)≤q):freeE xs q=3:=if_pos h
theorem freeE_in {xs:List PP} {p:Nat} (hp:p < xs.length):freeE xs p=if (xs.getD p default).trial then 18 else 0:=by
 unfold freeE
 rw [if_neg (by omega),Int.toNat_natCast]
theorem str_trial {ad:StAd} {t:Tab} {d:Nat} {m:DS} {n p:Nat} {a:PAd} {x:PP} {rest:List Asn} (h:St w0 w (vw ad t d m n p a x rest)):Calls Tryz.prog 44 #[.pointer (some ⟨a.O,0,none⟩)] w fun e w'=>e=.returned (.bool x.trial)∧Below w.heap.size w w':=trial_at h
theorem str_spare {ad:StAd} {t:Tab} {d:Nat} {m:DS} {n p:Nat} {a:PAd} {x:PP} {rest:List Asn} (hx:PPOk x) (h:St w0 w (vw ad t d m n p a x rest)):Calls Tryz.prog 47 #[.pointer (some ⟨a.O,0,none⟩)] w fun e w'=>e=.returned (.pointer (some ⟨a.slot x.sp,0,none⟩))∧Below w.heap.size w w':=spare_at hx.conf h
theorem str_free {ad:StAd} {t:Tab} {d:Nat} {m:DS} {xs:List PP} (h:St w0 w (strA ad t d m xs::l)) (q:Int) :
  Calls Tryz.prog 49 #[.pointer (some ⟨ad.S,0,none⟩),.int .i64 q] w fun e w'=>(∃v,e=.returned (.tuple #[v,.int .i64 (freeE xs q)])∧(0≤q∧q < xs.length→v=.pointer (some ⟨(ad.al.getD q.toNat default).O,0,none⟩)))∧Below w.heap.size w w':=by
 obtain ⟨h1,h2,h3⟩:=str_row h
 by_cases hq:q < 0∨(xs.length:Int)≤q
 ·exact (free_no h1 q hq).mono fun e w' ⟨e1,e2⟩=>⟨⟨_,by rw [freeE_out hq];exact e1,fun h=>by omega⟩,by rw [e2];exact Below.refl _ _⟩
 ·obtain ⟨p,rfl⟩:∃p:Nat,q=p:=⟨q.toNat,by omega⟩
  have hp:p < xs.length:=by omega
  exact (free_at h1 h2 h3 p hp _ (str_trial (str_open h hp))).mono fun e w' ⟨e1,e2⟩=>⟨⟨_,by rw [freeE_in hp];exact e1,fun _=>by rw [Int.toNat_natCast]⟩,e2⟩
theorem freeE_zero {xs:List PP} {q:Int} (h:freeE xs q=0):0≤q∧q < xs.length:=by
 by_cases hq:q < 0∨(xs.length:Int)≤q
 ·rw [freeE_out hq] at h;omega
 ·omega
theorem begunE_free {xs:List PP} {q se:Int} (h:begunE xs q se=0):freeE xs q=0:=by
 unfold begunE at h
 by_cases h0:freeE xs q=0
 ·exact h0
 ·rw [if_pos h0] at h;exact h
theorem begin_str {ad:StAd} {t:Tab} {d:Nat} {m:DS} {xs:List PP} (h:St w0 w (strA ad t d m xs::l)) (ok:SOk t m xs) (q se sz:Int) :
  Calls Tryz.prog 14 #[.pointer (some ⟨ad.S,0,none⟩),.int .i64 q,.int .i64 se,.int .i64 sz] w fun e w'=>e=.returned (.int .i64 (sBegin m xs q se sz).1)∧St w0 w' (strA ad t d (sBegin m xs q se sz).2.1 (sBegin m xs q se sz).2.2::l):=by
 have HF:=Lib.hid (str_free h q)
 have H:=Lib.hid h
 by_cases hf:freeE xs q=0
 ·have hin:0≤q∧q < xs.length:=by
   have:=freeE_zero (xs:=xs) (q:=q) (by first|exact hf|exact begunE_free hf)
   exact this
  obtain ⟨p,rfl⟩:∃p:Nat,q=p:=⟨q.toNat,by omega⟩
  have hp:p < xs.length:=by omega
  have okx:=ok.at_ hp
  have HD:=Lib.hid (show sBegin m xs p se sz=((beginM m p (xs.getD p default).sp ((xs.getD p default).slot (xs.getD p default).sp) se sz).1,(beginM m p (xs.getD p default).sp ((xs.getD p default).slot (xs.getD p default).sp) se sz).2.1,xs.set p ((xs.getD p default).setSlot (xs.getD p default).sp (beginM m p (xs.getD p default).sp ((xs.getD p default).slot (xs.getD p default).sp) se sz).2.2)) by
   unfold sBegin
   rw [if_neg (by rw [hf];simp),Int.toNat_natCast])
  rw [hf] at HF
  have HIN:=Lib.hid hin
  have HSP:=Lib.hid (fun (w':World) (hb:Below w.heap.size w w')=>str_spare okx (str_open (H.out.below hb) hp))
  have HBG:=Lib.hid (fun (w':World) (hb:Below w.heap.size w w')=>(begin_at (sp_open (H.out.below hb) hp okx) (ok.pl hp okx.sp).pk (by have:=ok.few;omega) se sz).mono fun e w'' ⟨h1,h2⟩=>(And.intro h1 (sp_shut h2 hp okx):_∧_))
  obtain ⟨sd,hsd⟩:∃v,v=sBegin m xs p se sz:=⟨_,rfl⟩
  rw [←hsd] at HD ⊢
  generalize (xs.getD p default).slot (xs.getD p default).sp=sl at *
  generalize hbm:(beginM m p (xs.getD p default).sp sl se sz)=bm at *
  generalize (ad.al.getD p default).slot (xs.getD p default).sp=g at *
  clear h hf hsd hbm okx hin
  go_enter Tryz.func14,Tryz.ntmps14
  go_wp2_with (fail)
  refine HF.out.mono ?_
  rintro e w1 ⟨⟨v,rfl,hv⟩,hb⟩
  rw [hv HIN.out,Int.toNat_natCast]
  have HB:=Lib.hid hb
  clear hv hb
  go_wp2_with (fail)
  refine (HSP.out w1 HB.out).mono ?_
  rintro e w2 ⟨rfl,hb⟩
  have HB2:=Lib.hid (HB.out.trans (hb.mono HB.out.size))
  clear hb
  go_wp2_with (fail)
  refine (HBG.out w2 HB2.out).mono ?_
  rintro e w3 ⟨rfl,hst⟩
  have H3:=Lib.hid hst
  clear hst
  go_wp2_with (fail)
  go_ret
  rw [HD.out]
  exact ⟨rfl,H3.out⟩
 ·have HD:=Lib.hid (show sBegin m xs q se sz=(freeE xs q,m,xs) from if_pos hf)
  rw [HD.out]
  generalize freeE xs q=fe at *
  have hf2:(fe != 0)=true:=by simpa using hf
  clear h hf
  go_enter Tryz.func14,Tryz.ntmps14
  go_wp2_with (fail)
  refine HF.out.mono ?_
  rintro e w1 ⟨⟨v,rfl,hv⟩,hb⟩
  have HB:=Lib.hid hb
  clear hv hb
  go_wp2_with (fail)
  go_ret
  exact ⟨rfl,H.out.below HB.out⟩
theorem begun_str {ad:StAd} {t:Tab} {d:Nat} {m:DS} {xs:List PP} (h:St w0 w (strA ad t d m xs::l)) (ok:SOk t m xs) (q se:Int) :
  Calls Tryz.prog 52 #[.pointer (some ⟨ad.S,0,none⟩),.int .i64 q,.int .i64 se] w fun e w'=>(∃v,e=.returned (.tuple #[v,.int .i64 (begunE xs q se)])∧(0≤q∧q < xs.length→v=.pointer (some ⟨(ad.al.getD q.toNat default).O,0,none⟩)))∧Below w.heap.size w w':=by
 have HF:=Lib.hid (str_free h q)
 have H:=Lib.hid h
 by_cases hf:freeE xs q=0
 ·have hin:0≤q∧q < xs.length:=freeE_zero hf
  obtain ⟨p,rfl⟩:∃p:Nat,q=p:=⟨q.toNat,by omega⟩
  have hp:p < xs.length:=by omega
  have okx:=ok.at_ hp
  have HD:=Lib.hid (show begunE xs p se=if ((xs.getD p default).slot (xs.getD p default).sp).has=false then 16 else if ((xs.getD p default).slot (xs.getD p default).sp).st.session≠se then 17 else 0 by
   unfold begunE
   rw [if_neg (by rw [hf];simp),Int.toNat_natCast])
  rw [hf] at HF
  have HIN:=Lib.hid hin
  have HSP:=Lib.hid (fun (w':World) (hb:Below w.heap.size w w')=>str_spare okx (str_open (H.out.below hb) hp))
  have HSG:=Lib.hid (fun (w':World) (hb:Below w.heap.size w w')=>stage_at (sp_open (H.out.below hb) hp okx).row.1)
  obtain ⟨sd,hsd⟩:∃v,v=begunE xs p se:=⟨_,rfl⟩
  rw [←hsd] at HD ⊢
  generalize (xs.getD p default).slot (xs.getD p default).sp=sl at *
  generalize (ad.al.getD p default).slot (xs.getD p default).sp=g at *
  rw [Int.toNat_natCast] at HF ⊢
  generalize (ad.al.getD p default).O=O at *
  clear h hf hsd okx hin
  obtain ⟨has,⟨ses,siz,hav⟩⟩:=sl
  simp only at HD HSG
  cases has with
  | false =>
    have HSG2:=Lib.hid (show ∀(w':World),Below w.heap.size w w'→Calls Tryz.prog 48 #[.pointer (some ⟨g,0,none⟩)] w' fun e w''=>e=.returned (.tuple #[.agg #[.int .i64 0,.int .i64 0,.int .i64 0],.bool false])∧Below w'.heap.size w' w'' from HSG.out)
    go_enter Tryz.func52,Tryz.ntmps52
    go_wp2_with (fail)
    refine HF.out.mono ?_
    rintro e w1 ⟨⟨v,rfl,hv⟩,hb⟩
    rw [hv HIN.out]
    have HB:=Lib.hid hb
    clear hv hb
    go_wp2_with (fail)
    refine (HSP.out w1 HB.out).mono ?_
    rintro e w2 ⟨rfl,hb⟩
    have HB2:=Lib.hid (HB.out.trans (hb.mono HB.out.size))
    clear hb
    go_wp2_with (fail)
    refine (HSG2.out w2 HB2.out).mono ?_
    rintro e w3 ⟨rfl,hb⟩
    have HB3:=Lib.hid (HB2.out.trans (hb.mono HB2.out.size))
    have HB4:=Lib.hid (HB3.out.trans (((Below.refl w3.heap.size w3).alloc (Nat.le_refl _) (.cells #[.int .i64 0,.int .i64 0,.int .i64 0] 31)).mono HB3.out.size))
    clear hb
    go_wp2_with (fail)
    go_ret2
    rw [HD.out]
    exact ⟨⟨_,rfl,fun _=>rfl⟩,HB4.out⟩
  | true =>
    have HSG2:=Lib.hid (show ∀(w':World),Below w.heap.size w w'→Calls Tryz.prog 48 #[.pointer (some ⟨g,0,none⟩)] w' fun e w''=>e=.returned (.tuple #[.agg #[.int .i64 ses,.int .i64 siz,.int .i64 hav],.bool true])∧Below w'.heap.size w' w'' from HSG.out)
    by_cases hse:ses=se
    ·have hs1:(ses != se)=false:=by simpa using hse
     have HD2:=Lib.hid (show sd=0 by rw [HD.out,if_neg (by simp),if_neg (by simpa using hse)])
     clear hse
     go_enter Tryz.func52,Tryz.ntmps52
     go_wp2_with (fail)
     refine HF.out.mono ?_
     rintro e w1 ⟨⟨v,rfl,hv⟩,hb⟩
     rw [hv HIN.out]
     have HB:=Lib.hid hb
     clear hv hb
     go_wp2_with (fail)
     refine (HSP.out w1 HB.out).mono ?_
     rintro e w2 ⟨rfl,hb⟩
     have HB2:=Lib.hid (HB.out.trans (hb.mono HB.out.size))
     clear hb
     go_wp2_with (fail)
     refine (HSG2.out w2 HB2.out).mono ?_
     rintro e w3 ⟨rfl,hb⟩
     have HB3:=Lib.hid (HB2.out.trans (hb.mono HB2.out.size))
     have HB4:=Lib.hid (HB3.out.trans (((Below.refl w3.heap.size w3).alloc (Nat.le_refl _) (.cells #[.int .i64 ses,.int .i64 siz,.int .i64 hav] 31)).mono HB3.out.size))
     clear hb
     go_wp2_with (fail)
     go_ret2
     rw [HD2.out]
     exact ⟨⟨_,rfl,fun _=>rfl⟩,HB4.out⟩
    ·have hs1:(ses != se)=true:=by simpa using hse
     have HD2:=Lib.hid (show sd=17 by rw [HD.out,if_neg (by simp),if_pos (by simpa using hse)])
     clear hse
     go_enter Tryz.func52,Tryz.ntmps52
     go_wp2_with (fail)
     refine HF.out.mono ?_
     rintro e w1 ⟨⟨v,rfl,hv⟩,hb⟩
     rw [hv HIN.out]
     have HB:=Lib.hid hb
     clear hv hb
     go_wp2_with (fail)
     refine (HSP.out w1 HB.out).mono ?_
     rintro e w2 ⟨rfl,hb⟩
     have HB2:=Lib.hid (HB.out.trans (hb.mono HB.out.size))
     clear hb
     go_wp2_with (fail)
     refine (HSG2.out w2 HB2.out).mono ?_
     rintro e w3 ⟨rfl,hb⟩
     have HB3:=Lib.hid (HB2.out.trans (hb.mono HB2.out.size))
     have HB4:=Lib.hid (HB3.out.trans (((Below.refl w3.heap.size w3).alloc (Nat.le_refl _) (.cells #[.int .i64 ses,.int .i64 siz,.int .i64 hav] 31)).mono HB3.out.size))
     clear hb
     go_wp2_with (fail)
     go_ret2
     rw [HD2.out]
     exact ⟨⟨_,rfl,fun _=>rfl⟩,HB4.out⟩
 ·have HD:=Lib.hid (show begunE xs q se=freeE xs q from if_pos hf)
  rw [HD.out]
  generalize freeE xs q=fe at *
  have hf2:(fe != 0)=true:=by simpa using hf
  clear h hf
  go_enter Tryz.func52,Tryz.ntmps52
  go_wp2_with (fail)
  refine HF.out.mono ?_
  rintro e w1 ⟨⟨v,rfl,hv⟩,hb⟩
  have HB:=Lib.hid hb;have HV:=Lib.hid hv
  clear hv hb
  go_wp2_with (fail)
  go_ret2
  exact ⟨⟨_,rfl,HV.out⟩,HB.out⟩
end
end store
namespace stage


open Go.RowKit Go.Deep base obj mem crc disk record Go.Proofs.YtdldkkoplgkloaaGreat.bits sep plan bytes
theorem bytes_down {w0 w:World} {l:List Asn} {g d:Nat} {m:DS} {p k:Int} {s:SlS} (h:St w0 w (slt g d p k s::dsk d m::l)) (hp:Pl m p k) (hh:s.has=true) (hr:s.st.right=true) (ha:allIn s) (hd:m.down=true) (hwl:m.waits.length≤1000) :
  Calls Tryz.prog 53 #[.pointer (some ⟨g,0,none⟩)] w fun e w'=>e=.returned (.tuple #[.slice none 0 0,.int .i64 8])∧St w0 w' (slt g d p k s::dsk d m::l):=by
 obtain ⟨⟨z1,z2⟩,⟨z3,z4⟩,z5,z6⟩:=stg_in hr
 have hheld:heldN ((blocksN s.st.size:Nat):Int)=blocksN s.st.size:=by unfold heldN blocksN;omega
 have HF:=Lib.hid (fun w=>first_all s.st.have_ ((blocksN s.st.size:Nat):Int) w (by rw [hheld];exact ha))
 have HB:=Lib.hid (fun w=>record.blocks_at w s.st.size (by omega) (by omega))
 obtain ⟨c0,c1,c2,c3,c4,c5,c6,lg⟩:=slt_read h.row.1
 rw [hh] at c3
 obtain ⟨b,hb⟩:∃b,b=blocksN s.st.size:=⟨_,rfl⟩
 rw [←hb] at HF HB
 obtain ⟨n,hn⟩:∃n:Nat,(n:Int)=s.st.size:=⟨s.st.size.toNat,by omega⟩
 rw [←hn] at c5 HB
 have hn0:1≤n:=by omega
 have H:=Lib.hid h;have HP:=Lib.hid hp;have HN:=Lib.hid hn
 have hda:=hp.at_ (i:=0) (by omega) (by omega)
 have HPK:=Lib.hid hp.pk
 have HDA:=Lib.hid (fun w=>place.data_in p k (0:Int) w HPK.out.p0 HPK.out.p1 HPK.out.k0 HPK.out.k1 (by omega) (by omega))
 obtain ⟨at_,hat⟩:∃at_,at_=dAt p k 0:=⟨_,rfl⟩
 rw [show p*10+(2+k*4+1+0)=at_ by rw [hat];rfl] at HDA
 rw [←hat] at hda
 have HRD:=Lib.hid (fun (w1:World) (ls:List Asn) (h1:St w0 w1 (dsk d m::ls))=>by
  have h:=dsk_read_no h1 at_ (.inr hd) (by omega)
  rw [if_neg (by omega)] at h
  exact h)
 clear h hh hr ha hheld hb z1 z2 z3 z4 z5 z6 hp hd hn hat hda
 go_enter Tryz.func53,Tryz.ntmps53
 go_wp2_with (fail)
 go_region_held3 (fun w'=>w'.cell? ⟨g,5,none⟩=some (.int .i64 (n:Int))∧w'.cell? ⟨g,6,none⟩=some (.int .i64 s.st.have_)) (first|go_keep|(refine ⟨?_,?_⟩<;>(refine cell_below HB1.out ?_;go_simp))) (first
  | ((with_reducible refine (HB.out _).mono ?_);rintro e w1 ⟨rfl,rfl⟩)
  | ((with_reducible refine (HF.out _).mono ?_);rintro e w1 ⟨rfl,hb⟩;have HB1:=Lib.hid hb;clear hb))
 have H1:=Lib.hid (H.out.drew.below HB1.out)
 clear c0 c1 c2 c3 c4 c5 c6 lg
 go_wp2_with (fail)
 go_loopw [6,7] (fun v i wr=>v=.slice none 0 0∧i=.int .i64 0∧St w0 wr (slt g d p k s::dsk d m::l)) (fun _ i _=>0)
 case atStart=>exact ⟨rfl,rfl,H1.out⟩
 case round =>
  obtain ⟨rfl,rfl,hi⟩:=hrel
  have HI:=Lib.hid hi
  clear hi H1
  obtain ⟨c0,c1,c2,c3,c4,c5,c6,lg⟩:=slt_read HI.out.row.1
  rw [←HN.out] at c5
  have k0:(0:Int) < (n:Int):=by omega
  go_wp2_with (fail)
  go_region_held3 (fun w'=>w'.cell? ⟨g,1,none⟩=some (.int .i64 p)∧w'.cell? ⟨g,2,none⟩=some (.int .i64 k)) (first|go_keep|(refine ⟨?_,?_⟩<;>(refine cell_below HB2.out ?_;go_simp))) (((with_reducible refine (HDA.out _).mono ?_);rintro e w2 ⟨rfl,hb⟩;have HB2:=Lib.hid hb;clear hb))
  have H2:=Lib.hid (HI.out.drew.below HB2.out)
  clear c0 c1 c2 c3 c4 c5 c6 lg
  obtain ⟨c0,c1,c2,c3,c4,c5,c6,lg⟩:=slt_read H2.out.row.1
  go_wp2_with (fail)
  refine (HRD.out _ _ H2.out.swap).mono ?_
  rintro e w3 ⟨rfl,h3⟩
  have H3:=Lib.hid h3.swap
  clear h3 c0 c1 c2 c3 c4 c5 c6 lg
  go_wp2_with (fail)
  go_ret2
  exact ⟨rfl,H3.out⟩
theorem bytes_any {w0 w:World} {l:List Asn} {g d:Nat} {m:DS} {p k:Int} {s:SlS} (h:St w0 w (slt g d p k s::dsk d m::l)) (hp:Pl m p k) (hr:s.has=true→s.st.right=true) (hwl:m.waits.length≤1000) :
  Calls Tryz.prog 53 #[.pointer (some ⟨g,0,none⟩)] w fun e w'=>∃A n B,e=.returned (.tuple #[.slice A n n,.int .i64 (bytesM m p k s).2])∧Gives w0 B A n (bytesM m p k s).1∧St w0 w' (B::slt g d p k s::dsk d m::l):=by
 cases hd:m.down with
 | false=>exact bytes_st h hp hr hd hwl
 | true =>
   cases hh:s.has with
   | false =>
     rw [show bytesM m p k s=([],16) from if_pos hh]
     exact (bytes_not h.row.1 hh).mono fun e w' ⟨h1,h2⟩=>⟨none,0,fact True,h1,gives_nil _,by rw [h2];exact h.addFact trivial⟩
   | true =>
     by_cases ha:allIn s
     ·rw [show bytesM m p k s=([],8) by unfold bytesM;rw [if_neg (by rw [hh];simp),if_neg (by simpa using ha),if_pos hd]]
      exact (bytes_down h hp hh (hr hh) ha hd hwl).mono fun e w' ⟨h1,h2⟩=>⟨none,0,fact True,h1,gives_nil _,h2.addFact trivial⟩
     ·rw [show bytesM m p k s=([],11) by unfold bytesM;rw [if_neg (by rw [hh];simp),if_pos ha]]
      exact (bytes_missing h.row.1 hh (hr hh) ha).mono fun e w' ⟨h1,h2⟩=>⟨none,0,fact True,h1,gives_nil _,(h.below h2).addFact trivial⟩
theorem bytesM_byt {m:DS} (hb:m.Bts) (p k:Int) (s:SlS):Byt (bytesM m p k s).1:=by
 have hc:Byt (cat3 m p k):=fun z hz=>by
  simp only [cat3,List.mem_append] at hz
  rcases hz with h|h|h
  ·exact hb.now _ z h
  ·exact hb.now _ z h
  ·exact hb.now _ z h
 have h0:Byt []:=fun z hz=>by cases hz
 unfold bytesM
 split
 ·exact h0
 ·split
  ·exact h0
  ·split
   ·exact h0
   ·exact fun z hz=>hc z (List.mem_of_mem_take hz)
end stage
namespace image


open Go.RowKit num crc
theorem rdText_le (s:Option (List Int)) (n:Nat) (h:∀b,s=some b→b.length≤n):(rdText s).1.length≤n:=by
 cases s with
 | none=>simp [rdText]
 | some b =>
   have:=h b rfl
   unfold rdText
   dsimp only
   split
   ·simp
   ·rw [List.length_take,List.length_drop];omega
theorem rdNum_le (s:Option (List Int)) (k n:Nat) (h:∀b,s=some b→b.length≤n):∀b,(rdNum k s).2=some b→b.length≤n:=by
 cases s with
 | none=>intro b hb;simp [rdNum] at hb
 | some c =>
   intro b hb
   unfold rdNum at hb
   dsimp only at hb
   split at hb
   ·simp at hb
   ·simp only [Option.some.injEq] at hb
    subst hb
    have:=h c rfl
    rw [List.length_drop];omega
theorem getL_len (b:List Int):(getL b).1.code.length≤b.length:=by
 have h0:Img.none.code.length=0:=rfl
 unfold getL
 split
 ·rw [h0];omega
 ·split
  ·unfold parseL
   split
   ·rw [h0];omega
   ·split
    ·rw [h0];omega
    ·split
     ·have hs:∀c,(some (b.take (b.length-36)))=some c→c.length≤b.length:=fun c hc=>by
       injection hc with hc;subst hc
       rw [List.length_take];omega
      exact rdText_le _ _ (rdNum_le _ 1 _ (rdNum_le _ 1 _ (rdNum_le _ 1 _ (rdNum_le _ 1 _ (rdNum_le _ 2 _ (rdNum_le _ 2 _ (rdNum_le _ 1 _ (rdNum_le _ 2 _ hs))))))))
     ·rw [h0];omega
  ·rw [h0];omega
end image
namespace store


open Go.RowKit Go.Deep base obj mem sep plan disk record commit stage image tab compat chain
section
variable {w0 w : World} {l : List Asn}
def slV (ad:StAd) (t:Tab) (d:Nat) (xs:List PP) (p:Nat) (k:Int) (s:SlS) (m:DS) (l:List Asn):List Asn :=
 slt ((ad.al.getD p default).slot k) d p k s::dsk d m::vwS ad t d xs.length p (ad.al.getD p default) (xs.getD p default) k (lst ((partsA d ad.al xs).eraseIdx p)::fact (ad.al.length=xs.length)::l)
theorem sl_open {ad:StAd} {t:Tab} {d:Nat} {m:DS} {xs:List PP} (h:St w0 w (strA ad t d m xs::l)) {p:Nat} (hp:p < xs.length) {k:Int} (hk:k=0∨k=1) :
  St w0 w (slV ad t d xs p k ((xs.getD p default).slot k) m l):=vw_slot hk (str_open h hp)
theorem sl_shut {ad:StAd} {t:Tab} {d:Nat} {m:DS} {xs:List PP} {p:Nat} {k:Int} {s:SlS} (h:St w0 w (slV ad t d xs p k s m l)) (hp:p < xs.length) (hk:k=0∨k=1) :
  St w0 w (strA ad t d m (xs.set p ((xs.getD p default).setSlot k s))::l):=str_shut (m:=m) hp (vw_slot' hk h)
theorem setSlot_same (x:PP) (k:Int):x.setSlot k (x.slot k)=x:=by
 unfold PP.setSlot PP.slot
 split<;>rfl
theorem sl_same {ad:StAd} {t:Tab} {d:Nat} {m:DS} {xs:List PP} {p:Nat} {k:Int} (h:St w0 w (slV ad t d xs p k ((xs.getD p default).slot k) m l)) (hp:p < xs.length) (hk:k=0∨k=1) :
  St w0 w (strA ad t d m xs::l):=by
 have h1:=sl_shut h hp hk
 rw [setSlot_same,str_same hp] at h1
 exact h1
theorem sl_ext {ad:StAd} {t:Tab} {d:Nat} {m:DS} {xs:List PP} {p:Nat} {k:Int} {s:SlS} {B:Asn} (h:St w0 w (B::slV ad t d xs p k s m l)):St w0 w (slV ad t d xs p k s m (B::l)) :=
 h.perm (List.perm_middle (l₁:=[_,_,_,_,_,_,_,_,_,_]) (l₂:=l)).symm
theorem str_tab {ad:StAd} {t:Tab} {d:Nat} {m:DS} {xs:List PP} (h:St w0 w (strA ad t d m xs::l)):TabW w ad.tab t:=by
 have h1:=h.unlst
 simp only [strH,List.cons_append,List.nil_append] at h1
 exact tbl_v (h1.pick 2 rfl)
theorem str_own {ad:StAd} {t:Tab} {d:Nat} {m:DS} {xs:List PP} (h:St w0 w (strA ad t d m xs::l)) {p:Nat} (hp:p < xs.length):Row w (ad.al.getD p default).O 102 (ownRow (ad.al.getD p default)):=(str_open h hp).row.1
def holdL (t:Tab) (m:DS) (p:Nat) (x:PP) (k:Int):Img×Int :=
 if (bytesM m p k (x.slot k)).2≠0 then (Img.none,(bytesM m p k (x.slot k)).2)
 else if (getL (bytesM m p k (x.slot k)).1).2≠0 then (Img.none,(getL (bytesM m p k (x.slot k)).1).2)
 else if checkL t p (getL (bytesM m p k (x.slot k)).1).1 0≠0 then (Img.none,checkL t p (getL (bytesM m p k (x.slot k)).1).1 0)
 else ((getL (bytesM m p k (x.slot k)).1).1,0)
theorem holds_str {ad:StAd} {t:Tab} {d:Nat} {m:DS} {xs:List PP} (h:St w0 w (strA ad t d m xs::l)) (ok:SOk t m xs) {p:Nat} (hp:p < xs.length) {k:Int} (hk:k=0∨k=1) :
  Calls Tryz.prog 45 #[.pointer (some ⟨ad.S,0,none⟩),.int .i64 p,.int .i64 k] w fun e w'=>∃(i:Img) (A:Option Addr) (c:Nat) (er:Int),e=.returned (.tuple #[i.val A c,.int .i64 er])∧(i,er)=holdL t m p (xs.getD p default) k∧St w0 w' (own 5 1 (.slice A i.code.length c) i.code.length (u8s i.code)::strA ad t d m xs::l):=by
 obtain ⟨R,hR⟩:∃R,R=w.heap.size:=⟨_,rfl⟩
 obtain ⟨w1,hw1⟩:∃w1,w1=w.alloc (.cells #[.int .i64 0,.int .i64 0,.int .i64 0,.int .i64 0,.int .i64 0,.int .i64 0,.int .i64 0,.slice none 0 0] 26):=⟨_,rfl⟩
 have H1:=Lib.hid (show St w0 w1 (row R 26 [.int .i64 0,.int .i64 0,.int .i64 0,.int .i64 0,.int .i64 0,.int .i64 0,.int .i64 0,.slice none 0 0]::strA ad t d m xs::l) by
  have h:=h.new 26 #[.int .i64 0,.int .i64 0,.int .i64 0,.int .i64 0,.int .i64 0,.int .i64 0,.int .i64 0,.slice none 0 0]
  rw [←hR,←hw1] at h
  exact h)
 have okx:=ok.at_ hp
 obtain ⟨s1,s2,s3⟩:=str_row H1.out.swap
 obtain ⟨b,off,hAL,hbl,hcc⟩:=s2.2 (by omega)
 have cp:w1.cell? ⟨b,off+p,none⟩=some (.pointer (some ⟨(ad.al.getD p default).O,0,none⟩)):=hcc p _ (by simp [ptrs,show p < ad.al.length by omega])
 have c5:w1.cell? ⟨ad.S,5,none⟩=some (.slice ad.AL xs.length ad.cL):=s1.cell 5
 have lS:=s1.lt
 have ho:=str_own H1.out.swap hp
 have co:w1.cell? ⟨(ad.al.getD p default).O,1+k.toNat,none⟩=some (.pointer (some ⟨(ad.al.getD p default).slot k,0,none⟩)):=by
  rcases hk with rfl|rfl
  ·exact ho.cell 1
  ·exact ho.cell 2
 have lO:=ho.lt
 have k0:(0:Int)≤(p:Int):=by omega
 have k1:(p:Int) < (xs.length:Int):=by omega
 have HBY:=Lib.hid ((bytes_any (sl_open H1.out.swap hp hk) (ok.pl hp hk) (okx.rk k) (by have:=ok.few;omega)).mono fun e w' ⟨A,n,B,h1,h2,h3⟩=>(⟨A,n,B,h1,h2,(sl_same (sl_ext h3) hp hk).pick 2 rfl⟩:∃A n B,e=Ending.returned (.tuple #[.slice A n n,.int .i64 (bytesM m p k ((xs.getD p default).slot k)).2])∧Gives w0 B A n (bytesM m p k ((xs.getD p default).slot k)).1∧St w0 w' (row R 26 [.int .i64 0,.int .i64 0,.int .i64 0,.int .i64 0,.int .i64 0,.int .i64 0,.int .i64 0,.slice none 0 0]::strA ad t d m xs::B::l)))
 have HL0:=Lib.hid (show holdL t m p (xs.getD p default) k=if (bytesM m p k ((xs.getD p default).slot k)).2≠0 then (Img.none,(bytesM m p k ((xs.getD p default).slot k)).2) else if (getL (bytesM m p k ((xs.getD p default).slot k)).1).2≠0 then (Img.none,(getL (bytesM m p k ((xs.getD p default).slot k)).1).2) else if checkL t p (getL (bytesM m p k ((xs.getD p default).slot k)).1).1 0≠0 then (Img.none,checkL t p (getL (bytesM m p k ((xs.getD p default).slot k)).1).1 0) else ((getL (bytesM m p k ((xs.getD p default).slot k)).1).1,0) from rfl)
 have HBT:=Lib.hid (bytesM_byt ok.bts p k ((xs.getD p default).slot k))
 have HBL:=Lib.hid (bytesM_len (m:=m) (p:=p) (k:=k) (okx.rk k))
 obtain ⟨hl,hhl⟩:∃v,v=holdL t m p (xs.getD p default) k:=⟨_,rfl⟩
 rw [←hhl] at HL0 ⊢
 generalize bytesM m p k ((xs.getD p default).slot k)=bb at *
 obtain ⟨bs,e1⟩:=bb
 dsimp only at HL0 HBT HBL HBY
 rw [hAL] at c5
 obtain ⟨n,hn⟩:∃n,n=xs.length:=⟨_,rfl⟩
 rw [←hn] at c5 k1
 obtain ⟨O,hO⟩:∃O,O=(ad.al.getD p default).O:=⟨_,rfl⟩
 rw [←hO] at cp co lO
 obtain ⟨g,hg⟩:∃g,g=(ad.al.getD p default).slot k:=⟨_,rfl⟩
 rw [←hg] at co HBY
 obtain ⟨Sd,hSd⟩:∃S,S=ad.S:=⟨_,rfl⟩
 rw [←hSd] at c5 lS ⊢
 have HSD:=Lib.hid hSd
 have HW1:=Lib.hid hw1;have HR:=Lib.hid hR
 have HKK:=Lib.hid hk
 clear hw1 hR h ok okx s1 s2 s3 hAL hcc ho hhl hn hO hg hSd
 rcases hk with rfl|rfl
 all_goals
  simp only [Int.toNat_zero,Int.toNat_one,Nat.add_zero,Nat.reduceAdd] at co
  go_enter Tryz.func45,Tryz.ntmps45
  go_upto_region 1 with fail
  rw [←HW1.out,←HR.out]
  go_wp2_with (fail)
  refine HBY.out.mono ?_
  rintro e w2 ⟨A,z,B,rfl,hgv,hst⟩
  have H2:=Lib.hid hst
  have HGV:=Lib.hid hgv
  have HE:=Lib.hid (hgv.2 w2 _ (H2.out.pick 2 rfl))
  clear hst hgv c5 lS cp co lO
  by_cases h0:e1=0
  case neg =>
   have HO:=Lib.hid (show (Img.none,e1)=hl by rw [HL0.out];exact (if_pos h0).symm)
   have h0b:(e1 != 0)=true:=by simpa using h0
   have H3:=Lib.hid ((H2.out.pick 2 rfl).drop)
   clear h0
   go_wp2_with (refine wpList_putR rfl 26 (.tmp 6) (.tmp 30) rfl R 0 #[.int .i64 0,.int .i64 0,.int .i64 0,.int .i64 0,.int .i64 0,.int .i64 0,.int .i64 0,.slice none 0 0] rfl rfl H3.out.row.1 (by kernel_rfl) (by simp) (by simp [Value.oneCell']) [.int .i64 0,.int .i64 0,.int .i64 0,.int .i64 0,.int .i64 0,.int .i64 0,.int .i64 0,.slice none 0 0] (by simp) ?_)
   have h:=H3.out.setRow [.int .i64 0,.int .i64 0,.int .i64 0,.int .i64 0,.int .i64 0,.int .i64 0,.int .i64 0,.slice none 0 0]
   refine bodyPost_ret (res_cell_slot rfl _ _ R _ _ _ _ _ rfl rfl h.row.1 Tryz.underlying26 rfl (by kernel_rfl)) rfl ?_
   exact ⟨Img.none,none,0,_,rfl,HO.out,(h.drop.addOwn (Below.refl _ _) (nil_own _ _))⟩
  case pos =>
   subst h0
   have h:=HL0.out
   rw [if_neg (by simp)] at h
   have HL1:=Lib.hid h
   clear h
   go_wp2_with (fail)
   refine (get_x w2 A z z bs HGV.out.1 (by have:=HBL.out;have:=HGV.out.1;omega) (Nat.le_refl _) HBT.out HE.out).mono ?_
   rintro e w3 ⟨j,A3,c3,e2,rfl,ho,hb,hj⟩
   have H3:=Lib.hid (((H2.out.pick 2 rfl).drop.addOwn hb ho).swap)
   clear ho hb
   have HJ:=Lib.hid hj
   have hbl3:j.code.length≤9223372036854775807:=by
    have h1:=congrArg Prod.fst hj
    have h2:=getL_len bs
    have h3:=HBL.out
    rw [←h1] at h2
    dsimp only at h2
    omega
   clear hj
   simp only [Img.val]
   obtain ⟨Q,hQ⟩:∃Q,Q=w3.heap.size:=⟨_,rfl⟩
   obtain ⟨w4,hw4⟩:∃v,v=w3.alloc (.cells #[.int .i64 j.part,.int .i64 j.version,.int .i64 j.hard,.int .i64 j.mem,.int .i64 j.fuel,.int .i64 j.sends,.int .i64 j.receives,.slice A3 j.code.length c3] 26):=⟨_,rfl⟩
   have h4:=H3.out.new 26 #[.int .i64 j.part,.int .i64 j.version,.int .i64 j.hard,.int .i64 j.mem,.int .i64 j.fuel,.int .i64 j.sends,.int .i64 j.receives,.slice A3 j.code.length c3]
   rw [←hQ,←hw4] at h4
   have H4:=Lib.hid h4
   have HQ:=Lib.hid hQ;have HW4:=Lib.hid hw4
   clear h4 hQ hw4
   have hge:getL bs=(j,e2):=HJ.out.symm
   have HGE:=Lib.hid hge
   have hHL:=HL1.out
   rw [hge] at hHL
   dsimp only at hHL
   have HL2:=Lib.hid hHL
   clear hge hHL HL1
   by_cases h2:e2=0
   case neg =>
    have HO:=Lib.hid (show (Img.none,e2)=hl by rw [HL2.out];exact (if_pos h2).symm)
    have h2b:(e2 != 0)=true:=by simpa using h2
    have H5:=Lib.hid (H4.out.swap.pick 0 rfl)
    clear h2
    go_upto_region 5 with fail
    rw [←HW4.out,←HQ.out]
    go_wp2_with (refine wpList_putR rfl 26 (.tmp 6) (.tmp 39) rfl R 0 #[.int .i64 0,.int .i64 0,.int .i64 0,.int .i64 0,.int .i64 0,.int .i64 0,.int .i64 0,.slice none 0 0] rfl rfl H5.out.row.1 (by kernel_rfl) (by simp) (by simp [Value.oneCell']) [.int .i64 0,.int .i64 0,.int .i64 0,.int .i64 0,.int .i64 0,.int .i64 0,.int .i64 0,.slice none 0 0] (by simp) ?_)
    have h:=H5.out.setRow [.int .i64 0,.int .i64 0,.int .i64 0,.int .i64 0,.int .i64 0,.int .i64 0,.int .i64 0,.slice none 0 0]
    refine bodyPost_ret (res_cell_slot rfl _ _ R _ _ _ _ _ rfl rfl h.row.1 Tryz.underlying26 rfl (by kernel_rfl)) rfl ?_
    exact ⟨Img.none,none,0,_,rfl,HO.out,(h.drop.drop.drop.addOwn (Below.refl _ _) (nil_own _ _))⟩
   case pos =>
    subst h2
    have h:=HL2.out
    rw [if_neg (by simp)] at h
    have HL3:=Lib.hid h
    clear h
    have HCK:=Lib.hid (check_at (w:=w4.drew) (ver:=0) (i:=j) (A:=A3) (c:=c3) (str_tab ((H4.out.pick 3 rfl).drew)) (p:Int) hbl3)
    have HSR:=Lib.hid (fun (w':World) (hb:Below w4.heap.size w4 w')=>(str_row ((H4.out.below hb).pick 3 rfl)).1)
    have HQR:=Lib.hid (fun (w':World) (hb:Below w4.heap.size w4 w')=>(H4.out.below hb).row.1)
    have HSS:=Lib.hid (fun (w':World) (hb:Below w4.heap.size w4 w')=>show (fun w'=>w'.cell? ⟨Sd,0,none⟩=some (.int .i64 t.frame)∧w'.cell? ⟨Sd,1,none⟩=some (.slice ad.tab.AP t.parts.length ad.tab.cP)∧w'.cell? ⟨Sd,2,none⟩=some (.slice ad.tab.AW t.wins.length ad.tab.cW)∧w'.cell? ⟨Sd,3,none⟩=some (.slice ad.tab.AC t.chans.length ad.tab.cC)∧w'.cell? ⟨Sd,4,none⟩=some (.int .i64 t.trial)∧Sd < w'.heap.size∧w'.cell? ⟨Q,0,none⟩=some (.int .i64 j.part)∧w'.cell? ⟨Q,1,none⟩=some (.int .i64 j.version)∧w'.cell? ⟨Q,2,none⟩=some (.int .i64 j.hard)∧w'.cell? ⟨Q,3,none⟩=some (.int .i64 j.mem)∧w'.cell? ⟨Q,4,none⟩=some (.int .i64 j.fuel)∧w'.cell? ⟨Q,5,none⟩=some (.int .i64 j.sends)∧w'.cell? ⟨Q,6,none⟩=some (.int .i64 j.receives)∧w'.cell? ⟨Q,7,none⟩=some (.slice A3 j.code.length c3)∧Q < w'.heap.size) w' from by
     have h1:=HSR.out w' hb
     have h2:=HQR.out w' hb
     rw [←HSD.out] at h1
     exact ⟨h1.cell 0,h1.cell 1,h1.cell 2,h1.cell 3,h1.cell 4,h1.lt,h2.cell 0,h2.cell 1,h2.cell 2,h2.cell 3,h2.cell 4,h2.cell 5,h2.cell 6,h2.cell 7,h2.lt⟩)
    simp only [TabA.val,Img.val] at HCK
    obtain ⟨e3,he3⟩:∃v,v=checkL t p j 0:=⟨_,rfl⟩
    rw [←he3] at HCK HL3
    clear he3
    go_upto_region 7 with fail
    rw [←HW4.out,←HQ.out]
    refine held_start (fun w'=>w'.cell? ⟨Sd,0,none⟩=some (.int .i64 t.frame)∧w'.cell? ⟨Sd,1,none⟩=some (.slice ad.tab.AP t.parts.length ad.tab.cP)∧w'.cell? ⟨Sd,2,none⟩=some (.slice ad.tab.AW t.wins.length ad.tab.cW)∧w'.cell? ⟨Sd,3,none⟩=some (.slice ad.tab.AC t.chans.length ad.tab.cC)∧w'.cell? ⟨Sd,4,none⟩=some (.int .i64 t.trial)∧Sd < w'.heap.size∧w'.cell? ⟨Q,0,none⟩=some (.int .i64 j.part)∧w'.cell? ⟨Q,1,none⟩=some (.int .i64 j.version)∧w'.cell? ⟨Q,2,none⟩=some (.int .i64 j.hard)∧w'.cell? ⟨Q,3,none⟩=some (.int .i64 j.mem)∧w'.cell? ⟨Q,4,none⟩=some (.int .i64 j.fuel)∧w'.cell? ⟨Q,5,none⟩=some (.int .i64 j.sends)∧w'.cell? ⟨Q,6,none⟩=some (.int .i64 j.receives)∧w'.cell? ⟨Q,7,none⟩=some (.slice A3 j.code.length c3)∧Q < w'.heap.size) (by kernel_rfl) (HSS.out w4.drew (Below.refl w4.heap.size w4).drew) (fun hHeld=>?_)
    (refine held_t 0 (h:=?_);(try simp only [xGs,xGz,xGo,Act.put,xSi,xSz,xSs]));(refine held_t 1 (h:=?_);(try simp only [xGs,xGz,xGo,Act.put,xSi,xSz,xSs]));(refine held_t 2 (h:=?_);(try simp only [xGs,xGz,xGo,Act.put,xSi,xSz,xSs]));(refine held_t 3 (h:=?_);(try simp only [xGs,xGz,xGo,Act.put,xSi,xSz,xSs]));(refine held_t 4 (h:=?_);(try simp only [xGs,xGz,xGo,Act.put,xSi,xSz,xSs]));(refine held_t 5 (h:=?_);(try simp only [xGs,xGz,xGo,Act.put,xSi,xSz,xSs]))
    (refine held_one 6 (by kernel_rfl) (by rfl) ?_;(try simp only [xGs,xGz,xGo]);go_simp)
    refine HCK.out.mono ?_
    rintro e w5 ⟨rfl,hb⟩
    have HB5:=Lib.hid ((Below.refl w4.heap.size w4).drew.trans hb)
    clear hb
    dsimp only
    (refine and_hand (HSS.out w5 HB5.out) (fun hHeld=>?_);(try simp only [xGs,xGz,xGo,Act.put,xSi,xSz,xSs]))
    (refine held_t 7 (h:=?_);(try simp only [xGs,xGz,xGo,Act.put,xSi,xSz,xSs]))
    refine held_end (by kernel_rfl) ?_
    obtain ⟨⟨q0,q1,q2,q3,q4,q5,q6,q7,q8,q9,q10,q11,q12,q13,q14⟩⟩:=And.intro (HSS.out w5 HB5.out) trivial
    have H5:=Lib.hid ((H4.out.below HB5.out).swap)
    by_cases h3:e3=0
    case neg =>
     have HO:=Lib.hid (show (Img.none,e3)=hl by rw [HL3.out];exact (if_pos h3).symm)
     have h3b:(e3 != 0)=true:=by simpa using h3
     clear h3
     go_wp2_with (refine wpList_putR rfl 26 (.tmp 6) (.tmp 50) rfl R 0 #[.int .i64 0,.int .i64 0,.int .i64 0,.int .i64 0,.int .i64 0,.int .i64 0,.int .i64 0,.slice none 0 0] rfl rfl H5.out.row.1 (by kernel_rfl) (by simp) (by simp [Value.oneCell']) [.int .i64 0,.int .i64 0,.int .i64 0,.int .i64 0,.int .i64 0,.int .i64 0,.int .i64 0,.slice none 0 0] (by simp) ?_)
     have h:=H5.out.setRow [.int .i64 0,.int .i64 0,.int .i64 0,.int .i64 0,.int .i64 0,.int .i64 0,.int .i64 0,.slice none 0 0]
     refine bodyPost_ret (res_cell_slot rfl _ _ R _ _ _ _ _ rfl rfl h.row.1 Tryz.underlying26 rfl (by kernel_rfl)) rfl ?_
     exact ⟨Img.none,none,0,_,rfl,HO.out,(h.drop.drop.drop.addOwn (Below.refl _ _) (nil_own _ _))⟩
    case pos =>
     subst h3
     have HO:=Lib.hid (show (j,0)=hl by rw [HL3.out];exact (if_neg (by simp)).symm)
     go_wp2_with (refine wpList_putR rfl 26 (.tmp 6) (.tmp 52) rfl R 0 #[.int .i64 j.part,.int .i64 j.version,.int .i64 j.hard,.int .i64 j.mem,.int .i64 j.fuel,.int .i64 j.sends,.int .i64 j.receives,.slice A3 j.code.length c3] rfl rfl H5.out.row.1 (by kernel_rfl) (by simp) (by simp [Value.oneCell']) [.int .i64 j.part,.int .i64 j.version,.int .i64 j.hard,.int .i64 j.mem,.int .i64 j.fuel,.int .i64 j.sends,.int .i64 j.receives,.slice A3 j.code.length c3] (by simp) ?_)
     have h:=H5.out.setRow [.int .i64 j.part,.int .i64 j.version,.int .i64 j.hard,.int .i64 j.mem,.int .i64 j.fuel,.int .i64 j.sends,.int .i64 j.receives,.slice A3 j.code.length c3]
     refine bodyPost_ret (res_cell_slot rfl _ _ R _ _ _ _ _ rfl rfl h.row.1 Tryz.underlying26 rfl (by kernel_rfl)) rfl ?_
     exact ⟨j,A3,c3,_,rfl,HO.out,(h.drop.drop)⟩
end
end store
end Go.Proofs.YtdldkkoplgkloaaGreat
