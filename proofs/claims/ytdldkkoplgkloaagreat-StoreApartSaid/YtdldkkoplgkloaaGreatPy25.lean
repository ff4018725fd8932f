/-
  PROVED HERE: lemmas that the law leans on.
  CONDITIONS: each names its own.
-/
import Derived.Test.YtdldkkoplgkloaaGreatPy0
import Derived.Test.YtdldkkoplgkloaaGreatPy12
import Derived.Test.YtdldkkoplgkloaaGreatPy24
namespace Go.Proofs.YtdldkkoplgkloaaGreat
set_option linter.unusedVariables false
set_option linter.unusedSimpArgs false
set_option maxRecDepth 100000
set_option maxHeartbeats 32000000
namespace store


open Go.RowKit Go.Deep base obj mem sep bf bk record bP aU image bK bR
structure za (x:PP):Prop where
 act:x.log.now.ax=0∨x.log.now.ax=1
 oN:x.log.now.aj=0∨x.log.now.aj=1
 held:x.log.held=0∨x.log.held=1
 seq:0≤x.log.now.seq
 left:0≤x.log.now.left∧x.log.now.left≤7
 r0:x.s0.has=true→x.s0.st.right=true
 r1:x.s1.has=true→x.s1.st.right=true
theorem za.sp {x:PP} (h:za x):x.sp=0∨x.sp=1:=by have:=h.oN;unfold PP.sp;omega
theorem za.rk {x:PP} (h:za x) (k:Int):(x.slot k).has=true→(x.slot k).st.right=true:=by
 unfold PP.slot;split
 ·exact h.r0
 ·exact h.r1
structure n8 (t:aQ) (m:DS) (xs:List PP):Prop where
 right:t.right=true
 len:xs.length=t.parts.length
 jm:m.iU
 b8:m.Good
 room:10*xs.length≤m.az.length
 tx:m.waits.length≤700
 ok:∀x∈xs,za x
theorem n8.at_ {t:aQ} {m:DS} {xs:List PP} (h:n8 t m xs) {p:Nat} (hp:p < xs.length):za (xs.getD p default):=h.ok _ (by simp [hp])
theorem n8.n4 {t:aQ} {m:DS} {xs:List PP} (h:n8 t m xs):2≤xs.length∧xs.length≤4:=by rw [h.len];exact (aQ.r h.right).np
theorem n8.pl {t:aQ} {m:DS} {xs:List PP} (h:n8 t m xs) {p:Nat} (hp:p < xs.length) {k:Int} (hk:k=0∨k=1):Pl m p k:=by
 have:=h.n4;have:=h.room;exact ⟨h.b8,h.jm,by omega,by omega,by omega,by omega,by unfold eH;omega⟩
section
variable {w0 w : World} {l : List aD}
theorem po {ad:du} {t:aQ} {d:Nat} {m:DS} {xs:List PP} (h:St w0 w (bL ad t d m xs::l)):Row w ad.S 114 (vH ad t xs.length)∧Sl w w.heap.size 1 ad.AL xs.length (qm ad.al)∧ad.al.length=xs.length:=by
 have h1:=h.fI;simp only [CY,List.cons_append,List.nil_append] at h1;exact ⟨h1.row.1,Sl.bz (h1.pick 1 rfl).own,(h1.pick 5 rfl).fact⟩
def UL (ad:du) (t:aQ) (d:Nat) (n p:Nat) (a:mT) (x:PP) (k:Int) (rest:List aD):List aD :=
 [row a.O 102 (ownRow a),log a.L d p x.log.held x.log.now,(if k=0 then slt a.S1 d p 1 x.s1 else slt a.S0 d p 0 x.s0),row ad.S 114 (vH ad t n),own 94 1 (.slice ad.AL n ad.cL) n (qm ad.al),DK ad.bK t]++rest
def vwL (ad:du) (t:aQ) (d:Nat) (n p:Nat) (a:mT) (x:PP) (rest:List aD):List aD :=
 [row a.O 102 (ownRow a),slt a.S0 d p 0 x.s0,slt a.S1 d p 1 x.s1,row ad.S 114 (vH ad t n),own 94 1 (.slice ad.AL n ad.cL) n (qm ad.al),DK ad.bK t]++rest
theorem LG {ad:du} {t:aQ} {d:Nat} {m:DS} {n p:Nat} {a:mT} {x:PP} {rest:List aD} {k:Int} (hk:k=0∨k=1) (h:St w0 w (vw ad t d m n p a x rest)) :
  St w0 w (slt (a.slot k) d p k (x.slot k)::bU d m::UL ad t d n p a x k rest):=by
 rcases hk with rfl|rfl
 ·exact ((((((((h.pick 6 rfl).pick 6 rfl).pick 6 rfl).pick 6 rfl).pick 5 rfl).pick 5 rfl).pick 7 rfl).pick 7 rfl)
 ·exact ((((((((h.pick 6 rfl).pick 6 rfl).pick 6 rfl).pick 5 rfl).pick 5 rfl).pick 5 rfl).pick 7 rfl).pick 7 rfl)
theorem IQ {ad:du} {t:aQ} {d:Nat} {m:DS} {n p:Nat} {a:mT} {x:PP} {rest:List aD} {k:Int} (hk:k=0∨k=1) {s:bC} (h:St w0 w (slt (a.slot k) d p k s::bU d m::UL ad t d n p a x k rest)) :
  St w0 w (vw ad t d m n p a (x.bx k s) rest):=by
 rcases hk with rfl|rfl
 ·exact ((((((((h.pick 1 rfl).pick 7 rfl).pick 7 rfl).pick 7 rfl).pick 7 rfl).pick 5 rfl).pick 7 rfl).pick 7 rfl)
 ·exact ((((((((h.pick 1 rfl).pick 7 rfl).pick 7 rfl).pick 7 rfl).pick 4 rfl).pick 7 rfl).pick 7 rfl).pick 7 rfl)
theorem XF {ad:du} {t:aQ} {d:Nat} {m:DS} {n p:Nat} {a:mT} {x:PP} {rest:List aD} (h:St w0 w (vw ad t d m n p a x rest)) :
  St w0 w (log a.L d p x.log.held x.log.now::bU d m::vwL ad t d n p a x rest):=((((((((h.pick 6 rfl).pick 6 rfl).pick 6 rfl).pick 6 rfl).pick 6 rfl).pick 5 rfl).pick 7 rfl).pick 7 rfl)
theorem VR {ad:du} {t:aQ} {d:Nat} {m:DS} {n p:Nat} {a:mT} {x:PP} {rest:List aD} {y:sK} (h:St w0 w (log a.L d p y.held y.now::bU d m::vwL ad t d n p a x rest)) :
  St w0 w (vw ad t d m n p a ⟨y,x.s0,x.s1⟩ rest):=((((((((h.pick 1 rfl).pick 7 rfl).pick 7 rfl).pick 7 rfl).pick 7 rfl).pick 7 rfl).pick 6 rfl).pick 7 rfl)
theorem CW {xs:List PP} {p:Nat} (hp:p < xs.length):xs.set p (xs.getD p default)=xs:=by simp [hp]
def spV (ad:du) (t:aQ) (d:Nat) (xs:List PP) (p:Nat) (s:bC) (m:DS) (l:List aD):List aD :=
 slt ((ad.al.getD p default).slot (xs.getD p default).sp) d p (xs.getD p default).sp s::bU d m::UL ad t d xs.length p (ad.al.getD p default) (xs.getD p default) (xs.getD p default).sp (dr ((fN d ad.al xs).eraseIdx p)::fact (ad.al.length=xs.length)::l)
theorem uw {ad:du} {t:aQ} {d:Nat} {m:DS} {xs:List PP} (h:St w0 w (bL ad t d m xs::l)) {p:Nat} (hp:p < xs.length) (hx:za (xs.getD p default)) :
  St w0 w (spV ad t d xs p ((xs.getD p default).slot (xs.getD p default).sp) m l):=LG hx.sp (ji h hp)
theorem Fg {ad:du} {t:aQ} {d:Nat} {m:DS} {xs:List PP} {p:Nat} {s:bC} (h:St w0 w (spV ad t d xs p s m l)) (hp:p < xs.length) (hx:za (xs.getD p default)) :
  St w0 w (bL ad t d m (xs.set p ((xs.getD p default).bx (xs.getD p default).sp s))::l):=CV (m:=m) hp (IQ hx.sp h)
def lgV (ad:du) (t:aQ) (d:Nat) (xs:List PP) (p:Nat) (y:sK) (m:DS) (l:List aD):List aD :=
 log (ad.al.getD p default).L d p y.held y.now::bU d m::vwL ad t d xs.length p (ad.al.getD p default) (xs.getD p default) (dr ((fN d ad.al xs).eraseIdx p)::fact (ad.al.length=xs.length)::l)
theorem uD {ad:du} {t:aQ} {d:Nat} {m:DS} {xs:List PP} (h:St w0 w (bL ad t d m xs::l)) {p:Nat} (hp:p < xs.length):St w0 w (lgV ad t d xs p (xs.getD p default).log m l):=XF (ji h hp)
theorem WG {ad:du} {t:aQ} {d:Nat} {m:DS} {xs:List PP} {p:Nat} {y:sK} (h:St w0 w (lgV ad t d xs p y m l)) (hp:p < xs.length) :
  St w0 w (bL ad t d m (xs.set p ⟨y,(xs.getD p default).s0,(xs.getD p default).s1⟩)::l):=CV (m:=m) hp (VR h)
def kY (m:DS) (xs:List PP) (q se sz:Int):Int×DS×List PP :=
 if ia xs q≠0 then (ia xs q,m,xs)
 else
  let x:=xs.getD q.toNat default
  let r:=fU m q x.sp (x.slot x.sp) se sz
  (r.1,r.2.1,xs.set q.toNat (x.bx x.sp r.2.2))
def nO (m:DS) (xs:List PP) (q se no:Int) (data:List Int):Int×DS×List PP :=
 if ia xs q≠0 then (ia xs q,m,xs)
 else
  let x:=xs.getD q.toNat default
  let r:=ig m q x.sp (x.slot x.sp) se no data
  (r.1,r.2.1,xs.set q.toNat (x.bx x.sp r.2.2))
def iK (xs:List PP) (q se:Int):Int :=
 if ia xs q≠0 then ia xs q
 else
  let x:=xs.getD q.toNat default
  if (x.slot x.sp).has=false then 16 else if (x.slot x.sp).st.aG≠se then 17 else 0
def nQ (m:DS) (xs:List PP) (q se:Int):Int×DS×List PP :=
 if iK xs q se≠0 then (iK xs q se,m,xs)
 else
  let x:=xs.getD q.toNat default
  let r:=ja m q x.sp (x.slot x.sp)
  (r.1,r.2.1,xs.set q.toNat (x.bx x.sp r.2.2))
theorem GK {xs:List PP} {q:Int} (h:q < 0∨(xs.length:Int)≤q):ia xs q=3:=if_pos h
theorem TV {xs:List PP} {p:Nat} (hp:p < xs.length):ia xs p=if (xs.getD p default).ay then 18 else 0:=by
 unfold ia;rw [if_neg (by omega),ea]
theorem zR {ad:du} {t:aQ} {d:Nat} {m:DS} {n p:Nat} {a:mT} {x:PP} {rest:List aD} (h:St w0 w (vw ad t d m n p a x rest)):Calls Tryz.prog 44 #[.pointer (some ⟨a.O,0,none⟩)] w fun e w'=>e=.returned (.bool x.ay)∧Below w.heap.size w w':=Sy h
theorem qz {ad:du} {t:aQ} {d:Nat} {m:DS} {n p:Nat} {a:mT} {x:PP} {rest:List aD} (hx:za x) (h:St w0 w (vw ad t d m n p a x rest)):Calls Tryz.prog 47 #[.pointer (some ⟨a.O,0,none⟩)] w fun e w'=>e=.returned (.pointer (some ⟨a.slot x.sp,0,none⟩))∧Below w.heap.size w w':=SC hx.oN h
theorem CX {ad:du} {t:aQ} {d:Nat} {m:DS} {xs:List PP} (h:St w0 w (bL ad t d m xs::l)) (q:Int) :
  Calls Tryz.prog 49 #[.pointer (some ⟨ad.S,0,none⟩),.int .i64 q] w fun e w'=>(∃v,e=.returned (.tuple #[v,.int .i64 (ia xs q)])∧(0≤q∧q < xs.length→v=.pointer (some ⟨(ad.al.getD q.toNat default).O,0,none⟩)))∧Below w.heap.size w w':=by
 obtain ⟨h1,h2,h3⟩:=po h;by_cases hq:q < 0∨(xs.length:Int)≤q
 ·exact (WZ h1 q hq).mono fun e w' ⟨e1,e2⟩=>⟨⟨_,by rw [GK hq];exact e1,fun h=>by omega⟩,by rw [e2];exact Below.refl _ _⟩
 ·obtain ⟨p,rfl⟩:∃p:Nat,q=p:=⟨q.toNat,by omega⟩
  have hp:p < xs.length:=by omega
  exact (Xa h1 h2 h3 p hp _ (zR (ji h hp))).mono fun e w' ⟨e1,e2⟩=>⟨⟨_,by rw [TV hp];exact e1,fun _=>by rw [ea]⟩,e2⟩
theorem rG {xs:List PP} {q:Int} (h:ia xs q=0):0≤q∧q < xs.length:=by
 by_cases hq:q < 0∨(xs.length:Int)≤q
 ·rw [GK hq] at h;omega
 ·omega
theorem sP {xs:List PP} {q se:Int} (h:iK xs q se=0):ia xs q=0:=by
 unfold iK at h;by_cases h0:ia xs q=0
 ·exact h0
 ·rw [if_pos h0] at h;exact h
theorem Hn {ad:du} {t:aQ} {d:Nat} {m:DS} {xs:List PP} (h:St w0 w (bL ad t d m xs::l)) (ok:n8 t m xs) (q se sz:Int) :
  Calls Tryz.prog 14 #[.pointer (some ⟨ad.S,0,none⟩),.int .i64 q,.int .i64 se,.int .i64 sz] w fun e w'=>e=.returned (.int .i64 (kY m xs q se sz).1)∧St w0 w' (bL ad t d (kY m xs q se sz).2.1 (kY m xs q se sz).2.2::l):=by
 have HF:=aa (CX h q);have H:=aa h;by_cases hf:ia xs q=0
 ·have et:0≤q∧q < xs.length:=by
   have:=rG (xs:=xs) (q:=q) (by first|exact hf|exact sP hf);exact this
  obtain ⟨p,rfl⟩:∃p:Nat,q=p:=⟨q.toNat,by omega⟩
  have hp:p < xs.length:=by omega
  have eJ:=ok.at_ hp
  have HD:=aa (show kY m xs p se sz=((fU m p (xs.getD p default).sp ((xs.getD p default).slot (xs.getD p default).sp) se sz).1,(fU m p (xs.getD p default).sp ((xs.getD p default).slot (xs.getD p default).sp) se sz).2.1,xs.set p ((xs.getD p default).bx (xs.getD p default).sp (fU m p (xs.getD p default).sp ((xs.getD p default).slot (xs.getD p default).sp) se sz).2.2)) by
   unfold kY
   rw [if_neg (by rw [hf];simp),ea])
  rw [hf] at HF;have je:=aa et;have jI:=aa (fun (w':World) (hb:Below w.heap.size w w')=>qz eJ (ji (H.o.below hb) hp));have rZ:=aa (fun (w':World) (hb:Below w.heap.size w w')=>(qt (uw (H.o.below hb) hp eJ) (ok.pl hp eJ.sp).pk (by have:=ok.tx;omega) se sz).mono fun e kV ⟨h1,h2⟩=>(And.intro h1 (Fg h2 hp eJ):_∧_));obtain ⟨sd,vQ⟩:∃v,v=kY m xs p se sz:=⟨_,rfl⟩
  rw [←vQ] at HD ⊢;generalize (xs.getD p default).slot (xs.getD p default).sp=sl at *;generalize EA:(fU m p (xs.getD p default).sp sl se sz)=bm at *;generalize (ad.al.getD p default).slot (xs.getD p default).sp=g at *;clear h hf vQ EA eJ et;go_enter Tryz.func14,Tryz.ntmps14;go_wp2_with fail;refine HF.o.mono ?_;rintro e w1 ⟨⟨v,rfl,hv⟩,hb⟩;rw [hv je.o,ea];have HB:=aa hb;clear hv hb;go_wp2_with fail;refine (jI.o w1 HB.o).mono ?_;rintro e w2 ⟨rfl,hb⟩;have aO:=aa (HB.o.trans (hb.mono HB.o.size));clear hb;go_wp2_with fail;refine (rZ.o w2 aO.o).mono ?_;rintro e w3 ⟨rfl,av⟩;have H3:=aa av;clear av;go_wp2_with fail;go_ret;rw [HD.o];exact ⟨rfl,H3.o⟩
 ·have HD:=aa (show kY m xs q se sz=(ia xs q,m,xs) from if_pos hf);rw [HD.o];generalize ia xs q=fe at *;have hf2:(fe != 0)=true:=by simpa using hf
  clear h hf;go_enter Tryz.func14,Tryz.ntmps14;go_wp2_with fail;refine HF.o.mono ?_;rintro e w1 ⟨⟨v,rfl,hv⟩,hb⟩;have HB:=aa hb;clear hv hb;go_wp2_with fail;go_ret;exact ⟨rfl,H.o.below HB.o⟩
theorem Hm {ad:du} {t:aQ} {d:Nat} {m:DS} {xs:List PP} (h:St w0 w (bL ad t d m xs::l)) (ok:n8 t m xs) (q se:Int) :
  Calls Tryz.prog 52 #[.pointer (some ⟨ad.S,0,none⟩),.int .i64 q,.int .i64 se] w fun e w'=>(∃v,e=.returned (.tuple #[v,.int .i64 (iK xs q se)])∧(0≤q∧q < xs.length→v=.pointer (some ⟨(ad.al.getD q.toNat default).O,0,none⟩)))∧Below w.heap.size w w':=by
 have HF:=aa (CX h q);have H:=aa h;by_cases hf:ia xs q=0
 ·have et:0≤q∧q < xs.length:=rG hf;obtain ⟨p,rfl⟩:∃p:Nat,q=p:=⟨q.toNat,by omega⟩
  have hp:p < xs.length:=by omega
  have eJ:=ok.at_ hp
  have HD:=aa (show iK xs p se=if ((xs.getD p default).slot (xs.getD p default).sp).has=false then 16 else if ((xs.getD p default).slot (xs.getD p default).sp).st.aG≠se then 17 else 0 by
   unfold iK
   rw [if_neg (by rw [hf];simp),ea])
  rw [hf] at HF;have je:=aa et;have jI:=aa (fun (w':World) (hb:Below w.heap.size w w')=>qz eJ (ji (H.o.below hb) hp));have CD:=aa (fun (w':World) (hb:Below w.heap.size w w')=>I7 (uw (H.o.below hb) hp eJ).row.1);obtain ⟨sd,vQ⟩:∃v,v=iK xs p se:=⟨_,rfl⟩
  rw [←vQ] at HD ⊢;generalize (xs.getD p default).slot (xs.getD p default).sp=sl at *;generalize (ad.al.getD p default).slot (xs.getD p default).sp=g at *;rw [ea] at HF ⊢;generalize (ad.al.getD p default).O=O at *;clear h hf vQ eJ et;obtain ⟨has,⟨LO,siz,hav⟩⟩:=sl;simp only at HD CD;cases has with
  | false =>
    have OP:=aa (show ∀(w':World),Below w.heap.size w w'→Calls Tryz.prog 48 #[.pointer (some ⟨g,0,none⟩)] w' fun e kV=>e=.returned (.tuple #[.agg #[.int .i64 0,.int .i64 0,.int .i64 0],.bool false])∧Below w'.heap.size w' kV from CD.o);go_enter Tryz.func52,Tryz.ntmps52;go_wp2_with fail;refine HF.o.mono ?_;rintro e w1 ⟨⟨v,rfl,hv⟩,hb⟩;rw [hv je.o];have HB:=aa hb;clear hv hb;go_wp2_with fail;refine (jI.o w1 HB.o).mono ?_;rintro e w2 ⟨rfl,hb⟩;have aO:=aa (HB.o.trans (hb.mono HB.o.size));clear hb;go_wp2_with fail;refine (OP.o w2 aO.o).mono ?_;rintro e w3 ⟨rfl,hb⟩;have bD:=aa (aO.o.trans (hb.mono aO.o.size));have eV:=aa (bD.o.trans (((Below.refl w3.heap.size w3).alloc (Nat.le_refl _) (.cells #[.int .i64 0,.int .i64 0,.int .i64 0] 31)).mono bD.o.size));clear hb;go_wp2_with fail;go_ret2;rw [HD.o];exact ⟨⟨_,rfl,fun _=>rfl⟩,eV.o⟩
  | true =>
    have OP:=aa (show ∀(w':World),Below w.heap.size w w'→Calls Tryz.prog 48 #[.pointer (some ⟨g,0,none⟩)] w' fun e kV=>e=.returned (.tuple #[.agg #[.int .i64 LO,.int .i64 siz,.int .i64 hav],.bool true])∧Below w'.heap.size w' kV from CD.o);by_cases ko:LO=se
    ·have jE:(LO != se)=false:=by simpa using ko
     have jy:=aa (show sd=0 by rw [HD.o,if_neg (by simp),if_neg (by simpa using ko)]);clear ko;go_enter Tryz.func52,Tryz.ntmps52;go_wp2_with fail;refine HF.o.mono ?_;rintro e w1 ⟨⟨v,rfl,hv⟩,hb⟩;rw [hv je.o];have HB:=aa hb;clear hv hb;go_wp2_with fail;refine (jI.o w1 HB.o).mono ?_;rintro e w2 ⟨rfl,hb⟩;have aO:=aa (HB.o.trans (hb.mono HB.o.size));clear hb;go_wp2_with fail;refine (OP.o w2 aO.o).mono ?_;rintro e w3 ⟨rfl,hb⟩;have bD:=aa (aO.o.trans (hb.mono aO.o.size));have eV:=aa (bD.o.trans (((Below.refl w3.heap.size w3).alloc (Nat.le_refl _) (.cells #[.int .i64 LO,.int .i64 siz,.int .i64 hav] 31)).mono bD.o.size));clear hb;go_wp2_with fail;go_ret2;rw [jy.o];exact ⟨⟨_,rfl,fun _=>rfl⟩,eV.o⟩
    ·have jE:(LO != se)=true:=by simpa using ko
     have jy:=aa (show sd=17 by rw [HD.o,if_neg (by simp),if_pos (by simpa using ko)]);clear ko;go_enter Tryz.func52,Tryz.ntmps52;go_wp2_with fail;refine HF.o.mono ?_;rintro e w1 ⟨⟨v,rfl,hv⟩,hb⟩;rw [hv je.o];have HB:=aa hb;clear hv hb;go_wp2_with fail;refine (jI.o w1 HB.o).mono ?_;rintro e w2 ⟨rfl,hb⟩;have aO:=aa (HB.o.trans (hb.mono HB.o.size));clear hb;go_wp2_with fail;refine (OP.o w2 aO.o).mono ?_;rintro e w3 ⟨rfl,hb⟩;have bD:=aa (aO.o.trans (hb.mono aO.o.size));have eV:=aa (bD.o.trans (((Below.refl w3.heap.size w3).alloc (Nat.le_refl _) (.cells #[.int .i64 LO,.int .i64 siz,.int .i64 hav] 31)).mono bD.o.size));clear hb;go_wp2_with fail;go_ret2;rw [jy.o];exact ⟨⟨_,rfl,fun _=>rfl⟩,eV.o⟩
 ·have HD:=aa (show iK xs q se=ia xs q from if_pos hf);rw [HD.o];generalize ia xs q=fe at *;have hf2:(fe != 0)=true:=by simpa using hf
  clear h hf;go_enter Tryz.func52,Tryz.ntmps52;go_wp2_with fail;refine HF.o.mono ?_;rintro e w1 ⟨⟨v,rfl,hv⟩,hb⟩;have HB:=aa hb;have HV:=aa hv;clear hv hb;go_wp2_with fail;go_ret2;exact ⟨⟨_,rfl,HV.o⟩,HB.o⟩
theorem Ud {ad:du} {t:aQ} {d:Nat} {m:DS} {xs:List PP} (h:St w0 w (bL ad t d m xs::l)) (ok:n8 t m xs) (q se:Int) :
  Calls Tryz.prog 17 #[.pointer (some ⟨ad.S,0,none⟩),.int .i64 q,.int .i64 se] w fun e w'=>e=.returned (.int .i64 (nQ m xs q se).1)∧St w0 w' (bL ad t d (nQ m xs q se).2.1 (nQ m xs q se).2.2::l):=by
 have HF:=aa (Hm h ok q se);have H:=aa h;by_cases hf:iK xs q se=0
 ·have et:0≤q∧q < xs.length:=by
   have:=rG (xs:=xs) (q:=q) (by first|exact hf|exact sP hf);exact this
  obtain ⟨p,rfl⟩:∃p:Nat,q=p:=⟨q.toNat,by omega⟩
  have hp:p < xs.length:=by omega
  have eJ:=ok.at_ hp
  have HD:=aa (show nQ m xs p se=((ja m p (xs.getD p default).sp ((xs.getD p default).slot (xs.getD p default).sp)).1,(ja m p (xs.getD p default).sp ((xs.getD p default).slot (xs.getD p default).sp)).2.1,xs.set p ((xs.getD p default).bx (xs.getD p default).sp (ja m p (xs.getD p default).sp ((xs.getD p default).slot (xs.getD p default).sp)).2.2)) by
   unfold nQ
   rw [if_neg (by rw [hf];simp),ea])
  rw [hf] at HF;have je:=aa et;have jI:=aa (fun (w':World) (hb:Below w.heap.size w w')=>qz eJ (ji (H.o.below hb) hp));have rZ:=aa (fun (w':World) (hb:Below w.heap.size w w')=>(Ug (uw (H.o.below hb) hp eJ) (ok.pl hp eJ.sp).pk (by have:=ok.tx;omega)).mono fun e kV ⟨h1,h2⟩=>(And.intro h1 (Fg h2 hp eJ):_∧_));obtain ⟨sd,vQ⟩:∃v,v=nQ m xs p se:=⟨_,rfl⟩
  rw [←vQ] at HD ⊢;generalize (xs.getD p default).slot (xs.getD p default).sp=sl at *;generalize EA:(ja m p (xs.getD p default).sp sl)=bm at *;generalize (ad.al.getD p default).slot (xs.getD p default).sp=g at *;clear h hf vQ EA eJ et;go_enter Tryz.func17,Tryz.ntmps17;go_wp2_with fail;refine HF.o.mono ?_;rintro e w1 ⟨⟨v,rfl,hv⟩,hb⟩;rw [hv je.o,ea];have HB:=aa hb;clear hv hb;go_wp2_with fail;refine (jI.o w1 HB.o).mono ?_;rintro e w2 ⟨rfl,hb⟩;have aO:=aa (HB.o.trans (hb.mono HB.o.size));clear hb;go_wp2_with fail;refine (rZ.o w2 aO.o).mono ?_;rintro e w3 ⟨rfl,av⟩;have H3:=aa av;clear av;go_wp2_with fail;go_ret;rw [HD.o];exact ⟨rfl,H3.o⟩
 ·have HD:=aa (show nQ m xs q se=(iK xs q se,m,xs) from if_pos hf);rw [HD.o];generalize iK xs q se=fe at *;have hf2:(fe != 0)=true:=by simpa using hf
  clear h hf;go_enter Tryz.func17,Tryz.ntmps17;go_wp2_with fail;refine HF.o.mono ?_;rintro e w1 ⟨⟨v,rfl,hv⟩,hb⟩;have HB:=aa hb;clear hv hb;go_wp2_with fail;go_ret;exact ⟨rfl,H.o.below HB.o⟩
end
end store
namespace aU


open Go.RowKit Go.Deep base obj mem bw bk record Go.Proofs.YtdldkkoplgkloaaGreat.bits sep bf bytes
theorem OC {w0 w:World} {l:List aD} {g d:Nat} {m:DS} {p k:Int} {s:bC} (h:St w0 w (slt g d p k s::bU d m::l)) (hp:Pl m p k) (hh:s.has=true) (hr:s.st.right=true) (ha:qh s) (hd:m.down=true) (fY:m.waits.length≤1000) :
  Calls Tryz.prog 53 #[.pointer (some ⟨g,0,none⟩)] w fun e w'=>e=.returned (.tuple #[.slice none 0 0,.int .i64 8])∧St w0 w' (slt g d p k s::bU d m::l):=by
 obtain ⟨⟨z1,z2⟩,⟨z3,z4⟩,z5,z6⟩:=iD hr;have wm:dw ((aR s.st.size:Nat):Int)=aR s.st.size:=by unfold dw aR;omega
 have HF:=aa (fun w=>GP s.st.bd ((aR s.st.size:Nat):Int) w (by rw [wm];exact ha));have HB:=aa (fun w=>record.ka w s.st.size (by omega) (by omega));obtain ⟨c0,c1,c2,c3,c4,c5,c6,lg⟩:=fp h.row.1;rw [hh] at c3;obtain ⟨b,hb⟩:∃b,b=aR s.st.size:=⟨_,rfl⟩
 rw [←hb] at HF HB;obtain ⟨n,hn⟩:∃n:Nat,(n:Int)=s.st.size:=⟨s.st.size.toNat,by omega⟩
 rw [←hn] at c5 HB;have Md:1≤n:=by omega
 have H:=aa h;have HP:=aa hp;have HN:=aa hn;have hda:=hp.at_ (i:=0) (by omega) (by omega);have tD:=aa hp.pk;have E7:=aa (fun w=>place.BS p k (0:Int) w tD.o.p0 tD.o.p1 tD.o.k0 tD.o.k1 (by omega) (by omega));obtain ⟨at_,j9⟩:∃at_,at_=eH p k 0:=⟨_,rfl⟩
 rw [show p*10+(2+k*4+1+0)=at_ by rw [j9];rfl] at E7;rw [←j9] at hda
 have oc:=aa (fun (w1:World) (ls:List aD) (h1:St w0 w1 (bU d m::ls))=>by
  have h:=Cz h1 at_ (.inr hd) (by omega);rw [if_neg (by omega)] at h
  exact h)
 clear h hh hr ha wm hb z1 z2 z3 z4 z5 z6 hp hd hn j9 hda;go_enter Tryz.func53,Tryz.ntmps53;go_wp2_with fail
 go_region_held3 (fun w'=>w'.cell? ⟨g,5,none⟩=some (.int .i64 (n:Int))∧w'.cell? ⟨g,6,none⟩=some (.int .i64 s.st.bd)) (first|go_keep|(refine ⟨?_,?_⟩<;>(refine lu bn.o ?_;go_simp))) (first
  | ((with_reducible refine (HB.o _).mono ?_);rintro e w1 ⟨rfl,rfl⟩)
  | ((with_reducible refine (HF.o _).mono ?_);rintro e w1 ⟨rfl,hb⟩;have bn:=aa hb;clear hb))
 have H1:=aa (H.o.drew.below bn.o);clear c0 c1 c2 c3 c4 c5 c6 lg;go_wp2_with fail;go_loopw [6,7] (fun v i wr=>v=.slice none 0 0∧i=.int .i64 0∧St w0 wr (slt g d p k s::bU d m::l)) (fun _ i _=>0)
 case atStart=>exact ⟨rfl,rfl,H1.o⟩
 case round =>
  obtain ⟨rfl,rfl,hi⟩:=hrel;have HI:=aa hi;clear hi H1;obtain ⟨c0,c1,c2,c3,c4,c5,c6,lg⟩:=fp HI.o.row.1;rw [←HN.o] at c5;have k0:(0:Int) < (n:Int):=by omega
  go_wp2_with fail
  go_region_held3 (fun w'=>w'.cell? ⟨g,1,none⟩=some (.int .i64 p)∧w'.cell? ⟨g,2,none⟩=some (.int .i64 k)) (first|go_keep|(refine ⟨?_,?_⟩<;>(refine lu aO.o ?_;go_simp))) (((with_reducible refine (E7.o _).mono ?_);rintro e w2 ⟨rfl,hb⟩;have aO:=aa hb;clear hb))
  have H2:=aa (HI.o.drew.below aO.o);clear c0 c1 c2 c3 c4 c5 c6 lg;obtain ⟨c0,c1,c2,c3,c4,c5,c6,lg⟩:=fp H2.o.row.1;go_wp2_with fail;refine (oc.o _ _ H2.o.swap).mono ?_;rintro e w3 ⟨rfl,h3⟩;have H3:=aa h3.swap;clear h3 c0 c1 c2 c3 c4 c5 c6 lg;go_wp2_with fail;go_ret2;exact ⟨rfl,H3.o⟩
theorem Hi {w0 w:World} {l:List aD} {g d:Nat} {m:DS} {p k:Int} {s:bC} (h:St w0 w (slt g d p k s::bU d m::l)) (hp:Pl m p k) (hr:s.has=true→s.st.right=true) (fY:m.waits.length≤1000) :
  Calls Tryz.prog 53 #[.pointer (some ⟨g,0,none⟩)] w fun e w'=>∃A n B,e=.returned (.tuple #[.slice A n n,.int .i64 (cE m p k s).2])∧qi w0 B A n (cE m p k s).1∧St w0 w' (B::slt g d p k s::bU d m::l):=by
 cases hd:m.down with
 | false=>exact Ui h hp hr hd fY
 | true =>
   cases hh:s.has with
   | false =>
     rw [show cE m p k s=([],16) from if_pos hh];exact (Hh h.row.1 hh).mono fun e w' ⟨h1,h2⟩=>⟨none,0,fact True,h1,oK _,by rw [h2];exact h.addFact trivial⟩
   | true =>
     by_cases ha:qh s
     ·rw [show cE m p k s=([],8) by unfold cE;rw [if_neg (by rw [hh];simp),if_neg (by simpa using ha),if_pos hd]];exact (OC h hp hh (hr hh) ha hd fY).mono fun e w' ⟨h1,h2⟩=>⟨none,0,fact True,h1,oK _,h2.addFact trivial⟩
     ·rw [show cE m p k s=([],11) by unfold cE;rw [if_neg (by rw [hh];simp),if_pos ha]];exact (zB h.row.1 hh (hr hh) ha).mono fun e w' ⟨h1,h2⟩=>⟨none,0,fact True,h1,oK _,(h.below h2).addFact trivial⟩
theorem y9 {m:DS} (hb:m.iU) (p k:Int) (s:bC):bo (cE m p k s).1:=by
 have hc:bo (qs m p k):=fun z hz=>by
  simp only [qs,List.mem_append] at hz;rcases hz with h|h|h
  ·exact hb.now _ z h
  ·exact hb.now _ z h
  ·exact hb.now _ z h
 have h0:bo []:=fun z hz=>by cases hz
 unfold cE;split
 ·exact h0
 ·split
  ·exact h0
  ·split
   ·exact h0
   ·exact fun z hz=>hc z (List.mem_of_mem_take hz)
end aU
namespace image


open Go.RowKit num bw
theorem PL (s:Option (List Int)) (n:Nat) (h:∀b,s=some b→b.length≤n):(eF s).1.length≤n:=by
 cases s with
 | none=>simp [eF]
 | some b =>
   have:=h b rfl;unfold eF;dsimp only;split
   ·simp
   ·rw [fv,List.length_drop];omega
theorem ov (s:Option (List Int)) (k n:Nat) (h:∀b,s=some b→b.length≤n):∀b,(rdNum k s).2=some b→b.length≤n:=by
 cases s with
 | none=>intro b hb;simp [rdNum] at hb
 | some c =>
   intro b hb;unfold rdNum at hb;dsimp only at hb;split at hb
   ·simp at hb
   ·simp only [Option.some.injEq] at hb;subst hb;have:=h c rfl;rw [List.length_drop];omega
theorem Kl (b:List Int):(b9 b).1.code.length≤b.length:=by
 have h0:aw.none.code.length=0:=rfl;unfold b9;split
 ·rw [h0];omega
 ·split
  ·unfold kg;split
   ·rw [h0];omega
   ·split
    ·rw [h0];omega
    ·split
     ·have hs:∀c,(some (b.take (b.length-36)))=some c→c.length≤b.length:=fun c hc=>by
       injection hc with hc;subst hc
       rw [fv];omega
      exact PL _ _ (ov _ 1 _ (ov _ 1 _ (ov _ 1 _ (ov _ 1 _ (ov _ 2 _ (ov _ 2 _ (ov _ 1 _ (ov _ 2 _ hs))))))))
     ·rw [h0];omega
  ·rw [h0];omega
end image
namespace store


open Go.RowKit Go.Deep base obj mem sep bf bk record bP aU image bK bR chain
section
variable {w0 w : World} {l : List aD}
def Pq (ad:du) (t:aQ) (d:Nat) (xs:List PP) (p:Nat) (k:Int) (s:bC) (m:DS) (l:List aD):List aD :=
 slt ((ad.al.getD p default).slot k) d p k s::bU d m::UL ad t d xs.length p (ad.al.getD p default) (xs.getD p default) k (dr ((fN d ad.al xs).eraseIdx p)::fact (ad.al.length=xs.length)::l)
theorem V2 {ad:du} {t:aQ} {d:Nat} {m:DS} {xs:List PP} (h:St w0 w (bL ad t d m xs::l)) {p:Nat} (hp:p < xs.length) {k:Int} (hk:k=0∨k=1) :
  St w0 w (Pq ad t d xs p k ((xs.getD p default).slot k) m l):=LG hk (ji h hp)
theorem V1 {ad:du} {t:aQ} {d:Nat} {m:DS} {xs:List PP} {p:Nat} {k:Int} {s:bC} (h:St w0 w (Pq ad t d xs p k s m l)) (hp:p < xs.length) (hk:k=0∨k=1) :
  St w0 w (bL ad t d m (xs.set p ((xs.getD p default).bx k s))::l):=CV (m:=m) hp (IQ hk h)
theorem I9 (x:PP) (k:Int):x.bx k (x.slot k)=x:=by
 unfold PP.bx PP.slot;split<;>rfl
theorem LN {ad:du} {t:aQ} {d:Nat} {m:DS} {xs:List PP} {p:Nat} {k:Int} (h:St w0 w (Pq ad t d xs p k ((xs.getD p default).slot k) m l)) (hp:p < xs.length) (hk:k=0∨k=1) :
  St w0 w (bL ad t d m xs::l):=by
 have h1:=V1 h hp hk;rw [I9,CW hp] at h1;exact h1
theorem Pp {ad:du} {t:aQ} {d:Nat} {m:DS} {xs:List PP} {p:Nat} {k:Int} {s:bC} {B:aD} (h:St w0 w (B::Pq ad t d xs p k s m l)):St w0 w (Pq ad t d xs p k s m (B::l)) :=
 h.perm (List.perm_middle (l₁:=[_,_,_,_,_,_,_,_,_,_]) (l₂:=l)).symm
theorem LL {ad:du} {t:aQ} {d:Nat} {m:DS} {xs:List PP} (h:St w0 w (bL ad t d m xs::l)):ma w ad.bK t:=by
 have h1:=h.fI;simp only [CY,List.cons_append,List.nil_append] at h1;exact ZM (h1.pick 2 rfl)
theorem pq {ad:du} {t:aQ} {d:Nat} {m:DS} {xs:List PP} (h:St w0 w (bL ad t d m xs::l)) {p:Nat} (hp:p < xs.length):Row w (ad.al.getD p default).O 102 (ownRow (ad.al.getD p default)):=(ji h hp).row.1
def fK (t:aQ) (m:DS) (p:Nat) (x:PP) (k:Int):aw×Int :=
 if (cE m p k (x.slot k)).2≠0 then (aw.none,(cE m p k (x.slot k)).2)
 else if (b9 (cE m p k (x.slot k)).1).2≠0 then (aw.none,(b9 (cE m p k (x.slot k)).1).2)
 else if bX t p (b9 (cE m p k (x.slot k)).1).1 0≠0 then (aw.none,bX t p (b9 (cE m p k (x.slot k)).1).1 0)
 else ((b9 (cE m p k (x.slot k)).1).1,0)
theorem vV {ad:du} {t:aQ} {d:Nat} {m:DS} {xs:List PP} (h:St w0 w (bL ad t d m xs::l)) (ok:n8 t m xs) {p:Nat} (hp:p < xs.length) {k:Int} (hk:k=0∨k=1) :
  Calls Tryz.prog 45 #[.pointer (some ⟨ad.S,0,none⟩),.int .i64 p,.int .i64 k] w fun e w'=>∃(i:aw) (A:Option Addr) (c:Nat) (er:Int),e=.returned (.tuple #[i.val A c,.int .i64 er])∧(i,er)=fK t m p (xs.getD p default) k∧St w0 w' (own 5 1 (.slice A i.code.length c) i.code.length (aP i.code)::bL ad t d m xs::l):=by
 obtain ⟨R,hR⟩:∃R,R=w.heap.size:=⟨_,rfl⟩
 obtain ⟨w1,aJ⟩:∃w1,w1=w.alloc (.cells #[.int .i64 0,.int .i64 0,.int .i64 0,.int .i64 0,.int .i64 0,.int .i64 0,.int .i64 0,.slice none 0 0] 26):=⟨_,rfl⟩
 have H1:=aa (show St w0 w1 (row R 26 [.int .i64 0,.int .i64 0,.int .i64 0,.int .i64 0,.int .i64 0,.int .i64 0,.int .i64 0,.slice none 0 0]::bL ad t d m xs::l) by
  have h:=h.new 26 #[.int .i64 0,.int .i64 0,.int .i64 0,.int .i64 0,.int .i64 0,.int .i64 0,.int .i64 0,.slice none 0 0];rw [←hR,←aJ] at h
  exact h)
 have eJ:=ok.at_ hp;obtain ⟨s1,s2,s3⟩:=po H1.o.swap;obtain ⟨b,off,Kb,cy,qF⟩:=s2.2 (by omega);have cp:w1.cell? ⟨b,off+p,none⟩=some (.pointer (some ⟨(ad.al.getD p default).O,0,none⟩)):=qF p _ (by simp [qm,show p < ad.al.length by omega]);have c5:w1.cell? ⟨ad.S,5,none⟩=some (.slice ad.AL xs.length ad.cL):=s1.cell 5;have lS:=s1.lt;have ho:=pq H1.o.swap hp
 have co:w1.cell? ⟨(ad.al.getD p default).O,1+k.toNat,none⟩=some (.pointer (some ⟨(ad.al.getD p default).slot k,0,none⟩)):=by
  rcases hk with rfl|rfl
  ·exact ho.cell 1
  ·exact ho.cell 2
 have lO:=ho.lt;have k0:(0:Int)≤(p:Int):=by omega
 have k1:(p:Int) < (xs.length:Int):=by omega
 have kN:=aa ((Hi (V2 H1.o.swap hp hk) (ok.pl hp hk) (eJ.rk k) (by have:=ok.tx;omega)).mono fun e w' ⟨A,n,B,h1,h2,h3⟩=>(⟨A,n,B,h1,h2,(LN (Pp h3) hp hk).pick 2 rfl⟩:∃A n B,e=Ending.returned (.tuple #[.slice A n n,.int .i64 (cE m p k ((xs.getD p default).slot k)).2])∧qi w0 B A n (cE m p k ((xs.getD p default).slot k)).1∧St w0 w' (row R 26 [.int .i64 0,.int .i64 0,.int .i64 0,.int .i64 0,.int .i64 0,.int .i64 0,.int .i64 0,.slice none 0 0]::bL ad t d m xs::B::l)));have HL0:=aa (show fK t m p (xs.getD p default) k=if (cE m p k ((xs.getD p default).slot k)).2≠0 then (aw.none,(cE m p k ((xs.getD p default).slot k)).2) else if (b9 (cE m p k ((xs.getD p default).slot k)).1).2≠0 then (aw.none,(b9 (cE m p k ((xs.getD p default).slot k)).1).2) else if bX t p (b9 (cE m p k ((xs.getD p default).slot k)).1).1 0≠0 then (aw.none,bX t p (b9 (cE m p k ((xs.getD p default).slot k)).1).1 0) else ((b9 (cE m p k ((xs.getD p default).slot k)).1).1,0) from rfl);have yd:=aa (y9 ok.jm p k ((xs.getD p default).slot k));have ch:=aa (EM (m:=m) (p:=p) (k:=k) (eJ.rk k));obtain ⟨hl,GF⟩:∃v,v=fK t m p (xs.getD p default) k:=⟨_,rfl⟩
 rw [←GF] at HL0 ⊢;generalize cE m p k ((xs.getD p default).slot k)=bb at *;obtain ⟨bs,e1⟩:=bb;dsimp only at HL0 yd ch kN;rw [Kb] at c5;obtain ⟨n,hn⟩:∃n,n=xs.length:=⟨_,rfl⟩
 rw [←hn] at c5 k1;obtain ⟨O,hO⟩:∃O,O=(ad.al.getD p default).O:=⟨_,rfl⟩
 rw [←hO] at cp co lO;obtain ⟨g,hg⟩:∃g,g=(ad.al.getD p default).slot k:=⟨_,rfl⟩
 rw [←hg] at co kN;obtain ⟨Sd,Mp⟩:∃S,S=ad.S:=⟨_,rfl⟩
 rw [←Mp] at c5 lS ⊢;have rS:=aa Mp;have bq:=aa aJ;have HR:=aa hR;have CJ:=aa hk;clear aJ hR h ok eJ s1 s2 s3 Kb qF ho GF hn hO hg Mp;rcases hk with rfl|rfl
 all_goals
  simp only [Int.toNat_zero,Int.toNat_one,Nat.add_zero,Nat.reduceAdd] at co;go_enter Tryz.func45,Tryz.ntmps45;go_upto_region 1 with fail;rw [←bq.o,←HR.o];go_wp2_with fail;refine kN.o.mono ?_;rintro e w2 ⟨A,z,B,rfl,JZ,av⟩;have H2:=aa av;have wO:=aa JZ;have HE:=aa (JZ.2 w2 _ (H2.o.pick 2 rfl));clear av JZ c5 lS cp co lO;by_cases h0:e1=0
  case neg =>
   have HO:=aa (show (aw.none,e1)=hl by rw [HL0.o];exact (if_pos h0).symm);have h0b:(e1 != 0)=true:=by simpa using h0
   have H3:=aa ((H2.o.pick 2 rfl).drop);clear h0;go_wp2_with (refine aF rfl 26 (.tmp 6) (.tmp 30) rfl R 0 #[.int .i64 0,.int .i64 0,.int .i64 0,.int .i64 0,.int .i64 0,.int .i64 0,.int .i64 0,.slice none 0 0] rfl rfl H3.o.row.1 (by kernel_rfl) (by simp) (by simp [Value.oneCell']) [.int .i64 0,.int .i64 0,.int .i64 0,.int .i64 0,.int .i64 0,.int .i64 0,.int .i64 0,.slice none 0 0] (by simp) ?_);have h:=H3.o.setRow [.int .i64 0,.int .i64 0,.int .i64 0,.int .i64 0,.int .i64 0,.int .i64 0,.int .i64 0,.slice none 0 0];refine bodyPost_ret (aM rfl _ _ R _ _ _ _ _ rfl rfl h.row.1 Tryz.underlying26 rfl (by kernel_rfl)) rfl ?_;exact ⟨aw.none,none,0,_,rfl,HO.o,(h.drop.cQ (Below.refl _ _) (iP _ _))⟩
  case pos =>
   subst h0;have h:=HL0.o;rw [if_neg (by simp)] at h;have HL1:=aa h;clear h;go_wp2_with fail;refine (Vs w2 A z z bs wO.o.1 (by have:=ch.o;have:=wO.o.1;omega) (Nat.le_refl _) yd.o HE.o).mono ?_;rintro e w3 ⟨j,A3,c3,e2,rfl,ho,hb,hj⟩;have H3:=aa (((H2.o.pick 2 rfl).drop.cQ hb ho).swap);clear ho hb;have HJ:=aa hj
   have aa8:j.code.length≤9223372036854775807:=by
    have h1:=congrArg Prod.fst hj;have h2:=Kl bs;have h3:=ch.o;rw [←h1] at h2;dsimp only at h2;omega
   clear hj;simp only [aw.val];obtain ⟨Q,hQ⟩:∃Q,Q=w3.heap.size:=⟨_,rfl⟩
   obtain ⟨w4,dX⟩:∃v,v=w3.alloc (.cells #[.int .i64 j.part,.int .i64 j.version,.int .i64 j.aY,.int .i64 j.mem,.int .i64 j.fuel,.int .i64 j.aN,.int .i64 j.aB,.slice A3 j.code.length c3] 26):=⟨_,rfl⟩
   have h4:=H3.o.new 26 #[.int .i64 j.part,.int .i64 j.version,.int .i64 j.aY,.int .i64 j.mem,.int .i64 j.fuel,.int .i64 j.aN,.int .i64 j.aB,.slice A3 j.code.length c3];rw [←hQ,←dX] at h4;have H4:=aa h4;have HQ:=aa hQ;have kb:=aa dX;clear h4 hQ dX;have zx:b9 bs=(j,e2):=HJ.o.symm;have wP:=aa zx;have hHL:=HL1.o;rw [zx] at hHL;dsimp only at hHL;have zF:=aa hHL;clear zx hHL HL1;by_cases h2:e2=0
   case neg =>
    have HO:=aa (show (aw.none,e2)=hl by rw [zF.o];exact (if_pos h2).symm);have h2b:(e2 != 0)=true:=by simpa using h2
    have H5:=aa (H4.o.swap.pick 0 rfl);clear h2;go_upto_region 5 with fail;rw [←kb.o,←HQ.o];go_wp2_with (refine aF rfl 26 (.tmp 6) (.tmp 39) rfl R 0 #[.int .i64 0,.int .i64 0,.int .i64 0,.int .i64 0,.int .i64 0,.int .i64 0,.int .i64 0,.slice none 0 0] rfl rfl H5.o.row.1 (by kernel_rfl) (by simp) (by simp [Value.oneCell']) [.int .i64 0,.int .i64 0,.int .i64 0,.int .i64 0,.int .i64 0,.int .i64 0,.int .i64 0,.slice none 0 0] (by simp) ?_);have h:=H5.o.setRow [.int .i64 0,.int .i64 0,.int .i64 0,.int .i64 0,.int .i64 0,.int .i64 0,.int .i64 0,.slice none 0 0];refine bodyPost_ret (aM rfl _ _ R _ _ _ _ _ rfl rfl h.row.1 Tryz.underlying26 rfl (by kernel_rfl)) rfl ?_;exact ⟨aw.none,none,0,_,rfl,HO.o,(h.drop.drop.drop.cQ (Below.refl _ _) (iP _ _))⟩
   case pos =>
    subst h2;have h:=zF.o;rw [if_neg (by simp)] at h;have RV:=aa h;clear h;have mj:=aa (Dt (w:=w4.drew) (bu:=0) (i:=j) (A:=A3) (c:=c3) (LL ((H4.o.pick 3 rfl).drew)) (p:Int) aa8);have tZ:=aa (fun (w':World) (hb:Below w4.heap.size w4 w')=>(po ((H4.o.below hb).pick 3 rfl)).1);have HQR:=aa (fun (w':World) (hb:Below w4.heap.size w4 w')=>(H4.o.below hb).row.1)
    have wJ:=aa (fun (w':World) (hb:Below w4.heap.size w4 w')=>show (fun w'=>w'.cell? ⟨Sd,0,none⟩=some (.int .i64 t.frame)∧w'.cell? ⟨Sd,1,none⟩=some (.slice ad.bK.AP t.parts.length ad.bK.cP)∧w'.cell? ⟨Sd,2,none⟩=some (.slice ad.bK.AW t.aC.length ad.bK.cW)∧w'.cell? ⟨Sd,3,none⟩=some (.slice ad.bK.AC t.au.length ad.bK.cC)∧w'.cell? ⟨Sd,4,none⟩=some (.int .i64 t.ay)∧Sd < w'.heap.size∧w'.cell? ⟨Q,0,none⟩=some (.int .i64 j.part)∧w'.cell? ⟨Q,1,none⟩=some (.int .i64 j.version)∧w'.cell? ⟨Q,2,none⟩=some (.int .i64 j.aY)∧w'.cell? ⟨Q,3,none⟩=some (.int .i64 j.mem)∧w'.cell? ⟨Q,4,none⟩=some (.int .i64 j.fuel)∧w'.cell? ⟨Q,5,none⟩=some (.int .i64 j.aN)∧w'.cell? ⟨Q,6,none⟩=some (.int .i64 j.aB)∧w'.cell? ⟨Q,7,none⟩=some (.slice A3 j.code.length c3)∧Q < w'.heap.size) w' from by
     have h1:=tZ.o w' hb;have h2:=HQR.o w' hb;rw [←rS.o] at h1
     exact ⟨h1.cell 0,h1.cell 1,h1.cell 2,h1.cell 3,h1.cell 4,h1.lt,h2.cell 0,h2.cell 1,h2.cell 2,h2.cell 3,h2.cell 4,h2.cell 5,h2.cell 6,h2.cell 7,h2.lt⟩)
    simp only [en.val,aw.val] at mj;obtain ⟨e3,Mm⟩:∃v,v=bX t p j 0:=⟨_,rfl⟩
    rw [←Mm] at mj RV;clear Mm;go_upto_region 7 with fail;rw [←kb.o,←HQ.o];refine eh (fun w'=>w'.cell? ⟨Sd,0,none⟩=some (.int .i64 t.frame)∧w'.cell? ⟨Sd,1,none⟩=some (.slice ad.bK.AP t.parts.length ad.bK.cP)∧w'.cell? ⟨Sd,2,none⟩=some (.slice ad.bK.AW t.aC.length ad.bK.cW)∧w'.cell? ⟨Sd,3,none⟩=some (.slice ad.bK.AC t.au.length ad.bK.cC)∧w'.cell? ⟨Sd,4,none⟩=some (.int .i64 t.ay)∧Sd < w'.heap.size∧w'.cell? ⟨Q,0,none⟩=some (.int .i64 j.part)∧w'.cell? ⟨Q,1,none⟩=some (.int .i64 j.version)∧w'.cell? ⟨Q,2,none⟩=some (.int .i64 j.aY)∧w'.cell? ⟨Q,3,none⟩=some (.int .i64 j.mem)∧w'.cell? ⟨Q,4,none⟩=some (.int .i64 j.fuel)∧w'.cell? ⟨Q,5,none⟩=some (.int .i64 j.aN)∧w'.cell? ⟨Q,6,none⟩=some (.int .i64 j.aB)∧w'.cell? ⟨Q,7,none⟩=some (.slice A3 j.code.length c3)∧Q < w'.heap.size) (by kernel_rfl) (wJ.o w4.drew (Below.refl w4.heap.size w4).drew) (fun bQ=>?_);(refine ai 0 ?_;(try simp only [af,ae,ah,Act.put,aq,ak,ao]));(refine ai 1 ?_;(try simp only [af,ae,ah,Act.put,aq,ak,ao]));(refine ai 2 ?_;(try simp only [af,ae,ah,Act.put,aq,ak,ao]));(refine ai 3 ?_;(try simp only [af,ae,ah,Act.put,aq,ak,ao]));(refine ai 4 ?_;(try simp only [af,ae,ah,Act.put,aq,ak,ao]));(refine ai 5 ?_;(try simp only [af,ae,ah,Act.put,aq,ak,ao]));(refine dV 6 ?_;(try simp only [af,ae,ah]);go_simp);refine mj.o.mono ?_;rintro e w5 ⟨rfl,hb⟩;have nL:=aa ((Below.refl w4.heap.size w4).drew.trans hb);clear hb;dsimp only;(refine cG (wJ.o w5 nL.o) (fun bQ=>?_);(try simp only [af,ae,ah,Act.put,aq,ak,ao]));(refine ai 7 ?_;(try simp only [af,ae,ah,Act.put,aq,ak,ao]));refine dW (by kernel_rfl) ?_;obtain ⟨⟨q0,q1,q2,q3,q4,q5,q6,q7,q8,q9,q10,q11,q12,q13,q14⟩⟩:=And.intro (wJ.o w5 nL.o) trivial;have H5:=aa ((H4.o.below nL.o).swap);by_cases h3:e3=0
    case neg =>
     have HO:=aa (show (aw.none,e3)=hl by rw [RV.o];exact (if_pos h3).symm);have h3b:(e3 != 0)=true:=by simpa using h3
     clear h3;go_wp2_with (refine aF rfl 26 (.tmp 6) (.tmp 50) rfl R 0 #[.int .i64 0,.int .i64 0,.int .i64 0,.int .i64 0,.int .i64 0,.int .i64 0,.int .i64 0,.slice none 0 0] rfl rfl H5.o.row.1 (by kernel_rfl) (by simp) (by simp [Value.oneCell']) [.int .i64 0,.int .i64 0,.int .i64 0,.int .i64 0,.int .i64 0,.int .i64 0,.int .i64 0,.slice none 0 0] (by simp) ?_);have h:=H5.o.setRow [.int .i64 0,.int .i64 0,.int .i64 0,.int .i64 0,.int .i64 0,.int .i64 0,.int .i64 0,.slice none 0 0];refine bodyPost_ret (aM rfl _ _ R _ _ _ _ _ rfl rfl h.row.1 Tryz.underlying26 rfl (by kernel_rfl)) rfl ?_;exact ⟨aw.none,none,0,_,rfl,HO.o,(h.drop.drop.drop.cQ (Below.refl _ _) (iP _ _))⟩
    case pos =>
     subst h3;have HO:=aa (show (j,0)=hl by rw [RV.o];exact (if_neg (by simp)).symm);go_wp2_with (refine aF rfl 26 (.tmp 6) (.tmp 52) rfl R 0 #[.int .i64 j.part,.int .i64 j.version,.int .i64 j.aY,.int .i64 j.mem,.int .i64 j.fuel,.int .i64 j.aN,.int .i64 j.aB,.slice A3 j.code.length c3] rfl rfl H5.o.row.1 (by kernel_rfl) (by simp) (by simp [Value.oneCell']) [.int .i64 j.part,.int .i64 j.version,.int .i64 j.aY,.int .i64 j.mem,.int .i64 j.fuel,.int .i64 j.aN,.int .i64 j.aB,.slice A3 j.code.length c3] (by simp) ?_);have h:=H5.o.setRow [.int .i64 j.part,.int .i64 j.version,.int .i64 j.aY,.int .i64 j.mem,.int .i64 j.fuel,.int .i64 j.aN,.int .i64 j.aB,.slice A3 j.code.length c3];refine bodyPost_ret (aM rfl _ _ R _ _ _ _ _ rfl rfl h.row.1 Tryz.underlying26 rfl (by kernel_rfl)) rfl ?_;exact ⟨j,A3,c3,_,rfl,HO.o,(h.drop.drop)⟩
end
end store
end Go.Proofs.YtdldkkoplgkloaaGreat
