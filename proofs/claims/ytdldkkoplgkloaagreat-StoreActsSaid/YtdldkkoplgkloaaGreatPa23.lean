/- PROVED HERE: lemmas of the law. CONDITIONS: each names its own. -/
import Derived.Test.YtdldkkoplgkloaaGreatPa0
import Derived.Test.YtdldkkoplgkloaaGreatPa11
import Derived.Test.YtdldkkoplgkloaaGreatPa22
namespace Go.Proofs.YtdldkkoplgkloaaGreat
set_option linter.unusedVariables false
set_option linter.unusedSimpArgs false
set_option maxRecDepth 100000
set_option maxHeartbeats 32000000
open Go.Value renaming int → ae
open Go.IntKind renaming i64 → aa
namespace store
open Go.RowKit Go.Deep base obj mem sep aW aX record bD aG image bN bL
section
variable {m:DS} {k q:Int} {rest:List aI} {xs:List PP} {y:wU} {d n p:Nat} {x:PP} {ad:fy} {t:aY}
structure yy (x:PP):Prop where
 act:x.log.now.au=0∨x.log.now.au=1
 oZ:x.log.now.aj=0∨x.log.now.aj=1
 held:x.log.held=0∨x.log.held=1
 seq:0≤x.log.now.seq
 left:0≤x.log.now.left∧x.log.now.left≤7
 r0:x.s0.has=true→x.s0.st.right=true
 r1:x.s1.has=true→x.s1.st.right=true
theorem yy.sp {x:PP} (h:yy x):x.sp=0∨x.sp=1:=by have:=h.oZ;unfold PP.sp;omega
theorem yy.rk (h:yy x) (k:Int):(x.slot k).has=true→(x.slot k).st.right=true:=by
 unfold PP.slot;split
 ·exact h.r0
 ·exact h.r1
structure iJ (t:aY) (m:DS) (xs:List PP):Prop where
 right:t.right=true
 len:xs.length=t.parts.length
 eQ:m.ia
 bu:m.Good
 room:10*xs.length≤m.ar.length
 pR:m.waits.length≤700
 ok:∀x∈xs,yy x
theorem iJ.at_ (h:iJ t m xs) {p:Nat} (hp:p < xs.length):yy (xs.getD p default):=h.ok _ (by simp [hp])
theorem iJ.n4 (h:iJ t m xs):2≤xs.length∧xs.length≤4:=by rw [h.len];exact (aY.r h.right).np
theorem iJ.pl (h:iJ t m xs) {p:Nat} (hp:p < xs.length) {k:Int} (hk:k=0∨k=1):Pl m p k:=by
 have:=h.n4;have:=h.room;exact ⟨h.bu,h.eQ,by omega,by omega,by omega,by omega,by unfold eg;omega⟩
section
variable {w0 w : World} {l : List aI}
theorem nh (h:St w0 w (aZ ad t d m xs::l)):Row w ad.S 114 (uZ ad t xs.length)∧Sl w w.heap.size 1 ad.AL xs.length (nt ad.al)∧ad.al.length=xs.length:=by
 have h1:=h.fI;simp only [Eg,List.cons_append,List.nil_append] at h1;exact ⟨h1.row.1,Sl.bP (h1.pick 1 rfl).own,(h1.pick 5 rfl).fact⟩
def vwS (ad:fy) (t:aY) (d:Nat) (n p:Nat) (a:nT) (x:PP) (k:Int) (rest:List aI):List aI :=
 [row a.O 102 (ownRow a),log a.L d p x.log.held x.log.now,(if k=0 then slt a.S1 d p 1 x.s1 else slt a.S0 d p 0 x.s0),row ad.S 114 (uZ ad t n),own 94 1 (.slice ad.AL n ad.cL) n (nt ad.al),Dj ad.bN t]++rest
def vwL (ad:fy) (t:aY) (d:Nat) (n p:Nat) (a:nT) (x:PP) (rest:List aI):List aI :=
 [row a.O 102 (ownRow a),slt a.S0 d p 0 x.s0,slt a.S1 d p 1 x.s1,row ad.S 114 (uZ ad t n),own 94 1 (.slice ad.AL n ad.cL) n (nt ad.al),Dj ad.bN t]++rest
theorem Nl {a:nT} (hk:k=0∨k=1) (h:St w0 w (vw ad t d m n p a x rest)) :
  St w0 w (slt (a.slot k) d p k (x.slot k)::bE d m::vwS ad t d n p a x k rest):=by
 rcases hk with rfl|rfl
 ·exact ((((((((h.pick 6 rfl).pick 6 rfl).pick 6 rfl).pick 6 rfl).pick 5 rfl).pick 5 rfl).pick 7 rfl).pick 7 rfl)
 ·exact ((((((((h.pick 6 rfl).pick 6 rfl).pick 6 rfl).pick 5 rfl).pick 5 rfl).pick 5 rfl).pick 7 rfl).pick 7 rfl)
theorem Kf {a:nT} (hk:k=0∨k=1) {s:cy} (h:St w0 w (slt (a.slot k) d p k s::bE d m::vwS ad t d n p a x k rest)) :
  St w0 w (vw ad t d m n p a (x.bj k s) rest):=by
 rcases hk with rfl|rfl
 ·exact ((((((((h.pick 1 rfl).pick 7 rfl).pick 7 rfl).pick 7 rfl).pick 7 rfl).pick 5 rfl).pick 7 rfl).pick 7 rfl)
 ·exact ((((((((h.pick 1 rfl).pick 7 rfl).pick 7 rfl).pick 7 rfl).pick 4 rfl).pick 7 rfl).pick 7 rfl).pick 7 rfl)
theorem Zp {a:nT} (h:St w0 w (vw ad t d m n p a x rest)) :
  St w0 w (log a.L d p x.log.held x.log.now::bE d m::vwL ad t d n p a x rest):=((((((((h.pick 6 rfl).pick 6 rfl).pick 6 rfl).pick 6 rfl).pick 6 rfl).pick 5 rfl).pick 7 rfl).pick 7 rfl)
theorem XI {a:nT} (h:St w0 w (log a.L d p y.held y.now::bE d m::vwL ad t d n p a x rest)) :
  St w0 w (vw ad t d m n p a ⟨y,x.s0,x.s1⟩ rest):=((((((((h.pick 1 rfl).pick 7 rfl).pick 7 rfl).pick 7 rfl).pick 7 rfl).pick 7 rfl).pick 6 rfl).pick 7 rfl)
theorem vW (hp:p < xs.length):xs.set p (xs.getD p default)=xs:=by simp [hp]
def spV (ad:fy) (t:aY) (d:Nat) (xs:List PP) (p:Nat) (s:cy) (m:DS) (l:List aI):List aI :=
 slt ((ad.al.getD p default).slot (xs.getD p default).sp) d p (xs.getD p default).sp s::bE d m::vwS ad t d xs.length p (ad.al.getD p default) (xs.getD p default) (xs.getD p default).sp (du ((fT d ad.al xs).eraseIdx p)::fact (ad.al.length=xs.length)::l)
theorem vA (h:St w0 w (aZ ad t d m xs::l)) {p:Nat} (hp:p < xs.length) (hx:yy (xs.getD p default)) :
  St w0 w (spV ad t d xs p ((xs.getD p default).slot (xs.getD p default).sp) m l):=Nl hx.sp (iX h hp)
theorem Gv {s:cy} (h:St w0 w (spV ad t d xs p s m l)) (hp:p < xs.length) (hx:yy (xs.getD p default)) :
  St w0 w (aZ ad t d m (xs.set p ((xs.getD p default).bj (xs.getD p default).sp s))::l):=Ee (m:=m) hp (Kf hx.sp h)
def lgV (ad:fy) (t:aY) (d:Nat) (xs:List PP) (p:Nat) (y:wU) (m:DS) (l:List aI):List aI :=
 log (ad.al.getD p default).L d p y.held y.now::bE d m::vwL ad t d xs.length p (ad.al.getD p default) (xs.getD p default) (du ((fT d ad.al xs).eraseIdx p)::fact (ad.al.length=xs.length)::l)
theorem vK (h:St w0 w (aZ ad t d m xs::l)) {p:Nat} (hp:p < xs.length):St w0 w (lgV ad t d xs p (xs.getD p default).log m l):=Zp (iX h hp)
theorem Yx (h:St w0 w (lgV ad t d xs p y m l)) (hp:p < xs.length) :
  St w0 w (aZ ad t d m (xs.set p ⟨y,(xs.getD p default).s0,(xs.getD p default).s1⟩)::l):=Ee (m:=m) hp (XI h)
def jv (m:DS) (xs:List PP) (q se sz:Int):Int×DS×List PP :=
 if gL xs q≠0 then (gL xs q,m,xs)
 else
  let x:=xs.getD q.toNat default
  let r:=eL m q x.sp (x.slot x.sp) se sz
  (r.1,r.2.1,xs.set q.toNat (x.bj x.sp r.2.2))
def lf (m:DS) (xs:List PP) (q se no:Int) (data:List Int):Int×DS×List PP :=
 if gL xs q≠0 then (gL xs q,m,xs)
 else
  let x:=xs.getD q.toNat default
  let r:=gU m q x.sp (x.slot x.sp) se no data
  (r.1,r.2.1,xs.set q.toNat (x.bj x.sp r.2.2))
def gR (xs:List PP) (q se:Int):Int :=
 if gL xs q≠0 then gL xs q
 else
  let x:=xs.getD q.toNat default
  if (x.slot x.sp).has=false then 16 else if (x.slot x.sp).st.aC≠se then 17 else 0
def lh (m:DS) (xs:List PP) (q se:Int):Int×DS×List PP :=
 if gR xs q se≠0 then (gR xs q se,m,xs)
 else
  let x:=xs.getD q.toNat default
  let r:=gy m q x.sp (x.slot x.sp)
  (r.1,r.2.1,xs.set q.toNat (x.bj x.sp r.2.2))
theorem IN (h:q < 0∨(xs.length:Int)≤q):gL xs q=3:=if_pos h
theorem V3 (hp:p < xs.length):gL xs p=if (xs.getD p default).ay then 18 else 0:=by
 unfold gL;rw [if_neg (by omega),dC]
theorem Br {a:nT} (h:St w0 w (vw ad t d m n p a x rest)):Calls Tryz.prog 44 #[.pointer (some ⟨a.O,0,none⟩)] w fun e w'=>e=.returned (.bool x.ay)∧Below w.heap.size w w':=Uz h
theorem rD {a:nT} (hx:yy x) (h:St w0 w (vw ad t d m n p a x rest)):Calls Tryz.prog 47 #[.pointer (some ⟨a.O,0,none⟩)] w fun e w'=>e=.returned (.pointer (some ⟨a.slot x.sp,0,none⟩))∧Below w.heap.size w w':=UH hx.oZ h
theorem Ef (h:St w0 w (aZ ad t d m xs::l)) (q:Int) :
  Calls Tryz.prog 49 #[.pointer (some ⟨ad.S,0,none⟩),ae aa q] w fun e w'=>(∃v,e=.returned (.tuple #[v,ae aa (gL xs q)])∧(0≤q∧q < xs.length→v=.pointer (some ⟨(ad.al.getD q.toNat default).O,0,none⟩)))∧Below w.heap.size w w':=by
 obtain ⟨h1,h2,h3⟩:=nh h;by_cases hq:q < 0∨(xs.length:Int)≤q
 ·exact (YP h1 q hq).mono fun e w' ⟨e1,e2⟩=>⟨⟨_,by rw [IN hq];exact e1,fun h=>by omega⟩,by rw [e2];exact Below.refl _ _⟩
 ·obtain ⟨p,rfl⟩:∃p:Nat,q=p:=⟨q.toNat,by omega⟩
  have hp:p < xs.length:=by omega
  exact (YQ h1 h2 h3 p hp _ (Br (iX h hp))).mono fun e w' ⟨e1,e2⟩=>⟨⟨_,by rw [V3 hp];exact e1,fun _=>by rw [dC]⟩,e2⟩
theorem sI (h:gL xs q=0):0≤q∧q < xs.length:=by
 by_cases hq:q < 0∨(xs.length:Int)≤q
 ·rw [IN hq] at h;omega
 ·omega
theorem tR {se:Int} (h:gR xs q se=0):gL xs q=0:=by
 unfold gR at h;by_cases h0:gL xs q=0
 ·exact h0
 ·rw [if_pos h0] at h;exact h
theorem Jp (h:St w0 w (aZ ad t d m xs::l)) (ok:iJ t m xs) (q se sz:Int) :
  Calls Tryz.prog 14 #[.pointer (some ⟨ad.S,0,none⟩),ae aa q,ae aa se,ae aa sz] w fun e w'=>e=.returned (ae aa (jv m xs q se sz).1)∧St w0 w' (aZ ad t d (jv m xs q se sz).2.1 (jv m xs q se sz).2.2::l):=by
 have HF:=af (Ef h q);have H:=af h;by_cases hf:gL xs q=0
 ·have eE:0≤q∧q < xs.length:=by
   have:=sI (xs:=xs) (q:=q) (by first|exact hf|exact tR hf);exact this
  obtain ⟨p,rfl⟩:∃p:Nat,q=p:=⟨q.toNat,by omega⟩
  have hp:p < xs.length:=by omega
  have ez:=ok.at_ hp
  have HD:=af (show jv m xs p se sz=((eL m p (xs.getD p default).sp ((xs.getD p default).slot (xs.getD p default).sp) se sz).1,(eL m p (xs.getD p default).sp ((xs.getD p default).slot (xs.getD p default).sp) se sz).2.1,xs.set p ((xs.getD p default).bj (xs.getD p default).sp (eL m p (xs.getD p default).sp ((xs.getD p default).slot (xs.getD p default).sp) se sz).2.2)) by
   unfold jv
   rw [if_neg (by rw [hf];simp),dC])
  rw [hf] at HF;have jg:=af eE;have kz:=af (fun (w':World) (hb:Below w.heap.size w w')=>rD ez (iX (H.o.below hb) hp));have td:=af (fun (w':World) (hb:Below w.heap.size w w')=>(ru (vA (H.o.below hb) hp ez) (ok.pl hp ez.sp).pk (by have:=ok.pR;omega) se sz).mono fun e mf ⟨h1,h2⟩=>(And.intro h1 (Gv h2 hp ez):_∧_));obtain ⟨sd,ue⟩:=xE (jv m xs p se sz);rw [←ue] at HD ⊢;generalize (xs.getD p default).slot (xs.getD p default).sp=sl at *;generalize FV:(eL m p (xs.getD p default).sp sl se sz)=bm at *;generalize (ad.al.getD p default).slot (xs.getD p default).sp=g at *;clear h hf ue FV ez eE;go_enter Tryz.func14,Tryz.ntmps14;go_wp2_with fail;refine HF.o.mono ?_;rintro e w1 ⟨⟨v,rfl,hv⟩,hb⟩;rw [hv jg.o,dC];have HB:=af hb;clear hv hb;go_wp2_with fail;refine (kz.o w1 HB.o).mono ?_;rintro e w2 ⟨rfl,hb⟩;have aO:=af (HB.o.trans (hb.mono HB.o.size));clear hb;go_wp2_with fail;refine (td.o w2 aO.o).mono ?_;rintro e w3 ⟨rfl,ak⟩;have H3:=af ak;clear ak;go_wp2_with fail;go_ret;rw [HD.o];exact ⟨rfl,H3.o⟩
 ·have HD:=af (show jv m xs q se sz=(gL xs q,m,xs) from if_pos hf);rw [HD.o];generalize gL xs q=fe at *;have hf2:(fe != 0)=true:=by simpa using hf
  clear h hf;go_enter Tryz.func14,Tryz.ntmps14;go_wp2_with fail;refine HF.o.mono ?_;rintro e w1 ⟨⟨v,rfl,hv⟩,hb⟩;have HB:=af hb;clear hv hb;go_wp2_with fail;go_ret;exact ⟨rfl,H.o.below HB.o⟩
theorem Jo (h:St w0 w (aZ ad t d m xs::l)) (ok:iJ t m xs) (q se:Int) :
  Calls Tryz.prog 52 #[.pointer (some ⟨ad.S,0,none⟩),ae aa q,ae aa se] w fun e w'=>(∃v,e=.returned (.tuple #[v,ae aa (gR xs q se)])∧(0≤q∧q < xs.length→v=.pointer (some ⟨(ad.al.getD q.toNat default).O,0,none⟩)))∧Below w.heap.size w w':=by
 have HF:=af (Ef h q);have H:=af h;by_cases hf:gL xs q=0
 ·have eE:0≤q∧q < xs.length:=sI hf;obtain ⟨p,rfl⟩:∃p:Nat,q=p:=⟨q.toNat,by omega⟩
  have hp:p < xs.length:=by omega
  have ez:=ok.at_ hp
  have HD:=af (show gR xs p se=if ((xs.getD p default).slot (xs.getD p default).sp).has=false then 16 else if ((xs.getD p default).slot (xs.getD p default).sp).st.aC≠se then 17 else 0 by
   unfold gR
   rw [if_neg (by rw [hf];simp),dC])
  rw [hf] at HF;have jg:=af eE;have kz:=af (fun (w':World) (hb:Below w.heap.size w w')=>rD ez (iX (H.o.below hb) hp));have DO:=af (fun (w':World) (hb:Below w.heap.size w w')=>Kp (vA (H.o.below hb) hp ez).row.1);obtain ⟨sd,ue⟩:=xE (gR xs p se);rw [←ue] at HD ⊢;generalize (xs.getD p default).slot (xs.getD p default).sp=sl at *;generalize (ad.al.getD p default).slot (xs.getD p default).sp=g at *;rw [dC] at HF ⊢;generalize (ad.al.getD p default).O=O at *;clear h hf ue ez eE;obtain ⟨has,⟨Nu,siz,hav⟩⟩:=sl;simp only at HD DO;cases has with
  | false =>
    have QH:=af (show ∀(w':World),Below w.heap.size w w'→Calls Tryz.prog 48 #[.pointer (some ⟨g,0,none⟩)] w' fun e mf=>e=.returned (.tuple #[.agg #[ae aa 0,ae aa 0,ae aa 0],.bool false])∧Below w'.heap.size w' mf from DO.o);go_enter Tryz.func52,Tryz.ntmps52;go_wp2_with fail;refine HF.o.mono ?_;rintro e w1 ⟨⟨v,rfl,hv⟩,hb⟩;rw [hv jg.o];have HB:=af hb;clear hv hb;go_wp2_with fail;refine (kz.o w1 HB.o).mono ?_;rintro e w2 ⟨rfl,hb⟩;have aO:=af (HB.o.trans (hb.mono HB.o.size));clear hb;go_wp2_with fail;refine (QH.o w2 aO.o).mono ?_;rintro e w3 ⟨rfl,hb⟩;have bM:=af (aO.o.trans (hb.mono aO.o.size));have fD:=af (bM.o.trans (((Below.refl w3.heap.size w3).alloc (Nat.le_refl _) (.cells #[ae aa 0,ae aa 0,ae aa 0] 31)).mono bM.o.size));clear hb;go_wp2_with fail;go_ret2;rw [HD.o];exact ⟨⟨_,rfl,fun _=>rfl⟩,fD.o⟩
  | true =>
    have QH:=af (show ∀(w':World),Below w.heap.size w w'→Calls Tryz.prog 48 #[.pointer (some ⟨g,0,none⟩)] w' fun e mf=>e=.returned (.tuple #[.agg #[ae aa Nu,ae aa siz,ae aa hav],.bool true])∧Below w'.heap.size w' mf from DO.o);by_cases jK:Nu=se
    ·have j8:(Nu != se)=false:=by simpa using jK
     have jV:=af (show sd=0 by rw [HD.o,if_neg (by simp),if_neg (by simpa using jK)]);clear jK;go_enter Tryz.func52,Tryz.ntmps52;go_wp2_with fail;refine HF.o.mono ?_;rintro e w1 ⟨⟨v,rfl,hv⟩,hb⟩;rw [hv jg.o];have HB:=af hb;clear hv hb;go_wp2_with fail;refine (kz.o w1 HB.o).mono ?_;rintro e w2 ⟨rfl,hb⟩;have aO:=af (HB.o.trans (hb.mono HB.o.size));clear hb;go_wp2_with fail;refine (QH.o w2 aO.o).mono ?_;rintro e w3 ⟨rfl,hb⟩;have bM:=af (aO.o.trans (hb.mono aO.o.size));have fD:=af (bM.o.trans (((Below.refl w3.heap.size w3).alloc (Nat.le_refl _) (.cells #[ae aa Nu,ae aa siz,ae aa hav] 31)).mono bM.o.size));clear hb;go_wp2_with fail;go_ret2;rw [jV.o];exact ⟨⟨_,rfl,fun _=>rfl⟩,fD.o⟩
    ·have j8:(Nu != se)=true:=by simpa using jK
     have jV:=af (show sd=17 by rw [HD.o,if_neg (by simp),if_pos (by simpa using jK)]);clear jK;go_enter Tryz.func52,Tryz.ntmps52;go_wp2_with fail;refine HF.o.mono ?_;rintro e w1 ⟨⟨v,rfl,hv⟩,hb⟩;rw [hv jg.o];have HB:=af hb;clear hv hb;go_wp2_with fail;refine (kz.o w1 HB.o).mono ?_;rintro e w2 ⟨rfl,hb⟩;have aO:=af (HB.o.trans (hb.mono HB.o.size));clear hb;go_wp2_with fail;refine (QH.o w2 aO.o).mono ?_;rintro e w3 ⟨rfl,hb⟩;have bM:=af (aO.o.trans (hb.mono aO.o.size));have fD:=af (bM.o.trans (((Below.refl w3.heap.size w3).alloc (Nat.le_refl _) (.cells #[ae aa Nu,ae aa siz,ae aa hav] 31)).mono bM.o.size));clear hb;go_wp2_with fail;go_ret2;rw [jV.o];exact ⟨⟨_,rfl,fun _=>rfl⟩,fD.o⟩
 ·have HD:=af (show gR xs q se=gL xs q from if_pos hf);rw [HD.o];generalize gL xs q=fe at *;have hf2:(fe != 0)=true:=by simpa using hf
  clear h hf;go_enter Tryz.func52,Tryz.ntmps52;go_wp2_with fail;refine HF.o.mono ?_;rintro e w1 ⟨⟨v,rfl,hv⟩,hb⟩;have HB:=af hb;have HV:=af hv;clear hv hb;go_wp2_with fail;go_ret2;exact ⟨⟨_,rfl,HV.o⟩,HB.o⟩
theorem Wg (h:St w0 w (aZ ad t d m xs::l)) (ok:iJ t m xs) (q se:Int) :
  Calls Tryz.prog 17 #[.pointer (some ⟨ad.S,0,none⟩),ae aa q,ae aa se] w fun e w'=>e=.returned (ae aa (lh m xs q se).1)∧St w0 w' (aZ ad t d (lh m xs q se).2.1 (lh m xs q se).2.2::l):=by
 have HF:=af (Jo h ok q se);have H:=af h;by_cases hf:gR xs q se=0
 ·have eE:0≤q∧q < xs.length:=by
   have:=sI (xs:=xs) (q:=q) (by first|exact hf|exact tR hf);exact this
  obtain ⟨p,rfl⟩:∃p:Nat,q=p:=⟨q.toNat,by omega⟩
  have hp:p < xs.length:=by omega
  have ez:=ok.at_ hp
  have HD:=af (show lh m xs p se=((gy m p (xs.getD p default).sp ((xs.getD p default).slot (xs.getD p default).sp)).1,(gy m p (xs.getD p default).sp ((xs.getD p default).slot (xs.getD p default).sp)).2.1,xs.set p ((xs.getD p default).bj (xs.getD p default).sp (gy m p (xs.getD p default).sp ((xs.getD p default).slot (xs.getD p default).sp)).2.2)) by
   unfold lh
   rw [if_neg (by rw [hf];simp),dC])
  rw [hf] at HF;have jg:=af eE;have kz:=af (fun (w':World) (hb:Below w.heap.size w w')=>rD ez (iX (H.o.below hb) hp));have td:=af (fun (w':World) (hb:Below w.heap.size w w')=>(Wk (vA (H.o.below hb) hp ez) (ok.pl hp ez.sp).pk (by have:=ok.pR;omega)).mono fun e mf ⟨h1,h2⟩=>(And.intro h1 (Gv h2 hp ez):_∧_));obtain ⟨sd,ue⟩:=xE (lh m xs p se);rw [←ue] at HD ⊢;generalize (xs.getD p default).slot (xs.getD p default).sp=sl at *;generalize FV:(gy m p (xs.getD p default).sp sl)=bm at *;generalize (ad.al.getD p default).slot (xs.getD p default).sp=g at *;clear h hf ue FV ez eE;go_enter Tryz.func17,Tryz.ntmps17;go_wp2_with fail;refine HF.o.mono ?_;rintro e w1 ⟨⟨v,rfl,hv⟩,hb⟩;rw [hv jg.o,dC];have HB:=af hb;clear hv hb;go_wp2_with fail;refine (kz.o w1 HB.o).mono ?_;rintro e w2 ⟨rfl,hb⟩;have aO:=af (HB.o.trans (hb.mono HB.o.size));clear hb;go_wp2_with fail;refine (td.o w2 aO.o).mono ?_;rintro e w3 ⟨rfl,ak⟩;have H3:=af ak;clear ak;go_wp2_with fail;go_ret;rw [HD.o];exact ⟨rfl,H3.o⟩
 ·have HD:=af (show lh m xs q se=(gR xs q se,m,xs) from if_pos hf);rw [HD.o];generalize gR xs q se=fe at *;have hf2:(fe != 0)=true:=by simpa using hf
  clear h hf;go_enter Tryz.func17,Tryz.ntmps17;go_wp2_with fail;refine HF.o.mono ?_;rintro e w1 ⟨⟨v,rfl,hv⟩,hb⟩;have HB:=af hb;clear hv hb;go_wp2_with fail;go_ret;exact ⟨rfl,H.o.below HB.o⟩
end
end
end store
namespace aG
open Go.RowKit Go.Deep base obj mem bC aX record Go.Proofs.YtdldkkoplgkloaaGreat.bits sep aW bytes
theorem Qt {w0 w:World} {l:List aI} {g d:Nat} {m:DS} {p k:Int} {s:cy} (h:St w0 w (slt g d p k s::bE d m::l)) (hp:Pl m p k) (hh:s.has=true) (hr:s.st.right=true) (ha:qu s) (hd:m.down=true) (fF:m.waits.length≤1000) :
  Calls Tryz.prog 53 #[.pointer (some ⟨g,0,none⟩)] w fun e w'=>e=.returned (.tuple #[.slice none 0 0,ae aa 8])∧St w0 w' (slt g d p k s::bE d m::l):=by
 obtain ⟨⟨z1,z2⟩,⟨z3,z4⟩,z5,z6⟩:=iD hr;have xR:dE ((aQ s.st.size:Nat):Int)=aQ s.st.size:=by unfold dE aQ;omega
 have HF:=af (fun w=>IW s.st.bf ((aQ s.st.size:Nat):Int) w (by rw [xR];exact ha));have HB:=af (fun w=>record.kK w s.st.size (by omega) (by omega));obtain ⟨c0,c1,c2,c3,c4,c5,c6,lg⟩:=fP h.row.1;rw [hh] at c3;obtain ⟨b,hb⟩:=xE (aQ s.st.size);rw [←hb] at HF HB;obtain ⟨n,hn⟩:∃n:Nat,(n:Int)=s.st.size:=⟨s.st.size.toNat,by omega⟩
 rw [←hn] at c5 HB;have hn0:1≤n:=by omega
 have H:=af h;have HP:=af hp;have HN:=af hn;have hda:=hp.at_ (i:=0) (by omega) (by omega);have ux:=af hp.pk;have Gq:=af (fun w=>place.C5 p k (0:Int) w ux.o.p0 ux.o.p1 ux.o.k0 ux.o.k1 (by omega) (by omega));obtain ⟨at_,mo⟩:=xE (eg p k 0);rw [show p*10+(2+k*4+1+0)=at_ by rw [mo];rfl] at Gq;rw [←mo] at hda
 have px:=af (fun (w1:World) (ls:List aI) (h1:St w0 w1 (bE d m::ls))=>by
  have h:=DK h1 at_ (.inr hd) (by omega);rw [if_neg (by omega)] at h
  exact h)
 clear h hh hr ha xR hb z1 z2 z3 z4 z5 z6 hp hd hn mo hda;go_enter Tryz.func53,Tryz.ntmps53;go_wp2_with fail
 go_region_held3 (fun w'=>w'.cell? ⟨g,5,none⟩=some (ae aa (n:Int))∧w'.cell? ⟨g,6,none⟩=some (ae aa s.st.bf)) (first|go_keep|(refine ⟨?_,?_⟩<;>(refine mq bh.o ?_;go_simp))) (first
  | ((with_reducible refine (HB.o _).mono ?_);rintro e w1 ⟨rfl,rfl⟩)
  | ((with_reducible refine (HF.o _).mono ?_);rintro e w1 ⟨rfl,hb⟩;have bh:=af hb;clear hb))
 have H1:=af (H.o.drew.below bh.o);clear c0 c1 c2 c3 c4 c5 c6 lg;go_wp2_with fail;go_loopw [6,7] (fun v i wr=>v=.slice none 0 0∧i=ae aa 0∧St w0 wr (slt g d p k s::bE d m::l)) (fun _ i _=>0)
 case atStart=>exact ⟨rfl,rfl,H1.o⟩
 case round =>
  obtain ⟨rfl,rfl,hi⟩:=hrel;have HI:=af hi;clear hi H1;obtain ⟨c0,c1,c2,c3,c4,c5,c6,lg⟩:=fP HI.o.row.1;rw [←HN.o] at c5;have k0:(0:Int) < (n:Int):=by omega
  go_wp2_with fail
  go_region_held3 (fun w'=>w'.cell? ⟨g,1,none⟩=some (ae aa p)∧w'.cell? ⟨g,2,none⟩=some (ae aa k)) (first|go_keep|(refine ⟨?_,?_⟩<;>(refine mq aO.o ?_;go_simp))) (((with_reducible refine (Gq.o _).mono ?_);rintro e w2 ⟨rfl,hb⟩;have aO:=af hb;clear hb))
  have H2:=af (HI.o.drew.below aO.o);clear c0 c1 c2 c3 c4 c5 c6 lg;obtain ⟨c0,c1,c2,c3,c4,c5,c6,lg⟩:=fP H2.o.row.1;go_wp2_with fail;refine (px.o _ _ H2.o.swap).mono ?_;rintro e w3 ⟨rfl,h3⟩;have H3:=af h3.swap;clear h3 c0 c1 c2 c3 c4 c5 c6 lg;go_wp2_with fail;go_ret2;exact ⟨rfl,H3.o⟩
theorem Jk {w0 w:World} {l:List aI} {g d:Nat} {m:DS} {p k:Int} {s:cy} (h:St w0 w (slt g d p k s::bE d m::l)) (hp:Pl m p k) (hr:s.has=true→s.st.right=true) (fF:m.waits.length≤1000) :
  Calls Tryz.prog 53 #[.pointer (some ⟨g,0,none⟩)] w fun e w'=>∃A n B,e=.returned (.tuple #[.slice A n n,ae aa (b9 m p k s).2])∧qV w0 B A n (b9 m p k s).1∧St w0 w' (B::slt g d p k s::bE d m::l):=by
 cases hd:m.down with
 | false=>exact Wm h hp hr hd fF
 | true =>
   cases hh:s.has with
   | false =>
     rw [show b9 m p k s=([],16) from if_pos hh];exact (Jj h.row.1 hh).mono fun e w' ⟨h1,h2⟩=>⟨none,0,fact True,h1,pQ _,by rw [h2];exact h.addFact trivial⟩
   | true =>
     by_cases ha:qu s
     ·rw [show b9 m p k s=([],8) by unfold b9;rw [if_neg (by rw [hh];simp),if_neg (by simpa using ha),if_pos hd]];exact (Qt h hp hh (hr hh) ha hd fF).mono fun e w' ⟨h1,h2⟩=>⟨none,0,fact True,h1,pQ _,h2.addFact trivial⟩
     ·rw [show b9 m p k s=([],11) by unfold b9;rw [if_neg (by rw [hh];simp),if_pos ha]];exact (AY h.row.1 hh (hr hh) ha).mono fun e w' ⟨h1,h2⟩=>⟨none,0,fact True,h1,pQ _,(h.below h2).addFact trivial⟩
theorem Ap {m:DS} (hb:m.ia) (p k:Int) (s:cy):bn (b9 m p k s).1:=by
 have hc:bn (rq m p k):=fun z hz=>by
  simp only [rq,List.mem_append] at hz;rcases hz with h|h|h
  ·exact hb.now _ z h
  ·exact hb.now _ z h
  ·exact hb.now _ z h
 have h0:bn []:=fun z hz=>by cases hz
 unfold b9;split
 ·exact h0
 ·split
  ·exact h0
  ·split
   ·exact h0
   ·exact fun z hz=>hc z (List.mem_of_mem_take hz)
end aG
namespace image
open Go.RowKit num bC
theorem RC (s:Option (List Int)) (n:Nat) (h:∀b,s=some b→b.length≤n):(eZ s).1.length≤n:=by
 cases s with
 | none=>simp [eZ]
 | some b =>
   have:=h b rfl;unfold eZ;dsimp only;split
   ·simp
   ·rw [fW,List.length_drop];omega
theorem pI (s:Option (List Int)) (k n:Nat) (h:∀b,s=some b→b.length≤n):∀b,(rdNum k s).2=some b→b.length≤n:=by
 cases s with
 | none=>intro b hb;simp [rdNum] at hb
 | some c =>
   intro b hb;unfold rdNum at hb;dsimp only at hb;split at hb
   ·simp at hb
   ·simp only [Option.some.injEq] at hb;subst hb;have:=h c rfl;rw [List.length_drop];omega
theorem LM (b:List Int):(b8 b).1.code.length≤b.length:=by
 have h0:aq.none.code.length=0:=rfl;unfold b8;split
 ·rw [h0];omega
 ·split
  ·unfold kQ;split
   ·rw [h0];omega
   ·split
    ·rw [h0];omega
    ·split
     ·have hs:∀c,(some (b.take (b.length-36)))=some c→c.length≤b.length:=fun c hc=>by
       injection hc with hc;subst hc
       rw [fW];omega
      exact RC _ _ (pI _ 1 _ (pI _ 1 _ (pI _ 1 _ (pI _ 1 _ (pI _ 2 _ (pI _ 2 _ (pI _ 1 _ (pI _ 2 _ hs))))))))
     ·rw [h0];omega
  ·rw [h0];omega
end image
namespace store
open Go.RowKit Go.Deep base obj mem sep aW aX record bD aG image bN bL chain
section
variable {m:DS} {k:Int} {xs:List PP} {d p:Nat} {s:cy} {ad:fy} {t:aY}
section
variable {w0 w : World} {l : List aI}
def Rc (ad:fy) (t:aY) (d:Nat) (xs:List PP) (p:Nat) (k:Int) (s:cy) (m:DS) (l:List aI):List aI :=
 slt ((ad.al.getD p default).slot k) d p k s::bE d m::vwS ad t d xs.length p (ad.al.getD p default) (xs.getD p default) k (du ((fT d ad.al xs).eraseIdx p)::fact (ad.al.length=xs.length)::l)
theorem XU (h:St w0 w (aZ ad t d m xs::l)) {p:Nat} (hp:p < xs.length) {k:Int} (hk:k=0∨k=1) :
  St w0 w (Rc ad t d xs p k ((xs.getD p default).slot k) m l):=Nl hk (iX h hp)
theorem XT (h:St w0 w (Rc ad t d xs p k s m l)) (hp:p < xs.length) (hk:k=0∨k=1) :
  St w0 w (aZ ad t d m (xs.set p ((xs.getD p default).bj k s))::l):=Ee (m:=m) hp (Kf hk h)
theorem Ks (x:PP) (k:Int):x.bj k (x.slot k)=x:=by
 unfold PP.bj PP.slot;split<;>rfl
theorem Nt (h:St w0 w (Rc ad t d xs p k ((xs.getD p default).slot k) m l)) (hp:p < xs.length) (hk:k=0∨k=1) :
  St w0 w (aZ ad t d m xs::l):=by
 have h1:=XT h hp hk;rw [Ks,vW hp] at h1;exact h1
theorem Rb {B:aI} (h:St w0 w (B::Rc ad t d xs p k s m l)):St w0 w (Rc ad t d xs p k s m (B::l)) :=
 h.perm (List.perm_middle (l₁:=[_,_,_,_,_,_,_,_,_,_]) (l₂:=l)).symm
theorem Nr (h:St w0 w (aZ ad t d m xs::l)):ko w ad.bN t:=by
 have h1:=h.fI;simp only [Eg,List.cons_append,List.nil_append] at h1;exact abt (h1.pick 2 rfl)
theorem qj (h:St w0 w (aZ ad t d m xs::l)) {p:Nat} (hp:p < xs.length):Row w (ad.al.getD p default).O 102 (ownRow (ad.al.getD p default)):=(iX h hp).row.1
def dq (t:aY) (m:DS) (p:Nat) (x:PP) (k:Int):aq×Int :=
 if (b9 m p k (x.slot k)).2≠0 then (aq.none,(b9 m p k (x.slot k)).2)
 else if (b8 (b9 m p k (x.slot k)).1).2≠0 then (aq.none,(b8 (b9 m p k (x.slot k)).1).2)
 else if bX t p (b8 (b9 m p k (x.slot k)).1).1 0≠0 then (aq.none,bX t p (b8 (b9 m p k (x.slot k)).1).1 0)
 else ((b8 (b9 m p k (x.slot k)).1).1,0)
theorem ui (h:St w0 w (aZ ad t d m xs::l)) (ok:iJ t m xs) {p:Nat} (hp:p < xs.length) {k:Int} (hk:k=0∨k=1) :
  Calls Tryz.prog 45 #[.pointer (some ⟨ad.S,0,none⟩),ae aa p,ae aa k] w fun e w'=>∃(i:aq) (A:Option Addr) (c:Nat) (er:Int),e=.returned (.tuple #[i.val A c,ae aa er])∧(i,er)=dq t m p (xs.getD p default) k∧St w0 w' (own 5 1 (.slice A i.code.length c) i.code.length (aP i.code)::aZ ad t d m xs::l):=by
 obtain ⟨R,hR⟩:=xE w.heap.size;obtain ⟨w1,aF⟩:=xE (w.alloc (.cells gA 26))
 have H1:=af (show St w0 w1 (row R 26 eo::aZ ad t d m xs::l) by
  have h:=h.new 26 gA;rw [←hR,←aF] at h
  exact h)
 have ez:=ok.at_ hp;obtain ⟨s1,s2,s3⟩:=nh H1.o.swap;obtain ⟨b,off,S4,cm,pN⟩:=s2.2 (by omega);have cp:w1.cell? ⟨b,off+p,none⟩=some (.pointer (some ⟨(ad.al.getD p default).O,0,none⟩)):=pN p _ (by simp [nt,show p < ad.al.length by omega]);have c5:=s1.c5;have lS:=s1.lt;have ho:=qj H1.o.swap hp
 have co:w1.cell? ⟨(ad.al.getD p default).O,1+k.toNat,none⟩=some (.pointer (some ⟨(ad.al.getD p default).slot k,0,none⟩)):=by
  rcases hk with rfl|rfl
  ·exact ho.cell 1
  ·exact ho.cell 2
 have lO:=ho.lt;have k0:(0:Int)≤(p:Int):=by omega
 have k1:(p:Int) < (xs.length:Int):=by omega
 have lM:=af ((Jk (XU H1.o.swap hp hk) (ok.pl hp hk) (ez.rk k) (by have:=ok.pR;omega)).mono fun e w' ⟨A,n,B,h1,h2,h3⟩=>(⟨A,n,B,h1,h2,(Nt (Rb h3) hp hk).pick 2 rfl⟩:∃A n B,e=Ending.returned (.tuple #[.slice A n n,ae aa (b9 m p k ((xs.getD p default).slot k)).2])∧qV w0 B A n (b9 m p k ((xs.getD p default).slot k)).1∧St w0 w' (row R 26 eo::aZ ad t d m xs::B::l)));have HL0:=af (show dq t m p (xs.getD p default) k=if (b9 m p k ((xs.getD p default).slot k)).2≠0 then (aq.none,(b9 m p k ((xs.getD p default).slot k)).2) else if (b8 (b9 m p k ((xs.getD p default).slot k)).1).2≠0 then (aq.none,(b8 (b9 m p k ((xs.getD p default).slot k)).1).2) else if bX t p (b8 (b9 m p k ((xs.getD p default).slot k)).1).1 0≠0 then (aq.none,bX t p (b8 (b9 m p k ((xs.getD p default).slot k)).1).1 0) else ((b8 (b9 m p k ((xs.getD p default).slot k)).1).1,0) from rfl);have Cw:=af (Ap ok.eQ p k ((xs.getD p default).slot k));have ch:=af (F9 (m:=m) (p:=p) (k:=k) (ez.rk k));obtain ⟨hl,II⟩:=xE (dq t m p (xs.getD p default) k);rw [←II] at HL0 ⊢;generalize b9 m p k ((xs.getD p default).slot k)=bb at *;obtain ⟨bs,e1⟩:=bb;dsimp only at HL0 Cw ch lM;rw [S4] at c5;obtain ⟨n,hn⟩:=xE xs.length;rw [←hn] at c5 k1;obtain ⟨O,hO⟩:∃O,O=(ad.al.getD p default).O:=⟨_,rfl⟩
 rw [←hO] at cp co lO;obtain ⟨g,hg⟩:∃g,g=(ad.al.getD p default).slot k:=⟨_,rfl⟩
 rw [←hg] at co lM;obtain ⟨Sd,Og⟩:=xE ad.S;rw [←Og] at c5 lS ⊢;have sW:=af Og;have br:=af aF;have HR:=af hR;have DU:=af hk;clear aF hR h ok ez s1 s2 s3 S4 pN ho II hn hO hg Og;rcases hk with rfl|rfl
 all_goals
  simp only [Int.toNat_zero,Int.toNat_one,Nat.add_zero,Nat.reduceAdd] at co;go_enter Tryz.func45,Tryz.ntmps45;go_upto_region 1 with fail;rw [←br.o,←HR.o];go_wp2_with fail;refine lM.o.mono ?_;rintro e w2 ⟨A,z,B,rfl,Ls,ak⟩;have H2:=af ak;have yl:=af Ls;have HE:=af (Ls.2 w2 _ (H2.o.pick 2 rfl));clear ak Ls c5 lS cp co lO;by_cases h0:e1=0
  case neg =>
   have HO:=af (show (aq.none,e1)=hl by rw [HL0.o];exact (if_pos h0).symm);have h0b:(e1 != 0)=true:=by simpa using h0
   have H3:=af ((H2.o.pick 2 rfl).drop);clear h0;go_wp2_with (refine aB rfl 26 (.tmp 6) (.tmp 30) rfl R 0 gA rfl rfl H3.o.row.1 (by kernel_rfl) (by simp) (by simp [Value.oneCell']) eo (by simp) ?_);have h:=H3.o.setRow eo;refine bodyPost_ret (aL rfl _ _ R _ _ _ _ _ rfl rfl h.row.1 Tryz.underlying26 rfl (by kernel_rfl)) rfl ?_;exact ⟨aq.none,none,0,_,rfl,HO.o,(h.drop.cX (Below.refl _ _) (jk _ _))⟩
  case pos =>
   subst h0;have h:=HL0.o;rw [if_neg (by simp)] at h;have HL1:=af h;clear h;go_wp2_with fail;refine (Xk w2 A z z bs yl.o.1 (by have:=ch.o;have:=yl.o.1;omega) (Nat.le_refl _) Cw.o HE.o).mono ?_;rintro e w3 ⟨j,A3,c3,e2,rfl,ho,hb,hj⟩;have H3:=af (((H2.o.pick 2 rfl).drop.cX hb ho).swap);clear ho hb;have HJ:=af hj
   have acM:j.code.length≤9223372036854775807:=by
    have h1:=congrArg Prod.fst hj;have h2:=LM bs;have h3:=ch.o;rw [←h1] at h2;dsimp only at h2;omega
   clear hj;simp only [aq.val];obtain ⟨Q,hQ⟩:=xE w3.heap.size;obtain ⟨w4,dW⟩:=xE (w3.alloc (.cells #[ae aa j.part,ae aa j.version,ae aa j.aV,ae aa j.mem,ae aa j.fuel,ae aa j.aM,ae aa j.ax,.slice A3 j.code.length c3] 26));have h4:=H3.o.new 26 #[ae aa j.part,ae aa j.version,ae aa j.aV,ae aa j.mem,ae aa j.fuel,ae aa j.aM,ae aa j.ax,.slice A3 j.code.length c3];rw [←hQ,←dW] at h4;have H4:=af h4;have HQ:=af hQ;have kL:=af dW;clear h4 hQ dW;have AQ:b8 bs=(j,e2):=HJ.o.symm;have ym:=af AQ;have hHL:=HL1.o;rw [AQ] at hHL;dsimp only at hHL;have Bb:=af hHL;clear AQ hHL HL1;by_cases h2:e2=0
   case neg =>
    have HO:=af (show (aq.none,e2)=hl by rw [Bb.o];exact (if_pos h2).symm);have h2b:(e2 != 0)=true:=by simpa using h2
    have H5:=af (H4.o.swap.pick 0 rfl);clear h2;go_upto_region 5 with fail;rw [←kL.o,←HQ.o];go_wp2_with (refine aB rfl 26 (.tmp 6) (.tmp 39) rfl R 0 gA rfl rfl H5.o.row.1 (by kernel_rfl) (by simp) (by simp [Value.oneCell']) eo (by simp) ?_);have h:=H5.o.setRow eo;refine bodyPost_ret (aL rfl _ _ R _ _ _ _ _ rfl rfl h.row.1 Tryz.underlying26 rfl (by kernel_rfl)) rfl ?_;exact ⟨aq.none,none,0,_,rfl,HO.o,(h.drop.drop.drop.cX (Below.refl _ _) (jk _ _))⟩
   case pos =>
    subst h2;have h:=Bb.o;rw [if_neg (by simp)] at h;have TZ:=af h;clear h;have mP:=af (EL (w:=w4.drew) (bG:=0) (i:=j) (A:=A3) (c:=c3) (Nr ((H4.o.pick 3 rfl).drew)) (p:Int) acM);have uU:=af (fun (w':World) (hb:Below w4.heap.size w4 w')=>(nh ((H4.o.below hb).pick 3 rfl)).1);have HQR:=af (fun (w':World) (hb:Below w4.heap.size w4 w')=>(H4.o.below hb).row.1)
    have yd:=af (fun (w':World) (hb:Below w4.heap.size w4 w')=>show (fun w'=>w'.cell? ⟨Sd,0,none⟩=some (ae aa t.frame)∧w'.cell? ⟨Sd,1,none⟩=some (.slice ad.bN.AP t.parts.length ad.bN.cP)∧w'.cell? ⟨Sd,2,none⟩=some (.slice ad.bN.AW t.aJ.length ad.bN.cW)∧w'.cell? ⟨Sd,3,none⟩=some (.slice ad.bN.AC t.av.length ad.bN.cC)∧w'.cell? ⟨Sd,4,none⟩=some (ae aa t.ay)∧Sd < w'.heap.size∧w'.cell? ⟨Q,0,none⟩=some (ae aa j.part)∧w'.cell? ⟨Q,1,none⟩=some (ae aa j.version)∧w'.cell? ⟨Q,2,none⟩=some (ae aa j.aV)∧w'.cell? ⟨Q,3,none⟩=some (ae aa j.mem)∧w'.cell? ⟨Q,4,none⟩=some (ae aa j.fuel)∧w'.cell? ⟨Q,5,none⟩=some (ae aa j.aM)∧w'.cell? ⟨Q,6,none⟩=some (ae aa j.ax)∧w'.cell? ⟨Q,7,none⟩=some (.slice A3 j.code.length c3)∧Q < w'.heap.size) w' from by
     have h1:=uU.o w' hb;have h2:=HQR.o w' hb;rw [←sW.o] at h1
     exact ⟨h1.cell 0,h1.cell 1,h1.cell 2,h1.cell 3,h1.cell 4,h1.lt,h2.cell 0,h2.cell 1,h2.cell 2,h2.cell 3,h2.cell 4,h2.cell 5,h2.cell 6,h2.cell 7,h2.lt⟩)
    simp only [dF.val,aq.val] at mP;obtain ⟨e3,Ob⟩:=xE (bX t p j 0);rw [←Ob] at mP TZ;clear Ob;go_upto_region 7 with fail;rw [←kL.o,←HQ.o];refine eb (fun w'=>w'.cell? ⟨Sd,0,none⟩=some (ae aa t.frame)∧w'.cell? ⟨Sd,1,none⟩=some (.slice ad.bN.AP t.parts.length ad.bN.cP)∧w'.cell? ⟨Sd,2,none⟩=some (.slice ad.bN.AW t.aJ.length ad.bN.cW)∧w'.cell? ⟨Sd,3,none⟩=some (.slice ad.bN.AC t.av.length ad.bN.cC)∧w'.cell? ⟨Sd,4,none⟩=some (ae aa t.ay)∧Sd < w'.heap.size∧w'.cell? ⟨Q,0,none⟩=some (ae aa j.part)∧w'.cell? ⟨Q,1,none⟩=some (ae aa j.version)∧w'.cell? ⟨Q,2,none⟩=some (ae aa j.aV)∧w'.cell? ⟨Q,3,none⟩=some (ae aa j.mem)∧w'.cell? ⟨Q,4,none⟩=some (ae aa j.fuel)∧w'.cell? ⟨Q,5,none⟩=some (ae aa j.aM)∧w'.cell? ⟨Q,6,none⟩=some (ae aa j.ax)∧w'.cell? ⟨Q,7,none⟩=some (.slice A3 j.code.length c3)∧Q < w'.heap.size) (by kernel_rfl) (yd.o w4.drew (Below.refl w4.heap.size w4).drew) (fun bJ=>?_);(refine ah 0 ?_;(try simp only [ai]));(refine ah 1 ?_;(try simp only [ai]));(refine ah 2 ?_;(try simp only [ai]));(refine ah 3 ?_;(try simp only [ai]));(refine ah 4 ?_;(try simp only [ai]));(refine ah 5 ?_;(try simp only [ai]));(refine dQ 6 ?_;(try simp only [xG]);go_simp);refine mP.o.mono ?_;rintro e w5 ⟨rfl,hb⟩;have lN:=af ((Below.refl w4.heap.size w4).drew.trans hb);clear hb;dsimp only;(refine cu (yd.o w5 lN.o) (fun bJ=>?_);(try simp only [ai]));(refine ah 7 ?_;(try simp only [ai]));refine dw (by kernel_rfl) ?_;obtain ⟨⟨q0,q1,q2,q3,q4,q5,q6,q7,q8,q9,q10,q11,q12,q13,q14⟩⟩:=And.intro (yd.o w5 lN.o) trivial;have H5:=af ((H4.o.below lN.o).swap);by_cases h3:e3=0
    case neg =>
     have HO:=af (show (aq.none,e3)=hl by rw [TZ.o];exact (if_pos h3).symm);have h3b:(e3 != 0)=true:=by simpa using h3
     clear h3;go_wp2_with (refine aB rfl 26 (.tmp 6) (.tmp 50) rfl R 0 gA rfl rfl H5.o.row.1 (by kernel_rfl) (by simp) (by simp [Value.oneCell']) eo (by simp) ?_);have h:=H5.o.setRow eo;refine bodyPost_ret (aL rfl _ _ R _ _ _ _ _ rfl rfl h.row.1 Tryz.underlying26 rfl (by kernel_rfl)) rfl ?_;exact ⟨aq.none,none,0,_,rfl,HO.o,(h.drop.drop.drop.cX (Below.refl _ _) (jk _ _))⟩
    case pos =>
     subst h3;have HO:=af (show (j,0)=hl by rw [TZ.o];exact (if_neg (by simp)).symm);go_wp2_with (refine aB rfl 26 (.tmp 6) (.tmp 52) rfl R 0 #[ae aa j.part,ae aa j.version,ae aa j.aV,ae aa j.mem,ae aa j.fuel,ae aa j.aM,ae aa j.ax,.slice A3 j.code.length c3] rfl rfl H5.o.row.1 (by kernel_rfl) (by simp) (by simp [Value.oneCell']) [ae aa j.part,ae aa j.version,ae aa j.aV,ae aa j.mem,ae aa j.fuel,ae aa j.aM,ae aa j.ax,.slice A3 j.code.length c3] (by simp) ?_);have h:=H5.o.setRow [ae aa j.part,ae aa j.version,ae aa j.aV,ae aa j.mem,ae aa j.fuel,ae aa j.aM,ae aa j.ax,.slice A3 j.code.length c3];refine bodyPost_ret (aL rfl _ _ R _ _ _ _ _ rfl rfl h.row.1 Tryz.underlying26 rfl (by kernel_rfl)) rfl ?_;exact ⟨j,A3,c3,_,rfl,HO.o,(h.drop.drop)⟩
end
end
end store
end Go.Proofs.YtdldkkoplgkloaaGreat
