/-
  PROVED HERE: lemmas and contracts that the law's proof leans on (texts put together: Tab, TabFunc, TabRight, CrcMath, NumMath).
  CONDITIONS: each names its own.
-/
import Derived.BigQuiet
import Derived.Deep.CutBlock
import Derived.Deep.DeepCutAuto
import Derived.Deep.RegionWith
import Derived.IntWalk
import Derived.OwnWalk
import Derived.Test.YtdldkkoplgkloaaGreatPz0
import Derived.Test.YtdldkkoplgkloaaGreatPz1
namespace Go.Proofs.YtdldkkoplgkloaaGreat
set_option linter.unusedVariables false
set_option linter.unusedSimpArgs false
set_option maxRecDepth 100000
set_option maxHeartbeats 32000000
namespace tab

open Go.RowKit base obj mem sep plan
structure T3 where
 a:Int
 b:Int
 c:Int
deriving DecidableEq
instance:Inhabited T3:=⟨⟨0,0,0⟩⟩
def T3.cells (x:T3):List Value:=[.int .i64 x.a,.int .i64 x.b,.int .i64 x.c]
abbrev T3.agg (x:T3):Value:=.agg #[.int .i64 x.a,.int .i64 x.b,.int .i64 x.c]
def t3s (l:List T3):List Value:=(l.map T3.cells).flatten
theorem t3s_snoc (l:List T3) (x:T3):t3s (l++[x])=t3s l++x.cells:=by simp [t3s]
theorem t3s_get {w:World} {B n:Nat} {A:Option Addr} {l:List T3} (h:Sl w B 3 A n (t3s l)) (hn:n=l.length) {k:Nat} (hk:k < l.length) :
  ∃b off,A=some ⟨b,off,none⟩∧b < B∧w.cell? ⟨b,off+k*3,none⟩=some (.int .i64 l[k].a)∧w.cell? ⟨b,off+k*3+1,none⟩=some (.int .i64 l[k].b)∧w.cell? ⟨b,off+k*3+2,none⟩=some (.int .i64 l[k].c):=by
 obtain ⟨b,off,rfl,hbl,hc⟩:=h.2 (by omega)
 have h9:∀x∈l.map T3.cells,x.length=3:=by
  intro x hx
  obtain ⟨a,_,rfl⟩:=List.mem_map.1 hx
  rfl
 have e:=flat_elem h9 (i:=k) (by simpa using hk)
 have g:∀j,j < 3→(t3s l)[k*3+j]?=(T3.cells l[k])[j]?:=by
  intro j hj
  have e2:(((l.map T3.cells).flatten.drop (k*3)).take 3)[j]?=(l.map T3.cells).flatten[k*3+j]?:=by
   rw [List.getElem?_take,if_pos hj,List.getElem?_drop]
  rw [e] at e2
  rw [t3s,←e2]
  simp
 refine ⟨b,off,rfl,hbl,?_,?_,?_⟩
 ·exact hc (k*3) _ ((g 0 (by omega)).trans rfl)
 ·rw [Nat.add_assoc];exact hc (k*3+1) _ ((g 1 (by omega)).trans rfl)
 ·rw [Nat.add_assoc];exact hc (k*3+2) _ ((g 2 (by omega)).trans rfl)
structure Tab where
 frame:Int
 parts:List T3
 wins:List T3
 chans:List T3
 trial:Int
structure TabV (w:World) (B:Nat) (t:Tab) (AP:Option Addr) (nP cP:Nat) (AW:Option Addr) (nW cW:Nat) (AC:Option Addr) (nC cC:Nat):Prop where
 ps:Sl w B 3 AP nP (t3s t.parts)
 ws:Sl w B 3 AW nW (t3s t.wins)
 cs:Sl w B 3 AC nC (t3s t.chans)
 lp:nP=t.parts.length
 lw:nW=t.wins.length
 lc:nC=t.chans.length
 mp:nP≤maxLen
 mw:nW≤maxLen
 mc:nC≤maxLen
abbrev tabAgg (f:Int) (AP:Option Addr) (nP cP:Nat) (AW:Option Addr) (nW cW:Nat) (AC:Option Addr) (nC cC:Nat) (tr:Int):Value :=
 .agg #[.int .i64 f,.slice AP nP cP,.slice AW nW cW,.slice AC nC cC,.int .i64 tr]
theorem TabV.below {w w':World} {B:Nat} {t:Tab} {AP AW AC:Option Addr} {nP cP nW cW nC cC:Nat} (h:TabV w B t AP nP cP AW nW cW AC nC cC) (k:Below B w w'):TabV w' B t AP nP cP AW nW cW AC nC cC :=
 ⟨h.ps.below k,h.ws.below k,h.cs.below k,h.lp,h.lw,h.lc,h.mp,h.mw,h.mc⟩
theorem TabV.more {w:World} {B B':Nat} {t:Tab} {AP AW AC:Option Addr} {nP cP nW cW nC cC:Nat} (h:TabV w B t AP nP cP AW nW cW AC nC cC) (k:B≤B'):TabV w B' t AP nP cP AW nW cW AC nC cC :=
 ⟨h.ps.more k,h.ws.more k,h.cs.more k,h.lp,h.lw,h.lc,h.mp,h.mw,h.mc⟩
theorem TabV.over {w w':World} {t:Tab} {AP AW AC:Option Addr} {nP cP nW cW nC cC:Nat} (h:TabV w w.heap.size t AP nP cP AW nW cW AC nC cC) (k:Below w.heap.size w w'):TabV w' w'.heap.size t AP nP cP AW nW cW AC nC cC :=
 (h.below k).more k.size
def okr (n a b:Int):Bool:=decide (a≤n∧n≤b)
theorem in_at (w:World) (n a b:Int):Calls Tryz.prog 147 #[.int .i64 n,.int .i64 a,.int .i64 b] w fun e w'=>e=.returned (.bool (okr n a b))∧w'=w:=by
 have HK:=Lib.hid (show okr n a b=decide (a≤n∧n≤b) from rfl)
 go_enter Tryz.func147,Tryz.ntmps147
 by_cases h1:n≥a
 ·by_cases h2:n≤b
  ·go_wp2_with (fail)
   go_ret
   exact ⟨ret_bool (by rw [HK.out,decide_eq_true ⟨h1,h2⟩]),rfl⟩
  ·go_wp2_with (fail)
   go_ret
   exact ⟨ret_bool (by rw [HK.out,decide_eq_false (by omega)]),rfl⟩
 ·go_wp2_with (fail)
  go_ret
  exact ⟨ret_bool (by rw [HK.out,decide_eq_false (by omega)]),rfl⟩
def T3.part (x:T3):Bool:=okr x.a 1 16&&(okr x.b 1 32&&okr x.c 0 65535)
theorem bad_at (w:World) (x:T3):Calls Tryz.prog 149 #[x.agg] w fun e w'=>e=.returned (.bool (!x.part))∧Below w.heap.size w w':=by
 obtain ⟨a,b,c⟩:=x
 have HK:=Lib.hid (show T3.part ⟨a,b,c⟩=(okr a 1 16&&(okr b 1 32&&okr c 0 65535)) from rfl)
 have HB:=Lib.hid ((Below.refl w.heap.size w).alloc (Nat.le_refl _) (.cells #[.int .i64 a,.int .i64 b,.int .i64 c] 147))
 cases h1:okr a 1 16
 ·have HR:=Lib.hid (show (!T3.part ⟨a,b,c⟩)=true by rw [HK.out,h1];rfl)
  go_enter Tryz.func149,Tryz.ntmps149
  go_wp2_with (go_at_call 147;refine (in_at _ _ _ _).mono ?_;rintro e w' ⟨rfl,rfl⟩)
  go_ret
  exact ⟨ret_bool HR.out.symm,HB.out⟩
 ·cases h2:okr b 1 32
  ·have HR:=Lib.hid (show (!T3.part ⟨a,b,c⟩)=true by rw [HK.out,h1,h2];rfl)
   go_enter Tryz.func149,Tryz.ntmps149
   go_wp2_with (go_at_call 147;refine (in_at _ _ _ _).mono ?_;rintro e w' ⟨rfl,rfl⟩)
   go_ret
   exact ⟨ret_bool HR.out.symm,HB.out⟩
  ·have HR:=Lib.hid (show (!T3.part ⟨a,b,c⟩)=!okr c 0 65535 by rw [HK.out,h1,h2];rfl)
   go_enter Tryz.func149,Tryz.ntmps149
   go_wp2_with (go_at_call 147;refine (in_at _ _ _ _).mono ?_;rintro e w' ⟨rfl,rfl⟩)
   go_ret
   exact ⟨ret_bool HR.out.symm,HB.out⟩
section
variable {w : World} {t : Tab} {AP AW AC : Option Addr} {nP cP nW cW nC cC : Nat}
theorem has_at (h:TabV w w.heap.size t AP nP cP AW nW cW AC nC cC) (p:Int):Calls Tryz.prog 153 #[tabAgg t.frame AP nP cP AW nW cW AC nC cC t.trial,.int .i64 p] w fun e w'=>e=.returned (.bool (okr p 0 (t.parts.length-1)))∧Below w.heap.size w w':=by
 have hm:=h.mp
 have HL:=Lib.hid h.lp
 have hw:wrap64 ((nP:Int)-1)=(nP:Int)-1:=by
  unfold maxLen at hm
  exact IntWalk.wrap64_in _ (by omega)
 clear h
 have HB:=Lib.hid ((Below.refl w.heap.size w).alloc (Nat.le_refl _) (.cells #[.int .i64 t.frame,.slice AP nP cP,.slice AW nW cW,.slice AC nC cC,.int .i64 t.trial] 46))
 go_enter Tryz.func153,Tryz.ntmps153
 go_wp2_with (fail)
 refine (in_at _ _ _ _).mono ?_
 rintro e w' ⟨rfl,rfl⟩
 rw [hw]
 go_wp2_with (fail)
 go_ret
 exact ⟨ret_bool (by rw [HL.out]),HB.out⟩
abbrev tabRow (f:Int) (AP:Option Addr) (nP cP:Nat) (AW:Option Addr) (nW cW:Nat) (AC:Option Addr) (nC cC:Nat) (tr:Int):List Value :=
 [.int .i64 f,.slice AP nP cP,.slice AW nW cW,.slice AC nC cC,.int .i64 tr]
def winOk (n:Nat) (fr e:Int) (x:T3):Bool:=okr x.a 0 ((n:Int)-1)&&(decide (e≤x.b)&&(decide (x.b≤fr)&&(decide (1≤x.c)&&decide (x.c≤fr-x.b))))
def winsOk (n:Nat) (fr:Int):Int→List T3→Bool
 | _,[]=>true
 | e,x::l=>winOk n fr e x&&winsOk n fr (x.b+x.c) l
def Tab.winsR (t:Tab):Bool:=winsOk t.parts.length t.frame 0 t.wins&&((t.wins.any fun x=>x.a==0)&&decide (t.wins.length≤8))
structure WI (t:Tab) (k:Nat) (e:Int) (care:Bool):Prop where
 ok:winsOk t.parts.length t.frame 0 t.wins=winsOk t.parts.length t.frame e (t.wins.drop k)
 care:care=(t.wins.take k).any fun x=>x.a==0
 e0:0≤e
 e1:e≤64
theorem WI.start (t:Tab):WI t 0 0 false:=⟨by simp,by simp,by omega,by omega⟩
theorem WI.bad {t:Tab} {k:Nat} {e:Int} {care:Bool} (h:WI t k e care) (hk:k < t.wins.length) (hb:winOk t.parts.length t.frame e t.wins[k]=false):t.winsR=false:=by
 unfold Tab.winsR
 rw [h.ok,List.drop_eq_getElem_cons hk]
 simp [winsOk,hb]
theorem winOk_true {n:Nat} {fr e:Int} {x:T3} (h:winOk n fr e x=true):okr x.a 0 ((n:Int)-1)=true∧e≤x.b∧x.b≤fr∧1≤x.c∧x.c≤fr-x.b:=by
 simpa [winOk] using h
theorem WI.go {t:Tab} {k:Nat} {e:Int} {care:Bool} (h:WI t k e care) (hk:k < t.wins.length) (hb:winOk t.parts.length t.frame e t.wins[k]=true) (hf:t.frame≤64):WI t (k+1) (t.wins[k].b+t.wins[k].c) (care||(t.wins[k].a==0)):=by
 obtain ⟨_,h2,h3,h4,h5⟩:=winOk_true hb
 have:=h.e0
 refine ⟨?_,?_,by omega,by omega⟩
 ·rw [h.ok,List.drop_eq_getElem_cons hk]
  simp [winsOk,hb]
 ·rw [List.take_succ_eq_append_getElem hk,List.any_append,←h.care]
  simp
theorem WI.end_ {t:Tab} {e:Int} {care:Bool} (h:WI t t.wins.length e care):t.winsR=(care&&decide (t.wins.length≤8)):=by
 have hc:=h.care
 rw [List.take_length] at hc
 unfold Tab.winsR
 rw [h.ok,hc]
 simp [winsOk]
theorem windows_at (h:TabV w w.heap.size t AP nP cP AW nW cW AC nC cC) (hf:okr t.frame 1 64=true):Calls Tryz.prog 150 #[tabAgg t.frame AP nP cP AW nW cW AC nC cC t.trial] w fun e w'=>e=.returned (.bool t.winsR)∧Below w.heap.size w w':=by
 have HV:=Lib.hid h
 have hm:=h.mw
 obtain ⟨f1,f2⟩:1≤t.frame∧t.frame≤64:=by simpa [okr] using hf
 obtain ⟨fr,hfr⟩:∃fr,fr=t.frame:=⟨_,rfl⟩
 obtain ⟨tr,htr⟩:∃tr,tr=t.trial:=⟨_,rfl⟩
 have HHAS:=Lib.hid (fun (w':World) (hb:Below w.heap.size w w') (p:Int)=>by have h1:=has_at (h.over hb) p;rw [←hfr,←htr] at h1;exact h1)
 rw [←hfr,←htr]
 rw [←hfr] at f1 f2
 have HF:=Lib.hid hfr
 clear h hf hfr htr
 go_enter Tryz.func150,Tryz.ntmps150
 go_upto_region 2 with fail
 obtain ⟨T,hT⟩:∃T,T=w.heap.size:=⟨_,rfl⟩
 obtain ⟨w1,hw1⟩:∃w1,w1=w.alloc (.cells #[.int .i64 fr,.slice AP nP cP,.slice AW nW cW,.slice AC nC cC,.int .i64 tr] 46):=⟨_,rfl⟩
 have H1:=Lib.hid (show St w w1 [row T 46 (tabRow fr AP nP cP AW nW cW AC nC cC tr)] by rw [hw1,hT];exact (St.nil w).new _ _)
 have HW1:=Lib.hid hw1;have HT:=Lib.hid hT
 clear hw1 hT
 rw [←HW1.out,←HT.out]
 have k2:w1.cell? ⟨T,2,none⟩=some (.slice AW nW cW):=H1.out.row.1.cell 2
 have lT:=H1.out.row.1.lt
 go_wp2_with (fail)
 clear k2 lT
 go_loopw [3,4,10] (fun s3 s4 i wr=>∃(k:Nat) (e:Int) (care:Bool),k≤nW∧i=.int .i64 k∧s3=.int .i64 e∧s4=.bool care∧WI t k e care∧St w wr [row T 46 (tabRow fr AP nP cP AW nW cW AC nC cC tr)]) (fun _ _ i _=>nW-(intOf i).toNat)
 case atStart=>exact ⟨0,0,false,by omega,rfl,rfl,rfl,WI.start t,H1.out⟩
 case round =>
  obtain ⟨k,e,care,hk,rfl,rfl,rfl,hwi,hst⟩:=hrel
  have HWI:=Lib.hid hwi;have HST:=Lib.hid hst
  have he0:=hwi.e0
  have he1:=hwi.e1
  clear hwi hst H1
  have t0:wr.cell? ⟨T,0,none⟩=some (.int .i64 fr):=HST.out.row.1.cell 0
  have t1:wr.cell? ⟨T,1,none⟩=some (.slice AP nP cP):=HST.out.row.1.cell 1
  have t2:wr.cell? ⟨T,2,none⟩=some (.slice AW nW cW):=HST.out.row.1.cell 2
  have t3:wr.cell? ⟨T,3,none⟩=some (.slice AC nC cC):=HST.out.row.1.cell 3
  have t4:wr.cell? ⟨T,4,none⟩=some (.int .i64 tr):=HST.out.row.1.cell 4
  have lT:=HST.out.row.1.lt
  by_cases hlt:k < nW
  ·have hlt':(k:Int) < (nW:Int):=by omega
   have hk0:(0:Int)≤(k:Int):=by omega
   have hkl:k < t.wins.length:=by rw [←HV.out.lw];exact hlt
   obtain ⟨b,off,rfl,lb,c0,c1,c2⟩:=t3s_get (HV.out.over HST.out.bel).ws HV.out.lw hkl
   have HBAD:=Lib.hid (HWI.out.bad hkl)
   have HGO:=Lib.hid (fun hb=>HWI.out.go hkl hb (by rw [←HF.out];exact f2))
   have HOK:=Lib.hid (show winOk t.parts.length t.frame e t.wins[k]=_ from rfl)
   generalize t.wins[k]=x at c0 c1 c2 HBAD HGO HOK
   obtain ⟨xa,xb,xc⟩:=x
   dsimp only at c0 c1 c2
   go_upto_region 5 with fail
   obtain ⟨Z,hZ⟩:∃Z,Z=wr.heap.size:=⟨_,rfl⟩
   obtain ⟨w2,hw2⟩:∃w2,w2=wr.alloc (.cells #[.int .i64 xa,.int .i64 xb,.int .i64 xc] 150):=⟨_,rfl⟩
   have H2:=Lib.hid (show St w w2 [row Z 150 [.int .i64 xa,.int .i64 xb,.int .i64 xc],row T 46 (tabRow fr AP nP cP (some ⟨b,off,none⟩) nW cW AC nC cC tr)] by rw [hw2,hZ];exact HST.out.new _ _)
   have HW2:=Lib.hid hw2;have HZ:=Lib.hid hZ
   clear hw2 hZ c0 c1 c2 lb t0 t1 t2 t3 t4 lT
   rw [←HW2.out,←HZ.out]
   go_cut [46] (fun s wc=>s=.bool (!winOk t.parts.length t.frame e ⟨xa,xb,xc⟩)∧St w wc [row Z 150 [.int .i64 xa,.int .i64 xb,.int .i64 xc],row T 46 (tabRow fr AP nP cP (some ⟨b,off,none⟩) nW cW AC nC cC tr)])
   case first =>
    have t0:w2.cell? ⟨T,0,none⟩=some (.int .i64 fr):=(H2.out.pick 1 rfl).row.1.cell 0
    have t1:w2.cell? ⟨T,1,none⟩=some (.slice AP nP cP):=(H2.out.pick 1 rfl).row.1.cell 1
    have t2:w2.cell? ⟨T,2,none⟩=some (.slice (some ⟨b,off,none⟩) nW cW):=(H2.out.pick 1 rfl).row.1.cell 2
    have t3:w2.cell? ⟨T,3,none⟩=some (.slice AC nC cC):=(H2.out.pick 1 rfl).row.1.cell 3
    have t4:w2.cell? ⟨T,4,none⟩=some (.int .i64 tr):=(H2.out.pick 1 rfl).row.1.cell 4
    have lT:T < w2.heap.size:=(H2.out.pick 1 rfl).row.1.lt
    have z0:w2.cell? ⟨Z,0,none⟩=some (.int .i64 xa):=H2.out.row.1.cell 0
    have lz:Z < w2.heap.size:=H2.out.row.1.lt
    go_wp2_with (fail)
    refine (HHAS.out w2 H2.out.bel xa).mono ?_
    rintro e' w3 ⟨rfl,hb3⟩
    have H3:=Lib.hid (H2.out.below hb3)
    clear hb3 t0 t1 t2 t3 t4 lT z0 lz
    have t0:w3.cell? ⟨T,0,none⟩=some (.int .i64 fr):=(H3.out.pick 1 rfl).row.1.cell 0
    have lT:T < w3.heap.size:=(H3.out.pick 1 rfl).row.1.lt
    have z0:w3.cell? ⟨Z,0,none⟩=some (.int .i64 xa):=H3.out.row.1.cell 0
    have z1:w3.cell? ⟨Z,1,none⟩=some (.int .i64 xb):=H3.out.row.1.cell 1
    have z2:w3.cell? ⟨Z,2,none⟩=some (.int .i64 xc):=H3.out.row.1.cell 2
    have lz:Z < w3.heap.size:=H3.out.row.1.lt
    have HW:=Lib.hid (show winOk t.parts.length t.frame e ⟨xa,xb,xc⟩=(okr xa 0 (t.parts.length-1)&&(decide (e≤xb)&&(decide (xb≤fr)&&(decide (1≤xc)&&decide (xc≤fr-xb))))) by rw [HF.out];rfl)
    clear HOK HBAD HGO HWI
    cases h1:okr xa 0 ((t.parts.length:Int)-1)
    ·have HR:=Lib.hid (show winOk t.parts.length t.frame e ⟨xa,xb,xc⟩=false by rw [HW.out,h1];rfl)
     go_wp2_with (fail)
     go_meet
     exact ⟨by rw [HR.out];rfl,H3.out⟩
    ·rw [h1,Bool.true_and] at HW
     by_cases h2:xb < e
     ·have HR:=Lib.hid (show winOk t.parts.length t.frame e ⟨xa,xb,xc⟩=false by rw [HW.out,decide_eq_false (by omega:¬e≤xb)];rfl)
      go_wp2_with (fail)
      go_meet
      exact ⟨by rw [HR.out];rfl,H3.out⟩
     ·rw [decide_eq_true (by omega:e≤xb),Bool.true_and] at HW
      by_cases h3:xb > fr
      ·have HR:=Lib.hid (show winOk t.parts.length t.frame e ⟨xa,xb,xc⟩=false by rw [HW.out,decide_eq_false (by omega:¬xb≤fr)];rfl)
       go_wp2_with (fail)
       go_meet
       exact ⟨by rw [HR.out];rfl,H3.out⟩
      ·rw [decide_eq_true (by omega:xb≤fr),Bool.true_and] at HW
       by_cases h4:xc < 1
       ·have HR:=Lib.hid (show winOk t.parts.length t.frame e ⟨xa,xb,xc⟩=false by rw [HW.out,decide_eq_false (by omega:¬1≤xc)];rfl)
        go_wp2_with (fail)
        go_meet
        exact ⟨by rw [HR.out];rfl,H3.out⟩
       ·rw [decide_eq_true (by omega:1≤xc),Bool.true_and] at HW
        have hsub:wrap64 (fr-xb)=fr-xb:=IntWalk.wrap64_in _ (by omega)
        by_cases h5:xc > fr-xb
        ·have HR:=Lib.hid (show winOk t.parts.length t.frame e ⟨xa,xb,xc⟩=false by rw [HW.out,decide_eq_false (by omega:¬xc≤fr-xb)])
         go_wp2_with (fail)
         go_meet
         exact ⟨by rw [HR.out];rfl,H3.out⟩
        ·have HR:=Lib.hid (show winOk t.parts.length t.frame e ⟨xa,xb,xc⟩=true by rw [HW.out,decide_eq_true (by omega:xc≤fr-xb)])
         go_wp2_with (fail)
         go_meet
         exact ⟨by rw [HR.out];simp;omega,H3.out⟩
   case rest =>
    obtain ⟨rfl,hst⟩:=hcut
    have H3:=Lib.hid hst
    clear hst H2 HW2 HZ
    cases hw:winOk t.parts.length t.frame e ⟨xa,xb,xc⟩
    ·have HR:=Lib.hid (HBAD.out hw)
     clear HBAD HGO HOK hw
     go_wp2_with (fail)
     go_ret
     exact ⟨ret_bool HR.out.symm,H3.out.bel⟩
    ·obtain ⟨g1,g2,g3,g4,g5⟩:=winOk_true hw
     rw [←HF.out] at g3 g5
     have HR:=Lib.hid (HGO.out hw)
     have HADD:=Lib.hid (show wrap64 (xb+xc)=xb+xc from IntWalk.wrap64_in _ (by dsimp only at g2 g3 g4 g5;omega))
     clear HBAD HGO HOK hw g1 g2 g3 g4 g5
     have z0:wc.cell? ⟨Z,0,none⟩=some (.int .i64 xa):=H3.out.row.1.cell 0
     have z1:wc.cell? ⟨Z,1,none⟩=some (.int .i64 xb):=H3.out.row.1.cell 1
     have z2:wc.cell? ⟨Z,2,none⟩=some (.int .i64 xc):=H3.out.row.1.cell 2
     have lz:Z < wc.heap.size:=H3.out.row.1.lt
     have H4:=Lib.hid H3.out.drop
     have hb9:k+1≤9223372036854775807:=by unfold maxLen at hm;omega
     cases care
     ·cases hxa:(xa==0)
      ·have HR2:=Lib.hid (show WI t (k+1) (xb+xc) false by have h:=HR.out;simp only [hxa] at h;exact h)
       go_wp2_with (fail)
       go_roundw
       case rel=>exact ⟨k+1,xb+xc,false,by omega,by go_num,by rw [HADD.out],rfl,HR2.out,H4.out⟩
       case measure=>simp [intOf]<;>omega
      ·have HR2:=Lib.hid (show WI t (k+1) (xb+xc) true by have h:=HR.out;simp only [hxa] at h;exact h)
       go_wp2_with (fail)
       go_roundw
       case rel=>exact ⟨k+1,xb+xc,true,by omega,by go_num,by rw [HADD.out],rfl,HR2.out,H4.out⟩
       case measure=>simp [intOf]<;>omega
     ·have HR2:=Lib.hid (show WI t (k+1) (xb+xc) true by have h:=HR.out;simp only [Bool.true_or] at h;exact h)
      go_wp2_with (fail)
      go_roundw
      case rel=>exact ⟨k+1,xb+xc,true,by omega,by go_num,by rw [HADD.out],rfl,HR2.out,H4.out⟩
      case measure=>simp [intOf]<;>omega
  ·have hkn:k=nW:=by omega
   have hlt':¬(k:Int) < (nW:Int):=by omega
   have HE:=Lib.hid (show t.winsR=(care&&decide (nW≤8)) by
    have h:=HWI.out
    rw [hkn,HV.out.lw] at h
    rw [h.end_,←HV.out.lw])
   clear hkn HWI
   cases care
   ·have HR:=Lib.hid (show t.winsR=false by rw [HE.out];rfl)
    go_wp2_with (fail)
    go_ret
    exact ⟨ret_bool HR.out.symm,HST.out.bel⟩
   ·have HR:=Lib.hid (show t.winsR=decide (nW≤8) by rw [HE.out];rfl)
    by_cases h8:nW≤8
    ·have h8':(nW:Int)≤8:=by omega
     have HR2:=Lib.hid (show t.winsR=true by rw [HR.out,decide_eq_true h8])
     go_wp2_with (fail)
     go_ret
     exact ⟨ret_bool HR2.out.symm,HST.out.bel⟩
    ·have h8':¬(nW:Int)≤8:=by omega
     have HR2:=Lib.hid (show t.winsR=false by rw [HR.out,decide_eq_false h8])
     go_wp2_with (fail)
     go_ret
     exact ⟨ret_bool HR2.out.symm,HST.out.bel⟩
end
end tab
namespace tab

open Go.RowKit base obj mem sep plan
def findI (p:T3→Bool) (l:List T3):Int:=match l.findIdx? p with
 | some i=>i
 | none=>-1
theorem findI_none {p:T3→Bool} {l:List T3} (h:l.any p=false):findI p l=-1:=by
 have:l.findIdx? p=none:=by
  rw [List.findIdx?_eq_none_iff]
  intro x hx
  rw [List.any_eq_false] at h
  simpa using h x hx
 unfold findI
 rw [this]
theorem findI_hit {p:T3→Bool} {l:List T3} {k:Nat} (h:(l.take k).any p=false) (hk:k < l.length) (hp:p l[k]=true):findI p l=k:=by
 have:l.findIdx? p=some k:=by
  rw [List.findIdx?_eq_some_iff_getElem]
  refine ⟨hk,hp,fun j hj=>?_⟩
  rw [List.any_eq_false] at h
  exact h l[j] (by rw [List.mem_take_iff_getElem];exact ⟨j,by omega,rfl⟩)
 unfold findI
 rw [this]
theorem find_next {p:T3→Bool} {l:List T3} {k:Nat} (h:(l.take k).any p=false) (hk:k < l.length) (hp:p l[k]=false):(l.take (k+1)).any p=false:=by
 rw [List.take_succ_eq_append_getElem hk,List.any_append,h]
 simp [hp]
theorem findI_any (p:T3→Bool) (l:List T3):decide (findI p l≥0)=l.any p:=by
 cases h:l.any p
 ·rw [findI_none h];rfl
 ·unfold findI
  cases e:l.findIdx? p with
  | none =>
    rw [List.findIdx?_eq_none_iff] at e
    rw [List.any_eq_true] at h
    obtain ⟨x,hx,h2⟩:=h
    have:=e x hx
    simp [h2] at this
  | some i=>simp
theorem index_part (w:World) (A:Option Addr) (n c:Nat) (l:List T3) (hn:n=l.length) (hm:n≤maxLen) (hs:Sl w w.heap.size 3 A n (t3s l)) (f:Nat) (caps:Array Value) (p:T3→Bool)
  (hcf:∀(w:World) (x:T3),(callFunc f (#[x.agg]++caps)).run Tryz.prog w=.ok (.enter f (#[x.agg]++caps)) w)
  (hf:∀w' (x:T3),Below w.heap.size w w'→Calls Tryz.prog f (#[x.agg]++caps) w' fun e w''=>e=.returned (.bool (p x))∧Below w'.heap.size w' w'') :
  Calls Tryz.prog 184 #[.slice A n c,.func (.func f) #[] caps] w fun e w'=>e=.returned (.int .i64 (findI p l))∧Below w.heap.size w w':=by
 have HN:=Lib.hid hn;have HS:=Lib.hid hs;have HF:=Lib.hid hf
 clear hn hs hf
 go_enter Tryz.func184,Tryz.ntmps184
 go_wp2_with (fail)
 go_loopw [8] (fun i wr=>∃k:Nat,k≤n∧i=.int .i64 k∧(l.take k).any p=false∧Below w.heap.size w wr) (fun i _=>n-(intOf i).toNat)
 case atStart=>exact ⟨0,by omega,rfl,by simp,Below.refl _ _⟩
 case round =>
  obtain ⟨k,hk,rfl,hno,hb⟩:=hrel
  have HNO:=Lib.hid hno;have HB:=Lib.hid hb
  clear hno hb
  by_cases hlt:k < n
  ·have hlt':(k:Int) < (n:Int):=by omega
   have hk0:(0:Int)≤(k:Int):=by omega
   have hkl:k < l.length:=by rw [←HN.out];exact hlt
   obtain ⟨b,off,rfl,lb,c0,c1,c2⟩:=t3s_get (HS.out.below HB.out) HN.out hkl
   have lb':b < wr.heap.size:=Nat.lt_of_lt_of_le lb HB.out.size
   have HC:=Lib.hid (HF.out wr l[k] HB.out)
   have HY:=Lib.hid (fun h=>findI_hit HNO.out hkl h)
   have HZ:=Lib.hid (fun h=>find_next HNO.out hkl h)
   generalize l[k]=x at c0 c1 c2 HC HY HZ
   have hcx:=hcf wr x
   have hc9:k+1≤9223372036854775807:=by unfold maxLen at hm;omega
   obtain ⟨xa,xb,xc⟩:=x
   dsimp only at c0 c1 c2
   cases hp:p ⟨xa,xb,xc⟩
   ·rw [hp] at HC
    have HQ:=Lib.hid (HZ.out hp)
    clear hp HY HZ
    go_wp2_with (fail)
    refine HC.out.mono ?_
    rintro e w2 ⟨rfl,hb2⟩
    have HB2:=Lib.hid (HB.out.trans (hb2.mono HB.out.size))
    clear hb2
    go_wp2_with (fail)
    go_roundw
    case rel=>exact ⟨k+1,by omega,by go_num,HQ.out,HB2.out⟩
    case measure=>simp [intOf]<;>omega
   ·rw [hp] at HC
    have HQ:=Lib.hid (HY.out hp)
    clear hp HY HZ
    go_wp2_with (fail)
    refine HC.out.mono ?_
    rintro e w2 ⟨rfl,hb2⟩
    have HB2:=Lib.hid (HB.out.trans (hb2.mono HB.out.size))
    clear hb2
    go_wp2_with (fail)
    go_ret
    exact ⟨ret_int HQ.out.symm,HB2.out⟩
  ·have hkn:k=n:=by omega
   have hlt':¬(k:Int) < (n:Int):=by omega
   have HQ:=Lib.hid (show findI p l=-1 by
    have h:=HNO.out
    rw [List.take_of_length_le (by rw [←HN.out];omega)] at h
    exact findI_none h)
   clear hkn
   go_wp2_with (fail)
   go_ret
   exact ⟨ret_int HQ.out.symm,HB.out⟩
theorem index_chan (w:World) (A:Option Addr) (n c:Nat) (l:List T3) (hn:n=l.length) (hm:n≤maxLen) (hs:Sl w w.heap.size 3 A n (t3s l)) (f:Nat) (caps:Array Value) (p:T3→Bool)
  (hcf:∀(w:World) (x:T3),(callFunc f (#[x.agg]++caps)).run Tryz.prog w=.ok (.enter f (#[x.agg]++caps)) w)
  (hf:∀w' (x:T3),Below w.heap.size w w'→Calls Tryz.prog f (#[x.agg]++caps) w' fun e w''=>e=.returned (.bool (p x))∧Below w'.heap.size w' w'') :
  Calls Tryz.prog 185 #[.slice A n c,.func (.func f) #[] caps] w fun e w'=>e=.returned (.int .i64 (findI p l))∧Below w.heap.size w w':=by
 have HN:=Lib.hid hn;have HS:=Lib.hid hs;have HF:=Lib.hid hf
 clear hn hs hf
 go_enter Tryz.func185,Tryz.ntmps185
 go_wp2_with (fail)
 go_loopw [8] (fun i wr=>∃k:Nat,k≤n∧i=.int .i64 k∧(l.take k).any p=false∧Below w.heap.size w wr) (fun i _=>n-(intOf i).toNat)
 case atStart=>exact ⟨0,by omega,rfl,by simp,Below.refl _ _⟩
 case round =>
  obtain ⟨k,hk,rfl,hno,hb⟩:=hrel
  have HNO:=Lib.hid hno;have HB:=Lib.hid hb
  clear hno hb
  by_cases hlt:k < n
  ·have hlt':(k:Int) < (n:Int):=by omega
   have hk0:(0:Int)≤(k:Int):=by omega
   have hkl:k < l.length:=by rw [←HN.out];exact hlt
   obtain ⟨b,off,rfl,lb,c0,c1,c2⟩:=t3s_get (HS.out.below HB.out) HN.out hkl
   have lb':b < wr.heap.size:=Nat.lt_of_lt_of_le lb HB.out.size
   have HC:=Lib.hid (HF.out wr l[k] HB.out)
   have HY:=Lib.hid (fun h=>findI_hit HNO.out hkl h)
   have HZ:=Lib.hid (fun h=>find_next HNO.out hkl h)
   generalize l[k]=x at c0 c1 c2 HC HY HZ
   have hcx:=hcf wr x
   have hc9:k+1≤9223372036854775807:=by unfold maxLen at hm;omega
   obtain ⟨xa,xb,xc⟩:=x
   dsimp only at c0 c1 c2
   cases hp:p ⟨xa,xb,xc⟩
   ·rw [hp] at HC
    have HQ:=Lib.hid (HZ.out hp)
    clear hp HY HZ
    go_wp2_with (fail)
    refine HC.out.mono ?_
    rintro e w2 ⟨rfl,hb2⟩
    have HB2:=Lib.hid (HB.out.trans (hb2.mono HB.out.size))
    clear hb2
    go_wp2_with (fail)
    go_roundw
    case rel=>exact ⟨k+1,by omega,by go_num,HQ.out,HB2.out⟩
    case measure=>simp [intOf]<;>omega
   ·rw [hp] at HC
    have HQ:=Lib.hid (HY.out hp)
    clear hp HY HZ
    go_wp2_with (fail)
    refine HC.out.mono ?_
    rintro e w2 ⟨rfl,hb2⟩
    have HB2:=Lib.hid (HB.out.trans (hb2.mono HB.out.size))
    clear hb2
    go_wp2_with (fail)
    go_ret
    exact ⟨ret_int HQ.out.symm,HB2.out⟩
  ·have hkn:k=n:=by omega
   have hlt':¬(k:Int) < (n:Int):=by omega
   have HQ:=Lib.hid (show findI p l=-1 by
    have h:=HNO.out
    rw [List.take_of_length_le (by rw [←HN.out];omega)] at h
    exact findI_none h)
   clear hkn
   go_wp2_with (fail)
   go_ret
   exact ⟨ret_int HQ.out.symm,HB.out⟩
theorem contains_part (w:World) (A:Option Addr) (n c:Nat) (l:List T3) (hn:n=l.length) (hm:n≤maxLen) (hs:Sl w w.heap.size 3 A n (t3s l)) (f:Nat) (caps:Array Value) (p:T3→Bool)
  (hcf:∀(w:World) (x:T3),(callFunc f (#[x.agg]++caps)).run Tryz.prog w=.ok (.enter f (#[x.agg]++caps)) w)
  (hf:∀w' (x:T3),Below w.heap.size w w'→Calls Tryz.prog f (#[x.agg]++caps) w' fun e w''=>e=.returned (.bool (p x))∧Below w'.heap.size w' w'') :
  Calls Tryz.prog 148 #[.slice A n c,.func (.func f) #[] caps] w fun e w'=>e=.returned (.bool (l.any p))∧Below w.heap.size w w':=by
 have HI:=Lib.hid (index_part w A n c l hn hm hs f caps p hcf hf)
 have HQ:=Lib.hid (findI_any p l)
 clear hn hm hs hf hcf
 go_enter Tryz.func148,Tryz.ntmps148
 go_wp2_with (fail)
 refine HI.out.mono ?_
 rintro e w2 ⟨rfl,hb2⟩
 have HB2:=Lib.hid hb2
 clear hb2
 go_wp2_with (fail)
 go_ret
 exact ⟨ret_bool HQ.out,HB2.out⟩
theorem contains_chan (w:World) (A:Option Addr) (n c:Nat) (l:List T3) (hn:n=l.length) (hm:n≤maxLen) (hs:Sl w w.heap.size 3 A n (t3s l)) (f:Nat) (caps:Array Value) (p:T3→Bool)
  (hcf:∀(w:World) (x:T3),(callFunc f (#[x.agg]++caps)).run Tryz.prog w=.ok (.enter f (#[x.agg]++caps)) w)
  (hf:∀w' (x:T3),Below w.heap.size w w'→Calls Tryz.prog f (#[x.agg]++caps) w' fun e w''=>e=.returned (.bool (p x))∧Below w'.heap.size w' w'') :
  Calls Tryz.prog 151 #[.slice A n c,.func (.func f) #[] caps] w fun e w'=>e=.returned (.bool (l.any p))∧Below w.heap.size w w':=by
 have HI:=Lib.hid (index_chan w A n c l hn hm hs f caps p hcf hf)
 have HQ:=Lib.hid (findI_any p l)
 clear hn hm hs hf hcf
 go_enter Tryz.func151,Tryz.ntmps151
 go_wp2_with (fail)
 refine HI.out.mono ?_
 rintro e w2 ⟨rfl,hb2⟩
 have HB2:=Lib.hid hb2
 clear hb2
 go_wp2_with (fail)
 go_ret
 exact ⟨ret_bool HQ.out,HB2.out⟩
end tab
namespace tab

open Go.RowKit base obj mem sep plan
def chanOk (n:Nat) (x:T3):Bool:=okr x.a 0 ((n:Int)-1)&&(okr x.b 0 ((n:Int)-1)&&(!(x.a==x.b)&&okr x.c 0 4))
def Tab.right (t:Tab):Bool:=okr t.frame 1 64&&(okr t.trial 1 7&&(okr t.parts.length 2 4&&(!(t.parts.any fun x=>!x.part)&&(t.winsR&&(decide (t.chans.length≤4)&&!(t.chans.any fun x=>!chanOk t.parts.length x))))))
theorem hcf_bad (w:World) (x:T3):(callFunc 149 (#[x.agg]++#[])).run Tryz.prog w=.ok (.enter 149 (#[x.agg]++#[])) w:=by kernel_rfl
theorem hcf_chan (T:Nat) (w:World) (x:T3):(callFunc 152 (#[x.agg]++#[.pointer (some ⟨T,0,none⟩)])).run Tryz.prog w=.ok (.enter 152 (#[x.agg]++#[.pointer (some ⟨T,0,none⟩)])) w:=by kernel_rfl
section
variable {w : World} {t : Tab} {AP AW AC : Option Addr} {nP cP nW cW nC cC : Nat}
theorem chan_at (h:TabV w w.heap.size t AP nP cP AW nW cW AC nC cC) {T:Nat} (hr:Row w T 46 (tabRow t.frame AP nP cP AW nW cW AC nC cC t.trial)) (x:T3) :
  Calls Tryz.prog 152 #[x.agg,.pointer (some ⟨T,0,none⟩)] w fun e w'=>e=.returned (.bool (!chanOk t.parts.length x))∧Below w.heap.size w w':=by
 obtain ⟨xa,xb,xc⟩:=x
 have HK:=Lib.hid (show chanOk t.parts.length ⟨xa,xb,xc⟩=(okr xa 0 ((t.parts.length:Int)-1)&&(okr xb 0 ((t.parts.length:Int)-1)&&(!(xa==xb)&&okr xc 0 4))) from rfl)
 obtain ⟨Z,hZ⟩:∃Z,Z=w.heap.size:=⟨_,rfl⟩
 obtain ⟨w1,hw1⟩:∃w1,w1=w.alloc (.cells #[.int .i64 xa,.int .i64 xb,.int .i64 xc] 152):=⟨_,rfl⟩
 have H1:=Lib.hid (show St w w1 [row Z 152 [.int .i64 xa,.int .i64 xb,.int .i64 xc]] by rw [hw1,hZ];exact (St.nil w).new _ _)
 have HR:=Lib.hid (fun (w':World) (hb:Below w.heap.size w w')=>hr.below hb hr.lt)
 have HHAS:=Lib.hid (fun (w':World) (hb:Below w.heap.size w w') (p:Int)=>has_at (h.over hb) p)
 obtain ⟨fr,hfr⟩:∃fr,fr=t.frame:=⟨_,rfl⟩
 obtain ⟨tr,htr⟩:∃tr,tr=t.trial:=⟨_,rfl⟩
 rw [←hfr,←htr] at HHAS HR
 have HZ:=Lib.hid hZ;have HW1:=Lib.hid hw1
 have lT:=Lib.hid hr.lt
 clear h hr hZ hw1 hfr htr
 go_enter Tryz.func152,Tryz.ntmps152
 go_upto_region 1 with fail
 rw [←HW1.out,←HZ.out]
 have rows:∀w',Below w.heap.size w w'→w'.cell? ⟨T,0,none⟩=some (.int .i64 fr)∧w'.cell? ⟨T,1,none⟩=some (.slice AP nP cP)∧w'.cell? ⟨T,2,none⟩=some (.slice AW nW cW)∧w'.cell? ⟨T,3,none⟩=some (.slice AC nC cC)∧w'.cell? ⟨T,4,none⟩=some (.int .i64 tr) :=
  fun w' hb=>⟨(HR.out w' hb).cell 0,(HR.out w' hb).cell 1,(HR.out w' hb).cell 2,(HR.out w' hb).cell 3,(HR.out w' hb).cell 4⟩
 obtain ⟨t0,t1,t2,t3,t4⟩:=rows w1 H1.out.bel
 have lt:T < w1.heap.size:=(HR.out w1 H1.out.bel).lt
 have HROWS:=Lib.hid rows
 clear rows
 have z0:w1.cell? ⟨Z,0,none⟩=some (.int .i64 xa):=H1.out.row.1.cell 0
 have lz:Z < w1.heap.size:=H1.out.row.1.lt
 go_wp2_with (fail)
 refine (HHAS.out w1 H1.out.bel xa).mono ?_
 rintro e w2 ⟨rfl,hb⟩
 have H2:=Lib.hid (H1.out.below hb)
 clear hb t0 t1 t2 t3 t4 lt z0 lz H1
 obtain ⟨t0,t1,t2,t3,t4⟩:=HROWS.out w2 H2.out.bel
 have lt:T < w2.heap.size:=(HR.out w2 H2.out.bel).lt
 have z0:w2.cell? ⟨Z,0,none⟩=some (.int .i64 xa):=H2.out.row.1.cell 0
 have z1:w2.cell? ⟨Z,1,none⟩=some (.int .i64 xb):=H2.out.row.1.cell 1
 have lz:Z < w2.heap.size:=H2.out.row.1.lt
 cases h1:okr xa 0 ((t.parts.length:Int)-1)
 ·have HQ:=Lib.hid (show (!chanOk t.parts.length ⟨xa,xb,xc⟩)=true by rw [HK.out,h1];rfl)
  go_wp2_with (fail)
  go_ret
  exact ⟨ret_bool HQ.out.symm,H2.out.bel⟩
 ·rw [h1,Bool.true_and] at HK
  go_wp2_with (fail)
  refine (HHAS.out w2 H2.out.bel xb).mono ?_
  rintro e w3 ⟨rfl,hb⟩
  have H3:=Lib.hid (H2.out.below hb)
  clear hb t0 t1 t2 t3 t4 lt z0 z1 lz H2
  have z0:w3.cell? ⟨Z,0,none⟩=some (.int .i64 xa):=H3.out.row.1.cell 0
  have z1:w3.cell? ⟨Z,1,none⟩=some (.int .i64 xb):=H3.out.row.1.cell 1
  have z2:w3.cell? ⟨Z,2,none⟩=some (.int .i64 xc):=H3.out.row.1.cell 2
  have lz:Z < w3.heap.size:=H3.out.row.1.lt
  cases h2:okr xb 0 ((t.parts.length:Int)-1)
  ·have HQ:=Lib.hid (show (!chanOk t.parts.length ⟨xa,xb,xc⟩)=true by rw [HK.out,h2];rfl)
   go_wp2_with (fail)
   go_ret
   exact ⟨ret_bool HQ.out.symm,H3.out.bel⟩
  ·rw [h2,Bool.true_and] at HK
   cases h3:(xa==xb)
   ·rw [h3,Bool.not_false,Bool.true_and] at HK
    have HQ:=Lib.hid (show (!chanOk t.parts.length ⟨xa,xb,xc⟩)=!okr xc 0 4 by rw [HK.out])
    go_wp2_with (fail)
    refine (in_at _ _ _ _).mono ?_
    rintro e w4 ⟨rfl,rfl⟩
    go_wp2_with (fail)
    go_ret
    exact ⟨ret_bool HQ.out.symm,H3.out.bel⟩
   ·have HQ:=Lib.hid (show (!chanOk t.parts.length ⟨xa,xb,xc⟩)=true by rw [HK.out,h3];rfl)
    go_wp2_with (fail)
    go_ret
    exact ⟨ret_bool HQ.out.symm,H3.out.bel⟩
theorem right_at (h:TabV w w.heap.size t AP nP cP AW nW cW AC nC cC):Calls Tryz.prog 100 #[tabAgg t.frame AP nP cP AW nW cW AC nC cC t.trial] w fun e w'=>e=.returned (.bool t.right)∧Below w.heap.size w w':=by
 have HV:=Lib.hid h
 have HK:=Lib.hid (show t.right=(okr t.frame 1 64&&(okr t.trial 1 7&&(okr t.parts.length 2 4&&(!(t.parts.any fun x=>!x.part)&&(t.winsR&&(decide (t.chans.length≤4)&&!(t.chans.any fun x=>!chanOk t.parts.length x))))))) from rfl)
 rw [←h.lp,←h.lc] at HK
 obtain ⟨T,hT⟩:∃T,T=w.heap.size:=⟨_,rfl⟩
 obtain ⟨w1,hw1⟩:∃w1,w1=w.alloc (.cells #[.int .i64 t.frame,.slice AP nP cP,.slice AW nW cW,.slice AC nC cC,.int .i64 t.trial] 46):=⟨_,rfl⟩
 have H1:=Lib.hid (show St w w1 [row T 46 (tabRow t.frame AP nP cP AW nW cW AC nC cC t.trial)] by rw [hw1,hT];exact (St.nil w).new _ _)
 have HCH:=Lib.hid (fun (w':World) (hs:St w w' [row T 46 (tabRow t.frame AP nP cP AW nW cW AC nC cC t.trial)]) (x:T3)=>chan_at (h.over hs.bel) hs.row.1 x)
 have HWI:=Lib.hid (fun (w':World) (hb:Below w.heap.size w w') (hf:okr t.frame 1 64=true)=>windows_at (h.over hb) hf)
 obtain ⟨fr,hfr⟩:∃fr,fr=t.frame:=⟨_,rfl⟩
 obtain ⟨tr,htr⟩:∃tr,tr=t.trial:=⟨_,rfl⟩
 rw [←hfr,←htr] at HCH H1 HK HWI hw1 ⊢
 have HW1:=Lib.hid hw1;have HT:=Lib.hid hT
 clear h hw1 hT hfr htr
 go_enter Tryz.func100,Tryz.ntmps100
 go_upto_region 1 with fail
 rw [←HW1.out,←HT.out]
 have t0:w1.cell? ⟨T,0,none⟩=some (.int .i64 fr):=H1.out.row.1.cell 0
 have t1:w1.cell? ⟨T,1,none⟩=some (.slice AP nP cP):=H1.out.row.1.cell 1
 have t2:w1.cell? ⟨T,2,none⟩=some (.slice AW nW cW):=H1.out.row.1.cell 2
 have t3:w1.cell? ⟨T,3,none⟩=some (.slice AC nC cC):=H1.out.row.1.cell 3
 have t4:w1.cell? ⟨T,4,none⟩=some (.int .i64 tr):=H1.out.row.1.cell 4
 have lT:=H1.out.row.1.lt
 cases h1:okr fr 1 64
 ·have HQ:=Lib.hid (show t.right=false by rw [HK.out,h1];rfl)
  go_wp2_with (go_at_call 147;refine (in_at _ _ _ _).mono ?_;rintro e w' ⟨rfl,rfl⟩)
  go_ret
  exact ⟨ret_bool HQ.out.symm,H1.out.bel⟩
 rw [h1,Bool.true_and] at HK
 cases h2:okr tr 1 7
 ·have HQ:=Lib.hid (show t.right=false by rw [HK.out,h2];rfl)
  go_wp2_with (go_at_call 147;refine (in_at _ _ _ _).mono ?_;rintro e w' ⟨rfl,rfl⟩)
  go_ret
  exact ⟨ret_bool HQ.out.symm,H1.out.bel⟩
 rw [h2,Bool.true_and] at HK
 cases h3:okr nP 2 4
 ·have HQ:=Lib.hid (show t.right=false by rw [HK.out,h3];rfl)
  go_wp2_with (go_at_call 147;refine (in_at _ _ _ _).mono ?_;rintro e w' ⟨rfl,rfl⟩)
  go_ret
  exact ⟨ret_bool HQ.out.symm,H1.out.bel⟩
 rw [h3,Bool.true_and] at HK
 have HWI2:=Lib.hid (fun (w':World) (hb:Below w.heap.size w w')=>HWI.out w' hb h1)
 go_upto_region 3 with (go_at_call 147;refine (in_at _ _ _ _).mono ?_;rintro e w' ⟨rfl,rfl⟩)
 clear h1 h2 h3
 go_wp2_with (fail)
 refine (contains_part w' AP nP cP t.parts HV.out.lp HV.out.mp (HV.out.over H1.out.bel).ps 149 #[] (fun x=>!x.part) hcf_bad (fun w2 x _=>bad_at w2 x)).mono ?_
 rintro e w2 ⟨rfl,hb2⟩
 have H2:=Lib.hid (H1.out.below hb2)
 clear hb2 t0 t1 t2 t3 t4 lT
 by_cases h4:(t.parts.any fun x=>!x.part)=true
 ·have HQ:=Lib.hid (show t.right=false by rw [HK.out,h4];rfl)
  rw [h4]
  clear h4
  go_wp2_with (fail)
  go_ret
  exact ⟨ret_bool HQ.out.symm,H2.out.bel⟩
 rw [Bool.not_eq_true] at h4
 rw [h4]
 rw [h4,Bool.not_false,Bool.true_and] at HK
 clear h4
 have t0:w2.cell? ⟨T,0,none⟩=some (.int .i64 fr):=H2.out.row.1.cell 0
 have t1:w2.cell? ⟨T,1,none⟩=some (.slice AP nP cP):=H2.out.row.1.cell 1
 have t2:w2.cell? ⟨T,2,none⟩=some (.slice AW nW cW):=H2.out.row.1.cell 2
 have t3:w2.cell? ⟨T,3,none⟩=some (.slice AC nC cC):=H2.out.row.1.cell 3
 have t4:w2.cell? ⟨T,4,none⟩=some (.int .i64 tr):=H2.out.row.1.cell 4
 have lT:=H2.out.row.1.lt
 go_wp2_with (fail)
 refine (HWI2.out w2 H2.out.bel).mono ?_
 rintro e w3 ⟨rfl,hb3⟩
 have H3:=Lib.hid (H2.out.below hb3)
 clear hb3 t0 t1 t2 t3 t4 lT
 cases h5:t.winsR
 ·have HQ:=Lib.hid (show t.right=false by rw [HK.out,h5];rfl)
  clear h5
  go_wp2_with (fail)
  go_ret
  exact ⟨ret_bool HQ.out.symm,H3.out.bel⟩
 rw [h5,Bool.true_and] at HK
 clear h5
 have t3:w3.cell? ⟨T,3,none⟩=some (.slice AC nC cC):=H3.out.row.1.cell 3
 have lT:=H3.out.row.1.lt
 by_cases h6:nC≤4
 ·have h6':¬(nC:Int) > 4:=by omega
  rw [decide_eq_true h6,Bool.true_and] at HK
  go_wp2_with (fail)
  refine (contains_chan w3 AC nC cC t.chans HV.out.lc HV.out.mc (HV.out.over H3.out.bel).cs 152 #[.pointer (some ⟨T,0,none⟩)] (fun x=>!chanOk t.parts.length x) (hcf_chan T) (fun w4 x hb=>HCH.out w4 (H3.out.below hb) x)).mono ?_
  rintro e w4 ⟨rfl,hb4⟩
  have H4:=Lib.hid (H3.out.below hb4)
  clear hb4 t3 lT
  go_wp2_with (fail)
  go_ret
  exact ⟨ret_bool (by rw [HK.out,HV.out.lp]),H4.out.bel⟩
 ·have h6':(nC:Int) > 4:=by omega
  have HQ:=Lib.hid (show t.right=false by rw [HK.out,decide_eq_false h6];rfl)
  go_wp2_with (fail)
  go_ret
  exact ⟨ret_bool HQ.out.symm,H3.out.bel⟩
end
end tab
namespace crc

abbrev poly:Nat:=3988292384
def dn (x:Nat):Nat:=(x / 2) ^^^ (if x % 2=1 then poly else 0)
def it:Nat→Nat→Nat
 | 0,x=>x
 | k+1,x=>dn (it k x)
theorem tb_dn (x i:Nat):(dn x).testBit i=((x.testBit (i+1)) ^^ (x.testBit 0&&poly.testBit i)):=by
 unfold dn
 rw [Nat.testBit_xor,Nat.testBit_div_two]
 congr 1
 rw [Nat.testBit_zero]
 by_cases h:x % 2=1
 ·rw [if_pos h];simp [h]
 ·rw [if_neg h];simp [h]
theorem dn_xor (x y:Nat):dn (x ^^^ y)=dn x ^^^ dn y:=by
 apply Nat.eq_of_testBit_eq
 intro i
 rw [Nat.testBit_xor,tb_dn,tb_dn,tb_dn,Nat.testBit_xor,Nat.testBit_xor]
 cases x.testBit (i+1)<;>cases y.testBit (i+1)<;>cases x.testBit 0<;>cases y.testBit 0<;>cases poly.testBit i<;>rfl
theorem it_xor (k x y:Nat):it k (x ^^^ y)=it k x ^^^ it k y:=by
 induction k with
 | zero=>rfl
 | succ k ih=>rw [it,ih,dn_xor];rfl
theorem it_dn (k x:Nat):it k (dn x)=dn (it k x):=by
 induction k with
 | zero=>rfl
 | succ k ih=>rw [it,ih];rfl
theorem it_shift (k m:Nat):it k (m*2 ^ k)=m:=by
 induction k with
 | zero=>simp [it]
 | succ k ih =>
   rw [it,←it_dn]
   have:dn (m*2 ^ (k+1))=m*2 ^ k:=by
    unfold dn
    rw [Nat.pow_succ,←Nat.mul_assoc,Nat.mul_mod_left,if_neg (by decide),Nat.mul_div_cancel _ (by decide)]
    exact Nat.xor_zero _
   rw [this,ih]
theorem split8 (x:Nat):x=(x / 256*2 ^ 8) ^^^ (x % 256):=by
 apply Nat.eq_of_testBit_eq
 intro i
 rw [Nat.testBit_xor,Nat.testBit_mul_two_pow,show 256=2 ^ 8 from rfl,Nat.testBit_div_two_pow,Nat.testBit_mod_two_pow]
 by_cases h:8≤i
 ·have h2:¬i < 8:=by omega
  simp [h,h2,Nat.sub_add_cancel h]
 ·have h2:i < 8:=by omega
  simp [h,h2]
def feed (x c:Nat):Nat:=it 8 (x ^^^ c)
theorem feed_table (x c:Nat) (hc:c < 256):feed x c=(x / 256) ^^^ it 8 ((x % 256) ^^^ c):=by
 unfold feed
 conv=>lhs;rw [split8 x]
 rw [Nat.xor_assoc,it_xor,it_shift]
theorem dn_lt {x:Nat} (h:x < 2 ^ 32):dn x < 2 ^ 32:=by
 unfold dn
 refine Nat.xor_lt_two_pow (by omega) ?_
 split<;>decide
theorem it_lt {x:Nat} (k:Nat) (h:x < 2 ^ 32):it k x < 2 ^ 32:=by
 induction k with
 | zero=>exact h
 | succ k ih=>exact dn_lt ih
theorem feed_lt {x c:Nat} (h:x < 2 ^ 32) (hc:c < 256):feed x c < 2 ^ 32:=it_lt 8 (Nat.xor_lt_two_pow h (by omega))
def fold (x:Nat) (bs:List Int):Nat:=bs.foldl (fun x z=>feed x z.toNat) x
def Byt (bs:List Int):Prop:=∀z∈bs,0≤z∧z≤255
theorem fold_lt {bs:List Int}:∀{x:Nat},x < 2 ^ 32→Byt bs→fold x bs < 2 ^ 32:=by
 induction bs with
 | nil=>intro x h _;exact h
 | cons z bs ih =>
   intro x h hb
   have hz:=hb z (by simp)
   exact ih (feed_lt h (by omega)) fun y hy=>hb y (by simp [hy])
theorem fold_take_succ (x:Nat) (bs:List Int) (k:Nat) (hk:k < bs.length):fold x (bs.take (k+1))=feed (fold x (bs.take k)) bs[k].toNat:=by
 unfold fold
 rw [List.take_succ_eq_append_getElem hk,List.foldl_append]
 rfl
def sum (bs:List Int):Nat:=4294967295-fold 4294967295 bs
theorem sum_lt {bs:List Int}:sum bs < 2 ^ 32:=by unfold sum;omega
end crc
namespace num

open crc
def digit (w:Nat) (n:Nat) (j:Nat):Int:=((n / 256 ^ (w-1-j) % 256:Nat):Int)
def be (w n:Nat):List Int:=(List.range w).map (digit w n)
theorem be_length (w n:Nat):(be w n).length=w:=by simp [be]
theorem be_byt (w n:Nat):Byt (be w n):=by
 intro z hz
 obtain ⟨j,_,rfl⟩:=List.mem_map.1 hz
 unfold digit
 omega
def val (bs:List Int):Nat:=bs.foldl (fun n z=>256*n+z.toNat) 0
theorem val_snoc (bs:List Int) (z:Int):val (bs++[z])=256*val bs+z.toNat:=by simp [val]
theorem be_succ (w n:Nat):be (w+1) n=be w (n / 256)++[((n % 256:Nat):Int)]:=by
 unfold be
 rw [List.range_succ,List.map_append]
 congr 1
 ·apply List.map_congr_left
  intro j hj
  have hj':j < w:=List.mem_range.1 hj
  unfold digit
  rw [Nat.div_div_eq_div_mul,show w+1-1-j=(w-1-j)+1 from by omega,Nat.pow_succ,Nat.mul_comm]
 ·simp [digit]
theorem val_be (w:Nat):∀n,n < 256 ^ w→val (be w n)=n:=by
 induction w with
 | zero=>intro n h;simp at h;subst h;rfl
 | succ w ih =>
   intro n h
   rw [be_succ,val_snoc,ih (n / 256) (by rw [Nat.pow_succ] at h;omega)]
   simp
   omega
theorem snoc_ind {p:List Int→Prop} (h0:p []) (h1:∀bs z,p bs→p (bs++[z])) (bs:List Int):p bs:=by
 rw [←List.reverse_reverse bs]
 induction bs.reverse with
 | nil=>exact h0
 | cons z l ih=>rw [List.reverse_cons];exact h1 _ _ ih
theorem val_lt (bs:List Int) (h:Byt bs):val bs < 256 ^ bs.length:=by
 revert h
 induction bs using snoc_ind with
 | h0=>intro h;simp [val]
 | h1 bs z ih =>
   intro h
   rw [val_snoc,List.length_append,List.length_singleton,Nat.pow_succ]
   have h1:=ih fun y hy=>h y (by simp [hy])
   have h2:=h z (by simp)
   omega
theorem val_take_succ (bs:List Int) (k:Nat) (hk:k < bs.length):val (bs.take (k+1))=256*val (bs.take k)+bs[k].toNat:=by
 rw [List.take_succ_eq_append_getElem hk,val_snoc]
def heldN (w:Nat) (n:Int):Nat:=if n < 0 then 0 else if (256 ^ w:Nat)≤n.toNat then 256 ^ w-1 else n.toNat
theorem heldN_in (w:Nat) (n:Nat) (h:n < 256 ^ w):heldN w n=n:=by
 unfold heldN
 rw [if_neg (by omega),if_neg (by rw [Int.toNat_natCast];exact Nat.not_le.2 h),Int.toNat_natCast]
end num
end Go.Proofs.YtdldkkoplgkloaaGreat
