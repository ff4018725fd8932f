/-
  PROVED HERE: lemmas that the law leans on.
  CONDITIONS: each names its own.
-/
import Derived.BigQuiet
import Derived.Deep.QuietTactic
import Derived.Deep.Slices
import Derived.Lib.AppendZerosOnto
import Derived.Lib.SmallJoins
import Derived.ReadAgain
import Derived.WideKeyArgs
import Derived.Test.YtdldkkoplgkloaaGreatPy0
import Derived.Test.YtdldkkoplgkloaaGreatPy1
import Derived.Test.YtdldkkoplgkloaaGreatPy2
import Derived.Test.YtdldkkoplgkloaaGreatPy3
import Derived.Test.YtdldkkoplgkloaaGreatPy15
import Derived.Test.YtdldkkoplgkloaaGreatPy16
namespace Go.Proofs.YtdldkkoplgkloaaGreat
set_option linter.unusedVariables false
set_option linter.unusedSimpArgs false
set_option maxRecDepth 100000
set_option maxHeartbeats 32000000
namespace sep

open Go.RowKit base obj mem bk
def bU (g:Nat) (m:DS):aD where
 on w F:=hU w F g m∧∀i,F i→i < w.heap.size
 dom:=fun h i hi=>h.2 i hi
 loc:=fun {w w' F} h e=>by
  refine ⟨?_,fun i hi=>Zd (h.2 i hi) (e i hi)⟩;obtain ⟨⟨L,wv,h⟩,_⟩:=h;refine ⟨L,wv,h.b8,(e g h.fg).trans h.mh,(e L h.fl).trans h.laid,?_,h.fg,h.fl,h.fw⟩;refine ⟨h.own.1,?_⟩;rcases h.own.2 with hz|⟨k,cap,cur,hv,hb,hk,rest⟩
  ·exact .inl hz
  ·exact .inr ⟨k,cap,cur,hv,hb,(e k (h.fw k (by rw [hv];rfl))).trans hk,rest⟩
theorem St.b8 {w0 w:World} {l:List aD} {g:Nat} {m:DS} (h:St w0 w (bU g m::l)):m.Good:=by
 obtain ⟨F,⟨⟨L,wv,hd⟩,_⟩,_⟩:=h.frame;exact hd.b8
theorem Xi {w0 w:World} {l:List aD} (h:St w0 w l) (n:Int):Calls Tryz.prog 26 #[.int .i64 n] w fun e w'=>∃g,e=.returned (.pointer (some ⟨g,0,none⟩))∧St w0 w' (bU g (DS.new (rH n))::l) :=
 (Wx n w).mono fun e w' ⟨g,h1,h2,h3,h4⟩=>⟨g,h1,h.add h4 (F:=Dy (fun _=>False) w w') ⟨h3,fun i hi=>by rcases hi with hi|hi;exact hi.elim;exact hi.2⟩ fun i hi=>by rcases hi with hi|hi;exact hi.elim;exact hi.1⟩
theorem FP {w0 w:World} {l:List aD} {g:Nat} {m:DS} (h:St w0 w (bU g m::l)):Calls Tryz.prog 35 #[.pointer (some ⟨g,0,none⟩)] w fun e w'=>e=.returned (.int .i64 m.az.length)∧w'=w:=by
 obtain ⟨F,⟨⟨L,wv,hd⟩,_⟩,_⟩:=h.frame;exact (Yg hd).mono fun e w' ⟨h1,h2⟩=>⟨h1,h2.symm⟩
theorem GV {w0 w:World} {l:List aD} {g:Nat} {m:DS} (h:St w0 w (bU g m::l)) (i:Int) (A:Option Addr) (n c:Nat) (bs:List Int) (hn:bs.length=n) (hs:Sl w w.heap.size 1 A n (bs.map (.int .u8))) (fY:m.waits.length≤1000000) :
  Calls Tryz.prog 29 #[.pointer (some ⟨g,0,none⟩),.int .i64 i,.slice A n c] w fun e w'=>e=.returned (.int .i64 (m.write i bs).1)∧St w0 w' (bU g (m.write i bs).2::l):=by
 obtain ⟨F,⟨⟨L,wv,hd⟩,hF⟩,_,hf⟩:=h.frame;subst hn;refine (jL hd i A c bs hs fY).mono fun e w' ⟨h1,h2,h3⟩=>⟨h1,hf w' _ (Dy F w w') h3 ⟨h2,fun i hi=>?_⟩ fun i hi=>?_⟩
 ·have:=h3.size;rcases hi with hi|hi
  ·have:=hF i hi;omega
  ·exact hi.2
 ·rcases hi with hi|hi
  ·exact .inl hi
  ·exact .inr hi.1
theorem GY {w0 w:World} {l:List aD} {g:Nat} {m:DS} (h:St w0 w (bU g m::l)) (fY:m.waits.length≤1000000) :
  Calls Tryz.prog 136 #[.pointer (some ⟨g,0,none⟩)] w fun e w'=>e=.returned (.int .i64 m.flush.1)∧St w0 w' (bU g m.flush.2::l):=by
 obtain ⟨F,⟨hd,hF⟩,_,hf⟩:=h.frame;refine (TW hd fY).mono fun e w' ⟨h1,h2,h3⟩=>⟨h1,hf w' _ F h3 ⟨h2,fun i hi=>?_⟩ fun i hi=>.inl hi⟩
 have:=h3.size;have:=hF i hi;omega
theorem yX {w0 w:World} {l:List aD} {g:Nat} {m:DS} (h:St w0 w (bU g m::l)) (i:Int) (n:Nat) (hi:i=n) (hn:n < m.az.length) (hd:m.down=false) (fY:m.waits.length≤1000000) :
  Calls Tryz.prog 28 #[.pointer (some ⟨g,0,none⟩),.int .i64 i] w fun e w'=>∃b,e=.returned (.tuple #[.slice (some ⟨b,0,none⟩) 64 64,.int .i64 0])∧St w0 w' (row b 5 ((m.now n).map (.int .u8))::bU g m::l):=by
 obtain ⟨F,⟨⟨L,wv,hdk⟩,hF⟩,_,hf⟩:=h.frame;subst hi;exact (Jk hdk n hn hd fY).mono fun e w' ⟨b,h1,h2,h3,h4⟩=>⟨b,h1,h.Zm h4 h3 h2⟩
theorem Cz {w0 w:World} {l:List aD} {g:Nat} {m:DS} (h:St w0 w (bU g m::l)) (i:Int) (hi:(i < 0∨m.az.length≤i)∨m.down=true) (fY:m.waits.length≤1000000) :
  Calls Tryz.prog 28 #[.pointer (some ⟨g,0,none⟩),.int .i64 i] w fun e w'=>e=.returned (.tuple #[.slice none 0 0,.int .i64 (if i < 0∨m.az.length≤i then 3 else 8)])∧St w0 w' (bU g m::l):=by
 obtain ⟨F,⟨⟨L,wv,hdk⟩,hF⟩,_,hf⟩:=h.frame;refine (bk.xv hdk i fY).mono fun e w' ⟨h1,h2⟩=>?_;refine ⟨?_,h.below h2⟩;by_cases h3:i < 0∨m.az.length≤i
 ·rw [if_pos h3] at h1;rw [if_pos h3];exact h1
 ·rw [if_neg h3] at h1;rw [if_neg h3];rcases hi with hi|hi
  ·exact absurd hi h3
  ·rw [if_pos hi] at h1;exact h1
end sep
namespace place
open Go.RowKit base
theorem Um (n:Int) (w:World) (h0:0≤n) (h1:n < 10):Calls Tryz.prog 93 #[.int .i64 n] w fun e w'=>e=.returned (.tuple #[.int .i64 (n / 4),.int .i64 (n % 4*16),.bool true])∧w=w':=by
 go_enter Tryz.func93,Tryz.ntmps93
 go_wp2
 go_ret3
 exact ⟨rfl,rfl⟩
theorem Wr (n k:Int) (w:World) (h:n < 0∨k≤n):Calls Tryz.prog 140 #[.int .i64 n,.int .i64 k] w fun e w'=>e=.returned (.bool false)∧w=w':=by
 by_cases h0:n < 0
 ·go_enter Tryz.func140,Tryz.ntmps140
  go_wp2
  go_ret;exact ⟨rfl,rfl⟩
 ·have h1:0≤n:=by omega
  have h2:¬n < k:=by omega
  clear h;go_enter Tryz.func140,Tryz.ntmps140
  go_wp2
  go_ret;exact ⟨rfl,rfl⟩
theorem Rn (p c:Int) (w:World) (h0:0≤p) (h1:p < 4) (h2:0≤c) (h3:c < 2):Calls Tryz.prog 166 #[.int .i64 p,.int .i64 c] w fun e w'=>e=.returned (.tuple #[.int .i64 (p*10+c),.bool true])∧Below w.heap.size w w':=by
 go_enter Tryz.func166,Tryz.ntmps166
 go_wp2
 go_ret2;exact ⟨rfl,by first|exact Below.refl _ _|exact (Below.refl _ _).alloc (Nat.le_refl _) _⟩
theorem Oz (p c:Int) (w:World) (h:p < 0∨4≤p∨c < 0∨2≤c):Calls Tryz.prog 166 #[.int .i64 p,.int .i64 c] w fun e w'=>e=.returned (.tuple #[.int .i64 0,.bool false])∧Below w.heap.size w w':=by
 by_cases h0:c < 0∨2≤c
 ·clear h;go_enter Tryz.func166,Tryz.ntmps166;go_wp2_with (first|(go_at_call 140;refine (Wr _ _ _ h0).mono ?_;rintro e w' ⟨rfl,rfl⟩)|go_in);go_ret2;exact ⟨rfl,by first|exact Below.refl _ _|exact (Below.refl _ _).alloc (Nat.le_refl _) _⟩
 ·have h1:0≤c:=by omega
  have h2:c < 2:=by omega
  by_cases h3:p < 0
  ·clear h h0;go_enter Tryz.func166,Tryz.ntmps166
   go_wp2
   go_ret2;exact ⟨rfl,by first|exact Below.refl _ _|exact (Below.refl _ _).alloc (Nat.le_refl _) _⟩
  ·have h4:0≤p:=by omega
   have h5:4≤p:=by omega
   clear h h0;go_enter Tryz.func166,Tryz.ntmps166
   go_wp2
   go_ret2;exact ⟨rfl,by first|exact Below.refl _ _|exact (Below.refl _ _).alloc (Nat.le_refl _) _⟩
theorem I6 (p s:Int) (w:World) (h0:0≤p) (h1:p < 4) (h2:0≤s) (h3:s < 2):Calls Tryz.prog 139 #[.int .i64 p,.int .i64 s] w fun e w'=>e=.returned (.tuple #[.int .i64 (p*10+(2+s*4)),.bool true])∧Below w.heap.size w w':=by
 go_enter Tryz.func139,Tryz.ntmps139
 go_wp2
 go_ret2;exact ⟨rfl,by first|exact Below.refl _ _|exact (Below.refl _ _).alloc (Nat.le_refl _) _⟩
theorem BS (p s i:Int) (w:World) (h0:0≤p) (h1:p < 4) (h2:0≤s) (h3:s < 2) (h4:0≤i) (h5:i < 3):Calls Tryz.prog 94 #[.int .i64 p,.int .i64 s,.int .i64 i] w fun e w'=>e=.returned (.tuple #[.int .i64 (p*10+(2+s*4+1+i)),.bool true])∧Below w.heap.size w w':=by
 go_enter Tryz.func94,Tryz.ntmps94
 go_wp2
 go_ret2;exact ⟨rfl,by first|exact Below.refl _ _|exact (Below.refl _ _).alloc (Nat.le_refl _) _⟩
theorem Ni (n:Int) (w:World) (h:1≤n) (h':n≤4):Calls Tryz.prog 115 #[.int .i64 n] w fun e w'=>e=.returned (.int .i64 (10*n))∧w=w':=by
 go_enter Tryz.func115,Tryz.ntmps115
 go_wp2
 go_ret;exact ⟨by first|rfl|(show Ending.returned (Value.int .i64 (10*min (max n 1) 4))=_;rw [show min (max n 1) 4=n by omega]),rfl⟩
end place
namespace bk

open bw
def wf (m:DS) (i:Int) (bs:List Int):Int×DS:=if (m.write i bs).1=0 then (m.write i bs).2.flush else m.write i bs
structure DS.iU (m:DS):Prop where
 az:∀s∈m.az,bo s
 waits:∀p∈m.waits,bo p.2
theorem Xq:bo []:=fun z hz=>absurd hz (by simp)
theorem Du:bo br:=fun z hz=>by rw [(List.mem_replicate.1 hz).2];omega
theorem TU {s:List (List Int)} (h:∀x∈s,bo x) (i:Nat):bo (s.getD i []):=by
 rw [dz];cases hq:s[i]? with
 | none=>exact Xq
 | some x=>exact h x (List.mem_of_getElem? hq)
theorem Gh {ws:List (Nat×List Int)} {s:List Int} {i:Nat} (hw:∀p∈ws,bo p.2) (hs:bo s):∀k,bo (jt ws s i k)
 | 0=>hs
 | k+1=>by
   have ih:=Gh (i:=i) hw hs k;rw [jt];split
   ·rename_i p hp
    split
    ·exact hw p (List.mem_of_getElem? hp)
    ·exact ih
   ·exact ih
theorem DS.iU.now {m:DS} (h:m.iU) (i:Nat):bo (m.now i):=Gh h.waits (TU h.az i) _
theorem DS.Good.BI {m:DS} (h:m.Good) {i:Nat} (hi:i < m.az.length):(m.now i).length=64:=by
 unfold DS.now;refine vM (fun p hp=>(h.waits p hp).2) ?_ _ (Nat.le_refl _);rw [dz,cM hi];exact h.az _ (List.getElem_mem _)
theorem DS.Ww (n:Nat):(DS.new n).iU:=⟨fun s hs=>by rw [(List.mem_replicate.1 hs).2];exact Du,fun p hp=>absurd hp (by simp [DS.new])⟩
theorem DS.iU.bH {m:DS} (h:m.iU):m.bH.iU:=⟨by rw [DS.gL];exact h.az,by rw [DS.fk];exact h.waits⟩
theorem DS.iU.write {m:DS} (h:m.iU) (i:Int) {bs:List Int} (hb:bo bs):(m.write i bs).2.iU:=by
 unfold DS.write;split
 ·exact h
 ·split
  ·exact h
  ·split
   ·refine ⟨h.bH.az,fun p hp=>?_⟩;rcases List.mem_append.1 hp with hp|hp
    ·exact h.bH.waits p hp
    ·rw [List.mem_singleton.1 hp];exact hb
   ·exact h.bH
theorem Gl {p:Nat→Bool} {ws:List (Nat×List Int)} {s:List (List Int)} (hw:∀q∈ws,bo q.2) (hs:∀q∈s,bo q):∀k,∀q∈gK p ws s k,bo q
 | 0=>hs
 | k+1=>by
   have ih:=Gl (p:=p) hw hs k;intro q hq;rw [gK] at hq;split at hq
   ·rename_i w hw'
    split at hq
    ·rcases List.mem_or_eq_of_mem_set hq with h|h
     ·exact ih q h
     ·subst h;exact hw w (List.mem_of_getElem? hw')
    ·exact ih q hq
   ·exact ih q hq
theorem DS.iU.lay {m:DS} (h:m.iU) (p:Nat→Bool):(m.lay p).iU:=⟨Gl h.waits h.az _,fun q hq=>absurd hq (by simp [DS.lay])⟩
theorem DS.iU.flush {m:DS} (h:m.iU):m.flush.2.iU:=by
 unfold DS.flush;split
 ·exact h.bH.lay _
 ·exact h.bH
theorem DS.iU.eD {m:DS} (h:m.iU) (k:Int):(m.eD k).iU:=⟨(h.lay (keeps k)).az,(h.lay (keeps k)).waits⟩
theorem DS.iU.py {m:DS} (h:m.iU) (k:Int):(m.py k).iU:=by
 unfold DS.py;split
 ·exact h
 ·exact ⟨h.az,h.waits⟩
theorem DS.iU.wf {m:DS} (h:m.iU) (i:Int) {bs:List Int} (hb:bo bs):(wf m i bs).2.iU:=by
 unfold bk.wf;split
 ·exact (h.write i hb).flush
 ·exact h.write i hb
theorem DS.Good.write {m:DS} (h:m.Good) (i:Int) {bs:List Int}:(m.write i bs).2.Good:=by
 unfold DS.write;split
 ·exact h
 ·split
  ·exact h
  ·split
   ·exact DS.C5 (DS.nt h) (by rw [DS.gL];omega) (by omega)
   ·exact DS.nt h
theorem DS.Good.flush {m:DS} (h:m.Good):m.flush.2.Good:=by
 unfold DS.flush;split
 ·exact DS.Df (DS.nt h) _
 ·exact DS.nt h
theorem DS.Good.wf {m:DS} (h:m.Good) (i:Int) (bs:List Int):(wf m i bs).2.Good:=by
 unfold bk.wf;split
 ·exact (h.write i).flush
 ·exact h.write i
theorem DS.DB (m:DS) (i:Int) (bs:List Int):(m.write i bs).2.az=m.az:=by
 unfold DS.write;split
 ·rfl
 ·split
  ·rfl
  ·split
   ·exact DS.gL m
   ·exact DS.gL m
theorem DS.JC (m:DS) (p:Nat→Bool):(m.lay p).az.length=m.az.length:=jZ _ _ _ _
theorem DS.Om (m:DS):m.flush.2.az.length=m.az.length:=by
 unfold DS.flush;split
 ·rw [DS.JC,DS.gL]
 ·rw [DS.gL]
theorem jB (m:DS) (i:Int) (bs:List Int):(wf m i bs).2.az.length=m.az.length:=by
 unfold wf;split
 ·rw [DS.Om,DS.DB]
 ·rw [DS.DB]
theorem DS.DY (m:DS) (k:Int):(m.eD k).az.length=m.az.length:=DS.JC m _
theorem yH (ws:List (Nat×List Int)) (x:Nat×List Int) (s:List Int) (i:Nat):∀k,k≤ws.length→jt (ws++[x]) s i k=jt ws s i k
 | 0,_=>rfl
 | k+1,h=>by
   rw [jt,jt,yH ws x s i k (by omega),List.getElem?_append_left (by omega)]
theorem DS.We (m:DS) (i:Nat) (bs:List Int) (j:Nat):(m.put i bs).now j=if j=i then bs else m.now j:=by
 unfold DS.now DS.put;simp only [gA,List.length_singleton];rw [jt,List.getElem?_append_right (Nat.le_refl _)];simp only [Nat.sub_self,List.getElem?_cons_zero];rw [yH _ _ _ _ _ (Nat.le_refl _)];by_cases h:i=j
 ·rw [if_pos h,if_pos h.symm]
 ·rw [if_neg h,if_neg fun e=>h e.symm]
theorem DS.Ba (m:DS) (j:Nat):m.bH.now j=m.now j:=by unfold DS.now;rw [DS.fk,DS.gL]
theorem kx (l:List (List Int)) (i j:Nat) (x:List Int):(l.set i x).getD j []=if j=i∧i < l.length then x else l.getD j []:=by
 rw [dz,List.getElem?_set,dz];by_cases h:i=j
 ·subst h;by_cases hl:i < l.length
  ·simp [hl]
  ·simp [hl]
 ·have h':¬j=i:=fun e=>h e.symm;simp [h,h']
theorem Gk (ws:List (Nat×List Int)) (s:List (List Int)) (j:Nat) (hw:∀p∈ws,p.1 < s.length):∀k,k≤ws.length→(gK (fun _=>true) ws s k).getD j []=jt ws (s.getD j []) j k
 | 0,_=>rfl
 | k+1,h=>by
   have ih:=Gk ws s j hw k (by omega);rw [Ai (by omega) rfl,kx,jZ];have hl:=hw _ (List.getElem_mem (show k < ws.length by omega));by_cases e:(ws[k]'(by omega)).1=j
   ·rw [if_pos ⟨e.symm,hl⟩,Ae (by omega) e]
   ·rw [if_neg fun x=>e x.1.symm,ui (by omega) e,ih]
theorem DS.WJ {m:DS} (h:m.Good) (j:Nat):(m.lay fun _=>true).now j=m.now j:=Gk m.waits m.az j (fun p hp=>(h.waits p hp).1) _ (Nat.le_refl _)
theorem DS.Q8 {m:DS} (h:m.Good) (j:Nat):m.flush.2.now j=m.now j:=by
 unfold DS.flush;split
 ·rw [DS.WJ (DS.nt h),DS.Ba]
 ·rw [DS.Ba]
theorem DS.pz {m:DS} (h:m.waits=[]) (j:Nat):m.now j=m.az.getD j []:=by unfold DS.now;rw [h];rfl
theorem DS.Wu {n j:Nat} (h:j < n):(DS.new n).now j=br:=by
 rw [DS.pz rfl];simp [DS.new,dz,h]
theorem yf {m:DS} {i:Int} {bs:List Int} (h0:0≤i) (h1:i < m.az.length) (hb:bs.length=64):m.write i bs=if m.goes then (0,m.bH.put i.toNat bs) else (8,m.bH):=by
 unfold DS.write;rw [if_neg (by omega),if_neg (by omega)]
theorem Uk {m:DS} (h:m.goes=true):m.bH.down=false:=by
 unfold DS.goes at h;unfold DS.bH;simp at h;simp [h]
theorem KC {m:DS} (h:m.goes=false):m.bH.down=true:=by
 unfold DS.goes at h;unfold DS.bH;have h':(m.down||m.kQ==0)=true:=by cases hq:(m.down||m.kQ==0)<;>simp [hq] at h ⊢
 rw [if_pos h']
theorem ud {m:DS} (hg:m.Good) {i:Int} {bs:List Int} (h0:0≤i) (h1:i < m.az.length) (hb:bs.length=64) (h:(wf m i bs).1=0) :
  (wf m i bs).2.waits=[]∧(wf m i bs).2.down=false∧∀j,(wf m i bs).2.now j=if j=i.toNat then bs else m.now j:=by
 unfold wf at *;have hw:=yf h0 h1 hb;by_cases u9:m.goes=true
 ·rw [if_pos u9] at hw;have ew:(m.bH.put i.toNat bs).Good:=DS.C5 (DS.nt hg) (by rw [DS.gL];omega) hb;rw [hw] at h ⊢;simp only [if_true] at h ⊢;by_cases hf:(m.bH.put i.toNat bs).goes=true
  ·have e:(m.bH.put i.toNat bs).flush=(0,(m.bH.put i.toNat bs).bH.lay fun _=>true):=by unfold DS.flush;rw [if_pos hf]
   have hn:=fun j=>DS.Q8 ew j;rw [e] at hn ⊢;refine ⟨rfl,Uk hf,fun j=>?_⟩;rw [hn j,DS.We,DS.Ba]
  ·have e:(m.bH.put i.toNat bs).flush.1=8:=by unfold DS.flush;rw [if_neg hf]
   rw [e] at h;exact absurd h (by decide)
 ·rw [if_neg u9] at hw;rw [hw] at h;exact absurd (show (8:Int)=0 from h) (by decide)
theorem xh {m:DS} {i:Int} {bs:List Int} (h0:0≤i) (h1:i < m.az.length) (hb:bs.length=64) (h:(wf m i bs).1≠0) :
  (wf m i bs).1=8∧(wf m i bs).2.down=true∧(wf m i bs).2.az=m.az∧((wf m i bs).2.waits=m.waits∨(wf m i bs).2.waits=m.waits++[(i.toNat,bs)]):=by
 unfold wf at *;have hw:=yf h0 h1 hb;by_cases u9:m.goes=true
 ·rw [if_pos u9] at hw;rw [hw] at h ⊢;simp only [if_true] at h ⊢;by_cases hf:(m.bH.put i.toNat bs).goes=true
  ·have e:(m.bH.put i.toNat bs).flush.1=0:=by unfold DS.flush;rw [if_pos hf]
   exact absurd e h
  ·have e:(m.bH.put i.toNat bs).flush=(8,(m.bH.put i.toNat bs).bH):=by unfold DS.flush;rw [if_neg hf]
   rw [e];refine ⟨rfl,KC (by simpa using hf),?_,.inr ?_⟩
   ·show (m.bH.put i.toNat bs).bH.az=m.az
    rw [DS.gL];exact DS.gL m
   ·show (m.bH.put i.toNat bs).bH.waits=m.waits++[(i.toNat,bs)]
    rw [DS.fk];show m.bH.waits++[(i.toNat,bs)]=_
    rw [DS.fk]
 ·rw [if_neg u9] at hw;rw [hw];exact ⟨rfl,KC (by simpa using u9),DS.gL m,.inl (DS.fk m)⟩
theorem OE {m:DS} (h:m.down=true):m.bH=m:=by
 unfold DS.bH;rw [h];simp only [Bool.true_or,if_true];rw [←h]
theorem LD {m:DS} {i:Int} {bs:List Int} (h0:0≤i) (h1:i < m.az.length) (hb:bs.length=64) (h:m.down=true):wf m i bs=(8,m):=by
 have hg:m.goes=false:=by unfold DS.goes;rw [h];rfl
 have e:m.write i bs=(8,m):=by rw [yf h0 h1 hb,hg,OE h];rfl
 unfold wf;rw [e];rfl
def DS.Up (m:DS):Prop:=m.down=false∧m.kQ=-1
theorem DS.Up.goes {m:DS} (h:m.Up):m.goes=true:=by unfold DS.goes;rw [h.1,h.2];rfl
theorem DS.Up.bH {m:DS} (h:m.Up):m.bH=m:=by
 unfold DS.bH;rw [h.1,h.2];have h1:=h.1;have h2:=h.2;obtain ⟨a,b,c,d⟩:=m;simp only at h1 h2;subst h1;subst h2;rfl
theorem yj {m:DS} {i:Int} {bs:List Int} (h0:0≤i) (h1:i < m.az.length) (hb:bs.length=64) (h:m.Up):wf m i bs=(0,(m.put i.toNat bs).lay fun _=>true)∧(wf m i bs).2.Up:=by
 have e:m.write i bs=(0,m.put i.toNat bs):=by rw [yf h0 h1 hb,if_pos h.goes,h.bH]
 have hp:(m.put i.toNat bs).Up:=h
 have e2:wf m i bs=(0,(m.put i.toNat bs).lay fun _=>true):=by
  unfold wf;rw [e];simp only [if_true];unfold DS.flush;rw [if_pos hp.goes,hp.bH]
 exact ⟨e2,by rw [e2];exact hp⟩
theorem DS.Yd (n:Nat):(DS.new n).Up:=⟨rfl,rfl⟩
theorem DS.S7 (m:DS) (k:Int):(m.eD k).Up:=⟨rfl,rfl⟩
theorem DS.wT (m:DS) (k:Int):(m.eD k).waits=[]:=rfl
theorem Aa {m:DS} {i:Nat} {bs:List Int} (h:m.waits=[]∨m.waits=[(i,bs)]) (k:Int):(m.eD k).az=m.az∨(m.waits=[(i,bs)]∧(m.eD k).az=m.az.set i bs):=by
 show gK (keeps k) m.waits m.az m.waits.length=_∨(_∧gK (keeps k) m.waits m.az m.waits.length=_)
 rcases h with h|h
 ·rw [h];exact .inl rfl
 ·rw [h];by_cases hk:keeps k 0=true
  ·refine .inr ⟨rfl,?_⟩;rw [show [(i,bs)].length=0+1 from rfl,Ai (by simp) hk];rfl
  ·refine .inl ?_;rw [show [(i,bs)].length=0+1 from rfl,JD (by simp) (by simpa using hk)];rfl
end bk
namespace record

open Go.RowKit base obj mem
structure Rec where
 part:Int
 seq:Int
 ax:Int
 aj:Int
 left:Int
 bad:Int
deriving DecidableEq
def Rec.cells (r:Rec):Array Value:=#[.int .i64 r.part,.int .i64 r.seq,.int .i64 r.ax,.int .i64 r.aj,.int .i64 r.left,.int .i64 r.bad]
def Rec.val (r:Rec):Value:=.agg r.cells
def kC (n i:Int):Bool:=decide (n / 2 ^ i.toNat % 2=0)
def Rec.right (r:Rec):Bool :=
 decide (0≤r.part∧r.part≤3)&&decide (1≤r.seq∧r.seq≤4294967295)&&decide (0≤r.ax∧r.ax≤1)&&decide (0≤r.aj∧r.aj≤1)&&decide (0≤r.left∧r.left≤7)
  && (decide (r.left=0)||!decide (r.ax=r.aj))&&decide (0≤r.bad∧r.bad≤3)&&(kC r.bad r.ax&&kC r.bad r.aj)
theorem OI (a lo hi:Int) (w:World):Calls Tryz.prog 176 #[.int .i64 a,.int .i64 lo,.int .i64 hi] w fun e w'=>e=.returned (.bool (decide (lo≤a∧a≤hi)))∧w'=w:=by
 by_cases h1:lo≤a
 ·by_cases h2:a≤hi
  ·have e:decide (lo≤a∧a≤hi)=true:=by simp [h1,h2]
   rw [e];go_enter Tryz.func176,Tryz.ntmps176;go_wp2_with fail;go_ret;exact ⟨rfl,rfl⟩
  ·have e:decide (lo≤a∧a≤hi)=false:=by simp [h2]
   rw [e];go_enter Tryz.func176,Tryz.ntmps176;go_wp2_with fail;go_ret;exact ⟨rfl,rfl⟩
 ·have e:decide (lo≤a∧a≤hi)=false:=by simp [h1]
  rw [e];go_enter Tryz.func176,Tryz.ntmps176;go_wp2_with fail;go_ret;exact ⟨rfl,rfl⟩
theorem aT (a lo hi:Int) (w:World) (b:Bool) (h:decide (lo≤a∧a≤hi)=b):Calls Tryz.prog 176 #[.int .i64 a,.int .i64 lo,.int .i64 hi] w fun e w'=>e=.returned (.bool b)∧w'=w:=by
 subst h;exact OI a lo hi w
theorem LV (bad a c:Int) (ha:0≤a∧a≤1) (hc:0≤c∧c≤1) (hb:0≤bad∧bad≤3):bits .and .i64 bad (bits .or .i64 (wrap64 (2 ^ a.toNat)) (wrap64 (2 ^ c.toNat)))=0 ↔ (kC bad a&&kC bad c)=true:=by
 have h1:a=0∨a=1:=by omega
 have h2:c=0∨c=1:=by omega
 have h3:bad=0∨bad=1∨bad=2∨bad=3:=by omega
 rcases h1 with rfl|rfl<;>rcases h2 with rfl|rfl<;>rcases h3 with rfl|rfl|rfl|rfl<;>decide +kernel
theorem ft (r:Rec) (w:World):Calls Tryz.prog 133 #[r.val] w fun e w'=>e=.returned (.bool r.right)∧Below w.heap.size w w':=by
 obtain ⟨part,seq,ax,aj,left,bad⟩:=r;unfold Rec.val Rec.cells
 have HD:=aa (show Rec.right ⟨part,seq,ax,aj,left,bad⟩=(decide (0≤part∧part≤3)&&decide (1≤seq∧seq≤4294967295)&&decide (0≤ax∧ax≤1)&&decide (0≤aj∧aj≤1)&&decide (0≤left∧left≤7)
  && (decide (left=0)||!decide (ax=aj))&&decide (0≤bad∧bad≤3)&&(kC bad ax&&kC bad aj)) from rfl)
 have HB:=aa (fun o=>(Below.refl w.heap.size w).alloc (Nat.le_refl _) o);cases k1:decide (0≤part∧part≤3) with
 | false =>
   have K1:=aa k1;clear k1;have HR:=aa (show false=Rec.right ⟨part,seq,ax,aj,left,bad⟩ from by rw [HD.o,K1.o];simp);go_enter Tryz.func133,Tryz.ntmps133;go_wp2_with fail;go_big_quiet (first|exact Calls.quiet_of_same (aT _ _ _ _ _ K1.o));go_wp2_with fail;go_ret;exact ⟨aE HR.o,below_drewN (HB.o _) _⟩
 | true =>
   have K1:=aa k1;clear k1;cases k2:decide (1≤seq∧seq≤4294967295) with
   | false =>
     have K2:=aa k2;clear k2;have HR:=aa (show false=Rec.right ⟨part,seq,ax,aj,left,bad⟩ from by rw [HD.o,K1.o,K2.o];simp);go_enter Tryz.func133,Tryz.ntmps133;go_wp2_with fail;go_big_quiet (first|exact Calls.quiet_of_same (aT _ _ _ _ _ K1.o)|exact Calls.quiet_of_same (aT _ _ _ _ _ K2.o));go_wp2_with fail;go_ret;exact ⟨aE HR.o,below_drewN (HB.o _) _⟩
   | true =>
     have K2:=aa k2;clear k2;cases k3:decide (0≤ax∧ax≤1) with
     | false =>
       have K3:=aa k3;clear k3;have HR:=aa (show false=Rec.right ⟨part,seq,ax,aj,left,bad⟩ from by rw [HD.o,K1.o,K2.o,K3.o];simp);go_enter Tryz.func133,Tryz.ntmps133;go_wp2_with fail;go_big_quiet (first|exact Calls.quiet_of_same (aT _ _ _ _ _ K1.o)|exact Calls.quiet_of_same (aT _ _ _ _ _ K2.o)|exact Calls.quiet_of_same (aT _ _ _ _ _ K3.o));go_wp2_with fail;go_ret;exact ⟨aE HR.o,below_drewN (HB.o _) _⟩
     | true =>
       have K3:=aa k3;clear k3;cases k4:decide (0≤aj∧aj≤1) with
       | false =>
         have K4:=aa k4;clear k4;have HR:=aa (show false=Rec.right ⟨part,seq,ax,aj,left,bad⟩ from by rw [HD.o,K1.o,K2.o,K3.o,K4.o];simp);go_enter Tryz.func133,Tryz.ntmps133;go_wp2_with fail;go_big_quiet (first|exact Calls.quiet_of_same (aT _ _ _ _ _ K1.o)|exact Calls.quiet_of_same (aT _ _ _ _ _ K2.o)|exact Calls.quiet_of_same (aT _ _ _ _ _ K3.o)|exact Calls.quiet_of_same (aT _ _ _ _ _ K4.o));go_wp2_with fail;go_ret;exact ⟨aE HR.o,below_drewN (HB.o _) _⟩
       | true =>
         have K4:=aa k4;clear k4;cases k5:decide (0≤left∧left≤7) with
         | false =>
           have K5:=aa k5;clear k5;have HR:=aa (show false=Rec.right ⟨part,seq,ax,aj,left,bad⟩ from by rw [HD.o,K1.o,K2.o,K3.o,K4.o,K5.o];simp);go_enter Tryz.func133,Tryz.ntmps133;go_wp2_with fail;go_big_quiet (first|exact Calls.quiet_of_same (aT _ _ _ _ _ K1.o)|exact Calls.quiet_of_same (aT _ _ _ _ _ K2.o)|exact Calls.quiet_of_same (aT _ _ _ _ _ K3.o)|exact Calls.quiet_of_same (aT _ _ _ _ _ K4.o)|exact Calls.quiet_of_same (aT _ _ _ _ _ K5.o));go_wp2_with fail;go_ret;exact ⟨aE HR.o,below_drewN (HB.o _) _⟩
         | true =>
           have K5:=aa k5;clear k5;by_cases l0:left=0
           ·have t1:(left==0)=true:=by simp [l0]
            have L0:=aa (show (decide (left=0)||!decide (ax=aj))=true from by simp [l0]);clear l0;cases k6:decide (0≤bad∧bad≤3) with
            | false =>
              have K6:=aa k6;clear k6;have HR:=aa (show false=Rec.right ⟨part,seq,ax,aj,left,bad⟩ from by rw [HD.o,K1.o,K2.o,K3.o,K4.o,K5.o,L0.o,K6.o];simp);go_enter Tryz.func133,Tryz.ntmps133;go_wp2_with fail;go_big_quiet (first|exact Calls.quiet_of_same (aT _ _ _ _ _ K1.o)|exact Calls.quiet_of_same (aT _ _ _ _ _ K2.o)|exact Calls.quiet_of_same (aT _ _ _ _ _ K3.o)|exact Calls.quiet_of_same (aT _ _ _ _ _ K4.o)|exact Calls.quiet_of_same (aT _ _ _ _ _ K5.o)|exact Calls.quiet_of_same (aT _ _ _ _ _ K6.o));go_wp2_with fail;go_ret;exact ⟨aE HR.o,below_drewN (HB.o _) _⟩
            | true =>
              have K6:=aa k6;clear k6;have HT:=aa (show bits .and .i64 bad (bits .or .i64 (wrap64 (2 ^ ax.toNat)) (wrap64 (2 ^ aj.toNat)))=0 ↔ (kC bad ax&&kC bad aj)=true from LV bad ax aj (by simpa using K3.o) (by simpa using K4.o) (by simpa using K6.o));have a0:0≤ax:=(show 0≤ax∧ax≤1 by simpa using K3.o).1;have a1:ax≤1:=(show 0≤ax∧ax≤1 by simpa using K3.o).2;have c0:0≤aj:=(show 0≤aj∧aj≤1 by simpa using K4.o).1;have c1:aj≤1:=(show 0≤aj∧aj≤1 by simpa using K4.o).2;go_enter Tryz.func133,Tryz.ntmps133;go_wp2_with fail;go_big_quiet (first|exact Calls.quiet_of_same (aT _ _ _ _ _ K1.o)|exact Calls.quiet_of_same (aT _ _ _ _ _ K2.o)|exact Calls.quiet_of_same (aT _ _ _ _ _ K3.o)|exact Calls.quiet_of_same (aT _ _ _ _ _ K4.o)|exact Calls.quiet_of_same (aT _ _ _ _ _ K5.o)|exact Calls.quiet_of_same (aT _ _ _ _ _ K6.o));go_wp2_with fail;go_ret;exact ⟨aE (by rw [HD.o,K1.o,K2.o,K3.o,K4.o,K5.o,L0.o,K6.o];simp only [Bool.true_and];exact Bool.eq_iff_iff.2 (by rw [beq_iff_eq];exact HT.o)),below_drewN (HB.o _) _⟩
           ·have t1:(left==0)=false:=by simp [l0]
            by_cases ac:ax=aj
            ·have t2:(ax != aj)=false:=by simp [ac]
             have L0:=aa (show (decide (left=0)||!decide (ax=aj))=false from by simp [l0,ac]);have AC:=aa ac;clear l0 ac;have HR:=aa (show false=Rec.right ⟨part,seq,ax,aj,left,bad⟩ from by rw [HD.o,K1.o,K2.o,K3.o,K4.o,K5.o,L0.o];simp);go_enter Tryz.func133,Tryz.ntmps133;go_wp2_with fail;go_big_quiet (first|exact Calls.quiet_of_same (aT _ _ _ _ _ K1.o)|exact Calls.quiet_of_same (aT _ _ _ _ _ K2.o)|exact Calls.quiet_of_same (aT _ _ _ _ _ K3.o)|exact Calls.quiet_of_same (aT _ _ _ _ _ K4.o)|exact Calls.quiet_of_same (aT _ _ _ _ _ K5.o));go_wp2_with fail;go_ret;exact ⟨aE HR.o,below_drewN (HB.o _) _⟩
            ·have t2:(ax != aj)=true:=by simp [ac]
             have L0:=aa (show (decide (left=0)||!decide (ax=aj))=true from by simp [ac]);clear l0 ac;cases k6:decide (0≤bad∧bad≤3) with
             | false =>
               have K6:=aa k6;clear k6;have HR:=aa (show false=Rec.right ⟨part,seq,ax,aj,left,bad⟩ from by rw [HD.o,K1.o,K2.o,K3.o,K4.o,K5.o,L0.o,K6.o];simp);go_enter Tryz.func133,Tryz.ntmps133;go_wp2_with fail;go_big_quiet (first|exact Calls.quiet_of_same (aT _ _ _ _ _ K1.o)|exact Calls.quiet_of_same (aT _ _ _ _ _ K2.o)|exact Calls.quiet_of_same (aT _ _ _ _ _ K3.o)|exact Calls.quiet_of_same (aT _ _ _ _ _ K4.o)|exact Calls.quiet_of_same (aT _ _ _ _ _ K5.o)|exact Calls.quiet_of_same (aT _ _ _ _ _ K6.o));go_wp2_with fail;go_ret;exact ⟨aE HR.o,below_drewN (HB.o _) _⟩
             | true =>
               have K6:=aa k6;clear k6;have HT:=aa (show bits .and .i64 bad (bits .or .i64 (wrap64 (2 ^ ax.toNat)) (wrap64 (2 ^ aj.toNat)))=0 ↔ (kC bad ax&&kC bad aj)=true from LV bad ax aj (by simpa using K3.o) (by simpa using K4.o) (by simpa using K6.o));have a0:0≤ax:=(show 0≤ax∧ax≤1 by simpa using K3.o).1;have a1:ax≤1:=(show 0≤ax∧ax≤1 by simpa using K3.o).2;have c0:0≤aj:=(show 0≤aj∧aj≤1 by simpa using K4.o).1;have c1:aj≤1:=(show 0≤aj∧aj≤1 by simpa using K4.o).2;go_enter Tryz.func133,Tryz.ntmps133;go_wp2_with fail;go_big_quiet (first|exact Calls.quiet_of_same (aT _ _ _ _ _ K1.o)|exact Calls.quiet_of_same (aT _ _ _ _ _ K2.o)|exact Calls.quiet_of_same (aT _ _ _ _ _ K3.o)|exact Calls.quiet_of_same (aT _ _ _ _ _ K4.o)|exact Calls.quiet_of_same (aT _ _ _ _ _ K5.o)|exact Calls.quiet_of_same (aT _ _ _ _ _ K6.o));go_wp2_with fail;go_ret;exact ⟨aE (by rw [HD.o,K1.o,K2.o,K3.o,K4.o,K5.o,L0.o,K6.o];simp only [Bool.true_and];exact Bool.eq_iff_iff.2 (by rw [beq_iff_eq];exact HT.o)),below_drewN (HB.o _) _⟩
end record
namespace bytes

open Go.RowKit base obj mem
theorem tH (z:Value) (m:Nat):Builtin.zeroCells #[z] m=(List.replicate m z).toArray:=by
 apply Array.ext
 ·simp [Builtin.zeroCells]
 ·intro i h1 h2;simp [Builtin.zeroCells,Nat.mod_one]
theorem Fi {P:Program} (w:World) (t tn ty e:TypeId) (i:TypeInfo) (z:Value) (kq kn:IntKind) (ht:P.underlying t=some (.slice e)) (U7:P.underlying tn=some (.int kn)) (hi:P.info? e=some i) (hz:i.zero=some z) (jE:i.size=1) (Qr:z.cells=#[z]) (h1:z.oneCell'=true)
  (g qj yv:Nat) (cur:Array Value) (hg:w.heap[g]?=some (.cells cur e (0,0))) (k:Nat) (h0:0 < k) (qG:k≤1000000) (cu:i.bytes=1) (ll:qj+k≤yv) (kP:qj+k≤cur.size) :
  (Builtin.append_ #[t,tn] ty #[.slice (some ⟨g,0,none⟩) qj yv,.int kq k]).run P w =
   .ok (.slice (some ⟨g,0,none⟩) (qj+k) yv) (w.setRow g (cur.toList.take qj++List.replicate k z++cur.toList.drop (qj+k)).toArray):=by
 have av:=run_storeCells_at P g qj e (List.replicate k z) 0 cur w hg (by simpa using kP) (fun v hv=>by rw [List.eq_of_mem_replicate hv];exact h1);simp only [Nat.add_zero,zI] at av;have hk:k≠0:=by omega
 have hw:IntKind.i64.wrap (k:Int)=k:=by rw [IntKind.wrap_i64];omega
 have aaS:¬((k:Int) < 0):=by omega
 have hns:¬(k*i.size=0):=by rw [jE];omega
 simp [Builtin.append_,run_underlying ht,run_underlying U7,sizeOf,typeInfo,zeroValue,hi,hz,asInt,asIntOf,hw,aaS,ll,jE,hk,Qr,tH,Addr.add_lit,av,cu];omega
theorem Ii {P:Program} (w:World) (base:Nat) (t tn ty e:TypeId) (i:TypeInfo) (z:Value) (kq kn:IntKind) (ht:P.underlying t=some (.slice e)) (U7:P.underlying tn=some (.int kn)) (hi:P.info? e=some i) (hz:i.zero=some z) (jE:i.size=1) (Qr:z.cells=#[z]) (h1:z.oneCell'=true) (cu:i.bytes=1)
  (v:Value) (n:Nat) (xs:List Value) (fP:w.ownsRow base e 1 v n xs) (k:Nat) (h0:0 < k) (hn:0 < n) (qG:n+k≤1000000) (nZ:base≤w.heap.size) :
  ∃v' w',(Builtin.append_ #[t,tn] ty #[v,.int kq k]).run P w=.ok v' w'∧w'.ownsRow base e 1 v' (n+k) (xs++List.replicate k z)∧w.grownBy w' v.ownBlock:=by
 have hmx:(1000000:Nat)≤maxLen:=by decide
 have hlen:(xs++List.replicate k z).length=(n+k)*1:=by rw [gA,fP.1,zI];omega
 rcases fP.2 with ⟨rfl,rfl⟩|⟨g,cap,cur,rfl,GH,hg,vY,tk,cX,U8⟩
 ·omega
 ·by_cases ll:n+k≤cap
  ·have hr:=Fi (P:=P) w t tn ty e i z kq kn ht U7 hi hz jE Qr h1 g n cap cur hg k h0 (by omega) cu ll (by omega);refine ⟨_,_,hr,⟨hlen,.inr ⟨g,cap,_,rfl,GH,setRow_heap w g cur _ e _ hg,ll,tk,?_,?_⟩⟩,⟨rfl,rfl,rfl,by simp,fun k _ hk=>setRow_other w g k _ (fun e=>hk (by simp [Value.ownBlock,e]))⟩⟩
   ·simp only [List.size_toArray,gA,fv,List.length_drop,Array.length_toList,zI];omega
   ·rw [Nat.mul_one] at U8;rw [U8,←hlen];exact List.take_left
  ·have holds:∀j u,xs[j]?=some u→w.cell? ((⟨g,0,none⟩:Addr).add j)=some u:=fP.cells (g:=g) rfl;have hfc:=run_firstCells_some (P:=P) w.drew i.size n ⟨g,0,none⟩ n cap xs (by rw [jE];exact fP.1) holds
   have hns:Builtin.nextslicecap (n+k) cap*i.bytes≤281474976710656:=by
    rw [cu];have:=nextslicecap_le (need:=n+k) (old:=cap) (by omega);omega
   have hr:=Lib.run_append_grow_zeros (P:=P) w t tn ty e i z kq kn ht U7 hi hz (some ⟨g,0,none⟩) n cap xs hfc k h0 (by omega) (by omega) (by omega) (by rw [cu];omega) hns;have zx:=grownCap_ge w (n+k) cap e;have aa6:grownCap w (n+k) cap e≤maxLen:=grownCap_le_maxLen w (n+k) cap e (by omega);rw [Qr,tH,tH] at hr;refine ⟨_,_,hr,⟨hlen,.inr ⟨w.heap.size,_,_,rfl,nZ,heap_alloc_new w.drew _,zx,aa6,?_,?_⟩⟩,⟨rfl,rfl,rfl,by simp,fun j hj _=>Below.heap_alloc w.drew _ j hj⟩⟩
   ·have h:=fP.1;simp only [Array.size_append,List.size_toArray,zI];omega
   ·simp only [Array.toList_append,List.append_assoc];rw [←List.append_assoc,←hlen];exact List.take_left
theorem Rx {ops:Array Oper} {rest:List Oper} {o:Oper} {a:Act} {Q:Exit→Act→World→Prop} {w:World} (ew:o.guard=none) (s x:Operand)
  (ho:o.op=.call { callee:=.builtin .append,args:=#[s,x],argTypes:=#[24,3] })
  {base:Nat} {v:Value} {n:Nat} {xs:List Value} (fP:w.ownsRow base 5 1 v n xs) (hs:a.eval s=v) {k:Nat} (hx:a.eval x=.int .i64 k) (h0:0 < k) (hn:0 < n) (qG:n+k≤1000000) (nZ:base≤w.heap.size)
  (h:∀v' w',w'.ownsRow base 5 1 v' (n+k) (xs++List.replicate k (.int .u8 0))→w.grownBy w' v.ownBlock→wpList Tryz.prog ops Q rest (a.put o.dst v') w') :
  wpList Tryz.prog ops Q (o::rest) a w:=by
 obtain ⟨i0,hi,j8,mF,iq⟩:=info_parts NP;obtain ⟨v',w',hr,h2,h3⟩:=Ii (P:=Tryz.prog) w base 24 3 o.type 5 i0 (.int .u8 0) .i64 .i64 Tryz.underlying24 Tryz.underlying3 hi j8 mF rfl rfl iq v n xs fP k h0 hn qG nZ;exact Lib.wpList_append_run w ew s x 24 3 ho v (.int .i64 k) hs hx v' w' hr (h v' w' h2 h3)
end bytes
namespace lift

open Go.RowKit Go.ChangeShapes Go.WideShapes Go.Deep base
theorem own:ownKnob Tryz.prog.godebug=none:=by kernel_rfl
theorem laidOut:laidOutB Tryz.prog=true:=by kernel_rfl
section
variable {H : Type} {enc : TypeId × Value → H} {P : Program}
theorem Hp (hl:laidOutB P=true) {W W':World} (hb:Below W.heap.size W W') {sp:Nat→Bool}:∀(ts:List TypeId) (vs:List Value) (ds:List (DataW H)) (ps:List MemPlace),
  (ts.all fun t=>P.readableRec t&&decide (t < P.types.size))=true→DataW.TrodAll enc P W 0 (fun _=>true) true ts vs ds ps→(∀p∈ps,p.block < W.heap.size)→(∀p∈ps,sp p.block=true)→
  DataW.TrodAll enc P W' 0 sp true ts vs ds ps
 | [],vs,ds,ps,_,h,_,_=>by
   obtain ⟨rfl,rfl,rfl⟩:=trodAll_nil h;exact trodAll_mk0
 | t::ts,vs,ds,ps,hr,h,aK,zo=>by
   obtain ⟨v,F5,d,ds',p,q,rfl,rfl,rfl,h0,h1⟩:=trodAll_cons h;simp only [List.all_cons,Bool.and_eq_true,decide_eq_true_eq] at hr;refine trodAll_cons_mk (WideElems.Trod_stays hl hr.1.1 hr.1.2 h0 (fun x hx=>hb.same (aK x (by simp [hx]))) (fun x hx=>zo x (by simp [hx]))) ?_;exact Hp hl hb ts F5 ds' q (by simpa using hr.2) h1 (fun x hx=>aK x (by simp [hx])) (fun x hx=>zo x (by simp [hx]))
theorem sA {α:Type} (q:Nat→List α) (s:Nat) (hs:0 < s):∀(n:Nat),(∀i,i < n→(q i).length=s)→((List.range n).flatMap q).length=n*s∧∀i j,i < n→j < s→((List.range n).flatMap q)[i*s+j]?=(q i)[j]?
 | 0,_=>⟨by simp,fun i j hi=>absurd hi (by omega)⟩
 | n+1,h=>by
   obtain ⟨h1,h2⟩:=sA q s hs n (fun i hi=>h i (by omega));have e:(List.range (n+1)).flatMap q=(List.range n).flatMap q++q n:=by rw [List.range_succ,List.flatMap_append];simp
   have hm:n*s+s=(n+1)*s:=by rw [Nat.add_mul,Nat.one_mul]
   refine ⟨by rw [e,gA,h1,h n (by omega)];exact hm,fun i j hi hj=>?_⟩;rw [e];by_cases et:i < n
   ·have:i*s+j < n*s:=by
     have:(i+1)*s≤n*s:=Nat.mul_le_mul_right s et;rw [Nat.add_mul,Nat.one_mul] at this;omega
    rw [List.getElem?_append_left (by omega),h2 i j et hj]
   ·have hi':i=n:=by omega
    subst hi';rw [List.getElem?_append_right (by omega),h1]
    congr 1
    omega
theorem KJ (a:Addr) (i j:Nat):(a.add i).add j=a.add (i+j):=by
 unfold Addr.add;by_cases hi:i=0<;>by_cases hj:j=0<;>simp [hi,hj,Nat.add_assoc]
theorem Xv {W:World} {r:Reach} {b0:Nat} {t e s:TypeId} {v:Value} {d:DataW H} {ps:List MemPlace} (ht:P.underlying t=some (.slice e)) (hc:P.cellsOf e=s) (hs:0 < s)
  (hval:Value.okWide P W r b0 t v) (h:DataW.Trod enc P W 0 (fun _=>true) true t v d ps) :
  ∃(A:Option Addr) (n c:Nat) (q:Nat→List Value),v=.slice A n c∧n≤maxLen∧Sl W W.heap.size s A n ((List.range n).flatMap q)∧
   ∀i,i < n→(q i).length=s∧∃m x,DataW.trod enc P W 0 (fun _=>true) true m e (q i)=some x:=by
 obtain ⟨a0,len,cap,rfl⟩:=okWide_slice ht hval;obtain ⟨fuel,hf⟩:=h;rcases open_slice ht hf with ⟨cX,_⟩|⟨a,ab7,acy,m,k,D,Pl,cX,_,hl,hm,zt,_,hx⟩
 ·simp [Value.cells] at cX;obtain ⟨rfl,rfl,rfl⟩:=cX;exact ⟨none,0,0,fun _=>[],rfl,by simp [maxLen],⟨by simp,fun h=>absurd h (by omega)⟩,fun i hi=>absurd hi (by omega)⟩
 ·simp [Value.cells] at cX;obtain ⟨rfl,rfl,rfl⟩:=cX;simp only [if_true] at zt;subst zt;rw [hc] at hx;obtain ⟨q,hq⟩:=choose_lt hx
  have hlen:∀i,i < len→(q i).length=s∧∀j,j < s→W.cell? (a.add (i*s+j))=(q i)[j]?:=by
   intro i hi;obtain ⟨_,h1,h2⟩:=World.cells?_some (hq i (by omega)).1;exact ⟨h1,fun j hj=>by rw [←h2 j hj,KJ]⟩
  obtain ⟨f1,f2⟩:=sA q s hs len (fun i hi=>(hlen i hi).1);have Cp:len≤maxLen:=Nat.le_trans hl hm;have bG:∀i,i < len→(q i).length=s∧∃m x,DataW.trod enc P W 0 (fun _=>true) true m e (q i)=some x:=fun i hi=>⟨(hlen i hi).1,k,_,(hq i (Nat.lt_of_lt_of_le hi hl)).2⟩
  refine ⟨some a,len,_,q,rfl,Cp,⟨f1,fun hn=>?_⟩,bG⟩;have cell0:=(hlen 0 (by omega)).2 0 hs;have Q3:=(hlen 0 (by omega)).1;obtain ⟨b,off,spot⟩:=a;have Ei:W.cell? ((⟨b,off,spot⟩:Addr).add (0*s+0))=some ((q 0)[0]'(by rw [Q3];exact hs)):=by rw [cell0];exact cM (by rw [Q3];exact hs)
  have NV:spot=none:=by simpa [Addr.add] using World.cell?_spot Ei
  subst NV;have yQ:∀k,(⟨b,off,none⟩:Addr).add k=⟨b,off+k,none⟩:=fun k=>by unfold Addr.add;split<;>simp_all
  refine ⟨b,off,rfl,?_,fun k u hu=>?_⟩
  ·have:=World.block_lt_of_cell? W _ Ei;rw [yQ] at this;exact this
  ·have hk:k < len*s:=by
    have:=(List.getElem?_eq_some_iff.1 hu).1;omega
   have hi:k / s < len:=Nat.div_lt_of_lt_mul (by rw [Nat.mul_comm];exact hk);have hj:k % s < s:=Nat.mod_lt _ hs;have dC:k / s*s+k % s=k:=by rw [Nat.mul_comm];exact Nat.div_add_mod k s
   have g:=f2 (k / s) (k % s) hi hj;rw [dC] at g;have c:=(hlen (k / s) hi).2 (k % s) hj;rw [dC,yQ] at c;rw [c,←g];exact hu
theorem Np {W:World} {e:TypeId} {fs:Array Field} {cs:List Value} {m:Nat} {x:DataW H×List MemPlace} (he:P.underlying e=some (.struct fs)) (FG:oneCellFields P fs=true) (hl:cs.length=fs.size)
  (h:DataW.trod enc P W 0 (fun _=>true) true m e cs=some x):∀(j:Nat) (f:Field),fs[j]?=some f→∃(v:Value) (k:Nat) (y:DataW H×List MemPlace),cs[j]?=some v∧DataW.trod enc P W 0 (fun _=>true) true k f.type [v]=some y:=by
 obtain ⟨ys,n',uZ,hy,hlen,ru,hf⟩:=DataW.trod_struct he h;intro j f hj;obtain ⟨ho,hk⟩:=hone_of FG j f hj;have iZ:j < fs.size:=(Array.getElem?_eq_some_iff.1 hj).1;have h1:=hf j f hj;rw [ho,hk] at h1;have QF:j < cs.length:=by rw [hl];exact iZ
 have aaa:(cs.drop j).take 1=[cs[j]]:=by
  rw [List.drop_eq_getElem_cons QF];rfl
 rw [aaa] at h1;have rq:ys[j]?=some (ys[j]'(by rw [ru];exact iZ)):=cM _;exact ⟨_,n',_,cM QF,h1.trans rq⟩
end
end lift
end Go.Proofs.YtdldkkoplgkloaaGreat
