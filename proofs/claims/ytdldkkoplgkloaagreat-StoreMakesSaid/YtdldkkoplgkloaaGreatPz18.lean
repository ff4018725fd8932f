/-
  PROVED HERE: lemmas and contracts that the law's proof leans on (texts put together: DiskPower, DiskSep, Place, WfMath, RecRight, Zeros).
  CONDITIONS: each names its own.
-/
import Derived.BigQuiet
import Derived.Deep.QuietTactic
import Derived.Laws.ShiftsVar
import Derived.Lib.AppendZerosOnto
import Derived.WalkSmall
import Derived.Test.YtdldkkoplgkloaaGreatPz0
import Derived.Test.YtdldkkoplgkloaaGreatPz1
import Derived.Test.YtdldkkoplgkloaaGreatPz2
import Derived.Test.YtdldkkoplgkloaaGreatPz3
import Derived.Test.YtdldkkoplgkloaaGreatPz4
import Derived.Test.YtdldkkoplgkloaaGreatPz16
import Derived.Test.YtdldkkoplgkloaaGreatPz17
namespace Go.Proofs.YtdldkkoplgkloaaGreat
set_option linter.unusedVariables false
set_option linter.unusedSimpArgs false
set_option maxRecDepth 100000
set_option maxHeartbeats 32000000
namespace disk

open Go.RowKit base obj mem plan
theorem all_any (w:World) (i:Int):Calls Tryz.prog 177 (#[.int .i64 i]++#[]) w fun e w'=>e=.returned (.bool true)∧w=w':=by
 show Calls Tryz.prog 177 #[.int .i64 i] w _
 go_enter Tryz.func177,Tryz.ntmps177
 go_wp2_with (fail)
 go_ret
 exact ⟨rfl,rfl⟩
theorem keep_out (w:World) (b i:Nat) (h:¬i < 64):Calls Tryz.prog 80 (#[.int .i64 i]++#[.pointer (some ⟨b,0,none⟩)]) w fun e w'=>e=.returned (.bool false)∧w=w':=by
 show Calls Tryz.prog 80 #[.int .i64 i,.pointer (some ⟨b,0,none⟩)] w _
 have h':¬(i:Int) < 64:=by omega
 go_enter Tryz.func80,Tryz.ntmps80
 go_wp2_with (fail)
 go_ret
 exact ⟨rfl,rfl⟩
theorem keep_in (w:World) (b i:Nat) (keep:Int) (h:i < 64) (hk0:0≤keep) (hk1:keep≤18446744073709551615) (hc:w.cell? ⟨b,0,none⟩=some (.int .u64 keep)):Calls Tryz.prog 80 (#[.int .i64 i]++#[.pointer (some ⟨b,0,none⟩)]) w fun e w'=>e=.returned (.bool (keep / 2 ^ i % 2==1))∧w=w':=by
 show Calls Tryz.prog 80 #[.int .i64 i,.pointer (some ⟨b,0,none⟩)] w _
 have h':(i:Int) < 64:=by omega
 go_enter Tryz.func80,Tryz.ntmps80
 go_wp2_with (fail)
 go_ret
 have e2:(0:Int) < 2 ^ i:=Int.pow_pos (by decide)
 have e0:0≤keep / 2 ^ i:=Int.ediv_nonneg hk0 (by omega)
 have e1:keep / 2 ^ i≤keep:=Int.ediv_le_self _ hk0
 refine ⟨ret_bool ?_,rfl⟩
 rw [and_one_u64 _ e0 (by omega)]
 have h3:=Int.emod_two_eq (keep / 2 ^ i)
 rcases h3 with h3|h3<;>rw [h3]<;>rfl
theorem hcf_all (w:World) (i:Int):(callFunc 177 (#[.int .i64 i]++#[])).run Tryz.prog w=.ok (.enter 177 (#[.int .i64 i]++#[])) w:=by kernel_rfl
theorem hcf_keep (b:Nat) (w:World) (i:Int):(callFunc 80 (#[.int .i64 i]++#[.pointer (some ⟨b,0,none⟩)])).run Tryz.prog w=.ok (.enter 80 (#[.int .i64 i]++#[.pointer (some ⟨b,0,none⟩)])) w:=by kernel_rfl
theorem flush_at {w:World} {F:Nat→Prop} {g:Nat} {m:DS} (h:DiskAt w F g m) (hwl:m.waits.length≤1000000) :
  Calls Tryz.prog 136 #[.pointer (some ⟨g,0,none⟩)] w fun e w'=>e=.returned (.int .i64 m.flush.1)∧DiskAt w' F g m.flush.2∧Kept F w w':=by
 obtain ⟨L,wv,h⟩:=h
 have HB:=Lib.hid (burn_at h)
 have H:=Lib.hid h
 cases hg:m.goes
 ·have e:m.flush=(8,m.burnt):=by simp [DS.flush,hg]
  rw [e]
  rw [hg] at HB
  clear e hg h
  go_enter Tryz.func136,Tryz.ntmps136
  go_wp2_with (fail)
  refine HB.out.mono ?_;rintro e w' ⟨rfl,hd,hk⟩
  have HD:=Lib.hid hd;have HK:=Lib.hid hk;clear hd hk
  go_wp2_with (fail)
  go_ret
  exact ⟨rfl,⟨L,wv,HD.out⟩,kept_of_one HK.out H.out.fg⟩
 ·have e:m.flush=(0,m.burnt.lay fun _=>true):=by simp [DS.flush,hg]
  rw [e]
  rw [hg] at HB
  clear e hg h
  go_enter Tryz.func136,Tryz.ntmps136
  go_wp2_with (fail)
  refine HB.out.mono ?_;rintro e w' ⟨rfl,hd,hk⟩
  have HD:=Lib.hid hd;have HK:=Lib.hid hk;clear hd hk
  go_wp2_with (fail)
  refine (lay_at HD.out (fun _=>true) 177 #[] hcf_all (fun wr _ i _=>all_any wr i) (by rw [DS.burnt_waits];exact hwl)).mono ?_;rintro e w2 ⟨rfl,hd,hk⟩
  have HD2:=Lib.hid hd;have HK2:=Lib.hid hk;clear hd hk
  go_wp2_with (fail)
  go_ret
  exact ⟨rfl,HD2.out,(kept_of_one HK.out H.out.fg).trans HK2.out (fun i h=>h) (fun i h _=>h)⟩
theorem power_at {w:World} {F:Nat→Prop} {g:Nat} {m:DS} (h:DiskAt w F g m) (keep:Int) (hF:∀i,F i→i < w.heap.size) (hk0:0≤keep) (hk1:keep≤18446744073709551615) (hwl:m.waits.length≤1000000) :
  Calls Tryz.prog 32 #[.pointer (some ⟨g,0,none⟩),.int .u64 keep] w fun e w'=>e=.returned (.tuple #[])∧DiskAt w' F g (m.power keep)∧Kept F w w':=by
 obtain ⟨L,wv,h⟩:=h
 have H:=Lib.hid h
 have h1:DiskIn (w.alloc (.cells #[.int .u64 keep] 56)) F g L wv m:=h.kept ((Kept.refl (fun _=>False) w).alloc _) (fun _ _ h=>h)
 have hf:∀wr,Kept F (w.alloc (.cells #[.int .u64 keep] 56)) wr→∀i:Nat,i < m.waits.length→Calls Tryz.prog 80 (#[.int .i64 i]++#[.pointer (some ⟨w.heap.size,0,none⟩)]) wr fun e w'=>e=.returned (.bool (keeps keep i))∧wr=w':=by
  intro wr hk i _
  have hc:wr.cell? ⟨w.heap.size,0,none⟩=some (.int .u64 keep):=by
   rw [hk.cell (p:=⟨w.heap.size,0,none⟩) (by simp) (fun hh=>by have hq:w.heap.size < w.heap.size:=hF _ hh;omega)]
   exact (Row.new w 56 #[.int .u64 keep]).cell 0
  by_cases hi:i < 64
  ·have e:keeps keep i=(keep / 2 ^ i % 2==1):=by simp [keeps,hi]
   rw [e]
   exact keep_in wr _ i keep hi hk0 hk1 hc
  ·have e:keeps keep i=false:=by simp [keeps,hi]
   rw [e]
   exact keep_out wr _ i hi
 have HL:=Lib.hid (lay_at h1 (keeps keep) 80 #[.pointer (some ⟨w.heap.size,0,none⟩)] (hcf_keep _) hf hwl)
 clear h h1 hf hk0 hk1 hF
 go_enter Tryz.func32,Tryz.ntmps32
 go_wp2_with (fail)
 refine HL.out.mono ?_;rintro e w2 ⟨rfl,hd,hk⟩
 obtain ⟨L2,wv2,hd⟩:=hd
 have c3:w2.cell? ⟨g,3,none⟩=some (.bool m.down):=hd.blk.cell 3
 have c2:w2.cell? ⟨g,2,none⟩=some (.int .i64 m.fuse):=hd.blk.cell 2
 have f2:=hd.blk.frozen 2
 have f3:=hd.blk.frozen 3
 have HD2:=Lib.hid hd;have HK2:=Lib.hid hk;clear hd hk
 go_wp2_with (fail)
 go_end0
 have D1:=HD2.out.set (m':={ m.lay (keeps keep) with fuse:=-1 }) 2 (.int .i64 (-1)) rfl ⟨HD2.out.good.secs,HD2.out.good.waits,by simp,by simp,HD2.out.good.n0,HD2.out.good.n1⟩ rfl rfl
 have D2:=D1.set (m':=m.power keep) 3 (.bool false) rfl (DS.power_good H.out.good keep) rfl rfl
 refine ⟨rfl,⟨L2,wv2,D2⟩,?_⟩
 exact ((((Kept.refl F w).alloc _).trans HK2.out (fun i h=>h) (fun i h _=>h)).setCell (p:=⟨g,2,none⟩) (.inl H.out.fg) _).setCell (p:=⟨g,3,none⟩) (.inl H.out.fg) _
end disk
namespace sep

open Go.RowKit base obj mem disk
def dsk (g:Nat) (m:DS):Asn where
 on w F:=DiskAt w F g m∧∀i,F i→i < w.heap.size
 dom:=fun h i hi=>h.2 i hi
 loc:=fun {w w' F} h e=>by
  refine ⟨?_,fun i hi=>dom_of (h.2 i hi) (e i hi)⟩
  obtain ⟨⟨L,wv,h⟩,_⟩:=h
  refine ⟨L,wv,h.good,(e g h.fg).trans h.blk,(e L h.fl).trans h.laid,?_,h.fg,h.fl,h.fw⟩
  refine ⟨h.own.1,?_⟩
  rcases h.own.2 with hz|⟨k,cap,cur,hv,hb,hk,rest⟩
  ·exact .inl hz
  ·exact .inr ⟨k,cap,cur,hv,hb,(e k (h.fw k (by rw [hv];rfl))).trans hk,rest⟩
theorem St.good {w0 w:World} {l:List Asn} {g:Nat} {m:DS} (h:St w0 w (dsk g m::l)):m.Good:=by
 obtain ⟨F,⟨⟨L,wv,hd⟩,_⟩,_⟩:=h.frame
 exact hd.good
theorem dsk_new {w0 w:World} {l:List Asn} (h:St w0 w l) (n:Int):Calls Tryz.prog 26 #[.int .i64 n] w fun e w'=>∃g,e=.returned (.pointer (some ⟨g,0,none⟩))∧St w0 w' (dsk g (DS.new (clampN n))::l) :=
 (new_any n w).mono fun e w' ⟨g,h1,h2,h3,h4⟩=>⟨g,h1,h.add h4 (F:=More (fun _=>False) w w') ⟨h3,fun i hi=>by rcases hi with hi|hi;exact hi.elim;exact hi.2⟩ fun i hi=>by rcases hi with hi|hi;exact hi.elim;exact hi.1⟩
theorem dsk_len {w0 w:World} {l:List Asn} {g:Nat} {m:DS} (h:St w0 w (dsk g m::l)):Calls Tryz.prog 35 #[.pointer (some ⟨g,0,none⟩)] w fun e w'=>e=.returned (.int .i64 m.secs.length)∧w'=w:=by
 obtain ⟨F,⟨⟨L,wv,hd⟩,_⟩,_⟩:=h.frame
 exact (len_at hd).mono fun e w' ⟨h1,h2⟩=>⟨h1,h2.symm⟩
theorem dsk_write {w0 w:World} {l:List Asn} {g:Nat} {m:DS} (h:St w0 w (dsk g m::l)) (i:Int) (A:Option Addr) (n c:Nat) (bs:List Int) (hn:bs.length=n) (hs:Sl w w.heap.size 1 A n (bs.map (.int .u8))) (hwl:m.waits.length≤1000000) :
  Calls Tryz.prog 29 #[.pointer (some ⟨g,0,none⟩),.int .i64 i,.slice A n c] w fun e w'=>e=.returned (.int .i64 (m.write i bs).1)∧St w0 w' (dsk g (m.write i bs).2::l):=by
 obtain ⟨F,⟨⟨L,wv,hd⟩,hF⟩,_,hf⟩:=h.frame
 subst hn
 refine (write_at hd i A c bs hs hwl).mono fun e w' ⟨h1,h2,h3⟩=>⟨h1,hf w' _ (More F w w') h3 ⟨h2,fun i hi=>?_⟩ fun i hi=>?_⟩
 ·have:=h3.size
  rcases hi with hi|hi
  ·have:=hF i hi;omega
  ·exact hi.2
 ·rcases hi with hi|hi
  ·exact .inl hi
  ·exact .inr hi.1
theorem dsk_flush {w0 w:World} {l:List Asn} {g:Nat} {m:DS} (h:St w0 w (dsk g m::l)) (hwl:m.waits.length≤1000000) :
  Calls Tryz.prog 136 #[.pointer (some ⟨g,0,none⟩)] w fun e w'=>e=.returned (.int .i64 m.flush.1)∧St w0 w' (dsk g m.flush.2::l):=by
 obtain ⟨F,⟨hd,hF⟩,_,hf⟩:=h.frame
 refine (flush_at hd hwl).mono fun e w' ⟨h1,h2,h3⟩=>⟨h1,hf w' _ F h3 ⟨h2,fun i hi=>?_⟩ fun i hi=>.inl hi⟩
 have:=h3.size;have:=hF i hi;omega
theorem dsk_read {w0 w:World} {l:List Asn} {g:Nat} {m:DS} (h:St w0 w (dsk g m::l)) (i:Int) (n:Nat) (hi:i=n) (hn:n < m.secs.length) (hd:m.down=false) (hwl:m.waits.length≤1000000) :
  Calls Tryz.prog 28 #[.pointer (some ⟨g,0,none⟩),.int .i64 i] w fun e w'=>∃b,e=.returned (.tuple #[.slice (some ⟨b,0,none⟩) 64 64,.int .i64 0])∧St w0 w' (row b 5 ((m.now n).map (.int .u8))::dsk g m::l):=by
 obtain ⟨F,⟨⟨L,wv,hdk⟩,hF⟩,_,hf⟩:=h.frame
 subst hi
 exact (read_yes hdk n hn hd hwl).mono fun e w' ⟨b,h1,h2,h3,h4⟩=>⟨b,h1,h.addRow h4 h3 h2⟩
theorem dsk_read_no {w0 w:World} {l:List Asn} {g:Nat} {m:DS} (h:St w0 w (dsk g m::l)) (i:Int) (hi:(i < 0∨m.secs.length≤i)∨m.down=true) (hwl:m.waits.length≤1000000) :
  Calls Tryz.prog 28 #[.pointer (some ⟨g,0,none⟩),.int .i64 i] w fun e w'=>e=.returned (.tuple #[.slice none 0 0,.int .i64 (if i < 0∨m.secs.length≤i then 3 else 8)])∧St w0 w' (dsk g m::l):=by
 obtain ⟨F,⟨⟨L,wv,hdk⟩,hF⟩,_,hf⟩:=h.frame
 refine (disk.read_at hdk i hwl).mono fun e w' ⟨h1,h2⟩=>?_
 refine ⟨?_,h.below h2⟩
 by_cases h3:i < 0∨m.secs.length≤i
 ·rw [if_pos h3] at h1
  rw [if_pos h3]
  exact h1
 ·rw [if_neg h3] at h1
  rw [if_neg h3]
  rcases hi with hi|hi
  ·exact absurd hi h3
  ·rw [if_pos hi] at h1
   exact h1
end sep
namespace place
open Go.RowKit base
theorem block_in (n:Int) (w:World) (h0:0≤n) (h1:n < 10):Calls Tryz.prog 93 #[.int .i64 n] w fun e w'=>e=.returned (.tuple #[.int .i64 (n / 4),.int .i64 (n % 4*16),.bool true])∧w=w':=by
 go_enter Tryz.func93,Tryz.ntmps93
 go_wp2
 go_ret3
 exact ⟨rfl,rfl⟩
theorem one_out (n k:Int) (w:World) (h:n < 0∨k≤n):Calls Tryz.prog 140 #[.int .i64 n,.int .i64 k] w fun e w'=>e=.returned (.bool false)∧w=w':=by
 by_cases h0:n < 0
 ·go_enter Tryz.func140,Tryz.ntmps140
  go_wp2
  go_ret
  exact ⟨rfl,rfl⟩
 ·have h1:0≤n:=by omega
  have h2:¬n < k:=by omega
  clear h
  go_enter Tryz.func140,Tryz.ntmps140
  go_wp2
  go_ret
  exact ⟨rfl,rfl⟩
theorem commit_in (p c:Int) (w:World) (h0:0≤p) (h1:p < 4) (h2:0≤c) (h3:c < 2):Calls Tryz.prog 166 #[.int .i64 p,.int .i64 c] w fun e w'=>e=.returned (.tuple #[.int .i64 (p*10+c),.bool true])∧Below w.heap.size w w':=by
 go_enter Tryz.func166,Tryz.ntmps166
 go_wp2
 go_ret2
 exact ⟨rfl,by first|exact Below.refl _ _|exact (Below.refl _ _).alloc (Nat.le_refl _) _⟩
theorem commit_out (p c:Int) (w:World) (h:p < 0∨4≤p∨c < 0∨2≤c):Calls Tryz.prog 166 #[.int .i64 p,.int .i64 c] w fun e w'=>e=.returned (.tuple #[.int .i64 0,.bool false])∧Below w.heap.size w w':=by
 by_cases h0:c < 0∨2≤c
 ·clear h
  go_enter Tryz.func166,Tryz.ntmps166
  go_wp2_with (first|(go_at_call 140;refine (one_out _ _ _ h0).mono ?_;rintro e w' ⟨rfl,rfl⟩)|go_in)
  go_ret2
  exact ⟨rfl,by first|exact Below.refl _ _|exact (Below.refl _ _).alloc (Nat.le_refl _) _⟩
 ·have h1:0≤c:=by omega
  have h2:c < 2:=by omega
  by_cases h3:p < 0
  ·clear h h0
   go_enter Tryz.func166,Tryz.ntmps166
   go_wp2
   go_ret2
   exact ⟨rfl,by first|exact Below.refl _ _|exact (Below.refl _ _).alloc (Nat.le_refl _) _⟩
  ·have h4:0≤p:=by omega
   have h5:4≤p:=by omega
   clear h h0
   go_enter Tryz.func166,Tryz.ntmps166
   go_wp2
   go_ret2
   exact ⟨rfl,by first|exact Below.refl _ _|exact (Below.refl _ _).alloc (Nat.le_refl _) _⟩
theorem stage_in (p s:Int) (w:World) (h0:0≤p) (h1:p < 4) (h2:0≤s) (h3:s < 2):Calls Tryz.prog 139 #[.int .i64 p,.int .i64 s] w fun e w'=>e=.returned (.tuple #[.int .i64 (p*10+(2+s*4)),.bool true])∧Below w.heap.size w w':=by
 go_enter Tryz.func139,Tryz.ntmps139
 go_wp2
 go_ret2
 exact ⟨rfl,by first|exact Below.refl _ _|exact (Below.refl _ _).alloc (Nat.le_refl _) _⟩
theorem data_in (p s i:Int) (w:World) (h0:0≤p) (h1:p < 4) (h2:0≤s) (h3:s < 2) (h4:0≤i) (h5:i < 3):Calls Tryz.prog 94 #[.int .i64 p,.int .i64 s,.int .i64 i] w fun e w'=>e=.returned (.tuple #[.int .i64 (p*10+(2+s*4+1+i)),.bool true])∧Below w.heap.size w w':=by
 go_enter Tryz.func94,Tryz.ntmps94
 go_wp2
 go_ret2
 exact ⟨rfl,by first|exact Below.refl _ _|exact (Below.refl _ _).alloc (Nat.le_refl _) _⟩
theorem sectors_in (n:Int) (w:World) (h:1≤n) (h':n≤4):Calls Tryz.prog 115 #[.int .i64 n] w fun e w'=>e=.returned (.int .i64 (10*n))∧w=w':=by
 go_enter Tryz.func115,Tryz.ntmps115
 go_wp2
 go_ret
 exact ⟨by first|rfl|(show Ending.returned (Value.int .i64 (10*min (max n 1) 4))=_;rw [show min (max n 1) 4=n by omega]),rfl⟩
end place
namespace disk

open crc
def wf (m:DS) (i:Int) (bs:List Int):Int×DS:=if (m.write i bs).1=0 then (m.write i bs).2.flush else m.write i bs
structure DS.Bts (m:DS):Prop where
 secs:∀s∈m.secs,Byt s
 waits:∀p∈m.waits,Byt p.2
theorem byt_nil:Byt []:=fun z hz=>absurd hz (by simp)
theorem byt_zero:Byt zeroSec:=fun z hz=>by rw [(List.mem_replicate.1 hz).2];omega
theorem getD_byt {s:List (List Int)} (h:∀x∈s,Byt x) (i:Nat):Byt (s.getD i []):=by
 rw [List.getD_eq_getElem?_getD]
 cases hq:s[i]? with
 | none=>exact byt_nil
 | some x=>exact h x (List.mem_of_getElem? hq)
theorem nowTo_byt {ws:List (Nat×List Int)} {s:List Int} {i:Nat} (hw:∀p∈ws,Byt p.2) (hs:Byt s):∀k,Byt (nowTo ws s i k)
 | 0=>hs
 | k+1=>by
   have ih:=nowTo_byt (i:=i) hw hs k
   rw [nowTo]
   split
   ·rename_i p hp
    split
    ·exact hw p (List.mem_of_getElem? hp)
    ·exact ih
   ·exact ih
theorem DS.Bts.now {m:DS} (h:m.Bts) (i:Nat):Byt (m.now i):=nowTo_byt h.waits (getD_byt h.secs i) _
theorem DS.Good.now_len {m:DS} (h:m.Good) {i:Nat} (hi:i < m.secs.length):(m.now i).length=64:=by
 unfold DS.now
 refine nowTo_len (fun p hp=>(h.waits p hp).2) ?_ _ (Nat.le_refl _)
 rw [List.getD_eq_getElem?_getD,List.getElem?_eq_getElem hi]
 exact h.secs _ (List.getElem_mem _)
theorem DS.new_bts (n:Nat):(DS.new n).Bts:=⟨fun s hs=>by rw [(List.mem_replicate.1 hs).2];exact byt_zero,fun p hp=>absurd hp (by simp [DS.new])⟩
theorem DS.Bts.burnt {m:DS} (h:m.Bts):m.burnt.Bts:=⟨by rw [DS.burnt_secs];exact h.secs,by rw [DS.burnt_waits];exact h.waits⟩
theorem DS.Bts.write {m:DS} (h:m.Bts) (i:Int) {bs:List Int} (hb:Byt bs):(m.write i bs).2.Bts:=by
 unfold DS.write
 split
 ·exact h
 ·split
  ·exact h
  ·split
   ·refine ⟨h.burnt.secs,fun p hp=>?_⟩
    rcases List.mem_append.1 hp with hp|hp
    ·exact h.burnt.waits p hp
    ·rw [List.mem_singleton.1 hp];exact hb
   ·exact h.burnt
theorem layTo_byt {p:Nat→Bool} {ws:List (Nat×List Int)} {s:List (List Int)} (hw:∀q∈ws,Byt q.2) (hs:∀q∈s,Byt q):∀k,∀q∈layTo p ws s k,Byt q
 | 0=>hs
 | k+1=>by
   have ih:=layTo_byt (p:=p) hw hs k
   intro q hq
   rw [layTo] at hq
   split at hq
   ·rename_i w hw'
    split at hq
    ·rcases List.mem_or_eq_of_mem_set hq with h|h
     ·exact ih q h
     ·subst h
      exact hw w (List.mem_of_getElem? hw')
    ·exact ih q hq
   ·exact ih q hq
theorem DS.Bts.lay {m:DS} (h:m.Bts) (p:Nat→Bool):(m.lay p).Bts:=⟨layTo_byt h.waits h.secs _,fun q hq=>absurd hq (by simp [DS.lay])⟩
theorem DS.Bts.flush {m:DS} (h:m.Bts):m.flush.2.Bts:=by
 unfold DS.flush
 split
 ·exact h.burnt.lay _
 ·exact h.burnt
theorem DS.Bts.power {m:DS} (h:m.Bts) (k:Int):(m.power k).Bts:=⟨(h.lay (keeps k)).secs,(h.lay (keeps k)).waits⟩
theorem DS.Bts.setFuse {m:DS} (h:m.Bts) (k:Int):(m.setFuse k).Bts:=by
 unfold DS.setFuse
 split
 ·exact h
 ·exact ⟨h.secs,h.waits⟩
theorem DS.Bts.wf {m:DS} (h:m.Bts) (i:Int) {bs:List Int} (hb:Byt bs):(wf m i bs).2.Bts:=by
 unfold disk.wf
 split
 ·exact (h.write i hb).flush
 ·exact h.write i hb
theorem DS.Good.write {m:DS} (h:m.Good) (i:Int) {bs:List Int}:(m.write i bs).2.Good:=by
 unfold DS.write
 split
 ·exact h
 ·split
  ·exact h
  ·split
   ·exact DS.put_good (DS.burnt_good h) (by rw [DS.burnt_secs];omega) (by omega)
   ·exact DS.burnt_good h
theorem DS.Good.flush {m:DS} (h:m.Good):m.flush.2.Good:=by
 unfold DS.flush
 split
 ·exact DS.lay_good (DS.burnt_good h) _
 ·exact DS.burnt_good h
theorem DS.Good.wf {m:DS} (h:m.Good) (i:Int) (bs:List Int):(wf m i bs).2.Good:=by
 unfold disk.wf
 split
 ·exact (h.write i).flush
 ·exact h.write i
theorem DS.write_secs (m:DS) (i:Int) (bs:List Int):(m.write i bs).2.secs=m.secs:=by
 unfold DS.write
 split
 ·rfl
 ·split
  ·rfl
  ·split
   ·exact DS.burnt_secs m
   ·exact DS.burnt_secs m
theorem DS.lay_slen (m:DS) (p:Nat→Bool):(m.lay p).secs.length=m.secs.length:=layTo_len _ _ _ _
theorem DS.flush_slen (m:DS):m.flush.2.secs.length=m.secs.length:=by
 unfold DS.flush
 split
 ·rw [DS.lay_slen,DS.burnt_secs]
 ·rw [DS.burnt_secs]
theorem wf_slen (m:DS) (i:Int) (bs:List Int):(wf m i bs).2.secs.length=m.secs.length:=by
 unfold wf
 split
 ·rw [DS.flush_slen,DS.write_secs]
 ·rw [DS.write_secs]
theorem DS.power_slen (m:DS) (k:Int):(m.power k).secs.length=m.secs.length:=DS.lay_slen m _
theorem nowTo_snoc (ws:List (Nat×List Int)) (x:Nat×List Int) (s:List Int) (i:Nat):∀k,k≤ws.length→nowTo (ws++[x]) s i k=nowTo ws s i k
 | 0,_=>rfl
 | k+1,h=>by
   rw [nowTo,nowTo,nowTo_snoc ws x s i k (by omega),List.getElem?_append_left (by omega)]
theorem DS.put_now (m:DS) (i:Nat) (bs:List Int) (j:Nat):(m.put i bs).now j=if j=i then bs else m.now j:=by
 unfold DS.now DS.put
 simp only [List.length_append,List.length_singleton]
 rw [nowTo,List.getElem?_append_right (Nat.le_refl _)]
 simp only [Nat.sub_self,List.getElem?_cons_zero]
 rw [nowTo_snoc _ _ _ _ _ (Nat.le_refl _)]
 by_cases h:i=j
 ·rw [if_pos h,if_pos h.symm]
 ·rw [if_neg h,if_neg fun e=>h e.symm]
theorem DS.burnt_now (m:DS) (j:Nat):m.burnt.now j=m.now j:=by unfold DS.now;rw [DS.burnt_waits,DS.burnt_secs]
theorem getD_set (l:List (List Int)) (i j:Nat) (x:List Int):(l.set i x).getD j []=if j=i∧i < l.length then x else l.getD j []:=by
 rw [List.getD_eq_getElem?_getD,List.getElem?_set,List.getD_eq_getElem?_getD]
 by_cases h:i=j
 ·subst h
  by_cases hl:i < l.length
  ·simp [hl]
  ·simp [hl]
 ·have h':¬j=i:=fun e=>h e.symm
  simp [h,h']
theorem lay_nowTo (ws:List (Nat×List Int)) (s:List (List Int)) (j:Nat) (hw:∀p∈ws,p.1 < s.length):∀k,k≤ws.length→(layTo (fun _=>true) ws s k).getD j []=nowTo ws (s.getD j []) j k
 | 0,_=>rfl
 | k+1,h=>by
   have ih:=lay_nowTo ws s j hw k (by omega)
   rw [layTo_yes (by omega) rfl,getD_set,layTo_len]
   have hl:=hw _ (List.getElem_mem (show k < ws.length by omega))
   by_cases e:(ws[k]'(by omega)).1=j
   ·rw [if_pos ⟨e.symm,hl⟩,nowTo_hit (by omega) e]
   ·rw [if_neg fun x=>e x.1.symm,nowTo_miss (by omega) e,ih]
theorem DS.lay_now {m:DS} (h:m.Good) (j:Nat):(m.lay fun _=>true).now j=m.now j:=lay_nowTo m.waits m.secs j (fun p hp=>(h.waits p hp).1) _ (Nat.le_refl _)
theorem DS.flush_now {m:DS} (h:m.Good) (j:Nat):m.flush.2.now j=m.now j:=by
 unfold DS.flush
 split
 ·rw [DS.lay_now (DS.burnt_good h),DS.burnt_now]
 ·rw [DS.burnt_now]
theorem DS.now_nil {m:DS} (h:m.waits=[]) (j:Nat):m.now j=m.secs.getD j []:=by unfold DS.now;rw [h];rfl
theorem DS.new_now {n j:Nat} (h:j < n):(DS.new n).now j=zeroSec:=by
 rw [DS.now_nil rfl]
 simp [DS.new,List.getD_eq_getElem?_getD,h]
theorem write_in {m:DS} {i:Int} {bs:List Int} (h0:0≤i) (h1:i < m.secs.length) (hb:bs.length=64):m.write i bs=if m.goes then (0,m.burnt.put i.toNat bs) else (8,m.burnt):=by
 unfold DS.write
 rw [if_neg (by omega),if_neg (by omega)]
theorem burnt_go {m:DS} (h:m.goes=true):m.burnt.down=false:=by
 unfold DS.goes at h
 unfold DS.burnt
 simp at h
 simp [h]
theorem burnt_no {m:DS} (h:m.goes=false):m.burnt.down=true:=by
 unfold DS.goes at h
 unfold DS.burnt
 have h':(m.down||m.fuse==0)=true:=by cases hq:(m.down||m.fuse==0)<;>simp [hq] at h ⊢
 rw [if_pos h']
theorem wf_ok {m:DS} (hg:m.Good) {i:Int} {bs:List Int} (h0:0≤i) (h1:i < m.secs.length) (hb:bs.length=64) (h:(wf m i bs).1=0) :
  (wf m i bs).2.waits=[]∧(wf m i bs).2.down=false∧∀j,(wf m i bs).2.now j=if j=i.toNat then bs else m.now j:=by
 unfold wf at *
 have hw:=write_in h0 h1 hb
 by_cases hgo:m.goes=true
 ·rw [if_pos hgo] at hw
  have hgd:(m.burnt.put i.toNat bs).Good:=DS.put_good (DS.burnt_good hg) (by rw [DS.burnt_secs];omega) hb
  rw [hw] at h ⊢
  simp only [if_true] at h ⊢
  by_cases hf:(m.burnt.put i.toNat bs).goes=true
  ·have e:(m.burnt.put i.toNat bs).flush=(0,(m.burnt.put i.toNat bs).burnt.lay fun _=>true):=by unfold DS.flush;rw [if_pos hf]
   have hn:=fun j=>DS.flush_now hgd j
   rw [e] at hn ⊢
   refine ⟨rfl,burnt_go hf,fun j=>?_⟩
   rw [hn j,DS.put_now,DS.burnt_now]
  ·have e:(m.burnt.put i.toNat bs).flush.1=8:=by unfold DS.flush;rw [if_neg hf]
   rw [e] at h
   exact absurd h (by decide)
 ·rw [if_neg hgo] at hw
  rw [hw] at h
  exact absurd (show (8:Int)=0 from h) (by decide)
theorem wf_err {m:DS} {i:Int} {bs:List Int} (h0:0≤i) (h1:i < m.secs.length) (hb:bs.length=64) (h:(wf m i bs).1≠0) :
  (wf m i bs).1=8∧(wf m i bs).2.down=true∧(wf m i bs).2.secs=m.secs∧((wf m i bs).2.waits=m.waits∨(wf m i bs).2.waits=m.waits++[(i.toNat,bs)]):=by
 unfold wf at *
 have hw:=write_in h0 h1 hb
 by_cases hgo:m.goes=true
 ·rw [if_pos hgo] at hw
  rw [hw] at h ⊢
  simp only [if_true] at h ⊢
  by_cases hf:(m.burnt.put i.toNat bs).goes=true
  ·have e:(m.burnt.put i.toNat bs).flush.1=0:=by unfold DS.flush;rw [if_pos hf]
   exact absurd e h
  ·have e:(m.burnt.put i.toNat bs).flush=(8,(m.burnt.put i.toNat bs).burnt):=by unfold DS.flush;rw [if_neg hf]
   rw [e]
   refine ⟨rfl,burnt_no (by simpa using hf),?_,.inr ?_⟩
   ·show (m.burnt.put i.toNat bs).burnt.secs=m.secs
    rw [DS.burnt_secs];exact DS.burnt_secs m
   ·show (m.burnt.put i.toNat bs).burnt.waits=m.waits++[(i.toNat,bs)]
    rw [DS.burnt_waits]
    show m.burnt.waits++[(i.toNat,bs)]=_
    rw [DS.burnt_waits]
 ·rw [if_neg hgo] at hw
  rw [hw]
  exact ⟨rfl,burnt_no (by simpa using hgo),DS.burnt_secs m,.inl (DS.burnt_waits m)⟩
theorem burnt_down {m:DS} (h:m.down=true):m.burnt=m:=by
 unfold DS.burnt
 rw [h]
 simp only [Bool.true_or,if_true]
 rw [←h]
theorem wf_down {m:DS} {i:Int} {bs:List Int} (h0:0≤i) (h1:i < m.secs.length) (hb:bs.length=64) (h:m.down=true):wf m i bs=(8,m):=by
 have hg:m.goes=false:=by unfold DS.goes;rw [h];rfl
 have e:m.write i bs=(8,m):=by rw [write_in h0 h1 hb,hg,burnt_down h];rfl
 unfold wf
 rw [e]
 rfl
def DS.Up (m:DS):Prop:=m.down=false∧m.fuse=-1
theorem DS.Up.goes {m:DS} (h:m.Up):m.goes=true:=by unfold DS.goes;rw [h.1,h.2];rfl
theorem DS.Up.burnt {m:DS} (h:m.Up):m.burnt=m:=by
 unfold DS.burnt
 rw [h.1,h.2]
 have h1:=h.1;have h2:=h.2
 obtain ⟨a,b,c,d⟩:=m
 simp only at h1 h2
 subst h1;subst h2
 rfl
theorem wf_up {m:DS} {i:Int} {bs:List Int} (h0:0≤i) (h1:i < m.secs.length) (hb:bs.length=64) (h:m.Up):wf m i bs=(0,(m.put i.toNat bs).lay fun _=>true)∧(wf m i bs).2.Up:=by
 have e:m.write i bs=(0,m.put i.toNat bs):=by rw [write_in h0 h1 hb,if_pos h.goes,h.burnt]
 have hp:(m.put i.toNat bs).Up:=h
 have e2:wf m i bs=(0,(m.put i.toNat bs).lay fun _=>true):=by
  unfold wf
  rw [e]
  simp only [if_true]
  unfold DS.flush
  rw [if_pos hp.goes,hp.burnt]
 exact ⟨e2,by rw [e2];exact hp⟩
theorem DS.new_up (n:Nat):(DS.new n).Up:=⟨rfl,rfl⟩
theorem DS.power_up (m:DS) (k:Int):(m.power k).Up:=⟨rfl,rfl⟩
theorem DS.power_waits (m:DS) (k:Int):(m.power k).waits=[]:=rfl
theorem power_one {m:DS} {i:Nat} {bs:List Int} (h:m.waits=[]∨m.waits=[(i,bs)]) (k:Int):(m.power k).secs=m.secs∨(m.waits=[(i,bs)]∧(m.power k).secs=m.secs.set i bs):=by
 show layTo (keeps k) m.waits m.secs m.waits.length=_∨(_∧layTo (keeps k) m.waits m.secs m.waits.length=_)
 rcases h with h|h
 ·rw [h];exact .inl rfl
 ·rw [h]
  by_cases hk:keeps k 0=true
  ·refine .inr ⟨rfl,?_⟩
   rw [show [(i,bs)].length=0+1 from rfl,layTo_yes (by simp) hk]
   rfl
  ·refine .inl ?_
   rw [show [(i,bs)].length=0+1 from rfl,layTo_no (by simp) (by simpa using hk)]
   rfl
end disk
namespace record

open Go.RowKit base obj mem
structure Rec where
 part:Int
 seq:Int
 active:Int
 confirmed:Int
 left:Int
 bad:Int
deriving DecidableEq
def Rec.cells (r:Rec):Array Value:=#[.int .i64 r.part,.int .i64 r.seq,.int .i64 r.active,.int .i64 r.confirmed,.int .i64 r.left,.int .i64 r.bad]
def Rec.val (r:Rec):Value:=.agg r.cells
def bitOff (n i:Int):Bool:=decide (n / 2 ^ i.toNat % 2=0)
def Rec.right (r:Rec):Bool :=
 decide (0≤r.part∧r.part≤3)&&decide (1≤r.seq∧r.seq≤4294967295)&&decide (0≤r.active∧r.active≤1)&&decide (0≤r.confirmed∧r.confirmed≤1)&&decide (0≤r.left∧r.left≤7)
  && (decide (r.left=0)||!decide (r.active=r.confirmed))&&decide (0≤r.bad∧r.bad≤3)&&(bitOff r.bad r.active&&bitOff r.bad r.confirmed)
theorem between_at (a lo hi:Int) (w:World):Calls Tryz.prog 176 #[.int .i64 a,.int .i64 lo,.int .i64 hi] w fun e w'=>e=.returned (.bool (decide (lo≤a∧a≤hi)))∧w'=w:=by
 by_cases h1:lo≤a
 ·by_cases h2:a≤hi
  ·have e:decide (lo≤a∧a≤hi)=true:=by simp [h1,h2]
   rw [e]
   go_enter Tryz.func176,Tryz.ntmps176
   go_wp2_with (fail)
   go_ret
   exact ⟨rfl,rfl⟩
  ·have e:decide (lo≤a∧a≤hi)=false:=by simp [h2]
   rw [e]
   go_enter Tryz.func176,Tryz.ntmps176
   go_wp2_with (fail)
   go_ret
   exact ⟨rfl,rfl⟩
 ·have e:decide (lo≤a∧a≤hi)=false:=by simp [h1]
  rw [e]
  go_enter Tryz.func176,Tryz.ntmps176
  go_wp2_with (fail)
  go_ret
  exact ⟨rfl,rfl⟩
theorem between_is (a lo hi:Int) (w:World) (b:Bool) (h:decide (lo≤a∧a≤hi)=b):Calls Tryz.prog 176 #[.int .i64 a,.int .i64 lo,.int .i64 hi] w fun e w'=>e=.returned (.bool b)∧w'=w:=by
 subst h;exact between_at a lo hi w
theorem mask_eq (bad a c:Int) (ha:0≤a∧a≤1) (hc:0≤c∧c≤1) (hb:0≤bad∧bad≤3):bits .and .i64 bad (bits .or .i64 (wrap64 (2 ^ a.toNat)) (wrap64 (2 ^ c.toNat)))=0 ↔ (bitOff bad a&&bitOff bad c)=true:=by
 have h1:a=0∨a=1:=by omega
 have h2:c=0∨c=1:=by omega
 have h3:bad=0∨bad=1∨bad=2∨bad=3:=by omega
 rcases h1 with rfl|rfl<;>rcases h2 with rfl|rfl<;>rcases h3 with rfl|rfl|rfl|rfl<;>decide +kernel
theorem right_at (r:Rec) (w:World):Calls Tryz.prog 133 #[r.val] w fun e w'=>e=.returned (.bool r.right)∧Below w.heap.size w w':=by
 obtain ⟨part,seq,active,confirmed,left,bad⟩:=r
 unfold Rec.val Rec.cells
 have HD:=Lib.hid (show Rec.right ⟨part,seq,active,confirmed,left,bad⟩=(decide (0≤part∧part≤3)&&decide (1≤seq∧seq≤4294967295)&&decide (0≤active∧active≤1)&&decide (0≤confirmed∧confirmed≤1)&&decide (0≤left∧left≤7)
  && (decide (left=0)||!decide (active=confirmed))&&decide (0≤bad∧bad≤3)&&(bitOff bad active&&bitOff bad confirmed)) from rfl)
 have HB:=Lib.hid (fun o=>(Below.refl w.heap.size w).alloc (Nat.le_refl _) o)
 cases k1:decide (0≤part∧part≤3) with
 | false =>
   have K1:=Lib.hid k1
   clear k1
   have HR:=Lib.hid (show false=Rec.right ⟨part,seq,active,confirmed,left,bad⟩ from by rw [HD.out,K1.out];simp)
   go_enter Tryz.func133,Tryz.ntmps133
   go_wp2_with (fail)
   go_big_quiet (first|exact Calls.quiet_of_same (between_is _ _ _ _ _ K1.out))
   go_wp2_with (fail)
   go_ret
   exact ⟨ret_bool HR.out,below_drewN (HB.out _) _⟩
 | true =>
   have K1:=Lib.hid k1
   clear k1
   cases k2:decide (1≤seq∧seq≤4294967295) with
   | false =>
     have K2:=Lib.hid k2
     clear k2
     have HR:=Lib.hid (show false=Rec.right ⟨part,seq,active,confirmed,left,bad⟩ from by rw [HD.out,K1.out,K2.out];simp)
     go_enter Tryz.func133,Tryz.ntmps133
     go_wp2_with (fail)
     go_big_quiet (first|exact Calls.quiet_of_same (between_is _ _ _ _ _ K1.out)|exact Calls.quiet_of_same (between_is _ _ _ _ _ K2.out))
     go_wp2_with (fail)
     go_ret
     exact ⟨ret_bool HR.out,below_drewN (HB.out _) _⟩
   | true =>
     have K2:=Lib.hid k2
     clear k2
     cases k3:decide (0≤active∧active≤1) with
     | false =>
       have K3:=Lib.hid k3
       clear k3
       have HR:=Lib.hid (show false=Rec.right ⟨part,seq,active,confirmed,left,bad⟩ from by rw [HD.out,K1.out,K2.out,K3.out];simp)
       go_enter Tryz.func133,Tryz.ntmps133
       go_wp2_with (fail)
       go_big_quiet (first|exact Calls.quiet_of_same (between_is _ _ _ _ _ K1.out)|exact Calls.quiet_of_same (between_is _ _ _ _ _ K2.out)|exact Calls.quiet_of_same (between_is _ _ _ _ _ K3.out))
       go_wp2_with (fail)
       go_ret
       exact ⟨ret_bool HR.out,below_drewN (HB.out _) _⟩
     | true =>
       have K3:=Lib.hid k3
       clear k3
       cases k4:decide (0≤confirmed∧confirmed≤1) with
       | false =>
         have K4:=Lib.hid k4
         clear k4
         have HR:=Lib.hid (show false=Rec.right ⟨part,seq,active,confirmed,left,bad⟩ from by rw [HD.out,K1.out,K2.out,K3.out,K4.out];simp)
         go_enter Tryz.func133,Tryz.ntmps133
         go_wp2_with (fail)
         go_big_quiet (first|exact Calls.quiet_of_same (between_is _ _ _ _ _ K1.out)|exact Calls.quiet_of_same (between_is _ _ _ _ _ K2.out)|exact Calls.quiet_of_same (between_is _ _ _ _ _ K3.out)|exact Calls.quiet_of_same (between_is _ _ _ _ _ K4.out))
         go_wp2_with (fail)
         go_ret
         exact ⟨ret_bool HR.out,below_drewN (HB.out _) _⟩
       | true =>
         have K4:=Lib.hid k4
         clear k4
         cases k5:decide (0≤left∧left≤7) with
         | false =>
           have K5:=Lib.hid k5
           clear k5
           have HR:=Lib.hid (show false=Rec.right ⟨part,seq,active,confirmed,left,bad⟩ from by rw [HD.out,K1.out,K2.out,K3.out,K4.out,K5.out];simp)
           go_enter Tryz.func133,Tryz.ntmps133
           go_wp2_with (fail)
           go_big_quiet (first|exact Calls.quiet_of_same (between_is _ _ _ _ _ K1.out)|exact Calls.quiet_of_same (between_is _ _ _ _ _ K2.out)|exact Calls.quiet_of_same (between_is _ _ _ _ _ K3.out)|exact Calls.quiet_of_same (between_is _ _ _ _ _ K4.out)|exact Calls.quiet_of_same (between_is _ _ _ _ _ K5.out))
           go_wp2_with (fail)
           go_ret
           exact ⟨ret_bool HR.out,below_drewN (HB.out _) _⟩
         | true =>
           have K5:=Lib.hid k5
           clear k5
           by_cases l0:left=0
           ·have t1:(left==0)=true:=by simp [l0]
            have L0:=Lib.hid (show (decide (left=0)||!decide (active=confirmed))=true from by simp [l0])
            clear l0
            cases k6:decide (0≤bad∧bad≤3) with
            | false =>
              have K6:=Lib.hid k6
              clear k6
              have HR:=Lib.hid (show false=Rec.right ⟨part,seq,active,confirmed,left,bad⟩ from by rw [HD.out,K1.out,K2.out,K3.out,K4.out,K5.out,L0.out,K6.out];simp)
              go_enter Tryz.func133,Tryz.ntmps133
              go_wp2_with (fail)
              go_big_quiet (first|exact Calls.quiet_of_same (between_is _ _ _ _ _ K1.out)|exact Calls.quiet_of_same (between_is _ _ _ _ _ K2.out)|exact Calls.quiet_of_same (between_is _ _ _ _ _ K3.out)|exact Calls.quiet_of_same (between_is _ _ _ _ _ K4.out)|exact Calls.quiet_of_same (between_is _ _ _ _ _ K5.out)|exact Calls.quiet_of_same (between_is _ _ _ _ _ K6.out))
              go_wp2_with (fail)
              go_ret
              exact ⟨ret_bool HR.out,below_drewN (HB.out _) _⟩
            | true =>
              have K6:=Lib.hid k6
              clear k6
              have HT:=Lib.hid (show bits .and .i64 bad (bits .or .i64 (wrap64 (2 ^ active.toNat)) (wrap64 (2 ^ confirmed.toNat)))=0 ↔ (bitOff bad active&&bitOff bad confirmed)=true from mask_eq bad active confirmed (by simpa using K3.out) (by simpa using K4.out) (by simpa using K6.out))
              have a0:0≤active:=(show 0≤active∧active≤1 by simpa using K3.out).1
              have a1:active≤1:=(show 0≤active∧active≤1 by simpa using K3.out).2
              have c0:0≤confirmed:=(show 0≤confirmed∧confirmed≤1 by simpa using K4.out).1
              have c1:confirmed≤1:=(show 0≤confirmed∧confirmed≤1 by simpa using K4.out).2
              go_enter Tryz.func133,Tryz.ntmps133
              go_wp2_with (fail)
              go_big_quiet (first|exact Calls.quiet_of_same (between_is _ _ _ _ _ K1.out)|exact Calls.quiet_of_same (between_is _ _ _ _ _ K2.out)|exact Calls.quiet_of_same (between_is _ _ _ _ _ K3.out)|exact Calls.quiet_of_same (between_is _ _ _ _ _ K4.out)|exact Calls.quiet_of_same (between_is _ _ _ _ _ K5.out)|exact Calls.quiet_of_same (between_is _ _ _ _ _ K6.out))
              go_wp2_with (fail)
              go_ret
              exact ⟨ret_bool (by rw [HD.out,K1.out,K2.out,K3.out,K4.out,K5.out,L0.out,K6.out];simp only [Bool.true_and];exact Bool.eq_iff_iff.2 (by rw [beq_iff_eq];exact HT.out)),below_drewN (HB.out _) _⟩
           ·have t1:(left==0)=false:=by simp [l0]
            by_cases ac:active=confirmed
            ·have t2:(active != confirmed)=false:=by simp [ac]
             have L0:=Lib.hid (show (decide (left=0)||!decide (active=confirmed))=false from by simp [l0,ac])
             have AC:=Lib.hid ac
             clear l0 ac
             have HR:=Lib.hid (show false=Rec.right ⟨part,seq,active,confirmed,left,bad⟩ from by rw [HD.out,K1.out,K2.out,K3.out,K4.out,K5.out,L0.out];simp)
             go_enter Tryz.func133,Tryz.ntmps133
             go_wp2_with (fail)
             go_big_quiet (first|exact Calls.quiet_of_same (between_is _ _ _ _ _ K1.out)|exact Calls.quiet_of_same (between_is _ _ _ _ _ K2.out)|exact Calls.quiet_of_same (between_is _ _ _ _ _ K3.out)|exact Calls.quiet_of_same (between_is _ _ _ _ _ K4.out)|exact Calls.quiet_of_same (between_is _ _ _ _ _ K5.out))
             go_wp2_with (fail)
             go_ret
             exact ⟨ret_bool HR.out,below_drewN (HB.out _) _⟩
            ·have t2:(active != confirmed)=true:=by simp [ac]
             have L0:=Lib.hid (show (decide (left=0)||!decide (active=confirmed))=true from by simp [ac])
             clear l0 ac
             cases k6:decide (0≤bad∧bad≤3) with
             | false =>
               have K6:=Lib.hid k6
               clear k6
               have HR:=Lib.hid (show false=Rec.right ⟨part,seq,active,confirmed,left,bad⟩ from by rw [HD.out,K1.out,K2.out,K3.out,K4.out,K5.out,L0.out,K6.out];simp)
               go_enter Tryz.func133,Tryz.ntmps133
               go_wp2_with (fail)
               go_big_quiet (first|exact Calls.quiet_of_same (between_is _ _ _ _ _ K1.out)|exact Calls.quiet_of_same (between_is _ _ _ _ _ K2.out)|exact Calls.quiet_of_same (between_is _ _ _ _ _ K3.out)|exact Calls.quiet_of_same (between_is _ _ _ _ _ K4.out)|exact Calls.quiet_of_same (between_is _ _ _ _ _ K5.out)|exact Calls.quiet_of_same (between_is _ _ _ _ _ K6.out))
               go_wp2_with (fail)
               go_ret
               exact ⟨ret_bool HR.out,below_drewN (HB.out _) _⟩
             | true =>
               have K6:=Lib.hid k6
               clear k6
               have HT:=Lib.hid (show bits .and .i64 bad (bits .or .i64 (wrap64 (2 ^ active.toNat)) (wrap64 (2 ^ confirmed.toNat)))=0 ↔ (bitOff bad active&&bitOff bad confirmed)=true from mask_eq bad active confirmed (by simpa using K3.out) (by simpa using K4.out) (by simpa using K6.out))
               have a0:0≤active:=(show 0≤active∧active≤1 by simpa using K3.out).1
               have a1:active≤1:=(show 0≤active∧active≤1 by simpa using K3.out).2
               have c0:0≤confirmed:=(show 0≤confirmed∧confirmed≤1 by simpa using K4.out).1
               have c1:confirmed≤1:=(show 0≤confirmed∧confirmed≤1 by simpa using K4.out).2
               go_enter Tryz.func133,Tryz.ntmps133
               go_wp2_with (fail)
               go_big_quiet (first|exact Calls.quiet_of_same (between_is _ _ _ _ _ K1.out)|exact Calls.quiet_of_same (between_is _ _ _ _ _ K2.out)|exact Calls.quiet_of_same (between_is _ _ _ _ _ K3.out)|exact Calls.quiet_of_same (between_is _ _ _ _ _ K4.out)|exact Calls.quiet_of_same (between_is _ _ _ _ _ K5.out)|exact Calls.quiet_of_same (between_is _ _ _ _ _ K6.out))
               go_wp2_with (fail)
               go_ret
               exact ⟨ret_bool (by rw [HD.out,K1.out,K2.out,K3.out,K4.out,K5.out,L0.out,K6.out];simp only [Bool.true_and];exact Bool.eq_iff_iff.2 (by rw [beq_iff_eq];exact HT.out)),below_drewN (HB.out _) _⟩
end record
namespace bytes

open Go.RowKit base obj mem
theorem zeroCells_one (z:Value) (m:Nat):Builtin.zeroCells #[z] m=(List.replicate m z).toArray:=by
 apply Array.ext
 ·simp [Builtin.zeroCells]
 ·intro i h1 h2
  simp [Builtin.zeroCells,Nat.mod_one]
theorem run_zeros_room {P:Program} (w:World) (t tn ty e:TypeId) (i:TypeInfo) (z:Value) (kq kn:IntKind) (ht:P.underlying t=some (.slice e)) (htn:P.underlying tn=some (.int kn)) (hi:P.info? e=some i) (hz:i.zero=some z) (hs1:i.size=1) (hzc:z.cells=#[z]) (h1:z.oneCell'=true)
  (g sLen sCap:Nat) (cur:Array Value) (hg:w.heap[g]?=some (.cells cur e (0,0))) (k:Nat) (h0:0 < k) (h63:k≤1000000) (hby:i.bytes=1) (hroom:sLen+k≤sCap) (hfit:sLen+k≤cur.size) :
  (Builtin.append_ #[t,tn] ty #[.slice (some ⟨g,0,none⟩) sLen sCap,.int kq k]).run P w =
   .ok (.slice (some ⟨g,0,none⟩) (sLen+k) sCap) (w.setRow g (cur.toList.take sLen++List.replicate k z++cur.toList.drop (sLen+k)).toArray):=by
 have hst:=run_storeCells_at P g sLen e (List.replicate k z) 0 cur w hg (by simpa using hfit) (fun v hv=>by rw [List.eq_of_mem_replicate hv];exact h1)
 simp only [Nat.add_zero,List.length_replicate] at hst
 have hk:k≠0:=by omega
 have hw:IntKind.i64.wrap (k:Int)=k:=by rw [IntKind.wrap_i64];omega
 have hneg:¬((k:Int) < 0):=by omega
 have hns:¬(k*i.size=0):=by rw [hs1];omega
 simp [Builtin.append_,run_underlying ht,run_underlying htn,sizeOf,typeInfo,zeroValue,hi,hz,asInt,asIntOf,hw,hneg,hroom,hs1,hk,hzc,zeroCells_one,Addr.add_lit,hst,hby]
 omega
theorem run_zeros_own {P:Program} (w:World) (base:Nat) (t tn ty e:TypeId) (i:TypeInfo) (z:Value) (kq kn:IntKind) (ht:P.underlying t=some (.slice e)) (htn:P.underlying tn=some (.int kn)) (hi:P.info? e=some i) (hz:i.zero=some z) (hs1:i.size=1) (hzc:z.cells=#[z]) (h1:z.oneCell'=true) (hby:i.bytes=1)
  (v:Value) (n:Nat) (xs:List Value) (hown:w.ownsRow base e 1 v n xs) (k:Nat) (h0:0 < k) (hn:0 < n) (h63:n+k≤1000000) (hbase:base≤w.heap.size) :
  ∃v' w',(Builtin.append_ #[t,tn] ty #[v,.int kq k]).run P w=.ok v' w'∧w'.ownsRow base e 1 v' (n+k) (xs++List.replicate k z)∧w.grownBy w' v.ownBlock:=by
 have hmx:(1000000:Nat)≤maxLen:=by decide
 have hlen:(xs++List.replicate k z).length=(n+k)*1:=by rw [List.length_append,hown.1,List.length_replicate];omega
 rcases hown.2 with ⟨rfl,rfl⟩|⟨g,cap,cur,rfl,hbg,hg,hnc,hcm,hcs,htake⟩
 ·omega
 ·by_cases hroom:n+k≤cap
  ·have hr:=run_zeros_room (P:=P) w t tn ty e i z kq kn ht htn hi hz hs1 hzc h1 g n cap cur hg k h0 (by omega) hby hroom (by omega)
   refine ⟨_,_,hr,⟨hlen,.inr ⟨g,cap,_,rfl,hbg,setRow_heap w g cur _ e _ hg,hroom,hcm,?_,?_⟩⟩,⟨rfl,rfl,rfl,by simp,fun k _ hk=>setRow_other w g k _ (fun e=>hk (by simp [Value.ownBlock,e]))⟩⟩
   ·simp only [List.size_toArray,List.length_append,List.length_take,List.length_drop,Array.length_toList,List.length_replicate]
    omega
   ·rw [Nat.mul_one] at htake
    rw [htake,←hlen]
    exact List.take_left
  ·have holds:∀j u,xs[j]?=some u→w.cell? ((⟨g,0,none⟩:Addr).add j)=some u:=hown.cells (g:=g) rfl
   have hfc:=run_firstCells_some (P:=P) w.drew i.size n ⟨g,0,none⟩ n cap xs (by rw [hs1];exact hown.1) holds
   have hns:Builtin.nextslicecap (n+k) cap*i.bytes≤281474976710656:=by
    rw [hby]
    have:=nextslicecap_le (need:=n+k) (old:=cap) (by omega)
    omega
   have hr:=Lib.run_append_grow_zeros (P:=P) w t tn ty e i z kq kn ht htn hi hz (some ⟨g,0,none⟩) n cap xs hfc k h0 (by omega) (by omega) (by omega) (by rw [hby];omega) hns
   have hge:=grownCap_ge w (n+k) cap e
   have hcm2:grownCap w (n+k) cap e≤maxLen:=grownCap_le_maxLen w (n+k) cap e (by omega)
   rw [hzc,zeroCells_one,zeroCells_one] at hr
   refine ⟨_,_,hr,⟨hlen,.inr ⟨w.heap.size,_,_,rfl,hbase,heap_alloc_new w.drew _,hge,hcm2,?_,?_⟩⟩,⟨rfl,rfl,rfl,by simp,fun j hj _=>Below.heap_alloc w.drew _ j hj⟩⟩
   ·have h:=hown.1
    simp only [Array.size_append,List.size_toArray,List.length_replicate]
    omega
   ·simp only [Array.toList_append,List.append_assoc]
    rw [←List.append_assoc,←hlen]
    exact List.take_left
theorem app_zeros {ops:Array Oper} {rest:List Oper} {o:Oper} {a:Act} {Q:Exit→Act→World→Prop} {w:World} (hgd:o.guard=none) (s x:Operand)
  (ho:o.op=.call { callee:=.builtin .append,args:=#[s,x],argTypes:=#[24,3] })
  {base:Nat} {v:Value} {n:Nat} {xs:List Value} (hown:w.ownsRow base 5 1 v n xs) (hs:a.eval s=v) {k:Nat} (hx:a.eval x=.int .i64 k) (h0:0 < k) (hn:0 < n) (h63:n+k≤1000000) (hbase:base≤w.heap.size)
  (h:∀v' w',w'.ownsRow base 5 1 v' (n+k) (xs++List.replicate k (.int .u8 0))→w.grownBy w' v.ownBlock→wpList Tryz.prog ops Q rest (a.put o.dst v') w') :
  wpList Tryz.prog ops Q (o::rest) a w:=by
 obtain ⟨i0,hi,hz0,hz1,hz2⟩:=info_parts infoB
 obtain ⟨v',w',hr,h2,h3⟩:=run_zeros_own (P:=Tryz.prog) w base 24 3 o.type 5 i0 (.int .u8 0) .i64 .i64 Tryz.underlying24 Tryz.underlying3 hi hz0 hz1 rfl rfl hz2 v n xs hown k h0 hn h63 hbase
 exact Lib.wpList_append_run w hgd s x 24 3 ho v (.int .i64 k) hs hx v' w' hr (h v' w' h2 h3)
end bytes
end Go.Proofs.YtdldkkoplgkloaaGreat
