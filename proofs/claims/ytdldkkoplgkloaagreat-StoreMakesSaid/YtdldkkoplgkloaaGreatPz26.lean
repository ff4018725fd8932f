/-
  PROVED HERE: lemmas and contracts that the law's proof leans on (texts put together: Commit, CommitLog, CommitSave).
  CONDITIONS: each names its own.
-/
import Derived.BigQuiet
import Derived.Deep.CutBlock
import Derived.Deep.DeepCutAuto
import Derived.Deep.QuietTactic
import Derived.Deep.RegionHeld3
import Derived.IntWalk
import Derived.Test.YtdldkkoplgkloaaGreatPz0
import Derived.Test.YtdldkkoplgkloaaGreatPz18
import Derived.Test.YtdldkkoplgkloaaGreatPz21
import Derived.Test.YtdldkkoplgkloaaGreatPz22
namespace Go.Proofs.YtdldkkoplgkloaaGreat
set_option linter.unusedVariables false
set_option linter.unusedSimpArgs false
set_option maxRecDepth 100000
set_option maxHeartbeats 32000000
namespace commit

open Go.RowKit base obj mem crc disk record sep plan
def logCells (d:Nat) (part at0 at1 held:Int) (r:Rec):List Value:=[.pointer (some ⟨d,0,none⟩),.int .i64 part,.int .i64 at0,.int .i64 at1,.int .i64 held]++r.cells.toList
def log (g d:Nat) (part:Int) (held:Int) (r:Rec):Asn:=row g 155 (logCells d part (part*10) (part*10+1) held r)
theorem log_read {w0 w:World} {l:List Asn} {g d:Nat} {part at0 at1 held:Int} {r:Rec} (h:St w0 w (row g 155 (logCells d part at0 at1 held r)::l)) :
  w.cell? ⟨g,0,none⟩=some (.pointer (some ⟨d,0,none⟩))∧w.cell? ⟨g,1,none⟩=some (.int .i64 part)∧w.cell? ⟨g,2,none⟩=some (.int .i64 at0)∧w.cell? ⟨g,3,none⟩=some (.int .i64 at1)∧w.cell? ⟨g,4,none⟩=some (.int .i64 held)∧g < w.heap.size:=by
 have h1:=h.row.1
 exact ⟨h1.cell 0,h1.cell 1,h1.cell 2,h1.cell 3,h1.cell 4,h1.lt⟩
theorem log_rec {w0 w:World} {l:List Asn} {g d:Nat} {part at0 at1 held:Int} {r:Rec} (h:St w0 w (row g 155 (logCells d part at0 at1 held r)::l)) :
  w.cell? ⟨g,5,none⟩=some (.int .i64 r.part)∧w.cell? ⟨g,6,none⟩=some (.int .i64 r.seq)∧w.cell? ⟨g,7,none⟩=some (.int .i64 r.active)∧w.cell? ⟨g,8,none⟩=some (.int .i64 r.confirmed)∧w.cell? ⟨g,9,none⟩=some (.int .i64 r.left)∧w.cell? ⟨g,10,none⟩=some (.int .i64 r.bad):=by
 have h1:=h.row.1
 exact ⟨h1.cell 5,h1.cell 6,h1.cell 7,h1.cell 8,h1.cell 9,h1.cell 10⟩
def placeOk (part:Int):Bool:=decide (0≤part∧part < 4)
def roomFor (part:Int) (len:Nat):Bool:=decide (0≤part∧part < 4∧part*10+1 < (len:Int))
theorem commit_place (p c:Int) (w:World) (hc:0≤c∧c < 2):Calls Tryz.prog 166 #[.int .i64 p,.int .i64 c] w fun e w'=>(∃a b,e=.returned (.tuple #[.int .i64 a,.bool b])∧b=placeOk p∧(b=true→a=p*10+c))∧Below w.heap.size w w':=by
 by_cases h:0≤p∧p < 4
 ·exact (place.commit_in p c w h.1 h.2 hc.1 hc.2).mono fun e w' ⟨h1,h2⟩=>⟨⟨_,_,h1,by simp [placeOk,h],fun _=>rfl⟩,h2⟩
 ·exact (place.commit_out p c w (by omega)).mono fun e w' ⟨h1,h2⟩=>⟨⟨_,_,h1,by simp [placeOk,h],fun h=>by simp at h⟩,h2⟩
def Begun (w0:World) (l:List Asn) (d:Nat) (m:DS) (part:Int) (n:Nat) (e:Ending) (w':World):Prop :=
 (roomFor part n=true→∃g,e=.returned (.tuple #[.pointer (some ⟨g,0,none⟩),.int .i64 0])∧St w0 w' (log g d part (-1) Rec.zero::dsk d m::l))∧
 (roomFor part n=false→e=.returned (.tuple #[.pointer none,.int .i64 3])∧St w0 w' (dsk d m::l))
theorem begin_at {w0 w:World} {l:List Asn} {d:Nat} {m:DS} (h:St w0 w (dsk d m::l)) (part:Int) :
  Calls Tryz.prog 118 #[.pointer (some ⟨d,0,none⟩),.int .i64 part] w (Begun w0 l d m part m.secs.length):=by
 obtain ⟨w1,hw1⟩:∃w1,w1=w.alloc (.cells #[.pointer (some ⟨d,0,none⟩),.int .i64 part,.int .i64 0,.int .i64 0,.int .i64 (-1),.int .i64 0,.int .i64 0,.int .i64 0,.int .i64 0,.int .i64 0,.int .i64 0] 155):=⟨_,rfl⟩
 have H1:=Lib.hid (show St w0 w1 (row w.heap.size 155 (logCells d part 0 0 (-1) Rec.zero)::dsk d m::l) by rw [hw1];exact h.new _ _)
 have HW:=Lib.hid hw1
 have HG:=Lib.hid (h.good.n1)
 clear hw1 h
 obtain ⟨L,hL⟩:∃L,L=m.secs.length:=⟨_,rfl⟩
 have HL:=Lib.hid hL
 rw [←hL] at HG ⊢
 clear hL
 go_enter Tryz.func118,Tryz.ntmps118
 go_wp2_with (fail)
 rw [←HW.out]
 go_loopw [16] (fun i wr=>∃k:Nat,k≤2∧i=.int .i64 k∧(0 < k→placeOk part=true∧part*10+((k-1:Nat):Int) < (L:Int))∧St w0 wr (row w.heap.size 155 (logCells d part (if 0 < k then part*10 else 0) (if 1 < k then part*10+1 else 0) (-1) Rec.zero)::dsk d m::l)) (fun i _=>2-(intOf i).toNat)
 case atStart=>exact ⟨0,by omega,rfl,fun h=>absurd h (by omega),H1.out⟩
 case round =>
  obtain ⟨k,hk,rfl,hp,hi⟩:=hrel
  have HI:=Lib.hid hi;have HP:=Lib.hid hp
  clear hi hp
  by_cases hlt:k < 2
  ·have hlt':(k:Int) < 2:=by omega
   go_wp2_with (fail)
   refine (commit_place part k _ ⟨by omega,by omega⟩).mono ?_
   rintro e w3 ⟨⟨a,b,rfl,hb,ha⟩,hbel⟩
   have HI3:=Lib.hid (HI.out.below hbel)
   have HA:=Lib.hid ha;have HBB:=Lib.hid hb
   clear hbel ha hb
   cases b with
   | false =>
     have HR:=Lib.hid (show roomFor part L=false by
      have h:=HBB.out
      unfold roomFor;unfold placeOk at h
      simp at h ⊢
      omega)
     go_wp2_with (fail)
     go_ret2
     exact ⟨fun h=>absurd (h.symm.trans HR.out) (by decide),fun _=>⟨rfl,HI3.out.drop⟩⟩
   | true =>
     have ha:=HA.out rfl
     subst ha
     have HLEN:=Lib.hid (dsk_len HI3.out.swap)
     rw [←HL.out] at HLEN
     go_wp2_with (fail)
     refine HLEN.out.mono ?_
     rintro e w4 ⟨rfl,rfl⟩
     obtain ⟨c0,c1,c2,c3,c4,lg⟩:=log_read HI3.out
     have f2:=HI3.out.row.1.frozen 2
     have f3:=HI3.out.row.1.frozen 3
     by_cases hr:part*10+(k:Int)≥(L:Int)
     ·have HR:=Lib.hid (show roomFor part L=false by unfold roomFor;simp;omega)
      go_wp2_with (fail)
      go_ret2
      exact ⟨fun h=>absurd (h.symm.trans HR.out) (by decide),fun _=>⟨rfl,HI3.out.drop⟩⟩
     ·have hr':part*10+(k:Int) < (L:Int):=by omega
      clear hr
      have hr:¬part*10+(k:Int)≥(L:Int):=by omega
      have hk2:k=0∨k=1:=by omega
      rcases hk2 with rfl|rfl
      ·have HS:=Lib.hid (HI3.out.set 2 (.int .i64 (part*10)))
       have HF:=Lib.hid (fun h:0 < 1=>(⟨HBB.out.symm,by simpa using hr'⟩:placeOk part=true∧part*10+((1-1:Nat):Int) < (L:Int)))
       go_wp2_with (fail)
       go_roundw
       case rel=>exact ⟨1,by omega,rfl,HF.out,HS.out⟩
       case measure=>simp [intOf]<;>omega
      ·have HS:=Lib.hid (HI3.out.set 3 (.int .i64 (part*10+1)))
       have HF:=Lib.hid (fun h:0 < 2=>(⟨HBB.out.symm,by simpa using hr'⟩:placeOk part=true∧part*10+((2-1:Nat):Int) < (L:Int)))
       go_wp2_with (fail)
       go_roundw
       case rel=>exact ⟨2,by omega,rfl,HF.out,HS.out⟩
       case measure=>simp [intOf]<;>omega
  ·obtain rfl:k=2:=by omega
   have HR:=Lib.hid (show roomFor part L=true by
    obtain ⟨h1,h2⟩:=HP.out (by omega)
    unfold placeOk at h1
    unfold roomFor
    simp at h1 h2 ⊢
    omega)
   go_wp2_with (fail)
   go_ret2
   exact ⟨fun _=>⟨_,rfl,HI.out⟩,fun h=>absurd (h.symm.trans HR.out) (by decide)⟩
theorem write_waits (m:DS) (i:Int) (bs:List Int):(m.write i bs).2.waits.length≤m.waits.length+1:=by
 unfold DS.write
 split
 ·exact Nat.le_succ _
 ·split
  ·exact Nat.le_succ _
  ·split
   ·simp [DS.put,DS.burnt_waits]
   ·show m.burnt.waits.length≤_
    rw [DS.burnt_waits];exact Nat.le_succ _
theorem write_at {w0 w:World} {l:List Asn} {g d:Nat} {m:DS} {part held:Int} {r:Rec} (h:St w0 w (log g d part held r::dsk d m::l)) (c i:Int) (hc:c=0∧i=part*10∨c=1∧i=part*10+1)
  (A:Option Addr) (n k:Nat) (bs:List Int) (hn:bs.length=n) (hs:Sl w w.heap.size 1 A n (bs.map (.int .u8))) (hwl:m.waits.length≤1000) :
  Calls Tryz.prog 87 #[.pointer (some ⟨g,0,none⟩),.int .i64 c,.slice A n k] w fun e w'=>e=.returned (.int .i64 (wf m i bs).1)∧St w0 w' (log g d part held r::dsk d (wf m i bs).2::l):=by
 obtain ⟨c0,c1,c2,c3,c4,lg⟩:=log_read h
 have HW:=Lib.hid (dsk_write h.drew.swap i A n k bs hn (hs.below (Below.refl _ _).drew) (by omega))
 clear hn
 have HL:=Lib.hid (show (m.write i bs).2.waits.length≤1000000 by have:=write_waits m i bs;omega)
 clear h hs
 obtain ⟨x,hx⟩:∃x,x=m.write i bs:=⟨_,rfl⟩
 have HX:=Lib.hid (show wf m i bs=if x.1=0 then x.2.flush else x by rw [hx];rfl)
 rw [←hx] at HW HL
 clear hx
 obtain ⟨ev,m1⟩:=x
 simp only at HX HW HL
 rcases hc with ⟨rfl,hi⟩|⟨rfl,hi⟩
 all_goals
  subst hi
  go_enter Tryz.func87,Tryz.ntmps87
  go_wp2_with (fail)
  refine wp_region_plan [0,1,2,4,5,6,7,8,10,3,9] [[11,12]] (by kernel_rfl) (by kernel_rfl) (fun _ _ _ _ _ h=>h) ?_
  simp only [forks,pick,xGs,xGz,xGo]
  iterate 11 still_step
  refine wpStill_nil ?_
  go_wp2_with (fail)
  refine HW.out.mono ?_
  rintro e w2 ⟨rfl,h2⟩
  obtain ⟨c0,c1,c2,c3,c4,lg⟩:=log_read h2.swap
  by_cases he:ev=0
  ·subst he
   have HF:=Lib.hid (dsk_flush h2 HL.out)
   have HX2:=Lib.hid (HX.out.trans (if_pos rfl))
   clear h2
   go_wp2_with (fail)
   refine HF.out.mono ?_
   rintro e w3 ⟨rfl,h3⟩
   have H3:=Lib.hid h3.swap
   clear h3
   go_wp2_with (fail)
   go_ret
   rw [HX2.out]
   exact ⟨rfl,H3.out⟩
  ·have b1:(ev != 0)=true:=by simpa using he
   have HX2:=Lib.hid (HX.out.trans (if_neg he))
   have H2:=Lib.hid h2.swap
   clear h2 he
   go_wp2_with (fail)
   go_ret
   rw [HX2.out]
   exact ⟨rfl,H2.out⟩
end commit
namespace commit

open Go.RowKit base obj mem crc disk record sep plan
def pickRec (part c:Int) (bs:List Int) (x:Rec×Int):Rec×Int:=if (getRec bs).2=0∧(getRec bs).1.part=part∧x.1.seq < (getRec bs).1.seq then ((getRec bs).1,c) else x
def openTo (m:DS) (part:Int):Nat→Rec×Int
 | 0=>(Rec.zero,-1)
 | k+1=>pickRec part k (m.now (part*10+k).toNat) (openTo m part k)
def Opened (w0:World) (l:List Asn) (d:Nat) (m:DS) (part:Int) (e:Ending) (w':World):Prop :=
 ((openTo m part 2).2 < 0→e=.returned (.tuple #[.pointer none,.int .i64 5])∧St w0 w' (dsk d m::l))∧
 (¬(openTo m part 2).2 < 0→∃g,e=.returned (.tuple #[.pointer (some ⟨g,0,none⟩),.int .i64 0])∧St w0 w' (log g d part (openTo m part 2).2 (openTo m part 2).1::dsk d m::l))
theorem room_of {part:Int} {n:Nat} (h:roomFor part n=true):0≤part∧part < 4∧part*10+1 < (n:Int):=by
 unfold roomFor at h
 simpa using h
theorem idx0 (a b:Int) (w:World):(Instr.index 131 (.agg #[.int .i64 a,.int .i64 b]) (.int .i64 0)).run Tryz.prog w=.ok (.int .i64 a) w:=by kernel_rfl
theorem idx1 (a b:Int) (w:World):(Instr.index 131 (.agg #[.int .i64 a,.int .i64 b]) (.int .i64 1)).run Tryz.prog w=.ok (.int .i64 b) w:=by kernel_rfl
theorem open_at {w0 w:World} {l:List Asn} {d:Nat} {m:DS} (h:St w0 w (dsk d m::l)) (part:Int) (hr:roomFor part m.secs.length=true) (hd:m.down=false) (hwl:m.waits.length≤1000) (hby:∀i,Byt (m.now i)) (hlen:∀i,i < m.secs.length→(m.now i).length=64) :
  Calls Tryz.prog 70 #[.pointer (some ⟨d,0,none⟩),.int .i64 part] w (Opened w0 l d m part):=by
 have H:=Lib.hid (begin_at h part)
 have HR:=Lib.hid hr
 have HD:=Lib.hid hd
 have HY:=Lib.hid hby;have HLE:=Lib.hid hlen
 obtain ⟨hp0,hp4,hroom⟩:=room_of hr
 have i0:=idx0
 have i1:=idx1
 clear h hr hd hby hlen
 go_enter Tryz.func70,Tryz.ntmps70
 go_wp2_with (fail)
 refine H.out.mono ?_
 rintro e w1 hb
 obtain ⟨g,rfl,h1⟩:=hb.1 HR.out
 obtain ⟨c0,c1,c2,c3,c4,lg⟩:=log_read h1
 have H1:=Lib.hid h1
 clear hb h1
 go_wp2_with (fail)
 go_loopw [27] (fun i wr=>∃k:Nat,k≤2∧i=.int .i64 k∧St w0 wr (log g d part (openTo m part k).2 (openTo m part k).1::dsk d m::l)) (fun i _=>2-(intOf i).toNat)
 case atStart=>exact ⟨0,by omega,rfl,H1.out⟩
 case round =>
  obtain ⟨k,hk,rfl,hi⟩:=hrel
  have HI:=Lib.hid hi
  clear hi
  obtain ⟨x,hx⟩:∃x,x=openTo m part k:=⟨_,rfl⟩
  have HX:=Lib.hid hx
  rw [←hx] at HI
  clear hx
  by_cases hlt:k < 2
  ·have hlt':(k:Int) < 2:=by omega
   have ik:∀w:World,(Instr.index 131 (.agg #[.int .i64 (part*10),.int .i64 (part*10+1)]) (.int .i64 (k:Int))).run Tryz.prog w=.ok (.int .i64 (part*10+k)) w:=by
    have hk2:k=0∨k=1:=by omega
    intro w
    rcases hk2 with rfl|rfl
    ·rw [show ((0:Nat):Int)=0 from rfl,Int.add_zero];exact i0 _ _ w
    ·exact i1 _ _ w
   have hk0:(0:Int)≤(k:Int):=by omega
   obtain ⟨n,hn⟩:∃n:Nat,n=(part*10+k).toNat:=⟨_,rfl⟩
   obtain ⟨bs,hbs⟩:∃bs,bs=m.now n:=⟨_,rfl⟩
   obtain ⟨gr,hgr⟩:∃gr,gr=getRec bs:=⟨_,rfl⟩
   have HNX:=Lib.hid (show openTo m part (k+1)=if gr.2=0∧gr.1.part=part∧x.1.seq < gr.1.seq then (gr.1,(k:Int)) else x by
    rw [hgr,hbs,hn,HX.out];rfl)
   have HRD:=Lib.hid (dsk_read HI.out.swap (part*10+k) n (by omega) (by omega) HD.out (by omega))
   rw [←hbs] at HRD
   have HBL:=Lib.hid (show bs.length=64 by rw [hbs];exact HLE.out n (by omega))
   have HBY:=Lib.hid (show Byt bs by rw [hbs];exact HY.out n)
   have HGR:=Lib.hid hgr
   clear hbs hgr hn i0 i1 c0 c1 c2 c3 c4 lg
   go_wp2_with (fail)
   refine HRD.out.mono ?_
   rintro e w2 ⟨b,rfl,h2⟩
   have H2:=Lib.hid h2
   have HS2:=Lib.hid (byte_sl h2.row.1 HBL.out)
   clear h2
   go_wp2_with (fail)
   refine (record.get_at _ _ 64 64 bs HBL.out (by omega) HBY.out HS2.out).mono ?_
   rintro e w3 ⟨rfl,hb⟩
   rw [←HGR.out]
   have H3:=Lib.hid ((H2.out.below hb).pick 2 rfl)
   clear hb
   obtain ⟨gr,re⟩:=gr
   dsimp only
   rw [Rec.val_eq]
   obtain ⟨w4,hw4⟩:∃w4,w4=w3.alloc (.cells #[.int .i64 gr.part,.int .i64 gr.seq,.int .i64 gr.active,.int .i64 gr.confirmed,.int .i64 gr.left,.int .i64 gr.bad] 35):=⟨_,rfl⟩
   have H4:=Lib.hid (show St w0 w4 _ by rw [hw4];exact H3.out.below ((Below.refl _ _).alloc (Nat.le_refl _) (.cells #[.int .i64 gr.part,.int .i64 gr.seq,.int .i64 gr.active,.int .i64 gr.confirmed,.int .i64 gr.left,.int .i64 gr.bad] 35)))
   have HR4:=Lib.hid (show Row w4 w3.heap.size 35 gr.cells.toList by rw [hw4];exact Row.new w3 _ _)
   have HW4:=Lib.hid hw4
   clear hw4
   go_wp2_with (fail)
   rw [←HW4.out]
   obtain ⟨q0,q1,q2,q3,q4,q5⟩:=Rec.read HR4.out
   obtain ⟨t0,t1,t2,t3,t4,t5⟩:=log_rec H4.out
   have l3:=HR4.out.lt
   have l4:=H4.out.row.1.lt
   by_cases he:re=0
   ·subst he
    by_cases hp:gr.part=part
    ·have hp':(gr.part==part)=true:=by simpa using hp
     by_cases hsq:x.1.seq < gr.seq
     ·have hsq':decide (x.1.seq < gr.seq)=true:=by simpa using hsq
      have HN2:=Lib.hid (HNX.out.trans (if_pos ⟨rfl,hp,hsq⟩))
      clear hp hsq
      go_quiet (fail)
      have H5:=Lib.hid (H4.out.drewN nq)
      obtain ⟨cs,hcs⟩:∃cs,cs=logCells d part (part*10) (part*10+1) x.2 gr:=⟨_,rfl⟩
      have H6:=Lib.hid (H5.out.setRow cs)
      have f4:=H6.out.row.1.frozen 4
      have c4:=H6.out.row.1.cell 4
      have hc4:cs[4]?=some (.int .i64 x.2):=by rw [hcs];rfl
      rw [hc4] at c4
      have HCS:=Lib.hid (show (logCells d part (part*10) (part*10+1) x.2 x.1).take 5++gr.cells.toList++(logCells d part (part*10) (part*10+1) x.2 x.1).drop (5+gr.cells.size)=cs by rw [hcs];rfl)
      have H7:=Lib.hid (show St w0 _ (log g d part k gr::_) by rw [hcs] at H6;exact H6.out.set 4 (.int .i64 (k:Int)))
      have MS:=Lib.hid (show (Tryz.prog.info? 35).map (·.size)=some gr.cells.size from by kernel_rfl)
      have HE:=Lib.hid (show 5+gr.cells.size≤(logCells d part (part*10) (part*10+1) x.2 x.1).length from Nat.le_refl 11)
      have HO:=Lib.hid (rec_one gr)
      rw [←hcs] at H7
      clear hcs hc4
      go_wp2_with (refine wpList_putR rfl 35 (.tmp 68) (.tmp 65) rfl g 5 gr.cells rfl rfl H5.out.row.1 MS.out HE.out HO.out cs HCS.out ?_)
      go_roundw
      case rel=>exact ⟨k+1,by omega,by go_num,by rw [HN2.out];exact (H7.out.pick 1 rfl).drop⟩
      case measure=>simp [intOf]<;>omega
     ·have hsq':decide (x.1.seq < gr.seq)=false:=by simpa using hsq
      have HN2:=Lib.hid (HNX.out.trans (if_neg fun h=>hsq h.2.2))
      clear hp hsq
      go_quiet (fail)
      have H5:=Lib.hid (H4.out.drewN nq)
      go_wp2_with (fail)
      go_roundw
      case rel=>exact ⟨k+1,by omega,by go_num,by rw [HN2.out];exact (H5.out.pick 1 rfl).drop⟩
      case measure=>simp [intOf]<;>omega
    ·have hp':(gr.part==part)=false:=by simpa using hp
     have HN2:=Lib.hid (HNX.out.trans (if_neg fun h=>hp h.2.1))
     clear hp
     go_quiet (fail)
     have H5:=Lib.hid (H4.out.drewN nq)
     go_wp2_with (fail)
     go_roundw
     case rel=>exact ⟨k+1,by omega,by go_num,by rw [HN2.out];exact (H5.out.pick 1 rfl).drop⟩
     case measure=>simp [intOf]<;>omega
   ·have he':(re==0)=false:=by simpa using he
    have HN2:=Lib.hid (HNX.out.trans (if_neg fun h=>he h.1))
    clear he
    go_quiet (fail)
    have H5:=Lib.hid (H4.out.drewN nq)
    go_wp2_with (fail)
    go_roundw
    case rel=>exact ⟨k+1,by omega,by go_num,by rw [HN2.out];exact (H5.out.pick 1 rfl).drop⟩
    case measure=>simp [intOf]<;>omega
  ·obtain rfl:k=2:=by omega
   obtain ⟨t0,t1,t2,t3,t4,l4⟩:=log_read HI.out
   clear i0 i1 c0 c1 c2 c3 c4 lg hk
   by_cases hh:x.2 < 0
   ·go_wp2_with (fail)
    go_ret2
    rw [HX.out] at hh
    exact ⟨fun _=>⟨rfl,HI.out.drop⟩,fun h=>absurd hh h⟩
   ·go_wp2_with (fail)
    go_ret2
    rw [HX.out] at hh
    exact ⟨fun h=>absurd h (by omega),fun _=>⟨_,rfl,by rw [←HX.out];exact HI.out⟩⟩
theorem latest_at {w0 w:World} {l:List Asn} {g d:Nat} {part held:Int} {r:Rec} (h:St w0 w (log g d part held r::l)) :
  Calls Tryz.prog 43 #[.pointer (some ⟨g,0,none⟩)] w fun e w'=>e=.returned r.val∧Below w.heap.size w w':=by
 obtain ⟨t0,t1,t2,t3,t4,t5⟩:=log_rec h
 have lg:=h.row.1.lt
 clear h
 go_enter Tryz.func43,Tryz.ntmps43
 go_wp2_with (fail)
 refine bodyPost_ret (results_cell_row rfl _ _ w.heap.size _ _ _ _ rfl (heap_alloc_new _ _) Tryz.underlying35 rfl (by kernel_rfl)) rfl ?_
 exact ⟨rfl,(Below.refl _ _).alloc (Nat.le_refl _) _⟩
end commit
namespace commit

open Go.RowKit base obj mem crc disk record sep plan bytes
def firstRec (part:Int):Rec:=⟨part,1,0,0,0,0⟩
theorem firstRec_right {part:Int} (h0:0≤part) (h1:part < 4):(firstRec part).right=true:=by
 have hp:part=0∨part=1∨part=2∨part=3:=by omega
 rcases hp with rfl|rfl|rfl|rfl<;>decide
def formatM (m:DS) (part:Int):Int×DS:=if (wf m (part*10+1) zeroSec).1=0 then wf (wf m (part*10+1) zeroSec).2 (part*10) (firstRec part).bytes else wf m (part*10+1) zeroSec
def Formatted (w0:World) (l:List Asn) (d:Nat) (m:DS) (part:Int) (e:Ending) (w':World):Prop :=
 ((formatM m part).1=0→∃g,e=.returned (.tuple #[.pointer (some ⟨g,0,none⟩),.int .i64 0])∧St w0 w' (log g d part 0 (firstRec part)::dsk d (formatM m part).2::l))∧
 ((formatM m part).1≠0→e=.returned (.tuple #[.pointer none,.int .i64 (formatM m part).1])∧St w0 w' (dsk d (formatM m part).2::l))
theorem wf_waits (m:DS) (i:Int) (bs:List Int):(wf m i bs).2.waits.length≤m.waits.length+1:=by
 have h:=write_waits m i bs
 unfold wf
 split
 ·unfold DS.flush
  split
  ·exact Nat.zero_le _
  ·rw [DS.burnt_waits];exact h
 ·exact h
theorem make64 (w:World):(Instr.makeSlice 24 (.int .i64 64) (.int .i64 64)).run Tryz.prog w=.ok (.slice (some ⟨w.heap.size,0,none⟩) 64 64) (w.alloc (.cells (Array.replicate 64 (.int .u8 0)) 5)):=by
 have h:=make_eq 64 (by decide) w
 rw [show ((64:Nat):Int)=64 from rfl] at h
 rw [h]
 rfl
theorem format_at {w0 w:World} {l:List Asn} {d:Nat} {m:DS} (h:St w0 w (dsk d m::l)) (part:Int) (hr:roomFor part m.secs.length=true) (hwl:m.waits.length≤900) :
  Calls Tryz.prog 82 #[.pointer (some ⟨d,0,none⟩),.int .i64 part] w (Formatted w0 l d m part):=by
 have H:=Lib.hid (begin_at h part)
 have HR:=Lib.hid hr
 obtain ⟨hp0,hp4,hroom⟩:=room_of hr
 have hmk:=make64
 have HFR:=Lib.hid (firstRec_right hp0 hp4)
 have HW1:=Lib.hid (wf_waits m (part*10+1) zeroSec)
 have HQ:=Lib.hid (show formatM m part=if (wf m (part*10+1) zeroSec).1=0 then wf (wf m (part*10+1) zeroSec).2 (part*10) (firstRec part).bytes else wf m (part*10+1) zeroSec from rfl)
 obtain ⟨x,hx⟩:∃x,x=wf m (part*10+1) zeroSec:=⟨_,rfl⟩
 rw [←hx] at HQ HW1
 obtain ⟨y,hy⟩:∃y,y=wf x.2 (part*10) (firstRec part).bytes:=⟨_,rfl⟩
 rw [←hy] at HQ
 have HX:=Lib.hid hx;have HYY:=Lib.hid hy
 clear h hr hx hy
 obtain ⟨ex,mx⟩:=x
 obtain ⟨ey,my⟩:=y
 simp only at HQ HW1 HX HYY
 go_enter Tryz.func82,Tryz.ntmps82
 go_wp2_with (fail)
 refine H.out.mono ?_
 rintro e w1 hb
 obtain ⟨g,rfl,h1⟩:=hb.1 HR.out
 have H1:=Lib.hid h1
 clear hb h1
 obtain ⟨w2,hw2⟩:∃w2,w2=w1.alloc (.cells #[.int .i64 part,.int .i64 1,.int .i64 0,.int .i64 0,.int .i64 0,.int .i64 0] 35):=⟨_,rfl⟩
 have H2:=Lib.hid (show St w0 w2 (row w1.heap.size 35 (firstRec part).cells.toList::_) by rw [hw2];exact H1.out.new _ _)
 have HW2:=Lib.hid hw2
 clear hw2
 go_wp2_with (fail)
 rw [←HW2.out]
 refine (put_rec (firstRec part) _ HFR.out).mono ?_
 rintro e w3 ⟨v,rfl,ho,hb⟩
 have H3:=Lib.hid ((H2.out.addOwn hb ho).pick 2 rfl)
 obtain ⟨A,c,e2,hc,_⟩:=own_form ho
 subst e2
 clear ho hb
 have HZ:=Lib.hid (H3.out.new 5 (Array.replicate 64 (.int .u8 0)))
 have HP:=Lib.hid (write_at ((HZ.out.pick 4 rfl).pick 2 rfl) 1 (part*10+1) (.inr ⟨rfl,rfl⟩) (some ⟨w3.heap.size,0,none⟩) 64 64 zeroSec rfl (byte_sl HZ.out.row.1 rfl) (by omega))
 rw [←HX.out] at HP
 go_wp2_with (fail)
 refine HP.out.mono ?_
 rintro e w4 ⟨rfl,h4⟩
 have H4:=Lib.hid h4
 clear h4
 by_cases he:ex=0
 ·subst he
  have HQ2:=Lib.hid (HQ.out.trans (if_pos rfl))
  have HOW:=Lib.hid (Sl.of_own (H4.out.pick 3 rfl).own)
  have HP2:=Lib.hid (write_at H4.out 0 (part*10) (.inl ⟨rfl,rfl⟩) A 64 c (firstRec part).bytes (Rec.bytes_length _) HOW.out (by have:=HW1.out;omega))
  rw [←HYY.out] at HP2
  go_wp2_with (fail)
  refine HP2.out.mono ?_
  rintro e w5 ⟨rfl,h5⟩
  have H5:=Lib.hid h5
  clear h5
  by_cases he:ey=0
  ·subst he
   have HQ3:=Lib.hid (HQ2.out)
   have HS:=Lib.hid (H5.out.set 4 (.int .i64 0)).drew
   obtain ⟨q0,q1,q2,q3,q4,q5⟩:=Rec.read (r:=firstRec part) (H5.out.pick 4 rfl).row.1
   obtain ⟨s0,s1,s2,s3,s4,s5⟩:=Rec.read (r:=firstRec part) ((H5.out.set 4 (.int .i64 0)).pick 4 rfl).row.1
   have f4:=H5.out.row.1.frozen 4
   have c4:w5.cell? ⟨g,4,none⟩=some (.int .i64 (-1)):=H5.out.row.1.cell 4
   have MS:=Lib.hid (show (Tryz.prog.info? 35).map (·.size)=some (firstRec part).cells.size from by kernel_rfl)
   have HE:=Lib.hid (show 5+(firstRec part).cells.size≤((logCells d part (part*10) (part*10+1) (-1) Rec.zero).set 4 (.int .i64 0)).length from Nat.le_refl 11)
   have HO:=Lib.hid (rec_one (firstRec part))
   obtain ⟨cs,hcs⟩:∃cs,cs=logCells d part (part*10) (part*10+1) 0 (firstRec part):=⟨_,rfl⟩
   have HCS:=Lib.hid (show ((logCells d part (part*10) (part*10+1) (-1) Rec.zero).set 4 (.int .i64 0)).take 5++(firstRec part).cells.toList++((logCells d part (part*10) (part*10+1) (-1) Rec.zero).set 4 (.int .i64 0)).drop (5+(firstRec part).cells.size)=cs by rw [hcs];rfl)
   have H7:=Lib.hid (show St w0 _ (log g d part 0 (firstRec part)::_) by have h:=HS.out.setRow cs;rw [hcs] at h;exact h)
   rw [←hcs] at H7
   clear hcs
   go_wp2_with (fail)
   refine wp_region_plan [0,1,3,4] [[2,5,6,7,8],[5,2,6,7,8]] (by kernel_rfl) (by kernel_rfl) (fun _ _ _ _ _ h=>h) ?_
   simp only [forks,pick,xGs,xGz,xGo]
   iterate 4 still_step
   refine wpStill_nil ?_
   refine ⟨?_,?_⟩
   all_goals
    go_wp2_with (refine wpList_putR rfl 35 (.tmp 47) (.tmp 43) rfl g 5 (firstRec part).cells rfl rfl HS.out.row.1 MS.out HE.out HO.out cs HCS.out ?_)
    go_ret2
    refine ⟨fun _=>⟨g,rfl,?_⟩,fun h=>absurd (by rw [HQ3.out]) h⟩
    rw [HQ3.out]
    exact ((((H7.out.pick 2 rfl).drop.pick 2 rfl).drop).pick 2 rfl).drop
  ·have b1:(ey != 0)=true:=by simpa using he
   have HE:=Lib.hid he
   clear he
   go_wp2_with (fail)
   go_ret2
   refine ⟨fun h=>absurd (by rw [HQ2.out] at h;exact h) HE.out,fun _=>?_⟩
   rw [HQ2.out]
   exact ⟨rfl,((((H5.out.drop.pick 1 rfl).drop.pick 1 rfl).drop).pick 1 rfl).drop⟩
 ·have b1:(ex != 0)=true:=by simpa using he
  have HE:=Lib.hid he
  have HQ2:=Lib.hid (HQ.out.trans (if_neg he))
  clear he
  go_wp2_with (fail)
  go_ret2
  refine ⟨fun h=>absurd (by rw [HQ2.out] at h;exact h) HE.out,fun _=>?_⟩
  rw [HQ2.out]
  exact ⟨rfl,((((H4.out.drop.pick 1 rfl).drop.pick 1 rfl).drop).pick 1 rfl).drop⟩
def nextRec (part:Int) (now r:Rec):Rec:=⟨part,now.seq+1,r.active,r.confirmed,r.left,r.bad⟩
structure LogS where
 held:Int
 now:Rec
def saveM (m:DS) (part:Int) (s:LogS) (r:Rec):Int×DS×LogS :=
 if 4294967295≤s.now.seq then (4,m,s) else
 if (nextRec part s.now r).right then
  (if (wf m (part*10+(1-s.held)) (nextRec part s.now r).bytes).1=0 then (0,(wf m (part*10+(1-s.held)) (nextRec part s.now r).bytes).2,⟨1-s.held,nextRec part s.now r⟩)
   else ((wf m (part*10+(1-s.held)) (nextRec part s.now r).bytes).1,(wf m (part*10+(1-s.held)) (nextRec part s.now r).bytes).2,s))
 else (3,m,s)
theorem save_at {w0 w:World} {l:List Asn} {g d:Nat} {m:DS} {part:Int} {s:LogS} (h:St w0 w (log g d part s.held s.now::dsk d m::l)) (hh:s.held=0∨s.held=1) (hq:0≤s.now.seq) (hwl:m.waits.length≤900) (r:Rec) :
  Calls Tryz.prog 46 #[.pointer (some ⟨g,0,none⟩),r.val] w fun e w'=>e=.returned (.int .i64 (saveM m part s r).1)∧St w0 w' (log g d part (saveM m part s r).2.2.held (saveM m part s r).2.2.now::dsk d (saveM m part s r).2.1::l):=by
 obtain ⟨held,now⟩:=s
 simp only at h hh hq
 have HQ:=Lib.hid (show saveM m part ⟨held,now⟩ r=if 4294967295≤now.seq then (4,m,⟨held,now⟩) else if (nextRec part now r).right then
  (if (wf m (part*10+(1-held)) (nextRec part now r).bytes).1=0 then (0,(wf m (part*10+(1-held)) (nextRec part now r).bytes).2,⟨1-held,nextRec part now r⟩)
   else ((wf m (part*10+(1-held)) (nextRec part now r).bytes).1,(wf m (part*10+(1-held)) (nextRec part now r).bytes).2,⟨held,now⟩))
  else (3,m,⟨held,now⟩) from rfl)
 obtain ⟨x,hx⟩:∃x,x=wf m (part*10+(1-held)) (nextRec part now r).bytes:=⟨_,rfl⟩
 obtain ⟨nx,hnx⟩:∃nx,nx=nextRec part now r:=⟨_,rfl⟩
 obtain ⟨z,hz⟩:∃z,z=saveM m part ⟨held,now⟩ r:=⟨_,rfl⟩
 rw [←hx,←hnx,←hz] at HQ
 rw [←hnx] at hx
 rw [←hz]
 have HX:=Lib.hid hx;have HNX:=Lib.hid hnx;have HZ:=Lib.hid hz
 have HHH:=Lib.hid hh
 obtain ⟨w1,hw1⟩:∃w1,w1=w.alloc (.cells #[.int .i64 r.part,.int .i64 r.seq,.int .i64 r.active,.int .i64 r.confirmed,.int .i64 r.left,.int .i64 r.bad] 35):=⟨_,rfl⟩
 have H1:=Lib.hid (show St w0 w1 (log g d part held now::row w.heap.size 35 r.cells.toList::dsk d m::l) by rw [hw1];exact (h.new _ _).pick 1 rfl)
 have HW1:=Lib.hid hw1
 clear hx hnx hz hw1 h hh
 obtain ⟨ex,mx⟩:=x
 simp only at HQ HX
 rw [Rec.val_eq]
 obtain ⟨c0,c1,c2,c3,c4,lg⟩:=log_read H1.out
 obtain ⟨t0,t1,t2,t3,t4,t5⟩:=log_rec H1.out
 obtain ⟨q0,q1,q2,q3,q4,q5⟩:=Rec.read (H1.out.pick 1 rfl).row.1
 have lr:=(H1.out.pick 1 rfl).row.1.lt
 by_cases hf:4294967295≤now.seq
 ·have HQ2:=Lib.hid (HQ.out.trans (if_pos hf))
  have hf':now.seq≥4294967295:=hf
  go_enter Tryz.func46,Tryz.ntmps46
  go_upto_block 0 with (fail)
  rw [←HW1.out]
  go_wp2_with (fail)
  go_ret
  rw [HQ2.out]
  exact ⟨rfl,(H1.out.pick 1 rfl).drop⟩
 ·have hf':¬now.seq≥4294967295:=by omega
  have hs0:0≤now.seq+1:=by omega
  have hs1:now.seq≤4294967294:=by omega
  have HQ2:=Lib.hid (HQ.out.trans (if_neg hf))
  clear hf
  have H2:=Lib.hid (show St w0 _ (row w.heap.size 35 nx.cells.toList::log g d part held now::dsk d m::l) by
   have h:=(((H1.out.pick 1 rfl).set 0 (.int .i64 part)).set 1 (.int .i64 (now.seq+1))).drew
   rw [HNX.out];exact h)
  have hne:g≠w.heap.size:=H1.out.ne
  have hwr:IntKind.i64.wrap (now.seq+1)=now.seq+1:=IntWalk.i64_in _ (by omega)
  have hne1:w.heap.size≠(⟨g,1,none⟩:Addr).block:=hne.symm
  have hne6:w.heap.size≠(⟨g,6,none⟩:Addr).block:=hne.symm
  have hne':w.heap.size≠g:=hne.symm
  have fr0:=(H1.out.pick 1 rfl).row.1.frozen 0
  have fr1:=(H1.out.pick 1 rfl).row.1.frozen 1
  go_enter Tryz.func46,Tryz.ntmps46
  go_upto_block 0 with (fail)
  rw [←HW1.out]
  go_wp2_with (fail)
  go_region_held3 (fun w'=>w'.cell? ⟨g,1,none⟩=some (.int .i64 part)∧w'.cell? ⟨g,6,none⟩=some (.int .i64 now.seq)) (go_keep) (fail)
  obtain ⟨w2,hw2⟩:∃w2,w2=((w1.setCell ⟨w.heap.size,0,none⟩ (.int .i64 part)).setCell ⟨w.heap.size,1,none⟩ (.int .i64 (now.seq+1))).drew:=⟨_,rfl⟩
  rw [←hw2] at H2 ⊢
  clear hw2 c0 c1 c2 c3 c4 lg t0 t1 t2 t3 t4 t5 q0 q1 q2 q3 q4 q5 lr fr0 fr1 hwr hne hne1 hne6 hne'
  obtain ⟨q0,q1,q2,q3,q4,q5⟩:=Rec.read H2.out.row.1
  have lr:=H2.out.row.1.lt
  have HV:=Lib.hid (Rec.val_eq nx)
  cases hg:nx.right with
  | false =>
    have HG:=Lib.hid hg
    have HQ3:=Lib.hid (HQ2.out.trans (if_neg (by rw [hg];decide)))
    clear hg
    go_wp2_with (fail)
    rw [←HV.out]
    refine (put_bad nx _ HG.out).mono ?_
    rintro e w3 ⟨rfl,hb⟩
    have H3:=Lib.hid (H2.out.below hb)
    clear hb
    go_wp2_with (fail)
    go_ret
    rw [HQ3.out]
    exact ⟨rfl,H3.out.drop⟩
  | true =>
    have HG:=Lib.hid hg
    have HQ3:=Lib.hid (HQ2.out.trans (if_pos (by rw [hg])))
    clear hg
    go_wp2_with (fail)
    rw [←HV.out]
    refine (put_rec nx _ HG.out).mono ?_
    rintro e w3 ⟨v,rfl,ho,hb⟩
    have H3:=Lib.hid (((H2.out.addOwn hb ho).pick 3 rfl).pick 3 rfl)
    obtain ⟨A,c,e2,hc,_⟩:=own_form ho
    subst e2
    clear ho hb
    have HOW:=Lib.hid (Sl.of_own (H3.out.pick 2 rfl).own)
    obtain ⟨c0,c1,c2,c3,c4,lg⟩:=log_read H3.out
    have HH:=HHH.out
    clear q0 q1 q2 q3 q4 q5 lr
    have HP:∃(c' i:Int),c'=1-held∧(c'=0∧i=part*10∨c'=1∧i=part*10+1)∧part*10+(1-held)=i:=by
     rcases HH with rfl|rfl
     ·exact ⟨1,part*10+1,by omega,.inr ⟨rfl,rfl⟩,by omega⟩
     ·exact ⟨0,part*10,by omega,.inl ⟨rfl,rfl⟩,by omega⟩
    obtain ⟨c',i,hc',hci,hi⟩:=HP
    rw [hi] at HX
    have hb0:-1≤held:=by omega
    have hb1:held≤1:=by omega
    have HPW:=Lib.hid (write_at H3.out c' i hci A 64 c nx.bytes (Rec.bytes_length _) HOW.out (by omega))
    rw [←HX.out,hc'] at HPW
    have HC':=Lib.hid hc'
    clear hi hci HH hc'
    go_wp2_with (fail)
    refine HPW.out.mono ?_
    rintro e w5 ⟨rfl,h5⟩
    have H5:=Lib.hid h5
    clear h5 c0 c1 c2 c3 c4 lg
    by_cases he:ex=0
    ·subst he
     have HQ4:=Lib.hid (HQ3.out.trans (if_pos rfl))
     have HS:=Lib.hid (H5.out.set 4 (.int .i64 (1-held))).drew
     obtain ⟨q0,q1,q2,q3,q4,q5⟩:=Rec.read (r:=nx) (H5.out.pick 3 rfl).row.1
     obtain ⟨s0,s1,s2,s3,s4,s5⟩:=Rec.read (r:=nx) ((H5.out.set 4 (.int .i64 (1-held))).pick 3 rfl).row.1
     have f4:=H5.out.row.1.frozen 4
     have c4:w5.cell? ⟨g,4,none⟩=some (.int .i64 held):=H5.out.row.1.cell 4
     have MS:=Lib.hid (show (Tryz.prog.info? 35).map (·.size)=some nx.cells.size from by kernel_rfl)
     have HE:=Lib.hid (show 5+nx.cells.size≤((logCells d part (part*10) (part*10+1) held now).set 4 (.int .i64 (1-held))).length from Nat.le_refl 11)
     have HO:=Lib.hid (rec_one nx)
     obtain ⟨cs,hcs⟩:∃cs,cs=logCells d part (part*10) (part*10+1) (1-held) nx:=⟨_,rfl⟩
     have HCS:=Lib.hid (show ((logCells d part (part*10) (part*10+1) held now).set 4 (.int .i64 (1-held))).take 5++nx.cells.toList++((logCells d part (part*10) (part*10+1) held now).set 4 (.int .i64 (1-held))).drop (5+nx.cells.size)=cs by rw [hcs];rfl)
     have H7:=Lib.hid (show St w0 _ (log g d part (1-held) nx::_) by have h:=HS.out.setRow cs;rw [hcs] at h;exact h)
     rw [←hcs] at H7
     clear hcs
     go_wp2_with (fail)
     refine wp_region_plan [0,1,2,4,5] [[3,6,7,8,9],[6,3,7,8,9]] (by kernel_rfl) (by kernel_rfl) (fun _ _ _ _ _ h=>h) ?_
     simp only [forks,pick,xGs,xGz,xGo]
     iterate 5 still_step
     refine wpStill_nil ?_
     refine ⟨?_,?_⟩
     all_goals
      go_wp2_with (refine wpList_putR rfl 35 (.tmp 58) (.tmp 54) rfl g 5 nx.cells rfl rfl HS.out.row.1 MS.out HE.out HO.out cs HCS.out ?_)
      go_ret
      rw [HQ4.out]
      exact ⟨rfl,((H7.out.pick 2 rfl).drop.pick 2 rfl).drop⟩
    ·have b1:(ex != 0)=true:=by simpa using he
     have HQ4:=Lib.hid (HQ3.out.trans (if_neg he))
     clear he
     go_wp2_with (fail)
     go_ret
     rw [HQ4.out]
     exact ⟨rfl,((H5.out.pick 2 rfl).drop.pick 2 rfl).drop⟩
end commit
end Go.Proofs.YtdldkkoplgkloaaGreat
