/-
  PROVED HERE: lemmas and contracts that the law's proof leans on (texts put together: StageBytes).
  CONDITIONS: each names its own.
-/
import Derived.BigQuiet
import Derived.Deep.QuietTactic
import Derived.Laws.Rows
import Derived.Test.YtdldkkoplgkloaaGreatPz22
import Derived.Test.YtdldkkoplgkloaaGreatPz23
import Derived.Test.YtdldkkoplgkloaaGreatPz24
namespace Go.Proofs.YtdldkkoplgkloaaGreat
set_option linter.unusedVariables false
set_option linter.unusedSimpArgs false
set_option maxRecDepth 100000
set_option maxHeartbeats 32000000
namespace stage

open Go.RowKit Go.ChangeShapes Go.WideShapes Go.ChangeAt Go.Deep Go.Joins base obj mem crc disk record Go.Proofs.YtdldkkoplgkloaaGreat.bits sep plan bytes
theorem first_all (h n:Int) (w:World) (ha:∀j,j < heldN n→bitb h j=true):Calls Tryz.prog 96 #[.int .i64 h,.int .i64 n] w fun e w'=>e=.returned (.tuple #[.int .i64 0,.bool false])∧Below w.heap.size w w' :=
 (first_any h n w).mono fun e w' ⟨h1,h2⟩=>⟨by
  rcases h1 with ⟨k,hk,hb,_⟩|⟨_,e⟩
  ·rw [ha k hk] at hb;exact absurd hb (by decide)
  ·exact e,h2⟩
theorem first_not (h n:Int) (w:World) (ha:¬∀j,j < heldN n→bitb h j=true):Calls Tryz.prog 96 #[.int .i64 h,.int .i64 n] w fun e w'=>(∃k:Nat,e=.returned (.tuple #[.int .i64 k,.bool true]))∧Below w.heap.size w w' :=
 (first_any h n w).mono fun e w' ⟨h1,h2⟩=>⟨by
  rcases h1 with ⟨k,_,_,_,e⟩|⟨h,_⟩
  ·exact ⟨k,e⟩
  ·exact absurd h ha,h2⟩
theorem bytes_not {w:World} {g d:Nat} {p k:Int} {s:SlS} (h:Row w g 158 (sltCells d p k s)) (hh:s.has=false):Calls Tryz.prog 53 #[.pointer (some ⟨g,0,none⟩)] w fun e w'=>e=.returned (.tuple #[.slice none 0 0,.int .i64 16])∧w'=w:=by
 obtain ⟨c0,c1,c2,c3,c4,c5,c6,lg⟩:=slt_read h
 rw [hh] at c3
 clear h
 go_enter Tryz.func53,Tryz.ntmps53
 go_wp2_with (fail)
 go_ret2
 exact ⟨rfl,rfl⟩
theorem bytes_missing {w:World} {g d:Nat} {p k:Int} {s:SlS} (h:Row w g 158 (sltCells d p k s)) (hh:s.has=true) (hr:s.st.right=true) (ha:¬allIn s) :
  Calls Tryz.prog 53 #[.pointer (some ⟨g,0,none⟩)] w fun e w'=>e=.returned (.tuple #[.slice none 0 0,.int .i64 11])∧Below w.heap.size w w':=by
 obtain ⟨⟨z1,z2⟩,⟨z3,z4⟩,z5,z6⟩:=stg_in hr
 have hheld:heldN ((blocksN s.st.size:Nat):Int)=blocksN s.st.size:=by unfold heldN blocksN;omega
 have HF:=Lib.hid (fun w=>first_not s.st.have_ ((blocksN s.st.size:Nat):Int) w (by rw [hheld];exact ha))
 have HB:=Lib.hid (fun w=>record.blocks_at w s.st.size (by omega) (by omega))
 obtain ⟨c0,c1,c2,c3,c4,c5,c6,lg⟩:=slt_read h
 rw [hh] at c3
 obtain ⟨b,hb⟩:∃b,b=blocksN s.st.size:=⟨_,rfl⟩
 rw [←hb] at HF HB
 clear h hh hr ha hheld hb z1 z2 z3 z4 z5 z6
 go_enter Tryz.func53,Tryz.ntmps53
 go_wp2_with (fail)
 go_region_held3 (fun w'=>w'.cell? ⟨g,5,none⟩=some (.int .i64 s.st.size)∧w'.cell? ⟨g,6,none⟩=some (.int .i64 s.st.have_)) (first|go_keep|(refine ⟨?_,?_⟩<;>(refine cell_below HB1.out ?_;go_simp))) (first
  | ((with_reducible refine (HB.out _).mono ?_);rintro e w1 ⟨rfl,rfl⟩)
  | ((with_reducible refine (HF.out _).mono ?_);rintro e w1 ⟨⟨x,rfl⟩,hb⟩;have HB1:=Lib.hid hb;clear hb))
 go_wp2_with (fail)
 go_ret2
 exact ⟨rfl,⟨HB1.out.os,HB1.out.tape,HB1.out.output,HB1.out.size,HB1.out.block⟩⟩
theorem own_row {w0 w:World} {l:List Asn} {e size z c:Nat} {A:Option Addr} {L:List Value} (h:St w0 w (sep.own e size (.slice A z c) z L::l)) (hz:0 < z):∃(t:Nat) (xs:List Value),A=some ⟨t,0,none⟩∧z≤c∧xs.length=c*size∧xs.take (z*size)=L∧St w0 w (row t e xs::l):=by
 obtain ⟨F,⟨F1,F2,h1,h2,h3,h4⟩,k⟩:=h.sat
 obtain ⟨⟨_,hv⟩,hF⟩:=h1
 rcases hv with ⟨_,h0⟩|⟨t,cap,cur,hv,hb,hg,hnc,hcm,hcs,htk⟩
 ·omega
 ·injection hv with hA _ hc
  subst hA;subst hc
  refine ⟨t,cur.toList,rfl,hnc,by simpa using hcs,htk,h.bel,F,⟨F1,F2,⟨?_,fun i=>?_⟩,h2,h3,h4⟩,k⟩
  ·unfold Row
   simpa using hg
  ·rw [hF i]
   simp [Value.ownBlock,eq_comm]
theorem bytes_at {w0 w:World} {l:List Asn} {g d:Nat} {m:DS} {p k:Int} {s:SlS} (h:St w0 w (slt g d p k s::dsk d m::l)) (hp:Pl m p k) (hh:s.has=true) (hr:s.st.right=true) (ha:allIn s) (hd:m.down=false) (hwl:m.waits.length≤1000) :
  Calls Tryz.prog 53 #[.pointer (some ⟨g,0,none⟩)] w fun e w'=>∃(t:Nat) (xs:List Value),e=.returned (.tuple #[.slice (some ⟨t,0,none⟩) s.st.size.toNat s.st.size.toNat,.int .i64 0])∧
   xs.take s.st.size.toNat=((cat3 m p k).take s.st.size.toNat).map (.int .u8)∧St w0 w' (row t 5 xs::slt g d p k s::dsk d m::l):=by
 obtain ⟨⟨z1,z2⟩,⟨z3,z4⟩,z5,z6⟩:=stg_in hr
 have hheld:heldN ((blocksN s.st.size:Nat):Int)=blocksN s.st.size:=by unfold heldN blocksN;omega
 have HF:=Lib.hid (fun w=>first_all s.st.have_ ((blocksN s.st.size:Nat):Int) w (by rw [hheld];exact ha))
 have HB:=Lib.hid (fun w=>record.blocks_at w s.st.size (by omega) (by omega))
 obtain ⟨c0,c1,c2,c3,c4,c5,c6,lg⟩:=slt_read h.row.1
 rw [hh] at c3
 obtain ⟨b,hb⟩:∃b,b=blocksN s.st.size:=⟨_,rfl⟩
 rw [←hb] at HF HB
 obtain ⟨n,hn⟩:∃n:Nat,(n:Int)=s.st.size:=⟨s.st.size.toNat,by omega⟩
 have hnn:s.st.size.toNat=n:=by omega
 rw [hnn]
 rw [←hn] at c5 HB
 have hn0:1≤n:=by omega
 have hn1:n≤160:=by omega
 have H:=Lib.hid h;have HP:=Lib.hid hp;have HD:=Lib.hid hd;have HN:=Lib.hid hn;have HH:=Lib.hid hh
 clear h hh hr ha hheld hb z1 z2 z3 z4 z5 z6 hp hd hnn hn
 go_enter Tryz.func53,Tryz.ntmps53
 go_wp2_with (fail)
 go_region_held3 (fun w'=>w'.cell? ⟨g,5,none⟩=some (.int .i64 (n:Int))∧w'.cell? ⟨g,6,none⟩=some (.int .i64 s.st.have_)) (first|go_keep|(refine ⟨?_,?_⟩<;>(refine cell_below HB1.out ?_;go_simp))) (first
  | ((with_reducible refine (HB.out _).mono ?_);rintro e w1 ⟨rfl,rfl⟩)
  | ((with_reducible refine (HF.out _).mono ?_);rintro e w1 ⟨rfl,hb⟩;have HB1:=Lib.hid hb;clear hb))
 have H1:=Lib.hid (H.out.drew.below HB1.out)
 have HI0:=Lib.hid (show St w0 w1 (sep.own 5 1 (.slice none 0 0) 0 (((cat3 m p k).take 0).map (.int .u8))::slt g d p k s::dsk d m::l) by
  refine H1.out.addOwn (Below.refl _ _) ?_
  rw [List.take_zero]
  exact World.ownsRow_nil _ _ _ _)
 clear c0 c1 c2 c3 c4 c5 c6 lg
 go_wp2_with (fail)
 go_loopw [6,7] (fun v i wr=>∃(q:Nat) (A:Option Addr) (c:Nat),q≤3∧(0 < q→64*(q-1) < n)∧v=.slice A (64*q) c∧i=.int .i64 q∧St w0 wr (sep.own 5 1 (.slice A (64*q) c) (64*q) (((cat3 m p k).take (64*q)).map (.int .u8))::slt g d p k s::dsk d m::l)) (fun _ i _=>3-(intOf i).toNat)
 case atStart=>exact ⟨0,none,0,by omega,by omega,rfl,rfl,HI0.out⟩
 case round =>
  obtain ⟨q,A,c,hq,hq1,rfl,rfl,hi⟩:=hrel
  have HI:=Lib.hid hi
  clear hi H1 HI0
  obtain ⟨c0,c1,c2,c3,c4,c5,c6,lg⟩:=slt_read (HI.out.pick 1 rfl).row.1
  rw [←HN.out] at c5
  obtain ⟨z,hz⟩:∃z,z=64*q:=⟨_,rfl⟩
  have HZ:=Lib.hid hz
  rw [←hz] at HI ⊢
  clear hz
  by_cases hlt:z < n
  ·have hlt':(z:Int) < (n:Int):=by omega
   have hq3:q < 3:=by have:=HZ.out;omega
   have HPK:=Lib.hid HP.out.pk
   have HDA:=Lib.hid (fun w=>place.data_in p k (q:Int) w HPK.out.p0 HPK.out.p1 HPK.out.k0 HPK.out.k1 (by omega) (by omega))
   obtain ⟨at_,hat⟩:∃at_,at_=dAt p k (q:Int):=⟨_,rfl⟩
   rw [show p*10+(2+k*4+1+(q:Int))=at_ by rw [hat];rfl] at HDA
   obtain ⟨a0,a1⟩:=HP.out.at_ (i:=(q:Int)) (by omega) (by omega)
   rw [←hat] at a0 a1
   obtain ⟨bs,hbs⟩:∃bs,bs=m.now at_.toNat:=⟨_,rfl⟩
   have HBL:=Lib.hid (show bs.length=64 by rw [hbs];exact HP.out.good.now_len (by omega))
   have HRD:=Lib.hid (fun (w1:World) (ls:List Asn) (h1:St w0 w1 (dsk d m::ls))=>by
    have h:=dsk_read h1 at_ at_.toNat (by omega) (by omega) HD.out (by omega)
    rw [←hbs] at h
    exact h)
   have HCAT:=Lib.hid (show (cat3 m p k).take z++bs=(cat3 m p k).take (64*(q+1)) by
    rw [HZ.out,hbs,hat,Nat.mul_succ,List.take_add]
    congr 1
    unfold cat3
    have l0:=HP.out.len (i:=0) (by omega) (by omega)
    have l1:=HP.out.len (i:=1) (by omega) (by omega)
    have l2:=HP.out.len (i:=2) (by omega) (by omega)
    have hq':q=0∨q=1∨q=2:=by omega
    rcases hq' with rfl|rfl|rfl
    ·rw [List.drop_zero,List.take_append_of_le_length (by omega),List.take_of_length_le (by omega)];rfl
    ·rw [List.drop_append,List.drop_of_length_le (by omega),List.nil_append,l0,List.drop_zero,List.take_append_of_le_length (by omega),List.take_of_length_le (by omega)];rfl
    ·rw [List.drop_append,List.drop_of_length_le (by omega),List.nil_append,l0,List.drop_append,List.drop_of_length_le (by omega),List.nil_append,l1,List.drop_zero,List.take_of_length_le (by omega)];rfl)
   clear hat hbs
   go_wp2_with (fail)
   go_region_held3 (fun w'=>w'.cell? ⟨g,1,none⟩=some (.int .i64 p)∧w'.cell? ⟨g,2,none⟩=some (.int .i64 k)) (first|go_keep|(refine ⟨?_,?_⟩<;>(refine cell_below HB2.out ?_;go_simp))) (((with_reducible refine (HDA.out _).mono ?_);rintro e w2 ⟨rfl,hb⟩;have HB2:=Lib.hid hb;clear hb))
   have H2:=Lib.hid (HI.out.drew.below HB2.out)
   clear c0 c1 c2 c3 c4 c5 c6 lg
   obtain ⟨c0,c1,c2,c3,c4,c5,c6,lg⟩:=slt_read (H2.out.pick 1 rfl).row.1
   go_wp2_with (fail)
   refine (HRD.out _ _ (H2.out.pick 2 rfl)).mono ?_
   rintro e w3 ⟨t,rfl,h3⟩
   have H3:=Lib.hid (h3.pick 2 rfl)
   clear h3
   have HSB:=Lib.hid (byte_sl (H3.out.pick 1 rfl).row.1 HBL.out)
   clear c0 c1 c2 c3 c4 c5 c6 lg
   go_wp2_with (refine app_row slB rfl (.tmp 72) (.tmp 73) rfl H3.out.own rfl rfl HSB.out (u8s_one bs) (by omega) (by omega) (by unfold maxLen;omega) (H3.out.bel.size) ?_;intro g2 cap w4 ho hg hor hlt4;have H4:=Lib.hid (H3.out.grown hg ho (fun x hx=>by injection hx with hx;rw [←hx];exact hor));clear ho hg hor)
   go_roundw
   case rel=>exact ⟨q+1,some ⟨g2,0,none⟩,cap,by omega,fun _=>by have:=HZ.out;rw [Nat.add_sub_cancel];omega,by rw [HZ.out,Nat.mul_succ],by go_num,by
    have h:=H4.out
    rw [←List.map_append,HCAT.out,show z+64=64*(q+1) by rw [HZ.out,Nat.mul_succ]] at h
    exact ((h.pick 1 rfl).drop.pick 2 rfl).swap⟩
   case measure=>simp [intOf]<;>omega
  ·have hge:n≤z:=by omega
   have hlt':¬(z:Int) < (n:Int):=by omega
   have hsz:s.st.size=(n:Int):=HN.out.symm
   have HAC:=Lib.hid (own_form HI.out.own)
   have hzc:z≤c:=by
    obtain ⟨A',c',e,hc,_⟩:=HAC.out
    injection e with _ _ e
    omega
   clear hsz
   go_wp2_with (fail)
   go_quiet (fail)
   go_wp2_with (fail)
   go_ret2
   obtain ⟨t,xs,hA,_,_,hxs,hst⟩:=own_row HI.out (by omega)
   subst hA
   refine ⟨t,xs,rfl,?_,hst.drewN nq⟩
   have h:=congrArg (List.take n) hxs
   rw [Nat.mul_one,List.take_take,Nat.min_eq_left hge,←List.map_take,List.take_take,Nat.min_eq_left hge] at h
   exact h
end stage
namespace stage

open Go.RowKit Go.ChangeShapes Go.WideShapes Go.ChangeAt Go.Deep Go.Joins base obj mem crc disk record Go.Proofs.YtdldkkoplgkloaaGreat.bits sep plan bytes
def fillL (y:Int) (n:Nat):List Int:=(List.range n).map fun i:Nat=>(y+3*(i:Int)) % 256
theorem fillL_byt (y:Int) (n:Nat):Byt (fillL y n):=fun z hz=>by
 obtain ⟨i,_,rfl⟩:=List.mem_map.1 hz
 omega
theorem take_set {l:List Value} {q:Nat} (hq:q < l.length) (v:Value):(l.set q v).take (q+1)=l.take q++[v]:=by
 rw [List.take_succ_eq_append_getElem (by simpa using hq)]
 simp [List.take_set_of_le]
theorem make16 (w:World):(Instr.makeSlice 24 (.int .i64 16) (.int .i64 16)).run Tryz.prog w=.ok (.slice (some ⟨w.heap.size,0,none⟩) 16 16) (w.alloc (.cells (Array.replicate 16 (.int .u8 0)) 5)):=by
 have h:=make_eq 16 (by decide) w
 rw [show ((16:Nat):Int)=16 from rfl] at h
 rw [h]
 rfl
def fillN (long:Bool):Nat:=if long then 17 else 16
end stage
namespace stage

open Go.RowKit Go.ChangeShapes Go.WideShapes Go.ChangeAt Go.Deep Go.Joins base obj mem crc disk record Go.Proofs.YtdldkkoplgkloaaGreat.bits sep plan bytes
theorem put_at {w0 w:World} {l:List Asn} {g d:Nat} {m:DS} {p k:Int} {s:SlS} (h:St w0 w (slt g d p k s::dsk d m::l)) (hp:Pl m p k) (hr:s.has=true→s.st.right=true) (hwl:m.waits.length≤800) (se no:Int) (A:Option Addr) (n c:Nat) (data:List Int) (hn:data.length=n)
  (hs:∀w' m',St w0 w' (slt g d p k s::dsk d m'::l)→Sl w' w'.heap.size 1 A n (data.map (.int .u8))) :
  Calls Tryz.prog 51 #[.pointer (some ⟨g,0,none⟩),.int .i64 se,.int .i64 no,.slice A n c] w fun e w'=>e=.returned (.int .i64 (putM m p k s se no data).1)∧St w0 w' (slt g d p k (putM m p k s se no data).2.2::dsk d (putM m p k s se no data).2.1::l):=by
 by_cases hw:wrongE s se no n=0
 ·obtain ⟨hh,w1,w2,w3,w4⟩:=wrong_yes hw
  subst w4
  obtain ⟨q,rfl⟩:=Int.eq_ofNat_of_zero_le w2
  have hq:q < 16:=by
   have:=(stg_in (hr hh)).2.1
   unfold blocksN at w3;omega
  cases hb:bitb s.st.have_ q with
  | true =>
    have e:putM m p k s se q data=(0,m,s):=by
     unfold putM
     rw [hn,if_neg (not_not_intro hw),Int.toNat_natCast,if_pos hb]
    rw [e]
    exact put_has h hr se q hq A 16 c hw hb
  | false=>exact put_new h hp hr hwl se q A c data hn hs hw hb
 ·have e:putM m p k s se no data=(wrongE s se no n,m,s):=by
   unfold putM
   rw [hn,if_pos hw]
  rw [e]
  exact put_wrong h hr se no A n c hw
def Gives (w0:World) (B:Asn) (A:Option Addr) (n:Nat) (bs:List Int):Prop:=bs.length=n∧∀w l,St w0 w (B::l)→Sl w w.heap.size 1 A n (bs.map (.int .u8))
theorem gives_row {w0:World} {t n:Nat} {xs:List Value} {bs:List Int} (hl:bs.length=n) (hx:xs.take n=bs.map (.int .u8)):Gives w0 (row t 5 xs) (some ⟨t,0,none⟩) n bs :=
 ⟨hl,fun w l h=>h.row.1.sl (o:=0) h.row.1.lt (by rw [List.drop_zero,Nat.mul_one,hx]) (by simpa using hl)⟩
theorem gives_nil (w0:World):Gives w0 (fact True) none 0 []:=⟨rfl,fun w l h=>Sl.nil_ _ _ _⟩
theorem bytesM_cases {m:DS} {p k:Int} {s:SlS} (hd:m.down=false):(bytesM m p k s=([],16)∧s.has=false)∨(bytesM m p k s=([],11)∧s.has=true∧¬allIn s)∨(bytesM m p k s=((cat3 m p k).take s.st.size.toNat,0)∧s.has=true∧allIn s):=by
 unfold bytesM
 cases hh:s.has with
 | false=>exact .inl ⟨rfl,rfl⟩
 | true =>
   rw [if_neg (show ¬(true=false) by decide),hd]
   by_cases ha:allIn s
   ·rw [if_neg (not_not_intro ha)]
    exact .inr (.inr ⟨rfl,rfl,ha⟩)
   ·rw [if_pos ha]
    exact .inr (.inl ⟨rfl,rfl,ha⟩)
theorem cat3_len {m:DS} {p k:Int} (h:Pl m p k):(cat3 m p k).length=192:=by
 unfold cat3
 rw [List.length_append,List.length_append,h.len (by omega) (by omega),h.len (by omega) (by omega),h.len (by omega) (by omega)]
theorem bytes_st {w0 w:World} {l:List Asn} {g d:Nat} {m:DS} {p k:Int} {s:SlS} (h:St w0 w (slt g d p k s::dsk d m::l)) (hp:Pl m p k) (hr:s.has=true→s.st.right=true) (hd:m.down=false) (hwl:m.waits.length≤1000) :
  Calls Tryz.prog 53 #[.pointer (some ⟨g,0,none⟩)] w fun e w'=>∃A n B,e=.returned (.tuple #[.slice A n n,.int .i64 (bytesM m p k s).2])∧Gives w0 B A n (bytesM m p k s).1∧St w0 w' (B::slt g d p k s::dsk d m::l):=by
 rcases bytesM_cases (p:=p) (k:=k) (s:=s) hd with ⟨e,hh⟩|⟨e,hh,ha⟩|⟨e,hh,ha⟩
 ·rw [e]
  exact (bytes_not h.row.1 hh).mono fun e w' ⟨h1,h2⟩=>⟨none,0,fact True,h1,gives_nil _,by rw [h2];exact h.addFact trivial⟩
 ·rw [e]
  exact (bytes_missing h.row.1 hh (hr hh) ha).mono fun e w' ⟨h1,h2⟩=>⟨none,0,fact True,h1,gives_nil _,(h.below h2).addFact trivial⟩
 ·rw [e]
  refine (bytes_at h hp hh (hr hh) ha hd hwl).mono fun e w' ⟨t,xs,h1,h2,h3⟩=>⟨some ⟨t,0,none⟩,_,row t 5 xs,h1,gives_row ?_ h2,h3⟩
  have:=(stg_in (hr hh)).2.1
  rw [List.length_take,cat3_len hp]
  omega
end stage
namespace stage

open Go.RowKit Go.ChangeShapes Go.WideShapes Go.ChangeAt Go.Deep Go.Joins base obj mem crc disk record Go.Proofs.YtdldkkoplgkloaaGreat.bits sep plan bytes same
theorem SI.right {m:DS} {p k:Int} {s:SlS} {R:RS} {might:Option RS} (h:SI m p k s R might):s.has=true→s.st.right=true:=h.mem.right
theorem SI.beginU {m:DS} {p k:Int} {s:SlS} {R:RS} (h:SI m p k s R Option.none) (hu:m.Up) (se sz:Int):(beginM m p k s se sz).1=(beginR R se sz).1∧SI (beginM m p k s se sz).2.1 p k (beginM m p k s se sz).2.2 (beginR R se sz).2 Option.none∧(beginM m p k s se sz).2.1.Up:=by
 have hup:=begin_up h.pl hu s se sz
 exact ⟨((h.begin se sz).up hup).1,((h.begin se sz).up hup).2,hup⟩
theorem SI.putU {m:DS} {p k:Int} {s:SlS} {R:RS} (h:SI m p k s R Option.none) (hu:m.Up) (se no:Int) {data:List Int} (hb:Byt data):(putM m p k s se no data).1=(putR R se no data).1∧SI (putM m p k s se no data).2.1 p k (putM m p k s se no data).2.2 (putR R se no data).2 Option.none∧(putM m p k s se no data).2.1.Up:=by
 have hup:=put_up h.pl hu h.right se no hb
 exact ⟨((h.put se no hb).up hup).1,((h.put se no hb).up hup).2,hup⟩
theorem SI.bytesU {m:DS} {p k:Int} {s:SlS} {R:RS} (h:SI m p k s R Option.none) (hu:m.down=false):bytesM m p k s=bytesR R:=bytes_eq h.pl h.mem (h.up hu).2.2.1 hu
structure Live (w0 w:World) (g d:Nat) (p k:Int) (m:DS) (s:SlS) (R:RS) (l:List Asn):Prop where
 st:St w0 w (slt g d p k s::dsk d m::l)
 si:SI m p k s R Option.none
 up:m.Up
theorem wf2_slen (m:DS) (i:Int) (bs:List Int) (j:Int) (cs:List Int):(wf2 m i bs j cs).2.secs.length=m.secs.length:=by
 unfold wf2
 split
 ·rw [wf_slen,wf_slen]
 ·exact wf_slen _ _ _
theorem putM_slen (m:DS) (p k:Int) (s:SlS) (se no:Int) (data:List Int):(putM m p k s se no data).2.1.secs.length=m.secs.length:=by
 unfold putM
 split
 ·rfl
 ·split
  ·rfl
  ·split
   ·rfl
   ·split<;>exact wf2_slen _ _ _ _ _
end stage
namespace stage

open Go.RowKit Go.ChangeShapes Go.WideShapes Go.ChangeAt Go.Deep Go.Joins base obj mem crc disk record Go.Proofs.YtdldkkoplgkloaaGreat.bits sep plan bytes
def Outside (p k:Int) (j:Nat):Prop:=(j:Int) < sAt p k∨sAt p k+4≤(j:Int)
theorem out_own {p k:Int} {j:Nat} (h:Outside p k j) (h0:0≤sAt p k):j≠(sAt p k).toNat:=by
 unfold Outside at h
 omega
theorem out_data {p k i:Int} {j:Nat} (h:Outside p k j) (h0:0≤sAt p k) (i0:0≤i) (i3:i < 3):j≠(dAt p k i).toNat:=by
 unfold Outside sAt at h
 unfold sAt at h0
 unfold dAt
 omega
theorem begin_out {m:DS} {p k:Int} (h:Pl m p k) (s:SlS) (se sz:Int) {j:Nat} (hj:Outside p k j):(beginM m p k s se sz).2.1.now j=m.now j:=by
 have key:=wf_other h.good h.own.1 h.own.2 (Stg.bytes_length ⟨se,sz,0⟩) (out_own hj h.own.1)
 unfold beginM
 split
 ·split<;>exact key
 ·rfl
theorem clear_out {m:DS} {p k:Int} (h:Pl m p k) (s:SlS) {j:Nat} (hj:Outside p k j):(clearM m p k s).2.1.now j=m.now j:=by
 have key:=wf_other h.good h.own.1 h.own.2 (show zeroSec.length=64 from rfl) (out_own hj h.own.1)
 unfold clearM
 split<;>exact key
theorem put_out {m:DS} {p k:Int} (h:Pl m p k) {s:SlS} (hs:s.has=true→s.st.right=true) (se no:Int) {data:List Int} (hdb:Byt data) {j:Nat} (hj:Outside p k j):(putM m p k s se no data).2.1.now j=m.now j:=by
 unfold putM
 by_cases hw:wrongE s se no data.length=0
 ·rw [if_neg (not_not_intro hw)]
  obtain ⟨hh,w1,w2,w3,w4⟩:=wrong_yes hw
  obtain ⟨n,rfl⟩:=Int.eq_ofNat_of_zero_le w2
  rw [Int.toNat_natCast]
  split
  ·rfl
  ·split
   ·rfl
   ·have hn10:n < 10:=by
     have:=(stg_in (hs hh)).2.1
     unfold blocksN at w3;omega
    have hq:((n:Int) / 4)=((n / 4:Nat):Int):=by omega
    rw [hq]
    obtain ⟨d0,d1⟩:=h.at_ (i:=((n / 4:Nat):Int)) (by omega) (by omega)
    have hsl:=splice_length (h.len (i:=((n / 4:Nat):Int)) (by omega) (by omega)) n w4
    have hsb:=splice_byt (h.bts.now (dAt p k ((n / 4:Nat):Int)).toNat) n hdb
    have hpl1:=h.wf (dAt p k ((n / 4:Nat):Int)) hsb
    have k1:=wf_other h.good d0 d1 hsl (out_data hj h.own.1 (i:=((n / 4:Nat):Int)) (by omega) (by omega))
    have k2:=wf_other hpl1.good hpl1.own.1 hpl1.own.2 (Stg.bytes_length (nxt s.st n)) (out_own hj h.own.1)
    have key:(wf2 m (dAt p k ((n / 4:Nat):Int)) (splice (m.now (dAt p k ((n / 4:Nat):Int)).toNat) n data) (sAt p k) (nxt s.st n).bytes).2.now j=m.now j:=by
     unfold wf2
     split
     ·rw [k2,k1]
     ·exact k1
    split<;>exact key
 ·rw [if_pos hw]
theorem SI.other {m m':DS} {p k:Int} {s:SlS} {R:RS} (h:SI m p k s R Option.none) (hu:m.down=false) (hg:m'.Good) (hb:m'.Bts) (hl:m'.secs.length=m.secs.length) (hw:m'.waits=[]) (hd:m'.down=false)
  (hn:∀j,¬Outside p k j→m'.now j=m.now j):SI m' p k s R Option.none:=by
 obtain ⟨u1,u2,u3,u4⟩:=h.up hu
 have hi:∀i:Int,0≤i→i < 3→¬Outside p k (dAt p k i).toNat:=fun i i0 i3 ho=>out_data ho h.pl.own.1 i0 i3 rfl
 refine ⟨⟨hg,hb,h.pl.p0,h.pl.p1,h.pl.k0,h.pl.k1,by rw [hl];exact h.pl.room⟩,h.mem,by rw [hw];simp,fun _=>⟨rfl,hw,fun j hj=>?_,?_⟩,fun h'=>absurd (hd.symm.trans h') (by decide)⟩
 ·have hjl:=getD_ne hj
  have:=h.mem.blocks10
  rw [←u3 j hj]
  unfold dblk
  rw [hn _ (hi _ (by omega) (by omega))]
 ·exact (open_same (hn _ fun ho=>out_own ho h.pl.own.1 rfl)).trans u4
structure ActS where
 kind:Int
 n:Int
 size:Int
 no:Int
 by_:Int
 long:Bool
 keep:Int
instance:Inhabited ActS:=⟨⟨0,0,0,0,0,false,0⟩⟩
structure ActS.Ok (a:ActS):Prop where
 n:InI a.n
 size:InI a.size
 no:InI a.no
 by0:0≤a.by_
 by1:a.by_≤255
 keep0:0≤a.keep
 keep1:a.keep≤18446744073709551615
def ActS.cells (a:ActS):List Value:=[.int .i64 a.kind,.int .i64 a.n,.int .i64 a.size,.int .i64 a.no,.int .u8 a.by_,.bool a.long,.int .u64 a.keep]
end stage
namespace stage

open Go.RowKit Go.ChangeShapes Go.WideShapes Go.ChangeAt Go.Deep Go.Joins base obj mem crc disk record Go.Proofs.YtdldkkoplgkloaaGreat.bits sep plan bytes
structure Both (w0 w:World) (g d go:Nat) (p k p' k':Int) (m:DS) (s:SlS) (R:RS) (s':SlS) (R':RS) (l:List Asn):Prop where
 st:St w0 w (slt g d p k s::dsk d m::slt go d p' k' s'::l)
 si:SI m p k s R Option.none
 so:SI m p' k' s' R' Option.none
 up:m.Up
section
variable {w0 w : World} {g d go : Nat} {p k p' k' : Int} {m : DS} {s : SlS} {R : RS} {s' : SlS} {R' : RS} {l : List Asn}
end
end stage
namespace stage

open Go.RowKit Go.ChangeShapes Go.WideShapes Go.ChangeAt Go.Deep Go.Joins base obj mem crc disk record Go.Proofs.YtdldkkoplgkloaaGreat.bits sep plan bytes
theorem infoSb:(Tryz.prog.info? 24).map (fun i=>(i.zero,i.size,i.bytes))=some (some (.slice none 0 0),1,24):=by kernel_rfl
def pool (P:List (Nat×List Value)):Asn:=lst (P.map fun x=>row x.1 5 x.2)
theorem pool_row {w0 w:World} {P:List (Nat×List Value)} {l:List Asn} (h:St w0 w (pool P::l)) {x:Nat×List Value} (hx:x∈P):Row w x.1 5 x.2∧w0.heap.size≤x.1:=by
 obtain ⟨a,b,rfl⟩:=List.append_of_mem hx
 have h2:=h.unlst
 rw [List.map_append,List.map_cons,List.append_assoc,List.cons_append] at h2
 exact (h2.perm List.perm_middle).row
theorem pool_add {w0 w:World} {P:List (Nat×List Value)} {l:List Asn} {g:Nat} {xs:List Value} (h:St w0 w (row g 5 xs::pool P::l)):St w0 w (pool ((g,xs)::P)::l):=by
 have h2:=h.swap.unlst
 exact St.tolst (L:=((g,xs)::P).map fun x=>row x.1 5 x.2) (h2.perm List.perm_middle)
def HB (P:List (Nat×List Value)) (b:List Int) (v:Value):Prop:=(b=[]∧v=.slice none 0 0)∨(b.length=16∧∃g c xs,(g,xs)∈P∧v=.slice (some ⟨g,0,none⟩) 16 c∧xs.take 16=b.map (.int .u8))
def HBs (P:List (Nat×List Value)) (bs:List (List Int)) (vs:List Value):Prop:=vs.length=bs.length∧∀(i:Nat) (b:List Int) (v:Value),bs[i]?=some b→vs[i]?=some v→HB P b v
theorem HB.mono {P P':List (Nat×List Value)} {b:List Int} {v:Value} (h:HB P b v) (hp:∀x∈P,x∈P'):HB P' b v:=by
 rcases h with h|⟨h1,g,c,xs,h2,h3⟩
 ·exact .inl h
 ·exact .inr ⟨h1,g,c,xs,hp _ h2,h3⟩
theorem HBs.mono {P P':List (Nat×List Value)} {bs:List (List Int)} {vs:List Value} (h:HBs P bs vs) (hp:∀x∈P,x∈P'):HBs P' bs vs:=⟨h.1,fun i b v h1 h2=>(h.2 i b v h1 h2).mono hp⟩
theorem HB.one {P:List (Nat×List Value)} {b:List Int} {v:Value} (h:HB P b v):v.oneCell'=true:=by
 rcases h with ⟨_,rfl⟩|⟨_,g,c,xs,_,rfl,_⟩<;>rfl
theorem HBs.one {P:List (Nat×List Value)} {bs:List (List Int)} {vs:List Value} (h:HBs P bs vs):∀u∈vs,u.oneCell'=true:=by
 intro u hu
 obtain ⟨i,hi,e⟩:=List.getElem_of_mem hu
 exact (h.2 i (bs[i]'(by rw [←h.1];exact hi)) u (List.getElem?_eq_getElem _) (by rw [List.getElem?_eq_getElem hi,e])).one
def rcells (R:RS) (v:Value):List Value:=[.bool R.has,.int .i64 R.st.session,.int .i64 R.st.size,.int .i64 R.st.have_,v]
def rsl (X:Nat) (P:List (Nat×List Value)) (R:RS):Asn :=
 some_ fun q:Value×List Value=>lst [fact (HBs P R.blocks q.2),row X 118 (rcells R q.1),own 24 1 q.1 R.blocks.length q.2]
theorem rsl_open {w0 w:World} {l:List Asn} {X:Nat} {P:List (Nat×List Value)} {R:RS} (h:St w0 w (rsl X P R::l)):∃v vs,HBs P R.blocks vs∧St w0 w (row X 118 (rcells R v)::own 24 1 v R.blocks.length vs::l):=by
 obtain ⟨q,h1⟩:=h.ex
 have h2:=h1.unlst
 exact ⟨q.1,q.2,h2.fact,h2.drop⟩
theorem rsl_shut {w0 w:World} {l:List Asn} {X:Nat} {P:List (Nat×List Value)} {R:RS} {v:Value} {vs:List Value} (hb:HBs P R.blocks vs) (h:St w0 w (row X 118 (rcells R v)::own 24 1 v R.blocks.length vs::l)):St w0 w (rsl X P R::l) :=
 St.toEx (R:=fun q:Value×List Value=>lst [fact (HBs P R.blocks q.2),row X 118 (rcells R q.1),own 24 1 q.1 R.blocks.length q.2]) (v,vs) (St.tolst (L:=[fact (HBs P R.blocks vs),row X 118 (rcells R v),own 24 1 v R.blocks.length vs]) (h.addFact hb))
theorem rsl_read {w:World} {X:Nat} {R:RS} {v:Value} (h:Row w X 118 (rcells R v)):w.cell? ⟨X,0,none⟩=some (.bool R.has)∧w.cell? ⟨X,1,none⟩=some (.int .i64 R.st.session)∧w.cell? ⟨X,2,none⟩=some (.int .i64 R.st.size)∧w.cell? ⟨X,3,none⟩=some (.int .i64 R.st.have_)∧w.cell? ⟨X,4,none⟩=some v∧X < w.heap.size :=
 ⟨h.cell 0,h.cell 1,h.cell 2,h.cell 3,h.cell 4,h.lt⟩
theorem rwrong_at {w:World} {X:Nat} {R:RS} {A:Option Addr} {c:Nat} (h:Row w X 118 (rcells R (.slice A R.blocks.length c))) (se no:Int) (D:Option Addr) (n k:Nat) :
  Calls Tryz.prog 159 #[.pointer (some ⟨X,0,none⟩),.int .i64 se,.int .i64 no,.slice D n k] w fun e w'=>e=.returned (.int .i64 (wrongR R se no n))∧w'=w:=by
 obtain ⟨c0,c1,c2,c3,c4,lx⟩:=rsl_read h
 obtain ⟨b,hb⟩:∃b,b=R.blocks.length:=⟨_,rfl⟩
 rw [←hb] at c4
 have HW:=Lib.hid (show wrongR R se no n=(if R.has=false then 16 else if se≠R.st.session then 17 else if no < 0∨(b:Int)≤no then 3 else if n≠16 then 14 else 0) by unfold wrongR;rw [hb])
 obtain ⟨r,hr⟩:∃r,r=wrongR R se no n:=⟨_,rfl⟩
 rw [←hr] at HW ⊢
 clear h hb hr
 go_enter Tryz.func159,Tryz.ntmps159
 cases hh:R.has with
 | false =>
   rw [hh] at c0
   have HR:=Lib.hid (show r=16 by rw [HW.out,if_pos hh])
   go_wp2_with (fail)
   go_ret
   exact ⟨ret_int HR.out.symm,rfl⟩
 | true =>
   rw [hh] at c0
   have HN:=Lib.hid (show ¬R.has=false by rw [hh];decide)
   clear hh
   by_cases h1:se=R.st.session
   ·have b1:(se != R.st.session)=false:=by simpa using h1
    by_cases h2:no < 0
    ·have HR:=Lib.hid (show r=3 by rw [HW.out,if_neg HN.out,if_neg (not_not_intro h1),if_pos (.inl h2)])
     clear h1
     go_wp2_with (fail)
     go_ret
     exact ⟨ret_int HR.out.symm,rfl⟩
    ·by_cases h3:(b:Int)≤no
     ·have HR:=Lib.hid (show r=3 by rw [HW.out,if_neg HN.out,if_neg (not_not_intro h1),if_pos (.inr h3)])
      clear h1
      go_wp2_with (fail)
      go_ret
      exact ⟨ret_int HR.out.symm,rfl⟩
     ·by_cases h4:n=16
      ·have HR:=Lib.hid (show r=0 by rw [HW.out,if_neg HN.out,if_neg (not_not_intro h1),if_neg (by omega),if_neg (not_not_intro h4)])
       have b4:((n:Int) != 16)=false:=by simp;omega
       clear h1
       go_wp2_with (fail)
       go_ret
       exact ⟨ret_int HR.out.symm,rfl⟩
      ·have HR:=Lib.hid (show r=14 by rw [HW.out,if_neg HN.out,if_neg (not_not_intro h1),if_neg (by omega),if_pos h4])
       have b4:((n:Int) != 16)=true:=by simp;omega
       clear h1
       go_wp2_with (fail)
       go_ret
       exact ⟨ret_int HR.out.symm,rfl⟩
   ·have HR:=Lib.hid (show r=17 by rw [HW.out,if_neg HN.out,if_pos h1])
    have b1:(se != R.st.session)=true:=by simpa using h1
    clear h1
    go_wp2_with (fail)
    go_ret
    exact ⟨ret_int HR.out.symm,rfl⟩
theorem make_sb (k:Nat) (hk:k≤1000) (w:World):(Instr.makeSlice 116 (.int .i64 (k:Int)) (.int .i64 (k:Int))).run Tryz.prog w=.ok (.slice (some ⟨w.heap.size,0,none⟩) k k) (w.alloc (.cells (List.replicate k (Value.slice none 0 0)).toArray 24)):=by
 rw [run_make_row' (P:=Tryz.prog) 116 24 (.slice none 0 0) 24 Tryz.underlying116 infoSb rfl .i64 .i64 k (by omega) (by omega) w]
 congr 2
 congr 1
 apply Array.ext
 ·simp [madeCells]
 ·intro i h1 h2
  simp [madeCells,Nat.mod_one]
theorem rbegin_at {w0 w:World} {l:List Asn} {X:Nat} {P:List (Nat×List Value)} {R:RS} (h:St w0 w (rsl X P R::l)) (se sz:Int) (hsz:-9223372036854775808≤sz) :
  Calls Tryz.prog 108 #[.pointer (some ⟨X,0,none⟩),.int .i64 se,.int .i64 sz] w fun e w'=>e=.returned (.int .i64 (beginR R se sz).1)∧St w0 w' (rsl X P (beginR R se sz).2::l):=by
 obtain ⟨v,vs,hb,hst⟩:=rsl_open h
 obtain ⟨T,hT⟩:∃T,T=w.heap.size:=⟨_,rfl⟩
 obtain ⟨w1,hw1⟩:∃w1,w1=w.alloc (.cells #[.int .i64 se,.int .i64 sz,.int .i64 0] 31):=⟨_,rfl⟩
 have H1:=Lib.hid (show St w0 w1 (row T 31 [.int .i64 se,.int .i64 sz,.int .i64 0]::row X 118 (rcells R v)::own 24 1 v R.blocks.length vs::l) by rw [hw1,hT];exact hst.new _ _)
 have HRS:=Lib.hid (fun w=>refRec.rightStage_at ⟨se,sz,0⟩ w hsz)
 have HW1:=Lib.hid hw1;have HT:=Lib.hid hT;have HBB:=Lib.hid hb
 clear h hst hw1 hT hb
 go_enter Tryz.func108,Tryz.ntmps108
 go_upto_region 2 with fail
 rw [←HW1.out,←HT.out]
 obtain ⟨t0,t1,t2⟩:w1.cell? ⟨T,0,none⟩=some (.int .i64 se)∧w1.cell? ⟨T,1,none⟩=some (.int .i64 sz)∧w1.cell? ⟨T,2,none⟩=some (.int .i64 0):=⟨H1.out.row.1.cell 0,H1.out.row.1.cell 1,H1.out.row.1.cell 2⟩
 go_wp2_with (fail)
 rw [←Stg.val_eq ⟨se,sz,0⟩]
 refine (HRS.out _).mono ?_
 rintro e w2 ⟨rfl,hb⟩
 have H2:=Lib.hid (H1.out.below hb)
 clear hb t0 t1 t2
 cases hr:(Stg.mk se sz 0).right with
 | false =>
   have HE:=Lib.hid (show beginR R se sz=(3,R) by unfold beginR;rw [hr];rfl)
   go_wp2_with (fail)
   go_ret
   rw [HE.out]
   exact ⟨rfl,rsl_shut HBB.out H2.out.drop⟩
 | true =>
   obtain ⟨n,hn⟩:∃n,n=blocksN sz:=⟨_,rfl⟩
   have hz:=(stg_in hr).2.1
   simp only at hz
   obtain ⟨z1,z2⟩:=hz
   have hn10:n≤10:=by rw [hn];unfold blocksN;omega
   have HE:=Lib.hid (show beginR R se sz=(0,⟨true,⟨se,sz,0⟩,List.replicate n []⟩) by unfold beginR;rw [hr,hn];rfl)
   have HBL:=Lib.hid (show ∀w,Calls Tryz.prog 158 #[.int .i64 sz] w fun e w'=>e=.returned (.int .i64 (n:Nat))∧w'=w by rw [hn];exact fun w=>refRec.blocks_at w sz (by omega) hsz)
   have MK:=fun w=>make_sb n (by omega) w
   clear hr hn
   have x0:=(H2.out.pick 1 rfl).row.1.cell 0
   have fx:=(H2.out.pick 1 rfl).row.1.frozen 0
   have lx:=(H2.out.pick 1 rfl).row.1.lt
   simp only [rcells,List.getElem?_cons_zero] at x0
   obtain ⟨w3,hw3⟩:∃w3,w3=w2.setCell ⟨X,0,none⟩ (.bool true):=⟨_,rfl⟩
   have H3:=Lib.hid (show St w0 w3 (row X 118 [.bool true,.int .i64 R.st.session,.int .i64 R.st.size,.int .i64 R.st.have_,v]::row T 31 [.int .i64 se,.int .i64 sz,.int .i64 0]::own 24 1 v R.blocks.length vs::l) by rw [hw3];exact (H2.out.pick 1 rfl).set 0 _)
   have HW3:=Lib.hid hw3
   clear hw3
   go_upto_region 5 with fail
   rw [←HW3.out]
   clear x0 fx lx
   obtain ⟨t0,t1,t2⟩:w3.cell? ⟨T,0,none⟩=some (.int .i64 se)∧w3.cell? ⟨T,1,none⟩=some (.int .i64 sz)∧w3.cell? ⟨T,2,none⟩=some (.int .i64 0):=⟨(H3.out.pick 1 rfl).row.1.cell 0,(H3.out.pick 1 rfl).row.1.cell 1,(H3.out.pick 1 rfl).row.1.cell 2⟩
   obtain ⟨w4,hw4⟩:∃w4,w4=w3.setRow X #[.bool true,.int .i64 se,.int .i64 sz,.int .i64 0,v]:=⟨_,rfl⟩
   have H4:=Lib.hid (show St w0 w4 (row X 118 [.bool true,.int .i64 se,.int .i64 sz,.int .i64 0,v]::row T 31 [.int .i64 se,.int .i64 sz,.int .i64 0]::own 24 1 v R.blocks.length vs::l) by rw [hw4];exact H3.out.setRow _)
   have HW4:=Lib.hid hw4
   clear hw4
   go_cut [] (fun wc=>wc=w4)
   case first =>
    go_wp2_with (refine wpList_putR rfl 31 (.tmp 20) (.tmp 18) rfl X 1 #[.int .i64 se,.int .i64 sz,.int .i64 0] rfl rfl H3.out.row.1 (by kernel_rfl) (by simp) (by simp [Value.oneCell']) [.bool true,.int .i64 se,.int .i64 sz,.int .i64 0,v] rfl ?_)
    go_meet
    exact HW4.out.symm
   case rest =>
   rw [hcut]
   clear t0 t1 t2 hcut
   have x4:=H4.out.row.1.cell 4
   have fx:=H4.out.row.1.frozen 4
   have lx:=H4.out.row.1.lt
   simp only [List.getElem?_cons_succ,List.getElem?_cons_zero] at x4
   go_wp2_with (fail)
   refine (HBL.out _).mono ?_
   rintro e w5 ⟨rfl,hw5⟩
   rw [hw5]
   clear hw5
   go_wp2_with (fail)
   go_ret
   rw [HE.out]
   refine ⟨rfl,rsl_shut (v:=.slice (some ⟨w4.heap.size,0,none⟩) n n) (vs:=List.replicate n (.slice none 0 0)) ⟨by simp,fun i b v h1 h2=>.inl ?_⟩ ?_⟩
   ·obtain ⟨_,rfl⟩:=(by simpa [List.getElem?_replicate] using h1:i < n∧[]=b)
    obtain ⟨_,rfl⟩:=(by simpa [List.getElem?_replicate] using h2:i < n∧Value.slice none 0 0=v)
    exact ⟨rfl,rfl⟩
   ·have h5:=(H4.out.set 4 (.slice (some ⟨w4.heap.size,0,none⟩) n n)).new 24 (Array.replicate n (Value.slice none 0 0))
    rw [show (w4.setCell ⟨X,4,none⟩ (.slice (some ⟨w4.heap.size,0,none⟩) n n)).heap.size=w4.heap.size by simp] at h5
    have h6:=h5.new_row_own (size:=1) (n:=n) (cap:=n) (Nat.le_refl _) (by unfold maxLen;omega) (by simp)
    have h7:=((h6.swap.pick 2 rfl).drop.pick 2 rfl).drop
    rw [show ((Array.replicate n (Value.slice none 0 0)).toList.take (n*1))=List.replicate n (Value.slice none 0 0) by simp] at h7
    show St w0 _ (row X 118 [.bool true,.int .i64 se,.int .i64 sz,.int .i64 0,.slice (some ⟨w4.heap.size,0,none⟩) n n]::own 24 1 _ (List.replicate n ([]:List Int)).length _::l)
    rw [List.length_replicate]
    exact h7
end stage
namespace stage

open Go.RowKit Go.ChangeShapes Go.WideShapes Go.ChangeAt Go.Deep Go.Joins base obj mem crc disk record Go.Proofs.YtdldkkoplgkloaaGreat.bits sep plan bytes
theorem wrongR_yes {R:RS} {se no:Int} {n:Nat} (h:wrongR R se no n=0):R.has=true∧0≤no∧no < (R.blocks.length:Int)∧n=16:=by
 unfold wrongR at h
 cases hh:R.has with
 | false=>rw [hh,if_pos rfl] at h;exact absurd h (by decide)
 | true =>
   rw [hh,if_neg (show ¬(true=false) by decide)] at h
   split at h
   ·exact absurd h (by decide)
   ·split at h
    ·exact absurd h (by decide)
    ·split at h
     ·exact absurd h (by decide)
     ·refine ⟨rfl,by omega,by omega,by omega⟩
theorem HBs.set {P:List (Nat×List Value)} {bs:List (List Int)} {vs:List Value} (h:HBs P bs vs) {k:Nat} {b:List Int} {v:Value} (hv:HB P b v):HBs P (bs.set k b) (vs.set k v):=by
 refine ⟨by simp [h.1],fun i b' v' h1 h2=>?_⟩
 rw [List.getElem?_set] at h1 h2
 by_cases e:k=i
 ·rw [if_pos e] at h1 h2
  split at h1
  ·split at h2
   ·injection h1 with h1;injection h2 with h2
    subst h1;subst h2
    exact hv
   ·exact absurd h2 (by simp)
  ·exact absurd h1 (by simp)
 ·rw [if_neg e] at h1 h2
  exact h.2 i b' v' h1 h2
theorem rput_at {w0 w:World} {l:List Asn} {X:Nat} {P:List (Nat×List Value)} {R:RS} {B:Asn} {D:Option Addr} {n dc:Nat} {data:List Int} (h:St w0 w (rsl X P R::pool P::B::l)) (hg:Gives w0 B D n data)
  (hr:R.has=true→R.st.right=true) (h10:R.blocks.length≤10) (se no:Int) :
  Calls Tryz.prog 109 #[.pointer (some ⟨X,0,none⟩),.int .i64 se,.int .i64 no,.slice D n dc] w fun e w'=>e=.returned (.int .i64 (putR R se no data).1)∧∃P',(∀x∈P,x∈P')∧St w0 w' (rsl X P' (putR R se no data).2::pool P'::B::l):=by
 obtain ⟨v,vs,hb,hst⟩:=rsl_open h
 obtain ⟨A,c,rfl,hbc,hcm⟩:=own_form (hst.pick 1 rfl).own
 have HWR:=Lib.hid (rwrong_at (A:=A) (c:=c) hst.row.1 se no D n dc)
 have HN:=Lib.hid hg.1
 have HH:=Lib.hid h
 by_cases hw:wrongR R se no n=0
 ·obtain ⟨w1,w2,w3,w4⟩:=wrongR_yes hw
  subst w4
  obtain ⟨k,rfl⟩:=Int.eq_ofNat_of_zero_le w2
  obtain ⟨q,hq⟩:∃q,q=R.blocks.length:=⟨_,rfl⟩
  rw [←hq] at w3 h10 hst hbc
  have hk:k < q:=by omega
  obtain ⟨t,xs,rfl,_,hxl,hxt,hst2⟩:=own_row (hst.pick 1 rfl) (by omega)
  have hkx:k < xs.length:=by omega
  have hkv:k < vs.length:=by rw [hb.1,←hq];exact hk
  have hxv:xs[k]=vs[k]:=by
   have e:(xs.take (q*1))[k]?=vs[k]?:=by rw [hxt]
   rw [List.getElem?_take,if_pos (by omega),List.getElem?_eq_getElem hkx,List.getElem?_eq_getElem hkv] at e
   injection e
  have hbk:=hb.2 k (R.blocks[k]'(by omega)) vs[k] (List.getElem?_eq_getElem _) (List.getElem?_eq_getElem hkv)
  obtain ⟨c0,c1,c2,c3,c4,lx⟩:=rsl_read (hst2.pick 1 rfl).row.1
  have ct:w.cell? ⟨t,k,none⟩=some xs[k]:=by rw [hst2.row.1.cell k];exact List.getElem?_eq_getElem hkx
  have lt:=hst2.row.1.lt
  have hk':(k:Int) < (q:Int):=by omega
  have hk0:(0:Int)≤(k:Int):=by omega
  have HPR:=Lib.hid (show putR R se k data=if R.blocks.getD k []≠[] then (0,R) else (0,⟨R.has,⟨R.st.session,R.st.size,R.st.have_+2 ^ k⟩,R.blocks.set k data⟩) by unfold putR;rw [hg.1,hw,if_neg (fun h=>h rfl),Int.toNat_natCast])
  have HBK:=Lib.hid (show R.blocks.getD k []=R.blocks[k]'(by omega) by rw [List.getD_eq_getElem?_getD,List.getElem?_eq_getElem (by omega)];rfl)
  rw [hw] at HWR
  rw [hxv] at ct
  have HST:=Lib.hid (show St w0 w (row X 118 (rcells R (.slice (some ⟨t,0,none⟩) q c))::row t 24 xs::pool P::B::l) from hst2.swap)
  go_enter Tryz.func109,Tryz.ntmps109
  go_wp2_with (fail)
  refine HWR.out.mono ?_
  rintro e w' ⟨rfl,hw'⟩
  rw [hw']
  clear hw'
  rcases hbk with ⟨hb0,hv0⟩|⟨hb16,g1,c1',xs1,hP,hv1,hxs1⟩
  ·rw [hv0] at ct
   have HS1:=Lib.hid (fun (w1:World) (l1:List Asn) (h1:St w0 w1 (B::l1))=>hg.2 w1 l1 h1)
   have HG1:=Lib.hid (show ∀u∈data.map (Value.int .u8),u.oneCell'=true from u8s_one data)
   have HRP:=Lib.hid (show (putR R se k data)=(0,⟨R.has,⟨R.st.session,R.st.size,R.st.have_+2 ^ k⟩,R.blocks.set k data⟩) by rw [HPR.out,if_neg (not_not_intro (HBK.out.trans hb0))])
   have HBR:=Lib.hid hb
   have HVS:=Lib.hid hxt
   have HQ:=Lib.hid hq
   have HXL:=Lib.hid hxl
   have hh2:=(stg_in (hr w1)).2.2
   obtain ⟨h20,h21⟩:=hh2
   have hkl:k≤16:=by omega
   have HPW:=Lib.hid (fun w=>bits.power_in k w hkl)
   obtain ⟨pw,hpw⟩:∃pw:Int,pw=2 ^ k:=⟨_,rfl⟩
   have hp0:0≤pw:=by rw [hpw];exact Int.le_of_lt (Int.pow_pos (by decide))
   have hp1:pw≤65536:=by
    rw [hpw]
    have h1:=Nat.pow_le_pow_right (n:=2) (by decide) hkl
    have h2:((2 ^ k:Nat):Int)=(2:Int) ^ k:=by simp
    omega
   rw [←hpw] at HRP HPW
   clear hb hb0 hv0 hxt hq hxl hpw hr hg h hst hst2 hxv hkl HBK HPR
   obtain ⟨hv,hhv⟩:∃hv,hv=R.st.have_:=⟨_,rfl⟩
   have HHV:=Lib.hid hhv
   rw [←hhv] at c3 h20 h21
   clear hhv
   go_upto_region 5 with fail
   go_cut [10] (fun s w5=>∃(g2 cap:Nat) (x2:List Value),s=.slice (some ⟨g2,0,none⟩) 16 cap∧x2.take 16=data.map (.int .u8)∧St w0 w5 (row X 118 (rcells R (.slice (some ⟨t,0,none⟩) q c))::row t 24 xs::row g2 5 x2::pool P::B::l))
   case first =>
    go_wp2_with (refine app_row slB rfl (.tmp 30) (.tmp 31) rfl (World.ownsRow_nil w w.heap.size 5 1) rfl rfl (HS1.out _ _ (HST.out.pick 3 rfl)) HG1.out (by omega) (by omega) (by unfold maxLen;omega) (Nat.le_refl _) ?_;intro g2 cap w5 ho hg5 hor hlt4;rw [Nat.zero_add,List.nil_append] at ho;have H5:=Lib.hid (HST.out.addOwn ⟨hg5.os,hg5.tape,hg5.output,hg5.size,fun i hi=>hg5.block i hi (by simp [Value.ownBlock])⟩ ho);clear ho hg5 hor)
    go_meet
    obtain ⟨t5,x5,e5,_,_,hx5,hst5⟩:=own_row H5.out (by omega)
    injection e5 with e5
    injection e5 with e5
    subst e5
    exact ⟨_,_,x5,rfl,hx5,(hst5.pick 1 rfl).perm (by refine List.Perm.cons _ ?_;exact List.Perm.swap _ _ _)⟩
   case rest =>
   obtain ⟨g2,cap,x2,rfl,hx2,h5⟩:=hcut
   obtain ⟨d0,d1,d2,d3,d4,ld⟩:=rsl_read h5.row.1
   have cd:wc.cell? ⟨t,k,none⟩=some xs[k]:=by rw [(h5.pick 1 rfl).row.1.cell k];exact List.getElem?_eq_getElem hkx
   have fd:=(h5.pick 1 rfl).row.1.frozen k
   have ldt:=(h5.pick 1 rfl).row.1.lt
   obtain ⟨w6,hw6⟩:∃w6,w6=wc.setCell ⟨t,k,none⟩ (.slice (some ⟨g2,0,none⟩) 16 cap):=⟨_,rfl⟩
   have H6:=Lib.hid (show St w0 w6 (row X 118 (rcells R (.slice (some ⟨t,0,none⟩) q c))::row t 24 (xs.set k (.slice (some ⟨g2,0,none⟩) 16 cap))::row g2 5 x2::pool P::B::l) by rw [hw6];exact ((h5.pick 1 rfl).set k _).swap)
   have HW6:=Lib.hid hw6;have HX2:=Lib.hid hx2
   clear hw6 h5 hx2
   clear c0 c1 c2 c3 c4 lx ct lt
   go_upto_region 7 with fail
   rw [←HW6.out]
   clear d0 d1 d2 d3 d4 ld cd fd ldt
   obtain ⟨d0,d1,d2,d3,d4,ld⟩:=rsl_read H6.out.row.1
   rw [←HHV.out] at d3
   have fd3:=H6.out.row.1.frozen 3
   clear d0 d1 d2 d4
   have hwr:IntKind.i64.wrap (hv+pw)=hv+pw:=IntWalk.i64_in _ ⟨by omega,by omega⟩
   go_wp2_with (fail)
   go_region_law (go_simp;(with_reducible refine (HPW.out _).mono ?_);rintro e w7 ⟨rfl,rfl⟩;dsimp only)
   all_goals
    go_wp2_with (fail)
    go_ret
    rw [HRP.out]
    refine ⟨rfl,(g2,x2)::P,fun x hx=>List.mem_cons_of_mem _ hx,rsl_shut (v:=.slice (some ⟨t,0,none⟩) q c) (vs:=vs.set k (.slice (some ⟨g2,0,none⟩) 16 cap)) ((HBR.out.mono fun x hx=>List.mem_cons_of_mem _ hx).set (.inr ⟨HN.out,g2,cap,x2,by simp,rfl,HX2.out⟩)) ?_⟩
    have h7:=((H6.out.set 3 (.int .i64 (hv+pw))).drew)
    have h8:=(h7.pick 1 rfl).new_row_own (size:=1) (n:=q) (cap:=c) hbc hcm (by rw [List.length_set];exact HXL.out)
    rw [List.take_set,HVS.out] at h8
    have h9:=(((pool_add ((h8.pick 2 rfl).pick 3 rfl |>.swap)).pick 2 rfl).pick 2 rfl).swap
    show St w0 _ (row X 118 [.bool R.has,.int .i64 R.st.session,.int .i64 R.st.size,.int .i64 (R.st.have_+pw),.slice (some ⟨t,0,none⟩) q c]::own 24 1 _ (R.blocks.set k data).length _::_)
    rw [List.length_set,←HQ.out,←HHV.out]
    exact h9
  ·rw [hv1] at ct
   go_wp2_with (fail)
   go_ret
   rw [HPR.out,if_pos (by rw [HBK.out];intro e;rw [e] at hb16;exact absurd hb16 (by decide))]
   exact ⟨rfl,P,fun x hx=>hx,HH.out⟩
 ·have HE:=Lib.hid (show putR R se no data=(wrongR R se no n,R) by unfold putR;rw [hg.1,if_pos hw])
  obtain ⟨r,hr⟩:∃r,r=wrongR R se no n:=⟨_,rfl⟩
  rw [←hr] at hw HWR HE
  have b0:(r != 0)=true:=by simpa using hw
  clear hw hr
  go_enter Tryz.func109,Tryz.ntmps109
  go_wp2_with (fail)
  refine HWR.out.mono ?_
  rintro e w' ⟨rfl,hw'⟩
  rw [hw']
  clear hw'
  go_wp2_with (fail)
  go_ret
  rw [HE.out]
  exact ⟨rfl,P,fun x hx=>hx,HH.out⟩
end stage
namespace stage

open Go.RowKit Go.ChangeShapes Go.WideShapes Go.ChangeAt Go.Deep Go.Joins base obj mem crc disk record Go.Proofs.YtdldkkoplgkloaaGreat.bits sep plan bytes
structure RGood (R:RS):Prop where
 none:R.has=false→R=RS.none
 size:R.has=true→1≤R.st.size∧R.st.size≤160∧R.blocks.length=blocksN R.st.size
structure Seen (R:RS) (q:Nat):Prop where
 all:∀j b,j < q→R.blocks[j]?=some b→b≠[]
theorem Seen.len {R:RS} {q:Nat} {P:List (Nat×List Value)} {vs:List Value} (h:Seen R q) (hb:HBs P R.blocks vs) (hq:q≤R.blocks.length):(R.blocks.take q).flatten.length=16*q:=by
 induction q with
 | zero=>rfl
 | succ q ih =>
   have hl:q < R.blocks.length:=hq
   rw [List.take_succ_eq_append_getElem hl,List.flatten_append,List.length_append,ih ⟨fun j b hj=>h.all j b (by omega)⟩ (by omega)]
   rcases hb.2 q R.blocks[q] (vs[q]'(by rw [hb.1];exact hl)) (List.getElem?_eq_getElem _) (List.getElem?_eq_getElem _) with ⟨e,_⟩|⟨e,_⟩
   ·exact absurd e (h.all q _ (by omega) (List.getElem?_eq_getElem _))
   ·simp [e];omega
theorem rbytes_at {w0 w:World} {l:List Asn} {X:Nat} {P:List (Nat×List Value)} {R:RS} (h:St w0 w (rsl X P R::pool P::l)) (hg:RGood R) :
  Calls Tryz.prog 111 #[.pointer (some ⟨X,0,none⟩)] w fun e w'=>∃A n c B,e=.returned (.tuple #[.slice A n c,.int .i64 (bytesR R).2])∧Gives w0 B A n (bytesR R).1∧St w0 w' (B::rsl X P R::pool P::l):=by
 cases hh:R.has with
 | false =>
   obtain ⟨v,vs,hb,hst⟩:=rsl_open h
   obtain ⟨c0,c1,c2,c3,c4,lx⟩:=rsl_read hst.row.1
   rw [hh] at c0
   have H:=Lib.hid h
   have HE:=Lib.hid (show bytesR R=([],16) by unfold bytesR;rw [if_pos hh])
   clear h hst hb hh hg
   go_enter Tryz.func111,Tryz.ntmps111
   go_wp2_with (fail)
   go_ret2
   rw [HE.out]
   exact ⟨_,_,_,_,rfl,gives_nil w0,H.out.addFact trivial⟩
 | true =>
   obtain ⟨s1,s2,s3⟩:=hg.size hh
   obtain ⟨v,vs,hb,hst⟩:=rsl_open h
   obtain ⟨A,c,rfl,hbc,hcm⟩:=own_form (hst.pick 1 rfl).own
   obtain ⟨b,hbl⟩:∃b,b=R.blocks.length:=⟨_,rfl⟩
   rw [←hbl] at hst hbc s3
   obtain ⟨n,hn⟩:∃n:Nat,(n:Int)=R.st.size:=⟨R.st.size.toNat,by omega⟩
   rw [←hn] at s1 s2 s3
   have hb1:1≤b:=by rw [s3];unfold blocksN;omega
   have hb10:b≤10:=by rw [s3];unfold blocksN;omega
   have hnb:n≤16*b:=by rw [s3];unfold blocksN;omega
   have hn1:1≤n:=by omega
   obtain ⟨t,xs,rfl,_,hxl,hxt,hst2⟩:=own_row (hst.pick 1 rfl) (by omega)
   have HB:=Lib.hid hb;have HBL:=Lib.hid hbl;have HN:=Lib.hid hn;have HH:=Lib.hid hh;have HXL:=Lib.hid hxl;have HXT:=Lib.hid hxt
   have hvx:∀j,j < b→xs[j]?=vs[j]?:=by
    intro j hj
    rw [←hxt,List.getElem?_take,if_pos (by omega)]
   have HVX:=Lib.hid hvx
   obtain ⟨c0,c1,c2,c3,c4,lx⟩:=rsl_read (hst2.pick 1 rfl).row.1
   rw [hh] at c0
   have HI0:=Lib.hid (show St w0 w (own 5 1 (.slice none 0 0) 0 (((R.blocks.take 0).flatten).map (.int .u8))::row X 118 (rcells R (.slice (some ⟨t,0,none⟩) b c))::row t 24 xs::pool P::l) from
    hst2.swap.addOwn (Below.refl _ _) (show w.ownsRow w.heap.size 5 1 (.slice none 0 0) 0 [] from World.ownsRow_nil _ _ _ _))
   clear h hg hb hbl hn hh hxl hxt hst hst2 hvx s3
   go_enter Tryz.func111,Tryz.ntmps111
   go_wp2_with (fail)
   go_loopw [4,5] (fun v i wr=>∃(q:Nat) (A:Option Addr) (k:Nat),q≤b∧v=.slice A (16*q) k∧i=.int .i64 q∧Seen R q∧St w0 wr (own 5 1 (.slice A (16*q) k) (16*q) (((R.blocks.take q).flatten).map (.int .u8))::row X 118 (rcells R (.slice (some ⟨t,0,none⟩) b c))::row t 24 xs::pool P::l)) (fun _ i _=>b-(intOf i).toNat)
   case atStart=>exact ⟨0,none,0,by omega,rfl,rfl,⟨fun j b hj=>absurd hj (by omega)⟩,HI0.out⟩
   case round =>
    obtain ⟨q,A,k,hq,rfl,rfl,hsn,hi⟩:=hrel
    have HI:=Lib.hid hi;have HSN:=Lib.hid hsn
    clear hi hsn HI0 c0 c1 c2 c3 c4 lx
    obtain ⟨c0,c1,c2,c3,c4,lx⟩:=rsl_read (HI.out.pick 1 rfl).row.1
    rw [HH.out] at c0
    rw [←HN.out] at c2
    obtain ⟨z,hz⟩:∃z,z=16*q:=⟨_,rfl⟩
    have HZ:=Lib.hid hz
    rw [←hz] at HI ⊢
    have hz160:z≤160:=by omega
    clear hz
    by_cases hlt:q < b
    ·have hlt':(q:Int) < (b:Int):=by omega
     have hq0:(0:Int)≤(q:Int):=by omega
     have hqb:q < R.blocks.length:=by rw [←HBL.out];exact hlt
     have hqv:q < vs.length:=by rw [HB.out.1];exact hqb
     have hvq:=HVX.out q hlt
     rw [List.getElem?_eq_getElem hqv] at hvq
     have hbq:=HB.out.2 q R.blocks[q] vs[q] (List.getElem?_eq_getElem _) (List.getElem?_eq_getElem hqv)
     have cq:wr.cell? ⟨t,q,none⟩=some vs[q]:=by rw [(HI.out.pick 2 rfl).row.1.cell q];exact hvq
     have lq:=(HI.out.pick 2 rfl).row.1.lt
     rcases hbq with ⟨hb0,hv0⟩|⟨hb16,g1,c1',xs1,hP,hv1,hxs1⟩
     ·rw [hv0] at cq
      have HE:=Lib.hid (show bytesR R=([],11) by unfold bytesR;rw [if_neg (by rw [HH.out];decide),if_pos ⟨_,List.getElem_mem hqb,hb0⟩])
      clear hvq hv0 hb0
      go_wp2_with (fail)
      go_ret2
      rw [HE.out]
      refine ⟨_,_,_,_,rfl,gives_nil w0,St.addFact ?_ trivial⟩
      have h2:=(HI.out.drop.pick 1 rfl).new_row_own (size:=1) (n:=b) (cap:=c) hbc hcm (by exact HXL.out)
      rw [HXT.out,HBL.out] at h2
      have h3:=h2.swap
      exact rsl_shut HB.out h3
     ·rw [hv1] at cq
      have hpr:=pool_row (HI.out.pick 3 rfl) hP
      have HSB:=Lib.hid (show Sl wr wr.heap.size 1 (some ⟨g1,0,none⟩) 16 ((R.blocks[q]).map (.int .u8)) from hpr.1.sl (o:=0) hpr.1.lt (by rw [List.drop_zero];exact hxs1.symm) (by rw [List.length_map,hb16]))
      have HSN2:=Lib.hid (show Seen R (q+1) from ⟨fun j b' hj hjb=>by
       rcases Nat.lt_or_ge j q with h1|h1
       ·exact HSN.out.all j b' h1 hjb
       ·have:j=q:=by omega
        subst this
        rw [List.getElem?_eq_getElem hqb] at hjb
        injection hjb with hjb
        rw [←hjb]
        intro e
        rw [e] at hb16
        exact absurd hb16 (by decide)⟩)
      clear hvq hv1 hpr hxs1 hP
      go_wp2_with (refine app_row slB rfl (.tmp 29) (.tmp 36) rfl HI.out.own rfl rfl HSB.out (u8s_one _) (by omega) (by omega) (by unfold maxLen;omega) (HI.out.bel.size) ?_;intro g2 cap w4 ho hg hor hlt4;have H4:=Lib.hid (HI.out.grown hg ho (fun x hx=>by injection hx with hx;rw [←hx];exact hor));clear ho hg hor)
      go_roundw
      case rel=>exact ⟨q+1,some ⟨g2,0,none⟩,cap,by omega,by rw [HZ.out,Nat.mul_succ],by go_num,HSN2.out,by
       have h:=H4.out
       rw [←List.map_append,show (R.blocks.take q).flatten++R.blocks[q]=(R.blocks.take (q+1)).flatten by rw [List.take_succ_eq_append_getElem hqb,List.flatten_append];simp,show z+16=16*(q+1) by rw [HZ.out,Nat.mul_succ]] at h
       exact h⟩
      case measure=>simp [intOf]<;>omega
    ·obtain rfl:q=b:=by omega
     have HZC:=Lib.hid (show z≤k by
      obtain ⟨A',c',e,hc,_⟩:=own_form HI.out.own
      injection e with _ _ e
      omega)
     have hnz:n≤z:=by have:=HZ.out;omega
     have hnk:n≤k:=by have:=HZC.out;omega
     go_wp2_with (fail)
     go_ret2
     have hall:(R.blocks.take q)=R.blocks:=by rw [HBL.out];exact List.take_length
     have HE:bytesR R=(R.blocks.flatten.take n,0):=by
      unfold bytesR
      rw [if_neg (by rw [HH.out];decide),if_neg,←HN.out,Int.toNat_natCast]
      rintro ⟨b',hb',rfl⟩
      obtain ⟨j,hj,e⟩:=List.getElem_of_mem hb'
      exact HSN.out.all j [] (by rw [HBL.out];exact hj) (by rw [List.getElem?_eq_getElem hj,e]) rfl
     rw [HE]
     obtain ⟨t2,x2,hA,_,_,hx2,hst⟩:=own_row HI.out (by omega)
     subst hA
     rw [hall,Nat.mul_one] at hx2
     have hfl:=HSN.out.len HB.out (by rw [HBL.out];exact Nat.le_refl _)
     rw [hall] at hfl
     refine ⟨_,_,_,row t2 5 x2,rfl,gives_row ?_ ?_,?_⟩
     ·rw [List.length_take,hfl];omega
     ·rw [List.map_take,←hx2,List.take_take,Nat.min_eq_left hnz]
     ·have h2:=(hst.pick 2 rfl).new_row_own (size:=1) (n:=q) (cap:=c) hbc hcm (by exact HXL.out)
      rw [HXT.out,HBL.out] at h2
      have h3:=(h2.pick 2 rfl)
      exact (rsl_shut HB.out h3).swap
end stage
namespace stage

open Go.RowKit Go.ChangeShapes Go.WideShapes Go.ChangeAt Go.Deep Go.Joins base obj mem crc disk record Go.Proofs.YtdldkkoplgkloaaGreat.bits sep plan bytes same
def doR (R:RS) (a:ActS):Int×RS:=if a.kind=0 then beginR R a.n a.size else if a.kind=1 then putR R a.n a.no (fillL a.by_ (fillN a.long)) else (0,RS.none)
def Alike (m:DS) (p k:Int) (s:SlS) (R:RS):Prop:=s.has=R.has∧(s.has=true→s.st=R.st)∧bytesM m p k s=bytesR R
instance (m:DS) (p k:Int) (s:SlS) (R:RS):Decidable (Alike m p k s R):=by
 unfold Alike
 infer_instance
end stage
namespace stage

open base crc disk record Go.Proofs.YtdldkkoplgkloaaGreat.bits
def actM (m:DS) (p k:Int) (s:SlS) (a:ActS):Int×DS×SlS :=
 if a.kind=0 then beginM m p k s a.n a.size else if a.kind=1 then putM m p k s a.n a.no (fillL a.by_ (fillN a.long)) else clearM m p k s
theorem SI.act {m:DS} {p k:Int} {s:SlS} {R:RS} {might:Option RS} (h:SI m p k s R might) (a:ActS):Stepped m p k s R might (actM m p k s a) (doR R a):=by
 unfold actM doR
 by_cases h0:a.kind=0
 ·rw [if_pos h0,if_pos h0]
  exact h.begin _ _
 ·rw [if_neg h0,if_neg h0]
  by_cases h1:a.kind=1
  ·rw [if_pos h1,if_pos h1]
   exact h.put _ _ (fillL_byt _ _)
  ·rw [if_neg h1,if_neg h1]
   exact h.clear
theorem RGood.do {R:RS} (h:RGood R) (a:ActS):RGood (doR R a).2:=by
 unfold doR
 split
 ·unfold beginR
  split
  ·rename_i hr
   have h2:=(stg_in hr).2.1
   exact ⟨fun hh=>absurd hh (show ¬(true=false) by decide),fun _=>⟨h2.1,h2.2,by simp⟩⟩
  ·exact h
 ·split
  ·unfold putR
   split
   ·exact h
   ·split
    ·exact h
    ·rename_i hw _
     have hw':wrongR R a.n a.no (fillL a.by_ (fillN a.long)).length=0:=Classical.not_not.1 hw
     obtain ⟨w1,_⟩:=wrongR_yes hw'
     obtain ⟨s1,s2,s3⟩:=h.size w1
     exact ⟨fun hh=>absurd (w1.symm.trans hh) (by decide),fun _=>⟨s1,s2,by rw [List.length_set];exact s3⟩⟩
  ·exact ⟨fun _=>rfl,fun hh=>absurd hh (by decide)⟩
theorem bytesM_len {m:DS} {p k:Int} {s:SlS} (h:s.has=true→s.st.right=true):(bytesM m p k s).1.length≤1000:=by
 unfold bytesM
 split
 ·simp
 ·split
  ·simp
  ·split
   ·simp
   ·rename_i hh _ _
    have h1:s.has=true:=by simpa using hh
    have h2:=(stg_in (h h1)).2.1
    simp only
    rw [List.length_take]
    omega
structure Zr (m:DS) (p k:Int):Prop where
 secs:∀j,j < m.secs.length→Outside p k j→m.secs[j]?=some zeroSec
 waits:∀x∈m.waits,¬Outside p k x.1
theorem Zr.new (n:Nat) (p k:Int):Zr (DS.new n) p k:=⟨fun j hj _=>by
 have:j < n:=by simpa [DS.new] using hj
 simp [DS.new,this],fun x hx=>absurd hx (by simp [DS.new])⟩
theorem Zr.burnt {m:DS} {p k:Int} (h:Zr m p k):Zr m.burnt p k:=⟨by rw [DS.burnt_secs];exact h.secs,by rw [DS.burnt_waits];exact h.waits⟩
theorem lay_out {ws:List (Nat×List Int)} {s:List (List Int)} (q:Nat→Bool) {j:Nat} (h:∀x∈ws,x.1≠j):∀n,(layTo q ws s n)[j]?=s[j]?
 | 0=>rfl
 | n+1=>by
   have ih:=lay_out (s:=s) q h n
   rw [layTo]
   split
   ·rename_i w hw
    split
    ·rw [List.getElem?_set_ne (h w (List.mem_of_getElem? hw)),ih]
    ·exact ih
   ·exact ih
theorem Zr.lay {m:DS} {p k:Int} (h:Zr m p k) (q:Nat→Bool):Zr (m.lay q) p k:=by
 refine ⟨fun j hj ho=>?_,fun x hx=>absurd hx (by simp [DS.lay])⟩
 show (layTo q m.waits m.secs m.waits.length)[j]?=_
 rw [lay_out q (fun x hx e=>h.waits x hx (by rw [e];exact ho))]
 exact h.secs j (by have:j < (layTo q m.waits m.secs m.waits.length).length:=hj;rwa [layTo_len] at this) ho
theorem Zr.flush {m:DS} {p k:Int} (h:Zr m p k):Zr m.flush.2 p k:=by
 unfold DS.flush
 split
 ·exact h.burnt.lay _
 ·exact h.burnt
theorem Zr.write {m:DS} {p k:Int} (h:Zr m p k) {i:Int} (hi:¬Outside p k i.toNat) (bs:List Int):Zr (m.write i bs).2 p k:=by
 unfold DS.write
 split
 ·exact h
 ·split
  ·exact h
  ·split
   ·refine ⟨fun j hj ho=>?_,fun x hx=>?_⟩
    ·show m.burnt.secs[j]?=_
     exact h.burnt.secs j hj ho
    ·rcases List.mem_append.1 hx with hx|hx
     ·exact h.burnt.waits x hx
     ·rw [List.mem_singleton.1 hx]
      exact hi
   ·exact h.burnt
theorem Zr.wf {m:DS} {p k:Int} (h:Zr m p k) {i:Int} (hi:¬Outside p k i.toNat) (bs:List Int):Zr (disk.wf m i bs).2 p k:=by
 unfold disk.wf
 split
 ·exact (h.write hi bs).flush
 ·exact h.write hi bs
theorem Zr.power {m:DS} {p k:Int} (h:Zr m p k) (keep:Int):Zr (m.power keep) p k:=by
 have:=h.lay (keeps keep)
 exact ⟨this.secs,this.waits⟩
theorem Zr.fuse {m:DS} {p k:Int} (h:Zr m p k) (n:Int):Zr (m.setFuse n) p k:=by
 unfold DS.setFuse
 split
 ·exact h
 ·exact ⟨h.secs,h.waits⟩
theorem Zr.now {m:DS} {p k:Int} (h:Zr m p k) (hw:m.waits=[]) {j:Nat} (hj:j < m.secs.length) (ho:Outside p k j):m.now j=zeroSec:=by
 unfold DS.now
 rw [hw]
 show m.secs.getD j []=_
 rw [List.getD_eq_getElem?_getD,h.secs j hj ho]
 rfl
theorem in_own {p k:Int} (h0:0≤sAt p k):¬Outside p k (sAt p k).toNat:=fun h=>out_own h h0 rfl
theorem in_data {p k i:Int} (h0:0≤sAt p k) (i0:0≤i) (i3:i < 3):¬Outside p k (dAt p k i).toNat:=fun h=>out_data h h0 i0 i3 rfl
theorem Zr.act {m:DS} {p k:Int} (h:Zr m p k) (hp:Pl m p k) {s:SlS} (hs:s.has=true→s.st.right=true) (a:ActS):Zr (actM m p k s a).2.1 p k:=by
 have o1:=in_own hp.own.1
 unfold actM
 split
 ·unfold beginM
  split
  ·split<;>exact h.wf o1 _
  ·exact h
 ·split
  ·unfold putM
   by_cases hw:wrongE s a.n a.no (fillL a.by_ (fillN a.long)).length=0
   ·rw [if_neg (not_not_intro hw)]
    obtain ⟨hh,w1,w2,w3,w4⟩:=wrong_yes hw
    have hn10:a.no < 10:=by
     have:=(stg_in (hs hh)).2.1
     unfold blocksN at w3;omega
    have o2:=in_data (i:=a.no / 4) hp.own.1 (by omega) (by omega)
    have h1:=h.wf o2 (splice (m.now (dAt p k (a.no / 4)).toNat) a.no.toNat (fillL a.by_ (fillN a.long)))
    split
    ·exact h
    ·split
     ·exact h
     ·have key:Zr (wf2 m (dAt p k (a.no / 4)) (splice (m.now (dAt p k (a.no / 4)).toNat) a.no.toNat (fillL a.by_ (fillN a.long))) (sAt p k) (nxt s.st a.no.toNat).bytes).2 p k:=by
       unfold wf2
       split
       ·exact h1.wf o1 _
       ·exact h1
      split<;>exact key
   ·rw [if_pos hw]
    exact h
  ·unfold clearM
   split<;>exact h.wf o1 _
end stage
end Go.Proofs.YtdldkkoplgkloaaGreat
