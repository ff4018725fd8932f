/-
  PROVED HERE: lemmas and contracts that the law's proof leans on (texts put together: Lift, RecSeal, RecOpen, RecOpened, RecStage).
  CONDITIONS: each names its own.
-/
import Derived.Deep.DeepCutAuto
import Derived.Deep.Slices
import Derived.Lib.SmallJoins
import Derived.ReadAgain
import Derived.Shelf.RegionOpen
import Derived.WideKeyArgs
import Derived.Test.YtdldkkoplgkloaaGreatPz0
import Derived.Test.YtdldkkoplgkloaaGreatPz4
import Derived.Test.YtdldkkoplgkloaaGreatPz12
import Derived.Test.YtdldkkoplgkloaaGreatPz18
namespace Go.Proofs.YtdldkkoplgkloaaGreat
set_option linter.unusedVariables false
set_option linter.unusedSimpArgs false
set_option maxRecDepth 100000
set_option maxHeartbeats 32000000
namespace lift

open Go.RowKit Go.ChangeShapes Go.WideShapes Go.Deep base
theorem own:ownKnob Tryz.prog.godebug=none:=by kernel_rfl
theorem laidOut:laidOutB Tryz.prog=true:=by kernel_rfl
section
variable {H : Type} {enc : TypeId × Value → H} {P : Program}
theorem args_stay (hl:laidOutB P=true) {W W':World} (hb:Below W.heap.size W W') {sp:Nat→Bool}:∀(ts:List TypeId) (vs:List Value) (ds:List (DataW H)) (ps:List MemPlace),
  (ts.all fun t=>P.readableRec t&&decide (t < P.types.size))=true→DataW.TrodAll enc P W 0 (fun _=>true) true ts vs ds ps→(∀p∈ps,p.block < W.heap.size)→(∀p∈ps,sp p.block=true)→
  DataW.TrodAll enc P W' 0 sp true ts vs ds ps
 | [],vs,ds,ps,_,h,_,_=>by
   obtain ⟨rfl,rfl,rfl⟩:=trodAll_nil h
   exact trodAll_mk0
 | t::ts,vs,ds,ps,hr,h,hlt,hsp=>by
   obtain ⟨v,vs',d,ds',p,q,rfl,rfl,rfl,h0,h1⟩:=trodAll_cons h
   simp only [List.all_cons,Bool.and_eq_true,decide_eq_true_eq] at hr
   refine trodAll_cons_mk (WideElems.Trod_stays hl hr.1.1 hr.1.2 h0 (fun x hx=>hb.same (hlt x (by simp [hx]))) (fun x hx=>hsp x (by simp [hx]))) ?_
   exact args_stay hl hb ts vs' ds' q (by simpa using hr.2) h1 (fun x hx=>hlt x (by simp [hx])) (fun x hx=>hsp x (by simp [hx]))
theorem flat_get {α:Type} (q:Nat→List α) (s:Nat) (hs:0 < s):∀(n:Nat),(∀i,i < n→(q i).length=s)→((List.range n).flatMap q).length=n*s∧∀i j,i < n→j < s→((List.range n).flatMap q)[i*s+j]?=(q i)[j]?
 | 0,_=>⟨by simp,fun i j hi=>absurd hi (by omega)⟩
 | n+1,h=>by
   obtain ⟨h1,h2⟩:=flat_get q s hs n (fun i hi=>h i (by omega))
   have e:(List.range (n+1)).flatMap q=(List.range n).flatMap q++q n:=by rw [List.range_succ,List.flatMap_append];simp
   have hm:n*s+s=(n+1)*s:=by rw [Nat.add_mul,Nat.one_mul]
   refine ⟨by rw [e,List.length_append,h1,h n (by omega)];exact hm,fun i j hi hj=>?_⟩
   rw [e]
   by_cases hin:i < n
   ·have:i*s+j < n*s:=by
     have:(i+1)*s≤n*s:=Nat.mul_le_mul_right s hin
     rw [Nat.add_mul,Nat.one_mul] at this
     omega
    rw [List.getElem?_append_left (by omega),h2 i j hin hj]
   ·have hi':i=n:=by omega
    subst hi'
    rw [List.getElem?_append_right (by omega),h1]
    congr 1
    omega
theorem add_add' (a:Addr) (i j:Nat):(a.add i).add j=a.add (i+j):=by
 unfold Addr.add
 by_cases hi:i=0<;>by_cases hj:j=0<;>simp [hi,hj,Nat.add_assoc]
theorem row_fields {W:World} {e:TypeId} {fs:Array Field} {cs:List Value} {m:Nat} {x:DataW H×List MemPlace} (he:P.underlying e=some (.struct fs)) (hone:oneCellFields P fs=true) (hl:cs.length=fs.size)
  (h:DataW.trod enc P W 0 (fun _=>true) true m e cs=some x):∀(j:Nat) (f:Field),fs[j]?=some f→∃(v:Value) (k:Nat) (y:DataW H×List MemPlace),cs[j]?=some v∧DataW.trod enc P W 0 (fun _=>true) true k f.type [v]=some y:=by
 obtain ⟨ys,n',hn',hy,hlen,hyl,hf⟩:=DataW.trod_struct he h
 intro j f hj
 obtain ⟨ho,hk⟩:=hone_of hone j f hj
 have hjl:j < fs.size:=(Array.getElem?_eq_some_iff.1 hj).1
 have h1:=hf j f hj
 rw [ho,hk] at h1
 have hj':j < cs.length:=by rw [hl];exact hjl
 have hone':(cs.drop j).take 1=[cs[j]]:=by
  rw [List.drop_eq_getElem_cons hj']
  rfl
 rw [hone'] at h1
 have hys:ys[j]?=some (ys[j]'(by rw [hyl];exact hjl)):=List.getElem?_eq_getElem _
 exact ⟨_,n',_,List.getElem?_eq_getElem hj',h1.trans hys⟩
end
end lift
namespace record

open Go.RowKit base obj mem crc num bytes plan
def fieldCells (R:Nat) (ks:List Nat):List Value:=(List.range ks.length).flatMap fun i=>[.pointer (some ⟨R,i,none⟩),.int .i64 (ks.getD i 0:Nat)]
theorem fields_at (w:World) (R:Nat):Calls Tryz.prog 135 #[.pointer (some ⟨R,0,none⟩)] w fun e w'=>∃F,e=.returned (.slice (some ⟨F,0,none⟩) 6 6)∧w.heap.size≤F∧Row w' F 251 (fieldCells R [1,4,1,1,1,1])∧Below w.heap.size w w':=by
 go_enter Tryz.func135,Tryz.ntmps135
 go_wp2_with (fail)
 go_region
 go_wp2_with (fail)
 go_ret
 exact ⟨w.heap.size,rfl,Nat.le_refl _,(Row.new w _ _).drew,((Below.refl w.heap.size w).alloc (Nat.le_refl _) _).drew⟩
theorem own_drew {w:World} {base:Nat} {e:TypeId} {size:Nat} {v:Value} {n:Nat} {xs:List Value} (h:w.ownsRow base e size v n xs):w.drew.ownsRow base e size v n xs:=h
theorem own_base {w:World} {B B':Nat} {e:TypeId} {size:Nat} {v:Value} {n:Nat} {xs:List Value} (h:w.ownsRow B e size v n xs) (hb:B'≤B):w.ownsRow B' e size v n xs:=by
 obtain ⟨h1,h2⟩:=h
 refine ⟨h1,?_⟩
 rcases h2 with hz|⟨g,cap,cur,rfl,hg,rest⟩
 ·exact .inl hz
 ·exact .inr ⟨g,cap,cur,rfl,Nat.le_trans hb hg,rest⟩
def pre (mark:Nat) (ks vs:List Nat) (j:Nat):List Int:=be 2 mark++(List.range j).flatMap fun i=>be (ks.getD i 0) (vs.getD i 0)
theorem pre_succ (mark:Nat) (ks vs:List Nat) (j:Nat):pre mark ks vs (j+1)=pre mark ks vs j++be (ks.getD j 0) (vs.getD j 0):=by
 unfold pre
 rw [List.range_succ,List.flatMap_append,List.append_assoc]
 simp
theorem pre_byt (mark:Nat) (ks vs:List Nat) (j:Nat):Byt (pre mark ks vs j):=by
 intro z hz
 rcases List.mem_append.1 hz with h|h
 ·exact be_byt _ _ z h
 ·obtain ⟨i,_,h⟩:=List.mem_flatMap.1 h
  exact be_byt _ _ z h
theorem pre_mono (mark:Nat) (ks vs:List Nat) (j m:Nat) (h:j≤m):(pre mark ks vs j).length≤(pre mark ks vs m).length:=by
 induction m with
 | zero=>have:j=0:=by omega
         subst this;exact Nat.le_refl _
 | succ m ih =>
   rcases Nat.lt_or_ge j (m+1) with h'|h'
   ·rw [pre_succ,List.length_append]
    have:=ih (by omega)
    omega
   ·have:j=m+1:=by omega
    subst this;exact Nat.le_refl _
def sealB (p:List Int):List Int:=p++be 4 (sum p)++List.replicate (60-p.length) 0
theorem fieldCells_get (R:Nat) (ks:List Nat) (k:Nat) (hk:k < ks.length):(fieldCells R ks)[k*2]?=some (.pointer (some ⟨R,k,none⟩))∧(fieldCells R ks)[k*2+1]?=some (.int .i64 (ks.getD k 0:Nat)):=by
 have h:=lift.flat_get (fun i=>[Value.pointer (some ⟨R,i,none⟩),.int .i64 (ks.getD i 0:Nat)]) 2 (by decide) ks.length (fun i _=>rfl)
 exact ⟨h.2 k 0 hk (by decide),h.2 k 1 hk (by decide)⟩
structure Fl (w:World) (R F:Nat) (T:TypeId) (ks vs:List Nat):Prop where
 row:Row w F T (fieldCells R ks)
 cell:∀i,i < ks.length→w.cell? ⟨R,i,none⟩=some (.int .i64 (vs.getD i 0:Nat))
 wide:∀i,i < ks.length→1≤ks.getD i 0∧ks.getD i 0≤6∧vs.getD i 0 < 256 ^ ks.getD i 0
theorem Fl.lt {w:World} {R F:Nat} {T:TypeId} {ks vs:List Nat} (h:Fl w R F T ks vs) (h0:0 < ks.length):R < w.heap.size∧F < w.heap.size:=⟨World.block_lt_of_cell? w _ (h.cell 0 h0),h.row.lt⟩
theorem Fl.below {w w':World} {R F:Nat} {T:TypeId} {ks vs:List Nat} (h:Fl w R F T ks vs) (k:Below w.heap.size w w'):Fl w' R F T ks vs:=⟨h.row.below k h.row.lt,fun i hi=>cell_below k (h.cell i hi),h.wide⟩
theorem sealed_at (w:World) (R F:Nat) (T:TypeId) (ks vs:List Nat) (n:Nat) (hn:ks.length=n) (h0:0 < n) (hF:Fl w R F T ks vs) (mark:Nat) (hm:mark < 65536) (hl:(pre mark ks vs n).length≤59) :
  Calls Tryz.prog 134 #[.int .i64 mark,.slice (some ⟨F,0,none⟩) n n] w fun e w'=>∃v,e=.returned v∧w'.ownsRow w.heap.size 5 1 v 64 ((sealB (pre mark ks vs n)).map (.int .u8))∧Below w.heap.size w w':=by
 have HP:=Lib.hid (put_at w none 0 0 [] (Sl.nil_ w _ _) (by simp) (by omega) mark 2 (by omega) (by omega) hm)
 have HF:=Lib.hid hF;have HN:=Lib.hid hn;have HL:=Lib.hid hl
 clear hF hn hl
 have hn60:n≤60:=by
  have h1:∀j,j≤n→j≤(pre mark ks vs j).length:=by
   intro j
   induction j with
   | zero=>intro _;exact Nat.zero_le _
   | succ j ih =>
     intro hj
     rw [pre_succ,List.length_append,be_length]
     have h2:=(HF.out.wide j (by rw [HN.out];omega)).1
     have:=ih (by omega)
     omega
  have h3:=h1 n (Nat.le_refl _)
  have:=HL.out
  omega
 go_enter Tryz.func134,Tryz.ntmps134
 go_wp2_with (fail)
 refine HP.out.mono ?_;rintro e w1 ⟨v,rfl,ho,hb⟩
 have HO:=Lib.hid (show w1.ownsRow w.heap.size 5 1 v (pre mark ks vs 0).length ((pre mark ks vs 0).map (.int .u8)) by simpa [pre,be_length] using ho)
 have HB:=Lib.hid hb
 clear ho hb HP
 go_wp2_with (fail)
 go_loopw [12,5] (fun i v wr=>∃k:Nat,k≤n∧i=.int .i64 k∧wr.ownsRow w.heap.size 5 1 v (pre mark ks vs k).length ((pre mark ks vs k).map (.int .u8))∧Below w.heap.size w wr) (fun i _ _=>n-(intOf i).toNat)
 case atStart=>exact ⟨0,by omega,rfl,HO.out,HB.out⟩
 case round =>
  clear HO HB
  obtain ⟨k,hk,rfl,ho,hb⟩:=hrel
  have HO:=Lib.hid ho;have HB:=Lib.hid hb
  clear ho hb
  by_cases hlt:k < n
  ·have hkl:k < ks.length:=by rw [HN.out];exact hlt
   obtain ⟨g1,g2⟩:=fieldCells_get R ks k hkl
   have hF2:=HF.out.below HB.out
   have c1:=(hF2.row.cell (k*2)).trans g1
   have c2:=(hF2.row.cell (k*2+1)).trans g2
   have c3:=hF2.cell k hkl
   obtain ⟨k1,k6,kv⟩:=HF.out.wide k hkl
   have HPS:=Lib.hid (pre_succ mark ks vs k)
   have hpl:(pre mark ks vs (k+1)).length≤59:=Nat.le_trans (pre_mono mark ks vs (k+1) n hlt) HL.out
   obtain ⟨A,c,e2,hc,_⟩:=own_form HO.out
   subst e2
   have HPL:=Lib.hid hpl
   generalize ks.getD k 0=q at *
   generalize vs.getD k 0=x at *
   have hlF:=hF2.row.lt
   have hlR:=(hF2.lt (by rw [HN.out];omega)).1
   have HKV:=Lib.hid kv
   have i0:(0:Int)≤(k:Int):=by omega
   have i1:(k:Int) < (n:Int):=by omega
   clear hpl g1 g2 hF2 kv
   go_wp2_with (fail)
   have HB2:=Lib.hid ((HB.out.alloc HB.out.size (.cells #[.pointer (some ⟨R,k,none⟩),.int .i64 q] 250)).drew)
   have HO2:=Lib.hid (own_drew (HO.out.alloc (.cells #[.pointer (some ⟨R,k,none⟩),.int .i64 q] 250)))
   refine wp_region_plan [0,1,5,2,3,4,6] [[7,8]] (by kernel_rfl) (by kernel_rfl) (fun _ _ _ _ _ h=>h) ?_
   simp only [forks,pick,xGs,xGz,xGo]
   iterate 7 still_step
   refine wpStill_nil ?_
   go_wp2_with (fail)
   refine (put_at _ A _ c _ (Sl.of_own HO2.out) (map_one _) (by have:=HL.out;have:=pre_mono mark ks vs k n hk;omega) x q k1 k6 HKV.out).mono ?_
   rintro e w5 ⟨v5,rfl,ho5,hb5⟩
   have HO5:=Lib.hid (show w5.ownsRow w.heap.size 5 1 v5 (pre mark ks vs (k+1)).length ((pre mark ks vs (k+1)).map (.int .u8)) by
    rw [HPS.out,List.length_append,be_length,List.map_append]
    exact own_base ho5 HB2.out.size)
   have HB5:=Lib.hid (HB2.out.trans (hb5.mono HB2.out.size))
   clear ho5 hb5
   go_wp2_with (fail)
   go_roundw
   case rel=>exact ⟨k+1,by omega,by go_num,HO5.out,HB5.out⟩
   case measure=>simp [intOf];omega
  ·have hkn:k=n:=by omega
   have hlt':¬(k:Int) < (n:Int):=by omega
   have HK:=Lib.hid hkn
   obtain ⟨A,c,e2,hc,_⟩:=own_form HO.out
   subst e2
   have HLK:=Lib.hid (show (pre mark ks vs k).length≤59 by rw [HK.out];exact HL.out)
   clear hkn
   have HPB:=Lib.hid (pre_byt mark ks vs k)
   have HSB:=Lib.hid (show sealB (pre mark ks vs n)=sealB (pre mark ks vs k) by rw [HK.out])
   generalize pre mark ks vs k=p at *
   generalize hpl:p.length=l at *
   have HPL:=Lib.hid hpl
   clear hpl
   go_wp2_with (fail)
   refine (make_at _).mono ?_
   rintro e w2 ⟨g,rfl,hg,hrow,hb2⟩
   have HO2:=Lib.hid (own_below HO.out hb2);have HB2:=Lib.hid (HB.out.trans (hb2.mono HB.out.size));have HR2:=Lib.hid hrow
   clear hg hrow hb2
   go_wp2_with (fail)
   refine (sum_at _ g HR2.out A l c p HPL.out (by have:=HLK.out;omega) HPB.out (Sl.of_own HO2.out)).mono ?_
   rintro e w3 ⟨rfl,rfl⟩
   have HS32:=Lib.hid (sum_lt (bs:=p))
   obtain ⟨sm,hsm⟩:∃sm,sm=sum p:=⟨_,rfl⟩
   rw [←hsm] at HS32 ⊢
   have HSM:=Lib.hid hsm
   clear hsm
   have cv:IntKind.i64.wrap (sm:Int)=(sm:Int):=by have:=HS32.out;rw [IntKind.wrap_i64];omega
   go_wp2_with (fail)
   refine (put_at _ A l c _ (Sl.of_own HO2.out) (map_one _) (by have:=HLK.out;omega) sm 4 (by omega) (by omega) (Nat.lt_of_lt_of_le HS32.out (by decide))).mono ?_
   rintro e w4 ⟨v4,rfl,ho4,hb4⟩
   have HO4:=Lib.hid (own_base ho4 HB2.out.size);have HB4:=Lib.hid (HB2.out.trans (hb4.mono HB2.out.size))
   obtain ⟨A4,c4,e4,hc4,_⟩:=own_form ho4
   subst e4
   clear ho4 hb4
   have hl59:l≤59:=HLK.out
   have hsub:(64:Int)-((l:Int)+4)=((60-l:Nat):Int):=by omega
   go_wp2_with (refine app_zeros rfl (.tmp 31) (.tmp 34) rfl HO4.out rfl rfl (by omega) (by omega) (by omega) HB4.out.size ?_;intro v' w' ho' hg';have HO':=Lib.hid ho';have HB':=Lib.hid (below_own HB4.out HO4.out hg' HB4.out.size);clear ho' hg')
   go_ret
   refine ⟨v',rfl,?_,HB'.out⟩
   have h:=HO'.out
   rw [show l+4+(60-l)=64 by omega] at h
   rw [HSB.out,sealB,List.map_append,List.map_append,HPL.out,←HSM.out,List.map_replicate]
   exact h
def Rec.nums (r:Rec):List Nat:=[r.part.toNat,r.seq.toNat,r.active.toNat,r.confirmed.toNat,r.left.toNat,r.bad.toNat]
abbrev recWidths:List Nat:=[1,4,1,1,1,1]
def Rec.head (r:Rec):List Int:=pre 19523 recWidths r.nums 6
def Rec.bytes (r:Rec):List Int:=sealB r.head
theorem Rec.head_length (r:Rec):r.head.length=11:=by
 simp [Rec.head,pre,be_length,List.range_succ]
theorem rec_fl {w:World} {R F:Nat} {r:Rec} (hr:Row w R 35 r.cells.toList) (hF:Row w F 251 (fieldCells R recWidths)) (h:r.right=true):Fl w R F 251 recWidths r.nums:=by
 obtain ⟨part,seq,active,confirmed,left,bad⟩:=r
 simp [Rec.right] at h
 obtain ⟨⟨⟨⟨⟨⟨⟨h1,h2⟩,h3⟩,h4⟩,h5⟩,_⟩,h7⟩,_⟩:=h
 have e:∀(x:Int),0≤x→((x.toNat:Nat):Int)=x:=fun x hx=>by omega
 refine ⟨hF,fun i hi=>?_,fun i hi=>?_⟩
 ·have hi6:i=0∨i=1∨i=2∨i=3∨i=4∨i=5:=by simp at hi;omega
  rcases hi6 with rfl|rfl|rfl|rfl|rfl|rfl<;>refine (hr.cell _).trans ?_<;>simp [Rec.cells,Rec.nums]<;>omega
 ·have hi6:i=0∨i=1∨i=2∨i=3∨i=4∨i=5:=by simp at hi;omega
  rcases hi6 with rfl|rfl|rfl|rfl|rfl|rfl<;>simp [Rec.nums]<;>omega
theorem put_rec (r:Rec) (w:World) (h:r.right=true):Calls Tryz.prog 86 #[r.val] w fun e w'=>∃v,e=.returned (.tuple #[v,.int .i64 0])∧w'.ownsRow w.heap.size 5 1 v 64 (r.bytes.map (.int .u8))∧Below w.heap.size w w':=by
 have H:=Lib.hid h
 have HR0:=Lib.hid (Row.new w 35 r.cells)
 have HB0:=Lib.hid ((Below.refl w.heap.size w).alloc (Nat.le_refl _) (.cells r.cells 35))
 have HA:=Lib.hid (right_at r)
 clear h
 unfold Rec.val Rec.cells at *
 go_enter Tryz.func86,Tryz.ntmps86
 go_wp2_with (fail)
 refine (HA.out _).mono ?_
 rintro e w1 ⟨rfl,hb⟩
 rw [H.out]
 have HB1:=Lib.hid (HB0.out.trans (hb.mono (by simp)))
 have HR1:=Lib.hid (HR0.out.below hb (by simp))
 clear hb
 go_wp2_with (fail)
 refine (fields_at _ _).mono ?_
 rintro e w2 ⟨F,rfl,hF,hrow,hb⟩
 have HB2:=Lib.hid (HB1.out.trans (hb.mono HB1.out.size))
 have HR2:=Lib.hid (HR1.out.below hb HR1.out.lt)
 have HF2:=Lib.hid hrow
 clear hb hrow hF
 go_wp2_with (fail)
 refine (sealed_at _ w.heap.size F 251 recWidths r.nums 6 rfl (by omega) (rec_fl HR2.out HF2.out H.out) 19523 (by decide) (by have:=r.head_length;unfold Rec.head at this;omega)).mono ?_
 rintro e w3 ⟨v,rfl,ho,hb⟩
 have HO:=Lib.hid (own_base ho HB2.out.size)
 have HB3:=Lib.hid (HB2.out.trans (hb.mono HB2.out.size))
 clear ho hb
 go_wp2_with (fail)
 go_ret2
 exact ⟨v,rfl,HO.out,HB3.out⟩
theorem put_bad (r:Rec) (w:World) (h:r.right=false):Calls Tryz.prog 86 #[r.val] w fun e w'=>e=.returned (.tuple #[.slice none 0 0,.int .i64 3])∧Below w.heap.size w w':=by
 have H:=Lib.hid h
 have HB0:=Lib.hid ((Below.refl w.heap.size w).alloc (Nat.le_refl _) (.cells r.cells 35))
 have HA:=Lib.hid (right_at r)
 clear h
 unfold Rec.val Rec.cells at *
 go_enter Tryz.func86,Tryz.ntmps86
 go_wp2_with (fail)
 refine (HA.out _).mono ?_
 rintro e w1 ⟨rfl,hb⟩
 rw [H.out]
 have HB1:=Lib.hid (HB0.out.trans (hb.mono (by simp)))
 clear hb
 go_wp2_with (fail)
 go_ret2
 exact ⟨rfl,HB1.out⟩
end record
namespace record

open Go.RowKit base obj mem crc num bytes plan
def offs (ks:List Nat) (i:Nat):Nat:=2+(ks.take i).sum
theorem offs_succ (ks:List Nat) (i:Nat) (h:i < ks.length):offs ks (i+1)=offs ks i+ks.getD i 0:=by
 unfold offs
 rw [List.take_succ_eq_append_getElem h,List.sum_append]
 simp [List.getD,h]
 omega
theorem offs_mono (ks:List Nat) (i n:Nat) (h:i≤n) (hn:n≤ks.length):offs ks i≤offs ks n:=by
 induction n with
 | zero=>have:i=0:=by omega
         subst this;exact Nat.le_refl _
 | succ n ih =>
   rcases Nat.lt_or_ge i (n+1) with h'|h'
   ·rw [offs_succ ks n (by omega)]
    have:=ih (by omega) (by omega)
    omega
   ·have:i=n+1:=by omega
    subst this;exact Nat.le_refl _
def got (ks:List Nat) (bs:List Int) (i:Nat):Nat:=val ((bs.drop (offs ks i)).take (ks.getD i 0))
def openE (mark N:Nat) (bs:List Int):Int:=if val (bs.take 2)=mark∧bs.drop (N+4)=List.replicate (60-N) 0 then (if val ((bs.drop N).take 4)=sum (bs.take N) then 0 else 10) else 2
def gotCells (ks:List Nat) (bs:List Int) (k:Nat) (c0:List Value):List Value:=(List.range k).map (fun i=>Value.int .i64 (got ks bs i:Nat))++c0.drop k
theorem gotCells_set (ks:List Nat) (bs:List Int) (k:Nat) (c0:List Value) (hk:k < c0.length):(gotCells ks bs k c0).set k (.int .i64 (got ks bs k:Nat))=gotCells ks bs (k+1) c0:=by
 unfold gotCells
 rw [List.set_append_right _ _ (by simp),List.range_succ,List.map_append,List.append_assoc]
 congr 1
 simp only [List.length_map,List.length_range,Nat.sub_self]
 rw [List.drop_eq_getElem_cons hk]
 rfl
theorem gotCells_length (ks:List Nat) (bs:List Int) (k:Nat) (c0:List Value) (hk:k≤c0.length):(gotCells ks bs k c0).length=c0.length:=by simp [gotCells];omega
theorem gotCells_get (ks:List Nat) (bs:List Int) (k:Nat) (c0:List Value) (hk:k < c0.length):∃v,(gotCells ks bs k c0)[k]?=some v:=⟨_,List.getElem?_eq_getElem (by rw [gotCells_length _ _ _ _ (by omega)];exact hk)⟩
theorem drop_byt {bs:List Int} (h:Byt bs) (k:Nat):Byt (bs.drop k):=fun z hz=>h z (List.mem_of_mem_drop hz)
theorem take_byt {bs:List Int} (h:Byt bs) (k:Nat):Byt (bs.take k):=fun z hz=>h z (List.mem_of_mem_take hz)
structure OpenIn (w:World) (R F:Nat) (T TR:TypeId) (ks:List Nat) (c0:List Value) (A:Option Addr) (bs:List Int) (wr:World) (Q k:Nat):Prop where
 rd:Rd wr w.heap.size Q (bs.drop (offs ks k))
 row:Row wr R TR (gotCells ks bs k c0)
 fl:Row wr F T (fieldCells R ks)
 sl:Sl wr R 1 A 64 (bs.map (.int .u8))
 kept:Kept (fun i=>i=R) w wr
theorem OpenIn.below {w:World} {R F:Nat} {T TR:TypeId} {ks:List Nat} {c0:List Value} {A:Option Addr} {bs:List Int} {wr w':World} {Q k:Nat} (h:OpenIn w R F T TR ks c0 A bs wr Q k) (b:Below wr.heap.size wr w'):OpenIn w R F T TR ks c0 A bs w' Q k :=
 ⟨h.rd.below b,h.row.below b h.row.lt,h.fl.below b h.fl.lt,h.sl.below (b.mono (Nat.le_of_lt h.row.lt)),h.kept.trans (Kept.of_below b (fun i=>i=R)) (fun _ h=>h) (fun _ h _=>h)⟩
theorem open_step {w:World} {R F:Nat} {T TR:TypeId} {ks:List Nat} {c0:List Value} {A:Option Addr} {bs:List Int} {w4 w5:World} {Q k q ok:Nat} (h:OpenIn w R F T TR ks c0 A bs w4 Q k)
  (hrd:Rd w5 w.heap.size Q ((bs.drop (offs ks k)).drop q)) (hk:Kept (fun i=>i=Q) w4 w5) (hR:R < w.heap.size) (hF:F < w.heap.size) (hne:F≠R) (hkc:k < c0.length) (ho:offs ks (k+1)=ok+q) (hok:offs ks k=ok) (hq:ks.getD k 0=q) :
  OpenIn w R F T TR ks c0 A bs (w5.setCell ⟨R,k,none⟩ (.int .i64 (got ks bs k:Nat))) Q (k+1):=by
 have hQ:=hrd.base
 refine ⟨?_,?_,?_,?_,?_⟩
 ·rw [ho]
  rw [List.drop_drop,hok] at hrd
  exact hrd.keep fun i h1 h2=>Below.heap_setCell w5 ⟨R,k,none⟩ _ i (show i≠R by omega)
 ·rw [←gotCells_set ks bs k c0 hkc]
  exact (h.row.kept hk (fun e=>by have:R=Q:=e;omega)).setCell k _
 ·exact (h.fl.kept hk (fun e=>by have:F=Q:=e;omega)).setCell_other (p:=⟨R,k,none⟩) hne _
 ·have s5:Sl w5 R 1 A 64 (bs.map (.int .u8)):=h.sl.below (hk.below (Nat.le_of_lt h.row.lt) (fun i hi e=>by have:i=Q:=e;omega))
  exact s5.below ((Below.refl R w5).setCell (p:=⟨R,k,none⟩) (Nat.le_refl _) _)
 ·exact (h.kept.trans hk (fun _ h=>h) (fun i h hi=>by have:i=Q:=h;omega)).setCell (p:=⟨R,k,none⟩) (.inl rfl) _
theorem left_m {w:World} {B R:Nat} {bs:List Int} (h:Rd w B R bs) {m:Nat} (hm:bs.length=m):Calls Tryz.prog 196 #[.pointer (some ⟨R,0,none⟩)] w fun e w'=>e=.returned (.int .i64 m)∧w'=w:=by
 subst hm;exact left_at h
structure OpenAt (w:World) (R:Nat) (TR:TypeId) (cs:List Value) (A:Option Addr) (bs:List Int) (wr:World) (Q:Nat) (rest:List Int):Prop where
 rd:Rd wr w.heap.size Q rest
 row:Row wr R TR cs
 sl:Sl wr R 1 A 64 (bs.map (.int .u8))
 kept:Kept (fun i=>i=R) w wr
theorem OpenAt.below {w:World} {R:Nat} {TR:TypeId} {cs:List Value} {A:Option Addr} {bs:List Int} {wr w':World} {Q:Nat} {rest:List Int} (h:OpenAt w R TR cs A bs wr Q rest) (b:Below wr.heap.size wr w'):OpenAt w R TR cs A bs w' Q rest :=
 ⟨h.rd.below b,h.row.below b h.row.lt,h.sl.below (b.mono (Nat.le_of_lt h.row.lt)),h.kept.trans (Kept.of_below b (fun i=>i=R)) (fun _ h=>h) (fun _ h _=>h)⟩
theorem zero_row (w:World) (m:Nat):Row (w.alloc (.cells (Array.replicate m (Value.int .u8 0)) 5)) w.heap.size 5 ((List.replicate m (0:Int)).map (.int .u8)):=by
 have h:=Row.new w 5 (Array.replicate m (Value.int .u8 0))
 rwa [show (Array.replicate m (Value.int .u8 0)).toList=(List.replicate m (0:Int)).map (.int .u8) by simp] at h
theorem byte_sl {w:World} {b n:Nat} {t:TypeId} {l:List Int} (h:Row w b t (l.map (.int .u8))) (hl:l.length=n):Sl w w.heap.size 1 (some ⟨b,0,none⟩) n (l.map (.int .u8)) :=
 h.sl h.lt (by rw [Nat.mul_one,List.drop_zero,List.take_of_length_le (by simp [hl])]) (by simp [hl])
theorem _root_.Go.Proofs.YtdldkkoplgkloaaGreat.obj.Kept.undrew {S:Nat→Prop} {a b:World} (h:Kept S a.drew b):Kept S a b:=⟨h.os,h.tape,h.output,h.size,h.block⟩
theorem _root_.Go.Proofs.YtdldkkoplgkloaaGreat.obj.Kept.unalloc {S:Nat→Prop} {a b:World} {o:Obj} (h:Kept S (a.alloc o).drew b):Kept S a b :=
 ((Kept.refl S a).alloc o).trans h.undrew (fun _ h=>h) (fun _ h _=>h)
theorem OpenAt.zeros {w:World} {R:Nat} {TR:TypeId} {cs:List Value} {A:Option Addr} {bs:List Int} {wr:World} {Q:Nat} {rest:List Int} (h:OpenAt w R TR cs A bs wr Q rest) {w':World} {m:Nat} (k:Kept (fun i=>i=Q) (wr.alloc (.cells (Array.replicate m (Value.int .u8 0)) 5)) w'):Row w' wr.heap.size 5 ((List.replicate m (0:Int)).map (.int .u8)) :=
 (zero_row wr m).kept k (fun e=>by have:=h.rd.lt;have:wr.heap.size=Q:=e;omega)
theorem OpenAt.fin' {w:World} {R:Nat} {TR:TypeId} {cs:List Value} {A:Option Addr} {bs:List Int} {wr:World} {Q:Nat} {rest:List Int} (h:OpenAt w R TR cs A bs wr Q rest) (hR:R < w.heap.size) {w':World} (k:Kept (fun i=>i=Q) wr w'):Row w' R TR cs∧Sl w' R 1 A 64 (bs.map (.int .u8))∧Kept (fun i=>i=R) w w':=by
 have hQ:=h.rd.base
 exact ⟨h.row.kept k (fun e=>by have:R=Q:=e;omega),h.sl.below (k.below (Nat.le_of_lt h.row.lt) (fun i hi e=>by have:i=Q:=e;omega)),h.kept.trans k (fun _ h=>h) (fun i h hi=>by have:i=Q:=h;omega)⟩
end record
namespace record

open Go.RowKit base obj mem crc num bytes plan
theorem opened_at (w:World) (R F:Nat) (T TR:TypeId) (ks:List Nat) (n:Nat) (hn:ks.length=n) (h0:0 < n) (c0:List Value) (hc0:c0.length=n) (hR:Row w R TR c0) (hF:Row w F T (fieldCells R ks)) (hne:F≠R)
  (hw:∀i,i < n→1≤ks.getD i 0∧ks.getD i 0≤6) (A:Option Addr) (c:Nat) (bs:List Int) (hl:bs.length=64) (hby:Byt bs) (hs:Sl w R 1 A 64 (bs.map (.int .u8))) (hc:64≤c) (N:Nat) (hN:offs ks n=N) (hN59:N≤59) (mark:Nat) (hm:mark < 65536) :
  Calls Tryz.prog 167 #[.slice A 64 c,.int .i64 mark,.slice (some ⟨F,0,none⟩) n n] w fun e w'=>e=.returned (.int .i64 (openE mark N bs))∧Row w' R TR ((List.range n).map fun i=>.int .i64 (got ks bs i:Nat))∧Kept (fun i=>i=R) w w':=by
 have HRD:=Lib.hid (read_at w A 64 c bs hl (hs.more (Nat.le_of_lt hR.lt)) (by omega))
 have HN:=Lib.hid hn;have HC0:=Lib.hid hc0;have HR:=Lib.hid hR;have HF:=Lib.hid hF;have HNE:=Lib.hid hne;have HWD:=Lib.hid hw;have HL:=Lib.hid hl;have HBY:=Lib.hid hby;have HS:=Lib.hid hs;have HNN:=Lib.hid hN
 have hn60:n≤60:=by
  have h1:∀j,j≤n→j≤offs ks j:=by
   intro j
   induction j with
   | zero=>intro _;exact Nat.zero_le _
   | succ j ih =>
     intro hj
     rw [offs_succ ks j (by omega)]
     have:=(hw j (by omega)).1
     have:=ih (by omega)
     omega
  have h3:=h1 n (Nat.le_refl _)
  omega
 clear hn hc0 hR hF hne hw hl hby hs hN
 go_enter Tryz.func167,Tryz.ntmps167
 go_wp2_with (fail)
 refine HRD.out.mono ?_;rintro e w1 ⟨Q,rfl,hrd,hb⟩
 have HI0:=Lib.hid (And.intro hrd hb)
 clear hrd hb HRD
 go_wp2_with (fail)
 refine (num_at HI0.out.1 2 (by omega) (by omega) (by rw [HL.out];omega) (by rw [HL.out];omega) HBY.out).mono ?_
 rintro e w2 ⟨rfl,hrd,hk⟩
 have hQ:w.heap.size≤Q:=HI0.out.1.base
 have HI:=Lib.hid (OpenIn.mk (w:=w) (R:=R) (F:=F) (T:=T) (TR:=TR) (ks:=ks) (c0:=c0) (A:=A) (bs:=bs) (wr:=w2) (Q:=Q) (k:=0) hrd
  ((HR.out.below HI0.out.2 HR.out.lt).kept hk (fun e=>by have:=HR.out.lt;omega)) ((HF.out.below HI0.out.2 HF.out.lt).kept hk (fun e=>by have:=HF.out.lt;omega))
  ((HS.out.below (HI0.out.2.mono (Nat.le_of_lt HR.out.lt))).below (hk.below (Nat.le_trans (Nat.le_of_lt HR.out.lt) HI0.out.2.size) (fun i hi e=>by have:=HR.out.lt;have:i=Q:=e;omega)))
  ((Kept.of_below HI0.out.2 (fun i=>i=R)).trans hk (fun _ h=>h) (fun i h hi=>by have:i=Q:=h;omega)))
 clear hrd hk HI0
 obtain ⟨bg,hbg⟩:∃bg:Bool,bg=decide (val (bs.take 2)=mark):=⟨_,rfl⟩
 have hb2:(((val (bs.take 2):Nat):Int)==(mark:Int))=bg:=by
  rw [hbg]
  exact Bool.eq_iff_iff.2 (by rw [beq_iff_eq,decide_eq_true_iff];omega)
 have HBG:=Lib.hid hbg
 clear hbg
 go_wp2_with (fail)
 go_loopw [24,9] (fun i m wr=>∃k:Nat,k≤n∧i=.int .i64 k∧m=.int .i64 (offs ks k:Nat)∧OpenIn w R F T TR ks c0 A bs wr Q k) (fun i _ _=>n-(intOf i).toNat)
 case atStart=>exact ⟨0,by omega,rfl,rfl,HI.out⟩
 case round =>
  clear HI
  obtain ⟨k,hk,rfl,rfl,hi⟩:=hrel
  have HI:=Lib.hid hi
  clear hi
  by_cases hlt:k < n
  ·
   have hkl:k < ks.length:=by rw [HN.out];exact hlt
   have hkc:k < c0.length:=by rw [HC0.out];exact hlt
   obtain ⟨g1,g2⟩:=fieldCells_get R ks k hkl
   have c1:=(HI.out.fl.cell (k*2)).trans g1
   have c2:=(HI.out.fl.cell (k*2+1)).trans g2
   obtain ⟨k1,k6⟩:=HWD.out k hlt
   have HOS:=Lib.hid (offs_succ ks k hkl)
   have hom:offs ks k+ks.getD k 0≤59:=by rw [←HOS.out];exact Nat.le_trans (offs_mono ks (k+1) n hlt (by rw [HN.out];exact Nat.le_refl _)) (by rw [HNN.out];exact hN59)
   have HGOT:=Lib.hid (show got ks bs k=val ((bs.drop (offs ks k)).take (ks.getD k 0)) from rfl)
   have hlF:=HI.out.fl.lt
   have hlR:=HI.out.row.lt
   generalize hq:ks.getD k 0=q at *
   generalize hok:offs ks k=ok at *
   have HQ:=Lib.hid hq;have HOK:=Lib.hid hok;have HOM:=Lib.hid hom
   have i0:(0:Int)≤(k:Int):=by omega
   have i1:(k:Int) < (n:Int):=by omega
   clear g1 g2 hq hok hom
   go_wp2_with (fail)
   have HI2:=Lib.hid (HI.out.below (((Below.refl wr.heap.size wr).alloc (Nat.le_refl _) (.cells #[.pointer (some ⟨R,k,none⟩),.int .i64 q] 250)).drew))
   refine wp_region_plan [0,2,3,4] [[1,5,6,7],[5,1,6,7]] (by kernel_rfl) (by kernel_rfl) (fun _ _ _ _ _ h=>h) ?_
   simp only [forks,pick,xGs,xGz,xGo]
   iterate 4 still_step
   refine wpStill_nil ?_
   refine ⟨?_,?_⟩
   all_goals
    go_wp2_with (fail)
    refine (num_at HI2.out.rd q k1 k6 (by rw [List.length_drop,HL.out];have:=HOM.out;rw [HOK.out];omega) (by rw [List.length_drop,HL.out];omega) (drop_byt HBY.out _)).mono ?_
    rintro e w5 ⟨rfl,hrd,hk5⟩
    have hl0:R < w.heap.size:=HR.out.lt
    have HX:=Lib.hid (open_step HI2.out hrd hk5 hl0 HF.out.lt HNE.out hkc HOS.out HOK.out HQ.out)
    obtain ⟨v0,hv0⟩:=gotCells_get ks bs k c0 hkc
    have hr5:Row w5 R TR (gotCells ks bs k c0):=HI2.out.row.kept hk5 (fun e=>by have:R=Q:=e;omega)
    have c5:=(hr5.cell k).trans hv0
    have f5:=hr5.frozen k
    have hb5:w5.heap[wr.heap.size]?=some (.cells #[.pointer (some ⟨R,k,none⟩),.int .i64 q] 250 (0,0)):=(hk5.block wr.heap.size (by simp) (fun e=>by have:wr.heap.size=Q:=e;have:=HI.out.rd.lt;omega)).trans (heap_alloc_new _ _)
    have d0:w5.cell? ⟨wr.heap.size,0,none⟩=some (.pointer (some ⟨R,k,none⟩)):=by simp [World.cell?,hb5]
    have d1:w5.cell? ⟨wr.heap.size,1,none⟩=some (.int .i64 q):=by simp [World.cell?,hb5]
    have hsz5:wr.heap.size < w5.heap.size:=by have:=hk5.size;simp at this;omega
    rw [HOK.out,←HGOT.out]
    generalize got ks bs k=gv at HX ⊢
    have hom:=HOM.out
    clear hrd hk5 hr5 hv0 hb5
    go_wp2_with (fail)
    go_roundw
    case rel=>exact ⟨k+1,by omega,by go_num,by rw [HOS.out];rfl,HX.out⟩
    case measure=>simp [intOf];omega
  ·have hkn:k=n:=by omega
   have hlt':¬(k:Int) < (n:Int):=by omega
   have HOK:=Lib.hid (show offs ks k=N by rw [hkn];exact HNN.out)
   have HFC:=Lib.hid (show gotCells ks bs k c0=(List.range n).map (fun i=>Value.int .i64 (got ks bs i:Nat)) by rw [hkn];unfold gotCells;rw [List.drop_of_length_le (by rw [HC0.out];exact Nat.le_refl _),List.append_nil])
   clear hkn
   go_wp2_with (fail)
   refine (num_at HI.out.rd 4 (by omega) (by omega) (by rw [List.length_drop,HL.out,HOK.out];omega) (by rw [List.length_drop,HL.out];omega) (drop_byt HBY.out _)).mono ?_
   rintro e w5 ⟨rfl,hrd,hk5⟩
   rw [HOK.out,List.drop_drop] at hrd
   rw [HOK.out]
   have HD:=Lib.hid (OpenAt.mk (w:=w) (R:=R) (TR:=TR) (cs:=(List.range n).map (fun i=>Value.int .i64 (got ks bs i:Nat))) (A:=A) (bs:=bs) (wr:=w5) (Q:=Q) hrd
    (by rw [←HFC.out];exact HI.out.row.kept hk5 (fun e=>by have:=HR.out.lt;have:R=Q:=e;omega)) (HI.out.sl.below (hk5.below (Nat.le_of_lt HI.out.row.lt) (fun i hi e=>by have:=HR.out.lt;have:i=Q:=e;omega)))
    (HI.out.kept.trans hk5 (fun _ h=>h) (fun i h hi=>by have:i=Q:=h;omega)))
   clear hrd hk5 HI
   obtain ⟨rest,hrest⟩:∃rest,rest=bs.drop (N+4):=⟨_,rfl⟩
   obtain ⟨m,hm2⟩:∃m,m=60-N:=⟨_,rfl⟩
   obtain ⟨zb,hzb⟩:∃zb,zb=decide (rest=List.replicate m (0:Int)):=⟨_,rfl⟩
   have hrl:rest.length=m:=by rw [hrest,List.length_drop,HL.out,hm2];omega
   have hm1:1≤m:=by omega
   have hm0:0 < m:=by omega
   have hw1:IntKind.i64.wrap (64-(N:Int))=64-(N:Int):=by rw [IntKind.wrap_i64];omega
   have hw2:IntKind.i64.wrap (64-(N:Int)-4)=(m:Int):=by rw [IntKind.wrap_i64];omega
   have hmk:=make_eq m (by omega)
   have HD5:=Lib.hid (show OpenAt w R TR ((List.range n).map (fun i=>Value.int .i64 (got ks bs i:Nat))) A bs w5 Q rest by rw [hrest];exact HD.out)
   have HRB:=Lib.hid (show Byt rest by rw [hrest];exact drop_byt HBY.out _)
   have HRL:=Lib.hid hrl
   have HRE:=Lib.hid hrest
   have HM2:=Lib.hid hm2
   have HZ:=Lib.hid hzb
   have hm60:m≤60:=by omega
   have HZB:=Lib.hid (show Byt (List.replicate m (0:Int)) from fun z hz=>by rw [List.eq_of_mem_replicate hz];omega)
   clear hrl hrest hm2 HD hzb
   go_upto_region 13 with fail
   go_cut [42] (fun s wc=>s=.bool (!(bg&&zb))∧Row wc R TR ((List.range n).map (fun i=>Value.int .i64 (got ks bs i:Nat)))∧Sl wc R 1 A 64 (bs.map (.int .u8))∧Kept (fun i=>i=R) w wc)
   case first =>
    cases bg with
    | false =>
      go_region
      go_wp2_with (fail)
      go_meet
      exact ⟨by simp,HD5.out.row.drew,HD5.out.sl,HD5.out.kept.drew⟩
    | true =>
      go_region_law (first
       | (go_simp;(with_reducible refine (left_m (OpenAt.rd (HD5.out.below (by first|exact (Below.refl _ _).drew|exact ((Below.refl _ _).alloc (Nat.le_refl _) _).drew))) HRL.out).mono ?_);rintro e w6 ⟨rfl,rfl⟩;dsimp only)
       | (go_simp;(with_reducible refine (bytes_at (OpenAt.rd (HD5.out.below (by first|exact (Below.refl _ _).drew|exact ((Below.refl _ _).alloc (Nat.le_refl _) _).drew))) m hm1 (by rw [HRL.out];exact Nat.le_refl _) (by rw [HRL.out];omega)).mono ?_);rintro e w7 ⟨v7,rfl,ho7,hr7,hk7⟩;rw [List.take_of_length_le (by simp [HRL.out])] at ho7;obtain ⟨A7,c7,e7,_,_⟩:=own_form ho7;subst e7;have HO7:=Lib.hid ho7;have HK7:=Lib.hid hk7;clear ho7 hr7 hk7;dsimp only)
       | (go_simp;(with_reducible refine (equal_at _ _ _ m m _ _ rest (List.replicate m 0) HRL.out (by simp) hm0 hm0 HRB.out HZB.out (by first|exact Sl.of_own HO7.out|exact Sl.of_own (HO7.out.alloc _)) (by first|exact byte_sl (zero_row _ _) (by simp)|exact byte_sl (HD5.out.zeros HK7.out.undrew) (by simp))).mono ?_);rintro e w8 ⟨rfl,rfl⟩;rw [←HZ.out];dsimp only))
      all_goals
       go_wp2_with (fail)
       go_meet
       first
        | exact ⟨by simp,(HD5.out.fin' HR.out.lt HK7.out.undrew).1,(HD5.out.fin' HR.out.lt HK7.out.undrew).2.1,(HD5.out.fin' HR.out.lt HK7.out.undrew).2.2⟩
        | exact ⟨by simp,(HD5.out.fin' HR.out.lt (HK7.out.undrew.alloc _)).1,(HD5.out.fin' HR.out.lt (HK7.out.undrew.alloc _)).2.1,(HD5.out.fin' HR.out.lt (HK7.out.undrew.alloc _)).2.2⟩
        | exact ⟨by simp,(HD5.out.fin' HR.out.lt HK7.out.unalloc).1,(HD5.out.fin' HR.out.lt HK7.out.unalloc).2.1,(HD5.out.fin' HR.out.lt HK7.out.unalloc).2.2⟩
   case rest =>
    obtain ⟨rfl,hrow,hsl,hkept⟩:=hcut
    have HROW:=Lib.hid hrow;have HSL:=Lib.hid hsl;have HKP:=Lib.hid hkept
    clear hrow hsl hkept HD5
    cases hbz:(bg&&zb) with
    | false =>
      have HE:=Lib.hid (show openE mark N bs=2 by
       unfold openE
       rw [if_neg (fun h=>by
        have h1:=HBG.out;have h2:=HZ.out
        rw [←HRE.out,←HM2.out] at h
        simp [h.1,h.2] at h1 h2
        simp [h1,h2] at hbz)])
      go_wp2_with (fail)
      go_ret
      exact ⟨by rw [HE.out];rfl,HROW.out,HKP.out⟩
    | true =>
      have HE:=Lib.hid (show openE mark N bs=if val ((bs.drop N).take 4)=sum (bs.take N) then 0 else 10 by
       unfold openE
       rw [if_pos (by
        have h1:=HBG.out;have h2:=HZ.out
        simp at hbz
        rw [←HRE.out,←HM2.out]
        simp [hbz.1,hbz.2] at h1 h2
        exact ⟨h1,h2⟩)])
      clear hbz
      obtain ⟨sv,hsv⟩:∃sv,sv=val ((bs.drop N).take 4):=⟨_,rfl⟩
      obtain ⟨sm,hsm⟩:∃sm,sm=sum (bs.take N):=⟨_,rfl⟩
      rw [←hsv,←hsm] at HE
      rw [←hsv]
      have HSM:=Lib.hid hsm
      have HS32:=Lib.hid (show sm < 2 ^ 32 by rw [hsm];exact sum_lt)
      have HNS:=Lib.hid (show Sl wc R 1 A N ((bs.take N).map (.int .u8)) from ⟨by simp [HL.out];omega,fun hn=>by
       obtain ⟨b,off,e,hb,hcc⟩:=HSL.out.2 (by omega)
       exact ⟨b,off,e,hb,fun k u hu=>hcc k u (by
        rw [List.map_take,List.getElem?_take] at hu
        split at hu
        ·exact hu
        ·simp at hu)⟩⟩)
      clear hsv hsm
      have cv:IntKind.i64.wrap (sm:Int)=(sm:Int):=by have:=HS32.out;rw [IntKind.wrap_i64];omega
      have i0:(0:Int)≤(N:Int):=by omega
      have i1:(N:Int)≤(c:Int):=by omega
      have hRl:=HROW.out.lt
      have HB0:=Lib.hid (show Below wc.heap.size wc wc.drew from (Below.refl _ _).drew)
      obtain ⟨db,hdb⟩:∃db,db=decide (sv=sm):=⟨_,rfl⟩
      have e1:((sv:Int) != (sm:Int))=!db:=by
       rw [hdb,Bool.eq_iff_iff];simp;omega
      have e2:(sv != sm)=!db:=by
       rw [hdb,Bool.eq_iff_iff];simp
      have HDB:=Lib.hid hdb
      clear hdb
      cases db
      all_goals
       go_wp2_with (fail)
       refine wp_region_plan [0,2,3] [[1,4,5,6,7,8],[4,1,5,6,7,8]] (by kernel_rfl) (by kernel_rfl) (fun _ _ _ _ _ h=>h) ?_
       simp only [forks,pick,xGs,xGz,xGo]
       iterate 3 still_step
       refine wpStill_nil ?_
       refine ⟨?_,?_⟩
       all_goals
        go_wp2_with (fail)
        refine (make_at _).mono ?_
        rintro e w2 ⟨g,rfl,hg,hrow,hb2⟩
        have HB2:=Lib.hid (HB0.out.trans (hb2.mono HB0.out.size))
        have HG:=Lib.hid hrow
        clear hg hrow hb2
        go_wp2_with (fail)
        refine (sum_at _ g HG.out A N c (bs.take N) (by simp [HL.out];omega) (by omega) (take_byt HBY.out _) ((HNS.out.below (HB2.out.mono (Nat.le_of_lt hRl))).more (Nat.le_trans (Nat.le_of_lt hRl) HB2.out.size))).mono ?_
        rintro e w3 ⟨rfl,rfl⟩
        rw [←HSM.out]
        go_wp2_with (fail)
        go_ret
        refine ⟨?_,HROW.out.below HB2.out hRl,HKP.out.trans (Kept.of_below HB2.out (fun i=>i=R)) (fun _ h=>h) (fun _ h _=>h)⟩
        rw [HE.out]
        have hd:=HDB.out
        simp at hd
        simp [hd]
end record
namespace record

open Go.RowKit base obj mem
structure Stg where
 session:Int
 size:Int
 have_:Int
deriving DecidableEq
def Stg.cells (s:Stg):Array Value:=#[.int .i64 s.session,.int .i64 s.size,.int .i64 s.have_]
def Stg.val (s:Stg):Value:=.agg s.cells
def blocksN (size:Int):Nat:=((size+15) / 16).toNat
def Stg.right (s:Stg):Bool:=decide (1≤s.session∧s.session≤65535)&&decide (1≤s.size∧s.size≤160)&&decide (0≤s.have_∧s.have_≤2 ^ blocksN s.size-1)
theorem blocks_at (w:World) (size:Int) (h0:-9223372036854775808≤size) (h1:size≤9223372036854775807):Calls Tryz.prog 97 #[.int .i64 size] w fun e w'=>e=.returned (.int .i64 (blocksN size:Nat))∧w'=w:=by
 by_cases h:size < 1
 ·have HB:=Lib.hid (show blocksN size=0 by unfold blocksN;omega)
  go_enter Tryz.func97,Tryz.ntmps97
  go_wp2_with (fail)
  go_ret
  exact ⟨ret_int (by rw [HB.out];rfl),rfl⟩
 ·have HB:=Lib.hid (show ((blocksN size:Nat):Int)=(size-1) / 16+1 by unfold blocksN;omega)
  have h':1≤size:=by omega
  go_enter Tryz.func97,Tryz.ntmps97
  go_wp2_with (fail)
  go_ret
  exact ⟨ret_int (by rw [HB.out]),rfl⟩
theorem rightStage_at (s:Stg) (w:World):Calls Tryz.prog 137 #[s.val] w fun e w'=>e=.returned (.bool s.right)∧Below w.heap.size w w':=by
 obtain ⟨session,size,have_⟩:=s
 unfold Stg.val Stg.cells
 have HD:=Lib.hid (show Stg.right ⟨session,size,have_⟩=(decide (1≤session∧session≤65535)&&decide (1≤size∧size≤160)&&decide (0≤have_∧have_≤2 ^ blocksN size-1)) from rfl)
 have HB:=Lib.hid (fun o=>(Below.refl w.heap.size w).alloc (Nat.le_refl _) o)
 cases k1:decide (1≤session∧session≤65535) with
 | false =>
   have K1:=Lib.hid k1
   clear k1
   have HR:=Lib.hid (show false=Stg.right ⟨session,size,have_⟩ from by rw [HD.out,K1.out];simp)
   go_enter Tryz.func137,Tryz.ntmps137
   go_wp2_with (fail)
   go_big_quiet (first|exact Calls.quiet_of_same (between_is _ _ _ _ _ K1.out))
   go_wp2_with (fail)
   go_ret
   exact ⟨ret_bool HR.out,below_drewN (HB.out _) _⟩
 | true =>
   have K1:=Lib.hid k1
   clear k1
   cases k2:decide (1≤size∧size≤160) with
   | false =>
     have K2:=Lib.hid k2
     clear k2
     have HR:=Lib.hid (show false=Stg.right ⟨session,size,have_⟩ from by rw [HD.out,K1.out,K2.out];simp)
     go_enter Tryz.func137,Tryz.ntmps137
     go_wp2_with (fail)
     go_big_quiet (first|exact Calls.quiet_of_same (between_is _ _ _ _ _ K1.out)|exact Calls.quiet_of_same (between_is _ _ _ _ _ K2.out))
     go_wp2_with (fail)
     go_ret
     exact ⟨ret_bool HR.out,below_drewN (HB.out _) _⟩
   | true =>
     have h2:1≤size∧size≤160:=by simpa using k2
     have K2:=Lib.hid k2
     obtain ⟨b,hb⟩:∃b,b=blocksN size:=⟨_,rfl⟩
     have hb1:1≤b:=by rw [hb];unfold blocksN;omega
     have hb10:b≤10:=by rw [hb];unfold blocksN;omega
     have HBL:=Lib.hid (show ∀W,Calls Tryz.prog 97 #[.int .i64 size] W fun e w'=>e=.returned (.int .i64 (b:Nat))∧w'=W by rw [hb];exact fun W=>blocks_at W size (by omega) (by omega))
     have HB2:=Lib.hid hb
     have hp1:(1:Int)≤2 ^ b:=by have:=Int.pow_pos (n:=2) (m:=b) (by decide);omega
     have hp2:(2:Int) ^ b≤1024:=by
      have h6:b=1∨b=2∨b=3∨b=4∨b=5∨b=6∨b=7∨b=8∨b=9∨b=10:=by omega
      rcases h6 with rfl|rfl|rfl|rfl|rfl|rfl|rfl|rfl|rfl|rfl<;>decide
     have hsh:wrap64 (2 ^ b)=2 ^ b:=by unfold wrap64;omega
     rw [←hb] at HD
     clear hb k2 h2
     cases k3:decide (0≤have_∧have_≤2 ^ b-1)
     all_goals
      have K3:=Lib.hid k3
      clear k3
      go_enter Tryz.func137,Tryz.ntmps137
      go_wp2_with (fail)
      go_big_quiet (first|exact Calls.quiet_of_same (between_is _ _ _ _ _ K1.out)|exact Calls.quiet_of_same (between_is _ _ _ _ _ K2.out)|exact Calls.quiet_of_same (HBL.out _)|exact Calls.quiet_of_same (between_is _ _ _ _ _ K3.out))
      go_wp2_with (fail)
      go_ret
      refine ⟨ret_bool ?_,below_drewN (HB.out _) _⟩
      rw [HD.out,K1.out,K2.out,K3.out]
      rfl
end record
end Go.Proofs.YtdldkkoplgkloaaGreat
