/-
  PROVED HERE: lemmas that the law leans on.
  CONDITIONS: each names its own.
-/
import Derived.Deep.DeepCutAuto
import Derived.Shelf.RegionOpen
import Derived.Test.YtdldkkoplgkloaaGreatPy0
import Derived.Test.YtdldkkoplgkloaaGreatPy3
import Derived.Test.YtdldkkoplgkloaaGreatPy10
import Derived.Test.YtdldkkoplgkloaaGreatPy17
namespace Go.Proofs.YtdldkkoplgkloaaGreat
set_option linter.unusedVariables false
set_option linter.unusedSimpArgs false
set_option maxRecDepth 100000
set_option maxHeartbeats 32000000
namespace record

open Go.RowKit base obj mem bw num bytes bf
def jV (R:Nat) (ks:List Nat):List Value:=(List.range ks.length).flatMap fun i=>[.pointer (some ⟨R,i,none⟩),.int .i64 (ks.getD i 0:Nat)]
theorem AQ (w:World) (R:Nat):Calls Tryz.prog 135 #[.pointer (some ⟨R,0,none⟩)] w fun e w'=>∃F,e=.returned (.slice (some ⟨F,0,none⟩) 6 6)∧w.heap.size≤F∧Row w' F 251 (jV R [1,4,1,1,1,1])∧Below w.heap.size w w':=by
 go_enter Tryz.func135,Tryz.ntmps135;go_wp2_with fail
 go_region
 go_wp2_with fail;go_ret;exact ⟨w.heap.size,rfl,Nat.le_refl _,(Row.new w _ _).drew,((Below.refl w.heap.size w).alloc (Nat.le_refl _) _).drew⟩
theorem Tb {w:World} {base:Nat} {e:TypeId} {size:Nat} {v:Value} {n:Nat} {xs:List Value} (h:w.ownsRow base e size v n xs):w.drew.ownsRow base e size v n xs:=h
theorem yE {w:World} {B B':Nat} {e:TypeId} {size:Nat} {v:Value} {n:Nat} {xs:List Value} (h:w.ownsRow B e size v n xs) (hb:B'≤B):w.ownsRow B' e size v n xs:=by
 obtain ⟨h1,h2⟩:=h;refine ⟨h1,?_⟩;rcases h2 with hz|⟨g,cap,cur,rfl,hg,rest⟩
 ·exact .inl hz
 ·exact .inr ⟨g,cap,cur,rfl,Nat.le_trans hb hg,rest⟩
def pre (mark:Nat) (ks vs:List Nat) (j:Nat):List Int:=be 2 mark++(List.range j).flatMap fun i=>be (ks.getD i 0) (vs.getD i 0)
theorem sn (mark:Nat) (ks vs:List Nat) (j:Nat):pre mark ks vs (j+1)=pre mark ks vs j++be (ks.getD j 0) (vs.getD j 0):=by
 unfold pre;rw [List.range_succ,List.flatMap_append,List.append_assoc];simp
theorem Fq (mark:Nat) (ks vs:List Nat) (j:Nat):bo (pre mark ks vs j):=by
 intro z hz;rcases List.mem_append.1 hz with h|h
 ·exact pW _ _ z h
 ·obtain ⟨i,_,h⟩:=List.mem_flatMap.1 h;exact pW _ _ z h
theorem Jp (mark:Nat) (ks vs:List Nat) (j m:Nat) (h:j≤m):(pre mark ks vs j).length≤(pre mark ks vs m).length:=by
 induction m with
 | zero=>have:j=0:=by omega
         subst this;exact Nat.le_refl _
 | succ m ih =>
   rcases Nat.lt_or_ge j (m+1) with h'|h'
   ·rw [sn,gA];have:=ih (by omega);omega
   ·have:j=m+1:=by omega
    subst this;exact Nat.le_refl _
def jC (p:List Int):List Int:=p++be 4 (sum p)++List.replicate (60-p.length) 0
theorem xT (R:Nat) (ks:List Nat) (k:Nat) (hk:k < ks.length):(jV R ks)[k*2]?=some (.pointer (some ⟨R,k,none⟩))∧(jV R ks)[k*2+1]?=some (.int .i64 (ks.getD k 0:Nat)):=by
 have h:=lift.sA (fun i=>[Value.pointer (some ⟨R,i,none⟩),.int .i64 (ks.getD i 0:Nat)]) 2 (by decide) ks.length (fun i _=>rfl);exact ⟨h.2 k 0 hk (by decide),h.2 k 1 hk (by decide)⟩
structure Fl (w:World) (R F:Nat) (T:TypeId) (ks vs:List Nat):Prop where
 row:Row w F T (jV R ks)
 cell:∀i,i < ks.length→w.cell? ⟨R,i,none⟩=some (.int .i64 (vs.getD i 0:Nat))
 wide:∀i,i < ks.length→1≤ks.getD i 0∧ks.getD i 0≤6∧vs.getD i 0 < 256 ^ ks.getD i 0
theorem Fl.lt {w:World} {R F:Nat} {T:TypeId} {ks vs:List Nat} (h:Fl w R F T ks vs) (h0:0 < ks.length):R < w.heap.size∧F < w.heap.size:=⟨World.block_lt_of_cell? w _ (h.cell 0 h0),h.row.lt⟩
theorem Fl.below {w w':World} {R F:Nat} {T:TypeId} {ks vs:List Nat} (h:Fl w R F T ks vs) (k:Below w.heap.size w w'):Fl w' R F T ks vs:=⟨h.row.below k h.row.lt,fun i hi=>lu k (h.cell i hi),h.wide⟩
theorem Gb (w:World) (R F:Nat) (T:TypeId) (ks vs:List Nat) (n:Nat) (hn:ks.length=n) (h0:0 < n) (hF:Fl w R F T ks vs) (mark:Nat) (hm:mark < 65536) (hl:(pre mark ks vs n).length≤59) :
  Calls Tryz.prog 134 #[.int .i64 mark,.slice (some ⟨F,0,none⟩) n n] w fun e w'=>∃v,e=.returned v∧w'.ownsRow w.heap.size 5 1 v 64 ((jC (pre mark ks vs n)).map (.int .u8))∧Below w.heap.size w w':=by
 have HP:=aa (iX w none 0 0 [] (Sl.Fy w _ _) (by simp) (by omega) mark 2 (by omega) (by omega) hm);have HF:=aa hF;have HN:=aa hn;have HL:=aa hl;clear hF hn hl
 have aaW:n≤60:=by
  have h1:∀j,j≤n→j≤(pre mark ks vs j).length:=by
   intro j
   induction j with
   | zero=>intro _;exact Nat.zero_le _
   | succ j ih =>
     intro hj;rw [sn,gA,bp];have h2:=(HF.o.wide j (by rw [HN.o];omega)).1;have:=ih (by omega);omega
  have h3:=h1 n (Nat.le_refl _);have:=HL.o;omega
 go_enter Tryz.func134,Tryz.ntmps134;go_wp2_with fail;refine HP.o.mono ?_;rintro e w1 ⟨v,rfl,ho,hb⟩;have HO:=aa (show w1.ownsRow w.heap.size 5 1 v (pre mark ks vs 0).length ((pre mark ks vs 0).map (.int .u8)) by simpa [pre,bp] using ho);have HB:=aa hb;clear ho hb HP;go_wp2_with fail;go_loopw [12,5] (fun i v wr=>∃k:Nat,k≤n∧i=.int .i64 k∧wr.ownsRow w.heap.size 5 1 v (pre mark ks vs k).length ((pre mark ks vs k).map (.int .u8))∧Below w.heap.size w wr) (fun i _ _=>n-(intOf i).toNat)
 case atStart=>exact ⟨0,by omega,rfl,HO.o,HB.o⟩
 case round =>
  clear HO HB;obtain ⟨k,hk,rfl,ho,hb⟩:=hrel;have HO:=aa ho;have HB:=aa hb;clear ho hb;by_cases aK:k < n
  ·have gZ:k < ks.length:=by rw [HN.o];exact aK
   obtain ⟨g1,g2⟩:=xT R ks k gZ;have Mr:=HF.o.below HB.o;have c1:=(Mr.row.cell (k*2)).trans g1;have c2:=(Mr.row.cell (k*2+1)).trans g2;have c3:=Mr.cell k gZ;obtain ⟨k1,k6,kv⟩:=HF.o.wide k gZ;have MM:=aa (sn mark ks vs k);have iG:(pre mark ks vs (k+1)).length≤59:=Nat.le_trans (Jp mark ks vs (k+1) n aK) HL.o;obtain ⟨A,c,e2,hc,_⟩:=aH HO.o;subst e2;have EY:=aa iG;generalize ks.getD k 0=q at *;generalize vs.getD k 0=x at *;have hlF:=Mr.row.lt;have hlR:=(Mr.lt (by rw [HN.o];omega)).1;have HKV:=aa kv;have i0:(0:Int)≤(k:Int):=by omega
   have i1:(k:Int) < (n:Int):=by omega
   clear iG g1 g2 Mr kv;go_wp2_with fail;have aO:=aa ((HB.o.alloc HB.o.size (.cells #[.pointer (some ⟨R,k,none⟩),.int .i64 q] 250)).drew);have kG:=aa (Tb (HO.o.alloc (.cells #[.pointer (some ⟨R,k,none⟩),.int .i64 q] 250)));refine ff [0,1,5,2,3,4,6] [[7,8]] (by kernel_rfl) (by kernel_rfl) (fun _ _ _ _ _ h=>h) ?_;simp only [mq,pick,af,ae,ah];iterate 7 still_step
   refine wpStill_nil ?_;go_wp2_with fail;refine (iX _ A _ c _ (Sl.bz kG.o) (xz _) (by have:=HL.o;have:=Jp mark ks vs k n hk;omega) x q k1 k6 HKV.o).mono ?_;rintro e w5 ⟨v5,rfl,vW,jG⟩
   have CH:=aa (show w5.ownsRow w.heap.size 5 1 v5 (pre mark ks vs (k+1)).length ((pre mark ks vs (k+1)).map (.int .u8)) by
    rw [MM.o,gA,bp,List.map_append]
    exact yE vW aO.o.size)
   have nL:=aa (aO.o.trans (jG.mono aO.o.size));clear vW jG;go_wp2_with fail;go_roundw;case rel=>exact ⟨k+1,by omega,by go_num,CH.o,nL.o⟩
   case measure=>simp [intOf];omega
  ·have kJ:k=n:=by omega
   have cZ:¬(k:Int) < (n:Int):=by omega
   have HK:=aa kJ;obtain ⟨A,c,e2,hc,_⟩:=aH HO.o;subst e2;have HLK:=aa (show (pre mark ks vs k).length≤59 by rw [HK.o];exact HL.o);clear kJ;have CE:=aa (Fq mark ks vs k);have KX:=aa (show jC (pre mark ks vs n)=jC (pre mark ks vs k) by rw [HK.o]);generalize pre mark ks vs k=p at *;generalize iG:p.length=l at *;have EY:=aa iG;clear iG;go_wp2_with fail;refine (xA _).mono ?_;rintro e w2 ⟨g,rfl,hg,aZ,bN⟩;have kG:=aa (lj HO.o bN);have aO:=aa (HB.o.trans (bN.mono HB.o.size));have dI:=aa aZ;clear hg aZ bN;go_wp2_with fail;refine (uJ _ g dI.o A l c p EY.o (by have:=HLK.o;omega) CE.o (Sl.bz kG.o)).mono ?_;rintro e w3 ⟨rfl,rfl⟩;have KY:=aa (zQ (bs:=p));obtain ⟨sm,Gu⟩:∃sm,sm=sum p:=⟨_,rfl⟩
   rw [←Gu] at KY ⊢;have kE:=aa Gu;clear Gu;have cv:IntKind.i64.wrap (sm:Int)=(sm:Int):=by have:=KY.o;rw [IntKind.wrap_i64];omega
   go_wp2_with fail;refine (iX _ A l c _ (Sl.bz kG.o) (xz _) (by have:=HLK.o;omega) sm 4 (by omega) (by omega) (Nat.lt_of_lt_of_le KY.o (by decide))).mono ?_;rintro e w4 ⟨v4,rfl,Co,oH⟩;have Bf:=aa (yE Co aO.o.size);have eV:=aa (aO.o.trans (oH.mono aO.o.size));obtain ⟨A4,c4,e4,Cs,_⟩:=aH Co;subst e4;clear Co oH;have acn:l≤59:=HLK.o;have NU:(64:Int)-((l:Int)+4)=((60-l:Nat):Int):=by omega
   go_wp2_with (refine Rx rfl (.tmp 31) (.tmp 34) rfl Bf.o rfl rfl (by omega) (by omega) (by omega) eV.o.size ?_;intro v' w' Ar wz;have HO':=aa Ar;have HB':=aa (iT eV.o Bf.o wz eV.o.size);clear Ar wz);go_ret;refine ⟨v',rfl,?_,HB'.o⟩;have h:=HO'.o;rw [show l+4+(60-l)=64 by omega] at h;rw [KX.o,jC,List.map_append,List.map_append,EY.o,←kE.o,List.map_replicate];exact h
def Rec.ij (r:Rec):List Nat:=[r.part.toNat,r.seq.toNat,r.ax.toNat,r.aj.toNat,r.left.toNat,r.bad.toNat]
abbrev fo:List Nat:=[1,4,1,1,1,1]
def Rec.head (r:Rec):List Int:=pre 19523 fo r.ij 6
def Rec.bytes (r:Rec):List Int:=jC r.head
theorem Rec.ju (r:Rec):r.head.length=11:=by
 simp [Rec.head,pre,bp,List.range_succ]
theorem XW {w:World} {R F:Nat} {r:Rec} (hr:Row w R 35 r.cells.toList) (hF:Row w F 251 (jV R fo)) (h:r.right=true):Fl w R F 251 fo r.ij:=by
 obtain ⟨part,seq,ax,aj,left,bad⟩:=r;simp [Rec.right] at h;obtain ⟨⟨⟨⟨⟨⟨⟨h1,h2⟩,h3⟩,h4⟩,h5⟩,_⟩,h7⟩,_⟩:=h;have e:∀(x:Int),0≤x→((x.toNat:Nat):Int)=x:=fun x hx=>by omega
 refine ⟨hF,fun i hi=>?_,fun i hi=>?_⟩
 ·have xO:i=0∨i=1∨i=2∨i=3∨i=4∨i=5:=by simp at hi;omega
  rcases xO with rfl|rfl|rfl|rfl|rfl|rfl<;>refine (hr.cell _).trans ?_<;>simp [Rec.cells,Rec.ij]<;>omega
 ·have xO:i=0∨i=1∨i=2∨i=3∨i=4∨i=5:=by simp at hi;omega
  rcases xO with rfl|rfl|rfl|rfl|rfl|rfl<;>simp [Rec.ij]<;>omega
theorem LR (r:Rec) (w:World) (h:r.right=true):Calls Tryz.prog 86 #[r.val] w fun e w'=>∃v,e=.returned (.tuple #[v,.int .i64 0])∧w'.ownsRow w.heap.size 5 1 v 64 (r.bytes.map (.int .u8))∧Below w.heap.size w w':=by
 have H:=aa h;have mV:=aa (Row.new w 35 r.cells);have eZ:=aa ((Below.refl w.heap.size w).alloc (Nat.le_refl _) (.cells r.cells 35));have HA:=aa (ft r);clear h;unfold Rec.val Rec.cells at *;go_enter Tryz.func86,Tryz.ntmps86;go_wp2_with fail;refine (HA.o _).mono ?_;rintro e w1 ⟨rfl,hb⟩;rw [H.o];have bn:=aa (eZ.o.trans (hb.mono (by simp)));have iw:=aa (mV.o.below hb (by simp));clear hb;go_wp2_with fail;refine (AQ _ _).mono ?_;rintro e w2 ⟨F,rfl,hF,aZ,hb⟩;have aO:=aa (bn.o.trans (hb.mono bn.o.size));have dI:=aa (iw.o.below hb iw.o.lt);have Bl:=aa aZ;clear hb aZ hF;go_wp2_with fail;refine (Gb _ w.heap.size F 251 fo r.ij 6 rfl (by omega) (XW dI.o Bl.o H.o) 19523 (by decide) (by have:=r.ju;unfold Rec.head at this;omega)).mono ?_;rintro e w3 ⟨v,rfl,ho,hb⟩;have HO:=aa (yE ho aO.o.size);have bD:=aa (aO.o.trans (hb.mono aO.o.size));clear ho hb;go_wp2_with fail;go_ret2;exact ⟨v,rfl,HO.o,bD.o⟩
theorem Wh (r:Rec) (w:World) (h:r.right=false):Calls Tryz.prog 86 #[r.val] w fun e w'=>e=.returned (.tuple #[.slice none 0 0,.int .i64 3])∧Below w.heap.size w w':=by
 have H:=aa h;have eZ:=aa ((Below.refl w.heap.size w).alloc (Nat.le_refl _) (.cells r.cells 35));have HA:=aa (ft r);clear h;unfold Rec.val Rec.cells at *;go_enter Tryz.func86,Tryz.ntmps86;go_wp2_with fail;refine (HA.o _).mono ?_;rintro e w1 ⟨rfl,hb⟩;rw [H.o];have bn:=aa (eZ.o.trans (hb.mono (by simp)));clear hb;go_wp2_with fail;go_ret2;exact ⟨rfl,bn.o⟩
end record
namespace record

open Go.RowKit base obj mem bw num bytes bf
def na (ks:List Nat) (i:Nat):Nat:=2+(ks.take i).sum
theorem vL (ks:List Nat) (i:Nat) (h:i < ks.length):na ks (i+1)=na ks i+ks.getD i 0:=by
 unfold na;rw [jz h,List.sum_append];simp [List.getD,h];omega
theorem Qb (ks:List Nat) (i n:Nat) (h:i≤n) (hn:n≤ks.length):na ks i≤na ks n:=by
 induction n with
 | zero=>have:i=0:=by omega
         subst this;exact Nat.le_refl _
 | succ n ih =>
   rcases Nat.lt_or_ge i (n+1) with h'|h'
   ·rw [vL ks n (by omega)];have:=ih (by omega) (by omega);omega
   ·have:i=n+1:=by omega
    subst this;exact Nat.le_refl _
def got (ks:List Nat) (bs:List Int) (i:Nat):Nat:=val ((bs.drop (na ks i)).take (ks.getD i 0))
def jr (mark N:Nat) (bs:List Int):Int:=if val (bs.take 2)=mark∧bs.drop (N+4)=List.replicate (60-N) 0 then (if val ((bs.drop N).take 4)=sum (bs.take N) then 0 else 10) else 2
def l6 (ks:List Nat) (bs:List Int) (k:Nat) (c0:List Value):List Value:=(List.range k).map (fun i=>Value.int .i64 (got ks bs i:Nat))++c0.drop k
theorem Kh (ks:List Nat) (bs:List Int) (k:Nat) (c0:List Value) (hk:k < c0.length):(l6 ks bs k c0).set k (.int .i64 (got ks bs k:Nat))=l6 ks bs (k+1) c0:=by
 unfold l6;rw [List.set_append_right _ _ (by simp),List.range_succ,List.map_append,List.append_assoc]
 congr 1
 simp only [gN,List.length_range,Nat.sub_self];rw [List.drop_eq_getElem_cons hk];rfl
theorem ED (ks:List Nat) (bs:List Int) (k:Nat) (c0:List Value) (hk:k≤c0.length):(l6 ks bs k c0).length=c0.length:=by simp [l6];omega
theorem Ki (ks:List Nat) (bs:List Int) (k:Nat) (c0:List Value) (hk:k < c0.length):∃v,(l6 ks bs k c0)[k]?=some v:=⟨_,cM (by rw [ED _ _ _ _ (by omega)];exact hk)⟩
theorem sB {bs:List Int} (h:bo bs) (k:Nat):bo (bs.drop k):=fun z hz=>h z (List.mem_of_mem_drop hz)
theorem yo {bs:List Int} (h:bo bs) (k:Nat):bo (bs.take k):=fun z hz=>h z (List.mem_of_mem_take hz)
structure vo (w:World) (R F:Nat) (T TR:TypeId) (ks:List Nat) (c0:List Value) (A:Option Addr) (bs:List Int) (wr:World) (Q k:Nat):Prop where
 rd:Rd wr w.heap.size Q (bs.drop (na ks k))
 row:Row wr R TR (l6 ks bs k c0)
 fl:Row wr F T (jV R ks)
 sl:Sl wr R 1 A 64 (bs.map (.int .u8))
 kept:Kept (fun i=>i=R) w wr
theorem vo.below {w:World} {R F:Nat} {T TR:TypeId} {ks:List Nat} {c0:List Value} {A:Option Addr} {bs:List Int} {wr w':World} {Q k:Nat} (h:vo w R F T TR ks c0 A bs wr Q k) (b:Below wr.heap.size wr w'):vo w R F T TR ks c0 A bs w' Q k :=
 ⟨h.rd.below b,h.row.below b h.row.lt,h.fl.below b h.fl.lt,h.sl.below (b.mono (Nat.le_of_lt h.row.lt)),h.kept.trans (Kept.ng b (fun i=>i=R)) (fun _ h=>h) (fun _ h _=>h)⟩
theorem Qa {w:World} {R F:Nat} {T TR:TypeId} {ks:List Nat} {c0:List Value} {A:Option Addr} {bs:List Int} {w4 w5:World} {Q k q ok:Nat} (h:vo w R F T TR ks c0 A bs w4 Q k)
  (bG:Rd w5 w.heap.size Q ((bs.drop (na ks k)).drop q)) (hk:Kept (fun i=>i=Q) w4 w5) (hR:R < w.heap.size) (hF:F < w.heap.size) (uY:F≠R) (hkc:k < c0.length) (ho:na ks (k+1)=ok+q) (nY:na ks k=ok) (hq:ks.getD k 0=q) :
  vo w R F T TR ks c0 A bs (w5.setCell ⟨R,k,none⟩ (.int .i64 (got ks bs k:Nat))) Q (k+1):=by
 have hQ:=bG.base;refine ⟨?_,?_,?_,?_,?_⟩
 ·rw [ho];rw [List.drop_drop,nY] at bG;exact bG.keep fun i h1 h2=>Below.heap_setCell w5 ⟨R,k,none⟩ _ i (show i≠R by omega)
 ·rw [←Kh ks bs k c0 hkc];exact (h.row.kept hk (fun e=>by have:R=Q:=e;omega)).setCell k _
 ·exact (h.fl.kept hk (fun e=>by have:F=Q:=e;omega)).dM (p:=⟨R,k,none⟩) uY _
 ·have s5:Sl w5 R 1 A 64 (bs.map (.int .u8)):=h.sl.below (hk.below (Nat.le_of_lt h.row.lt) (fun i hi e=>by have:i=Q:=e;omega));exact s5.below ((Below.refl R w5).setCell (p:=⟨R,k,none⟩) (Nat.le_refl _) _)
 ·exact (h.kept.trans hk (fun _ h=>h) (fun i h hi=>by have:i=Q:=h;omega)).setCell (p:=⟨R,k,none⟩) (.inl rfl) _
theorem Yh {w:World} {B R:Nat} {bs:List Int} (h:Rd w B R bs) {m:Nat} (hm:bs.length=m):Calls Tryz.prog 196 #[.pointer (some ⟨R,0,none⟩)] w fun e w'=>e=.returned (.int .i64 m)∧w'=w:=by
 subst hm;exact left_at h
structure o6 (w:World) (R:Nat) (TR:TypeId) (cs:List Value) (A:Option Addr) (bs:List Int) (wr:World) (Q:Nat) (rest:List Int):Prop where
 rd:Rd wr w.heap.size Q rest
 row:Row wr R TR cs
 sl:Sl wr R 1 A 64 (bs.map (.int .u8))
 kept:Kept (fun i=>i=R) w wr
theorem o6.below {w:World} {R:Nat} {TR:TypeId} {cs:List Value} {A:Option Addr} {bs:List Int} {wr w':World} {Q:Nat} {rest:List Int} (h:o6 w R TR cs A bs wr Q rest) (b:Below wr.heap.size wr w'):o6 w R TR cs A bs w' Q rest :=
 ⟨h.rd.below b,h.row.below b h.row.lt,h.sl.below (b.mono (Nat.le_of_lt h.row.lt)),h.kept.trans (Kept.ng b (fun i=>i=R)) (fun _ h=>h) (fun _ h _=>h)⟩
theorem IG (w:World) (m:Nat):Row (w.alloc (.cells (Array.replicate m (Value.int .u8 0)) 5)) w.heap.size 5 ((List.replicate m (0:Int)).map (.int .u8)):=by
 have h:=Row.new w 5 (Array.replicate m (Value.int .u8 0))
 rwa [show (Array.replicate m (Value.int .u8 0)).toList=(List.replicate m (0:Int)).map (.int .u8) by simp] at h
theorem pF {w:World} {b n:Nat} {t:TypeId} {l:List Int} (h:Row w b t (l.map (.int .u8))) (hl:l.length=n):Sl w w.heap.size 1 (some ⟨b,0,none⟩) n (l.map (.int .u8)) :=
 h.sl h.lt (by rw [Nat.mul_one,List.drop_zero,List.take_of_length_le (by simp [hl])]) (by simp [hl])
theorem _root_.Go.Proofs.YtdldkkoplgkloaaGreat.obj.Kept.sU {S:Nat→Prop} {a b:World} (h:Kept S a.drew b):Kept S a b:=⟨h.os,h.tape,h.output,h.size,h.block⟩
theorem _root_.Go.Proofs.YtdldkkoplgkloaaGreat.obj.Kept.Ff {S:Nat→Prop} {a b:World} {o:Obj} (h:Kept S (a.alloc o).drew b):Kept S a b :=
 ((Kept.refl S a).alloc o).trans h.sU (fun _ h=>h) (fun _ h _=>h)
theorem o6.zeros {w:World} {R:Nat} {TR:TypeId} {cs:List Value} {A:Option Addr} {bs:List Int} {wr:World} {Q:Nat} {rest:List Int} (h:o6 w R TR cs A bs wr Q rest) {w':World} {m:Nat} (k:Kept (fun i=>i=Q) (wr.alloc (.cells (Array.replicate m (Value.int .u8 0)) 5)) w'):Row w' wr.heap.size 5 ((List.replicate m (0:Int)).map (.int .u8)) :=
 (IG wr m).kept k (fun e=>by have:=h.rd.lt;have:wr.heap.size=Q:=e;omega)
theorem o6.yU {w:World} {R:Nat} {TR:TypeId} {cs:List Value} {A:Option Addr} {bs:List Int} {wr:World} {Q:Nat} {rest:List Int} (h:o6 w R TR cs A bs wr Q rest) (hR:R < w.heap.size) {w':World} (k:Kept (fun i=>i=Q) wr w'):Row w' R TR cs∧Sl w' R 1 A 64 (bs.map (.int .u8))∧Kept (fun i=>i=R) w w':=by
 have hQ:=h.rd.base;exact ⟨h.row.kept k (fun e=>by have:R=Q:=e;omega),h.sl.below (k.below (Nat.le_of_lt h.row.lt) (fun i hi e=>by have:i=Q:=e;omega)),h.kept.trans k (fun _ h=>h) (fun i h hi=>by have:i=Q:=h;omega)⟩
end record
namespace record

open Go.RowKit base obj mem bw num bytes bf
theorem Gf (w:World) (R F:Nat) (T TR:TypeId) (ks:List Nat) (n:Nat) (hn:ks.length=n) (h0:0 < n) (c0:List Value) (tV:c0.length=n) (hR:Row w R TR c0) (hF:Row w F T (jV R ks)) (uY:F≠R)
  (hw:∀i,i < n→1≤ks.getD i 0∧ks.getD i 0≤6) (A:Option Addr) (c:Nat) (bs:List Int) (hl:bs.length=64) (cu:bo bs) (hs:Sl w R 1 A 64 (bs.map (.int .u8))) (hc:64≤c) (N:Nat) (hN:na ks n=N) (aba:N≤59) (mark:Nat) (hm:mark < 65536) :
  Calls Tryz.prog 167 #[.slice A 64 c,.int .i64 mark,.slice (some ⟨F,0,none⟩) n n] w fun e w'=>e=.returned (.int .i64 (jr mark N bs))∧Row w' R TR ((List.range n).map fun i=>.int .i64 (got ks bs i:Nat))∧Kept (fun i=>i=R) w w':=by
 have oc:=aa (xv w A 64 c bs hl (hs.more (Nat.le_of_lt hR.lt)) (by omega));have HN:=aa hn;have E8:=aa tV;have HR:=aa hR;have HF:=aa hF;have HNE:=aa uY;have RI:=aa hw;have HL:=aa hl;have kN:=aa cu;have HS:=aa hs;have CI:=aa hN
 have aaW:n≤60:=by
  have h1:∀j,j≤n→j≤na ks j:=by
   intro j
   induction j with
   | zero=>intro _;exact Nat.zero_le _
   | succ j ih =>
     intro hj;rw [vL ks j (by omega)];have:=(hw j (by omega)).1;have:=ih (by omega);omega
  have h3:=h1 n (Nat.le_refl _);omega
 clear hn tV hR hF uY hw hl cu hs hN;go_enter Tryz.func167,Tryz.ntmps167;go_wp2_with fail;refine oc.o.mono ?_;rintro e w1 ⟨Q,rfl,bG,hb⟩;have ua:=aa (And.intro bG hb);clear bG hb oc;go_wp2_with fail;refine (sZ ua.o.1 2 (by omega) (by omega) (by rw [HL.o];omega) (by rw [HL.o];omega) kN.o).mono ?_;rintro e w2 ⟨rfl,bG,hk⟩;have hQ:w.heap.size≤Q:=ua.o.1.base
 have HI:=aa (vo.mk (w:=w) (R:=R) (F:=F) (T:=T) (TR:=TR) (ks:=ks) (c0:=c0) (A:=A) (bs:=bs) (wr:=w2) (Q:=Q) (k:=0) bG
  ((HR.o.below ua.o.2 HR.o.lt).kept hk (fun e=>by have:=HR.o.lt;omega)) ((HF.o.below ua.o.2 HF.o.lt).kept hk (fun e=>by have:=HF.o.lt;omega))
  ((HS.o.below (ua.o.2.mono (Nat.le_of_lt HR.o.lt))).below (hk.below (Nat.le_trans (Nat.le_of_lt HR.o.lt) ua.o.2.size) (fun i hi e=>by have:=HR.o.lt;have:i=Q:=e;omega)))
  ((Kept.ng ua.o.2 (fun i=>i=R)).trans hk (fun _ h=>h) (fun i h hi=>by have:i=Q:=h;omega)))
 clear bG hk ua;obtain ⟨bg,GH⟩:∃bg:Bool,bg=decide (val (bs.take 2)=mark):=⟨_,rfl⟩
 have bN:(((val (bs.take 2):Nat):Int)==(mark:Int))=bg:=by
  rw [GH];exact Bool.eq_iff_iff.2 (by rw [beq_iff_eq,decide_eq_true_iff];omega)
 have rZ:=aa GH;clear GH;go_wp2_with fail;go_loopw [24,9] (fun i m wr=>∃k:Nat,k≤n∧i=.int .i64 k∧m=.int .i64 (na ks k:Nat)∧vo w R F T TR ks c0 A bs wr Q k) (fun i _ _=>n-(intOf i).toNat)
 case atStart=>exact ⟨0,by omega,rfl,rfl,HI.o⟩
 case round =>
  clear HI;obtain ⟨k,hk,rfl,rfl,hi⟩:=hrel;have HI:=aa hi;clear hi;by_cases aK:k < n
  ·
   have gZ:k < ks.length:=by rw [HN.o];exact aK
   have hkc:k < c0.length:=by rw [E8.o];exact aK
   obtain ⟨g1,g2⟩:=xT R ks k gZ;have c1:=(HI.o.fl.cell (k*2)).trans g1;have c2:=(HI.o.fl.cell (k*2+1)).trans g2;obtain ⟨k1,k6⟩:=RI.o k aK;have HOS:=aa (vL ks k gZ);have hom:na ks k+ks.getD k 0≤59:=by rw [←HOS.o];exact Nat.le_trans (Qb ks (k+1) n aK (by rw [HN.o];exact Nat.le_refl _)) (by rw [CI.o];exact aba)
   have abP:=aa (show got ks bs k=val ((bs.drop (na ks k)).take (ks.getD k 0)) from rfl);have hlF:=HI.o.fl.lt;have hlR:=HI.o.row.lt;generalize hq:ks.getD k 0=q at *;generalize nY:na ks k=ok at *;have HQ:=aa hq;have fG:=aa nY;have HOM:=aa hom;have i0:(0:Int)≤(k:Int):=by omega
   have i1:(k:Int) < (n:Int):=by omega
   clear g1 g2 hq nY hom;go_wp2_with fail;have RW:=aa (HI.o.below (((Below.refl wr.heap.size wr).alloc (Nat.le_refl _) (.cells #[.pointer (some ⟨R,k,none⟩),.int .i64 q] 250)).drew));refine ff [0,2,3,4] [[1,5,6,7],[5,1,6,7]] (by kernel_rfl) (by kernel_rfl) (fun _ _ _ _ _ h=>h) ?_;simp only [mq,pick,af,ae,ah];iterate 4 still_step
   refine wpStill_nil ?_;refine ⟨?_,?_⟩
   all_goals
    go_wp2_with fail;refine (sZ RW.o.rd q k1 k6 (by rw [List.length_drop,HL.o];have:=HOM.o;rw [fG.o];omega) (by rw [List.length_drop,HL.o];omega) (sB kN.o _)).mono ?_;rintro e w5 ⟨rfl,bG,Cq⟩;have GB:R < w.heap.size:=HR.o.lt;have HX:=aa (Qa RW.o bG Cq GB HF.o.lt HNE.o hkc HOS.o fG.o HQ.o);obtain ⟨v0,vP⟩:=Ki ks bs k c0 hkc;have JN:Row w5 R TR (l6 ks bs k c0):=RW.o.row.kept Cq (fun e=>by have:R=Q:=e;omega);have c5:=(JN.cell k).trans vP;have f5:=JN.frozen k;have jG:w5.heap[wr.heap.size]?=some (.cells #[.pointer (some ⟨R,k,none⟩),.int .i64 q] 250 (0,0)):=(Cq.block wr.heap.size (by simp) (fun e=>by have:wr.heap.size=Q:=e;have:=HI.o.rd.lt;omega)).trans (heap_alloc_new _ _);have d0:w5.cell? ⟨wr.heap.size,0,none⟩=some (.pointer (some ⟨R,k,none⟩)):=by simp [World.cell?,jG]
    have d1:w5.cell? ⟨wr.heap.size,1,none⟩=some (.int .i64 q):=by simp [World.cell?,jG]
    have acb:wr.heap.size < w5.heap.size:=by have:=Cq.size;simp at this;omega
    rw [fG.o,←abP.o];generalize got ks bs k=gv at HX ⊢;have hom:=HOM.o;clear bG Cq JN vP jG;go_wp2_with fail;go_roundw;case rel=>exact ⟨k+1,by omega,by go_num,by rw [HOS.o];rfl,HX.o⟩
    case measure=>simp [intOf];omega
  ·have kJ:k=n:=by omega
   have cZ:¬(k:Int) < (n:Int):=by omega
   have fG:=aa (show na ks k=N by rw [kJ];exact CI.o);have HFC:=aa (show l6 ks bs k c0=(List.range n).map (fun i=>Value.int .i64 (got ks bs i:Nat)) by rw [kJ];unfold l6;rw [List.drop_of_length_le (by rw [E8.o];exact Nat.le_refl _),List.append_nil]);clear kJ;go_wp2_with fail;refine (sZ HI.o.rd 4 (by omega) (by omega) (by rw [List.length_drop,HL.o,fG.o];omega) (by rw [List.length_drop,HL.o];omega) (sB kN.o _)).mono ?_;rintro e w5 ⟨rfl,bG,Cq⟩;rw [fG.o,List.drop_drop] at bG;rw [fG.o]
   have HD:=aa (o6.mk (w:=w) (R:=R) (TR:=TR) (cs:=(List.range n).map (fun i=>Value.int .i64 (got ks bs i:Nat))) (A:=A) (bs:=bs) (wr:=w5) (Q:=Q) bG
    (by rw [←HFC.o];exact HI.o.row.kept Cq (fun e=>by have:=HR.o.lt;have:R=Q:=e;omega)) (HI.o.sl.below (Cq.below (Nat.le_of_lt HI.o.row.lt) (fun i hi e=>by have:=HR.o.lt;have:i=Q:=e;omega)))
    (HI.o.kept.trans Cq (fun _ h=>h) (fun i h hi=>by have:i=Q:=h;omega)))
   clear bG Cq HI;obtain ⟨rest,uk⟩:∃rest,rest=bs.drop (N+4):=⟨_,rfl⟩
   obtain ⟨m,At⟩:∃m,m=60-N:=⟨_,rfl⟩
   obtain ⟨zb,hzb⟩:∃zb,zb=decide (rest=List.replicate m (0:Int)):=⟨_,rfl⟩
   have Gx:rest.length=m:=by rw [uk,List.length_drop,HL.o,At];omega
   have QA:1≤m:=by omega
   have Au:0 < m:=by omega
   have aJ:IntKind.i64.wrap (64-(N:Int))=64-(N:Int):=by rw [IntKind.wrap_i64];omega
   have dY:IntKind.i64.wrap (64-(N:Int)-4)=(m:Int):=by rw [IntKind.wrap_i64];omega
   have pL:=uC m (by omega);have uc:=aa (show o6 w R TR ((List.range n).map (fun i=>Value.int .i64 (got ks bs i:Nat))) A bs w5 Q rest by rw [uk];exact HD.o);have HRB:=aa (show bo rest by rw [uk];exact sB kN.o _);have vx:=aa Gx;have HRE:=aa uk;have HM2:=aa At;have HZ:=aa hzb;have ack:m≤60:=by omega
   have HZB:=aa (show bo (List.replicate m (0:Int)) from fun z hz=>by rw [List.eq_of_mem_replicate hz];omega);clear Gx uk At HD hzb;go_upto_region 13 with fail
   go_cut [42] (fun s wc=>s=.bool (!(bg&&zb))∧Row wc R TR ((List.range n).map (fun i=>Value.int .i64 (got ks bs i:Nat)))∧Sl wc R 1 A 64 (bs.map (.int .u8))∧Kept (fun i=>i=R) w wc)
   case first =>
    cases bg with
    | false =>
      go_region
      go_wp2_with fail;go_meet;exact ⟨by simp,uc.o.row.drew,uc.o.sl,uc.o.kept.drew⟩
    | true =>
      go_region_law (first
       | (go_simp;(with_reducible refine (Yh (o6.rd (uc.o.below (by first|exact (Below.refl _ _).drew|exact ((Below.refl _ _).alloc (Nat.le_refl _) _).drew))) vx.o).mono ?_);rintro e w6 ⟨rfl,rfl⟩;dsimp only)
       | (go_simp;(with_reducible refine (oR (o6.rd (uc.o.below (by first|exact (Below.refl _ _).drew|exact ((Below.refl _ _).alloc (Nat.le_refl _) _).drew))) m QA (by rw [vx.o];exact Nat.le_refl _) (by rw [vx.o];omega)).mono ?_);rintro e w7 ⟨v7,rfl,JS,Ma,hk7⟩;rw [List.take_of_length_le (by simp [vx.o])] at JS;obtain ⟨A7,c7,e7,_,_⟩:=aH JS;subst e7;have E3:=aa JS;have CK:=aa hk7;clear JS Ma hk7;dsimp only)
       | (go_simp;(with_reducible refine (Dn _ _ _ m m _ _ rest (List.replicate m 0) vx.o (by simp) Au Au HRB.o HZB.o (by first|exact Sl.bz E3.o|exact Sl.bz (E3.o.alloc _)) (by first|exact pF (IG _ _) (by simp)|exact pF (uc.o.zeros CK.o.sU) (by simp))).mono ?_);rintro e w8 ⟨rfl,rfl⟩;rw [←HZ.o];dsimp only))
      all_goals
       go_wp2_with fail;go_meet
       first
        | exact ⟨by simp,(uc.o.yU HR.o.lt CK.o.sU).1,(uc.o.yU HR.o.lt CK.o.sU).2.1,(uc.o.yU HR.o.lt CK.o.sU).2.2⟩
        | exact ⟨by simp,(uc.o.yU HR.o.lt (CK.o.sU.alloc _)).1,(uc.o.yU HR.o.lt (CK.o.sU.alloc _)).2.1,(uc.o.yU HR.o.lt (CK.o.sU.alloc _)).2.2⟩
        | exact ⟨by simp,(uc.o.yU HR.o.lt CK.o.Ff).1,(uc.o.yU HR.o.lt CK.o.Ff).2.1,(uc.o.yU HR.o.lt CK.o.Ff).2.2⟩
   case rest =>
    obtain ⟨rfl,aZ,dB,Vm⟩:=hcut;have gy:=aa aZ;have kL:=aa dB;have HKP:=aa Vm;clear aZ dB Vm uc;cases QV:(bg&&zb) with
    | false =>
      have HE:=aa (show jr mark N bs=2 by
       unfold jr
       rw [if_neg (fun h=>by
        have h1:=rZ.o;have h2:=HZ.o;rw [←HRE.o,←HM2.o] at h;simp [h.1,h.2] at h1 h2
        simp [h1,h2] at QV)])
      go_wp2_with fail;go_ret;exact ⟨by rw [HE.o];rfl,gy.o,HKP.o⟩
    | true =>
      have HE:=aa (show jr mark N bs=if val ((bs.drop N).take 4)=sum (bs.take N) then 0 else 10 by
       unfold jr
       rw [if_pos (by
        have h1:=rZ.o;have h2:=HZ.o;simp at QV;rw [←HRE.o,←HM2.o];simp [QV.1,QV.2] at h1 h2
        exact ⟨h1,h2⟩)])
      clear QV;obtain ⟨sv,uV⟩:∃sv,sv=val ((bs.drop N).take 4):=⟨_,rfl⟩
      obtain ⟨sm,Gu⟩:∃sm,sm=sum (bs.take N):=⟨_,rfl⟩
      rw [←uV,←Gu] at HE;rw [←uV];have kE:=aa Gu;have KY:=aa (show sm < 2 ^ 32 by rw [Gu];exact zQ)
      have RQ:=aa (show Sl wc R 1 A N ((bs.take N).map (.int .u8)) from ⟨by simp [HL.o];omega,fun hn=>by
       obtain ⟨b,off,e,hb,qF⟩:=kL.o.2 (by omega)
       exact ⟨b,off,e,hb,fun k u hu=>qF k u (by
        rw [List.map_take,List.getElem?_take] at hu;split at hu
        ·exact hu
        ·simp at hu)⟩⟩)
      clear uV Gu;have cv:IntKind.i64.wrap (sm:Int)=(sm:Int):=by have:=KY.o;rw [IntKind.wrap_i64];omega
      have i0:(0:Int)≤(N:Int):=by omega
      have i1:(N:Int)≤(c:Int):=by omega
      have hRl:=gy.o.lt;have eZ:=aa (show Below wc.heap.size wc wc.drew from (Below.refl _ _).drew);obtain ⟨db,Cr⟩:∃db,db=decide (sv=sm):=⟨_,rfl⟩
      have e1:((sv:Int) != (sm:Int))=!db:=by
       rw [Cr,Bool.eq_iff_iff];simp;omega
      have e2:(sv != sm)=!db:=by
       rw [Cr,Bool.eq_iff_iff];simp
      have HDB:=aa Cr;clear Cr;cases db
      all_goals
       go_wp2_with fail;refine ff [0,2,3] [[1,4,5,6,7,8],[4,1,5,6,7,8]] (by kernel_rfl) (by kernel_rfl) (fun _ _ _ _ _ h=>h) ?_;simp only [mq,pick,af,ae,ah];iterate 3 still_step
       refine wpStill_nil ?_;refine ⟨?_,?_⟩
       all_goals
        go_wp2_with fail;refine (xA _).mono ?_;rintro e w2 ⟨g,rfl,hg,aZ,bN⟩;have aO:=aa (eZ.o.trans (bN.mono eZ.o.size));have HG:=aa aZ;clear hg aZ bN;go_wp2_with fail;refine (uJ _ g HG.o A N c (bs.take N) (by simp [HL.o];omega) (by omega) (yo kN.o _) ((RQ.o.below (aO.o.mono (Nat.le_of_lt hRl))).more (Nat.le_trans (Nat.le_of_lt hRl) aO.o.size))).mono ?_;rintro e w3 ⟨rfl,rfl⟩;rw [←kE.o];go_wp2_with fail;go_ret;refine ⟨?_,gy.o.below aO.o hRl,HKP.o.trans (Kept.ng aO.o (fun i=>i=R)) (fun _ h=>h) (fun _ h _=>h)⟩;rw [HE.o];have hd:=HDB.o;simp at hd;simp [hd]
end record
namespace record

open Go.RowKit base obj mem
structure aS where
 aG:Int
 size:Int
 bd:Int
deriving DecidableEq
def aS.cells (s:aS):Array Value:=#[.int .i64 s.aG,.int .i64 s.size,.int .i64 s.bd]
def aS.val (s:aS):Value:=.agg s.cells
def aR (size:Int):Nat:=((size+15) / 16).toNat
def aS.right (s:aS):Bool:=decide (1≤s.aG∧s.aG≤65535)&&decide (1≤s.size∧s.size≤160)&&decide (0≤s.bd∧s.bd≤2 ^ aR s.size-1)
theorem ka (w:World) (size:Int) (h0:-9223372036854775808≤size) (h1:size≤9223372036854775807):Calls Tryz.prog 97 #[.int .i64 size] w fun e w'=>e=.returned (.int .i64 (aR size:Nat))∧w'=w:=by
 by_cases h:size < 1
 ·have HB:=aa (show aR size=0 by unfold aR;omega);go_enter Tryz.func97,Tryz.ntmps97;go_wp2_with fail;go_ret;exact ⟨bt (by rw [HB.o];rfl),rfl⟩
 ·have HB:=aa (show ((aR size:Nat):Int)=(size-1) / 16+1 by unfold aR;omega);have h':1≤size:=by omega
  go_enter Tryz.func97,Tryz.ntmps97;go_wp2_with fail;go_ret;exact ⟨bt (by rw [HB.o]),rfl⟩
theorem nD (s:aS) (w:World):Calls Tryz.prog 137 #[s.val] w fun e w'=>e=.returned (.bool s.right)∧Below w.heap.size w w':=by
 obtain ⟨aG,size,bd⟩:=s;unfold aS.val aS.cells;have HD:=aa (show aS.right ⟨aG,size,bd⟩=(decide (1≤aG∧aG≤65535)&&decide (1≤size∧size≤160)&&decide (0≤bd∧bd≤2 ^ aR size-1)) from rfl);have HB:=aa (fun o=>(Below.refl w.heap.size w).alloc (Nat.le_refl _) o);cases k1:decide (1≤aG∧aG≤65535) with
 | false =>
   have K1:=aa k1;clear k1;have HR:=aa (show false=aS.right ⟨aG,size,bd⟩ from by rw [HD.o,K1.o];simp);go_enter Tryz.func137,Tryz.ntmps137;go_wp2_with fail;go_big_quiet (first|exact Calls.quiet_of_same (aT _ _ _ _ _ K1.o));go_wp2_with fail;go_ret;exact ⟨aE HR.o,below_drewN (HB.o _) _⟩
 | true =>
   have K1:=aa k1;clear k1;cases k2:decide (1≤size∧size≤160) with
   | false =>
     have K2:=aa k2;clear k2;have HR:=aa (show false=aS.right ⟨aG,size,bd⟩ from by rw [HD.o,K1.o,K2.o];simp);go_enter Tryz.func137,Tryz.ntmps137;go_wp2_with fail;go_big_quiet (first|exact Calls.quiet_of_same (aT _ _ _ _ _ K1.o)|exact Calls.quiet_of_same (aT _ _ _ _ _ K2.o));go_wp2_with fail;go_ret;exact ⟨aE HR.o,below_drewN (HB.o _) _⟩
   | true =>
     have h2:1≤size∧size≤160:=by simpa using k2
     have K2:=aa k2;obtain ⟨b,hb⟩:∃b,b=aR size:=⟨_,rfl⟩
     have ku:1≤b:=by rw [hb];unfold aR;omega
     have Y2:b≤10:=by rw [hb];unfold aR;omega
     have ch:=aa (show ∀W,Calls Tryz.prog 97 #[.int .i64 size] W fun e w'=>e=.returned (.int .i64 (b:Nat))∧w'=W by rw [hb];exact fun W=>ka W size (by omega) (by omega));have aO:=aa hb;have JR:(1:Int)≤2 ^ b:=by have:=Int.pow_pos (n:=2) (m:=b) (by decide);omega
     have Vi:(2:Int) ^ b≤1024:=by
      have h6:b=1∨b=2∨b=3∨b=4∨b=5∨b=6∨b=7∨b=8∨b=9∨b=10:=by omega
      rcases h6 with rfl|rfl|rfl|rfl|rfl|rfl|rfl|rfl|rfl|rfl<;>decide
     have pI:wrap64 (2 ^ b)=2 ^ b:=by unfold wrap64;omega
     rw [←hb] at HD;clear hb k2 h2;cases k3:decide (0≤bd∧bd≤2 ^ b-1)
     all_goals
      have K3:=aa k3;clear k3;go_enter Tryz.func137,Tryz.ntmps137;go_wp2_with fail;go_big_quiet (first|exact Calls.quiet_of_same (aT _ _ _ _ _ K1.o)|exact Calls.quiet_of_same (aT _ _ _ _ _ K2.o)|exact Calls.quiet_of_same (ch.o _)|exact Calls.quiet_of_same (aT _ _ _ _ _ K3.o));go_wp2_with fail;go_ret;refine ⟨aE ?_,below_drewN (HB.o _) _⟩;rw [HD.o,K1.o,K2.o,K3.o];rfl
end record
namespace record

open Go.RowKit base obj mem bw num bytes bf
theorem sg (w:World) (R:Nat):Calls Tryz.prog 138 #[.pointer (some ⟨R,0,none⟩)] w fun e w'=>∃F,e=.returned (.slice (some ⟨F,0,none⟩) 3 3)∧w.heap.size≤F∧Row w' F 252 (jV R [2,2,2])∧Below w.heap.size w w':=by
 go_enter Tryz.func138,Tryz.ntmps138;go_wp2_with fail
 go_region
 go_wp2_with fail;go_ret;exact ⟨w.heap.size,rfl,Nat.le_refl _,(Row.new w _ _).drew,((Below.refl w.heap.size w).alloc (Nat.le_refl _) _).drew⟩
def aS.ij (s:aS):List Nat:=[s.aG.toNat,s.size.toNat,s.bd.toNat]
abbrev gR:List Nat:=[2,2,2]
def aS.head (s:aS):List Int:=pre 19539 gR s.ij 3
def aS.bytes (s:aS):List Int:=jC s.head
theorem aS.ju (s:aS):s.head.length=8:=by
 simp [aS.head,pre,bp,List.range_succ]
theorem iD {s:aS} (h:s.right=true):(1≤s.aG∧s.aG≤65535)∧(1≤s.size∧s.size≤160)∧0≤s.bd∧s.bd < 1024:=by
 simp [aS.right] at h;obtain ⟨⟨h1,h2⟩,h3,h4⟩:=h;refine ⟨h1,h2,h3,?_⟩;have hb:aR s.size≤10:=by unfold aR;omega
 have hp:(2:Nat) ^ aR s.size≤2 ^ 10:=Nat.pow_le_pow_right (by decide) hb;have hc:((2 ^ aR s.size:Nat):Int)=(2:Int) ^ aR s.size:=by simp
 omega
theorem XN {w:World} {R F:Nat} {s:aS} (hr:Row w R 31 s.cells.toList) (hF:Row w F 252 (jV R gR)) (h:s.right=true):Fl w R F 252 gR s.ij:=by
 obtain ⟨⟨h1,h2⟩,⟨h3,h4⟩,h5,h6⟩:=iD h;obtain ⟨aG,size,bd⟩:=s;simp only at *;refine ⟨hF,fun i hi=>?_,fun i hi=>?_⟩
 ·have xO:i=0∨i=1∨i=2:=by simp at hi;omega
  rcases xO with rfl|rfl|rfl<;>refine (hr.cell _).trans ?_<;>simp [aS.cells,aS.ij]<;>omega
 ·have xO:i=0∨i=1∨i=2:=by simp at hi;omega
  rcases xO with rfl|rfl|rfl<;>simp [aS.ij]<;>omega
theorem Cb (s:aS) (w:World) (h:s.right=true):Calls Tryz.prog 88 #[s.val] w fun e w'=>∃v,e=.returned (.tuple #[v,.int .i64 0])∧w'.ownsRow w.heap.size 5 1 v 64 (s.bytes.map (.int .u8))∧Below w.heap.size w w':=by
 have H:=aa h;have mV:=aa (Row.new w 31 s.cells);have eZ:=aa ((Below.refl w.heap.size w).alloc (Nat.le_refl _) (.cells s.cells 31));have HA:=aa (nD s);clear h;unfold aS.val aS.cells at *;go_enter Tryz.func88,Tryz.ntmps88;go_wp2_with fail;refine (HA.o _).mono ?_;rintro e w1 ⟨rfl,hb⟩;rw [H.o];have bn:=aa (eZ.o.trans (hb.mono (by simp)));have iw:=aa (mV.o.below hb (by simp));clear hb;go_wp2_with fail;refine (sg _ _).mono ?_;rintro e w2 ⟨F,rfl,hF,aZ,hb⟩;have aO:=aa (bn.o.trans (hb.mono bn.o.size));have dI:=aa (iw.o.below hb iw.o.lt);have Bl:=aa aZ;clear hb aZ hF;go_wp2_with fail;refine (Gb _ w.heap.size F 252 gR s.ij 3 rfl (by omega) (XN dI.o Bl.o H.o) 19539 (by decide) (by have:=s.ju;unfold aS.head at this;omega)).mono ?_;rintro e w3 ⟨v,rfl,ho,hb⟩;have HO:=aa (yE ho aO.o.size);have bD:=aa (aO.o.trans (hb.mono aO.o.size));clear ho hb;go_wp2_with fail;go_ret2;exact ⟨v,rfl,HO.o,bD.o⟩
theorem Jn (s:aS) (w:World) (h:s.right=false):Calls Tryz.prog 88 #[s.val] w fun e w'=>e=.returned (.tuple #[.slice none 0 0,.int .i64 3])∧Below w.heap.size w w':=by
 have H:=aa h;have eZ:=aa ((Below.refl w.heap.size w).alloc (Nat.le_refl _) (.cells s.cells 31));have HA:=aa (nD s);clear h;unfold aS.val aS.cells at *;go_enter Tryz.func88,Tryz.ntmps88;go_wp2_with fail;refine (HA.o _).mono ?_;rintro e w1 ⟨rfl,hb⟩;rw [H.o];have bn:=aa (eZ.o.trans (hb.mono (by simp)));clear hb;go_wp2_with fail;go_ret2;exact ⟨rfl,bn.o⟩
end record
end Go.Proofs.YtdldkkoplgkloaaGreat
