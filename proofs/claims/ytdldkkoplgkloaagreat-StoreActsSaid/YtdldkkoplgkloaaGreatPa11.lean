/- PROVED HERE: lemmas of the law. CONDITIONS: each names its own. -/
import Derived.Test.YtdldkkoplgkloaaGreatPa0
import Derived.Test.YtdldkkoplgkloaaGreatPa4
import Derived.Test.YtdldkkoplgkloaaGreatPa10
namespace Go.Proofs.YtdldkkoplgkloaaGreat
set_option linter.unusedVariables false
set_option linter.unusedSimpArgs false
set_option maxRecDepth 100000
set_option maxHeartbeats 32000000
open Go.Value renaming int → ae
open Go.IntKind renaming i64 → aa
namespace image
open Go.RowKit Go.Deep base obj mem sep bC num bytes aW chain fZ
def qi (bs:List Int):Bool:=decide (be 4 (sum (bs.take (bs.length-4)))=bs.drop (bs.length-4))
def qs (bs:List Int):Bool:=decide (gG (bs.take (bs.length-36))=(bs.drop (bs.length-36)).take 32)
def aq.none:aq:=⟨0,0,0,0,0,0,0,[]⟩
theorem yD {w:World} {B n:Nat} {A:Option Addr} {bs:List Int} (h:Sl w B 1 A n (aP bs)) (o m k:Nat) (hk:k=m) (ho:o+m≤n) {b off:Nat} (hA:A=some ⟨b,off,none⟩):Sl w B 1 (some ⟨b,off+o,none⟩) k (aP ((bs.drop o).take m)):=by
 subst hk;have hl:=h.1;simp at hl;refine ⟨by simp;omega,fun hp=>⟨b,off+o,rfl,?_,fun j u hu=>?_⟩⟩
 ·obtain ⟨b',Eo,e,hb,_⟩:=h.2 (by omega);rw [hA] at e;injection e with e;injection e with e1 e2 _
  omega
 ·obtain ⟨b',Eo,e,hb,hc⟩:=h.2 (by omega);rw [hA] at e;injection e with e;injection e with e1 e2 _
  subst e1;subst e2;rw [Nat.add_assoc];refine hc (o+j) u ?_;rw [List.getElem?_map] at hu ⊢;rw [List.getElem?_take] at hu;split at hu
  ·rwa [List.getElem?_drop] at hu
  ·simp at hu
theorem GI {w:World} {base:Nat} {e:TypeId} {size n:Nat} {v:Value} {xs:List Value} (h:w.ownsRow base e size v n xs):∀k,v.ownBlock=some k→base≤k:=by
 intro k hk;rcases h.2 with ⟨rfl,_⟩|⟨g,cap,cur,rfl,hg,_⟩
 ·simp [Value.ownBlock] at hk
 ·simp only [Value.ownBlock,Option.some.injEq] at hk;omega
def MN (R:aq→Int→Prop) (bs:List Int) (j:aq) (er:Int):Prop:=if qi bs&&qs bs then R j er else j=aq.none∧er=10
theorem S8 (w:World) (A:Option Addr) (c n:Nat) (Oi:n < 36):Calls Tryz.prog 54 #[.slice A n c] w fun e w'=>e=.returned (.tuple #[aq.none.val none 0,ae aa 1])∧Below w.heap.size w w':=by
 have c1:(n:Int) < 36:=by omega
 go_enter Tryz.func54,Tryz.ntmps54;go_wp2_with fail;refine bodyPost_ret (aL rfl _ _ w.heap.size _ _ _ _ _ rfl rfl (Row.new w 26 _) Tryz.underlying26 rfl (by kernel_rfl)) rfl ?_;exact ⟨rfl,(Below.refl _ w).alloc (Nat.le_refl _) _⟩
theorem get_at (R:aq→Int→Prop) (w:World) (A:Option Addr) (c m n:Nat) (bs:List Int) (hn:bs.length=n) (hnm:n=m+36) (hm:m≤90000) (hc:n≤c) (cG:bn bs) (hs:Sl w w.heap.size 1 A n (aP bs))
  (hp:∀w',Sl w' w'.heap.size 1 A m (aP (bs.take m))→Calls Tryz.prog 99 #[.slice A m c] w' fun e mf=>∃(j:aq) (A':Option Addr) (c':Nat) (er:Int),e=.returned (.tuple #[j.val A' c',ae aa er])∧mf.ownsRow w'.heap.size 5 1 (.slice A' j.code.length c') j.code.length (aP j.code)∧Below w'.heap.size w' mf∧R j er) :
  Calls Tryz.prog 54 #[.slice A n c] w fun e w'=>∃(j:aq) (A':Option Addr) (c':Nat) (er:Int),e=.returned (.tuple #[j.val A' c',ae aa er])∧w'.ownsRow w.heap.size 5 1 (.slice A' j.code.length c') j.code.length (aP j.code)∧Below w.heap.size w w'∧MN R bs j er:=by
 obtain ⟨B,off,rfl,hB,_⟩:=hs.2 (by omega);obtain ⟨k,hk⟩:=xE (m+32);have W1:IntKind.i64.wrap ((n:Int)-36)=(m:Int):=by rw [IntWalk.i64_in _ (by omega)];omega
 have W2:IntKind.i64.wrap ((n:Int)-4)=(k:Int):=by rw [IntWalk.i64_in _ (by omega)];omega
 have c0:¬((n:Int) < 36):=by omega
 have c1:(0:Int)≤(m:Int):=by omega
 have c2:(m:Int)≤(c:Int):=by omega
 have c3:(m:Int)≤(k:Int):=by omega
 have c4:(k:Int)≤(c:Int):=by omega
 have c5:(0:Int)≤(k:Int):=by omega
 have c6:(k:Int)≤(n:Int):=by omega
 have c7:(n:Int)≤(c:Int):=by omega
 have d1:¬c=m:=by omega
 have d2:¬c=k:=by omega
 have HS:=af hs;have Gm:=af hnm;have HK:=af hk;have HN:=af hn;clear hs hnm hk hn;go_enter Tryz.func54,Tryz.ntmps54;go_wp2_with fail
 go_region
 go_wp2_with fail;refine dN ?_;(refine bk [0,1] ?_;simp only [pick,xG];(iterate 2 still_step);refine wpStill_nil ?_);(refine gh 2 (ae aa n) (by kernel_rfl) (fun _ _ _ _ _ h=>h) (by rfl) (by intro w2;(try simp only [xG]);go_simp) ?_;(try simp only [ai]));(refine gh 3 (ae aa k) (by kernel_rfl) (fun _ _ _ _ _ h=>h) (by rfl) (by intro w2;(try simp only [xG]);go_simp) ?_;(try simp only [ai]));(refine gh 4 (.slice (some ⟨B,off,none⟩) k c) (by kernel_rfl) (fun _ _ _ _ _ h=>h) (by rfl) (by intro w2;(try simp only [xG]);go_simp) ?_;(try simp only [ai]));(refine bk [6,7] ?_;simp only [pick,xG];(iterate 2 still_step);refine wpStill_nil ?_);(refine gh 8 (ae aa n) (by kernel_rfl) (fun _ _ _ _ _ h=>h) (by rfl) (by intro w2;(try simp only [xG]);go_simp) ?_;(try simp only [ai]));(refine gh 9 (ae aa k) (by kernel_rfl) (fun _ _ _ _ _ h=>h) (by rfl) (by intro w2;(try simp only [xG]);go_simp) ?_;(try simp only [ai]));(refine gh 10 (.slice (some ⟨B,off+k,none⟩) (n-k) (c-k)) (by kernel_rfl) (fun _ _ _ _ _ h=>h) (by rfl) (by intro w2;(try simp only [xG]);go_simp) ?_;(try simp only [ai]));obtain ⟨w1,aF⟩:∃v,v=(w.alloc (.cells gA 26)).drew.drew:=⟨_,rfl⟩
 rw [←aF];have bo:Row w1 w.heap.size 26 eo:=by rw [aF];exact (Row.new w _ _).drew.drew
 have yu:Below w.heap.size w w1:=by rw [aF];exact ((Below.refl _ w).alloc (Nat.le_refl _) _).drew.drew
 have j8:=(HS.o.below yu).more yu.size;clear aF;have eK:=HK.o;have eN:=HN.o;have eM:=Gm.o;have HSK:=af (yD j8 0 k k rfl (by omega) rfl);have bH:=af (yD j8 k 4 (n-k) (by omega) (by omega) rfl);have jU:=af (yD j8 0 m m rfl (by omega) rfl);have sW:=af (yD j8 m 32 (k-m) (by omega) (by omega) rfl);have hM:=af bo;have abm:=af yu;clear bo yu j8 eK eN eM;(refine aK 5 ?_;(try simp only [xG]);go_simp);refine (NJ w1 _ k c ((bs.drop 0).take k) (by have:=HK.o;have:=HN.o;have:=Gm.o;rw [fW,List.length_drop];omega) (by have:=HK.o;omega) (fun z hz=>cG z (List.mem_of_mem_drop (List.mem_of_mem_take hz))) HSK.o).mono ?_;rintro e w2 ⟨v,rfl,ho,hb⟩;obtain ⟨A2,c2,rfl,dk⟩:=KN ho;have aO:=af (abm.o.trans (hb.mono abm.o.size));have De:=af (hM.o.below hb hM.o.lt);have abb:=af ((jU.o.below hb).more hb.size);have ac7:=af ((sW.o.below hb).more hb.size);have QG:=af ((bH.o.below hb).more hb.size);have uw:=af dk;clear ho hb dk;dsimp only;(try simp only [ai]);(refine aK 11 ?_;(try simp only [xG]);go_simp);refine (EG w2 A2 _ 4 (n-k) c2 (c-k) (be 4 (sum ((bs.drop 0).take k))) ((bs.drop k).take 4) (bp _ _) (by have:=HK.o;have:=HN.o;have:=Gm.o;rw [fW,List.length_drop];omega) (by omega) (by have:=HK.o;have:=Gm.o;omega) (qO _ _) (fun z hz=>cG z (List.mem_of_mem_drop (List.mem_of_mem_take hz))) uw.o QG.o).mono ?_;rintro e w2' ⟨rfl,rfl⟩
 have PH:qi bs=decide (be 4 (sum ((bs.drop 0).take k))=(bs.drop k).take 4):=by
  have:=HK.o;have:=HN.o;have:=Gm.o;unfold qi;rw [show bs.length-4=k by omega,List.drop_zero,List.take_of_length_le (l:=bs.drop k) (by rw [List.length_drop];omega)]
 rw [←PH];clear PH;dsimp only;(try simp only [ai]);cases hq:qi bs with
 | false =>
   (refine bk [12,13] ?_;simp only [pick,xG];(iterate 2 still_step);refine wpStill_nil ?_);(refine bk [14,16] ?_;simp only [pick,xG];(iterate 2 still_step);refine wpStill_nil ?_);(try simp only [ai]);(refine Bx 15 (by kernel_rfl) (by rfl) ?_;(try simp only [ai]));(refine Bx 17 (by kernel_rfl) (by rfl) ?_;(try simp only [ai]));(refine Bx 18 (by kernel_rfl) (by rfl) ?_;(try simp only [ai]));(refine bk [19] ?_;simp only [pick,xG];(iterate 1 still_step);refine wpStill_nil ?_);refine cw ?_;go_wp2_with (refine aB rfl 26 (.tmp 2) (.tmp 43) rfl w.heap.size 0 gA rfl rfl (De.o) (by kernel_rfl) (by simp) (by simp [Value.oneCell']) eo (by simp) ?_);have hk:=gz (Kept.refl (fun i=>i=w.heap.size) w2') (g:=w.heap.size) (Or.inl rfl) gA;refine bodyPost_ret (aL rfl _ _ w.heap.size _ _ _ _ _ rfl rfl (De.o.setRow eo) Tryz.underlying26 rfl (by kernel_rfl)) rfl ?_;exact ⟨aq.none,none,0,10,rfl,⟨rfl,.inl ⟨rfl,rfl⟩⟩,aO.o.trans (hk.below aO.o.size (fun i h e=>by have e':i=w.heap.size:=e;omega)),by simp [MN,hq]⟩
 | true =>
   (refine bk [12,13] ?_;simp only [pick,xG];(iterate 2 still_step);refine wpStill_nil ?_);(refine bk [14,16] ?_;simp only [pick,xG];(iterate 2 still_step);refine wpStill_nil ?_);(try simp only [ai]);(refine aK 15 ?_;(try simp only [xG]);go_simp);refine (I9 w2' _ m c ((bs.drop 0).take m) (by have:=HN.o;have:=Gm.o;rw [fW,List.length_drop];omega) (by omega) (fun z hz=>cG z (List.mem_of_mem_drop (List.mem_of_mem_take hz))) abb.o).mono ?_;rintro e w3 ⟨g3,rfl,dk,hb⟩;have bM:=af (aO.o.trans (hb.mono aO.o.size));have Gg:=af (De.o.below hb De.o.lt);have ac5:=af ((abb.o.below hb).more hb.size);have ac6:=af ((ac7.o.below hb).more hb.size);have sY:=af dk;clear hb dk;dsimp only;(try simp only [ai]);(refine aK 17 ?_;(try simp only [xG]);go_simp);refine (EG w3 _ _ 32 (k-m) 32 (c-m) (gG ((bs.drop 0).take m)) ((bs.drop m).take 32) (rS _) (by have:=HK.o;have:=HN.o;have:=Gm.o;rw [fW,List.length_drop];omega) (by omega) (by have:=HK.o;have:=Gm.o;omega) (CZ _) (fun z hz=>cG z (List.mem_of_mem_drop (List.mem_of_mem_take hz))) sY.o ac6.o).mono ?_;rintro e w3' ⟨rfl,rfl⟩
   have yt:qs bs=decide (gG ((bs.drop 0).take m)=(bs.drop m).take 32):=by
    have:=HK.o;have:=HN.o;have:=Gm.o;unfold qs;rw [show bs.length-36=m by omega,List.drop_zero]
   rw [←yt];clear yt;dsimp only;(try simp only [ai]);(refine bk [18] ?_;simp only [pick,xG];(iterate 1 still_step);refine wpStill_nil ?_);(try simp only [ai]);cases hd:qs bs with
   | false =>
     (refine bk [19] ?_;simp only [pick,xG];(iterate 1 still_step);refine wpStill_nil ?_);refine cw ?_;go_wp2_with (refine aB rfl 26 (.tmp 2) (.tmp 43) rfl w.heap.size 0 gA rfl rfl (Gg.o) (by kernel_rfl) (by simp) (by simp [Value.oneCell']) eo (by simp) ?_);have hk:=gz (Kept.refl (fun i=>i=w.heap.size) w3') (g:=w.heap.size) (Or.inl rfl) gA;refine bodyPost_ret (aL rfl _ _ w.heap.size _ _ _ _ _ rfl rfl (Gg.o.setRow eo) Tryz.underlying26 rfl (by kernel_rfl)) rfl ?_;exact ⟨aq.none,none,0,10,rfl,⟨rfl,.inl ⟨rfl,rfl⟩⟩,bM.o.trans (hk.below bM.o.size (fun i h e=>by have e':i=w.heap.size:=e;omega)),by simp [MN,hq,hd]⟩
   | true =>
     (refine bk [19] ?_;simp only [pick,xG];(iterate 1 still_step);refine wpStill_nil ?_);refine cw ?_;go_wp2_with fail;refine (hp w3' ac5.o).mono ?_;rintro e w4 ⟨j,A',c',er,rfl,ho,hb,hR⟩;have fD:=af (bM.o.trans (hb.mono bM.o.size));have Xt:=af (Gg.o.below hb Gg.o.lt);have HO:=af ho;have TZ:=af Gg.o.lt;clear ho hb;simp only [aq.val];go_wp2_with (refine aB rfl 26 (.tmp 2) (.tmp 46) rfl w.heap.size 0 #[ae aa j.part,ae aa j.version,ae aa j.aV,ae aa j.mem,ae aa j.fuel,ae aa j.aM,ae aa j.ax,.slice A' j.code.length c'] rfl rfl Xt.o (by kernel_rfl) (by simp) (by simp [Value.oneCell']) [ae aa j.part,ae aa j.version,ae aa j.aV,ae aa j.mem,ae aa j.fuel,ae aa j.aM,ae aa j.ax,.slice A' j.code.length c'] (by simp) ?_);have hk:=gz (Kept.refl (fun i=>i=w.heap.size) w4) (g:=w.heap.size) (Or.inl rfl) #[ae aa j.part,ae aa j.version,ae aa j.aV,ae aa j.mem,ae aa j.fuel,ae aa j.aM,ae aa j.ax,.slice A' j.code.length c'];have ho:=hk.own HO.o (fun k h e=>by have e':k=w.heap.size:=e;have:=GI HO.o k h;have:=TZ.o;omega);refine bodyPost_ret (aL rfl _ _ w.heap.size _ _ _ _ _ rfl rfl (Xt.o.setRow [ae aa j.part,ae aa j.version,ae aa j.aV,ae aa j.mem,ae aa j.fuel,ae aa j.aM,ae aa j.ax,.slice A' j.code.length c']) Tryz.underlying26 rfl (by kernel_rfl)) rfl ?_;exact ⟨j,A',c',er,rfl,ho.mono (by have:=bM.o.size;omega),fD.o.trans (hk.below fD.o.size (fun i h e=>by have e':i=w.heap.size:=e;omega)),by simp [MN,hq,hd,hR]⟩
theorem zG (b:List Int):(fS b).length=b.length+36:=by simp [fS,rS,bp]
theorem O8 (b:List Int):qi (fS b)=true:=by
 have h1:(fS b).length-4=(b++gG b).length:=by rw [zG];simp [rS]
 unfold qi;rw [h1,show fS b=(b++gG b)++be 4 (sum (b++gG b)) from rfl,List.take_left,List.drop_left];simp
theorem Pa (b:List Int):qs (fS b)=true:=by
 have h1:(fS b).length-36=b.length:=by rw [zG];omega
 unfold qs;rw [h1,show fS b=b++(gG b++be 4 (sum (b++gG b))) by simp [fS],List.take_left,List.drop_left,List.take_left' (rS b)];simp
theorem MV (b:List Int):(fS b).take b.length=b:=by
 rw [show fS b=b++(gG b++be 4 (sum (b++gG b))) by simp [fS],List.take_left]
theorem C8 {a b:List Int} (ha:bn a) (hb:bn b):bn (a++b):=fun z hz=>by
 rcases List.mem_append.1 hz with h|h
 ·exact ha z h
 ·exact hb z h
theorem vd (b:List Int) (h:bn b):bn (fS b):=C8 (C8 h (CZ b)) (qO _ _)
theorem nS (i:aq):i.bytes.length=49+i.code.length:=by rw [aq.bytes,zG,wP];omega
end image
namespace image
open Go.RowKit Go.Deep base obj mem sep bC num bytes aW chain
section
variable {bs:List Int} {B R:Nat} {w:World}
def rdNum (k:Nat):Option (List Int)→Nat×Option (List Int)
 | .none=>(0,.none)
 | .some b=>if b.length < k then (0,.none) else (val (b.take k),.some (b.drop k))
def eZ:Option (List Int)→List Int×Option (List Int)
 | .none=>([],.none)
 | .some b=>if b.length < 2∨b.length < 2+val (b.take 2) then ([],.none) else ((b.drop 2).take (val (b.take 2)),.some ((b.drop 2).drop (val (b.take 2))))
def ml:Option (List Int)→Int
 | .none=>1
 | .some b=>if b.length=0 then 0 else 2
def lj (s0:Option (List Int)):aq×Option (List Int) :=
 let x1:=rdNum 1 s0
 let x2:=rdNum 2 x1.2
 let x3:=rdNum 2 x2.2
 let x4:=rdNum 1 x3.2
 let x5:=rdNum 1 x4.2
 let x6:=rdNum 1 x5.2
 let x7:=rdNum 1 x6.2
 let x8:=eZ x7.2
 (⟨x1.1,x2.1,x3.1,x4.1,x5.1,x6.1,x7.1,x8.1⟩,x8.2)
def kQ (b:List Int):aq×Int :=
 if (rdNum 2 (.some b)).1≠19529 then (aq.none,2)
 else if ml (lj (rdNum 2 (.some b)).2).2≠0 then (aq.none,ml (lj (rdNum 2 (.some b)).2).2)
 else if (lj (rdNum 2 (.some b)).2).1.right then ((lj (rdNum 2 (.some b)).2).1,0) else (aq.none,3)
def b8 (b:List Int):aq×Int:=if b.length < 36 then (aq.none,1) else if qi b&&qs b then kQ (b.take (b.length-36)) else (aq.none,10)
def Re (w:World) (B R:Nat):Prop:=∃A n c,Row w R 255 [.slice A n c,ae aa 1]∧B≤R
def RX (w:World) (B R:Nat):Option (List Int)→Prop
 | .none=>Re w B R
 | .some b=>Rd w B R b∧bn b∧b.length≤100000
theorem RX.lt {w:World} {B R:Nat} {s:Option (List Int)} (h:RX w B R s):R < w.heap.size∧B≤R:=by
 cases s with
 | none=>obtain ⟨A,n,c,h,hb⟩:=h;exact ⟨h.lt,hb⟩
 | some b=>exact ⟨h.1.lt,h.1.base⟩
theorem RX.kept {w w':World} {B R:Nat} {s:Option (List Int)} {S:Nat→Prop} (h:RX w B R s) (k:Kept S w w') (hS:∀i,B≤i→i≤R→¬S i):RX w' B R s:=by
 cases s with
 | none=>obtain ⟨A,n,c,h,hb⟩:=h;exact ⟨A,n,c,h.kept k (hS R hb (Nat.le_refl _)),hb⟩
 | some b=>exact ⟨h.1.kept k hS,h.2⟩
theorem RX.below {w':World} {s:Option (List Int)} (h:RX w B R s) (k:Below w.heap.size w w'):RX w' B R s :=
 h.kept (Kept.oh k (fun _=>False)) fun _ _ _ h=>h
theorem EY (h:Re w B R):Calls Tryz.prog 182 #[.pointer (some ⟨R,0,none⟩)] w fun e w'=>e=.returned (.bool false)∧w'=w:=by
 obtain ⟨A,n,c,h,_⟩:=h;have c1:=h.c1;clear h;go_enter Tryz.func182,Tryz.ntmps182;go_wp2_with fail;go_ret;exact ⟨rfl,rfl⟩
theorem Ou (h:Re w B R) (n:Int):Calls Tryz.prog 181 #[.pointer (some ⟨R,0,none⟩),ae aa n] w fun e w'=>e=.returned (.slice none 0 0)∧w'=w:=by
 have HW:=af (EY h);clear h;go_enter Tryz.func181,Tryz.ntmps181;go_wp2_with fail;refine HW.o.mono ?_;rintro e w' ⟨rfl,rfl⟩;go_wp2_with fail;go_ret;exact ⟨rfl,rfl⟩
theorem Y5 (h:Rd w B R bs):Calls Tryz.prog 181 #[.pointer (some ⟨R,0,none⟩),ae aa 0] w fun e w'=>e=.returned (.slice none 0 0)∧w'=w:=by
 have HW:=af (kM h);clear h;go_enter Tryz.func181,Tryz.ntmps181;go_wp2_with fail;refine HW.o.mono ?_;rintro e w' ⟨rfl,rfl⟩;go_wp2_with fail;go_ret;exact ⟨rfl,rfl⟩
theorem YT (h:Rd w B R bs):Calls Tryz.prog 183 #[.pointer (some ⟨R,0,none⟩),ae aa 1] w fun e w'=>e=.returned (.tuple #[])∧Re w' B R∧Kept (fun i=>i=R) w w':=by
 have HW:=af (kM h);obtain ⟨A,c,e,_⟩:=h.cell;have hr:Row w R 255 [.slice A bs.length c,ae aa 0]:=e;have HR:=af hr;have HB:=af h.base;have hf:=hr.frozen 1;have z1:=hr.c1;have hl:=hr.lt;clear h e hr;go_enter Tryz.func183,Tryz.ntmps183;go_wp2_with fail;refine HW.o.mono ?_;rintro e w' ⟨rfl,rfl⟩;go_wp2_with fail
 go_end0
 exact ⟨rfl,⟨A,_,c,HR.o.setCell 1 (ae aa 1),HB.o⟩,(Kept.refl (fun i=>i=R) w').setCell (p:=⟨R,1,none⟩) (.inl rfl) _⟩
theorem Ao (h:Rd w B R bs) (n:Nat) (h0:0 < n) (hn:bs.length < n):Calls Tryz.prog 181 #[.pointer (some ⟨R,0,none⟩),ae aa n] w fun e w'=>e=.returned (.slice none 0 0)∧Re w' B R∧Kept (fun i=>i=R) w w':=by
 have HW:=af (kM h);have HF:=af (YT h);obtain ⟨A,c,e,_⟩:=h.cell;have hr:Row w R 255 [.slice A bs.length c,ae aa 0]:=e;have c0:=hr.c0;have i0:¬(n:Int)≤0:=by omega
 have i1:(bs.length:Int) < (n:Int):=by omega
 clear h e hr;go_enter Tryz.func181,Tryz.ntmps181;go_wp2_with fail;refine HW.o.mono ?_;rintro e w' ⟨rfl,rfl⟩;go_wp2_with fail;refine HF.o.mono ?_;rintro e w1 ⟨rfl,h1,h2⟩;have H:=af (And.intro h1 h2);clear h1 h2 c0;go_wp2_with fail;go_ret;exact ⟨rfl,H.o⟩
theorem KP {Q:World→Prop} (k:Nat) (h1:1≤k) (h6:k≤6)
  (h:Calls Tryz.prog 181 #[.pointer (some ⟨R,0,none⟩),ae aa k] w fun e w'=>e=.returned (.slice none 0 0)∧Q w') :
  Calls Tryz.prog 144 #[.pointer (some ⟨R,0,none⟩),ae aa k] w fun e w'=>e=.returned (ae aa 0)∧Q w':=by
 have HH:=af h;clear h;go_enter Tryz.func144,Tryz.ntmps144;go_wp2_with fail;refine (GZ _ k h1 h6).mono ?_;rintro e w' ⟨rfl,rfl⟩;go_wp2_with fail;refine HH.o.mono ?_;rintro e w1 ⟨rfl,hq⟩;have HQ:=af hq;clear hq;go_wp2_with fail;go_loopw [16,6] (fun i s wr=>i=ae aa 0∧s=ae aa 0∧wr=w1) (fun i _ _=>0)
 case atStart=>exact ⟨rfl,rfl,rfl⟩
 case round =>
  obtain ⟨rfl,rfl,rfl⟩:=hrel;go_wp2_with fail;go_ret;exact ⟨rfl,HQ.o⟩
theorem vn {s:Option (List Int)} (h:RX w B R s) (k:Nat) (h1:1≤k) (h6:k≤6):Calls Tryz.prog 144 #[.pointer (some ⟨R,0,none⟩),ae aa k] w fun e w'=>e=.returned (ae aa ((rdNum k s).1:Nat))∧RX w' B R (rdNum k s).2∧Kept (fun i=>i=R) w w':=by
 cases s with
 | none=>exact KP k h1 h6 ((Ou h k).mono fun e w' ⟨h1,h2⟩=>⟨h1,by rw [h2];exact h,by rw [h2];exact Kept.refl _ _⟩)
 | some b =>
   by_cases hk:b.length < k
   ·rw [show rdNum k (some b)=(0,none) from if_pos hk];exact KP k h1 h6 (Ao h.1 k (by omega) hk)
   ·rw [show rdNum k (some b)=(val (b.take k),some (b.drop k)) from if_neg hk];exact (ub h.1 k h1 h6 (by omega) h.2.2 h.2.1).mono fun e w' ⟨e1,e2,e3⟩=>⟨e1,⟨e2,fun z hz=>h.2.1 z (List.mem_of_mem_drop hz),by rw [List.length_drop];have:=h.2.2;omega⟩,e3⟩
theorem Re.cells (h:Re w B R):∃A n c,Row w R 255 [.slice A n c,ae aa 1]∧B≤R:=h
theorem Zu (h:Re w B R) (o9:Int):Calls Tryz.prog 145 #[.pointer (some ⟨R,0,none⟩),ae aa o9] w fun e w'=>e=.returned (.slice none 0 0)∧w'=w:=by
 have HW:=af (EY h);clear h;go_enter Tryz.func145,Tryz.ntmps145;go_wp2_with fail;refine HW.o.mono ?_;rintro e w1 ⟨rfl,rfl⟩;go_wp2_with fail;go_ret;exact ⟨rfl,rfl⟩
theorem OS (h:Rd w B R bs) (hs:bs.length < 2) (o9:Int):Calls Tryz.prog 145 #[.pointer (some ⟨R,0,none⟩),ae aa o9] w fun e w'=>e=.returned (.slice none 0 0)∧Re w' B R∧Kept (fun i=>i=R) w w':=by
 have HW:=af (kM h);have HN:=af (KP 2 (by omega) (by omega) (Ao h 2 (by omega) hs));obtain ⟨A,c,e,_⟩:=h.cell;have c0:w.cell? ⟨R,0,none⟩=some (.slice A bs.length c):=by simp [World.cell?,e]
 clear h e;go_enter Tryz.func145,Tryz.ntmps145;go_wp2_with fail;refine HW.o.mono ?_;rintro e w1 ⟨rfl,rfl⟩;go_wp2_with fail;refine HN.o.mono ?_;rintro e w2 ⟨rfl,hr,hk⟩;have jf:=af (EY hr);have aO:=af (Ou hr 0);obtain ⟨A2,n2,c2,mL,bT⟩:=hr;have dK:=af mL;have HB:=af bT;have HK:=af hk;have f2:=mL.frozen 0;have z2:=mL.c0;have l2:=mL.lt;clear mL hk c0;go_wp2_with fail;refine jf.o.mono ?_;rintro e w3 ⟨rfl,rfl⟩;go_wp2_with fail;refine aO.o.mono ?_;rintro e w3 ⟨rfl,rfl⟩;go_wp2_with fail;refine jf.o.mono ?_;rintro e w3 ⟨rfl,rfl⟩;go_wp2_with fail;go_ret;exact ⟨rfl,⟨A,_,c,dK.o.setCell 0 _,HB.o⟩,HK.o.setCell (p:=⟨R,0,none⟩) (.inl rfl) _⟩
theorem Q4 (h:Rd w B R bs) (n:Nat) (hn:val (bs.take 2)=n) (h1:1≤n) (h2:2≤bs.length) (h3:bs.length < 2+n) (hm:bs.length≤100000) (cG:bn bs) (o9:Int) (hl:(n:Int)≤o9):Calls Tryz.prog 145 #[.pointer (some ⟨R,0,none⟩),ae aa o9] w fun e w'=>e=.returned (.slice none 0 0)∧Re w' B R∧Kept (fun i=>i=R) w w':=by
 have HW:=af (kM h);have HN:=af (ub h 2 (by omega) (by omega) (by omega) hm cG);obtain ⟨A,c,e,_⟩:=h.cell;have c0:w.cell? ⟨R,0,none⟩=some (.slice A bs.length c):=by simp [World.cell?,e]
 clear h e;go_enter Tryz.func145,Tryz.ntmps145;go_wp2_with fail;refine HW.o.mono ?_;rintro e w1 ⟨rfl,rfl⟩;go_wp2_with fail;refine HN.o.mono ?_;rintro e w2 ⟨rfl,hr,hk⟩;rw [hn];have nY:=af hk;have jf:=af (kM hr);have aO:=af (Ao hr n (by omega) (by rw [List.length_drop];omega));have hng:¬o9 < (n:Int):=by omega
 clear hr hk c0;go_wp2_with fail;refine jf.o.mono ?_;rintro e w3 ⟨rfl,rfl⟩;go_wp2_with fail;refine aO.o.mono ?_;rintro e w4 ⟨rfl,sS,NY⟩;have kL:=af (EY sS);obtain ⟨A2,n2,c2,mL,bT⟩:=sS;have dK:=af mL;have HB:=af bT;have HK:=af (nY.o.trans NY (fun _ h=>h) (fun _ h _=>h));have f2:=mL.frozen 0;have z2:=mL.c0;have l2:=mL.lt;clear mL NY;go_wp2_with fail;refine kL.o.mono ?_;rintro e w5 ⟨rfl,rfl⟩;go_wp2_with fail;go_ret;exact ⟨rfl,⟨A,_,c,dK.o.setCell 0 _,HB.o⟩,HK.o.setCell (p:=⟨R,0,none⟩) (.inl rfl) _⟩
theorem Zv (h:Rd w B R bs) (hn:val (bs.take 2)=0) (h2:2≤bs.length) (hm:bs.length≤100000) (cG:bn bs) (o9:Int) (hl:0≤o9):Calls Tryz.prog 145 #[.pointer (some ⟨R,0,none⟩),ae aa o9] w fun e w'=>e=.returned (.slice none 0 0)∧Rd w' B R (bs.drop 2)∧Kept (fun i=>i=R) w w':=by
 have HW:=af (kM h);have HN:=af (ub h 2 (by omega) (by omega) (by omega) hm cG);obtain ⟨A,c,e,_⟩:=h.cell;have c0:w.cell? ⟨R,0,none⟩=some (.slice A bs.length c):=by simp [World.cell?,e]
 clear h e;go_enter Tryz.func145,Tryz.ntmps145;go_wp2_with fail;refine HW.o.mono ?_;rintro e w1 ⟨rfl,rfl⟩;go_wp2_with fail;refine HN.o.mono ?_;rintro e w2 ⟨rfl,hr,hk⟩;rw [hn];have nY:=af hk;have dK:=af hr;have jf:=af (kM hr);have aO:=af (Y5 hr);have hng:¬o9 < ((0:Nat):Int):=by omega
 have adU:¬o9 < (0:Int):=by omega
 clear hr hk c0;go_wp2_with fail;refine jf.o.mono ?_;rintro e w3 ⟨rfl,rfl⟩;go_wp2_with fail;refine aO.o.mono ?_;rintro e w4 ⟨rfl,rfl⟩;go_wp2_with fail;refine jf.o.mono ?_;rintro e w5 ⟨rfl,rfl⟩;go_wp2_with fail;go_ret;exact ⟨rfl,dK.o,nY.o⟩
theorem Pn {s:Option (List Int)} (h:RX w B R s):(eZ s).1.length≤100000:=by
 cases s with
 | none=>simp [eZ]
 | some b =>
   unfold eZ;dsimp only;split
   ·simp
   ·rw [fW,List.length_drop];have:=h.2.2;omega
theorem jk (w:World) (B:Nat):w.ownsRow B 5 1 (.slice none 0 0) 0 (aP []):=⟨rfl,.inl ⟨rfl,rfl⟩⟩
theorem Zt {s:Option (List Int)} (h:RX w B R s) (o9:Int) (hl:65535≤o9):Calls Tryz.prog 145 #[.pointer (some ⟨R,0,none⟩),ae aa o9] w fun e w'=>∃A c,e=.returned (.slice A (eZ s).1.length c)∧w'.ownsRow w.heap.size 5 1 (.slice A (eZ s).1.length c) (eZ s).1.length (aP (eZ s).1)∧RX w' B R (eZ s).2∧Kept (fun i=>i=R) w w':=by
 cases s with
 | none=>exact (Zu h o9).mono fun e w' ⟨h1,h2⟩=>⟨none,0,h1,jk _ _,by rw [h2];exact h,by rw [h2];exact Kept.refl _ _⟩
 | some b =>
   obtain ⟨hd,cG,hm⟩:=h;by_cases h2:b.length < 2
   ·rw [show eZ (some b)=([],none) from if_pos (.inl h2)];exact (OS hd h2 o9).mono fun e w' ⟨h1,h2⟩=>⟨none,0,h1,jk _ _,h2⟩
   ·have hv:=sj (b.take 2) fun y hy=>cG y (List.mem_of_mem_take hy);rw [fW,Nat.min_eq_left (by omega)] at hv;obtain ⟨n,hn⟩:=xE (val (b.take 2));rw [←hn] at hv;by_cases h3:b.length < 2+n
    ·rw [show eZ (some b)=([],none) from if_pos (.inr (by rw [←hn];exact h3))];exact (Q4 hd n hn.symm (by omega) (by omega) h3 hm cG o9 (by omega)).mono fun e w' ⟨h1,h2⟩=>⟨none,0,h1,jk _ _,h2⟩
    ·rw [show eZ (some b)=((b.drop 2).take n,some ((b.drop 2).drop n)) by rw [hn];exact if_neg (by rw [←hn];omega)];have hX:∀w',Rd w' B R ((b.drop 2).drop n)→RX w' B R (some ((b.drop 2).drop n)):=fun w' h=>⟨h,fun z hz=>cG z (List.mem_of_mem_drop (List.mem_of_mem_drop hz)),by rw [List.length_drop,List.length_drop];omega⟩
     have hlen:((b.drop 2).take n).length=n:=by rw [fW,List.length_drop];omega
     by_cases h0:n=0
     ·subst h0;refine (Zv hd hn.symm (by omega) hm cG o9 (by omega)).mono fun e w' ⟨h1,h2,h3⟩=>⟨none,0,by rw [h1,hlen],?_,hX w' h2,h3⟩
      rw [hlen,List.take_zero];exact jk _ _
     ·refine (Ei hd n hn.symm (by omega) (by omega) hm cG o9 (by omega)).mono fun e w' ⟨v,h1,h2,h3,h4⟩=>?_;obtain ⟨A,c,rfl,_,_⟩:=aD h2;exact ⟨A,c,by rw [h1,hlen],by rw [hlen];exact h2,hX w' h3,h4⟩
theorem abT (h:Re w B R):Calls Tryz.prog 146 #[.pointer (some ⟨R,0,none⟩)] w fun e w'=>e=.returned (ae aa 1)∧w'=w:=by
 obtain ⟨A,n,c,h,_⟩:=h;have c0:=h.c0;have c1:=h.c1;clear h;go_enter Tryz.func146,Tryz.ntmps146;go_wp2_with fail;go_ret;exact ⟨rfl,rfl⟩
theorem Wc (h:Rd w B R bs) (h0:0 < bs.length):Calls Tryz.prog 146 #[.pointer (some ⟨R,0,none⟩)] w fun e w'=>e=.returned (ae aa 2)∧w'=w:=by
 obtain ⟨A,c,e,_⟩:=h.cell;have c0:w.cell? ⟨R,0,none⟩=some (.slice A bs.length c):=by simp [World.cell?,e]
 have c1:w.cell? ⟨R,1,none⟩=some (ae aa 0):=by simp [World.cell?,e]
 have i0:(0:Int) < (bs.length:Int):=by omega
 clear h e;go_enter Tryz.func146,Tryz.ntmps146;go_wp2_with fail;go_ret;exact ⟨rfl,rfl⟩
theorem Xo {s:Option (List Int)} (h:RX w B R s):Calls Tryz.prog 146 #[.pointer (some ⟨R,0,none⟩)] w fun e w'=>e=.returned (ae aa (ml s))∧w'=w:=by
 cases s with
 | none=>exact abT h
 | some b =>
   by_cases h0:b.length=0
   ·obtain rfl:b=[]:=List.length_eq_zero_iff.1 h0;exact X8 h.1
   ·rw [show ml (some b)=2 from if_neg h0];exact Wc h.1 (by omega)
structure PX (w:World) (R:Nat) (xs:List Value) (s:Option (List Int)) (wk:World):Prop where
 rd:RX wk (w.heap.size+1) R s
 row:Row wk w.heap.size 26 xs
 aE:Below w.heap.size w wk
theorem PX.step {xs:List Value} {s s':Option (List Int)} {wk Bk:World} (h:PX w R xs s wk) (hr:RX Bk (w.heap.size+1) R s') (hk:Kept (fun i=>i=R) wk Bk):PX w R xs s' Bk where
 rd:=hr
 row:=h.row.kept hk (by have:=h.rd.lt;omega)
 aE:=h.aE.trans (hk.below h.aE.size (fun i hi e=>by have:=h.rd.lt;omega))
theorem Yi (w:World) (b:List Int) (n:Nat) (hn:b.length=n) (hm:n≤90000) (cG:bn b) (A:Option Addr) (c:Nat) (hs:Sl w w.heap.size 1 A n (aP b)) :
  Calls Tryz.prog 99 #[.slice A n c] w fun e w'=>∃(j:aq) (A':Option Addr) (c':Nat) (er:Int),e=.returned (.tuple #[j.val A' c',ae aa er])∧w'.ownsRow w.heap.size 5 1 (.slice A' j.code.length c') j.code.length (aP j.code)∧Below w.heap.size w w'∧(j,er)=kQ b:=by
 obtain ⟨z0,kJ⟩:=xE (rdNum 2 (some b));have hP:kQ b=if z0.1≠19529 then (aq.none,2) else if ml (lj z0.2).2≠0 then (aq.none,ml (lj z0.2).2) else if (lj z0.2).1.right then ((lj z0.2).1,0) else (aq.none,3):=by rw [kQ,←kJ]
 have lH:=(Below.refl w.heap.size w).alloc (Nat.le_refl _) (.cells gA 26);have bo:=Row.new w 26 gA;have px:=af (yG (w.alloc (.cells gA 26)) A n c b hn ((hs.below lH).more lH.size) (by omega));have fE:=af lH;have hM:=af bo;have HP:=af hP;have HZ:=af kJ;have lM:=af cG;have ch:=af (show b.length≤100000 by omega);clear lH bo hs hP kJ cG;go_enter Tryz.func99,Tryz.ntmps99;go_wp2_with fail;refine px.o.mono ?_;rintro e w1 ⟨R,rfl,bQ,nA⟩;rw [show (w.alloc (.cells gA 26)).heap.size=w.heap.size+1 from Array.size_push _] at bQ;have P1:=af (show PX w R eo (some b) w1 from ⟨⟨bQ,lM.o,ch.o⟩,hM.o.below nA hM.o.lt,fE.o.trans (nA.mono fE.o.size)⟩);clear bQ nA;go_wp2_with fail;refine (vn P1.o.rd 2 (by omega) (by omega)).mono ?_;rintro e w2 ⟨rfl,bQ,hk⟩;rw [←HZ.o] at bQ ⊢;have P2:=af (P1.o.step bQ hk);clear bQ hk;obtain ⟨m0,s0⟩:=z0;dsimp only at P2 HP ⊢;by_cases BP:m0=19529
 case neg =>
  have hmi:¬((m0:Int)=19529):=by omega
  have adZ:((m0:Int)==19529)=false:=by simpa using hmi
  have adY:((m0:Int) != 19529)=true:=by simpa using hmi
  have HE:=af (show kQ b=(aq.none,2) by rw [HP.o];exact if_pos BP);have HX:=af P2.o.row;go_wp2_with (refine aB rfl 26 (.tmp 2) (.tmp 12) rfl w.heap.size 0 gA rfl rfl P2.o.row (by kernel_rfl) (by simp) (by simp [Value.oneCell']) eo (by simp) ?_);have hk:=gz (Kept.refl (fun i=>i=w.heap.size) w2) (g:=w.heap.size) (Or.inl rfl) gA;refine bodyPost_ret (aL rfl _ _ w.heap.size _ _ _ _ _ rfl rfl ((P2.o.row).setRow eo) Tryz.underlying26 rfl (by kernel_rfl)) rfl ?_;exact ⟨aq.none,none,0,_,rfl,⟨rfl,.inl ⟨rfl,rfl⟩⟩,(P2.o.aE).trans (hk.below (P2.o.aE).size (fun i h e=>by have e':i=w.heap.size:=e;omega)),(HE.o).symm⟩
 case pos =>
  subst BP;have hP:=HP.o;rw [if_neg (by simp)] at hP;obtain ⟨I,hI⟩:=xE (lj s0);rw [←hI] at hP;have HI:=af hI;have Cl:=af hP;clear hP hI;go_wp2_with fail;refine (vn P2.o.rd 1 (by omega) (by omega)).mono ?_;rintro e w3 ⟨rfl,bQ,hk⟩;have P3:=af (P2.o.step bQ hk);clear bQ hk;obtain ⟨n1,FK⟩:∃v,v=(rdNum 1 s0).1:=⟨_,rfl⟩
  obtain ⟨s1,j8⟩:∃v,v=(rdNum 1 s0).2:=⟨_,rfl⟩
  rw [←j8] at P3;rw [←FK];have TX:=af FK;have nX:=af j8;clear FK j8;go_wp2_with fail;refine (vn P3.o.rd 2 (by omega) (by omega)).mono ?_;rintro e w4 ⟨rfl,bQ,hk⟩;have P4:=af (P3.o.step bQ hk);clear bQ hk;obtain ⟨n2,ID⟩:∃v,v=(rdNum 2 s1).1:=⟨_,rfl⟩
  obtain ⟨s2,pK⟩:∃v,v=(rdNum 2 s1).2:=⟨_,rfl⟩
  rw [←pK] at P4;rw [←ID];have zr:=af ID;have iy:=af pK;clear ID pK;go_wp2_with fail;refine (vn P4.o.rd 2 (by omega) (by omega)).mono ?_;rintro e w5 ⟨rfl,bQ,hk⟩;have P5:=af (P4.o.step bQ hk);clear bQ hk;obtain ⟨n3,hn3⟩:∃v,v=(rdNum 2 s2).1:=⟨_,rfl⟩
  obtain ⟨s3,yV⟩:∃v,v=(rdNum 2 s2).2:=⟨_,rfl⟩
  rw [←yV] at P5;rw [←hn3];have HN3:=af hn3;have Gf:=af yV;clear hn3 yV;go_wp2_with fail;refine (vn P5.o.rd 1 (by omega) (by omega)).mono ?_;rintro e w6 ⟨rfl,bQ,hk⟩;have P6:=af (P5.o.step bQ hk);clear bQ hk;obtain ⟨n4,y9⟩:∃v,v=(rdNum 1 s3).1:=⟨_,rfl⟩
  obtain ⟨s4,hs4⟩:∃v,v=(rdNum 1 s3).2:=⟨_,rfl⟩
  rw [←hs4] at P6;rw [←y9];have HN4:=af y9;have uw:=af hs4;clear y9 hs4;go_wp2_with fail;refine (vn P6.o.rd 1 (by omega) (by omega)).mono ?_;rintro e w7 ⟨rfl,bQ,hk⟩;have P7:=af (P6.o.step bQ hk);clear bQ hk;obtain ⟨n5,hn5⟩:∃v,v=(rdNum 1 s4).1:=⟨_,rfl⟩
  obtain ⟨s5,hs5⟩:∃v,v=(rdNum 1 s4).2:=⟨_,rfl⟩
  rw [←hs5] at P7;rw [←hn5];have HN5:=af hn5;have sY:=af hs5;clear hn5 hs5;go_wp2_with fail;refine (vn P7.o.rd 1 (by omega) (by omega)).mono ?_;rintro e w8 ⟨rfl,bQ,hk⟩;have P8:=af (P7.o.step bQ hk);clear bQ hk;obtain ⟨n6,hn6⟩:∃v,v=(rdNum 1 s5).1:=⟨_,rfl⟩
  obtain ⟨s6,hs6⟩:∃v,v=(rdNum 1 s5).2:=⟨_,rfl⟩
  rw [←hs6] at P8;rw [←hn6];have HN6:=af hn6;have sX:=af hs6;clear hn6 hs6;go_wp2_with fail;refine (vn P8.o.rd 1 (by omega) (by omega)).mono ?_;rintro e w9 ⟨rfl,bQ,hk⟩;have P9:=af (P8.o.step bQ hk);clear bQ hk;obtain ⟨n7,hn7⟩:∃v,v=(rdNum 1 s6).1:=⟨_,rfl⟩
  obtain ⟨s7,hs7⟩:∃v,v=(rdNum 1 s6).2:=⟨_,rfl⟩
  rw [←hs7] at P9;rw [←hn7];have HN7:=af hn7;have HS7:=af hs7;clear hn7 hs7;go_wp2_with fail;obtain ⟨Q1,K9⟩:=xE (w9.alloc (.cells #[ae aa (n1:Nat),ae aa (n2:Nat),ae aa (n3:Nat),ae aa (n4:Nat),ae aa (n5:Nat),ae aa (n6:Nat),ae aa (n7:Nat),.slice none 0 0] 26));rw [←K9];have PN:Row Q1 w9.heap.size 26 [ae aa (n1:Nat),ae aa (n2:Nat),ae aa (n3:Nat),ae aa (n4:Nat),ae aa (n5:Nat),ae aa (n6:Nat),ae aa (n7:Nat),.slice none 0 0]:=by rw [K9];exact Row.new w9 _ _
  have Qa:=P9.o.step (Bk:=Q1) (by rw [K9];exact P9.o.rd.below ((Below.refl w9.heap.size w9).alloc (Nat.le_refl _) _)) (by rw [K9];exact (Kept.refl _ w9).alloc _);have hR5:=P9.o.rd.lt.1;clear K9;refine (Zt Qa.rd 65535 (by omega)).mono ?_;rintro e vT ⟨A',c',rfl,ho,bQ,hk⟩;obtain ⟨code,PS⟩:∃v,v=(eZ s7).1:=⟨_,rfl⟩
  obtain ⟨s8,hs8⟩:∃v,v=(eZ s7).2:=⟨_,rfl⟩
  have qC:=Pn Qa.rd;rw [←hs8] at bQ;rw [←PS] at ho qC ⊢
  have hII:I=(⟨(n1:Int),(n2:Int),(n3:Int),(n4:Int),(n5:Int),(n6:Int),(n7:Int),code⟩,s8):=by
   rw [HI.o,lj,PS,hs8,HS7.o,sX.o,sY.o,uw.o,Gf.o,iy.o,nX.o,HN7.o,HN6.o,HN5.o,HN4.o,HN3.o,zr.o,TX.o,sX.o,sY.o,uw.o,Gf.o,iy.o,nX.o]
  have HII:=af hII;clear hII PS hs8;have hob:∀k,(Value.slice A' code.length c').ownBlock=some k→Q1.heap.size≤k:=GI ho;have FE:=PN.kept hk (by intro h;exact Nat.ne_of_gt hR5 h);have aaO:=Qa.step bQ hk;have HL9:=af P9.o.row.lt;have WJ:=af PN.lt;have yf:=af hR5;clear hR5 PN Qa bQ hk;have f5:=FE.frozen 7;have n5':=FE.cell 7;simp only [List.getElem?_cons_succ,List.getElem?_cons_zero] at n5';have l5:=FE.lt;have HO:=af ho;have QJ:=af aaO;have sZ:=af FE;have OC:=af hob;clear ho aaO FE hob;go_wp2_with fail;obtain ⟨Nk,zY⟩:=xE (vT.setCell ⟨w9.heap.size,7,none⟩ (.slice A' code.length c'));rw [←zY];have GY:Kept (fun i=>i=w9.heap.size) vT Nk:=by rw [zY];exact Kept.setCell (Kept.refl (fun i=>i=w9.heap.size) vT) (Or.inl rfl) _
  have bo:=sZ.o.setCell 7 (.slice A' code.length c');rw [←zY] at bo;simp only [List.set_cons_succ,List.set_cons_zero] at bo;have Xa:=QJ.o.rd.kept GY (fun i h1 h2 e=>by have e':i=w9.heap.size:=e;have:=yf.o;omega);have aad:=QJ.o.row.kept GY (by intro h;exact absurd h (Nat.ne_of_lt HL9.o));have aaL:=QJ.o.aE.trans (GY.below QJ.o.aE.size (fun i h e=>by have e':i=w9.heap.size:=e;have:=HL9.o;omega));have aav:=GY.own HO.o (fun k h e=>by have e':k=w9.heap.size:=e;have:=OC.o k h;have:=WJ.o;omega);clear zY f5 n5' l5;refine (Xo Xa).mono ?_;rintro e E2 ⟨rfl,rfl⟩;have hM:=af bo;have HX:=af aad;have HB:=af aaL;have ke:=af aav;have aee:=af GY;have hP:=Cl.o;rw [HII.o] at hP;dsimp only at hP;obtain ⟨er,N9⟩:=xE (ml s8);rw [←N9] at hP ⊢;clear N9;have pz:=af hP;clear hP;have m0:=bo.cell 0;have m1:=bo.cell 1;have m2:=bo.cell 2;have m3:=bo.cell 3;have m4:=bo.cell 4;have m5:=bo.cell 5;have m6:=bo.cell 6;have m7:=bo.cell 7;simp only [List.getElem?_cons_succ,List.getElem?_cons_zero] at m0 m1 m2 m3 m4 m5 m6 m7;clear bo aad aaL aav GY Xa;by_cases h0:er=0
  case neg =>
   have HE:=af (show kQ b=(aq.none,er) by rw [pz.o];exact if_pos h0);have h0b:(er != 0)=true:=by simpa using h0
   have h0c:(er==0)=false:=by simpa using h0
   go_wp2_with (refine aB rfl 26 (.tmp 2) (.tmp 35) rfl w.heap.size 0 gA rfl rfl HX.o (by kernel_rfl) (by simp) (by simp [Value.oneCell']) eo (by simp) ?_);have hk:=gz (Kept.refl (fun i=>i=w.heap.size) E2) (g:=w.heap.size) (Or.inl rfl) gA;refine bodyPost_ret (aL rfl _ _ w.heap.size _ _ _ _ _ rfl rfl ((HX.o).setRow eo) Tryz.underlying26 rfl (by kernel_rfl)) rfl ?_;exact ⟨aq.none,none,0,_,rfl,⟨rfl,.inl ⟨rfl,rfl⟩⟩,(HB.o).trans (hk.below (HB.o).size (fun i h e=>by have e':i=w.heap.size:=e;omega)),(HE.o).symm⟩
  case pos =>
   subst h0;have hP:=pz.o;rw [if_neg (by simp)] at hP;have OB:=af hP;clear hP;go_wp2_with fail;obtain ⟨J,hJ⟩:∃J:aq,J=⟨(n1:Int),(n2:Int),(n3:Int),(n4:Int),(n5:Int),(n6:Int),(n7:Int),code⟩:=⟨_,rfl⟩
   have eR:=af (show Calls Tryz.prog 75 #[.agg #[ae aa (n1:Nat),ae aa (n2:Nat),ae aa (n3:Nat),ae aa (n4:Nat),ae aa (n5:Nat),ae aa (n6:Nat),ae aa (n7:Nat),.slice A' code.length c']] E2 fun e w'=>e=.returned (.bool (decide J.right))∧Below E2.heap.size E2 w' by
    rw [hJ]
    exact fR E2 ⟨(n1:Int),(n2:Int),(n3:Int),(n4:Int),(n5:Int),(n6:Int),(n7:Int),code⟩ A' c' (by simp only;omega))
   have hP:=OB.o;rw [←hJ] at hP;have HP4:=af hP;have HJ:=af hJ;clear hP hJ;refine eR.o.mono ?_;rintro e w14 ⟨rfl,BZ⟩;have bo:=hM.o.below BZ hM.o.lt;have QF:=af (HX.o.below BZ HX.o.lt);have QP:=af (HB.o.trans (BZ.mono HB.o.size));have adm:=af (mn ke.o BZ);clear m0 m1 m2 m3 m4 m5 m6 m7 BZ;have m0:=bo.cell 0;have m1:=bo.cell 1;have m2:=bo.cell 2;have m3:=bo.cell 3;have m4:=bo.cell 4;have m5:=bo.cell 5;have m6:=bo.cell 6;have m7:=bo.cell 7;simp only [List.getElem?_cons_succ,List.getElem?_cons_zero] at m0 m1 m2 m3 m4 m5 m6 m7;clear bo;by_cases hr:J.right
   case neg =>
    have HE:=af (show kQ b=(aq.none,3) by rw [HP4.o];exact if_neg hr);have bQ:decide J.right=false:=by simpa using hr
    rw [bQ];go_wp2_with (refine aB rfl 26 (.tmp 2) (.tmp 40) rfl w.heap.size 0 gA rfl rfl QF.o (by kernel_rfl) (by simp) (by simp [Value.oneCell']) eo (by simp) ?_);have hk:=gz (Kept.refl (fun i=>i=w.heap.size) w14) (g:=w.heap.size) (Or.inl rfl) gA;refine bodyPost_ret (aL rfl _ _ w.heap.size _ _ _ _ _ rfl rfl ((QF.o).setRow eo) Tryz.underlying26 rfl (by kernel_rfl)) rfl ?_;exact ⟨aq.none,none,0,_,rfl,⟨rfl,.inl ⟨rfl,rfl⟩⟩,(QP.o).trans (hk.below (QP.o).size (fun i h e=>by have e':i=w.heap.size:=e;omega)),(HE.o).symm⟩
   case pos =>
    have HE:=af (show kQ b=(J,0) by rw [HP4.o];exact if_pos hr);have bQ:decide J.right=true:=by simpa using hr
    rw [bQ];go_wp2_with (refine aB rfl 26 (.tmp 2) (.tmp 41) rfl w.heap.size 0 #[ae aa (n1:Nat),ae aa (n2:Nat),ae aa (n3:Nat),ae aa (n4:Nat),ae aa (n5:Nat),ae aa (n6:Nat),ae aa (n7:Nat),(.slice A' code.length c')] rfl rfl QF.o (by kernel_rfl) (by simp) (by simp [Value.oneCell']) [ae aa (n1:Nat),ae aa (n2:Nat),ae aa (n3:Nat),ae aa (n4:Nat),ae aa (n5:Nat),ae aa (n6:Nat),ae aa (n7:Nat),(.slice A' code.length c')] (by simp) ?_);have hk:=gz (Kept.refl (fun i=>i=w.heap.size) w14) (g:=w.heap.size) (Or.inl rfl) #[ae aa (n1:Nat),ae aa (n2:Nat),ae aa (n3:Nat),ae aa (n4:Nat),ae aa (n5:Nat),ae aa (n6:Nat),ae aa (n7:Nat),(.slice A' code.length c')];have acq:=hk.own adm.o (fun k h e=>by have e':k=w.heap.size:=e;have:=OC.o k h;have:=HL9.o;have:=WJ.o;omega);refine bodyPost_ret (aL rfl _ _ w.heap.size _ _ _ _ _ rfl rfl (QF.o.setRow [ae aa (n1:Nat),ae aa (n2:Nat),ae aa (n3:Nat),ae aa (n4:Nat),ae aa (n5:Nat),ae aa (n6:Nat),ae aa (n7:Nat),(.slice A' code.length c')]) Tryz.underlying26 rfl (by kernel_rfl)) rfl ?_;refine ⟨J,A',c',0,by rw [HJ.o];rfl,?_,QP.o.trans (hk.below QP.o.size (fun i h e=>by have e':i=w.heap.size:=e;omega)),HE.o.symm⟩;rw [HJ.o];exact acq.mono (by have:=HL9.o;have:=WJ.o;omega)
theorem Xk (w:World) (A:Option Addr) (c n:Nat) (bs:List Int) (hn:bs.length=n) (hm:n≤90000) (hc:n≤c) (cG:bn bs) (hs:Sl w w.heap.size 1 A n (aP bs)) :
  Calls Tryz.prog 54 #[.slice A n c] w fun e w'=>∃(j:aq) (A':Option Addr) (c':Nat) (er:Int),e=.returned (.tuple #[j.val A' c',ae aa er])∧w'.ownsRow w.heap.size 5 1 (.slice A' j.code.length c') j.code.length (aP j.code)∧Below w.heap.size w w'∧(j,er)=b8 bs:=by
 by_cases Oi:n < 36
 ·exact (S8 w A c n Oi).mono fun e w' ⟨h1,h2⟩=>⟨aq.none,none,0,1,h1,jk _ _,h2,by rw [b8,if_pos (by omega)]⟩
 ·obtain ⟨m,rfl⟩:∃m,n=m+36:=⟨n-36,by omega⟩
  refine (get_at (fun j er=>(j,er)=kQ (bs.take m)) w A c m (m+36) bs hn rfl (by omega) hc cG hs fun w' hs'=>?_).mono fun e w' ⟨j,A',c',er,h1,h2,h3,h4⟩=>⟨j,A',c',er,h1,h2,h3,?_⟩
  ·exact Yi w' (bs.take m) m (by rw [fW];omega) (by omega) (fun z hz=>cG z (List.mem_of_mem_take hz)) A c hs'
  ·rw [b8,if_neg (by omega),show bs.length-36=m by omega];unfold MN at h4;split at h4
   ·rw [if_pos (by assumption)];exact h4
   ·rw [if_neg (by assumption)];obtain ⟨rfl,rfl⟩:=h4;rfl
theorem mC {k m:Nat} (hm:m < 256 ^ k) (rest:List Int):rdNum k (some (be k m++rest))=(m,some rest):=by
 unfold rdNum;dsimp only;rw [if_neg (by rw [gC,bp];omega),List.take_left' (bp k m),List.drop_left' (bp k m),Bm k m hm]
theorem RD {code:List Int} (hm:code.length < 65536):eZ (some (be 2 code.length++code))=(code,some []):=by
 unfold eZ;dsimp only;rw [List.take_left' (bp 2 _),List.drop_left' (bp 2 _),Bm 2 _ (by omega),if_neg (by rw [gC,bp];omega),List.take_length,List.drop_length]
theorem Pv (i:aq) (hr:i.right):kQ i.head=(i,0):=by
 have sC:=hr;obtain ⟨part,version,aV,mem,fuel,aM,ax,code⟩:=i;obtain ⟨⟨a0,a1⟩,⟨b0,b1⟩,⟨c0,c1⟩,⟨d0,d1⟩,⟨e0,e1⟩,⟨f0,f1⟩,⟨g0,g1⟩,⟨h0,h1⟩⟩:=hr;simp only at *;obtain ⟨p,rfl⟩:∃p:Nat,part=p:=⟨part.toNat,by omega⟩
 obtain ⟨ve,rfl⟩:∃p:Nat,version=p:=⟨version.toNat,by omega⟩
 obtain ⟨ha,rfl⟩:∃p:Nat,aV=p:=⟨aV.toNat,by omega⟩
 obtain ⟨me,rfl⟩:∃p:Nat,mem=p:=⟨mem.toNat,by omega⟩
 obtain ⟨fu,rfl⟩:∃p:Nat,fuel=p:=⟨fuel.toNat,by omega⟩
 obtain ⟨se,rfl⟩:∃p:Nat,aM=p:=⟨aM.toNat,by omega⟩
 obtain ⟨re,rfl⟩:∃p:Nat,ax=p:=⟨ax.toNat,by omega⟩
 have hH:aq.head ⟨(p:Int),(ve:Int),(ha:Int),(me:Int),(fu:Int),(se:Int),(re:Int),code⟩=be 2 19529++(be 1 p++(be 2 ve++(be 2 ha++(be 1 me++(be 1 fu++(be 1 se++(be 1 re++(be 2 code.length++code)))))))):=by
  simp only [aq.head,dC,List.append_assoc]
 have hI:lj (some (be 1 p++(be 2 ve++(be 2 ha++(be 1 me++(be 1 fu++(be 1 se++(be 1 re++(be 2 code.length++code)))))))))=(⟨(p:Int),(ve:Int),(ha:Int),(me:Int),(fu:Int),(se:Int),(re:Int),code⟩,some []):=by
  unfold lj;simp only [mC (k:=1) (m:=p) (by omega),mC (k:=2) (m:=ve) (by omega),mC (k:=2) (m:=ha) (by omega),mC (k:=1) (m:=me) (by omega),mC (k:=1) (m:=fu) (by omega),mC (k:=1) (m:=se) (by omega),mC (k:=1) (m:=re) (by omega),RD (code:=code) (by omega)]
 rw [hH,kQ,mC (k:=2) (m:=19529) (by omega)];dsimp only;rw [hI,if_neg (by simp),if_neg (by simp [ml]),if_pos sC]
theorem IM (i:aq) (hr:i.right):b8 i.bytes=(i,0):=by
 have hl:=nS i;unfold b8;rw [if_neg (by omega),if_pos (by rw [aq.bytes,O8,Pa];rfl),show i.bytes.length-36=i.head.length by rw [wP];omega,aq.bytes,MV];exact Pv i hr
theorem Qc {b:List Int} {j:aq} (h:b8 b=(j,0)):j.right:=by
 unfold b8 at h;split at h
 ·simp at h
 ·split at h
  ·unfold kQ at h;split at h
   ·simp at h
   ·split at h
    ·rename_i h0
     rw [Prod.mk.injEq] at h;exact absurd h.2 h0
    ·split at h
     ·rename_i hr
      rw [Prod.mk.injEq] at h;rw [←h.1];exact hr
     ·simp at h
  ·simp at h
end
end image
end Go.Proofs.YtdldkkoplgkloaaGreat
