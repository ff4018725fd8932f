/-
  PROVED HERE: lemmas that the law leans on.
  CONDITIONS: each names its own.
-/
import Derived.Test.YtdldkkoplgkloaaGreatPy0
import Derived.Test.YtdldkkoplgkloaaGreatPy4
import Derived.Test.YtdldkkoplgkloaaGreatPy10
namespace Go.Proofs.YtdldkkoplgkloaaGreat
set_option linter.unusedVariables false
set_option linter.unusedSimpArgs false
set_option maxRecDepth 100000
set_option maxHeartbeats 32000000
namespace image


open Go.RowKit Go.Deep base obj mem sep bw num bytes bf chain fH
def pn (bs:List Int):Bool:=decide (be 4 (sum (bs.take (bs.length-4)))=bs.drop (bs.length-4))
def pE (bs:List Int):Bool:=decide (gh (bs.take (bs.length-36))=(bs.drop (bs.length-36)).take 32)
def aw.none:aw:=⟨0,0,0,0,0,0,0,[]⟩
theorem xo {w:World} {B n:Nat} {A:Option Addr} {bs:List Int} (h:Sl w B 1 A n (aP bs)) (o m k:Nat) (hk:k=m) (ho:o+m≤n) {b off:Nat} (hA:A=some ⟨b,off,none⟩):Sl w B 1 (some ⟨b,off+o,none⟩) k (aP ((bs.drop o).take m)):=by
 subst hk;have hl:=h.1;simp at hl;refine ⟨by simp;omega,fun hp=>⟨b,off+o,rfl,?_,fun j u hu=>?_⟩⟩
 ·obtain ⟨b',C9,e,hb,_⟩:=h.2 (by omega);rw [hA] at e;injection e with e;injection e with e1 e2 _
  omega
 ·obtain ⟨b',C9,e,hb,hc⟩:=h.2 (by omega);rw [hA] at e;injection e with e;injection e with e1 e2 _
  subst e1;subst e2;rw [Nat.add_assoc];refine hc (o+j) u ?_;rw [List.getElem?_map] at hu ⊢;rw [List.getElem?_take] at hu;split at hu
  ·rwa [List.getElem?_drop] at hu
  ·simp at hu
theorem Fu {w:World} {base:Nat} {e:TypeId} {size n:Nat} {v:Value} {xs:List Value} (h:w.ownsRow base e size v n xs):∀k,v.ownBlock=some k→base≤k:=by
 intro k hk;rcases h.2 with ⟨rfl,_⟩|⟨g,cap,cur,rfl,hg,_⟩
 ·simp [Value.ownBlock] at hk
 ·simp only [Value.ownBlock,Option.some.injEq] at hk;omega
def Lg (R:aw→Int→Prop) (bs:List Int) (j:aw) (er:Int):Prop:=if pn bs&&pE bs then R j er else j=aw.none∧er=10
theorem Q4 (w:World) (A:Option Addr) (c n:Nat) (Ms:n < 36):Calls Tryz.prog 54 #[.slice A n c] w fun e w'=>e=.returned (.tuple #[aw.none.val none 0,.int .i64 1])∧Below w.heap.size w w':=by
 have c1:(n:Int) < 36:=by omega
 go_enter Tryz.func54,Tryz.ntmps54;go_wp2_with fail;refine bodyPost_ret (aM rfl _ _ w.heap.size _ _ _ _ _ rfl rfl (Row.new w 26 _) Tryz.underlying26 rfl (by kernel_rfl)) rfl ?_;exact ⟨rfl,(Below.refl _ w).alloc (Nat.le_refl _) _⟩
theorem get_at (R:aw→Int→Prop) (w:World) (A:Option Addr) (c m n:Nat) (bs:List Int) (hn:bs.length=n) (hnm:n=m+36) (hm:m≤90000) (hc:n≤c) (cu:bo bs) (hs:Sl w w.heap.size 1 A n (aP bs))
  (hp:∀w',Sl w' w'.heap.size 1 A m (aP (bs.take m))→Calls Tryz.prog 99 #[.slice A m c] w' fun e kV=>∃(j:aw) (A':Option Addr) (c':Nat) (er:Int),e=.returned (.tuple #[j.val A' c',.int .i64 er])∧kV.ownsRow w'.heap.size 5 1 (.slice A' j.code.length c') j.code.length (aP j.code)∧Below w'.heap.size w' kV∧R j er) :
  Calls Tryz.prog 54 #[.slice A n c] w fun e w'=>∃(j:aw) (A':Option Addr) (c':Nat) (er:Int),e=.returned (.tuple #[j.val A' c',.int .i64 er])∧w'.ownsRow w.heap.size 5 1 (.slice A' j.code.length c') j.code.length (aP j.code)∧Below w.heap.size w w'∧Lg R bs j er:=by
 obtain ⟨B,off,rfl,hB,_⟩:=hs.2 (by omega);obtain ⟨k,hk⟩:∃k,k=m+32:=⟨_,rfl⟩
 have W1:IntKind.i64.wrap ((n:Int)-36)=(m:Int):=by rw [IntWalk.i64_in _ (by omega)];omega
 have W2:IntKind.i64.wrap ((n:Int)-4)=(k:Int):=by rw [IntWalk.i64_in _ (by omega)];omega
 have c0:¬((n:Int) < 36):=by omega
 have c1:(0:Int)≤(m:Int):=by omega
 have c2:(m:Int)≤(c:Int):=by omega
 have c3:(m:Int)≤(k:Int):=by omega
 have c4:(k:Int)≤(c:Int):=by omega
 have c5:(0:Int)≤(k:Int):=by omega
 have c6:(k:Int)≤(n:Int):=by omega
 have c7:(n:Int)≤(c:Int):=by omega
 have d1:¬c=m:=by omega
 have d2:¬c=k:=by omega
 have HS:=aa hs;have E4:=aa hnm;have HK:=aa hk;have HN:=aa hn;clear hs hnm hk hn;go_enter Tryz.func54,Tryz.ntmps54;go_wp2_with fail
 go_region
 go_wp2_with fail;refine dA ?_;(refine bj [0,1] ?_;simp only [pick,af,ae,ah];(iterate 2 still_step);refine wpStill_nil ?_);(refine fM 2 (.int .i64 n) (by kernel_rfl) (fun _ _ _ _ _ h=>h) (by rfl) (by intro w2;(try simp only [af,ae,ah]);go_simp) ?_;(try simp only [af,ae,ah,Act.put,aq,ak,ao]));(refine fM 3 (.int .i64 k) (by kernel_rfl) (fun _ _ _ _ _ h=>h) (by rfl) (by intro w2;(try simp only [af,ae,ah]);go_simp) ?_;(try simp only [af,ae,ah,Act.put,aq,ak,ao]));(refine fM 4 (.slice (some ⟨B,off,none⟩) k c) (by kernel_rfl) (fun _ _ _ _ _ h=>h) (by rfl) (by intro w2;(try simp only [af,ae,ah]);go_simp) ?_;(try simp only [af,ae,ah,Act.put,aq,ak,ao]));(refine bj [6,7] ?_;simp only [pick,af,ae,ah];(iterate 2 still_step);refine wpStill_nil ?_);(refine fM 8 (.int .i64 n) (by kernel_rfl) (fun _ _ _ _ _ h=>h) (by rfl) (by intro w2;(try simp only [af,ae,ah]);go_simp) ?_;(try simp only [af,ae,ah,Act.put,aq,ak,ao]));(refine fM 9 (.int .i64 k) (by kernel_rfl) (fun _ _ _ _ _ h=>h) (by rfl) (by intro w2;(try simp only [af,ae,ah]);go_simp) ?_;(try simp only [af,ae,ah,Act.put,aq,ak,ao]));(refine fM 10 (.slice (some ⟨B,off+k,none⟩) (n-k) (c-k)) (by kernel_rfl) (fun _ _ _ _ _ h=>h) (by rfl) (by intro w2;(try simp only [af,ae,ah]);go_simp) ?_;(try simp only [af,ae,ah,Act.put,aq,ak,ao]));obtain ⟨w1,aJ⟩:∃v,v=(w.alloc (.cells #[.int .i64 0,.int .i64 0,.int .i64 0,.int .i64 0,.int .i64 0,.int .i64 0,.int .i64 0,.slice none 0 0] 26)).drew.drew:=⟨_,rfl⟩
 rw [←aJ];have aZ:Row w1 w.heap.size 26 [.int .i64 0,.int .i64 0,.int .i64 0,.int .i64 0,.int .i64 0,.int .i64 0,.int .i64 0,.slice none 0 0]:=by rw [aJ];exact (Row.new w _ _).drew.drew
 have wW:Below w.heap.size w w1:=by rw [aJ];exact ((Below.refl _ w).alloc (Nat.le_refl _) _).drew.drew
 have jE:=(HS.o.below wW).more wW.size;clear aJ;have eK:=HK.o;have eN:=HN.o;have eM:=E4.o;have HSK:=aa (xo jE 0 k k rfl (by omega) rfl);have bJ:=aa (xo jE k 4 (n-k) (by omega) (by omega) rfl);have kE:=aa (xo jE 0 m m rfl (by omega) rfl);have rS:=aa (xo jE m 32 (k-m) (by omega) (by omega) rfl);have gy:=aa aZ;have ZE:=aa wW;clear aZ wW jE eK eN eM;(refine aL 5 ?_;(try simp only [af,ae,ah]);go_simp);refine (L1 w1 _ k c ((bs.drop 0).take k) (by have:=HK.o;have:=HN.o;have:=E4.o;rw [fv,List.length_drop];omega) (by have:=HK.o;omega) (fun z hz=>cu z (List.mem_of_mem_drop (List.mem_of_mem_take hz))) HSK.o).mono ?_;rintro e w2 ⟨v,rfl,ho,hb⟩;obtain ⟨A2,c2,rfl,dB⟩:=Jt ho;have aO:=aa (ZE.o.trans (hb.mono ZE.o.size));have B3:=aa (gy.o.below hb gy.o.lt);have Zt:=aa ((kE.o.below hb).more hb.size);have abu:=aa ((rS.o.below hb).more hb.size);have OO:=aa ((bJ.o.below hb).more hb.size);have tC:=aa dB;clear ho hb dB;dsimp only;(try simp only [af,ae,ah,Act.put,aq,ak,ao]);(refine aL 11 ?_;(try simp only [af,ae,ah]);go_simp);refine (Dn w2 A2 _ 4 (n-k) c2 (c-k) (be 4 (sum ((bs.drop 0).take k))) ((bs.drop k).take 4) (bp _ _) (by have:=HK.o;have:=HN.o;have:=E4.o;rw [fv,List.length_drop];omega) (by omega) (by have:=HK.o;have:=E4.o;omega) (pW _ _) (fun z hz=>cu z (List.mem_of_mem_drop (List.mem_of_mem_take hz))) tC.o OO.o).mono ?_;rintro e w2' ⟨rfl,rfl⟩
 have NT:pn bs=decide (be 4 (sum ((bs.drop 0).take k))=(bs.drop k).take 4):=by
  have:=HK.o;have:=HN.o;have:=E4.o;unfold pn;rw [show bs.length-4=k by omega,List.drop_zero,List.take_of_length_le (l:=bs.drop k) (by rw [List.length_drop];omega)]
 rw [←NT];clear NT;dsimp only;(try simp only [af,ae,ah,Act.put,aq,ak,ao]);cases hq:pn bs with
 | false =>
   (refine bj [12,13] ?_;simp only [pick,af,ae,ah];(iterate 2 still_step);refine wpStill_nil ?_);(refine bj [14,16] ?_;simp only [pick,af,ae,ah];(iterate 2 still_step);refine wpStill_nil ?_);(try simp only [af,ae,ah,Act.put,aq,ak,ao]);(refine zU 15 (by kernel_rfl) (by rfl) ?_;(try simp only [af,ae,ah,Act.put,aq,ak,ao]));(refine zU 17 (by kernel_rfl) (by rfl) ?_;(try simp only [af,ae,ah,Act.put,aq,ak,ao]));(refine zU 18 (by kernel_rfl) (by rfl) ?_;(try simp only [af,ae,ah,Act.put,aq,ak,ao]));(refine bj [19] ?_;simp only [pick,af,ae,ah];(iterate 1 still_step);refine wpStill_nil ?_);refine bZ ?_;go_wp2_with (refine aF rfl 26 (.tmp 2) (.tmp 43) rfl w.heap.size 0 #[.int .i64 0,.int .i64 0,.int .i64 0,.int .i64 0,.int .i64 0,.int .i64 0,.int .i64 0,.slice none 0 0] rfl rfl (B3.o) (by kernel_rfl) (by simp) (by simp [Value.oneCell']) [.int .i64 0,.int .i64 0,.int .i64 0,.int .i64 0,.int .i64 0,.int .i64 0,.int .i64 0,.slice none 0 0] (by simp) ?_);have hk:=fV (Kept.refl (fun i=>i=w.heap.size) w2') (g:=w.heap.size) (Or.inl rfl) #[.int .i64 0,.int .i64 0,.int .i64 0,.int .i64 0,.int .i64 0,.int .i64 0,.int .i64 0,.slice none 0 0];refine bodyPost_ret (aM rfl _ _ w.heap.size _ _ _ _ _ rfl rfl (B3.o.setRow [.int .i64 0,.int .i64 0,.int .i64 0,.int .i64 0,.int .i64 0,.int .i64 0,.int .i64 0,.slice none 0 0]) Tryz.underlying26 rfl (by kernel_rfl)) rfl ?_;exact ⟨aw.none,none,0,10,rfl,⟨rfl,.inl ⟨rfl,rfl⟩⟩,aO.o.trans (hk.below aO.o.size (fun i h e=>by have e':i=w.heap.size:=e;omega)),by simp [Lg,hq]⟩
 | true =>
   (refine bj [12,13] ?_;simp only [pick,af,ae,ah];(iterate 2 still_step);refine wpStill_nil ?_);(refine bj [14,16] ?_;simp only [pick,af,ae,ah];(iterate 2 still_step);refine wpStill_nil ?_);(try simp only [af,ae,ah,Act.put,aq,ak,ao]);(refine aL 15 ?_;(try simp only [af,ae,ah]);go_simp);refine (GZ w2' _ m c ((bs.drop 0).take m) (by have:=HN.o;have:=E4.o;rw [fv,List.length_drop];omega) (by omega) (fun z hz=>cu z (List.mem_of_mem_drop (List.mem_of_mem_take hz))) Zt.o).mono ?_;rintro e w3 ⟨g3,rfl,dB,hb⟩;have bD:=aa (aO.o.trans (hb.mono aO.o.size));have EV:=aa (B3.o.below hb B3.o.lt);have abr:=aa ((Zt.o.below hb).more hb.size);have abt:=aa ((abu.o.below hb).more hb.size);have rT:=aa dB;clear hb dB;dsimp only;(try simp only [af,ae,ah,Act.put,aq,ak,ao]);(refine aL 17 ?_;(try simp only [af,ae,ah]);go_simp);refine (Dn w3 _ _ 32 (k-m) 32 (c-m) (gh ((bs.drop 0).take m)) ((bs.drop m).take 32) (qI _) (by have:=HK.o;have:=HN.o;have:=E4.o;rw [fv,List.length_drop];omega) (by omega) (by have:=HK.o;have:=E4.o;omega) (BR _) (fun z hz=>cu z (List.mem_of_mem_drop (List.mem_of_mem_take hz))) rT.o abt.o).mono ?_;rintro e w3' ⟨rfl,rfl⟩
   have wV:pE bs=decide (gh ((bs.drop 0).take m)=(bs.drop m).take 32):=by
    have:=HK.o;have:=HN.o;have:=E4.o;unfold pE;rw [show bs.length-36=m by omega,List.drop_zero]
   rw [←wV];clear wV;dsimp only;(try simp only [af,ae,ah,Act.put,aq,ak,ao]);(refine bj [18] ?_;simp only [pick,af,ae,ah];(iterate 1 still_step);refine wpStill_nil ?_);(try simp only [af,ae,ah,Act.put,aq,ak,ao]);cases hd:pE bs with
   | false =>
     (refine bj [19] ?_;simp only [pick,af,ae,ah];(iterate 1 still_step);refine wpStill_nil ?_);refine bZ ?_;go_wp2_with (refine aF rfl 26 (.tmp 2) (.tmp 43) rfl w.heap.size 0 #[.int .i64 0,.int .i64 0,.int .i64 0,.int .i64 0,.int .i64 0,.int .i64 0,.int .i64 0,.slice none 0 0] rfl rfl (EV.o) (by kernel_rfl) (by simp) (by simp [Value.oneCell']) [.int .i64 0,.int .i64 0,.int .i64 0,.int .i64 0,.int .i64 0,.int .i64 0,.int .i64 0,.slice none 0 0] (by simp) ?_);have hk:=fV (Kept.refl (fun i=>i=w.heap.size) w3') (g:=w.heap.size) (Or.inl rfl) #[.int .i64 0,.int .i64 0,.int .i64 0,.int .i64 0,.int .i64 0,.int .i64 0,.int .i64 0,.slice none 0 0];refine bodyPost_ret (aM rfl _ _ w.heap.size _ _ _ _ _ rfl rfl (EV.o.setRow [.int .i64 0,.int .i64 0,.int .i64 0,.int .i64 0,.int .i64 0,.int .i64 0,.int .i64 0,.slice none 0 0]) Tryz.underlying26 rfl (by kernel_rfl)) rfl ?_;exact ⟨aw.none,none,0,10,rfl,⟨rfl,.inl ⟨rfl,rfl⟩⟩,bD.o.trans (hk.below bD.o.size (fun i h e=>by have e':i=w.heap.size:=e;omega)),by simp [Lg,hq,hd]⟩
   | true =>
     (refine bj [19] ?_;simp only [pick,af,ae,ah];(iterate 1 still_step);refine wpStill_nil ?_);refine bZ ?_;go_wp2_with fail;refine (hp w3' abr.o).mono ?_;rintro e w4 ⟨j,A',c',er,rfl,ho,hb,hR⟩;have eV:=aa (bD.o.trans (hb.mono bD.o.size));have VD:=aa (EV.o.below hb EV.o.lt);have HO:=aa ho;have RV:=aa EV.o.lt;clear ho hb;simp only [aw.val];go_wp2_with (refine aF rfl 26 (.tmp 2) (.tmp 46) rfl w.heap.size 0 #[.int .i64 j.part,.int .i64 j.version,.int .i64 j.aY,.int .i64 j.mem,.int .i64 j.fuel,.int .i64 j.aN,.int .i64 j.aB,.slice A' j.code.length c'] rfl rfl VD.o (by kernel_rfl) (by simp) (by simp [Value.oneCell']) [.int .i64 j.part,.int .i64 j.version,.int .i64 j.aY,.int .i64 j.mem,.int .i64 j.fuel,.int .i64 j.aN,.int .i64 j.aB,.slice A' j.code.length c'] (by simp) ?_);have hk:=fV (Kept.refl (fun i=>i=w.heap.size) w4) (g:=w.heap.size) (Or.inl rfl) #[.int .i64 j.part,.int .i64 j.version,.int .i64 j.aY,.int .i64 j.mem,.int .i64 j.fuel,.int .i64 j.aN,.int .i64 j.aB,.slice A' j.code.length c'];have ho:=hk.own HO.o (fun k h e=>by have e':k=w.heap.size:=e;have:=Fu HO.o k h;have:=RV.o;omega);refine bodyPost_ret (aM rfl _ _ w.heap.size _ _ _ _ _ rfl rfl (VD.o.setRow [.int .i64 j.part,.int .i64 j.version,.int .i64 j.aY,.int .i64 j.mem,.int .i64 j.fuel,.int .i64 j.aN,.int .i64 j.aB,.slice A' j.code.length c']) Tryz.underlying26 rfl (by kernel_rfl)) rfl ?_;exact ⟨j,A',c',er,rfl,ho.mono (by have:=bD.o.size;omega),eV.o.trans (hk.below eV.o.size (fun i h e=>by have e':i=w.heap.size:=e;omega)),by simp [Lg,hq,hd,hR]⟩
theorem yu (b:List Int):(fy b).length=b.length+36:=by simp [fy,qI,bp]
theorem Nj (b:List Int):pn (fy b)=true:=by
 have h1:(fy b).length-4=(b++gh b).length:=by rw [yu];simp [qI]
 unfold pn;rw [h1,show fy b=(b++gh b)++be 4 (sum (b++gh b)) from rfl,List.take_left,List.drop_left];simp
theorem Nl (b:List Int):pE (fy b)=true:=by
 have h1:(fy b).length-36=b.length:=by rw [yu];omega
 unfold pE;rw [h1,show fy b=b++(gh b++be 4 (sum (b++gh b))) by simp [fy],List.take_left,List.drop_left,List.take_left' (qI b)];simp
theorem Ll (b:List Int):(fy b).take b.length=b:=by
 rw [show fy b=b++(gh b++be 4 (sum (b++gh b))) by simp [fy],List.take_left]
theorem BW {a b:List Int} (ha:bo a) (hb:bo b):bo (a++b):=fun z hz=>by
 rcases List.mem_append.1 hz with h|h
 ·exact ha z h
 ·exact hb z h
theorem ue (b:List Int) (h:bo b):bo (fy b):=BW (BW h (BR b)) (pW _ _)
theorem mS (i:aw):i.bytes.length=49+i.code.length:=by rw [aw.bytes,yu,vg];omega
end image
end Go.Proofs.YtdldkkoplgkloaaGreat
