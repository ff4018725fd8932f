/- PROVED HERE: lemmas of the law. CONDITIONS: each names its own. -/
import Derived.Test.YtdldkkoplgkloaaGreatPa25
namespace Go.Proofs.YtdldkkoplgkloaaGreat
set_option linter.unusedVariables false
set_option linter.unusedSimpArgs false
set_option maxRecDepth 100000
set_option maxHeartbeats 32000000
open Go.Value renaming int → ae
open Go.IntKind renaming i64 → aa
namespace aG
open Go.RowKit Go.ChangeShapes Go.WideShapes Go.ChangeAt Go.Deep Go.Joins base obj mem bC aX record Go.Proofs.YtdldkkoplgkloaaGreat.bits sep aW bytes
section
variable {l:List aI} {post pre:List Value} {X o:Nat} {w w0:World}
section
variable {pre c post : List Value} {o : Nat}
theorem l9 (ho:pre.length=o) {k:Nat} {u:Value} (hu:c[k]?=some u):(pre++(c++post))[o+k]?=some u:=by
 subst ho;rw [List.getElem?_append_right (by omega),Nat.add_sub_cancel_left,List.getElem?_append_left (List.getElem?_eq_some_iff.1 hu).1];exact hu
theorem Ys (ho:pre.length=o) {k:Nat} (hk:k < c.length) (v:Value):(pre++(c++post)).set (o+k) v=pre++(c.set k v++post):=by
 subst ho;rw [List.set_append_right _ _ (by omega),Nat.add_sub_cancel_left,List.set_append_left _ _ hk]
theorem GM (ho:pre.length=o) (k:Nat) (z:List Value) (hk:k+z.length≤c.length):(pre++(c++post)).take (o+k)++z++(pre++(c++post)).drop (o+k+z.length)=pre++((c.take k++z++c.drop (k+z.length))++post):=by
 subst ho;rw [List.take_append,List.take_of_length_le (by omega),Nat.add_sub_cancel_left,List.take_append,List.drop_append,List.drop_of_length_le (by omega),List.nil_append,Nat.add_assoc,Nat.add_sub_cancel_left,List.drop_append,show k-c.length=0 by omega,show k+z.length-c.length=0 by omega];simp
theorem KS (ho:pre.length=o) {w0 w:World} {l:List aI} {g:Nat} {t:TypeId} (h:St w0 w (row g t (pre++(c++post))::l)) (k:Nat) (v:Value) (hk:k < c.length):St w0 (w.setCell ⟨g,o+k,none⟩ v) (row g t (pre++(c.set k v++post))::l):=by
 rw [←Ys ho hk];exact h.set _ v
end
def nr (X:Nat) (pre post:List Value) (P:List (Nat×List Value)) (R:RS):aI :=
 some_ fun q:Value×List Value=>du [fact (qc P R.blocks q.2),row X 118 (pre++(bO R q.1++post)),own 24 1 q.1 R.blocks.length q.2]
section
variable {w0 w : World} {l : List aI} {X o : Nat} {pre post : List Value} {P : List (Nat × List Value)} {R : RS} {v : Value} {vs : List Value}
theorem nL (h:St w0 w (nr X pre post P R::l)):∃v vs,qc P R.blocks vs∧St w0 w (row X 118 (pre++(bO R v++post))::own 24 1 v R.blocks.length vs::l):=by
 obtain ⟨q,h1⟩:=h.ex;have h2:=h1.fI;exact ⟨q.1,q.2,h2.fact,h2.drop⟩
theorem mh (hb:qc P R.blocks vs) (h:St w0 w (row X 118 (pre++(bO R v++post))::own 24 1 v R.blocks.length vs::l)):St w0 w (nr X pre post P R::l) :=
 St.Zr (R:=fun q:Value×List Value=>du [fact (qc P R.blocks q.2),row X 118 (pre++(bO R q.1++post)),own 24 1 q.1 R.blocks.length q.2]) (v,vs) (St.eJ (L:=[_,_,_]) (h.addFact hb))
theorem mi (ho:pre.length=o) (h:Row w X 118 (pre++(bO R v++post))):w.cell? ⟨X,o,none⟩=some (.bool R.has)∧w.cell? ⟨X,o+1,none⟩=some (ae aa R.st.aC)∧w.cell? ⟨X,o+2,none⟩=some (ae aa R.st.size)∧w.cell? ⟨X,o+3,none⟩=some (ae aa R.st.bf)∧w.cell? ⟨X,o+4,none⟩=some v∧X < w.heap.size :=
 ⟨(h.cell _).trans (l9 ho (k:=0) rfl),(h.cell _).trans (l9 ho rfl),(h.cell _).trans (l9 ho rfl),(h.cell _).trans (l9 ho rfl),(h.cell _).trans (l9 ho rfl),h.lt⟩
end
theorem UT (ho:pre.length=o) {R:RS} {A:Option Addr} {c:Nat} (h:Row w X 118 (pre++(bO R (.slice A R.blocks.length c)++post))) (se no:Int) (D:Option Addr) (n k:Nat) :
  Calls Tryz.prog 159 #[.pointer (some ⟨X,o,none⟩),ae aa se,ae aa no,.slice D n k] w fun e w'=>e=.returned (ae aa (ju R se no n))∧w'=w:=by
 obtain ⟨c0,c1,c2,c3,c4,lx⟩:=mi ho h;obtain ⟨b,hb⟩:=xE R.blocks.length;rw [←hb] at c4;have HW:=af (show ju R se no n=(if R.has=false then 16 else if se≠R.st.aC then 17 else if no < 0∨(b:Int)≤no then 3 else if n≠16 then 14 else 0) by unfold ju;rw [hb]);obtain ⟨r,hr⟩:=xE (ju R se no n);rw [←hr] at HW ⊢;clear h hb hr;go_enter Tryz.func159,Tryz.ntmps159;cases hh:R.has with
 | false =>
   rw [hh] at c0;have HR:=af (show r=16 by rw [HW.o,if_pos hh]);go_wp2_with fail;go_ret;exact ⟨bx HR.o.symm,rfl⟩
 | true =>
   rw [hh] at c0;have HN:=af (show ¬R.has=false by rw [hh];decide);clear hh;by_cases h1:se=R.st.aC
   ·have b1:(se != R.st.aC)=false:=by simpa using h1
    by_cases h2:no < 0
    ·have HR:=af (show r=3 by rw [HW.o,if_neg HN.o,if_neg (not_not_intro h1),if_pos (.inl h2)]);clear h1;go_wp2_with fail;go_ret;exact ⟨bx HR.o.symm,rfl⟩
    ·by_cases h3:(b:Int)≤no
     ·have HR:=af (show r=3 by rw [HW.o,if_neg HN.o,if_neg (not_not_intro h1),if_pos (.inr h3)]);clear h1;go_wp2_with fail;go_ret;exact ⟨bx HR.o.symm,rfl⟩
     ·by_cases h4:n=16
      ·have HR:=af (show r=0 by rw [HW.o,if_neg HN.o,if_neg (not_not_intro h1),if_neg (by omega),if_neg (not_not_intro h4)]);have b4:((n:Int) != 16)=false:=by simp;omega
       clear h1;go_wp2_with fail;go_ret;exact ⟨bx HR.o.symm,rfl⟩
      ·have HR:=af (show r=14 by rw [HW.o,if_neg HN.o,if_neg (not_not_intro h1),if_neg (by omega),if_pos h4]);have b4:((n:Int) != 16)=true:=by simp;omega
       clear h1;go_wp2_with fail;go_ret;exact ⟨bx HR.o.symm,rfl⟩
   ·have HR:=af (show r=17 by rw [HW.o,if_neg HN.o,if_pos h1]);have b1:(se != R.st.aC)=true:=by simpa using h1
    clear h1;go_wp2_with fail;go_ret;exact ⟨bx HR.o.symm,rfl⟩
theorem KF (ho:pre.length=o) {P:List (Nat×List Value)} {R:RS} (h:St w0 w (nr X pre post P R::l)) (se sz:Int) (iP:-9223372036854775808≤sz) :
  Calls Tryz.prog 108 #[.pointer (some ⟨X,o,none⟩),ae aa se,ae aa sz] w fun e w'=>e=.returned (ae aa (fk R se sz).1)∧St w0 w' (nr X pre post P (fk R se sz).2::l):=by
 obtain ⟨v,vs,hb,ak⟩:=nL h;obtain ⟨T,hT⟩:=xE w.heap.size;obtain ⟨w1,aF⟩:=xE (w.alloc (.cells #[ae aa se,ae aa sz,ae aa 0] 31));have H1:=af (show St w0 w1 (row T 31 [ae aa se,ae aa sz,ae aa 0]::row X 118 (pre++(bO R v++post))::own 24 1 v R.blocks.length vs::l) by rw [aF,hT];exact ak.new _ _);have Mw:=af (fun w=>eu.oG ⟨se,sz,0⟩ w iP);have br:=af aF;have HT:=af hT;have DZ:=af hb;clear h ak aF hT hb;go_enter Tryz.func108,Tryz.ntmps108;go_upto_region 2 with fail;rw [←br.o,←HT.o];obtain ⟨t0,t1,t2⟩:w1.cell? ⟨T,0,none⟩=some (ae aa se)∧w1.cell? ⟨T,1,none⟩=some (ae aa sz)∧w1.cell? ⟨T,2,none⟩=some (ae aa 0):=⟨H1.o.row.1.cell 0,H1.o.row.1.cell 1,H1.o.row.1.cell 2⟩
 go_wp2_with fail;rw [←aR.ng ⟨se,sz,0⟩];refine (Mw.o _).mono ?_;rintro e w2 ⟨rfl,hb⟩;have H2:=af (H1.o.below hb);clear hb t0 t1 t2;cases hr:(aR.mk se sz 0).right with
 | false =>
   have HE:=af (show fk R se sz=(3,R) by unfold fk;rw [hr];rfl);go_wp2_with fail;go_ret;rw [HE.o];exact ⟨rfl,mh DZ.o H2.o.drop⟩
 | true =>
   obtain ⟨n,hn⟩:=xE (aQ sz);have hz:=(iD hr).2.1;simp only at hz;obtain ⟨z1,z2⟩:=hz;have EB:n≤10:=by rw [hn];unfold aQ;omega
   have HE:=af (show fk R se sz=(0,⟨true,⟨se,sz,0⟩,List.replicate n []⟩) by unfold fk;rw [hr,hn];rfl);have ch:=af (show ∀w,Calls Tryz.prog 158 #[ae aa sz] w fun e w'=>e=.returned (ae aa (n:Nat))∧w'=w by rw [hn];exact fun w=>eu.kK w sz (by omega) iP);have MK:=fun w=>Yt n (by omega) w;clear hr hn;obtain ⟨x0,_,_,_,_,lx⟩:=mi ho (H2.o.pick 1 rfl).row.1;have fx:=(H2.o.pick 1 rfl).row.1.frozen o;obtain ⟨w3,nQ⟩:=xE (w2.setCell ⟨X,o,none⟩ (.bool true));have H3:=af (show St w0 w3 (row X 118 (pre++([.bool true,ae aa R.st.aC,ae aa R.st.size,ae aa R.st.bf,v]++post))::row T 31 [ae aa se,ae aa sz,ae aa 0]::own 24 1 v R.blocks.length vs::l) by rw [nQ];exact KS ho (H2.o.pick 1 rfl) 0 _ (by simp [bO]));have wW:=af nQ;clear nQ;go_upto_region 5 with fail;rw [←wW.o];clear x0 fx lx;obtain ⟨t0,t1,t2⟩:w3.cell? ⟨T,0,none⟩=some (ae aa se)∧w3.cell? ⟨T,1,none⟩=some (ae aa sz)∧w3.cell? ⟨T,2,none⟩=some (ae aa 0):=⟨(H3.o.pick 1 rfl).row.1.cell 0,(H3.o.pick 1 rfl).row.1.cell 1,(H3.o.pick 1 rfl).row.1.cell 2⟩
   obtain ⟨w4,dW⟩:=xE (w3.setRow X (pre++([.bool true,ae aa se,ae aa sz,ae aa 0,v]++post)).toArray);have H4:=af (show St w0 w4 (row X 118 (pre++([.bool true,ae aa se,ae aa sz,ae aa 0,v]++post))::row T 31 [ae aa se,ae aa sz,ae aa 0]::own 24 1 v R.blocks.length vs::l) by rw [dW];exact H3.o.setRow _);have kL:=af dW;clear dW;have s1:o+1+(#[ae aa se,ae aa sz,ae aa 0]:Array Value).size≤(pre++([.bool true,ae aa R.st.aC,ae aa R.st.size,ae aa R.st.bf,v]++post)).length:=by simp;omega
   have s2:(pre++([.bool true,ae aa R.st.aC,ae aa R.st.size,ae aa R.st.bf,v]++post)).take (o+1)++(#[ae aa se,ae aa sz,ae aa 0]:Array Value).toList++(pre++([.bool true,ae aa R.st.aC,ae aa R.st.size,ae aa R.st.bf,v]++post)).drop (o+1+(#[ae aa se,ae aa sz,ae aa 0]:Array Value).size)=pre++([.bool true,ae aa se,ae aa sz,ae aa 0,v]++post):=GM ho (c:=[.bool true,ae aa R.st.aC,ae aa R.st.size,ae aa R.st.bf,v]) 1 [ae aa se,ae aa sz,ae aa 0] (by simp);have abc:=af (And.intro s1 s2);clear s1 s2
   go_cut [] (fun wc=>wc=w4)
   case first =>
    go_wp2_with (refine aB rfl 31 (.tmp 20) (.tmp 18) rfl X (o+1) #[ae aa se,ae aa sz,ae aa 0] rfl rfl H3.o.row.1 (by kernel_rfl) abc.o.1 (by simp [Value.oneCell']) _ abc.o.2 ?_);go_meet;exact kL.o.symm
   case rest =>
   rw [hcut];clear t0 t1 t2 hcut;obtain ⟨_,_,_,_,x4,lx⟩:=mi ho (R:=⟨true,⟨se,sz,0⟩,[]⟩) H4.o.row.1;have fx:=H4.o.row.1.frozen (o+4);go_wp2_with fail;refine (ch.o _).mono ?_;rintro e w5 ⟨rfl,eD⟩;rw [eD];clear eD;go_wp2_with fail;go_ret;rw [HE.o];refine ⟨rfl,mh (v:=.slice (some ⟨w4.heap.size,0,none⟩) n n) (vs:=List.replicate n (.slice none 0 0)) ⟨by simp,fun i b v h1 h2=>.inl ?_⟩ ?_⟩
   ·obtain ⟨_,rfl⟩:=(by simpa [List.getElem?_replicate] using h1:i < n∧[]=b)
    obtain ⟨_,rfl⟩:=(by simpa [List.getElem?_replicate] using h2:i < n∧Value.slice none 0 0=v)
    exact ⟨rfl,rfl⟩
   ·have h5:=(KS ho H4.o 4 (.slice (some ⟨w4.heap.size,0,none⟩) n n) (by simp)).new 24 (Array.replicate n (Value.slice none 0 0));rw [show (w4.setCell ⟨X,o+4,none⟩ (.slice (some ⟨w4.heap.size,0,none⟩) n n)).heap.size=w4.heap.size by simp] at h5;have h6:=h5.mE (size:=1) (n:=n) (cap:=n) (Nat.le_refl _) (by unfold maxLen;omega) (by simp);have h7:=((h6.swap.pick 2 rfl).drop.pick 2 rfl).drop;rw [show ((Array.replicate n (Value.slice none 0 0)).toList.take (n*1))=List.replicate n (Value.slice none 0 0) by simp] at h7;show St w0 _ (row X 118 (pre++([.bool true,ae aa se,ae aa sz,ae aa 0,.slice (some ⟨w4.heap.size,0,none⟩) n n]++post))::own 24 1 _ (List.replicate n ([]:List Int)).length _::l)
    rw [Bf];exact h7
theorem Kz (ho:pre.length=o) {P:List (Nat×List Value)} {R:RS} {B:aI} {D:Option Addr} {n dc:Nat} {data:List Int} (h:St w0 w (nr X pre post P R::eG P::B::l)) (hg:qV w0 B D n data)
  (hr:R.has=true→R.st.right=true) (dR:R.blocks.length≤10) (se no:Int) :
  Calls Tryz.prog 109 #[.pointer (some ⟨X,o,none⟩),ae aa se,ae aa no,.slice D n dc] w fun e w'=>e=.returned (ae aa (ja R se no data).1)∧∃P',(∀x∈P,x∈P')∧St w0 w' (nr X pre post P' (ja R se no data).2::eG P'::B::l):=by
 obtain ⟨v,vs,hb,ak⟩:=nL h;obtain ⟨A,c,rfl,DE,uk⟩:=aD (ak.pick 1 rfl).own;have sN:=af (UT ho (A:=A) (c:=c) ak.row.1 se no D n dc);have HN:=af hg.1;have HH:=af h;by_cases hw:ju R se no n=0
 ·obtain ⟨w1,w2,w3,w4⟩:=OO hw;subst w4;obtain ⟨k,rfl⟩:=Int.eq_ofNat_of_zero_le w2;obtain ⟨q,hq⟩:=xE R.blocks.length;rw [←hq] at w3 dR ak DE;have hk:k < q:=by omega
  obtain ⟨t,xs,rfl,_,jy,Dw,iz⟩:=nu (ak.pick 1 rfl) (by omega);have hkx:k < xs.length:=by omega
  have hkv:k < vs.length:=by rw [hb.1,←hq];exact hk
  have hxv:xs[k]=vs[k]:=by
   have e:(xs.take (q*1))[k]?=vs[k]?:=by rw [Dw]
   rw [List.getElem?_take,if_pos (by omega),cN hkx,cN hkv] at e;injection e
  have hbk:=hb.2 k (R.blocks[k]'(by omega)) vs[k] (cN _) (cN hkv);obtain ⟨c0,c1,c2,c3,c4,lx⟩:=mi ho (iz.pick 1 rfl).row.1;have ct:w.cell? ⟨t,k,none⟩=some xs[k]:=by rw [iz.row.1.cell k];exact cN hkx
  have lt:=iz.row.1.lt;have IH:(k:Int) < (q:Int):=by omega
  have mM:(0:Int)≤(k:Int):=by omega
  have HPR:=af (show ja R se k data=if R.blocks.getD k []≠[] then (0,R) else (0,⟨R.has,⟨R.st.aC,R.st.size,R.st.bf+2 ^ k⟩,R.blocks.set k data⟩) by unfold ja;rw [hg.1,hw,if_neg (fun h=>h rfl),dC]);have iS:=af (show R.blocks.getD k []=R.blocks[k]'(by omega) by rw [dD,cN (by omega)];rfl);rw [hw] at sN;rw [hxv] at ct;have bH:=af (show St w0 w (row X 118 (pre++(bO R (.slice (some ⟨t,0,none⟩) q c)++post))::row t 24 xs::eG P::B::l) from iz.swap);go_enter Tryz.func109,Tryz.ntmps109;go_wp2_with fail;refine sN.o.mono ?_;rintro e w' ⟨rfl,hw'⟩;rw [hw'];clear hw';rcases hbk with ⟨lH,xF⟩|⟨Hb,g1,c1',xs1,hP,Iu,VH⟩
  ·rw [xF] at ct;have nX:=af (fun (w1:World) (l1:List aI) (h1:St w0 w1 (B::l1))=>hg.2 w1 l1 h1);have HG1:=af (show ∀u∈data.map (Value.int .u8),u.oneCell'=true from ji data);have HRP:=af (show (ja R se k data)=(0,⟨R.has,⟨R.st.aC,R.st.size,R.st.bf+2 ^ k⟩,R.blocks.set k data⟩) by rw [HPR.o,if_neg (not_not_intro (iS.o.trans lH))]);have dz:=af hb;have TP:=af Dw;have HQ:=af hq;have uv:=af jy;have hh2:=(iD (hr w1)).2.2;obtain ⟨h20,h21⟩:=hh2;have iG:k≤16:=by omega
   have xg:=af (fun w=>bits.zM k w iG);obtain ⟨pw,yW⟩:∃pw:Int,pw=2 ^ k:=⟨_,rfl⟩
   have ug:0≤pw:=by rw [yW];exact Int.le_of_lt (Int.pow_pos (by decide))
   have Lg:pw≤65536:=by
    rw [yW];have h1:=Nat.pow_le_pow_right (n:=2) (by decide) iG;have h2:((2 ^ k:Nat):Int)=(2:Int) ^ k:=by simp
    omega
   rw [←yW] at HRP xg;clear hb lH xF Dw hq jy yW hr hg h ak iz hxv iG iS HPR;obtain ⟨hv,hhv⟩:=xE R.st.bf;have HHV:=af hhv;rw [←hhv] at c3 h20 h21;clear hhv;go_upto_region 5 with fail
   go_cut [10] (fun s w5=>∃(g2 cap:Nat) (x2:List Value),s=.slice (some ⟨g2,0,none⟩) 16 cap∧x2.take 16=data.map (.int .u8)∧St w0 w5 (row X 118 (pre++(bO R (.slice (some ⟨t,0,none⟩) q c)++post))::row t 24 xs::row g2 5 x2::eG P::B::l))
   case first =>
    go_wp2_with (refine tK sn rfl (.tmp 30) (.tmp 31) rfl (World.ownsRow_nil w w.heap.size 5 1) rfl rfl (nX.o _ _ (bH.o.pick 3 rfl)) HG1.o (by omega) (by omega) (by unfold maxLen;omega) (Nat.le_refl _) ?_;intro g2 cap w5 ho ze kU Lm;rw [Nat.zero_add,List.nil_append] at ho;have H5:=af (bH.o.cX ⟨ze.os,ze.tape,ze.output,ze.size,fun i hi=>ze.block i hi (by simp [Value.ownBlock])⟩ ho);clear ho ze kU);go_meet;obtain ⟨t5,x5,e5,_,_,hx5,aco⟩:=nu H5.o (by omega);injection e5 with e5
    injection e5 with e5
    subst e5;exact ⟨_,_,x5,rfl,hx5,(aco.pick 1 rfl).perm (by refine List.Perm.cons _ ?_;exact List.Perm.swap _ _ _)⟩
   case rest =>
   obtain ⟨g2,cap,x2,rfl,uc,h5⟩:=hcut;obtain ⟨d0,d1,d2,d3,d4,ld⟩:=mi ho h5.row.1;have cd:wc.cell? ⟨t,k,none⟩=some xs[k]:=by rw [(h5.pick 1 rfl).row.1.cell k];exact cN hkx
   have fd:=(h5.pick 1 rfl).row.1.frozen k;have ldt:=(h5.pick 1 rfl).row.1.lt;obtain ⟨w6,mK⟩:=xE (wc.setCell ⟨t,k,none⟩ (.slice (some ⟨g2,0,none⟩) 16 cap));have H6:=af (show St w0 w6 (row X 118 (pre++(bO R (.slice (some ⟨t,0,none⟩) q c)++post))::row t 24 (xs.set k (.slice (some ⟨g2,0,none⟩) 16 cap))::row g2 5 x2::eG P::B::l) by rw [mK];exact ((h5.pick 1 rfl).set k _).swap);have Ck:=af mK;have po:=af uc;clear mK h5 uc;clear c0 c1 c2 c3 c4 lx ct lt;go_upto_region 7 with fail;rw [←Ck.o];clear d0 d1 d2 d3 d4 ld cd fd ldt;obtain ⟨d0,d1,d2,d3,d4,ld⟩:=mi ho H6.o.row.1;rw [←HHV.o] at d3;have fd3:=H6.o.row.1.frozen (o+3);clear d0 d1 d2 d4;have Fx:IntKind.i64.wrap (hv+pw)=hv+pw:=IntWalk.i64_in _ ⟨by omega,by omega⟩;go_wp2_with fail
   go_region_law (go_simp;(with_reducible refine (xg.o _).mono ?_);rintro e w7 ⟨rfl,rfl⟩;dsimp only)
   all_goals
    go_wp2_with fail;go_ret;rw [HRP.o];refine ⟨rfl,(g2,x2)::P,fun x hx=>List.mem_cons_of_mem _ hx,mh (v:=.slice (some ⟨t,0,none⟩) q c) (vs:=vs.set k (.slice (some ⟨g2,0,none⟩) 16 cap)) ((dz.o.mono fun x hx=>List.mem_cons_of_mem _ hx).set (.inr ⟨HN.o,g2,cap,x2,by simp,rfl,po.o⟩)) ?_⟩;have h7:=((KS ho H6.o 3 (ae aa (hv+pw)) (by simp [bO])).drew)
    have h8:=(h7.pick 1 rfl).mE (size:=1) (n:=q) (cap:=c) DE uk (by rw [List.length_set];exact uv.o);rw [List.take_set,TP.o] at h8;have h9:=(((KM ((h8.pick 2 rfl).pick 3 rfl |>.swap)).pick 2 rfl).pick 2 rfl).swap;show St w0 _ (row X 118 (pre++([.bool R.has,ae aa R.st.aC,ae aa R.st.size,ae aa (R.st.bf+pw),.slice (some ⟨t,0,none⟩) q c]++post))::own 24 1 _ (R.blocks.set k data).length _::_)
    rw [List.length_set,←HQ.o,←HHV.o];exact h9
  ·rw [Iu] at ct;go_wp2_with fail;go_ret;rw [HPR.o,if_pos (by rw [iS.o];intro e;rw [e] at Hb;exact absurd Hb (by decide))];exact ⟨rfl,P,fun x hx=>hx,HH.o⟩
 ·have HE:=af (show ja R se no data=(ju R se no n,R) by unfold ja;rw [hg.1,if_pos hw]);obtain ⟨r,hr⟩:=xE (ju R se no n);rw [←hr] at hw sN HE;have b0:(r != 0)=true:=by simpa using hw
  clear hw hr;go_enter Tryz.func109,Tryz.ntmps109;go_wp2_with fail;refine sN.o.mono ?_;rintro e w' ⟨rfl,hw'⟩;rw [hw'];clear hw';go_wp2_with fail;go_ret;rw [HE.o];exact ⟨rfl,P,fun x hx=>hx,HH.o⟩
theorem U7 (ho:pre.length=o) {P:List (Nat×List Value)} {R:RS} (h:St w0 w (nr X pre post P R::eG P::l)) (hg:x9 R) :
  Calls Tryz.prog 111 #[.pointer (some ⟨X,o,none⟩)] w fun e w'=>∃A n c B,e=.returned (.tuple #[.slice A n c,ae aa (dm R).2])∧n≤c∧qV w0 B A n (dm R).1∧St w0 w' (B::nr X pre post P R::eG P::l):=by
 cases hh:R.has with
 | false =>
   obtain ⟨v,vs,hb,ak⟩:=nL h;obtain ⟨c0,c1,c2,c3,c4,lx⟩:=mi ho ak.row.1;rw [hh] at c0;have H:=af h;have HE:=af (show dm R=([],16) by unfold dm;rw [if_pos hh]);clear h ak hb hh hg;go_enter Tryz.func111,Tryz.ntmps111;go_wp2_with fail;go_ret2;rw [HE.o];exact ⟨_,_,_,_,rfl,Nat.le_refl _,pQ w0,H.o.addFact trivial⟩
 | true =>
   obtain ⟨s1,s2,s3⟩:=hg.size hh;obtain ⟨v,vs,hb,ak⟩:=nL h;obtain ⟨A,c,rfl,DE,uk⟩:=aD (ak.pick 1 rfl).own;obtain ⟨b,cm⟩:=xE R.blocks.length;rw [←cm] at ak DE s3;obtain ⟨n,hn⟩:∃n:Nat,(n:Int)=R.st.size:=⟨R.st.size.toNat,by omega⟩
   rw [←hn] at s1 s2 s3;have kb:1≤b:=by rw [s3];unfold aQ;omega
   have aaM:b≤10:=by rw [s3];unfold aQ;omega
   have kV:n≤16*b:=by rw [s3];unfold aQ;omega
   have FK:1≤n:=by omega
   obtain ⟨t,xs,rfl,_,jy,Dw,iz⟩:=nu (ak.pick 1 rfl) (by omega);have HB:=af hb;have ch:=af cm;have HN:=af hn;have HH:=af hh;have uv:=af jy;have HXT:=af Dw
   have hvx:∀j,j < b→xs[j]?=vs[j]?:=by
    intro j hj;rw [←Dw,List.getElem?_take,if_pos (by omega)]
   have HVX:=af hvx;obtain ⟨c0,c1,c2,c3,c4,lx⟩:=mi ho (iz.pick 1 rfl).row.1;rw [hh] at c0
   have uV:=af (show St w0 w (own 5 1 (.slice none 0 0) 0 (((R.blocks.take 0).flatten).map (.int .u8))::row X 118 (pre++(bO R (.slice (some ⟨t,0,none⟩) b c)++post))::row t 24 xs::eG P::l) from
    iz.swap.cX (Below.refl _ _) (show w.ownsRow w.heap.size 5 1 (.slice none 0 0) 0 [] from World.ownsRow_nil _ _ _ _))
   clear h hg hb cm hn hh jy Dw ak iz hvx s3;go_enter Tryz.func111,Tryz.ntmps111;go_wp2_with fail;go_loopw [4,5] (fun v i wr=>∃(q:Nat) (A:Option Addr) (k:Nat),q≤b∧v=.slice A (16*q) k∧i=ae aa q∧Seen R q∧St w0 wr (own 5 1 (.slice A (16*q) k) (16*q) (((R.blocks.take q).flatten).map (.int .u8))::row X 118 (pre++(bO R (.slice (some ⟨t,0,none⟩) b c)++post))::row t 24 xs::eG P::l)) (fun _ i _=>b-(intOf i).toNat)
   case atStart=>exact ⟨0,none,0,by omega,rfl,rfl,⟨fun j b hj=>absurd hj (by omega)⟩,uV.o⟩
   case round =>
    obtain ⟨q,A,k,hq,rfl,rfl,hsn,hi⟩:=hrel;have HI:=af hi;have Mt:=af hsn;clear hi hsn uV c0 c1 c2 c3 c4 lx;obtain ⟨c0,c1,c2,c3,c4,lx⟩:=mi ho (HI.o.pick 1 rfl).row.1;rw [HH.o] at c0;rw [←HN.o] at c2;obtain ⟨z,hz⟩:=xE (16*q);have HZ:=af hz;rw [←hz] at HI ⊢;have adJ:z≤160:=by omega
    clear hz;by_cases aH:q < b
    ·have df:(q:Int) < (b:Int):=by omega
     have NT:(0:Int)≤(q:Int):=by omega
     have Le:q < R.blocks.length:=by rw [←ch.o];exact aH
     have hqv:q < vs.length:=by rw [HB.o.1];exact Le
     have hvq:=HVX.o q aH;rw [cN hqv] at hvq;have hbq:=HB.o.2 q R.blocks[q] vs[q] (cN _) (cN hqv);have cq:wr.cell? ⟨t,q,none⟩=some vs[q]:=by rw [(HI.o.pick 2 rfl).row.1.cell q];exact hvq
     have lq:=(HI.o.pick 2 rfl).row.1.lt;rcases hbq with ⟨lH,xF⟩|⟨Hb,g1,c1',xs1,hP,Iu,VH⟩
     ·rw [xF] at cq;have HE:=af (show dm R=([],11) by unfold dm;rw [if_neg (by rw [HH.o];decide),if_pos ⟨_,List.getElem_mem Le,lH⟩]);clear hvq xF lH;go_wp2_with fail;go_ret2;rw [HE.o];refine ⟨_,_,_,_,rfl,Nat.le_refl _,pQ w0,St.addFact ?_ trivial⟩;have h2:=(HI.o.drop.pick 1 rfl).mE (size:=1) (n:=b) (cap:=c) DE uk (by exact uv.o);rw [HXT.o,ch.o] at h2;have h3:=h2.swap;exact mh HB.o h3
     ·rw [Iu] at cq;have yX:=KL (HI.o.pick 3 rfl) hP;have Ge:=af (show Sl wr wr.heap.size 1 (some ⟨g1,0,none⟩) 16 ((R.blocks[q]).map (.int .u8)) from yX.1.sl (o:=0) yX.1.lt (by rw [List.drop_zero];exact VH.symm) (by rw [iB,Hb]))
      have ac4:=af (show Seen R (q+1) from ⟨fun j b' hj dJ=>by
       rcases Nat.lt_or_ge j q with h1|h1
       ·exact Mt.o.all j b' h1 dJ
       ·have:j=q:=by omega
        subst this;rw [cN Le] at dJ;injection dJ with dJ
        rw [←dJ];intro e;rw [e] at Hb
        exact absurd Hb (by decide)⟩)
      clear hvq Iu yX VH hP;go_wp2_with (refine tK sn rfl (.tmp 29) (.tmp 36) rfl HI.o.own rfl rfl Ge.o (ji _) (by omega) (by omega) (by unfold maxLen;omega) (HI.o.aE.size) ?_;intro g2 cap w4 ho hg kU Lm;have H4:=af (HI.o.grown hg ho (fun x hx=>by injection hx with hx;rw [←hx];exact kU));clear ho hg kU);go_roundw
      case rel=>exact ⟨q+1,some ⟨g2,0,none⟩,cap,by omega,by rw [HZ.o,Nat.mul_succ],by go_num,ac4.o,by
       have h:=H4.o;rw [←List.map_append,show (R.blocks.take q).flatten++R.blocks[q]=(R.blocks.take (q+1)).flatten by rw [kr Le,List.flatten_append];simp,show z+16=16*(q+1) by rw [HZ.o,Nat.mul_succ]] at h
       exact h⟩
      case measure=>simp [intOf]<;>omega
    ·obtain rfl:q=b:=by omega
     have HZC:=af (show z≤k by
      obtain ⟨A',c',e,hc,_⟩:=aD HI.o.own;injection e with _ _ e
      omega)
     have hnz:n≤z:=by have:=HZ.o;omega
     have hnk:n≤k:=by have:=HZC.o;omega
     go_wp2_with fail;go_ret2;have cH:(R.blocks.take q)=R.blocks:=by rw [ch.o];exact List.take_length
     have HE:dm R=(R.blocks.flatten.take n,0):=by
      unfold dm;rw [if_neg (by rw [HH.o];decide),if_neg,←HN.o,dC];rintro ⟨b',nB,rfl⟩;obtain ⟨j,hj,e⟩:=List.getElem_of_mem nB;exact Mt.o.all j [] (by rw [ch.o];exact hj) (by rw [cN hj,e]) rfl
     rw [HE];obtain ⟨t2,x2,hA,_,_,uc,ak⟩:=nu HI.o (by omega);subst hA;rw [cH,Nat.mul_one] at uc;have xW:=Mt.o.len HB.o (by rw [ch.o];exact Nat.le_refl _);rw [cH] at xW;refine ⟨_,_,_,row t2 5 x2,rfl,hnk,pP ?_ ?_,?_⟩
     ·rw [fW,xW];omega
     ·rw [List.map_take,←uc,List.take_take,Nat.min_eq_left hnz]
     ·have h2:=(ak.pick 2 rfl).mE (size:=1) (n:=q) (cap:=c) DE uk (by exact uv.o);rw [HXT.o,ch.o] at h2;have h3:=(h2.pick 2 rfl)
      exact (mh HB.o h3).swap
theorem U6 (h:St w0 w l) (b:Bool) (x y z:Int) {A:Option Addr} {n c:Nat} {vs:List Value} (hs:Sl w w.heap.size 1 A n vs) (hA:A=none→c=0) (h1:∀u∈vs,u.oneCell'=true) (hn:n≤1000) :
  Calls Tryz.prog 57 #[.agg #[.bool b,ae aa x,ae aa y,ae aa z,.slice A n c]] w fun e w'=>∃v',e=.returned (.agg #[.bool b,ae aa x,ae aa y,ae aa z,v'])∧St w0 w' (own 24 1 v' n vs::l):=by
 have HA:=af hA;have H:=af h;have H1:=af h1;obtain ⟨X,hX⟩:=xE w.heap.size;obtain ⟨wa,Fy⟩:∃wa,wa=(w.alloc (.cells #[.bool b,ae aa x,ae aa y,ae aa z,.slice A n c] 118)).alloc (.cells #[.bool false,ae aa 0,ae aa 0,ae aa 0,.slice none 0 0] 118):=⟨_,rfl⟩
 have HS:=af (show St w0 wa (row (X+1) 118 [.bool false,ae aa 0,ae aa 0,ae aa 0,.slice none 0 0]::row X 118 [.bool b,ae aa x,ae aa y,ae aa z,.slice A n c]::l) by
  have h2:=(h.new 118 #[.bool b,ae aa x,ae aa y,ae aa z,.slice A n c]).new 118 #[.bool false,ae aa 0,ae aa 0,ae aa 0,.slice none 0 0];rw [show (w.alloc (.cells #[.bool b,ae aa x,ae aa y,ae aa z,.slice A n c] 118)).heap.size=w.heap.size+1 by simp,←Fy,←hX] at h2
  exact h2)
 have HSW:=af (show Sl wa wa.heap.size 1 A n vs by
  have hb:Below w.heap.size w wa:=by rw [Fy];exact (((St.nil w).new _ _).new _ _).aE
  exact (hs.below hb).more hb.size)
 have HWA:=af Fy;have HX:=af hX;clear h h1 Fy hX hs hA;go_enter Tryz.func57,Tryz.ntmps57;go_upto_region 1 with fail;rw [←HWA.o,←HX.o];have c4:=(HS.o.pick 1 rfl).row.1.c4;have lJ:=af HSW.o;go_upto_region 2 with fail
 go_cut [3] (fun s w5=>St w0 w5 (own 24 1 s n vs::row (X+1) 118 [.bool false,ae aa 0,ae aa 0,ae aa 0,.slice none 0 0]::row X 118 [.bool b,ae aa x,ae aa y,ae aa z,.slice A n c]::l))
 case first =>
  go_wp2_with (refine TG ab9 rfl (.tmp 4) (.tmp 6) rfl (World.ownsRow_nil wa wa.heap.size 24 1) rfl rfl HA.o lJ.o H1.o (by omega) (by unfold maxLen;omega) (Nat.le_refl _) ?_;intro v5 w5 xJ ze;rw [Nat.zero_add,List.nil_append] at xJ;have H5:=af (HS.o.cX ⟨ze.os,ze.tape,ze.output,ze.size,fun i hi=>ze.block i hi (by simp [Value.ownBlock])⟩ xJ);clear xJ ze);go_meet;exact H5.o
 case rest =>
 obtain ⟨A5,c5,rfl,hc5,hm5⟩:=aD hcut.own;obtain ⟨w6,mK⟩:=xE (wc.setCell ⟨X,4,none⟩ (.slice A5 n c5))
 have H6:=af (show St w0 w6 (row X 118 [.bool b,ae aa x,ae aa y,ae aa z,.slice A5 n c5]::row (X+1) 118 [.bool false,ae aa 0,ae aa 0,ae aa 0,.slice none 0 0]::own 24 1 (.slice A5 n c5) n vs::l) by
  have h2:=((hcut.pick 2 rfl).set 4 (.slice A5 n c5)).pick 2 rfl;rw [mK]
  exact h2.pick 1 rfl)
 have fz:=(hcut.pick 2 rfl).row.1.frozen 4;have cz:=(hcut.pick 2 rfl).row.1.c4;have lz:=(hcut.pick 2 rfl).row.1.lt;have Ck:=af mK;clear mK hcut;go_upto_region 4 with fail;rw [←Ck.o];clear fz lz cz
 obtain ⟨d0,d1,d2,d3,d4⟩:w6.cell? ⟨X,0,none⟩=some (.bool b)∧w6.cell? ⟨X,1,none⟩=some (ae aa x)∧w6.cell? ⟨X,2,none⟩=some (ae aa y)∧w6.cell? ⟨X,3,none⟩=some (ae aa z)∧w6.cell? ⟨X,4,none⟩=some (.slice A5 n c5) :=
  ⟨H6.o.row.1.cell 0,H6.o.row.1.cell 1,H6.o.row.1.cell 2,H6.o.row.1.cell 3,H6.o.row.1.cell 4⟩
 go_wp2_with (refine aB rfl 118 (.tmp 2) (.tmp 10) rfl (X+1) 0 #[.bool b,ae aa x,ae aa y,ae aa z,.slice A5 n c5] rfl rfl (H6.o.pick 1 rfl).row.1 (by kernel_rfl) (Nat.le_refl 5) (by simp [Value.oneCell']) [.bool b,ae aa x,ae aa y,ae aa z,.slice A5 n c5] rfl ?_);have H7:=af ((H6.o.pick 1 rfl).setRow [.bool b,ae aa x,ae aa y,ae aa z,.slice A5 n c5]);refine bodyPost_ret (results_cell_row rfl _ _ (X+1) _ _ _ _ rfl H7.o.row.1 Tryz.underlying118 rfl (by kernel_rfl)) rfl ?_;exact ⟨_,rfl,H7.o.drop.drop⟩
end
end aG
namespace store
open Go.RowKit Go.Deep base obj mem sep aW aX record bD aG image bN bL chain bC
section
variable {bs:List Int} {no:Nat}
theorem V8 {xs:List Int} {N k:Nat} (hx:xs.length=N) (hk:k < N) {b:Int} (hb:xs[k]?=some b):(xs.take k++List.replicate (N-k) 0).set k b=xs.take (k+1)++List.replicate (N-(k+1)) 0:=by
 obtain ⟨j,hj⟩:∃j,N-k=j+1:=⟨N-k-1,by omega⟩
 have:N-(k+1)=j:=by omega
 have hl:(xs.take k).length=k:=by simp;omega
 rw [hj,this,List.set_append_right _ _ (by omega),hl,Nat.sub_self,List.replicate_succ,List.set_cons_zero,List.take_add_one,hb];simp
theorem vz (xs:List Int) (k:Nat) (b:Int):(aP xs).set k (.int .u8 b)=aP (xs.set k b):=by simp [aP,List.map_set]
theorem BJ (h1:1≤bs.length) (h2:bs.length≤160) (hn:no≤ec bs):(dP bs no).st.right=true:=by
 have a:(2:Int) ^ no≤2 ^ ec bs:=by exact_mod_cast Nat.pow_le_pow_right (by omega) hn
 have b:(1:Int)≤2 ^ no:=by exact_mod_cast Nat.one_le_two_pow
 have e:(dP bs no).st=⟨1,bs.length,2 ^ no-1⟩:=rfl;rw [e];simp only [aR.right,yx,Bool.and_eq_true,decide_eq_true_eq];generalize (2:Int) ^ no=x,(2:Int) ^ ec bs=y at *;omega
theorem Ft (hn:no≤ec bs):(dP bs no).blocks.length=ec bs:=by simp [dP];omega
theorem U0 {w0 w:World} {l:List aI} (h:St w0 w l) (i:aq) (hr:i.right) (cG:bn i.code) (A:Option Addr) (c:Nat) (hc:i.code.length≤c) (hs:Sl w w.heap.size 1 A i.code.length (aP i.code)) :
  Calls Tryz.prog 85 #[i.val A c] w fun e w'=>∃v,e=.returned (.agg (bO (fU i.bytes) v).toArray)∧∃P vs,qc P (fU i.bytes).blocks vs∧St w0 w' (own 24 1 v (fU i.bytes).blocks.length vs::eG P::l):=by
 have HP:=af (fun (w':World) (hb:Below w.heap.size w w')=>tt.U1 w' i hr cG A c hc ((hs.below hb).more hb.size));have aaz:i.code.length≤96:=by obtain ⟨_,_,_,_,_,_,_,h⟩:=hr;omega
 have ch:=af (nS i);have lM:=af (show bn i.bytes from vd _ (tE i cG));obtain ⟨n,hn⟩:=xE (49+i.code.length);rw [←hn] at HP ch;obtain ⟨bs,gF⟩:=xE i.bytes;rw [←gF] at HP ch lM ⊢;have FK:49≤n:=by omega
 have ID:n≤145:=by omega
 simp only [aq.val] at HP ⊢;obtain ⟨Z,hZ⟩:=xE w.heap.size;obtain ⟨w1,aF⟩:∃w1,w1=((w.alloc (.cells #[ae aa i.part,ae aa i.version,ae aa i.aV,ae aa i.mem,ae aa i.fuel,ae aa i.aM,ae aa i.ax,.slice A i.code.length c] 26)).alloc (.cells #[.bool false,ae aa 0,ae aa 0,ae aa 0,.slice none 0 0] 118)).alloc (.cells #[.bool false,ae aa 0,ae aa 0,ae aa 0,.slice none 0 0] 118):=⟨_,rfl⟩
 have bh:=af (show Below w.heap.size w w1 by rw [aF];exact ((((St.nil w).new _ _).new _ _).new _ _).aE)
 have H1:=af (show St w0 w1 (row (Z+1+1) 118 [.bool false,ae aa 0,ae aa 0,ae aa 0,.slice none 0 0]::row (Z+1) 118 [.bool false,ae aa 0,ae aa 0,ae aa 0,.slice none 0 0]::row Z 26 [ae aa i.part,ae aa i.version,ae aa i.aV,ae aa i.mem,ae aa i.fuel,ae aa i.aM,ae aa i.ax,.slice A i.code.length c]::l) by
  have h3:=((h.new 26 #[ae aa i.part,ae aa i.version,ae aa i.aV,ae aa i.mem,ae aa i.fuel,ae aa i.aM,ae aa i.ax,.slice A i.code.length c]).new 118 #[.bool false,ae aa 0,ae aa 0,ae aa 0,.slice none 0 0]).new 118 #[.bool false,ae aa 0,ae aa 0,ae aa 0,.slice none 0 0];rw [←aF] at h3;simp only [World.alloc,Array.size_push,←hZ] at h3
  exact h3)
 have br:=af aF;have HZ:=af hZ;generalize i.part=i0,i.version=i1,i.aV=i2,i.mem=i3,i.fuel=i4,i.aM=i5,i.ax=i6,i.code.length=i7 at *;have td:=af (fun (R:RS)=>Fs R (bs:=bs) (by have:=ch.o;omega) (by have:=ch.o;omega));rw [ch.o] at td;have xh:=af (show ec bs=(n+15) / 16 by unfold ec;rw [ch.o]);clear h hr hs hn gF cG hc aF hZ;go_enter Tryz.func85,Tryz.ntmps85;go_upto_region 2 with fail;rw [←br.o,←HZ.o];obtain ⟨X,hX⟩:=xE (Z+1+1);obtain ⟨Y,hY⟩:=xE (Z+1);have r3:=(H1.o.pick 2 rfl).row.1;have t0:=r3.cell 0;have t1:=r3.cell 1;have t2:=r3.cell 2;have t3:=r3.cell 3;have t4:=r3.cell 4;have t5:=r3.cell 5;have t6:=r3.cell 6;have t7:=r3.cell 7;have lZ:=r3.lt;clear r3;go_wp2_with fail;refine (HP.o _ bh.o).mono ?_;rintro e w2 ⟨v,rfl,ho,hb⟩;obtain ⟨A2,c2,rfl,BW,xN⟩:=aD ho
 have H2:=af (show St w0 w2 (nr X [] [] [] RS.none::eG []::own 5 1 (.slice A2 n c2) n (aP bs)::row Y 118 [.bool false,ae aa 0,ae aa 0,ae aa 0,.slice none 0 0]::l) by
  have h2:=H1.o.cX hb ho;rw [←hX,←hY] at h2;refine mh (pre:=[]) (post:=[]) (v:=.slice none 0 0) (vs:=[]) ⟨rfl,fun i b v h=>by simp [RS.none] at h⟩ ?_;have h3:St w0 w2 (eG []::own 24 1 (.slice none 0 0) 0 []::own 5 1 (.slice A2 n c2) n (aP bs)::row X 118 [.bool false,ae aa 0,ae aa 0,ae aa 0,.slice none 0 0]::row Y 118 [.bool false,ae aa 0,ae aa 0,ae aa 0,.slice none 0 0]::row Z 26 [ae aa i0,ae aa i1,ae aa i2,ae aa i3,ae aa i4,ae aa i5,ae aa i6,.slice A i7 c]::l):=St.eJ (L:=[]) (h2.cX (Below.refl _ _) ⟨rfl,.inl ⟨rfl,rfl⟩⟩);have h4:=(h3.pick 5 rfl).drop;have h5:=h4.pick 3 rfl;have h6:=(h5.pick 2 rfl).swap
  exact h6)
 clear t0 t1 t2 t3 t4 t5 t6 t7 lZ ho hb;rw [←hX,←hY];clear hX hY;go_wp2_with fail;refine (KF (o:=0) rfl H2.o 1 (n:Int) (by omega)).mono ?_;rintro e w3 ⟨rfl,h3⟩;rw [td.o RS.none] at h3 ⊢;have H3:=af h3;clear h3;dsimp only at H3 ⊢;go_wp2_with fail;go_loopw [5] (fun x wr=>∃(no:Nat) (P:List (Nat×List Value)),no≤ec bs∧x=ae aa ((16*no:Nat):Int)∧St w0 wr (nr X [] [] P (dP bs no)::eG P::own 5 1 (.slice A2 n c2) n (aP bs)::row Y 118 [.bool false,ae aa 0,ae aa 0,ae aa 0,.slice none 0 0]::l)) (fun x _=>16*ec bs-(intOf x).toNat)
 case atStart=>exact ⟨0,[],by omega,rfl,H3.o⟩
 case round =>
  obtain ⟨no,P,jS,rfl,ak⟩:=hrel;clear H3;obtain ⟨f,hf⟩:=xE (16*no);rw [←hf];have kV:=xh.o;by_cases aH:no < ec bs
  ·have k1:(f:Int) < (n:Int):=by omega
   have qB:=KT;obtain ⟨D,hD⟩:=xE wr.heap.size;obtain ⟨w5,eD⟩:=xE (wr.alloc (.cells (Array.replicate 16 (.int .u8 0)) 5));have EA:=ak.new 5 (Array.replicate 16 (Value.int .u8 0));rw [←hD,←eD] at EA;have bH:=af EA;have HF:=af hf;have HD:=af hD;have sO:=af eD;have HK:=af aH;have QK:=af kV;clear ak EA hf hD eD kV;go_upto_region 8 with fail;rw [←sO.o,←HD.o];go_wp2_with fail;have iS:=af (Hk (bs:=bs) (j:=no) (by have:=HF.o;rw [ch.o];omega));have jr:=af (pW HK.o);obtain ⟨xs,Is⟩:=xE (fc bs no);rw [←Is] at iS jr;have Mp:=af Is;clear Is;go_loopw [7] (fun x w8=>∃k:Nat,k≤16∧f+k≤n∧x=ae aa (k:Int)∧St w0 w8 (row D 5 (aP (xs.take k++List.replicate (16-k) 0))::nr X [] [] P (dP bs no)::eG P::own 5 1 (.slice A2 n c2) n (aP bs)::row Y 118 [.bool false,ae aa 0,ae aa 0,ae aa 0,.slice none 0 0]::l)) (fun x _=>16-(intOf x).toNat)
   case atStart=>exact ⟨0,by omega,by omega,rfl,bH.o⟩
   case round =>
    obtain ⟨k,aaC,lv,rfl,ak⟩:=hrel;by_cases hk:k < 16
    ·have e1:(k:Int) < 16:=by omega
     obtain ⟨g,hg⟩:=xE (f+k);have W2:IntKind.i64.wrap ((f:Int)+(k:Int))=(g:Int):=by rw [IntWalk.i64_in _ (by omega)];omega
     by_cases acF:g < n
     ·have e2:(g:Int) < (n:Int):=by omega
      have dk:=Sl.bP ((ak.pick 3 rfl).own);obtain ⟨b,off,hA,cm,pN⟩:=dk.2 (by omega);have IK:g < bs.length:=by rw [ch.o];exact acF
      obtain ⟨bv,hbv⟩:∃bv,bs[g]?=some bv:=⟨_,cN IK⟩
      have fJ:wr.cell? ⟨b,off+g,none⟩=some (.int .u8 bv):=pN g _ (by simp [aP,hbv])
      have hxk:xs[k]?=some bv:=by
       have hff:=HF.o;rw [iS.o,List.getElem?_append_left (by simp only [fW,List.length_drop,ch.o];omega),List.getElem?_take,if_pos hk,List.getElem?_drop,←hff,←hg];exact hbv
      have HFS:=af (V8 jr.o hk hxk);have r:=ak.row.1;have lD:=r.lt;have fz:=r.frozen k;have cD:=r.cell k
      have j9:(aP (xs.take k++List.replicate (16-k) 0))[k]?=some (.int .u8 0):=by
       simp only [aP,List.getElem?_map];rw [List.getElem?_append_right (by rw [fW];omega),show k-(xs.take k).length=0 by rw [fW,jr.o];omega,List.getElem?_replicate,if_pos (by omega)];rfl
      rw [j9] at cD;have HA:=af hA;have iy:=af ak;have HG:=af hg;clear j9 dk pN hxk hA ak hg lv IK r hbv;rw [HA.o];go_wp2_with fail;go_roundw
      case rel =>
       refine ⟨k+1,by omega,by have:=HG.o;omega,by go_num,?_⟩;have h:=iy.o.set k (.int .u8 bv);rw [vz,HFS.o,HA.o] at h;exact h
      case measure=>simp [intOf];omega
     ·have e2:¬(g:Int) < (n:Int):=by omega
      have po:=af (show xs.take k++List.replicate (16-k) 0=xs by
       have hff:=HF.o;have hm:min 16 (bs.length-16*no)=k:=by rw [ch.o];omega
       have h1:=iS.o;rw [hm] at h1
       have h2:xs.take k=(bs.drop (16*no)).take 16:=by
        rw [h1];exact List.take_left' (by rw [fW,List.length_drop];exact hm)
       rw [h2];exact h1.symm)
      have H8:=af (show St w0 wr (row D 5 (aP xs)::nr X [] [] P (dP bs no)::eG P::own 5 1 (.slice A2 n c2) n (aP bs)::row Y 118 [.bool false,ae aa 0,ae aa 0,ae aa 0,.slice none 0 0]::l) by rw [po.o] at ak;exact ak);clear ak hg;have yl:=af (pP (w0:=w0) (t:=D) (n:=16) (xs:=aP xs) (bs:=xs) jr.o (by rw [List.take_of_length_le (by simp [aP,jr.o])]));have abO:no≤10:=by have:=HK.o;have:=QK.o;omega
      have TU:=af (Eu (bs:=bs) HK.o);rw [←Mp.o] at TU;go_wp2_with fail;rw [show (f:Int) / 16=(no:Int) by have:=HF.o;omega];refine (Kz (o:=0) rfl (l:=own 5 1 (.slice A2 n c2) n (aP bs)::row Y 118 [.bool false,ae aa 0,ae aa 0,ae aa 0,.slice none 0 0]::l) ((H8.o.pick 2 rfl).pick 2 rfl) yl.o (fun _=>BJ (by rw [ch.o];omega) (by rw [ch.o];omega) (by have:=HK.o;omega)) (by rw [Ft (by have:=HK.o;omega)];have:=QK.o;omega) 1 (no:Int)).mono ?_;rintro e w9 ⟨rfl,P',hP,h9⟩;rw [TU.o] at h9 ⊢;have H9:=af ((h9.pick 2 rfl).drop);clear h9 hP;dsimp only at H9 ⊢;go_wp2_with fail;go_roundw;case rel=>exact ⟨no+1,P',by have:=HK.o;omega,by have:=HF.o;go_num,H9.o⟩
      case measure=>have:=HF.o;simp [intOf];omega
    ·have hk:k=16:=by omega
     have e1:¬(k:Int) < 16:=by omega
     have po:=af (show xs.take k++List.replicate (16-k) 0=xs by
      rw [hk,List.take_of_length_le (by rw [jr.o];omega)];simp)
     have H8:=af (show St w0 wr (row D 5 (aP xs)::nr X [] [] P (dP bs no)::eG P::own 5 1 (.slice A2 n c2) n (aP bs)::row Y 118 [.bool false,ae aa 0,ae aa 0,ae aa 0,.slice none 0 0]::l) by rw [po.o] at ak;exact ak);clear ak hk;have yl:=af (pP (w0:=w0) (t:=D) (n:=16) (xs:=aP xs) (bs:=xs) jr.o (by rw [List.take_of_length_le (by simp [aP,jr.o])]));have abO:no≤10:=by have:=HK.o;have:=QK.o;omega
     have TU:=af (Eu (bs:=bs) HK.o);rw [←Mp.o] at TU;go_wp2_with fail;rw [show (f:Int) / 16=(no:Int) by have:=HF.o;omega];refine (Kz (o:=0) rfl (l:=own 5 1 (.slice A2 n c2) n (aP bs)::row Y 118 [.bool false,ae aa 0,ae aa 0,ae aa 0,.slice none 0 0]::l) ((H8.o.pick 2 rfl).pick 2 rfl) yl.o (fun _=>BJ (by rw [ch.o];omega) (by rw [ch.o];omega) (by have:=HK.o;omega)) (by rw [Ft (by have:=HK.o;omega)];have:=QK.o;omega) 1 (no:Int)).mono ?_;rintro e w9 ⟨rfl,P',hP,h9⟩;rw [TU.o] at h9 ⊢;have H9:=af ((h9.pick 2 rfl).drop);clear h9 hP;dsimp only at H9 ⊢;go_wp2_with fail;go_roundw;case rel=>exact ⟨no+1,P',by have:=HK.o;omega,by have:=HF.o;go_num,H9.o⟩
     case measure=>have:=HF.o;simp [intOf];omega
  ·have k1:¬(f:Int) < (n:Int):=by omega
   have HE:=af (show no=ec bs by omega);obtain ⟨v,vs,NN,iz⟩:=nL ak;obtain ⟨Av,cv,rfl,_,_⟩:=aD (iz.pick 1 rfl).own;have HVB:=af NN;have bH:=af iz;have rX:=iz.row.1;have hL:dP bs no=fU bs:=by rw [HE.o];rfl
   simp only [bO,List.nil_append,List.append_nil] at rX;obtain ⟨vb,VJ⟩:∃v,v=(dP bs no).has:=⟨_,rfl⟩
   obtain ⟨v1,Iu⟩:∃v,v=(dP bs no).st.aC:=⟨_,rfl⟩
   obtain ⟨v2,Sn⟩:∃v,v=(dP bs no).st.size:=⟨_,rfl⟩
   obtain ⟨v3,hv3⟩:∃v,v=(dP bs no).st.bf:=⟨_,rfl⟩
   obtain ⟨v4,hv4⟩:∃v,v=(dP bs no).blocks.length:=⟨_,rfl⟩
   rw [←VJ,←Iu,←Sn,←hv3,←hv4] at rX;have HV:=af (show bO (fU bs) (.slice Av (fU bs).blocks.length cv)=[.bool vb,ae aa v1,ae aa v2,ae aa v3,.slice Av v4 cv] by rw [bO,VJ,Iu,Sn,hv3,hv4,hL]);have x0:=rX.cell 0;have x1:=rX.cell 1;have x2:=rX.cell 2;have x3:=rX.cell 3;have x4:=rX.cell 4;have lX:=rX.lt;have HRY:=af (iz.pick 4 rfl).row.1;have HL:=af hL;clear hf ak kV NN iz rX VJ Iu Sn hv3 hv4 hL;have MS:=af (show (Tryz.prog.info? 118).map (·.size)=some (#[Value.bool vb,ae aa v1,ae aa v2,ae aa v3,.slice Av v4 cv]:Array Value).size from by kernel_rfl);go_upto_region 13 with fail;go_wp2_with (with_reducible refine aB rfl 118 (.tmp 2) (.tmp 51) rfl Y 0 #[.bool vb,ae aa v1,ae aa v2,ae aa v3,.slice Av v4 cv] rfl rfl HRY.o MS.o (Nat.le_refl _) (by simp [Value.oneCell']) [.bool vb,ae aa v1,ae aa v2,ae aa v3,.slice Av v4 cv] rfl ?_);have HS:=af ((bH.o.pick 4 rfl).setRow [.bool vb,ae aa v1,ae aa v2,ae aa v3,.slice Av v4 cv]);refine bodyPost_ret (results_cell_row rfl _ _ Y _ _ _ _ rfl HS.o.row.1 Tryz.underlying118 rfl (by kernel_rfl)) rfl ?_;refine ⟨.slice Av (fU bs).blocks.length cv,by rw [HV.o],P,vs,?_,?_⟩
   ·rw [←HL.o];exact HVB.o
   ·rw [←HL.o];have h1:=HS.o.drop;have h2:=h1.drop;have h3:=(h2.pick 2 rfl).drop;exact h3
end
def pF (xs:List Int):List Int:=xs.set 3 (Go.bits .xor .u8 (xs.getD 3 0) 64)
def mm (i:aq) (no:Int):List Int:=if i.right∧0≤no∧no < 20∧16*no < i.bytes.length then fc i.bytes no.toNat else List.replicate 16 0
def iI (i:aq) (no:Int) (dL:Bool):List Int:=if dL then pF (mm i no) else mm i no
theorem zN (i:aq) (no:Int):(mm i no).length=16:=by
 unfold mm;split
 ·rename_i h;exact pW (by unfold ec;omega)
 ·simp
theorem vu (i:aq) (no:Int) (s:Bool):(iI i no s).length=16:=by
 unfold iI pF;split
 ·simp [zN]
 ·exact zN i no
theorem Md {w0 w:World} {l:List aI} (h:St w0 w l) (i:aq) (cG:bn i.code) (A:Option Addr) (c:Nat) (hc:i.code.length≤c) (uk:i.code.length≤9223372036854775807) (hs:Sl w w.heap.size 1 A i.code.length (aP i.code)) (no:Int) (dL:Bool) :
  Calls Tryz.prog 31 #[i.val A c,ae aa no,.bool dL] w fun e w'=>∃D,e=.returned (.slice (some ⟨D,0,none⟩) 16 16)∧St w0 w' (row D 5 (aP (iI i no dL))::l):=by
 have HP:=af (fun (w':World) (hb:Below w.heap.size w w') (hr:i.right)=>GP w' i hr A c hc cG ((hs.below hb).more hb.size));have HPN:=af (fun (w':World) (hr:¬i.right)=>NK w' i hr A c uk);have ch:=af (nS i);have abf:=af (show i.right→i.code.length≤96 from fun ⟨_,_,_,_,_,_,_,h⟩=>by omega);have DQ:=af (fun (h:i.right∧0≤no∧no < 20∧16*no < i.bytes.length)=>show mm i no=fc i.bytes no.toNat from if_pos h);have QI:=af (fun (h:¬(i.right∧0≤no∧no < 20∧16*no < i.bytes.length))=>show mm i no=List.replicate 16 0 from if_neg h);have WM:=af (show iI i no dL=if dL then pF (mm i no) else mm i no from rfl);generalize iI i no dL=bl at *;generalize mm i no=pb at *;obtain ⟨bs,gF⟩:=xE i.bytes;rw [←gF] at HP ch DQ QI;obtain ⟨rr,oM⟩:∃p:Prop,p=i.right:=⟨_,rfl⟩
 rw [←oM] at HP HPN abf DQ QI;obtain ⟨n,hn⟩:=xE (49+i.code.length);rw [←hn] at HP ch;have HN:=af hn;simp only [aq.val] at HP HPN ⊢;obtain ⟨Z,hZ⟩:=xE w.heap.size;obtain ⟨D,hD⟩:=xE (Z+1);obtain ⟨w1,aF⟩:∃w1,w1=(w.alloc (.cells #[ae aa i.part,ae aa i.version,ae aa i.aV,ae aa i.mem,ae aa i.fuel,ae aa i.aM,ae aa i.ax,.slice A i.code.length c] 26)).alloc (.cells (Array.replicate 16 (.int .u8 0)) 5):=⟨_,rfl⟩
 have bh:=af (show Below w.heap.size w w1 by rw [aF];exact (((St.nil w).new _ _).new _ _).aE)
 have H1:=af (show St w0 w1 (row D 5 (Array.replicate 16 (Value.int .u8 0)).toList::row Z 26 [ae aa i.part,ae aa i.version,ae aa i.aV,ae aa i.mem,ae aa i.fuel,ae aa i.aM,ae aa i.ax,.slice A i.code.length c]::l) by
  have h3:=(h.new 26 #[ae aa i.part,ae aa i.version,ae aa i.aV,ae aa i.mem,ae aa i.fuel,ae aa i.aM,ae aa i.ax,.slice A i.code.length c]).new 5 (Array.replicate 16 (Value.int .u8 0));rw [←aF] at h3;simp only [World.alloc,Array.size_push,←hZ,←hD] at h3
  exact h3)
 have br:=af aF;have HZ:=af hZ;have HD:=af hD;generalize i.part=i0,i.version=i1,i.aV=i2,i.mem=i3,i.fuel=i4,i.aM=i5,i.ax=i6,i.code.length=i7 at *;clear h hs hn gF cG hc aF hZ hD oM;have qB:=KT;go_enter Tryz.func31,Tryz.ntmps31;go_upto_region 2 with fail;rw [←br.o,←HZ.o,←HD.o];clear qB;have r3:=(H1.o.pick 1 rfl).row.1;have t0:=r3.cell 0;have t1:=r3.cell 1;have t2:=r3.cell 2;have t3:=r3.cell 3;have t4:=r3.cell 4;have t5:=r3.cell 5;have t6:=r3.cell 6;have t7:=r3.cell 7;have lZ:=r3.lt;clear r3;by_cases hr:rr
 ·go_wp2_with fail;refine (HP.o _ bh.o hr).mono ?_;rintro e w2 ⟨v,rfl,ho,hb⟩;obtain ⟨A2,c2,rfl,BW,xN⟩:=aD ho;have H2:=af (((H1.o.pick 1 rfl).drop).cX hb ho);have ID:n≤145:=by have:=abf.o hr;have:=HN.o;omega
  have FK:49≤n:=by have:=HN.o;omega
  clear t0 t1 t2 t3 t4 t5 t6 t7 lZ ho hb;by_cases eE:0≤no∧no < 20∧16*no < n
  ·obtain ⟨g0,g1,g2⟩:=eE;obtain ⟨q,rfl⟩:∃q:Nat,no=q:=⟨no.toNat,by omega⟩
   have uf:16*q < n:=by omega
   have Gj:=af (show pb=fc bs q from DQ.o ⟨hr,g0,g1,by rw [ch.o];exact g2⟩);obtain ⟨f,hf⟩:=xE (16*q);have W1:IntKind.i64.wrap ((q:Int)*16)=(f:Int):=by rw [IntWalk.i64_in _ (by omega)];omega
   have k0:(q:Int)≥0:=by omega
   have k1:(f:Int) < (n:Int):=by omega
   have k2:(0:Int)≤(f:Int):=by omega
   have k3:(f:Int)≤(n:Int):=by omega
   have k4:(n:Int)≤(c2:Int):=by omega
   have k5:(f:Int)≤(c2:Int):=by omega
   have k6:¬c2=f:=by omega
   obtain ⟨b,off,hA,cm,pN⟩:=(Sl.bP (H2.o.own)).2 (by omega);have HA:=af hA;obtain ⟨cs,cY⟩:=xE (aP ((bs.drop (16*q)).take 16))
   have qC:cs.length=Nat.min (n-16*q) 16:=by
    rw [cY];simp [aP,ch.o,Nat.min_comm]
   have HCN:=af qC
   have Ms:=af (show ∀j v,cs[j]?=some v→w2.cell? ((⟨b,off+f,none⟩:Addr).add j)=some v from fun j v hv=>by
    rw [show (⟨b,off+f,none⟩:Addr).add j=⟨b,off+(16*q+j),none⟩ by rw [hf];unfold Addr.add;split<;>simp_all [Nat.add_assoc]];refine pN (16*q+j) v ?_;rw [cY,aP,List.map_take,List.getElem?_take] at hv;split at hv
    ·rwa [List.map_drop,List.getElem?_drop] at hv
    ·simp at hv)
   have MG:=af (show 0+cs.length≤(Array.replicate 16 (Value.int .u8 0)).toList.length by rw [qC];simp only [Nat.zero_add,Array.toList_replicate,Bf];exact Nat.min_le_right _ _);have yn:=af (show ∀v∈cs,v.oneCell'=true by rw [cY];exact ji _)
   have rV:=af (show (Array.replicate 16 (Value.int .u8 0)).toList.take 0++(cs++(Array.replicate 16 (Value.int .u8 0)).toList.drop (0+cs.length))=aP (fc bs q) by
    rw [Hk (by rw [ch.o];exact uf),qC,cY,ch.o];simp only [List.take_zero,List.nil_append,Nat.zero_add,Array.toList_replicate,List.drop_replicate,aP,List.map_append,List.map_replicate]
    rw [show Nat.min (n-16*q) 16=min 16 (n-16*q) from Nat.min_comm _ _])
   have adz:=af (show cs.length=Nat.min (n-f) 16 by rw [hf];exact qC);have px:=af (H2.o.pick 1 rfl).row.1;have jr:=af (show (fc bs q).length=16 from pW (by unfold ec;rw [ch.o];omega));clear cY qC pN hA g0 g2 hf uf;rw [HA.o];go_upto_region 6 with (refine Bi rfl (.tmp 31) (.tmp 35) 24 24 rfl 5 Tryz.underlying24 Ed D 0 16 16 ⟨b,off+f,none⟩ (n-f) (c2-f) rfl rfl px.o cs adz.o Ms.o MG.o yn.o _ rV.o ?_)
   have HT:=af ((((H2.o.pick 1 rfl).setRow (aP (fc bs q))).swap).drop);have iS:=af (show (if dL then pF (fc bs q) else fc bs q)=bl by rw [WM.o,Gj.o]);clear k0 k1 k2 k3 k4 k5 k6 W1;obtain ⟨wX,Sm⟩:=xE (w2.setRow D (aP (fc bs q)).toArray);rw [←Sm] at HT ⊢;clear Sm;generalize fc bs q=xs at *;have r:=HT.o.row.1;have lD:=r.lt;have fz:wX.frozen? ⟨D,3,none⟩=false:=r.frozen 3;obtain ⟨x3,pd⟩:∃x,xs[3]?=some x:=⟨_,cN (by rw [jr.o];omega)⟩
   have cD:wX.cell? ⟨D,3,none⟩=some (.int .u8 x3):=by rw [r.cell 3];simp [aP,pd]
   have Cj:=af pd;clear r pd;cases dL with
   | false =>
     go_wp2_with fail;go_ret;exact ⟨D,rfl,by rw [←iS.o];exact HT.o⟩
   | true =>
     go_wp2_with fail;go_ret;refine ⟨D,rfl,?_⟩;have h:=HT.o.set 3 (.int .u8 (Go.bits .xor .u8 x3 64));rw [vz] at h;rw [←iS.o,pF,dD,Cj.o];exact h
  ·have Gj:=af (show pb=List.replicate 16 0 from QI.o fun h=>eE ⟨h.2.1,h.2.2.1,by have:=h.2.2.2;rw [ch.o] at this;exact this⟩);have HT:=af (show St w0 w2 (row D 5 (aP (List.replicate 16 0))::l) from (H2.o.drop).conv fun _ _ h=>h);have iS:=af (show (if dL then pF (List.replicate 16 0) else List.replicate 16 0)=bl by rw [WM.o,Gj.o]);have jr:=af (show (List.replicate 16 (0:Int)).length=16 by simp);generalize hgx:List.replicate 16 (0:Int)=xs at *;clear hgx;obtain ⟨wX,Sm⟩:=xE w2;rw [←Sm] at HT ⊢;clear Sm;by_cases g0:no≥0
   ·by_cases g1:no < 20
    ·have g2:¬16*no < (n:Int):=fun h=>eE ⟨g0,g1,h⟩;obtain ⟨q,rfl⟩:∃q:Nat,no=q:=⟨no.toNat,by omega⟩
     obtain ⟨f,hf⟩:=xE (16*q);have W1:IntKind.i64.wrap ((q:Int)*16)=(f:Int):=by rw [IntWalk.i64_in _ (by omega)];omega
     have k1:¬(f:Int) < (n:Int):=by omega
     clear g2 hf eE;have r:=HT.o.row.1;have lD:=r.lt;have fz:wX.frozen? ⟨D,3,none⟩=false:=r.frozen 3;obtain ⟨x3,pd⟩:∃x,xs[3]?=some x:=⟨_,cN (by rw [jr.o];omega)⟩
     have cD:wX.cell? ⟨D,3,none⟩=some (.int .u8 x3):=by rw [r.cell 3];simp [aP,pd]
     have Cj:=af pd;clear r pd;cases dL with
     | false =>
       go_wp2_with fail;go_ret;exact ⟨D,rfl,by rw [←iS.o];exact HT.o⟩
     | true =>
       go_wp2_with fail;go_ret;refine ⟨D,rfl,?_⟩;have h:=HT.o.set 3 (.int .u8 (Go.bits .xor .u8 x3 64));rw [vz] at h;rw [←iS.o,pF,dD,Cj.o];exact h
    ·clear eE;have r:=HT.o.row.1;have lD:=r.lt;have fz:wX.frozen? ⟨D,3,none⟩=false:=r.frozen 3;obtain ⟨x3,pd⟩:∃x,xs[3]?=some x:=⟨_,cN (by rw [jr.o];omega)⟩
     have cD:wX.cell? ⟨D,3,none⟩=some (.int .u8 x3):=by rw [r.cell 3];simp [aP,pd]
     have Cj:=af pd;clear r pd;cases dL with
     | false =>
       go_wp2_with fail;go_ret;exact ⟨D,rfl,by rw [←iS.o];exact HT.o⟩
     | true =>
       go_wp2_with fail;go_ret;refine ⟨D,rfl,?_⟩;have h:=HT.o.set 3 (.int .u8 (Go.bits .xor .u8 x3 64));rw [vz] at h;rw [←iS.o,pF,dD,Cj.o];exact h
   ·clear eE;have r:=HT.o.row.1;have lD:=r.lt;have fz:wX.frozen? ⟨D,3,none⟩=false:=r.frozen 3;obtain ⟨x3,pd⟩:∃x,xs[3]?=some x:=⟨_,cN (by rw [jr.o];omega)⟩
    have cD:wX.cell? ⟨D,3,none⟩=some (.int .u8 x3):=by rw [r.cell 3];simp [aP,pd]
    have Cj:=af pd;clear r pd;cases dL with
    | false =>
      go_wp2_with fail;go_ret;exact ⟨D,rfl,by rw [←iS.o];exact HT.o⟩
    | true =>
      go_wp2_with fail;go_ret;refine ⟨D,rfl,?_⟩;have h:=HT.o.set 3 (.int .u8 (Go.bits .xor .u8 x3 64));rw [vz] at h;rw [←iS.o,pF,dD,Cj.o];exact h
 ·go_wp2_with fail;refine (HPN.o _ hr).mono ?_;rintro e wX ⟨rfl,hb⟩;have Gj:=af (show pb=List.replicate 16 0 from QI.o fun h=>hr h.1);have HT:=af (show St w0 wX (row D 5 (aP (List.replicate 16 0))::l) from ((((H1.o.below hb).pick 1 rfl).drop)).conv fun _ _ h=>h);have iS:=af (show (if dL then pF (List.replicate 16 0) else List.replicate 16 0)=bl by rw [WM.o,Gj.o]);have jr:=af (show (List.replicate 16 (0:Int)).length=16 by simp);generalize hgx:List.replicate 16 (0:Int)=xs at *;clear hgx t0 t1 t2 t3 t4 t5 t6 t7 lZ hb;have r:=HT.o.row.1;have lD:=r.lt;have fz:wX.frozen? ⟨D,3,none⟩=false:=r.frozen 3;obtain ⟨x3,pd⟩:∃x,xs[3]?=some x:=⟨_,cN (by rw [jr.o];omega)⟩
  have cD:wX.cell? ⟨D,3,none⟩=some (.int .u8 x3):=by rw [r.cell 3];simp [aP,pd]
  have Cj:=af pd;clear r pd;cases dL with
  | false =>
    go_wp2_with fail;go_ret;exact ⟨D,rfl,by rw [←iS.o];exact HT.o⟩
  | true =>
    go_wp2_with fail;go_ret;refine ⟨D,rfl,?_⟩;have h:=HT.o.set 3 (.int .u8 (Go.bits .xor .u8 x3 64));rw [vz] at h;rw [←iS.o,pF,dD,Cj.o];exact h
end store
end Go.Proofs.YtdldkkoplgkloaaGreat
