/-
  PROVED HERE: lemmas that the law leans on.
  CONDITIONS: each names its own.
-/
import Derived.Test.YtdldkkoplgkloaaGreatPy0
import Derived.Test.YtdldkkoplgkloaaGreatPy23
import Derived.Test.YtdldkkoplgkloaaGreatPy27
namespace Go.Proofs.YtdldkkoplgkloaaGreat
set_option linter.unusedVariables false
set_option linter.unusedSimpArgs false
set_option maxRecDepth 100000
set_option maxHeartbeats 32000000
namespace aU


open Go.RowKit Go.ChangeShapes Go.WideShapes Go.ChangeAt Go.Deep Go.Joins base obj mem bw bk record Go.Proofs.YtdldkkoplgkloaaGreat.bits sep bf bytes
section
variable {pre c post : List Value} {o : Nat}
theorem kS (ho:pre.length=o) {k:Nat} {u:Value} (hu:c[k]?=some u):(pre++(c++post))[o+k]?=some u:=by
 subst ho;rw [List.getElem?_append_right (by omega),Nat.add_sub_cancel_left,List.getElem?_append_left (List.getElem?_eq_some_iff.1 hu).1];exact hu
theorem Wz (ho:pre.length=o) {k:Nat} (hk:k < c.length) (v:Value):(pre++(c++post)).set (o+k) v=pre++(c.set k v++post):=by
 subst ho;rw [List.set_append_right _ _ (by omega),Nat.add_sub_cancel_left,List.set_append_left _ _ hk]
theorem BJ (ho:pre.length=o) (k:Nat) (z:List Value) (hk:k+z.length≤c.length):(pre++(c++post)).take (o+k)++z++(pre++(c++post)).drop (o+k+z.length)=pre++((c.take k++z++c.drop (k+z.length))++post):=by
 subst ho;rw [List.take_append,List.take_of_length_le (by omega),Nat.add_sub_cancel_left,List.take_append,List.drop_append,List.drop_of_length_le (by omega),List.nil_append,Nat.add_assoc,Nat.add_sub_cancel_left,List.drop_append,show k-c.length=0 by omega,show k+z.length-c.length=0 by omega];simp
theorem Jy (ho:pre.length=o) {w0 w:World} {l:List aD} {g:Nat} {t:TypeId} (h:St w0 w (row g t (pre++(c++post))::l)) (k:Nat) (v:Value) (hk:k < c.length):St w0 (w.setCell ⟨g,o+k,none⟩ v) (row g t (pre++(c.set k v++post))::l):=by
 rw [←Wz ho hk];exact h.set _ v
end
def mC (X:Nat) (pre post:List Value) (P:List (Nat×List Value)) (R:RS):aD :=
 some_ fun q:Value×List Value=>dr [fact (o8 P R.blocks q.2),row X 118 (pre++(bE R q.1++post)),own 24 1 q.1 R.blocks.length q.2]
section
variable {w0 w : World} {l : List aD} {X o : Nat} {pre post : List Value} {P : List (Nat × List Value)} {R : RS} {v : Value} {vs : List Value}
theorem mP (h:St w0 w (mC X pre post P R::l)):∃v vs,o8 P R.blocks vs∧St w0 w (row X 118 (pre++(bE R v++post))::own 24 1 v R.blocks.length vs::l):=by
 obtain ⟨q,h1⟩:=h.ex;have h2:=h1.fI;exact ⟨q.1,q.2,h2.fact,h2.drop⟩
theorem kZ (hb:o8 P R.blocks vs) (h:St w0 w (row X 118 (pre++(bE R v++post))::own 24 1 v R.blocks.length vs::l)):St w0 w (mC X pre post P R::l) :=
 St.XH (R:=fun q:Value×List Value=>dr [fact (o8 P R.blocks q.2),row X 118 (pre++(bE R q.1++post)),own 24 1 q.1 R.blocks.length q.2]) (v,vs) (St.eR (L:=[_,_,_]) (h.addFact hb))
theorem k9 (ho:pre.length=o) (h:Row w X 118 (pre++(bE R v++post))):w.cell? ⟨X,o,none⟩=some (.bool R.has)∧w.cell? ⟨X,o+1,none⟩=some (.int .i64 R.st.aG)∧w.cell? ⟨X,o+2,none⟩=some (.int .i64 R.st.size)∧w.cell? ⟨X,o+3,none⟩=some (.int .i64 R.st.bd)∧w.cell? ⟨X,o+4,none⟩=some v∧X < w.heap.size :=
 ⟨(h.cell _).trans (kS ho (k:=0) rfl),(h.cell _).trans (kS ho rfl),(h.cell _).trans (kS ho rfl),(h.cell _).trans (kS ho rfl),(h.cell _).trans (kS ho rfl),h.lt⟩
end
theorem SP {w:World} {X o:Nat} {pre post:List Value} (ho:pre.length=o) {R:RS} {A:Option Addr} {c:Nat} (h:Row w X 118 (pre++(bE R (.slice A R.blocks.length c)++post))) (se no:Int) (D:Option Addr) (n k:Nat) :
  Calls Tryz.prog 159 #[.pointer (some ⟨X,o,none⟩),.int .i64 se,.int .i64 no,.slice D n k] w fun e w'=>e=.returned (.int .i64 (jv R se no n))∧w'=w:=by
 obtain ⟨c0,c1,c2,c3,c4,lx⟩:=k9 ho h;obtain ⟨b,hb⟩:∃b,b=R.blocks.length:=⟨_,rfl⟩
 rw [←hb] at c4;have HW:=aa (show jv R se no n=(if R.has=false then 16 else if se≠R.st.aG then 17 else if no < 0∨(b:Int)≤no then 3 else if n≠16 then 14 else 0) by unfold jv;rw [hb]);obtain ⟨r,hr⟩:∃r,r=jv R se no n:=⟨_,rfl⟩
 rw [←hr] at HW ⊢;clear h hb hr;go_enter Tryz.func159,Tryz.ntmps159;cases hh:R.has with
 | false =>
   rw [hh] at c0;have HR:=aa (show r=16 by rw [HW.o,if_pos hh]);go_wp2_with fail;go_ret;exact ⟨bt HR.o.symm,rfl⟩
 | true =>
   rw [hh] at c0;have HN:=aa (show ¬R.has=false by rw [hh];decide);clear hh;by_cases h1:se=R.st.aG
   ·have b1:(se != R.st.aG)=false:=by simpa using h1
    by_cases h2:no < 0
    ·have HR:=aa (show r=3 by rw [HW.o,if_neg HN.o,if_neg (not_not_intro h1),if_pos (.inl h2)]);clear h1;go_wp2_with fail;go_ret;exact ⟨bt HR.o.symm,rfl⟩
    ·by_cases h3:(b:Int)≤no
     ·have HR:=aa (show r=3 by rw [HW.o,if_neg HN.o,if_neg (not_not_intro h1),if_pos (.inr h3)]);clear h1;go_wp2_with fail;go_ret;exact ⟨bt HR.o.symm,rfl⟩
     ·by_cases h4:n=16
      ·have HR:=aa (show r=0 by rw [HW.o,if_neg HN.o,if_neg (not_not_intro h1),if_neg (by omega),if_neg (not_not_intro h4)]);have b4:((n:Int) != 16)=false:=by simp;omega
       clear h1;go_wp2_with fail;go_ret;exact ⟨bt HR.o.symm,rfl⟩
      ·have HR:=aa (show r=14 by rw [HW.o,if_neg HN.o,if_neg (not_not_intro h1),if_neg (by omega),if_pos h4]);have b4:((n:Int) != 16)=true:=by simp;omega
       clear h1;go_wp2_with fail;go_ret;exact ⟨bt HR.o.symm,rfl⟩
   ·have HR:=aa (show r=17 by rw [HW.o,if_neg HN.o,if_pos h1]);have b1:(se != R.st.aG)=true:=by simpa using h1
    clear h1;go_wp2_with fail;go_ret;exact ⟨bt HR.o.symm,rfl⟩
theorem Jm {w0 w:World} {l:List aD} {X o:Nat} {pre post:List Value} (ho:pre.length=o) {P:List (Nat×List Value)} {R:RS} (h:St w0 w (mC X pre post P R::l)) (se sz:Int) (iu:-9223372036854775808≤sz) :
  Calls Tryz.prog 108 #[.pointer (some ⟨X,o,none⟩),.int .i64 se,.int .i64 sz] w fun e w'=>e=.returned (.int .i64 (fF R se sz).1)∧St w0 w' (mC X pre post P (fF R se sz).2::l):=by
 obtain ⟨v,vs,hb,av⟩:=mP h;obtain ⟨T,hT⟩:∃T,T=w.heap.size:=⟨_,rfl⟩
 obtain ⟨w1,aJ⟩:∃w1,w1=w.alloc (.cells #[.int .i64 se,.int .i64 sz,.int .i64 0] 31):=⟨_,rfl⟩
 have H1:=aa (show St w0 w1 (row T 31 [.int .i64 se,.int .i64 sz,.int .i64 0]::row X 118 (pre++(bE R v++post))::own 24 1 v R.blocks.length vs::l) by rw [aJ,hT];exact av.new _ _);have MJ:=aa (fun w=>fC.nD ⟨se,sz,0⟩ w iu);have bq:=aa aJ;have HT:=aa hT;have CN:=aa hb;clear h av aJ hT hb;go_enter Tryz.func108,Tryz.ntmps108;go_upto_region 2 with fail;rw [←bq.o,←HT.o];obtain ⟨t0,t1,t2⟩:w1.cell? ⟨T,0,none⟩=some (.int .i64 se)∧w1.cell? ⟨T,1,none⟩=some (.int .i64 sz)∧w1.cell? ⟨T,2,none⟩=some (.int .i64 0):=⟨H1.o.row.1.cell 0,H1.o.row.1.cell 1,H1.o.row.1.cell 2⟩
 go_wp2_with fail;rw [←aS.mA ⟨se,sz,0⟩];refine (MJ.o _).mono ?_;rintro e w2 ⟨rfl,hb⟩;have H2:=aa (H1.o.below hb);clear hb t0 t1 t2;cases hr:(aS.mk se sz 0).right with
 | false =>
   have HE:=aa (show fF R se sz=(3,R) by unfold fF;rw [hr];rfl);go_wp2_with fail;go_ret;rw [HE.o];exact ⟨rfl,kZ CN.o H2.o.drop⟩
 | true =>
   obtain ⟨n,hn⟩:∃n,n=aR sz:=⟨_,rfl⟩
   have hz:=(iD hr).2.1;simp only at hz;obtain ⟨z1,z2⟩:=hz;have FH:n≤10:=by rw [hn];unfold aR;omega
   have HE:=aa (show fF R se sz=(0,⟨true,⟨se,sz,0⟩,List.replicate n []⟩) by unfold fF;rw [hr,hn];rfl);have ch:=aa (show ∀w,Calls Tryz.prog 158 #[.int .i64 sz] w fun e w'=>e=.returned (.int .i64 (n:Nat))∧w'=w by rw [hn];exact fun w=>fC.ka w sz (by omega) iu);have MK:=fun w=>WB n (by omega) w;clear hr hn;obtain ⟨x0,_,_,_,_,lx⟩:=k9 ho (H2.o.pick 1 rfl).row.1;have fx:=(H2.o.pick 1 rfl).row.1.frozen o;obtain ⟨w3,mR⟩:∃w3,w3=w2.setCell ⟨X,o,none⟩ (.bool true):=⟨_,rfl⟩
   have H3:=aa (show St w0 w3 (row X 118 (pre++([.bool true,.int .i64 R.st.aG,.int .i64 R.st.size,.int .i64 R.st.bd,v]++post))::row T 31 [.int .i64 se,.int .i64 sz,.int .i64 0]::own 24 1 v R.blocks.length vs::l) by rw [mR];exact Jy ho (H2.o.pick 1 rfl) 0 _ (by simp [bE]));have vq:=aa mR;clear mR;go_upto_region 5 with fail;rw [←vq.o];clear x0 fx lx;obtain ⟨t0,t1,t2⟩:w3.cell? ⟨T,0,none⟩=some (.int .i64 se)∧w3.cell? ⟨T,1,none⟩=some (.int .i64 sz)∧w3.cell? ⟨T,2,none⟩=some (.int .i64 0):=⟨(H3.o.pick 1 rfl).row.1.cell 0,(H3.o.pick 1 rfl).row.1.cell 1,(H3.o.pick 1 rfl).row.1.cell 2⟩
   obtain ⟨w4,dX⟩:∃w4,w4=w3.setRow X (pre++([.bool true,.int .i64 se,.int .i64 sz,.int .i64 0,v]++post)).toArray:=⟨_,rfl⟩
   have H4:=aa (show St w0 w4 (row X 118 (pre++([.bool true,.int .i64 se,.int .i64 sz,.int .i64 0,v]++post))::row T 31 [.int .i64 se,.int .i64 sz,.int .i64 0]::own 24 1 v R.blocks.length vs::l) by rw [dX];exact H3.o.setRow _);have kb:=aa dX;clear dX;have s1:o+1+(#[.int .i64 se,.int .i64 sz,.int .i64 0]:Array Value).size≤(pre++([.bool true,.int .i64 R.st.aG,.int .i64 R.st.size,.int .i64 R.st.bd,v]++post)).length:=by simp;omega
   have s2:(pre++([.bool true,.int .i64 R.st.aG,.int .i64 R.st.size,.int .i64 R.st.bd,v]++post)).take (o+1)++(#[.int .i64 se,.int .i64 sz,.int .i64 0]:Array Value).toList++(pre++([.bool true,.int .i64 R.st.aG,.int .i64 R.st.size,.int .i64 R.st.bd,v]++post)).drop (o+1+(#[.int .i64 se,.int .i64 sz,.int .i64 0]:Array Value).size)=pre++([.bool true,.int .i64 se,.int .i64 sz,.int .i64 0,v]++post):=BJ ho (c:=[.bool true,.int .i64 R.st.aG,.int .i64 R.st.size,.int .i64 R.st.bd,v]) 1 [.int .i64 se,.int .i64 sz,.int .i64 0] (by simp);have Zu:=aa (And.intro s1 s2);clear s1 s2
   go_cut [] (fun wc=>wc=w4)
   case first =>
    go_wp2_with (refine aF rfl 31 (.tmp 20) (.tmp 18) rfl X (o+1) #[.int .i64 se,.int .i64 sz,.int .i64 0] rfl rfl H3.o.row.1 (by kernel_rfl) Zu.o.1 (by simp [Value.oneCell']) _ Zu.o.2 ?_);go_meet;exact kb.o.symm
   case rest =>
   rw [hcut];clear t0 t1 t2 hcut;obtain ⟨_,_,_,_,x4,lx⟩:=k9 ho (R:=⟨true,⟨se,sz,0⟩,[]⟩) H4.o.row.1;have fx:=H4.o.row.1.frozen (o+4);go_wp2_with fail;refine (ch.o _).mono ?_;rintro e w5 ⟨rfl,dQ⟩;rw [dQ];clear dQ;go_wp2_with fail;go_ret;rw [HE.o];refine ⟨rfl,kZ (v:=.slice (some ⟨w4.heap.size,0,none⟩) n n) (vs:=List.replicate n (.slice none 0 0)) ⟨by simp,fun i b v h1 h2=>.inl ?_⟩ ?_⟩
   ·obtain ⟨_,rfl⟩:=(by simpa [List.getElem?_replicate] using h1:i < n∧[]=b)
    obtain ⟨_,rfl⟩:=(by simpa [List.getElem?_replicate] using h2:i < n∧Value.slice none 0 0=v)
    exact ⟨rfl,rfl⟩
   ·have h5:=(Jy ho H4.o 4 (.slice (some ⟨w4.heap.size,0,none⟩) n n) (by simp)).new 24 (Array.replicate n (Value.slice none 0 0));rw [show (w4.setCell ⟨X,o+4,none⟩ (.slice (some ⟨w4.heap.size,0,none⟩) n n)).heap.size=w4.heap.size by simp] at h5;have h6:=h5.lW (size:=1) (n:=n) (cap:=n) (Nat.le_refl _) (by unfold maxLen;omega) (by simp);have h7:=((h6.swap.pick 2 rfl).drop.pick 2 rfl).drop;rw [show ((Array.replicate n (Value.slice none 0 0)).toList.take (n*1))=List.replicate n (Value.slice none 0 0) by simp] at h7;show St w0 _ (row X 118 (pre++([.bool true,.int .i64 se,.int .i64 sz,.int .i64 0,.slice (some ⟨w4.heap.size,0,none⟩) n n]++post))::own 24 1 _ (List.replicate n ([]:List Int)).length _::l)
    rw [zI];exact h7
theorem Jh {w0 w:World} {l:List aD} {X o:Nat} {pre post:List Value} (ho:pre.length=o) {P:List (Nat×List Value)} {R:RS} {B:aD} {D:Option Addr} {n dc:Nat} {data:List Int} (h:St w0 w (mC X pre post P R::eL P::B::l)) (hg:qi w0 B D n data)
  (hr:R.has=true→R.st.right=true) (dG:R.blocks.length≤10) (se no:Int) :
  Calls Tryz.prog 109 #[.pointer (some ⟨X,o,none⟩),.int .i64 se,.int .i64 no,.slice D n dc] w fun e w'=>e=.returned (.int .i64 (jU R se no data).1)∧∃P',(∀x∈P,x∈P')∧St w0 w' (mC X pre post P' (jU R se no data).2::eL P'::B::l):=by
 obtain ⟨v,vs,hb,av⟩:=mP h;obtain ⟨A,c,rfl,Ct,tk⟩:=aH (av.pick 1 rfl).own;have rM:=aa (SP ho (A:=A) (c:=c) av.row.1 se no D n dc);have HN:=aa hg.1;have HH:=aa h;by_cases hw:jv R se no n=0
 ·obtain ⟨w1,w2,w3,w4⟩:=M3 hw;subst w4;obtain ⟨k,rfl⟩:=Int.eq_ofNat_of_zero_le w2;obtain ⟨q,hq⟩:∃q,q=R.blocks.length:=⟨_,rfl⟩
  rw [←hq] at w3 dG av Ct;have hk:k < q:=by omega
  obtain ⟨t,xs,rfl,_,nT,Ci,kO⟩:=mD (av.pick 1 rfl) (by omega);have hkx:k < xs.length:=by omega
  have hkv:k < vs.length:=by rw [hb.1,←hq];exact hk
  have hxv:xs[k]=vs[k]:=by
   have e:(xs.take (q*1))[k]?=vs[k]?:=by rw [Ci]
   rw [List.getElem?_take,if_pos (by omega),cM hkx,cM hkv] at e;injection e
  have hbk:=hb.2 k (R.blocks[k]'(by omega)) vs[k] (cM _) (cM hkv);obtain ⟨c0,c1,c2,c3,c4,lx⟩:=k9 ho (kO.pick 1 rfl).row.1;have ct:w.cell? ⟨t,k,none⟩=some xs[k]:=by rw [kO.row.1.cell k];exact cM hkx
  have lt:=kO.row.1.lt;have GD:(k:Int) < (q:Int):=by omega
  have rQ:(0:Int)≤(k:Int):=by omega
  have HPR:=aa (show jU R se k data=if R.blocks.getD k []≠[] then (0,R) else (0,⟨R.has,⟨R.st.aG,R.st.size,R.st.bd+2 ^ k⟩,R.blocks.set k data⟩) by unfold jU;rw [hg.1,hw,if_neg (fun h=>h rfl),ea]);have ix:=aa (show R.blocks.getD k []=R.blocks[k]'(by omega) by rw [dz,cM (by omega)];rfl);rw [hw] at rM;rw [hxv] at ct;have bJ:=aa (show St w0 w (row X 118 (pre++(bE R (.slice (some ⟨t,0,none⟩) q c)++post))::row t 24 xs::eL P::B::l) from kO.swap);go_enter Tryz.func109,Tryz.ntmps109;go_wp2_with fail;refine rM.o.mono ?_;rintro e w' ⟨rfl,hw'⟩;rw [hw'];clear hw';rcases hbk with ⟨kK,vP⟩|⟨FL,g1,c1',xs1,hP,Gs,Tz⟩
  ·rw [vP] at ct;have mU:=aa (fun (w1:World) (l1:List aD) (h1:St w0 w1 (B::l1))=>hg.2 w1 l1 h1);have HG1:=aa (show ∀u∈data.map (Value.int .u8),u.oneCell'=true from iO data);have HRP:=aa (show (jU R se k data)=(0,⟨R.has,⟨R.st.aG,R.st.size,R.st.bd+2 ^ k⟩,R.blocks.set k data⟩) by rw [HPR.o,if_neg (not_not_intro (ix.o.trans kK))]);have dv:=aa hb;have RK:=aa Ci;have HQ:=aa hq;have tB:=aa nT;have hh2:=(iD (hr w1)).2.2;obtain ⟨h20,h21⟩:=hh2;have gZ:k≤16:=by omega
   have zE:=aa (fun w=>bits.yA k w gZ);obtain ⟨pw,Aq⟩:∃pw:Int,pw=2 ^ k:=⟨_,rfl⟩
   have td:0≤pw:=by rw [Aq];exact Int.le_of_lt (Int.pow_pos (by decide))
   have JR:pw≤65536:=by
    rw [Aq];have h1:=Nat.pow_le_pow_right (n:=2) (by decide) gZ;have h2:((2 ^ k:Nat):Int)=(2:Int) ^ k:=by simp
    omega
   rw [←Aq] at HRP zE;clear hb kK vP Ci hq nT Aq hr hg h av kO hxv gZ ix HPR;obtain ⟨hv,hhv⟩:∃hv,hv=R.st.bd:=⟨_,rfl⟩
   have HHV:=aa hhv;rw [←hhv] at c3 h20 h21;clear hhv;go_upto_region 5 with fail
   go_cut [10] (fun s w5=>∃(g2 cap:Nat) (x2:List Value),s=.slice (some ⟨g2,0,none⟩) 16 cap∧x2.take 16=data.map (.int .u8)∧St w0 w5 (row X 118 (pre++(bE R (.slice (some ⟨t,0,none⟩) q c)++post))::row t 24 xs::row g2 5 x2::eL P::B::l))
   case first =>
    go_wp2_with (refine sI qW rfl (.tmp 30) (.tmp 31) rfl (World.ownsRow_nil w w.heap.size 5 1) rfl rfl (mU.o _ _ (bJ.o.pick 3 rfl)) HG1.o (by omega) (by omega) (by unfold maxLen;omega) (Nat.le_refl _) ?_;intro g2 cap w5 ho xP kr JW;rw [Nat.zero_add,List.nil_append] at ho;have H5:=aa (bJ.o.cQ ⟨xP.os,xP.tape,xP.output,xP.size,fun i hi=>xP.block i hi (by simp [Value.ownBlock])⟩ ho);clear ho xP kr);go_meet;obtain ⟨t5,x5,e5,_,_,hx5,aaJ⟩:=mD H5.o (by omega);injection e5 with e5
    injection e5 with e5
    subst e5;exact ⟨_,_,x5,rfl,hx5,(aaJ.pick 1 rfl).perm (by refine List.Perm.cons _ ?_;exact List.Perm.swap _ _ _)⟩
   case rest =>
   obtain ⟨g2,cap,x2,rfl,Cj,h5⟩:=hcut;obtain ⟨d0,d1,d2,d3,d4,ld⟩:=k9 ho h5.row.1;have cd:wc.cell? ⟨t,k,none⟩=some xs[k]:=by rw [(h5.pick 1 rfl).row.1.cell k];exact cM hkx
   have fd:=(h5.pick 1 rfl).row.1.frozen k;have ldt:=(h5.pick 1 rfl).row.1.lt;obtain ⟨w6,nU⟩:∃w6,w6=wc.setCell ⟨t,k,none⟩ (.slice (some ⟨g2,0,none⟩) 16 cap):=⟨_,rfl⟩
   have H6:=aa (show St w0 w6 (row X 118 (pre++(bE R (.slice (some ⟨t,0,none⟩) q c)++post))::row t 24 (xs.set k (.slice (some ⟨g2,0,none⟩) 16 cap))::row g2 5 x2::eL P::B::l) by rw [nU];exact ((h5.pick 1 rfl).set k _).swap);have ER:=aa nU;have oa:=aa Cj;clear nU h5 Cj;clear c0 c1 c2 c3 c4 lx ct lt;go_upto_region 7 with fail;rw [←ER.o];clear d0 d1 d2 d3 d4 ld cd fd ldt;obtain ⟨d0,d1,d2,d3,d4,ld⟩:=k9 ho H6.o.row.1;rw [←HHV.o] at d3;have fd3:=H6.o.row.1.frozen (o+3);clear d0 d1 d2 d4;have Qt:IntKind.i64.wrap (hv+pw)=hv+pw:=IntWalk.i64_in _ ⟨by omega,by omega⟩;go_wp2_with fail
   go_region_law (go_simp;(with_reducible refine (zE.o _).mono ?_);rintro e w7 ⟨rfl,rfl⟩;dsimp only)
   all_goals
    go_wp2_with fail;go_ret;rw [HRP.o];refine ⟨rfl,(g2,x2)::P,fun x hx=>List.mem_cons_of_mem _ hx,kZ (v:=.slice (some ⟨t,0,none⟩) q c) (vs:=vs.set k (.slice (some ⟨g2,0,none⟩) 16 cap)) ((dv.o.mono fun x hx=>List.mem_cons_of_mem _ hx).set (.inr ⟨HN.o,g2,cap,x2,by simp,rfl,oa.o⟩)) ?_⟩;have h7:=((Jy ho H6.o 3 (.int .i64 (hv+pw)) (by simp [bE])).drew)
    have h8:=(h7.pick 1 rfl).lW (size:=1) (n:=q) (cap:=c) Ct tk (by rw [List.length_set];exact tB.o);rw [List.take_set,RK.o] at h8;have h9:=(((Js ((h8.pick 2 rfl).pick 3 rfl |>.swap)).pick 2 rfl).pick 2 rfl).swap;show St w0 _ (row X 118 (pre++([.bool R.has,.int .i64 R.st.aG,.int .i64 R.st.size,.int .i64 (R.st.bd+pw),.slice (some ⟨t,0,none⟩) q c]++post))::own 24 1 _ (R.blocks.set k data).length _::_)
    rw [List.length_set,←HQ.o,←HHV.o];exact h9
  ·rw [Gs] at ct;go_wp2_with fail;go_ret;rw [HPR.o,if_pos (by rw [ix.o];intro e;rw [e] at FL;exact absurd FL (by decide))];exact ⟨rfl,P,fun x hx=>hx,HH.o⟩
 ·have HE:=aa (show jU R se no data=(jv R se no n,R) by unfold jU;rw [hg.1,if_pos hw]);obtain ⟨r,hr⟩:∃r,r=jv R se no n:=⟨_,rfl⟩
  rw [←hr] at hw rM HE;have b0:(r != 0)=true:=by simpa using hw
  clear hw hr;go_enter Tryz.func109,Tryz.ntmps109;go_wp2_with fail;refine rM.o.mono ?_;rintro e w' ⟨rfl,hw'⟩;rw [hw'];clear hw';go_wp2_with fail;go_ret;rw [HE.o];exact ⟨rfl,P,fun x hx=>hx,HH.o⟩
theorem S3 {w0 w:World} {l:List aD} {X o:Nat} {pre post:List Value} (ho:pre.length=o) {P:List (Nat×List Value)} {R:RS} (h:St w0 w (mC X pre post P R::eL P::l)) (hg:wF R) :
  Calls Tryz.prog 111 #[.pointer (some ⟨X,o,none⟩)] w fun e w'=>∃A n c B,e=.returned (.tuple #[.slice A n c,.int .i64 (dt R).2])∧n≤c∧qi w0 B A n (dt R).1∧St w0 w' (B::mC X pre post P R::eL P::l):=by
 cases hh:R.has with
 | false =>
   obtain ⟨v,vs,hb,av⟩:=mP h;obtain ⟨c0,c1,c2,c3,c4,lx⟩:=k9 ho av.row.1;rw [hh] at c0;have H:=aa h;have HE:=aa (show dt R=([],16) by unfold dt;rw [if_pos hh]);clear h av hb hh hg;go_enter Tryz.func111,Tryz.ntmps111;go_wp2_with fail;go_ret2;rw [HE.o];exact ⟨_,_,_,_,rfl,Nat.le_refl _,oK w0,H.o.addFact trivial⟩
 | true =>
   obtain ⟨s1,s2,s3⟩:=hg.size hh;obtain ⟨v,vs,hb,av⟩:=mP h;obtain ⟨A,c,rfl,Ct,tk⟩:=aH (av.pick 1 rfl).own;obtain ⟨b,cy⟩:∃b,b=R.blocks.length:=⟨_,rfl⟩
   rw [←cy] at av Ct s3;obtain ⟨n,hn⟩:∃n:Nat,(n:Int)=R.st.size:=⟨R.st.size.toNat,by omega⟩
   rw [←hn] at s1 s2 s3;have ku:1≤b:=by rw [s3];unfold aR;omega
   have Y2:b≤10:=by rw [s3];unfold aR;omega
   have oD:n≤16*b:=by rw [s3];unfold aR;omega
   have Er:1≤n:=by omega
   obtain ⟨t,xs,rfl,_,nT,Ci,kO⟩:=mD (av.pick 1 rfl) (by omega);have HB:=aa hb;have ch:=aa cy;have HN:=aa hn;have HH:=aa hh;have tB:=aa nT;have HXT:=aa Ci
   have hvx:∀j,j < b→xs[j]?=vs[j]?:=by
    intro j hj;rw [←Ci,List.getElem?_take,if_pos (by omega)]
   have HVX:=aa hvx;obtain ⟨c0,c1,c2,c3,c4,lx⟩:=k9 ho (kO.pick 1 rfl).row.1;rw [hh] at c0
   have ua:=aa (show St w0 w (own 5 1 (.slice none 0 0) 0 (((R.blocks.take 0).flatten).map (.int .u8))::row X 118 (pre++(bE R (.slice (some ⟨t,0,none⟩) b c)++post))::row t 24 xs::eL P::l) from
    kO.swap.cQ (Below.refl _ _) (show w.ownsRow w.heap.size 5 1 (.slice none 0 0) 0 [] from World.ownsRow_nil _ _ _ _))
   clear h hg hb cy hn hh nT Ci av kO hvx s3;go_enter Tryz.func111,Tryz.ntmps111;go_wp2_with fail;go_loopw [4,5] (fun v i wr=>∃(q:Nat) (A:Option Addr) (k:Nat),q≤b∧v=.slice A (16*q) k∧i=.int .i64 q∧Seen R q∧St w0 wr (own 5 1 (.slice A (16*q) k) (16*q) (((R.blocks.take q).flatten).map (.int .u8))::row X 118 (pre++(bE R (.slice (some ⟨t,0,none⟩) b c)++post))::row t 24 xs::eL P::l)) (fun _ i _=>b-(intOf i).toNat)
   case atStart=>exact ⟨0,none,0,by omega,rfl,rfl,⟨fun j b hj=>absurd hj (by omega)⟩,ua.o⟩
   case round =>
    obtain ⟨q,A,k,hq,rfl,rfl,hsn,hi⟩:=hrel;have HI:=aa hi;have zD:=aa hsn;clear hi hsn ua c0 c1 c2 c3 c4 lx;obtain ⟨c0,c1,c2,c3,c4,lx⟩:=k9 ho (HI.o.pick 1 rfl).row.1;rw [HH.o] at c0;rw [←HN.o] at c2;obtain ⟨z,hz⟩:∃z,z=16*q:=⟨_,rfl⟩
    have HZ:=aa hz;rw [←hz] at HI ⊢;have ab2:z≤160:=by omega
    clear hz;by_cases aK:q < b
    ·have cZ:(q:Int) < (b:Int):=by omega
     have hq0:(0:Int)≤(q:Int):=by omega
     have JQ:q < R.blocks.length:=by rw [←ch.o];exact aK
     have hqv:q < vs.length:=by rw [HB.o.1];exact JQ
     have U5:=HVX.o q aK;rw [cM hqv] at U5;have hbq:=HB.o.2 q R.blocks[q] vs[q] (cM _) (cM hqv);have cq:wr.cell? ⟨t,q,none⟩=some vs[q]:=by rw [(HI.o.pick 2 rfl).row.1.cell q];exact U5
     have lq:=(HI.o.pick 2 rfl).row.1.lt;rcases hbq with ⟨kK,vP⟩|⟨FL,g1,c1',xs1,hP,Gs,Tz⟩
     ·rw [vP] at cq;have HE:=aa (show dt R=([],11) by unfold dt;rw [if_neg (by rw [HH.o];decide),if_pos ⟨_,List.getElem_mem JQ,kK⟩]);clear U5 vP kK;go_wp2_with fail;go_ret2;rw [HE.o];refine ⟨_,_,_,_,rfl,Nat.le_refl _,oK w0,St.addFact ?_ trivial⟩;have h2:=(HI.o.drop.pick 1 rfl).lW (size:=1) (n:=b) (cap:=c) Ct tk (by exact tB.o);rw [HXT.o,ch.o] at h2;have h3:=h2.swap;exact kZ HB.o h3
     ·rw [Gs] at cq;have xI:=Jr (HI.o.pick 3 rfl) hP;have KX:=aa (show Sl wr wr.heap.size 1 (some ⟨g1,0,none⟩) 16 ((R.blocks[q]).map (.int .u8)) from xI.1.sl (o:=0) xI.1.lt (by rw [List.drop_zero];exact Tz.symm) (by rw [gN,FL]))
      have abq:=aa (show Seen R (q+1) from ⟨fun j b' hj dF=>by
       rcases Nat.lt_or_ge j q with h1|h1
       ·exact zD.o.all j b' h1 dF
       ·have:j=q:=by omega
        subst this;rw [cM JQ] at dF;injection dF with dF
        rw [←dF];intro e;rw [e] at FL
        exact absurd FL (by decide)⟩)
      clear U5 Gs xI Tz hP;go_wp2_with (refine sI qW rfl (.tmp 29) (.tmp 36) rfl HI.o.own rfl rfl KX.o (iO _) (by omega) (by omega) (by unfold maxLen;omega) (HI.o.aI.size) ?_;intro g2 cap w4 ho hg kr JW;have H4:=aa (HI.o.grown hg ho (fun x hx=>by injection hx with hx;rw [←hx];exact kr));clear ho hg kr);go_roundw
      case rel=>exact ⟨q+1,some ⟨g2,0,none⟩,cap,by omega,by rw [HZ.o,Nat.mul_succ],by go_num,abq.o,by
       have h:=H4.o;rw [←List.map_append,show (R.blocks.take q).flatten++R.blocks[q]=(R.blocks.take (q+1)).flatten by rw [jz JQ,List.flatten_append];simp,show z+16=16*(q+1) by rw [HZ.o,Nat.mul_succ]] at h
       exact h⟩
      case measure=>simp [intOf]<;>omega
    ·obtain rfl:q=b:=by omega
     have HZC:=aa (show z≤k by
      obtain ⟨A',c',e,hc,_⟩:=aH HI.o.own;injection e with _ _ e
      omega)
     have hnz:n≤z:=by have:=HZ.o;omega
     have hnk:n≤k:=by have:=HZC.o;omega
     go_wp2_with fail;go_ret2;have cN:(R.blocks.take q)=R.blocks:=by rw [ch.o];exact List.take_length
     have HE:dt R=(R.blocks.flatten.take n,0):=by
      unfold dt;rw [if_neg (by rw [HH.o];decide),if_neg,←HN.o,ea];rintro ⟨b',mK,rfl⟩;obtain ⟨j,hj,e⟩:=List.getElem_of_mem mK;exact zD.o.all j [] (by rw [ch.o];exact hj) (by rw [cM hj,e]) rfl
     rw [HE];obtain ⟨t2,x2,hA,_,_,Cj,av⟩:=mD HI.o (by omega);subst hA;rw [cN,Nat.mul_one] at Cj;have wA:=zD.o.len HB.o (by rw [ch.o];exact Nat.le_refl _);rw [cN] at wA;refine ⟨_,_,_,row t2 5 x2,rfl,hnk,oJ ?_ ?_,?_⟩
     ·rw [fv,wA];omega
     ·rw [List.map_take,←Cj,List.take_take,Nat.min_eq_left hnz]
     ·have h2:=(av.pick 2 rfl).lW (size:=1) (n:=q) (cap:=c) Ct tk (by exact tB.o);rw [HXT.o,ch.o] at h2;have h3:=(h2.pick 2 rfl)
      exact (kZ HB.o h3).swap
theorem S2 {w0 w:World} {l:List aD} (h:St w0 w l) (b:Bool) (x y z:Int) {A:Option Addr} {n c:Nat} {vs:List Value} (hs:Sl w w.heap.size 1 A n vs) (hA:A=none→c=0) (h1:∀u∈vs,u.oneCell'=true) (hn:n≤1000) :
  Calls Tryz.prog 57 #[.agg #[.bool b,.int .i64 x,.int .i64 y,.int .i64 z,.slice A n c]] w fun e w'=>∃v',e=.returned (.agg #[.bool b,.int .i64 x,.int .i64 y,.int .i64 z,v'])∧St w0 w' (own 24 1 v' n vs::l):=by
 have HA:=aa hA;have H:=aa h;have H1:=aa h1;obtain ⟨X,hX⟩:∃X,X=w.heap.size:=⟨_,rfl⟩
 obtain ⟨wa,Ef⟩:∃wa,wa=(w.alloc (.cells #[.bool b,.int .i64 x,.int .i64 y,.int .i64 z,.slice A n c] 118)).alloc (.cells #[.bool false,.int .i64 0,.int .i64 0,.int .i64 0,.slice none 0 0] 118):=⟨_,rfl⟩
 have HS:=aa (show St w0 wa (row (X+1) 118 [.bool false,.int .i64 0,.int .i64 0,.int .i64 0,.slice none 0 0]::row X 118 [.bool b,.int .i64 x,.int .i64 y,.int .i64 z,.slice A n c]::l) by
  have h2:=(h.new 118 #[.bool b,.int .i64 x,.int .i64 y,.int .i64 z,.slice A n c]).new 118 #[.bool false,.int .i64 0,.int .i64 0,.int .i64 0,.slice none 0 0];rw [show (w.alloc (.cells #[.bool b,.int .i64 x,.int .i64 y,.int .i64 z,.slice A n c] 118)).heap.size=w.heap.size+1 by simp,←Ef,←hX] at h2
  exact h2)
 have HSW:=aa (show Sl wa wa.heap.size 1 A n vs by
  have hb:Below w.heap.size w wa:=by rw [Ef];exact (((St.nil w).new _ _).new _ _).aI
  exact (hs.below hb).more hb.size)
 have HWA:=aa Ef;have HX:=aa hX;clear h h1 Ef hX hs hA;go_enter Tryz.func57,Tryz.ntmps57;go_upto_region 1 with fail;rw [←HWA.o,←HX.o];have c4:wa.cell? ⟨X,4,none⟩=some (.slice A n c):=(HS.o.pick 1 rfl).row.1.cell 4;have kL:=aa HSW.o;go_upto_region 2 with fail
 go_cut [3] (fun s w5=>St w0 w5 (own 24 1 s n vs::row (X+1) 118 [.bool false,.int .i64 0,.int .i64 0,.int .i64 0,.slice none 0 0]::row X 118 [.bool b,.int .i64 x,.int .i64 y,.int .i64 z,.slice A n c]::l))
 case first =>
  go_wp2_with (refine Ry aaw rfl (.tmp 4) (.tmp 6) rfl (World.ownsRow_nil wa wa.heap.size 24 1) rfl rfl HA.o kL.o H1.o (by omega) (by unfold maxLen;omega) (Nat.le_refl _) ?_;intro v5 w5 vW xP;rw [Nat.zero_add,List.nil_append] at vW;have H5:=aa (HS.o.cQ ⟨xP.os,xP.tape,xP.output,xP.size,fun i hi=>xP.block i hi (by simp [Value.ownBlock])⟩ vW);clear vW xP);go_meet;exact H5.o
 case rest =>
 obtain ⟨A5,c5,rfl,hc5,hm5⟩:=aH hcut.own;obtain ⟨w6,nU⟩:∃w6,w6=wc.setCell ⟨X,4,none⟩ (.slice A5 n c5):=⟨_,rfl⟩
 have H6:=aa (show St w0 w6 (row X 118 [.bool b,.int .i64 x,.int .i64 y,.int .i64 z,.slice A5 n c5]::row (X+1) 118 [.bool false,.int .i64 0,.int .i64 0,.int .i64 0,.slice none 0 0]::own 24 1 (.slice A5 n c5) n vs::l) by
  have h2:=((hcut.pick 2 rfl).set 4 (.slice A5 n c5)).pick 2 rfl;rw [nU]
  exact h2.pick 1 rfl)
 have fz:=(hcut.pick 2 rfl).row.1.frozen 4;have cz:wc.cell? ⟨X,4,none⟩=some (.slice A n c):=(hcut.pick 2 rfl).row.1.cell 4;have lz:=(hcut.pick 2 rfl).row.1.lt;have ER:=aa nU;clear nU hcut;go_upto_region 4 with fail;rw [←ER.o];clear fz lz cz
 obtain ⟨d0,d1,d2,d3,d4⟩:w6.cell? ⟨X,0,none⟩=some (.bool b)∧w6.cell? ⟨X,1,none⟩=some (.int .i64 x)∧w6.cell? ⟨X,2,none⟩=some (.int .i64 y)∧w6.cell? ⟨X,3,none⟩=some (.int .i64 z)∧w6.cell? ⟨X,4,none⟩=some (.slice A5 n c5) :=
  ⟨H6.o.row.1.cell 0,H6.o.row.1.cell 1,H6.o.row.1.cell 2,H6.o.row.1.cell 3,H6.o.row.1.cell 4⟩
 go_wp2_with (refine aF rfl 118 (.tmp 2) (.tmp 10) rfl (X+1) 0 #[.bool b,.int .i64 x,.int .i64 y,.int .i64 z,.slice A5 n c5] rfl rfl (H6.o.pick 1 rfl).row.1 (by kernel_rfl) (Nat.le_refl 5) (by simp [Value.oneCell']) [.bool b,.int .i64 x,.int .i64 y,.int .i64 z,.slice A5 n c5] rfl ?_);have H7:=aa ((H6.o.pick 1 rfl).setRow [.bool b,.int .i64 x,.int .i64 y,.int .i64 z,.slice A5 n c5]);refine bodyPost_ret (results_cell_row rfl _ _ (X+1) _ _ _ _ rfl H7.o.row.1 Tryz.underlying118 rfl (by kernel_rfl)) rfl ?_;exact ⟨_,rfl,H7.o.drop.drop⟩
end aU
namespace store


open Go.RowKit Go.Deep base obj mem sep bf bk record bP aU image bK bR chain bw
theorem T8 {xs:List Int} {N k:Nat} (hx:xs.length=N) (hk:k < N) {b:Int} (hb:xs[k]?=some b):(xs.take k++List.replicate (N-k) 0).set k b=xs.take (k+1)++List.replicate (N-(k+1)) 0:=by
 obtain ⟨j,hj⟩:∃j,N-k=j+1:=⟨N-k-1,by omega⟩
 have:N-(k+1)=j:=by omega
 have hl:(xs.take k).length=k:=by simp;omega
 rw [hj,this,List.set_append_right _ _ (by omega),hl,Nat.sub_self,List.replicate_succ,List.set_cons_zero,List.take_add_one,hb];simp
theorem uv (xs:List Int) (k:Nat) (b:Int):(aP xs).set k (.int .u8 b)=aP (xs.set k b):=by simp [aP,List.map_set]
theorem Ah {bs:List Int} {no:Nat} (h1:1≤bs.length) (h2:bs.length≤160) (hn:no≤dU bs):(dK bs no).st.right=true:=by
 have a:(2:Int) ^ no≤2 ^ dU bs:=by exact_mod_cast Nat.pow_le_pow_right (by omega) hn
 have b:(1:Int)≤2 ^ no:=by exact_mod_cast Nat.one_le_two_pow
 have e:(dK bs no).st=⟨1,bs.length,2 ^ no-1⟩:=rfl;rw [e];simp only [aS.right,xd,Bool.and_eq_true,decide_eq_true_eq];generalize (2:Int) ^ no=x,(2:Int) ^ dU bs=y at *;omega
theorem Eb {bs:List Int} {no:Nat} (hn:no≤dU bs):(dK bs no).blocks.length=dU bs:=by simp [dK];omega
theorem SW {w0 w:World} {l:List aD} (h:St w0 w l) (i:aw) (hr:i.right) (cu:bo i.code) (A:Option Addr) (c:Nat) (hc:i.code.length≤c) (hs:Sl w w.heap.size 1 A i.code.length (aP i.code)) :
  Calls Tryz.prog 85 #[i.val A c] w fun e w'=>∃v,e=.returned (.agg (bE (fD i.bytes) v).toArray)∧∃P vs,o8 P (fD i.bytes).blocks vs∧St w0 w' (own 24 1 v (fD i.bytes).blocks.length vs::eL P::l):=by
 have HP:=aa (fun (w':World) (hb:Below w.heap.size w w')=>sk.SX w' i hr cu A c hc ((hs.below hb).more hb.size));have YP:i.code.length≤96:=by obtain ⟨_,_,_,_,_,_,_,h⟩:=hr;omega
 have ch:=aa (mS i);have kN:=aa (show bo i.bytes from ue _ (sy i cu));obtain ⟨n,hn⟩:∃n,n=49+i.code.length:=⟨_,rfl⟩
 rw [←hn] at HP ch;obtain ⟨bs,fZ⟩:∃v,v=i.bytes:=⟨_,rfl⟩
 rw [←fZ] at HP ch kN ⊢;have Er:49≤n:=by omega
 have Gz:n≤145:=by omega
 simp only [aw.val] at HP ⊢;obtain ⟨Z,hZ⟩:∃Z,Z=w.heap.size:=⟨_,rfl⟩
 obtain ⟨w1,aJ⟩:∃w1,w1=((w.alloc (.cells #[.int .i64 i.part,.int .i64 i.version,.int .i64 i.aY,.int .i64 i.mem,.int .i64 i.fuel,.int .i64 i.aN,.int .i64 i.aB,.slice A i.code.length c] 26)).alloc (.cells #[.bool false,.int .i64 0,.int .i64 0,.int .i64 0,.slice none 0 0] 118)).alloc (.cells #[.bool false,.int .i64 0,.int .i64 0,.int .i64 0,.slice none 0 0] 118):=⟨_,rfl⟩
 have bn:=aa (show Below w.heap.size w w1 by rw [aJ];exact ((((St.nil w).new _ _).new _ _).new _ _).aI)
 have H1:=aa (show St w0 w1 (row (Z+1+1) 118 [.bool false,.int .i64 0,.int .i64 0,.int .i64 0,.slice none 0 0]::row (Z+1) 118 [.bool false,.int .i64 0,.int .i64 0,.int .i64 0,.slice none 0 0]::row Z 26 [.int .i64 i.part,.int .i64 i.version,.int .i64 i.aY,.int .i64 i.mem,.int .i64 i.fuel,.int .i64 i.aN,.int .i64 i.aB,.slice A i.code.length c]::l) by
  have h3:=((h.new 26 #[.int .i64 i.part,.int .i64 i.version,.int .i64 i.aY,.int .i64 i.mem,.int .i64 i.fuel,.int .i64 i.aN,.int .i64 i.aB,.slice A i.code.length c]).new 118 #[.bool false,.int .i64 0,.int .i64 0,.int .i64 0,.slice none 0 0]).new 118 #[.bool false,.int .i64 0,.int .i64 0,.int .i64 0,.slice none 0 0];rw [←aJ] at h3;simp only [World.alloc,Array.size_push,←hZ] at h3
  exact h3)
 have bq:=aa aJ;have HZ:=aa hZ;generalize i.part=i0,i.version=i1,i.aY=i2,i.mem=i3,i.fuel=i4,i.aN=i5,i.aB=i6,i.code.length=i7 at *;have rZ:=aa (fun (R:RS)=>Ea R (bs:=bs) (by have:=ch.o;omega) (by have:=ch.o;omega));rw [ch.o] at rZ;have yb:=aa (show dU bs=(n+15) / 16 by unfold dU;rw [ch.o]);clear h hr hs hn fZ cu hc aJ hZ;go_enter Tryz.func85,Tryz.ntmps85;go_upto_region 2 with fail;rw [←bq.o,←HZ.o];obtain ⟨X,hX⟩:∃X,X=Z+1+1:=⟨_,rfl⟩
 obtain ⟨Y,hY⟩:∃Y,Y=Z+1:=⟨_,rfl⟩
 have r3:=(H1.o.pick 2 rfl).row.1;have t0:=r3.cell 0;have t1:=r3.cell 1;have t2:=r3.cell 2;have t3:=r3.cell 3;have t4:=r3.cell 4;have t5:=r3.cell 5;have t6:=r3.cell 6;have t7:=r3.cell 7;have lZ:=r3.lt;clear r3;go_wp2_with fail;refine (HP.o _ bn.o).mono ?_;rintro e w2 ⟨v,rfl,ho,hb⟩;obtain ⟨A2,c2,rfl,AB,At⟩:=aH ho
 have H2:=aa (show St w0 w2 (mC X [] [] [] RS.none::eL []::own 5 1 (.slice A2 n c2) n (aP bs)::row Y 118 [.bool false,.int .i64 0,.int .i64 0,.int .i64 0,.slice none 0 0]::l) by
  have h2:=H1.o.cQ hb ho;rw [←hX,←hY] at h2;refine kZ (pre:=[]) (post:=[]) (v:=.slice none 0 0) (vs:=[]) ⟨rfl,fun i b v h=>by simp [RS.none] at h⟩ ?_;have h3:St w0 w2 (eL []::own 24 1 (.slice none 0 0) 0 []::own 5 1 (.slice A2 n c2) n (aP bs)::row X 118 [.bool false,.int .i64 0,.int .i64 0,.int .i64 0,.slice none 0 0]::row Y 118 [.bool false,.int .i64 0,.int .i64 0,.int .i64 0,.slice none 0 0]::row Z 26 [.int .i64 i0,.int .i64 i1,.int .i64 i2,.int .i64 i3,.int .i64 i4,.int .i64 i5,.int .i64 i6,.slice A i7 c]::l):=St.eR (L:=[]) (h2.cQ (Below.refl _ _) ⟨rfl,.inl ⟨rfl,rfl⟩⟩);have h4:=(h3.pick 5 rfl).drop;have h5:=h4.pick 3 rfl;have h6:=(h5.pick 2 rfl).swap
  exact h6)
 clear t0 t1 t2 t3 t4 t5 t6 t7 lZ ho hb;rw [←hX,←hY];clear hX hY;go_wp2_with fail;refine (Jm (o:=0) rfl H2.o 1 (n:Int) (by omega)).mono ?_;rintro e w3 ⟨rfl,h3⟩;rw [rZ.o RS.none] at h3 ⊢;have H3:=aa h3;clear h3;dsimp only at H3 ⊢;go_wp2_with fail;go_loopw [5] (fun x wr=>∃(no:Nat) (P:List (Nat×List Value)),no≤dU bs∧x=.int .i64 ((16*no:Nat):Int)∧St w0 wr (mC X [] [] P (dK bs no)::eL P::own 5 1 (.slice A2 n c2) n (aP bs)::row Y 118 [.bool false,.int .i64 0,.int .i64 0,.int .i64 0,.slice none 0 0]::l)) (fun x _=>16*dU bs-(intOf x).toNat)
 case atStart=>exact ⟨0,[],by omega,rfl,H3.o⟩
 case round =>
  obtain ⟨no,P,kt,rfl,av⟩:=hrel;clear H3;obtain ⟨f,hf⟩:∃f,f=16*no:=⟨_,rfl⟩
  rw [←hf];have oD:=yb.o;by_cases aK:no < dU bs
  ·have k1:(f:Int) < (n:Int):=by omega
   have pL:=Jz;obtain ⟨D,hD⟩:∃D,D=wr.heap.size:=⟨_,rfl⟩
   obtain ⟨w5,dQ⟩:∃v,v=wr.alloc (.cells (Array.replicate 16 (.int .u8 0)) 5):=⟨_,rfl⟩
   have Dk:=av.new 5 (Array.replicate 16 (Value.int .u8 0));rw [←hD,←dQ] at Dk;have bJ:=aa Dk;have HF:=aa hf;have HD:=aa hD;have pZ:=aa dQ;have HK:=aa aK;have OS:=aa oD;clear av Dk hf hD dQ oD;go_upto_region 8 with fail;rw [←pZ.o,←HD.o];go_wp2_with fail;have ix:=aa (FT (bs:=bs) (j:=no) (by have:=HF.o;rw [ch.o];omega));have iM:=aa (oU HK.o);obtain ⟨xs,Gq⟩:∃v,v=eO bs no:=⟨_,rfl⟩
   rw [←Gq] at ix iM;have KT:=aa Gq;clear Gq;go_loopw [7] (fun x w8=>∃k:Nat,k≤16∧f+k≤n∧x=.int .i64 (k:Int)∧St w0 w8 (row D 5 (aP (xs.take k++List.replicate (16-k) 0))::mC X [] [] P (dK bs no)::eL P::own 5 1 (.slice A2 n c2) n (aP bs)::row Y 118 [.bool false,.int .i64 0,.int .i64 0,.int .i64 0,.slice none 0 0]::l)) (fun x _=>16-(intOf x).toNat)
   case atStart=>exact ⟨0,by omega,by omega,rfl,bJ.o⟩
   case round =>
    obtain ⟨k,YS,kJ,rfl,av⟩:=hrel;by_cases hk:k < 16
    ·have e1:(k:Int) < 16:=by omega
     obtain ⟨g,hg⟩:∃g,g=f+k:=⟨_,rfl⟩
     have W2:IntKind.i64.wrap ((f:Int)+(k:Int))=(g:Int):=by rw [IntWalk.i64_in _ (by omega)];omega
     by_cases aa1:g < n
     ·have e2:(g:Int) < (n:Int):=by omega
      have dB:=Sl.bz ((av.pick 3 rfl).own);obtain ⟨b,off,hA,cy,qF⟩:=dB.2 (by omega);have GH:g < bs.length:=by rw [ch.o];exact aa1
      obtain ⟨bv,hbv⟩:∃bv,bs[g]?=some bv:=⟨_,cM GH⟩
      have fc:wr.cell? ⟨b,off+g,none⟩=some (.int .u8 bv):=qF g _ (by simp [aP,hbv])
      have hxk:xs[k]?=some bv:=by
       have hff:=HF.o;rw [ix.o,List.getElem?_append_left (by simp only [fv,List.length_drop,ch.o];omega),List.getElem?_take,if_pos hk,List.getElem?_drop,←hff,←hg];exact hbv
      have HFS:=aa (T8 iM.o hk hxk);have r:=av.row.1;have lD:=r.lt;have fz:=r.frozen k;have cD:=r.cell k
      have jF:(aP (xs.take k++List.replicate (16-k) 0))[k]?=some (.int .u8 0):=by
       simp only [aP,List.getElem?_map];rw [List.getElem?_append_right (by rw [fv];omega),show k-(xs.take k).length=0 by rw [fv,iM.o];omega,List.getElem?_replicate,if_pos (by omega)];rfl
      rw [jF] at cD;have HA:=aa hA;have jJ:=aa av;have HG:=aa hg;clear jF dB qF hxk hA av hg kJ GH r hbv;rw [HA.o];go_wp2_with fail;go_roundw
      case rel =>
       refine ⟨k+1,by omega,by have:=HG.o;omega,by go_num,?_⟩;have h:=jJ.o.set k (.int .u8 bv);rw [uv,HFS.o,HA.o] at h;exact h
      case measure=>simp [intOf];omega
     ·have e2:¬(g:Int) < (n:Int):=by omega
      have oa:=aa (show xs.take k++List.replicate (16-k) 0=xs by
       have hff:=HF.o;have hm:min 16 (bs.length-16*no)=k:=by rw [ch.o];omega
       have h1:=ix.o;rw [hm] at h1
       have h2:xs.take k=(bs.drop (16*no)).take 16:=by
        rw [h1];exact List.take_left' (by rw [fv,List.length_drop];exact hm)
       rw [h2];exact h1.symm)
      have H8:=aa (show St w0 wr (row D 5 (aP xs)::mC X [] [] P (dK bs no)::eL P::own 5 1 (.slice A2 n c2) n (aP bs)::row Y 118 [.bool false,.int .i64 0,.int .i64 0,.int .i64 0,.slice none 0 0]::l) by rw [oa.o] at av;exact av);clear av hg;have wO:=aa (oJ (w0:=w0) (t:=D) (n:=16) (xs:=aP xs) (bs:=xs) iM.o (by rw [List.take_of_length_le (by simp [aP,iM.o])]));have aab:no≤10:=by have:=HK.o;have:=OS.o;omega
      have RO:=aa (De (bs:=bs) HK.o);rw [←KT.o] at RO;go_wp2_with fail;rw [show (f:Int) / 16=(no:Int) by have:=HF.o;omega];refine (Jh (o:=0) rfl (l:=own 5 1 (.slice A2 n c2) n (aP bs)::row Y 118 [.bool false,.int .i64 0,.int .i64 0,.int .i64 0,.slice none 0 0]::l) ((H8.o.pick 2 rfl).pick 2 rfl) wO.o (fun _=>Ah (by rw [ch.o];omega) (by rw [ch.o];omega) (by have:=HK.o;omega)) (by rw [Eb (by have:=HK.o;omega)];have:=OS.o;omega) 1 (no:Int)).mono ?_;rintro e w9 ⟨rfl,P',hP,h9⟩;rw [RO.o] at h9 ⊢;have H9:=aa ((h9.pick 2 rfl).drop);clear h9 hP;dsimp only at H9 ⊢;go_wp2_with fail;go_roundw;case rel=>exact ⟨no+1,P',by have:=HK.o;omega,by have:=HF.o;go_num,H9.o⟩
      case measure=>have:=HF.o;simp [intOf];omega
    ·have hk:k=16:=by omega
     have e1:¬(k:Int) < 16:=by omega
     have oa:=aa (show xs.take k++List.replicate (16-k) 0=xs by
      rw [hk,List.take_of_length_le (by rw [iM.o];omega)];simp)
     have H8:=aa (show St w0 wr (row D 5 (aP xs)::mC X [] [] P (dK bs no)::eL P::own 5 1 (.slice A2 n c2) n (aP bs)::row Y 118 [.bool false,.int .i64 0,.int .i64 0,.int .i64 0,.slice none 0 0]::l) by rw [oa.o] at av;exact av);clear av hk;have wO:=aa (oJ (w0:=w0) (t:=D) (n:=16) (xs:=aP xs) (bs:=xs) iM.o (by rw [List.take_of_length_le (by simp [aP,iM.o])]));have aab:no≤10:=by have:=HK.o;have:=OS.o;omega
     have RO:=aa (De (bs:=bs) HK.o);rw [←KT.o] at RO;go_wp2_with fail;rw [show (f:Int) / 16=(no:Int) by have:=HF.o;omega];refine (Jh (o:=0) rfl (l:=own 5 1 (.slice A2 n c2) n (aP bs)::row Y 118 [.bool false,.int .i64 0,.int .i64 0,.int .i64 0,.slice none 0 0]::l) ((H8.o.pick 2 rfl).pick 2 rfl) wO.o (fun _=>Ah (by rw [ch.o];omega) (by rw [ch.o];omega) (by have:=HK.o;omega)) (by rw [Eb (by have:=HK.o;omega)];have:=OS.o;omega) 1 (no:Int)).mono ?_;rintro e w9 ⟨rfl,P',hP,h9⟩;rw [RO.o] at h9 ⊢;have H9:=aa ((h9.pick 2 rfl).drop);clear h9 hP;dsimp only at H9 ⊢;go_wp2_with fail;go_roundw;case rel=>exact ⟨no+1,P',by have:=HK.o;omega,by have:=HF.o;go_num,H9.o⟩
     case measure=>have:=HF.o;simp [intOf];omega
  ·have k1:¬(f:Int) < (n:Int):=by omega
   have HE:=aa (show no=dU bs by omega);obtain ⟨v,vs,L7,kO⟩:=mP av;obtain ⟨Av,cv,rfl,_,_⟩:=aH (kO.pick 1 rfl).own;have HVB:=aa L7;have bJ:=aa kO;have rX:=kO.row.1;have hL:dK bs no=fD bs:=by rw [HE.o];rfl
   simp only [bE,List.nil_append,List.append_nil] at rX;obtain ⟨vb,TB⟩:∃v,v=(dK bs no).has:=⟨_,rfl⟩
   obtain ⟨v1,Gs⟩:∃v,v=(dK bs no).st.aG:=⟨_,rfl⟩
   obtain ⟨v2,JI⟩:∃v,v=(dK bs no).st.size:=⟨_,rfl⟩
   obtain ⟨v3,hv3⟩:∃v,v=(dK bs no).st.bd:=⟨_,rfl⟩
   obtain ⟨v4,hv4⟩:∃v,v=(dK bs no).blocks.length:=⟨_,rfl⟩
   rw [←TB,←Gs,←JI,←hv3,←hv4] at rX;have HV:=aa (show bE (fD bs) (.slice Av (fD bs).blocks.length cv)=[.bool vb,.int .i64 v1,.int .i64 v2,.int .i64 v3,.slice Av v4 cv] by rw [bE,TB,Gs,JI,hv3,hv4,hL]);have x0:=rX.cell 0;have x1:=rX.cell 1;have x2:=rX.cell 2;have x3:=rX.cell 3;have x4:=rX.cell 4;have lX:=rX.lt;have HRY:=aa (kO.pick 4 rfl).row.1;have HL:=aa hL;clear hf av oD L7 kO rX TB Gs JI hv3 hv4 hL;have MS:=aa (show (Tryz.prog.info? 118).map (·.size)=some (#[Value.bool vb,.int .i64 v1,.int .i64 v2,.int .i64 v3,.slice Av v4 cv]:Array Value).size from by kernel_rfl);go_upto_region 13 with fail;go_wp2_with (with_reducible refine aF rfl 118 (.tmp 2) (.tmp 51) rfl Y 0 #[.bool vb,.int .i64 v1,.int .i64 v2,.int .i64 v3,.slice Av v4 cv] rfl rfl HRY.o MS.o (Nat.le_refl _) (by simp [Value.oneCell']) [.bool vb,.int .i64 v1,.int .i64 v2,.int .i64 v3,.slice Av v4 cv] rfl ?_);have HS:=aa ((bJ.o.pick 4 rfl).setRow [.bool vb,.int .i64 v1,.int .i64 v2,.int .i64 v3,.slice Av v4 cv]);refine bodyPost_ret (results_cell_row rfl _ _ Y _ _ _ _ rfl HS.o.row.1 Tryz.underlying118 rfl (by kernel_rfl)) rfl ?_;refine ⟨.slice Av (fD bs).blocks.length cv,by rw [HV.o],P,vs,?_,?_⟩
   ·rw [←HL.o];exact HVB.o
   ·rw [←HL.o];have h1:=HS.o.drop;have h2:=h1.drop;have h3:=(h2.pick 2 rfl).drop;exact h3
end store
end Go.Proofs.YtdldkkoplgkloaaGreat
