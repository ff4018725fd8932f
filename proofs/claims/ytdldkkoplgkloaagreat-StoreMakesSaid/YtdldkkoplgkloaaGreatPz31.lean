/-
  PROVED HERE: lemmas and contracts that the law's proof leans on (texts put together: RefLoad, LawBlock, Example, ExampleV).
  CONDITIONS: each names its own.
-/
import Derived.Test.YtdldkkoplgkloaaGreatPz30
namespace Go.Proofs.YtdldkkoplgkloaaGreat
set_option linter.unusedVariables false
set_option linter.unusedSimpArgs false
set_option maxRecDepth 100000
set_option maxHeartbeats 32000000
namespace store


open Go.RowKit Go.Deep base obj mem sep plan disk record commit stage image tab compat chain crc
theorem fill_set {xs:List Int} {N k:Nat} (hx:xs.length=N) (hk:k < N) {b:Int} (hb:xs[k]?=some b):(xs.take k++List.replicate (N-k) 0).set k b=xs.take (k+1)++List.replicate (N-(k+1)) 0:=by
 obtain ⟨j,hj⟩:∃j,N-k=j+1:=⟨N-k-1,by omega⟩
 have:N-(k+1)=j:=by omega
 have hl:(xs.take k).length=k:=by simp;omega
 rw [hj,this,List.set_append_right _ _ (by omega),hl,Nat.sub_self,List.replicate_succ,List.set_cons_zero,List.take_add_one,hb]
 simp
theorem u8s_set (xs:List Int) (k:Nat) (b:Int):(u8s xs).set k (.int .u8 b)=u8s (xs.set k b):=by simp [u8s,List.map_set]
theorem loadTo_right {bs:List Int} {no:Nat} (h1:1≤bs.length) (h2:bs.length≤160) (hn:no≤nbB bs):(loadTo bs no).st.right=true:=by
 have a:(2:Int) ^ no≤2 ^ nbB bs:=by exact_mod_cast Nat.pow_le_pow_right (by omega) hn
 have b:(1:Int)≤2 ^ no:=by exact_mod_cast Nat.one_le_two_pow
 have e:(loadTo bs no).st=⟨1,bs.length,2 ^ no-1⟩:=rfl
 rw [e]
 simp only [Stg.right,blocksN_len,Bool.and_eq_true,decide_eq_true_eq]
 generalize (2:Int) ^ no=x,(2:Int) ^ nbB bs=y at *
 omega
theorem loadTo_len {bs:List Int} {no:Nat} (hn:no≤nbB bs):(loadTo bs no).blocks.length=nbB bs:=by simp [loadTo];omega
theorem rload_at {w0 w:World} {l:List Asn} (h:St w0 w l) (i:Img) (hr:i.right) (hby:Byt i.code) (A:Option Addr) (c:Nat) (hc:i.code.length≤c) (hs:Sl w w.heap.size 1 A i.code.length (u8s i.code)) :
  Calls Tryz.prog 85 #[i.val A c] w fun e w'=>∃v,e=.returned (.agg (rcells (loadR i.bytes) v).toArray)∧∃P vs,HBs P (loadR i.bytes).blocks vs∧St w0 w' (own 24 1 v (loadR i.bytes).blocks.length vs::pool P::l):=by
 have HP:=Lib.hid (fun (w':World) (hb:Below w.heap.size w w')=>refImage.rbytes_at w' i hr hby A c hc ((hs.below hb).more hb.size))
 have hl96:i.code.length≤96:=by obtain ⟨_,_,_,_,_,_,_,h⟩:=hr;omega
 have HBL:=Lib.hid (bytes_len i)
 have HBY:=Lib.hid (show Byt i.bytes from sealed_byt _ (head_byt i hby))
 obtain ⟨n,hn⟩:∃n,n=49+i.code.length:=⟨_,rfl⟩
 rw [←hn] at HP HBL
 obtain ⟨bs,hbs⟩:∃v,v=i.bytes:=⟨_,rfl⟩
 rw [←hbs] at HP HBL HBY ⊢
 have hn1:49≤n:=by omega
 have hn2:n≤145:=by omega
 simp only [Img.val] at HP ⊢
 obtain ⟨Z,hZ⟩:∃Z,Z=w.heap.size:=⟨_,rfl⟩
 obtain ⟨w1,hw1⟩:∃w1,w1=((w.alloc (.cells #[.int .i64 i.part,.int .i64 i.version,.int .i64 i.hard,.int .i64 i.mem,.int .i64 i.fuel,.int .i64 i.sends,.int .i64 i.receives,.slice A i.code.length c] 26)).alloc (.cells #[.bool false,.int .i64 0,.int .i64 0,.int .i64 0,.slice none 0 0] 118)).alloc (.cells #[.bool false,.int .i64 0,.int .i64 0,.int .i64 0,.slice none 0 0] 118):=⟨_,rfl⟩
 have HB1:=Lib.hid (show Below w.heap.size w w1 by rw [hw1];exact ((((St.nil w).new _ _).new _ _).new _ _).bel)
 have H1:=Lib.hid (show St w0 w1 (row (Z+1+1) 118 [.bool false,.int .i64 0,.int .i64 0,.int .i64 0,.slice none 0 0]::row (Z+1) 118 [.bool false,.int .i64 0,.int .i64 0,.int .i64 0,.slice none 0 0]::row Z 26 [.int .i64 i.part,.int .i64 i.version,.int .i64 i.hard,.int .i64 i.mem,.int .i64 i.fuel,.int .i64 i.sends,.int .i64 i.receives,.slice A i.code.length c]::l) by
  have h3:=((h.new 26 #[.int .i64 i.part,.int .i64 i.version,.int .i64 i.hard,.int .i64 i.mem,.int .i64 i.fuel,.int .i64 i.sends,.int .i64 i.receives,.slice A i.code.length c]).new 118 #[.bool false,.int .i64 0,.int .i64 0,.int .i64 0,.slice none 0 0]).new 118 #[.bool false,.int .i64 0,.int .i64 0,.int .i64 0,.slice none 0 0]
  rw [←hw1] at h3
  simp only [World.alloc,Array.size_push,←hZ] at h3
  exact h3)
 have HW1:=Lib.hid hw1;have HZ:=Lib.hid hZ
 generalize i.part=i0,i.version=i1,i.hard=i2,i.mem=i3,i.fuel=i4,i.sends=i5,i.receives=i6,i.code.length=i7 at *
 have HBG:=Lib.hid (fun (R:RS)=>load_begin R (bs:=bs) (by have:=HBL.out;omega) (by have:=HBL.out;omega))
 rw [HBL.out] at HBG
 have HNB:=Lib.hid (show nbB bs=(n+15) / 16 by unfold nbB;rw [HBL.out])
 clear h hr hs hn hbs hby hc hw1 hZ
 go_enter Tryz.func85,Tryz.ntmps85
 go_upto_region 2 with fail
 rw [←HW1.out,←HZ.out]
 obtain ⟨X,hX⟩:∃X,X=Z+1+1:=⟨_,rfl⟩
 obtain ⟨Y,hY⟩:∃Y,Y=Z+1:=⟨_,rfl⟩
 have r3:=(H1.out.pick 2 rfl).row.1
 have t0:=r3.cell 0;have t1:=r3.cell 1;have t2:=r3.cell 2;have t3:=r3.cell 3;have t4:=r3.cell 4;have t5:=r3.cell 5;have t6:=r3.cell 6;have t7:=r3.cell 7;have lZ:=r3.lt
 clear r3
 go_wp2_with (fail)
 refine (HP.out _ HB1.out).mono ?_
 rintro e w2 ⟨v,rfl,ho,hb⟩
 obtain ⟨A2,c2,rfl,hc2,hm2⟩:=own_form ho
 have H2:=Lib.hid (show St w0 w2 (rsl X [] RS.none::pool []::own 5 1 (.slice A2 n c2) n (u8s bs)::row Y 118 [.bool false,.int .i64 0,.int .i64 0,.int .i64 0,.slice none 0 0]::l) by
  have h2:=H1.out.addOwn hb ho
  rw [←hX,←hY] at h2
  refine rsl_shut (v:=.slice none 0 0) (vs:=[]) ⟨rfl,fun i b v h=>by simp [RS.none] at h⟩ ?_
  have h3:St w0 w2 (pool []::own 24 1 (.slice none 0 0) 0 []::own 5 1 (.slice A2 n c2) n (u8s bs)::row X 118 [.bool false,.int .i64 0,.int .i64 0,.int .i64 0,.slice none 0 0]::row Y 118 [.bool false,.int .i64 0,.int .i64 0,.int .i64 0,.slice none 0 0]::row Z 26 [.int .i64 i0,.int .i64 i1,.int .i64 i2,.int .i64 i3,.int .i64 i4,.int .i64 i5,.int .i64 i6,.slice A i7 c]::l):=St.tolst (L:=[]) (h2.addOwn (Below.refl _ _) ⟨rfl,.inl ⟨rfl,rfl⟩⟩)
  have h4:=(h3.pick 5 rfl).drop
  have h5:=h4.pick 3 rfl
  have h6:=(h5.pick 2 rfl).swap
  exact h6)
 clear t0 t1 t2 t3 t4 t5 t6 t7 lZ ho hb
 rw [←hX,←hY]
 clear hX hY
 go_wp2_with (fail)
 refine (rbegin_at H2.out 1 (n:Int) (by omega)).mono ?_
 rintro e w3 ⟨rfl,h3⟩
 rw [HBG.out RS.none] at h3 ⊢
 have H3:=Lib.hid h3
 clear h3
 dsimp only at H3 ⊢
 go_wp2_with (fail)
 go_loopw [5] (fun x wr=>∃(no:Nat) (P:List (Nat×List Value)),no≤nbB bs∧x=.int .i64 ((16*no:Nat):Int)∧St w0 wr (rsl X P (loadTo bs no)::pool P::own 5 1 (.slice A2 n c2) n (u8s bs)::row Y 118 [.bool false,.int .i64 0,.int .i64 0,.int .i64 0,.slice none 0 0]::l)) (fun x _=>16*nbB bs-(intOf x).toNat)
 case atStart=>exact ⟨0,[],by omega,rfl,H3.out⟩
 case round =>
  obtain ⟨no,P,hno,rfl,hst⟩:=hrel
  clear H3
  obtain ⟨f,hf⟩:∃f,f=16*no:=⟨_,rfl⟩
  rw [←hf]
  have hnb:=HNB.out
  by_cases hlt:no < nbB bs
  ·have k1:(f:Int) < (n:Int):=by omega
   have hmk:=make16
   obtain ⟨D,hD⟩:∃D,D=wr.heap.size:=⟨_,rfl⟩
   obtain ⟨w5,hw5⟩:∃v,v=wr.alloc (.cells (Array.replicate 16 (.int .u8 0)) 5):=⟨_,rfl⟩
   have hnew:=hst.new 5 (Array.replicate 16 (Value.int .u8 0))
   rw [←hD,←hw5] at hnew
   have HST:=Lib.hid hnew
   have HF:=Lib.hid hf;have HD:=Lib.hid hD;have HW5:=Lib.hid hw5;have HK:=Lib.hid hlt
   have HNB2:=Lib.hid hnb
   clear hst hnew hf hD hw5 hnb
   go_upto_region 8 with fail
   rw [←HW5.out,←HD.out]
   go_wp2_with (fail)
   have HBK:=Lib.hid (blkB_eq (bs:=bs) (j:=no) (by have:=HF.out;rw [HBL.out];omega))
   have HLEN:=Lib.hid (blkB_len HK.out)
   obtain ⟨xs,hxs⟩:∃v,v=blkB bs no:=⟨_,rfl⟩
   rw [←hxs] at HBK HLEN
   have HXS:=Lib.hid hxs
   clear hxs
   go_loopw [7] (fun x w8=>∃k:Nat,k≤16∧f+k≤n∧x=.int .i64 (k:Int)∧St w0 w8 (row D 5 (u8s (xs.take k++List.replicate (16-k) 0))::rsl X P (loadTo bs no)::pool P::own 5 1 (.slice A2 n c2) n (u8s bs)::row Y 118 [.bool false,.int .i64 0,.int .i64 0,.int .i64 0,.slice none 0 0]::l)) (fun x _=>16-(intOf x).toNat)
   case atStart=>exact ⟨0,by omega,by omega,rfl,HST.out⟩
   case round =>
    obtain ⟨k,hk16,hkn,rfl,hst⟩:=hrel
    by_cases hk:k < 16
    ·have e1:(k:Int) < 16:=by omega
     obtain ⟨g,hg⟩:∃g,g=f+k:=⟨_,rfl⟩
     have W2:IntKind.i64.wrap ((f:Int)+(k:Int))=(g:Int):=by rw [IntWalk.i64_in _ (by omega)];omega
     by_cases hkn2:g < n
     ·have e2:(g:Int) < (n:Int):=by omega
      have hsl:=Sl.of_own ((hst.pick 3 rfl).own)
      obtain ⟨b,off,hA,hbl,hcc⟩:=hsl.2 (by omega)
      have hbg:g < bs.length:=by rw [HBL.out];exact hkn2
      obtain ⟨bv,hbv⟩:∃bv,bs[g]?=some bv:=⟨_,List.getElem?_eq_getElem hbg⟩
      have hcell:wr.cell? ⟨b,off+g,none⟩=some (.int .u8 bv):=hcc g _ (by simp [u8s,hbv])
      have hxk:xs[k]?=some bv:=by
       have hff:=HF.out
       rw [HBK.out,List.getElem?_append_left (by simp only [List.length_take,List.length_drop,HBL.out];omega),List.getElem?_take,if_pos hk,List.getElem?_drop,←hff,←hg]
       exact hbv
      have HFS:=Lib.hid (fill_set HLEN.out hk hxk)
      have r:=hst.row.1
      have lD:=r.lt
      have fz:=r.frozen k
      have cD:=r.cell k
      have hck:(u8s (xs.take k++List.replicate (16-k) 0))[k]?=some (.int .u8 0):=by
       simp only [u8s,List.getElem?_map]
       rw [List.getElem?_append_right (by rw [List.length_take];omega),show k-(xs.take k).length=0 by rw [List.length_take,HLEN.out];omega,List.getElem?_replicate,if_pos (by omega)]
       rfl
      rw [hck] at cD
      have HA:=Lib.hid hA;have HS2:=Lib.hid hst;have HG:=Lib.hid hg
      clear hck hsl hcc hxk hA hst hg hkn hbg r hbv
      rw [HA.out]
      go_wp2_with (fail)
      go_roundw
      case rel =>
       refine ⟨k+1,by omega,by have:=HG.out;omega,by go_num,?_⟩
       have h:=HS2.out.set k (.int .u8 bv)
       rw [u8s_set,HFS.out,HA.out] at h
       exact h
      case measure=>simp [intOf];omega
     ·have e2:¬(g:Int) < (n:Int):=by omega
      have HX2:=Lib.hid (show xs.take k++List.replicate (16-k) 0=xs by
       have hff:=HF.out
       have hm:min 16 (bs.length-16*no)=k:=by rw [HBL.out];omega
       have h1:=HBK.out
       rw [hm] at h1
       have h2:xs.take k=(bs.drop (16*no)).take 16:=by
        rw [h1]
        exact List.take_left' (by rw [List.length_take,List.length_drop];exact hm)
       rw [h2];exact h1.symm)
      have H8:=Lib.hid (show St w0 wr (row D 5 (u8s xs)::rsl X P (loadTo bs no)::pool P::own 5 1 (.slice A2 n c2) n (u8s bs)::row Y 118 [.bool false,.int .i64 0,.int .i64 0,.int .i64 0,.slice none 0 0]::l) by rw [HX2.out] at hst;exact hst)
      clear hst hg
      have HGV:=Lib.hid (gives_row (w0:=w0) (t:=D) (n:=16) (xs:=u8s xs) (bs:=xs) HLEN.out (by rw [List.take_of_length_le (by simp [u8s,HLEN.out])]))
      have hno10:no≤10:=by have:=HK.out;have:=HNB2.out;omega
      have HPU:=Lib.hid (load_put (bs:=bs) HK.out)
      rw [←HXS.out] at HPU
      go_wp2_with (fail)
      rw [show (f:Int) / 16=(no:Int) by have:=HF.out;omega]
      refine (rput_at (l:=own 5 1 (.slice A2 n c2) n (u8s bs)::row Y 118 [.bool false,.int .i64 0,.int .i64 0,.int .i64 0,.slice none 0 0]::l) ((H8.out.pick 2 rfl).pick 2 rfl) HGV.out (fun _=>loadTo_right (by rw [HBL.out];omega) (by rw [HBL.out];omega) (by have:=HK.out;omega)) (by rw [loadTo_len (by have:=HK.out;omega)];have:=HNB2.out;omega) 1 (no:Int)).mono ?_
      rintro e w9 ⟨rfl,P',hP,h9⟩
      rw [HPU.out] at h9 ⊢
      have H9:=Lib.hid ((h9.pick 2 rfl).drop)
      clear h9 hP
      dsimp only at H9 ⊢
      go_wp2_with (fail)
      go_roundw
      case rel=>exact ⟨no+1,P',by have:=HK.out;omega,by have:=HF.out;go_num,H9.out⟩
      case measure=>have:=HF.out;simp [intOf];omega
    ·have hk:k=16:=by omega
     have e1:¬(k:Int) < 16:=by omega
     have HX2:=Lib.hid (show xs.take k++List.replicate (16-k) 0=xs by
      rw [hk,List.take_of_length_le (by rw [HLEN.out];omega)];simp)
     have H8:=Lib.hid (show St w0 wr (row D 5 (u8s xs)::rsl X P (loadTo bs no)::pool P::own 5 1 (.slice A2 n c2) n (u8s bs)::row Y 118 [.bool false,.int .i64 0,.int .i64 0,.int .i64 0,.slice none 0 0]::l) by rw [HX2.out] at hst;exact hst)
     clear hst hk
     have HGV:=Lib.hid (gives_row (w0:=w0) (t:=D) (n:=16) (xs:=u8s xs) (bs:=xs) HLEN.out (by rw [List.take_of_length_le (by simp [u8s,HLEN.out])]))
     have hno10:no≤10:=by have:=HK.out;have:=HNB2.out;omega
     have HPU:=Lib.hid (load_put (bs:=bs) HK.out)
     rw [←HXS.out] at HPU
     go_wp2_with (fail)
     rw [show (f:Int) / 16=(no:Int) by have:=HF.out;omega]
     refine (rput_at (l:=own 5 1 (.slice A2 n c2) n (u8s bs)::row Y 118 [.bool false,.int .i64 0,.int .i64 0,.int .i64 0,.slice none 0 0]::l) ((H8.out.pick 2 rfl).pick 2 rfl) HGV.out (fun _=>loadTo_right (by rw [HBL.out];omega) (by rw [HBL.out];omega) (by have:=HK.out;omega)) (by rw [loadTo_len (by have:=HK.out;omega)];have:=HNB2.out;omega) 1 (no:Int)).mono ?_
     rintro e w9 ⟨rfl,P',hP,h9⟩
     rw [HPU.out] at h9 ⊢
     have H9:=Lib.hid ((h9.pick 2 rfl).drop)
     clear h9 hP
     dsimp only at H9 ⊢
     go_wp2_with (fail)
     go_roundw
     case rel=>exact ⟨no+1,P',by have:=HK.out;omega,by have:=HF.out;go_num,H9.out⟩
     case measure=>have:=HF.out;simp [intOf];omega
  ·have k1:¬(f:Int) < (n:Int):=by omega
   have HE:=Lib.hid (show no=nbB bs by omega)
   obtain ⟨v,vs,hvb,hst2⟩:=rsl_open hst
   obtain ⟨Av,cv,rfl,_,_⟩:=own_form (hst2.pick 1 rfl).own
   have HVB:=Lib.hid hvb;have HST:=Lib.hid hst2
   have rX:=hst2.row.1
   have hL:loadTo bs no=loadR bs:=by rw [HE.out];rfl
   simp only [rcells] at rX
   obtain ⟨vb,hvb'⟩:∃v,v=(loadTo bs no).has:=⟨_,rfl⟩
   obtain ⟨v1,hv1⟩:∃v,v=(loadTo bs no).st.session:=⟨_,rfl⟩
   obtain ⟨v2,hv2⟩:∃v,v=(loadTo bs no).st.size:=⟨_,rfl⟩
   obtain ⟨v3,hv3⟩:∃v,v=(loadTo bs no).st.have_:=⟨_,rfl⟩
   obtain ⟨v4,hv4⟩:∃v,v=(loadTo bs no).blocks.length:=⟨_,rfl⟩
   rw [←hvb',←hv1,←hv2,←hv3,←hv4] at rX
   have HV:=Lib.hid (show rcells (loadR bs) (.slice Av (loadR bs).blocks.length cv)=[.bool vb,.int .i64 v1,.int .i64 v2,.int .i64 v3,.slice Av v4 cv] by rw [rcells,hvb',hv1,hv2,hv3,hv4,hL])
   have x0:=rX.cell 0;have x1:=rX.cell 1;have x2:=rX.cell 2;have x3:=rX.cell 3;have x4:=rX.cell 4;have lX:=rX.lt
   have HRY:=Lib.hid (hst2.pick 4 rfl).row.1
   have HL:=Lib.hid hL
   clear hf hst hnb hvb hst2 rX hvb' hv1 hv2 hv3 hv4 hL
   have MS:=Lib.hid (show (Tryz.prog.info? 118).map (·.size)=some (#[Value.bool vb,.int .i64 v1,.int .i64 v2,.int .i64 v3,.slice Av v4 cv]:Array Value).size from by kernel_rfl)
   go_upto_region 13 with fail
   go_wp2_with (with_reducible refine wpList_putR rfl 118 (.tmp 2) (.tmp 51) rfl Y 0 #[.bool vb,.int .i64 v1,.int .i64 v2,.int .i64 v3,.slice Av v4 cv] rfl rfl HRY.out MS.out (Nat.le_refl _) (by simp [Value.oneCell']) [.bool vb,.int .i64 v1,.int .i64 v2,.int .i64 v3,.slice Av v4 cv] rfl ?_)
   have HS:=Lib.hid ((HST.out.pick 4 rfl).setRow [.bool vb,.int .i64 v1,.int .i64 v2,.int .i64 v3,.slice Av v4 cv])
   refine bodyPost_ret (results_cell_row rfl _ _ Y _ _ _ _ rfl HS.out.row.1 Tryz.underlying118 rfl (by kernel_rfl)) rfl ?_
   refine ⟨.slice Av (loadR bs).blocks.length cv,by rw [HV.out],P,vs,?_,?_⟩
   ·rw [←HL.out];exact HVB.out
   ·rw [←HL.out]
    have h1:=HS.out.drop
    have h2:=h1.drop
    have h3:=(h2.pick 2 rfl).drop
    exact h3
end store
namespace store


open Go.RowKit Go.Deep base obj mem sep plan disk record commit stage image tab compat chain crc
def spoilL (xs:List Int):List Int:=xs.set 3 (Go.bits .xor .u8 (xs.getD 3 0) 64)
def plainB (i:Img) (no:Int):List Int:=if i.right∧0≤no∧no < 20∧16*no < i.bytes.length then blkB i.bytes no.toNat else List.replicate 16 0
def blockL (i:Img) (no:Int) (spoil:Bool):List Int:=if spoil then spoilL (plainB i no) else plainB i no
theorem plainB_len (i:Img) (no:Int):(plainB i no).length=16:=by
 unfold plainB
 split
 ·rename_i h;exact blkB_len (by unfold nbB;omega)
 ·simp
theorem blockL_len (i:Img) (no:Int) (s:Bool):(blockL i no s).length=16:=by
 unfold blockL spoilL
 split
 ·simp [plainB_len]
 ·exact plainB_len i no
theorem block_at {w0 w:World} {l:List Asn} (h:St w0 w l) (i:Img) (hby:Byt i.code) (A:Option Addr) (c:Nat) (hc:i.code.length≤c) (hcm:i.code.length≤9223372036854775807) (hs:Sl w w.heap.size 1 A i.code.length (u8s i.code)) (no:Int) (spoil:Bool) :
  Calls Tryz.prog 31 #[i.val A c,.int .i64 no,.bool spoil] w fun e w'=>∃D,e=.returned (.slice (some ⟨D,0,none⟩) 16 16)∧St w0 w' (row D 5 (u8s (blockL i no spoil))::l):=by
 have HP:=Lib.hid (fun (w':World) (hb:Below w.heap.size w w') (hr:i.right)=>iput_at w' i hr A c hc hby ((hs.below hb).more hb.size))
 have HPN:=Lib.hid (fun (w':World) (hr:¬i.right)=>iput_no w' i hr A c hcm)
 have HBL:=Lib.hid (bytes_len i)
 have HL96:=Lib.hid (show i.right→i.code.length≤96 from fun ⟨_,_,_,_,_,_,_,h⟩=>by omega)
 have HPB:=Lib.hid (fun (h:i.right∧0≤no∧no < 20∧16*no < i.bytes.length)=>show plainB i no=blkB i.bytes no.toNat from if_pos h)
 have HPB2:=Lib.hid (fun (h:¬(i.right∧0≤no∧no < 20∧16*no < i.bytes.length))=>show plainB i no=List.replicate 16 0 from if_neg h)
 have HBK0:=Lib.hid (show blockL i no spoil=if spoil then spoilL (plainB i no) else plainB i no from rfl)
 generalize blockL i no spoil=bl at *
 generalize plainB i no=pb at *
 obtain ⟨bs,hbs⟩:∃v,v=i.bytes:=⟨_,rfl⟩
 rw [←hbs] at HP HBL HPB HPB2
 obtain ⟨rr,hrr⟩:∃p:Prop,p=i.right:=⟨_,rfl⟩
 rw [←hrr] at HP HPN HL96 HPB HPB2
 obtain ⟨n,hn⟩:∃n,n=49+i.code.length:=⟨_,rfl⟩
 rw [←hn] at HP HBL
 have HN:=Lib.hid hn
 simp only [Img.val] at HP HPN ⊢
 obtain ⟨Z,hZ⟩:∃Z,Z=w.heap.size:=⟨_,rfl⟩
 obtain ⟨D,hD⟩:∃D,D=Z+1:=⟨_,rfl⟩
 obtain ⟨w1,hw1⟩:∃w1,w1=(w.alloc (.cells #[.int .i64 i.part,.int .i64 i.version,.int .i64 i.hard,.int .i64 i.mem,.int .i64 i.fuel,.int .i64 i.sends,.int .i64 i.receives,.slice A i.code.length c] 26)).alloc (.cells (Array.replicate 16 (.int .u8 0)) 5):=⟨_,rfl⟩
 have HB1:=Lib.hid (show Below w.heap.size w w1 by rw [hw1];exact (((St.nil w).new _ _).new _ _).bel)
 have H1:=Lib.hid (show St w0 w1 (row D 5 (Array.replicate 16 (Value.int .u8 0)).toList::row Z 26 [.int .i64 i.part,.int .i64 i.version,.int .i64 i.hard,.int .i64 i.mem,.int .i64 i.fuel,.int .i64 i.sends,.int .i64 i.receives,.slice A i.code.length c]::l) by
  have h3:=(h.new 26 #[.int .i64 i.part,.int .i64 i.version,.int .i64 i.hard,.int .i64 i.mem,.int .i64 i.fuel,.int .i64 i.sends,.int .i64 i.receives,.slice A i.code.length c]).new 5 (Array.replicate 16 (Value.int .u8 0))
  rw [←hw1] at h3
  simp only [World.alloc,Array.size_push,←hZ,←hD] at h3
  exact h3)
 have HW1:=Lib.hid hw1;have HZ:=Lib.hid hZ;have HD:=Lib.hid hD
 generalize i.part=i0,i.version=i1,i.hard=i2,i.mem=i3,i.fuel=i4,i.sends=i5,i.receives=i6,i.code.length=i7 at *
 clear h hs hn hbs hby hc hw1 hZ hD hrr
 have hmk:=make16
 go_enter Tryz.func31,Tryz.ntmps31
 go_upto_region 2 with fail
 rw [←HW1.out,←HZ.out,←HD.out]
 clear hmk
 have r3:=(H1.out.pick 1 rfl).row.1
 have t0:=r3.cell 0;have t1:=r3.cell 1;have t2:=r3.cell 2;have t3:=r3.cell 3;have t4:=r3.cell 4;have t5:=r3.cell 5;have t6:=r3.cell 6;have t7:=r3.cell 7;have lZ:=r3.lt
 clear r3
 by_cases hr:rr
 ·go_wp2_with (fail)
  refine (HP.out _ HB1.out hr).mono ?_
  rintro e w2 ⟨v,rfl,ho,hb⟩
  obtain ⟨A2,c2,rfl,hc2,hm2⟩:=own_form ho
  have H2:=Lib.hid (((H1.out.pick 1 rfl).drop).addOwn hb ho)
  have hn2:n≤145:=by have:=HL96.out hr;have:=HN.out;omega
  have hn1:49≤n:=by have:=HN.out;omega
  clear t0 t1 t2 t3 t4 t5 t6 t7 lZ ho hb
  by_cases hin:0≤no∧no < 20∧16*no < n
  ·obtain ⟨g0,g1,g2⟩:=hin
   obtain ⟨q,rfl⟩:∃q:Nat,no=q:=⟨no.toNat,by omega⟩
   have hq2:16*q < n:=by omega
   have HPE:=Lib.hid (show pb=blkB bs q from HPB.out ⟨hr,g0,g1,by rw [HBL.out];exact g2⟩)
   obtain ⟨f,hf⟩:∃f,f=16*q:=⟨_,rfl⟩
   have W1:IntKind.i64.wrap ((q:Int)*16)=(f:Int):=by rw [IntWalk.i64_in _ (by omega)];omega
   have k0:(q:Int)≥0:=by omega
   have k1:(f:Int) < (n:Int):=by omega
   have k2:(0:Int)≤(f:Int):=by omega
   have k3:(f:Int)≤(n:Int):=by omega
   have k4:(n:Int)≤(c2:Int):=by omega
   have k5:(f:Int)≤(c2:Int):=by omega
   have k6:¬c2=f:=by omega
   obtain ⟨b,off,hA,hbl,hcc⟩:=(Sl.of_own (H2.out.own)).2 (by omega)
   have HA:=Lib.hid hA
   obtain ⟨cs,hcs⟩:∃v,v=u8s ((bs.drop (16*q)).take 16):=⟨_,rfl⟩
   have hcl:cs.length=Nat.min (n-16*q) 16:=by
    rw [hcs];simp [u8s,HBL.out,Nat.min_comm]
   have HCN:=Lib.hid hcl
   have HSRC:=Lib.hid (show ∀j v,cs[j]?=some v→w2.cell? ((⟨b,off+f,none⟩:Addr).add j)=some v from fun j v hv=>by
    rw [show (⟨b,off+f,none⟩:Addr).add j=⟨b,off+(16*q+j),none⟩ by rw [hf];unfold Addr.add;split<;>simp_all [Nat.add_assoc]]
    refine hcc (16*q+j) v ?_
    rw [hcs,u8s,List.map_take,List.getElem?_take] at hv
    split at hv
    ·rwa [List.map_drop,List.getElem?_drop] at hv
    ·simp at hv)
   have HFIT:=Lib.hid (show 0+cs.length≤(Array.replicate 16 (Value.int .u8 0)).toList.length by rw [hcl];simp only [Nat.zero_add,Array.toList_replicate,List.length_replicate];exact Nat.min_le_right _ _)
   have HC1:=Lib.hid (show ∀v∈cs,v.oneCell'=true by rw [hcs];exact u8s_one _)
   have HRR:=Lib.hid (show (Array.replicate 16 (Value.int .u8 0)).toList.take 0++(cs++(Array.replicate 16 (Value.int .u8 0)).toList.drop (0+cs.length))=u8s (blkB bs q) by
    rw [blkB_eq (by rw [HBL.out];exact hq2),hcl,hcs,HBL.out]
    simp only [List.take_zero,List.nil_append,Nat.zero_add,Array.toList_replicate,List.drop_replicate,u8s,List.map_append,List.map_replicate]
    rw [show Nat.min (n-16*q) 16=min 16 (n-16*q) from Nat.min_comm _ _])
   have HCN2:=Lib.hid (show cs.length=Nat.min (n-f) 16 by rw [hf];exact hcl)
   have HRD:=Lib.hid (H2.out.pick 1 rfl).row.1
   have HLEN:=Lib.hid (show (blkB bs q).length=16 from blkB_len (by unfold nbB;rw [HBL.out];omega))
   clear hcs hcl hcc hA g0 g2 hf hq2
   rw [HA.out]
   go_upto_region 6 with (refine wpList_copyR rfl (.tmp 31) (.tmp 35) 24 24 rfl 5 Tryz.underlying24 u8_size1 D 0 16 16 ⟨b,off+f,none⟩ (n-f) (c2-f) rfl rfl HRD.out cs HCN2.out HSRC.out HFIT.out HC1.out _ HRR.out ?_)
   have HT:=Lib.hid ((((H2.out.pick 1 rfl).setRow (u8s (blkB bs q))).swap).drop)
   have HBK:=Lib.hid (show (if spoil then spoilL (blkB bs q) else blkB bs q)=bl by rw [HBK0.out,HPE.out])
   clear k0 k1 k2 k3 k4 k5 k6 W1
   obtain ⟨wX,hwX⟩:∃v,v=w2.setRow D (u8s (blkB bs q)).toArray:=⟨_,rfl⟩
   rw [←hwX] at HT ⊢
   clear hwX
   generalize blkB bs q=xs at *
   have r:=HT.out.row.1
   have lD:=r.lt
   have fz:wX.frozen? ⟨D,3,none⟩=false:=r.frozen 3
   obtain ⟨x3,hx3⟩:∃x,xs[3]?=some x:=⟨_,List.getElem?_eq_getElem (by rw [HLEN.out];omega)⟩
   have cD:wX.cell? ⟨D,3,none⟩=some (.int .u8 x3):=by rw [r.cell 3];simp [u8s,hx3]
   have HX3:=Lib.hid hx3
   clear r hx3
   cases spoil with
   | false =>
     go_wp2_with (fail)
     go_ret
     exact ⟨D,rfl,by rw [←HBK.out];exact HT.out⟩
   | true =>
     go_wp2_with (fail)
     go_ret
     refine ⟨D,rfl,?_⟩
     have h:=HT.out.set 3 (.int .u8 (Go.bits .xor .u8 x3 64))
     rw [u8s_set] at h
     rw [←HBK.out,spoilL,List.getD_eq_getElem?_getD,HX3.out]
     exact h
  ·have HPE:=Lib.hid (show pb=List.replicate 16 0 from HPB2.out fun h=>hin ⟨h.2.1,h.2.2.1,by have:=h.2.2.2;rw [HBL.out] at this;exact this⟩)
   have HT:=Lib.hid (show St w0 w2 (row D 5 (u8s (List.replicate 16 0))::l) from (H2.out.drop).conv fun _ _ h=>h)
   have HBK:=Lib.hid (show (if spoil then spoilL (List.replicate 16 0) else List.replicate 16 0)=bl by rw [HBK0.out,HPE.out])
   have HLEN:=Lib.hid (show (List.replicate 16 (0:Int)).length=16 by simp)
   generalize hgx:List.replicate 16 (0:Int)=xs at *
   clear hgx
   obtain ⟨wX,hwX⟩:∃v,v=w2:=⟨_,rfl⟩
   rw [←hwX] at HT ⊢
   clear hwX
   by_cases g0:no≥0
   ·by_cases g1:no < 20
    ·have g2:¬16*no < (n:Int):=fun h=>hin ⟨g0,g1,h⟩
     obtain ⟨q,rfl⟩:∃q:Nat,no=q:=⟨no.toNat,by omega⟩
     obtain ⟨f,hf⟩:∃f,f=16*q:=⟨_,rfl⟩
     have W1:IntKind.i64.wrap ((q:Int)*16)=(f:Int):=by rw [IntWalk.i64_in _ (by omega)];omega
     have k1:¬(f:Int) < (n:Int):=by omega
     clear g2 hf hin
     have r:=HT.out.row.1
     have lD:=r.lt
     have fz:wX.frozen? ⟨D,3,none⟩=false:=r.frozen 3
     obtain ⟨x3,hx3⟩:∃x,xs[3]?=some x:=⟨_,List.getElem?_eq_getElem (by rw [HLEN.out];omega)⟩
     have cD:wX.cell? ⟨D,3,none⟩=some (.int .u8 x3):=by rw [r.cell 3];simp [u8s,hx3]
     have HX3:=Lib.hid hx3
     clear r hx3
     cases spoil with
     | false =>
       go_wp2_with (fail)
       go_ret
       exact ⟨D,rfl,by rw [←HBK.out];exact HT.out⟩
     | true =>
       go_wp2_with (fail)
       go_ret
       refine ⟨D,rfl,?_⟩
       have h:=HT.out.set 3 (.int .u8 (Go.bits .xor .u8 x3 64))
       rw [u8s_set] at h
       rw [←HBK.out,spoilL,List.getD_eq_getElem?_getD,HX3.out]
       exact h
    ·clear hin
     have r:=HT.out.row.1
     have lD:=r.lt
     have fz:wX.frozen? ⟨D,3,none⟩=false:=r.frozen 3
     obtain ⟨x3,hx3⟩:∃x,xs[3]?=some x:=⟨_,List.getElem?_eq_getElem (by rw [HLEN.out];omega)⟩
     have cD:wX.cell? ⟨D,3,none⟩=some (.int .u8 x3):=by rw [r.cell 3];simp [u8s,hx3]
     have HX3:=Lib.hid hx3
     clear r hx3
     cases spoil with
     | false =>
       go_wp2_with (fail)
       go_ret
       exact ⟨D,rfl,by rw [←HBK.out];exact HT.out⟩
     | true =>
       go_wp2_with (fail)
       go_ret
       refine ⟨D,rfl,?_⟩
       have h:=HT.out.set 3 (.int .u8 (Go.bits .xor .u8 x3 64))
       rw [u8s_set] at h
       rw [←HBK.out,spoilL,List.getD_eq_getElem?_getD,HX3.out]
       exact h
   ·clear hin
    have r:=HT.out.row.1
    have lD:=r.lt
    have fz:wX.frozen? ⟨D,3,none⟩=false:=r.frozen 3
    obtain ⟨x3,hx3⟩:∃x,xs[3]?=some x:=⟨_,List.getElem?_eq_getElem (by rw [HLEN.out];omega)⟩
    have cD:wX.cell? ⟨D,3,none⟩=some (.int .u8 x3):=by rw [r.cell 3];simp [u8s,hx3]
    have HX3:=Lib.hid hx3
    clear r hx3
    cases spoil with
    | false =>
      go_wp2_with (fail)
      go_ret
      exact ⟨D,rfl,by rw [←HBK.out];exact HT.out⟩
    | true =>
      go_wp2_with (fail)
      go_ret
      refine ⟨D,rfl,?_⟩
      have h:=HT.out.set 3 (.int .u8 (Go.bits .xor .u8 x3 64))
      rw [u8s_set] at h
      rw [←HBK.out,spoilL,List.getD_eq_getElem?_getD,HX3.out]
      exact h
 ·go_wp2_with (fail)
  refine (HPN.out _ hr).mono ?_
  rintro e wX ⟨rfl,hb⟩
  have HPE:=Lib.hid (show pb=List.replicate 16 0 from HPB2.out fun h=>hr h.1)
  have HT:=Lib.hid (show St w0 wX (row D 5 (u8s (List.replicate 16 0))::l) from ((((H1.out.below hb).pick 1 rfl).drop)).conv fun _ _ h=>h)
  have HBK:=Lib.hid (show (if spoil then spoilL (List.replicate 16 0) else List.replicate 16 0)=bl by rw [HBK0.out,HPE.out])
  have HLEN:=Lib.hid (show (List.replicate 16 (0:Int)).length=16 by simp)
  generalize hgx:List.replicate 16 (0:Int)=xs at *
  clear hgx t0 t1 t2 t3 t4 t5 t6 t7 lZ hb
  have r:=HT.out.row.1
  have lD:=r.lt
  have fz:wX.frozen? ⟨D,3,none⟩=false:=r.frozen 3
  obtain ⟨x3,hx3⟩:∃x,xs[3]?=some x:=⟨_,List.getElem?_eq_getElem (by rw [HLEN.out];omega)⟩
  have cD:wX.cell? ⟨D,3,none⟩=some (.int .u8 x3):=by rw [r.cell 3];simp [u8s,hx3]
  have HX3:=Lib.hid hx3
  clear r hx3
  cases spoil with
  | false =>
    go_wp2_with (fail)
    go_ret
    exact ⟨D,rfl,by rw [←HBK.out];exact HT.out⟩
  | true =>
    go_wp2_with (fail)
    go_ret
    refine ⟨D,rfl,?_⟩
    have h:=HT.out.set 3 (.int .u8 (Go.bits .xor .u8 x3 64))
    rw [u8s_set] at h
    rw [←HBK.out,spoilL,List.getD_eq_getElem?_getD,HX3.out]
    exact h
end store
namespace store


open Go.RowKit Go.Deep base obj mem sep plan disk record commit stage image tab compat chain crc
def exI:Img:=⟨0,1,0,1,1,0,0,[0]⟩
def exJ:Img:=⟨1,1,0,1,1,0,0,[0]⟩
def exK:Img:=⟨0,2,0,1,1,0,0,[0]⟩
def exT:Tab:=⟨4,[⟨4,4,0⟩,⟨4,4,0⟩],[⟨0,0,1⟩],[],2⟩
def Img.row (i:Img) (K:Option Addr×Nat):List Value:=[.int .i64 i.part,.int .i64 i.version,.int .i64 i.hard,.int .i64 i.mem,.int .i64 i.fuel,.int .i64 i.sends,.int .i64 i.receives,.slice K.1 i.code.length K.2]
theorem example_at {w0 w:World} {l:List Asn} (h:St w0 w l):Calls Tryz.prog 41 #[] w fun e w'=>∃gP gW gI,e=.returned (.agg #[.int .i64 4,.slice (some ⟨gP,0,none⟩) 2 2,.slice (some ⟨gW,0,none⟩) 1 1,.slice none 0 0,.int .i64 2,.slice (some ⟨gI,0,none⟩) 3 3])∧∃g2,St w0 w' (row gI 26 [.int .i64 0,.int .i64 1,.int .i64 0,.int .i64 1,.int .i64 1,.int .i64 0,.int .i64 0,.slice (some ⟨g2,0,none⟩) 1 1,.int .i64 1,.int .i64 1,.int .i64 0,.int .i64 1,.int .i64 1,.int .i64 0,.int .i64 0,.slice (some ⟨g2,0,none⟩) 1 1,.int .i64 0,.int .i64 2,.int .i64 0,.int .i64 1,.int .i64 1,.int .i64 0,.int .i64 0,.slice (some ⟨g2,0,none⟩) 1 1]::row gW 150 [.int .i64 0,.int .i64 0,.int .i64 1]::row gP 147 [.int .i64 4,.int .i64 4,.int .i64 0,.int .i64 4,.int .i64 4,.int .i64 0]::row g2 5 [.int .u8 0]::l):=by
 have H:=Lib.hid h
 clear h
 obtain ⟨g0,hg0⟩:∃g,g=w.heap.size:=⟨_,rfl⟩
 obtain ⟨g1,hg1⟩:∃g,g=g0+1:=⟨_,rfl⟩
 obtain ⟨g2,hg2⟩:∃g,g=g1+1:=⟨_,rfl⟩
 obtain ⟨g3,hg3⟩:∃g,g=g2+1:=⟨_,rfl⟩
 obtain ⟨wd,hwd⟩:∃wd,wd=(((w.alloc (.cells #[.int .i64 0,.slice none 0 0,.slice none 0 0,.slice none 0 0,.int .i64 0,.slice none 0 0] 49)).alloc (.cells #[.int .i64 4,.int .i64 4,.int .i64 0] 147)).alloc (.cells #[.int .u8 0] 5)).alloc (.cells #[.int .i64 0,.int .i64 1,.int .i64 0,.int .i64 1,.int .i64 1,.int .i64 0,.int .i64 0,.slice (some ⟨g2,0,none⟩) 1 1] 26):=⟨_,rfl⟩
 have HD:=Lib.hid (show St w0 wd (row g3 26 [.int .i64 0,.int .i64 1,.int .i64 0,.int .i64 1,.int .i64 1,.int .i64 0,.int .i64 0,.slice (some ⟨g2,0,none⟩) 1 1]::row g2 5 [.int .u8 0]::row g1 147 [.int .i64 4,.int .i64 4,.int .i64 0]::row g0 49 [.int .i64 0,.slice none 0 0,.slice none 0 0,.slice none 0 0,.int .i64 0,.slice none 0 0]::l) by
  have h:=(((H.out.new 49 #[.int .i64 0,.slice none 0 0,.slice none 0 0,.slice none 0 0,.int .i64 0,.slice none 0 0]).new 147 #[.int .i64 4,.int .i64 4,.int .i64 0]).new 5 #[.int .u8 0]).new 26 #[.int .i64 0,.int .i64 1,.int .i64 0,.int .i64 1,.int .i64 1,.int .i64 0,.int .i64 0,.slice (some ⟨g2,0,none⟩) 1 1]
  rw [←hwd] at h
  simp only [World.size_alloc,←hg0,←hg1,←hg2,←hg3] at h
  exact h)
 have HWD:=Lib.hid hwd;have HG0:=Lib.hid hg0;have HG1:=Lib.hid hg1;have HG2:=Lib.hid hg2;have HG3:=Lib.hid hg3
 clear hwd hg0 hg1 hg2 hg3
 go_enter Tryz.func41,Tryz.ntmps41
 go_upto_region 3 with fail
 rw [←HG0.out,←HG1.out,←HG2.out,←HG3.out,←HWD.out]
 go_cut [3,4] (fun s3 s4 wc=>∃g4 g5,s3=.pointer (some ⟨g4,0,none⟩)∧s4=.pointer (some ⟨g5,0,none⟩)∧St w0 wc (row g5 26 [.int .i64 0,.int .i64 1,.int .i64 0,.int .i64 1,.int .i64 1,.int .i64 0,.int .i64 0,.slice (some ⟨g2,0,none⟩) 1 1]::row g4 26 [.int .i64 0,.int .i64 1,.int .i64 0,.int .i64 1,.int .i64 1,.int .i64 0,.int .i64 0,.slice (some ⟨g2,0,none⟩) 1 1]::row g3 26 [.int .i64 0,.int .i64 1,.int .i64 0,.int .i64 1,.int .i64 1,.int .i64 0,.int .i64 0,.slice (some ⟨g2,0,none⟩) 1 1]::row g2 5 [.int .u8 0]::row g1 147 [.int .i64 4,.int .i64 4,.int .i64 0]::row g0 49 [.int .i64 0,.slice none 0 0,.slice none 0 0,.slice none 0 0,.int .i64 0,.slice none 0 0]::l))
 case first =>
  have r3:=HD.out.row.1
  have t0:=r3.cell 0;have t1:=r3.cell 1;have t2:=r3.cell 2;have t3:=r3.cell 3;have t4:=r3.cell 4;have t5:=r3.cell 5;have t6:=r3.cell 6;have t7:=r3.cell 7;have l3:=r3.lt
  clear r3
  have HN:=Lib.hid (show St w0 ((wd.alloc (.cells #[.int .i64 0,.int .i64 1,.int .i64 0,.int .i64 1,.int .i64 1,.int .i64 0,.int .i64 0,.slice (some ⟨g2,0,none⟩) 1 1] 26)).alloc (.cells #[.int .i64 0,.int .i64 1,.int .i64 0,.int .i64 1,.int .i64 1,.int .i64 0,.int .i64 0,.slice (some ⟨g2,0,none⟩) 1 1] 26)).drew (row (wd.heap.size+1) 26 [.int .i64 0,.int .i64 1,.int .i64 0,.int .i64 1,.int .i64 1,.int .i64 0,.int .i64 0,.slice (some ⟨g2,0,none⟩) 1 1]::row wd.heap.size 26 [.int .i64 0,.int .i64 1,.int .i64 0,.int .i64 1,.int .i64 1,.int .i64 0,.int .i64 0,.slice (some ⟨g2,0,none⟩) 1 1]::row g3 26 [.int .i64 0,.int .i64 1,.int .i64 0,.int .i64 1,.int .i64 1,.int .i64 0,.int .i64 0,.slice (some ⟨g2,0,none⟩) 1 1]::row g2 5 [.int .u8 0]::row g1 147 [.int .i64 4,.int .i64 4,.int .i64 0]::row g0 49 [.int .i64 0,.slice none 0 0,.slice none 0 0,.slice none 0 0,.int .i64 0,.slice none 0 0]::l) by
   have h:=(((HD.out.new 26 #[.int .i64 0,.int .i64 1,.int .i64 0,.int .i64 1,.int .i64 1,.int .i64 0,.int .i64 0,.slice (some ⟨g2,0,none⟩) 1 1]).new 26 #[.int .i64 0,.int .i64 1,.int .i64 0,.int .i64 1,.int .i64 1,.int .i64 0,.int .i64 0,.slice (some ⟨g2,0,none⟩) 1 1])).drew
   simp only [World.size_alloc] at h
   exact h)
  go_region
  ·go_wp2_with (fail)
   go_meet
   exact ⟨_,_,rfl,rfl,HN.out⟩
  ·go_wp2_with (fail)
   go_meet
   exact ⟨_,_,rfl,rfl,HN.out.swap⟩
 case rest =>
 obtain ⟨g4,g5,rfl,rfl,hst⟩:=hcut
 obtain ⟨w6,hw⟩:∃x,x=wc:=⟨_,rfl⟩
 subst hw
 have HST:=Lib.hid hst
 have r5:=hst.row.1
 have r4:=(hst.pick 1 rfl).row.1
 have f5:=r5.frozen 1;have f4:=r4.frozen 0
 have c5:=r5.cell 1;have c4:=r4.cell 0;have l5:=r5.lt;have l4:=r4.lt
 clear hst r5 r4
 go_upto_region 5 with fail
 have h7:=(((HST.out.pick 1 rfl).set 0 (.int .i64 1)).swap).set 1 (.int .i64 2)
 obtain ⟨w7,hw7⟩:∃x,x=(w6.setCell ⟨g4,0,none⟩ (.int .i64 1)).setCell ⟨g5,1,none⟩ (.int .i64 2):=⟨_,rfl⟩
 rw [←hw7] at h7 ⊢
 have H7:=Lib.hid h7
 have r5:=h7.row.1
 have r4:=(h7.pick 1 rfl).row.1
 have r3:=(h7.pick 2 rfl).row.1
 have r1:=(h7.pick 4 rfl).row.1
 clear f5 f4 c5 c4 l5 l4 hw7 h7
 simp only [List.set_cons_zero,List.set_cons_succ] at r5 r4
 have x0:=r5.cell 0;have x1:=r5.cell 1;have x2:=r5.cell 2;have x3:=r5.cell 3;have x4:=r5.cell 4;have x5:=r5.cell 5;have x6:=r5.cell 6;have x7:=r5.cell 7;have l5:=r5.lt
 have y0:=r4.cell 0;have y1:=r4.cell 1;have y2:=r4.cell 2;have y3:=r4.cell 3;have y4:=r4.cell 4;have y5:=r4.cell 5;have y6:=r4.cell 6;have y7:=r4.cell 7;have l4:=r4.lt
 have z0:=r3.cell 0;have z1:=r3.cell 1;have z2:=r3.cell 2;have z3:=r3.cell 3;have z4:=r3.cell 4;have z5:=r3.cell 5;have z6:=r3.cell 6;have z7:=r3.cell 7;have l3:=r3.lt
 have p0:=r1.cell 0;have p1:=r1.cell 1;have p2:=r1.cell 2;have l1:=r1.lt
 clear r5 r4 r3 r1
 obtain ⟨gP,hgP⟩:∃g,g=w7.heap.size:=⟨_,rfl⟩
 obtain ⟨gW,hgW⟩:∃g,g=gP+1:=⟨_,rfl⟩
 obtain ⟨gI,hgI⟩:∃g,g=gW+1:=⟨_,rfl⟩
 have HX:=Lib.hid (show St w0 (((w7.alloc (.cells #[.int .i64 4,.int .i64 4,.int .i64 0,.int .i64 4,.int .i64 4,.int .i64 0] 147)).alloc (.cells #[.int .i64 0,.int .i64 0,.int .i64 1] 150)).alloc (.cells #[.int .i64 0,.int .i64 1,.int .i64 0,.int .i64 1,.int .i64 1,.int .i64 0,.int .i64 0,.slice (some ⟨g2,0,none⟩) 1 1,.int .i64 1,.int .i64 1,.int .i64 0,.int .i64 1,.int .i64 1,.int .i64 0,.int .i64 0,.slice (some ⟨g2,0,none⟩) 1 1,.int .i64 0,.int .i64 2,.int .i64 0,.int .i64 1,.int .i64 1,.int .i64 0,.int .i64 0,.slice (some ⟨g2,0,none⟩) 1 1] 26)) (row gI 26 [.int .i64 0,.int .i64 1,.int .i64 0,.int .i64 1,.int .i64 1,.int .i64 0,.int .i64 0,.slice (some ⟨g2,0,none⟩) 1 1,.int .i64 1,.int .i64 1,.int .i64 0,.int .i64 1,.int .i64 1,.int .i64 0,.int .i64 0,.slice (some ⟨g2,0,none⟩) 1 1,.int .i64 0,.int .i64 2,.int .i64 0,.int .i64 1,.int .i64 1,.int .i64 0,.int .i64 0,.slice (some ⟨g2,0,none⟩) 1 1]::row gW 150 [.int .i64 0,.int .i64 0,.int .i64 1]::row gP 147 [.int .i64 4,.int .i64 4,.int .i64 0,.int .i64 4,.int .i64 4,.int .i64 0]::_) by
  have h:=((H7.out.new 147 #[.int .i64 4,.int .i64 4,.int .i64 0,.int .i64 4,.int .i64 4,.int .i64 0]).new 150 #[.int .i64 0,.int .i64 0,.int .i64 1]).new 26 #[.int .i64 0,.int .i64 1,.int .i64 0,.int .i64 1,.int .i64 1,.int .i64 0,.int .i64 0,.slice (some ⟨g2,0,none⟩) 1 1,.int .i64 1,.int .i64 1,.int .i64 0,.int .i64 1,.int .i64 1,.int .i64 0,.int .i64 0,.slice (some ⟨g2,0,none⟩) 1 1,.int .i64 0,.int .i64 2,.int .i64 0,.int .i64 1,.int .i64 1,.int .i64 0,.int .i64 0,.slice (some ⟨g2,0,none⟩) 1 1]
  simp only [World.size_alloc,←hgP,←hgW,←hgI] at h
  exact h)
 have HR:=Lib.hid (HX.out.pick 8 rfl).row.1
 have MS:=Lib.hid (show (Tryz.prog.info? 49).map (·.size)=some (#[.int .i64 4,.slice (some ⟨gP,0,none⟩) 2 2,.slice (some ⟨gW,0,none⟩) 1 1,.slice none 0 0,.int .i64 2,.slice (some ⟨gI,0,none⟩) 3 3]:Array Value).size from by kernel_rfl)
 have HS:=Lib.hid ((HX.out.pick 8 rfl).setRow [.int .i64 4,.slice (some ⟨gP,0,none⟩) 2 2,.slice (some ⟨gW,0,none⟩) 1 1,.slice none 0 0,.int .i64 2,.slice (some ⟨gI,0,none⟩) 3 3])
 have HGP:=Lib.hid hgP;have HGW:=Lib.hid hgW;have HGI:=Lib.hid hgI
 clear hgP hgW hgI
 go_wp2_with ((rw [←HGP.out,←HGW.out,←HGI.out]);with_reducible refine wpList_putR rfl 49 (.tmp 0) (.tmp 22) rfl g0 0 #[.int .i64 4,.slice (some ⟨gP,0,none⟩) 2 2,.slice (some ⟨gW,0,none⟩) 1 1,.slice none 0 0,.int .i64 2,.slice (some ⟨gI,0,none⟩) 3 3] rfl rfl HR.out MS.out (Nat.le_refl _) (by simp [Value.oneCell']) [.int .i64 4,.slice (some ⟨gP,0,none⟩) 2 2,.slice (some ⟨gW,0,none⟩) 1 1,.slice none 0 0,.int .i64 2,.slice (some ⟨gI,0,none⟩) 3 3] rfl ?_)
 refine bodyPost_ret (results_cell_row rfl _ _ g0 _ _ _ _ rfl HS.out.row.1 Tryz.underlying49 rfl (by kernel_rfl)) rfl ?_
 refine ⟨gP,gW,gI,rfl,g2,?_⟩
 have h1:=HS.out.drop
 have h2:=(h1.pick 7 rfl).drop
 have h3:=(h2.pick 3 rfl).drop
 have h4:=(h3.pick 3 rfl).drop
 have h5:=(h4.pick 3 rfl).drop
 exact h5
end store
namespace store


open Go.RowKit Go.Deep base obj mem sep plan disk record commit stage image tab compat chain crc
def exA (gP gW:Nat):TabA:=⟨some ⟨gP,0,none⟩,2,some ⟨gW,0,none⟩,1,none,0⟩
def exL:List Img:=[exI,exJ,exK]
def exIs (g2:Nat):List Value:=[.int .i64 0,.int .i64 1,.int .i64 0,.int .i64 1,.int .i64 1,.int .i64 0,.int .i64 0,.slice (some ⟨g2,0,none⟩) 1 1,.int .i64 1,.int .i64 1,.int .i64 0,.int .i64 1,.int .i64 1,.int .i64 0,.int .i64 0,.slice (some ⟨g2,0,none⟩) 1 1,.int .i64 0,.int .i64 2,.int .i64 0,.int .i64 1,.int .i64 1,.int .i64 0,.int .i64 0,.slice (some ⟨g2,0,none⟩) 1 1]
def exB (gP gW gI g2:Nat):Asn:=lst [row gI 26 (exIs g2),row gW 150 [.int .i64 0,.int .i64 0,.int .i64 1],row gP 147 [.int .i64 4,.int .i64 4,.int .i64 0,.int .i64 4,.int .i64 4,.int .i64 0],row g2 5 [.int .u8 0]]
theorem exB_shut {w0 w:World} {l:List Asn} {gP gW gI g2:Nat} (h:St w0 w (row gI 26 (exIs g2)::row gW 150 [.int .i64 0,.int .i64 0,.int .i64 1]::row gP 147 [.int .i64 4,.int .i64 4,.int .i64 0,.int .i64 4,.int .i64 4,.int .i64 0]::row g2 5 [.int .u8 0]::l)):St w0 w (exB gP gW gI g2::l) :=
 St.tolst (L:=[row gI 26 (exIs g2),row gW 150 [.int .i64 0,.int .i64 0,.int .i64 1],row gP 147 [.int .i64 4,.int .i64 4,.int .i64 0,.int .i64 4,.int .i64 4,.int .i64 0],row g2 5 [.int .u8 0]]) h
theorem exB_open {w0 w:World} {l:List Asn} {gP gW gI g2:Nat} (h:St w0 w (exB gP gW gI g2::l)):St w0 w (row gI 26 (exIs g2)::row gW 150 [.int .i64 0,.int .i64 0,.int .i64 1]::row gP 147 [.int .i64 4,.int .i64 4,.int .i64 0,.int .i64 4,.int .i64 4,.int .i64 0]::row g2 5 [.int .u8 0]::l):=h.unlst
theorem ex_tab {w0 w:World} {l:List Asn} {gP gW gI g2:Nat} (h:St w0 w (exB gP gW gI g2::l)):TabW w (exA gP gW) exT:=by
 have h1:=exB_open h
 have hW:=(h1.pick 1 rfl).row.1
 have hP:=(h1.pick 2 rfl).row.1
 exact ⟨hP.sl (size:=3) (n:=2) (o:=0) hP.lt rfl rfl,hW.sl (size:=3) (n:=1) (o:=0) hW.lt rfl rfl,Sl.nil_ _ _ _,rfl,rfl,rfl,by show 2≤maxLen;unfold maxLen;omega,by show 1≤maxLen;unfold maxLen;omega,Nat.zero_le _⟩
theorem ex_sl {w0 w:World} {l:List Asn} {gP gW gI g2:Nat} (h:St w0 w (exB gP gW gI g2::l)):Sl w w.heap.size 1 (some ⟨g2,0,none⟩) 1 (u8s [0]):=by
 have h2:=((exB_open h).pick 3 rfl).row.1
 exact h2.sl (size:=1) (n:=1) (o:=0) h2.lt rfl rfl
theorem ex_imgs (w0:World) (gP gW gI g2 n:Nat) (hn:n≤3):ImgsG w0 (exB gP gW gI g2) (exL.take n) (some ⟨gI,0,none⟩) n (fun _=>(some ⟨g2,0,none⟩,1)):=by
 intro w l h
 have hI:=(exB_open h).row.1
 have hs:=ex_sl h
 have hc:=fun k=>hI.cell k
 refine ⟨by simp [exL];omega,?_,fun k hk=>⟨gI,0,rfl,hI.lt,?_⟩⟩
 ·intro i hi
  have:i∈exL:=List.mem_of_mem_take hi
  simp only [exL,List.mem_cons,List.not_mem_nil,or_false] at this
  rcases this with rfl|rfl|rfl<;>(intro z hz;simp [exI,exJ,exK] at hz;subst hz;omega)
 ·have hg:(exL.take n).getD k Img.none=exL.getD k Img.none:=by
   simp only [List.getD_eq_getElem?_getD,List.getElem?_take,if_pos hk]
  rw [hg]
  rcases (by omega:k=0∨k=1∨k=2) with rfl|rfl|rfl
  ·exact ⟨hc 0,hc 1,hc 2,hc 3,hc 4,hc 5,hc 6,hc 7,Nat.le_refl _,hs⟩
  ·exact ⟨hc 8,hc 9,hc 10,hc 11,hc 12,hc 13,hc 14,hc 15,Nat.le_refl _,hs⟩
  ·exact ⟨hc 16,hc 17,hc 18,hc 19,hc 20,hc 21,hc 22,hc 23,Nat.le_refl _,hs⟩
end store
end Go.Proofs.YtdldkkoplgkloaaGreat
