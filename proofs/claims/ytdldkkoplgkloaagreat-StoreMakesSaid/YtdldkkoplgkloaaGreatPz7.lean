/-
  PROVED HERE: lemmas and contracts that the law's proof leans on (texts put together: RefSha2, MemMore, RefSha3).
  CONDITIONS: each names its own.
-/
import Derived.Maps.AppendAt
import Derived.Test.YtdldkkoplgkloaaGreatPz1
import Derived.Test.YtdldkkoplgkloaaGreatPz6
namespace Go.Proofs.YtdldkkoplgkloaaGreat
set_option linter.unusedVariables false
set_option linter.unusedSimpArgs false
set_option maxRecDepth 100000
set_option maxHeartbeats 32000000
namespace sha


open Go.RowKit Go.Deep base obj mem sep crc plan chain
theorem nsl_more {w w':World} {A:Option Addr} {n:Nat} {xs:List Value} (h:Sl w w.heap.size 1 A n xs) (hb:Below w.heap.size w w'):Sl w' w'.heap.size 1 A n xs:=(h.below hb).more hb.size
theorem fits_at (w:World) (m p d:Nat) (hm:m < 65536 ^ 3) (hp:p≤1000) (d1:1≤d) (d3:d≤3) :
  Calls Tryz.prog 216 #[.int .i64 m,.int .i64 p,.int .i64 d] w fun e w'=>e=.returned (.bool (fitsL m p d))∧Below w.heap.size w w':=by
 have HM:=Lib.hid hm
 clear hm
 go_enter Tryz.func216,Tryz.ntmps216
 go_wp2_with (fail)
 have HB0:=Lib.hid ((Below.refl w.heap.size w).alloc (Nat.le_refl _) (.cells #[.int .i64 1] 3))
 have HS0:=Lib.hid (sl_new (w:=w) (e:=3) (n:=1) (size:=1) (cs:=#[.int .i64 1]) rfl)
 go_loopw [8,7] (fun i v wr=>∃(k:Nat) (A:Option Addr) (c:Nat),k≤d∧i=.int .i64 k∧v=.slice A (4*k+1) c∧Sl wr wr.heap.size 1 A (4*k+1) (nats (powL m k))∧Below w.heap.size w wr) (fun i _ _=>d-(intOf i).toNat)
 case atStart=>exact ⟨0,_,_,by omega,rfl,rfl,HS0.out.more (by show w.heap.size+1≤(w.heap.push _).size;rw [Array.size_push];omega),HB0.out⟩
 case round =>
  obtain ⟨k,A,c,hk,rfl,rfl,hs,hb⟩:=hrel
  have HS:=Lib.hid hs;have HB:=Lib.hid hb
  clear hs hb
  by_cases hlt:k < d
  ·have hlt':(k:Int) < (d:Int):=by omega
   have HT:=Lib.hid (times_at wr A c (powL m k) (4*k+1) (pow_len m k) (by omega) (pow_all HM.out k) m HM.out HS.out)
   go_wp2_with (fail)
   refine HT.out.mono ?_;rintro e w2 ⟨b,rfl,hbw,hr,hb2⟩
   have hsl:Sl w2 w2.heap.size 1 (some ⟨b,0,none⟩) (4*(k+1)+1) (nats (powL m (k+1))):=hr.sl hr.lt (by rw [List.drop_zero,List.take_of_length_le (by rw [List.length_map];have:=pow_len m (k+1);show (timesL (powL m k) m).length≤_;rw [times_len,pow_len];omega)];rfl) (by rw [List.length_map,pow_len];omega)
   have HSL:=Lib.hid hsl;have HB2:=Lib.hid (HB.out.trans (hb2.mono HB.out.size))
   clear hbw hr hb2 hsl
   go_wp2_with (fail)
   go_roundw
   case rel=>exact ⟨k+1,_,_,by omega,by go_num,by congr 1,HSL.out,HB2.out⟩
   case measure=>simp [intOf];omega
  ·have hlt':¬(k:Int) < (d:Int):=by omega
   obtain rfl:k=d:=by omega
   have hxl:=pow_len m k
   have hxa:=pow_all HM.out k
   have hev:=fits_even m p k
   have hun:=fits_under m p k
   have hov:=fun i hi h=>fits_over m p k i hi h
   generalize powL m k=x at *
   have hst:=top_step x
   have hte:=top_end x (4*k+1) (by omega)
   have HXL:=Lib.hid hxl;have HXA:=Lib.hid hxa;have HEV:=Lib.hid hev;have HUN:=Lib.hid hun;have HOV:=Lib.hid hov;have HST:=Lib.hid hst;have HTE:=Lib.hid hte
   clear hxl hxa hev hun hov hst hte
   go_wp2_with (fail)
   go_loopw [10,9] (fun i v wx=>∃q:Nat,2*k≤q∧q≤4*k+1∧i=.int .i64 ((q:Int)-1)∧v=.int .i64 (topOf x q:Nat)∧topOf x q≤p∧wx=wr) (fun i _ _=>(intOf i+1).toNat)
   case atStart=>exact ⟨4*k+1,by omega,by omega,by congr 1;omega,by rw [HTE.out];rfl,by rw [HTE.out];omega,rfl⟩
   case round =>
    obtain ⟨q,hq1,hq2,rfl,rfl,htp,rfl⟩:=hrel
    by_cases hlq:2*k < q
    ·obtain ⟨r,rfl⟩:∃r,q=r+1:=⟨q-1,by omega⟩
     have hr1:((r+1:Nat):Int)-1=(r:Int):=by omega
     rw [hr1]
     clear hr1
     have hge:2*(k:Int)≤(r:Int):=by omega
     obtain ⟨bA,oA,rfl,hbA,cA⟩:=nsl_get HS.out HXL.out r (by omega)
     have hxr:=HXA.out.get (by omega) r
     have htr:=HST.out r (by rw [HXL.out];omega)
     have hovr:=HOV.out r (by omega)
     have r0:(0:Int)≤(r:Int):=by omega
     have r1:(r:Int) < 4*(k:Int)+1:=by omega
     generalize x.getD r 0=xr at *
     generalize topOf x (r+1)=t1 at *
     by_cases hpp:p < topOf x r
     ·have hov2:=hovr hpp
      rw [htr] at hpp
      have hpp':(p:Int) < 65536*(t1:Int)+(xr:Int):=by omega
      have HO2:=Lib.hid hov2
      clear hov2 hovr htr
      go_wp2_with (fail)
      go_ret
      exact ⟨by rw [HO2.out];rfl,HB.out⟩
     ·have htr2:topOf x r≤p:=by omega
      rw [htr] at hpp
      have hpp':¬(p:Int) < 65536*(t1:Int)+(xr:Int):=by omega
      have HTR:=Lib.hid htr;have HTR2:=Lib.hid htr2
      clear hovr htr htr2
      go_wp2_with (fail)
      go_roundw
      case rel=>exact ⟨r,by omega,by omega,rfl,by rw [HTR.out];rfl,HTR2.out,trivial⟩
      case measure=>simp [intOf]
    ·obtain rfl:q=2*k:=by omega
     have hge:¬2*(k:Int)≤((2*k:Nat):Int)-1:=by omega
     generalize hT:topOf x (2*k)=T at *
     by_cases hlp:T < p
     ·have hlp':(T:Int) < (p:Int):=by omega
      have HU:=Lib.hid (HUN.out hlp)
      go_wp2_with (fail)
      go_ret
      exact ⟨by rw [HU.out];rfl,HB.out⟩
     ·have hlp':¬(T:Int) < (p:Int):=by omega
      have HE:=Lib.hid (HEV.out (by omega))
      go_wp2_with (fail)
      go_loopw [11] (fun i wx=>∃j:Nat,j≤2*k∧i=.int .i64 j∧(x.take j).all (·==0)=true∧wx=wr) (fun i _=>2*k-(intOf i).toNat)
      case atStart=>exact ⟨0,by omega,rfl,by simp,rfl⟩
      case round =>
       obtain ⟨j,hj,rfl,hall,rfl⟩:=hrel
       by_cases hlj:j < 2*k
       ·have hlj':(j:Int) < 2*(k:Int):=by omega
        have hlj2:(j:Int) < 4*(k:Int)+1:=by omega
        obtain ⟨bA,oA,rfl,hbA,cA⟩:=nsl_get HS.out HXL.out j (by omega)
        have j0:(0:Int)≤(j:Int):=by omega
        have htk:x.take (j+1)=x.take j++[x.getD j 0]:=by
         rw [List.take_succ_eq_append_getElem (by rw [HXL.out];omega),List.getD_eq_getElem?_getD,List.getElem?_eq_getElem (by rw [HXL.out];omega)]
         rfl
        by_cases hz:x.getD j 0=0
        ·have hall2:(x.take (j+1)).all (·==0)=true:=by rw [htk,List.all_append,hall,hz];rfl
         have HA2:=Lib.hid hall2
         have hz':¬(0:Int) < ((x.getD j 0:Nat):Int):=by omega
         generalize x.getD j 0=xj at *
         clear htk hall hall2
         go_wp2_with (fail)
         go_roundw
         case rel=>exact ⟨j+1,by omega,by go_num,HA2.out,trivial⟩
         case measure=>simp [intOf];omega
        ·have hz':(0:Int) < ((x.getD j 0:Nat):Int):=by omega
         have hno:(x.take (2*k)).all (·==0)=false:=by
          rw [List.all_eq_false]
          refine ⟨x.getD j 0,?_,by simpa using hz⟩
          rw [List.getD_eq_getElem?_getD,List.getElem?_eq_getElem (by rw [HXL.out];omega)]
          rw [List.mem_take_iff_getElem]
          exact ⟨j,by rw [HXL.out];omega,rfl⟩
         have HNO:=Lib.hid hno
         generalize x.getD j 0=xj at *
         clear htk hall hno
         go_wp2_with (fail)
         go_ret
         exact ⟨by rw [HE.out,HNO.out];rfl,HB.out⟩
       ·obtain rfl:j=2*k:=by omega
        have hlj':¬((2*k:Nat):Int) < 2*(k:Int):=by omega
        have HALL:=Lib.hid hall
        clear hall
        go_wp2_with (fail)
        go_ret
        exact ⟨by rw [HE.out,HALL.out];rfl,HB.out⟩
theorem root_at (w:World) (p d:Nat) (hp:p≤1000) (d1:1≤d) (d3:d≤3):Calls Tryz.prog 204 #[.int .i64 p,.int .i64 d] w fun e w'=>e=.returned (.int .i64 (rootL p d:Nat))∧Below w.heap.size w w':=by
 go_enter Tryz.func204,Tryz.ntmps204
 go_wp2_with (fail)
 go_loopw [5,6] (fun l h wr=>∃(f low high:Nat),low≤high∧high≤34359738368∧high-low≤2 ^ f∧l=.int .i64 low∧h=.int .i64 high∧rootL p d=rootAt f low high p d∧Below w.heap.size w wr) (fun l h _=>(intOf h-intOf l).toNat)
 case atStart=>exact ⟨64,0,34359738368,by omega,by omega,by decide,rfl,rfl,rfl,Below.refl _ _⟩
 case round =>
  obtain ⟨f,low,high,h1,h2,h3,rfl,rfl,h4,hb⟩:=hrel
  have HB:=Lib.hid hb
  clear hb
  by_cases hgt:high-low > 1
  ·have hgt':(1:Int) < (high:Int)-(low:Int):=by omega
   obtain ⟨f,rfl⟩:∃f',f=f'+1:=⟨f-1,by
    rcases Nat.eq_zero_or_pos f with h|h
    ·subst h;simp at h3;omega
    ·omega⟩
   rw [rootAt_step f low high p d hgt] at h4
   have hmid:(((low+high) / 2:Nat):Int)=((low:Int)+(high:Int)) / 2:=by omega
   have HF:=Lib.hid (fun w=>fits_at w ((low+high) / 2) p d (by omega) hp d1 d3)
   have hm1:low≤(low+high) / 2∧(low+high) / 2≤high∧low < (low+high) / 2∧(low+high) / 2 < high:=by omega
   have hpw:high-(low+high) / 2≤2 ^ f∧(low+high) / 2-low≤2 ^ f:=by
    rw [Nat.pow_succ] at h3
    omega
   have s0:(0:Int)≤(low:Int)+(high:Int):=by omega
   generalize hmm:(low+high) / 2=m at *
   have HH4:=Lib.hid h4;have HMID:=Lib.hid hmid;have HPW:=Lib.hid hpw
   clear h4 hpw hmid hmm h3
   go_wp2_with (fail)
   rw [←HMID.out]
   refine (HF.out _).mono ?_;rintro e w2 ⟨rfl,hb2⟩
   have HB2:=Lib.hid (HB.out.trans (hb2.mono HB.out.size))
   clear hb2
   cases hfl:fitsL m p d
   ·have hh4:=HH4.out
    rw [hfl,if_neg (by decide)] at hh4
    have HH5:=Lib.hid hh4
    clear hh4 hfl
    go_wp2_with (fail)
    go_roundw
    case rel=>exact ⟨f,low,m,by omega,by omega,HPW.out.2,rfl,rfl,HH5.out,HB2.out⟩
    case measure=>simp [intOf];omega
   ·have hh4:=HH4.out
    rw [hfl,if_pos rfl] at hh4
    have HH5:=Lib.hid hh4
    clear hh4 hfl
    go_wp2_with (fail)
    go_roundw
    case rel=>exact ⟨f,m,high,by omega,by omega,HPW.out.1,rfl,rfl,HH5.out,HB2.out⟩
    case measure=>simp [intOf];omega
  ·have hgt':¬(1:Int) < (high:Int)-(low:Int):=by omega
   rw [rootAt_end f low high p d hgt] at h4
   have HH4:=Lib.hid h4
   clear h4 h3
   go_wp2_with (fail)
   refine (mod_at _ low).mono ?_;rintro e w2 ⟨rfl,rfl⟩
   go_wp2_with (fail)
   go_ret
   exact ⟨by rw [HH4.out];rfl,HB.out⟩
theorem slI:SlT Tryz.prog 93 3 1 8:=by
 obtain ⟨i0,hi,hz0,hz1,hz2⟩:=info_parts infoI
 exact ⟨Tryz.underlying93,⟨i0,_,hi,hz0,hz1,hz2,rfl⟩,by decide⟩
end sha
namespace mem

open Go.RowKit base obj
theorem app_at {P:Program} {t e size bytes:Nat} (T:SlT P t e size bytes) {ops:Array Oper} {rest:List Oper} {o:Oper} {a:Act} {Q:Exit→Act→World→Prop} {w:World} (hgd:o.guard=none) (s x:Operand)
  (ho:o.op=.call { callee:=.builtin .append,args:=#[s,x],argTypes:=#[t,t] })
  {base:Nat} {v:Value} {n:Nat} {xs:List Value} (hown:w.ownsRow base e size v n xs) (hs:a.eval s=v) {B m c:Nat} {A:Option Addr} {ys:List Value} (hx:a.eval x=.slice A m c) (hA:A=none→c=0)
  (hr:Sl w B size A m ys) (h1:∀u∈ys,u.oneCell'=true) (hb:(n+m)*bytes≤140737488355328) (h63:n+m≤maxLen) (hbase:base≤w.heap.size)
  (h:∀v' w',w'.ownsRow base e size v' (n+m) (xs++ys)→w.grownBy w' v.ownBlock→(∀g,v'.ownBlock=some g→v.ownBlock=some g∨w.heap.size≤g)→wpList P ops Q rest (a.put o.dst v') w') :
  wpList P ops Q (o::rest) a w:=by
 obtain ⟨i,z,hi,hz,h2,h3,h4⟩:=T.hi
 rcases A with _|ad
 ·have hm:m=0:=by
   rcases Nat.eq_zero_or_pos m with h0|h0
   ·exact h0
   ·obtain ⟨b,off,h,_⟩:=hr.2 h0
    cases h
  subst hm
  obtain rfl:ys=[]:=List.eq_nil_of_length_eq_zero (by simpa using hr.1)
  rw [hA rfl] at hx
  refine wpList_append_own_none hgd s x t ho base e i size T.ht hi v n xs hs hown hx ?_
  exact h v w (by simpa using hown) (World.grownBy.refl w _) fun g hg=>.inl hg
 ·refine wpList_append_own_at _ hgd s x t ho base e i z size bytes T.ht hi hz h2 h3 h4 T.hs v n xs hs hown ad m c ys hx hr.1 ?_ h1 h63 hb hbase fun v' w' hown' hg _ hloc=>h v' w' hown' hg fun g hg2=>?_
  ·intro j u hu
   have hm:0 < m:=by
    rcases Nat.eq_zero_or_pos m with h0|h0
    ·subst h0
     have hn:ys=[]:=List.eq_nil_of_length_eq_zero (by simpa using hr.1)
     subst hn
     simp at hu
    ·exact h0
   obtain ⟨b,off,he,_,hc⟩:=hr.2 hm
   injection he with he
   subst he
   have hadd:(⟨b,off,none⟩:Addr).add j=⟨b,off+j,none⟩:=by unfold Addr.add;split<;>simp_all
   rw [hadd]
   exact hc j u hu
  ·rcases hloc with h5|h5
   ·exact .inl (by rw [←h5];exact hg2)
   ·rw [h5] at hg2
    injection hg2 with hg2
    exact .inr (by omega)
end mem
namespace sha


open Go.RowKit Go.Deep base obj mem sep crc plan chain
theorem primes_at (w:World):Calls Tryz.prog 203 #[.int .i64 64] w fun e w'=>∃v,e=.returned v∧w'.ownsRow w.heap.size 3 1 v 64 (nats primes)∧Below w.heap.size w w':=by
 go_enter Tryz.func203,Tryz.ntmps203
 go_wp2_with (fail)
 have HO0:=Lib.hid (World.ownsRow_nil w w.heap.size 3 1)
 go_loopw [3,4] (fun v i wr=>∃q:Nat,2≤q∧q < 313∧i=.int .i64 q∧wr.ownsRow w.heap.size 3 1 v (pl q).length (nats (pl q))∧Below w.heap.size w wr) (fun _ i _=>313-(intOf i).toNat)
 case atStart=>exact ⟨2,by omega,by omega,rfl,HO0.out,Below.refl _ _⟩
 case round =>
  obtain ⟨q,hq2,hq3,rfl,ho,hb⟩:=hrel
  have hpl:=pl_len q hq3
  obtain ⟨A,c,rfl,hc,hcm⟩:=own_form ho
  have HO:=Lib.hid ho;have HB:=Lib.hid hb
  clear ho hb
  by_cases hlt:(pl q).length < 64
  ·have hq4:=hpl.2.1 hlt
   have hall:=pl_all q hq4 hq2
   have hnx:=pl_next q hq4 hq2
   have hpos:=pl_pos q
   have hsl:=Sl.of_own HO.out
   generalize hL:pl q=L at *
   have hlt':((L.length:Nat):Int) < 64:=by omega
   have HALL:=Lib.hid hall;have HNX:=Lib.hid hnx;have HPOS:=Lib.hid hpos;have HSL:=Lib.hid hsl;have HL:=Lib.hid hL
   clear hall hnx hpos hsl hL hpl
   go_wp2_with (fail)
   go_loopw [6,5] (fun i b wx=>∃j:Nat,j≤L.length∧i=.int .i64 j∧b=.bool ((L.take j).all fun p=>decide (q % p≠0))∧wx=wr) (fun i _ _=>L.length-(intOf i).toNat)
   case atStart=>exact ⟨0,by omega,rfl,rfl,rfl⟩
   case round =>
    obtain ⟨j,hj,rfl,rfl,rfl⟩:=hrel
    by_cases hlj:j < L.length
    ·have hlj':(j:Int) < (L.length:Int):=by omega
     obtain ⟨bA,oA,rfl,hbA,cA⟩:=nsl_get HSL.out rfl j hlj
     have htk:(L.take (j+1)).all (fun p=>decide (q % p≠0))=((L.take j).all (fun p=>decide (q % p≠0))&&decide (q % L.getD j 0≠0)):=by
      rw [List.take_succ_eq_append_getElem hlj,List.all_append,List.getD_eq_getElem?_getD,List.getElem?_eq_getElem hlj]
      simp
     have hp:=HPOS.out (L.getD j 0) (by rw [List.getD_eq_getElem?_getD,List.getElem?_eq_getElem hlj];exact List.getElem_mem hlj)
     generalize L.getD j 0=z at *
     have j0:(0:Int)≤(j:Int):=by omega
     have z0:(0:Int) < (z:Int):=by omega
     have q0:(0:Int)≤(q:Int):=by omega
     have hrem:(q:Int) % (z:Int)=((q % z:Nat):Int):=by rw [Int.natCast_emod]
     have HTK:=Lib.hid htk;have HREM:=Lib.hid hrem
     clear htk hrem
     cases hal:(L.take j).all fun p=>decide (q % p≠0)
     ·have HAL:=Lib.hid hal
      clear hal
      go_wp2_with (fail)
      go_roundw
      case rel=>exact ⟨j+1,by omega,by go_num,by rw [HTK.out,HAL.out];rfl,trivial⟩
      case measure=>simp [intOf];omega
     ·have HAL:=Lib.hid hal
      clear hal
      go_wp2_with (fail)
      go_roundw
      case rel=>exact ⟨j+1,by omega,by go_num,by
       rw [HTK.out,HAL.out,HREM.out]
       generalize q % z=r
       by_cases hr:r=0
       ·subst hr;rfl
       ·have h2:¬(r:Int)=0:=by omega
        simp [hr,h2],trivial⟩
      case measure=>simp [intOf];omega
    ·obtain hjl:j=L.length:=by omega
     have hlj':¬(j:Int) < (L.length:Int):=by omega
     have hjj:(L.take j).all (fun p=>decide (q % p≠0))=decide (q∈primes):=by
      rw [hjl,List.take_length]
      exact HALL.out
     rw [hjj]
     by_cases hpr:q∈primes
     ·have hd:decide (q∈primes)=true:=by simpa using hpr
      rw [hd]
      have hnx2:=HNX.out
      rw [if_pos hpr] at hnx2
      have HN2:=Lib.hid hnx2
      clear hnx2 hjj hpr hd hjl
      have HSZ:=Lib.hid HB.out.size
      go_wp2_with (at_builtin;refine app_new slI rfl (.tmp 30) (.tmp 32) rfl HO.out rfl rfl rfl (by simp [Value.oneCell']) (by omega) (by unfold maxLen;omega) HSZ.out ?_;intro v2 w2 hown2 hg2;have HB2:=Lib.hid (below_own HB.out HO.out hg2 HSZ.out);have HO2:=Lib.hid hown2;clear hg2 hown2)
      go_roundw
      case rel =>
       refine ⟨q+1,by omega,by omega,by go_num,?_,HB2.out⟩
       rw [HN2.out,List.length_append,nats,List.map_append]
       exact HO2.out
      case measure=>simp [intOf];omega
     ·have hd:decide (q∈primes)=false:=by simpa using hpr
      rw [hd]
      have hnx2:=HNX.out
      rw [if_neg hpr] at hnx2
      have HN2:=Lib.hid hnx2
      clear hnx2 hjj hpr hd hjl
      go_wp2_with (fail)
      go_roundw
      case rel=>exact ⟨q+1,by omega,by omega,by go_num,by rw [HN2.out];exact HO.out,HB.out⟩
      case measure=>simp [intOf];omega
  ·have hl64:(pl q).length=64:=by omega
   have hpr:=hpl.2.2 hl64
   have hlt':¬(((pl q).length:Nat):Int) < 64:=by omega
   have HP:=Lib.hid hpr
   clear hpr hpl
   go_wp2_with (fail)
   go_ret
   refine ⟨_,rfl,?_,HB.out⟩
   have h:=HO.out
   rw [hl64,HP.out] at h
   exact h
end sha
end Go.Proofs.YtdldkkoplgkloaaGreat
