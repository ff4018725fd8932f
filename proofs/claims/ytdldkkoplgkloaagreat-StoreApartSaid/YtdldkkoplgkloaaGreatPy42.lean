/-
  PROVED HERE: lemmas that the law leans on.
  CONDITIONS: each names its own.
-/
import Derived.Test.YtdldkkoplgkloaaGreatPy0
import Derived.Test.YtdldkkoplgkloaaGreatPy5
import Derived.Test.YtdldkkoplgkloaaGreatPy25
import Derived.Test.YtdldkkoplgkloaaGreatPy29
import Derived.Test.YtdldkkoplgkloaaGreatPy36
import Derived.Test.YtdldkkoplgkloaaGreatPy40
import Derived.Test.YtdldkkoplgkloaaGreatPy41
namespace Go.Proofs.YtdldkkoplgkloaaGreat
set_option linter.unusedVariables false
set_option linter.unusedSimpArgs false
set_option maxRecDepth 100000
set_option maxHeartbeats 32000000
namespace store


open Go.RowKit Go.Deep base obj mem sep bf bk record bP aU image bK bR chain bw
theorem ZQ {m:DS} {xs:List PP} {L:List RP} (h:dD m xs (cK L)) {p:Nat} (hp:p < L.length) (k:Int):Dx ((L.getD p default).slot k):=by
 have hu:=h.parts p (by rw [←h.len,uF];exact hp);rw [kB] at hu
 have one:∀{j:Int} {s:bC} {R:RS},SI m p j s R Option.none→Dx R:=fun {j s R} hs=>by
  refine ⟨fun hh=>?_,wF.ZU hs.mem,by rw [←hs.Kz h.calm.up.1];exact y9 h.calm.jm _ _ _⟩;have h1:s.has=true:=hs.mem.has.trans hh;rw [←hs.mem.st];exact hs.right h1
 unfold RP.slot;split
 ·exact one (hu.si (.inl rfl))
 ·exact one (hu.si (.inr rfl))
section
variable {w0 w : World} {l : List aD} {X X2 : Nat} {tv : List Value} {v v2 : Value} {P P0 : List (Nat × List Value)} {ys zs : List (dH × RP)} {p : Nat}
theorem jn.same (h:jn w0 P ys) (hk:IE zs ys) (hm:zs.map (·.2)=ys.map (·.2)):jn w0 P zs:=by
 intro z hz;obtain ⟨i,hi,rfl⟩:=List.getElem_of_mem hz;have hl:zs.length=ys.length:=by have:=congrArg List.length hm;simpa using this
 have Az:i < ys.length:=by omega
 obtain ⟨k0,k1⟩:=hk i hi Az
 have hx:zs[i].2=ys[i].2:=by
  have h1:(zs.map (·.2))[i]?=(ys.map (·.2))[i]?:=by rw [hm]
  simpa [hi,Az] using h1
 rw [k0,k1,hx];exact h _ (List.getElem_mem Az)
theorem jn.mono {P':List (Nat×List Value)} (h:jn w0 P ys) (hp:∀x∈P,x∈P'):jn w0 P' ys:=fun y hy=>⟨(h y hy).1.mono hp,(h y hy).2.mono hp⟩
theorem jn.put (h:jn w0 P zs) {y:dH×RP} (hy:vp w0 P y.1.K0 y.2.i0∧vp w0 P y.1.K1 y.2.i1) (p:Nat):jn w0 P (zs.set p y):=by
 intro z hz;rcases List.mem_or_eq_of_mem_set hz with h2|rfl
 ·exact h z h2
 ·exact hy
theorem Rz (h:St w0 w (row X2 68 (tv++[v2])::own 65 8 v2 zs.length (dg zs)::ee P0 zs::cw X tv v P ys::l)) (hP:∀x∈P0,x∈P) (hp:p < ys.length) (hz:p < zs.length) :
  ∃b c cs,v2=.slice (some ⟨b,0,none⟩) zs.length c∧Row w b 65 cs∧p*8+8≤cs.length∧St w0 (w.setRow b (cs.take (p*8)++eE ys[p]++cs.drop (p*8+8)).toArray) (cw X2 tv v2 P (zs.set p ys[p])::l):=by
 have h1:=h.pick 1 rfl
 have e0:dg zs=dg (zs.take p)++(eE zs[p]++dg (zs.drop (p+1))):=by
  have h2:=yx hz zs[p]
  rwa [List.set_getElem_self] at h2
 rw [e0] at h1;obtain ⟨b,c,post,e,h2,hb⟩:=uz h1 (by omega);have iG:(dg (zs.take p)).length=p*8:=by rw [Gc,fv];omega
 refine ⟨b,c,_,e,h2.row.1,by simp [iG,wS],?_⟩
 have he:(dg (zs.take p)++(eE zs[p]++post)).take (p*8)++eE ys[p]++(dg (zs.take p)++(eE zs[p]++post)).drop (p*8+8)=dg (zs.take p)++(eE ys[p]++post) :=
  BJ iG 0 (eE ys[p]) (by simp [wS])
 rw [he];have h3:=hb _ _ (eE ys[p]) rfl (h2.setRow (dg (zs.take p)++(eE ys[p]++post)));rw [←yx hz ys[p]] at h3;have h4:=sL hP (h3.pick 2 rfl);have h5:=(h4.D9 (k:=p) (P:=iF P zs[p].1 zs[p].2) (by simp [hz])).drop;have h6:=ec (h5.pick 3 rfl);have h7:=(h6.pick 3 rfl).D9 (k:=p) (P:=iF P ys[p].1 ys[p].2) (by simp [hp]);have h8:=((h7.pick 1 rfl).drop.pick 1 rfl).drop.pick 1 rfl |>.drop;have h9:=(h8.pick 2 rfl).swap;have dG:=h9.Tk (by simpa using hz);rw [show (zs.map fun y=>iF P y.1 y.2).set p (iF P ys[p].1 ys[p].2)=(zs.set p ys[p]).map fun y=>iF P y.1 y.2 by rw [List.map_set]] at dG;have mg:=((dG.swap.pick 2 rfl).pick 3 rfl)
 refine qA ?_;rw [List.length_set];exact mg
end
def mM (p:Int) (L:List dk):List dk:=(L.filter fun a=>decide (a.kind < 6∧0≤a.kind∨a.kind=8)).map fun a=>{ a with part:=p }
theorem OK {p:Int} {L:List dk}:∀a∈gU (mM p L),a.part=p:=by
 intro a ha;obtain ⟨x,hx,h⟩:=List.mem_flatten.1 ha;obtain ⟨b,hb,rfl⟩:=List.mem_map.1 hx;obtain ⟨c,_,rfl⟩:=List.mem_map.1 hb;unfold mz rm at h;split at h
 ·simp only [List.mem_append,List.mem_cons,List.mem_map,List.not_mem_nil,or_false] at h;rcases h with (rfl|⟨no,_,rfl⟩)|rfl<;>rfl
 ·simp only [List.mem_cons,List.not_mem_nil,or_false] at h;rw [h]
theorem Hq (p:Int) (L:List dk):(mM p L).length≤L.length:=by
 unfold mM;rw [gN];exact List.length_filter_le _ _
theorem OJ (p:Int) (L:List dk) (q:dk):mM p (L++[q])=mM p L++(if q.kind < 6∧0≤q.kind∨q.kind=8 then [{ q with part:=p }] else []):=by
 unfold mM;rw [List.filter_append,List.map_append]
 congr 1
 by_cases h:q.kind < 6∧0≤q.kind∨q.kind=8
 ·rw [if_pos h,List.filter_cons_of_pos (by simpa using h)];rfl
 ·rw [if_neg h,List.filter_cons_of_neg (by simpa using h)];rfl
structure sa (w:World) (t:aQ) (p:Nat) (L0:List RP) (P0:List (Nat×List Value)) (m:DS) (xs:List PP) (P:List (Nat×List Value)) (ys:List (dH×RP)):Prop where
 inv:dD m xs (cK (ys.map (·.2)))
 UK:qu t (ys.map (·.2))
 sub:∀x∈P0,x∈P
 kok:jn w P ys
 az:m.az.length=10*t.parts.length
 len:ys.length=t.parts.length
 oth:∀q,q≠p→(ys.map (·.2)).getD q default=L0.getD q default
section
variable {w : World} {t : aQ} {p : Nat} {L0 : List RP} {P0 : List (Nat × List Value)} {m : DS} {xs : List PP} {P : List (Nat × List Value)} {ys : List (dH × RP)}
theorem sa.II (h:sa w t p L0 P0 m xs P ys):xs.length=t.parts.length:=by rw [←h.inv.len,IH,h.len]
theorem sa.UO (h:sa w t p L0 P0 m xs P ys) (hr:t.right=true):n8 t m xs:=h.inv.UO hr h.II (by rw [h.II,h.az];exact Nat.le_refl _)
theorem sa.right (h:sa w t p L0 P0 m xs P ys):∀y∈ys,y.2.aA.right=true:=by
 intro y hy;obtain ⟨i,hi,rfl⟩:=List.getElem_of_mem hy;have:=(h.UK i (by simpa using hi)).right
 rwa [qN hi] at this
theorem sa.rs (h:sa w t p L0 P0 m xs P ys):∀y∈ys,∀k:Int,Dx (y.2.slot k):=by
 intro y hy k;obtain ⟨i,hi,rfl⟩:=List.getElem_of_mem hy;have:=ZQ h.inv (p:=i) (by simpa using hi) k
 rwa [qN hi] at this
theorem sa.act (h:sa w t p L0 P0 m xs P ys) {js:List aw} (hb:∀i,bo (fJ js i).code) {c:dk} (hc:c.part=p) {P':List (Nat×List Value)} {iy:List (dH×RP)} (hP:∀x∈P,x∈P') (hL:iy.map (·.2)=(vC t (ys.map (·.2)) js c).2) (hK:jn w P' iy):sa w t p L0 P0 (uO t m xs js c).2.1 (uO t m xs js c).2.2 P' iy:=by
 obtain ⟨_,d2,d3,d4⟩:=aah h.inv h.UK hb c;refine ⟨by rw [hL];exact d2,by rw [hL];exact d3,fun x hx=>hP x (h.sub x hx),hK,d4.trans h.az,?_,fun q hq=>?_⟩
 ·have:=congrArg List.length hL;rw [VH,gN,gN] at this;rw [this,h.len]
 ·rw [hL,O5 _ _ _ _ (by rw [hc,ea];exact fun e=>hq e.symm)];exact h.oth q hq
theorem sa.eq {zs:List (dH×RP)} (h:sa w t p L0 P0 m xs P ys) (hz:zs.map (·.2)=L0) (hl:zs.length=ys.length) (hp:p < ys.length):(zs.set p ys[p]).map (·.2)=ys.map (·.2):=by
 rw [List.map_set];refine List.ext_getElem (by simp [hl]) fun i h1 h2=>?_;by_cases e:i=p
 ·subst e;simp
 ·rw [List.getElem_set_ne (Ne.symm e)];have h3:=h.oth i e;have i1:i < zs.length:=by simpa using h1
  have i2:i < ys.length:=by simpa using h2
  rw [←hz] at h3;simpa [i1,i2] using h3.symm
theorem sa.copy {zs:List (dH×RP)} (h:sa w t p L0 P0 m xs P ys) (hk:jn w P0 zs) (hr:t.right=true) (hz:zs.map (·.2)=L0) (hl:zs.length=ys.length) (hp:p < ys.length) {ad:du} {d X:Nat} {tv:List Value} {v:Value} {l:List aD} {w':World} (iR:tv.length=5) (av:St w w' (cw X tv v P (zs.set p ys[p])::bL ad t d m xs::l)) :
  Calls Tryz.prog 24 #[.pointer (some ⟨ad.S,0,none⟩),.pointer (some ⟨X,0,none⟩)] w' fun e w2=>e=.returned (.bool true)∧Below w.heap.size w w2:=by
 have he:=h.eq hz hl hp;have hel:=congrArg List.length he;rw [gN,gN] at hel
 have j9:∀i (hi:i < (zs.set p ys[p]).length),(zs.set p ys[p])[i].2=(ys.map (·.2)).getD i default:=fun i hi=>by
  rw [←he,qN hi]
 have hko:jn w P (zs.set p ys[p]):=(hk.mono h.sub).put (h.kok _ (List.getElem_mem hp)) p;refine (SN (D:=cK (ys.map (·.2))) ⟨av.swap,h.inv,h.II,by rw [h.II,h.az];exact Nat.le_refl _,hr⟩ iR (by rw [hel,h.len,h.II]) (fun y hy=>?_) (fun w2 l2 h2 y hy k=>?_) (fun i hi=>?_)).mono fun e w2 ⟨h1,h2⟩=>⟨h1,h2.st.aI⟩
 ·obtain ⟨i,hi,rfl⟩:=List.getElem_of_mem hy;rw [j9 i hi];exact (h.UK i (by rw [gN];omega)).right
 ·exact hko.read (ec (h2.pick 1 rfl) |>.pick 2 rfl) hy k
 ·rw [j9 i hi];exact h.UK.same (by rw [gN];omega)
end
end store
namespace store


open Go.RowKit Go.Deep base obj mem sep bf bk record bP aU image bK bR chain bw
theorem Ut:(Tryz.prog.info? 58).map (fun i=>(i.zero,i.size,i.bytes))=some (some (.agg #[.int .i64 0,.int .i64 0,.int .i64 0,.int .i64 0,.int .i64 0,.bool false,.int .u64 0]),7,56):=by kernel_rfl
theorem Iq:pX Tryz.prog 50 58 7 56:=by
 obtain ⟨i0,hi,j8,mF,iq⟩:=info_parts Ut;exact ⟨Tryz.underlying50,⟨i0,_,hi,j8,mF,iq,rfl⟩,by decide⟩
section
variable {w0 w : World} {l : List aD}
theorem CS (h:St w0 w l) (y0 y1 y2 y3 y4 y5:Value) (a:dk) :
  Calls Tryz.prog 58 #[.agg #[y0,y1,y2,y3,y4,y5],.agg #[.int .i64 a.kind,.int .i64 a.part,.int .i64 a.n,.int .i64 a.i,.int .i64 a.no,.bool a.dL,.int .u64 a.keep]] w fun e w'=>∃v,e=.returned v∧St w0 w' (own 58 7 v (mz a).length (ib (mz a))::l):=by
 obtain ⟨Z,hZ⟩:∃Z,Z=w.heap.size:=⟨_,rfl⟩
 obtain ⟨Y,hY⟩:∃Y,Y=Z+1:=⟨_,rfl⟩
 obtain ⟨w1,aJ⟩:∃w1,w1=(w.alloc (.cells #[y0,y1,y2,y3,y4,y5] 49)).alloc (.cells #[.int .i64 a.kind,.int .i64 a.part,.int .i64 a.n,.int .i64 a.i,.int .i64 a.no,.bool a.dL,.int .u64 a.keep] 58):=⟨_,rfl⟩
 have H1:=aa (show St w0 w1 (row Y 58 a.cells::l) by
  have h3:=((h.new 49 #[y0,y1,y2,y3,y4,y5]).new 58 a.cells.toArray)
  rw [World.size_alloc,←hZ,←hY] at h3;rw [aJ]
  exact (h3.pick 1 rfl).drop)
 have bq:=aa aJ;have HZ:=aa hZ;have HY:=aa hY;clear h aJ hY hZ;obtain ⟨c0,c1,c2,c3,c4,c5,c6,lY⟩:=jO H1.o.row.1;have f0:=H1.o.row.1.frozen 0;by_cases h8:a.kind=8
 case neg =>
  have k8:(a.kind != 8)=true:=by simpa using h8
  have HE:=aa (show mz a=[a] from if_neg h8);clear h8;go_enter Tryz.func58,Tryz.ntmps58;go_upto_region 1 with fail;rw [←HZ.o,←HY.o,←bq.o];go_wp2_with fail;go_ret;refine ⟨_,rfl,?_⟩;rw [HE.o];exact ((H1.o.new 58 a.cells.toArray).lW (size:=7) (n:=1) (cap:=1) (by omega) (by unfold maxLen;omega) rfl).swap.drop
 case pos =>
  have k8:(a.kind != 8)=false:=by simpa using h8
  have HE:=aa (show mz a=rm a 10++[{ a with kind:=2 }] from if_pos h8);obtain ⟨w2,dY⟩:∃v,v=w1.setCell ⟨Y,0,none⟩ (.int .i64 0):=⟨_,rfl⟩
  have H2:=aa (show St w0 w2 (row Y 58 { a with kind:=0:dk }.cells::l) by rw [dY];exact H1.o.set 0 _);have iL:=aa dY;clear h8 dY;go_enter Tryz.func58,Tryz.ntmps58;go_upto_region 1 with fail;rw [←HZ.o,←HY.o,←bq.o];go_upto_region 4 with fail;rw [←iL.o];clear c0 c1 c2 c3 c4 c5 c6 lY f0;obtain ⟨c0,c1,c2,c3,c4,c5,c6,lY⟩:=jO H2.o.row.1;have H3:=aa (((H2.o.new 58 { a with kind:=0:dk }.cells.toArray).lW (size:=7) (n:=1) (cap:=1) (by omega) (by unfold maxLen;omega) rfl));go_upto_region 5 with fail;clear c0 c1 c2 c3 c4 c5 c6 lY;go_wp2_with fail;go_loopw [5,16] (fun s x wr=>∃k:Nat,k≤10∧x=.int .i64 (k:Int)∧St w0 wr (own 58 7 s (1+k) (ib (rm a k))::row Y 58 { a with kind:=0:dk }.cells::l)) (fun _ x _=>10-(intOf x).toNat)
  case atStart=>exact ⟨0,by omega,rfl,H3.o⟩
  case round =>
   obtain ⟨k,hk,rfl,av⟩:=hrel;obtain ⟨c0,c1,c2,c3,c4,c5,c6,lY⟩:=jO (av.pick 1 rfl).row.1;have bJ:=aa av;clear av H3 H2;by_cases aK:k < 10
   ·have k1:(k:Int) < 10:=by omega
    have zD:=aa (show rm a (k+1)=rm a k++[{ a with kind:=1,no:=(k:Int) }] by simp [rm,List.range_succ]);obtain ⟨D,hD⟩:∃D,D=wr.heap.size:=⟨_,rfl⟩
    obtain ⟨w5,dQ⟩:∃v,v=wr.alloc (.cells #[.int .i64 1,.int .i64 a.part,.int .i64 a.n,.int .i64 a.i,.int .i64 (k:Int),.bool a.dL,.int .u64 a.keep] 58):=⟨_,rfl⟩
    have h5:=bJ.o.new 58 { a with kind:=1,no:=(k:Int):dk }.cells.toArray;rw [←hD,show wr.alloc (.cells { a with kind:=1,no:=(k:Int):dk }.cells.toArray 58)=w5 from dQ.symm] at h5;have OO:=aa h5.swap;have pZ:=aa dQ;have HD:=aa hD;go_upto_region 10 with fail;rw [←pZ.o,←HD.o];clear c0 c1 c2 c3 c4 c5 c6 lY dQ hD h5;obtain ⟨c0,c1,c2,c3,c4,c5,c6,lY⟩:=jO (OO.o.pick 1 rfl).row.1;go_wp2_with (refine xV Iq rfl (.tmp 23) (.tmp 25) rfl OO.o rfl (m:=1) { a with kind:=1,no:=(k:Int):dk }.cells rfl (by simp [Value.oneCell',dk.cells]) rfl (by omega) (by omega) (by unfold maxLen;omega) ?_;rintro g5 c5 w5 h5;have H5:=aa h5;clear h5);go_roundw
    case rel =>
     refine ⟨k+1,by omega,by go_num,?_⟩;rw [zD.o,uu];exact H5.o.swap.drop
    case measure=>simp [intOf];omega
   ·obtain rfl:k=10:=by omega
    obtain ⟨w4,dX⟩:∃v,v=wr.setCell ⟨Y,0,none⟩ (.int .i64 2):=⟨_,rfl⟩
    have H4:=aa (show St w0 w4 (own 58 7 _ 11 (ib (rm a 10))::row Y 58 { a with kind:=2:dk }.cells::l) by rw [dX];exact ((bJ.o.pick 1 rfl).set 0 _).swap);have kb:=aa dX;have f0:=(bJ.o.pick 1 rfl).row.1.frozen 0;clear dX;go_upto_region 13 with fail;rw [←kb.o];clear c0 c1 c2 c3 c4 c5 c6 lY f0;obtain ⟨c0,c1,c2,c3,c4,c5,c6,lY⟩:=jO (H4.o.pick 1 rfl).row.1;go_wp2_with (refine xV Iq rfl (.tmp 29) (.tmp 31) rfl H4.o rfl (m:=1) { a with kind:=2:dk }.cells rfl (by simp [Value.oneCell',dk.cells]) rfl (by omega) (by omega) (by unfold maxLen;omega) ?_;rintro g5 c5 w5 h5;have H5:=aa h5;clear h5);go_ret;refine ⟨_,rfl,?_⟩;rw [HE.o,uu];exact H5.o.swap.drop
theorem vJ (h:St w0 w l) (y0 y1 y2 y3 y4 y5:Value) {L:List dk} {B:aD} {A:Option Addr} {c:Nat} (hs:∀w' l',St w0 w' (B::l')→Sl w' w'.heap.size 7 A L.length (ib L)) (hl:L.length≤40) (hB:∃l',l=B::l') :
  Calls Tryz.prog 22 #[.agg #[y0,y1,y2,y3,y4,y5],.slice A L.length c] w fun e w'=>∃v,e=.returned v∧St w0 w' (own 58 7 v (gU L).length (ib (gU L))::l):=by
 obtain ⟨l0,rfl⟩:=hB;obtain ⟨Z,hZ⟩:∃Z,Z=w.heap.size:=⟨_,rfl⟩
 obtain ⟨w1,aJ⟩:∃w1,w1=w.alloc (.cells #[y0,y1,y2,y3,y4,y5] 49):=⟨_,rfl⟩
 have H1:=aa (show St w0 w1 (own 58 7 (.slice none 0 0) 0 []::row Z 49 [y0,y1,y2,y3,y4,y5]::B::l0) by
  have h3:=h.new 49 #[y0,y1,y2,y3,y4,y5];rw [←hZ,←aJ] at h3
  exact h3.cQ (Below.refl _ _) ⟨rfl,.inl ⟨rfl,rfl⟩⟩)
 have bq:=aa aJ;have HZ:=aa hZ;have HS:=aa hs;clear h aJ hZ hs;go_enter Tryz.func22,Tryz.ntmps22;go_upto_region 1 with fail;rw [←HZ.o,←bq.o];obtain ⟨n,hn⟩:∃n,n=L.length:=⟨_,rfl⟩
 rw [←hn];have HN:=aa hn;have acf:n≤40:=by omega
 clear hn hl;go_wp2_with fail;go_loopw [5,10] (fun s x wr=>∃k:Nat,k≤n∧x=.int .i64 (k:Int)∧St w0 wr (own 58 7 s (gU (L.take k)).length (ib (gU (L.take k)))::row Z 49 [y0,y1,y2,y3,y4,y5]::B::l0)) (fun _ x _=>n-(intOf x).toNat)
 case atStart=>exact ⟨0,by omega,rfl,H1.o⟩
 case round =>
  obtain ⟨k,hk,rfl,av⟩:=hrel;have bJ:=aa av;clear av H1;by_cases aK:k < n
  ·have zw:k < L.length:=by rw [←HN.o];exact aK
   have zD:=aa (show gU (L.take (k+1))=gU (L.take k)++mz L[k] by rw [jz zw];simp only [gU,List.map_append,List.flatten_append,List.map_cons,List.map_nil,List.flatten_cons,List.flatten_nil,List.append_nil]);have HLB:=aa (show (gU (L.take k)).length≤480 by have:=B8 (L.take k);rw [fv] at this;omega);have HWL:=aa (DG L[k]);obtain ⟨b,off,rfl,hb,a0,a1,a2,a3,a4,a5,a6⟩:=FU (HS.o wr _ (bJ.o.pick 2 rfl)) zw;generalize L[k]=a at *;have k1:(k:Int) < (n:Int):=by omega
   have k0:(0:Int)≤(k:Int):=by omega
   obtain ⟨w5,dQ⟩:∃v,v=wr.alloc (.cells #[.int .i64 a.kind,.int .i64 a.part,.int .i64 a.n,.int .i64 a.i,.int .i64 a.no,.bool a.dL,.int .u64 a.keep] 58):=⟨_,rfl⟩
   obtain ⟨D,hD⟩:∃D,D=wr.heap.size:=⟨_,rfl⟩
   have h5:=bJ.o.new 58 a.cells.toArray;rw [←hD,show wr.alloc (.cells a.cells.toArray 58)=w5 from dQ.symm] at h5;have H5:=aa h5;have pZ:=aa dQ;have HD:=aa hD;have HWH:=aa (CS h5 y0 y1 y2 y3 y4 y5 a);have ry:=(h5.pick 2 rfl).row.1;have z0:=ry.cell 0;have z1:=ry.cell 1;have z2:=ry.cell 2;have z3:=ry.cell 3;have z4:=ry.cell 4;have z5:=ry.cell 5;have lZ:=ry.lt;obtain ⟨c0,c1,c2,c3,c4,c5,c6,lD⟩:=jO h5.row.1;clear ry h5 hD dQ zw;go_upto_region 5 with fail;rw [←pZ.o,←HD.o];clear a0 a1 a2 a3 a4 a5 a6;go_wp2_with fail;refine HWH.o.mono ?_;rintro e w6 ⟨v,rfl,h6⟩;obtain ⟨A6,c6,rfl,_,_⟩:=aH h6.own;have kL:=aa (Sl.bz h6.own);have h7:=h6.pick 2 rfl;have H7:=aa h7;clear h6 h7 z0 z1 z2 z3 z4 z5 c0 c1 c2 c3 c4 c5 lD lZ;have yL:=HWL.o.1;have pR:=HWL.o.2;have ab5:=HLB.o;go_wp2_with (refine sI Iq rfl (.tmp 14) (.tmp 17) rfl H7.o.own rfl rfl kL.o (RC _) pR (by omega) (by unfold maxLen;omega) (H7.o.aI.size) ?_;intro g cap w8 ho hg kr aaY;have H8:=aa (H7.o.grown hg ho (fun x hx=>by injection hx with hx;rw [←hx];exact kr));clear ho hg kr aaY);go_roundw
   case rel =>
    refine ⟨k+1,by omega,by go_num,?_⟩;have h9:=H8.o;rw [zD.o,gA,show ib (gU (L.take k)++mz a)=ib (gU (L.take k))++ib (mz a) by simp [ib]];exact (h9.swap.drop.swap.drop)
   case measure=>simp [intOf];omega
  ·obtain rfl:k=n:=by omega
   go_wp2_with fail;go_ret;refine ⟨_,rfl,?_⟩;have h9:=bJ.o;rw [List.take_of_length_le (by rw [HN.o];exact Nat.le_refl _)] at h9;exact h9.swap.drop
end
end store
namespace store


open Go.RowKit Go.Deep base obj mem sep bf bk record bP aU image bK bR chain bw
structure Fits (t:aQ) (js:List aw) (nI:Nat):Prop where
 right:t.right=true
 Kq:t.parts.length≤nI
 tx:nI≤10
 fE:∀p:Nat,p < t.parts.length→bX t p (js.getD p aw.none) 0=0
 short:∀k:Nat,k < nI→(js.getD k aw.none).code.length≤200
theorem FN {w:World} {a:en} {t:aQ} {AI:Option Addr} {nI cI:Nat} {js:List aw} {K:Nat→Option Addr×Nat} (h:wG w a t AI nI cI js K) :
  Calls Tryz.prog 19 #[.agg (nG a t AI nI cI).toArray] w fun e w'=>(∃b:Bool,e=.returned (.bool b)∧(b=true→Fits t js nI))∧Below w.heap.size w w':=by
 obtain ⟨Z,hZ⟩:∃Z,Z=w.heap.size:=⟨_,rfl⟩
 obtain ⟨w1,aJ⟩:∃w1,w1=w.alloc (.cells (nG a t AI nI cI).toArray 49):=⟨_,rfl⟩
 have ku:Below w.heap.size w w1:=by rw [aJ];exact (Below.refl _ w).alloc (Nat.le_refl _) _
 have h1:St w w1 [row Z 49 (nG a t AI nI cI)]:=by
  have h3:=(St.nil w).new 49 (nG a t AI nI cI).toArray;rw [←aJ,←hZ] at h3;exact h3
 have bn:=aa ku;have ez:=aa (fun (w':World) (hb:Below w1.heap.size w1 w')=>bK.qB ((h.bK.over ku).over hb));have La:=aa (fun (w':World) (hb:Below w1.heap.size w1 w')=>(h.over ku).il.over hb);have mj:=aa (fun (w':World) (hb:Below w1.heap.size w1 w') (p:Nat) (th:p < nI) (A:Option Addr) (c:Nat)=>zZ (A:=A) (c:=c) (bu:=0) (i:=js.getD p aw.none) ((h.bK.over ku).over hb) (p:Int) (h.lens p th));have HR:=aa (fun (w':World) (hb:Below w1.heap.size w1 w')=>h1.row.1.below hb h1.row.1.lt);have Hu:=aa (fun (h:t.right=true)=>(aQ.r h).np);have HFT:=aa (fun (a1:t.right=true) (a2:t.parts.length≤nI) (a3:nI≤10) (a4:∀p:Nat,p < t.parts.length→bX t p (js.getD p aw.none) 0=0) (a5:∀k:Nat,k < nI→(js.getD k aw.none).code.length≤200)=>(⟨a1,a2,a3,a4,a5⟩:Fits t js nI));have bq:=aa aJ;have HZ:=aa hZ;simp only [nG,en.val,aw.val] at ez mj HR bq ⊢;obtain ⟨nP,oE⟩:∃v,v=t.parts.length:=⟨_,rfl⟩
 simp only [←oE] at ez mj HR bq Hu HFT ⊢;clear h h1 ku aJ hZ oE;generalize jR:t.frame=fr at *;generalize jl:t.ay=tr at *;generalize xK:t.aC.length=nW at *;generalize pK:t.au.length=nC at *;clear jR jl xK pK;have rows:∀w':World,Below w1.heap.size w1 w'→w'.cell? ⟨Z,0,none⟩=some (.int .i64 fr)∧w'.cell? ⟨Z,1,none⟩=some (.slice a.AP nP a.cP)∧w'.cell? ⟨Z,2,none⟩=some (.slice a.AW nW a.cW)∧w'.cell? ⟨Z,3,none⟩=some (.slice a.AC nC a.cC)∧w'.cell? ⟨Z,4,none⟩=some (.int .i64 tr)∧w'.cell? ⟨Z,5,none⟩=some (.slice AI nI cI)∧Z < w'.heap.size:=fun w' hb=>⟨(HR.o w' hb).cell 0,(HR.o w' hb).cell 1,(HR.o w' hb).cell 2,(HR.o w' hb).cell 3,(HR.o w' hb).cell 4,(HR.o w' hb).cell 5,(HR.o w' hb).lt⟩
 have dO:=aa rows;clear rows;obtain ⟨z0,z1,z2,z3,z4,z5,lZ⟩:=dO.o w1 (Below.refl _ _);generalize hF:Fits t js nI=F at *;cases hr:t.right
 case false =>
  rw [hr] at ez;clear HFT Hu hr hF;go_enter Tryz.func19,Tryz.ntmps19;go_upto_region 1 with fail;rw [←bq.o,←HZ.o];go_wp2_with fail;refine (ez.o w1 (Below.refl _ _)).mono ?_;rintro e w2 ⟨rfl,bN⟩;have aO:=aa (bn.o.trans (bN.mono bn.o.size));clear bN;go_wp2_with fail;go_ret;exact ⟨⟨false,rfl,fun h=>by cases h⟩,aO.o⟩
 case true =>
  rw [hr] at ez;have acg:=Hu.o hr;have qM:=aa hr;clear Hu hr;by_cases Ml:nP≤nI∧nI≤10
  case neg =>
   go_enter Tryz.func19,Tryz.ntmps19;go_upto_region 1 with fail;rw [←bq.o,←HZ.o];go_wp2_with fail;refine (ez.o w1 (Below.refl _ _)).mono ?_;rintro e w2 ⟨rfl,bN⟩;have aO:=aa (bn.o.trans (bN.mono bn.o.size));clear z0 z1 z2 z3 z4 z5 lZ;obtain ⟨z0,z1,z2,z3,z4,z5,lZ⟩:=dO.o w2 bN;clear bN;by_cases he:nP≤nI
   ·have k1:decide (nI < nP)=false:=by simp;omega
    have k2:decide ((10:Int) < (nI:Int))=true:=by simp;omega
    have k3:decide ((nI:Int) < (nP:Int))=false:=by simp;omega
    clear he Ml;go_wp2_with fail;go_ret;exact ⟨⟨false,rfl,fun h=>by cases h⟩,aO.o⟩
   ·have k1:decide (nI < nP)=true:=by simp;omega
    have k3:decide ((nI:Int) < (nP:Int))=true:=by simp;omega
    clear he Ml;go_wp2_with fail;go_ret;exact ⟨⟨false,rfl,fun h=>by cases h⟩,aO.o⟩
  case pos =>
   obtain ⟨Ml,dG⟩:=Ml;have zz:=La.o w1 (Below.refl _ _);obtain ⟨b0,o0,Q2,_⟩:=zz.at_ 0 (by omega);subst Q2;clear zz;have ZC:=aa (HFT.o qM.o Ml dG);have HEN:=aa Ml;have mm:=aa dG;clear HFT;go_enter Tryz.func19,Tryz.ntmps19;go_upto_region 1 with fail;rw [←bq.o,←HZ.o];go_wp2_with fail;refine (ez.o w1 (Below.refl _ _)).mono ?_;rintro e w2 ⟨rfl,bN⟩;have aO:=aa bN;clear z0 z1 z2 z3 z4 z5 lZ;obtain ⟨z0,z1,z2,z3,z4,z5,lZ⟩:=dO.o w2 bN;clear bN;have k1:decide (nI < nP)=false:=by simp;omega
   have k2:decide ((10:Int) < (nI:Int))=false:=by simp;omega
   have k3:decide ((nI:Int) < (nP:Int))=false:=by simp;omega
   go_wp2_with fail;clear z0 z1 z2 z3 z4 z5 lZ;clear k1 k2 k3;go_loopw [30] (fun x wr=>∃p:Nat,p≤nP∧x=.int .i64 (p:Int)∧Below w1.heap.size w1 wr∧∀k:Nat,k < p→bX t k (js.getD k aw.none) 0=0) (fun x _=>nP-(intOf x).toNat)
   case atStart=>exact ⟨0,by omega,rfl,aO.o,fun k hk=>absurd hk (by omega)⟩
   case round =>
    obtain ⟨p,JR,rfl,pU,jF⟩:=hrel;have dv:=aa pU;have HC:=aa jF;clear aO pU jF;by_cases aK:p < nP
    ·obtain ⟨b,off,hA,cy,c0,c1,c2,c3,c4,c5,c6,c7,jF,Ej⟩:=(La.o wr dv.o).at_ p (by omega);obtain ⟨rfl,rfl⟩:b0=b∧o0=off:=by injection hA with e;injection e with e1 e2 _;exact ⟨e1,e2⟩
     generalize (K p).1=KA,(K p).2=Kc at *;have vz:=aa (mj.o wr.drew dv.o.drew p (by omega) KA Kc);have HJP:=aa (show js.getD p aw.none=js.getD p aw.none from rfl);obtain ⟨ck,TN⟩:∃v,v=bX t p (js.getD p aw.none) 0:=⟨_,rfl⟩
     rw [←TN] at vz;have HCV:=aa TN;obtain ⟨i0,QL⟩:∃v,v=(js.getD p aw.none).part:=⟨_,rfl⟩
     obtain ⟨i1,QK⟩:∃v,v=(js.getD p aw.none).version:=⟨_,rfl⟩
     obtain ⟨i2,Az⟩:∃v,v=(js.getD p aw.none).aY:=⟨_,rfl⟩
     obtain ⟨i3,QJ⟩:∃v,v=(js.getD p aw.none).mem:=⟨_,rfl⟩
     obtain ⟨i4,QI⟩:∃v,v=(js.getD p aw.none).fuel:=⟨_,rfl⟩
     obtain ⟨i5,QH⟩:∃v,v=(js.getD p aw.none).aN:=⟨_,rfl⟩
     obtain ⟨i6,xO⟩:∃v,v=(js.getD p aw.none).aB:=⟨_,rfl⟩
     obtain ⟨i7,QG⟩:∃v,v=(js.getD p aw.none).code.length:=⟨_,rfl⟩
     simp only [←QL,←QK,←Az,←QJ,←QI,←QH,←xO,←QG] at vz c0 c1 c2 c3 c4 c5 c6 c7;clear QL QK Az QJ QI QH xO QG jF Ej hA TN HJP;have k0:(0:Int)≤(p:Int):=by omega
     have k1:(p:Int) < (nP:Int):=by omega
     have k2:(p:Int) < (nI:Int):=by omega
     have Bk:=aa (fun (w':World) (hb:Below wr.heap.size wr w')=>show w'.cell? ⟨b0,o0+p*8,none⟩=some (.int .i64 i0)∧w'.cell? ⟨b0,o0+p*8+1,none⟩=some (.int .i64 i1)∧w'.cell? ⟨b0,o0+p*8+2,none⟩=some (.int .i64 i2)∧w'.cell? ⟨b0,o0+p*8+3,none⟩=some (.int .i64 i3)∧w'.cell? ⟨b0,o0+p*8+4,none⟩=some (.int .i64 i4)∧w'.cell? ⟨b0,o0+p*8+5,none⟩=some (.int .i64 i5)∧w'.cell? ⟨b0,o0+p*8+6,none⟩=some (.int .i64 i6)∧w'.cell? ⟨b0,o0+p*8+7,none⟩=some (.slice KA i7 Kc)∧b0 < w'.heap.size from ⟨(hb.cell cy).trans c0,(hb.cell cy).trans c1,(hb.cell cy).trans c2,(hb.cell cy).trans c3,(hb.cell cy).trans c4,(hb.cell cy).trans c5,(hb.cell cy).trans c6,(hb.cell cy).trans c7,Nat.lt_of_lt_of_le cy hb.size⟩);clear c0 c1 c2 c3 c4 c5 c6 c7 cy;go_upto_region 6 with fail;refine eh (fun w'=>(w'.cell? ⟨Z,0,none⟩=some (.int .i64 fr)∧w'.cell? ⟨Z,1,none⟩=some (.slice a.AP nP a.cP)∧w'.cell? ⟨Z,2,none⟩=some (.slice a.AW nW a.cW)∧w'.cell? ⟨Z,3,none⟩=some (.slice a.AC nC a.cC)∧w'.cell? ⟨Z,4,none⟩=some (.int .i64 tr)∧w'.cell? ⟨Z,5,none⟩=some (.slice (some ⟨b0,o0,none⟩) nI cI)∧Z < w'.heap.size)∧(w'.cell? ⟨b0,o0+p*8,none⟩=some (.int .i64 i0)∧w'.cell? ⟨b0,o0+p*8+1,none⟩=some (.int .i64 i1)∧w'.cell? ⟨b0,o0+p*8+2,none⟩=some (.int .i64 i2)∧w'.cell? ⟨b0,o0+p*8+3,none⟩=some (.int .i64 i3)∧w'.cell? ⟨b0,o0+p*8+4,none⟩=some (.int .i64 i4)∧w'.cell? ⟨b0,o0+p*8+5,none⟩=some (.int .i64 i5)∧w'.cell? ⟨b0,o0+p*8+6,none⟩=some (.int .i64 i6)∧w'.cell? ⟨b0,o0+p*8+7,none⟩=some (.slice KA i7 Kc)∧b0 < w'.heap.size)) (by kernel_rfl) (⟨dO.o wr.drew dv.o.drew,Bk.o wr.drew (Below.refl wr.heap.size wr).drew⟩) (fun bQ=>?_);(refine ai 0 ?_;(try simp only [af,ae,ah,Act.put,aq,ak,ao]));(refine ai 1 ?_;(try simp only [af,ae,ah,Act.put,aq,ak,ao]));(refine ai 2 ?_;(try simp only [af,ae,ah,Act.put,aq,ak,ao]));(refine ai 3 ?_;(try simp only [af,ae,ah,Act.put,aq,ak,ao]));(refine ai 4 ?_;(try simp only [af,ae,ah,Act.put,aq,ak,ao]));(refine ai 5 ?_;(try simp only [af,ae,ah,Act.put,aq,ak,ao]));(refine ai 6 ?_;(try simp only [af,ae,ah,Act.put,aq,ak,ao]));(refine ai 7 ?_;(try simp only [af,ae,ah,Act.put,aq,ak,ao]));(refine dV 8 ?_;(try simp only [af,ae,ah]);go_simp);refine vz.o.mono ?_;rintro e w3 ⟨rfl,hb⟩;have bD:=aa (dv.o.drew.trans (hb.mono dv.o.drew.size));have UF:=aa ((Below.refl wr.heap.size wr).drew.trans hb);clear hb;dsimp only;(refine cG (⟨dO.o w3 bD.o,Bk.o w3 UF.o⟩) (fun bQ=>?_);(try simp only [af,ae,ah,Act.put,aq,ak,ao]));by_cases tV:ck=0
     ·subst tV;(refine ai 9 ?_;(try simp only [af,ae,ah,Act.put,aq,ak,ao]));refine dW (by kernel_rfl) ?_;clear bQ;go_wp2_with fail;go_roundw
      case rel =>
       refine ⟨p+1,by omega,by go_num,bD.o,fun k hk=>?_⟩;by_cases zv:k < p
       ·exact HC.o k zv
       ·rw [show k=p by omega];exact HCV.o.symm
      case measure=>simp [intOf];omega
     ·have e0:(ck != 0)=true:=by simpa using tV
      clear tV;(refine ai 9 ?_;(try simp only [af,ae,ah,Act.put,aq,ak,ao]));refine dW (by kernel_rfl) ?_;clear bQ;go_wp2_with fail;go_ret;exact ⟨⟨false,rfl,fun h=>by cases h⟩,bn.o.trans (bD.o.mono bn.o.size)⟩
    ·have Cn:p=nP:=by omega
     subst Cn;have ZB:=aa (ZC.o HC.o);have k1:¬(p:Int) < (p:Int):=by omega
     obtain ⟨z0,z1,z2,z3,z4,z5,lZ⟩:=dO.o wr dv.o;clear ZC HC;go_wp2_with fail;clear z0 z1 z2 z3 z4 z5 lZ;go_loopw [47] (fun x wr=>∃q:Nat,q≤nI∧x=.int .i64 (q:Int)∧Below w1.heap.size w1 wr∧∀k:Nat,k < q→(js.getD k aw.none).code.length≤200) (fun x _=>nI-(intOf x).toNat)
     case atStart=>exact ⟨0,by omega,rfl,dv.o,fun k hk=>absurd hk (by omega)⟩
     case round =>
      obtain ⟨q,El,rfl,pU,pI⟩:=hrel;clear dv;have dv:=aa pU;have HS:=aa pI;clear pU pI;by_cases yM:q < nI
      ·obtain ⟨b,off,hA,cy,c0,c1,c2,c3,c4,c5,c6,c7,jF,Ej⟩:=(La.o wr dv.o).at_ q yM;obtain ⟨rfl,rfl⟩:b0=b∧o0=off:=by injection hA with e;injection e with e1 e2 _;exact ⟨e1,e2⟩
       generalize (K q).1=KA,(K q).2=Kc at *
       have HLQ:=aa (fun (h:(js.getD q aw.none).code.length≤200) (k:Nat) (hk:k < q+1)=>show (js.getD k aw.none).code.length≤200 from by
        by_cases hkq:k < q
        ·exact HS.o k hkq
        ·rw [show k=q by omega];exact h)
       generalize (js.getD q aw.none).part=i0,(js.getD q aw.none).version=i1,(js.getD q aw.none).aY=i2,(js.getD q aw.none).mem=i3,(js.getD q aw.none).fuel=i4,(js.getD q aw.none).aN=i5,(js.getD q aw.none).aB=i6,(js.getD q aw.none).code.length=i7 at *;have k0:(0:Int)≤(q:Int):=by omega
       have k1:(q:Int) < (nI:Int):=by omega
       have tF:=aa (show Below w1.heap.size w1 (wr.alloc (.cells #[.int .i64 i0,.int .i64 i1,.int .i64 i2,.int .i64 i3,.int .i64 i4,.int .i64 i5,.int .i64 i6,.slice KA i7 Kc] 26)) from dv.o.trans (((Below.refl wr.heap.size wr).alloc (Nat.le_refl _) _).mono dv.o.size));clear jF Ej hA;by_cases TT:i7≤200
       ·have k3:decide ((200:Int) < (i7:Int))=false:=by simp;omega
        have HQ:=aa (HLQ.o TT);clear HLQ TT;go_wp2_with fail;go_roundw;case rel=>exact ⟨q+1,by omega,by go_num,tF.o,HQ.o⟩
        case measure=>simp [intOf];omega
       ·have k3:decide ((200:Int) < (i7:Int))=true:=by simp;omega
        clear HLQ TT;go_wp2_with fail;go_ret;exact ⟨⟨false,rfl,fun h=>by cases h⟩,bn.o.trans (tF.o.mono bn.o.size)⟩
      ·have JP:q=nI:=by omega
       subst JP;have k1:¬(q:Int) < (q:Int):=by omega
       have R3:=aa (ZB.o HS.o);clear ZB HS;go_wp2_with fail;go_ret;exact ⟨.inr ⟨rfl,R3.o⟩,bn.o.trans (dv.o.mono bn.o.size)⟩
end store
end Go.Proofs.YtdldkkoplgkloaaGreat
