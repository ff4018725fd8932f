/- PROVED HERE: lemmas of the law. CONDITIONS: each names its own. -/
import Derived.Deep.RegionHeld
import Derived.Deep.RegionLaw
import Derived.Test.YtdldkkoplgkloaaGreatPa0
import Derived.Test.YtdldkkoplgkloaaGreatPa4
import Derived.Test.YtdldkkoplgkloaaGreatPa10
import Derived.Test.YtdldkkoplgkloaaGreatPa11
namespace Go.Proofs.YtdldkkoplgkloaaGreat
set_option linter.unusedVariables false
set_option linter.unusedSimpArgs false
set_option maxRecDepth 100000
set_option maxHeartbeats 32000000
open Go.Value renaming int → ae
open Go.IntKind renaming i64 → aa
namespace bN
open Go.RowKit Go.Deep base obj mem sep aW num bytes bC chain image
section
variable {z:Int} {l:List aI} {B R k:Nat} {t:aY} {w w0:World}
theorem _root_.Go.Proofs.YtdldkkoplgkloaaGreat.image.RX.keep {w w':World} {B R:Nat} {s:Option (List Int)} (h:RX w B R s) (e:∀i,B≤i→i≤R→w'.heap[i]?=w.heap[i]?):RX w' B R s:=by
 cases s with
 | none =>
   obtain ⟨A,n,c,h,hb⟩:=h;exact ⟨A,n,c,(e R hb (Nat.le_refl _)).trans h,hb⟩
 | some b=>exact ⟨h.1.keep e,h.2⟩
def wu (B R:Nat) (s:Option (List Int)):aI where
 on w F:=RX w B R s∧∀i,F i ↔ B≤i∧i≤R
 dom:=fun ⟨h,k⟩ i hi=>by have:=h.lt;have:=(k i).1 hi;omega
 loc:=fun ⟨h,k⟩ e=>⟨h.keep fun i h1 h2=>e i ((k i).2 ⟨h1,h2⟩),k⟩
theorem _root_.Go.Proofs.YtdldkkoplgkloaaGreat.sep.St.glue {w':World} {L:List aI} (h:St w0 w l) (k:St w w' L):St w0 w' (du L::l):=by
 obtain ⟨F,h1,h2⟩:=k.sat;exact h.add k.aE (Q:=du L) h1 h2
theorem wC {s:Option (List Int)} (h:St w0 w (wu B R s::l)) (k:Nat) (h1:1≤k) (h6:k≤6) :
  Calls Tryz.prog 144 #[.pointer (some ⟨R,0,none⟩),ae aa k] w fun e w'=>e=.returned (ae aa ((rdNum k s).1:Nat))∧St w0 w' (wu B R (rdNum k s).2::l):=by
 obtain ⟨F,⟨hx,hF⟩,_,hf⟩:=h.frame;refine (vn hx k h1 h6).mono fun e w' ⟨e1,e2,e3⟩=>⟨e1,hf w' _ F (e3.mono fun i _ hi=>(hF i).2 (by have e':i=R:=hi;have:=hx.lt;omega)) ⟨e2,hF⟩ fun i hi=>.inl hi⟩
theorem GK {s:Option (List Int)} (h:St w0 w (wu B R s::l)) :
  Calls Tryz.prog 144 #[.pointer (some ⟨R,0,none⟩),ae aa 1] w fun e w'=>e=.returned (ae aa ((rdNum 1 s).1:Nat))∧St w0 w' (wu B R (rdNum 1 s).2::l):=wC h 1 (by omega) (by omega)
theorem GJ {s:Option (List Int)} (h:St w0 w (wu B R s::l)) :
  Calls Tryz.prog 144 #[.pointer (some ⟨R,0,none⟩),ae aa 2] w fun e w'=>e=.returned (ae aa ((rdNum 2 s).1:Nat))∧St w0 w' (wu B R (rdNum 2 s).2::l):=wC h 2 (by omega) (by omega)
theorem aaV {s:Option (List Int)} (h:St w0 w (wu B R s::l)) :
  Calls Tryz.prog 146 #[.pointer (some ⟨R,0,none⟩)] w fun e w'=>e=.returned (ae aa (ml s))∧w'=w:=by
 obtain ⟨F,⟨hx,hF⟩,_,_⟩:=h.frame;exact Xo hx
theorem X9 (h:St w0 w l) (A:Option Addr) (n c:Nat) (bs:List Int) (hl:bs.length=n) (hs:Sl w w.heap.size 1 A n (bs.map (.int .u8))) (hn:n≤100000) (cG:bn bs) :
  Calls Tryz.prog 143 #[.slice A n c] w fun e w'=>∃R,e=.returned (.pointer (some ⟨R,0,none⟩))∧St w0 w' (wu w.heap.size R (some bs)::l):=by
 refine (yG w A n c bs hl hs hn).mono fun e w' ⟨R,e1,e2,e3⟩=>⟨R,e1,?_⟩
 exact h.add e3 (F:=fun i=>w.heap.size≤i∧i≤R) ⟨⟨e2,cG,by omega⟩,fun i=>Iff.rfl⟩ fun i hi=>hi.1
theorem abE:(Tryz.prog.info? 147).map (fun i=>(i.zero,i.size,i.bytes))=some (some (.agg #[ae aa 0,ae aa 0,ae aa 0]),3,24):=by kernel_rfl
theorem abD:(Tryz.prog.info? 150).map (fun i=>(i.zero,i.size,i.bytes))=some (some (.agg #[ae aa 0,ae aa 0,ae aa 0]),3,24):=by kernel_rfl
theorem abF:(Tryz.prog.info? 152).map (fun i=>(i.zero,i.size,i.bytes))=some (some (.agg #[ae aa 0,ae aa 0,ae aa 0]),3,24):=by kernel_rfl
theorem aca:qP Tryz.prog 42 147 3 24:=by
 obtain ⟨i,h1,h2,h3,h4⟩:=info_parts abE;exact ⟨Tryz.underlying42,⟨i,_,h1,h2,h3,h4,rfl⟩,by decide⟩
theorem ab8:qP Tryz.prog 43 150 3 24:=by
 obtain ⟨i,h1,h2,h3,h4⟩:=info_parts abD;exact ⟨Tryz.underlying43,⟨i,_,h1,h2,h3,h4,rfl⟩,by decide⟩
theorem acb:qP Tryz.prog 44 152 3 24:=by
 obtain ⟨i,h1,h2,h3,h4⟩:=info_parts abF;exact ⟨Tryz.underlying44,⟨i,_,h1,h2,h3,h4,rfl⟩,by decide⟩
theorem Bv {t e:TypeId} (T:qP Tryz.prog t e 3 24) {ops:Array Oper} {o:Oper} {a:Act} {K:Act→World→Prop} {Q:Exit→Act→World→Prop} {E:Prop} {w0 w:World} {l:List aI} (eP:o.guard=none) (s x:Operand)
  (ho:o.op=.call { callee:=.builtin .append,args:=#[s,x],argTypes:=#[t,t] }) {v:Value} {n:Nat} {xs:List Value} (H:St w0 w (own e 3 v n xs::l)) (hs:a.eval s=v) {z0 z1 z2:Int} (hx:a.eval x=.slice (some ⟨w.heap.size,0,none⟩) 1 1) (hn:n≤1000000)
  (h:∀v' w',St w0 w' (own e 3 v' (n+1) (xs++[ae aa z0,ae aa z1,ae aa z2])::l)→K (a.put o.dst v') w'):if Region.wanted o (yielded ops a.tmps)=true then Oper.wp Tryz.prog o a (w.alloc (.cells #[ae aa z0,ae aa z1,ae aa z2] e)) K Q else E:=by
 have HX:=(H.new e #[ae aa z0,ae aa z1,ae aa z2]).swap;exact Hw T eP s x ho HX.own hs hx ((Row.new w e #[ae aa z0,ae aa z1,ae aa z2]).sl (B:=w.heap.size+1) (size:=3) (n:=1) (o:=0) (ys:=[ae aa z0,ae aa z1,ae aa z2]) (Nat.lt_succ_self _) rfl rfl) (by simp [Value.oneCell']) (by omega) (by omega) (by unfold maxLen;omega) HX.aE.size fun g cap w' ho hg kU _=>h _ w' ((HX.grown hg ho (fun g' xV=>by cases xV;exact kU)).swap.drop)
theorem yH (h0:0≤z) (h1:z≤255) (rest:List Int):rdNum 1 (some (z::rest))=(z.toNat,some rest):=by
 have h:=mC (k:=1) (m:=z.toNat) (by omega) rest;rw [Mg h0 h1] at h;exact h
theorem rd2 (h0:0≤z) (h1:z≤65535) (rest:List Int):rdNum 2 (some (be 2 z.toNat++rest))=(z.toNat,some rest):=mC (k:=2) (m:=z.toNat) (by omega) rest
def jN (l:List T3) (f:T3→List Int) (k:Nat) (r:List Int):List Int:=(l.drop k).flatMap f++r
theorem zL {l:List T3} {f:T3→List Int} (hk:k < l.length) (r:List Int):jN l f k r=f l[k]++jN l f (k+1) r:=by
 rw [jN,List.drop_eq_getElem_cons hk,List.flatMap_cons,List.append_assoc];rfl
theorem BA {l:List T3} {f:T3→List Int} (hk:k=l.length) (r:List Int):jN l f k r=r:=by
 subst hk;simp [jN]
theorem XN (r:Wz t):bn (sk t):=by
 have:=r.fr;have:=r.tr;have:=r.np;have:=r.nw;have:=r.nc;intro z hz;simp only [sk,List.mem_append,List.mem_flatMap] at hz;rcases hz with ((hz|⟨x,hx,hz⟩)|⟨x,hx,hz⟩)|⟨x,hx,hz⟩
 ·simp only [dI,List.mem_cons,List.not_mem_nil,or_false] at hz;rcases hz with rfl|rfl|rfl|rfl|rfl<;>omega
 ·have h:=r.ps x hx;simp only [ea,List.mem_append,List.mem_cons,List.not_mem_nil,or_false] at hz;rcases hz with (rfl|rfl)|hz
  ·omega
  ·omega
  ·exact qO _ _ z hz
 ·have h:=r.ws x hx;simp only [fY,List.mem_cons,List.not_mem_nil,or_false] at hz;rcases hz with rfl|rfl|rfl<;>omega
 ·have h:=r.cs x hx;simp only [fY,List.mem_cons,List.not_mem_nil,or_false] at hz;rcases hz with rfl|rfl|rfl<;>omega
theorem XM (r:Wz t):(sk t).length≤1000:=by
 have:=r.np;have:=r.nw;have:=r.nc;simp only [sk,dI,gC,List.length_cons,List.length_nil,kX xz,kX CG];omega
theorem XK (hr:t.right=true) (A:Option Addr) (n c:Nat) (hn:(sk t).length=n) (hs:Sl w w.heap.size 1 A n (aP (sk t))) :
  Calls Tryz.prog 117 #[.slice A n c] w fun e w'=>∃AP cP AW cW AC cC,e=.returned (.tuple #[tW t.frame AP t.parts.length cP AW t.aJ.length cW AC t.av.length cC t.ay,ae aa 0])∧St w w' [own 147 3 (.slice AP t.parts.length cP) t.parts.length (gD t.parts),own 150 3 (.slice AW t.aJ.length cW) t.aJ.length (gD t.aJ),own 152 3 (.slice AC t.av.length cC) t.av.length (gD t.av)]:=by
 have R:=aY.r hr;have HB:=af (XN R);have hl:=XM R;have HR:=af R;have eR:=af (fun (w':World) (AP:Option Addr) (nP cP:Nat) (AW:Option Addr) (nW cW:Nat) (AC:Option Addr) (nC cC:Nat) (h:pX w' w'.heap.size t AP nP cP AW nW cW AC nC cC)=>fR h);rw [hr] at eR;obtain ⟨T0,hT0⟩:=xE w.heap.size;obtain ⟨w1,aF⟩:=xE (w.alloc (.cells #[ae aa 0,.slice none 0 0,.slice none 0 0,.slice none 0 0,ae aa 0] 46));have H1:=af (show St w w1 [row T0 46 (di 0 none 0 0 none 0 0 none 0 0 0)] by rw [aF,hT0];exact (St.nil w).new _ _);have HS:=af (hs.below H1.o.aE |>.more H1.o.aE.size);have px:=af (X9 H1.o A n c (sk t) hn HS.o (by omega) HB.o);have br:=af aF;have HT0:=af hT0;obtain ⟨hd,N7⟩:=xE (sk t);rw [←N7] at px;have HHD:=af N7;obtain ⟨fr,ku⟩:=xE t.frame;obtain ⟨tr,jJ⟩:=xE t.ay;rw [←ku,←jJ];obtain ⟨nP,pL⟩:=xE t.parts.length;obtain ⟨nW,y8⟩:=xE t.aJ.length;obtain ⟨nC,qA⟩:=xE t.av.length;rw [←pL,←y8,←qA]
 have HD:=af (show hd=fr::tr::(nP:Int)::(nW:Int)::(nC:Int)::jN t.parts ea 0 (jN t.aJ fY 0 (jN t.av fY 0 [])) by
  rw [HHD.o,ku,jJ,pL,y8,qA]
  simp [sk,dI,jN])
 have r1:=HR.o.fr;have r2:=HR.o.tr;have r3:=HR.o.np;have r4:=HR.o.nw;have r5:=HR.o.nc;rw [←ku] at r1;rw [←jJ] at r2;rw [←pL] at r3;rw [←y8] at r4;rw [←qA] at r5;have JF:=af ku;have Jy:=af jJ;have Cp:=af pL;have JD:=af y8;have Cq:=af qA;have N1:=af (yH (z:=fr) (by omega) (by omega));have N2:=af (yH (z:=tr) (by omega) (by omega));have N3:=af (yH (z:=(nP:Int)) (by omega) (by omega));have N4:=af (yH (z:=(nW:Int)) (by omega) (by omega));have N5:=af (yH (z:=(nC:Int)) (by omega) (by omega));have I1:((fr.toNat:Nat):Int)=fr:=by omega
 have I2:((tr.toNat:Nat):Int)=tr:=by omega
 have I3:(((nP:Int).toNat:Nat):Int)=nP:=by omega
 have I4:(((nW:Int).toNat:Nat):Int)=nW:=by omega
 have I5:(((nC:Int).toNat:Nat):Int)=nC:=by omega
 have ME:=af I1;have T9:=af I2;have DW:=af I3;have HI4:=af I4;have HI5:=af I5;obtain ⟨rest,vq⟩:=xE (jN t.parts ea 0 (jN t.aJ fY 0 (jN t.av fY 0 [])));rw [←vq] at HD;have JB:=af vq;clear ku jJ pL y8 qA I1 I2 I3 I4 I5 vq;clear aF hT0 hr R hs N7 hl;go_enter Tryz.func117,Tryz.ntmps117;go_upto_region 1 with fail;rw [←br.o,←HT0.o];go_wp2_with fail;refine px.o.mono ?_;rintro e w2 ⟨RR,rfl,ak⟩;generalize hBB:w1.heap.size=BB at ak;clear hBB;obtain ⟨T,hT⟩:=xE w2.heap.size;obtain ⟨w3,nQ⟩:=xE (w2.alloc (.cells #[ae aa 0,.slice none 0 0,.slice none 0 0,.slice none 0 0,ae aa 0] 46));have GR:=ak.new 46 #[ae aa 0,.slice none 0 0,.slice none 0 0,.slice none 0 0,ae aa 0];rw [←hT,←nQ] at GR;have H3:=af (show St w w3 [wu BB RR (some hd),row T 46 (di 0 none 0 0 none 0 0 none 0 0 0),row T0 46 (di 0 none 0 0 none 0 0 none 0 0 0)] from GR.swap);clear ak GR H1;go_upto_region 3 with fail;rw [←hT,←nQ];have HT:=af hT;clear nQ hT;have h3:=H3.o;rw [HD.o] at h3;have H3:=af h3;clear h3;go_wp2_with fail;refine (wC H3.o 1 (by omega) (by omega)).mono ?_;rintro e w4 ⟨rfl,ak⟩;rw [N1.o] at ak ⊢;dsimp only at ak ⊢;rw [ME.o];have H4:=af ak;clear ak H3;go_wp2_with fail;refine (wC H4.o 1 (by omega) (by omega)).mono ?_;rintro e w5 ⟨rfl,ak⟩;rw [N2.o] at ak ⊢;dsimp only at ak ⊢;rw [T9.o];have H5:=af ak;clear ak H4;have t0:=H5.o.swap.row.1.c0;have t4:=H5.o.swap.row.1.c4;have f0:w5.frozen? ⟨T,0,none⟩=false:=H5.o.swap.row.1.frozen 0;have f4:w5.frozen? ⟨T,4,none⟩=false:=H5.o.swap.row.1.frozen 4;have lT:=H5.o.swap.row.1.lt;go_wp2_with fail;obtain ⟨w6,mK⟩:∃v,v=(w5.setCell ⟨T,0,none⟩ (ae aa fr)).setCell ⟨T,4,none⟩ (ae aa tr):=⟨_,rfl⟩
 rw [←mK];have uG:=((H5.o.swap.set 0 (ae aa fr)).set 4 (ae aa tr)).swap;rw [←mK] at uG;have H6:=af (show St w w6 [wu BB RR (some ((nP:Int)::(nW:Int)::(nC:Int)::rest)),row T 46 (di fr none 0 0 none 0 0 none 0 0 tr),row T0 46 (di 0 none 0 0 none 0 0 none 0 0 0)] from uG);clear uG mK H5 t0 t4 f0 f4 lT;refine (wC H6.o 1 (by omega) (by omega)).mono ?_;rintro e w7 ⟨rfl,ak⟩;rw [N3.o] at ak ⊢;dsimp only at ak ⊢;rw [DW.o];have H7:=af ak;clear ak H6;go_wp2_with fail;refine (wC H7.o 1 (by omega) (by omega)).mono ?_;rintro e w8 ⟨rfl,ak⟩;rw [N4.o] at ak ⊢;dsimp only at ak ⊢;rw [HI4.o];have H8:=af ak;clear ak H7;go_wp2_with fail;refine (wC H8.o 1 (by omega) (by omega)).mono ?_;rintro e w9 ⟨rfl,ak⟩;rw [N5.o] at ak ⊢;dsimp only at ak ⊢;rw [HI5.o];have H9:=af ak;clear ak H8;have jg:=af (show St w w9 [wu BB RR (some (jN t.parts ea 0 (jN t.aJ fY 0 (jN t.av fY 0 [])))),row T 46 (di fr none 0 0 none 0 0 none 0 0 tr),row T0 46 (di 0 none 0 0 none 0 0 none 0 0 0)] by have h:=H9.o;rw [JB.o] at h;exact h);clear H9;have nz:∀(w':World) (B e:Nat),w'.ownsRow B e 3 (.slice none 0 0) 0 []:=fun _ _ _=>⟨rfl,.inl ⟨rfl,rfl⟩⟩
 go_wp2_with fail;go_loopw [25] (fun i wr=>∃(j:Nat) (v:Value),j≤nP∧i=ae aa j∧St w wr [wu BB RR (some (jN t.parts ea j (jN t.aJ fY 0 (jN t.av fY 0 [])))),row T 46 [ae aa fr,v,(.slice none 0 0),(.slice none 0 0),ae aa tr],own 147 3 v j (gD (t.parts.take j)),row T0 46 (di 0 none 0 0 none 0 0 none 0 0 0)]) (fun i _=>nP-(intOf i).toNat)
 case atStart=>exact ⟨0,.slice none 0 0,by omega,rfl,((jg.o.cX (Below.refl _ _) (nz _ _ _)).pick 2 rfl).pick 2 rfl⟩
 case round =>
  obtain ⟨j,v,hj,rfl,ak⟩:=hrel;clear jg;by_cases aH:j < nP
  ·have dJ:j < t.parts.length:=by have:=Cp.o;omega
   have qQ:=HR.o.ps _ (List.getElem_mem dJ);have yc:=af (show gD (t.parts.take (j+1))=gD (t.parts.take j)++T3.cells t.parts[j] by rw [kr dJ,zE]);rw [zL dJ] at ak;have n4:=HR.o.np;generalize t.parts[j]=x at *;obtain ⟨xa,xb,xc⟩:=x;simp only at qQ;simp only [ea,fY,List.cons_append,List.nil_append] at ak;have NA:=af (yH (z:=xa) (by omega) (by omega));have NB:=af (yH (z:=xb) (by omega) (by omega));have NC:=af (rd2 (z:=xc) (by omega) (by omega));have IA:=af (show ((xa.toNat:Nat):Int)=xa by omega);have IB:=af (show ((xb.toNat:Nat):Int)=xb by omega);have IC:=af (show ((xc.toNat:Nat):Int)=xc by omega);have H:=af ak.drew;have t1:=ak.swap.row.1.c1;have lT:=ak.swap.row.1.lt;have k1:(j:Int) < (nP:Int):=by omega
   clear ak qQ;go_wp2_with fail
   go_region_law (first
    | (go_simp;(first|(with_reducible refine (GK H.o).mono ?_)|(with_reducible refine (GJ H.o).mono ?_));rintro e w' ⟨rfl,ak⟩;(first|rw [NA.o] at ak ⊢|rw [NB.o] at ak ⊢|rw [NC.o] at ak ⊢);dsimp only at ak ⊢;(first|rw [IA.o]|rw [IB.o]|rw [IC.o]);have H:=af ak;have t1:=ak.swap.row.1.c1;have lT:=ak.swap.row.1.lt;clear ak)
    | (refine Bv aca (by rfl) (.tmp 28) (.tmp 36) (by rfl) (H.o.pick 2 rfl) (by rfl) (by rfl) (by omega) ?_;intro v8 w8 ak;have H8:=af (ak.pick 2 rfl);have f8:w8.frozen? ⟨T,1,none⟩=false:=(ak.pick 2 rfl).row.1.frozen 1;have c8:=(ak.pick 2 rfl).row.1.c1;have l8:=(ak.pick 2 rfl).row.1.lt;obtain ⟨A8,d8,rfl,_,_⟩:=aD ak.own;clear ak))
   all_goals
    go_wp2_with fail;go_roundw
    case rel =>
     refine ⟨j+1,.slice A8 (j+1) d8,by omega,by go_num,?_⟩;have h:=(H8.o.set 1 (.slice A8 (j+1) d8))
     simp only [List.set_cons_succ,List.set_cons_zero] at h;rw [yc.o];exact h.pick 2 rfl
    case measure=>simp [intOf];omega
  ·have HE:=af (show j=t.parts.length by have:=Cp.o;omega);have k1:¬(j:Int) < (nP:Int):=by omega
   rw [BA HE.o] at ak;have hk:gD (t.parts.take j)=gD t.parts:=by rw [HE.o,List.take_length]
   have BQ:j=nP:=by omega
   rw [hk,BQ] at ak;have jg:=af ak;clear ak hk BQ;go_wp2_with fail;generalize wr=Q1 at *;generalize v=v1 at *;go_loopw [41] (fun i wr=>∃(j:Nat) (v:Value),j≤nW∧i=ae aa j∧St w wr [wu BB RR (some (jN t.aJ fY j (jN t.av fY 0 []))),row T 46 [ae aa fr,v1,v,(.slice none 0 0),ae aa tr],own 150 3 v j (gD (t.aJ.take j)),own 147 3 v1 nP (gD t.parts),row T0 46 (di 0 none 0 0 none 0 0 none 0 0 0)]) (fun i _=>nW-(intOf i).toNat)
   case atStart=>exact ⟨0,.slice none 0 0,by omega,rfl,((jg.o.cX (Below.refl _ _) (nz _ _ _)).pick 2 rfl).pick 2 rfl⟩
   case round =>
    obtain ⟨j,v,hj,rfl,ak⟩:=hrel;clear jg;by_cases aH:j < nW
    ·have dJ:j < t.aJ.length:=by have:=JD.o;omega
     have qQ:=HR.o.ws _ (List.getElem_mem dJ);have yc:=af (show gD (t.aJ.take (j+1))=gD (t.aJ.take j)++T3.cells t.aJ[j] by rw [kr dJ,zE]);rw [zL dJ] at ak;have n4:=HR.o.np;generalize t.aJ[j]=x at *;obtain ⟨xa,xb,xc⟩:=x;simp only at qQ;simp only [ea,fY,List.cons_append,List.nil_append] at ak;have NA:=af (yH (z:=xa) (by omega) (by omega));have NB:=af (yH (z:=xb) (by omega) (by omega));have NC:=af (yH (z:=xc) (by omega) (by omega));have IA:=af (show ((xa.toNat:Nat):Int)=xa by omega);have IB:=af (show ((xb.toNat:Nat):Int)=xb by omega);have IC:=af (show ((xc.toNat:Nat):Int)=xc by omega);have H:=af ak.drew;have t1:=ak.swap.row.1.c2;have lT:=ak.swap.row.1.lt;have k1:(j:Int) < (nW:Int):=by omega
     clear ak qQ;go_wp2_with fail
     go_region_law (first
      | (go_simp;(first|(with_reducible refine (GK H.o).mono ?_)|(with_reducible refine (GJ H.o).mono ?_));rintro e w' ⟨rfl,ak⟩;(first|rw [NA.o] at ak ⊢|rw [NB.o] at ak ⊢|rw [NC.o] at ak ⊢);dsimp only at ak ⊢;(first|rw [IA.o]|rw [IB.o]|rw [IC.o]);have H:=af ak;have t1:=ak.swap.row.1.c2;have lT:=ak.swap.row.1.lt;clear ak)
      | (refine Bv ab8 (by rfl) (.tmp 44) (.tmp 52) (by rfl) (H.o.pick 2 rfl) (by rfl) (by rfl) (by omega) ?_;intro v8 w8 ak;have H8:=af (ak.pick 2 rfl);have f8:w8.frozen? ⟨T,2,none⟩=false:=(ak.pick 2 rfl).row.1.frozen 2;have c8:=(ak.pick 2 rfl).row.1.c2;have l8:=(ak.pick 2 rfl).row.1.lt;obtain ⟨A8,d8,rfl,_,_⟩:=aD ak.own;clear ak))
     all_goals
      go_wp2_with fail;go_roundw
      case rel =>
       refine ⟨j+1,.slice A8 (j+1) d8,by omega,by go_num,?_⟩;have h:=(H8.o.set 2 (.slice A8 (j+1) d8))
       simp only [List.set_cons_succ,List.set_cons_zero] at h;rw [yc.o];exact h.pick 2 rfl
      case measure=>simp [intOf];omega
    ·have HE:=af (show j=t.aJ.length by have:=JD.o;omega);have k1:¬(j:Int) < (nW:Int):=by omega
     rw [BA HE.o] at ak;have hk:gD (t.aJ.take j)=gD t.aJ:=by rw [HE.o,List.take_length]
     have BQ:j=nW:=by omega
     rw [hk,BQ] at ak;have jg:=af ak;clear ak hk BQ;go_wp2_with fail;generalize wr=vT at *;generalize v=v2 at *;go_loopw [57] (fun i wr=>∃(j:Nat) (v:Value),j≤nC∧i=ae aa j∧St w wr [wu BB RR (some (jN t.av fY j [])),row T 46 [ae aa fr,v1,v2,v,ae aa tr],own 152 3 v j (gD (t.av.take j)),own 150 3 v2 nW (gD t.aJ),own 147 3 v1 nP (gD t.parts),row T0 46 (di 0 none 0 0 none 0 0 none 0 0 0)]) (fun i _=>nC-(intOf i).toNat)
     case atStart=>exact ⟨0,.slice none 0 0,by omega,rfl,((jg.o.cX (Below.refl _ _) (nz _ _ _)).pick 2 rfl).pick 2 rfl⟩
     case round =>
      obtain ⟨j,v,hj,rfl,ak⟩:=hrel;clear jg;by_cases aH:j < nC
      ·have dJ:j < t.av.length:=by have:=Cq.o;omega
       have qQ:=HR.o.cs _ (List.getElem_mem dJ);have yc:=af (show gD (t.av.take (j+1))=gD (t.av.take j)++T3.cells t.av[j] by rw [kr dJ,zE]);rw [zL dJ] at ak;have n4:=HR.o.np;generalize t.av[j]=x at *;obtain ⟨xa,xb,xc⟩:=x;simp only at qQ;simp only [ea,fY,List.cons_append,List.nil_append] at ak;have NA:=af (yH (z:=xa) (by omega) (by omega));have NB:=af (yH (z:=xb) (by omega) (by omega));have NC:=af (yH (z:=xc) (by omega) (by omega));have IA:=af (show ((xa.toNat:Nat):Int)=xa by omega);have IB:=af (show ((xb.toNat:Nat):Int)=xb by omega);have IC:=af (show ((xc.toNat:Nat):Int)=xc by omega);have H:=af ak.drew;have t1:=ak.swap.row.1.c3;have lT:=ak.swap.row.1.lt;have k1:(j:Int) < (nC:Int):=by omega
       clear ak qQ;go_wp2_with fail
       go_region_law (first
        | (go_simp;(first|(with_reducible refine (GK H.o).mono ?_)|(with_reducible refine (GJ H.o).mono ?_));rintro e w' ⟨rfl,ak⟩;(first|rw [NA.o] at ak ⊢|rw [NB.o] at ak ⊢|rw [NC.o] at ak ⊢);dsimp only at ak ⊢;(first|rw [IA.o]|rw [IB.o]|rw [IC.o]);have H:=af ak;have t1:=ak.swap.row.1.c3;have lT:=ak.swap.row.1.lt;clear ak)
        | (refine Bv acb (by rfl) (.tmp 60) (.tmp 68) (by rfl) (H.o.pick 2 rfl) (by rfl) (by rfl) (by omega) ?_;intro v8 w8 ak;have H8:=af (ak.pick 2 rfl);have f8:w8.frozen? ⟨T,3,none⟩=false:=(ak.pick 2 rfl).row.1.frozen 3;have c8:=(ak.pick 2 rfl).row.1.c3;have l8:=(ak.pick 2 rfl).row.1.lt;obtain ⟨A8,d8,rfl,_,_⟩:=aD ak.own;clear ak))
       all_goals
        go_wp2_with fail;go_roundw
        case rel =>
         refine ⟨j+1,.slice A8 (j+1) d8,by omega,by go_num,?_⟩;have h:=(H8.o.set 3 (.slice A8 (j+1) d8))
         simp only [List.set_cons_succ,List.set_cons_zero] at h;rw [yc.o];exact h.pick 2 rfl
        case measure=>simp [intOf];omega
      ·have HE:=af (show j=t.av.length by have:=Cq.o;omega);have k1:¬(j:Int) < (nC:Int):=by omega
       rw [BA HE.o] at ak;have hk:gD (t.av.take j)=gD t.av:=by rw [HE.o,List.take_length]
       have BQ:j=nC:=by omega
       rw [hk,BQ] at ak;have jg:=af ak;clear ak hk BQ;go_wp2_with fail;generalize wr=Nk at *;generalize v=v3 at *;obtain ⟨A1,c1,rfl,_,Sw⟩:=aD (jg.o.pick 4 rfl).own;obtain ⟨A2,c2,rfl,_,xN⟩:=aD (jg.o.pick 3 rfl).own;obtain ⟨A3,c3,rfl,_,hm3⟩:=aD (jg.o.pick 2 rfl).own;refine (aaV jg.o).mono ?_;rintro e E2 ⟨rfl,rfl⟩;rw [show ml (some [])=0 from rfl];have mQ:=af (show St w E2 [row T 46 [ae aa fr,.slice A1 nP c1,.slice A2 nW c2,.slice A3 nC c3,ae aa tr],wu BB RR (some []),own 152 3 (.slice A3 nC c3) nC (gD t.av),own 150 3 (.slice A2 nW c2) nW (gD t.aJ),own 147 3 (.slice A1 nP c1) nP (gD t.parts),row T0 46 (di 0 none 0 0 none 0 0 none 0 0 0)] from jg.o.swap);clear jg;have t0:=mQ.o.row.1.c0;have t1:=mQ.o.row.1.c1;have t2:=mQ.o.row.1.c2;have t3:=mQ.o.row.1.c3;have t4:=mQ.o.row.1.c4;have lT:=mQ.o.row.1.lt;go_wp2_with fail;have xH:=eR.o E2 A1 nP c1 A2 nW c2 A3 nC c3 ⟨Sl.bP (mQ.o.pick 4 rfl).own,Sl.bP (mQ.o.pick 3 rfl).own,Sl.bP (mQ.o.pick 2 rfl).own,Cp.o,JD.o,Cq.o,by unfold maxLen;omega,by unfold maxLen;omega,by unfold maxLen;omega⟩;rw [←JF.o,←Jy.o] at xH;have HH:=af xH;clear xH;refine HH.o.mono ?_;rintro e w14 ⟨rfl,BZ⟩;have xo:=af (mQ.o.below BZ);clear BZ t0 t1 t2 t3 t4 lT mQ;have t0:=xo.o.row.1.c0;have t1:=xo.o.row.1.c1;have t2:=xo.o.row.1.c2;have t3:=xo.o.row.1.c3;have t4:=xo.o.row.1.c4;have lT:=xo.o.row.1.lt;go_wp2_with (refine aB rfl 46 (.tmp 2) (.tmp 82) rfl T0 0 #[ae aa fr,.slice A1 nP c1,.slice A2 nW c2,.slice A3 nC c3,ae aa tr] rfl rfl (xo.o.pick 5 rfl).row.1 (by kernel_rfl) (by simp) (by simp [Value.oneCell']) [ae aa fr,.slice A1 nP c1,.slice A2 nW c2,.slice A3 nC c3,ae aa tr] (by simp) ?_);refine bodyPost_ret (aL rfl _ _ T0 _ _ _ _ _ rfl rfl ((xo.o.pick 5 rfl).row.1.setRow [ae aa fr,.slice A1 nP c1,.slice A2 nW c2,.slice A3 nC c3,ae aa tr]) Tryz.underlying46 rfl (by kernel_rfl)) rfl ?_;have h:=((xo.o.pick 5 rfl).setRow [ae aa fr,.slice A1 nP c1,.slice A2 nW c2,.slice A3 nC c3,ae aa tr]).drop.drop.drop;exact ⟨A1,c1,A2,c2,A3,c3,rfl,(h.pick 1 rfl).pick 2 rfl⟩
end
section
variable {l:List aI} {w w0:World}
structure dF where
 AP:Option Addr
 cP:Nat
 AW:Option Addr
 cW:Nat
 AC:Option Addr
 cC:Nat
def dF.val (a:dF) (t:aY):Value:=tW t.frame a.AP t.parts.length a.cP a.AW t.aJ.length a.cW a.AC t.av.length a.cC t.ay
@[reducible] def ff (a:dF) (t:aY):List Value:=[.int .i64 t.frame,.slice a.AP t.parts.length a.cP,.slice a.AW t.aJ.length a.cW,.slice a.AC t.av.length a.cC,.int .i64 t.ay]
def Dj (a:dF) (t:aY):aI:=du [own 147 3 (.slice a.AP t.parts.length a.cP) t.parts.length (gD t.parts),own 150 3 (.slice a.AW t.aJ.length a.cW) t.aJ.length (gD t.aJ),own 152 3 (.slice a.AC t.av.length a.cC) t.av.length (gD t.av)]
def ko (w:World) (a:dF) (t:aY):Prop:=pX w w.heap.size t a.AP t.parts.length a.cP a.AW t.aJ.length a.cW a.AC t.av.length a.cC
theorem abt {a:dF} {t:aY} (h:St w0 w (Dj a t::l)):ko w a t:=by
 have h:=h.fI;have h1:=h.own;have h2:=(h.pick 1 rfl).own;have h3:=(h.pick 2 rfl).own;obtain ⟨_,_,e1,f1,g1⟩:=aD h1;obtain ⟨_,_,e2,f2,g2⟩:=aD h2;obtain ⟨_,_,e3,f3,g3⟩:=aD h3;injection e1 with _ _ e1;injection e2 with _ _ e2;injection e3 with _ _ e3
 exact ⟨Sl.bP h1,Sl.bP h2,Sl.bP h3,rfl,rfl,rfl,by omega,by omega,by omega⟩
theorem Nz (h0:St w0 w l) {a:dF} {t:aY} (h:ko w a t) (hr:t.right=true) :
  Calls Tryz.prog 69 #[a.val t] w fun e w'=>∃a':dF,e=.returned (a'.val t)∧St w0 w' (Dj a' t::l):=by
 have HP:=af (fun (w':World) (hb:Below w.heap.size w w')=>XJ (h.over hb) hr);have HG:=af (fun (w':World) (A:Option Addr) (n c:Nat) (hn:(sk t).length=n) (hs:Sl w' w'.heap.size 1 A n (aP (sk t)))=>XK hr A n c hn hs);obtain ⟨T,hT⟩:=xE w.heap.size;obtain ⟨AP,cP,AW,cW,AC,cC⟩:=a;simp only [dF.val];obtain ⟨w1,aF⟩:∃w1,w1=(w.alloc (.cells #[ae aa t.frame,.slice AP t.parts.length cP,.slice AW t.aJ.length cW,.slice AC t.av.length cC,ae aa t.ay] 46)).alloc (.cells #[ae aa 0,.slice none 0 0,.slice none 0 0,.slice none 0 0,ae aa 0] 46):=⟨_,rfl⟩
 have H1:=af (show St w w1 [row T 46 (di t.frame AP t.parts.length cP AW t.aJ.length cW AC t.av.length cC t.ay),row (T+1) 46 (di 0 none 0 0 none 0 0 none 0 0 0)] by
  have h:=((St.nil w).new 46 #[ae aa t.frame,.slice AP t.parts.length cP,.slice AW t.aJ.length cW,.slice AC t.av.length cC,ae aa t.ay]).new 46 #[ae aa 0,.slice none 0 0,.slice none 0 0,.slice none 0 0,ae aa 0];rw [show (w.alloc (.cells #[ae aa t.frame,.slice AP t.parts.length cP,.slice AW t.aJ.length cW,.slice AC t.av.length cC,ae aa t.ay] 46)).heap.size=T+1 by rw [hT];exact Array.size_push _,←hT,←aF] at h
  exact h.swap)
 have br:=af aF;have HT:=af hT;have H0:=af h0;obtain ⟨nP,pL⟩:=xE t.parts.length;obtain ⟨nW,y8⟩:=xE t.aJ.length;obtain ⟨nC,qA⟩:=xE t.av.length;obtain ⟨fr,ku⟩:=xE t.frame;obtain ⟨tr,jJ⟩:=xE t.ay;simp only [←ku,←jJ,←pL,←y8,←qA] at HP HG H1 aF br ⊢;have JF:=af ku;have Jy:=af jJ;have sP:=af pL;have HNW:=af y8;have yg:=af qA;clear aF hT h0 h hr pL y8 qA ku jJ;go_enter Tryz.func69,Tryz.ntmps69;go_upto_region 1 with fail;rw [←br.o,←HT.o];have t0:=H1.o.row.1.c0;have t1:=H1.o.row.1.c1;have t2:=H1.o.row.1.c2;have t3:=H1.o.row.1.c3;have t4:=H1.o.row.1.c4;have lT:=H1.o.row.1.lt;go_wp2_with fail;refine (HP.o w1 H1.o.aE).mono ?_;rintro e w2 ⟨v,rfl,ho,hb⟩;have H2:=af (H1.o.below hb);obtain ⟨A,c,rfl,_,_⟩:=aD ho;have HS:=af (Sl.bP ho);clear t0 t1 t2 t3 t4 lT H1 ho hb;obtain ⟨n,hn⟩:∃n,n=(sk t).length:=⟨_,rfl⟩
 rw [←hn] at HS ⊢;have HN:=af hn.symm;clear hn;go_wp2_with fail;refine (HG.o w2 A n c HN.o HS.o).mono ?_;rintro e w3 ⟨A1,c1,A2,c2,A3,c3,rfl,ak⟩;have H3:=af ((H2.o.glue ak).pick 1 rfl);clear ak H2;have t0:=H3.o.row.1.c0;have lT:=H3.o.row.1.lt;have h4:=H3.o.setRow [ae aa fr,.slice A1 nP c1,.slice A2 nW c2,.slice A3 nC c3,ae aa tr];go_upto_region 3 with (refine aB rfl 46 (.tmp 1) (.tmp 13) rfl T 0 #[ae aa fr,.slice A1 nP c1,.slice A2 nW c2,.slice A3 nC c3,ae aa tr] rfl rfl H3.o.row.1 (by kernel_rfl) (by simp) (by simp [Value.oneCell']) [ae aa fr,.slice A1 nP c1,.slice A2 nW c2,.slice A3 nC c3,ae aa tr] (by simp) ?_)
 obtain ⟨w4,dW⟩:=xE (w3.setRow T #[ae aa fr,.slice A1 nP c1,.slice A2 nW c2,.slice A3 nC c3,ae aa tr]);rw [←dW] at h4 ⊢;have H4:=af h4;have t0:=h4.row.1.c0;have t1:=h4.row.1.c1;have t2:=h4.row.1.c2;have t3:=h4.row.1.c3;have t4:=h4.row.1.c4;have lT:=h4.row.1.lt;clear h4 dW;have r1:=(H4.o.pick 2 rfl).row.1;have iR:=af r1;clear r1;go_wp2_with (refine aB rfl 46 (.tmp 2) (.tmp 15) rfl (T+1) 0 #[ae aa fr,.slice A1 nP c1,.slice A2 nW c2,.slice A3 nC c3,ae aa tr] rfl rfl iR.o (by kernel_rfl) (by simp) (by simp [Value.oneCell']) [ae aa fr,.slice A1 nP c1,.slice A2 nW c2,.slice A3 nC c3,ae aa tr] (by simp) ?_);have h:=(H4.o.pick 2 rfl).setRow [ae aa fr,.slice A1 nP c1,.slice A2 nW c2,.slice A3 nC c3,ae aa tr];refine bodyPost_ret (v:=.agg #[ae aa fr,.slice A1 nP c1,.slice A2 nW c2,.slice A3 nC c3,ae aa tr]) (results_cell_row rfl _ _ (T+1) _ _ _ _ rfl (h.row.1) Tryz.underlying46 rfl (by kernel_rfl)) rfl ?_;have h2:=(h.pick 2 rfl).take 1;obtain rfl:=sP.o;obtain rfl:=HNW.o;obtain rfl:=yg.o;obtain rfl:=JF.o;obtain rfl:=Jy.o;exact ⟨⟨A1,c1,A2,c2,A3,c3⟩,rfl,(H0.o.glue h2).fI⟩
end
end bN
namespace aW
open Go.RowKit
section
variable {P : Program} {Q : Exit → Act → World → Prop} {md : Region.Mode} {w : World} {l : List Oper} {a : Act} {S : World → Prop}
theorem eb (S:World→Prop) {id:Nat} (hm:P.follows .mixedOrders=true) (hS:S w.drew) (h:S w.drew→wpAnyH P .any l.toArray Q S l.toArray.size (Array.replicate l.toArray.size false) a w.drew):(Code.region id l.toArray true).wp P Q a w:=wp_region_held_drew hm hS h
theorem SM {N:Nat} {ao:Array Bool} {v:Value} (i:Nat) (hB:Ag md l.toArray i ao N=true) (hQ:∀c a d v w,Q (.panic c) (Act.put a (some d) v) w→Q (.panic c) a w)
  (hw:Region.wanted ((l[i]?).getD default) (yielded l.toArray a.tmps)=true) (hv:∀w2,S w2→(execOp a.eval ((l[i]?).getD default)).run P w2=.ok (.value v) w2) (hS:S w)
  (h:wpAnyH P md l.toArray Q S (N-1) (ao.setIfInBounds i true) (a.put ((l[i]?).getD default).dst v) w):wpAnyH P md l.toArray Q S N ao a w:=by
 simp only [Ag,Bool.and_eq_true,decide_eq_true_eq] at hB;obtain ⟨⟨⟨⟨kg,hN⟩,hi⟩,hf⟩,hr⟩:=hB;obtain ⟨n,rfl⟩:∃n,N=n+1:=⟨N-1,by omega⟩
 have h0:l.toArray[i]?=some ((l[i]?).getD default):=by simp [cN (show i < l.length by simpa using hi)]
 exact wpAnyH_take h0 kg hf hr (fun c a w h=>qX hQ c a _ _ w h) (.inl ⟨hw,fun w2=>hv w2⟩) hS h
theorem az {N:Nat} {ao:Array Bool} (i:Nat) (hB:Ag md l.toArray i ao N=true) (hQ:∀c a d v w,Q (.panic c) (Act.put a (some d) v) w→Q (.panic c) a w)
  (hw:Region.wanted ((l[i]?).getD default) (yielded l.toArray a.tmps)=false) (hS:S w)
  (h:wpAnyH P md l.toArray Q S (N-1) (ao.setIfInBounds i true) (a.put ((l[i]?).getD default).dst undef) w):wpAnyH P md l.toArray Q S N ao a w:=by
 simp only [Ag,Bool.and_eq_true,decide_eq_true_eq] at hB;obtain ⟨⟨⟨⟨kg,hN⟩,hi⟩,hf⟩,hr⟩:=hB;obtain ⟨n,rfl⟩:∃n,N=n+1:=⟨N-1,by omega⟩
 have h0:l.toArray[i]?=some ((l[i]?).getD default):=by simp [cN (show i < l.length by simpa using hi)]
 exact wpAnyH_take h0 kg hf hr (fun c a w h=>qX hQ c a _ _ w h) (.inr ⟨hw,rfl⟩) hS h
theorem VT {N:Nat} {ao:Array Bool} (i:Nat) (hB:BE md l.toArray i ao N=true) (hw:Region.wanted ((l[i]?).getD default) (yielded l.toArray a.tmps)=true)
  (h:Oper.wp P ((l[i]?).getD default) a w (fun a' w'=>S w'∧wpAnyH P md l.toArray Q S (N-1) (ao.setIfInBounds i true) a' w') Q):wpAnyH P md l.toArray Q S N ao a w:=by
 simp only [BE,Bool.and_eq_true,decide_eq_true_eq] at hB;obtain ⟨⟨hN,hi⟩,hr⟩:=hB;obtain ⟨n,rfl⟩:∃n,N=n+1:=⟨N-1,by omega⟩
 have h0:l.toArray[i]?=some ((l[i]?).getD default):=by simp [cN (show i < l.length by simpa using hi)]
 refine ⟨fun h1=>(by rw [hr] at h1;cases h1),fun j hj=>?_⟩;rw [hr] at hj;have kt:j=i:=by simpa using hj
 subst kt;unfold wpOp;simp only [h0];rw [if_pos hw];exact .inl h
theorem VS {N:Nat} {ao:Array Bool} (i j:Nat) (hB:OR md l.toArray i j ao N=true)
  (hi:Region.wanted ((l[i]?).getD default) (yielded l.toArray a.tmps)=true) (hj:Region.wanted ((l[j]?).getD default) (yielded l.toArray a.tmps)=true)
  (h1:Oper.wp P ((l[i]?).getD default) a w (fun a' w'=>S w'∧wpAnyH P md l.toArray Q S (N-1) (ao.setIfInBounds i true) a' w') Q)
  (h2:Oper.wp P ((l[j]?).getD default) a w (fun a' w'=>S w'∧wpAnyH P md l.toArray Q S (N-1) (ao.setIfInBounds j true) a' w') Q):wpAnyH P md l.toArray Q S N ao a w:=by
 simp only [OR,Bool.and_eq_true,decide_eq_true_eq] at hB;obtain ⟨⟨⟨hN,N6⟩,jz⟩,hr⟩:=hB;obtain ⟨n,rfl⟩:∃n,N=n+1:=⟨N-1,by omega⟩
 have g:∀k,k < l.toArray.size→l.toArray[k]?=some ((l[k]?).getD default):=fun k hk=>by simp [cN (show k < l.length by simpa using hk)]
 refine ⟨fun h1=>(by rw [hr] at h1;cases h1),fun k hk=>?_⟩;rw [hr] at hk;unfold wpOp;rcases List.mem_cons.1 hk with rfl|hk
 ·simp only [g _ N6];rw [if_pos hi];exact .inl h1
 ·have za:k=j:=by simpa using hk
  subst za;simp only [g _ jz];rw [if_pos hj];exact .inl h2
theorem dw {N:Nat} {ao:Array Bool} {ops:Array Oper} (hr:(Region.ready md ops ao).isEmpty=true) (h:Q .normal a w):wpAnyH P md ops Q S N ao a w:=wpAnyH_done (by simpa using hr) h N
theorem cu {p q:Prop} (h:p) (k:p→q):p∧q:=⟨h,k h⟩
end
end aW
namespace aW
open Go.RowKit
theorem dQ {P : Program} {Q : Exit → Act → World → Prop} {md : Region.Mode} {w : World} {l : List Oper} {a : Act} {S : World → Prop} {N : Nat} {ao : Array Bool} (i : Nat)
 (h : Oper.wp P ((l[i]?).getD default) a w (fun a' w' => S w' ∧ wpAnyH P md l.toArray Q S (N - 1) (ao.setIfInBounds i true) a' w') Q) (hB : BE md l.toArray i ao N = true := by kernel_rfl) (hw : Region.wanted ((l[i]?).getD default) (yielded l.toArray a.tmps) = true := by rfl) : wpAnyH P md l.toArray Q S N ao a w := VT i hB hw h
theorem ah {P : Program} {Q : Exit → Act → World → Prop} {md : Region.Mode} {w : World} {l : List Oper} {a : Act} {S : World → Prop} {N : Nat} {ao : Array Bool} {v : Value} (i : Nat) (h : wpAnyH P md l.toArray Q S (N - 1) (ao.setIfInBounds i true) (a.put ((l[i]?).getD default).dst v) w) (hB : Ag md l.toArray i ao N = true := by kernel_rfl) (hQ : ∀ c a d v w, Q (.panic c) (Act.put a (some d) v) w → Q (.panic c) a w := by exact fun _ _ _ _ _ h => h)
 (hw : Region.wanted ((l[i]?).getD default) (yielded l.toArray a.tmps) = true := by rfl) (hv : ∀ w2, S w2 → (execOp a.eval ((l[i]?).getD default)).run P w2 = .ok (.value v) w2 := by intro w2 hS2; (try dsimp only at hS2); (try simp only [xGs,xGz,xGo]); go_simp <;> with_reducible rfl) (hS : S w := by assumption) : wpAnyH P md l.toArray Q S N ao a w := SM i hB hQ hw hv hS h
end aW
end Go.Proofs.YtdldkkoplgkloaaGreat
