/-
  PROVED HERE: lemmas that the law leans on.
  CONDITIONS: each names its own.
-/
import Derived.Deep.RegionHeld
import Derived.Deep.RegionLaw
import Derived.Test.YtdldkkoplgkloaaGreatPy0
import Derived.Test.YtdldkkoplgkloaaGreatPy4
import Derived.Test.YtdldkkoplgkloaaGreatPy10
import Derived.Test.YtdldkkoplgkloaaGreatPy12
namespace Go.Proofs.YtdldkkoplgkloaaGreat
set_option linter.unusedVariables false
set_option linter.unusedSimpArgs false
set_option maxRecDepth 100000
set_option maxHeartbeats 32000000
namespace bK


open Go.RowKit Go.Deep base obj mem sep bf num bytes bw chain image
theorem _root_.Go.Proofs.YtdldkkoplgkloaaGreat.image.RX.keep {w w':World} {B R:Nat} {s:Option (List Int)} (h:RX w B R s) (e:∀i,B≤i→i≤R→w'.heap[i]?=w.heap[i]?):RX w' B R s:=by
 cases s with
 | none =>
   obtain ⟨A,n,c,h,hb⟩:=h;exact ⟨A,n,c,(e R hb (Nat.le_refl _)).trans h,hb⟩
 | some b=>exact ⟨h.1.keep e,h.2⟩
def uP (B R:Nat) (s:Option (List Int)):aD where
 on w F:=RX w B R s∧∀i,F i ↔ B≤i∧i≤R
 dom:=fun ⟨h,k⟩ i hi=>by have:=h.lt;have:=(k i).1 hi;omega
 loc:=fun ⟨h,k⟩ e=>⟨h.keep fun i h1 h2=>e i ((k i).2 ⟨h1,h2⟩),k⟩
theorem _root_.Go.Proofs.YtdldkkoplgkloaaGreat.sep.St.glue {w0 w w':World} {l L:List aD} (h:St w0 w l) (k:St w w' L):St w0 w' (dr L::l):=by
 obtain ⟨F,h1,h2⟩:=k.sat;exact h.add k.aI (Q:=dr L) h1 h2
theorem uR {w0 w:World} {l:List aD} {B R:Nat} {s:Option (List Int)} (h:St w0 w (uP B R s::l)) (k:Nat) (h1:1≤k) (h6:k≤6) :
  Calls Tryz.prog 144 #[.pointer (some ⟨R,0,none⟩),.int .i64 k] w fun e w'=>e=.returned (.int .i64 ((rdNum k s).1:Nat))∧St w0 w' (uP B R (rdNum k s).2::l):=by
 obtain ⟨F,⟨hx,hF⟩,_,hf⟩:=h.frame;refine (uh hx k h1 h6).mono fun e w' ⟨e1,e2,e3⟩=>⟨e1,hf w' _ F (e3.mono fun i _ hi=>(hF i).2 (by have e':i=R:=hi;have:=hx.lt;omega)) ⟨e2,hF⟩ fun i hi=>.inl hi⟩
theorem Fx {w0 w:World} {l:List aD} {B R:Nat} {s:Option (List Int)} (h:St w0 w (uP B R s::l)) :
  Calls Tryz.prog 144 #[.pointer (some ⟨R,0,none⟩),.int .i64 1] w fun e w'=>e=.returned (.int .i64 ((rdNum 1 s).1:Nat))∧St w0 w' (uP B R (rdNum 1 s).2::l):=uR h 1 (by omega) (by omega)
theorem Fw {w0 w:World} {l:List aD} {B R:Nat} {s:Option (List Int)} (h:St w0 w (uP B R s::l)) :
  Calls Tryz.prog 144 #[.pointer (some ⟨R,0,none⟩),.int .i64 2] w fun e w'=>e=.returned (.int .i64 ((rdNum 2 s).1:Nat))∧St w0 w' (uP B R (rdNum 2 s).2::l):=uR h 2 (by omega) (by omega)
theorem Zb {w0 w:World} {l:List aD} {B R:Nat} {s:Option (List Int)} (h:St w0 w (uP B R s::l)) :
  Calls Tryz.prog 146 #[.pointer (some ⟨R,0,none⟩)] w fun e w'=>e=.returned (.int .i64 (lf s))∧w'=w:=by
 obtain ⟨F,⟨hx,hF⟩,_,_⟩:=h.frame;exact Vw hx
theorem Wd {w0 w:World} {l:List aD} (h:St w0 w l) (A:Option Addr) (n c:Nat) (bs:List Int) (hl:bs.length=n) (hs:Sl w w.heap.size 1 A n (bs.map (.int .u8))) (hn:n≤100000) (cu:bo bs) :
  Calls Tryz.prog 143 #[.slice A n c] w fun e w'=>∃R,e=.returned (.pointer (some ⟨R,0,none⟩))∧St w0 w' (uP w.heap.size R (some bs)::l):=by
 refine (xv w A n c bs hl hs hn).mono fun e w' ⟨R,e1,e2,e3⟩=>⟨R,e1,?_⟩
 exact h.add e3 (F:=fun i=>w.heap.size≤i∧i≤R) ⟨⟨e2,cu,by omega⟩,fun i=>Iff.rfl⟩ fun i hi=>hi.1
theorem ZZ:(Tryz.prog.info? 147).map (fun i=>(i.zero,i.size,i.bytes))=some (some (.agg #[.int .i64 0,.int .i64 0,.int .i64 0]),3,24):=by kernel_rfl
theorem ZY:(Tryz.prog.info? 150).map (fun i=>(i.zero,i.size,i.bytes))=some (some (.agg #[.int .i64 0,.int .i64 0,.int .i64 0]),3,24):=by kernel_rfl
theorem Z0:(Tryz.prog.info? 152).map (fun i=>(i.zero,i.size,i.bytes))=some (some (.agg #[.int .i64 0,.int .i64 0,.int .i64 0]),3,24):=by kernel_rfl
theorem aax:pX Tryz.prog 42 147 3 24:=by
 obtain ⟨i,h1,h2,h3,h4⟩:=info_parts ZZ;exact ⟨Tryz.underlying42,⟨i,_,h1,h2,h3,h4,rfl⟩,by decide⟩
theorem aav:pX Tryz.prog 43 150 3 24:=by
 obtain ⟨i,h1,h2,h3,h4⟩:=info_parts ZY;exact ⟨Tryz.underlying43,⟨i,_,h1,h2,h3,h4,rfl⟩,by decide⟩
theorem aay:pX Tryz.prog 44 152 3 24:=by
 obtain ⟨i,h1,h2,h3,h4⟩:=info_parts Z0;exact ⟨Tryz.underlying44,⟨i,_,h1,h2,h3,h4,rfl⟩,by decide⟩
theorem zS {t e:TypeId} (T:pX Tryz.prog t e 3 24) {ops:Array Oper} {o:Oper} {a:Act} {K:Act→World→Prop} {Q:Exit→Act→World→Prop} {E:Prop} {w0 w:World} {l:List aD} (ew:o.guard=none) (s x:Operand)
  (ho:o.op=.call { callee:=.builtin .append,args:=#[s,x],argTypes:=#[t,t] }) {v:Value} {n:Nat} {xs:List Value} (H:St w0 w (own e 3 v n xs::l)) (hs:a.eval s=v) {z0 z1 z2:Int} (hx:a.eval x=.slice (some ⟨w.heap.size,0,none⟩) 1 1) (hn:n≤1000000)
  (h:∀v' w',St w0 w' (own e 3 v' (n+1) (xs++[.int .i64 z0,.int .i64 z1,.int .i64 z2])::l)→K (a.put o.dst v') w'):if Region.wanted o (yielded ops a.tmps)=true then Oper.wp Tryz.prog o a (w.alloc (.cells #[.int .i64 z0,.int .i64 z1,.int .i64 z2] e)) K Q else E:=by
 have HX:=(H.new e #[.int .i64 z0,.int .i64 z1,.int .i64 z2]).swap;exact F9 T ew s x ho HX.own hs hx ((Row.new w e #[.int .i64 z0,.int .i64 z1,.int .i64 z2]).sl (B:=w.heap.size+1) (size:=3) (n:=1) (o:=0) (ys:=[.int .i64 z0,.int .i64 z1,.int .i64 z2]) (Nat.lt_succ_self _) rfl rfl) (by simp [Value.oneCell']) (by omega) (by omega) (by unfold maxLen;omega) HX.aI.size fun g cap w' ho hg kr _=>h _ w' ((HX.grown hg ho (fun g' wz=>by cases wz;exact kr)).swap.drop)
theorem xw {z:Int} (h0:0≤z) (h1:z≤255) (rest:List Int):rdNum 1 (some (z::rest))=(z.toNat,some rest):=by
 have h:=lM (k:=1) (m:=z.toNat) (by omega) rest;rw [KH h0 h1] at h;exact h
theorem rd2 {z:Int} (h0:0≤z) (h1:z≤65535) (rest:List Int):rdNum 2 (some (be 2 z.toNat++rest))=(z.toNat,some rest):=lM (k:=2) (m:=z.toNat) (by omega) rest
def jq (l:List T3) (f:T3→List Int) (k:Nat) (r:List Int):List Int:=(l.drop k).flatMap f++r
theorem yz {l:List T3} {f:T3→List Int} {k:Nat} (hk:k < l.length) (r:List Int):jq l f k r=f l[k]++jq l f (k+1) r:=by
 rw [jq,List.drop_eq_getElem_cons hk,List.flatMap_cons,List.append_assoc];rfl
theorem zY {l:List T3} {f:T3→List Int} {k:Nat} (hk:k=l.length) (r:List Int):jq l f k r=r:=by
 subst hk;simp [jq]
theorem VW {t:aQ} (r:Uu t):bo (qV t):=by
 have:=r.fr;have:=r.tr;have:=r.np;have:=r.nw;have:=r.nc;intro z hz;simp only [qV,List.mem_append,List.mem_flatMap] at hz;rcases hz with ((hz|⟨x,hx,hz⟩)|⟨x,hx,hz⟩)|⟨x,hx,hz⟩
 ·simp only [dy,List.mem_cons,List.not_mem_nil,or_false] at hz;rcases hz with rfl|rfl|rfl|rfl|rfl<;>omega
 ·have h:=r.ps x hx;simp only [dS,List.mem_append,List.mem_cons,List.not_mem_nil,or_false] at hz;rcases hz with (rfl|rfl)|hz
  ·omega
  ·omega
  ·exact pW _ _ z hz
 ·have h:=r.ws x hx;simp only [fL,List.mem_cons,List.not_mem_nil,or_false] at hz;rcases hz with rfl|rfl|rfl<;>omega
 ·have h:=r.cs x hx;simp only [fL,List.mem_cons,List.not_mem_nil,or_false] at hz;rcases hz with rfl|rfl|rfl<;>omega
theorem VV {t:aQ} (r:Uu t):(qV t).length≤1000:=by
 have:=r.np;have:=r.nw;have:=r.nc;simp only [qV,dy,gA,List.length_cons,List.length_nil,kA vK,kA Bx];omega
theorem VT {w:World} {t:aQ} (hr:t.right=true) (A:Option Addr) (n c:Nat) (hn:(qV t).length=n) (hs:Sl w w.heap.size 1 A n (aP (qV t))) :
  Calls Tryz.prog 117 #[.slice A n c] w fun e w'=>∃AP cP AW cW AC cC,e=.returned (.tuple #[sV t.frame AP t.parts.length cP AW t.aC.length cW AC t.au.length cC t.ay,.int .i64 0])∧St w w' [own 147 3 (.slice AP t.parts.length cP) t.parts.length (fW t.parts),own 150 3 (.slice AW t.aC.length cW) t.aC.length (fW t.aC),own 152 3 (.slice AC t.au.length cC) t.au.length (fW t.au)]:=by
 have R:=aQ.r hr;have HB:=aa (VW R);have hl:=VV R;have HR:=aa R;have ez:=aa (fun (w':World) (AP:Option Addr) (nP cP:Nat) (AW:Option Addr) (nW cW:Nat) (AC:Option Addr) (nC cC:Nat) (h:oZ w' w'.heap.size t AP nP cP AW nW cW AC nC cC)=>ft h);rw [hr] at ez;obtain ⟨T0,hT0⟩:∃T,T=w.heap.size:=⟨_,rfl⟩
 obtain ⟨w1,aJ⟩:∃w1,w1=w.alloc (.cells #[.int .i64 0,.slice none 0 0,.slice none 0 0,.slice none 0 0,.int .i64 0] 46):=⟨_,rfl⟩
 have H1:=aa (show St w w1 [row T0 46 (da 0 none 0 0 none 0 0 none 0 0 0)] by rw [aJ,hT0];exact (St.nil w).new _ _);have HS:=aa (hs.below H1.o.aI |>.more H1.o.aI.size);have oc:=aa (Wd H1.o A n c (qV t) hn HS.o (by omega) HB.o);have bq:=aa aJ;have HT0:=aa hT0;obtain ⟨hd,Mi⟩:∃hd,hd=qV t:=⟨_,rfl⟩
 rw [←Mi] at oc;have HHD:=aa Mi;obtain ⟨fr,jR⟩:∃fr,fr=t.frame:=⟨_,rfl⟩
 obtain ⟨tr,jl⟩:∃tr,tr=t.ay:=⟨_,rfl⟩
 rw [←jR,←jl];obtain ⟨nP,oE⟩:∃v,v=t.parts.length:=⟨_,rfl⟩
 obtain ⟨nW,xK⟩:∃v,v=t.aC.length:=⟨_,rfl⟩
 obtain ⟨nC,pK⟩:∃v,v=t.au.length:=⟨_,rfl⟩
 rw [←oE,←xK,←pK]
 have HD:=aa (show hd=fr::tr::(nP:Int)::(nW:Int)::(nC:Int)::jq t.parts dS 0 (jq t.aC fL 0 (jq t.au fL 0 [])) by
  rw [HHD.o,jR,jl,oE,xK,pK]
  simp [qV,dy,jq])
 have r1:=HR.o.fr;have r2:=HR.o.tr;have r3:=HR.o.np;have r4:=HR.o.nw;have r5:=HR.o.nc;rw [←jR] at r1;rw [←jl] at r2;rw [←oE] at r3;rw [←xK] at r4;rw [←pK] at r5;have Hy:=aa jR;have Hs:=aa jl;have Bg:=aa oE;have Hw:=aa xK;have Bi:=aa pK;have N1:=aa (xw (z:=fr) (by omega) (by omega));have N2:=aa (xw (z:=tr) (by omega) (by omega));have N3:=aa (xw (z:=(nP:Int)) (by omega) (by omega));have N4:=aa (xw (z:=(nW:Int)) (by omega) (by omega));have N5:=aa (xw (z:=(nC:Int)) (by omega) (by omega));have I1:((fr.toNat:Nat):Int)=fr:=by omega
 have I2:((tr.toNat:Nat):Int)=tr:=by omega
 have I3:(((nP:Int).toNat:Nat):Int)=nP:=by omega
 have I4:(((nW:Int).toNat:Nat):Int)=nW:=by omega
 have I5:(((nC:Int).toNat:Nat):Int)=nC:=by omega
 have La:=aa I1;have RW:=aa I2;have CL:=aa I3;have HI4:=aa I4;have HI5:=aa I5;obtain ⟨rest,uk⟩:∃v,v=jq t.parts dS 0 (jq t.aC fL 0 (jq t.au fL 0 [])):=⟨_,rfl⟩
 rw [←uk] at HD;have HRE:=aa uk;clear jR jl oE xK pK I1 I2 I3 I4 I5 uk;clear aJ hT0 hr R hs Mi hl;go_enter Tryz.func117,Tryz.ntmps117;go_upto_region 1 with fail;rw [←bq.o,←HT0.o];go_wp2_with fail;refine oc.o.mono ?_;rintro e w2 ⟨RR,rfl,av⟩;generalize hBB:w1.heap.size=BB at av;clear hBB;obtain ⟨T,hT⟩:∃T,T=w2.heap.size:=⟨_,rfl⟩
 obtain ⟨w3,mR⟩:∃v,v=w2.alloc (.cells #[.int .i64 0,.slice none 0 0,.slice none 0 0,.slice none 0 0,.int .i64 0] 46):=⟨_,rfl⟩
 have FD:=av.new 46 #[.int .i64 0,.slice none 0 0,.slice none 0 0,.slice none 0 0,.int .i64 0];rw [←hT,←mR] at FD;have H3:=aa (show St w w3 [uP BB RR (some hd),row T 46 (da 0 none 0 0 none 0 0 none 0 0 0),row T0 46 (da 0 none 0 0 none 0 0 none 0 0 0)] from FD.swap);clear av FD H1;go_upto_region 3 with fail;rw [←hT,←mR];have HT:=aa hT;clear mR hT;have h3:=H3.o;rw [HD.o] at h3;have H3:=aa h3;clear h3;go_wp2_with fail;refine (uR H3.o 1 (by omega) (by omega)).mono ?_;rintro e w4 ⟨rfl,av⟩;rw [N1.o] at av ⊢;dsimp only at av ⊢;rw [La.o];have H4:=aa av;clear av H3;go_wp2_with fail;refine (uR H4.o 1 (by omega) (by omega)).mono ?_;rintro e w5 ⟨rfl,av⟩;rw [N2.o] at av ⊢;dsimp only at av ⊢;rw [RW.o];have H5:=aa av;clear av H4;have t0:w5.cell? ⟨T,0,none⟩=some (.int .i64 0):=H5.o.swap.row.1.cell 0;have t4:w5.cell? ⟨T,4,none⟩=some (.int .i64 0):=H5.o.swap.row.1.cell 4;have f0:w5.frozen? ⟨T,0,none⟩=false:=H5.o.swap.row.1.frozen 0;have f4:w5.frozen? ⟨T,4,none⟩=false:=H5.o.swap.row.1.frozen 4;have lT:=H5.o.swap.row.1.lt;go_wp2_with fail;obtain ⟨w6,nU⟩:∃v,v=(w5.setCell ⟨T,0,none⟩ (.int .i64 fr)).setCell ⟨T,4,none⟩ (.int .i64 tr):=⟨_,rfl⟩
 rw [←nU];have tM:=((H5.o.swap.set 0 (.int .i64 fr)).set 4 (.int .i64 tr)).swap;rw [←nU] at tM;have H6:=aa (show St w w6 [uP BB RR (some ((nP:Int)::(nW:Int)::(nC:Int)::rest)),row T 46 (da fr none 0 0 none 0 0 none 0 0 tr),row T0 46 (da 0 none 0 0 none 0 0 none 0 0 0)] from tM);clear tM nU H5 t0 t4 f0 f4 lT;refine (uR H6.o 1 (by omega) (by omega)).mono ?_;rintro e w7 ⟨rfl,av⟩;rw [N3.o] at av ⊢;dsimp only at av ⊢;rw [CL.o];have H7:=aa av;clear av H6;go_wp2_with fail;refine (uR H7.o 1 (by omega) (by omega)).mono ?_;rintro e w8 ⟨rfl,av⟩;rw [N4.o] at av ⊢;dsimp only at av ⊢;rw [HI4.o];have H8:=aa av;clear av H7;go_wp2_with fail;refine (uR H8.o 1 (by omega) (by omega)).mono ?_;rintro e w9 ⟨rfl,av⟩;rw [N5.o] at av ⊢;dsimp only at av ⊢;rw [HI5.o];have H9:=aa av;clear av H8;have je:=aa (show St w w9 [uP BB RR (some (jq t.parts dS 0 (jq t.aC fL 0 (jq t.au fL 0 [])))),row T 46 (da fr none 0 0 none 0 0 none 0 0 tr),row T0 46 (da 0 none 0 0 none 0 0 none 0 0 0)] by have h:=H9.o;rw [HRE.o] at h;exact h);clear H9;have nz:∀(w':World) (B e:Nat),w'.ownsRow B e 3 (.slice none 0 0) 0 []:=fun _ _ _=>⟨rfl,.inl ⟨rfl,rfl⟩⟩
 go_wp2_with fail;go_loopw [25] (fun i wr=>∃(j:Nat) (v:Value),j≤nP∧i=.int .i64 j∧St w wr [uP BB RR (some (jq t.parts dS j (jq t.aC fL 0 (jq t.au fL 0 [])))),row T 46 [.int .i64 fr,v,(.slice none 0 0),(.slice none 0 0),.int .i64 tr],own 147 3 v j (fW (t.parts.take j)),row T0 46 (da 0 none 0 0 none 0 0 none 0 0 0)]) (fun i _=>nP-(intOf i).toNat)
 case atStart=>exact ⟨0,.slice none 0 0,by omega,rfl,((je.o.cQ (Below.refl _ _) (nz _ _ _)).pick 2 rfl).pick 2 rfl⟩
 case round =>
  obtain ⟨j,v,hj,rfl,av⟩:=hrel;clear je;by_cases aK:j < nP
  ·have dF:j < t.parts.length:=by have:=Bg.o;omega
   have pY:=HR.o.ps _ (List.getElem_mem dF);have wI:=aa (show fW (t.parts.take (j+1))=fW (t.parts.take j)++T3.cells t.parts[j] by rw [jz dF,yp]);rw [yz dF] at av;have n4:=HR.o.np;generalize t.parts[j]=x at *;obtain ⟨xa,xb,xc⟩:=x;simp only at pY;simp only [dS,fL,List.cons_append,List.nil_append] at av;have NA:=aa (xw (z:=xa) (by omega) (by omega));have NB:=aa (xw (z:=xb) (by omega) (by omega));have NC:=aa (rd2 (z:=xc) (by omega) (by omega));have IA:=aa (show ((xa.toNat:Nat):Int)=xa by omega);have IB:=aa (show ((xb.toNat:Nat):Int)=xb by omega);have IC:=aa (show ((xc.toNat:Nat):Int)=xc by omega);have H:=aa av.drew;have t1:wr.cell? ⟨T,1,none⟩=some v:=av.swap.row.1.cell 1;have lT:=av.swap.row.1.lt;have k1:(j:Int) < (nP:Int):=by omega
   clear av pY;go_wp2_with fail
   go_region_law (first
    | (go_simp;(first|(with_reducible refine (Fx H.o).mono ?_)|(with_reducible refine (Fw H.o).mono ?_));rintro e w' ⟨rfl,av⟩;(first|rw [NA.o] at av ⊢|rw [NB.o] at av ⊢|rw [NC.o] at av ⊢);dsimp only at av ⊢;(first|rw [IA.o]|rw [IB.o]|rw [IC.o]);have H:=aa av;have t1:w'.cell? ⟨T,1,none⟩=some v:=av.swap.row.1.cell 1;have lT:=av.swap.row.1.lt;clear av)
    | (refine zS aax (by rfl) (.tmp 28) (.tmp 36) (by rfl) (H.o.pick 2 rfl) (by rfl) (by rfl) (by omega) ?_;intro v8 w8 av;have H8:=aa (av.pick 2 rfl);have f8:w8.frozen? ⟨T,1,none⟩=false:=(av.pick 2 rfl).row.1.frozen 1;have c8:w8.cell? ⟨T,1,none⟩=some v:=(av.pick 2 rfl).row.1.cell 1;have l8:=(av.pick 2 rfl).row.1.lt;obtain ⟨A8,d8,rfl,_,_⟩:=aH av.own;clear av))
   all_goals
    go_wp2_with fail;go_roundw
    case rel =>
     refine ⟨j+1,.slice A8 (j+1) d8,by omega,by go_num,?_⟩;have h:=(H8.o.set 1 (.slice A8 (j+1) d8))
     simp only [List.set_cons_succ,List.set_cons_zero] at h;rw [wI.o];exact h.pick 2 rfl
    case measure=>simp [intOf];omega
  ·have HE:=aa (show j=t.parts.length by have:=Bg.o;omega);have k1:¬(j:Int) < (nP:Int):=by omega
   rw [zY HE.o] at av;have hk:fW (t.parts.take j)=fW t.parts:=by rw [HE.o,List.take_length]
   have Aw:j=nP:=by omega
   rw [hk,Aw] at av;have je:=aa av;clear av hk Aw;go_wp2_with fail;generalize wr=Pe at *;generalize v=v1 at *;go_loopw [41] (fun i wr=>∃(j:Nat) (v:Value),j≤nW∧i=.int .i64 j∧St w wr [uP BB RR (some (jq t.aC fL j (jq t.au fL 0 []))),row T 46 [.int .i64 fr,v1,v,(.slice none 0 0),.int .i64 tr],own 150 3 v j (fW (t.aC.take j)),own 147 3 v1 nP (fW t.parts),row T0 46 (da 0 none 0 0 none 0 0 none 0 0 0)]) (fun i _=>nW-(intOf i).toNat)
   case atStart=>exact ⟨0,.slice none 0 0,by omega,rfl,((je.o.cQ (Below.refl _ _) (nz _ _ _)).pick 2 rfl).pick 2 rfl⟩
   case round =>
    obtain ⟨j,v,hj,rfl,av⟩:=hrel;clear je;by_cases aK:j < nW
    ·have dF:j < t.aC.length:=by have:=Hw.o;omega
     have pY:=HR.o.ws _ (List.getElem_mem dF);have wI:=aa (show fW (t.aC.take (j+1))=fW (t.aC.take j)++T3.cells t.aC[j] by rw [jz dF,yp]);rw [yz dF] at av;have n4:=HR.o.np;generalize t.aC[j]=x at *;obtain ⟨xa,xb,xc⟩:=x;simp only at pY;simp only [dS,fL,List.cons_append,List.nil_append] at av;have NA:=aa (xw (z:=xa) (by omega) (by omega));have NB:=aa (xw (z:=xb) (by omega) (by omega));have NC:=aa (xw (z:=xc) (by omega) (by omega));have IA:=aa (show ((xa.toNat:Nat):Int)=xa by omega);have IB:=aa (show ((xb.toNat:Nat):Int)=xb by omega);have IC:=aa (show ((xc.toNat:Nat):Int)=xc by omega);have H:=aa av.drew;have t1:wr.cell? ⟨T,2,none⟩=some v:=av.swap.row.1.cell 2;have lT:=av.swap.row.1.lt;have k1:(j:Int) < (nW:Int):=by omega
     clear av pY;go_wp2_with fail
     go_region_law (first
      | (go_simp;(first|(with_reducible refine (Fx H.o).mono ?_)|(with_reducible refine (Fw H.o).mono ?_));rintro e w' ⟨rfl,av⟩;(first|rw [NA.o] at av ⊢|rw [NB.o] at av ⊢|rw [NC.o] at av ⊢);dsimp only at av ⊢;(first|rw [IA.o]|rw [IB.o]|rw [IC.o]);have H:=aa av;have t1:w'.cell? ⟨T,2,none⟩=some v:=av.swap.row.1.cell 2;have lT:=av.swap.row.1.lt;clear av)
      | (refine zS aav (by rfl) (.tmp 44) (.tmp 52) (by rfl) (H.o.pick 2 rfl) (by rfl) (by rfl) (by omega) ?_;intro v8 w8 av;have H8:=aa (av.pick 2 rfl);have f8:w8.frozen? ⟨T,2,none⟩=false:=(av.pick 2 rfl).row.1.frozen 2;have c8:w8.cell? ⟨T,2,none⟩=some v:=(av.pick 2 rfl).row.1.cell 2;have l8:=(av.pick 2 rfl).row.1.lt;obtain ⟨A8,d8,rfl,_,_⟩:=aH av.own;clear av))
     all_goals
      go_wp2_with fail;go_roundw
      case rel =>
       refine ⟨j+1,.slice A8 (j+1) d8,by omega,by go_num,?_⟩;have h:=(H8.o.set 2 (.slice A8 (j+1) d8))
       simp only [List.set_cons_succ,List.set_cons_zero] at h;rw [wI.o];exact h.pick 2 rfl
      case measure=>simp [intOf];omega
    ·have HE:=aa (show j=t.aC.length by have:=Hw.o;omega);have k1:¬(j:Int) < (nW:Int):=by omega
     rw [zY HE.o] at av;have hk:fW (t.aC.take j)=fW t.aC:=by rw [HE.o,List.take_length]
     have Aw:j=nW:=by omega
     rw [hk,Aw] at av;have je:=aa av;clear av hk Aw;go_wp2_with fail;generalize wr=uH at *;generalize v=v2 at *;go_loopw [57] (fun i wr=>∃(j:Nat) (v:Value),j≤nC∧i=.int .i64 j∧St w wr [uP BB RR (some (jq t.au fL j [])),row T 46 [.int .i64 fr,v1,v2,v,.int .i64 tr],own 152 3 v j (fW (t.au.take j)),own 150 3 v2 nW (fW t.aC),own 147 3 v1 nP (fW t.parts),row T0 46 (da 0 none 0 0 none 0 0 none 0 0 0)]) (fun i _=>nC-(intOf i).toNat)
     case atStart=>exact ⟨0,.slice none 0 0,by omega,rfl,((je.o.cQ (Below.refl _ _) (nz _ _ _)).pick 2 rfl).pick 2 rfl⟩
     case round =>
      obtain ⟨j,v,hj,rfl,av⟩:=hrel;clear je;by_cases aK:j < nC
      ·have dF:j < t.au.length:=by have:=Bi.o;omega
       have pY:=HR.o.cs _ (List.getElem_mem dF);have wI:=aa (show fW (t.au.take (j+1))=fW (t.au.take j)++T3.cells t.au[j] by rw [jz dF,yp]);rw [yz dF] at av;have n4:=HR.o.np;generalize t.au[j]=x at *;obtain ⟨xa,xb,xc⟩:=x;simp only at pY;simp only [dS,fL,List.cons_append,List.nil_append] at av;have NA:=aa (xw (z:=xa) (by omega) (by omega));have NB:=aa (xw (z:=xb) (by omega) (by omega));have NC:=aa (xw (z:=xc) (by omega) (by omega));have IA:=aa (show ((xa.toNat:Nat):Int)=xa by omega);have IB:=aa (show ((xb.toNat:Nat):Int)=xb by omega);have IC:=aa (show ((xc.toNat:Nat):Int)=xc by omega);have H:=aa av.drew;have t1:wr.cell? ⟨T,3,none⟩=some v:=av.swap.row.1.cell 3;have lT:=av.swap.row.1.lt;have k1:(j:Int) < (nC:Int):=by omega
       clear av pY;go_wp2_with fail
       go_region_law (first
        | (go_simp;(first|(with_reducible refine (Fx H.o).mono ?_)|(with_reducible refine (Fw H.o).mono ?_));rintro e w' ⟨rfl,av⟩;(first|rw [NA.o] at av ⊢|rw [NB.o] at av ⊢|rw [NC.o] at av ⊢);dsimp only at av ⊢;(first|rw [IA.o]|rw [IB.o]|rw [IC.o]);have H:=aa av;have t1:w'.cell? ⟨T,3,none⟩=some v:=av.swap.row.1.cell 3;have lT:=av.swap.row.1.lt;clear av)
        | (refine zS aay (by rfl) (.tmp 60) (.tmp 68) (by rfl) (H.o.pick 2 rfl) (by rfl) (by rfl) (by omega) ?_;intro v8 w8 av;have H8:=aa (av.pick 2 rfl);have f8:w8.frozen? ⟨T,3,none⟩=false:=(av.pick 2 rfl).row.1.frozen 3;have c8:w8.cell? ⟨T,3,none⟩=some v:=(av.pick 2 rfl).row.1.cell 3;have l8:=(av.pick 2 rfl).row.1.lt;obtain ⟨A8,d8,rfl,_,_⟩:=aH av.own;clear av))
       all_goals
        go_wp2_with fail;go_roundw
        case rel =>
         refine ⟨j+1,.slice A8 (j+1) d8,by omega,by go_num,?_⟩;have h:=(H8.o.set 3 (.slice A8 (j+1) d8))
         simp only [List.set_cons_succ,List.set_cons_zero] at h;rw [wI.o];exact h.pick 2 rfl
        case measure=>simp [intOf];omega
      ·have HE:=aa (show j=t.au.length by have:=Bi.o;omega);have k1:¬(j:Int) < (nC:Int):=by omega
       rw [zY HE.o] at av;have hk:fW (t.au.take j)=fW t.au:=by rw [HE.o,List.take_length]
       have Aw:j=nC:=by omega
       rw [hk,Aw] at av;have je:=aa av;clear av hk Aw;go_wp2_with fail;generalize wr=F0 at *;generalize v=v3 at *;obtain ⟨A1,c1,rfl,_,QA⟩:=aH (je.o.pick 4 rfl).own;obtain ⟨A2,c2,rfl,_,At⟩:=aH (je.o.pick 3 rfl).own;obtain ⟨A3,c3,rfl,_,hm3⟩:=aH (je.o.pick 2 rfl).own;refine (Zb je.o).mono ?_;rintro e vG ⟨rfl,rfl⟩;rw [show lf (some [])=0 from rfl];have ml:=aa (show St w vG [row T 46 [.int .i64 fr,.slice A1 nP c1,.slice A2 nW c2,.slice A3 nC c3,.int .i64 tr],uP BB RR (some []),own 152 3 (.slice A3 nC c3) nC (fW t.au),own 150 3 (.slice A2 nW c2) nW (fW t.aC),own 147 3 (.slice A1 nP c1) nP (fW t.parts),row T0 46 (da 0 none 0 0 none 0 0 none 0 0 0)] from je.o.swap);clear je;have t0:vG.cell? ⟨T,0,none⟩=some (.int .i64 fr):=ml.o.row.1.cell 0;have t1:vG.cell? ⟨T,1,none⟩=some (.slice A1 nP c1):=ml.o.row.1.cell 1;have t2:vG.cell? ⟨T,2,none⟩=some (.slice A2 nW c2):=ml.o.row.1.cell 2;have t3:vG.cell? ⟨T,3,none⟩=some (.slice A3 nC c3):=ml.o.row.1.cell 3;have t4:vG.cell? ⟨T,4,none⟩=some (.int .i64 tr):=ml.o.row.1.cell 4;have lT:=ml.o.row.1.lt;go_wp2_with fail;have vR:=ez.o vG A1 nP c1 A2 nW c2 A3 nC c3 ⟨Sl.bz (ml.o.pick 4 rfl).own,Sl.bz (ml.o.pick 3 rfl).own,Sl.bz (ml.o.pick 2 rfl).own,Bg.o,Hw.o,Bi.o,by unfold maxLen;omega,by unfold maxLen;omega,by unfold maxLen;omega⟩;rw [←Hy.o,←Hs.o] at vR;have HH:=aa vR;clear vR;refine HH.o.mono ?_;rintro e DJ ⟨rfl,AD⟩;have vA:=aa (ml.o.below AD);clear AD t0 t1 t2 t3 t4 lT ml;have t0:DJ.cell? ⟨T,0,none⟩=some (.int .i64 fr):=vA.o.row.1.cell 0;have t1:DJ.cell? ⟨T,1,none⟩=some (.slice A1 nP c1):=vA.o.row.1.cell 1;have t2:DJ.cell? ⟨T,2,none⟩=some (.slice A2 nW c2):=vA.o.row.1.cell 2;have t3:DJ.cell? ⟨T,3,none⟩=some (.slice A3 nC c3):=vA.o.row.1.cell 3;have t4:DJ.cell? ⟨T,4,none⟩=some (.int .i64 tr):=vA.o.row.1.cell 4;have lT:=vA.o.row.1.lt;go_wp2_with (refine aF rfl 46 (.tmp 2) (.tmp 82) rfl T0 0 #[.int .i64 fr,.slice A1 nP c1,.slice A2 nW c2,.slice A3 nC c3,.int .i64 tr] rfl rfl (vA.o.pick 5 rfl).row.1 (by kernel_rfl) (by simp) (by simp [Value.oneCell']) [.int .i64 fr,.slice A1 nP c1,.slice A2 nW c2,.slice A3 nC c3,.int .i64 tr] (by simp) ?_);refine bodyPost_ret (aM rfl _ _ T0 _ _ _ _ _ rfl rfl ((vA.o.pick 5 rfl).row.1.setRow [.int .i64 fr,.slice A1 nP c1,.slice A2 nW c2,.slice A3 nC c3,.int .i64 tr]) Tryz.underlying46 rfl (by kernel_rfl)) rfl ?_;have h:=((vA.o.pick 5 rfl).setRow [.int .i64 fr,.slice A1 nP c1,.slice A2 nW c2,.slice A3 nC c3,.int .i64 tr]).drop.drop.drop;exact ⟨A1,c1,A2,c2,A3,c3,rfl,(h.pick 1 rfl).pick 2 rfl⟩
end bK
namespace bK


open Go.RowKit Go.Deep base obj mem sep bf num bytes bw chain image
structure en where
 AP:Option Addr
 cP:Nat
 AW:Option Addr
 cW:Nat
 AC:Option Addr
 cC:Nat
def en.val (a:en) (t:aQ):Value:=sV t.frame a.AP t.parts.length a.cP a.AW t.aC.length a.cW a.AC t.au.length a.cC t.ay
def DK (a:en) (t:aQ):aD:=dr [own 147 3 (.slice a.AP t.parts.length a.cP) t.parts.length (fW t.parts),own 150 3 (.slice a.AW t.aC.length a.cW) t.aC.length (fW t.aC),own 152 3 (.slice a.AC t.au.length a.cC) t.au.length (fW t.au)]
def ma (w:World) (a:en) (t:aQ):Prop:=oZ w w.heap.size t a.AP t.parts.length a.cP a.AW t.aC.length a.cW a.AC t.au.length a.cC
theorem ZM {w0 w:World} {l:List aD} {a:en} {t:aQ} (h:St w0 w (DK a t::l)):ma w a t:=by
 have h:=h.fI;have h1:=h.own;have h2:=(h.pick 1 rfl).own;have h3:=(h.pick 2 rfl).own;obtain ⟨_,_,e1,f1,g1⟩:=aH h1;obtain ⟨_,_,e2,f2,g2⟩:=aH h2;obtain ⟨_,_,e3,f3,g3⟩:=aH h3;injection e1 with _ _ e1;injection e2 with _ _ e2;injection e3 with _ _ e3
 exact ⟨Sl.bz h1,Sl.bz h2,Sl.bz h3,rfl,rfl,rfl,by omega,by omega,by omega⟩
theorem Wp {w0 w:World} {l:List aD} (h0:St w0 w l) {a:en} {t:aQ} (h:ma w a t) (hr:t.right=true) :
  Calls Tryz.prog 69 #[a.val t] w fun e w'=>∃a':en,e=.returned (a'.val t)∧St w0 w' (DK a' t::l):=by
 have HP:=aa (fun (w':World) (hb:Below w.heap.size w w')=>VS (h.over hb) hr);have HG:=aa (fun (w':World) (A:Option Addr) (n c:Nat) (hn:(qV t).length=n) (hs:Sl w' w'.heap.size 1 A n (aP (qV t)))=>VT hr A n c hn hs);obtain ⟨T,hT⟩:∃T,T=w.heap.size:=⟨_,rfl⟩
 obtain ⟨AP,cP,AW,cW,AC,cC⟩:=a;simp only [en.val];obtain ⟨w1,aJ⟩:∃w1,w1=(w.alloc (.cells #[.int .i64 t.frame,.slice AP t.parts.length cP,.slice AW t.aC.length cW,.slice AC t.au.length cC,.int .i64 t.ay] 46)).alloc (.cells #[.int .i64 0,.slice none 0 0,.slice none 0 0,.slice none 0 0,.int .i64 0] 46):=⟨_,rfl⟩
 have H1:=aa (show St w w1 [row T 46 (da t.frame AP t.parts.length cP AW t.aC.length cW AC t.au.length cC t.ay),row (T+1) 46 (da 0 none 0 0 none 0 0 none 0 0 0)] by
  have h:=((St.nil w).new 46 #[.int .i64 t.frame,.slice AP t.parts.length cP,.slice AW t.aC.length cW,.slice AC t.au.length cC,.int .i64 t.ay]).new 46 #[.int .i64 0,.slice none 0 0,.slice none 0 0,.slice none 0 0,.int .i64 0];rw [show (w.alloc (.cells #[.int .i64 t.frame,.slice AP t.parts.length cP,.slice AW t.aC.length cW,.slice AC t.au.length cC,.int .i64 t.ay] 46)).heap.size=T+1 by rw [hT];exact Array.size_push _,←hT,←aJ] at h
  exact h.swap)
 have bq:=aa aJ;have HT:=aa hT;have H0:=aa h0;obtain ⟨nP,oE⟩:∃v,v=t.parts.length:=⟨_,rfl⟩
 obtain ⟨nW,xK⟩:∃v,v=t.aC.length:=⟨_,rfl⟩
 obtain ⟨nC,pK⟩:∃v,v=t.au.length:=⟨_,rfl⟩
 obtain ⟨fr,jR⟩:∃fr,fr=t.frame:=⟨_,rfl⟩
 obtain ⟨tr,jl⟩:∃tr,tr=t.ay:=⟨_,rfl⟩
 simp only [←jR,←jl,←oE,←xK,←pK] at HP HG H1 aJ bq ⊢;have Hy:=aa jR;have Hs:=aa jl;have rV:=aa oE;have HNW:=aa xK;have wM:=aa pK;clear aJ hT h0 h hr oE xK pK jR jl;go_enter Tryz.func69,Tryz.ntmps69;go_upto_region 1 with fail;rw [←bq.o,←HT.o];have t0:w1.cell? ⟨T,0,none⟩=some (.int .i64 fr):=H1.o.row.1.cell 0;have t1:w1.cell? ⟨T,1,none⟩=some (.slice AP nP cP):=H1.o.row.1.cell 1;have t2:w1.cell? ⟨T,2,none⟩=some (.slice AW nW cW):=H1.o.row.1.cell 2;have t3:w1.cell? ⟨T,3,none⟩=some (.slice AC nC cC):=H1.o.row.1.cell 3;have t4:w1.cell? ⟨T,4,none⟩=some (.int .i64 tr):=H1.o.row.1.cell 4;have lT:=H1.o.row.1.lt;go_wp2_with fail;refine (HP.o w1 H1.o.aI).mono ?_;rintro e w2 ⟨v,rfl,ho,hb⟩;have H2:=aa (H1.o.below hb);obtain ⟨A,c,rfl,_,_⟩:=aH ho;have HS:=aa (Sl.bz ho);clear t0 t1 t2 t3 t4 lT H1 ho hb;obtain ⟨n,hn⟩:∃n,n=(qV t).length:=⟨_,rfl⟩
 rw [←hn] at HS ⊢;have HN:=aa hn.symm;clear hn;go_wp2_with fail;refine (HG.o w2 A n c HN.o HS.o).mono ?_;rintro e w3 ⟨A1,c1,A2,c2,A3,c3,rfl,av⟩;have H3:=aa ((H2.o.glue av).pick 1 rfl);clear av H2;have t0:w3.cell? ⟨T,0,none⟩=some (.int .i64 fr):=H3.o.row.1.cell 0;have lT:=H3.o.row.1.lt;have h4:=H3.o.setRow [.int .i64 fr,.slice A1 nP c1,.slice A2 nW c2,.slice A3 nC c3,.int .i64 tr];go_upto_region 3 with (refine aF rfl 46 (.tmp 1) (.tmp 13) rfl T 0 #[.int .i64 fr,.slice A1 nP c1,.slice A2 nW c2,.slice A3 nC c3,.int .i64 tr] rfl rfl H3.o.row.1 (by kernel_rfl) (by simp) (by simp [Value.oneCell']) [.int .i64 fr,.slice A1 nP c1,.slice A2 nW c2,.slice A3 nC c3,.int .i64 tr] (by simp) ?_)
 obtain ⟨w4,dX⟩:∃v,v=w3.setRow T #[.int .i64 fr,.slice A1 nP c1,.slice A2 nW c2,.slice A3 nC c3,.int .i64 tr]:=⟨_,rfl⟩
 rw [←dX] at h4 ⊢;have H4:=aa h4;have t0:w4.cell? ⟨T,0,none⟩=some (.int .i64 fr):=h4.row.1.cell 0;have t1:w4.cell? ⟨T,1,none⟩=some (.slice A1 nP c1):=h4.row.1.cell 1;have t2:w4.cell? ⟨T,2,none⟩=some (.slice A2 nW c2):=h4.row.1.cell 2;have t3:w4.cell? ⟨T,3,none⟩=some (.slice A3 nC c3):=h4.row.1.cell 3;have t4:w4.cell? ⟨T,4,none⟩=some (.int .i64 tr):=h4.row.1.cell 4;have lT:=h4.row.1.lt;clear h4 dX;have r1:=(H4.o.pick 2 rfl).row.1;have iw:=aa r1;clear r1;go_wp2_with (refine aF rfl 46 (.tmp 2) (.tmp 15) rfl (T+1) 0 #[.int .i64 fr,.slice A1 nP c1,.slice A2 nW c2,.slice A3 nC c3,.int .i64 tr] rfl rfl iw.o (by kernel_rfl) (by simp) (by simp [Value.oneCell']) [.int .i64 fr,.slice A1 nP c1,.slice A2 nW c2,.slice A3 nC c3,.int .i64 tr] (by simp) ?_);have h:=(H4.o.pick 2 rfl).setRow [.int .i64 fr,.slice A1 nP c1,.slice A2 nW c2,.slice A3 nC c3,.int .i64 tr];refine bodyPost_ret (v:=.agg #[.int .i64 fr,.slice A1 nP c1,.slice A2 nW c2,.slice A3 nC c3,.int .i64 tr]) (results_cell_row rfl _ _ (T+1) _ _ _ _ rfl (h.row.1) Tryz.underlying46 rfl (by kernel_rfl)) rfl ?_;have h2:=(h.pick 2 rfl).take 1;obtain rfl:=rV.o;obtain rfl:=HNW.o;obtain rfl:=wM.o;obtain rfl:=Hy.o;obtain rfl:=Hs.o;exact ⟨⟨A1,c1,A2,c2,A3,c3⟩,rfl,(H0.o.glue h2).fI⟩
end bK
namespace bf

open Go.RowKit
section
variable {P : Program} {Q : Exit → Act → World → Prop} {md : Region.Mode} {w : World} {l : List Oper} {a : Act} {S : World → Prop}
theorem eh (S:World→Prop) {id:Nat} (hm:P.follows .mixedOrders=true) (hS:S w.drew) (h:S w.drew→wpAnyH P .any l.toArray Q S l.toArray.size (Array.replicate l.toArray.size false) a w.drew):(Code.region id l.toArray true).wp P Q a w:=wp_region_held_drew hm hS h
theorem QN {N:Nat} {ar:Array Bool} {v:Value} (i:Nat) (hB:yS md l.toArray i ar N=true) (hQ:∀c a d v w,Q (.panic c) (Act.put a (some d) v) w→Q (.panic c) a w)
  (hw:Region.wanted ((l[i]?).getD default) (yielded l.toArray a.tmps)=true) (hv:∀w2,S w2→(execOp a.eval ((l[i]?).getD default)).run P w2=.ok (.value v) w2) (hS:S w)
  (h:wpAnyH P md l.toArray Q S (N-1) (ar.setIfInBounds i true) (a.put ((l[i]?).getD default).dst v) w):wpAnyH P md l.toArray Q S N ar a w:=by
 simp only [yS,Bool.and_eq_true,decide_eq_true_eq] at hB;obtain ⟨⟨⟨⟨jM,hN⟩,hi⟩,hf⟩,hr⟩:=hB;obtain ⟨n,rfl⟩:∃n,N=n+1:=⟨N-1,by omega⟩
 have h0:l.toArray[i]?=some ((l[i]?).getD default):=by simp [cM (show i < l.length by simpa using hi)]
 exact wpAnyH_take h0 jM hf hr (fun c a w h=>qk hQ c a _ _ w h) (.inl ⟨hw,fun w2=>hv w2⟩) hS h
theorem bT {N:Nat} {ar:Array Bool} (i:Nat) (hB:yS md l.toArray i ar N=true) (hQ:∀c a d v w,Q (.panic c) (Act.put a (some d) v) w→Q (.panic c) a w)
  (hw:Region.wanted ((l[i]?).getD default) (yielded l.toArray a.tmps)=false) (hS:S w)
  (h:wpAnyH P md l.toArray Q S (N-1) (ar.setIfInBounds i true) (a.put ((l[i]?).getD default).dst undef) w):wpAnyH P md l.toArray Q S N ar a w:=by
 simp only [yS,Bool.and_eq_true,decide_eq_true_eq] at hB;obtain ⟨⟨⟨⟨jM,hN⟩,hi⟩,hf⟩,hr⟩:=hB;obtain ⟨n,rfl⟩:∃n,N=n+1:=⟨N-1,by omega⟩
 have h0:l.toArray[i]?=some ((l[i]?).getD default):=by simp [cM (show i < l.length by simpa using hi)]
 exact wpAnyH_take h0 jM hf hr (fun c a w h=>qk hQ c a _ _ w h) (.inr ⟨hw,rfl⟩) hS h
theorem TJ {N:Nat} {ar:Array Bool} (i:Nat) (hB:Ac md l.toArray i ar N=true) (hw:Region.wanted ((l[i]?).getD default) (yielded l.toArray a.tmps)=true)
  (h:Oper.wp P ((l[i]?).getD default) a w (fun a' w'=>S w'∧wpAnyH P md l.toArray Q S (N-1) (ar.setIfInBounds i true) a' w') Q):wpAnyH P md l.toArray Q S N ar a w:=by
 simp only [Ac,Bool.and_eq_true,decide_eq_true_eq] at hB;obtain ⟨⟨hN,hi⟩,hr⟩:=hB;obtain ⟨n,rfl⟩:∃n,N=n+1:=⟨N-1,by omega⟩
 have h0:l.toArray[i]?=some ((l[i]?).getD default):=by simp [cM (show i < l.length by simpa using hi)]
 refine ⟨fun h1=>(by rw [hr] at h1;cases h1),fun j hj=>?_⟩;rw [hr] at hj;have jQ:j=i:=by simpa using hj
 subst jQ;unfold wpOp;simp only [h0];rw [if_pos hw];exact .inl h
theorem TI {N:Nat} {ar:Array Bool} (i j:Nat) (hB:M6 md l.toArray i j ar N=true)
  (hi:Region.wanted ((l[i]?).getD default) (yielded l.toArray a.tmps)=true) (hj:Region.wanted ((l[j]?).getD default) (yielded l.toArray a.tmps)=true)
  (h1:Oper.wp P ((l[i]?).getD default) a w (fun a' w'=>S w'∧wpAnyH P md l.toArray Q S (N-1) (ar.setIfInBounds i true) a' w') Q)
  (h2:Oper.wp P ((l[j]?).getD default) a w (fun a' w'=>S w'∧wpAnyH P md l.toArray Q S (N-1) (ar.setIfInBounds j true) a' w') Q):wpAnyH P md l.toArray Q S N ar a w:=by
 simp only [M6,Bool.and_eq_true,decide_eq_true_eq] at hB;obtain ⟨⟨⟨hN,Mh⟩,iZ⟩,hr⟩:=hB;obtain ⟨n,rfl⟩:∃n,N=n+1:=⟨N-1,by omega⟩
 have g:∀k,k < l.toArray.size→l.toArray[k]?=some ((l[k]?).getD default):=fun k hk=>by simp [cM (show k < l.length by simpa using hk)]
 refine ⟨fun h1=>(by rw [hr] at h1;cases h1),fun k hk=>?_⟩;rw [hr] at hk;unfold wpOp;rcases List.mem_cons.1 hk with rfl|hk
 ·simp only [g _ Mh];rw [if_pos hi];exact .inl h1
 ·have xM:k=j:=by simpa using hk
  subst xM;simp only [g _ iZ];rw [if_pos hj];exact .inl h2
theorem dW {N:Nat} {ar:Array Bool} {ops:Array Oper} (hr:(Region.ready md ops ar).isEmpty=true) (h:Q .normal a w):wpAnyH P md ops Q S N ar a w:=wpAnyH_done (by simpa using hr) h N
theorem cG {p q:Prop} (h:p) (k:p→q):p∧q:=⟨h,k h⟩
end
end bf
namespace bf
open Go.RowKit
theorem dV {P : Program} {Q : Exit → Act → World → Prop} {md : Region.Mode} {w : World} {l : List Oper} {a : Act} {S : World → Prop} {N : Nat} {ar : Array Bool} (i : Nat)
 (h : Oper.wp P ((l[i]?).getD default) a w (fun a' w' => S w' ∧ wpAnyH P md l.toArray Q S (N - 1) (ar.setIfInBounds i true) a' w') Q) (hB : Ac md l.toArray i ar N = true := by kernel_rfl) (hw : Region.wanted ((l[i]?).getD default) (yielded l.toArray a.tmps) = true := by rfl) : wpAnyH P md l.toArray Q S N ar a w := TJ i hB hw h
theorem ai {P : Program} {Q : Exit → Act → World → Prop} {md : Region.Mode} {w : World} {l : List Oper} {a : Act} {S : World → Prop} {N : Nat} {ar : Array Bool} {v : Value} (i : Nat) (h : wpAnyH P md l.toArray Q S (N - 1) (ar.setIfInBounds i true) (a.put ((l[i]?).getD default).dst v) w) (hB : yS md l.toArray i ar N = true := by kernel_rfl) (hQ : ∀ c a d v w, Q (.panic c) (Act.put a (some d) v) w → Q (.panic c) a w := by exact fun _ _ _ _ _ h => h)
 (hw : Region.wanted ((l[i]?).getD default) (yielded l.toArray a.tmps) = true := by rfl) (hv : ∀ w2, S w2 → (execOp a.eval ((l[i]?).getD default)).run P w2 = .ok (.value v) w2 := by intro w2 hS2; (try dsimp only at hS2); (try simp only [af,ae,ah]); go_simp <;> with_reducible rfl) (hS : S w := by assumption) : wpAnyH P md l.toArray Q S N ar a w := QN i hB hQ hw hv hS h
end bf
end Go.Proofs.YtdldkkoplgkloaaGreat
