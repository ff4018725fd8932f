/-
  PROVED HERE: lemmas and contracts that the law's proof leans on (texts put together: TabGet, StoreTab, HeldSegs).
  CONDITIONS: each names its own.
-/
import Derived.Deep.RegionHeld
import Derived.Deep.RegionLaw
import Derived.Test.YtdldkkoplgkloaaGreatPz4
import Derived.Test.YtdldkkoplgkloaaGreatPz11
import Derived.Test.YtdldkkoplgkloaaGreatPz13
namespace Go.Proofs.YtdldkkoplgkloaaGreat
set_option linter.unusedVariables false
set_option linter.unusedSimpArgs false
set_option maxRecDepth 100000
set_option maxHeartbeats 32000000
namespace tab


open Go.RowKit Go.Deep base obj mem sep plan num bytes crc chain image
theorem _root_.Go.Proofs.YtdldkkoplgkloaaGreat.image.RX.keep {w w':World} {B R:Nat} {s:Option (List Int)} (h:RX w B R s) (e:∀i,B≤i→i≤R→w'.heap[i]?=w.heap[i]?):RX w' B R s:=by
 cases s with
 | none =>
   obtain ⟨A,n,c,h,hb⟩:=h
   exact ⟨A,n,c,(e R hb (Nat.le_refl _)).trans h,hb⟩
 | some b=>exact ⟨h.1.keep e,h.2⟩
def rdA (B R:Nat) (s:Option (List Int)):Asn where
 on w F:=RX w B R s∧∀i,F i ↔ B≤i∧i≤R
 dom:=fun ⟨h,k⟩ i hi=>by have:=h.lt;have:=(k i).1 hi;omega
 loc:=fun ⟨h,k⟩ e=>⟨h.keep fun i h1 h2=>e i ((k i).2 ⟨h1,h2⟩),k⟩
theorem _root_.Go.Proofs.YtdldkkoplgkloaaGreat.sep.St.glue {w0 w w':World} {l L:List Asn} (h:St w0 w l) (k:St w w' L):St w0 w' (lst L::l):=by
 obtain ⟨F,h1,h2⟩:=k.sat
 exact h.add k.bel (Q:=lst L) h1 h2
theorem num_st {w0 w:World} {l:List Asn} {B R:Nat} {s:Option (List Int)} (h:St w0 w (rdA B R s::l)) (k:Nat) (h1:1≤k) (h6:k≤6) :
  Calls Tryz.prog 144 #[.pointer (some ⟨R,0,none⟩),.int .i64 k] w fun e w'=>e=.returned (.int .i64 ((rdNum k s).1:Nat))∧St w0 w' (rdA B R (rdNum k s).2::l):=by
 obtain ⟨F,⟨hx,hF⟩,_,hf⟩:=h.frame
 refine (num_x hx k h1 h6).mono fun e w' ⟨e1,e2,e3⟩=>⟨e1,hf w' _ F (e3.mono fun i _ hi=>(hF i).2 (by have e':i=R:=hi;have:=hx.lt;omega)) ⟨e2,hF⟩ fun i hi=>.inl hi⟩
theorem num_st1 {w0 w:World} {l:List Asn} {B R:Nat} {s:Option (List Int)} (h:St w0 w (rdA B R s::l)) :
  Calls Tryz.prog 144 #[.pointer (some ⟨R,0,none⟩),.int .i64 1] w fun e w'=>e=.returned (.int .i64 ((rdNum 1 s).1:Nat))∧St w0 w' (rdA B R (rdNum 1 s).2::l):=num_st h 1 (by omega) (by omega)
theorem num_st2 {w0 w:World} {l:List Asn} {B R:Nat} {s:Option (List Int)} (h:St w0 w (rdA B R s::l)) :
  Calls Tryz.prog 144 #[.pointer (some ⟨R,0,none⟩),.int .i64 2] w fun e w'=>e=.returned (.int .i64 ((rdNum 2 s).1:Nat))∧St w0 w' (rdA B R (rdNum 2 s).2::l):=num_st h 2 (by omega) (by omega)
theorem end_st {w0 w:World} {l:List Asn} {B R:Nat} {s:Option (List Int)} (h:St w0 w (rdA B R s::l)) :
  Calls Tryz.prog 146 #[.pointer (some ⟨R,0,none⟩)] w fun e w'=>e=.returned (.int .i64 (rdEnd s))∧w'=w:=by
 obtain ⟨F,⟨hx,hF⟩,_,_⟩:=h.frame
 exact end_x hx
theorem read_st {w0 w:World} {l:List Asn} (h:St w0 w l) (A:Option Addr) (n c:Nat) (bs:List Int) (hl:bs.length=n) (hs:Sl w w.heap.size 1 A n (bs.map (.int .u8))) (hn:n≤100000) (hby:Byt bs) :
  Calls Tryz.prog 143 #[.slice A n c] w fun e w'=>∃R,e=.returned (.pointer (some ⟨R,0,none⟩))∧St w0 w' (rdA w.heap.size R (some bs)::l):=by
 refine (read_at w A n c bs hl hs hn).mono fun e w' ⟨R,e1,e2,e3⟩=>⟨R,e1,?_⟩
 exact h.add e3 (F:=fun i=>w.heap.size≤i∧i≤R) ⟨⟨e2,hby,by omega⟩,fun i=>Iff.rfl⟩ fun i hi=>hi.1
theorem infoP:(Tryz.prog.info? 147).map (fun i=>(i.zero,i.size,i.bytes))=some (some (.agg #[.int .i64 0,.int .i64 0,.int .i64 0]),3,24):=by kernel_rfl
theorem infoW:(Tryz.prog.info? 150).map (fun i=>(i.zero,i.size,i.bytes))=some (some (.agg #[.int .i64 0,.int .i64 0,.int .i64 0]),3,24):=by kernel_rfl
theorem infoC:(Tryz.prog.info? 152).map (fun i=>(i.zero,i.size,i.bytes))=some (some (.agg #[.int .i64 0,.int .i64 0,.int .i64 0]),3,24):=by kernel_rfl
theorem slP3:SlT Tryz.prog 42 147 3 24:=by
 obtain ⟨i,h1,h2,h3,h4⟩:=info_parts infoP
 exact ⟨Tryz.underlying42,⟨i,_,h1,h2,h3,h4,rfl⟩,by decide⟩
theorem slW3:SlT Tryz.prog 43 150 3 24:=by
 obtain ⟨i,h1,h2,h3,h4⟩:=info_parts infoW
 exact ⟨Tryz.underlying43,⟨i,_,h1,h2,h3,h4,rfl⟩,by decide⟩
theorem slC3:SlT Tryz.prog 44 152 3 24:=by
 obtain ⟨i,h1,h2,h3,h4⟩:=info_parts infoC
 exact ⟨Tryz.underlying44,⟨i,_,h1,h2,h3,h4,rfl⟩,by decide⟩
theorem step_app3 {t e:TypeId} (T:SlT Tryz.prog t e 3 24) {ops:Array Oper} {o:Oper} {a:Act} {K:Act→World→Prop} {Q:Exit→Act→World→Prop} {E:Prop} {w0 w:World} {l:List Asn} (hgd:o.guard=none) (s x:Operand)
  (ho:o.op=.call { callee:=.builtin .append,args:=#[s,x],argTypes:=#[t,t] }) {v:Value} {n:Nat} {xs:List Value} (H:St w0 w (own e 3 v n xs::l)) (hs:a.eval s=v) {z0 z1 z2:Int} (hx:a.eval x=.slice (some ⟨w.heap.size,0,none⟩) 1 1) (hn:n≤1000000)
  (h:∀v' w',St w0 w' (own e 3 v' (n+1) (xs++[.int .i64 z0,.int .i64 z1,.int .i64 z2])::l)→K (a.put o.dst v') w'):if Region.wanted o (yielded ops a.tmps)=true then Oper.wp Tryz.prog o a (w.alloc (.cells #[.int .i64 z0,.int .i64 z1,.int .i64 z2] e)) K Q else E:=by
 have HX:=(H.new e #[.int .i64 z0,.int .i64 z1,.int .i64 z2]).swap
 exact step_app' T hgd s x ho HX.own hs hx ((Row.new w e #[.int .i64 z0,.int .i64 z1,.int .i64 z2]).sl (B:=w.heap.size+1) (size:=3) (n:=1) (o:=0) (ys:=[.int .i64 z0,.int .i64 z1,.int .i64 z2]) (Nat.lt_succ_self _) rfl rfl) (by simp [Value.oneCell']) (by omega) (by omega) (by unfold maxLen;omega) HX.bel.size fun g cap w' ho hg hor _=>h _ w' ((HX.grown hg ho (fun g' hg'=>by cases hg';exact hor)).swap.drop)
theorem rd1 {z:Int} (h0:0≤z) (h1:z≤255) (rest:List Int):rdNum 1 (some (z::rest))=(z.toNat,some rest):=by
 have h:=rdNum_be (k:=1) (m:=z.toNat) (by omega) rest
 rw [be_one h0 h1] at h
 exact h
theorem rd2 {z:Int} (h0:0≤z) (h1:z≤65535) (rest:List Int):rdNum 2 (some (be 2 z.toNat++rest))=(z.toNat,some rest):=rdNum_be (k:=2) (m:=z.toNat) (by omega) rest
def restB (l:List T3) (f:T3→List Int) (k:Nat) (r:List Int):List Int:=(l.drop k).flatMap f++r
theorem restB_succ {l:List T3} {f:T3→List Int} {k:Nat} (hk:k < l.length) (r:List Int):restB l f k r=f l[k]++restB l f (k+1) r:=by
 rw [restB,List.drop_eq_getElem_cons hk,List.flatMap_cons,List.append_assoc]
 rfl
theorem restB_end {l:List T3} {f:T3→List Int} {k:Nat} (hk:k=l.length) (r:List Int):restB l f k r=r:=by
 subst hk
 simp [restB]
theorem tab_byt {t:Tab} (r:TabR t):Byt (tabB t):=by
 have:=r.fr;have:=r.tr;have:=r.np;have:=r.nw;have:=r.nc
 intro z hz
 simp only [tabB,List.mem_append,List.mem_flatMap] at hz
 rcases hz with ((hz|⟨x,hx,hz⟩)|⟨x,hx,hz⟩)|⟨x,hx,hz⟩
 ·simp only [headB,List.mem_cons,List.not_mem_nil,or_false] at hz
  rcases hz with rfl|rfl|rfl|rfl|rfl<;>omega
 ·have h:=r.ps x hx
  simp only [partB,List.mem_append,List.mem_cons,List.not_mem_nil,or_false] at hz
  rcases hz with (rfl|rfl)|hz
  ·omega
  ·omega
  ·exact be_byt _ _ z hz
 ·have h:=r.ws x hx
  simp only [t3B,List.mem_cons,List.not_mem_nil,or_false] at hz
  rcases hz with rfl|rfl|rfl<;>omega
 ·have h:=r.cs x hx
  simp only [t3B,List.mem_cons,List.not_mem_nil,or_false] at hz
  rcases hz with rfl|rfl|rfl<;>omega
theorem tab_len {t:Tab} (r:TabR t):(tabB t).length≤1000:=by
 have:=r.np;have:=r.nw;have:=r.nc
 simp only [tabB,headB,List.length_append,List.length_cons,List.length_nil,flat_len partB_len,flat_len t3B_len]
 omega
theorem tget_at {w:World} {t:Tab} (hr:t.right=true) (A:Option Addr) (n c:Nat) (hn:(tabB t).length=n) (hs:Sl w w.heap.size 1 A n (u8s (tabB t))) :
  Calls Tryz.prog 117 #[.slice A n c] w fun e w'=>∃AP cP AW cW AC cC,e=.returned (.tuple #[tabAgg t.frame AP t.parts.length cP AW t.wins.length cW AC t.chans.length cC t.trial,.int .i64 0])∧St w w' [own 147 3 (.slice AP t.parts.length cP) t.parts.length (t3s t.parts),own 150 3 (.slice AW t.wins.length cW) t.wins.length (t3s t.wins),own 152 3 (.slice AC t.chans.length cC) t.chans.length (t3s t.chans)]:=by
 have R:=Tab.r hr
 have HB:=Lib.hid (tab_byt R)
 have hl:=tab_len R
 have HR:=Lib.hid R
 have HRT:=Lib.hid (fun (w':World) (AP:Option Addr) (nP cP:Nat) (AW:Option Addr) (nW cW:Nat) (AC:Option Addr) (nC cC:Nat) (h:TabV w' w'.heap.size t AP nP cP AW nW cW AC nC cC)=>right_at h)
 rw [hr] at HRT
 obtain ⟨T0,hT0⟩:∃T,T=w.heap.size:=⟨_,rfl⟩
 obtain ⟨w1,hw1⟩:∃w1,w1=w.alloc (.cells #[.int .i64 0,.slice none 0 0,.slice none 0 0,.slice none 0 0,.int .i64 0] 46):=⟨_,rfl⟩
 have H1:=Lib.hid (show St w w1 [row T0 46 (tabRow 0 none 0 0 none 0 0 none 0 0 0)] by rw [hw1,hT0];exact (St.nil w).new _ _)
 have HS:=Lib.hid (hs.below H1.out.bel |>.more H1.out.bel.size)
 have HRD:=Lib.hid (read_st H1.out A n c (tabB t) hn HS.out (by omega) HB.out)
 have HW1:=Lib.hid hw1;have HT0:=Lib.hid hT0
 obtain ⟨hd,hhd⟩:∃hd,hd=tabB t:=⟨_,rfl⟩
 rw [←hhd] at HRD
 have HHD:=Lib.hid hhd
 obtain ⟨fr,hfr⟩:∃fr,fr=t.frame:=⟨_,rfl⟩
 obtain ⟨tr,htr⟩:∃tr,tr=t.trial:=⟨_,rfl⟩
 rw [←hfr,←htr]
 obtain ⟨nP,hnP⟩:∃v,v=t.parts.length:=⟨_,rfl⟩
 obtain ⟨nW,hnW⟩:∃v,v=t.wins.length:=⟨_,rfl⟩
 obtain ⟨nC,hnC⟩:∃v,v=t.chans.length:=⟨_,rfl⟩
 rw [←hnP,←hnW,←hnC]
 have HD:=Lib.hid (show hd=fr::tr::(nP:Int)::(nW:Int)::(nC:Int)::restB t.parts partB 0 (restB t.wins t3B 0 (restB t.chans t3B 0 [])) by
  rw [HHD.out,hfr,htr,hnP,hnW,hnC]
  simp [tabB,headB,restB])
 have r1:=HR.out.fr;have r2:=HR.out.tr;have r3:=HR.out.np;have r4:=HR.out.nw;have r5:=HR.out.nc
 rw [←hfr] at r1;rw [←htr] at r2;rw [←hnP] at r3;rw [←hnW] at r4;rw [←hnC] at r5
 have HFR:=Lib.hid hfr;have HTR:=Lib.hid htr;have HLP:=Lib.hid hnP;have HLW:=Lib.hid hnW;have HLC:=Lib.hid hnC
 have N1:=Lib.hid (rd1 (z:=fr) (by omega) (by omega));have N2:=Lib.hid (rd1 (z:=tr) (by omega) (by omega))
 have N3:=Lib.hid (rd1 (z:=(nP:Int)) (by omega) (by omega));have N4:=Lib.hid (rd1 (z:=(nW:Int)) (by omega) (by omega));have N5:=Lib.hid (rd1 (z:=(nC:Int)) (by omega) (by omega))
 have I1:((fr.toNat:Nat):Int)=fr:=by omega
 have I2:((tr.toNat:Nat):Int)=tr:=by omega
 have I3:(((nP:Int).toNat:Nat):Int)=nP:=by omega
 have I4:(((nW:Int).toNat:Nat):Int)=nW:=by omega
 have I5:(((nC:Int).toNat:Nat):Int)=nC:=by omega
 have HI1:=Lib.hid I1;have HI2:=Lib.hid I2;have HI3:=Lib.hid I3;have HI4:=Lib.hid I4;have HI5:=Lib.hid I5
 obtain ⟨rest,hrest⟩:∃v,v=restB t.parts partB 0 (restB t.wins t3B 0 (restB t.chans t3B 0 [])):=⟨_,rfl⟩
 rw [←hrest] at HD
 have HRE:=Lib.hid hrest
 clear hfr htr hnP hnW hnC I1 I2 I3 I4 I5 hrest
 clear hw1 hT0 hr R hs hhd hl
 go_enter Tryz.func117,Tryz.ntmps117
 go_upto_region 1 with fail
 rw [←HW1.out,←HT0.out]
 go_wp2_with (fail)
 refine HRD.out.mono ?_
 rintro e w2 ⟨RR,rfl,hst⟩
 generalize hBB:w1.heap.size=BB at hst
 clear hBB
 obtain ⟨T,hT⟩:∃T,T=w2.heap.size:=⟨_,rfl⟩
 obtain ⟨w3,hw3⟩:∃v,v=w2.alloc (.cells #[.int .i64 0,.slice none 0 0,.slice none 0 0,.slice none 0 0,.int .i64 0] 46):=⟨_,rfl⟩
 have hst3:=hst.new 46 #[.int .i64 0,.slice none 0 0,.slice none 0 0,.slice none 0 0,.int .i64 0]
 rw [←hT,←hw3] at hst3
 have H3:=Lib.hid (show St w w3 [rdA BB RR (some hd),row T 46 (tabRow 0 none 0 0 none 0 0 none 0 0 0),row T0 46 (tabRow 0 none 0 0 none 0 0 none 0 0 0)] from hst3.swap)
 clear hst hst3 H1
 go_upto_region 3 with fail
 rw [←hT,←hw3]
 have HT:=Lib.hid hT
 clear hw3 hT
 have h3:=H3.out
 rw [HD.out] at h3
 have H3:=Lib.hid h3
 clear h3
 go_wp2_with (fail)
 refine (num_st H3.out 1 (by omega) (by omega)).mono ?_
 rintro e w4 ⟨rfl,hst⟩
 rw [N1.out] at hst ⊢
 dsimp only at hst ⊢
 rw [HI1.out]
 have H4:=Lib.hid hst
 clear hst H3
 go_wp2_with (fail)
 refine (num_st H4.out 1 (by omega) (by omega)).mono ?_
 rintro e w5 ⟨rfl,hst⟩
 rw [N2.out] at hst ⊢
 dsimp only at hst ⊢
 rw [HI2.out]
 have H5:=Lib.hid hst
 clear hst H4
 have t0:w5.cell? ⟨T,0,none⟩=some (.int .i64 0):=H5.out.swap.row.1.cell 0
 have t4:w5.cell? ⟨T,4,none⟩=some (.int .i64 0):=H5.out.swap.row.1.cell 4
 have f0:w5.frozen? ⟨T,0,none⟩=false:=H5.out.swap.row.1.frozen 0
 have f4:w5.frozen? ⟨T,4,none⟩=false:=H5.out.swap.row.1.frozen 4
 have lT:=H5.out.swap.row.1.lt
 go_wp2_with (fail)
 obtain ⟨w6,hw6⟩:∃v,v=(w5.setCell ⟨T,0,none⟩ (.int .i64 fr)).setCell ⟨T,4,none⟩ (.int .i64 tr):=⟨_,rfl⟩
 rw [←hw6]
 have hst6:=((H5.out.swap.set 0 (.int .i64 fr)).set 4 (.int .i64 tr)).swap
 rw [←hw6] at hst6
 have H6:=Lib.hid (show St w w6 [rdA BB RR (some ((nP:Int)::(nW:Int)::(nC:Int)::rest)),row T 46 (tabRow fr none 0 0 none 0 0 none 0 0 tr),row T0 46 (tabRow 0 none 0 0 none 0 0 none 0 0 0)] from hst6)
 clear hst6 hw6 H5 t0 t4 f0 f4 lT
 refine (num_st H6.out 1 (by omega) (by omega)).mono ?_
 rintro e w7 ⟨rfl,hst⟩
 rw [N3.out] at hst ⊢
 dsimp only at hst ⊢
 rw [HI3.out]
 have H7:=Lib.hid hst
 clear hst H6
 go_wp2_with (fail)
 refine (num_st H7.out 1 (by omega) (by omega)).mono ?_
 rintro e w8 ⟨rfl,hst⟩
 rw [N4.out] at hst ⊢
 dsimp only at hst ⊢
 rw [HI4.out]
 have H8:=Lib.hid hst
 clear hst H7
 go_wp2_with (fail)
 refine (num_st H8.out 1 (by omega) (by omega)).mono ?_
 rintro e w9 ⟨rfl,hst⟩
 rw [N5.out] at hst ⊢
 dsimp only at hst ⊢
 rw [HI5.out]
 have H9:=Lib.hid hst
 clear hst H8
 have HIN:=Lib.hid (show St w w9 [rdA BB RR (some (restB t.parts partB 0 (restB t.wins t3B 0 (restB t.chans t3B 0 [])))),row T 46 (tabRow fr none 0 0 none 0 0 none 0 0 tr),row T0 46 (tabRow 0 none 0 0 none 0 0 none 0 0 0)] by have h:=H9.out;rw [HRE.out] at h;exact h)
 clear H9
 have nz:∀(w':World) (B e:Nat),w'.ownsRow B e 3 (.slice none 0 0) 0 []:=fun _ _ _=>⟨rfl,.inl ⟨rfl,rfl⟩⟩
 go_wp2_with (fail)
 go_loopw [25] (fun i wr=>∃(j:Nat) (v:Value),j≤nP∧i=.int .i64 j∧St w wr [rdA BB RR (some (restB t.parts partB j (restB t.wins t3B 0 (restB t.chans t3B 0 [])))),row T 46 [.int .i64 fr,v,(.slice none 0 0),(.slice none 0 0),.int .i64 tr],own 147 3 v j (t3s (t.parts.take j)),row T0 46 (tabRow 0 none 0 0 none 0 0 none 0 0 0)]) (fun i _=>nP-(intOf i).toNat)
 case atStart=>exact ⟨0,.slice none 0 0,by omega,rfl,((HIN.out.addOwn (Below.refl _ _) (nz _ _ _)).pick 2 rfl).pick 2 rfl⟩
 case round =>
  obtain ⟨j,v,hj,rfl,hst⟩:=hrel
  clear HIN
  by_cases hlt:j < nP
  ·have hjb:j < t.parts.length:=by have:=HLP.out;omega
   have HX0:=HR.out.ps _ (List.getElem_mem hjb)
   have HTK:=Lib.hid (show t3s (t.parts.take (j+1))=t3s (t.parts.take j)++T3.cells t.parts[j] by rw [List.take_succ_eq_append_getElem hjb,t3s_snoc])
   rw [restB_succ hjb] at hst
   have n4:=HR.out.np
   generalize t.parts[j]=x at *
   obtain ⟨xa,xb,xc⟩:=x
   simp only at HX0
   simp only [partB,t3B,List.cons_append,List.nil_append] at hst
   have NA:=Lib.hid (rd1 (z:=xa) (by omega) (by omega));have NB:=Lib.hid (rd1 (z:=xb) (by omega) (by omega));have NC:=Lib.hid (rd2 (z:=xc) (by omega) (by omega))
   have IA:=Lib.hid (show ((xa.toNat:Nat):Int)=xa by omega);have IB:=Lib.hid (show ((xb.toNat:Nat):Int)=xb by omega);have IC:=Lib.hid (show ((xc.toNat:Nat):Int)=xc by omega)
   have H:=Lib.hid hst.drew
   have t1:wr.cell? ⟨T,1,none⟩=some v:=hst.swap.row.1.cell 1
   have lT:=hst.swap.row.1.lt
   have k1:(j:Int) < (nP:Int):=by omega
   clear hst HX0
   go_wp2_with (fail)
   go_region_law (first
    | (go_simp;(first|(with_reducible refine (num_st1 H.out).mono ?_)|(with_reducible refine (num_st2 H.out).mono ?_));rintro e w' ⟨rfl,hst⟩;(first|rw [NA.out] at hst ⊢|rw [NB.out] at hst ⊢|rw [NC.out] at hst ⊢);dsimp only at hst ⊢;(first|rw [IA.out]|rw [IB.out]|rw [IC.out]);have H:=Lib.hid hst;have t1:w'.cell? ⟨T,1,none⟩=some v:=hst.swap.row.1.cell 1;have lT:=hst.swap.row.1.lt;clear hst)
    | (refine step_app3 slP3 (by rfl) (.tmp 28) (.tmp 36) (by rfl) (H.out.pick 2 rfl) (by rfl) (by rfl) (by omega) ?_;intro v8 w8 hst;have H8:=Lib.hid (hst.pick 2 rfl);have f8:w8.frozen? ⟨T,1,none⟩=false:=(hst.pick 2 rfl).row.1.frozen 1;have c8:w8.cell? ⟨T,1,none⟩=some v:=(hst.pick 2 rfl).row.1.cell 1;have l8:=(hst.pick 2 rfl).row.1.lt;obtain ⟨A8,d8,rfl,_,_⟩:=own_form hst.own;clear hst))
   all_goals
    go_wp2_with (fail)
    go_roundw
    case rel =>
     refine ⟨j+1,.slice A8 (j+1) d8,by omega,by go_num,?_⟩
     have h:=(H8.out.set 1 (.slice A8 (j+1) d8))
     simp only [List.set_cons_succ,List.set_cons_zero] at h
     rw [HTK.out]
     exact h.pick 2 rfl
    case measure=>simp [intOf];omega
  ·have HE:=Lib.hid (show j=t.parts.length by have:=HLP.out;omega)
   have k1:¬(j:Int) < (nP:Int):=by omega
   rw [restB_end HE.out] at hst
   have hk:t3s (t.parts.take j)=t3s t.parts:=by rw [HE.out,List.take_length]
   have hjn:j=nP:=by omega
   rw [hk,hjn] at hst
   have HIN:=Lib.hid hst
   clear hst hk hjn
   go_wp2_with (fail)
   generalize wr=w10 at *
   generalize v=v1 at *
   go_loopw [41] (fun i wr=>∃(j:Nat) (v:Value),j≤nW∧i=.int .i64 j∧St w wr [rdA BB RR (some (restB t.wins t3B j (restB t.chans t3B 0 []))),row T 46 [.int .i64 fr,v1,v,(.slice none 0 0),.int .i64 tr],own 150 3 v j (t3s (t.wins.take j)),own 147 3 v1 nP (t3s t.parts),row T0 46 (tabRow 0 none 0 0 none 0 0 none 0 0 0)]) (fun i _=>nW-(intOf i).toNat)
   case atStart=>exact ⟨0,.slice none 0 0,by omega,rfl,((HIN.out.addOwn (Below.refl _ _) (nz _ _ _)).pick 2 rfl).pick 2 rfl⟩
   case round =>
    obtain ⟨j,v,hj,rfl,hst⟩:=hrel
    clear HIN
    by_cases hlt:j < nW
    ·have hjb:j < t.wins.length:=by have:=HLW.out;omega
     have HX0:=HR.out.ws _ (List.getElem_mem hjb)
     have HTK:=Lib.hid (show t3s (t.wins.take (j+1))=t3s (t.wins.take j)++T3.cells t.wins[j] by rw [List.take_succ_eq_append_getElem hjb,t3s_snoc])
     rw [restB_succ hjb] at hst
     have n4:=HR.out.np
     generalize t.wins[j]=x at *
     obtain ⟨xa,xb,xc⟩:=x
     simp only at HX0
     simp only [partB,t3B,List.cons_append,List.nil_append] at hst
     have NA:=Lib.hid (rd1 (z:=xa) (by omega) (by omega));have NB:=Lib.hid (rd1 (z:=xb) (by omega) (by omega));have NC:=Lib.hid (rd1 (z:=xc) (by omega) (by omega))
     have IA:=Lib.hid (show ((xa.toNat:Nat):Int)=xa by omega);have IB:=Lib.hid (show ((xb.toNat:Nat):Int)=xb by omega);have IC:=Lib.hid (show ((xc.toNat:Nat):Int)=xc by omega)
     have H:=Lib.hid hst.drew
     have t1:wr.cell? ⟨T,2,none⟩=some v:=hst.swap.row.1.cell 2
     have lT:=hst.swap.row.1.lt
     have k1:(j:Int) < (nW:Int):=by omega
     clear hst HX0
     go_wp2_with (fail)
     go_region_law (first
      | (go_simp;(first|(with_reducible refine (num_st1 H.out).mono ?_)|(with_reducible refine (num_st2 H.out).mono ?_));rintro e w' ⟨rfl,hst⟩;(first|rw [NA.out] at hst ⊢|rw [NB.out] at hst ⊢|rw [NC.out] at hst ⊢);dsimp only at hst ⊢;(first|rw [IA.out]|rw [IB.out]|rw [IC.out]);have H:=Lib.hid hst;have t1:w'.cell? ⟨T,2,none⟩=some v:=hst.swap.row.1.cell 2;have lT:=hst.swap.row.1.lt;clear hst)
      | (refine step_app3 slW3 (by rfl) (.tmp 44) (.tmp 52) (by rfl) (H.out.pick 2 rfl) (by rfl) (by rfl) (by omega) ?_;intro v8 w8 hst;have H8:=Lib.hid (hst.pick 2 rfl);have f8:w8.frozen? ⟨T,2,none⟩=false:=(hst.pick 2 rfl).row.1.frozen 2;have c8:w8.cell? ⟨T,2,none⟩=some v:=(hst.pick 2 rfl).row.1.cell 2;have l8:=(hst.pick 2 rfl).row.1.lt;obtain ⟨A8,d8,rfl,_,_⟩:=own_form hst.own;clear hst))
     all_goals
      go_wp2_with (fail)
      go_roundw
      case rel =>
       refine ⟨j+1,.slice A8 (j+1) d8,by omega,by go_num,?_⟩
       have h:=(H8.out.set 2 (.slice A8 (j+1) d8))
       simp only [List.set_cons_succ,List.set_cons_zero] at h
       rw [HTK.out]
       exact h.pick 2 rfl
      case measure=>simp [intOf];omega
    ·have HE:=Lib.hid (show j=t.wins.length by have:=HLW.out;omega)
     have k1:¬(j:Int) < (nW:Int):=by omega
     rw [restB_end HE.out] at hst
     have hk:t3s (t.wins.take j)=t3s t.wins:=by rw [HE.out,List.take_length]
     have hjn:j=nW:=by omega
     rw [hk,hjn] at hst
     have HIN:=Lib.hid hst
     clear hst hk hjn
     go_wp2_with (fail)
     generalize wr=w11 at *
     generalize v=v2 at *
     go_loopw [57] (fun i wr=>∃(j:Nat) (v:Value),j≤nC∧i=.int .i64 j∧St w wr [rdA BB RR (some (restB t.chans t3B j [])),row T 46 [.int .i64 fr,v1,v2,v,.int .i64 tr],own 152 3 v j (t3s (t.chans.take j)),own 150 3 v2 nW (t3s t.wins),own 147 3 v1 nP (t3s t.parts),row T0 46 (tabRow 0 none 0 0 none 0 0 none 0 0 0)]) (fun i _=>nC-(intOf i).toNat)
     case atStart=>exact ⟨0,.slice none 0 0,by omega,rfl,((HIN.out.addOwn (Below.refl _ _) (nz _ _ _)).pick 2 rfl).pick 2 rfl⟩
     case round =>
      obtain ⟨j,v,hj,rfl,hst⟩:=hrel
      clear HIN
      by_cases hlt:j < nC
      ·have hjb:j < t.chans.length:=by have:=HLC.out;omega
       have HX0:=HR.out.cs _ (List.getElem_mem hjb)
       have HTK:=Lib.hid (show t3s (t.chans.take (j+1))=t3s (t.chans.take j)++T3.cells t.chans[j] by rw [List.take_succ_eq_append_getElem hjb,t3s_snoc])
       rw [restB_succ hjb] at hst
       have n4:=HR.out.np
       generalize t.chans[j]=x at *
       obtain ⟨xa,xb,xc⟩:=x
       simp only at HX0
       simp only [partB,t3B,List.cons_append,List.nil_append] at hst
       have NA:=Lib.hid (rd1 (z:=xa) (by omega) (by omega));have NB:=Lib.hid (rd1 (z:=xb) (by omega) (by omega));have NC:=Lib.hid (rd1 (z:=xc) (by omega) (by omega))
       have IA:=Lib.hid (show ((xa.toNat:Nat):Int)=xa by omega);have IB:=Lib.hid (show ((xb.toNat:Nat):Int)=xb by omega);have IC:=Lib.hid (show ((xc.toNat:Nat):Int)=xc by omega)
       have H:=Lib.hid hst.drew
       have t1:wr.cell? ⟨T,3,none⟩=some v:=hst.swap.row.1.cell 3
       have lT:=hst.swap.row.1.lt
       have k1:(j:Int) < (nC:Int):=by omega
       clear hst HX0
       go_wp2_with (fail)
       go_region_law (first
        | (go_simp;(first|(with_reducible refine (num_st1 H.out).mono ?_)|(with_reducible refine (num_st2 H.out).mono ?_));rintro e w' ⟨rfl,hst⟩;(first|rw [NA.out] at hst ⊢|rw [NB.out] at hst ⊢|rw [NC.out] at hst ⊢);dsimp only at hst ⊢;(first|rw [IA.out]|rw [IB.out]|rw [IC.out]);have H:=Lib.hid hst;have t1:w'.cell? ⟨T,3,none⟩=some v:=hst.swap.row.1.cell 3;have lT:=hst.swap.row.1.lt;clear hst)
        | (refine step_app3 slC3 (by rfl) (.tmp 60) (.tmp 68) (by rfl) (H.out.pick 2 rfl) (by rfl) (by rfl) (by omega) ?_;intro v8 w8 hst;have H8:=Lib.hid (hst.pick 2 rfl);have f8:w8.frozen? ⟨T,3,none⟩=false:=(hst.pick 2 rfl).row.1.frozen 3;have c8:w8.cell? ⟨T,3,none⟩=some v:=(hst.pick 2 rfl).row.1.cell 3;have l8:=(hst.pick 2 rfl).row.1.lt;obtain ⟨A8,d8,rfl,_,_⟩:=own_form hst.own;clear hst))
       all_goals
        go_wp2_with (fail)
        go_roundw
        case rel =>
         refine ⟨j+1,.slice A8 (j+1) d8,by omega,by go_num,?_⟩
         have h:=(H8.out.set 3 (.slice A8 (j+1) d8))
         simp only [List.set_cons_succ,List.set_cons_zero] at h
         rw [HTK.out]
         exact h.pick 2 rfl
        case measure=>simp [intOf];omega
      ·have HE:=Lib.hid (show j=t.chans.length by have:=HLC.out;omega)
       have k1:¬(j:Int) < (nC:Int):=by omega
       rw [restB_end HE.out] at hst
       have hk:t3s (t.chans.take j)=t3s t.chans:=by rw [HE.out,List.take_length]
       have hjn:j=nC:=by omega
       rw [hk,hjn] at hst
       have HIN:=Lib.hid hst
       clear hst hk hjn
       go_wp2_with (fail)
       generalize wr=w12 at *
       generalize v=v3 at *
       obtain ⟨A1,c1,rfl,_,hm1⟩:=own_form (HIN.out.pick 4 rfl).own
       obtain ⟨A2,c2,rfl,_,hm2⟩:=own_form (HIN.out.pick 3 rfl).own
       obtain ⟨A3,c3,rfl,_,hm3⟩:=own_form (HIN.out.pick 2 rfl).own
       refine (end_st HIN.out).mono ?_
       rintro e w13 ⟨rfl,rfl⟩
       rw [show rdEnd (some [])=0 from rfl]
       have H13:=Lib.hid (show St w w13 [row T 46 [.int .i64 fr,.slice A1 nP c1,.slice A2 nW c2,.slice A3 nC c3,.int .i64 tr],rdA BB RR (some []),own 152 3 (.slice A3 nC c3) nC (t3s t.chans),own 150 3 (.slice A2 nW c2) nW (t3s t.wins),own 147 3 (.slice A1 nP c1) nP (t3s t.parts),row T0 46 (tabRow 0 none 0 0 none 0 0 none 0 0 0)] from HIN.out.swap)
       clear HIN
       have t0:w13.cell? ⟨T,0,none⟩=some (.int .i64 fr):=H13.out.row.1.cell 0
       have t1:w13.cell? ⟨T,1,none⟩=some (.slice A1 nP c1):=H13.out.row.1.cell 1
       have t2:w13.cell? ⟨T,2,none⟩=some (.slice A2 nW c2):=H13.out.row.1.cell 2
       have t3:w13.cell? ⟨T,3,none⟩=some (.slice A3 nC c3):=H13.out.row.1.cell 3
       have t4:w13.cell? ⟨T,4,none⟩=some (.int .i64 tr):=H13.out.row.1.cell 4
       have lT:=H13.out.row.1.lt
       go_wp2_with (fail)
       have hrt:=HRT.out w13 A1 nP c1 A2 nW c2 A3 nC c3 ⟨Sl.of_own (H13.out.pick 4 rfl).own,Sl.of_own (H13.out.pick 3 rfl).own,Sl.of_own (H13.out.pick 2 rfl).own,HLP.out,HLW.out,HLC.out,by unfold maxLen;omega,by unfold maxLen;omega,by unfold maxLen;omega⟩
       rw [←HFR.out,←HTR.out] at hrt
       have HH:=Lib.hid hrt
       clear hrt
       refine HH.out.mono ?_
       rintro e w14 ⟨rfl,hb14⟩
       have H14:=Lib.hid (H13.out.below hb14)
       clear hb14 t0 t1 t2 t3 t4 lT H13
       have t0:w14.cell? ⟨T,0,none⟩=some (.int .i64 fr):=H14.out.row.1.cell 0
       have t1:w14.cell? ⟨T,1,none⟩=some (.slice A1 nP c1):=H14.out.row.1.cell 1
       have t2:w14.cell? ⟨T,2,none⟩=some (.slice A2 nW c2):=H14.out.row.1.cell 2
       have t3:w14.cell? ⟨T,3,none⟩=some (.slice A3 nC c3):=H14.out.row.1.cell 3
       have t4:w14.cell? ⟨T,4,none⟩=some (.int .i64 tr):=H14.out.row.1.cell 4
       have lT:=H14.out.row.1.lt
       go_wp2_with (refine wpList_putR rfl 46 (.tmp 2) (.tmp 82) rfl T0 0 #[.int .i64 fr,.slice A1 nP c1,.slice A2 nW c2,.slice A3 nC c3,.int .i64 tr] rfl rfl (H14.out.pick 5 rfl).row.1 (by kernel_rfl) (by simp) (by simp [Value.oneCell']) [.int .i64 fr,.slice A1 nP c1,.slice A2 nW c2,.slice A3 nC c3,.int .i64 tr] (by simp) ?_)
       refine bodyPost_ret (res_cell_slot rfl _ _ T0 _ _ _ _ _ rfl rfl ((H14.out.pick 5 rfl).row.1.setRow [.int .i64 fr,.slice A1 nP c1,.slice A2 nW c2,.slice A3 nC c3,.int .i64 tr]) Tryz.underlying46 rfl (by kernel_rfl)) rfl ?_
       have h:=((H14.out.pick 5 rfl).setRow [.int .i64 fr,.slice A1 nP c1,.slice A2 nW c2,.slice A3 nC c3,.int .i64 tr]).drop.drop.drop
       exact ⟨A1,c1,A2,c2,A3,c3,rfl,(h.pick 1 rfl).pick 2 rfl⟩
end tab
namespace tab


open Go.RowKit Go.Deep base obj mem sep plan num bytes crc chain image
structure TabA where
 AP:Option Addr
 cP:Nat
 AW:Option Addr
 cW:Nat
 AC:Option Addr
 cC:Nat
def TabA.val (a:TabA) (t:Tab):Value:=tabAgg t.frame a.AP t.parts.length a.cP a.AW t.wins.length a.cW a.AC t.chans.length a.cC t.trial
def tbl (a:TabA) (t:Tab):Asn:=lst [own 147 3 (.slice a.AP t.parts.length a.cP) t.parts.length (t3s t.parts),own 150 3 (.slice a.AW t.wins.length a.cW) t.wins.length (t3s t.wins),own 152 3 (.slice a.AC t.chans.length a.cC) t.chans.length (t3s t.chans)]
def TabW (w:World) (a:TabA) (t:Tab):Prop:=TabV w w.heap.size t a.AP t.parts.length a.cP a.AW t.wins.length a.cW a.AC t.chans.length a.cC
theorem tbl_v {w0 w:World} {l:List Asn} {a:TabA} {t:Tab} (h:St w0 w (tbl a t::l)):TabW w a t:=by
 have h:=h.unlst
 have h1:=h.own
 have h2:=(h.pick 1 rfl).own
 have h3:=(h.pick 2 rfl).own
 obtain ⟨_,_,e1,f1,g1⟩:=own_form h1
 obtain ⟨_,_,e2,f2,g2⟩:=own_form h2
 obtain ⟨_,_,e3,f3,g3⟩:=own_form h3
 injection e1 with _ _ e1;injection e2 with _ _ e2;injection e3 with _ _ e3
 exact ⟨Sl.of_own h1,Sl.of_own h2,Sl.of_own h3,rfl,rfl,rfl,by omega,by omega,by omega⟩
theorem own2_at {w0 w:World} {l:List Asn} (h0:St w0 w l) {a:TabA} {t:Tab} (h:TabW w a t) (hr:t.right=true) :
  Calls Tryz.prog 69 #[a.val t] w fun e w'=>∃a':TabA,e=.returned (a'.val t)∧St w0 w' (tbl a' t::l):=by
 have HP:=Lib.hid (fun (w':World) (hb:Below w.heap.size w w')=>tput_at (h.over hb) hr)
 have HG:=Lib.hid (fun (w':World) (A:Option Addr) (n c:Nat) (hn:(tabB t).length=n) (hs:Sl w' w'.heap.size 1 A n (u8s (tabB t)))=>tget_at hr A n c hn hs)
 obtain ⟨T,hT⟩:∃T,T=w.heap.size:=⟨_,rfl⟩
 obtain ⟨AP,cP,AW,cW,AC,cC⟩:=a
 simp only [TabA.val]
 obtain ⟨w1,hw1⟩:∃w1,w1=(w.alloc (.cells #[.int .i64 t.frame,.slice AP t.parts.length cP,.slice AW t.wins.length cW,.slice AC t.chans.length cC,.int .i64 t.trial] 46)).alloc (.cells #[.int .i64 0,.slice none 0 0,.slice none 0 0,.slice none 0 0,.int .i64 0] 46):=⟨_,rfl⟩
 have H1:=Lib.hid (show St w w1 [row T 46 (tabRow t.frame AP t.parts.length cP AW t.wins.length cW AC t.chans.length cC t.trial),row (T+1) 46 (tabRow 0 none 0 0 none 0 0 none 0 0 0)] by
  have h:=((St.nil w).new 46 #[.int .i64 t.frame,.slice AP t.parts.length cP,.slice AW t.wins.length cW,.slice AC t.chans.length cC,.int .i64 t.trial]).new 46 #[.int .i64 0,.slice none 0 0,.slice none 0 0,.slice none 0 0,.int .i64 0]
  rw [show (w.alloc (.cells #[.int .i64 t.frame,.slice AP t.parts.length cP,.slice AW t.wins.length cW,.slice AC t.chans.length cC,.int .i64 t.trial] 46)).heap.size=T+1 by rw [hT];exact Array.size_push _,←hT,←hw1] at h
  exact h.swap)
 have HW1:=Lib.hid hw1;have HT:=Lib.hid hT;have H0:=Lib.hid h0
 obtain ⟨nP,hnP⟩:∃v,v=t.parts.length:=⟨_,rfl⟩
 obtain ⟨nW,hnW⟩:∃v,v=t.wins.length:=⟨_,rfl⟩
 obtain ⟨nC,hnC⟩:∃v,v=t.chans.length:=⟨_,rfl⟩
 obtain ⟨fr,hfr⟩:∃fr,fr=t.frame:=⟨_,rfl⟩
 obtain ⟨tr,htr⟩:∃tr,tr=t.trial:=⟨_,rfl⟩
 simp only [←hfr,←htr,←hnP,←hnW,←hnC] at HP HG H1 hw1 HW1 ⊢
 have HFR:=Lib.hid hfr;have HTR:=Lib.hid htr;have HNP:=Lib.hid hnP;have HNW:=Lib.hid hnW;have HNC:=Lib.hid hnC
 clear hw1 hT h0 h hr hnP hnW hnC hfr htr
 go_enter Tryz.func69,Tryz.ntmps69
 go_upto_region 1 with fail
 rw [←HW1.out,←HT.out]
 have t0:w1.cell? ⟨T,0,none⟩=some (.int .i64 fr):=H1.out.row.1.cell 0
 have t1:w1.cell? ⟨T,1,none⟩=some (.slice AP nP cP):=H1.out.row.1.cell 1
 have t2:w1.cell? ⟨T,2,none⟩=some (.slice AW nW cW):=H1.out.row.1.cell 2
 have t3:w1.cell? ⟨T,3,none⟩=some (.slice AC nC cC):=H1.out.row.1.cell 3
 have t4:w1.cell? ⟨T,4,none⟩=some (.int .i64 tr):=H1.out.row.1.cell 4
 have lT:=H1.out.row.1.lt
 go_wp2_with (fail)
 refine (HP.out w1 H1.out.bel).mono ?_
 rintro e w2 ⟨v,rfl,ho,hb⟩
 have H2:=Lib.hid (H1.out.below hb)
 obtain ⟨A,c,rfl,_,_⟩:=own_form ho
 have HS:=Lib.hid (Sl.of_own ho)
 clear t0 t1 t2 t3 t4 lT H1 ho hb
 obtain ⟨n,hn⟩:∃n,n=(tabB t).length:=⟨_,rfl⟩
 rw [←hn] at HS ⊢
 have HN:=Lib.hid hn.symm
 clear hn
 go_wp2_with (fail)
 refine (HG.out w2 A n c HN.out HS.out).mono ?_
 rintro e w3 ⟨A1,c1,A2,c2,A3,c3,rfl,hst⟩
 have H3:=Lib.hid ((H2.out.glue hst).pick 1 rfl)
 clear hst H2
 have t0:w3.cell? ⟨T,0,none⟩=some (.int .i64 fr):=H3.out.row.1.cell 0
 have lT:=H3.out.row.1.lt
 have h4:=H3.out.setRow [.int .i64 fr,.slice A1 nP c1,.slice A2 nW c2,.slice A3 nC c3,.int .i64 tr]
 go_upto_region 3 with (refine wpList_putR rfl 46 (.tmp 1) (.tmp 13) rfl T 0 #[.int .i64 fr,.slice A1 nP c1,.slice A2 nW c2,.slice A3 nC c3,.int .i64 tr] rfl rfl H3.out.row.1 (by kernel_rfl) (by simp) (by simp [Value.oneCell']) [.int .i64 fr,.slice A1 nP c1,.slice A2 nW c2,.slice A3 nC c3,.int .i64 tr] (by simp) ?_)
 obtain ⟨w4,hw4⟩:∃v,v=w3.setRow T #[.int .i64 fr,.slice A1 nP c1,.slice A2 nW c2,.slice A3 nC c3,.int .i64 tr]:=⟨_,rfl⟩
 rw [←hw4] at h4 ⊢
 have H4:=Lib.hid h4
 have t0:w4.cell? ⟨T,0,none⟩=some (.int .i64 fr):=h4.row.1.cell 0
 have t1:w4.cell? ⟨T,1,none⟩=some (.slice A1 nP c1):=h4.row.1.cell 1
 have t2:w4.cell? ⟨T,2,none⟩=some (.slice A2 nW c2):=h4.row.1.cell 2
 have t3:w4.cell? ⟨T,3,none⟩=some (.slice A3 nC c3):=h4.row.1.cell 3
 have t4:w4.cell? ⟨T,4,none⟩=some (.int .i64 tr):=h4.row.1.cell 4
 have lT:=h4.row.1.lt
 clear h4 hw4
 have r1:=(H4.out.pick 2 rfl).row.1
 have HR1:=Lib.hid r1
 clear r1
 go_wp2_with (refine wpList_putR rfl 46 (.tmp 2) (.tmp 15) rfl (T+1) 0 #[.int .i64 fr,.slice A1 nP c1,.slice A2 nW c2,.slice A3 nC c3,.int .i64 tr] rfl rfl HR1.out (by kernel_rfl) (by simp) (by simp [Value.oneCell']) [.int .i64 fr,.slice A1 nP c1,.slice A2 nW c2,.slice A3 nC c3,.int .i64 tr] (by simp) ?_)
 have h:=(H4.out.pick 2 rfl).setRow [.int .i64 fr,.slice A1 nP c1,.slice A2 nW c2,.slice A3 nC c3,.int .i64 tr]
 refine bodyPost_ret (v:=.agg #[.int .i64 fr,.slice A1 nP c1,.slice A2 nW c2,.slice A3 nC c3,.int .i64 tr]) (results_cell_row rfl _ _ (T+1) _ _ _ _ rfl (h.row.1) Tryz.underlying46 rfl (by kernel_rfl)) rfl ?_
 have h2:=(h.pick 2 rfl).take 1
 obtain rfl:=HNP.out;obtain rfl:=HNW.out;obtain rfl:=HNC.out;obtain rfl:=HFR.out;obtain rfl:=HTR.out
 exact ⟨⟨A1,c1,A2,c2,A3,c3⟩,rfl,(H0.out.glue h2).unlst⟩
end tab
namespace plan

open Go.RowKit
section
variable {P : Program} {Q : Exit → Act → World → Prop} {md : Region.Mode} {w : World} {l : List Oper} {a : Act} {S : World → Prop}
theorem held_start (S:World→Prop) {id:Nat} (hm:P.follows .mixedOrders=true) (hS:S w.drew) (h:S w.drew→wpAnyH P .any l.toArray Q S l.toArray.size (Array.replicate l.toArray.size false) a w.drew):(Code.region id l.toArray true).wp P Q a w:=wp_region_held_drew hm hS h
theorem held_take {N:Nat} {listed:Array Bool} {v:Value} (i:Nat) (hB:freeB md l.toArray i listed N=true) (hQ:∀c a d v w,Q (.panic c) (Act.put a (some d) v) w→Q (.panic c) a w)
  (hw:Region.wanted ((l[i]?).getD default) (yielded l.toArray a.tmps)=true) (hv:∀w2,S w2→(execOp a.eval ((l[i]?).getD default)).run P w2=.ok (.value v) w2) (hS:S w)
  (h:wpAnyH P md l.toArray Q S (N-1) (listed.setIfInBounds i true) (a.put ((l[i]?).getD default).dst v) w):wpAnyH P md l.toArray Q S N listed a w:=by
 simp only [freeB,Bool.and_eq_true,decide_eq_true_eq] at hB
 obtain ⟨⟨⟨⟨hsel,hN⟩,hi⟩,hf⟩,hr⟩:=hB
 obtain ⟨n,rfl⟩:∃n,N=n+1:=⟨N-1,by omega⟩
 have h0:l.toArray[i]?=some ((l[i]?).getD default):=by simp [List.getElem?_eq_getElem (show i < l.length by simpa using hi)]
 exact wpAnyH_take h0 hsel hf hr (fun c a w h=>put_some hQ c a _ _ w h) (.inl ⟨hw,fun w2=>hv w2⟩) hS h
theorem held_drop {N:Nat} {listed:Array Bool} (i:Nat) (hB:freeB md l.toArray i listed N=true) (hQ:∀c a d v w,Q (.panic c) (Act.put a (some d) v) w→Q (.panic c) a w)
  (hw:Region.wanted ((l[i]?).getD default) (yielded l.toArray a.tmps)=false) (hS:S w)
  (h:wpAnyH P md l.toArray Q S (N-1) (listed.setIfInBounds i true) (a.put ((l[i]?).getD default).dst undef) w):wpAnyH P md l.toArray Q S N listed a w:=by
 simp only [freeB,Bool.and_eq_true,decide_eq_true_eq] at hB
 obtain ⟨⟨⟨⟨hsel,hN⟩,hi⟩,hf⟩,hr⟩:=hB
 obtain ⟨n,rfl⟩:∃n,N=n+1:=⟨N-1,by omega⟩
 have h0:l.toArray[i]?=some ((l[i]?).getD default):=by simp [List.getElem?_eq_getElem (show i < l.length by simpa using hi)]
 exact wpAnyH_take h0 hsel hf hr (fun c a w h=>put_some hQ c a _ _ w h) (.inr ⟨hw,rfl⟩) hS h
theorem held_one {N:Nat} {listed:Array Bool} (i:Nat) (hB:oneB md l.toArray i listed N=true) (hw:Region.wanted ((l[i]?).getD default) (yielded l.toArray a.tmps)=true)
  (h:Oper.wp P ((l[i]?).getD default) a w (fun a' w'=>S w'∧wpAnyH P md l.toArray Q S (N-1) (listed.setIfInBounds i true) a' w') Q):wpAnyH P md l.toArray Q S N listed a w:=by
 simp only [oneB,Bool.and_eq_true,decide_eq_true_eq] at hB
 obtain ⟨⟨hN,hi⟩,hr⟩:=hB
 obtain ⟨n,rfl⟩:∃n,N=n+1:=⟨N-1,by omega⟩
 have h0:l.toArray[i]?=some ((l[i]?).getD default):=by simp [List.getElem?_eq_getElem (show i < l.length by simpa using hi)]
 refine ⟨fun h1=>(by rw [hr] at h1;cases h1),fun j hj=>?_⟩
 rw [hr] at hj
 have hji:j=i:=by simpa using hj
 subst hji
 unfold wpOp
 simp only [h0]
 rw [if_pos hw]
 exact .inl h
theorem held_end {N:Nat} {listed:Array Bool} {ops:Array Oper} (hr:(Region.ready md ops listed).isEmpty=true) (h:Q .normal a w):wpAnyH P md ops Q S N listed a w:=wpAnyH_done (by simpa using hr) h N
theorem and_hand {p q:Prop} (h:p) (k:p→q):p∧q:=⟨h,k h⟩
end
end plan
namespace plan
open Go.RowKit
theorem held_t {P : Program} {Q : Exit → Act → World → Prop} {md : Region.Mode} {w : World} {l : List Oper} {a : Act} {S : World → Prop} {N : Nat} {listed : Array Bool} {v : Value} (i : Nat) (hB : freeB md l.toArray i listed N = true := by kernel_rfl) (hQ : ∀ c a d v w, Q (.panic c) (Act.put a (some d) v) w → Q (.panic c) a w := by exact fun _ _ _ _ _ h => h)
 (hw : Region.wanted ((l[i]?).getD default) (yielded l.toArray a.tmps) = true := by rfl) (hv : ∀ w2, S w2 → (execOp a.eval ((l[i]?).getD default)).run P w2 = .ok (.value v) w2 := by intro w2 hS2; (try dsimp only at hS2); (try simp only [xGs,xGz,xGo]); go_simp <;> with_reducible rfl) (hS : S w := by assumption)
 (h : wpAnyH P md l.toArray Q S (N - 1) (listed.setIfInBounds i true) (a.put ((l[i]?).getD default).dst v) w) : wpAnyH P md l.toArray Q S N listed a w := held_take i hB hQ hw hv hS h
end plan
end Go.Proofs.YtdldkkoplgkloaaGreat
