/-
  PROVED HERE: lemmas and contracts that the law's proof leans on (texts put together: RefStore, RefMake, RefMakes).
  CONDITIONS: each names its own.
-/
import Derived.Test.YtdldkkoplgkloaaGreatPz31
namespace Go.Proofs.YtdldkkoplgkloaaGreat
set_option linter.unusedVariables false
set_option linter.unusedSimpArgs false
set_option maxRecDepth 100000
set_option maxHeartbeats 32000000
namespace store


open Go.RowKit Go.Deep base obj mem sep plan disk record commit stage image tab compat chain crc
theorem slot_info:(Tryz.prog.info? 118).map (fun i=>(i.zero,i.size,i.bytes))=some (some (.agg #[.bool false,.int .i64 0,.int .i64 0,.int .i64 0,.slice none 0 0]),5,56):=by kernel_rfl
theorem slSlot:SlT Tryz.prog 63 118 5 56:=by
 obtain ⟨i0,hi,hz0,hz1,hz2⟩:=info_parts slot_info
 exact ⟨Tryz.underlying63,⟨i0,_,hi,hz0,hz1,hz2,rfl⟩,by decide⟩
theorem img_info:(Tryz.prog.info? 26).map (fun i=>(i.zero,i.size,i.bytes))=some (some (.agg #[.int .i64 0,.int .i64 0,.int .i64 0,.int .i64 0,.int .i64 0,.int .i64 0,.int .i64 0,.slice none 0 0]),8,80):=by kernel_rfl
theorem slImg:SlT Tryz.prog 47 26 8 80:=by
 obtain ⟨i0,hi,hz0,hz1,hz2⟩:=info_parts img_info
 exact ⟨Tryz.underlying47,⟨i0,_,hi,hz0,hz1,hz2,rfl⟩,by decide⟩
theorem rown_info:(Tryz.prog.info? 65).map (fun i=>(i.zero,i.size,i.bytes))=some (some (.agg #[.int .i64 0,.int .i64 0,.int .i64 0,.int .i64 0,.int .i64 0,.int .i64 0,.slice none 0 0,.slice none 0 0]),8,96):=by kernel_rfl
theorem slROwn:SlT Tryz.prog 66 65 8 96:=by
 obtain ⟨i0,hi,hz0,hz1,hz2⟩:=info_parts rown_info
 exact ⟨Tryz.underlying66,⟨i0,_,hi,hz0,hz1,hz2,rfl⟩,by decide⟩
theorem app_st {t e size bytes:Nat} (T:SlT Tryz.prog t e size bytes) {ops:Array Oper} {rest:List Oper} {o:Oper} {a:Act} {Q:Exit→Act→World→Prop} {w0 w:World} {l:List Asn} (hgd:o.guard=none) (s x:Operand)
  (ho:o.op=.call { callee:=.builtin .append,args:=#[s,x],argTypes:=#[t,t] }) {v:Value} {n:Nat} {xs:List Value} (H:St w0 w (own e size v n xs::l)) (hs:a.eval s=v) {m:Nat} (zs:List Value) (hz:zs.length=m*size) (h1:∀u∈zs,u.oneCell'=true)
  (hx:a.eval x=.slice (some ⟨w.heap.size,0,none⟩) m m) (hm:0 < m) (hb:(n+m)*bytes≤140737488355328) (h63:n+m≤maxLen)
  (h:∀g c w',St w0 w' (own e size (.slice (some ⟨g,0,none⟩) (n+m) c) (n+m) (xs++zs)::l)→wpList Tryz.prog ops Q rest (a.put o.dst (.slice (some ⟨g,0,none⟩) (n+m) c)) w'):wpList Tryz.prog ops Q (o::rest) a (w.alloc (.cells zs.toArray e)):=by
 have HX:=(H.new e zs.toArray).swap
 exact app_row T hgd s x ho HX.own hs hx ((Row.new w e zs.toArray).sl (B:=w.heap.size+1) (size:=size) (n:=m) (o:=0) (ys:=zs) (Nat.lt_succ_self _) (by rw [List.drop_zero,List.take_of_length_le (by simp [hz])]) hz) h1 hm hb h63 HX.bel.size fun g cap w' ho hg hor _=>h g cap w' ((HX.grown hg ho (fun g' hg'=>by cases hg';exact hor)).swap.drop)
end store
namespace store


open Go.RowKit Go.Deep base obj mem sep plan disk record commit stage image tab compat chain crc
structure RP where
 rec_:Rec
 s0:RS
 s1:RS
 i0:Img
 i1:Img
structure RPA where
 vS:Value
 vI:Value
 v0:Value
 v1:Value
 vs0:List Value
 vs1:List Value
 K0:Option Addr×Nat
 K1:Option Addr×Nat
def rpartA (P:List (Nat×List Value)) (a:RPA) (x:RP):Asn:=lst [fact (HBs P x.s0.blocks a.vs0∧HBs P x.s1.blocks a.vs1),own 118 5 a.vS 2 (rcells x.s0 a.v0++rcells x.s1 a.v1),own 24 1 a.v0 x.s0.blocks.length a.vs0,own 24 1 a.v1 x.s1.blocks.length a.vs1,own 26 8 a.vI 2 (Img.row x.i0 a.K0++Img.row x.i1 a.K1)]
def rownRow (y:RPA×RP):List Value:=y.2.rec_.cells.toList++[y.1.vS,y.1.vI]
def rowns (ys:List (RPA×RP)):List Value:=(ys.map rownRow).flatten
def rparts (P:List (Nat×List Value)) (ys:List (RPA×RP)):Asn:=lst (ys.map fun y=>rpartA P y.1 y.2)
def rstr (X:Nat) (tv:List Value) (v:Value) (P:List (Nat×List Value)) (ys:List (RPA×RP)):Asn:=lst [row X 68 (tv++[v]),own 65 8 v ys.length (rowns ys),pool P,rparts P ys]
theorem rstr_open {w0 w:World} {l:List Asn} {X:Nat} {tv:List Value} {v:Value} {P:List (Nat×List Value)} {ys:List (RPA×RP)} (h:St w0 w (rstr X tv v P ys::l)):St w0 w (row X 68 (tv++[v])::own 65 8 v ys.length (rowns ys)::pool P::rparts P ys::l):=h.unlst
theorem rstr_shut {w0 w:World} {l:List Asn} {X:Nat} {tv:List Value} {v:Value} {P:List (Nat×List Value)} {ys:List (RPA×RP)} (h:St w0 w (row X 68 (tv++[v])::own 65 8 v ys.length (rowns ys)::pool P::rparts P ys::l)):St w0 w (rstr X tv v P ys::l) :=
 St.tolst (L:=[row X 68 (tv++[v]),own 65 8 v ys.length (rowns ys),pool P,rparts P ys]) h
theorem pool_join {w0 w:World} {l:List Asn} {P P':List (Nat×List Value)} (h:St w0 w (pool P::pool P'::l)):St w0 w (pool (P++P')::l):=by
 have h1:=h.unlst
 have h2:St w0 w (pool P'::((P.map fun x=>row x.1 5 x.2)++l)):=h1.perm (List.perm_middle)
 have h3:=h2.unlst
 refine St.tolst (h3.perm ?_)
 rw [List.map_append,List.append_assoc,←List.append_assoc,←List.append_assoc]
 exact List.Perm.append_right l List.perm_append_comm
theorem rpart_mono {P P':List (Nat×List Value)} (hp:∀x∈P,x∈P') (a:RPA) (x:RP) (w:World) (F:Nat→Prop) (h:(rpartA P a x).on w F):(rpartA P' a x).on w F:=by
 obtain ⟨F1,F2,⟨⟨h1,h2⟩,h3⟩,h4⟩:=h
 exact ⟨F1,F2,⟨⟨h1.mono hp,h2.mono hp⟩,h3⟩,h4⟩
theorem rparts_monoA {P P':List (Nat×List Value)} (hp:∀x∈P,x∈P'):∀(ys:List (RPA×RP)) (w:World) (F:Nat→Prop),all (ys.map fun y=>rpartA P y.1 y.2) w F→all (ys.map fun y=>rpartA P' y.1 y.2) w F
 | [],_,_,h=>h
 | y::r,w,F,⟨F1,F2,h1,h2,h3,h4⟩=>⟨F1,F2,rpart_mono hp y.1 y.2 w F1 h1,rparts_monoA hp r w F2 h2,h3,h4⟩
theorem rparts_mono {w0 w:World} {l:List Asn} {P P':List (Nat×List Value)} (hp:∀x∈P,x∈P') {ys:List (RPA×RP)} (h:St w0 w (rparts P ys::l)):St w0 w (rparts P' ys::l):=h.conv fun w F h=>rparts_monoA hp ys w F h
theorem rparts_add {w0 w:World} {l:List Asn} {P:List (Nat×List Value)} {ys:List (RPA×RP)} {a:RPA} {x:RP} (h:St w0 w (rparts P ys::rpartA P a x::l)):St w0 w (rparts P (ys++[(a,x)])::l):=by
 have h1:=h.unlst
 refine St.tolst (h1.perm ?_)
 rw [List.map_append,List.append_assoc]
 exact List.Perm.refl _
theorem rparts_nil {w0 w:World} {l:List Asn} {P:List (Nat×List Value)} (h:St w0 w l):St w0 w (rparts P []::l):=St.tolst (L:=[]) h
end store
namespace store


open Go.RowKit Go.Deep base obj mem sep plan disk record commit stage image tab compat chain crc
def madeRP (js:List Img) (p:Nat):RP:=⟨firstRec p,loadR (js.getD p Img.none).bytes,RS.none,js.getD p Img.none,Img.none⟩
theorem rmake_at {w0 w:World} {l:List Asn} {B:Asn} (h:St w0 w (B::l)) {js:List Img} {AI:Option Addr} {n cI:Nat} {K:Nat→Option Addr×Nat} (hg:ImgsG w0 B js AI n K) (hr:∀k,k < n→(js.getD k Img.none).right) (hn:n≤4) (fr tr:Int) (AP AW AC:Option Addr) (nP cP nW cW nC cC:Nat) :
  Calls Tryz.prog 38 #[tabAgg fr AP nP cP AW nW cW AC nC cC tr,.slice AI n cI] w fun e w'=>∃X,e=.returned (.pointer (some ⟨X,0,none⟩))∧∃v P ys,St w0 w' (rstr X [.int .i64 fr,.slice AP nP cP,.slice AW nW cW,.slice AC nC cC,.int .i64 tr] v P ys::B::l)∧ys.map (·.2)=(List.range n).map (madeRP js)∧∀k (hk:k < ys.length),ys[k].1.K0=K k∧ys[k].1.K1=(none,0):=by
 obtain ⟨Z,hZ⟩:∃Z,Z=w.heap.size:=⟨_,rfl⟩
 obtain ⟨X,hX⟩:∃X,X=Z+1:=⟨_,rfl⟩
 obtain ⟨w1,hw1⟩:∃w1,w1=(w.alloc (.cells #[.int .i64 fr,.slice AP nP cP,.slice AW nW cW,.slice AC nC cC,.int .i64 tr] 46)).alloc (.cells #[.int .i64 fr,.slice AP nP cP,.slice AW nW cW,.slice AC nC cC,.int .i64 tr,.slice none 0 0] 68):=⟨_,rfl⟩
 have H1:=Lib.hid (show St w0 w1 (rstr X [.int .i64 fr,.slice AP nP cP,.slice AW nW cW,.slice AC nC cC,.int .i64 tr] (.slice none 0 0) [] []::B::l) by
  have h3:=(((h.new 46 #[.int .i64 fr,.slice AP nP cP,.slice AW nW cW,.slice AC nC cC,.int .i64 tr]).new 68 #[.int .i64 fr,.slice AP nP cP,.slice AW nW cW,.slice AC nC cC,.int .i64 tr,.slice none 0 0]).pick 1 rfl).drop
  rw [←hw1] at h3
  simp only [World.size_alloc,←hZ,←hX] at h3
  have h4:=h3.addOwn (e:=65) (size:=8) (v:=.slice none 0 0) (n:=0) (xs:=[]) (Below.refl _ _) ⟨rfl,.inl ⟨rfl,rfl⟩⟩
  have h5:St w0 w1 (pool []::_):=St.tolst (L:=[]) h4
  have h6:=rparts_nil (P:=[]) h5
  have h7:=(h6.pick 1 rfl)
  have h8:=(h7.pick 2 rfl)
  have h9:=(h8.pick 3 rfl)
  exact rstr_shut h9)
 have HW1:=Lib.hid hw1;have HZ:=Lib.hid hZ;have HX:=Lib.hid hX
 clear h hw1 hZ hX
 go_enter Tryz.func38,Tryz.ntmps38
 go_upto_region 2 with fail
 rw [←HZ.out,←HX.out,←HW1.out]
 go_wp2_with (fail)
 go_loopw [6] (fun x wr=>∃(p:Nat) (v:Value) (P:List (Nat×List Value)) (ys:List (RPA×RP)),p≤n∧x=.int .i64 (p:Int)∧St w0 wr (rstr X [.int .i64 fr,.slice AP nP cP,.slice AW nW cW,.slice AC nC cC,.int .i64 tr] v P ys::B::l)∧ys.map (·.2)=(List.range p).map (madeRP js)∧∀k (hk:k < ys.length),ys[k].1.K0=K k∧ys[k].1.K1=(none,0)) (fun x _=>n-(intOf x).toNat)
 case atStart=>exact ⟨0,_,_,_,by omega,rfl,H1.out,rfl,fun k hk=>absurd hk (by simp)⟩
 case round =>
  obtain ⟨p,v,P,ys,hp,rfl,hst,hys,hK⟩:=hrel
  by_cases hlt:p < n
  ·have k1:(p:Int) < (n:Int):=by omega
   have k0:(0:Int)≤(p:Int):=by omega
   have hI:=hg wr _ (hst.pick 1 rfl)
   obtain ⟨b,off,hA,hbl,c0,c1,c2,c3,c4,c5,c6,c7,hc,hs⟩:=hI.at_ p hlt
   have hby:Byt (js.getD p Img.none).code:=by
    rw [getD_e (by rw [hI.len];exact hlt)]
    exact hI.byt _ (List.getElem_mem _)
   have HRL:=Lib.hid (rload_at hst (js.getD p Img.none) (hr p hlt) hby (K p).1 (K p).2 hc hs)
   have HA:=Lib.hid hA;have HYS:=Lib.hid hys;have HKK:=Lib.hid hK;have HP:=Lib.hid hlt;have HS:=Lib.hid hs
   have HMD:=Lib.hid (show madeRP js p=⟨firstRec p,loadR (js.getD p Img.none).bytes,RS.none,js.getD p Img.none,Img.none⟩ from rfl)
   generalize hI0:js.getD p Img.none=i at *
   have HI0:=Lib.hid hI0
   simp only [Img.val] at HRL
   obtain ⟨KA,hKA⟩:∃v,v=(K p).1:=⟨_,rfl⟩
   obtain ⟨Kc,hKc⟩:∃v,v=(K p).2:=⟨_,rfl⟩
   rw [←hKA,←hKc] at HRL
   rw [←hKA,←hKc] at c7
   have HKE:=Lib.hid (show K p=(KA,Kc) by rw [hKA,hKc])
   clear hst hI hA hc hs hby hys hK hI0 hKA hKc H1
   rw [HA.out]
   go_wp2_with (fail)
   refine HRL.out.mono ?_
   rintro e w3 ⟨v0,rfl,P2,vs0,hvb,h3⟩
   obtain ⟨A0,cp0,rfl,_,_⟩:=own_form h3.own
   obtain ⟨R,hR⟩:∃R,R=loadR i.bytes:=⟨_,rfl⟩
   rw [←hR] at hvb h3 HMD ⊢
   have HVB:=Lib.hid hvb
   obtain ⟨sb,hsb⟩:∃v,v=R.has:=⟨_,rfl⟩
   obtain ⟨s1,hs1⟩:∃v,v=R.st.session:=⟨_,rfl⟩
   obtain ⟨s2,hs2⟩:∃v,v=R.st.size:=⟨_,rfl⟩
   obtain ⟨s3,hs3⟩:∃v,v=R.st.have_:=⟨_,rfl⟩
   obtain ⟨nb,hnb⟩:∃v,v=R.blocks.length:=⟨_,rfl⟩
   have HRC:=Lib.hid (show rcells R (.slice A0 nb cp0)++rcells RS.none (.slice none 0 0)=[.bool sb,.int .i64 s1,.int .i64 s2,.int .i64 s3,.slice A0 nb cp0,.bool false,.int .i64 0,.int .i64 0,.int .i64 0,.slice none 0 0] by rw [hsb,hs1,hs2,hs3];rfl)
   rw [←hnb] at h3 ⊢
   simp only [rcells,←hsb,←hs1,←hs2,←hs3]
   have H3:=Lib.hid (h3.addOwn (e:=118) (size:=5) (v:=.slice none 0 0) (n:=0) (xs:=[]) (Below.refl _ _) ⟨rfl,.inl ⟨rfl,rfl⟩⟩)
   have HR:=Lib.hid hR;have HNB:=Lib.hid hnb
   clear h3 hvb hR hsb hs1 hs2 hs3 hnb c0 c1 c2 c3 c4 c5 c6 c7
   go_upto_region 7 with (refine app_st slSlot rfl (.tmp 18) (.tmp 25) rfl H3.out rfl (m:=2) [.bool sb,.int .i64 s1,.int .i64 s2,.int .i64 s3,.slice A0 nb cp0,.bool false,.int .i64 0,.int .i64 0,.int .i64 0,.slice none 0 0] rfl (by simp [Value.oneCell']) rfl (by omega) (by omega) (by unfold maxLen;omega) ?_;rintro gS cS w4 h4)
   have H4:=Lib.hid h4
   have hI4:=hg w4 _ (h4.pick 4 rfl)
   obtain ⟨b2,off2,hA2,hbl2,c0,c1,c2,c3,c4,c5,c6,c7,hc2,hs2⟩:=hI4.at_ p HP.out
   rw [HA.out] at hA2
   obtain ⟨rfl,rfl⟩:b=b2∧off=off2:=by injection hA2 with e;injection e with e1 e2 _;exact ⟨e1,e2⟩
   rw [HI0.out] at c0 c1 c2 c3 c4 c5 c6 c7
   rw [HKE.out] at c7
   have H5:=Lib.hid (h4.addOwn (e:=26) (size:=8) (v:=.slice none 0 0) (n:=0) (xs:=[]) (Below.refl _ _) ⟨rfl,.inl ⟨rfl,rfl⟩⟩)
   clear h4 hI4 hA2 hs2
   go_upto_region 9 with (refine app_st slImg rfl (.tmp 27) (.tmp 33) rfl H5.out rfl (m:=2) [.int .i64 i.part,.int .i64 i.version,.int .i64 i.hard,.int .i64 i.mem,.int .i64 i.fuel,.int .i64 i.sends,.int .i64 i.receives,.slice KA i.code.length Kc,.int .i64 0,.int .i64 0,.int .i64 0,.int .i64 0,.int .i64 0,.int .i64 0,.int .i64 0,.slice none 0 0] rfl (by simp [Value.oneCell']) rfl (by omega) (by omega) (by unfold maxLen;omega) ?_;rintro gJ cJ w6 h6)
   have h7:=rstr_open (h6.pick 4 rfl)
   obtain ⟨Av,cv,rfl,_,_⟩:=own_form (h7.pick 1 rfl).own
   have hyl:ys.length=p:=by
    have:=congrArg List.length HYS.out
    simpa using this
   have HYL:=Lib.hid hyl
   rw [hyl] at h7
   have H7:=Lib.hid (h7.pick 1 rfl)
   have rX:=h7.row.1
   simp only [List.cons_append,List.nil_append] at rX
   have x5:w6.cell? ⟨X,5,none⟩=some (.slice Av p cv):=rX.cell 5
   have lX:=rX.lt
   clear h6 h7 rX hyl c0 c1 c2 c3 c4 c5 c6 c7
   go_upto_region 4 with (refine app_st slROwn rfl (.tmp 39) (.tmp 45) rfl H7.out rfl (m:=1) [.int .i64 p,.int .i64 1,.int .i64 0,.int .i64 0,.int .i64 0,.int .i64 0,.slice (some ⟨gS,0,none⟩) 2 cS,.slice (some ⟨gJ,0,none⟩) 2 cJ] rfl (by simp [Value.oneCell']) rfl (by omega) (by omega) (by unfold maxLen;omega) ?_;rintro gO cO w8 h8;have H8:=Lib.hid h8;have rX:=(h8.pick 1 rfl).row.1;have fX:=rX.frozen 5;have x5:=rX.cell 5;have lX:=rX.lt;clear h8 rX)
   have HE:=Lib.hid (show St w0 (w8.setCell ⟨X,5,none⟩ (.slice (some ⟨gO,0,none⟩) (p+1) cO)) (rstr X [.int .i64 fr,.slice AP nP cP,.slice AW nW cW,.slice AC nC cC,.int .i64 tr] (.slice (some ⟨gO,0,none⟩) (p+1) cO) (P++P2) (ys++[(⟨.slice (some ⟨gS,0,none⟩) 2 cS,.slice (some ⟨gJ,0,none⟩) 2 cJ,.slice A0 nb cp0,.slice none 0 0,vs0,[],(KA,Kc),(none,0)⟩,madeRP js p)])::B::l) by
    rw [HMD.out]
    have hnb:=HNB.out
    subst hnb
    have a1:=(H8.out.pick 1 rfl).set 5 (.slice (some ⟨gO,0,none⟩) (p+1) cO)
    have a2:=a1.pick 7 rfl
    have a3:=a2.pick 3 rfl
    have a4:=pool_join a3
    have a5:=rparts_mono (P':=P++P2) (fun x hx=>List.mem_append_left _ hx) (a4.pick 3 rfl)
    have a6:=a5.addOwn (e:=24) (size:=1) (v:=.slice none 0 0) (n:=0) (xs:=[]) (Below.refl _ _) ⟨rfl,.inl ⟨rfl,rfl⟩⟩
    have a7:=a6.pick 5 rfl
    have a8:=a7.pick 1 rfl
    have a9:=a8.pick 7 rfl
    have a10:=a9.pick 7 rfl
    have a11:=a10.addFact (p:=HBs (P++P2) R.blocks vs0∧HBs (P++P2) RS.none.blocks []) ⟨HVB.out.mono (fun x hx=>List.mem_append_right _ hx),⟨rfl,fun i b v h=>by simp [RS.none] at h⟩⟩
    have a12:St w0 _ (rpartA (P++P2) ⟨.slice (some ⟨gS,0,none⟩) 2 cS,.slice (some ⟨gJ,0,none⟩) 2 cJ,.slice A0 R.blocks.length cp0,.slice none 0 0,vs0,[],(KA,Kc),(none,0)⟩ ⟨firstRec p,R,RS.none,i,Img.none⟩::_):=St.tolst (L:=[_,_,_,_,_]) (by
     rw [←HRC.out] at a11
     exact a11)
    have a13:=rparts_add a12.swap
    have a14:=((a13.pick 1 rfl).pick 3 rfl).pick 3 rfl
    refine rstr_shut ?_
    rw [List.length_append,List.length_singleton,HYL.out,show rowns (ys++[(⟨.slice (some ⟨gS,0,none⟩) 2 cS,.slice (some ⟨gJ,0,none⟩) 2 cJ,.slice A0 R.blocks.length cp0,.slice none 0 0,vs0,[],(KA,Kc),(none,0)⟩,⟨firstRec p,R,RS.none,i,Img.none⟩)])=rowns ys++[.int .i64 p,.int .i64 1,.int .i64 0,.int .i64 0,.int .i64 0,.int .i64 0,.slice (some ⟨gS,0,none⟩) 2 cS,.slice (some ⟨gJ,0,none⟩) 2 cJ] by simp [rowns,rownRow,firstRec,Rec.cells]]
    exact a14)
   go_wp2_with (fail)
   go_roundw
   case rel =>
    refine ⟨p+1,_,_,_,by omega,by go_num,HE.out,?_,fun k hk=>?_⟩
    ·rw [List.map_append,HYS.out,List.range_succ,List.map_append];rfl
    ·by_cases hkp:k < ys.length
     ·rw [List.getElem_append_left hkp];exact HKK.out k hkp
     ·have hke:k=ys.length:=by simp at hk;omega
      subst hke
      rw [List.getElem_append_right (Nat.le_refl _)]
      simp only [Nat.sub_self,List.getElem_cons_zero]
      rw [HYL.out,HKE.out]
      exact ⟨rfl,trivial⟩
   case measure=>simp [intOf];omega
  ·have k1:¬(p:Int) < (n:Int):=by omega
   have hpe:p=n:=by omega
   have HST:=Lib.hid hst;have HYS:=Lib.hid hys;have HK:=Lib.hid hK;have HPE:=Lib.hid hpe
   clear hst hys hK hpe H1
   go_wp2_with (fail)
   go_ret
   exact ⟨X,rfl,v,P,ys,HST.out,by rw [HYS.out,HPE.out],HK.out⟩
end store
end Go.Proofs.YtdldkkoplgkloaaGreat
