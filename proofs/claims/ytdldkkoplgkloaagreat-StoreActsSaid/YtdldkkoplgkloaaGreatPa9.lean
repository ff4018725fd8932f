/- PROVED HERE: lemmas of the law. CONDITIONS: each names its own. -/
import Derived.Test.YtdldkkoplgkloaaGreatPa0
import Derived.Test.YtdldkkoplgkloaaGreatPa2
import Derived.Test.YtdldkkoplgkloaaGreatPa5
import Derived.Test.YtdldkkoplgkloaaGreatPa6
import Derived.Test.YtdldkkoplgkloaaGreatPa8
namespace Go.Proofs.YtdldkkoplgkloaaGreat
set_option linter.unusedVariables false
set_option linter.unusedSimpArgs false
set_option maxRecDepth 100000
set_option maxHeartbeats 32000000
open Go.Value renaming int → ae
open Go.IntKind renaming i64 → aa
namespace fZ
open Go.RowKit Go.Deep base obj mem sep bC num bytes aW chain
section
variable {a:Act} {l:List aI} {o:Oper} {w w0:World}
abbrev aP (l:List Int):List Value:=l.map (Value.int .u8)
theorem CE (a b:List Int):aP (a++b)=aP a++aP b:=by simp [aP]
def ZA:Value→Nat
 | .slice _ n _=>n
 | _=>0
theorem RO (v:W8) (k:Nat) (h:k < 8):(su v).take (4*(k+1))=(su v).take (4*k)++be 4 (v.du.getD k 0):=by
 rcases (by omega:k=0∨k=1∨k=2∨k=3∨k=4∨k=5∨k=6∨k=7) with rfl|rfl|rfl|rfl|rfl|rfl|rfl|rfl<;>rfl
theorem Xp (t:List Int):∀m,(cf t m).Ok
 | 0=>LO
 | m+1=>Oo _ _
theorem Db {ops:Array Oper} {rest:List Oper} {Q:Exit→Act→World→Prop} (eP:o.guard=none) (s x:Operand)
  (ho:o.op=.call { callee:=.builtin .append,args:=#[s,x],argTypes:=#[24,24] }) {v:Value} {n:Nat} {xs:List Value} (H:St w0 w (own 5 1 v n xs::l)) (hs:a.eval s=v) (z:Int) (hx:a.eval x=.slice (some ⟨w.heap.size,0,none⟩) 1 1) (hn:n≤1000000)
  (h:∀v' w',St w0 w' (own 5 1 v' (n+1) (xs++[.int .u8 z])::l)→wpList Tryz.prog ops Q rest (a.put o.dst v') w'):wpList Tryz.prog ops Q (o::rest) a (w.alloc (.cells #[.int .u8 z] 5)):=by
 have HX:=(H.new 5 #[.int .u8 z]).swap;exact nG sn eP s x ho HX.own hs hx (fun h=>by cases h) ((Row.new w 5 #[.int .u8 z]).sl (B:=w.heap.size+1) (size:=1) (n:=1) (o:=0) (ys:=[.int .u8 z]) (Nat.lt_succ_self _) rfl rfl) (by simp [Value.oneCell']) (by omega) (by unfold maxLen;omega) HX.aE.size fun v' w' ho hg hl=>h v' w' ((HX.grown hg ho hl).swap.drop)
theorem Xz {K:Act→World→Prop} {Q:Exit→Act→World→Prop} (eP:o.guard=none) (s x:Operand)
  (ho:o.op=.call { callee:=.builtin .append,args:=#[s,x],argTypes:=#[24,24] }) {v:Value} {n:Nat} {xs:List Value} (H:St w0 w (own 5 1 v n xs::l)) (hs:a.eval s=v) {z0 z1 z2 z3:Int} (hx:a.eval x=.slice (some ⟨w.heap.size,0,none⟩) 4 4) (hn:n≤1000000)
  (h:∀v' w',St w0 w' (own 5 1 v' (n+4) (xs++[.int .u8 z0,.int .u8 z1,.int .u8 z2,.int .u8 z3])::l)→K (a.put o.dst v') w'):Oper.wp Tryz.prog o a (w.alloc (.cells #[.int .u8 z0,.int .u8 z1,.int .u8 z2,.int .u8 z3] 5)) K Q:=by
 have HX:=(H.new 5 #[.int .u8 z0,.int .u8 z1,.int .u8 z2,.int .u8 z3]).swap;exact kP sn eP s x ho HX.own hs hx ((Row.new w 5 #[.int .u8 z0,.int .u8 z1,.int .u8 z2,.int .u8 z3]).sl (B:=w.heap.size+1) (size:=1) (n:=4) (o:=0) (ys:=[.int .u8 z0,.int .u8 z1,.int .u8 z2,.int .u8 z3]) (Nat.lt_succ_self _) rfl rfl) (by simp [Value.oneCell']) (by omega) (by omega) (by unfold maxLen;omega) HX.aE.size fun g cap w' ho hg kU _=>h _ w' ((HX.grown hg ho (fun g' xV=>by cases xV;exact kU)).swap.drop)
theorem aby (w:World) (A1 A2 Ab:Option Addr) (c1 c2 n cb:Nat) (bs:List Int) (hb:bn bs) (hn:bs.length=n) (hm:n≤100000) (h1:Sl w w.heap.size 1 A1 8 (dZ F0)) (h2:Sl w w.heap.size 1 A2 64 (dZ ks)) (gF:Sl w w.heap.size 1 Ab n (aP bs)) (hcb:Ab=none→cb=0) :
  Calls Tryz.prog 189 #[.agg #[.slice A1 8 c1,.slice A2 64 c2],.slice Ab n cb] w fun e w'=>∃r,e=.returned r∧w'.ownsRow w.heap.size 5 1 r 32 (aP (gG bs))∧Below w.heap.size w w':=by
 have HB:=af hb;have HN:=af hn;have H1:=af h1;have H2:=af h2;have DY:=af gF;have OJ:=af hcb;have h3:=((St.nil w).new 264 #[.slice A1 8 c1,.slice A2 64 c2])
 have H3:=af h3;have wW:=af (rf gF h3.aE);clear hb hn h1 h2 gF h3 hcb;go_enter Tryz.func189,Tryz.ntmps189;go_upto_region 3 with (at_builtin;refine nG sn rfl (.tmp 12) (.tmp 13) rfl (World.ownsRow_nil _ w.heap.size 5 1) rfl rfl OJ.o wW.o (by simp [Value.oneCell',aP]) (by omega) (by unfold maxLen;omega) H3.o.aE.size ?_;intro v' w6 fC gq FM)
 have h6:=H3.o.add (Q:=own 5 1 v' n (aP bs)) (F:=fun i=>v'.ownBlock=some i) (AX gq) ⟨by rw [←Nat.zero_add n];exact fC.mono (Nat.zero_le _),fun i=>Iff.rfl⟩ (fun i hi=>by
  rcases FM i hi with h|h
  ·cases h
  ·exact h)
 have H6:=af h6;clear h6 fC gq FM;obtain ⟨A5,c5,rfl,_,_⟩:=aD H6.o.own;go_wp2_with (at_builtin;refine Db rfl (.tmp 15) (.tmp 16) rfl H6.o rfl 128 rfl (by omega) ?_;intro v7 w7 h7);have h7':St w w7 [own 5 1 v7 (n+1) (aP (bs++[128])),row w.heap.size 264 [.slice A1 8 c1,.slice A2 64 c2]]:=by rw [CE];exact h7
 have H7:=af h7';clear h7 h7';go_wp2_with fail;obtain ⟨K,hK⟩:∃K,K=(119-n % 64) % 64:=⟨_,rfl⟩
 have HK:=af hK;have acP:K < 64:=by omega
 clear hK;go_loopw [5] (fun vv wr=>∃(k:Nat),k≤K∧St w wr [own 5 1 vv (n+1+k) (aP (bs++[128]++List.replicate k 0)),row w.heap.size 264 [.slice A1 8 c1,.slice A2 64 c2]]) (fun vv _=>200000-ZA vv)
 case atStart=>exact ⟨0,by omega,by rw [List.replicate_zero,List.append_nil];exact H7.o⟩
 case round =>
  obtain ⟨k,hk,h8⟩:=hrel;obtain ⟨A8,c8,rfl,_,_⟩:=aD h8.own;have H8:=af h8;clear h8;by_cases aH:k < K
  ·have e1:(((n+1+k:Nat):Int) % 64 != 56)=true:=by
    rw [bne_iff_ne];have:=HK.o;omega
   have e2:(((n:Int)+1+(k:Int)) % 64 != 56)=true:=e1;have nk0:(0:Int)≤(n:Int)+1+(k:Int):=by omega
   go_wp2_with (at_builtin;refine Db rfl (.tmp 22) (.tmp 23) rfl H8.o rfl 0 rfl (by omega) ?_;intro v9 w9 h9)
   have h9':St w w9 [own 5 1 v9 (n+1+(k+1)) (aP (bs++[128]++List.replicate (k+1) 0)),row w.heap.size 264 [.slice A1 8 c1,.slice A2 64 c2]]:=by
    rw [List.replicate_succ',←List.append_assoc,CE];exact h9
   obtain ⟨A9,c9,rfl,_,_⟩:=aD h9'.own;have H9:=af h9';clear h9 h9';go_wp2_with fail;go_roundw;case rel=>exact ⟨k+1,by omega,H9.o⟩
   case measure=>simp only [ZA];omega
  ·have hkK:k=K:=by omega
   have e1:(((n+1+k:Nat):Int) % 64 != 56)=false:=by
    rw [bne_eq_false_iff_eq];have:=HK.o;omega
   have e2:(((n:Int)+1+(k:Int)) % 64 != 56)=false:=e1;have nk0:(0:Int)≤(n:Int)+1+(k:Int):=by omega
   have h8:=H8.o;have IG:=hkK.trans HK.o;have DU:=af IG;have H9:=af h8;clear h8 IG hkK;go_wp2_with fail;go_loopw [5,7] (fun vv i wr=>∃(s t:Nat),s+t=8∧i=ae aa ((s:Int)-1)∧St w wr [own 5 1 vv (n+1+k+t) (aP (bs++[128]++List.replicate k 0++(be 8 (8*n)).take t)),row w.heap.size 264 [.slice A1 8 c1,.slice A2 64 c2]]) (fun _ i _=>(intOf i+1).toNat)
   case atStart=>exact ⟨8,0,rfl,rfl,by rw [List.take_zero,List.append_nil];exact H9.o⟩
   case round =>
    obtain ⟨s,t,hs,rfl,dR⟩:=hrel;obtain ⟨A10,Oq,rfl,_,_⟩:=aD dR.own;have mR:=af dR;clear dR;rcases Nat.eq_zero_or_pos s with BM|BM
    ·subst BM;have FK:¬(0:Int)≤((0:Nat):Int)-1:=by omega
     have x0:=(mR.o.pick 1 rfl).row.1.cell 0;simp only [List.getElem?_cons_succ,List.getElem?_cons_zero] at x0;obtain rfl:t=8:=by omega
     have hTL:bs++[128]++List.replicate k 0++(be 8 (8*n)).take 8=tx bs:=by
      unfold tx;rw [DU.o,HN.o,List.take_of_length_le (by rw [bp];exact Nat.le_refl _)]
     have iQ:=Ek bs;rw [HN.o] at iQ;have nR:=mR.o;rw [hTL] at nR
     have SW:bn (tx bs):=fun z hz=>by
      unfold tx at hz;rcases List.mem_append.1 hz with h|h
      ·rcases List.mem_append.1 h with h|h
       ·rcases List.mem_append.1 h with h|h
        ·exact HB.o z h
        ·rw [List.mem_singleton.1 h];omega
       ·rw [(List.mem_replicate.1 h).2];omega
      ·exact qO _ _ z h
     have hLL:n+1+k+8=64*((n+72) / 64):=by rw [DU.o];omega
     have yt:gG bs=su (cf (tx bs) ((n+72) / 64)):=by unfold gG;rw [HN.o]
     have BP:(n+72) / 64≤2000:=by omega
     generalize tx bs=TL at *;generalize (n+72) / 64=m0 at *;generalize n+1+k+8=L at *;have Cx:=af nR;have ac2:=af SW;have TQ:=af iQ;have QN:=af yt;have s9:=af hLL;clear hTL iQ nR SW yt hLL mR;go_wp2_with fail;go_loopw [8,9] (fun vv i wr=>∃(m:Nat) (A:Option Addr) (c:Nat),m≤m0∧vv=.slice A 8 c∧i=ae aa (64*(m:Int))∧Sl wr wr.heap.size 1 A 8 (dZ (cf TL m).du)∧St w wr [own 5 1 (.slice A10 L Oq) L (aP TL),row w.heap.size 264 [.slice A1 8 c1,.slice A2 64 c2]]) (fun _ i _=>(64*m0-(intOf i).toNat))
     case atStart=>exact ⟨0,A1,c1,by omega,rfl,rfl,rf H1.o Cx.o.aE,Cx.o⟩
     case round =>
      obtain ⟨m,A,c,Sw,rfl,rfl,dk,DI⟩:=hrel;have mQ:=af DI;have lJ:=af dk;by_cases EC:m < m0
      ·have PQ:64*(m:Int) < (L:Int):=by rw [s9.o];omega
       obtain ⟨g5,c5',e5,_,_⟩:=DI.own.form (by omega);cases e5;have x0:=(DI.pick 1 rfl).row.1.cell 0;have x1:=(DI.pick 1 rfl).row.1.cell 1;simp only [List.getElem?_cons_succ,List.getElem?_cons_zero] at x0 x1
       have PY:((TL.drop (64*m)).take 64).length=64:=by
        rw [fW,List.length_drop,TQ.o];omega
       have nA:bn ((TL.drop (64*m)).take 64):=fun z hz=>ac2.o z (List.mem_of_mem_drop (List.mem_of_mem_take hz))
       have PI:∀w',St w w' [own 5 1 (.slice (some ⟨g5,0,none⟩) L Oq) L (aP TL),row w.heap.size 264 [.slice A1 8 c1,.slice A2 64 c2]]→Sl w' w'.heap.size 1 (some ⟨g5,64*m,none⟩) 64 (aP ((TL.drop (64*m)).take 64)):=fun w' h=>by
        obtain ⟨gg2,oo2,ee2,qF,pN⟩:=(Sl.bP h.own).2 (by omega);cases ee2;refine ⟨by rw [iB,PY],fun _=>⟨g5,64*m,rfl,qF,fun j v hv=>?_⟩⟩;rw [←Nat.zero_add (64*m),Nat.add_assoc];refine pN (64*m+j) v ?_;rw [aP,List.getElem?_map] at hv;rw [aP,List.getElem?_map]
        have hj:j < 64:=by
         rcases Nat.lt_or_ge j 64 with h|h
         ·exact h
         ·rw [List.getElem?_eq_none (by rw [PY];exact h)] at hv;cases hv
        rw [List.getElem?_take_of_lt hj,List.getElem?_drop] at hv;exact hv
       have PW:=fun (w':World) (h:St w w' [own 5 1 (.slice (some ⟨g5,0,none⟩) L Oq) L (aP TL),row w.heap.size 264 [.slice A1 8 c1,.slice A2 64 c2]]) (hs:Sl w' w'.heap.size 1 A 8 (dZ (cf TL m).du))=>TA w' (.slice A1 8 c1) A2 A (some ⟨g5,64*m,none⟩) c2 c (Oq-64*m) (cf TL m) (Xp TL m) ((TL.drop (64*m)).take 64) nA PY rfl (rf H2.o h.aE) hs (PI w' h);have abn:=af PW;have pM:comp (cf TL m) ((TL.drop (64*m)).take 64)=cf TL (m+1):=rfl;rw [pM] at PW;have abn:=af PW;have hle:64*m+64≤L:=by rw [s9.o];omega
       have hlc:L≤Oq:=by omega
       have j1:IntKind.i64.wrap (64*(m:Int)+64)=64*(m:Int)+64:=IntWalk.i64_in _ ⟨by omega,by omega⟩;clear PW PI PY nA pM DI dk;go_upto_region 17 with fail;refine dN ?_;refine bk [1,2,3,4] ?_;simp only [pick,xG];iterate 4 still_step
       refine wpStill_nil ?_;refine gh 5 (ae aa (64*(m:Int)+64)) (by kernel_rfl) (fun _ _ _ _ _ h=>h) (by rfl) ?_ ?_
       ·intro w2;try simp only [xG]
        go_simp
       try simp only [ai]
       refine gh 6 (.slice (some ⟨g5,64*m,none⟩) 64 (Oq-64*m)) (by kernel_rfl) (fun _ _ _ _ _ h=>h) (by rfl) ?_ ?_
       ·intro w2;try simp only [xG]
        go_simp;rw [if_pos ⟨by omega,by omega⟩,if_pos ⟨by omega,by omega⟩,show (64*(m:Int)).toNat=64*m by omega,show (64*(m:Int)+64).toNat=64*m+64 by omega,if_neg (by omega),show 64*m+64-64*m=64 by omega]
       try simp only [ai]
       refine bk [0] ?_;simp only [pick,xG];iterate 1 still_step
       refine wpStill_nil ?_;try simp only [ai]
       refine aK 7 ?_;try simp only [xG]
       go_simp;refine (abn.o _ mQ.o.drew (rf lJ.o (Below.refl _ _).drew)).mono ?_;rintro e w14 ⟨r,rfl,NQ,Iy⟩;obtain ⟨AR,cR,rfl,_,_⟩:=aD NQ;have xo:=af (mQ.o.drew.below Iy);have ac8:=af (Sl.bP NQ);clear NQ Iy;try dsimp only
       try simp only [ai]
       refine aK 8 ?_;try simp only [xG]
       go_simp;try dsimp only
       refine cw ?_;go_wp2_with fail;go_roundw;case rel=>exact ⟨m+1,_,_,by omega,rfl,by go_num,ac8.o,xo.o⟩
       case measure=>simp [intOf];omega
      ·have PQ:¬64*(m:Int) < (L:Int):=by rw [s9.o];omega
       have AH:m=m0:=by omega
       have PL:=lJ.o;rw [AH] at PL;have jL:=Xp TL m0;generalize cf TL m0=V at PL jL QN;obtain ⟨bV,oV,rfl,hbV,hcV⟩:=PL.2 (by omega);have Lk:=(St.nil wr).add (Q:=own 5 1 (.slice none 0 0) 0 []) (F:=fun _=>False) (Below.refl _ _) ⟨World.ownsRow_nil _ _ _ _,fun i=>by simp [Value.ownBlock]⟩ (fun i hi=>hi.elim);have xo:=af Lk;have HCV:=af hcV;have fb:=af jL;clear Lk hcV PL jL AH DI dk;go_wp2_with fail;go_loopw [10,11] (fun vv i wx=>∃k4:Nat,k4≤8∧i=ae aa k4∧St wr wx [own 5 1 vv (4*k4) (aP ((su V).take (4*k4)))]) (fun _ i _=>8-(intOf i).toNat)
       case atStart=>exact ⟨0,by omega,rfl,xo.o⟩
       case round =>
        obtain ⟨k4,NY,rfl,uo⟩:=hrel;obtain ⟨AO,cO,rfl,_,_⟩:=aD uo.own;have H16:=af uo;by_cases Lm:k4 < 8
        ·have abP:(k4:Int) < 8:=by omega
         have cV:=(uo.aE.cell (p:=⟨bV,oV+k4,none⟩) hbV).trans (HCV.o k4 _ (jG V.du k4 Lm));have lV:=KU fb.o k4;have hmo:=RO V k4 Lm;generalize V.du.getD k4 0=x at *;have i0:(0:Int)≤(k4:Int):=by omega
         have HMO:=af hmo;clear hmo uo;go_upto_region 22 with fail;refine dN ?_;refine bk [0] ?_;simp only [pick,xG];iterate 1 still_step
         refine wpStill_nil ?_;refine kB [1,2,3,4,5,6,7,8,9,10,11,12,13,14,15,16,17,18,19,20,21,22,23,24,25,26] (by kernel_rfl) ?_;simp only [pick,xG];repeat (go_big_quiet_step (fail))
         refine wpQuiet_nil ?_;rintro _ ⟨nq,rfl⟩;refine aK 27 ?_;try simp only [xG]
         go_simp;try dsimp only
         try simp only [ai]
         refine aK 28 ?_;try simp only [xG]
         refine Xz rfl (.tmp 67) (.tmp 94) rfl (H16.o.drewN (1+nq)) rfl rfl (by omega) ?_;intro v17 w17 h17
         have h18:=(show ∀w0',St w0' w17 _→St w0' w17 [own 5 1 v17 (4*(k4+1)) (aP ((su V).take (4*(k4+1))))] from fun w0' h=>by
          rw [HMO.o,CE];refine cast ?_ h
          have d0:digit 4 x 0=(x:Int) / 16777216:=by
           show ((x / 16777216 % 256:Nat):Int)=_
           omega
          have d1:digit 4 x 1=(x:Int) / 65536 % 256:=by
           show ((x / 65536 % 256:Nat):Int)=_
           omega
          have d2:digit 4 x 2=(x:Int) / 256 % 256:=by
           show ((x / 256 % 256:Nat):Int)=_
           omega
          have d3:digit 4 x 3=(x:Int) % 256:=by
           show ((x / 1 % 256:Nat):Int)=_
           omega
          congr 4
          rw [show be 4 x=[digit 4 x 0,digit 4 x 1,digit 4 x 2,digit 4 x 3] from rfl,d0,d1,d2,d3]
          rfl) _ h17
         have H18:=af h18;clear h17 h18;try dsimp only
         try simp only [ai]
         refine aK 29 ?_;try simp only [xG]
         go_simp;try dsimp only
         refine cw ?_;go_wp2_with fail;go_roundw;case rel=>exact ⟨k4+1,by omega,by go_num,H18.o⟩
         case measure=>simp [intOf];omega
        ·have abP:¬(k4:Int) < 8:=by omega
         obtain rfl:k4=8:=by omega
         clear uo;go_wp2_with fail;go_ret;refine ⟨_,rfl,?_,mQ.o.aE.trans (H16.o.aE.mono mQ.o.aE.size)⟩;have h:=H16.o.own;rw [List.take_of_length_le (by rw [qY];exact Nat.le_refl _),←QN.o] at h;exact h.mono mQ.o.aE.size
    ·obtain ⟨q,rfl⟩:∃q,s=q+1:=⟨s-1,by omega⟩
     have hq:((q+1:Nat):Int)-1=(q:Int):=by omega
     rw [hq];clear hq;have q0:(0:Int)≤(q:Int):=by omega
     have xM:(be 8 (8*n)).take (t+1)=(be 8 (8*n)).take t++[digit 8 (8*n) t]:=by
      rw [kr (by rw [bp];omega)]
      congr 2
      simp [be]
     have QL:=af xM;clear xM
     have WX:∀v11 vT,St w vT [own 5 1 v11 (n+1+k+t+1) (aP (bs++[128]++List.replicate k 0++(be 8 (8*n)).take t)++[.int .u8 (digit 8 (8*n) t)]),row w.heap.size 264 [.slice A1 8 c1,.slice A2 64 c2]]→St w vT [own 5 1 v11 (n+1+k+(t+1)) (aP (bs++[128]++List.replicate k 0++(be 8 (8*n)).take (t+1))),row w.heap.size 264 [.slice A1 8 c1,.slice A2 64 c2]]:=fun v11 vT h=>by
      rw [QL.o,←List.append_assoc,CE];exact h
     have bH:=af WX;clear WX;by_cases xI:6≤q
     ·have acr:(6:Int)≤(q:Int):=by omega
      have FU:digit 8 (8*n) t=0:=by
       unfold digit;rw [Nat.div_eq_of_lt]
       ·rfl
       ·have:256 ^ 6≤256 ^ (8-1-t):=Nat.pow_le_pow_right (by omega) (by omega);omega
      have HD:=af FU;clear FU;go_wp2_with (at_builtin;refine Db rfl (.tmp 34) (.tmp 35) rfl mR.o rfl 0 rfl (by omega) ?_;intro v11 vT jn);have uz:=af (bH.o v11 vT (by rw [HD.o];exact jn));clear jn;go_wp2_with fail;go_roundw;case rel=>exact ⟨q,t+1,by omega,by go_num,uz.o⟩
      case measure=>simp [intOf]
     ·have acr:¬(6:Int)≤(q:Int):=by omega
      have yW:=fun w=>wA w (8*q) (by omega);rw [show ((8*q:Nat):Int)=8*(q:Int) by omega] at yW;have ug:0 < 2 ^ (8*q):=Nat.two_pow_pos _
      have SQ:((8*(n:Int)) / ((2 ^ (8*q):Nat):Int)) % 256=digit 8 (8*n) t:=by
       unfold digit;rw [show 8-1-t=q by omega,show (256:Nat) ^ q=2 ^ (8*q) by rw [show (256:Nat)=2 ^ 8 from rfl,←Nat.pow_mul],Int.natCast_emod,Int.natCast_ediv];rfl
      have PO:(8*(n:Int)) / ((2 ^ (8*q):Nat):Int)=((8*n / 2 ^ (8*q):Nat):Int):=by rw [Int.natCast_ediv];rfl
      have Le:8*n / 2 ^ (8*q)≤8*n:=Nat.div_le_self _ _;generalize 2 ^ (8*q)=p at *;have p0:(0:Int) < (p:Int):=by omega
      have pne:¬(p:Int)=0:=by omega
      have HDG:=af SQ;have xg:=af yW;obtain ⟨z,hz⟩:=xE (8*n / p);rw [←hz] at PO Le;have ph:(0:Int)≤(8*(n:Int)) / (p:Int):=by rw [PO];omega
      have Iy:(8*(n:Int)) / (p:Int)≤800000:=by rw [PO];omega
      clear hz;clear SQ yW PO Le;have q8:IntKind.i64.wrap (8*(q:Int))=8*(q:Int):=IntWalk.i64_in _ ⟨by omega,by omega⟩;go_wp2_with fail;refine (xg.o _).mono ?_;rintro e vT ⟨rfl,rfl⟩;go_wp2_with (at_builtin;refine Db rfl (.tmp 37) (.tmp 45) rfl mR.o rfl _ rfl (by omega) ?_;intro v12 Nk jn);rw [HDG.o] at jn;have uz:=af (bH.o v12 Nk jn);clear jn;go_wp2_with fail;go_roundw;case rel=>exact ⟨q,t+1,by omega,by go_num,uz.o⟩
      case measure=>simp [intOf]
end
end fZ
namespace image
open Go.RowKit Go.Deep base obj mem sep bC num bytes aW chain fZ
theorem QY (w:World) (n a b:Int):Calls Tryz.prog 122 #[ae aa n,ae aa a,ae aa b] w fun e w'=>e=.returned (.bool (decide (a≤n∧n≤b)))∧w'=w:=by
 by_cases h:a≤n
 ·have h1:decide (a≤n)=true:=by simpa using h
  have e:decide (a≤n∧n≤b)=decide (n≤b):=by simp [h]
  rw [e];clear e;go_enter Tryz.func122,Tryz.ntmps122;go_wp2_with fail;go_ret;exact ⟨rfl,rfl⟩
 ·have h1:decide (a≤n)=false:=by simpa using h
  have e:decide (a≤n∧n≤b)=false:=by simp;omega
  rw [e];clear e;go_enter Tryz.func122,Tryz.ntmps122;go_wp2_with fail;go_ret;exact ⟨rfl,rfl⟩
theorem aaT {w0 w:World} {l:List aI} {g B:Nat} {h:HS} {A:Option Addr} {n c:Nat} {bs:List Int} (H:St w0 w (qx g h::row B 24 [.slice A n c]::l)) (hh:h.Ok) (hn:bs.length=n) (hm:h.n+n < 1099511627776) (hb:bn bs) (hs:∀(w':World) (x:HS),St w0 w' (qx g x::row B 24 [.slice A n c]::l)→Sl w' w'.heap.size 1 A n (bs.map (.int .u8))) :
  Calls Tryz.prog 126 #[.func (Fn.func 127) #[.pointer (some ⟨g,0,none⟩)] #[],.slice (some ⟨B,0,none⟩) 1 1] w fun e w'=>e=.returned (.tuple #[])∧St w0 w' (qx g (h.write bs)::row B 24 [.slice A n c]::l):=by
 have HW:=af (kf H hh A n c bs hn hm hb hs);have HH:=af H;have cB:=(H.pick 1 rfl).row.1.cell 0;simp only [List.getElem?_cons_succ,List.getElem?_cons_zero] at cB;have lB:=(H.pick 1 rfl).row.1.lt;clear H hh hn hb hs;go_enter Tryz.func126,Tryz.ntmps126;go_wp2_with fail;go_loopw [8] (fun i wr=>(i=ae aa 0∧wr=w)∨(i=ae aa 1∧St w0 wr (qx g (h.write bs)::row B 24 [.slice A n c]::l))) (fun i _=>1-(intOf i).toNat)
 case atStart=>exact .inl ⟨rfl,rfl⟩
 case round =>
  rcases hrel with ⟨rfl,rfl⟩|⟨rfl,h2⟩
  ·go_wp2_with fail;refine HW.o.mono ?_;rintro e w2 ⟨rfl,h2⟩;have H2:=af h2;clear h2;go_wp2_with fail;go_roundw;case rel=>exact .inr ⟨rfl,H2.o⟩
   case measure=>simp [intOf]
  ·have H2:=af h2;clear h2;go_wp2_with fail
   go_end0
   exact ⟨rfl,H2.o⟩
theorem I9 (w:World) (A:Option Addr) (n c:Nat) (bs:List Int) (hn:bs.length=n) (hm:n≤100000) (hb:bn bs) (hs:Sl w w.heap.size 1 A n (aP bs)) :
  Calls Tryz.prog 77 #[.slice A n c] w fun e w'=>∃g,e=.returned (.slice (some ⟨g,0,none⟩) 32 32)∧Sl w' w'.heap.size 1 (some ⟨g,0,none⟩) 32 (aP (gG bs))∧Below w.heap.size w w':=by
 have HN:=af (ZU (St.nil w));have HB:=af hb;have HS:=af hs;have HL:=af hn;clear hb hs hn;go_enter Tryz.func77,Tryz.ntmps77;go_wp2_with fail;refine HN.o.mono ?_;rintro e w1 ⟨g,rfl,h1⟩;have h2:=(h1.new 24 #[.slice A n c]).swap;have H2:=af h2;clear h1 h2;go_wp2_with fail;refine (aaT H2.o J3 HL.o (by show 0+n < _;omega) HB.o (fun w' x h=>rf HS.o h.aE)).mono ?_;rintro e w2 ⟨rfl,h3⟩;have hsu:=vV h3 HB.o (by rw [HL.o];omega);have H3:=af h3;clear h3;have hD:(aP (gG bs)).toArray.size=32:=by rw [List.size_toArray,iB,rS]
 have hD1:∀v∈(aP (gG bs)).toArray.toList,v.oneCell'=true:=fun v hv=>by
  obtain ⟨x,_,rfl⟩:=List.mem_map.1 hv;rfl
 obtain ⟨D,hDD⟩:∃D,D=(aP (gG bs)).toArray:=⟨_,rfl⟩
 have hDl:aP (gG bs)=D.toList:=by rw [hDD]
 change Calls Tryz.prog _ _ _ (fun e w'=>e=.returned (.agg (aP (gG bs)).toArray)∧_) at hsu;rw [←hDD] at hsu hD hD1;have TT:=af hsu;have Xr:=af hD;have OG:=af hD1;have HDL:=af hDl;have mv:RowKit.Hid ((Tryz.prog.info? 198).map (·.size)=some D.size):=af (by rw [hD];kernel_rfl);have Z:=af Ug;have HZ:RowKit.Hid ((jx z8 0).toArray.size=D.size):=af (by rw [hD];exact zQ z8 0 (by omega));clear hD hD1 hDD hDl hsu;go_wp2_with fail;refine TT.o.mono ?_;rintro e w3 ⟨rfl,lA⟩;have bM:=af (H3.o.aE.trans (lA.mono H3.o.aE.size));clear lA
 go_wp2_with (first
  | (with_reducible refine ig rfl 198 rfl _ Z.o ?_)
  | (refine ie rfl 198 (.tmp 4) (.tmp 12) rfl D _ 198 w3.heap.size rfl rfl mv.o HZ.o OG.o ?_ rfl))
 go_ret;refine ⟨w3.heap.size,rfl,?_,bM.o.alloc bM.o.size _⟩;rw [HDL.o];exact (Row.new w3 198 D).sl (by show w3.heap.size < (w3.heap.push _).size;rw [Array.size_push];omega) (by rw [List.drop_zero,List.take_of_length_le (by rw [Array.length_toList,Xr.o];omega)]) (by rw [Array.length_toList,Xr.o])
end image
namespace image
open Go.RowKit Go.Deep base obj mem sep bC num bytes aW chain
abbrev aP (l:List Int):List Value:=l.map (Value.int .u8)
abbrev gG:=fZ.gG
theorem NJ (w:World) (A:Option Addr) (n c:Nat) (bs:List Int) (hn:bs.length=n) (hm:n≤100000) (hb:bn bs) (hs:Sl w w.heap.size 1 A n (aP bs)) :
  Calls Tryz.prog 78 #[.slice A n c] w fun e w'=>∃v,e=.returned v∧w'.ownsRow w.heap.size 5 1 v 4 (aP (be 4 (sum bs)))∧Below w.heap.size w w':=by
 have HB:=af hb;have HS:=af hs;have HL:=af hn;clear hb hs hn;go_enter Tryz.func78,Tryz.ntmps78;go_wp2_with fail;refine (yN _).mono ?_;rintro e w1 ⟨g,rfl,hg,hr,kb⟩;have HC:=af (bC.vV w1 g hr A n c bs HL.o (by omega) HB.o ((HS.o.below kb).more kb.size));have bh:=af kb;clear hg hr kb;go_wp2_with fail;refine HC.o.mono ?_;rintro e w2 ⟨rfl,rfl⟩;have dk:=Bp (bs:=bs);generalize hz:sum bs=z at *;have HP:=af (jw w2 none 0 0 [] (Sl.GL w2 _ _) (by simp) (by omega) z 4 (by omega) (by omega) (by omega));have HZ:=af hz;clear hz;go_wp2_with fail;refine HP.o.mono ?_;rintro e w3 ⟨v,rfl,ho,lA⟩;have HO:=af ho;have bM:=af (bh.o.trans (lA.mono bh.o.size));clear ho lA;go_wp2_with fail;go_ret;refine ⟨_,rfl,?_,bM.o⟩;have h:=HO.o.mono bh.o.size;rw [HZ.o];exact h
theorem XL (w:World) (A:Option Addr) (n c:Nat) (xs:List Value) (hs:Sl w w.heap.size 1 A n xs) (h1:∀v∈xs,v.oneCell'=true) (hn:n≤100000) (T:Option Addr) (m d:Nat) (bs:List Int) (BP:0 < m) (hm:m≤1000) (hmd:m≤d) (ht:Sl w w.heap.size 1 T m (aP bs)) :
  Calls Tryz.prog 124 #[.slice A n c,.slice T m d] w fun e w'=>∃v,e=.returned v∧w'.ownsRow w.heap.size 5 1 v (n+2+m) (xs++aP (be 2 m)++aP bs)∧Below w.heap.size w w':=by
 have HP:=af (fun k (hk:k < 65536)=>jw w A n c xs hs h1 hn k 2 (by omega) (by omega) hk);obtain ⟨gT,oT,rfl,hgT,_⟩:=ht.2 (by omega);have HT:=af ht;clear hs h1 ht;go_enter Tryz.func124,Tryz.ntmps124;go_wp2_with fail;refine (HP.o m (by omega)).mono ?_;rintro e w2 ⟨v,rfl,ho,bT⟩;obtain ⟨A2,c2,rfl,BW,xN⟩:=aD ho;have HO:=af ho;have aO:=af bT;have JA:=af (fZ.rf HT.o bT);clear ho bT;go_wp2_with (at_builtin;refine nG sn rfl (.tmp 13) (.tmp 14) rfl HO.o rfl rfl (fun h=>by cases h) JA.o (by simp [Value.oneCell']) (by omega) (by unfold maxLen;omega) aO.o.size ?_;intro v3 w3 xK wO FN;have zq:=af xK;have bM:=af (jq aO.o HO.o wO aO.o.size);clear xK wO FN);go_ret;exact ⟨_,rfl,by rw [List.append_assoc] at *;exact zq.o,bM.o⟩
structure aq where
 part:Int
 version:Int
 aV:Int
 mem:Int
 fuel:Int
 aM:Int
 ax:Int
 code:List Int
def aq.right (i:aq):Prop:=(0≤i.part∧i.part≤3)∧(1≤i.version∧i.version≤65535)∧(0≤i.aV∧i.aV≤65535)∧(1≤i.mem∧i.mem≤16)∧(1≤i.fuel∧i.fuel≤32)∧(0≤i.aM∧i.aM≤15)∧(0≤i.ax∧i.ax≤15)∧(1≤(i.code.length:Int)∧(i.code.length:Int)≤96)
instance (i:aq):Decidable i.right:=by unfold aq.right;infer_instance
def aq.val (i:aq) (A:Option Addr) (c:Nat):Value:=.agg #[ae aa i.part,ae aa i.version,ae aa i.aV,ae aa i.mem,ae aa i.fuel,ae aa i.aM,ae aa i.ax,.slice A i.code.length c]
def aq.head (i:aq):List Int:=be 2 19529++be 1 i.part.toNat++be 2 i.version.toNat++be 2 i.aV.toNat++be 1 i.mem.toNat++be 1 i.fuel.toNat++be 1 i.aM.toNat++be 1 i.ax.toNat++be 2 i.code.length++i.code
def fS (b:List Int):List Int:=b++gG b++be 4 (sum (b++gG b))
def aq.bytes (i:aq):List Int:=fS i.head
theorem wP (i:aq):i.head.length=13+i.code.length:=by
 simp only [aq.head,gC,bp]
theorem tE (i:aq) (h:bn i.code):bn i.head:=by
 intro z hz;simp only [aq.head,List.mem_append] at hz;rcases hz with ((((((((hz|hz)|hz)|hz)|hz)|hz)|hz)|hz)|hz)|hz
 all_goals first|exact qO _ _ z hz|exact h z hz
theorem pJ (n a b:Int) (w:World) (k:Nat):Calls Tryz.prog 122 #[ae aa n,ae aa a,ae aa b] (w.drewN (1+k)) fun e w'=>e=.returned (.bool (decide (a≤n∧n≤b)))∧∃j,w'=w.drewN (1+j) :=
 (QY _ n a b).mono fun e w' ⟨h1,h2⟩=>⟨h1,k,h2⟩
theorem fR (w:World) (i:aq) (A:Option Addr) (c:Nat) (hc:i.code.length≤9223372036854775807):Calls Tryz.prog 75 #[i.val A c] w fun e w'=>e=.returned (.bool (decide i.right))∧Below w.heap.size w w':=by
 obtain ⟨part,version,aV,mem,fuel,aM,ax,code⟩:=i;simp only [aq.val];have t0:=pJ part 0 3;have t1:=pJ version 1 65535;have t2:=pJ aV 0 65535;have t3:=pJ mem 1 16;have t4:=pJ fuel 1 32;have t5:=pJ aM 0 15;have t6:=pJ ax 0 15;have t7:=pJ (code.length:Int) 1 96
 have hr:decide (aq.right ⟨part,version,aV,mem,fuel,aM,ax,code⟩)=[decide (0≤part∧part≤3),decide (1≤version∧version≤65535),decide (0≤aV∧aV≤65535),decide (1≤mem∧mem≤16),decide (1≤fuel∧fuel≤32),decide (0≤aM∧aM≤15),decide (0≤ax∧ax≤15),decide (1≤(code.length:Int)∧(code.length:Int)≤96)].all id:=by
  rw [Bool.eq_iff_iff,decide_eq_true_iff];simp only [aq.right,List.all_cons,List.all_nil,id,Bool.and_true,Bool.and_eq_true,decide_eq_true_eq]
 generalize decide (0≤part∧part≤3)=b0 at *;generalize decide (1≤version∧version≤65535)=b1 at *;generalize decide (0≤aV∧aV≤65535)=b2 at *;generalize decide (1≤mem∧mem≤16)=b3 at *;generalize decide (1≤fuel∧fuel≤32)=b4 at *;generalize decide (0≤aM∧aM≤15)=b5 at *;generalize decide (0≤ax∧ax≤15)=b6 at *;generalize decide (1≤(code.length:Int)∧(code.length:Int)≤96)=b7 at *;have HR:=af hr;have T0:=af t0;have T1:=af t1;have T2:=af t2;have T3:=af t3;have T4:=af t4;have T5:=af t5;have T6:=af t6;have T7:=af t7;clear hr t0 t1 t2 t3 t4 t5 t6 t7;have fE:=af ((Below.refl w.heap.size w).alloc (Nat.le_refl _) (.cells #[ae aa part,ae aa version,ae aa aV,ae aa mem,ae aa fuel,ae aa aM,ae aa ax,.slice A code.length c] 26));go_enter Tryz.func75,Tryz.ntmps75;go_wp2_with fail;refine dN ?_;refine bk [27] ?_;simp only [pick,xG];iterate 1 still_step
 refine wpStill_nil ?_;refine kB [0,1,2,3,4,5,6,7,8,9,10,11,12,13,14,15,16,17,18,19,20,21,22,23,24] (by kernel_rfl) ?_;simp only [pick,xG];repeat (go_big_quiet_step (first|(with_reducible exact T0.o _ _)|(with_reducible exact T1.o _ _)|(with_reducible exact T2.o _ _)|(with_reducible exact T3.o _ _)|(with_reducible exact T4.o _ _)|(with_reducible exact T5.o _ _)|(with_reducible exact T6.o _ _)|(with_reducible exact T7.o _ _)))
 refine wpQuiet_nil ?_;rintro _ ⟨nq,rfl⟩;refine aK 25 ?_;try simp only [xG]
 go_simp;try dsimp only
 try simp only [ai]
 refine aK 26 ?_;try simp only [xG]
 go_simp;try dsimp only
 try simp only [ai]
 refine cw ?_;obtain ⟨L,hL⟩:∃L:List Bool,L=[b0,b1,b2,b3,b4,b5,b6,b7]:=⟨_,rfl⟩
 have hLl:L.length=8:=by rw [hL];rfl
 rw [←hL] at HR;have bo:∀(W:World) (n:Nat),W.heap.size=n→Row (W.alloc (.cells #[.bool b0,.bool b1,.bool b2,.bool b3,.bool b4,.bool b5,.bool b6,.bool b7] 4)) n 4 (L.map Value.bool):=fun W n h=>by subst h;rw [hL];exact Row.new W _ _
 have hM:=af bo;have s9:=af hLl;clear hL hLl bo;go_wp2_with fail;go_loopw [32] (fun i wr=>∃k:Nat,k≤8∧i=ae aa k∧(L.take k).all id=true∧Row wr (w.heap.size+1) 4 (L.map Value.bool)∧Below w.heap.size w wr) (fun i _=>8-(intOf i).toNat)
 case atStart=>exact ⟨0,by omega,rfl,rfl,hM.o _ _ (Array.size_push _),(below_drewN fE.o _).alloc (by show w.heap.size≤(w.heap.push _).size;rw [Array.size_push];omega) _⟩
 case round =>
  obtain ⟨k,hk,rfl,cH,Iw,cm⟩:=hrel;by_cases aH:k < 8
  ·have df:(k:Int) < 8:=by omega
   have i0:(0:Int)≤(k:Int):=by omega
   have iG:k < L.length:=by rw [s9.o];exact aH
   have ck:=(Iw.cell k).trans (by rw [List.getElem?_map,cN iG];rfl:(L.map Value.bool)[k]?=some (.bool L[k]));have lk:=Iw.lt
   have qJ:(L.take (k+1)).all id=((L.take k).all id&&L[k]):=by
    rw [kr iG,List.all_append];simp
   have jS:L[k]=false→L.all id=false:=fun h=>by
    rw [List.all_eq_false];exact ⟨L[k],List.getElem_mem iG,by simp [h]⟩
   have pq:=af Iw;have ch:=af cm;have yc:=af qJ;have lL:=af jS;have o6:=af cH;clear Iw cm qJ jS cH;cases hb:L[k]
   ·rw [hb] at ck;have HF:=af (lL.o hb);clear hb;go_wp2_with fail;go_ret;exact ⟨by rw [HR.o,HF.o];rfl,ch.o⟩
   ·rw [hb] at ck;have HT:=af (show (L.take (k+1)).all id=true by rw [yc.o,o6.o,hb];rfl);clear hb;go_wp2_with fail;go_roundw;case rel=>exact ⟨k+1,by omega,by go_num,HT.o,pq.o,ch.o⟩
    case measure=>simp [intOf];omega
  ·have df:¬(k:Int) < 8:=by omega
   have hT:L.all id=true:=by
    rw [List.take_of_length_le (by rw [s9.o];omega)] at cH;exact cH
   have HT:=af hT;have ch:=af cm;clear Iw cm cH hT;go_wp2_with fail;go_ret;exact ⟨by rw [HR.o,HT.o];rfl,ch.o⟩
theorem zC (l:List Int):∀v∈aP l,v.oneCell'=true:=fun v hv=>by
 obtain ⟨x,_,rfl⟩:=List.mem_map.1 hv;rfl
theorem yL {w0 w:World} {v:Value} {n:Nat} {l:List Int} (ho:w.ownsRow w0.heap.size 5 1 v n (aP l)) (hb:Below w0.heap.size w0 w) (hn:n≤100000) (m k:Nat) (jm:1≤k) (dy:k≤6) (hm:m < 256 ^ k) :
  Calls Tryz.prog 123 #[v,ae aa m,ae aa k] w fun e w'=>∃v',e=.returned v'∧w'.ownsRow w0.heap.size 5 1 v' (n+k) (aP (l++be k m))∧Below w0.heap.size w0 w'∧Below w.heap.size w w':=by
 obtain ⟨A,c,rfl,hc,_⟩:=aD ho;refine (jw w A n c (aP l) (Sl.bP ho) (zC l) hn m k jm dy hm).mono fun e w' ⟨v',h1,h2,h3⟩=>⟨v',h1,?_,hb.trans (h3.mono hb.size),h3⟩
 rw [aP,List.map_append];exact h2.mono hb.size
theorem abI (a b c d:Int) (k:Nat) (h:k < 4) (w:World):(Instr.index 192 (.agg #[ae aa a,ae aa b,ae aa c,ae aa d]) (ae aa (k:Int))).run Tryz.prog w=.ok (ae aa ([a,b,c,d].getD k 0)) w:=by
 rcases (by omega:k=0∨k=1∨k=2∨k=3) with rfl|rfl|rfl|rfl<;>kernel_rfl
theorem YK (w:World) (i:aq) (hr:i.right) (A:Option Addr) (c:Nat) (hc:i.code.length≤c) (hs:Sl w w.heap.size 1 A i.code.length (aP i.code)) :
  Calls Tryz.prog 76 #[i.val A c] w fun e w'=>∃v,e=.returned v∧w'.ownsRow w.heap.size 5 1 v i.head.length (aP i.head)∧Below w.heap.size w w':=by
 rw [wP];obtain ⟨part,version,aV,mem,fuel,aM,ax,code⟩:=i;obtain ⟨⟨a0,a1⟩,⟨b0,b1⟩,⟨c0,c1⟩,⟨d0,d1⟩,⟨e0,e1⟩,⟨f0,f1⟩,⟨g0,g1⟩,⟨h0,h1⟩⟩:=hr;simp only [aq.val,aq.head] at *;obtain ⟨p,rfl⟩:∃p:Nat,part=p:=⟨part.toNat,by omega⟩
 obtain ⟨ve,rfl⟩:∃p:Nat,version=p:=⟨version.toNat,by omega⟩
 obtain ⟨ha,rfl⟩:∃p:Nat,aV=p:=⟨aV.toNat,by omega⟩
 obtain ⟨me,rfl⟩:∃p:Nat,mem=p:=⟨mem.toNat,by omega⟩
 obtain ⟨fu,rfl⟩:∃p:Nat,fuel=p:=⟨fuel.toNat,by omega⟩
 obtain ⟨se,rfl⟩:∃p:Nat,aM=p:=⟨aM.toNat,by omega⟩
 obtain ⟨re,rfl⟩:∃p:Nat,ax=p:=⟨ax.toNat,by omega⟩
 simp only [dC];obtain ⟨X,hX⟩:∃X:List Value,X=[ae aa (p:Int),ae aa (ve:Int),ae aa (ha:Int),ae aa (me:Int),ae aa (fu:Int),ae aa (se:Int),ae aa (re:Int),.slice A code.length c]:=⟨_,rfl⟩
 have bo:=Row.new w 26 #[ae aa (p:Int),ae aa (ve:Int),ae aa (ha:Int),ae aa (me:Int),ae aa (fu:Int),ae aa (se:Int),ae aa (re:Int),.slice A code.length c];have lH:=(Below.refl w.heap.size w).alloc (Nat.le_refl _) (.cells #[ae aa (p:Int),ae aa (ve:Int),ae aa (ha:Int),ae aa (me:Int),ae aa (fu:Int),ae aa (se:Int),ae aa (re:Int),.slice A code.length c] 26);have hM:=af bo;have fE:=af lH;have HS:=af hs;clear hX bo lH hs X;go_enter Tryz.func76,Tryz.ntmps76;go_wp2_with fail;refine (yL (w0:=w) (v:=.slice none 0 0) (n:=0) (l:=[]) (World.ownsRow_nil _ _ _ _) fE.o (by omega) 19529 2 (by omega) (by omega) (by omega)).mono ?_;rintro e w1 ⟨v1,rfl,ho,hb,nA⟩;have My:=af ho;have bh:=af hb;have iR:=af (hM.o.below nA hM.o.lt);clear ho hb nA;have x0:=iR.o.c0;go_wp2_with fail;refine (yL My.o bh.o (by omega) p 1 (by omega) (by omega) (by omega)).mono ?_;rintro e w2 ⟨v2,rfl,ho,hb,nA⟩;have ke:=af ho;have aO:=af hb;have dK:=af (iR.o.below nA iR.o.lt);clear ho hb nA x0;have x1:=dK.o.c1;go_wp2_with fail;refine (yL ke.o aO.o (by omega) ve 2 (by omega) (by omega) (by omega)).mono ?_;rintro e w3 ⟨v3,rfl,ho,hb,nA⟩;have zq:=af ho;have bM:=af hb;have zp:=af (dK.o.below nA dK.o.lt);clear ho hb nA x1;have x2:=zp.o.c2;go_wp2_with fail;refine (yL zq.o bM.o (by omega) ha 2 (by omega) (by omega) (by omega)).mono ?_;rintro e w4 ⟨v4,rfl,ho,hb,nA⟩;have Cn:=af ho;have fD:=af hb;have py:=af (zp.o.below nA zp.o.lt);clear ho hb nA x2;have x3:=py.o.c3;have x4:=py.o.c4;have x5:=py.o.c5;have x6:=py.o.c6;go_wp2_with fail;obtain ⟨P,hP⟩:∃P:List Int,P=[]++be 2 19529++be 1 p++be 2 ve++be 2 ha:=⟨_,rfl⟩
 have DA:=Cn.o;rw [←hP] at DA;have DT:=af DA;have HP:=af hP;clear DA hP x3 x4 x5 x6;go_loopw [28,3] (fun i vv wr=>∃k:Nat,k≤4∧i=ae aa k∧wr.ownsRow w.heap.size 5 1 vv (7+k) (aP (P++(([me,fu,se,re]:List Nat).take k).flatMap (be 1)))∧Below w.heap.size w wr∧Row wr w.heap.size 26 [ae aa (p:Int),ae aa (ve:Int),ae aa (ha:Int),ae aa (me:Int),ae aa (fu:Int),ae aa (se:Int),ae aa (re:Int),.slice A code.length c]) (fun i _ _=>4-(intOf i).toNat)
 case atStart=>exact ⟨0,by omega,rfl,by rw [List.take_zero,List.flatMap_nil,List.append_nil];exact DT.o,fD.o,py.o⟩
 case round =>
  obtain ⟨k,hk,rfl,ho,hb,Iw⟩:=hrel;have DR:=af ho;have pA:=af hb;have sZ:=af Iw;clear ho hb Iw;by_cases aH:k < 4
  ·have df:(k:Int) < 4:=by omega
   have N0:=abI me fu se re k aH
   have xT:[(me:Int),(fu:Int),(se:Int),(re:Int)].getD k 0=(([me,fu,se,re].getD k 0:Nat):Int):=by
    rcases (by omega:k=0∨k=1∨k=2∨k=3) with rfl|rfl|rfl|rfl<;>rfl
   have adG:[me,fu,se,re].getD k 0 < 256:=by
    rcases (by omega:k=0∨k=1∨k=2∨k=3) with rfl|rfl|rfl|rfl
    ·show me < 256;omega
    ·show fu < 256;omega
    ·show se < 256;omega
    ·show re < 256;omega
   have qJ:([me,fu,se,re].take (k+1)).flatMap (be 1)=([me,fu,se,re].take k).flatMap (be 1)++be 1 ([me,fu,se,re].getD k 0):=by
    rcases (by omega:k=0∨k=1∨k=2∨k=3) with rfl|rfl|rfl|rfl<;>rfl
   rw [xT] at N0;generalize [me,fu,se,re].getD k 0=z at *;have yc:=af qJ;clear xT qJ;go_wp2_with fail;refine (yL DR.o pA.o (by omega) z 1 (by omega) (by omega) (by omega)).mono ?_;rintro e w7 ⟨v7,rfl,ho,hb,nA⟩;have Gl:=af ho;have xn:=af hb;have HR7:=af (sZ.o.below nA sZ.o.lt);clear ho hb nA N0;go_wp2_with fail;go_roundw;case rel=>exact ⟨k+1,by omega,by go_num,by rw [yc.o,←List.append_assoc];exact Gl.o,xn.o,HR7.o⟩
   case measure=>simp [intOf];omega
  ·have df:¬(k:Int) < 4:=by omega
   obtain rfl:k=4:=by omega
   obtain ⟨A8,c8,rfl,hc8,_⟩:=aD DR.o;have x7:=sZ.o.c7;have HT:=af (XL wr A8 (7+4) c8 _ (Sl.bP DR.o) (zC _) (by omega) A code.length c code (by omega) (by omega) hc ((HS.o.below pA.o).more pA.o.size));go_wp2_with fail;refine HT.o.mono ?_;rintro e w9 ⟨v9,rfl,ho,Ly⟩;have HO9:=af (ho.mono pA.o.size);have HB9:=af (pA.o.trans (Ly.mono pA.o.size));clear ho Ly;go_wp2_with fail;go_ret;refine ⟨_,rfl,?_,HB9.o⟩;have h:=HO9.o;rw [HP.o,←List.map_append,←List.map_append] at h
   have e:[]++be 2 19529++be 1 p++be 2 ve++be 2 ha++(([me,fu,se,re]:List Nat).take 4).flatMap (be 1)++be 2 code.length++code=be 2 19529++be 1 p++be 2 ve++be 2 ha++be 1 me++be 1 fu++be 1 se++be 1 re++be 2 code.length++code:=by
    simp [List.append_assoc]
   rw [e,show 7+4+2+code.length=13+code.length by omega] at h;exact h
theorem NK (w:World) (i:aq) (hr:¬i.right) (A:Option Addr) (c:Nat) (hc:i.code.length≤9223372036854775807):Calls Tryz.prog 30 #[i.val A c] w fun e w'=>e=.returned (.tuple #[.slice none 0 0,ae aa 3])∧Below w.heap.size w w':=by
 have hd:decide i.right=false:=by simpa using hr
 have eR:=af (fun w=>fR w i A c hc);obtain ⟨part,version,aV,mem,fuel,aM,ax,code⟩:=i;rw [hd] at eR;simp only [aq.val] at *;have fE:=af ((Below.refl w.heap.size w).alloc (Nat.le_refl _) (.cells #[ae aa part,ae aa version,ae aa aV,ae aa mem,ae aa fuel,ae aa aM,ae aa ax,.slice A code.length c] 26));clear hr hd;go_enter Tryz.func30,Tryz.ntmps30;go_wp2_with fail;refine (eR.o _).mono ?_;rintro e w1 ⟨rfl,hb⟩;have bh:=af (fE.o.trans (hb.mono fE.o.size));clear hb;go_wp2_with fail;go_ret2;exact ⟨rfl,bh.o⟩
theorem GP (w:World) (i:aq) (hr:i.right) (A:Option Addr) (c:Nat) (hc:i.code.length≤c) (cG:bn i.code) (hs:Sl w w.heap.size 1 A i.code.length (aP i.code)) :
  Calls Tryz.prog 30 #[i.val A c] w fun e w'=>∃v,e=.returned (.tuple #[v,ae aa 0])∧w'.ownsRow w.heap.size 5 1 v (49+i.code.length) (aP i.bytes)∧Below w.heap.size w w':=by
 have aaz:i.code.length≤96:=by obtain ⟨_,_,_,_,_,_,_,h⟩:=hr;omega
 have hd:decide i.right=true:=by simpa using hr
 have eR:=af (fun w=>fR w i A c (by omega));have HHD:=af (fun w (hs:Sl w w.heap.size 1 A i.code.length (aP i.code))=>YK w i hr A c hc hs);have oO:=af (tE i cG);have MF:=af (wP i);have Lw:i.bytes=fS i.head:=rfl;generalize i.head=H at *;generalize i.bytes=BY at *;obtain ⟨part,version,aV,mem,fuel,aM,ax,code⟩:=i;rw [hd] at eR;simp only [aq.val] at *;have fE:=af ((Below.refl w.heap.size w).alloc (Nat.le_refl _) (.cells #[ae aa part,ae aa version,ae aa aV,ae aa mem,ae aa fuel,ae aa aM,ae aa ax,.slice A code.length c] 26));have hM:=af (Row.new w 26 #[ae aa part,ae aa version,ae aa aV,ae aa mem,ae aa fuel,ae aa aM,ae aa ax,.slice A code.length c]);have HS:=af hs;have lM:=af Lw;clear hr hd hs cG Lw;go_enter Tryz.func30,Tryz.ntmps30;go_wp2_with fail;refine (eR.o _).mono ?_;rintro e w1 ⟨rfl,hb⟩;have bh:=af (fE.o.trans (hb.mono fE.o.size));have iR:=af (hM.o.below hb hM.o.lt);clear hb;have x0:=iR.o.c0;have x1:=iR.o.c1;have x2:=iR.o.c2;have x3:=iR.o.c3;have x4:=iR.o.c4;have x5:=iR.o.c5;have x6:=iR.o.c6;have x7:=iR.o.c7;go_wp2_with fail;refine (HHD.o _ ((HS.o.below bh.o).more bh.o.size)).mono ?_;rintro e w2 ⟨v,rfl,ho,bT⟩;obtain ⟨A2,c2,rfl,BW,_⟩:=aD ho;have ke:=af (ho.mono bh.o.size);have aO:=af (bh.o.trans (bT.mono bh.o.size));have WD:=af (Sl.bP ho);clear ho bT x0 x1 x2 x3 x4 x5 x6 x7;go_wp2_with fail;refine (I9 w2 A2 H.length c2 H rfl (by rw [MF.o];show 13+code.length≤_;omega) oO.o WD.o).mono ?_;rintro e w3 ⟨g,rfl,ue,lA⟩;have zq:=af (mn ke.o lA);have bM:=af (aO.o.trans (lA.mono aO.o.size));have sW:=af ue;have hlH:H.length≤200:=by rw [MF.o];show 13+code.length≤_;omega
 clear ue lA;go_upto_region 5 with (at_builtin;refine nG sn rfl (.tmp 10) (.tmp 12) rfl zq.o rfl rfl (fun h=>by cases h) sW.o (zC _) (by omega) (by unfold maxLen;omega) bM.o.size ?_;intro v4 w4 DA hg4 hl4;have Cn:=af DA;have fD:=af (jq bM.o zq.o hg4 bM.o.size);clear DA hg4 hl4)
 obtain ⟨A4,c4,rfl,DD,_⟩:=aD Cn.o;have Xg:aP H++aP (gG H)=aP (H++gG H):=by simp [aP]
 have xJ:=Cn.o;rw [Xg] at xJ
 have hbj:bn (H++gG H):=fun z hz=>by
  rcases List.mem_append.1 hz with h|h
  ·exact oO.o z h
  ·exact fZ.CZ H z h
 have uM:(H++gG H).length=H.length+32:=by rw [gC,fZ.rS]
 have ac3:=af (NJ w4 A4 (H.length+32) c4 (H++gG H) uM (by omega) hbj (Sl.bP xJ));have DT:=af xJ;clear xJ Xg hbj;go_wp2_with fail;refine ac3.o.mono ?_;rintro e w6 ⟨v6,rfl,fC,um⟩;obtain ⟨A6,c6,rfl,hc6,_⟩:=aD fC;have DR:=af (mn DT.o um);have pA:=af (fD.o.trans (um.mono fD.o.size));have sX:=af (Sl.bP fC);have aaJ:=yJ fC;have adB:=af aaJ;clear fC um aaJ;go_wp2_with (at_builtin;refine nG sn rfl (.tmp 14) (.tmp 16) rfl DR.o rfl rfl adB.o sX.o (zC _) (by omega) (by unfold maxLen;omega) pA.o.size ?_;intro v7 w7 Lh hg7 hl7;have Gl:=af Lh;have xn:=af (jq pA.o DR.o hg7 pA.o.size);clear Lh hg7 hl7);go_ret2;refine ⟨_,rfl,?_,xn.o⟩;have h:=Gl.o;rw [←List.map_append,show H.length+32+4=49+code.length by rw [MF.o];show 13+code.length+32+4=_;omega] at h;rw [lM.o];exact h
end image
end Go.Proofs.YtdldkkoplgkloaaGreat
