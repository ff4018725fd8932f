/-
  PROVED HERE: lemmas that the law leans on.
  CONDITIONS: each names its own.
-/
import Derived.Test.YtdldkkoplgkloaaGreatPy0
import Derived.Test.YtdldkkoplgkloaaGreatPy2
import Derived.Test.YtdldkkoplgkloaaGreatPy5
import Derived.Test.YtdldkkoplgkloaaGreatPy6
import Derived.Test.YtdldkkoplgkloaaGreatPy8
namespace Go.Proofs.YtdldkkoplgkloaaGreat
set_option linter.unusedVariables false
set_option linter.unusedSimpArgs false
set_option maxRecDepth 100000
set_option maxHeartbeats 32000000
namespace fH


open Go.RowKit Go.Deep base obj mem sep bw num bytes bf chain
abbrev aP (l:List Int):List Value:=l.map (Value.int .u8)
theorem Bv (a b:List Int):aP (a++b)=aP a++aP b:=by simp [aP]
def XR:Value→Nat
 | .slice _ n _=>n
 | _=>0
theorem PZ (v:W8) (k:Nat) (h:k < 8):(qZ v).take (4*(k+1))=(qZ v).take (4*k)++be 4 (v.dr.getD k 0):=by
 rcases (by omega:k=0∨k=1∨k=2∨k=3∨k=4∨k=5∨k=6∨k=7) with rfl|rfl|rfl|rfl|rfl|rfl|rfl|rfl<;>rfl
theorem Vx (t:List Int):∀m,(cf t m).Ok
 | 0=>Kn
 | m+1=>My _ _
theorem B0 {ops:Array Oper} {rest:List Oper} {o:Oper} {a:Act} {Q:Exit→Act→World→Prop} {w0 w:World} {l:List aD} (ew:o.guard=none) (s x:Operand)
  (ho:o.op=.call { callee:=.builtin .append,args:=#[s,x],argTypes:=#[24,24] }) {v:Value} {n:Nat} {xs:List Value} (H:St w0 w (own 5 1 v n xs::l)) (hs:a.eval s=v) (z:Int) (hx:a.eval x=.slice (some ⟨w.heap.size,0,none⟩) 1 1) (hn:n≤1000000)
  (h:∀v' w',St w0 w' (own 5 1 v' (n+1) (xs++[.int .u8 z])::l)→wpList Tryz.prog ops Q rest (a.put o.dst v') w'):wpList Tryz.prog ops Q (o::rest) a (w.alloc (.cells #[.int .u8 z] 5)):=by
 have HX:=(H.new 5 #[.int .u8 z]).swap;exact nK qW ew s x ho HX.own hs hx (fun h=>by cases h) ((Row.new w 5 #[.int .u8 z]).sl (B:=w.heap.size+1) (size:=1) (n:=1) (o:=0) (ys:=[.int .u8 z]) (Nat.lt_succ_self _) rfl rfl) (by simp [Value.oneCell']) (by omega) (by unfold maxLen;omega) HX.aI.size fun v' w' ho hg hl=>h v' w' ((HX.grown hg ho hl).swap.drop)
theorem VJ {o:Oper} {a:Act} {K:Act→World→Prop} {Q:Exit→Act→World→Prop} {w0 w:World} {l:List aD} (ew:o.guard=none) (s x:Operand)
  (ho:o.op=.call { callee:=.builtin .append,args:=#[s,x],argTypes:=#[24,24] }) {v:Value} {n:Nat} {xs:List Value} (H:St w0 w (own 5 1 v n xs::l)) (hs:a.eval s=v) {z0 z1 z2 z3:Int} (hx:a.eval x=.slice (some ⟨w.heap.size,0,none⟩) 4 4) (hn:n≤1000000)
  (h:∀v' w',St w0 w' (own 5 1 v' (n+4) (xs++[.int .u8 z0,.int .u8 z1,.int .u8 z2,.int .u8 z3])::l)→K (a.put o.dst v') w'):Oper.wp Tryz.prog o a (w.alloc (.cells #[.int .u8 z0,.int .u8 z1,.int .u8 z2,.int .u8 z3] 5)) K Q:=by
 have HX:=(H.new 5 #[.int .u8 z0,.int .u8 z1,.int .u8 z2,.int .u8 z3]).swap;exact kf qW ew s x ho HX.own hs hx ((Row.new w 5 #[.int .u8 z0,.int .u8 z1,.int .u8 z2,.int .u8 z3]).sl (B:=w.heap.size+1) (size:=1) (n:=4) (o:=0) (ys:=[.int .u8 z0,.int .u8 z1,.int .u8 z2,.int .u8 z3]) (Nat.lt_succ_self _) rfl rfl) (by simp [Value.oneCell']) (by omega) (by omega) (by unfold maxLen;omega) HX.aI.size fun g cap w' ho hg kr _=>h _ w' ((HX.grown hg ho (fun g' wz=>by cases wz;exact kr)).swap.drop)
theorem ZT (w:World) (A1 A2 Ab:Option Addr) (c1 c2 n cb:Nat) (bs:List Int) (hb:bo bs) (hn:bs.length=n) (hm:n≤100000) (h1:Sl w w.heap.size 1 A1 8 (dP EF)) (h2:Sl w w.heap.size 1 A2 64 (dP ks)) (fZ:Sl w w.heap.size 1 Ab n (aP bs)) (hcb:Ab=none→cb=0) :
  Calls Tryz.prog 189 #[.agg #[.slice A1 8 c1,.slice A2 64 c2],.slice Ab n cb] w fun e w'=>∃r,e=.returned r∧w'.ownsRow w.heap.size 5 1 r 32 (aP (gh bs))∧Below w.heap.size w w':=by
 have HB:=aa hb;have HN:=aa hn;have H1:=aa h1;have H2:=aa h2;have Ia:=aa fZ;have MX:=aa hcb;have h3:=((St.nil w).new 264 #[.slice A1 8 c1,.slice A2 64 c2])
 have H3:=aa h3;have vq:=aa (qp fZ h3.aI);clear hb hn h1 h2 fZ h3 hcb;go_enter Tryz.func189,Tryz.ntmps189;go_upto_region 3 with (at_builtin;refine nK qW rfl (.tmp 12) (.tmp 13) rfl (World.ownsRow_nil _ w.heap.size 5 1) rfl rfl MX.o vq.o (by simp [Value.oneCell',aP]) (by omega) (by unfold maxLen;omega) H3.o.aI.size ?_;intro v' w6 eU fR Es)
 have h6:=H3.o.add (Q:=own 5 1 v' n (aP bs)) (F:=fun i=>v'.ownBlock=some i) (zA fR) ⟨by rw [←Nat.zero_add n];exact eU.mono (Nat.zero_le _),fun i=>Iff.rfl⟩ (fun i hi=>by
  rcases Es i hi with h|h
  ·cases h
  ·exact h)
 have H6:=aa h6;clear h6 eU fR Es;obtain ⟨A5,c5,rfl,_,_⟩:=aH H6.o.own;go_wp2_with (at_builtin;refine B0 rfl (.tmp 15) (.tmp 16) rfl H6.o rfl 128 rfl (by omega) ?_;intro v7 w7 h7);have h7':St w w7 [own 5 1 v7 (n+1) (aP (bs++[128])),row w.heap.size 264 [.slice A1 8 c1,.slice A2 64 c2]]:=by rw [Bv];exact h7
 have H7:=aa h7';clear h7 h7';go_wp2_with fail;obtain ⟨K,hK⟩:∃K,K=(119-n % 64) % 64:=⟨_,rfl⟩
 have HK:=aa hK;have abb:K < 64:=by omega
 clear hK;go_loopw [5] (fun vv wr=>∃(k:Nat),k≤K∧St w wr [own 5 1 vv (n+1+k) (aP (bs++[128]++List.replicate k 0)),row w.heap.size 264 [.slice A1 8 c1,.slice A2 64 c2]]) (fun vv _=>200000-XR vv)
 case atStart=>exact ⟨0,by omega,by rw [List.replicate_zero,List.append_nil];exact H7.o⟩
 case round =>
  obtain ⟨k,hk,h8⟩:=hrel;obtain ⟨A8,c8,rfl,_,_⟩:=aH h8.own;have H8:=aa h8;clear h8;by_cases aK:k < K
  ·have e1:(((n+1+k:Nat):Int) % 64 != 56)=true:=by
    rw [bne_iff_ne];have:=HK.o;omega
   have e2:(((n:Int)+1+(k:Int)) % 64 != 56)=true:=e1;have U2:(0:Int)≤(n:Int)+1+(k:Int):=by omega
   go_wp2_with (at_builtin;refine B0 rfl (.tmp 22) (.tmp 23) rfl H8.o rfl 0 rfl (by omega) ?_;intro v9 w9 h9)
   have h9':St w w9 [own 5 1 v9 (n+1+(k+1)) (aP (bs++[128]++List.replicate (k+1) 0)),row w.heap.size 264 [.slice A1 8 c1,.slice A2 64 c2]]:=by
    rw [List.replicate_succ',←List.append_assoc,Bv];exact h9
   obtain ⟨A9,c9,rfl,_,_⟩:=aH h9'.own;have H9:=aa h9';clear h9 h9';go_wp2_with fail;go_roundw;case rel=>exact ⟨k+1,by omega,H9.o⟩
   case measure=>simp only [XR];omega
  ·have hkK:k=K:=by omega
   have e1:(((n+1+k:Nat):Int) % 64 != 56)=false:=by
    rw [bne_eq_false_iff_eq];have:=HK.o;omega
   have e2:(((n:Int)+1+(k:Int)) % 64 != 56)=false:=e1;have U2:(0:Int)≤(n:Int)+1+(k:Int):=by omega
   have h8:=H8.o;have GC:=hkK.trans HK.o;have CJ:=aa GC;have H9:=aa h8;clear h8 GC hkK;go_wp2_with fail;go_loopw [5,7] (fun vv i wr=>∃(s t:Nat),s+t=8∧i=.int .i64 ((s:Int)-1)∧St w wr [own 5 1 vv (n+1+k+t) (aP (bs++[128]++List.replicate k 0++(be 8 (8*n)).take t)),row w.heap.size 264 [.slice A1 8 c1,.slice A2 64 c2]]) (fun _ i _=>(intOf i+1).toNat)
   case atStart=>exact ⟨8,0,rfl,rfl,by rw [List.take_zero,List.append_nil];exact H9.o⟩
   case round =>
    obtain ⟨s,t,hs,rfl,dG⟩:=hrel;obtain ⟨A10,Mz,rfl,_,_⟩:=aH dG.own;have mm:=aa dG;clear dG;rcases Nat.eq_zero_or_pos s with Am|Am
    ·subst Am;have Er:¬(0:Int)≤((0:Nat):Int)-1:=by omega
     have x0:=(mm.o.pick 1 rfl).row.1.cell 0;simp only [List.getElem?_cons_succ,List.getElem?_cons_zero] at x0;obtain rfl:t=8:=by omega
     have hTL:bs++[128]++List.replicate k 0++(be 8 (8*n)).take 8=sq bs:=by
      unfold sq;rw [CJ.o,HN.o,List.take_of_length_le (by rw [bp];exact Nat.le_refl _)]
     have iG:=C6 bs;rw [HN.o] at iG;have mg:=mm.o;rw [hTL] at mg
     have hbp:bo (sq bs):=fun z hz=>by
      unfold sq at hz;rcases List.mem_append.1 hz with h|h
      ·rcases List.mem_append.1 h with h|h
       ·rcases List.mem_append.1 h with h|h
        ·exact HB.o z h
        ·rw [List.mem_singleton.1 h];omega
       ·rw [(List.mem_replicate.1 h).2];omega
      ·exact pW _ _ z h
     have hLL:n+1+k+8=64*((n+72) / 64):=by rw [CJ.o];omega
     have wV:gh bs=qZ (cf (sq bs) ((n+72) / 64)):=by unfold gh;rw [HN.o]
     have Au:(n+72) / 64≤2000:=by omega
     generalize sq bs=TL at *;generalize (n+72) / 64=m0 at *;generalize n+1+k+8=L at *;have Bo:=aa mg;have abo:=aa hbp;have RL:=aa iG;have OV:=aa wV;have rW:=aa hLL;clear hTL iG mg hbp wV hLL mm;go_wp2_with fail;go_loopw [8,9] (fun vv i wr=>∃(m:Nat) (A:Option Addr) (c:Nat),m≤m0∧vv=.slice A 8 c∧i=.int .i64 (64*(m:Int))∧Sl wr wr.heap.size 1 A 8 (dP (cf TL m).dr)∧St w wr [own 5 1 (.slice A10 L Mz) L (aP TL),row w.heap.size 264 [.slice A1 8 c1,.slice A2 64 c2]]) (fun _ i _=>(64*m0-(intOf i).toNat))
     case atStart=>exact ⟨0,A1,c1,by omega,rfl,rfl,qp H1.o Bo.o.aI,Bo.o⟩
     case round =>
      obtain ⟨m,A,c,QA,rfl,rfl,dB,Cx⟩:=hrel;have ml:=aa Cx;have kL:=aa dB;by_cases FI:m < m0
      ·have N0:64*(m:Int) < (L:Int):=by rw [rW.o];omega
       obtain ⟨g5,c5',e5,_,_⟩:=Cx.own.form (by omega);cases e5;have x0:=(Cx.pick 1 rfl).row.1.cell 0;have x1:=(Cx.pick 1 rfl).row.1.cell 1;simp only [List.getElem?_cons_succ,List.getElem?_cons_zero] at x0 x1
       have Oe:((TL.drop (64*m)).take 64).length=64:=by
        rw [fv,List.length_drop,RL.o];omega
       have mH:bo ((TL.drop (64*m)).take 64):=fun z hz=>abo.o z (List.mem_of_mem_drop (List.mem_of_mem_take hz))
       have NU:∀w',St w w' [own 5 1 (.slice (some ⟨g5,0,none⟩) L Mz) L (aP TL),row w.heap.size 264 [.slice A1 8 c1,.slice A2 64 c2]]→Sl w' w'.heap.size 1 (some ⟨g5,64*m,none⟩) 64 (aP ((TL.drop (64*m)).take 64)):=fun w' h=>by
        obtain ⟨gg2,oo2,ee2,yM,qF⟩:=(Sl.bz h.own).2 (by omega);cases ee2;refine ⟨by rw [gN,Oe],fun _=>⟨g5,64*m,rfl,yM,fun j v hv=>?_⟩⟩;rw [←Nat.zero_add (64*m),Nat.add_assoc];refine qF (64*m+j) v ?_;rw [aP,List.getElem?_map] at hv;rw [aP,List.getElem?_map]
        have hj:j < 64:=by
         rcases Nat.lt_or_ge j 64 with h|h
         ·exact h
         ·rw [List.getElem?_eq_none (by rw [Oe];exact h)] at hv;cases hv
        rw [List.getElem?_take_of_lt hj,List.getElem?_drop] at hv;exact hv
       have Od:=fun (w':World) (h:St w w' [own 5 1 (.slice (some ⟨g5,0,none⟩) L Mz) L (aP TL),row w.heap.size 264 [.slice A1 8 c1,.slice A2 64 c2]]) (hs:Sl w' w'.heap.size 1 A 8 (dP (cf TL m).dr))=>Ru w' (.slice A1 8 c1) A2 A (some ⟨g5,64*m,none⟩) c2 c (Mz-64*m) (cf TL m) (Vx TL m) ((TL.drop (64*m)).take 64) mH Oe rfl (qp H2.o h.aI) hs (NU w' h);have ZF:=aa Od;have oG:comp (cf TL m) ((TL.drop (64*m)).take 64)=cf TL (m+1):=rfl;rw [oG] at Od;have ZF:=aa Od;have hle:64*m+64≤L:=by rw [rW.o];omega
       have hlc:L≤Mz:=by omega
       have j1:IntKind.i64.wrap (64*(m:Int)+64)=64*(m:Int)+64:=IntWalk.i64_in _ ⟨by omega,by omega⟩;clear Od NU Oe mH oG Cx dB;go_upto_region 17 with fail;refine dA ?_;refine bj [1,2,3,4] ?_;simp only [pick,af,ae,ah];iterate 4 still_step
       refine wpStill_nil ?_;refine fM 5 (.int .i64 (64*(m:Int)+64)) (by kernel_rfl) (fun _ _ _ _ _ h=>h) (by rfl) ?_ ?_
       ·intro w2;try simp only [af,ae,ah]
        go_simp
       try simp only [af,ae,ah,Act.put,aq,ak,ao]
       refine fM 6 (.slice (some ⟨g5,64*m,none⟩) 64 (Mz-64*m)) (by kernel_rfl) (fun _ _ _ _ _ h=>h) (by rfl) ?_ ?_
       ·intro w2;try simp only [af,ae,ah]
        go_simp;rw [if_pos ⟨by omega,by omega⟩,if_pos ⟨by omega,by omega⟩,show (64*(m:Int)).toNat=64*m by omega,show (64*(m:Int)+64).toNat=64*m+64 by omega,if_neg (by omega),show 64*m+64-64*m=64 by omega]
       try simp only [af,ae,ah,Act.put,aq,ak,ao]
       refine bj [0] ?_;simp only [pick,af,ae,ah];iterate 1 still_step
       refine wpStill_nil ?_;try simp only [af,ae,ah,Act.put,aq,ak,ao]
       refine aL 7 ?_;try simp only [af,ae,ah]
       go_simp;refine (ZF.o _ ml.o.drew (qp kL.o (Below.refl _ _).drew)).mono ?_;rintro e DJ ⟨r,rfl,JM,Gy⟩;obtain ⟨AR,cR,rfl,_,_⟩:=aH JM;have vA:=aa (ml.o.drew.below Gy);have abv:=aa (Sl.bz JM);clear JM Gy;try dsimp only
       try simp only [af,ae,ah,Act.put,aq,ak,ao]
       refine aL 8 ?_;try simp only [af,ae,ah]
       go_simp;try dsimp only
       refine bZ ?_;go_wp2_with fail;go_roundw;case rel=>exact ⟨m+1,_,_,by omega,rfl,by go_num,abv.o,vA.o⟩
       case measure=>simp [intOf];omega
      ·have N0:¬64*(m:Int) < (L:Int):=by rw [rW.o];omega
       have zt:m=m0:=by omega
       have NW:=kL.o;rw [zt] at NW;have nY:=Vx TL m0;generalize cf TL m0=V at NW nY OV;obtain ⟨bV,oV,rfl,hbV,hcV⟩:=NW.2 (by omega);have JU:=(St.nil wr).add (Q:=own 5 1 (.slice none 0 0) 0 []) (F:=fun _=>False) (Below.refl _ _) ⟨World.ownsRow_nil _ _ _ _,fun i=>by simp [Value.ownBlock]⟩ (fun i hi=>hi.elim);have vA:=aa JU;have HCV:=aa hcV;have fG:=aa nY;clear JU hcV NW nY zt Cx dB;go_wp2_with fail;go_loopw [10,11] (fun vv i wx=>∃k4:Nat,k4≤8∧i=.int .i64 k4∧St wr wx [own 5 1 vv (4*k4) (aP ((qZ V).take (4*k4)))]) (fun _ i _=>8-(intOf i).toNat)
       case atStart=>exact ⟨0,by omega,rfl,vA.o⟩
       case round =>
        obtain ⟨k4,Mf,rfl,tt⟩:=hrel;obtain ⟨AO,cO,rfl,_,_⟩:=aH tt.own;have H16:=aa tt;by_cases JW:k4 < 8
        ·have aac:(k4:Int) < 8:=by omega
         have cV:=(tt.aI.cell (p:=⟨bV,oV+k4,none⟩) hbV).trans (HCV.o k4 _ (jk V.dr k4 JW));have lV:=JA fG.o k4;have hmo:=PZ V k4 JW;generalize V.dr.getD k4 0=x at *;have i0:(0:Int)≤(k4:Int):=by omega
         have HMO:=aa hmo;clear hmo tt;go_upto_region 22 with fail;refine dA ?_;refine bj [0] ?_;simp only [pick,af,ae,ah];iterate 1 still_step
         refine wpStill_nil ?_;refine jT [1,2,3,4,5,6,7,8,9,10,11,12,13,14,15,16,17,18,19,20,21,22,23,24,25,26] (by kernel_rfl) ?_;simp only [pick,af,ae,ah];repeat (go_big_quiet_step (fail))
         refine wpQuiet_nil ?_;rintro _ ⟨nq,rfl⟩;refine aL 27 ?_;try simp only [af,ae,ah]
         go_simp;try dsimp only
         try simp only [af,ae,ah,Act.put,aq,ak,ao]
         refine aL 28 ?_;try simp only [af,ae,ah]
         refine VJ rfl (.tmp 67) (.tmp 94) rfl (H16.o.drewN (1+nq)) rfl rfl (by omega) ?_;intro v17 w17 h17
         have h18:=(show ∀w0',St w0' w17 _→St w0' w17 [own 5 1 v17 (4*(k4+1)) (aP ((qZ V).take (4*(k4+1))))] from fun w0' h=>by
          rw [HMO.o,Bv];refine cast ?_ h
          have d0:digit 4 x 0=(x:Int) / 16777216:=by
           show ((x / 16777216 % 256:Nat):Int)=_
           omega
          have d1:digit 4 x 1=(x:Int) / 65536 % 256:=by
           show ((x / 65536 % 256:Nat):Int)=_
           omega
          have d2:digit 4 x 2=(x:Int) / 256 % 256:=by
           show ((x / 256 % 256:Nat):Int)=_
           omega
          have d3:digit 4 x 3=(x:Int) % 256:=by
           show ((x / 1 % 256:Nat):Int)=_
           omega
          congr 4
          rw [show be 4 x=[digit 4 x 0,digit 4 x 1,digit 4 x 2,digit 4 x 3] from rfl,d0,d1,d2,d3]
          rfl) _ h17
         have H18:=aa h18;clear h17 h18;try dsimp only
         try simp only [af,ae,ah,Act.put,aq,ak,ao]
         refine aL 29 ?_;try simp only [af,ae,ah]
         go_simp;try dsimp only
         refine bZ ?_;go_wp2_with fail;go_roundw;case rel=>exact ⟨k4+1,by omega,by go_num,H18.o⟩
         case measure=>simp [intOf];omega
        ·have aac:¬(k4:Int) < 8:=by omega
         obtain rfl:k4=8:=by omega
         clear tt;go_wp2_with fail;go_ret;refine ⟨_,rfl,?_,ml.o.aI.trans (H16.o.aI.mono ml.o.aI.size)⟩;have h:=H16.o.own;rw [List.take_of_length_le (by rw [qo];exact Nat.le_refl _),←OV.o] at h;exact h.mono ml.o.aI.size
    ·obtain ⟨q,rfl⟩:∃q,s=q+1:=⟨s-1,by omega⟩
     have hq:((q+1:Nat):Int)-1=(q:Int):=by omega
     rw [hq];clear hq;have q0:(0:Int)≤(q:Int):=by omega
     have vZ:(be 8 (8*n)).take (t+1)=(be 8 (8*n)).take t++[digit 8 (8*n) t]:=by
      rw [jz (by rw [bp];omega)]
      congr 2
      simp [be]
     have OT:=aa vZ;clear vZ
     have Va:∀v11 uH,St w uH [own 5 1 v11 (n+1+k+t+1) (aP (bs++[128]++List.replicate k 0++(be 8 (8*n)).take t)++[.int .u8 (digit 8 (8*n) t)]),row w.heap.size 264 [.slice A1 8 c1,.slice A2 64 c2]]→St w uH [own 5 1 v11 (n+1+k+(t+1)) (aP (bs++[128]++List.replicate k 0++(be 8 (8*n)).take (t+1))),row w.heap.size 264 [.slice A1 8 c1,.slice A2 64 c2]]:=fun v11 uH h=>by
      rw [OT.o,←List.append_assoc,Bv];exact h
     have bJ:=aa Va;clear Va;by_cases Ap:6≤q
     ·have aaN:(6:Int)≤(q:Int):=by omega
      have Ez:digit 8 (8*n) t=0:=by
       unfold digit;rw [Nat.div_eq_of_lt]
       ·rfl
       ·have:256 ^ 6≤256 ^ (8-1-t):=Nat.pow_le_pow_right (by omega) (by omega);omega
      have HD:=aa Ez;clear Ez;go_wp2_with (at_builtin;refine B0 rfl (.tmp 34) (.tmp 35) rfl mm.o rfl 0 rfl (by omega) ?_;intro v11 uH jH);have Bp:=aa (bJ.o v11 uH (by rw [HD.o];exact jH));clear jH;go_wp2_with fail;go_roundw;case rel=>exact ⟨q,t+1,by omega,by go_num,Bp.o⟩
      case measure=>simp [intOf]
     ·have aaN:¬(6:Int)≤(q:Int):=by omega
      have Aq:=fun w=>yC w (8*q) (by omega);rw [show ((8*q:Nat):Int)=8*(q:Int) by omega] at Aq;have td:0 < 2 ^ (8*q):=Nat.two_pow_pos _
      have QQ:((8*(n:Int)) / ((2 ^ (8*q):Nat):Int)) % 256=digit 8 (8*n) t:=by
       unfold digit;rw [show 8-1-t=q by omega,show (256:Nat) ^ q=2 ^ (8*q) by rw [show (256:Nat)=2 ^ 8 from rfl,←Nat.pow_mul],Int.natCast_emod,Int.natCast_ediv];rfl
      have NY:(8*(n:Int)) / ((2 ^ (8*q):Nat):Int)=((8*n / 2 ^ (8*q):Nat):Int):=by rw [Int.natCast_ediv];rfl
      have JQ:8*n / 2 ^ (8*q)≤8*n:=Nat.div_le_self _ _;generalize 2 ^ (8*q)=p at *;have p0:(0:Int) < (p:Int):=by omega
      have pne:¬(p:Int)=0:=by omega
      have HDG:=aa QQ;have zE:=aa Aq;obtain ⟨z,hz⟩:∃z,z=8*n / p:=⟨_,rfl⟩
      rw [←hz] at NY JQ;have oz:(0:Int)≤(8*(n:Int)) / (p:Int):=by rw [NY];omega
      have Gy:(8*(n:Int)) / (p:Int)≤800000:=by rw [NY];omega
      clear hz;clear QQ Aq NY JQ;have q8:IntKind.i64.wrap (8*(q:Int))=8*(q:Int):=IntWalk.i64_in _ ⟨by omega,by omega⟩;go_wp2_with fail;refine (zE.o _).mono ?_;rintro e uH ⟨rfl,rfl⟩;go_wp2_with (at_builtin;refine B0 rfl (.tmp 37) (.tmp 45) rfl mm.o rfl _ rfl (by omega) ?_;intro v12 F0 jH);rw [HDG.o] at jH;have Bp:=aa (bJ.o v12 F0 jH);clear jH;go_wp2_with fail;go_roundw;case rel=>exact ⟨q,t+1,by omega,by go_num,Bp.o⟩
      case measure=>simp [intOf]
end fH
namespace image


open Go.RowKit Go.Deep base obj mem sep bw num bytes bf chain fH
theorem Pb (w:World) (n a b:Int):Calls Tryz.prog 122 #[.int .i64 n,.int .i64 a,.int .i64 b] w fun e w'=>e=.returned (.bool (decide (a≤n∧n≤b)))∧w'=w:=by
 by_cases h:a≤n
 ·have h1:decide (a≤n)=true:=by simpa using h
  have e:decide (a≤n∧n≤b)=decide (n≤b):=by simp [h]
  rw [e];clear e;go_enter Tryz.func122,Tryz.ntmps122;go_wp2_with fail;go_ret;exact ⟨rfl,rfl⟩
 ·have h1:decide (a≤n)=false:=by simpa using h
  have e:decide (a≤n∧n≤b)=false:=by simp;omega
  rw [e];clear e;go_enter Tryz.func122,Tryz.ntmps122;go_wp2_with fail;go_ret;exact ⟨rfl,rfl⟩
theorem Y9 {w0 w:World} {l:List aD} {g B:Nat} {h:HS} {A:Option Addr} {n c:Nat} {bs:List Int} (H:St w0 w (pI g h::row B 24 [.slice A n c]::l)) (hh:h.Ok) (hn:bs.length=n) (hm:h.n+n < 1099511627776) (hb:bo bs) (hs:∀(w':World) (x:HS),St w0 w' (pI g x::row B 24 [.slice A n c]::l)→Sl w' w'.heap.size 1 A n (bs.map (.int .u8))) :
  Calls Tryz.prog 126 #[.func (Fn.func 127) #[.pointer (some ⟨g,0,none⟩)] #[],.slice (some ⟨B,0,none⟩) 1 1] w fun e w'=>e=.returned (.tuple #[])∧St w0 w' (pI g (h.write bs)::row B 24 [.slice A n c]::l):=by
 have HW:=aa (jL H hh A n c bs hn hm hb hs);have HH:=aa H;have cB:=(H.pick 1 rfl).row.1.cell 0;simp only [List.getElem?_cons_succ,List.getElem?_cons_zero] at cB;have lB:=(H.pick 1 rfl).row.1.lt;clear H hh hn hb hs;go_enter Tryz.func126,Tryz.ntmps126;go_wp2_with fail;go_loopw [8] (fun i wr=>(i=.int .i64 0∧wr=w)∨(i=.int .i64 1∧St w0 wr (pI g (h.write bs)::row B 24 [.slice A n c]::l))) (fun i _=>1-(intOf i).toNat)
 case atStart=>exact .inl ⟨rfl,rfl⟩
 case round =>
  rcases hrel with ⟨rfl,rfl⟩|⟨rfl,h2⟩
  ·go_wp2_with fail;refine HW.o.mono ?_;rintro e w2 ⟨rfl,h2⟩;have H2:=aa h2;clear h2;go_wp2_with fail;go_roundw;case rel=>exact .inr ⟨rfl,H2.o⟩
   case measure=>simp [intOf]
  ·have H2:=aa h2;clear h2;go_wp2_with fail
   go_end0
   exact ⟨rfl,H2.o⟩
theorem GZ (w:World) (A:Option Addr) (n c:Nat) (bs:List Int) (hn:bs.length=n) (hm:n≤100000) (hb:bo bs) (hs:Sl w w.heap.size 1 A n (aP bs)) :
  Calls Tryz.prog 77 #[.slice A n c] w fun e w'=>∃g,e=.returned (.slice (some ⟨g,0,none⟩) 32 32)∧Sl w' w'.heap.size 1 (some ⟨g,0,none⟩) 32 (aP (gh bs))∧Below w.heap.size w w':=by
 have HN:=aa (Ye (St.nil w));have HB:=aa hb;have HS:=aa hs;have HL:=aa hn;clear hb hs hn;go_enter Tryz.func77,Tryz.ntmps77;go_wp2_with fail;refine HN.o.mono ?_;rintro e w1 ⟨g,rfl,h1⟩;have h2:=(h1.new 24 #[.slice A n c]).swap;have H2:=aa h2;clear h1 h2;go_wp2_with fail;refine (Y9 H2.o Iy HL.o (by show 0+n < _;omega) HB.o (fun w' x h=>qp HS.o h.aI)).mono ?_;rintro e w2 ⟨rfl,h3⟩;have U9:=uJ h3 HB.o (by rw [HL.o];omega);have H3:=aa h3;clear h3;have hD:(aP (gh bs)).toArray.size=32:=by rw [List.size_toArray,gN,qI]
 have hD1:∀v∈(aP (gh bs)).toArray.toList,v.oneCell'=true:=fun v hv=>by
  obtain ⟨x,_,rfl⟩:=List.mem_map.1 hv;rfl
 obtain ⟨D,hDD⟩:∃D,D=(aP (gh bs)).toArray:=⟨_,rfl⟩
 have hDl:aP (gh bs)=D.toList:=by rw [hDD]
 change Calls Tryz.prog _ _ _ (fun e w'=>e=.returned (.agg (aP (gh bs)).toArray)∧_) at U9;rw [←hDD] at U9 hD hD1;have RN:=aa U9;have VB:=aa hD;have MU:=aa hD1;have HDL:=aa hDl;have lv:RowKit.Hid ((Tryz.prog.info? 198).map (·.size)=some D.size):=aa (by rw [hD];kernel_rfl);have Z:=aa R9;have HZ:RowKit.Hid ((iY z8 0).toArray.size=D.size):=aa (by rw [hD];exact yG z8 0 (by omega));clear hD hD1 hDD hDl U9;go_wp2_with fail;refine RN.o.mono ?_;rintro e w3 ⟨rfl,mJ⟩;have bD:=aa (H3.o.aI.trans (mJ.mono H3.o.aI.size));clear mJ
 go_wp2_with (first
  | (with_reducible refine gG rfl 198 rfl _ Z.o ?_)
  | (refine gF rfl 198 (.tmp 4) (.tmp 12) rfl D _ 198 w3.heap.size rfl rfl lv.o HZ.o MU.o ?_ rfl))
 go_ret;refine ⟨w3.heap.size,rfl,?_,bD.o.alloc bD.o.size _⟩;rw [HDL.o];exact (Row.new w3 198 D).sl (by show w3.heap.size < (w3.heap.push _).size;rw [Array.size_push];omega) (by rw [List.drop_zero,List.take_of_length_le (by rw [Array.length_toList,VB.o];omega)]) (by rw [Array.length_toList,VB.o])
end image
namespace image


open Go.RowKit Go.Deep base obj mem sep bw num bytes bf chain
abbrev aP (l:List Int):List Value:=l.map (Value.int .u8)
abbrev gh:=fH.gh
theorem L1 (w:World) (A:Option Addr) (n c:Nat) (bs:List Int) (hn:bs.length=n) (hm:n≤100000) (hb:bo bs) (hs:Sl w w.heap.size 1 A n (aP bs)) :
  Calls Tryz.prog 78 #[.slice A n c] w fun e w'=>∃v,e=.returned v∧w'.ownsRow w.heap.size 5 1 v 4 (aP (be 4 (sum bs)))∧Below w.heap.size w w':=by
 have HB:=aa hb;have HS:=aa hs;have HL:=aa hn;clear hb hs hn;go_enter Tryz.func78,Tryz.ntmps78;go_wp2_with fail;refine (xA _).mono ?_;rintro e w1 ⟨g,rfl,hg,hr,ku⟩;have HC:=aa (bw.uJ w1 g hr A n c bs HL.o (by omega) HB.o ((HS.o.below ku).more ku.size));have bn:=aa ku;clear hg hr ku;go_wp2_with fail;refine HC.o.mono ?_;rintro e w2 ⟨rfl,rfl⟩;have dB:=zQ (bs:=bs);generalize hz:sum bs=z at *;have HP:=aa (iX w2 none 0 0 [] (Sl.Fy w2 _ _) (by simp) (by omega) z 4 (by omega) (by omega) (by omega));have HZ:=aa hz;clear hz;go_wp2_with fail;refine HP.o.mono ?_;rintro e w3 ⟨v,rfl,ho,mJ⟩;have HO:=aa ho;have bD:=aa (bn.o.trans (mJ.mono bn.o.size));clear ho mJ;go_wp2_with fail;go_ret;refine ⟨_,rfl,?_,bD.o⟩;have h:=HO.o.mono bn.o.size;rw [HZ.o];exact h
theorem VU (w:World) (A:Option Addr) (n c:Nat) (xs:List Value) (hs:Sl w w.heap.size 1 A n xs) (h1:∀v∈xs,v.oneCell'=true) (hn:n≤100000) (T:Option Addr) (m d:Nat) (bs:List Int) (Au:0 < m) (hm:m≤1000) (hmd:m≤d) (ht:Sl w w.heap.size 1 T m (aP bs)) :
  Calls Tryz.prog 124 #[.slice A n c,.slice T m d] w fun e w'=>∃v,e=.returned v∧w'.ownsRow w.heap.size 5 1 v (n+2+m) (xs++aP (be 2 m)++aP bs)∧Below w.heap.size w w':=by
 have HP:=aa (fun k (hk:k < 65536)=>iX w A n c xs hs h1 hn k 2 (by omega) (by omega) hk);obtain ⟨gT,oT,rfl,hgT,_⟩:=ht.2 (by omega);have HT:=aa ht;clear hs h1 ht;go_enter Tryz.func124,Tryz.ntmps124;go_wp2_with fail;refine (HP.o m (by omega)).mono ?_;rintro e w2 ⟨v,rfl,ho,bN⟩;obtain ⟨A2,c2,rfl,AB,At⟩:=aH ho;have HO:=aa ho;have aO:=aa bN;have Hu:=aa (fH.qp HT.o bN);clear ho bN;go_wp2_with (at_builtin;refine nK qW rfl (.tmp 13) (.tmp 14) rfl HO.o rfl rfl (fun h=>by cases h) Hu.o (by simp [Value.oneCell']) (by omega) (by unfold maxLen;omega) aO.o.size ?_;intro v3 w3 vX vd Et;have ya:=aa vX;have bD:=aa (iT aO.o HO.o vd aO.o.size);clear vX vd Et);go_ret;exact ⟨_,rfl,by rw [List.append_assoc] at *;exact ya.o,bD.o⟩
structure aw where
 part:Int
 version:Int
 aY:Int
 mem:Int
 fuel:Int
 aN:Int
 aB:Int
 code:List Int
def aw.right (i:aw):Prop:=(0≤i.part∧i.part≤3)∧(1≤i.version∧i.version≤65535)∧(0≤i.aY∧i.aY≤65535)∧(1≤i.mem∧i.mem≤16)∧(1≤i.fuel∧i.fuel≤32)∧(0≤i.aN∧i.aN≤15)∧(0≤i.aB∧i.aB≤15)∧(1≤(i.code.length:Int)∧(i.code.length:Int)≤96)
instance (i:aw):Decidable i.right:=by unfold aw.right;infer_instance
def aw.val (i:aw) (A:Option Addr) (c:Nat):Value:=.agg #[.int .i64 i.part,.int .i64 i.version,.int .i64 i.aY,.int .i64 i.mem,.int .i64 i.fuel,.int .i64 i.aN,.int .i64 i.aB,.slice A i.code.length c]
def aw.head (i:aw):List Int:=be 2 19529++be 1 i.part.toNat++be 2 i.version.toNat++be 2 i.aY.toNat++be 1 i.mem.toNat++be 1 i.fuel.toNat++be 1 i.aN.toNat++be 1 i.aB.toNat++be 2 i.code.length++i.code
def fy (b:List Int):List Int:=b++gh b++be 4 (sum (b++gh b))
def aw.bytes (i:aw):List Int:=fy i.head
theorem vg (i:aw):i.head.length=13+i.code.length:=by
 simp only [aw.head,gA,bp]
theorem sy (i:aw) (h:bo i.code):bo i.head:=by
 intro z hz;simp only [aw.head,List.mem_append] at hz;rcases hz with ((((((((hz|hz)|hz)|hz)|hz)|hz)|hz)|hz)|hz)|hz
 all_goals first|exact pW _ _ z hz|exact h z hz
theorem ow (n a b:Int) (w:World) (k:Nat):Calls Tryz.prog 122 #[.int .i64 n,.int .i64 a,.int .i64 b] (w.drewN (1+k)) fun e w'=>e=.returned (.bool (decide (a≤n∧n≤b)))∧∃j,w'=w.drewN (1+j) :=
 (Pb _ n a b).mono fun e w' ⟨h1,h2⟩=>⟨h1,k,h2⟩
theorem ft (w:World) (i:aw) (A:Option Addr) (c:Nat) (hc:i.code.length≤9223372036854775807):Calls Tryz.prog 75 #[i.val A c] w fun e w'=>e=.returned (.bool (decide i.right))∧Below w.heap.size w w':=by
 obtain ⟨part,version,aY,mem,fuel,aN,aB,code⟩:=i;simp only [aw.val];have t0:=ow part 0 3;have t1:=ow version 1 65535;have t2:=ow aY 0 65535;have t3:=ow mem 1 16;have t4:=ow fuel 1 32;have t5:=ow aN 0 15;have t6:=ow aB 0 15;have t7:=ow (code.length:Int) 1 96
 have hr:decide (aw.right ⟨part,version,aY,mem,fuel,aN,aB,code⟩)=[decide (0≤part∧part≤3),decide (1≤version∧version≤65535),decide (0≤aY∧aY≤65535),decide (1≤mem∧mem≤16),decide (1≤fuel∧fuel≤32),decide (0≤aN∧aN≤15),decide (0≤aB∧aB≤15),decide (1≤(code.length:Int)∧(code.length:Int)≤96)].all id:=by
  rw [Bool.eq_iff_iff,decide_eq_true_iff];simp only [aw.right,List.all_cons,List.all_nil,id,Bool.and_true,Bool.and_eq_true,decide_eq_true_eq]
 generalize decide (0≤part∧part≤3)=b0 at *;generalize decide (1≤version∧version≤65535)=b1 at *;generalize decide (0≤aY∧aY≤65535)=b2 at *;generalize decide (1≤mem∧mem≤16)=b3 at *;generalize decide (1≤fuel∧fuel≤32)=b4 at *;generalize decide (0≤aN∧aN≤15)=b5 at *;generalize decide (0≤aB∧aB≤15)=b6 at *;generalize decide (1≤(code.length:Int)∧(code.length:Int)≤96)=b7 at *;have HR:=aa hr;have T0:=aa t0;have T1:=aa t1;have T2:=aa t2;have T3:=aa t3;have T4:=aa t4;have T5:=aa t5;have T6:=aa t6;have T7:=aa t7;clear hr t0 t1 t2 t3 t4 t5 t6 t7;have eZ:=aa ((Below.refl w.heap.size w).alloc (Nat.le_refl _) (.cells #[.int .i64 part,.int .i64 version,.int .i64 aY,.int .i64 mem,.int .i64 fuel,.int .i64 aN,.int .i64 aB,.slice A code.length c] 26));go_enter Tryz.func75,Tryz.ntmps75;go_wp2_with fail;refine dA ?_;refine bj [27] ?_;simp only [pick,af,ae,ah];iterate 1 still_step
 refine wpStill_nil ?_;refine jT [0,1,2,3,4,5,6,7,8,9,10,11,12,13,14,15,16,17,18,19,20,21,22,23,24] (by kernel_rfl) ?_;simp only [pick,af,ae,ah];repeat (go_big_quiet_step (first|(with_reducible exact T0.o _ _)|(with_reducible exact T1.o _ _)|(with_reducible exact T2.o _ _)|(with_reducible exact T3.o _ _)|(with_reducible exact T4.o _ _)|(with_reducible exact T5.o _ _)|(with_reducible exact T6.o _ _)|(with_reducible exact T7.o _ _)))
 refine wpQuiet_nil ?_;rintro _ ⟨nq,rfl⟩;refine aL 25 ?_;try simp only [af,ae,ah]
 go_simp;try dsimp only
 try simp only [af,ae,ah,Act.put,aq,ak,ao]
 refine aL 26 ?_;try simp only [af,ae,ah]
 go_simp;try dsimp only
 try simp only [af,ae,ah,Act.put,aq,ak,ao]
 refine bZ ?_;obtain ⟨L,hL⟩:∃L:List Bool,L=[b0,b1,b2,b3,b4,b5,b6,b7]:=⟨_,rfl⟩
 have hLl:L.length=8:=by rw [hL];rfl
 rw [←hL] at HR;have aZ:∀(W:World) (n:Nat),W.heap.size=n→Row (W.alloc (.cells #[.bool b0,.bool b1,.bool b2,.bool b3,.bool b4,.bool b5,.bool b6,.bool b7] 4)) n 4 (L.map Value.bool):=fun W n h=>by subst h;rw [hL];exact Row.new W _ _
 have gy:=aa aZ;have rW:=aa hLl;clear hL hLl aZ;go_wp2_with fail;go_loopw [32] (fun i wr=>∃k:Nat,k≤8∧i=.int .i64 k∧(L.take k).all id=true∧Row wr (w.heap.size+1) 4 (L.map Value.bool)∧Below w.heap.size w wr) (fun i _=>8-(intOf i).toNat)
 case atStart=>exact ⟨0,by omega,rfl,rfl,gy.o _ _ (Array.size_push _),(below_drewN eZ.o _).alloc (by show w.heap.size≤(w.heap.push _).size;rw [Array.size_push];omega) _⟩
 case round =>
  obtain ⟨k,hk,rfl,cN,Gw,cy⟩:=hrel;by_cases aK:k < 8
  ·have cZ:(k:Int) < 8:=by omega
   have i0:(0:Int)≤(k:Int):=by omega
   have gZ:k < L.length:=by rw [rW.o];exact aK
   have ck:=(Gw.cell k).trans (by rw [List.getElem?_map,cM gZ];rfl:(L.map Value.bool)[k]?=some (.bool L[k]));have lk:=Gw.lt
   have pS:(L.take (k+1)).all id=((L.take k).all id&&L[k]):=by
    rw [jz gZ,List.all_append];simp
   have kt:L[k]=false→L.all id=false:=fun h=>by
    rw [List.all_eq_false];exact ⟨L[k],List.getElem_mem gZ,by simp [h]⟩
   have lA:=aa Gw;have ch:=aa cy;have wI:=aa pS;have qa:=aa kt;have mf:=aa cN;clear Gw cy pS kt cN;cases hb:L[k]
   ·rw [hb] at ck;have HF:=aa (qa.o hb);clear hb;go_wp2_with fail;go_ret;exact ⟨by rw [HR.o,HF.o];rfl,ch.o⟩
   ·rw [hb] at ck;have HT:=aa (show (L.take (k+1)).all id=true by rw [wI.o,mf.o,hb];rfl);clear hb;go_wp2_with fail;go_roundw;case rel=>exact ⟨k+1,by omega,by go_num,HT.o,lA.o,ch.o⟩
    case measure=>simp [intOf];omega
  ·have cZ:¬(k:Int) < 8:=by omega
   have hT:L.all id=true:=by
    rw [List.take_of_length_le (by rw [rW.o];omega)] at cN;exact cN
   have HT:=aa hT;have ch:=aa cy;clear Gw cy cN hT;go_wp2_with fail;go_ret;exact ⟨by rw [HR.o,HT.o];rfl,ch.o⟩
end image
namespace image


open Go.RowKit Go.Deep base obj mem sep bw num bytes bf chain
theorem yn (l:List Int):∀v∈aP l,v.oneCell'=true:=fun v hv=>by
 obtain ⟨x,_,rfl⟩:=List.mem_map.1 hv;rfl
theorem xy {w0 w:World} {v:Value} {n:Nat} {l:List Int} (ho:w.ownsRow w0.heap.size 5 1 v n (aP l)) (hb:Below w0.heap.size w0 w) (hn:n≤100000) (m k:Nat) (jP:1≤k) (dC:k≤6) (hm:m < 256 ^ k) :
  Calls Tryz.prog 123 #[v,.int .i64 m,.int .i64 k] w fun e w'=>∃v',e=.returned v'∧w'.ownsRow w0.heap.size 5 1 v' (n+k) (aP (l++be k m))∧Below w0.heap.size w0 w'∧Below w.heap.size w w':=by
 obtain ⟨A,c,rfl,hc,_⟩:=aH ho;refine (iX w A n c (aP l) (Sl.bz ho) (yn l) hn m k jP dC hm).mono fun e w' ⟨v',h1,h2,h3⟩=>⟨v',h1,?_,hb.trans (h3.mono hb.size),h3⟩
 rw [aP,List.map_append];exact h2.mono hb.size
theorem Z4 (a b c d:Int) (k:Nat) (h:k < 4) (w:World):(Instr.index 192 (.agg #[.int .i64 a,.int .i64 b,.int .i64 c,.int .i64 d]) (.int .i64 (k:Int))).run Tryz.prog w=.ok (.int .i64 ([a,b,c,d].getD k 0)) w:=by
 rcases (by omega:k=0∨k=1∨k=2∨k=3) with rfl|rfl|rfl|rfl<;>kernel_rfl
theorem WV (w:World) (i:aw) (hr:i.right) (A:Option Addr) (c:Nat) (hc:i.code.length≤c) (hs:Sl w w.heap.size 1 A i.code.length (aP i.code)) :
  Calls Tryz.prog 76 #[i.val A c] w fun e w'=>∃v,e=.returned v∧w'.ownsRow w.heap.size 5 1 v i.head.length (aP i.head)∧Below w.heap.size w w':=by
 rw [vg];obtain ⟨part,version,aY,mem,fuel,aN,aB,code⟩:=i;obtain ⟨⟨a0,a1⟩,⟨b0,b1⟩,⟨c0,c1⟩,⟨d0,d1⟩,⟨e0,e1⟩,⟨f0,f1⟩,⟨g0,g1⟩,⟨h0,h1⟩⟩:=hr;simp only [aw.val,aw.head] at *;obtain ⟨p,rfl⟩:∃p:Nat,part=p:=⟨part.toNat,by omega⟩
 obtain ⟨ve,rfl⟩:∃p:Nat,version=p:=⟨version.toNat,by omega⟩
 obtain ⟨ha,rfl⟩:∃p:Nat,aY=p:=⟨aY.toNat,by omega⟩
 obtain ⟨me,rfl⟩:∃p:Nat,mem=p:=⟨mem.toNat,by omega⟩
 obtain ⟨fu,rfl⟩:∃p:Nat,fuel=p:=⟨fuel.toNat,by omega⟩
 obtain ⟨se,rfl⟩:∃p:Nat,aN=p:=⟨aN.toNat,by omega⟩
 obtain ⟨re,rfl⟩:∃p:Nat,aB=p:=⟨aB.toNat,by omega⟩
 simp only [ea];obtain ⟨X,hX⟩:∃X:List Value,X=[.int .i64 (p:Int),.int .i64 (ve:Int),.int .i64 (ha:Int),.int .i64 (me:Int),.int .i64 (fu:Int),.int .i64 (se:Int),.int .i64 (re:Int),.slice A code.length c]:=⟨_,rfl⟩
 have aZ:=Row.new w 26 #[.int .i64 (p:Int),.int .i64 (ve:Int),.int .i64 (ha:Int),.int .i64 (me:Int),.int .i64 (fu:Int),.int .i64 (se:Int),.int .i64 (re:Int),.slice A code.length c];have kK:=(Below.refl w.heap.size w).alloc (Nat.le_refl _) (.cells #[.int .i64 (p:Int),.int .i64 (ve:Int),.int .i64 (ha:Int),.int .i64 (me:Int),.int .i64 (fu:Int),.int .i64 (se:Int),.int .i64 (re:Int),.slice A code.length c] 26);have gy:=aa aZ;have eZ:=aa kK;have HS:=aa hs;clear hX aZ kK hs X;go_enter Tryz.func76,Tryz.ntmps76;go_wp2_with fail;refine (xy (w0:=w) (v:=.slice none 0 0) (n:=0) (l:=[]) (World.ownsRow_nil _ _ _ _) eZ.o (by omega) 19529 2 (by omega) (by omega) (by omega)).mono ?_;rintro e w1 ⟨v1,rfl,ho,hb,mH⟩;have K7:=aa ho;have bn:=aa hb;have iw:=aa (gy.o.below mH gy.o.lt);clear ho hb mH;have x0:w1.cell? ⟨w.heap.size,0,none⟩=some (.int .i64 (p:Int)):=iw.o.cell 0;go_wp2_with fail;refine (xy K7.o bn.o (by omega) p 1 (by omega) (by omega) (by omega)).mono ?_;rintro e w2 ⟨v2,rfl,ho,hb,mH⟩;have kG:=aa ho;have aO:=aa hb;have dI:=aa (iw.o.below mH iw.o.lt);clear ho hb mH x0;have x1:w2.cell? ⟨w.heap.size,1,none⟩=some (.int .i64 (ve:Int)):=dI.o.cell 1;go_wp2_with fail;refine (xy kG.o aO.o (by omega) ve 2 (by omega) (by omega) (by omega)).mono ?_;rintro e w3 ⟨v3,rfl,ho,hb,mH⟩;have ya:=aa ho;have bD:=aa hb;have x9:=aa (dI.o.below mH dI.o.lt);clear ho hb mH x1;have x2:w3.cell? ⟨w.heap.size,2,none⟩=some (.int .i64 (ha:Int)):=x9.o.cell 2;go_wp2_with fail;refine (xy ya.o bD.o (by omega) ha 2 (by omega) (by omega) (by omega)).mono ?_;rintro e w4 ⟨v4,rfl,ho,hb,mH⟩;have Bf:=aa ho;have eV:=aa hb;have od:=aa (x9.o.below mH x9.o.lt);clear ho hb mH x2;have x3:w4.cell? ⟨w.heap.size,3,none⟩=some (.int .i64 (me:Int)):=od.o.cell 3;have x4:w4.cell? ⟨w.heap.size,4,none⟩=some (.int .i64 (fu:Int)):=od.o.cell 4;have x5:w4.cell? ⟨w.heap.size,5,none⟩=some (.int .i64 (se:Int)):=od.o.cell 5;have x6:w4.cell? ⟨w.heap.size,6,none⟩=some (.int .i64 (re:Int)):=od.o.cell 6;go_wp2_with fail;obtain ⟨P,hP⟩:∃P:List Int,P=[]++be 2 19529++be 1 p++be 2 ve++be 2 ha:=⟨_,rfl⟩
 have Co:=Bf.o;rw [←hP] at Co;have CH:=aa Co;have HP:=aa hP;clear Co hP x3 x4 x5 x6;go_loopw [28,3] (fun i vv wr=>∃k:Nat,k≤4∧i=.int .i64 k∧wr.ownsRow w.heap.size 5 1 vv (7+k) (aP (P++(([me,fu,se,re]:List Nat).take k).flatMap (be 1)))∧Below w.heap.size w wr∧Row wr w.heap.size 26 [.int .i64 (p:Int),.int .i64 (ve:Int),.int .i64 (ha:Int),.int .i64 (me:Int),.int .i64 (fu:Int),.int .i64 (se:Int),.int .i64 (re:Int),.slice A code.length c]) (fun i _ _=>4-(intOf i).toNat)
 case atStart=>exact ⟨0,by omega,rfl,by rw [List.take_zero,List.flatMap_nil,List.append_nil];exact CH.o,eV.o,od.o⟩
 case round =>
  obtain ⟨k,hk,rfl,ho,hb,Gw⟩:=hrel;have CG:=aa ho;have qb:=aa hb;have rU:=aa Gw;clear ho hb Gw;by_cases aK:k < 4
  ·have cZ:(k:Int) < 4:=by omega
   have Mg:=Z4 me fu se re k aK
   have wu:[(me:Int),(fu:Int),(se:Int),(re:Int)].getD k 0=(([me,fu,se,re].getD k 0:Nat):Int):=by
    rcases (by omega:k=0∨k=1∨k=2∨k=3) with rfl|rfl|rfl|rfl<;>rfl
   have abZ:[me,fu,se,re].getD k 0 < 256:=by
    rcases (by omega:k=0∨k=1∨k=2∨k=3) with rfl|rfl|rfl|rfl
    ·show me < 256;omega
    ·show fu < 256;omega
    ·show se < 256;omega
    ·show re < 256;omega
   have pS:([me,fu,se,re].take (k+1)).flatMap (be 1)=([me,fu,se,re].take k).flatMap (be 1)++be 1 ([me,fu,se,re].getD k 0):=by
    rcases (by omega:k=0∨k=1∨k=2∨k=3) with rfl|rfl|rfl|rfl<;>rfl
   rw [wu] at Mg;generalize [me,fu,se,re].getD k 0=z at *;have wI:=aa pS;clear wu pS;go_wp2_with fail;refine (xy CG.o qb.o (by omega) z 1 (by omega) (by omega) (by omega)).mono ?_;rintro e w7 ⟨v7,rfl,ho,hb,mH⟩;have E3:=aa ho;have wQ:=aa hb;have HR7:=aa (rU.o.below mH rU.o.lt);clear ho hb mH Mg;go_wp2_with fail;go_roundw;case rel=>exact ⟨k+1,by omega,by go_num,by rw [wI.o,←List.append_assoc];exact E3.o,wQ.o,HR7.o⟩
   case measure=>simp [intOf];omega
  ·have cZ:¬(k:Int) < 4:=by omega
   obtain rfl:k=4:=by omega
   obtain ⟨A8,c8,rfl,hc8,_⟩:=aH CG.o;have x7:wr.cell? ⟨w.heap.size,7,none⟩=some (.slice A code.length c):=rU.o.cell 7;have HT:=aa (VU wr A8 (7+4) c8 _ (Sl.bz CG.o) (yn _) (by omega) A code.length c code (by omega) (by omega) hc ((HS.o.below qb.o).more qb.o.size));go_wp2_with fail;refine HT.o.mono ?_;rintro e w9 ⟨v9,rfl,ho,Cu⟩;have HO9:=aa (ho.mono qb.o.size);have HB9:=aa (qb.o.trans (Cu.mono qb.o.size));clear ho Cu;go_wp2_with fail;go_ret;refine ⟨_,rfl,?_,HB9.o⟩;have h:=HO9.o;rw [HP.o,←List.map_append,←List.map_append] at h
   have e:[]++be 2 19529++be 1 p++be 2 ve++be 2 ha++(([me,fu,se,re]:List Nat).take 4).flatMap (be 1)++be 2 code.length++code=be 2 19529++be 1 p++be 2 ve++be 2 ha++be 1 me++be 1 fu++be 1 se++be 1 re++be 2 code.length++code:=by
    simp [List.append_assoc]
   rw [e,show 7+4+2+code.length=13+code.length by omega] at h;exact h
theorem L3 (w:World) (i:aw) (hr:¬i.right) (A:Option Addr) (c:Nat) (hc:i.code.length≤9223372036854775807):Calls Tryz.prog 30 #[i.val A c] w fun e w'=>e=.returned (.tuple #[.slice none 0 0,.int .i64 3])∧Below w.heap.size w w':=by
 have hd:decide i.right=false:=by simpa using hr
 have ez:=aa (fun w=>ft w i A c hc);obtain ⟨part,version,aY,mem,fuel,aN,aB,code⟩:=i;rw [hd] at ez;simp only [aw.val] at *;have eZ:=aa ((Below.refl w.heap.size w).alloc (Nat.le_refl _) (.cells #[.int .i64 part,.int .i64 version,.int .i64 aY,.int .i64 mem,.int .i64 fuel,.int .i64 aN,.int .i64 aB,.slice A code.length c] 26));clear hr hd;go_enter Tryz.func30,Tryz.ntmps30;go_wp2_with fail;refine (ez.o _).mono ?_;rintro e w1 ⟨rfl,hb⟩;have bn:=aa (eZ.o.trans (hb.mono eZ.o.size));clear hb;go_wp2_with fail;go_ret2;exact ⟨rfl,bn.o⟩
theorem FC (w:World) (i:aw) (hr:i.right) (A:Option Addr) (c:Nat) (hc:i.code.length≤c) (cu:bo i.code) (hs:Sl w w.heap.size 1 A i.code.length (aP i.code)) :
  Calls Tryz.prog 30 #[i.val A c] w fun e w'=>∃v,e=.returned (.tuple #[v,.int .i64 0])∧w'.ownsRow w.heap.size 5 1 v (49+i.code.length) (aP i.bytes)∧Below w.heap.size w w':=by
 have YP:i.code.length≤96:=by obtain ⟨_,_,_,_,_,_,_,h⟩:=hr;omega
 have hd:decide i.right=true:=by simpa using hr
 have ez:=aa (fun w=>ft w i A c (by omega));have HHD:=aa (fun w (hs:Sl w w.heap.size 1 A i.code.length (aP i.code))=>WV w i hr A c hc hs);have rN:=aa (sy i cu);have Lb:=aa (vg i);have J3:i.bytes=fy i.head:=rfl;generalize i.head=H at *;generalize i.bytes=BY at *;obtain ⟨part,version,aY,mem,fuel,aN,aB,code⟩:=i;rw [hd] at ez;simp only [aw.val] at *;have eZ:=aa ((Below.refl w.heap.size w).alloc (Nat.le_refl _) (.cells #[.int .i64 part,.int .i64 version,.int .i64 aY,.int .i64 mem,.int .i64 fuel,.int .i64 aN,.int .i64 aB,.slice A code.length c] 26));have gy:=aa (Row.new w 26 #[.int .i64 part,.int .i64 version,.int .i64 aY,.int .i64 mem,.int .i64 fuel,.int .i64 aN,.int .i64 aB,.slice A code.length c]);have HS:=aa hs;have kN:=aa J3;clear hr hd hs cu J3;go_enter Tryz.func30,Tryz.ntmps30;go_wp2_with fail;refine (ez.o _).mono ?_;rintro e w1 ⟨rfl,hb⟩;have bn:=aa (eZ.o.trans (hb.mono eZ.o.size));have iw:=aa (gy.o.below hb gy.o.lt);clear hb;have x0:w1.cell? ⟨w.heap.size,0,none⟩=some (.int .i64 part):=iw.o.cell 0;have x1:w1.cell? ⟨w.heap.size,1,none⟩=some (.int .i64 version):=iw.o.cell 1;have x2:w1.cell? ⟨w.heap.size,2,none⟩=some (.int .i64 aY):=iw.o.cell 2;have x3:w1.cell? ⟨w.heap.size,3,none⟩=some (.int .i64 mem):=iw.o.cell 3;have x4:w1.cell? ⟨w.heap.size,4,none⟩=some (.int .i64 fuel):=iw.o.cell 4;have x5:w1.cell? ⟨w.heap.size,5,none⟩=some (.int .i64 aN):=iw.o.cell 5;have x6:w1.cell? ⟨w.heap.size,6,none⟩=some (.int .i64 aB):=iw.o.cell 6;have x7:w1.cell? ⟨w.heap.size,7,none⟩=some (.slice A code.length c):=iw.o.cell 7;go_wp2_with fail;refine (HHD.o _ ((HS.o.below bn.o).more bn.o.size)).mono ?_;rintro e w2 ⟨v,rfl,ho,bN⟩;obtain ⟨A2,c2,rfl,AB,_⟩:=aH ho;have kG:=aa (ho.mono bn.o.size);have aO:=aa (bn.o.trans (bN.mono bn.o.size));have Uw:=aa (Sl.bz ho);clear ho bN x0 x1 x2 x3 x4 x5 x6 x7;go_wp2_with fail;refine (GZ w2 A2 H.length c2 H rfl (by rw [Lb.o];show 13+code.length≤_;omega) rN.o Uw.o).mono ?_;rintro e w3 ⟨g,rfl,vQ,mJ⟩;have ya:=aa (lj kG.o mJ);have bD:=aa (aO.o.trans (mJ.mono aO.o.size));have rS:=aa vQ;have hlH:H.length≤200:=by rw [Lb.o];show 13+code.length≤_;omega
 clear vQ mJ;go_upto_region 5 with (at_builtin;refine nK qW rfl (.tmp 10) (.tmp 12) rfl ya.o rfl rfl (fun h=>by cases h) rS.o (yn _) (by omega) (by unfold maxLen;omega) bD.o.size ?_;intro v4 w4 Co hg4 hl4;have Bf:=aa Co;have eV:=aa (iT bD.o ya.o hg4 bD.o.size);clear Co hg4 hl4)
 obtain ⟨A4,c4,rfl,Cs,_⟩:=aH Bf.o;have Vo:aP H++aP (gh H)=aP (H++gh H):=by simp [aP]
 have vW:=Bf.o;rw [Vo] at vW
 have hbj:bo (H++gh H):=fun z hz=>by
  rcases List.mem_append.1 hz with h|h
  ·exact rN.o z h
  ·exact fH.BR H z h
 have tS:(H++gh H).length=H.length+32:=by rw [gA,fH.qI]
 have abp:=aa (L1 w4 A4 (H.length+32) c4 (H++gh H) tS (by omega) hbj (Sl.bz vW));have CH:=aa vW;clear vW Vo hbj;go_wp2_with fail;refine abp.o.mono ?_;rintro e w6 ⟨v6,rfl,eU,tq⟩;obtain ⟨A6,c6,rfl,hc6,_⟩:=aH eU;have CG:=aa (lj CH.o tq);have qb:=aa (eV.o.trans (tq.mono eV.o.size));have vu:=aa (Sl.bz eU);have YZ:=xx eU;have abU:=aa YZ;clear eU tq YZ;go_wp2_with (at_builtin;refine nK qW rfl (.tmp 14) (.tmp 16) rfl CG.o rfl rfl abU.o vu.o (yn _) (by omega) (by unfold maxLen;omega) qb.o.size ?_;intro v7 w7 JS hg7 hl7;have E3:=aa JS;have wQ:=aa (iT qb.o CG.o hg7 qb.o.size);clear JS hg7 hl7);go_ret2;refine ⟨_,rfl,?_,wQ.o⟩;have h:=E3.o;rw [←List.map_append,show H.length+32+4=49+code.length by rw [Lb.o];show 13+code.length+32+4=_;omega] at h;rw [kN.o];exact h
end image
end Go.Proofs.YtdldkkoplgkloaaGreat
