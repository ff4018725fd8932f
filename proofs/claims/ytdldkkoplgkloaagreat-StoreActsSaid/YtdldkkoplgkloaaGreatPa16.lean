/- PROVED HERE: lemmas of the law. CONDITIONS: each names its own. -/
import Derived.BigQuiet
import Derived.Deep.QuietTactic
import Derived.Deep.Slices
import Derived.Lib.AppendZerosOnto
import Derived.Lib.SmallJoins
import Derived.ReadAgain
import Derived.Shelf.RegionOpen
import Derived.WideKeyArgs
import Derived.Test.YtdldkkoplgkloaaGreatPa0
import Derived.Test.YtdldkkoplgkloaaGreatPa1
import Derived.Test.YtdldkkoplgkloaaGreatPa2
import Derived.Test.YtdldkkoplgkloaaGreatPa3
import Derived.Test.YtdldkkoplgkloaaGreatPa10
namespace Go.Proofs.YtdldkkoplgkloaaGreat
set_option linter.unusedVariables false
set_option linter.unusedSimpArgs false
set_option maxRecDepth 100000
set_option maxHeartbeats 32000000
open Go.Value renaming int → ae
open Go.IntKind renaming i64 → aa
namespace record
open Go.RowKit base obj mem
structure Rec where
 part:Int
 seq:Int
 au:Int
 aj:Int
 left:Int
 bad:Int
deriving DecidableEq
def Rec.cells (r:Rec):Array Value:=#[ae aa r.part,ae aa r.seq,ae aa r.au,ae aa r.aj,ae aa r.left,ae aa r.bad]
def Rec.val (r:Rec):Value:=.agg r.cells
def kZ (n i:Int):Bool:=decide (n / 2 ^ i.toNat % 2=0)
def Rec.right (r:Rec):Bool :=
 decide (0≤r.part∧r.part≤3)&&decide (1≤r.seq∧r.seq≤4294967295)&&decide (0≤r.au∧r.au≤1)&&decide (0≤r.aj∧r.aj≤1)&&decide (0≤r.left∧r.left≤7)
  && (decide (r.left=0)||!decide (r.au=r.aj))&&decide (0≤r.bad∧r.bad≤3)&&(kZ r.bad r.au&&kZ r.bad r.aj)
theorem Qy (a lo hi:Int) (w:World):Calls Tryz.prog 176 #[ae aa a,ae aa lo,ae aa hi] w fun e w'=>e=.returned (.bool (decide (lo≤a∧a≤hi)))∧w'=w:=by
 by_cases h1:lo≤a
 ·by_cases h2:a≤hi
  ·have e:decide (lo≤a∧a≤hi)=true:=by simp [h1,h2]
   rw [e];go_enter Tryz.func176,Tryz.ntmps176;go_wp2_with fail;go_ret;exact ⟨rfl,rfl⟩
  ·have e:decide (lo≤a∧a≤hi)=false:=by simp [h2]
   rw [e];go_enter Tryz.func176,Tryz.ntmps176;go_wp2_with fail;go_ret;exact ⟨rfl,rfl⟩
 ·have e:decide (lo≤a∧a≤hi)=false:=by simp [h1]
  rw [e];go_enter Tryz.func176,Tryz.ntmps176;go_wp2_with fail;go_ret;exact ⟨rfl,rfl⟩
theorem aS (a lo hi:Int) (w:World) (b:Bool) (h:decide (lo≤a∧a≤hi)=b):Calls Tryz.prog 176 #[ae aa a,ae aa lo,ae aa hi] w fun e w'=>e=.returned (.bool b)∧w'=w:=by
 subst h;exact Qy a lo hi w
theorem ND (bad a c:Int) (ha:0≤a∧a≤1) (hc:0≤c∧c≤1) (hb:0≤bad∧bad≤3):bits .and .i64 bad (bits .or .i64 (wrap64 (2 ^ a.toNat)) (wrap64 (2 ^ c.toNat)))=0 ↔ (kZ bad a&&kZ bad c)=true:=by
 have h1:a=0∨a=1:=by omega
 have h2:c=0∨c=1:=by omega
 have h3:bad=0∨bad=1∨bad=2∨bad=3:=by omega
 rcases h1 with rfl|rfl<;>rcases h2 with rfl|rfl<;>rcases h3 with rfl|rfl|rfl|rfl<;>decide +kernel
theorem fR (r:Rec) (w:World):Calls Tryz.prog 133 #[r.val] w fun e w'=>e=.returned (.bool r.right)∧Below w.heap.size w w':=by
 obtain ⟨part,seq,au,aj,left,bad⟩:=r;unfold Rec.val Rec.cells
 have HD:=af (show Rec.right ⟨part,seq,au,aj,left,bad⟩=(decide (0≤part∧part≤3)&&decide (1≤seq∧seq≤4294967295)&&decide (0≤au∧au≤1)&&decide (0≤aj∧aj≤1)&&decide (0≤left∧left≤7)
  && (decide (left=0)||!decide (au=aj))&&decide (0≤bad∧bad≤3)&&(kZ bad au&&kZ bad aj)) from rfl)
 have HB:=af (fun o=>(Below.refl w.heap.size w).alloc (Nat.le_refl _) o);cases k1:decide (0≤part∧part≤3) with
 | false =>
   have K1:=af k1;clear k1;have HR:=af (show false=Rec.right ⟨part,seq,au,aj,left,bad⟩ from by rw [HD.o,K1.o];simp);go_enter Tryz.func133,Tryz.ntmps133;go_wp2_with fail;go_big_quiet (first|exact Calls.quiet_of_same (aS _ _ _ _ _ K1.o));go_wp2_with fail;go_ret;exact ⟨aA HR.o,below_drewN (HB.o _) _⟩
 | true =>
   have K1:=af k1;clear k1;cases k2:decide (1≤seq∧seq≤4294967295) with
   | false =>
     have K2:=af k2;clear k2;have HR:=af (show false=Rec.right ⟨part,seq,au,aj,left,bad⟩ from by rw [HD.o,K1.o,K2.o];simp);go_enter Tryz.func133,Tryz.ntmps133;go_wp2_with fail;go_big_quiet (first|exact Calls.quiet_of_same (aS _ _ _ _ _ K1.o)|exact Calls.quiet_of_same (aS _ _ _ _ _ K2.o));go_wp2_with fail;go_ret;exact ⟨aA HR.o,below_drewN (HB.o _) _⟩
   | true =>
     have K2:=af k2;clear k2;cases k3:decide (0≤au∧au≤1) with
     | false =>
       have K3:=af k3;clear k3;have HR:=af (show false=Rec.right ⟨part,seq,au,aj,left,bad⟩ from by rw [HD.o,K1.o,K2.o,K3.o];simp);go_enter Tryz.func133,Tryz.ntmps133;go_wp2_with fail;go_big_quiet (first|exact Calls.quiet_of_same (aS _ _ _ _ _ K1.o)|exact Calls.quiet_of_same (aS _ _ _ _ _ K2.o)|exact Calls.quiet_of_same (aS _ _ _ _ _ K3.o));go_wp2_with fail;go_ret;exact ⟨aA HR.o,below_drewN (HB.o _) _⟩
     | true =>
       have K3:=af k3;clear k3;cases k4:decide (0≤aj∧aj≤1) with
       | false =>
         have K4:=af k4;clear k4;have HR:=af (show false=Rec.right ⟨part,seq,au,aj,left,bad⟩ from by rw [HD.o,K1.o,K2.o,K3.o,K4.o];simp);go_enter Tryz.func133,Tryz.ntmps133;go_wp2_with fail;go_big_quiet (first|exact Calls.quiet_of_same (aS _ _ _ _ _ K1.o)|exact Calls.quiet_of_same (aS _ _ _ _ _ K2.o)|exact Calls.quiet_of_same (aS _ _ _ _ _ K3.o)|exact Calls.quiet_of_same (aS _ _ _ _ _ K4.o));go_wp2_with fail;go_ret;exact ⟨aA HR.o,below_drewN (HB.o _) _⟩
       | true =>
         have K4:=af k4;clear k4;cases k5:decide (0≤left∧left≤7) with
         | false =>
           have K5:=af k5;clear k5;have HR:=af (show false=Rec.right ⟨part,seq,au,aj,left,bad⟩ from by rw [HD.o,K1.o,K2.o,K3.o,K4.o,K5.o];simp);go_enter Tryz.func133,Tryz.ntmps133;go_wp2_with fail;go_big_quiet (first|exact Calls.quiet_of_same (aS _ _ _ _ _ K1.o)|exact Calls.quiet_of_same (aS _ _ _ _ _ K2.o)|exact Calls.quiet_of_same (aS _ _ _ _ _ K3.o)|exact Calls.quiet_of_same (aS _ _ _ _ _ K4.o)|exact Calls.quiet_of_same (aS _ _ _ _ _ K5.o));go_wp2_with fail;go_ret;exact ⟨aA HR.o,below_drewN (HB.o _) _⟩
         | true =>
           have K5:=af k5;clear k5;by_cases l0:left=0
           ·have t1:(left==0)=true:=by simp [l0]
            have L0:=af (show (decide (left=0)||!decide (au=aj))=true from by simp [l0]);clear l0;cases k6:decide (0≤bad∧bad≤3) with
            | false =>
              have K6:=af k6;clear k6;have HR:=af (show false=Rec.right ⟨part,seq,au,aj,left,bad⟩ from by rw [HD.o,K1.o,K2.o,K3.o,K4.o,K5.o,L0.o,K6.o];simp);go_enter Tryz.func133,Tryz.ntmps133;go_wp2_with fail;go_big_quiet (first|exact Calls.quiet_of_same (aS _ _ _ _ _ K1.o)|exact Calls.quiet_of_same (aS _ _ _ _ _ K2.o)|exact Calls.quiet_of_same (aS _ _ _ _ _ K3.o)|exact Calls.quiet_of_same (aS _ _ _ _ _ K4.o)|exact Calls.quiet_of_same (aS _ _ _ _ _ K5.o)|exact Calls.quiet_of_same (aS _ _ _ _ _ K6.o));go_wp2_with fail;go_ret;exact ⟨aA HR.o,below_drewN (HB.o _) _⟩
            | true =>
              have K6:=af k6;clear k6;have HT:=af (show bits .and .i64 bad (bits .or .i64 (wrap64 (2 ^ au.toNat)) (wrap64 (2 ^ aj.toNat)))=0 ↔ (kZ bad au&&kZ bad aj)=true from ND bad au aj (by simpa using K3.o) (by simpa using K4.o) (by simpa using K6.o));have a0:0≤au:=(show 0≤au∧au≤1 by simpa using K3.o).1;have a1:au≤1:=(show 0≤au∧au≤1 by simpa using K3.o).2;have c0:0≤aj:=(show 0≤aj∧aj≤1 by simpa using K4.o).1;have c1:aj≤1:=(show 0≤aj∧aj≤1 by simpa using K4.o).2;go_enter Tryz.func133,Tryz.ntmps133;go_wp2_with fail;go_big_quiet (first|exact Calls.quiet_of_same (aS _ _ _ _ _ K1.o)|exact Calls.quiet_of_same (aS _ _ _ _ _ K2.o)|exact Calls.quiet_of_same (aS _ _ _ _ _ K3.o)|exact Calls.quiet_of_same (aS _ _ _ _ _ K4.o)|exact Calls.quiet_of_same (aS _ _ _ _ _ K5.o)|exact Calls.quiet_of_same (aS _ _ _ _ _ K6.o));go_wp2_with fail;go_ret;exact ⟨aA (by rw [HD.o,K1.o,K2.o,K3.o,K4.o,K5.o,L0.o,K6.o];simp only [Bool.true_and];exact Bool.eq_iff_iff.2 (by rw [beq_iff_eq];exact HT.o)),below_drewN (HB.o _) _⟩
           ·have t1:(left==0)=false:=by simp [l0]
            by_cases ac:au=aj
            ·have t2:(au != aj)=false:=by simp [ac]
             have L0:=af (show (decide (left=0)||!decide (au=aj))=false from by simp [l0,ac]);have AC:=af ac;clear l0 ac;have HR:=af (show false=Rec.right ⟨part,seq,au,aj,left,bad⟩ from by rw [HD.o,K1.o,K2.o,K3.o,K4.o,K5.o,L0.o];simp);go_enter Tryz.func133,Tryz.ntmps133;go_wp2_with fail;go_big_quiet (first|exact Calls.quiet_of_same (aS _ _ _ _ _ K1.o)|exact Calls.quiet_of_same (aS _ _ _ _ _ K2.o)|exact Calls.quiet_of_same (aS _ _ _ _ _ K3.o)|exact Calls.quiet_of_same (aS _ _ _ _ _ K4.o)|exact Calls.quiet_of_same (aS _ _ _ _ _ K5.o));go_wp2_with fail;go_ret;exact ⟨aA HR.o,below_drewN (HB.o _) _⟩
            ·have t2:(au != aj)=true:=by simp [ac]
             have L0:=af (show (decide (left=0)||!decide (au=aj))=true from by simp [ac]);clear l0 ac;cases k6:decide (0≤bad∧bad≤3) with
             | false =>
               have K6:=af k6;clear k6;have HR:=af (show false=Rec.right ⟨part,seq,au,aj,left,bad⟩ from by rw [HD.o,K1.o,K2.o,K3.o,K4.o,K5.o,L0.o,K6.o];simp);go_enter Tryz.func133,Tryz.ntmps133;go_wp2_with fail;go_big_quiet (first|exact Calls.quiet_of_same (aS _ _ _ _ _ K1.o)|exact Calls.quiet_of_same (aS _ _ _ _ _ K2.o)|exact Calls.quiet_of_same (aS _ _ _ _ _ K3.o)|exact Calls.quiet_of_same (aS _ _ _ _ _ K4.o)|exact Calls.quiet_of_same (aS _ _ _ _ _ K5.o)|exact Calls.quiet_of_same (aS _ _ _ _ _ K6.o));go_wp2_with fail;go_ret;exact ⟨aA HR.o,below_drewN (HB.o _) _⟩
             | true =>
               have K6:=af k6;clear k6;have HT:=af (show bits .and .i64 bad (bits .or .i64 (wrap64 (2 ^ au.toNat)) (wrap64 (2 ^ aj.toNat)))=0 ↔ (kZ bad au&&kZ bad aj)=true from ND bad au aj (by simpa using K3.o) (by simpa using K4.o) (by simpa using K6.o));have a0:0≤au:=(show 0≤au∧au≤1 by simpa using K3.o).1;have a1:au≤1:=(show 0≤au∧au≤1 by simpa using K3.o).2;have c0:0≤aj:=(show 0≤aj∧aj≤1 by simpa using K4.o).1;have c1:aj≤1:=(show 0≤aj∧aj≤1 by simpa using K4.o).2;go_enter Tryz.func133,Tryz.ntmps133;go_wp2_with fail;go_big_quiet (first|exact Calls.quiet_of_same (aS _ _ _ _ _ K1.o)|exact Calls.quiet_of_same (aS _ _ _ _ _ K2.o)|exact Calls.quiet_of_same (aS _ _ _ _ _ K3.o)|exact Calls.quiet_of_same (aS _ _ _ _ _ K4.o)|exact Calls.quiet_of_same (aS _ _ _ _ _ K5.o)|exact Calls.quiet_of_same (aS _ _ _ _ _ K6.o));go_wp2_with fail;go_ret;exact ⟨aA (by rw [HD.o,K1.o,K2.o,K3.o,K4.o,K5.o,L0.o,K6.o];simp only [Bool.true_and];exact Bool.eq_iff_iff.2 (by rw [beq_iff_eq];exact HT.o)),below_drewN (HB.o _) _⟩
end record
namespace bytes
open Go.RowKit base obj mem
section
variable {P:Program}
theorem uA (z:Value) (m:Nat):Builtin.zeroCells #[z] m=(List.replicate m z).toArray:=by
 apply Array.ext
 ·simp [Builtin.zeroCells]
 ·intro i h1 h2;simp [Builtin.zeroCells,Nat.mod_one]
theorem Gy (w:World) (t tn ty e:TypeId) (i:TypeInfo) (z:Value) (kq kn:IntKind) (ht:P.underlying t=some (.slice e)) (htn:P.underlying tn=some (.int kn)) (hi:P.info? e=some i) (hz:i.zero=some z) (j8:i.size=1) (Si:z.cells=#[z]) (h1:z.oneCell'=true)
  (g qW zI:Nat) (cur:Array Value) (hg:w.heap[g]?=some (.cells cur e (0,0))) (k:Nat) (h0:0 < k) (rP:k≤1000000) (cG:i.bytes=1) (gH:qW+k≤zI) (oq:qW+k≤cur.size) :
  (Builtin.append_ #[t,tn] ty #[.slice (some ⟨g,0,none⟩) qW zI,.int kq k]).run P w =
   .ok (.slice (some ⟨g,0,none⟩) (qW+k) zI) (w.setRow g (cur.toList.take qW++List.replicate k z++cur.toList.drop (qW+k)).toArray):=by
 have ak:=run_storeCells_at P g qW e (List.replicate k z) 0 cur w hg (by simpa using oq) (fun v hv=>by rw [List.eq_of_mem_replicate hv];exact h1);simp only [Nat.add_zero,Bf] at ak;have hk:k≠0:=by omega
 have hw:IntKind.i64.wrap (k:Int)=k:=by rw [IntKind.wrap_i64];omega
 have uI:¬((k:Int) < 0):=by omega
 have hns:¬(k*i.size=0):=by rw [j8];omega
 simp [Builtin.append_,run_underlying ht,run_underlying htn,sizeOf,typeInfo,zeroValue,hi,hz,asInt,asIntOf,hw,uI,gH,j8,hk,Si,uA,Addr.add_lit,ak,cG];omega
theorem JO (w:World) (base:Nat) (t tn ty e:TypeId) (i:TypeInfo) (z:Value) (kq kn:IntKind) (ht:P.underlying t=some (.slice e)) (htn:P.underlying tn=some (.int kn)) (hi:P.info? e=some i) (hz:i.zero=some z) (j8:i.size=1) (Si:z.cells=#[z]) (h1:z.oneCell'=true) (cG:i.bytes=1)
  (v:Value) (n:Nat) (xs:List Value) (ft:w.ownsRow base e 1 v n xs) (k:Nat) (h0:0 < k) (hn:0 < n) (rP:n+k≤1000000) (pj:base≤w.heap.size) :
  ∃v' w',(Builtin.append_ #[t,tn] ty #[v,.int kq k]).run P w=.ok v' w'∧w'.ownsRow base e 1 v' (n+k) (xs++List.replicate k z)∧w.grownBy w' v.ownBlock:=by
 have hmx:(1000000:Nat)≤maxLen:=by decide
 have hlen:(xs++List.replicate k z).length=(n+k)*1:=by rw [gC,ft.1,Bf];omega
 rcases ft.2 with ⟨rfl,rfl⟩|⟨g,cap,cur,rfl,IK,hg,xL,uk,cY,WW⟩
 ·omega
 ·by_cases gH:n+k≤cap
  ·have hr:=Gy (P:=P) w t tn ty e i z kq kn ht htn hi hz j8 Si h1 g n cap cur hg k h0 (by omega) cG gH (by omega);refine ⟨_,_,hr,⟨hlen,.inr ⟨g,cap,_,rfl,IK,setRow_heap w g cur _ e _ hg,gH,uk,?_,?_⟩⟩,⟨rfl,rfl,rfl,by simp,fun k _ hk=>setRow_other w g k _ (fun e=>hk (by simp [Value.ownBlock,e]))⟩⟩
   ·simp only [List.size_toArray,gC,fW,List.length_drop,Array.length_toList,Bf];omega
   ·rw [Nat.mul_one] at WW;rw [WW,←hlen];exact List.take_left
  ·have holds:∀j u,xs[j]?=some u→w.cell? ((⟨g,0,none⟩:Addr).add j)=some u:=ft.cells (g:=g) rfl;have hfc:=run_firstCells_some (P:=P) w.drew i.size n ⟨g,0,none⟩ n cap xs (by rw [j8];exact ft.1) holds
   have hns:Builtin.nextslicecap (n+k) cap*i.bytes≤281474976710656:=by
    rw [cG];have:=nextslicecap_le (need:=n+k) (old:=cap) (by omega);omega
   have hr:=Lib.run_append_grow_zeros (P:=P) w t tn ty e i z kq kn ht htn hi hz (some ⟨g,0,none⟩) n cap xs hfc k h0 (by omega) (by omega) (by omega) (by rw [cG];omega) hns;have AQ:=grownCap_ge w (n+k) cap e;have acK:grownCap w (n+k) cap e≤maxLen:=grownCap_le_maxLen w (n+k) cap e (by omega);rw [Si,uA,uA] at hr;refine ⟨_,_,hr,⟨hlen,.inr ⟨w.heap.size,_,_,rfl,pj,heap_alloc_new w.drew _,AQ,acK,?_,?_⟩⟩,⟨rfl,rfl,rfl,by simp,fun j hj _=>Below.heap_alloc w.drew _ j hj⟩⟩
   ·have h:=ft.1;simp only [Array.size_append,List.size_toArray,Bf];omega
   ·simp only [Array.toList_append,List.append_assoc];rw [←List.append_assoc,←hlen];exact List.take_left
theorem TF {ops:Array Oper} {rest:List Oper} {o:Oper} {a:Act} {Q:Exit→Act→World→Prop} {w:World} (eP:o.guard=none) (s x:Operand)
  (ho:o.op=.call { callee:=.builtin .append,args:=#[s,x],argTypes:=#[24,3] })
  {base:Nat} {v:Value} {n:Nat} {xs:List Value} (ft:w.ownsRow base 5 1 v n xs) (hs:a.eval s=v) {k:Nat} (hx:a.eval x=ae aa k) (h0:0 < k) (hn:0 < n) (rP:n+k≤1000000) (pj:base≤w.heap.size)
  (h:∀v' w',w'.ownsRow base 5 1 v' (n+k) (xs++List.replicate k (.int .u8 0))→w.grownBy w' v.ownBlock→wpList Tryz.prog ops Q rest (a.put o.dst v') w') :
  wpList Tryz.prog ops Q (o::rest) a w:=by
 obtain ⟨i0,hi,kJ,ny,gm⟩:=info_parts PD;obtain ⟨v',w',hr,h2,h3⟩:=JO (P:=Tryz.prog) w base 24 3 o.type 5 i0 (.int .u8 0) .i64 .i64 Tryz.underlying24 Tryz.underlying3 hi kJ ny rfl rfl gm v n xs ft k h0 hn rP pj;exact Lib.wpList_append_run w eP s x 24 3 ho v (ae aa k) hs hx v' w' hr (h v' w' h2 h3)
end
end bytes
namespace lift
open Go.RowKit Go.ChangeShapes Go.WideShapes Go.Deep base
section
variable {e:TypeId} {W:World}
theorem own:ownKnob Tryz.prog.godebug=none:=by kernel_rfl
theorem laidOut:laidOutB Tryz.prog=true:=by kernel_rfl
section
variable {H : Type} {enc : TypeId × Value → H} {P : Program}
theorem Js (hl:laidOutB P=true) {W W':World} (hb:Below W.heap.size W W') {sp:Nat→Bool}:∀(ts:List TypeId) (vs:List Value) (ds:List (DataW H)) (ps:List MemPlace),
  (ts.all fun t=>P.readableRec t&&decide (t < P.types.size))=true→DataW.TrodAll enc P W 0 (fun _=>true) true ts vs ds ps→(∀p∈ps,p.block < W.heap.size)→(∀p∈ps,sp p.block=true)→
  DataW.TrodAll enc P W' 0 sp true ts vs ds ps
 | [],vs,ds,ps,_,h,_,_=>by
   obtain ⟨rfl,rfl,rfl⟩:=trodAll_nil h;exact trodAll_mk0
 | t::ts,vs,ds,ps,hr,h,aH,wI=>by
   obtain ⟨v,Hr,d,ds',p,q,rfl,rfl,rfl,h0,h1⟩:=trodAll_cons h;simp only [List.all_cons,Bool.and_eq_true,decide_eq_true_eq] at hr;refine trodAll_cons_mk (WideElems.Trod_stays hl hr.1.1 hr.1.2 h0 (fun x hx=>hb.same (aH x (by simp [hx]))) (fun x hx=>wI x (by simp [hx]))) ?_;exact Js hl hb ts Hr ds' q (by simpa using hr.2) h1 (fun x hx=>aH x (by simp [hx])) (fun x hx=>wI x (by simp [hx]))
theorem tF {α:Type} (q:Nat→List α) (s:Nat) (hs:0 < s):∀(n:Nat),(∀i,i < n→(q i).length=s)→((List.range n).flatMap q).length=n*s∧∀i j,i < n→j < s→((List.range n).flatMap q)[i*s+j]?=(q i)[j]?
 | 0,_=>⟨by simp,fun i j hi=>absurd hi (by omega)⟩
 | n+1,h=>by
   obtain ⟨h1,h2⟩:=tF q s hs n (fun i hi=>h i (by omega));have e:(List.range (n+1)).flatMap q=(List.range n).flatMap q++q n:=by rw [List.range_succ,List.flatMap_append];simp
   have hm:n*s+s=(n+1)*s:=by rw [Nat.add_mul,Nat.one_mul]
   refine ⟨by rw [e,gC,h1,h n (by omega)];exact hm,fun i j hi hj=>?_⟩;rw [e];by_cases eE:i < n
   ·have:i*s+j < n*s:=by
     have:(i+1)*s≤n*s:=Nat.mul_le_mul_right s eE;rw [Nat.add_mul,Nat.one_mul] at this;omega
    rw [List.getElem?_append_left (by omega),h2 i j eE hj]
   ·have hi':i=n:=by omega
    subst hi';rw [List.getElem?_append_right (by omega),h1]
    congr 1
    omega
theorem Mi (a:Addr) (i j:Nat):(a.add i).add j=a.add (i+j):=by
 unfold Addr.add;by_cases hi:i=0<;>by_cases hj:j=0<;>simp [hi,hj,Nat.add_assoc]
theorem Zc {r:Reach} {b0:Nat} {t s:TypeId} {v:Value} {d:DataW H} {ps:List MemPlace} (ht:P.underlying t=some (.slice e)) (hc:P.cellsOf e=s) (hs:0 < s)
  (hval:Value.okWide P W r b0 t v) (h:DataW.Trod enc P W 0 (fun _=>true) true t v d ps) :
  ∃(A:Option Addr) (n c:Nat) (q:Nat→List Value),v=.slice A n c∧n≤maxLen∧Sl W W.heap.size s A n ((List.range n).flatMap q)∧
   ∀i,i < n→(q i).length=s∧∃m x,DataW.trod enc P W 0 (fun _=>true) true m e (q i)=some x:=by
 obtain ⟨a0,len,cap,rfl⟩:=okWide_slice ht hval;obtain ⟨fuel,hf⟩:=h;rcases open_slice ht hf with ⟨cY,_⟩|⟨a,adO,aec,m,k,D,Pl,cY,_,hl,hm,AH,_,hx⟩
 ·simp [Value.cells] at cY;obtain ⟨rfl,rfl,rfl⟩:=cY;exact ⟨none,0,0,fun _=>[],rfl,by simp [maxLen],⟨by simp,fun h=>absurd h (by omega)⟩,fun i hi=>absurd hi (by omega)⟩
 ·simp [Value.cells] at cY;obtain ⟨rfl,rfl,rfl⟩:=cY;simp only [if_true] at AH;subst AH;rw [hc] at hx;obtain ⟨q,hq⟩:=choose_lt hx
  have hlen:∀i,i < len→(q i).length=s∧∀j,j < s→W.cell? (a.add (i*s+j))=(q i)[j]?:=by
   intro i hi;obtain ⟨_,h1,h2⟩:=World.cells?_some (hq i (by omega)).1;exact ⟨h1,fun j hj=>by rw [←h2 j hj,Mi]⟩
  obtain ⟨f1,f2⟩:=tF q s hs len (fun i hi=>(hlen i hi).1);have DB:len≤maxLen:=Nat.le_trans hl hm;have bQ:∀i,i < len→(q i).length=s∧∃m x,DataW.trod enc P W 0 (fun _=>true) true m e (q i)=some x:=fun i hi=>⟨(hlen i hi).1,k,_,(hq i (Nat.lt_of_lt_of_le hi hl)).2⟩
  refine ⟨some a,len,_,q,rfl,DB,⟨f1,fun hn=>?_⟩,bQ⟩;have cell0:=(hlen 0 (by omega)).2 0 hs;have S7:=(hlen 0 (by omega)).1;obtain ⟨b,off,spot⟩:=a;have FC:W.cell? ((⟨b,off,spot⟩:Addr).add (0*s+0))=some ((q 0)[0]'(by rw [S7];exact hs)):=by rw [cell0];exact cN (by rw [S7];exact hs)
  have PJ:spot=none:=by simpa [Addr.add] using World.cell?_spot FC
  subst PJ;have Ad:∀k,(⟨b,off,none⟩:Addr).add k=⟨b,off+k,none⟩:=fun k=>by unfold Addr.add;split<;>simp_all
  refine ⟨b,off,rfl,?_,fun k u hu=>?_⟩
  ·have:=World.block_lt_of_cell? W _ FC;rw [Ad] at this;exact this
  ·have hk:k < len*s:=by
    have:=(List.getElem?_eq_some_iff.1 hu).1;omega
   have hi:k / s < len:=Nat.div_lt_of_lt_mul (by rw [Nat.mul_comm];exact hk);have hj:k % s < s:=Nat.mod_lt _ hs;have dy:k / s*s+k % s=k:=by rw [Nat.mul_comm];exact Nat.div_add_mod k s
   have g:=f2 (k / s) (k % s) hi hj;rw [dy] at g;have c:=(hlen (k / s) hi).2 (k % s) hj;rw [dy,Ad] at c;rw [c,←g];exact hu
theorem Pf {fs:Array Field} {cs:List Value} {m:Nat} {x:DataW H×List MemPlace} (he:P.underlying e=some (.struct fs)) (GV:oneCellFields P fs=true) (hl:cs.length=fs.size)
  (h:DataW.trod enc P W 0 (fun _=>true) true m e cs=some x):∀(j:Nat) (f:Field),fs[j]?=some f→∃(v:Value) (k:Nat) (y:DataW H×List MemPlace),cs[j]?=some v∧DataW.trod enc P W 0 (fun _=>true) true k f.type [v]=some y:=by
 obtain ⟨ys,n',wM,hy,hlen,sB,hf⟩:=DataW.trod_struct he h;intro j f hj;obtain ⟨ho,hk⟩:=hone_of GV j f hj;have jz:j < fs.size:=(Array.getElem?_eq_some_iff.1 hj).1;have h1:=hf j f hj;rw [ho,hk] at h1;have SB:j < cs.length:=by rw [hl];exact jz
 have abN:(cs.drop j).take 1=[cs[j]]:=by
  rw [List.drop_eq_getElem_cons SB];rfl
 rw [abN] at h1;have sA:ys[j]?=some (ys[j]'(by rw [sB];exact jz)):=cN _;exact ⟨_,n',_,cN SB,h1.trans sA⟩
end
end
end lift
namespace record
open Go.RowKit base obj mem bC num bytes aW
section
variable {xs:List Value} {n size:Nat} {e:TypeId} {v:Value} {w:World}
def kC (R:Nat) (ks:List Nat):List Value:=(List.range ks.length).flatMap fun i=>[.pointer (some ⟨R,i,none⟩),ae aa (ks.getD i 0:Nat)]
theorem B6 (w:World) (R:Nat):Calls Tryz.prog 135 #[.pointer (some ⟨R,0,none⟩)] w fun e w'=>∃F,e=.returned (.slice (some ⟨F,0,none⟩) 6 6)∧w.heap.size≤F∧Row w' F 251 (kC R [1,4,1,1,1,1])∧Below w.heap.size w w':=by
 go_enter Tryz.func135,Tryz.ntmps135;go_wp2_with fail
 go_region
 go_wp2_with fail;go_ret;exact ⟨w.heap.size,rfl,Nat.le_refl _,(Row.new w _ _).drew,((Below.refl w.heap.size w).alloc (Nat.le_refl _) _).drew⟩
theorem Vg {base:Nat} (h:w.ownsRow base e size v n xs):w.drew.ownsRow base e size v n xs:=h
theorem zO {B B':Nat} (h:w.ownsRow B e size v n xs) (hb:B'≤B):w.ownsRow B' e size v n xs:=by
 obtain ⟨h1,h2⟩:=h;refine ⟨h1,?_⟩;rcases h2 with hz|⟨g,cap,cur,rfl,hg,rest⟩
 ·exact .inl hz
 ·exact .inr ⟨g,cap,cur,rfl,Nat.le_trans hb hg,rest⟩
def pre (mark:Nat) (ks vs:List Nat) (j:Nat):List Int:=be 2 mark++(List.range j).flatMap fun i=>be (ks.getD i 0) (vs.getD i 0)
theorem tu (mark:Nat) (ks vs:List Nat) (j:Nat):pre mark ks vs (j+1)=pre mark ks vs j++be (ks.getD j 0) (vs.getD j 0):=by
 unfold pre;rw [List.range_succ,List.flatMap_append,List.append_assoc];simp
theorem GF (mark:Nat) (ks vs:List Nat) (j:Nat):bn (pre mark ks vs j):=by
 intro z hz;rcases List.mem_append.1 hz with h|h
 ·exact qO _ _ z h
 ·obtain ⟨i,_,h⟩:=List.mem_flatMap.1 h;exact qO _ _ z h
theorem KI (mark:Nat) (ks vs:List Nat) (j m:Nat) (h:j≤m):(pre mark ks vs j).length≤(pre mark ks vs m).length:=by
 induction m with
 | zero=>have:j=0:=by omega
         subst this;exact Nat.le_refl _
 | succ m ih =>
   rcases Nat.lt_or_ge j (m+1) with h'|h'
   ·rw [tu,gC];have:=ih (by omega);omega
   ·have:j=m+1:=by omega
    subst this;exact Nat.le_refl _
def jY (p:List Int):List Int:=p++be 4 (sum p)++List.replicate (60-p.length) 0
theorem zj (R:Nat) (ks:List Nat) (k:Nat) (hk:k < ks.length):(kC R ks)[k*2]?=some (.pointer (some ⟨R,k,none⟩))∧(kC R ks)[k*2+1]?=some (ae aa (ks.getD k 0:Nat)):=by
 have h:=lift.tF (fun i=>[Value.pointer (some ⟨R,i,none⟩),ae aa (ks.getD i 0:Nat)]) 2 (by decide) ks.length (fun i _=>rfl);exact ⟨h.2 k 0 hk (by decide),h.2 k 1 hk (by decide)⟩
structure Fl (w:World) (R F:Nat) (T:TypeId) (ks vs:List Nat):Prop where
 row:Row w F T (kC R ks)
 cell:∀i,i < ks.length→w.cell? ⟨R,i,none⟩=some (ae aa (vs.getD i 0:Nat))
 wide:∀i,i < ks.length→1≤ks.getD i 0∧ks.getD i 0≤6∧vs.getD i 0 < 256 ^ ks.getD i 0
theorem Fl.lt {w:World} {R F:Nat} {T:TypeId} {ks vs:List Nat} (h:Fl w R F T ks vs) (h0:0 < ks.length):R < w.heap.size∧F < w.heap.size:=⟨World.block_lt_of_cell? w _ (h.cell 0 h0),h.row.lt⟩
theorem Fl.below {w w':World} {R F:Nat} {T:TypeId} {ks vs:List Nat} (h:Fl w R F T ks vs) (k:Below w.heap.size w w'):Fl w' R F T ks vs:=⟨h.row.below k h.row.lt,fun i hi=>mq k (h.cell i hi),h.wide⟩
theorem Hz (w:World) (R F:Nat) (T:TypeId) (ks vs:List Nat) (n:Nat) (hn:ks.length=n) (h0:0 < n) (hF:Fl w R F T ks vs) (mark:Nat) (hm:mark < 65536) (hl:(pre mark ks vs n).length≤59) :
  Calls Tryz.prog 134 #[ae aa mark,.slice (some ⟨F,0,none⟩) n n] w fun e w'=>∃v,e=.returned v∧w'.ownsRow w.heap.size 5 1 v 64 ((jY (pre mark ks vs n)).map (.int .u8))∧Below w.heap.size w w':=by
 have HP:=af (jw w none 0 0 [] (Sl.GL w _ _) (by simp) (by omega) mark 2 (by omega) (by omega) hm);have HF:=af hF;have HN:=af hn;have HL:=af hl;clear hF hn hl
 have acA:n≤60:=by
  have h1:∀j,j≤n→j≤(pre mark ks vs j).length:=by
   intro j
   induction j with
   | zero=>intro _;exact Nat.zero_le _
   | succ j ih =>
     intro hj;rw [tu,gC,bp];have h2:=(HF.o.wide j (by rw [HN.o];omega)).1;have:=ih (by omega);omega
  have h3:=h1 n (Nat.le_refl _);have:=HL.o;omega
 go_enter Tryz.func134,Tryz.ntmps134;go_wp2_with fail;refine HP.o.mono ?_;rintro e w1 ⟨v,rfl,ho,hb⟩;have HO:=af (show w1.ownsRow w.heap.size 5 1 v (pre mark ks vs 0).length ((pre mark ks vs 0).map (.int .u8)) by simpa [pre,bp] using ho);have HB:=af hb;clear ho hb HP;go_wp2_with fail;go_loopw [12,5] (fun i v wr=>∃k:Nat,k≤n∧i=ae aa k∧wr.ownsRow w.heap.size 5 1 v (pre mark ks vs k).length ((pre mark ks vs k).map (.int .u8))∧Below w.heap.size w wr) (fun i _ _=>n-(intOf i).toNat)
 case atStart=>exact ⟨0,by omega,rfl,HO.o,HB.o⟩
 case round =>
  clear HO HB;obtain ⟨k,hk,rfl,ho,hb⟩:=hrel;have HO:=af ho;have HB:=af hb;clear ho hb;by_cases aH:k < n
  ·have iG:k < ks.length:=by rw [HN.o];exact aH
   obtain ⟨g1,g2⟩:=zj R ks k iG;have Oh:=HF.o.below HB.o;have c1:=(Oh.row.cell (k*2)).trans g1;have c2:=(Oh.row.cell (k*2+1)).trans g2;have c3:=Oh.cell k iG;obtain ⟨k1,k6,kv⟩:=HF.o.wide k iG;have OA:=af (tu mark ks vs k);have iQ:(pre mark ks vs (k+1)).length≤59:=Nat.le_trans (KI mark ks vs (k+1) n aH) HL.o;obtain ⟨A,c,e2,hc,_⟩:=aD HO.o;subst e2;have Mx:=af iQ;generalize ks.getD k 0=q at *;generalize vs.getD k 0=x at *;have hlF:=Oh.row.lt;have hlR:=(Oh.lt (by rw [HN.o];omega)).1;have HKV:=af kv;have i0:(0:Int)≤(k:Int):=by omega
   have i1:(k:Int) < (n:Int):=by omega
   clear iQ g1 g2 Oh kv;go_wp2_with fail;have aO:=af ((HB.o.alloc HB.o.size (.cells #[.pointer (some ⟨R,k,none⟩),ae aa q] 250)).drew);have ke:=af (Vg (HO.o.alloc (.cells #[.pointer (some ⟨R,k,none⟩),ae aa q] 250)));refine fK [0,1,5,2,3,4,6] [[7,8]] (by kernel_rfl) (by kernel_rfl) (fun _ _ _ _ _ h=>h) ?_;simp only [mU,pick,xG];iterate 7 still_step
   refine wpStill_nil ?_;go_wp2_with fail;refine (jw _ A _ c _ (Sl.bP ke.o) (yM _) (by have:=HL.o;have:=KI mark ks vs k n hk;omega) x q k1 k6 HKV.o).mono ?_;rintro e w5 ⟨v5,rfl,xJ,ka⟩
   have DT:=af (show w5.ownsRow w.heap.size 5 1 v5 (pre mark ks vs (k+1)).length ((pre mark ks vs (k+1)).map (.int .u8)) by
    rw [OA.o,gC,bp,List.map_append]
    exact zO xJ aO.o.size)
   have lN:=af (aO.o.trans (ka.mono aO.o.size));clear xJ ka;go_wp2_with fail;go_roundw;case rel=>exact ⟨k+1,by omega,by go_num,DT.o,lN.o⟩
   case measure=>simp [intOf];omega
  ·have lv:k=n:=by omega
   have df:¬(k:Int) < (n:Int):=by omega
   have HK:=af lv;obtain ⟨A,c,e2,hc,_⟩:=aD HO.o;subst e2;have HLK:=af (show (pre mark ks vs k).length≤59 by rw [HK.o];exact HL.o);clear lv;have DQ:=af (GF mark ks vs k);have Ge:=af (show jY (pre mark ks vs n)=jY (pre mark ks vs k) by rw [HK.o]);generalize pre mark ks vs k=p at *;generalize iQ:p.length=l at *;have Mx:=af iQ;clear iQ;go_wp2_with fail;refine (yN _).mono ?_;rintro e w2 ⟨g,rfl,hg,bo,bT⟩;have ke:=af (mn HO.o bT);have aO:=af (HB.o.trans (bT.mono HB.o.size));have dK:=af bo;clear hg bo bT;go_wp2_with fail;refine (vV _ g dK.o A l c p Mx.o (by have:=HLK.o;omega) DQ.o (Sl.bP ke.o)).mono ?_;rintro e w3 ⟨rfl,rfl⟩;have Mu:=af (Bp (bs:=p));obtain ⟨sm,Iv⟩:=xE (sum p);rw [←Iv] at Mu ⊢;have jU:=af Iv;clear Iv;have cv:IntKind.i64.wrap (sm:Int)=(sm:Int):=by have:=Mu.o;rw [IntKind.wrap_i64];omega
   go_wp2_with fail;refine (jw _ A l c _ (Sl.bP ke.o) (yM _) (by have:=HLK.o;omega) sm 4 (by omega) (by omega) (Nat.lt_of_lt_of_le Mu.o (by decide))).mono ?_;rintro e w4 ⟨v4,rfl,DA,pO⟩;have Cn:=af (zO DA aO.o.size);have fD:=af (aO.o.trans (pO.mono aO.o.size));obtain ⟨A4,c4,e4,DD,_⟩:=aD DA;subst e4;clear DA pO;have ad3:l≤59:=HLK.o;have PI:(64:Int)-((l:Int)+4)=((60-l:Nat):Int):=by omega
   go_wp2_with (refine TF rfl (.tmp 31) (.tmp 34) rfl Cn.o rfl rfl (by omega) (by omega) (by omega) fD.o.size ?_;intro v' w' BO xV;have HO':=af BO;have HB':=af (jq fD.o Cn.o xV fD.o.size);clear BO xV);go_ret;refine ⟨v',rfl,?_,HB'.o⟩;have h:=HO'.o;rw [show l+4+(60-l)=64 by omega] at h;rw [Ge.o,jY,List.map_append,List.map_append,Mx.o,←jU.o,List.map_replicate];exact h
def Rec.iN (r:Rec):List Nat:=[r.part.toNat,r.seq.toNat,r.au.toNat,r.aj.toNat,r.left.toNat,r.bad.toNat]
abbrev fO:List Nat:=[1,4,1,1,1,1]
def Rec.head (r:Rec):List Int:=pre 19523 fO r.iN 6
def Rec.bytes (r:Rec):List Int:=jY r.head
theorem Rec.jQ (r:Rec):r.head.length=11:=by
 simp [Rec.head,pre,bp,List.range_succ]
theorem ZG {R F:Nat} {r:Rec} (hr:Row w R 35 r.cells.toList) (hF:Row w F 251 (kC R fO)) (h:r.right=true):Fl w R F 251 fO r.iN:=by
 obtain ⟨part,seq,au,aj,left,bad⟩:=r;simp [Rec.right] at h;obtain ⟨⟨⟨⟨⟨⟨⟨h1,h2⟩,h3⟩,h4⟩,h5⟩,_⟩,h7⟩,_⟩:=h;have e:∀(x:Int),0≤x→((x.toNat:Nat):Int)=x:=fun x hx=>by omega
 refine ⟨hF,fun i hi=>?_,fun i hi=>?_⟩
 ·have zd:i=0∨i=1∨i=2∨i=3∨i=4∨i=5:=by simp at hi;omega
  rcases zd with rfl|rfl|rfl|rfl|rfl|rfl<;>refine (hr.cell _).trans ?_<;>simp [Rec.cells,Rec.iN]<;>omega
 ·have zd:i=0∨i=1∨i=2∨i=3∨i=4∨i=5:=by simp at hi;omega
  rcases zd with rfl|rfl|rfl|rfl|rfl|rfl<;>simp [Rec.iN]<;>omega
theorem Nv (r:Rec) (w:World) (h:r.right=true):Calls Tryz.prog 86 #[r.val] w fun e w'=>∃v,e=.returned (.tuple #[v,ae aa 0])∧w'.ownsRow w.heap.size 5 1 v 64 (r.bytes.map (.int .u8))∧Below w.heap.size w w':=by
 have H:=af h;have kA:=af (Row.new w 35 r.cells);have fE:=af ((Below.refl w.heap.size w).alloc (Nat.le_refl _) (.cells r.cells 35));have HA:=af (fR r);clear h;unfold Rec.val Rec.cells at *;go_enter Tryz.func86,Tryz.ntmps86;go_wp2_with fail;refine (HA.o _).mono ?_;rintro e w1 ⟨rfl,hb⟩;rw [H.o];have bh:=af (fE.o.trans (hb.mono (by simp)));have iR:=af (kA.o.below hb (by simp));clear hb;go_wp2_with fail;refine (B6 _ _).mono ?_;rintro e w2 ⟨F,rfl,hF,bo,hb⟩;have aO:=af (bh.o.trans (hb.mono bh.o.size));have dK:=af (iR.o.below hb iR.o.lt);have Ct:=af bo;clear hb bo hF;go_wp2_with fail;refine (Hz _ w.heap.size F 251 fO r.iN 6 rfl (by omega) (ZG dK.o Ct.o H.o) 19523 (by decide) (by have:=r.jQ;unfold Rec.head at this;omega)).mono ?_;rintro e w3 ⟨v,rfl,ho,hb⟩;have HO:=af (zO ho aO.o.size);have bM:=af (aO.o.trans (hb.mono aO.o.size));clear ho hb;go_wp2_with fail;go_ret2;exact ⟨v,rfl,HO.o,bM.o⟩
theorem Yd (r:Rec) (w:World) (h:r.right=false):Calls Tryz.prog 86 #[r.val] w fun e w'=>e=.returned (.tuple #[.slice none 0 0,ae aa 3])∧Below w.heap.size w w':=by
 have H:=af h;have fE:=af ((Below.refl w.heap.size w).alloc (Nat.le_refl _) (.cells r.cells 35));have HA:=af (fR r);clear h;unfold Rec.val Rec.cells at *;go_enter Tryz.func86,Tryz.ntmps86;go_wp2_with fail;refine (HA.o _).mono ?_;rintro e w1 ⟨rfl,hb⟩;rw [H.o];have bh:=af (fE.o.trans (hb.mono (by simp)));clear hb;go_wp2_with fail;go_ret2;exact ⟨rfl,bh.o⟩
end
section
variable {bs rest:List Int} {cs:List Value} {Q R:Nat} {S:Nat→Prop} {A:Option Addr} {TR:TypeId} {a b w wr:World}
def og (ks:List Nat) (i:Nat):Nat:=2+(ks.take i).sum
theorem xA (ks:List Nat) (i:Nat) (h:i < ks.length):og ks (i+1)=og ks i+ks.getD i 0:=by
 unfold og;rw [kr h,List.sum_append];simp [List.getD,h];omega
theorem RV (ks:List Nat) (i n:Nat) (h:i≤n) (hn:n≤ks.length):og ks i≤og ks n:=by
 induction n with
 | zero=>have:i=0:=by omega
         subst this;exact Nat.le_refl _
 | succ n ih =>
   rcases Nat.lt_or_ge i (n+1) with h'|h'
   ·rw [xA ks n (by omega)];have:=ih (by omega) (by omega);omega
   ·have:i=n+1:=by omega
    subst this;exact Nat.le_refl _
def got (ks:List Nat) (bs:List Int) (i:Nat):Nat:=val ((bs.drop (og ks i)).take (ks.getD i 0))
def jO (mark N:Nat) (bs:List Int):Int:=if val (bs.take 2)=mark∧bs.drop (N+4)=List.replicate (60-N) 0 then (if val ((bs.drop N).take 4)=sum (bs.take N) then 0 else 10) else 2
def mF (ks:List Nat) (bs:List Int) (k:Nat) (c0:List Value):List Value:=(List.range k).map (fun i=>Value.int .i64 (got ks bs i:Nat))++c0.drop k
theorem LI (ks:List Nat) (bs:List Int) (k:Nat) (c0:List Value) (hk:k < c0.length):(mF ks bs k c0).set k (ae aa (got ks bs k:Nat))=mF ks bs (k+1) c0:=by
 unfold mF;rw [List.set_append_right _ _ (by simp),List.range_succ,List.map_append,List.append_assoc]
 congr 1
 simp only [iB,List.length_range,Nat.sub_self];rw [List.drop_eq_getElem_cons hk];rfl
theorem FY (ks:List Nat) (bs:List Int) (k:Nat) (c0:List Value) (hk:k≤c0.length):(mF ks bs k c0).length=c0.length:=by simp [mF];omega
theorem LJ (ks:List Nat) (bs:List Int) (k:Nat) (c0:List Value) (hk:k < c0.length):∃v,(mF ks bs k c0)[k]?=some v:=⟨_,cN (by rw [FY _ _ _ _ (by omega)];exact hk)⟩
theorem tH (h:bn bs) (k:Nat):bn (bs.drop k):=fun z hz=>h z (List.mem_of_mem_drop hz)
theorem zD (h:bn bs) (k:Nat):bn (bs.take k):=fun z hz=>h z (List.mem_of_mem_take hz)
structure wT (w:World) (R F:Nat) (T TR:TypeId) (ks:List Nat) (c0:List Value) (A:Option Addr) (bs:List Int) (wr:World) (Q k:Nat):Prop where
 rd:Rd wr w.heap.size Q (bs.drop (og ks k))
 row:Row wr R TR (mF ks bs k c0)
 fl:Row wr F T (kC R ks)
 sl:Sl wr R 1 A 64 (bs.map (.int .u8))
 kept:Kept (fun i=>i=R) w wr
theorem wT.below {w:World} {R F:Nat} {T TR:TypeId} {ks:List Nat} {c0:List Value} {A:Option Addr} {bs:List Int} {wr w':World} {Q k:Nat} (h:wT w R F T TR ks c0 A bs wr Q k) (b:Below wr.heap.size wr w'):wT w R F T TR ks c0 A bs w' Q k :=
 ⟨h.rd.below b,h.row.below b h.row.lt,h.fl.below b h.fl.lt,h.sl.below (b.mono (Nat.le_of_lt h.row.lt)),h.kept.trans (Kept.oh b (fun i=>i=R)) (fun _ h=>h) (fun _ h _=>h)⟩
theorem RU {F:Nat} {T:TypeId} {ks:List Nat} {c0:List Value} {w4 w5:World} {k q ok:Nat} (h:wT w R F T TR ks c0 A bs w4 Q k)
  (bQ:Rd w5 w.heap.size Q ((bs.drop (og ks k)).drop q)) (hk:Kept (fun i=>i=Q) w4 w5) (hR:R < w.heap.size) (hF:F < w.heap.size) (rN:F≠R) (hkc:k < c0.length) (ho:og ks (k+1)=ok+q) (jL:og ks k=ok) (hq:ks.getD k 0=q) :
  wT w R F T TR ks c0 A bs (w5.setCell ⟨R,k,none⟩ (ae aa (got ks bs k:Nat))) Q (k+1):=by
 have hQ:=bQ.base;refine ⟨?_,?_,?_,?_,?_⟩
 ·rw [ho];rw [List.drop_drop,jL] at bQ;exact bQ.keep fun i h1 h2=>Below.heap_setCell w5 ⟨R,k,none⟩ _ i (show i≠R by omega)
 ·rw [←LI ks bs k c0 hkc];exact (h.row.kept hk (fun e=>by have:R=Q:=e;omega)).setCell k _
 ·exact (h.fl.kept hk (fun e=>by have:F=Q:=e;omega)).dV (p:=⟨R,k,none⟩) rN _
 ·have s5:Sl w5 R 1 A 64 (bs.map (.int .u8)):=h.sl.below (hk.below (Nat.le_of_lt h.row.lt) (fun i hi e=>by have:i=Q:=e;omega));exact s5.below ((Below.refl R w5).setCell (p:=⟨R,k,none⟩) (Nat.le_refl _) _)
 ·exact (h.kept.trans hk (fun _ h=>h) (fun i h hi=>by have:i=Q:=h;omega)).setCell (p:=⟨R,k,none⟩) (.inl rfl) _
theorem Z0 {B:Nat} (h:Rd w B R bs) {m:Nat} (hm:bs.length=m):Calls Tryz.prog 196 #[.pointer (some ⟨R,0,none⟩)] w fun e w'=>e=.returned (ae aa m)∧w'=w:=by
 subst hm;exact left_at h
structure pY (w:World) (R:Nat) (TR:TypeId) (cs:List Value) (A:Option Addr) (bs:List Int) (wr:World) (Q:Nat) (rest:List Int):Prop where
 rd:Rd wr w.heap.size Q rest
 row:Row wr R TR cs
 sl:Sl wr R 1 A 64 (bs.map (.int .u8))
 kept:Kept (fun i=>i=R) w wr
theorem pY.below {w:World} {R:Nat} {TR:TypeId} {cs:List Value} {A:Option Addr} {bs:List Int} {wr w':World} {Q:Nat} {rest:List Int} (h:pY w R TR cs A bs wr Q rest) (b:Below wr.heap.size wr w'):pY w R TR cs A bs w' Q rest :=
 ⟨h.rd.below b,h.row.below b h.row.lt,h.sl.below (b.mono (Nat.le_of_lt h.row.lt)),h.kept.trans (Kept.oh b (fun i=>i=R)) (fun _ h=>h) (fun _ h _=>h)⟩
theorem J7 (w:World) (m:Nat):Row (w.alloc (.cells (Array.replicate m (Value.int .u8 0)) 5)) w.heap.size 5 ((List.replicate m (0:Int)).map (.int .u8)):=by
 have h:=Row.new w 5 (Array.replicate m (Value.int .u8 0))
 rwa [show (Array.replicate m (Value.int .u8 0)).toList=(List.replicate m (0:Int)).map (.int .u8) by simp] at h
theorem qt {b n:Nat} {t:TypeId} {l:List Int} (h:Row w b t (l.map (.int .u8))) (hl:l.length=n):Sl w w.heap.size 1 (some ⟨b,0,none⟩) n (l.map (.int .u8)) :=
 h.sl h.lt (by rw [Nat.mul_one,List.drop_zero,List.take_of_length_le (by simp [hl])]) (by simp [hl])
theorem _root_.Go.Proofs.YtdldkkoplgkloaaGreat.obj.Kept.tV (h:Kept S a.drew b):Kept S a b:=⟨h.os,h.tape,h.output,h.size,h.block⟩
theorem _root_.Go.Proofs.YtdldkkoplgkloaaGreat.obj.Kept.Gu {o:Obj} (h:Kept S (a.alloc o).drew b):Kept S a b :=
 ((Kept.refl S a).alloc o).trans h.tV (fun _ h=>h) (fun _ h _=>h)
theorem pY.zeros (h:pY w R TR cs A bs wr Q rest) {w':World} {m:Nat} (k:Kept (fun i=>i=Q) (wr.alloc (.cells (Array.replicate m (Value.int .u8 0)) 5)) w'):Row w' wr.heap.size 5 ((List.replicate m (0:Int)).map (.int .u8)) :=
 (J7 wr m).kept k (fun e=>by have:=h.rd.lt;have:wr.heap.size=Q:=e;omega)
theorem pY.Ai (h:pY w R TR cs A bs wr Q rest) (hR:R < w.heap.size) {w':World} (k:Kept (fun i=>i=Q) wr w'):Row w' R TR cs∧Sl w' R 1 A 64 (bs.map (.int .u8))∧Kept (fun i=>i=R) w w':=by
 have hQ:=h.rd.base;exact ⟨h.row.kept k (fun e=>by have:R=Q:=e;omega),h.sl.below (k.below (Nat.le_of_lt h.row.lt) (fun i hi e=>by have:i=Q:=e;omega)),h.kept.trans k (fun _ h=>h) (fun i h hi=>by have:i=Q:=h;omega)⟩
end
end record
end Go.Proofs.YtdldkkoplgkloaaGreat
