/-
  PROVED HERE: lemmas that the law leans on.
  CONDITIONS: each names its own.
-/
import Derived.Test.YtdldkkoplgkloaaGreatPy0
import Derived.Test.YtdldkkoplgkloaaGreatPy26
namespace Go.Proofs.YtdldkkoplgkloaaGreat
set_option linter.unusedVariables false
set_option linter.unusedSimpArgs false
set_option maxRecDepth 100000
set_option maxHeartbeats 32000000
namespace store


open Go.RowKit Go.Deep base obj mem sep bf bk record bP aU image bK bR chain bw
section
variable {w0 w : World} {l : List aD}
def ep (m:DS) (xs:List PP) (p:Nat) (r:Rec):Int×DS×List PP :=
 ((qX m p (xs.getD p default).log r).1,(qX m p (xs.getD p default).log r).2.1,xs.set p ⟨(qX m p (xs.getD p default).log r).2.2,(xs.getD p default).s0,(xs.getD p default).s1⟩)
theorem zT {ad:du} {t:aQ} {d:Nat} {m:DS} {xs:List PP} (h:St w0 w (bL ad t d m xs::l)) (ok:n8 t m xs) {p:Nat} (hp:p < xs.length) (r:Rec) :
  Calls Tryz.prog 46 #[.pointer (some ⟨(ad.al.getD p default).L,0,none⟩),r.val] w fun e w'=>e=.returned (.int .i64 (ep m xs p r).1)∧St w0 w' (bL ad t d (ep m xs p r).2.1 (ep m xs p r).2.2::l) :=
 (V6 (uD h hp) (ok.at_ hp).held (ok.at_ hp).seq (by have:=ok.tx;omega) r).mono fun e w' ⟨h1,h2⟩=>⟨h1,WG h2 hp⟩
theorem Ly {m:DS} (h:m.flush.1=0):m.flush.2.waits=[]:=by
 unfold DS.flush at h ⊢;split
 ·rfl
 ·rename_i hg;rw [if_neg hg] at h;simp at h
theorem Pd {m:DS} {i:Int} {bs:List Int} (h:(wf m i bs).1=0):(wf m i bs).2.waits=[]:=by
 unfold wf at h ⊢;split
 ·rename_i h0;rw [if_pos h0] at h;exact Ly h
 ·rename_i h0;rw [if_neg h0] at h;exact absurd h h0
theorem Wt {p:Int} {now r:Rec} (h:(bY p now r).right=true):(r.ax=0∨r.ax=1)∧(r.aj=0∨r.aj=1)∧0≤now.seq+1∧0≤r.left∧r.left≤7:=by
 have:=fC.la h;simp only [bY] at this;omega
theorem SB {t:aQ} {m:DS} {xs:List PP} (ok:n8 t m xs) {p:Nat} (hp:p < xs.length) {r:Rec} (h:(ep m xs p r).1=0):n8 t (ep m xs p r).2.1 (ep m xs p r).2.2:=by
 have eJ:=ok.at_ hp;simp only [ep] at h ⊢;unfold qX at h ⊢;split at h
 ·simp at h
 ·split at h
  ·rename_i h1 h2
   split at h
   ·rename_i h3
    rw [if_neg h1,if_pos h2,if_pos h3];dsimp only;refine ⟨ok.right,by rw [List.length_set];exact ok.len,ok.jm.wf _ (Rec.qK _),ok.b8.wf _ _,by rw [List.length_set,jB];exact ok.room,by rw [Pd h3];simp,fun x hx=>?_⟩;rcases List.mem_or_eq_of_mem_set hx with hx|rfl
    ·exact ok.ok x hx
    ·obtain ⟨a1,a2,a3,a4⟩:=Wt h2;exact ⟨a1,a2,by have:=eJ.held;dsimp only;omega,a3,a4,eJ.r0,eJ.r1⟩
   ·rename_i h3
    exact absurd h h3
  ·simp at h
def Rec.oN (r:Rec):Rec:=⟨r.part,r.seq,r.ax,r.ax,0,0⟩
def iE (m:DS) (xs:List PP) (q:Int):Int×DS×List PP :=
 if q < 0∨(xs.length:Int)≤q then (3,m,xs)
 else if (xs.getD q.toNat default).ay=false then (16,m,xs)
 else ep m xs q.toNat (Rec.oN (xs.getD q.toNat default).log.now)
theorem Jd {ad:du} {t:aQ} {d:Nat} {m:DS} {xs:List PP} (h:St w0 w (bL ad t d m xs::l)) (ok:n8 t m xs) (q:Int) :
  Calls Tryz.prog 18 #[.pointer (some ⟨ad.S,0,none⟩),.int .i64 q] w fun e w'=>e=.returned (.int .i64 (iE m xs q).1)∧St w0 w' (bL ad t d (iE m xs q).2.1 (iE m xs q).2.2::l):=by
 obtain ⟨s1,s2,s3⟩:=po h;by_cases hq:q < 0∨(xs.length:Int)≤q
 ·have HP:=aa (ux s1 q hq);have H:=aa h;rw [iE,if_pos hq];clear s1 s2 s3 hq h ok;go_enter Tryz.func18,Tryz.ntmps18;go_wp2_with fail;refine HP.o.mono ?_;rintro e w' ⟨rfl,rfl⟩;go_wp2_with fail;go_ret;exact ⟨rfl,H.o⟩
 ·obtain ⟨p,rfl⟩:∃p:Nat,q=p:=⟨q.toNat,by omega⟩
  have hp:p < xs.length:=by omega
  have HD:=aa (show iE m xs p=if (xs.getD p default).ay=false then (16,m,xs) else ep m xs p (Rec.oN (xs.getD p default).log.now) by rw [iE,if_neg hq,ea]);have HP:=aa (uy s1 s2 s3 p hp);have HT:=aa (zR (ji h hp));have HO:=aa (fun (w':World) (hb:Below w.heap.size w w')=>show w'.cell? ⟨(ad.al.getD p default).O,0,none⟩=some (.pointer (some ⟨(ad.al.getD p default).L,0,none⟩))∧(ad.al.getD p default).O < w'.heap.size from ⟨(pq (h.below hb) hp).cell 0,(pq (h.below hb) hp).lt⟩);have HL:=aa (fun (w':World) (hb:Below w.heap.size w w')=>ox (uD (h.below hb) hp));have HS:=aa (fun (w':World) (hb:Below w.heap.size w w')=>zT (h.below hb) ok hp (Rec.oN (xs.getD p default).log.now));have H:=aa h;obtain ⟨sc,Cm⟩:∃v,v=iE m xs p:=⟨_,rfl⟩
  rw [←Cm] at HD ⊢;generalize ep m xs p (Rec.oN (xs.getD p default).log.now)=ss at *;obtain ⟨⟨rp,rs,ra,rc,rl,rb⟩,hr⟩:∃r,r=(xs.getD p default).log.now:=⟨_,rfl⟩
  rw [←hr] at HL HS;generalize (xs.getD p default).ay=tr at *;generalize (ad.al.getD p default).O=O,(ad.al.getD p default).L=L at *;simp only [Rec.oN,Rec.val,Rec.cells] at HL HS;clear s1 s2 s3 hq h ok hr Cm;cases tr with
  | false =>
    have jy:=aa (show sc=(16,m,xs) from HD.o);go_enter Tryz.func18,Tryz.ntmps18;go_wp2_with fail;refine HP.o.mono ?_;rintro e w' ⟨rfl,rfl⟩;go_wp2_with fail;refine HT.o.mono ?_;rintro e w2 ⟨rfl,hb⟩;have HB:=aa hb;clear hb;go_wp2_with fail;go_ret;rw [jy.o];exact ⟨rfl,H.o.below HB.o⟩
  | true =>
    have jy:=aa (show sc=ss from HD.o);go_enter Tryz.func18,Tryz.ntmps18;go_wp2_with fail;refine HP.o.mono ?_;rintro e w' ⟨rfl,rfl⟩;go_wp2_with fail;refine HT.o.mono ?_;rintro e w2 ⟨rfl,hb⟩;have HB:=aa hb;obtain ⟨o0,o1⟩:=HO.o w2 hb;clear hb;go_wp2_with fail;refine (HL.o w2 HB.o).mono ?_;rintro e w3 ⟨rfl,hb⟩;have bD:=aa (HB.o.trans (hb.mono HB.o.size));clear hb o0 o1;obtain ⟨Q,hQ⟩:∃Q,Q=w3.heap.size:=⟨_,rfl⟩
    go_upto_region 8 with fail;rw [←hQ];obtain ⟨w4,dX⟩:∃v,v=w3.alloc (.cells #[.int .i64 rp,.int .i64 rs,.int .i64 ra,.int .i64 ra,.int .i64 0,.int .i64 0] 35):=⟨_,rfl⟩
    have rB:St w3 w4 [row Q 35 [.int .i64 rp,.int .i64 rs,.int .i64 ra,.int .i64 ra,.int .i64 0,.int .i64 0]]:=by
     have h:=(St.nil w3).new 35 #[.int .i64 rp,.int .i64 rs,.int .i64 ra,.int .i64 ra,.int .i64 0,.int .i64 0];rw [←hQ,←dX] at h;exact h
    have fb:=aa rB;rw [←dX];have R5:=aa (bD.o.trans (rB.aI.mono bD.o.size))
    have wJ:=aa (fun (w':World) (hb:Below w4.heap.size w4 w')=>show (fun w'=>w'.cell? ⟨O,0,none⟩=some (.pointer (some ⟨L,0,none⟩))∧O < w'.heap.size∧w'.cell? ⟨Q,0,none⟩=some (.int .i64 rp)∧w'.cell? ⟨Q,1,none⟩=some (.int .i64 rs)∧w'.cell? ⟨Q,2,none⟩=some (.int .i64 ra)∧w'.cell? ⟨Q,3,none⟩=some (.int .i64 ra)∧w'.cell? ⟨Q,4,none⟩=some (.int .i64 0)∧w'.cell? ⟨Q,5,none⟩=some (.int .i64 0)∧Q < w'.heap.size) w' from
     ⟨(HO.o w' (R5.o.trans (hb.mono R5.o.size))).1,(HO.o w' (R5.o.trans (hb.mono R5.o.size))).2,(fb.o.below hb).row.1.cell 0,(fb.o.below hb).row.1.cell 1,(fb.o.below hb).row.1.cell 2,(fb.o.below hb).row.1.cell 3,(fb.o.below hb).row.1.cell 4,(fb.o.below hb).row.1.cell 5,(fb.o.below hb).row.1.lt⟩)
    clear rB dX hQ;have jJ:=aa (fun hb=>HS.o w4.drew hb);obtain ⟨o0,o1,q0,q1,q2,q3,q4,q5,q6⟩:=wJ.o w4 (Below.refl _ _);refine dA ?_;(refine bj [0,1,2,3,4] ?_;simp only [pick,af,ae,ah];(iterate 5 still_step);refine wpStill_nil ?_);(try simp only [af,ae,ah,Act.put,aq,ak,ao]);(refine aL 5 ?_;(try simp only [af,ae,ah]);go_simp);refine (jJ.o R5.o.drew).mono ?_;rintro e w5 ⟨rfl,av⟩;have H5:=aa av;clear av;dsimp only;(try simp only [af,ae,ah,Act.put,aq,ak,ao]);(refine bj [6] ?_;simp only [pick,af,ae,ah];(iterate 1 still_step);refine wpStill_nil ?_);refine bZ ?_;go_wp2_with fail;go_ret;rw [jy.o];exact ⟨rfl,H5.o⟩
def xp (t:aQ) (m:DS) (xs:List PP) (q:Int):aw×Int:=if q < 0∨(xs.length:Int)≤q then (aw.none,3) else fK t m q.toNat (xs.getD q.toNat default) (xs.getD q.toNat default).log.now.ax
def aW (r:Rec):Rec:=if r.left=0 then ⟨r.part,r.seq,r.aj,r.aj,r.left,2 ^ r.ax.toNat⟩ else ⟨r.part,r.seq,r.ax,r.aj,r.left-1,r.bad⟩
def kX (t:aQ) (m:DS) (xs:List PP) (q:Int):(aw×Int)×DS×List PP :=
 if q < 0∨(xs.length:Int)≤q then ((aw.none,3),m,xs)
 else if (xs.getD q.toNat default).ay=false then (fK t m q.toNat (xs.getD q.toNat default) (xs.getD q.toNat default).log.now.ax,m,xs)
 else if (ep m xs q.toNat (aW (xs.getD q.toNat default).log.now)).1≠0 then ((aw.none,(ep m xs q.toNat (aW (xs.getD q.toNat default).log.now)).1),(ep m xs q.toNat (aW (xs.getD q.toNat default).log.now)).2)
 else (fK t (ep m xs q.toNat (aW (xs.getD q.toNat default).log.now)).2.1 q.toNat ((ep m xs q.toNat (aW (xs.getD q.toNat default).log.now)).2.2.getD q.toNat default) (aW (xs.getD q.toNat default).log.now).ax,(ep m xs q.toNat (aW (xs.getD q.toNat default).log.now)).2)
theorem Qq {ad:du} {t:aQ} {d:Nat} {m:DS} {xs:List PP} (h:St w0 w (bL ad t d m xs::l)) (ok:n8 t m xs) (q:Int) :
  Calls Tryz.prog 11 #[.pointer (some ⟨ad.S,0,none⟩),.int .i64 q] w fun e w'=>∃(i:aw) (A:Option Addr) (c:Nat) (er:Int),e=.returned (.tuple #[i.val A c,.int .i64 er])∧(i,er)=xp t m xs q∧St w0 w' (own 5 1 (.slice A i.code.length c) i.code.length (aP i.code)::bL ad t d m xs::l):=by
 obtain ⟨R,hR⟩:∃R,R=w.heap.size:=⟨_,rfl⟩
 obtain ⟨w1,aJ⟩:∃w1,w1=w.alloc (.cells #[.int .i64 0,.int .i64 0,.int .i64 0,.int .i64 0,.int .i64 0,.int .i64 0,.int .i64 0,.slice none 0 0] 26):=⟨_,rfl⟩
 have H1:=aa (show St w0 w1 (row R 26 [.int .i64 0,.int .i64 0,.int .i64 0,.int .i64 0,.int .i64 0,.int .i64 0,.int .i64 0,.slice none 0 0]::bL ad t d m xs::l) by
  have h:=h.new 26 #[.int .i64 0,.int .i64 0,.int .i64 0,.int .i64 0,.int .i64 0,.int .i64 0,.int .i64 0,.slice none 0 0];rw [←hR,←aJ] at h
  exact h)
 have bq:=aa aJ;have HR:=aa hR;obtain ⟨s1,s2,s3⟩:=po H1.o.swap;clear aJ h hR;by_cases hq:q < 0∨(xs.length:Int)≤q
 ·have HP:=aa (ux s1 q hq);have HD:=aa (show xp t m xs q=(aw.none,3) from if_pos hq);clear s1 s2 s3 hq ok;go_enter Tryz.func11,Tryz.ntmps11;go_upto_region 1 with fail;rw [←bq.o,←HR.o];go_wp2_with fail;refine HP.o.mono ?_;rintro e w' ⟨rfl,rfl⟩;go_wp2_with (refine aF rfl 26 (.tmp 4) (.tmp 16) rfl R 0 #[.int .i64 0,.int .i64 0,.int .i64 0,.int .i64 0,.int .i64 0,.int .i64 0,.int .i64 0,.slice none 0 0] rfl rfl H1.o.row.1 (by kernel_rfl) (by simp) (by simp [Value.oneCell']) [.int .i64 0,.int .i64 0,.int .i64 0,.int .i64 0,.int .i64 0,.int .i64 0,.int .i64 0,.slice none 0 0] (by simp) ?_);have h:=H1.o.setRow [.int .i64 0,.int .i64 0,.int .i64 0,.int .i64 0,.int .i64 0,.int .i64 0,.int .i64 0,.slice none 0 0];refine bodyPost_ret (aM rfl _ _ R _ _ _ _ _ rfl rfl h.row.1 Tryz.underlying26 rfl (by kernel_rfl)) rfl ?_;exact ⟨aw.none,none,0,_,rfl,HD.o.symm,h.drop.cQ (Below.refl _ _) (iP _ _)⟩
 ·obtain ⟨p,rfl⟩:∃p:Nat,q=p:=⟨q.toNat,by omega⟩
  have hp:p < xs.length:=by omega
  have eJ:=ok.at_ hp;have HD:=aa (show xp t m xs p=fK t m p (xs.getD p default) (xs.getD p default).log.now.ax by rw [xp,if_neg hq,ea]);have HP:=aa (uy s1 s2 s3 p hp);have HL:=aa (ox (uD H1.o.swap hp));have HH:=aa (fun (w':World) (hb:Below w1.heap.size w1 w')=>vV ((H1.o.below hb).swap) ok hp eJ.act);have ho:=pq H1.o.swap hp;have o0:w1.cell? ⟨(ad.al.getD p default).O,0,none⟩=some (.pointer (some ⟨(ad.al.getD p default).L,0,none⟩)):=ho.cell 0;have o1:=ho.lt;obtain ⟨hl,GF⟩:∃v,v=fK t m p (xs.getD p default) (xs.getD p default).log.now.ax:=⟨_,rfl⟩
  rw [←GF] at HD HH;have r2:=Ns (xs.getD p default).log.now;generalize (xs.getD p default).log.now=r at *;generalize r.val=rv at *;generalize r.ax=ra at *;generalize (ad.al.getD p default).O=O,(ad.al.getD p default).L=L at *;clear s1 s2 s3 hq ho ok eJ GF;go_enter Tryz.func11,Tryz.ntmps11;go_upto_region 1 with fail;rw [←bq.o,←HR.o];go_wp2_with fail;refine HP.o.mono ?_;rintro e w' ⟨rfl,rfl⟩;go_wp2_with fail;refine HL.o.mono ?_;rintro e w2 ⟨rfl,hb⟩;have aO:=aa hb;clear hb o0 o1;go_wp2_with fail;refine (HH.o w2 aO.o).mono ?_;rintro e w9 ⟨j,A3,c3,e9,rfl,hj,av⟩;have H9:=aa (av.pick 2 rfl);have Bj:=aa hj;clear av hj;simp only [aw.val];go_wp2_with (refine aF rfl 26 (.tmp 4) (.tmp 27) rfl R 0 #[.int .i64 j.part,.int .i64 j.version,.int .i64 j.aY,.int .i64 j.mem,.int .i64 j.fuel,.int .i64 j.aN,.int .i64 j.aB,.slice A3 j.code.length c3] rfl rfl H9.o.row.1 (by kernel_rfl) (by simp) (by simp [Value.oneCell']) [.int .i64 j.part,.int .i64 j.version,.int .i64 j.aY,.int .i64 j.mem,.int .i64 j.fuel,.int .i64 j.aN,.int .i64 j.aB,.slice A3 j.code.length c3] (by simp) ?_);have h:=H9.o.setRow [.int .i64 j.part,.int .i64 j.version,.int .i64 j.aY,.int .i64 j.mem,.int .i64 j.fuel,.int .i64 j.aN,.int .i64 j.aB,.slice A3 j.code.length c3];refine bodyPost_ret (aM rfl _ _ R _ _ _ _ _ rfl rfl h.row.1 Tryz.underlying26 rfl (by kernel_rfl)) rfl ?_;exact ⟨j,A3,c3,e9,rfl,by rw [HD.o];exact Bj.o,h.drop⟩
end
end store
end Go.Proofs.YtdldkkoplgkloaaGreat
