/-
  PROVED HERE: longeronlaw14.StoreNil is true whatever the input: a store that is not there does nothing.
  CONDITIONS: none beyond the row's own.
-/
import Derived.Test.YtdldkkoplgkloaaGreatPq19
import Derived.Test.YtdldkkoplgkloaaGreatPq38
namespace Go.Proofs.YtdldkkoplgkloaaGreat
set_option linter.unusedVariables false
set_option linter.unusedSimpArgs false
namespace storeNil


open Go.RowKit Go.ChangeShapes Go.WideShapes Go.ChangeAt Go.Deep Go.Joins base obj mem plan record image store
set_option maxRecDepth 100000 in
set_option maxHeartbeats 4000000 in
theorem walk (w:World) (q:Int) (hq:(Lit.int .i64 q).wf=true) (n:Int) (hn:(Lit.int .i64 n).wf=true):Calls Tryz.prog 3 #[.int .i64 q,.int .i64 n] w fun e w'=>e=.returned (.bool true)∧Below w.heap.size w w':=by
 go_enter Tryz.func3,Tryz.ntmps3
 go_wp2_with (fail)
 refine (wakes_at w).mono ?_
 rintro e w1 ⟨rfl,hb⟩
 have HB1:=Lib.hid hb
 clear hb
 go_wp2_with (fail)
 refine (boot_nil w1 q).mono ?_
 rintro e w2 ⟨rfl,hb⟩
 have HB2:=Lib.hid (HB1.out.trans (hb.mono HB1.out.size))
 clear hb
 simp only [Img.val,Img.none,List.length_nil]
 obtain ⟨w3,hw3⟩:∃v,v=w2.alloc (.cells #[.int .i64 0,.int .i64 0,.int .i64 0,.int .i64 0,.int .i64 0,.int .i64 0,.int .i64 0,.slice none 0 0] 26):=⟨_,rfl⟩
 have HB3:=Lib.hid (show Below w.heap.size w w3 by rw [hw3];exact HB2.out.alloc HB2.out.size _)
 have HW3:=Lib.hid hw3
 clear hw3
 go_upto_region 5 with fail
 rw [←HW3.out]
 go_wp2_with (fail)
 refine (image_nil w3 q).mono ?_
 rintro e w4 ⟨rfl,hb⟩
 have HB4:=Lib.hid (HB3.out.trans (hb.mono HB3.out.size))
 clear hb
 simp only [Img.val,Img.none,List.length_nil]
 obtain ⟨w5,hw5⟩:∃v,v=w4.alloc (.cells #[.int .i64 0,.int .i64 0,.int .i64 0,.int .i64 0,.int .i64 0,.int .i64 0,.int .i64 0,.slice none 0 0] 26):=⟨_,rfl⟩
 have HB5:=Lib.hid (show Below w.heap.size w w5 by rw [hw5];exact HB4.out.alloc HB4.out.size _)
 have HW5:=Lib.hid hw5
 clear hw5
 go_upto_region 6 with fail
 rw [←HW5.out]
 go_wp2_with (fail)
 refine (sstage_nil w5 q).mono ?_
 rintro e w6 ⟨rfl,hb⟩
 have HB6:=Lib.hid (HB5.out.trans (hb.mono HB5.out.size))
 clear hb
 rw [show Stg.zero.val=.agg #[.int .i64 0,.int .i64 0,.int .i64 0] from rfl]
 obtain ⟨w7,hw7⟩:∃v,v=w6.alloc (.cells #[.int .i64 0,.int .i64 0,.int .i64 0] 31):=⟨_,rfl⟩
 have HB7:=Lib.hid (show Below w.heap.size w w7 by rw [hw7];exact HB6.out.alloc HB6.out.size _)
 have HW7:=Lib.hid hw7
 clear hw7
 go_upto_region 7 with fail
 rw [←HW7.out]
 go_wp2_with (fail)
 refine (record_nil w7 q).mono ?_
 rintro e w8 ⟨rfl,hb⟩
 have HB8:=Lib.hid (HB7.out.trans (hb.mono HB7.out.size))
 clear hb
 rw [show Rec.zero.val=.agg #[.int .i64 0,.int .i64 0,.int .i64 0,.int .i64 0,.int .i64 0,.int .i64 0] from rfl]
 go_wp2_with (fail)
 refine (sbegin_nil w8 q n n).mono ?_
 rintro e w9 ⟨rfl,rfl⟩
 go_wp2_with (fail)
 refine (sload_nil w9 q n n _).mono ?_
 rintro e w9 ⟨rfl,rfl⟩
 go_wp2_with (fail)
 refine (sseal_nil w9 q n).mono ?_
 rintro e w9 ⟨rfl,rfl⟩
 go_wp2_with (fail)
 refine (sdrop_nil w9 q n).mono ?_
 rintro e w9 ⟨rfl,rfl⟩
 go_wp2_with (fail)
 refine (sconfirm_nil w9 q).mono ?_
 rintro e w9 ⟨rfl,rfl⟩
 go_wp2_with (fail)
 go_ret
 exact ⟨rfl,HB8.out⟩
set_option maxRecDepth 100000 in
theorem lifted (os:Os) (started:os.Started) (H:Type) (enc:TypeId×Value→H) :
  ReturnsInHanded {} Tryz.checked os 3 .any (Rows.storeNilSpec.pre6 enc Tryz.prog Tryz.f3 Rows.storeNilRow.domain false) (Rows.storeNilSpec.post enc Tryz.prog Tryz.f3 false true false false):=by
 refine returnsInHanded_of_change (C:=Tryz.checked) Go.Proofs.YtdldkkoplgkloaaGreat.lift.own started (by kernel_rfl) Tryz.func3
  (ChangeSpec.witness6 (enc:=enc) (C:=Tryz.checked) false ⟨#[],#[.int .i64 0,.int .i64 0],[]⟩ 8 (by kernel_rfl) (by kernel_rfl) (by kernel_rfl) (by kernel_rfl)) ?_
 intro W base args ds gs before hval0 hW hcnd _
 have hval:∀(j:Nat) t v,Tryz.f3.params[j]?=some t→args[j]?=some v→Value.okWide Tryz.prog W .any base t v:=hval0
 have hW':=hW
 obtain ⟨p,q,hA0,hV,rfl,hfz,hnd⟩:=hW
 have hA:DataW.TrodAll enc Tryz.prog W 0 (fun _=>true) true Tryz.f3.params.toList args.toList ds p:=hA0
 have hAk:=hA
 rw [Tryz.params3] at hA hval
 obtain ⟨v0,vs0,d0,ds0,p0,q0,hargs,rfl,rfl,h0,r0⟩:=trodAll_cons hA
 obtain ⟨v1,vs1,d1,ds1,p1,q1,rfl,rfl,rfl,h1,r1⟩:=trodAll_cons r0
 obtain ⟨rfl,rfl,rfl⟩:=trodAll_nil r1
 obtain rfl:args=#[v0,v1]:=by cases args;simp_all
 obtain ⟨rfl,rfl⟩:=trodVars_none hV
 have hlt:=hW'.lt
 obtain ⟨a0,rfl,_,_,w0⟩:=open_int Tryz.underlying3 (hval 0 3 v0 rfl rfl) h0
 obtain ⟨a1,rfl,_,_,w1⟩:=open_int Tryz.underlying3 (hval 1 3 v1 rfl rfl) h1
 refine (walk W a0 w0 a1 w1).mono fun e W' ⟨he,hg⟩=>?_
 subst he
 exact ⟨_,rfl,Go.Proofs.YtdldkkoplgkloaaGreat.base.postBelow (pv:=[]) hW' (fun _ _ _=>(trodAll_cons_mk (shut_bool Tryz.underlying4 _) trodAll_mk0)) (fun sp hsp=>Go.Proofs.YtdldkkoplgkloaaGreat.lift.args_stay Go.Proofs.YtdldkkoplgkloaaGreat.lift.laidOut hg _ _ _ _ (by kernel_rfl) hAk (fun x hx=>hlt x (by simpa using hx)) (fun x hx=>hsp x (by simpa using hx))) (fun _ _=>rfl) (by simp)
  hg (ok_one (by kernel_rfl) rfl (okWide_bool_mk Tryz.underlying4 _))⟩
theorem over:Rows.storeNilRow.holds Tryz.pinned (OpenSpec.ofChange Rows.storeNilSpec) :=
 OpenClaim.holds_of_wide 3 Tryz.f3 rfl rfl rfl rfl rfl rfl rfl ⟨rfl,rfl,rfl,rfl,rfl⟩ rfl rfl rfl rfl rfl (by kernel_rfl) Tryz.func3 (by kernel_rfl)
  (of_decide_eq_true (by kernel_rfl)) (by unfold Func.isWrapper;first|(rw [if_pos (by decide +kernel)];kernel_rfl)|(rw [if_neg (by decide +kernel)];exact ⟨rfl,rfl⟩))
  (fun os started H enc _=>lifted os started H enc)
theorem proved:Rows.StoreNilSaid :=
 over
#print axioms proved
end storeNil
end Go.Proofs.YtdldkkoplgkloaaGreat
