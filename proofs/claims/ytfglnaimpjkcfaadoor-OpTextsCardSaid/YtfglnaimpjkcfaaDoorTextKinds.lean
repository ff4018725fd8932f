/-
  PROVED HERE: op.kinds.
  CONDITIONS: each lemma names its own.
-/
import Derived.Test.YtfglnaimpjkcfaaDoorTextRef
import Derived.Test.YtfglnaimpjkcfaaDoorRes
import Derived.Test.YtfglnaimpjkcfaaDoorChain
namespace Go.Proofs.YtfglnaimpjkcfaaDoor.text
set_option linter.unusedVariables false
open Go.RowKit Go.Proofs.YtfglnaimpjkcfaaDoor.base Go.Proofs.YtfglnaimpjkcfaaDoor.obj Go.Proofs.YtfglnaimpjkcfaaDoor.mem Go.Proofs.YtfglnaimpjkcfaaDoor.sep Go.Proofs.YtfglnaimpjkcfaaDoor.plan Go.Proofs.YtfglnaimpjkcfaaDoor.op Go.Proofs.YtfglnaimpjkcfaaDoor.chain

/-- the kinds: name, and whether there is an argument -/
def knds : Array Value := (List.range 19).flatMap (fun k => [Value.string (nmB k), Value.bool (hasArg (k : Int))]) |>.toArray
theorem knds_eq : knds = #[.string ⟨#[121, 105, 101, 108, 100]⟩, .bool false, .string ⟨#[112, 117, 115, 104]⟩, .bool true, .string ⟨#[100, 114, 111, 112]⟩, .bool false, .string ⟨#[100, 117, 112]⟩, .bool false, .string ⟨#[115, 119, 97, 112]⟩, .bool false, .string ⟨#[97, 100, 100]⟩, .bool false, .string ⟨#[115, 117, 98]⟩, .bool false, .string ⟨#[109, 117, 108]⟩, .bool false, .string ⟨#[108, 101, 115, 115]⟩, .bool false, .string ⟨#[115, 97, 109, 101]⟩, .bool false, .string ⟨#[108, 111, 97, 100]⟩, .bool true, .string ⟨#[115, 116, 111, 114, 101]⟩, .bool true, .string ⟨#[106, 117, 109, 112]⟩, .bool true, .string ⟨#[122, 101, 114, 111]⟩, .bool true, .string ⟨#[115, 101, 110, 100]⟩, .bool true, .string ⟨#[103, 101, 116]⟩, .bool true, .string ⟨#[99, 111, 110, 102, 105, 114, 109]⟩, .bool false, .string ⟨#[104, 97, 108, 116]⟩, .bool false, .string ⟨#[110, 111, 119]⟩, .bool false] := by kernel_rfl
/-- number k of the kinds -/
theorem knds_at (k : Nat) (h : k < 19) (w : World) : (Instr.index 42 (.agg knds) (.int .i64 (k : Int))).run Tryd.prog w = .ok (.agg #[.string (nmB k), .bool (hasArg (k : Int))]) w := by
  rcases (by omega : k = 0 ∨ k = 1 ∨ k = 2 ∨ k = 3 ∨ k = 4 ∨ k = 5 ∨ k = 6 ∨ k = 7 ∨ k = 8 ∨ k = 9 ∨ k = 10 ∨ k = 11 ∨ k = 12 ∨ k = 13 ∨ k = 14 ∨ k = 15 ∨ k = 16 ∨ k = 17 ∨ k = 18) with rfl | rfl | rfl | rfl | rfl | rfl | rfl | rfl | rfl | rfl | rfl | rfl | rfl | rfl | rfl | rfl | rfl | rfl | rfl <;> kernel_rfl
set_option maxRecDepth 100000 in
set_option maxHeartbeats 4000000 in
theorem kinds_at (w : World) : Calls Tryd.prog 13 #[] w fun e w' => e = .returned (.agg knds) ∧ Below w.heap.size w w' := by
  go_enter Tryd.func13, Tryd.ntmps13
  have HK := knds_eq
  generalize (ByteArray.mk #[121, 105, 101, 108, 100]) = s0 at HK ⊢
  generalize (ByteArray.mk #[112, 117, 115, 104]) = s1 at HK ⊢
  generalize (ByteArray.mk #[100, 114, 111, 112]) = s2 at HK ⊢
  generalize (ByteArray.mk #[100, 117, 112]) = s3 at HK ⊢
  generalize (ByteArray.mk #[115, 119, 97, 112]) = s4 at HK ⊢
  generalize (ByteArray.mk #[97, 100, 100]) = s5 at HK ⊢
  generalize (ByteArray.mk #[115, 117, 98]) = s6 at HK ⊢
  generalize (ByteArray.mk #[109, 117, 108]) = s7 at HK ⊢
  generalize (ByteArray.mk #[108, 101, 115, 115]) = s8 at HK ⊢
  generalize (ByteArray.mk #[115, 97, 109, 101]) = s9 at HK ⊢
  generalize (ByteArray.mk #[108, 111, 97, 100]) = s10 at HK ⊢
  generalize (ByteArray.mk #[115, 116, 111, 114, 101]) = s11 at HK ⊢
  generalize (ByteArray.mk #[106, 117, 109, 112]) = s12 at HK ⊢
  generalize (ByteArray.mk #[122, 101, 114, 111]) = s13 at HK ⊢
  generalize (ByteArray.mk #[115, 101, 110, 100]) = s14 at HK ⊢
  generalize (ByteArray.mk #[103, 101, 116]) = s15 at HK ⊢
  generalize (ByteArray.mk #[99, 111, 110, 102, 105, 114, 109]) = s16 at HK ⊢
  generalize (ByteArray.mk #[104, 97, 108, 116]) = s17 at HK ⊢
  generalize (ByteArray.mk #[110, 111, 119]) = s18 at HK ⊢
  generalize knds = K at HK ⊢

  have MS := Lib.hid (show (Tryd.prog.info? 42).map (·.size) = some (#[.string s0, .bool false, .string s1, .bool true, .string s2, .bool false, .string s3, .bool false, .string s4, .bool false, .string s5, .bool false, .string s6, .bool false, .string s7, .bool false, .string s8, .bool false, .string s9, .bool false, .string s10, .bool true, .string s11, .bool true, .string s12, .bool true, .string s13, .bool true, .string s14, .bool true, .string s15, .bool true, .string s16, .bool false, .string s17, .bool false, .string s18, .bool false] : Array Value).size from by kernel_rfl)
  have MO := Lib.hid (show ∀ v ∈ (#[.string s0, .bool false, .string s1, .bool true, .string s2, .bool false, .string s3, .bool false, .string s4, .bool false, .string s5, .bool false, .string s6, .bool false, .string s7, .bool false, .string s8, .bool false, .string s9, .bool false, .string s10, .bool true, .string s11, .bool true, .string s12, .bool true, .string s13, .bool true, .string s14, .bool true, .string s15, .bool true, .string s16, .bool false, .string s17, .bool false, .string s18, .bool false] : Array Value).toList, v.oneCell' = true by simp [Value.oneCell'])
  obtain ⟨KK, hKK⟩ : ∃ KK, KK = (#[.string s0, .bool false, .string s1, .bool true, .string s2, .bool false, .string s3, .bool false, .string s4, .bool false, .string s5, .bool false, .string s6, .bool false, .string s7, .bool false, .string s8, .bool false, .string s9, .bool false, .string s10, .bool true, .string s11, .bool true, .string s12, .bool true, .string s13, .bool true, .string s14, .bool true, .string s15, .bool true, .string s16, .bool false, .string s17, .bool false, .string s18, .bool false] : Array Value) := ⟨_, rfl⟩
  rw [← hKK] at HK MS MO
  have HKK := Lib.hid hKK
  have HK := Lib.hid HK
  clear hKK
  go_upto_region 1 with fail
  refine wp_region_lit ?_
  refine list_still [_, _, _, _, _, _, _, _, _, _, _, _, _, _, _, _, _, _, _] _ _ ?_
  iterate 19 still_step
  refine wpStill_nil ?_
  refine list_val (v := .agg KK) rfl (by rw [HKK.out]; kernel_rfl) ?_
  try dsimp only
  try simp only [Act.put, List.setIfInBounds_toArray, List.set_cons_zero, List.set_cons_succ]
  have HBW := Lib.hid ((Below.refl w.heap.size w).alloc (Nat.le_refl _) (.cells KK 42))
  refine wpList_fill rfl 42 (.tmp 0) (.tmp 20) rfl KK _ 42 w.heap.size rfl rfl MS.out (by rw [HKK.out]; rfl) MO.out ?_ rfl
  go_wp2_with (fail)
  refine bodyPost_ret (results_cell_row (cs := KK) rfl _ _ w.heap.size _ _ _ rfl (heap_alloc_new _ _) Tryd.underlying42 rfl MS.out) rfl ?_
  exact ⟨rfl, HBW.out⟩
end Go.Proofs.YtfglnaimpjkcfaaDoor.text
