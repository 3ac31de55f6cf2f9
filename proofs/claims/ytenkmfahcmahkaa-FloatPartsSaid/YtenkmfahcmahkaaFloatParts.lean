/- FloatParts is proved: whatever the bits, the decimal and the numbers, the call returns true and they read as they did. -/
import Derived.Test.YtenkmfahcmahkaaF17
import Derived.OpenShut
namespace Go.Proofs.Ytenkmfahcmahkaa
open Go.ChangeShapes Go.WideShapes Go.ChangeAt Go.RowKit Flow

set_option maxRecDepth 100000 in
theorem floatParts_lifted (os : Os) (started : os.Started) (H : Type) (enc : TypeId × Value → H) :
    ReturnsInHanded {} Try.checked os 5 .any (Rows.floatPartsSpec.pre6 enc Try.prog Try.f5 Rows.floatPartsRow.domain false) (Rows.floatPartsSpec.post enc Try.prog Try.f5 false true false false) := by
  refine returnsInHanded_of_change (C := Try.checked) prog_own started (by kernel_rfl) Try.func5
    (ChangeSpec.witness6 (enc := enc) (C := Try.checked) false ⟨#[], #[.int .u64 0, .agg #[.bool false, .string ⟨#[]⟩, .int .i64 0], .int .u64 0, .int .i64 0], []⟩ 8 (by kernel_rfl) (by kernel_rfl) (by kernel_rfl) (by kernel_rfl)) ?_
  intro W base args ds gs before hval0 hW hcnd _
  have hW' := hW
  obtain ⟨p, q, hA, hV, rfl, hfz, hnd⟩ := hW
  have hA1 : DataW.TrodAll enc Try.prog W 0 (fun _ => true) true Try.f5.params.toList args.toList ds p := hA
  have hval : ∀ (j : Nat) t v, Try.f5.params[j]? = some t → args[j]? = some v → Value.okWide Try.prog W .any base t v := hval0
  rw [Try.params5] at hA1 hval
  obtain ⟨v0, v1, v2, v3, d0, d1, d2, d3, p0, p1, p2, p3, hargs, rfl, rfl, h0, h1, h2, h3⟩ := trodAll_four hA1
  obtain rfl : args = #[v0, v1, v2, v3] := by cases args; simp_all
  obtain ⟨rfl, rfl⟩ := trodVars_none hV
  obtain ⟨b, rfl, rfl, rfl, wb⟩ := open_int Try.underlying25 (hval 0 _ v0 rfl rfl) h0
  obtain ⟨n1, s1, e1, k1⟩ := arg_dec (enc := enc) (hval 1 _ v1 rfl rfl) h1
  obtain ⟨m, rfl, rfl, rfl, wm⟩ := open_int Try.underlying25 (hval 2 _ v2 rfl rfl) h2
  obtain ⟨x, rfl, rfl, rfl, wx⟩ := open_int Try.underlying3 (hval 3 _ v3 rfl rfl) h3
  have wb : 0 ≤ b ∧ b < 18446744073709551616 := by
    have h1 : IntKind.u64.min ≤ b ∧ b ≤ IntKind.u64.max := by simpa [Lit.wf] using wb
    have h2 : IntKind.u64.min = 0 := by decide
    have h3 : IntKind.u64.max = 18446744073709551615 := by decide
    omega
  have wm : 0 ≤ m ∧ m < 18446744073709551616 := by
    have h1 : IntKind.u64.min ≤ m ∧ m ≤ IntKind.u64.max := by simpa [Lit.wf] using wm
    have h2 : IntKind.u64.min = 0 := by decide
    have h3 : IntKind.u64.max = 18446744073709551615 := by decide
    omega
  obtain ⟨b, rfl⟩ := Int.eq_ofNat_of_zero_le wb.1
  obtain ⟨m, rfl⟩ := Int.eq_ofNat_of_zero_le wm.1
  refine (law_parts_ctr b (by omega) n1 s1 e1 m (by omega) x W (allOf W) #[.int .u64 b, v1, .int .u64 m, .int .i64 x] (fun b o h => h) (fun _ => .any ..) rfl (fun j hj => ?_)).mono fun e W' ⟨v, S', he, hr, hh⟩ => ?_
  · match j, hj with
    | 0, _ => exact .i ..
    | 1, _ => exact k1
    | 2, _ => exact .i ..
    | 3, _ => exact .i ..
  · subst he
    cases hr
    exact ⟨_, rfl, law_post hW' rfl (by decide) rfl Try.underlying4 rfl (below_of_hist hh)⟩

theorem floatParts_holds : Rows.FloatPartsSaid :=
  OpenClaim.holds_of_wide 5 Try.f5 rfl rfl rfl rfl rfl rfl rfl ⟨rfl, rfl, rfl, rfl, rfl⟩ rfl rfl rfl rfl rfl (by kernel_rfl) Try.func5 (by kernel_rfl)
    (of_decide_eq_true (by kernel_rfl)) (by unfold Func.isWrapper; first | (rw [if_pos (by decide +kernel)]; kernel_rfl) | (rw [if_neg (by decide +kernel)]; exact ⟨rfl, rfl⟩))
    (fun os started H enc _ => floatParts_lifted os started H enc)

end Go.Proofs.Ytenkmfahcmahkaa
