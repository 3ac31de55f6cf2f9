/- FloatRises is proved: whatever the two decimals, the call returns true and they read as they did. -/
import Derived.Test.YtenkmfahcmahkaaF17
import Derived.OpenShut
namespace Go.Proofs.Ytenkmfahcmahkaa
open Go.ChangeShapes Go.WideShapes Go.ChangeAt Go.RowKit Flow

set_option maxRecDepth 100000 in
theorem floatRises_lifted (os : Os) (started : os.Started) (H : Type) (enc : TypeId × Value → H) :
    ReturnsInHanded {} Try.checked os 4 .any (Rows.floatRisesSpec.pre6 enc Try.prog Try.f4 Rows.floatRisesRow.domain false) (Rows.floatRisesSpec.post enc Try.prog Try.f4 false true false false) := by
  refine returnsInHanded_of_change (C := Try.checked) prog_own started (by kernel_rfl) Try.func4
    (ChangeSpec.witness6 (enc := enc) (C := Try.checked) false ⟨#[], #[.agg #[.bool false, .string ⟨#[]⟩, .int .i64 0], .agg #[.bool false, .string ⟨#[]⟩, .int .i64 0]], []⟩ 8 (by kernel_rfl) (by kernel_rfl) (by kernel_rfl) (by kernel_rfl)) ?_
  intro W base args ds gs before hval0 hW hcnd _
  have hW' := hW
  obtain ⟨p, q, hA, hV, rfl, hfz, hnd⟩ := hW
  have hA1 : DataW.TrodAll enc Try.prog W 0 (fun _ => true) true Try.f4.params.toList args.toList ds p := hA
  have hval : ∀ (j : Nat) t v, Try.f4.params[j]? = some t → args[j]? = some v → Value.okWide Try.prog W .any base t v := hval0
  rw [Try.params4] at hA1 hval
  obtain ⟨v0, v1, d0, d1, p0, p1, hargs, rfl, rfl, h0, h1⟩ := trodAll_two hA1
  obtain rfl : args = #[v0, v1] := by cases args; simp_all
  obtain ⟨rfl, rfl⟩ := trodVars_none hV
  obtain ⟨n0, s0, e0, k0⟩ := arg_dec (enc := enc) (hval 0 _ v0 rfl rfl) h0
  obtain ⟨n1, s1, e1, k1⟩ := arg_dec (enc := enc) (hval 1 _ v1 rfl rfl) h1
  refine (rises_ctr n0 s0 e0 n1 s1 e1 W (allOf W) #[v0, v1] (fun b o h => h) (fun _ => .any ..) rfl (fun j hj => ?_)).mono fun e W' ⟨v, S', he, hr, hh⟩ => ?_
  · match j, hj with
    | 0, _ => exact k0
    | 1, _ => exact k1
  · subst he
    cases hr
    exact ⟨_, rfl, law_post hW' rfl (by decide) rfl Try.underlying4 rfl (below_of_hist hh)⟩

theorem floatRises_holds : Rows.FloatRisesSaid :=
  OpenClaim.holds_of_wide 4 Try.f4 rfl rfl rfl rfl rfl rfl rfl ⟨rfl, rfl, rfl, rfl, rfl⟩ rfl rfl rfl rfl rfl (by kernel_rfl) Try.func4 (by kernel_rfl)
    (of_decide_eq_true (by kernel_rfl)) (by unfold Func.isWrapper; first | (rw [if_pos (by decide +kernel)]; kernel_rfl) | (rw [if_neg (by decide +kernel)]; exact ⟨rfl, rfl⟩))
    (fun os started H enc _ => floatRises_lifted os started H enc)

end Go.Proofs.Ytenkmfahcmahkaa
