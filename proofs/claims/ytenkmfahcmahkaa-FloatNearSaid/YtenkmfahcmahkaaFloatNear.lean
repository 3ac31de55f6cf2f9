/- FloatNear is proved: whatever the decimal, the call returns true and the decimal reads as it did. -/
import Derived.Test.YtenkmfahcmahkaaF17
import Derived.OpenShut
namespace Go.Proofs.Ytenkmfahcmahkaa
open Go.ChangeShapes Go.WideShapes Go.ChangeAt Go.RowKit Flow

set_option maxRecDepth 100000 in
theorem floatNear_lifted (os : Os) (started : os.Started) (H : Type) (enc : TypeId × Value → H) :
    ReturnsInHanded {} Try.checked os 3 .any (Rows.floatNearSpec.pre6 enc Try.prog Try.f3 Rows.floatNearRow.domain false) (Rows.floatNearSpec.post enc Try.prog Try.f3 false true false false) := by
  refine returnsInHanded_of_change (C := Try.checked) prog_own started (by kernel_rfl) Try.func3
    (ChangeSpec.witness6 (enc := enc) (C := Try.checked) false ⟨#[], #[.agg #[.bool false, .string ⟨#[]⟩, .int .i64 0]], []⟩ 8 (by kernel_rfl) (by kernel_rfl) (by kernel_rfl) (by kernel_rfl)) ?_
  intro W base args ds gs before hval0 hW hcnd _
  have hW' := hW
  obtain ⟨p, q, hA, hV, rfl, hfz, hnd⟩ := hW
  have hA1 : DataW.TrodAll enc Try.prog W 0 (fun _ => true) true Try.f3.params.toList args.toList ds p := hA
  have hval : ∀ (j : Nat) t v, Try.f3.params[j]? = some t → args[j]? = some v → Value.okWide Try.prog W .any base t v := hval0
  rw [Try.params3] at hA1 hval
  obtain ⟨v0, d0, rfl, rfl, h0⟩ := trodAll_one hA1
  obtain ⟨rfl, rfl⟩ := trodVars_none hV
  obtain ⟨n0, s0, e0, k0⟩ := arg_dec (enc := enc) (hval 0 _ v0 rfl rfl) h0
  refine (near_ctr n0 s0 e0 W (allOf W) #[v0] (fun b o h => h) (fun _ => .any ..) rfl (fun j hj => ?_)).mono fun e W' ⟨v, S', he, hr, hh⟩ => ?_
  · have : j = 0 := by simpa using hj
    subst this
    exact k0
  · subst he
    cases hr
    exact ⟨_, rfl, law_post hW' rfl (by decide) rfl Try.underlying4 rfl (below_of_hist hh)⟩

theorem floatNear_holds : Rows.FloatNearSaid :=
  OpenClaim.holds_of_wide 3 Try.f3 rfl rfl rfl rfl rfl rfl rfl ⟨rfl, rfl, rfl, rfl, rfl⟩ rfl rfl rfl rfl rfl (by kernel_rfl) Try.func3 (by kernel_rfl)
    (of_decide_eq_true (by kernel_rfl)) (by unfold Func.isWrapper; first | (rw [if_pos (by decide +kernel)]; kernel_rfl) | (rw [if_neg (by decide +kernel)]; exact ⟨rfl, rfl⟩))
    (fun os started H enc _ => floatNear_lifted os started H enc)

end Go.Proofs.Ytenkmfahcmahkaa
