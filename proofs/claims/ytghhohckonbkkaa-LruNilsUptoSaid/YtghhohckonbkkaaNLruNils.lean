/- LruNils is proved where what it reads is of bulk at most 1048576: the call returns true and the arguments read as they did. -/
import Derived.Test.YtghhohckonbkkaaN3
import Derived.Test.YtghhohckonbkkaaN6
import Derived.OpenShut
import Derived.JoinedCond
namespace Go.Proofs.Ytghhohckonbkkaa
open Go.ChangeShapes Go.WideShapes Go.ChangeAt Go.RowKit Flow

set_option maxRecDepth 100000 in
theorem lruNils_lifted (os : Os) (started : os.Started) (H : Type) (enc : TypeId × Value → H) (F : Stop.Interp) :
    ReturnsInHanded {} Try.checked os 5 .any ((Rows.OpenSpec.upto Rows.lruNilsSpec).pre6 enc Try.prog Try.f5 Rows.lruNilsUptoRow.domain false) (((Rows.OpenSpec.upto Rows.lruNilsSpec).at F).post enc Try.prog Try.f5 false true false false) := by
  refine returnsInHanded_of_cond (C := Try.checked) (s := Rows.OpenSpec.upto Rows.lruNilsSpec) (k := Rows.uptoSmall) rfl prog_own started (by kernel_rfl) Try.func5
    (OpenSpec.witness (enc := enc) (C := Try.checked) (s := Rows.OpenSpec.upto Rows.lruNilsSpec) (k := Rows.uptoSmall) rfl false ⟨#[], #[.agg #[.int .i64 0, .string ⟨#[]⟩, .slice none 0 0]], []⟩ 8 (by kernel_rfl) (by kernel_rfl) (by kernel_rfl)
      (x := ([.agg [.lit (.int .i64 0), .lit (.string []), .nil]], [], [])) (by kernel_rfl) rfl (by kernel_rfl)) ?_
  intro W base args ds gs before hval0 hW _ hk _
  have hW' := hW
  obtain ⟨p, q, hA, hV, rfl, hfz, hnd⟩ := hW
  have hA1 : DataW.TrodAll enc Try.prog W 0 (fun _ => true) true Try.f5.params.toList args.toList ds p := hA
  have hval : ∀ (j : Nat) t v, Try.f5.params[j]? = some t → args[j]? = some v → Value.okWide Try.prog W .any base t v := hval0
  rw [Try.params5] at hA1 hval
  obtain ⟨v0, vs0, d0, ds0, p0, q0, hargs0, rfl, rfl, h0, r0⟩ := trodAll_cons hA1
  obtain ⟨rfl, rfl, rfl⟩ := trodAll_nil r0
  obtain rfl : args = #[v0] := by cases args; simp_all
  obtain ⟨rfl, rfl⟩ := trodVars_none hV
  have hbulk : Rows.uptoBulk d0 ≤ 1048576 := by
    have h3 : Rows.uptoBulkAll ([d0] ++ []) ≤ 1048576 := of_decide_eq_true hk
    simp only [List.append_nil, Rows.uptoBulkAll] at h3
    omega
  have k0 := arg_struct (enc := enc) Try.underlying30 tells_act (hval 0 _ v0 rfl rfl) h0
  rw [lgA_eq] at k0
  refine (lruNils_ctr (actOf d0) (act_ok hbulk) W (allOf W) #[v0] (fun b o h => h) ⟨fun _ => .any .., fun _ _ h => (by cases h), fun _ h => (by cases h)⟩ rfl (fun j hj => ?_)).mono fun e W' ⟨v, S', he, hr, hh⟩ => ?_
  · match j, hj with
    | 0, _ => exact k0
  · subst he
    cases hr
    exact ⟨_, rfl, law_post hW' rfl (by decide) rfl Try.underlying4 rfl (below_of_hist hh)⟩

theorem lruNils_holds : Rows.LruNilsUptoSaid :=
  OpenClaim.holds_of_cond 5 Try.f5 rfl rfl rfl rfl rfl rfl rfl ⟨rfl, rfl, rfl, rfl, rfl⟩ rfl rfl rfl rfl rfl (by kernel_rfl) Try.func5 (by kernel_rfl)
    (of_decide_eq_true (by kernel_rfl)) (by unfold Func.isWrapper; first | (rw [if_pos (by decide +kernel)]; kernel_rfl) | (rw [if_neg (by decide +kernel)]; exact ⟨rfl, rfl⟩))
    (fun os started H enc _ F => lruNils_lifted os started H enc F)

end Go.Proofs.Ytghhohckonbkkaa
