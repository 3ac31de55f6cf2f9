/- MetaMerges is proved where what it reads is of bulk at most 1048576: the call returns true and the arguments read as they did. -/
import Derived.Test.YtejpliaomhpakaaFlowQ
import Derived.Test.YtejpliaomhpakaaM13
import Derived.Test.YtejpliaomhpakaaM7
import Derived.OpenShut
import Derived.JoinedCond
namespace Go.Proofs.Ytejpliaomhpakaa
open Go.ChangeShapes Go.WideShapes Go.ChangeAt Go.RowKit Flow

set_option maxRecDepth 100000 in
theorem metaMerges_lifted (os : Os) (started : os.Started) (H : Type) (enc : TypeId × Value → H) (F : Stop.Interp) :
    ReturnsInHanded {} Try.checked os 4 .any ((Rows.OpenSpec.upto Rows.metaMergesSpec).pre6 enc Try.prog Try.f4 Rows.metaMergesUptoRow.domain false) (((Rows.OpenSpec.upto Rows.metaMergesSpec).at F).post enc Try.prog Try.f4 false true false false) := by
  refine returnsInHanded_of_cond (C := Try.checked) (s := Rows.OpenSpec.upto Rows.metaMergesSpec) (k := Rows.uptoSmall) rfl prog_own started (by kernel_rfl) Try.func4
    (OpenSpec.witness (enc := enc) (C := Try.checked) (s := Rows.OpenSpec.upto Rows.metaMergesSpec) (k := Rows.uptoSmall) rfl false ⟨#[], #[.slice none 0 0, .slice none 0 0, .slice none 0 0, .string ⟨#[]⟩, .string ⟨#[]⟩], []⟩ 8 (by kernel_rfl) (by kernel_rfl) (by kernel_rfl)
      (x := ([.nil, .nil, .nil, .lit (.string []), .lit (.string [])], [], [])) (by kernel_rfl) rfl (by kernel_rfl)) ?_
  intro W base args ds gs before hval0 hW _ hk _
  have hW' := hW
  obtain ⟨p, q, hA, hV, rfl, hfz, hnd⟩ := hW
  have hA1 : DataW.TrodAll enc Try.prog W 0 (fun _ => true) true Try.f4.params.toList args.toList ds p := hA
  have hval : ∀ (j : Nat) t v, Try.f4.params[j]? = some t → args[j]? = some v → Value.okWide Try.prog W .any base t v := hval0
  rw [Try.params4] at hA1 hval
  obtain ⟨v0, vs0, d0, ds0, p0, q0, hargs, rfl, rfl, h0, r0⟩ := trodAll_cons hA1
  obtain ⟨v1, vs1, d1, ds1, p1, q1, hargs1, rfl, rfl, h1, r1⟩ := trodAll_cons r0
  obtain ⟨v2, vs2, d2, ds2, p2, q2, hargs2, rfl, rfl, h2, r2⟩ := trodAll_cons r1
  obtain ⟨v3, vs3, d3, ds3, p3, q3, hargs3, rfl, rfl, h3, r3⟩ := trodAll_cons r2
  obtain ⟨v4, vs4, d4, ds4, p4, q4, hargs4, rfl, rfl, h4, r4⟩ := trodAll_cons r3
  obtain ⟨rfl, rfl, rfl⟩ := trodAll_nil r4
  obtain rfl : args = #[v0, v1, v2, v3, v4] := by cases args; simp_all
  obtain ⟨rfl, rfl⟩ := trodVars_none hV
  have hbulk : Rows.uptoBulk d0 ≤ 1048576 ∧ Rows.uptoBulk d1 ≤ 1048576 ∧ Rows.uptoBulk d2 ≤ 1048576 ∧ Rows.uptoBulk d3 ≤ 1048576 ∧ Rows.uptoBulk d4 ≤ 1048576 := by
    have h3 : Rows.uptoBulkAll ([d0, d1, d2, d3, d4] ++ []) ≤ 1048576 := of_decide_eq_true hk
    simp only [List.append_nil, Rows.uptoBulkAll] at h3
    omega
  have k0 := arg_slice (enc := enc) Try.underlying22 (by kernel_rfl) (by omega) tells_vec (hval 0 _ v0 rfl rfl) h0
  have k1 := arg_slice (enc := enc) Try.underlying22 (by kernel_rfl) (by omega) tells_vec (hval 1 _ v1 rfl rfl) h1
  have k2 := arg_slice (enc := enc) Try.underlying25 (by kernel_rfl) (by omega) tells_lay (hval 2 _ v2 rfl rfl) h2
  have k3 := arg_str (enc := enc) Try.underlying9 (hval 3 _ v3 rfl rfl) h3
  have k4 := arg_str (enc := enc) Try.underlying9 (hval 4 _ v4 rfl rfl) h4
  have e0 : ∀ d : DataW H, D.sl 2 (kids d).length (fun i => gVec ((kids d).getD i .nil)) = .sl 2 (vecsOf d).length (vecF (vecsOf d)) := fun d => (List.cons.inj (gVecs_eq d)).1
  have e2 : D.sl 3 (kids d2).length (fun i => gLay ((kids d2).getD i .nil)) = .sl 3 (laysOf d2).length (layF (laysOf d2)) := (List.cons.inj (gLays_eq d2)).1
  rw [e0] at k0 k1
  rw [e2] at k2
  refine (metaMerges_ctr (vecsOf d0) (vecsOf d1) (laysOf d2) (strOf d3) (strOf d4) (smallV_of hbulk.1) (smallV_of hbulk.2.1) (smallL_of hbulk.2.2.1) (by have := bulk_str d3; omega) (by have := bulk_str d4; omega) W (allOf W) #[v0, v1, v2, v3, v4] (fun b o h => h) rfl (fun j hj => ?_)).mono fun e W' ⟨v, S', he, hr, hh⟩ => ?_
  · match j, hj with
    | 0, _ => exact k0
    | 1, _ => exact k1
    | 2, _ => exact k2
    | 3, _ => exact k3
    | 4, _ => exact k4
  · subst he
    cases hr
    exact ⟨_, rfl, law_post hW' rfl (by decide) rfl Try.underlying4 rfl (below_of_hist hh)⟩

theorem metaMerges_holds : Rows.MetaMergesUptoSaid :=
  OpenClaim.holds_of_cond 4 Try.f4 rfl rfl rfl rfl rfl rfl rfl ⟨rfl, rfl, rfl, rfl, rfl⟩ rfl rfl rfl rfl rfl (by kernel_rfl) Try.func4 (by kernel_rfl)
    (of_decide_eq_true (by kernel_rfl)) (by unfold Func.isWrapper; first | (rw [if_pos (by decide +kernel)]; kernel_rfl) | (rw [if_neg (by decide +kernel)]; exact ⟨rfl, rfl⟩))
    (fun os started H enc _ F => metaMerges_lifted os started H enc F)

end Go.Proofs.Ytejpliaomhpakaa
