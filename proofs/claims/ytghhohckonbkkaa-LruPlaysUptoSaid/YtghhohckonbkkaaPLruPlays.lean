/- LruPlays is proved where what it reads is of bulk at most 1048576: the call returns true and the arguments read as they did. -/
import Derived.Test.YtghhohckonbkkaaP3
import Derived.Test.YtghhohckonbkkaaP7
import Derived.OpenShut
import Derived.JoinedCond
namespace Go.Proofs.Ytghhohckonbkkaa
open Go.ChangeShapes Go.WideShapes Go.ChangeAt Go.RowKit Flow

set_option maxRecDepth 100000 in
theorem lruPlays_lifted (os : Os) (started : os.Started) (H : Type) (enc : TypeId × Value → H) (F : Stop.Interp) :
    ReturnsInHanded {} Try.checked os 4 .any ((Rows.OpenSpec.upto Rows.lruPlaysSpec).pre6 enc Try.prog Try.f4 Rows.lruPlaysUptoRow.domain false) (((Rows.OpenSpec.upto Rows.lruPlaysSpec).at F).post enc Try.prog Try.f4 false true false false) := by
  refine returnsInHanded_of_cond (C := Try.checked) (s := Rows.OpenSpec.upto Rows.lruPlaysSpec) (k := Rows.uptoSmall) rfl prog_own started (by kernel_rfl) Try.func4
    (OpenSpec.witness (enc := enc) (C := Try.checked) (s := Rows.OpenSpec.upto Rows.lruPlaysSpec) (k := Rows.uptoSmall) rfl false ⟨#[], #[.int .i64 0, .int .i64 0, .slice none 0 0], []⟩ 8 (by kernel_rfl) (by kernel_rfl) (by kernel_rfl)
      (x := ([.lit (.int .i64 0), .lit (.int .i64 0), .nil], [], [])) (by kernel_rfl) rfl (by kernel_rfl)) ?_
  intro W base args ds gs before hval0 hW _ hk _
  have hW' := hW
  obtain ⟨p, q, hA, hV, rfl, hfz, hnd⟩ := hW
  have hA1 : DataW.TrodAll enc Try.prog W 0 (fun _ => true) true Try.f4.params.toList args.toList ds p := hA
  have hval : ∀ (j : Nat) t v, Try.f4.params[j]? = some t → args[j]? = some v → Value.okWide Try.prog W .any base t v := hval0
  rw [Try.params4] at hA1 hval
  obtain ⟨v0, vs0, d0, ds0, p0, q0, hargs0, rfl, rfl, h0, r0⟩ := trodAll_cons hA1
  obtain ⟨v1, vs1, d1, ds1, p1, q1, hargs1, rfl, rfl, h1, r1⟩ := trodAll_cons r0
  obtain ⟨v2, vs2, d2, ds2, p2, q2, hargs2, rfl, rfl, h2, r2⟩ := trodAll_cons r1
  obtain ⟨rfl, rfl, rfl⟩ := trodAll_nil r2
  obtain rfl : args = #[v0, v1, v2] := by cases args; simp_all
  obtain ⟨rfl, rfl⟩ := trodVars_none hV
  have hbulk : Rows.uptoBulk d0 ≤ 1048576 ∧ Rows.uptoBulk d1 ≤ 1048576 ∧ Rows.uptoBulk d2 ≤ 1048576 := by
    have h3 : Rows.uptoBulkAll ([d0, d1, d2] ++ []) ≤ 1048576 := of_decide_eq_true hk
    simp only [List.append_nil, Rows.uptoBulkAll] at h3
    omega
  obtain ⟨b0, rfl, rfl, rfl, w0⟩ := open_int Try.underlying3 (hval 0 _ v0 rfl rfl) h0
  obtain ⟨b1, rfl, rfl, rfl, w1⟩ := open_int Try.underlying3 (hval 1 _ v1 rfl rfl) h1
  have w0 : -9223372036854775808 ≤ b0 ∧ b0 < 9223372036854775808 := by
    have e1 : IntKind.i64.min ≤ b0 ∧ b0 ≤ IntKind.i64.max := by simpa [Lit.wf] using w0
    have e2 : IntKind.i64.min = -9223372036854775808 := by decide
    have e3 : IntKind.i64.max = 9223372036854775808 - 1 := by decide
    omega
  have w1 : -9223372036854775808 ≤ b1 ∧ b1 < 9223372036854775808 := by
    have e1 : IntKind.i64.min ≤ b1 ∧ b1 ≤ IntKind.i64.max := by simpa [Lit.wf] using w1
    have e2 : IntKind.i64.min = -9223372036854775808 := by decide
    have e3 : IntKind.i64.max = 9223372036854775808 - 1 := by decide
    omega
  have k2 := arg_slice (enc := enc) Try.underlying22 (by kernel_rfl) (by omega) tells_act (hval 2 _ v2 rfl rfl) h2
  rw [acts_eq] at k2
  refine (lruPlays_ctr b0 b1 (actsOf d2) (acts_ok hbulk.2.2) w0 w1 W (allOf W) #[.int .i64 b0, .int .i64 b1, v2] (fun b o h => h) ⟨fun _ => .any .., fun _ _ h => (by cases h), fun _ h => (by cases h)⟩ rfl (fun j hj => ?_)).mono fun e W' ⟨v, S', he, hr, hh⟩ => ?_
  · match j, hj with
    | 0, _ => exact .i ..
    | 1, _ => exact .i ..
    | 2, _ => exact k2
  · subst he
    cases hr
    exact ⟨_, rfl, law_post hW' rfl (by decide) rfl Try.underlying4 rfl (below_of_hist hh)⟩

theorem lruPlays_holds : Rows.LruPlaysUptoSaid :=
  OpenClaim.holds_of_cond 4 Try.f4 rfl rfl rfl rfl rfl rfl rfl ⟨rfl, rfl, rfl, rfl, rfl⟩ rfl rfl rfl rfl rfl (by kernel_rfl) Try.func4 (by kernel_rfl)
    (of_decide_eq_true (by kernel_rfl)) (by unfold Func.isWrapper; first | (rw [if_pos (by decide +kernel)]; kernel_rfl) | (rw [if_neg (by decide +kernel)]; exact ⟨rfl, rfl⟩))
    (fun os started H enc _ F => lruPlays_lifted os started H enc F)

end Go.Proofs.Ytghhohckonbkkaa
