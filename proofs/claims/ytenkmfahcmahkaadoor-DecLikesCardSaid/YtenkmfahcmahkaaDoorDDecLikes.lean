/- DecLikes is proved: whatever the two numbers and the power of ten, the call returns true and they read as they did, where Go's tables of UTF-8 and of powers of ten lie as the program's text lays them. -/
import Derived.Test.YtenkmfahcmahkaaDoorDD19
import Derived.Test.YtenkmfahcmahkaaDoorDLaidD
import Derived.Test.YtenkmfahcmahkaaDoorTie
import Derived.Test.YtenkmfahcmahkaaDoorCards
import Derived.OpenShut
import Derived.LaidMore
import Derived.SevenTiedAt
namespace Go.Proofs.YtenkmfahcmahkaaDoor
open Go.ChangeShapes Go.WideShapes Go.ChangeAt Go.RowKit Flow

set_option maxRecDepth 100000 in
theorem decLikes_lifted (os : Os) (started : os.Started) (H : Type) (enc : TypeId × Value → H) :
    ReturnsInHanded {} Tryd.checked os 11 .any (fun w args => (Rows.decLikesSpec.pre enc Tryd.prog Tryd.f11 Rows.decLikesRow.domain false w args ∧ laidMetH Tryd.prog seatLaid w) ∧ sizedMet enc Tryd.prog Tryd.f11 (OpenSpec.ofChange Rows.decLikesSpec) false w args)
      (Rows.decLikesSpec.post enc Tryd.prog Tryd.f11 false true false false) := by
  refine returnsInHanded_of_change_and (C := Tryd.checked) (X := fun w _ => laidMetH Tryd.prog seatLaid w) (fun _ _ _ hh h => h.of_heap hh) prog_own started (by kernel_rfl) Tryd.func11
    (ChangeSpec.witness_shaped (enc := enc) (C := Tryd.checked) (os := os) (X := fun w _ => laidMetH Tryd.prog seatLaid w) false (World.laidAll Tryd.prog os seatLaid) #[.int .i32 0, .int .i32 0, .int .i16 0] 8 (World.laidAll_os _ _ _)
      (World.shaped_of_ZipB (by kernel_rfl) (by kernel_rfl)) (by kernel_rfl) (by kernel_rfl) (by kernel_rfl)
      (by rw [MakeChecks.laidMetH_plain _ _ _ (by kernel_rfl)]; exact laidMet_laidAll _ (by kernel_rfl) (by kernel_rfl))) ?_
  intro W base args ds gs before hval0 hW _ _ hL _
  have hW' := hW
  obtain ⟨p, q, hA, hV, rfl, hfz, hnd⟩ := hW
  have hA1 : DataW.TrodAll enc Tryd.prog W 0 (fun _ => true) true Tryd.f11.params.toList args.toList ds p := hA
  have hval : ∀ (j : Nat) t v, Tryd.f11.params[j]? = some t → args[j]? = some v → Value.okWide Tryd.prog W .any base t v := hval0
  rw [Tryd.params11] at hA1 hval
  obtain ⟨v0, v1, v2, d0, d1, d2, p0, p1, p2, hargs, rfl, rfl, h0, h1, h2⟩ := trodAll_three hA1
  obtain rfl : args = #[v0, v1, v2] := by cases args; simp_all
  obtain ⟨rfl, rfl⟩ := trodVars_none hV
  obtain ⟨b0, rfl, rfl, rfl, w0⟩ := open_int Tryd.underlying21 (hval 0 _ v0 rfl rfl) h0
  have w0 : -2147483648 ≤ b0 ∧ b0 < 2147483648 := by
    have e1 : IntKind.i32.min ≤ b0 ∧ b0 ≤ IntKind.i32.max := by simpa [Lit.wf] using w0
    have e2 : IntKind.i32.min = -2147483648 := by decide
    have e3 : IntKind.i32.max = 2147483648 - 1 := by decide
    omega
  obtain ⟨b1, rfl, rfl, rfl, w1⟩ := open_int Tryd.underlying21 (hval 1 _ v1 rfl rfl) h1
  have w1 : -2147483648 ≤ b1 ∧ b1 < 2147483648 := by
    have e1 : IntKind.i32.min ≤ b1 ∧ b1 ≤ IntKind.i32.max := by simpa [Lit.wf] using w1
    have e2 : IntKind.i32.min = -2147483648 := by decide
    have e3 : IntKind.i32.max = 2147483648 - 1 := by decide
    omega
  obtain ⟨b2, rfl, rfl, rfl, w2⟩ := open_int Tryd.underlying51 (hval 2 _ v2 rfl rfl) h2
  have w2 : -32768 ≤ b2 ∧ b2 < 32768 := by
    have e1 : IntKind.i16.min ≤ b2 ∧ b2 ≤ IntKind.i16.max := by simpa [Lit.wf] using w2
    have e2 : IntKind.i16.min = -32768 := by decide
    have e3 : IntKind.i16.max = 32768 - 1 := by decide
    omega
  refine (law_likes_ctr b0 b1 b2 w0 w1 w2 W (allOf W) #[.int .i32 b0, .int .i32 b1, .int .i16 b2] (fun b o h => h) (gok_of_laid hL) rfl (fun j hj => ?_)).mono fun e W' ⟨v, S', he, hr, hh⟩ => ?_
  · match j, hj with
    | 0, _ => exact .i ..
    | 1, _ => exact .i ..
    | 2, _ => exact .i ..
  · subst he
    cases hr
    exact ⟨_, rfl, law_post hW' rfl (by decide) rfl Tryd.underlying4 rfl (below_of_hist hh)⟩

theorem decLikes_said : Rows.DecLikesSaid :=
  OpenClaim.holds_of_wide 11 Tryd.f11 rfl rfl rfl rfl rfl rfl rfl ⟨rfl, rfl, rfl, rfl, rfl⟩ rfl rfl rfl rfl rfl (by kernel_rfl) Tryd.func11 (by kernel_rfl)
    (of_decide_eq_true (by kernel_rfl)) (by unfold Func.isWrapper; first | (rw [if_pos (by decide +kernel)]; kernel_rfl) | (rw [if_neg (by decide +kernel)]; exact ⟨rfl, rfl⟩))
    (fun os started H enc _ => decLikes_lifted os started H enc)

theorem decLikes_holds : Rows.DecLikesCardSaid :=
  Claim7.holds_tied_plain_at .later [] Rows.decLikesCard.laidKinds true Rows.decLikesCard.stood.harness false decLikes_said (fun _ h => by cases h) (by kernel_rfl) (fun _ h => by cases h) decLikes_row_tie rfl ⟨rfl, rfl⟩ (by kernel_rfl) rfl
    (fun f fn hf hfn => by
      obtain rfl : f = 11 := Option.some.inj ((show Tryd.prog.funcNamed "portolan/portolanlaw16.DecLikes" = some 11 by kernel_rfl).symm.trans hf) |>.symm
      obtain rfl : fn = Tryd.f11 := (Option.some.inj (Tryd.func11.symm.trans hfn)).symm
      exact ⟨by kernel_rfl, fun j t ht => by
        rw [Tryd.params11] at ht
        have hm : t ∈ Tryd.f11.params.toList := by rw [Tryd.params11]; exact Array.mem_toList_iff.2 (Array.mem_of_getElem? ht)
        have hall : (Tryd.f11.params.toList.all fun u => !Tryd.prog.wantsStandIn u) = true := by kernel_rfl
        exact (show Tryd.prog.wantsStandIn t = false by simpa using List.all_eq_true.1 hall t hm)⟩)
    (by kernel_rfl)

end Go.Proofs.YtenkmfahcmahkaaDoor
