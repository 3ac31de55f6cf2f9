/- ReqOthers is proved where what it reads is of bulk at most 1048576: the call returns true and the bytes read as they did. -/
import Derived.Test.YtghdgjabpdfaoaaDoorO8
import Derived.Test.YtghdgjabpdfaoaaDoorO9
import Derived.Test.YtghdgjabpdfaoaaDoorTie
import Derived.Test.YtghdgjabpdfaoaaDoorCards
import Derived.OpenShut
import Derived.LaidMore
import Derived.SevenTiedAt
import Derived.Deep.DeepHandedRow
namespace Go.Proofs.YtghdgjabpdfaoaaDoor
open Go.ChangeShapes Go.WideShapes Go.ChangeAt Go.RowKit Flow

theorem reqOthers_reads (os : Os) {H : Type} (enc : TypeId × Value → H) : ∃ places, DataW.whole enc Tryd.prog ((World.laidAll Tryd.prog os seatLaid).forCall (fun _ _ => 0) ⟨#[], #[.slice none 0 0, .string ⟨#[]⟩, .string ⟨#[]⟩], []⟩).memory Tryd.f6.params.toList Rows.reqOthersSpec.vars false #[.slice none 0 0, .string ⟨#[]⟩, .string ⟨#[]⟩].toList 8 = some ([.nil, .lit (.string []), .lit (.string [])], [], places) :=
  ⟨[], by kernel_rfl⟩

set_option maxRecDepth 100000 in
theorem reqOthers_lifted (os : Os) (started : os.Started) (H : Type) (enc : TypeId × Value → H) (F : Stop.Interp) :
    ReturnsInHanded {} Tryd.checked os 6 .any ((Rows.OpenSpec.upto Rows.reqOthersSpec).preRow enc Tryd.prog Tryd.f6 Rows.reqOthersUptoRow.domain false seatLaid) (((Rows.OpenSpec.upto Rows.reqOthersSpec).at F).post enc Tryd.prog Tryd.f6 false true false false) := by
  obtain ⟨places, hx⟩ := reqOthers_reads os enc
  refine returnsInHanded_of_row (C := Tryd.checked) (s := Rows.OpenSpec.upto Rows.reqOthersSpec) prog_own started (by kernel_rfl) Tryd.func6
    (witness_row_at (enc := enc) (C := Tryd.checked) false (World.laidAll Tryd.prog os seatLaid) #[.slice none 0 0, .string ⟨#[]⟩, .string ⟨#[]⟩] (World.laidAll_os _ _ _) (by kernel_rfl) (by kernel_rfl) (by kernel_rfl)
      (OpenSpec.preRow_of_cond 8 hx (by kernel_rfl) (fun k hk => by cases hk; kernel_rfl) (by kernel_rfl) (by rw [MakeChecks.laidMetH_plain _ _ _ (by kernel_rfl)]; exact laidMet_laidAll _ (by kernel_rfl) (by kernel_rfl)))) ?_
  intro W base args ds gs before hval0 hW _ hcond _ hL hShape _
  have hW' := hW
  obtain ⟨p, q, hA, hV, rfl, hfz, hnd⟩ := hW
  have hA1 : DataW.TrodAll enc Tryd.prog W 0 (fun _ => true) true Tryd.f6.params.toList args.toList ds p := hA
  have hval : ∀ (j : Nat) t v, Tryd.f6.params[j]? = some t → args[j]? = some v → Value.okWide Tryd.prog W .any base t v := hval0
  rw [Tryd.params6] at hA1 hval
  obtain ⟨v0, vs0, d0, ds0, p0, q0, hargs0, rfl, rfl, h0, r0⟩ := trodAll_cons hA1
  obtain ⟨v1, vs1, d1, ds1, p1, q1, hargs1, rfl, rfl, h1, r1⟩ := trodAll_cons r0
  obtain ⟨v2, vs2, d2, ds2, p2, q2, hargs2, rfl, rfl, h2, r2⟩ := trodAll_cons r1
  obtain ⟨rfl, rfl, rfl⟩ := trodAll_nil r2
  obtain rfl : args = #[v0, v1, v2] := by cases args; simp_all
  obtain ⟨rfl, rfl⟩ := trodVars_none hV
  have hbulk : Rows.uptoBulk d0 ≤ 1048576 ∧ Rows.uptoBulk d1 ≤ 1048576 ∧ Rows.uptoBulk d2 ≤ 1048576 := by
    have h3 : Rows.uptoBulkAll ([d0, d1, d2] ++ []) ≤ 1048576 := of_decide_eq_true (hcond _ rfl)
    simp only [List.append_nil, Rows.uptoBulkAll] at h3
    omega
  obtain ⟨u0, u1, u2⟩ := hbulk
  have k0 := arg_octs (enc := enc) (hval 0 _ v0 rfl rfl) h0
  have k1 := arg_str Tryd.underlying9 (hval 1 _ v1 rfl rfl) h1
  have l1 : (strOf d1).length ≤ 1048576 := Nat.le_trans (bulk_str d1) u1
  have k2 := arg_str Tryd.underlying9 (hval 2 _ v2 rfl rfl) h2
  have l2 : (strOf d2).length ≤ 1048576 := Nat.le_trans (bulk_str d2) u2
  refine (reqOthers_ctr (octs d0) (strOf d1) (strOf d2) (octs_len u0) l1 l2 W (allOf W) #[v0, v1, v2] (fun b o h => h) (gok_of_shape hShape) rfl (fun j hj => ?_)).mono fun e W' ⟨v, S', he, hr, hh⟩ => ?_
  · match j, hj with
    | 0, _ => exact k0
    | 1, _ => exact k1
    | 2, _ => exact k2
  · subst he
    cases hr
    exact ⟨_, rfl, law_post hW' rfl (by decide) rfl Tryd.underlying4 rfl (below_of_hist hh)⟩

theorem reqOthers_said : Rows.ReqOthersUptoSaid :=
  OpenClaim.holds_of_cond 6 Tryd.f6 rfl rfl rfl rfl rfl rfl rfl ⟨rfl, rfl, rfl, rfl, rfl⟩ rfl rfl rfl rfl rfl (by kernel_rfl) Tryd.func6 (by kernel_rfl)
    (of_decide_eq_true (by kernel_rfl)) (by unfold Func.isWrapper; first | (rw [if_pos (by decide +kernel)]; kernel_rfl) | (rw [if_neg (by decide +kernel)]; exact ⟨rfl, rfl⟩))
    (fun os started H enc _ F => by rw [OpenClaim.pre_eq_preRow]; exact reqOthers_lifted os started H enc F)

theorem reqOthers_holds : Rows.ReqOthersUptoCardSaid :=
  Claim7.holds_tied_plain_at .later [] Rows.reqOthersUptoCard.laidKinds true Rows.reqOthersUptoCard.stood.harness false reqOthers_said (fun _ h => by cases h) (by kernel_rfl) (fun _ h => by cases h) reqOthersUpto_row_tie rfl ⟨rfl, rfl⟩ (by kernel_rfl) rfl
    (fun f fn hf hfn => by
      obtain rfl : f = 6 := Option.some.inj ((show Tryd.prog.funcNamed "portolan/portolanlaw33.ReqOthers" = some 6 by kernel_rfl).symm.trans hf) |>.symm
      obtain rfl : fn = Tryd.f6 := (Option.some.inj (Tryd.func6.symm.trans hfn)).symm
      exact ⟨by kernel_rfl, fun j t ht => by
        rw [Tryd.params6] at ht
        have hm : t ∈ Tryd.f6.params.toList := by rw [Tryd.params6]; exact Array.mem_toList_iff.2 (Array.mem_of_getElem? ht)
        have hall : (Tryd.f6.params.toList.all fun u => !Tryd.prog.wantsStandIn u) = true := by kernel_rfl
        exact (show Tryd.prog.wantsStandIn t = false by simpa using List.all_eq_true.1 hall t hm)⟩)
    (by kernel_rfl)

end Go.Proofs.YtghdgjabpdfaoaaDoor
