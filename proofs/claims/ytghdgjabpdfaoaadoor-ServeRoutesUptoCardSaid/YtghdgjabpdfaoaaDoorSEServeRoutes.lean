/- ServeRoutes is proved where what it reads is of bulk at most 1048576: the call returns true and the path and the body read as they did, where Go's tables (of UTF-8, of powers of ten, of the zeros of powers of two) lie as the program's text lays them. -/
import Derived.Test.YtghdgjabpdfaoaaDoorS7
import Derived.Test.YtghdgjabpdfaoaaDoorTie
import Derived.Test.YtghdgjabpdfaoaaDoorCards
import Derived.OpenShut
import Derived.LaidMore
import Derived.SevenTiedAt
import Derived.Deep.DeepHandedRow
namespace Go.Proofs.YtghdgjabpdfaoaaDoor
open Go.ChangeShapes Go.WideShapes Go.ChangeAt Go.RowKit Flow

theorem serveRoutes_reads (os : Os) {H : Type} (enc : TypeId × Value → H) : ∃ places, DataW.whole enc Tryd.prog ((World.laidAll Tryd.prog os seatLaid).forCall (fun _ _ => 0) ⟨#[], #[.string ⟨#[]⟩, .slice none 0 0, .bool false, .int .i64 0], []⟩).memory Tryd.f3.params.toList Rows.serveRoutesSpec.vars false #[.string ⟨#[]⟩, .slice none 0 0, .bool false, .int .i64 0].toList 8 = some ([.lit (.string []), .nil, .lit (.bool false), .lit (.int .i64 0)], [], places) :=
  ⟨[], by kernel_rfl⟩

set_option maxRecDepth 100000 in
theorem serveRoutes_lifted (os : Os) (started : os.Started) (H : Type) (enc : TypeId × Value → H) (F : Stop.Interp) :
    ReturnsInHanded {} Tryd.checked os 3 .any ((Rows.OpenSpec.upto Rows.serveRoutesSpec).preRow enc Tryd.prog Tryd.f3 Rows.serveRoutesUptoRow.domain false seatLaid) (((Rows.OpenSpec.upto Rows.serveRoutesSpec).at F).post enc Tryd.prog Tryd.f3 false true false false) := by
  obtain ⟨places, hx⟩ := serveRoutes_reads os enc
  refine returnsInHanded_of_row (C := Tryd.checked) (s := Rows.OpenSpec.upto Rows.serveRoutesSpec) prog_own started (by kernel_rfl) Tryd.func3
    (witness_row_at (enc := enc) (C := Tryd.checked) false (World.laidAll Tryd.prog os seatLaid) #[.string ⟨#[]⟩, .slice none 0 0, .bool false, .int .i64 0] (World.laidAll_os _ _ _) (by kernel_rfl) (by kernel_rfl) (by kernel_rfl)
      (OpenSpec.preRow_of_cond 8 hx (by kernel_rfl) (fun k hk => by cases hk; kernel_rfl) (by kernel_rfl) (by rw [MakeChecks.laidMetH_plain _ _ _ (by kernel_rfl)]; exact laidMet_laidAll _ (by kernel_rfl) (by kernel_rfl)))) ?_
  intro W base args ds gs before hval0 hW _ hcond _ hL hShape _
  have hW' := hW
  obtain ⟨p, q, hA, hV, rfl, hfz, hnd⟩ := hW
  have hA1 : DataW.TrodAll enc Tryd.prog W 0 (fun _ => true) true Tryd.f3.params.toList args.toList ds p := hA
  have hval : ∀ (j : Nat) t v, Tryd.f3.params[j]? = some t → args[j]? = some v → Value.okWide Tryd.prog W .any base t v := hval0
  rw [Tryd.params3] at hA1 hval
  obtain ⟨v0, vs0, d0, ds0, p0, q0, hargs0, rfl, rfl, h0, r0⟩ := trodAll_cons hA1
  obtain ⟨v1, vs1, d1, ds1, p1, q1, hargs1, rfl, rfl, h1, r1⟩ := trodAll_cons r0
  obtain ⟨v2, vs2, d2, ds2, p2, q2, hargs2, rfl, rfl, h2, r2⟩ := trodAll_cons r1
  obtain ⟨v3, vs3, d3, ds3, p3, q3, hargs3, rfl, rfl, h3, r3⟩ := trodAll_cons r2
  obtain ⟨rfl, rfl, rfl⟩ := trodAll_nil r3
  obtain rfl : args = #[v0, v1, v2, v3] := by cases args; simp_all
  obtain ⟨rfl, rfl⟩ := trodVars_none hV
  have hbulk : Rows.uptoBulk d0 ≤ 1048576 ∧ Rows.uptoBulk d1 ≤ 1048576 ∧ Rows.uptoBulk d2 ≤ 1048576 ∧ Rows.uptoBulk d3 ≤ 1048576 := by
    have h3 : Rows.uptoBulkAll ([d0, d1, d2, d3] ++ []) ≤ 1048576 := of_decide_eq_true (hcond _ rfl)
    simp only [List.append_nil, Rows.uptoBulkAll] at h3
    omega
  obtain ⟨u0, u1, u2, u3⟩ := hbulk
  have k0 := arg_str Tryd.underlying9 (hval 0 _ v0 rfl rfl) h0
  have l0 : (strOf d0).length ≤ 1048576 := Nat.le_trans (bulk_str d0) u0
  have k1 := arg_octs (enc := enc) (hval 1 _ v1 rfl rfl) h1
  have k2 := arg_bool Tryd.underlying4 (hval 2 _ v2 rfl rfl) h2
  obtain ⟨b3, rfl, rfl, rfl, w3⟩ := open_int Tryd.underlying3 (hval 3 _ v3 rfl rfl) h3
  have w3 : -9223372036854775808 ≤ b3 ∧ b3 < 9223372036854775808 := by
    have e1 : IntKind.i64.min ≤ b3 ∧ b3 ≤ IntKind.i64.max := by simpa [Lit.wf] using w3
    have e2 : IntKind.i64.min = -9223372036854775808 := by decide
    have e3 : IntKind.i64.max = 9223372036854775808 - 1 := by decide
    omega
  refine (serveRoutes_ctr (strOf d0) (octs d1) (boolOf d2) b3 l0 (octs_len u1) W (allOf W) #[v0, v1, v2, .int .i64 b3] (fun b o h => h) (gok_of_laid hL hShape) rfl (fun j hj => ?_)).mono fun e W' ⟨v, S', he, hr, hh⟩ => ?_
  · match j, hj with
    | 0, _ => exact k0
    | 1, _ => exact k1
    | 2, _ => exact k2
    | 3, _ => exact .i ..
  · subst he
    cases hr
    exact ⟨_, rfl, law_post hW' rfl (by decide) rfl Tryd.underlying4 rfl (below_of_hist hh)⟩

theorem serveRoutes_said : Rows.ServeRoutesUptoSaid :=
  OpenClaim.holds_of_cond 3 Tryd.f3 rfl rfl rfl rfl rfl rfl rfl ⟨rfl, rfl, rfl, rfl, rfl⟩ rfl rfl rfl rfl rfl (by kernel_rfl) Tryd.func3 (by kernel_rfl)
    (of_decide_eq_true (by kernel_rfl)) (by unfold Func.isWrapper; first | (rw [if_pos (by decide +kernel)]; kernel_rfl) | (rw [if_neg (by decide +kernel)]; exact ⟨rfl, rfl⟩))
    (fun os started H enc _ F => by rw [OpenClaim.pre_eq_preRow]; exact serveRoutes_lifted os started H enc F)

theorem serveRoutes_holds : Rows.ServeRoutesUptoCardSaid :=
  Claim7.holds_tied_plain_at .later [] Rows.serveRoutesUptoCard.laidKinds true Rows.serveRoutesUptoCard.stood.harness false serveRoutes_said (fun _ h => by cases h) (by kernel_rfl) (fun _ h => by cases h) serveRoutesUpto_row_tie rfl ⟨rfl, rfl⟩ (by kernel_rfl) rfl
    (fun f fn hf hfn => by
      obtain rfl : f = 3 := Option.some.inj ((show Tryd.prog.funcNamed "portolan/portolanlaw35.ServeRoutes" = some 3 by kernel_rfl).symm.trans hf) |>.symm
      obtain rfl : fn = Tryd.f3 := (Option.some.inj (Tryd.func3.symm.trans hfn)).symm
      exact ⟨by kernel_rfl, fun j t ht => by
        rw [Tryd.params3] at ht
        have hm : t ∈ Tryd.f3.params.toList := by rw [Tryd.params3]; exact Array.mem_toList_iff.2 (Array.mem_of_getElem? ht)
        have hall : (Tryd.f3.params.toList.all fun u => !Tryd.prog.wantsStandIn u) = true := by kernel_rfl
        exact (show Tryd.prog.wantsStandIn t = false by simpa using List.all_eq_true.1 hall t hm)⟩)
    (by kernel_rfl)

end Go.Proofs.YtghdgjabpdfaoaaDoor
