/- THE TIED CARD OF ServeAnswers. -/
import Derived.Test.YtkkaamhocpmhkaaGreatDoorSA21
import Derived.Test.YtkkaamhocpmhkaaGreatDoorSA23
import Derived.Test.YtkkaamhocpmhkaaGreatDoorTie
import Derived.Test.YtkkaamhocpmhkaaGreatDoorCards
import Derived.OpenShut
import Derived.LaidMore
import Derived.SevenTiedAt
import Derived.Deep.DeepHandedRow
namespace Go.Proofs.YtkkaamhocpmhkaaGreatDoor
open Go.ChangeShapes Go.WideShapes Go.ChangeAt Go.RowKit Flow

theorem serveAnswers_reads (os : Os) {H : Type} (enc : TypeId × Value → H) : ∃ places, DataW.whole enc Tryz.prog ((World.laidAll Tryz.prog os seatLaid).forCall (fun _ _ => 0) ⟨#[], #[.agg #[.string ⟨#[]⟩, .string ⟨#[]⟩, .bool false, .bool false, .slice none 0 0], .slice none 0 0, .string ⟨#[]⟩, .int .i64 0, .agg #[.int .i64 0, .slice none 0 0, .slice none 0 0]], []⟩).memory Tryz.f6.params.toList Rows.serveAnswersSpec.vars false #[.agg #[.string ⟨#[]⟩, .string ⟨#[]⟩, .bool false, .bool false, .slice none 0 0], .slice none 0 0, .string ⟨#[]⟩, .int .i64 0, .agg #[.int .i64 0, .slice none 0 0, .slice none 0 0]].toList 8 = some ([.agg [.lit (.string []), .lit (.string []), .lit (.bool false), .lit (.bool false), .nil], .nil, .lit (.string []), .lit (.int .i64 0), .agg [.lit (.int .i64 0), .nil, .nil]], [], places) :=
  ⟨[], by kernel_rfl⟩

set_option maxRecDepth 100000 in
theorem serveAnswers_lifted (os : Os) (started : os.Started) (H : Type) (enc : TypeId × Value → H) (F : Stop.Interp) :
    ReturnsInHanded {} Tryz.checked os 6 .any ((Rows.OpenSpec.upto Rows.serveAnswersSpec).preRow enc Tryz.prog Tryz.f6 Rows.serveAnswersUptoRow.domain false seatLaid) (((Rows.OpenSpec.upto Rows.serveAnswersSpec).at F).post enc Tryz.prog Tryz.f6 false true false false) := by
  obtain ⟨places, hx⟩ := serveAnswers_reads os enc
  refine returnsInHanded_of_row (C := Tryz.checked) (s := Rows.OpenSpec.upto Rows.serveAnswersSpec) zkm started (by kernel_rfl) Tryz.func6
    (witness_row_at (enc := enc) (C := Tryz.checked) false (World.laidAll Tryz.prog os seatLaid) #[.agg #[.string ⟨#[]⟩, .string ⟨#[]⟩, .bool false, .bool false, .slice none 0 0], .slice none 0 0, .string ⟨#[]⟩, .int .i64 0, .agg #[.int .i64 0, .slice none 0 0, .slice none 0 0]] (World.laidAll_os _ _ _) (by kernel_rfl) (by kernel_rfl) (by kernel_rfl)
      (OpenSpec.preRow_of_cond 8 hx (by kernel_rfl) (fun k hk => by cases hk; kernel_rfl) (by kernel_rfl) (by rw [MakeChecks.laidMetH_plain _ _ _ (by kernel_rfl)]; exact laidMet_laidAll _ (by kernel_rfl) (by kernel_rfl)))) ?_
  intro W base args ds gs before hval0 hW _ hcond _ hL hShape _
  have hW' := hW
  obtain ⟨p, q, hA, hV, rfl, hfz, hnd⟩ := hW
  have hA1 : DataW.TrodAll enc Tryz.prog W 0 (fun _ => true) true Tryz.f6.params.toList args.toList ds p := hA
  have hval : ∀ (j : Nat) t v, Tryz.f6.params[j]? = some t → args[j]? = some v → Value.okWide Tryz.prog W .any base t v := hval0
  rw [Tryz.params6] at hA1 hval
  obtain ⟨v0, vs0, d0, ds0, p0, q0, hargs0, rfl, rfl, h0, r0⟩ := trodAll_cons hA1
  obtain ⟨v1, vs1, d1, ds1, p1, q1, hargs1, rfl, rfl, h1, r1⟩ := trodAll_cons r0
  obtain ⟨v2, vs2, d2, ds2, p2, q2, hargs2, rfl, rfl, h2, r2⟩ := trodAll_cons r1
  obtain ⟨v3, vs3, d3, ds3, p3, q3, hargs3, rfl, rfl, h3, r3⟩ := trodAll_cons r2
  obtain ⟨v4, vs4, d4, ds4, p4, q4, hargs4, rfl, rfl, h4, r4⟩ := trodAll_cons r3
  obtain ⟨rfl, rfl, rfl⟩ := trodAll_nil r4
  obtain rfl : args = #[v0, v1, v2, v3, v4] := by cases args; simp_all
  obtain ⟨rfl, rfl⟩ := trodVars_none hV
  have hbulk : Rows.uptoBulk d0 ≤ 1048576 ∧ Rows.uptoBulk d1 ≤ 1048576 ∧ Rows.uptoBulk d2 ≤ 1048576 ∧ Rows.uptoBulk d3 ≤ 1048576 ∧ Rows.uptoBulk d4 ≤ 1048576 := by
    have h3 : Rows.uptoBulkAll ([d0, d1, d2, d3, d4] ++ []) ≤ 1048576 := of_decide_eq_true (hcond _ rfl)
    simp only [List.append_nil, Rows.uptoBulkAll] at h3
    omega
  obtain ⟨u0, u1, u2, u3, u4⟩ := hbulk
  have k0 := zkQ (enc := enc) (hval 0 _ v0 rfl rfl) h0
  have k1 := zkv (enc := enc) (hval 1 _ v1 rfl rfl) h1
  have k2 := zlQ Tryz.underlying9 (hval 2 _ v2 rfl rfl) h2
  have l2 : (strOf d2).length ≤ 1048576 := Nat.le_trans (zdh d2) u2
  obtain ⟨b3, rfl, rfl, rfl, w3⟩ := open_int Tryz.underlying3 (hval 3 _ v3 rfl rfl) h3
  have w3 : -9223372036854775808 ≤ b3 ∧ b3 < 9223372036854775808 := by
    have e1 : IntKind.i64.min ≤ b3 ∧ b3 ≤ IntKind.i64.max := by simpa [Lit.wf] using w3
    have e2 : IntKind.i64.min = -9223372036854775808 := by decide
    have e3 : IntKind.i64.max = 9223372036854775808 - 1 := by decide
    omega
  have k4 := zkZ (enc := enc) (hval 4 _ v4 rfl rfl) h4
  refine (zeF (reqOf d0) (octs d1) (strOf d2) b3 (rspOf d4) (zgW u1) l2 (zlm u0) (zkq u4) W (allOf W) #[v0, v1, v2, .int .i64 b3, v4] (fun b o h => h) (zgc hL (zfK hShape)) rfl (fun j hj => ?_)).mono fun e W' ⟨v, S', he, hr, hh⟩ => ?_
  · match j, hj with
    | 0, _ => exact k0
    | 1, _ => exact k1
    | 2, _ => exact k2
    | 3, _ => exact .i ..
    | 4, _ => exact k4
  · subst he
    cases hr
    exact ⟨_, rfl, zku hW' rfl (by decide) rfl Tryz.underlying4 rfl (zeP hh)⟩

theorem serveAnswers_said : Rows.ServeAnswersUptoSaid :=
  OpenClaim.holds_of_cond 6 Tryz.f6 rfl rfl rfl rfl rfl rfl rfl ⟨rfl, rfl, rfl, rfl, rfl⟩ rfl rfl rfl rfl rfl (by kernel_rfl) Tryz.func6 (by kernel_rfl)
    (of_decide_eq_true (by kernel_rfl)) (by unfold Func.isWrapper; first | (rw [if_pos (by decide +kernel)]; kernel_rfl) | (rw [if_neg (by decide +kernel)]; exact ⟨rfl, rfl⟩))
    (fun os started H enc _ F => by rw [OpenClaim.pre_eq_preRow]; exact serveAnswers_lifted os started H enc F)

theorem serveAnswers_holds : Rows.ServeAnswersUptoCardSaid :=
  Claim7.holds_tied_plain_at .later [] Rows.serveAnswersUptoCard.laidKinds true Rows.serveAnswersUptoCard.stood.harness false serveAnswers_said (fun _ h => by cases h) (by kernel_rfl) (fun _ h => by cases h) serveAnswersUpto_row_tie rfl ⟨rfl, rfl⟩ (by kernel_rfl) rfl
    (fun f fn hf hfn => by
      obtain rfl : f = 6 := Option.some.inj ((show Tryz.prog.funcNamed "portolan/portolanlaw35.ServeAnswers" = some 6 by kernel_rfl).symm.trans hf) |>.symm
      obtain rfl : fn = Tryz.f6 := (Option.some.inj (Tryz.func6.symm.trans hfn)).symm
      exact ⟨by kernel_rfl, fun j t ht => by
        rw [Tryz.params6] at ht
        have hm : t ∈ Tryz.f6.params.toList := by rw [Tryz.params6]; exact Array.mem_toList_iff.2 (Array.mem_of_getElem? ht)
        have hall : (Tryz.f6.params.toList.all fun u => !Tryz.prog.wantsStandIn u) = true := by kernel_rfl
        exact (show Tryz.prog.wantsStandIn t = false by simpa using List.all_eq_true.1 hall t hm)⟩)
    (by kernel_rfl)

end Go.Proofs.YtkkaamhocpmhkaaGreatDoor
