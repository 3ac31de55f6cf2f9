/- The texts FlowXd, FlowXe, G12, G13, J2, D4, D5, one behind the other. -/
import Derived.Test.YtcajofhafpkbdaaGreatDoorCQ11
import Derived.Test.YtcajofhafpkbdaaGreatDoorCQ12
import Derived.Test.YtcajofhafpkbdaaGreatDoorCQ13
import Derived.Test.YtcajofhafpkbdaaGreatDoorCQ15
import Derived.Shelf.Spec.SlicesGrow
import Derived.Lib.Bytealg
namespace Go.Proofs.YtcajofhafpkbdaaGreatDoor.Flow
open Go
def D.okS (ks : List Nat) : D → Bool
  | .ag cs => cs.all (D.okIn ks)
  | d => d.okIn ks
def lendS (ids : List Nat) : D → D
  | .ag cs => .ag (cs.map (lendA ids))
  | d => lendA ids d
theorem Rel.lendA {S : Cells} {w : World} {r : Rho} {d : D} {v : Value} (ids : List Nat) (h : Rel S w r d v) : Rel S w r (lendA ids d) v := by
  cases d with
  | gs k z m g =>
    simp only [Flow.lendA]
    split
    · exact h
    · exact h.shut
  | _ => exact h
theorem Rel.lendS {S : Cells} {w : World} {r : Rho} {d : D} {v : Value} (ids : List Nat) (h : Rel S w r d v) : Rel S w r (lendS ids d) v := by
  cases d with
  | ag cs =>
    cases h with
    | ag _ _ vs hn h =>
      refine .ag _ _ vs (by simpa using hn) fun j hj => ?_
      have hj' : j < cs.length := by simpa using hj
      have e : (cs.map (Flow.lendA ids)).getD j .any = Flow.lendA ids (cs.getD j .any) := by simp [List.getD_eq_getElem?_getD, hj']
      rw [e]
      exact (h j hj').lendA ids
  | _ => exact h.lendA ids
theorem Rel.okS {S : Cells} {w : World} {r : Rho} {d : D} {v : Value} (h : Rel S w r d v) {ks : List Nat} (hk : d.okS ks = true) : Rel S w (keepR r ks) d v := by
  cases d with
  | ag cs =>
    cases h with
    | ag _ _ vs hn h =>
      refine .ag _ _ vs hn fun j hj => (h j hj).okIn ?_
      have hk' : cs.all (D.okIn ks) = true := hk
      rw [List.all_eq_true] at hk'
      refine hk' _ ?_
      simp only [List.getD_eq_getElem?_getD, List.getElem?_eq_getElem hj, Option.getD_some]
      exact List.getElem_mem hj
  | _ => exact h.okIn hk
section
variable {P : Program} {X : Ctx} {n : Nat} {fr : Fr} {ow ow' : Ow} {d : D}
theorem zlY {o : Oper} {f : FuncId} {args : List D} {lo lo' : Ow} {ids ids2 : List Nat} (hP : ∀ vs w, (callFunc f vs).run P w = .ok (.enter f vs) w) (hc : callOf fr o.op = some (f, args)) (hk : hasAll (fun k => look k ow) lo)
    (hi1 : lo.map (·.1) = ids) (hi2 : lo'.map (·.1) = ids2) (hnd : ids2.Nodup) (hsub : ∀ k ∈ ids, k ∈ ids2) (hnew : ∀ k ∈ ids2, k ∉ ids → look k ow = none)
    (hok : (args.map (lendS ids)).all (D.okS ids) = true) (hf1 : lo.all (fun x => x.2.okIn ids) = true) (hf2 : lo'.all (fun x => x.2.okIn ids2) = true) (hf3 : d.okS ids2 = true)
    (hC : CtrO P f (args.map (lendS ids)) lo d lo') (hd : dstOk o.dst n) :
    ∀ F' O', (∀ x ∈ o.op.operands.toList, evF F' x = evF (fF fr) x) → (∀ j ∈ ids2, O' j = fO ow j) → StepAt P X n o F' O' d lo' := by
  intro F' O' he hO a w K' Q' ⟨S, r, hH, hI, hF, hdf, hn, hρ⟩ hK
  obtain ⟨vs, hrun, hsz, hrel⟩ := zch hP hc he (fun x => zcq hH.glob hF x)
  have hOk : ∀ k o, look k lo = some o → O' k = some o := fun k o h => by
    have hm : k ∈ ids := by rw [← hi1]; exact List.mem_map.2 ⟨(k, o), zaN h, rfl⟩
    exact (hO k (hsub k hm)).trans (zbL hk k o h)
  have hmem : ∀ k, k ∈ ids → ∃ o, look k lo = some o := fun k h => zbd (by rw [hi1]; exact h)
  have hmem' : ∀ k, k ∈ ids2 → ∃ o, look k lo' = some o := fun k h => zbd (by rw [hi2]; exact h)
  have hin : ∀ k o, look k lo = some o → k ∈ ids ∧ o.okIn ids = true := fun k o h => by
    have h1 := zaN h
    rw [List.all_eq_true] at hf1
    exact ⟨by rw [← hi1]; exact List.mem_map.2 ⟨(k, o), h1, rfl⟩, hf1 _ h1⟩
  have hin' : ∀ k o, look k lo' = some o → k ∈ ids2 ∧ o.okIn ids2 = true := fun k o h => by
    have h1 := zaN h
    rw [List.all_eq_true] at hf2
    exact ⟨by rw [← hi2]; exact List.mem_map.2 ⟨(k, o), h1, rfl⟩, hf2 _ h1⟩
  have hblt : ∀ k l b, r k = some l → l.block = some b → b < w.heap.size := fun k l b hl hb => by
    cases ho : O' k with
    | none => rw [hI.dom k ho] at hl; cases hl
    | some o => exact (hI.obj k o ho).blockLt hl hb
  let X' : Ctx := { w0 := w, S0 := S, L := fun b => ∃ k ∈ ids, ∃ l, r k = some l ∧ l.block = some b, r0 := keepR r ids, ids := ids }
  have hH' : Hist X' w S := ⟨rfl, rfl, rfl, Nat.le_refl _, fun _ _ _ => rfl, fun _ _ h => h, fun _ _ _ => rfl, fun _ _ h => .inl h, hH.valid, hH.glob⟩
  have hI' : Inv X' w S X'.r0 (fO lo) := by
    refine ⟨fun k o hk' => ?_, fun k hk' => ?_, fun i j l l' b' hij hl hl' hb' => ?_, fun k l b' hl hb' => ?_⟩
    · obtain ⟨h1, h2⟩ := hin k o hk'
      exact (hI.obj k o (hOk k o hk')).okIn h2 (RhoLe.refl _) (if_pos h1)
    · refine if_neg fun hm => ?_
      obtain ⟨o, ho⟩ := hmem k hm
      rw [show fO lo k = look k lo from rfl, ho] at hk'
      cases hk'
    · have hl : keepR r ids i = some l := hl
      have hl' : keepR r ids j = some l' := hl'
      simp only [keepR] at hl hl'
      split at hl <;> first | (cases hl; done) | skip
      split at hl' <;> first | (cases hl'; done) | skip
      exact hI.apart i j l l' b' hij hl hl' hb'
    · have hl : keepR r ids k = some l := hl
      simp only [keepR] at hl
      split at hl <;> first | (cases hl; done) | skip
      rename_i hm
      exact .inr ⟨k, hm, l, hl, hb'⟩
  have hrel' : ∀ j, j < (args.map (lendS ids)).length → Rel S w X'.r0 ((args.map (lendS ids)).getD j .any) (vs.getD j undef) := by
    intro j hj
    have hj' : j < args.length := by simpa using hj
    have e : (args.map (lendS ids)).getD j .any = lendS ids (args.getD j .any) := by simp [List.getD_eq_getElem?_getD, hj']
    have hokj : (lendS ids (args.getD j .any)).okS ids = true := by
      rw [← e]
      rw [List.all_eq_true] at hok
      refine hok _ ?_
      simp only [List.getD_eq_getElem?_getD, List.getElem?_eq_getElem hj, Option.getD_some]
      exact List.getElem_mem hj
    rw [e]
    exact ((hrel j hj').lendS ids).okS hokj
  refine OW.enter hrun ((hC X' vs hi1.symm hH' hI' (by simpa using hsz) hrel').mono ?_)
  rintro e w' ⟨v, S', r', rfl, g1, g2, g3, g4⟩
  let r2 : Rho := fun k => if k ∈ ids2 then r' k else r k
  have hr2 : RhoLe r r2 := fun k l hl => by
    by_cases hm : k ∈ ids2
    · have hm0 : k ∈ ids := by
        rcases Classical.em (k ∈ ids) with h | h
        · exact h
        · have h0 : O' k = none := (hO k hm).trans (hnew k hm h)
          rw [hI.dom k h0] at hl
          cases hl
      obtain ⟨l', h1, h2⟩ := g4 k l (by show keepR r ids k = some l; rw [keepR, if_pos hm0]; exact hl)
      exact ⟨l', by show (if k ∈ ids2 then r' k else r k) = some l'; rw [if_pos hm]; exact h1, h2⟩
    · exact ⟨l, by show (if k ∈ ids2 then r' k else r k) = some l; rw [if_neg hm]; exact hl, LocLe.refl l⟩
  have hr3 : RhoLe (keepR r' ids2) r2 := fun k l hl => by
    simp only [keepR] at hl
    split at hl <;> first | (cases hl; done) | skip
    rename_i hm
    exact ⟨l, by show (if k ∈ ids2 then r' k else r k) = some l; rw [if_pos hm]; exact hl, LocLe.refl l⟩
  have hXL : ∀ b, X'.L b → X.w0.heap.size ≤ b ∨ X.L b := fun b ⟨k, _, l, hl, hb⟩ => hI.low k l b hl hb
  have hother : ∀ k l b, k ∉ ids2 → r k = some l → l.block = some b → ¬ X'.L b := fun k l b hm hl hb ⟨k', hm', l', hl', hb'⟩ =>
    hI.apart k k' l l' b (fun e => hm (e ▸ hsub k' hm')) hl hl' hb hb'
  refine hK v w' ⟨S', r2, ?_, ?_, zcx (fun t => (hF t).mono g2.sub g2.cell r2 hr2) (hn ▸ hd) ((g1.okS hf3).mono (fun _ _ h => h) (fun _ _ _ => rfl) r2 hr3), by rw [zbk]; exact hdf, by rw [zbP]; exact hn, hρ.trans hr2⟩
  · refine ⟨g2.os.trans hH.os, g2.tape.trans hH.tape, g2.output.trans hH.output, Nat.le_trans hH.size g2.size, fun k hk' hl => ?_, fun b o hb => g2.sub b o (hH.sub b o hb), fun b o hb => (g2.cell b o (hH.sub b o hb)).trans (hH.cell b o hb), fun b o hb => ?_, g2.valid, g2.glob⟩
    · refine (g2.block k (Nat.lt_of_lt_of_le hk' hH.size) fun hx => ?_).trans (hH.block k hk' hl)
      rcases hXL k hx with h | h
      · omega
      · exact hl h
    · rcases g2.new b o hb with h | h | h
      · exact hH.new b o h
      · exact .inr (.inl (Nat.le_trans hH.size h))
      · rcases hXL b h with h | h
        · exact .inr (.inl h)
        · exact .inr (.inr h)
  · have hnd' : (lo'.map (·.1)).Nodup := by rw [hi2]; exact hnd
    have hup : ∀ k, k ∉ ids2 → updO O' lo' k = O' k := fun k hm => by
      rw [zaS hnd', zbc (by rw [hi2]; exact hm)]
    refine ⟨fun k o hk' => ?_, fun k hk' => ?_, fun i j l l' b hij hl hl' hb => ?_, fun k l b hl hb => ?_⟩
    · by_cases hm : k ∈ ids2
      · obtain ⟨o', ho'⟩ := hmem' k hm
        rw [zaS hnd', ho'] at hk'
        obtain rfl : o' = o := Option.some.inj hk'
        exact (g3.obj k o' ho').okIn (hin' k o' ho').2 hr3 (if_pos hm)
      · rw [hup k hm] at hk'
        refine (hI.obj k o hk').keepL g2.sub g2.cell hr2 (if_neg hm) (fun l b hl hb => g2.block b (hblt k l b hl hb) (hother k l b hm hl hb)) (fun b o hs => ?_)
        rcases g2.new b o hs with h | h | h
        · exact .inl h
        · refine .inr fun l hl hb => ?_
          have := hblt k l b hl hb
          have h : w.heap.size ≤ b := h
          omega
        · exact .inr fun l hl hb => hother k l b hm hl hb h
    · by_cases hm : k ∈ ids2
      · obtain ⟨o', ho'⟩ := hmem' k hm
        rw [zaS hnd', ho'] at hk'
        cases hk'
      · rw [hup k hm] at hk'
        exact (if_neg hm).trans (hI.dom k hk')
    · have hl : (if i ∈ ids2 then r' i else r i) = some l := hl
      have hl' : (if j ∈ ids2 then r' j else r j) = some l' := hl'
      by_cases h1 : i ∈ ids2
      · rw [if_pos h1] at hl
        by_cases h2 : j ∈ ids2
        · rw [if_pos h2] at hl'
          exact g3.apart i j l l' b hij hl hl' hb
        · rw [if_neg h2] at hl'
          intro hb'
          rcases g3.low i l b hl hb with h | h
          · have := hblt j l' b hl' hb'
            have h : w.heap.size ≤ b := h
            omega
          · exact hother j l' b h2 hl' hb' h
      · rw [if_neg h1] at hl
        by_cases h2 : j ∈ ids2
        · rw [if_pos h2] at hl'
          intro hb'
          rcases g3.low j l' b hl' hb' with h | h
          · have := hblt i l b hl hb
            have h : w.heap.size ≤ b := h
            omega
          · exact hother i l b h1 hl hb h
        · rw [if_neg h2] at hl'
          exact hI.apart i j l l' b hij hl hl' hb
    · have hl : (if k ∈ ids2 then r' k else r k) = some l := hl
      by_cases h1 : k ∈ ids2
      · rw [if_pos h1] at hl
        rcases g3.low k l b hl hb with h | h
        · exact .inl (Nat.le_trans hH.size h)
        · exact hXL b h
      · rw [if_neg h1] at hl
        exact hI.low k l b hl hb
def resS (B : Tb) (fr : Fr) (ow : Ow) (rs : List ResultVar) : Option D :=
  match rs with
  | [.cell a t] => match getD' a fr with
    | .pv k off => match look k ow, B.sz t with
      | some (.var cs), some z => match z.2 with
        | true => match Nat.beq off 0 && Nat.beq z.1 cs.length with
          | true => fz (.ag cs) some
          | false => none
        | false => none
      | _, _ => none
    | _ => none
  | rs => resU B fr ow rs
theorem zjs {fn : Func} {a : Act} {w : World} {S : Cells} {r : Rho} {d : D} {rs : List ResultVar} (hrs : fn.results = ⟨rs⟩) (hI : Inv X w S r (fO ow)) (hF : ∀ t, Rel S w r (fF fr t) (a.tmps.getD t undef)) (h : resS (tb P) fr ow rs = some d) :
    ∃ v, (results fn a.tmps).run P w = .ok v w ∧ Rel S w r d v := by
  unfold resS at h
  split at h
  · rename_i x t
    simp only [zea] at h
    split at h <;> first | (cases h; done) | skip
    rename_i k off hx
    split at h <;> first | (cases h; done) | skip
    rename_i cs z hk hz
    have hv := hF x
    rw [show fF fr x = .pv k off from hx] at hv
    generalize hav : a.tmps.getD x undef = av at hv
    cases hv with
    | pv _ _ _ b hb =>
      obtain ⟨b', cur, e', g1, g2, g3, g4, g5⟩ := hI.obj k _ hk
      rw [hb] at g1
      cases g1
      have hcell : ∀ j, j < cs.length → w.cell? ⟨b, 0 + j, none⟩ = some (cur.getD j undef) := fun j hj => by
        rw [Nat.zero_add, cell_of_row w b j cur e' (0, 0) g2]
        have : j < cur.size := by omega
        simp [Array.getD_eq_getD_getElem?, this]
      split at h <;> first | (cases h; done) | skip
      rename_i hz2
      split at h <;> first | (cases h; done) | skip
      rename_i hb2
      cases h
      simp only [Bool.and_eq_true] at hb2
      have e0 := Nat.eq_of_beq_eq_true hb2.1
      have e1 := Nat.eq_of_beq_eq_true hb2.2
      subst e0
      obtain ⟨u, q1, q2⟩ := zbf (P := P) (o := 0) (b := b) (off := 0) hz (by simp only [partP, hz2]; omega) hcell (fun j hj => (g4 j hj).1)
      have e3 : partD z cs 0 = .ag cs := by
        simp only [partD, hz2]
        rw [e1]
        simp
      rw [e3] at q2
      refine ⟨u, ?_, q2⟩
      have hu : (Instr.loadAt t (.pointer (some ⟨b, 0, none⟩))).run P w = .ok u w := by simpa using q1
      simp only [Instr.loadAt, Instr.sureAddr, Sem.run_bind, Sem.run_pure, Result.andThen_ok] at hu
      have h0 : (resF a.tmps (.cell x t)).run P w = .ok u w := by
        simp only [resF, hav, asAddr, Sem.run_bind, Sem.run_pure, Result.andThen_ok]
        exact hu
      have hm : (fn.results.mapM (resF a.tmps)).run P w = .ok #[u] w := by
        rw [hrs, Array.mapM_eq_mapM_toList]
        have h1 : ([ResultVar.cell x t].mapM (resF a.tmps)).run P w = .ok [u] w := by
          rw [List.mapM_cons]
          simp only [Sem.run_bind, h0, List.mapM_nil, Result.andThen_ok, Sem.run_pure]
        simp only [Sem.run_map, h1, Result.andThen_ok]
      simp only [zcf, Sem.run_bind, hm, Result.andThen_ok, Sem.run_pure]
      rfl
  · exact zdQ hrs hI hF h
theorem CtrO.of_TS {f : FuncId} {fn : Func} {c : Code} {N : Nat} {rs : List ResultVar} {args : List D} {d : D} (hf : P.funcs[f]? = some fn) (hb : fn.body = some c) (hN : fn.ntmps = N) (hrs : fn.results = ⟨rs⟩) (hlen : args.length ≤ N)
    (h : ∀ X : Ctx, Lent X → X.ids = ow.map (·.1) → T P X N c (slots 0 args) ow (fun e fr2 ow2 => (e = .ret ∨ e = .normal) ∧ ∃ d2, resS (tb P) fr2 ow2 rs = some d2 ∧ Weak d2 d ∧ d.okS (ow'.map (·.1)) = true ∧ Le X fr2 ow2 [] ow')) :
    CtrO P f args ow d ow' := by
  refine CtrO.of0 fun X vs hdf0 hids hH hI hsz hrel => ?_
  have hL : Lent X := fun k hk => by
    rw [hids]
    cases hmem : look k ow with
    | none => exact absurd (hI.dom k hmem) hk
    | some o =>
      by_cases hm : k ∈ ow.map (·.1)
      · exact hm
      · rw [zbc hm] at hmem; cases hmem
  refine calls_of_wp hf hb ?_
  have hrep : Rep X N (fF (slots 0 args)) (fO ow) { tmps := vs ++ Array.replicate (fn.ntmps - vs.size) undef, defers := [] } X.w0 := by
    refine ⟨X.S0, X.r0, hH, hI, fun t => ?_, hdf0.symm, by simp; omega, RhoLe.refl _⟩
    show Rel _ _ _ (getD' t (slots 0 args)) _
    rw [zbW]
    simp only [Nat.zero_le, if_true, Nat.sub_zero]
    by_cases ht : t < args.length
    · have := hrel t ht
      rw [Array.getD_eq_getD_getElem?, Array.getElem?_append_left (by omega), ← Array.getD_eq_getD_getElem?]
      exact this
    · rw [List.getD_eq_getElem?_getD, List.getElem?_eq_none (by omega)]
      exact .any ..
  refine wp_mono (h X hL hids _ _ hrep).wide fun e a w ⟨fr2, ow2, ⟨he, d2, h1, h2, h3, h4⟩, hrep2⟩ => ?_
  obtain ⟨S, r, hH2, hI2, hF2, hd2, _, hρ2⟩ := hrep2
  obtain ⟨v, hv, hvr⟩ := zjs (P := P) hrs hI2 hF2 h1
  have hok := h4.ok
  simp only [okAll, Bool.and_eq_true] at hok
  have hfin : ∃ v' S' r', Ending.returned v = .returned v' ∧ Rel S' w r' d v' ∧ Hist X w S' ∧ Inv X w S' r' (fO ow') ∧ RhoLe X.r0 r' := by
    refine ⟨v, S, keepR r (ow'.map (·.1)), rfl, ?_, hH2, hI2.keep h4.ow hok.2, fun k l hk => ?_⟩
    · exact (hvr.weak h2).okS h3
    · obtain ⟨l', g1, g2⟩ := hρ2 k l hk
      have : k ∈ ow'.map (·.1) := h4.ids k (hL k (by rw [hk]; simp))
      exact ⟨l', by simp only [keepR]; rw [if_pos this]; exact g1, g2⟩
  rcases he with rfl | rfl
  · exact ⟨hd2.trans hdf0, v, hv, hfin⟩
  · exact ⟨hd2.trans hdf0, v, hv, hfin⟩
end
section
variable {X : Ctx} {n : Nat} {all rest : List Oper} {fr : Fr} {ow : Ow} {tr : List (List Nat × List Nat)} {K : Fr → Ow → List (List Nat × List Nat) → Prop}
variable {t k k' : Nat} {op : Op} {ty ty2 ty' : TypeId} {ps : String} {af : Array Edge} {x y : Operand} {cs cs' : List D} {d : D} {f : FuncId} {args : List D} {g u : Nat} {want : Bool}
theorem zbH (lo lo' : Ow) (ids ids2 : List Nat) (hi1 : lo.map (·.1) = ids) (hi2 : lo'.map (·.1) = ids2) (hnd : ids2.Nodup) (hsub : ∀ k ∈ ids, k ∈ ids2) (hnew : ∀ k ∈ ids2, k ∉ ids → look k ow = none)
    (hc : callOf fr op = some (f, args)) (hn : Nat.blt t n = true) (hP : ∀ vs w, (callFunc f vs).run Tryz.prog w = .ok (.enter f vs) w) (hk : hasAll (fun k => look k ow) lo)
    (hok : (args.map (lendS ids)).all (D.okS ids) = true) (hf1 : lo.all (fun x => x.2.okIn ids) = true) (hf2 : lo'.all (fun x => x.2.okIn ids2) = true) (hf3 : d.okS ids2 = true)
    (hC : CtrO Tryz.prog f (args.map (lendS ids)) lo d lo')
    (h : CT Tryz.prog X n all rest ((t, d) :: fr) (lo' ++ ow) (tr ++ [(ids2, lo'.map (·.1))]) K) : CT Tryz.prog X n all (⟨some t, op, ty, ps, af, none⟩ :: rest) fr ow tr K :=
  CT.cons (e := ⟨d, ids2, lo'⟩) (.plain rfl (zlY (o := ⟨some t, op, ty, ps, af, none⟩) (ow := ow) hP hc hk hi1 hi2 hnd hsub hnew hok hf1 hf2 hf3 hC (show t < n by simpa using hn))) (zaH ..) (zmB (by rw [hi2]; exact hnd)) h
def EndsS (rs : List ResultVar) (d : D) (lo : Ow) (e : Exit) (fr : Fr) (ow : Ow) : Prop :=
  match e with
  | .ret | .normal => ∃ d2, resS B fr ow rs = some d2 ∧ Weak d2 d ∧ leOw ow lo
  | _ => False
theorem zeT {rs : List ResultVar} {d d2 : D} {lo : Ow} (h : resS B fr ow rs = some d2) (he : Weak d2 d) (hlo : Stay (leOw ow lo)) : Rtn (EndsS rs d lo) fr ow := by
  unfold Rtn
  exact ⟨d2, h, he, hlo.out⟩
theorem zdd {f : FuncId} {args : List D} {d : D} {fn : Func} {c : Code} {N : Nat} {rs : List ResultVar} {lo lo' : Ow} {ids ids2 : List Nat} (hf : Tryz.prog.funcs[f]? = some fn) (hb : fn.body = some c) (hN : fn.ntmps = N) (hrs : fn.results = ⟨rs⟩) (hlen : Nat.ble args.length N = true)
    (hi1 : lo.map (·.1) = ids) (hi2 : lo'.map (·.1) = ids2) (hsub : ∀ k ∈ ids, k ∈ ids2) (hd : d.okS ids2 = true) (hcs : lo'.all (fun x => x.2.okIn ids2) = true)
    (h : ∀ X : Ctx, Lent X → X.ids = ids → T Tryz.prog X N c (slots 0 args) lo (EndsS rs d lo')) : CtrO Tryz.prog f args lo d lo' := by
  refine CtrO.of_TS hf hb hN hrs (by simpa using hlen) fun X hL hi => (h X hL (hi.trans hi1)).mono fun e fr2 ow2 hq => ?_
  have key : ∀ d2, resS B fr2 ow2 rs = some d2 → Weak d2 d → leOw ow2 lo' →
      ∃ d2, resS (tb Tryz.prog) fr2 ow2 rs = some d2 ∧ Weak d2 d ∧ d.okS (lo'.map (·.1)) = true ∧ Le X fr2 ow2 [] lo' := by
    intro d2 h1 h2 h3
    refine ⟨d2, by rw [zcD]; exact h1, h2, by rw [hi2]; exact hd, trivial, h3, ?_, fun k hk => ?_⟩
    · rw [hi2]
      simp only [okAll, List.all_nil, Bool.true_and]
      exact hcs
    · rw [hi, hi1] at hk
      rw [hi2]
      exact hsub k hk
  cases e with
  | ret => obtain ⟨d2, h1, h2, h3⟩ := hq; exact ⟨.inl rfl, key d2 h1 h2 h3⟩
  | normal => obtain ⟨d2, h1, h2, h3⟩ := hq; exact ⟨.inr rfl, key d2 h1 h2 h3⟩
  | _ => exact hq.elim
end

section
variable {P : Program} {X : Ctx} {n : Nat} {fr : Fr} {ow : Ow}
theorem Rep.frzV {a : Act} {w : World} (t k off : Nat) (cs : List D) (hk : look k ow = some (.var cs)) (ht : getD' t fr = .pv k off) (hp : cs.all D.plain = true) (hr : Rep X n (fF fr) (fO ow) a w) :
    Rep X n (fF ((t, .rf cs off) :: fr)) (fO ((k, .gone) :: ow)) a w := by
  obtain ⟨S, r, hH, hI, hF, hd, hn, hρ⟩ := hr
  obtain ⟨b, cur, e, g1, g2, g3, g4, g5⟩ := hI.obj k _ hk
  have hbl : b < w.heap.size := (Array.getElem?_eq_some_iff.1 g2).1
  let S2 : Cells := fun b' o => S b' o ∨ (b' = b ∧ o < cs.length)
  have hc : Chg w w S none := ⟨rfl, rfl, rfl, Nat.le_refl _, fun _ _ _ => rfl, fun _ _ _ => rfl⟩
  have hS2 : ∀ b o, S b o → S2 b o := fun _ _ h => .inl h
  have hgone : ObjOk S w r k .gone := ⟨.blk b, g1, fun b' hb' => by
    have : b = b' := Option.some.inj hb'
    omega⟩
  refine ⟨S2, r, ?_, ?_, fun u => ?_, hd, hn, hρ⟩
  · refine hH.chg hc (fun b hb => by cases hb) hS2 (fun b' o h => ?_)
    rcases h with h | ⟨rfl, _⟩
    · exact .inl h
    · exact .inr ⟨hI.low k _ b' g1 rfl, hbl⟩
  · rw [zaL]
    refine hI.put hc hS2 (RhoLe.refl r) k _ (.blk b) ⟨.blk b, g1, fun b' hb' => ?_⟩ g1 (fun _ _ => rfl) (fun b hb => .inr ⟨_, g1, hb⟩) (fun b hb => by cases hb) (fun b' o h => ?_)
    · have : b = b' := Option.some.inj hb'
      omega
    · rcases h with h | ⟨rfl, _⟩
      · exact .inl h
      · exact .inr (.inl rfl)
  · rw [zaH]
    simp only [updF]
    split
    · rename_i e1
      have h1 := hF u
      rw [show fF fr u = .pv k off by rw [e1]; exact ht] at h1
      generalize a.tmps.getD u undef = v at h1
      cases h1 with
      | pv _ _ _ b' hb' =>
        rw [hb'] at g1
        cases g1
        have hrf : Rel S2 w r (.rf cs off) (.pointer (some ⟨b, 0 + off, none⟩)) := by
          refine .rf r cs off b 0 (fun j => cur.getD j undef) hp (fun j hj => ⟨.inr ⟨rfl, by omega⟩, ?_⟩) (fun j hj => ?_)
          · rw [Nat.zero_add, cell_of_row w b j cur e (0, 0) g2]
            have : j < cur.size := by omega
            simp [Array.getD_eq_getD_getElem?, this]
          · have h2 := (g4 j hj).1
            have hpj : (cs.getD j .any).plain = true := by
              rw [List.all_eq_true] at hp
              refine hp _ ?_
              simp only [List.getD_eq_getElem?_getD, List.getElem?_eq_getElem hj, Option.getD_some]
              exact List.getElem_mem hj
            exact (h2.plain hpj noRho).mono hS2 (fun _ _ _ => rfl) noRho (RhoLe.refl _)
        rw [Nat.zero_add] at hrf
        exact hrf
    · exact (hF u).mono hS2 (fun _ _ _ => rfl) r (RhoLe.refl r)
theorem T.frzV {c : Code} {Q : Exit → Fr → Ow → Prop} (t k off : Nat) (cs : List D) (hk : look k ow = some (.var cs)) (ht : getD' t fr = .pv k off) (hp : cs.all D.plain = true) (h : T P X n c ((t, .rf cs off) :: fr) ((k, .gone) :: ow) Q) : T P X n c fr ow Q := fun a w hr => h a w (hr.frzV t k off cs hk ht hp)
end
theorem CtrO.weakArgs {P : Program} {f : FuncId} {args args' : List D} {ow ow' : Ow} {d : D} (h : CtrO P f args' ow d ow') (hn : args'.length = args.length) (hw : ∀ j, j < args.length → Weak (args.getD j .any) (args'.getD j .any)) : CtrO P f args ow d ow' :=
  fun X vs hids hH hI hsz hr => h X vs hids hH hI (hsz.trans hn.symm) fun j hj => (hr j (by omega)).weak (hw j (by omega))
theorem CtrO.weakOne {P : Program} {f : FuncId} {a a' : D} {ow ow' : Ow} {d : D} (h : CtrO P f [a'] ow d ow') (hw : Weak a a') : CtrO P f [a] ow d ow' := h.weakArgs rfl fun j hj => match j, hj with
  | 0, _ => hw

def growRen : Go.Shelf.Ren := ⟨fun | 4 => 127 | n => n, fun | 22 => 41 | 25 => 9 | n => n, fun | n => n⟩
theorem growLays : Go.Proofs.Lays8.n4 Tryz.prog growRen := {
  mixed := by kernel_rfl
  f4 := ⟨"slices.Grow[[]string,string]", rfl, Tryz.func127.trans (congrArg some (by kernel_rfl))⟩
  t0 := Tryz.underlying0
  a0 := Tryz.isAgg0
  z0 := Tryz.sizeOf0
  v0 := Tryz.zeroValue0
  t3 := Tryz.underlying3
  a3 := Tryz.isAgg3
  z3 := Tryz.sizeOf3
  v3 := Tryz.zeroValue3
  t4 := Tryz.underlying4
  a4 := Tryz.isAgg4
  z4 := Tryz.sizeOf4
  v4 := Tryz.zeroValue4
  t9 := Tryz.underlying9
  a9 := Tryz.isAgg9
  z9 := Tryz.sizeOf9
  v9 := Tryz.zeroValue9
  t20 := Tryz.underlying20
  a20 := Tryz.isAgg20
  z20 := Tryz.sizeOf20
  v20 := Tryz.zeroValue20
  t22 := Tryz.underlying41
  a22 := Tryz.isAgg41
  z22 := Tryz.sizeOf41
  v22 := Tryz.zeroValue41 }
theorem growInfo : (Tryz.prog.info? 9).map (fun i => (i.zero, i.size, i.bytes)) = some (some (Value.string ⟨#[]⟩), 1, 16) := by kernel_rfl
theorem zpN (n : Nat) (h0 : 0 < n) (hn : n ≤ 100000000) (f : Nat → List D) : CtrO Tryz.prog 127 [.nilS, .i .i64 n] [] (.gs 105 1 0 f) [(105, .row 9 1 0)] := by
  intro X vs hids hH hI hsz hr
  have q0 := hr 0 (by simp)
  have q1 := hr 1 (by simp)
  rw [zgJ hsz]
  generalize vs.getD 0 undef = v0 at *
  generalize vs.getD 1 undef = v1 at *
  cases q0
  cases q1
  obtain ⟨i0, hi0, hz0, hs0, hb0⟩ : ∃ i0 : TypeInfo, Tryz.prog.info? (growRen.t 25) = some i0 ∧ i0.zero = some (Value.string ⟨#[]⟩) ∧ i0.size = 1 ∧ i0.bytes = 16 := by
    have h := growInfo
    show ∃ i0 : TypeInfo, Tryz.prog.info? 9 = some i0 ∧ _
    cases hq : Tryz.prog.info? 9 with
    | none => rw [hq] at h; cases h
    | some i0 =>
      rw [hq] at h
      simp only [Option.map_some, Option.some.injEq, Prod.mk.injEq] at h
      exact ⟨i0, rfl, h.1, h.2.1, h.2.2⟩
  refine (Any8.slices_Grow_grow growLays i0 _ hi0 hz0 (by omega) none 0 0 n [] X.w0 (Nat.le_refl _) (by omega) (by rw [hb0]; omega) (by omega) (by simp) (fun _ => rfl) (fun a h => by cases h)).mono ?_
  rintro e w' ⟨rfl, rfl⟩
  have hG := grownCap_le_maxLen X.w0 (0 + n) 0 (growRen.t 25) (by unfold maxLen; omega)
  have hG2 : 0 + n ≤ grownCap X.w0 (0 + n) 0 (growRen.t 25) := grownCap_ge X.w0 _ _ _
  generalize grownCap X.w0 (0 + n) 0 (growRen.t 25) = G at hG hG2 ⊢
  obtain ⟨S', r', g1, g2, g3, g4, g5, g6⟩ := ziL false (g := none) (k := 105) (cur := ([] : List Value).toArray ++ Builtin.zeroCells (Value.string ⟨#[]⟩).cells (0 + n - 0) ++ Builtin.zeroCells (Value.string ⟨#[]⟩).cells (G - (0 + n))) (el := 9) (z := 1) (N := 0) (cap := G) (f := f) (c := fun _ _ => undef) hH hI (Chg.drewAlloc X.w0 X.S0 hH.valid _ none) (fun b hb => by cases hb) (.inl ⟨Nat.le_refl _, by simp, Nat.le_refl _⟩) (RhoLe.new (hI.dom 105 rfl))
    (heap_alloc_new X.w0.drew _) (Nat.zero_le _) hG (by
      have hz : (Value.string ⟨#[]⟩).cells.size = 1 := rfl
      simp only [Builtin.zeroCells, Array.size_append, Array.size_map, Array.size_range, hz, List.size_toArray, List.length_nil]
      omega) (fun i j hi hj => by omega) (fun o _ hs => by have := hH.valid _ _ hs; omega) (fun i hi => by omega) (fun i j hi hj => by omega)
  refine ⟨_, S', r', rfl, g1, g2, ?_, g6⟩
  rw [zaL]
  exact g3
def txLF (ls : List (List Txt)) : Nat → List D := fun i => [.sl 1 (ls.getD i []).length (txF (ls.getD i []))]
theorem zkS {ls : List (List Txt)} {i : Nat} (h : i < ls.length) : (ls.take (i + 1)).flatten = (ls.take i).flatten ++ ls.getD i [] := by
  rw [List.take_add_one, List.flatten_append]
  simp [List.getD_eq_getElem?_getD, h]
theorem zfi (ls : List (List Txt)) (i : Nat) : (ls.take i).flatten.length ≤ ls.flatten.length := by
  have e : ls.flatten.length = (ls.take i).flatten.length + (ls.drop i).flatten.length := by
    rw [← List.length_append, ← List.flatten_append, List.take_append_drop]
  omega
theorem zlg (a b : List Txt) (g : Nat → List D) (hg : ∀ i, i < b.length → g i = txF b i) : catF a.length (txF a) b.length g = txF (a ++ b) := by
  funext j
  unfold catF
  by_cases h : j < a.length
  · rw [if_pos h]
    simp [txF, List.getD_eq_getElem?_getD, List.getElem?_append_left h]
  · rw [if_neg h]
    by_cases h2 : j < a.length + b.length
    · rw [if_pos h2, hg _ (by omega)]
      simp [txF, List.getD_eq_getElem?_getD, List.getElem?_append_right (show a.length ≤ j by omega)]
    · rw [if_neg h2]
      simp only [txF, List.getD_eq_getElem?_getD]
      rw [List.getElem?_eq_none (show a.length ≤ j by omega), List.getElem?_eq_none (show (a ++ b).length ≤ j by rw [List.length_append]; omega)]
theorem zpu (a b : List Txt) : catF a.length (txF a) b.length (txF b) = txF (a ++ b) := zlg a b _ fun _ _ => rfl
set_option maxRecDepth 100000 in
set_option maxHeartbeats 4000000 in
theorem zmw (ls : List (List Txt)) (hl : ls.length ≤ 100) (h0 : 0 < ls.flatten.length) (hn : ls.flatten.length ≤ 4194304) :
    CtrO Tryz.prog 103 [.sl 1 ls.length (txLF ls)] [] (.gs 105 1 ls.flatten.length (txF ls.flatten)) [(105, .row 9 1 ls.flatten.length)] := by
  refine zpk (ids := []) (ids2 := [105]) Tryz.func103 rfl Tryz.ntmps103 Tryz.results103 rfl rfl rfl (fun _ h => by cases h) rfl rfl fun X hL hX => ?_
  repeat' (first |with_reducible (first |refine zag ?_|refine zaa ?_|refine zaf ?_|refine zad ?_|refine zae ?_)|refine zab rfl rfl True.intro ?_|fail)
  refine T.loop hL (fun i : Nat => [(0, .sl 1 ls.length (txLF ls)), (3, .i .i64 (ls.take i).flatten.length), (9, .sl 1 ls.length (txLF ls)), (10, .i .i64 ls.length), (11, .i .i64 i)]) (fun _ => [])
    (fun i => i ≤ ls.length) (fun i => ls.length - i) 0 (Nat.zero_le _)
    ⟨⟨rfl, rfl, rfl, rfl, rfl, trivial⟩, trivial, rfl, by rw [hX]; simp⟩ ?_
  rintro i g1
  try dsimp only at g1 ⊢
  have hle := zfi ls i
  have hnat : (i : Int).toNat = i := Int.toNat_natCast i
  by_cases hil : i < ls.length
  · have hil' : (i : Int) < ls.length := by omega
    have hle2 := zfi ls (i + 1)
    have e : ((ls.take (i + 1)).flatten.length : Int) = (ls.take i).flatten.length + ((ls.getD (i : Int).toNat []).length : Int) := by
      rw [zkS hil, List.length_append, hnat]
      omega
    have hpos : ¬ ((ls.take i).flatten.length : Int) + ((ls.getD (i : Int).toNat []).length : Int) < 0 := by omega
    have hsz : (ls.getD (i : Int).toNat []).length ≤ 4194304 := by omega
    repeat' (first |with_reducible (first |refine zag ?_|refine zaa ?_|refine zaf ?_|refine zad ?_|refine zai ?_|refine zae ?_|refine zaq ?_)|refine zab rfl rfl True.intro ?_|refine zak rfl ?_|((first |refine zac rfl ?_ ?_)<;>intro<;>try (first |contradiction))|((first |refine zab rfl rfl ?_ ?_);focus (first |omega|exact le_ rfl|((repeat' refine And.intro ?_ ?_)<;>omega)))|fail)
    all_goals exact ⟨i + 1, by omega, by omega, ⟨rfl, congrArg (D.i .i64) e.symm, rfl, rfl, rfl, trivial⟩, trivial, rfl, by rw [hX]; simp⟩
  have hil' : ¬ (i : Int) < ls.length := by omega
  have ea : ls.take i = ls := List.take_of_length_le (by omega)
  rw [ea]
  have cG := zpN ls.flatten.length h0 (by omega) (txF [])
  repeat' (first |refine znV (f := 127) [] [(105, .row 9 1 0)] [] [105] rfl rfl (by decide) (fun _ h => by cases h) (fun k h _ => by rw [List.mem_singleton.1 h];rfl) rfl rfl Tryz.call127 trivial rfl rfl rfl rfl cG ?_|with_reducible (first |refine zag ?_|refine zaa ?_|refine zaf ?_|refine zad ?_|refine zaz ?_|refine zae ?_|refine zaA ?_)|refine zab rfl rfl True.intro ?_|((first |refine zac rfl ?_ ?_)<;>intro<;>try (first |contradiction))|refine zaJ rfl ?_|fail)
  refine T.loop hL (fun i : Nat => [(6, .gs 105 1 (ls.take i).flatten.length (txF (ls.take i).flatten)), (25, .sl 1 ls.length (txLF ls)), (26, .i .i64 ls.length), (27, .i .i64 i)]) (fun i => [(105, .row 9 1 (ls.take i).flatten.length)])
    (fun i => i ≤ ls.length) (fun i => ls.length - i) 0 (Nat.zero_le _)
    ⟨⟨by rfl, rfl, rfl, rfl, trivial⟩, ⟨by rfl, trivial⟩, rfl, by rw [hX]; simp⟩ ?_
  clear cG ea hil hil' hle hnat
  rintro q g1
  try dsimp only at g1 ⊢
  have hle := zfi ls q
  have hnat : (q : Int).toNat = q := Int.toNat_natCast q
  by_cases hil : q < ls.length
  · have hil' : (q : Int) < ls.length := by omega
    have hle2 := zfi ls (q + 1)
    have e := zkS hil
    have e2 := zpu (ls.take q).flatten (ls.getD (q : Int).toNat [])
    rw [hnat] at e2
    have el : (ls.take (q + 1)).flatten.length = (ls.take q).flatten.length + (ls.getD q []).length := by rw [e, List.length_append]
    have hsz : (ls.getD (q : Int).toNat []).length ≤ 4194304 := by rw [hnat]; omega
    have hb1 : ((ls.take q).flatten.length + (ls.getD (q : Int).toNat []).length) * 16 ≤ 140737488355328 := by rw [hnat]; omega
    repeat' (first |with_reducible (first |refine zag ?_|refine zaa ?_|refine zaf ?_|refine zad ?_|refine zai ?_|refine zae ?_|refine zaq ?_)|refine zab rfl rfl True.intro ?_|((first |refine zac rfl ?_ ?_)<;>intro<;>try (first |contradiction))|((first |refine zab rfl rfl ?_ ?_|refine zao rfl rfl ?_ ?_);focus (first |omega|exact le_ rfl|((repeat' refine And.intro ?_ ?_)<;>omega)|((repeat' refine And.intro ?_ ?_)<;>first |omega|rfl)))|fail)
    all_goals exact ⟨q + 1, by omega, by omega, ⟨by rw [e, ← e2, List.length_append]; rfl, rfl, rfl, rfl, trivial⟩, ⟨by rw [e, List.length_append]; rfl, trivial⟩, rfl, by rw [hX]; simp⟩
  have hil' : ¬ (q : Int) < ls.length := by omega
  have ea : ls.take q = ls := List.take_of_length_le (by omega)
  rw [ea]
  repeat' (first |with_reducible (first |refine zag ?_|refine zaa ?_|refine zaf ?_|refine zad ?_|refine zaj ?_|refine zaz ?_|refine zaA ?_)|refine zab rfl rfl True.intro ?_|((first |refine zac rfl ?_ ?_)<;>intro<;>try (first |contradiction))|refine zaJ rfl ?_|refine zbe rfl rfl ?_|fail)
  all_goals exact ⟨⟨rfl, trivial⟩⟩

theorem zlp (a b c d : Txt) (o n : List Txt) : Weak (.sl 1 3 (chunk 1 [.sl 1 4 (chunk 1 [.s a, .s b, .s c, .s d]), .sl 1 o.length (txF o), .sl 1 n.length (txF n)])) (.sl 1 [[a, b, c, d], o, n].length (txLF [[a, b, c, d], o, n])) :=
  .sl 1 3 _ _ (fun i hi => match i, hi with
    | 0, _ => ⟨rfl, rfl⟩
    | 1, _ => ⟨rfl, rfl⟩
    | 2, _ => ⟨rfl, rfl⟩) fun i j hi hj => match i, j, hi, hj with
    | 0, 0, _, _ => zhT a b c d
    | 1, 0, _, _ => .refl _
    | 2, 0, _, _ => .refl _
set_option maxRecDepth 100000 in
set_option maxHeartbeats 4000000 in
theorem zlL (s : SrcR) (hs : fitS s) : Ctr Tryz.prog 71 [.ag (srcP s)] (.sl 1 (textsS s).length (txF (textsS s))) := by
  obtain ⟨s1, s2, s3⟩ := hs
  have eT : textsS s = [[s.arch, s.csv, s.key, s.attr], s.only, s.notl].flatten ++ s.lays.flatMap pairT := by
    unfold textsS
    simp
  have eL : [[s.arch, s.csv, s.key, s.attr], s.only, s.notl].flatten.length = 4 + s.only.length + s.notl.length := by
    simp
    omega
  have cC := (zmw [[s.arch, s.csv, s.key, s.attr], s.only, s.notl] (by simp) (by omega) (by omega)).weakOne (zlp _ _ _ _ _ _)
  rw [eT]
  generalize [[s.arch, s.csv, s.key, s.attr], s.only, s.notl].flatten = l0 at cC eL ⊢
  clear eT
  refine zay Tryz.func71 rfl Tryz.ntmps71 Tryz.results71 rfl rfl fun X hL hX => ?_
  repeat' (first |refine znV (f := 103) [] [(105, .row 9 1 l0.length)] [] [105] rfl rfl (by decide) (fun _ h => by cases h) (fun k h _ => by rw [List.mem_singleton.1 h];rfl) rfl rfl Tryz.call103 trivial rfl rfl rfl rfl cC ?_|with_reducible (first |refine zag ?_|refine zaa ?_|refine zaf ?_|refine zad ?_|refine zae ?_)|refine zab rfl rfl True.intro ?_|((first |refine zab rfl rfl ?_ ?_|refine zao rfl rfl ?_ ?_);focus (first |exact le_ rfl|((repeat' refine And.intro ?_ ?_)<;>omega)|((repeat' refine And.intro ?_ ?_)<;>first |omega|rfl)))|fail)
  refine T.loop hL (fun i : Nat => [(1, .pv 1 0), (3, .gs 105 1 (l0 ++ (s.lays.take i).flatMap pairT).length (txF (l0 ++ (s.lays.take i).flatMap pairT))), (26, .sl 2 s.lays.length (fldF s.lays)), (27, .i .i64 s.lays.length), (28, .i .i64 i)]) (fun i => [(1, .var (srcP s)), (105, .row 9 1 (l0 ++ (s.lays.take i).flatMap pairT).length)])
    (fun i => i ≤ s.lays.length ∧ (l0 ++ (s.lays.take i).flatMap pairT).length = l0.length + 2 * i) (fun i => s.lays.length - i) 0 ⟨Nat.zero_le _, by simp⟩
    ⟨⟨rfl, (by rw [List.take_zero, List.flatMap_nil, List.append_nil]; rfl), rfl, rfl, rfl, trivial⟩, ⟨rfl, (by rw [List.take_zero, List.flatMap_nil, List.append_nil]; rfl), trivial⟩, rfl, by rw [hX]; simp⟩ ?_
  clear cC
  rintro i ⟨g1, g2⟩
  try dsimp only at g1 g2 ⊢
  have hnat : (i : Int).toNat = i := Int.toNat_natCast i
  by_cases hil : i < s.lays.length
  · have hil' : (i : Int) < s.lays.length := by omega
    have e := zou hil
    have e2 := zlg (l0 ++ (s.lays.take i).flatMap pairT) (pairT (s.lays.getD (i : Int).toNat ([], []))) (chunk 1 [.s (s.lays.getD (i : Int).toNat ([], [])).1, .s (s.lays.getD (i : Int).toNat ([], [])).2]) (fun i hi => match i, hi with
      | 0, _ => rfl
      | 1, _ => rfl)
    rw [List.append_assoc, show (pairT (s.lays.getD (i : Int).toNat ([], []))).length = 2 from rfl] at e2
    have e3 : l0 ++ (s.lays.take (i + 1)).flatMap pairT = l0 ++ ((s.lays.take i).flatMap pairT ++ pairT (s.lays.getD (i : Int).toNat ([], []))) := by rw [e, hnat]
    have g3 : (l0 ++ (s.lays.take (i + 1)).flatMap pairT).length = (l0 ++ (s.lays.take i).flatMap pairT).length + 2 := by
      rw [e3, ← List.append_assoc, List.length_append (bs := pairT _)]
      rfl
    repeat' (first |with_reducible (first |refine zag ?_|refine zaa ?_|refine zaf ?_|refine zad ?_|refine zai ?_|refine zae ?_|refine zaq ?_)|refine zab rfl rfl True.intro ?_|((first |refine zac rfl ?_ ?_)<;>intro<;>try (first |contradiction))|((first |refine zab rfl rfl ?_ ?_|refine zao rfl rfl ?_ ?_|refine zar rfl ?_ ?_);focus (first |omega|exact le_ rfl|((repeat' refine And.intro ?_ ?_)<;>omega)|((repeat' refine And.intro ?_ ?_)<;>first |omega|rfl|exact Nat.le_refl _)))|fail)
    all_goals exact ⟨i + 1, ⟨by omega, by omega⟩, by omega, ⟨rfl, by rw [g3, e3, ← e2]; rfl, rfl, rfl, rfl, trivial⟩, ⟨rfl, by rw [g3]; rfl, trivial⟩, rfl, by rw [hX]; simp⟩
  have hil' : ¬ (i : Int) < s.lays.length := by omega
  have ea : s.lays.take i = s.lays := List.take_of_length_le (by omega)
  rw [ea]
  repeat' (first |with_reducible (first |refine zag ?_|refine zaa ?_|refine zaf ?_|refine zad ?_|refine zaj ?_|refine zaz ?_|refine zaA ?_)|refine zab rfl rfl True.intro ?_|((first |refine zac rfl ?_ ?_)<;>intro<;>try (first |contradiction))|refine zaJ rfl ?_|refine zaw rfl ?_|fail)
  all_goals rfl

theorem zgY (pw : List UInt8 → Int) (s : List UInt8) (h : (parseG pw s).2.2 = 0) : 0 < (parseG pw s).2.1 ∧ (parseG pw s).2.1 ≤ s.length := by
  have hd : ∀ i, (dgT s i).length ≤ s.length - i := zbt s
  have hs : ∀ i c, sat s i c → i < s.length := fun i c q => q.1
  have hn : ∀ i, ¬ dgT s i = [] → 0 < (dgT s i).length := fun i q => List.length_pos_iff.2 q
  unfold parseG at h ⊢
  by_cases hw : (whN s (sg0 s)).1 = []
  · rw [if_pos hw] at h
    cases h
  · rw [if_neg hw] at h ⊢
    dsimp only at h ⊢
    have w1 : 0 < (whN s (sg0 s)).2 ∧ (whN s (sg0 s)).2 ≤ s.length := by
      unfold whN at hw ⊢
      by_cases q : sat s (sg0 s) 48
      · rw [if_pos q]
        have := hs _ _ q
        dsimp only
        omega
      · rw [if_neg q] at hw ⊢
        have := hn _ hw
        have := hd (sg0 s)
        dsimp only
        omega
    have w2 : (whN s (sg0 s)).2 ≤ (frN s (whN s (sg0 s)).2).2 ∧ (frN s (whN s (sg0 s)).2).2 ≤ s.length := by
      unfold frN
      generalize (whN s (sg0 s)).2 = a at *
      by_cases q : sat s a 46 ∧ ¬ dgT s (a + 1) = []
      · rw [if_pos q]
        have := hs _ _ q.1
        have := hn _ q.2
        have := hd (a + 1)
        dsimp only
        omega
      · rw [if_neg q]
        exact ⟨Nat.le_refl _, w1.2⟩
    have w3 : (frN s (whN s (sg0 s)).2).2 ≤ (exN pw s (frN s (whN s (sg0 s)).2).2).2 ∧ (exN pw s (frN s (whN s (sg0 s)).2).2).2 ≤ s.length := by
      unfold exN
      generalize (frN s (whN s (sg0 s)).2).2 = a at *
      by_cases q : (sat s a 101 ∨ sat s a 69) ∧ ¬ dgT s (sgN s (a + 1)) = []
      · rw [if_pos q]
        have := hn _ q.2
        have := hd (sgN s (a + 1))
        have h5 : a + 1 ≤ sgN s (a + 1) := by
          unfold sgN
          split <;> omega
        dsimp only
        omega
      · rw [if_neg q]
        exact ⟨Nat.le_refl _, w2.2⟩
    generalize hx : exN pw s (frN s (whN s (sg0 s)).2).2 = x at *
    by_cases hr : (normF (decide (sat s 0 45)) ((whN s (sg0 s)).1 ++ (frN s (whN s (sg0 s)).2).1) (x.1 - (frN s (whN s (sg0 s)).2).1.length)).2 = 0
    · rw [if_pos hr]
      dsimp only
      omega
    · rw [if_neg hr] at h
      exact absurd h hr
theorem zrx {s : List UInt8} {i n : Nat} {x : J} (hi : i ≤ s.length) (h : jnum s i = .inl (x, n)) : i < n ∧ n ≤ s.length := by
  unfold jnum at h
  split at h
  · rename_i hz
    have := zgY powP _ hz
    rw [List.length_drop] at this
    cases h
    omega
  · cases h
theorem zhc {s w : List UInt8} {i n : Nat} {x y : J} (hw : 0 < w.length) (hi : i ≤ s.length) (h : jword s i w x = .inl (y, n)) : i < n ∧ n ≤ s.length := by
  unfold jword at h
  split at h
  · rename_i hz
    have : w.length ≤ (s.drop i).length := by
      unfold Lib.hasPrefix at hz
      exact (List.isPrefixOf_iff_prefix.1 hz).length_le
    rw [List.length_drop] at this
    cases h
    omega
  · cases h
theorem zjb {s : List UInt8} {j : Nat} (h : at' s j = 110 ∨ at' s j = 116 ∨ at' s j = 102) : jnum s j = .inr (j, 3) := by
  have e0 : at' (s.drop j) 0 = at' s j := by
    show (((s.drop j).getD 0 0).toNat : Int) = ((s.getD j 0).toNat : Int)
    simp [List.getD_eq_getElem?_getD]
  have hsg : sg0 (s.drop j) = 0 := by
    unfold sg0
    refine if_neg fun q => ?_
    have : at' (s.drop j) 0 = 45 := q.2
    omega
  have hw : (whN (s.drop j) 0).1 = [] := by
    unfold whN
    rw [if_neg (fun q => by
      have : at' (s.drop j) 0 = 48 := q.2
      omega)]
    refine zfc (.inr fun q => ?_)
    have : 48 ≤ at' (s.drop j) 0 ∧ at' (s.drop j) 0 ≤ 57 := q
    omega
  have hp : parseG powP (s.drop j) = ((false, [], 0), 0, 3) := by
    unfold parseG
    rw [hsg, if_pos hw]
  unfold jnum
  rw [hp]
  rfl
theorem zjB {s k : List UInt8} {ks : List (List UInt8)} {i n : Nat} (hi : i ≤ s.length) (h : jkey s i ks = .inl (k, n)) : i < n ∧ n ≤ s.length := by
  unfold jkey at h
  cases h1 : jpeek s i with
  | inr e => rw [h1] at h; cases h
  | inl j =>
    rw [h1] at h
    have q1 := zaW hi h1
    dsimp only at h
    split at h
    · cases h
    · cases h2 : jtext s j with
      | inr e => rw [h2] at h; cases h
      | inl r =>
        obtain ⟨k2, n2⟩ := r
        rw [h2] at h
        have q2 := zhr h2
        dsimp only at h
        split at h
        · cases h
        · cases h3 : jpeek s n2 with
          | inr e => rw [h3] at h; cases h
          | inl m =>
            rw [h3] at h
            have q3 := zaW q2.2 h3
            dsimp only at h
            split at h
            · cases h
            · cases h
              omega
theorem zcQ {s : List UInt8} {mp : Bool} {ks ks' : List (List UInt8)} {i n : Nat} (hi : i ≤ s.length) (h : jkeys s mp i ks = .inl (ks', n)) : i ≤ n ∧ n ≤ s.length := by
  unfold jkeys at h
  cases mp with
  | false =>
    cases h
    exact ⟨Nat.le_refl _, hi⟩
  | true =>
    rw [if_pos rfl] at h
    cases h1 : jkey s i ks with
    | inr e => rw [h1] at h; cases h
    | inl r =>
      obtain ⟨k, m⟩ := r
      rw [h1] at h
      have := zjB hi h1
      cases h
      omega
def ValOk (s : List UInt8) (val : Nat → JR) : Prop := ∀ i x n, i ≤ s.length → val i = .inl (x, n) → i < n ∧ n ≤ s.length
theorem zdJ {s : List UInt8} {val : Nat → JR} (hv : ValOk s val) {mp : Bool} {i : Nat} (hi : i ≤ s.length) (l : List J) (ks : List (List UInt8)) : jgo s val mp i l ks =
    match jkeys s mp i ks with
    | .inr e => .inr e
    | .inl (ks', i1) =>
      match val i1 with
      | .inr e => .inr e
      | .inl (x, i2) =>
        match jpeek s i2 with
        | .inr e => .inr e
        | .inl i3 => if at' s i3 = endM mp then .inl (manyV mp (l ++ [x]) ks', i3 + 1)
          else if at' s i3 = 44 then jgo s val mp (i3 + 1) (l ++ [x]) ks' else .inr (i3, 3) := by
  conv => lhs; rw [jgo]
  cases h1 : jkeys s mp i ks with
  | inr e => rfl
  | inl r =>
    obtain ⟨ks', i1⟩ := r
    have q1 := zcQ hi h1
    dsimp only
    cases h2 : val i1 with
    | inr e => rfl
    | inl r =>
      obtain ⟨x, i2⟩ := r
      have q2 := hv _ _ _ q1.2 h2
      dsimp only
      cases h3 : jpeek s i2 with
      | inr e => rfl
      | inl i3 =>
        have q3 := zaW q2.2 h3
        dsimp only
        rw [if_pos (show i ≤ i3 ∧ i3 < s.length by omega)]
theorem zsa {s : List UInt8} {val : Nat → JR} (hv : ValOk s val) {mp : Bool} : ∀ (m i : Nat) (l : List J) (ks : List (List UInt8)) (x : J) (n : Nat), s.length - i ≤ m → i ≤ s.length → jgo s val mp i l ks = .inl (x, n) → i < n ∧ n ≤ s.length := by
  intro m
  induction m with
  | zero =>
    intro i l ks x n hm hi h
    rw [zdJ hv hi] at h
    cases h1 : jkeys s mp i ks with
    | inr e => rw [h1] at h; cases h
    | inl r =>
      obtain ⟨ks', i1⟩ := r
      rw [h1] at h
      have q1 := zcQ hi h1
      dsimp only at h
      cases h2 : val i1 with
      | inr e => rw [h2] at h; cases h
      | inl r =>
        obtain ⟨y, i2⟩ := r
        have q2 := hv _ _ _ q1.2 h2
        omega
  | succ m ih =>
    intro i l ks x n hm hi h
    rw [zdJ hv hi] at h
    cases h1 : jkeys s mp i ks with
    | inr e => rw [h1] at h; cases h
    | inl r =>
      obtain ⟨ks', i1⟩ := r
      rw [h1] at h
      have q1 := zcQ hi h1
      dsimp only at h
      cases h2 : val i1 with
      | inr e => rw [h2] at h; cases h
      | inl r =>
        obtain ⟨y, i2⟩ := r
        rw [h2] at h
        have q2 := hv _ _ _ q1.2 h2
        dsimp only at h
        cases h3 : jpeek s i2 with
        | inr e => rw [h3] at h; cases h
        | inl i3 =>
          rw [h3] at h
          have q3 := zaW q2.2 h3
          dsimp only at h
          split at h
          · cases h
            omega
          · split at h
            · have := ih _ _ _ _ _ (by omega) (by omega) h
              omega
            · cases h
theorem zkt {s : List UInt8} {val : Nat → JR} (hv : ValOk s val) {mp : Bool} {i n : Nat} {x : J} (hi : i < s.length) (h : jmany s val mp i = .inl (x, n)) : i < n ∧ n ≤ s.length := by
  unfold jmany at h
  cases h1 : jpeek s (i + 1) with
  | inr e => rw [h1] at h; cases h
  | inl j =>
    rw [h1] at h
    have q := zaW hi h1
    dsimp only at h
    split at h
    · cases h
      omega
    · have := zsa hv _ _ _ _ _ _ (Nat.le_refl _) (by omega) h
      omega
theorem zca (s : List UInt8) : ∀ d, ValOk s (jval s d) := by
  intro d
  induction d with
  | zero =>
    intro i x n hi h
    unfold jval at h
    split at h <;> cases h
  | succ d ih =>
    intro i x n hi h
    unfold jval at h
    cases h1 : jpeek s i with
    | inr e => rw [h1] at h; cases h
    | inl j =>
      rw [h1] at h
      have q := zaW hi h1
      dsimp only at h
      have key : j < n ∧ n ≤ s.length := by
        split at h
        · exact zhc (by decide) (by omega) h
        · split at h
          · exact zhc (by decide) (by omega) h
          · split at h
            · exact zhc (by decide) (by omega) h
            · split at h
              · cases h2 : jtext s j with
                | inr e => rw [h2] at h; cases h
                | inl r =>
                  obtain ⟨t, m⟩ := r
                  rw [h2] at h
                  have := zhr h2
                  cases h
                  exact this
              · split at h
                · exact zkt ih q.2.1 h
                · split at h
                  · exact zkt ih q.2.1 h
                  · exact zrx (by omega) h
      omega

abbrev pO (s : List UInt8) (i : Int) : Ow := [(5, .var [.i .i64 i]), (1, .var [.s s])]
abbrev pF : D := .fn 135 [.pv 5 0, .pv 1 0]
abbrev pO3 (s : List UInt8) (i : Int) : Ow := [(5, .var [.i .i64 i]), (6, .var [pF]), (1, .var [.s s])]
theorem zmK (set : List UInt8) (p : Int → Prop) [DecidablePred p] (hp : ∀ c : Int, 0 ≤ c → c < 256 → (0 ≤ Lib.indexByte set c.toNat.toUInt8 ↔ p c)) (s : List UInt8) (i : Nat) (_hs : s.length ≤ 1048576) (hi : i ≤ s.length) :
    CtrO Tryz.prog 135 [.s set, .pv 5 0, .pv 1 0] (pO s i) (.b (decide (i < s.length ∧ p (at' s i)))) (pO s i) := by
  have hr := zaG s i
  have h1 := hp (at' s i) hr.1 hr.2
  have c1 := zdV set (at' s i)
  generalize Lib.indexByte set (at' s i).toNat.toUInt8 = z at h1 c1
  refine zaK Tryz.func135 rfl Tryz.ntmps135 Tryz.results135 rfl rfl rfl rfl rfl fun X hL hX => ?_
  repeat' (first |with_reducible (first |refine zag ?_|refine zaa ?_|refine zaf ?_|refine zad ?_|refine zaj ?_)|refine zab rfl rfl True.intro ?_|refine zau rfl rfl rfl ?_|refine zam rfl rfl rfl rfl True.intro ?_|((first |refine zan rfl rfl ?_ ?_)<;>intro)|((first |refine zab rfl rfl ?_ ?_|refine zam rfl rfl rfl rfl ?_ ?_);focus (first |omega|exact le_ rfl|((repeat' refine And.intro ?_ ?_)<;>omega)))|refine zbe rfl ?_ ?_|refine zaM (f := 82) rfl rfl rfl rfl Tryz.call82 rfl c1 ?_|fail)
  · exact congrArg D.b (decide_eq_decide.2 ⟨fun h => ⟨by omega, h1.1 h⟩, fun h => h1.2 h.2⟩)
  · exact ⟨⟨rfl, rfl, trivial⟩⟩
  · rw [decide_eq_false (fun h => ‹¬ (i : Int) < s.length› (by omega))]
  · exact ⟨⟨rfl, rfl, trivial⟩⟩
theorem zfo (a : UInt8) (c : Int) (h0 : 0 ≤ c) (h1 : c < 256) : 0 ≤ Lib.indexByte [a] c.toNat.toUInt8 ↔ c = (a.toNat : Int) := by
  have e : (a == c.toNat.toUInt8) = decide (c = (a.toNat : Int)) := by
    rw [Bool.eq_iff_iff, beq_iff_eq, decide_eq_true_iff]
    constructor
    · rintro rfl
      have : c.toNat < 256 := by omega
      simp [Nat.toUInt8]
      omega
    · rintro rfl
      simp [Nat.toUInt8]
  unfold Lib.indexByte
  rw [e]
  by_cases h : c = (a.toNat : Int)
  · simp [h]
  · simp [h, Lib.indexByte]
theorem zbm (a : UInt8) (l : List UInt8) (c : Int) (h0 : 0 ≤ c) (h1 : c < 256) : 0 ≤ Lib.indexByte (a :: l) c.toNat.toUInt8 ↔ c = (a.toNat : Int) ∨ 0 ≤ Lib.indexByte l c.toNat.toUInt8 := by
  have e : (a == c.toNat.toUInt8) = decide (c = (a.toNat : Int)) := by
    rw [Bool.eq_iff_iff, beq_iff_eq, decide_eq_true_iff]
    constructor
    · rintro rfl
      have : c.toNat < 256 := by omega
      simp [Nat.toUInt8]
      omega
    · rintro rfl
      simp [Nat.toUInt8]
  have hg := Lib.indexByte_ge l c.toNat.toUInt8
  conv => lhs; unfold Lib.indexByte
  rw [e]
  generalize Lib.indexByte l c.toNat.toUInt8 = z at *
  by_cases h : c = (a.toNat : Int)
  · simp [h]
  · by_cases hz : z = -1
    · simp [h, hz]
    · simp [h, hz]
      omega
theorem zlI : ∀ c : Int, 0 ≤ c → c < 256 → (0 ≤ Lib.indexByte ({ data := #[48, 49, 50, 51, 52, 53, 54, 55, 56, 57] } : ByteArray).data.toList c.toNat.toUInt8 ↔ 48 ≤ c ∧ c ≤ 57) := fun c h0 h1 => by
  show 0 ≤ Lib.indexByte [48, 49, 50, 51, 52, 53, 54, 55, 56, 57] c.toNat.toUInt8 ↔ _
  rw [zbm _ _ _ h0 h1, zbm _ _ _ h0 h1, zbm _ _ _ h0 h1, zbm _ _ _ h0 h1, zbm _ _ _ h0 h1, zbm _ _ _ h0 h1, zbm _ _ _ h0 h1, zbm _ _ _ h0 h1, zbm _ _ _ h0 h1, zfo _ _ h0 h1]
  simp
  omega
theorem set_1 (a : UInt8) : ∀ c : Int, 0 ≤ c → c < 256 → (0 ≤ Lib.indexByte [a] c.toNat.toUInt8 ↔ c = (a.toNat : Int)) := fun c h0 h1 => zfo a c h0 h1
theorem set_2 (a b : UInt8) : ∀ c : Int, 0 ≤ c → c < 256 → (0 ≤ Lib.indexByte [a, b] c.toNat.toUInt8 ↔ c = (a.toNat : Int) ∨ c = (b.toNat : Int)) := fun c h0 h1 => by rw [zbm _ _ _ h0 h1, zfo _ _ h0 h1]

theorem zdo (s : List UInt8) (i : Nat) (hs : s.length ≤ 1048576) (hi : i ≤ s.length) :
    CtrO Tryz.prog 136 [.pv 5 0, .pv 6 0, .pv 1 0] (pO3 s i) (.s (dgT s i)) (pO3 s ((i + (dgT s i).length : Nat) : Int)) := by
  refine zaK Tryz.func136 rfl Tryz.ntmps136 Tryz.results136 rfl rfl rfl rfl rfl fun X hL hX => ?_
  repeat' (first |with_reducible (first |refine zag ?_|refine zaa ?_|refine zaf ?_|refine zad ?_|refine zae ?_)|refine zab rfl rfl True.intro ?_|((first |refine zab rfl rfl ?_ ?_);focus (first |exact le_ rfl|((repeat' refine And.intro ?_ ?_)<;>omega)))|fail)
  refine T.loop hL (fun k : Nat => [(0, .pv 5 0), (1, .pv 6 0), (2, .pv 1 0), (4, .i .i64 i)]) (fun k => pO3 s k) (fun k => i ≤ k ∧ k ≤ s.length ∧ k + (dgT s k).length = i + (dgT s i).length) (fun k => s.length - k) i ⟨Nat.le_refl _, hi, rfl⟩
    ⟨⟨rfl, rfl, rfl, rfl, trivial⟩, ⟨rfl, rfl, rfl, trivial⟩, rfl, by rw [hX]; intro k hk; exact hk⟩ ?_
  rintro k ⟨g1, g2, g3⟩
  have c1 := zmK _ (fun c => 48 ≤ c ∧ c ≤ 57) zlI s k hs g2
  by_cases hd : k < s.length ∧ 48 ≤ at' s k ∧ at' s k ≤ 57
  · rw [decide_eq_true (by exact hd)] at c1
    have h2 := zhx hd.1 hd.2
    have g3 := fun _ : Unit => g3
    repeat' (first |with_reducible (first |refine zag ?_|refine zaa ?_|refine zaf ?_|refine zad ?_|refine zai ?_|refine zae ?_|refine zaq ?_)|refine zas rfl ?_|((first |refine zab rfl rfl ?_ ?_|refine zar rfl ?_ ?_);focus (first |omega|exact le_ rfl|((repeat' refine And.intro ?_ ?_)<;>omega)|((repeat' refine And.intro ?_ ?_)<;>first |rfl|exact Nat.le_refl _)))|refine zaC (f := 135) 5 1 rfl rfl Tryz.call135 rfl rfl rfl rfl rfl rfl rfl rfl rfl c1 ?_|fail)
    exact ⟨k + 1, ⟨by omega, by omega, by rw [← g3 (), h2, List.length_cons]; omega⟩, by omega, ⟨rfl, rfl, rfl, rfl, trivial⟩, ⟨rfl, rfl, rfl, trivial⟩, rfl, by rw [hX]; intro k hk; exact hk⟩
  · rw [decide_eq_false (by exact hd)] at c1
    have h2 : dgT s k = [] := zfc (by
      by_cases h : k < s.length
      · exact .inr (fun h3 => hd ⟨h, h3⟩)
      · exact .inl h)
    rw [h2] at g3
    have hk : k = i + (dgT s i).length := by simpa using g3
    have hcut := fun _ : Unit => zjx s i
    subst hk
    clear g3 h2
    repeat' (first |with_reducible (first |refine zag ?_|refine zaa ?_|refine zaf ?_|refine zad ?_|refine zaj ?_|refine zaz ?_|refine zaA ?_)|refine zab rfl rfl True.intro ?_|refine zak rfl ?_|((first |refine zab rfl rfl ?_ ?_);focus (first |omega|exact le_ rfl|((repeat' refine And.intro ?_ ?_)<;>omega)))|refine zaJ rfl ?_|refine zbe rfl ?_ ?_|refine zaC (f := 135) 5 1 rfl rfl Tryz.call135 rfl rfl rfl rfl rfl rfl rfl rfl rfl c1 ?_|fail)
    · exact congrArg D.s (by rw [Int.toNat_natCast, Int.toNat_natCast]; exact hcut ())
    · exact ⟨⟨rfl, rfl, rfl, trivial⟩⟩
theorem ziA (l : List UInt8) (c : UInt8) : powP (l ++ [c]) = min (10 * powP l + ((c.toNat : Int) - 48)) 1099511627776 := by simp [powP]
theorem zot (x : List UInt8) (hx : ∀ c ∈ x, isD c = true) (hs : x.length ≤ 1048576) : Ctr Tryz.prog 137 [.s x] (.i .i64 (powP x)) := by
  refine zay Tryz.func137 rfl Tryz.ntmps137 Tryz.results137 rfl rfl fun X hL hX => ?_
  repeat' (first |with_reducible (first |refine zag ?_|refine zaa ?_|refine zaf ?_|refine zad ?_|refine zae ?_)|refine zab rfl rfl True.intro ?_|fail)
  refine T.loop hL (fun y : Nat × Int => [(0, .s x), (3, .i .i64 y.2), (6, .i .i64 x.length), (7, .i .i64 y.1)]) (fun _ => []) (fun y => y.1 ≤ x.length ∧ 0 ≤ y.2 ∧ y.2 ≤ 1099511627776 ∧ y.2 = powP (x.take y.1)) (fun y => x.length - y.1) (0, 0) ⟨Nat.zero_le _, by decide, by decide, rfl⟩
    ⟨⟨rfl, rfl, rfl, rfl, trivial⟩, trivial, rfl, by rw [hX]; intro k hk; cases hk⟩ ?_
  rintro ⟨i, n⟩ ⟨g1, g2, g3, g4⟩
  dsimp only at g1 g2 g3 g4 ⊢
  have hd : i < x.length → 48 ≤ at' x i ∧ at' x i ≤ 57 := fun h => zbY.1 (hx _ (by simp [List.getD_eq_getElem?_getD, h]))
  have g4 := fun _ : Unit => g4
  have hw : i < x.length → IntKind.i64.wrap (IntKind.u8.wrap (at' x i - 48)) = at' x i - 48 := fun h => by
    have := hd h
    rw [zcb, wi6_]
    omega
  by_cases hi : i < x.length
  · have hw := hw hi
    have hd := hd hi
    repeat' (first |with_reducible (first |refine zag ?_|refine zaa ?_|refine zaf ?_|refine zad ?_|refine zai ?_|refine zae ?_|refine zaq ?_)|refine zab rfl rfl True.intro ?_|((first |refine zac rfl ?_ ?_)<;>intro<;>try (first |(exfalso;omega)))|((first |refine zab rfl rfl ?_ ?_);focus (first |(rw [hw];(repeat' refine And.intro ?_ ?_)<;>omega)|omega|((repeat' refine And.intro ?_ ?_)<;>omega)))|fail)
    refine ⟨(i + 1, min (10 * n + IntKind.i64.wrap (IntKind.u8.wrap (at' x i - 48))) 1099511627776), ⟨by dsimp only; omega, by dsimp only; omega, by dsimp only; omega, ?_⟩, by dsimp only; omega, ⟨rfl, rfl, rfl, rfl, trivial⟩, trivial, rfl, by rw [hX]; intro k hk; cases hk⟩
    dsimp only
    rw [hw, zfZ x i hi, ziA, ← g4 ()]
    rfl
  ·
    repeat' (first |with_reducible (first |refine zag ?_|refine zaa ?_|refine zaf ?_|refine zad ?_|refine zaj ?_|refine zaz ?_|refine zaA ?_)|refine zab rfl rfl True.intro ?_|((first |refine zac rfl ?_ ?_)<;>intro<;>try (first |(exfalso;omega)))|refine zaJ rfl ?_|refine zaw rfl ?_|fail)
    rw [g4 (), List.take_of_length_le (by omega)]
end Go.Proofs.YtcajofhafpkbdaaGreatDoor.Flow
