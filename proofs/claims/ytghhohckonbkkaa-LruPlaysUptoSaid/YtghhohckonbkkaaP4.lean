/- The texts FlowP, FlowS, FlowW, FlowX, FlowY, FlowZ, FlowZn, FlowZr, FlowZl, L1, one behind the other. -/
import Derived.Test.YtghhohckonbkkaaP3
import Derived.Lib.OthersKept
import Derived.MapKept
import Derived.LaidEqlPtr
/-
  FLOW, PART P: A CALL TO WHICH SEVERAL OBJECTS ARE LENT (a variable, and a row that its cells hold), UNDER THE CALLER's OWN NUMBERS.
-/
namespace Go.Proofs.Ytghhohckonbkkaa.Flow

/-- An argument as the callee sees it: a row that isn't lent is a slice that is read only. -/
def lendA (ids : List Nat) : D → D
  | .gs k e n f => match memB k ids with
    | true => .gs k e n f
    | false => .sl e n f
  | d => d

def hasAll (own : Nat → Option Own) : Ow → Prop
  | [] => True
  | (k, o) :: r => own k = some o ∧ hasAll own r

theorem hasAll_get {own : Nat → Option Own} : ∀ {lo : Ow}, hasAll own lo → ∀ k o, look k lo = some o → own k = some o
  | [], _, k, o, h => by simp [look] at h
  | (u, e) :: r, h, k, o, hk => by
    simp only [look] at hk
    cases hb : Nat.beq u k with
    | true =>
      have := Nat.eq_of_beq_eq_true hb
      subst this
      rw [hb] at hk
      cases hk
      exact h.1
    | false =>
      rw [hb] at hk
      exact hasAll_get h.2 k o hk

theorem mem_of_look {α : Type} {k : Nat} {o : α} : ∀ {l : List (Nat × α)}, look k l = some o → (k, o) ∈ l
  | [], h => by simp [look] at h
  | (u, e) :: r, h => by
    simp only [look] at h
    cases hb : Nat.beq u k with
    | true =>
      have := Nat.eq_of_beq_eq_true hb
      subst this
      rw [hb] at h
      cases h
      simp
    | false =>
      rw [hb] at h
      exact List.mem_cons_of_mem _ (mem_of_look h)

theorem updO_look {O : Nat → Option Own} : ∀ {l : Ow}, (l.map (·.1)).Nodup → ∀ k, updO O l k = match look k l with
    | some o => some o
    | none => O k
  | [], _, k => rfl
  | (u, e) :: r, hn, k => by
    simp only [List.map_cons, List.nodup_cons] at hn
    simp only [updO, look]
    rw [updO_look hn.2 k]
    cases hb : Nat.beq u k with
    | true =>
      have := Nat.eq_of_beq_eq_true hb
      subst this
      rw [look_none hn.1]
      simp
    | false =>
      have hne : k ≠ u := fun e => by subst e; rw [Nat.beq_refl] at hb; cases hb
      cases look k r with
      | some o => rfl
      | none => simp [hne]

/-- An object whose block nobody has written to. -/
theorem ObjOk.keepL {S S' : Cells} {w w' : World} {r r' : Rho} {k : Nat} {o : Own} (h : ObjOk S w r k o) (hS : ∀ b o, S b o → S' b o) (hc : ∀ b o, S b o → w'.cell? ⟨b, o, none⟩ = w.cell? ⟨b, o, none⟩) (hr : RhoLe r r') (hk : r' k = r k)
    (hg : ∀ l b, r k = some l → l.block = some b → w'.heap[b]? = w.heap[b]?) (hn : ∀ b o, S' b o → S b o ∨ ∀ l, r k = some l → l.block ≠ some b) : ObjOk S' w' r' k o := by
  have hmono : ∀ d v, Rel S w r d v → Rel S' w' r' d v := fun d v hd => hd.mono hS hc r' hr
  cases o with
  | var cs =>
    obtain ⟨b, cur, e, h1, h2, h3, h4, h5⟩ := h
    have hb : (Loc.blk b).block = some b := rfl
    refine ⟨b, cur, e, hk.trans h1, ?_, h3, fun j hj => ⟨hmono _ _ (h4 j hj).1, (h4 j hj).2⟩, fun o ho => ?_⟩
    · rw [hg _ _ h1 hb]; exact h2
    · rcases hn b o ho with h6 | h6
      · exact h5 o h6
      · exact h6 _ h1 hb
  | row e esz len =>
    obtain ⟨tv, h1, h2⟩ := h
    refine ⟨tv, hk.trans h1, ?_⟩
    rcases h2 with h2 | ⟨g', cap, cur, rfl, h3, h4, h5, h6, h7⟩
    · exact .inl h2
    · have hb : (Loc.row (.slice (some ⟨g', 0, none⟩) len cap) len).block = some g' := rfl
      refine .inr ⟨g', cap, cur, rfl, ?_, h4, h5, h6, fun o ho hs => ?_⟩
      · rw [hg _ _ h1 hb]; exact h3
      · rcases hn g' o hs with h8 | h8
        · exact h7 o ho h8
        · exact h8 _ h1 hb
  | arr e esz len f =>
    obtain ⟨tv, h1, h2⟩ := h
    refine ⟨tv, hk.trans h1, ?_⟩
    rcases h2 with h2 | ⟨g', cap, cur, rfl, h3, h4, h5, h6, h7, h8, h9⟩
    · exact .inl h2
    · have hb : (Loc.row (.slice (some ⟨g', 0, none⟩) len cap) len).block = some g' := rfl
      refine .inr ⟨g', cap, cur, rfl, ?_, h4, h5, h6, h7, fun i j hi hj => (h8 i j hi hj).mono hS hc noRho (RhoLe.refl _), fun o hs => ?_⟩
      · rw [hg _ _ h1 hb]; exact h3
      · rcases hn g' o hs with h10 | h10
        · exact h9 o h10
        · exact h10 _ h1 hb
  | ob x =>
    obtain ⟨b, h1, h2, h5⟩ := h
    have hb : (Loc.blk b).block = some b := rfl
    refine ⟨b, hk.trans h1, ?_, fun o ho => ?_⟩
    · rw [hg _ _ h1 hb]; exact h2
    · rcases hn b o ho with h6 | h6
      · exact h5 o h6
      · exact h6 _ h1 hb
  | bld T d =>
    obtain ⟨b, cur, e, h1, h2, h3, h4, h7, h5⟩ := h
    have hb : (Loc.blk b).block = some b := rfl
    refine ⟨b, cur, e, hk.trans h1, ?_, h3, h4, ⟨hmono _ _ h7.1, h7.2⟩, fun o ho => ?_⟩
    · rw [hg _ _ h1 hb]; exact h2
    · rcases hn b o ho with h6 | h6
      · exact h5 o h6
      · exact h6 _ h1 hb
  | mp es =>
    obtain ⟨b, arr, clock, h1, h2, h3, h4, h7, h5⟩ := h
    have hb : (Loc.blk b).block = some b := rfl
    refine ⟨b, arr, clock, hk.trans h1, ?_, h3, fun j hj => ⟨(h4 j hj).1, hmono _ _ (h4 j hj).2.1, (h4 j hj).2.2⟩, h7, fun o ho => ?_⟩
    · rw [hg _ _ h1 hb]; exact h2
    · rcases hn b o ho with h6 | h6
      · exact h5 o h6
      · exact h6 _ h1 hb
  | gone =>
    obtain ⟨l, h1, h2⟩ := h
    refine ⟨l, hk.trans h1, fun b hb => ?_⟩
    have h3 := hg l b h1 hb
    rw [Array.getElem?_eq_getElem (h2 b hb)] at h3
    exact (Array.getElem?_eq_some_iff.1 h3).1

/-- An object whose data name only certain objects. -/
theorem ObjOk.okIn {S : Cells} {w : World} {r r' : Rho} {k : Nat} {o : Own} {ks : List Nat} (h : ObjOk S w r k o) (hok : o.okIn ks = true) (hr : RhoLe (keepR r ks) r') (hk : r' k = r k) : ObjOk S w r' k o := by
  cases o with
  | var cs =>
    obtain ⟨b, cur, e, h1, h2, h3, h4, h5⟩ := h
    refine ⟨b, cur, e, hk.trans h1, h2, h3, fun j hj => ⟨((h4 j hj).1.okIn (ks := ks) ?_).mono (fun _ _ h => h) (fun _ _ _ => rfl) r' hr, (h4 j hj).2⟩, h5⟩
    simp only [Own.okIn, List.all_eq_true] at hok
    refine hok _ ?_
    simp only [List.getD_eq_getElem?_getD, List.getElem?_eq_getElem hj, Option.getD_some]
    exact List.getElem_mem hj
  | row e esz len =>
    obtain ⟨tv, h1, h2⟩ := h
    exact ⟨tv, hk.trans h1, h2⟩
  | arr e esz len f =>
    obtain ⟨tv, h1, h2⟩ := h
    exact ⟨tv, hk.trans h1, h2⟩
  | ob x =>
    obtain ⟨b, h1, h2⟩ := h
    exact ⟨b, hk.trans h1, h2⟩
  | bld T d =>
    obtain ⟨b, cur, e, h1, h2, h3, h4, h7, h5⟩ := h
    exact ⟨b, cur, e, hk.trans h1, h2, h3, h4, ⟨(h7.1.okIn (ks := ks) hok).mono (fun _ _ h => h) (fun _ _ _ => rfl) r' hr, h7.2⟩, h5⟩
  | mp es =>
    obtain ⟨b, arr, clock, h1, h2, h3, h4, h7, h5⟩ := h
    refine ⟨b, arr, clock, hk.trans h1, h2, h3, fun j hj => ⟨(h4 j hj).1, ((h4 j hj).2.1.okIn (ks := ks) ?_).mono (fun _ _ h => h) (fun _ _ _ => rfl) r' hr, (h4 j hj).2.2⟩, h7, h5⟩
    simp only [Own.okIn, List.all_eq_true] at hok
    refine hok _ ?_
    simp only [List.getD_eq_getElem?_getD, List.getElem?_eq_getElem hj, Option.getD_some]
    exact List.getElem_mem hj
  | gone =>
    obtain ⟨l, h1, h2⟩ := h
    exact ⟨l, hk.trans h1, h2⟩

section
variable {P : Program} {X : Ctx} {n : Nat} {fr : Fr} {ow : Ow} {d : D}

theorem lendM_step {o : Oper} {f : FuncId} {args : List D} {lo lo' : Ow} {ids : List Nat} (hP : ∀ vs w, (callFunc f vs).run P w = .ok (.enter f vs) w) (hc : callOf fr o.op = some (f, args)) (hk : hasAll (fun k => look k ow) lo)
    (hi1 : lo.map (·.1) = ids) (hi2 : lo'.map (·.1) = ids) (hnd : ids.Nodup)
    (hok : (args.map (lendA ids)).all (D.okIn ids) = true) (hf1 : lo.all (fun x => x.2.okIn ids) = true) (hf2 : lo'.all (fun x => x.2.okIn ids) = true) (hf3 : d.okIn ids = true)
    (hC : CtrO P f (args.map (lendA ids)) lo d lo') (hd : dstOk o.dst n) :
    ∀ F' O', (∀ x ∈ o.op.operands.toList, evF F' x = evF (fF fr) x) → (∀ j ∈ ids, O' j = fO ow j) → StepAt P X n o F' O' d lo' := by
  intro F' O' he hO a w K' Q' ⟨S, r, hH, hI, hF, hdf, hn, hρ⟩ hK
  obtain ⟨vs, hrun, hsz, hrel⟩ := call_enter hP hc he (fun x => evF_rel hH.glob hF x)
  have hOk : ∀ k o, look k lo = some o → O' k = some o := fun k o h => by
    have hm : k ∈ ids := by rw [← hi1]; exact List.mem_map.2 ⟨(k, o), mem_of_look h, rfl⟩
    exact (hO k hm).trans (hasAll_get hk k o h)
  have hmem : ∀ k, k ∈ ids → ∃ o, look k lo = some o := fun k h => look_some (by rw [hi1]; exact h)
  have hmem' : ∀ k, k ∈ ids → ∃ o, look k lo' = some o := fun k h => look_some (by rw [hi2]; exact h)
  have hin : ∀ k o, look k lo = some o → k ∈ ids ∧ o.okIn ids = true := fun k o h => by
    have h1 := mem_of_look h
    rw [List.all_eq_true] at hf1
    exact ⟨by rw [← hi1]; exact List.mem_map.2 ⟨(k, o), h1, rfl⟩, hf1 _ h1⟩
  have hin' : ∀ k o, look k lo' = some o → k ∈ ids ∧ o.okIn ids = true := fun k o h => by
    have h1 := mem_of_look h
    rw [List.all_eq_true] at hf2
    exact ⟨by rw [← hi2]; exact List.mem_map.2 ⟨(k, o), h1, rfl⟩, hf2 _ h1⟩
  have hblt : ∀ k l b, r k = some l → l.block = some b → b < w.heap.size := fun k l b hl hb => by
    cases ho : O' k with
    | none => rw [hI.dom k ho] at hl; cases hl
    | some o => exact (hI.obj k o ho).blockLt hl hb
  let X' : Ctx := { w0 := w, S0 := S, L := fun b => ∃ k ∈ ids, ∃ l, r k = some l ∧ l.block = some b, r0 := keepR r ids, ids := ids }
  have hH' : Hist X' w S := ⟨rfl, rfl, rfl, Nat.le_refl _, fun _ _ _ => rfl, fun _ _ h => h, fun _ _ _ => rfl, fun _ _ h => .inl h, hH.valid, hH.glob⟩
  have hI' : Inv X' w S X'.r0 (fO lo) := by
    refine ⟨fun k o hk' => ?_, fun k hk' => ?_, fun i j l l' b' hij hl hl' hb' => ?_, fun k l b' hl hb' => ?_⟩
    · obtain ⟨h1, h2⟩ := hin k o hk'
      exact (hI.obj k o (hOk k o hk')).okIn h2 (RhoLe.refl _) (if_pos h1)
    · refine if_neg fun hm => ?_
      obtain ⟨o, ho⟩ := hmem k hm
      rw [show fO lo k = look k lo from rfl, ho] at hk'
      cases hk'
    · have hl : keepR r ids i = some l := hl
      have hl' : keepR r ids j = some l' := hl'
      simp only [keepR] at hl hl'
      split at hl <;> first | (cases hl; done) | skip
      split at hl' <;> first | (cases hl'; done) | skip
      exact hI.apart i j l l' b' hij hl hl' hb'
    · have hl : keepR r ids k = some l := hl
      simp only [keepR] at hl
      split at hl <;> first | (cases hl; done) | skip
      rename_i hm
      exact .inr ⟨k, hm, l, hl, hb'⟩
  have hrel' : ∀ j, j < (args.map (lendA ids)).length → Rel S w X'.r0 ((args.map (lendA ids)).getD j .any) (vs.getD j undef) := by
    intro j hj
    have hj' : j < args.length := by simpa using hj
    have e : (args.map (lendA ids)).getD j .any = lendA ids (args.getD j .any) := by simp [List.getD_eq_getElem?_getD, hj']
    have hokj : (lendA ids (args.getD j .any)).okIn ids = true := by
      rw [← e]
      rw [List.all_eq_true] at hok
      refine hok _ ?_
      simp only [List.getD_eq_getElem?_getD, List.getElem?_eq_getElem hj, Option.getD_some]
      exact List.getElem_mem hj
    rw [e]
    have hr := hrel j hj'
    generalize args.getD j .any = dj at hr hokj
    generalize vs.getD j undef = vj at hr
    refine Rel.okIn (r := r) ?_ hokj
    cases dj with
    | gs k z m g =>
      simp only [lendA]
      split
      · exact hr
      · exact hr.shut
    | _ => exact hr
  unfold Oper.wp
  rw [hrun]
  refine (hC X' vs hi1.symm hH' hI' (by simpa using hsz) hrel').mono ?_
  rintro e w' ⟨v, S', r', rfl, g1, g2, g3, g4⟩
  let r2 : Rho := fun k => if k ∈ ids then r' k else r k
  have hr2 : RhoLe r r2 := fun k l hl => by
    by_cases hm : k ∈ ids
    · obtain ⟨l', h1, h2⟩ := g4 k l (by show keepR r ids k = some l; rw [keepR, if_pos hm]; exact hl)
      exact ⟨l', by show (if k ∈ ids then r' k else r k) = some l'; rw [if_pos hm]; exact h1, h2⟩
    · exact ⟨l, by show (if k ∈ ids then r' k else r k) = some l; rw [if_neg hm]; exact hl, LocLe.refl l⟩
  have hr3 : RhoLe (keepR r' ids) r2 := fun k l hl => by
    simp only [keepR] at hl
    split at hl <;> first | (cases hl; done) | skip
    rename_i hm
    exact ⟨l, by show (if k ∈ ids then r' k else r k) = some l; rw [if_pos hm]; exact hl, LocLe.refl l⟩
  have hXL : ∀ b, X'.L b → X.w0.heap.size ≤ b ∨ X.L b := fun b ⟨k, _, l, hl, hb⟩ => hI.low k l b hl hb
  have hother : ∀ k l b, k ∉ ids → r k = some l → l.block = some b → ¬ X'.L b := fun k l b hm hl hb ⟨k', hm', l', hl', hb'⟩ =>
    hI.apart k k' l l' b (fun e => hm (e ▸ hm')) hl hl' hb hb'
  refine hK v w' ⟨S', r2, ?_, ?_, rel_put (fun t => (hF t).mono g2.sub g2.cell r2 hr2) (hn ▸ hd) ((g1.okIn hf3).mono (fun _ _ h => h) (fun _ _ _ => rfl) r2 hr3), by rw [put_defers]; exact hdf, by rw [put_size]; exact hn, hρ.trans hr2⟩
  · refine ⟨g2.os.trans hH.os, g2.tape.trans hH.tape, g2.output.trans hH.output, Nat.le_trans hH.size g2.size, fun k hk' hl => ?_, fun b o hb => g2.sub b o (hH.sub b o hb), fun b o hb => (g2.cell b o (hH.sub b o hb)).trans (hH.cell b o hb), fun b o hb => ?_, g2.valid, g2.glob⟩
    · refine (g2.block k (Nat.lt_of_lt_of_le hk' hH.size) fun hx => ?_).trans (hH.block k hk' hl)
      rcases hXL k hx with h | h
      · omega
      · exact hl h
    · rcases g2.new b o hb with h | h | h
      · exact hH.new b o h
      · exact .inr (.inl (Nat.le_trans hH.size h))
      · rcases hXL b h with h | h
        · exact .inr (.inl h)
        · exact .inr (.inr h)
  · have hnd' : (lo'.map (·.1)).Nodup := by rw [hi2]; exact hnd
    have hup : ∀ k, k ∉ ids → updO O' lo' k = O' k := fun k hm => by
      rw [updO_look hnd', look_none (by rw [hi2]; exact hm)]
    refine ⟨fun k o hk' => ?_, fun k hk' => ?_, fun i j l l' b hij hl hl' hb => ?_, fun k l b hl hb => ?_⟩
    · by_cases hm : k ∈ ids
      · obtain ⟨o', ho'⟩ := hmem' k hm
        rw [updO_look hnd', ho'] at hk'
        obtain rfl : o' = o := Option.some.inj hk'
        exact (g3.obj k o' ho').okIn (hin' k o' ho').2 hr3 (if_pos hm)
      · rw [hup k hm] at hk'
        refine (hI.obj k o hk').keepL g2.sub g2.cell hr2 (if_neg hm) (fun l b hl hb => g2.block b (hblt k l b hl hb) (hother k l b hm hl hb)) (fun b o hs => ?_)
        rcases g2.new b o hs with h | h | h
        · exact .inl h
        · refine .inr fun l hl hb => ?_
          have := hblt k l b hl hb
          have h : w.heap.size ≤ b := h
          omega
        · exact .inr fun l hl hb => hother k l b hm hl hb h
    · by_cases hm : k ∈ ids
      · obtain ⟨o', ho'⟩ := hmem' k hm
        rw [updO_look hnd', ho'] at hk'
        cases hk'
      · rw [hup k hm] at hk'
        exact (if_neg hm).trans (hI.dom k hk')
    · have hl : (if i ∈ ids then r' i else r i) = some l := hl
      have hl' : (if j ∈ ids then r' j else r j) = some l' := hl'
      by_cases h1 : i ∈ ids
      · rw [if_pos h1] at hl
        by_cases h2 : j ∈ ids
        · rw [if_pos h2] at hl'
          exact g3.apart i j l l' b hij hl hl' hb
        · rw [if_neg h2] at hl'
          intro hb'
          rcases g3.low i l b hl hb with h | h
          · have := hblt j l' b hl' hb'
            have h : w.heap.size ≤ b := h
            omega
          · exact hother j l' b h2 hl' hb' h
      · rw [if_neg h1] at hl
        by_cases h2 : j ∈ ids
        · rw [if_pos h2] at hl'
          intro hb'
          rcases g3.low j l' b hl' hb' with h | h
          · have := hblt i l b hl hb
            have h : w.heap.size ≤ b := h
            omega
          · exact hother i l b h1 hl hb h
        · rw [if_neg h2] at hl'
          exact hI.apart i j l l' b hij hl hl' hb
    · have hl : (if k ∈ ids then r' k else r k) = some l := hl
      by_cases h1 : k ∈ ids
      · rw [if_pos h1] at hl
        rcases g3.low k l b hl hb with h | h
        · exact .inl (Nat.le_trans hH.size h)
        · exact hXL b h
      · rw [if_neg h1] at hl
        exact hI.low k l b hl hb

/-- What is handed back; a single result as it stands. -/
def resU (B : Tb) (fr : Fr) (ow : Ow) (rs : List ResultVar) : Option D :=
  match rs with
  | [.tmp t] => fz (getD' t fr) some
  | rs => resD B fr ow rs

theorem results_okU {ow : Ow} {fr : Fr} {fn : Func} {a : Act} {w : World} {S : Cells} {r : Rho} {d : D} {rs : List ResultVar} (hrs : fn.results = ⟨rs⟩) (hI : Inv X w S r (fO ow)) (hF : ∀ t, Rel S w r (fF fr t) (a.tmps.getD t undef)) (h : resU (tb P) fr ow rs = some d) :
    ∃ v, (results fn a.tmps).run P w = .ok v w ∧ Rel S w r d v := by
  unfold resU at h
  split at h
  · rename_i t
    rw [fz_eq] at h
    cases h
    refine ⟨a.tmps.getD t undef, ?_, hF t⟩
    have hm : (fn.results.mapM (resF a.tmps)).run P w = .ok #[a.tmps.getD t undef] w := by
      rw [hrs, Array.mapM_eq_mapM_toList]
      have h1 : ([ResultVar.tmp t].mapM (resF a.tmps)).run P w = .ok [a.tmps.getD t undef] w := by
        have h0 : (resF a.tmps (.tmp t)).run P w = .ok (a.tmps.getD t undef) w := rfl
        rw [List.mapM_cons]
        simp only [Sem.run_bind, h0, List.mapM_nil, Result.andThen_ok, Sem.run_pure]
      simp only [Sem.run_map, h1, Result.andThen_ok]
    simp only [results_eq, Sem.run_bind, hm, Result.andThen_ok, Sem.run_pure]
    rfl
  · exact results_ok hrs hI hF h

variable {ow' : Ow}
/-- FROM A BODY TO A CONTRACT (a single result may be a row that goes on growing). -/
theorem CtrO.of_TU {f : FuncId} {fn : Func} {c : Code} {N : Nat} {rs : List ResultVar} {args : List D} {d : D} (hf : P.funcs[f]? = some fn) (hb : fn.body = some c) (hN : fn.ntmps = N) (hrs : fn.results = ⟨rs⟩) (hlen : args.length ≤ N)
    (h : ∀ X : Ctx, Lent X → X.ids = ow.map (·.1) → T P X N c (slots 0 args) ow (fun e fr2 ow2 => (e = .ret ∨ e = .normal) ∧ ∃ d2, resU (tb P) fr2 ow2 rs = some d2 ∧ Weak d2 d ∧ d.okIn (ow'.map (·.1)) = true ∧ Le X fr2 ow2 [] ow')) :
    CtrO P f args ow d ow' := by
  intro X vs hids hH hI hsz hrel
  have hL : Lent X := fun k hk => by
    rw [hids]
    cases hmem : look k ow with
    | none => exact absurd (hI.dom k hmem) hk
    | some o =>
      by_cases hm : k ∈ ow.map (·.1)
      · exact hm
      · rw [look_none hm] at hmem; cases hmem
  refine calls_of_wp hf hb ?_
  have hrep : Rep X N (fF (slots 0 args)) (fO ow) { tmps := vs ++ Array.replicate (fn.ntmps - vs.size) undef, defers := [] } X.w0 := by
    refine ⟨X.S0, X.r0, hH, hI, fun t => ?_, rfl, by simp; omega, RhoLe.refl _⟩
    show Rel _ _ _ (getD' t (slots 0 args)) _
    rw [slots_get]
    simp only [Nat.zero_le, if_true, Nat.sub_zero]
    by_cases ht : t < args.length
    · have := hrel t ht
      rw [Array.getD_eq_getD_getElem?, Array.getElem?_append_left (by omega), ← Array.getD_eq_getD_getElem?]
      exact this
    · rw [List.getD_eq_getElem?_getD, List.getElem?_eq_none (by omega)]
      exact .any ..
  refine wp_mono (h X hL hids _ _ hrep) fun e a w ⟨fr2, ow2, ⟨he, d2, h1, h2, h3, h4⟩, hrep2⟩ => ?_
  obtain ⟨S, r, hH2, hI2, hF2, hd2, _, hρ2⟩ := hrep2
  obtain ⟨v, hv, hvr⟩ := results_okU (P := P) hrs hI2 hF2 h1
  have hok := h4.ok
  simp only [okAll, Bool.and_eq_true] at hok
  have hfin : ∃ v' S' r', Ending.returned v = .returned v' ∧ Rel S' w r' d v' ∧ Hist X w S' ∧ Inv X w S' r' (fO ow') ∧ RhoLe X.r0 r' := by
    refine ⟨v, S, keepR r (ow'.map (·.1)), rfl, ?_, hH2, hI2.keep h4.ow hok.2, fun k l hk => ?_⟩
    · exact (hvr.weak h2).okIn h3
    · obtain ⟨l', g1, g2⟩ := hρ2 k l hk
      have : k ∈ ow'.map (·.1) := h4.ids k (hL k (by rw [hk]; simp))
      exact ⟨l', by simp only [keepR]; rw [if_pos this]; exact g1, g2⟩
  rcases he with rfl | rfl
  · exact ⟨hd2, v, hv, hfin⟩
  · exact ⟨hd2, v, hv, hfin⟩

/-- A nil slice in a variable's cell is taken for an empty row of the call's own. -/
theorem T.adoptV {c : Code} {Q : Exit → Fr → Ow → Prop} (v j k e z : Nat) (cs : List D) (f : Nat → List D) (hv : look v ow = some (.var cs)) (hj : cs.getD j .any = .nilS) (hk : look k ow = none)
    (h : T P X n c fr ((v, .var (cs.set j (.gs k z 0 f))) :: (k, .row e z 0) :: ow) Q) : T P X n c fr ow Q := fun a w hr => by
  refine h a w ?_
  obtain ⟨S, r, hH, hI, hF, hd, hn, hρ⟩ := hr
  have hle : RhoLe r (updR r k (.row (.slice none 0 0) 0)) := RhoLe.new (hI.dom k hk)
  have hk0 : updR r k (.row (.slice none 0 0) 0) k = some (.row (.slice none 0 0) 0) := by simp [updR]
  have hc : Chg w w S none := ⟨rfl, rfl, rfl, Nat.le_refl _, fun _ _ _ => rfl, fun _ _ _ => rfl⟩
  have hI2 : Inv X w S (updR r k (.row (.slice none 0 0) 0)) (fO ((k, .row e z 0) :: ow)) := by
    rw [fO_cons]
    exact hI.put hc (fun _ _ h => h) hle k _ (.row (.slice none 0 0) 0) ⟨_, hk0, .inl ⟨rfl, rfl⟩⟩ hk0 (fun j hj => by simp [updR, hj]) (fun b hb => by simp [Loc.block] at hb) (fun b hb => by cases hb) (fun _ _ h => .inl h)
  have hvk : v ≠ k := fun e => by subst e; rw [hv] at hk; cases hk
  have hv2 : fO ((k, .row e z 0) :: ow) v = some (.var cs) := by
    rw [fO_cons]
    show (if v = k then _ else fO ow v) = _
    rw [if_neg hvk]
    exact hv
  have hobj := hI2.obj v _ hv2
  obtain ⟨b, cur, e0, h1, h2, h3, h4, h5⟩ := hobj
  refine ⟨S, updR r k (.row (.slice none 0 0) 0), hH, ?_, fun u => (hF u).mono (fun _ _ h => h) (fun _ _ _ => rfl) _ hle, hd, hn, hρ.trans hle⟩
  rw [fO_cons]
  refine hI2.put hc (fun _ _ h => h) (RhoLe.refl _) v _ (.blk b) ⟨b, cur, e0, h1, h2, by simpa using h3, fun i hi => ?_, h5⟩ h1 (fun _ _ => rfl) (fun b' hb' => .inr ⟨_, h1, hb'⟩) (fun b hb => by cases hb) (fun _ _ h => .inl h)
  have hi' : i < cs.length := by simpa using hi
  by_cases e : j = i
  · subst e
    have e1 : (cs.set j (D.gs k z 0 f)).getD j .any = .gs k z 0 f := by simp [List.getD_eq_getElem?_getD, hi']
    rw [e1]
    have h6 := (h4 j hi').1
    rw [hj] at h6
    generalize cur.getD j undef = vj at h6 ⊢
    cases h6
    refine ⟨.gs _ k z 0 f _ _ 0 (.sl _ _ _ _ none 0 (fun _ _ => undef) (Nat.le_refl _) (by unfold maxLen; omega) (fun i hi => by omega) (fun i j hi => by omega) (fun i j hi => by omega)) hk0 (Nat.le_refl _) (fun _ => .inl rfl), rfl⟩
  · have e1 : (cs.set j (D.gs k z 0 f)).getD i .any = cs.getD i .any := by simp [List.getD_eq_getElem?_getD, List.getElem?_set, e]
    rw [e1]
    exact h4 i hi'
end

section
variable {X : Ctx} {n : Nat} {all rest : List Oper} {fr : Fr} {ow : Ow} {tr : List (List Nat × List Nat)} {K : Fr → Ow → List (List Nat × List Nat) → Prop} {Q : Exit → Fr → Ow → Prop}
variable {t : Nat} {op : Op} {ty : TypeId} {pos : String} {af : Array Edge} {d : D} {g u : Nat} {want : Bool} {k k2 : Nat} {o1 o2 o1' o2' : Own} {f : FuncId} {args : List D}

/-- A goal that the walk leaves alone. -/
structure Stay (p : Prop) : Prop where
  out : p

/-- What must hold where a function ends to which objects were lent. -/
def EndsM (rs : List ResultVar) (d : D) (lo : Ow) (e : Exit) (fr : Fr) (ow : Ow) : Prop :=
  match e with
  | .ret | .normal => ∃ d2, resU B fr ow rs = some d2 ∧ Weak d2 d ∧ leOw ow lo
  | _ => False

theorem x_endM {rs : List ResultVar} {d d2 : D} {lo : Ow} (h : resU B fr ow rs = some d2) (he : d2 = d) (hlo : Stay (leOw ow lo)) : Rtn (EndsM rs d lo) fr ow := by
  unfold Rtn
  exact ⟨d2, h, .of_eq he, hlo.out⟩
theorem n_endM {rs : List ResultVar} {d d2 : D} {lo : Ow} (h : resU B fr ow rs = some d2) (he : d2 = d) (hlo : Stay (leOw ow lo)) : Nrm (EndsM rs d lo) fr ow := by
  unfold Nrm
  exact ⟨d2, h, .of_eq he, hlo.out⟩

/-- FROM A BODY TO A CONTRACT WITH OBJECTS LENT. -/
theorem r_methM {fn : Func} {c : Code} {N : Nat} {rs : List ResultVar} {lo lo' : Ow} {ids : List Nat} (hf : Try.prog.funcs[f]? = some fn) (hb : fn.body = some c) (hN : fn.ntmps = N) (hrs : fn.results = ⟨rs⟩) (hlen : Nat.ble args.length N = true)
    (hi1 : lo.map (·.1) = ids) (hi2 : lo'.map (·.1) = ids) (hd : d.okIn ids = true) (hcs : lo'.all (fun x => x.2.okIn ids) = true)
    (h : ∀ X : Ctx, Lent X → X.ids = ids → T Try.prog X N c (slots 0 args) lo (EndsM rs d lo')) : CtrO Try.prog f args lo d lo' := by
  refine CtrO.of_TU hf hb hN hrs (by simpa using hlen) fun X hL hi => (h X hL (hi.trans hi1)).mono fun e fr2 ow2 hq => ?_
  have key : ∀ d2, resU B fr2 ow2 rs = some d2 → Weak d2 d → leOw ow2 lo' →
      ∃ d2, resU (tb Try.prog) fr2 ow2 rs = some d2 ∧ Weak d2 d ∧ d.okIn (lo'.map (·.1)) = true ∧ Le X fr2 ow2 [] lo' := by
    intro d2 h1 h2 h3
    refine ⟨d2, by rw [tb_eq]; exact h1, h2, by rw [hi2]; exact hd, trivial, h3, ?_, fun k hk => ?_⟩
    · rw [hi2]
      simp only [okAll, List.all_nil, Bool.true_and]
      exact hcs
    · rw [hi, hi1] at hk
      rw [hi2]
      exact hk
  cases e with
  | ret => obtain ⟨d2, h1, h2, h3⟩ := hq; exact ⟨.inl rfl, key d2 h1 h2 h3⟩
  | normal => obtain ⟨d2, h1, h2, h3⟩ := hq; exact ⟨.inr rfl, key d2 h1 h2 h3⟩
  | _ => exact hq.elim
end
end Go.Proofs.Ytghhohckonbkkaa.Flow

/-
  FLOW, PART S: A TEXT OF SINGLE BYTES READ LETTER BY LETTER ('for .. range' over a text); division of numbers below 0.
-/
namespace Go.Proofs.Ytghhohckonbkkaa.Flow
open Go

/-- The object is changed in its place. -/
theorem Chg.setObj (w : World) (S : Cells) (b : Nat) (x : Obj) (hS : ∀ o, ¬ S b o) : Chg w { w with heap := w.heap.setIfInBounds b x } S (some b) where
  os := rfl
  tape := rfl
  output := rfl
  size := by simp
  block := fun k _ hne => by
    have : b ≠ k := fun e => hne (by rw [e])
    simp [Array.getElem?_setIfInBounds, this]
  cell := fun b' o hb => by
    have : b ≠ b' := fun e => hS o (by rw [e]; exact hb)
    have e : ({ w with heap := w.heap.setIfInBounds b x } : World).heap[b']? = w.heap[b']? := by simp [Array.getElem?_setIfInBounds, this]
    exact World.cell?_of_block e

section
variable {P : Program} {X : Ctx} {n : Nat} {O : Nat → Option Own}

variable {o : Oper} {fr : Fr} {ow : Ow} {t k pos : Nat} {ty : TypeId} {x : Operand} {l : List UInt8}

end

section
variable {X : Ctx} {n : Nat} {all rest : List Oper} {fr : Fr} {ow : Ow} {tr : List (List Nat × List Nat)} {K : Fr → Ow → List (List Nat × List Nat) → Prop}
variable {t k pos : Nat} {ty ty' : TypeId} {ps : String} {af : Array Edge} {x : Operand} {l : List UInt8}

end
end Go.Proofs.Ytghhohckonbkkaa.Flow

/-
  FLOW, PART W: AN ARRAY OF THE CALL's OWN, ITS ELEMENTS WRITTEN ONE BY ONE (a row of one element that changes), AND ITS END TAKEN AS A SLICE THAT NOBODY WRITES TO ANY MORE.
-/
namespace Go.Proofs.Ytghhohckonbkkaa.Flow
open Go

section
variable {P : Program} {X : Ctx} {n : Nat} {O : Nat → Option Own}

variable {o : Oper} {fr : Fr} {ow : Ow} {t k : Nat} {ty : TypeId} {x : Operand}

end

section
variable {X : Ctx} {n : Nat} {all rest : List Oper} {fr : Fr} {ow : Ow} {tr : List (List Nat × List Nat)} {K : Fr → Ow → List (List Nat × List Nat) → Prop}
variable {t k : Nat} {ty ty' : TypeId} {ps : String} {af : Array Edge} {x : Operand}

end
end Go.Proofs.Ytghhohckonbkkaa.Flow

/-
  FLOW, PART X: several objects lent to a callee that leaves them as they are; a new variable under a name of one's own.
-/
namespace Go.Proofs.Ytghhohckonbkkaa.Flow
open Go

theorem updO_stays {O : Nat → Option Own} : ∀ {lo : Ow}, hasAll O lo → updO O lo = O
  | [], _ => rfl
  | (k, o) :: r, h => by
    have e : (fun j => if j = k then some o else O j) = O := by
      funext j
      by_cases hj : j = k
      · subst hj
        rw [if_pos rfl]
        exact h.1.symm
      · rw [if_neg hj]
    show updO (fun j => if j = k then some o else O j) r = O
    rw [e]
    exact updO_stays h.2

theorem hasAll_congr {O O' : Nat → Option Own} : ∀ {lo : Ow}, hasAll O lo → (∀ j ∈ lo.map (·.1), O' j = O j) → hasAll O' lo
  | [], _, _ => trivial
  | (k, o) :: r, h, hc => ⟨(hc k (by simp)).trans h.1, hasAll_congr h.2 fun j hj => hc j (by simp at hj ⊢; exact .inr hj)⟩

theorem lendM_read {P : Program} {X : Ctx} {n : Nat} {fr : Fr} {ow : Ow} {d : D} {o : Oper} {f : FuncId} {args : List D} {lo : Ow} {ids : List Nat} (hP : ∀ vs w, (callFunc f vs).run P w = .ok (.enter f vs) w) (hc : callOf fr o.op = some (f, args)) (hk : hasAll (fun k => look k ow) lo)
    (hi : lo.map (·.1) = ids) (hnd : ids.Nodup) (hok : (args.map (lendA ids)).all (D.okIn ids) = true) (hf1 : lo.all (fun x => x.2.okIn ids) = true) (hf3 : d.okIn ids = true)
    (hC : CtrO P f (args.map (lendA ids)) lo d lo) (hd : dstOk o.dst n) :
    ∀ F' O', (∀ x ∈ o.op.operands.toList, evF F' x = evF (fF fr) x) → (∀ j ∈ ids, O' j = fO ow j) → StepAt P X n o F' O' d [] := by
  intro F' O' he hO
  have h := lendM_step (X := X) (n := n) hP hc hk hi hi hnd hok hf1 hf1 hf3 hC hd F' O' he hO
  have e : updO O' lo = updO O' [] := updO_stays (hasAll_congr hk fun j hj => hO j (by rw [← hi]; exact hj))
  unfold StepAt at h ⊢
  rw [e] at h
  exact h

theorem var_step {P : Program} {X : Ctx} {n : Nat} {o : Oper} {fr : Fr} {ow : Ow} {ty : TypeId} {k : Nat} {B' : Tb} {zd : D} (hB : tb P = B') (ho : o.op = .alloc ty) (hz : B'.zr ty = some zd) (hs : zd.solid = true) (h1 : zd.cells.all D.one = true) (hk : look k ow = none) (hd : dstOk o.dst n) :
    ∀ F' O', (∀ y ∈ o.op.operands.toList, evF F' y = evF (fF fr) y) → (∀ j ∈ [k], O' j = fO ow j) → StepAt P X n o F' O' (.pv k 0) [(k, .var zd.cells)] := by
  intro F' O' he hO
  have hz' : zeroD P ty = some zd := by subst hB; exact hz
  obtain ⟨i, zv, g1, g2, g3⟩ := zeroD_spec hz'
  refine stepAt_of hd fun a w S r hH hI hr => ?_
  have hk' : O' k = none := (hO k (by simp)).trans hk
  have hv := ofVal_rel S w r zv
  rw [← g3] at hv
  obtain ⟨S', r', q1, q2, q3, q4, q5, q6⟩ := box_ok ty hH hI hv hs h1 hk'
  refine ⟨_, _, S', r', .inl ?_, q1, q2, q3, q4, q5, q6⟩
  simp [execOp, ho, Instr.alloc, zeroValue, typeInfo, g1, g2, newVar, newRow]

section
variable {X : Ctx} {n : Nat} {all rest : List Oper} {fr : Fr} {ow : Ow} {tr : List (List Nat × List Nat)} {K : Fr → Ow → List (List Nat × List Nat) → Prop}
variable {t k : Nat} {op : Op} {ty ty' : TypeId} {ps : String} {af : Array Edge} {d : D} {f : FuncId} {args : List D} {g u : Nat} {want : Bool}

/-- Objects lent to a callee that leaves them as they are. -/
theorem r_lendR (lo : Ow) (ids : List Nat) (hi : lo.map (·.1) = ids) (hnd : ids.Nodup) (hc : callOf fr op = some (f, args)) (hn : Nat.blt t n = true) (hP : ∀ vs w, (callFunc f vs).run Try.prog w = .ok (.enter f vs) w) (hk : hasAll (fun k => look k ow) lo)
    (hok : (args.map (lendA ids)).all (D.okIn ids) = true) (hf1 : lo.all (fun x => x.2.okIn ids) = true) (hf3 : d.okIn ids = true)
    (hC : CtrO Try.prog f (args.map (lendA ids)) lo d lo)
    (h : CT Try.prog X n all rest ((t, d) :: fr) ow (tr ++ [(ids, [])]) K) : CT Try.prog X n all (⟨some t, op, ty, ps, af, none⟩ :: rest) fr ow tr K :=
  CT.cons (e := ⟨d, ids, []⟩) (.plain rfl (lendM_read (o := ⟨some t, op, ty, ps, af, none⟩) (ow := ow) hP hc hk hi hnd hok hf1 hf3 hC (show t < n by simpa using hn))) (fF_cons ..) rfl h

theorem r_glendR (lo : Ow) (ids : List Nat) (hi : lo.map (·.1) = ids) (hnd : ids.Nodup) (hu : dstAt all g = some u) (hg : getD' u fr = .b want) (hc : callOf fr op = some (f, args)) (hn : Nat.blt t n = true) (hP : ∀ vs w, (callFunc f vs).run Try.prog w = .ok (.enter f vs) w) (hk : hasAll (fun k => look k ow) lo)
    (hok : (args.map (lendA ids)).all (D.okIn ids) = true) (hf1 : lo.all (fun x => x.2.okIn ids) = true) (hf3 : d.okIn ids = true)
    (hC : CtrO Try.prog f (args.map (lendA ids)) lo d lo)
    (h : CT Try.prog X n all rest ((t, d) :: fr) ow (tr ++ [(ids, [])]) K) : CT Try.prog X n all (⟨some t, op, ty, ps, af, some (g, want)⟩ :: rest) fr ow tr K :=
  CT.cons (e := ⟨d, ids, []⟩) (.guarded rfl hu hg (lendM_read (o := ⟨some t, op, ty, ps, af, some (g, want)⟩) (ow := ow) hP hc hk hi hnd hok hf1 hf3 hC (show t < n by simpa using hn))) (fF_cons ..) rfl h

theorem var_aux {zd : D} (k : Nat) (o : Oper) (ho : o.op = .alloc ty) (hg : o.guard = none) (hds : o.dst = some t) (hz : B.zr ty = some zd) (hs : zd.solid = true) (h1 : zd.cells.all D.one = true) (hk : look k ow = none) (hn : Nat.blt t n = true)
    (h : CT Try.prog X n all rest ((t, .pv k 0) :: fr) ((k, .var zd.cells) :: ow) (tr ++ [([k], [k])]) K) : CT Try.prog X n all (o :: rest) fr ow tr K := by
  have e := tb_eq
  have h1' := @var_step Try.prog X n o fr ow ty k B zd e ho hz hs h1 hk (by rw [hds]; exact Nat.le_of_ble_eq_true hn)
  refine CT.cons (e := ⟨.pv k 0, [k], [(k, .var zd.cells)]⟩) (.plain hg h1') ?_ (fO_cons ..) h
  rw [hds]
  exact fF_cons ..

/-- A new variable under a name of one's own. -/
theorem r_varAt {zd : D} (k : Nat) (hz : B.zr ty = some zd) (hs : zd.solid = true) (h1 : zd.cells.all D.one = true) (hk : look k ow = none) (hn : Nat.blt t n = true)
    (h : CT Try.prog X n all rest ((t, .pv k 0) :: fr) ((k, .var zd.cells) :: ow) (tr ++ [([k], [k])]) K) : CT Try.prog X n all (⟨some t, .alloc ty, ty', ps, af, none⟩ :: rest) fr ow tr K := by
  generalize ho : (⟨some t, .alloc ty, ty', ps, af, none⟩ : Oper) = o
  exact var_aux k o (by rw [← ho]) (by rw [← ho]) (by rw [← ho]) hz hs h1 hk hn h
end

end Go.Proofs.Ytghhohckonbkkaa.Flow

/-
  FLOW, PART Y: MAPS FROM TEXTS: made, looked up, written to.
-/
namespace Go.Proofs.Ytghhohckonbkkaa.Flow
open Go

abbrev Ents := List (List UInt8 × D)

def mget (key : List UInt8) : Ents → Option D
  | [] => none
  | p :: r => if p.1 = key then some p.2 else mget key r
def mput (key : List UInt8) (d : D) : Ents → Ents
  | [] => [(key, d)]
  | p :: r => if p.1 = key then (key, d) :: r else p :: mput key d r
def mdel (key : List UInt8) : Ents → Ents
  | [] => []
  | p :: r => if p.1 = key then r else p :: mdel key r
/-- Where a key stands first. -/
def mpos (key : List UInt8) : Ents → Nat
  | [] => 0
  | p :: r => if p.1 = key then 0 else mpos key r + 1

theorem mpos_le (key : List UInt8) : ∀ es : Ents, mpos key es ≤ es.length
  | [] => Nat.le_refl _
  | p :: r => by
    have := mpos_le key r
    unfold mpos
    split
    · simp
    · simpa using this

theorem mpos_key (key : List UInt8) : ∀ es : Ents, mpos key es < es.length → (es.getD (mpos key es) ([], .any)).1 = key
  | [], h => by simp at h
  | p :: r, h => by
    unfold mpos at h ⊢
    by_cases hk : p.1 = key
    · simp [hk]
    · rw [if_neg hk] at h ⊢
      have := mpos_key key r (by simpa using h)
      simpa using this

theorem mget_pos (key : List UInt8) : ∀ es : Ents, mget key es = if mpos key es < es.length then some (es.getD (mpos key es) ([], .any)).2 else none
  | [] => rfl
  | p :: r => by
    have ih := mget_pos key r
    unfold mget mpos
    by_cases h : p.1 = key
    · simp [h]
    · rw [if_neg h, if_neg h, ih]
      simp

theorem mput_pos (key : List UInt8) (d : D) : ∀ es : Ents, mput key d es = if mpos key es < es.length then es.set (mpos key es) (key, d) else es ++ [(key, d)]
  | [] => rfl
  | p :: r => by
    have ih := mput_pos key d r
    unfold mput mpos
    by_cases h : p.1 = key
    · simp [h]
    · rw [if_neg h, if_neg h, ih]
      simp only [List.length_cons, Nat.add_lt_add_iff_right]
      split <;> simp

theorem mdel_pos (key : List UInt8) : ∀ es : Ents, mdel key es = es.eraseIdx (mpos key es)
  | [] => rfl
  | p :: r => by
    have ih := mdel_pos key r
    unfold mdel mpos
    by_cases h : p.1 = key
    · simp [h]
    · rw [if_neg h, if_neg h, ih]
      simp

/-- The keys of a map's entries. -/
def KeysOk : Ents → List MapEntry → Prop
  | [], [] => True
  | p :: r, e :: l => e.key = .string ⟨p.1.toArray⟩ ∧ KeysOk r l
  | _, _ => False

theorem keys_of : ∀ {es : Ents} {l : List MapEntry}, l.length = es.length → (∀ j, j < es.length → (l.getD j default).key = .string ⟨(es.getD j ([], .any)).1.toArray⟩) → KeysOk es l
  | [], [], _, _ => trivial
  | [], _ :: _, h, _ => by simp at h
  | _ :: _, [], h, _ => by simp at h
  | p :: r, e :: l, hn, h => ⟨h 0 (by simp), keys_of (by simpa using hn) fun j hj => by
      have := h (j + 1) (by simpa using hj)
      simpa using this⟩

theorem str_eq (a b : List UInt8) : ((⟨a.toArray⟩ : ByteArray) == ⟨b.toArray⟩) = decide (a = b) := by
  by_cases h : a = b
  · subst h
    simp [MapKept.bytes_beq]
  · rw [decide_eq_false h]
    cases hb : ((⟨a.toArray⟩ : ByteArray) == ⟨b.toArray⟩) with
    | false => rfl
    | true =>
      have := (MapKept.bytes_beq _ _).1 hb
      simp at this
      exact absurd this h

theorem find_mp (key : List UInt8) : ∀ (es : Ents) (l : List MapEntry) (i : Nat), KeysOk es l →
    Instr.findNow .string (.string ⟨key.toArray⟩) l i = some (if mpos key es < es.length then some (i + mpos key es, (l.getD (mpos key es) default).val) else none)
  | [], [], i, _ => rfl
  | [], _ :: _, _, h => h.elim
  | _ :: _, [], _, h => h.elim
  | p :: r, e :: l, i, h => by
    have ih := find_mp key r l (i + 1) h.2
    have hs : Instr.sameNow .string (.string ⟨key.toArray⟩) e.key = some (decide (key = p.1)) := by
      rw [h.1]
      show some _ = _
      rw [str_eq]
    unfold Instr.findNow
    rw [hs]
    unfold mpos
    by_cases hk : p.1 = key
    · rw [decide_eq_true hk.symm]
      simp [hk]
    · rw [decide_eq_false (fun h => hk h.symm)]
      simp only [ih, hk, if_false, List.length_cons, Nat.add_lt_add_iff_right]
      split
      · simp
        omega
      · rfl

section
variable {P : Program} {X : Ctx} {n : Nat} {O : Nat → Option Own} {w : World} {S : Cells} {r : Rho}

theorem mp_keys {k : Nat} {es : Ents} (h : ObjOk S w r k (.mp es)) : ∃ b arr clock, r k = some (.blk b) ∧ w.heap[b]? = some (.map arr clock) ∧ KeysOk es arr.toList ∧ arr.size = es.length ∧ (∀ j, j < es.length → EntOk S w r (es.getD j ([], .any)) (arr.getD j default)) ∧ BornOk arr clock ∧ ∀ o, ¬ S b o := by
  obtain ⟨b, arr, clock, h1, h2, h3, h4, h5, h6⟩ := h
  refine ⟨b, arr, clock, h1, h2, keys_of (by simpa using h3) (fun j hj => ?_), h3, h4, h5, h6⟩
  have := (h4 j hj).1
  simpa [List.getD_eq_getElem?_getD, Array.getD_eq_getD_getElem?] using this

/-- A new map. -/
theorem newMp_ok (hH : Hist X w S) (hI : Inv X w S r O) {k : Nat} (hk : O k = none) :
    ∃ r', Rel S (w.alloc (.map #[] 0)) r' (.mh k) (.map (some w.heap.size)) ∧ Hist X (w.alloc (.map #[] 0)) S ∧ Inv X (w.alloc (.map #[] 0)) S r' (updO O [(k, .mp [])]) ∧
      (∀ b o, S b o → (w.alloc (.map #[] 0)).cell? ⟨b, o, none⟩ = w.cell? ⟨b, o, none⟩) ∧ RhoLe r r' := by
  have hc := Chg.alloc w S hH.valid (.map #[] 0)
  have hr : RhoLe r (updR r k (.blk w.heap.size)) := RhoLe.new (hI.dom k hk)
  have hk0 : updR r k (.blk w.heap.size) k = some (.blk w.heap.size) := by simp [updR]
  refine ⟨updR r k (.blk w.heap.size), .mh _ k _ hk0, ?_, ?_, hc.cell, hr⟩
  · exact hH.chg hc (fun b hb => by cases hb) (fun _ _ h => h) (fun b o h => .inl h)
  · refine hI.put hc (fun _ _ h => h) hr k _ (.blk w.heap.size) ?_ hk0 (fun j hj => by simp [updR, hj]) (fun b hb => ?_) (fun b hb => by cases hb) (fun b o h => .inl h)
    · exact ⟨w.heap.size, #[], 0, hk0, heap_alloc_new w _, rfl, fun j hj => by simp at hj, ⟨fun i j _ h => by simp at h, fun i h => by simp at h⟩, fun o ho => by have := hH.valid _ _ ho; omega⟩
    · simp only [Loc.block, Option.some.injEq] at hb
      subst hb
      exact .inl ⟨Nat.le_refl _, .inl hH.size⟩

/-- A map's entries become others. -/
theorem setMp_ok {es es2 : Ents} {arr arr2 : Array MapEntry} {clock clock2 b : Nat} (hH : Hist X w S) (hI : Inv X w S r O) {k : Nat} (hk : O k = some (.mp es)) (hb : r k = some (.blk b)) (hw : w.heap[b]? = some (.map arr clock)) (hS : ∀ o, ¬ S b o)
    (hn : arr2.size = es2.length) (he : ∀ j, j < es2.length → EntOk S w r (es2.getD j ([], .any)) (arr2.getD j default)) (hbo : BornOk arr2 clock2) :
    Hist X { w with heap := w.heap.setIfInBounds b (.map arr2 clock2) } S ∧ Inv X { w with heap := w.heap.setIfInBounds b (.map arr2 clock2) } S r (updO O [(k, .mp es2)]) ∧
      (∀ b' o, S b' o → ({ w with heap := w.heap.setIfInBounds b (.map arr2 clock2) } : World).cell? ⟨b', o, none⟩ = w.cell? ⟨b', o, none⟩) := by
  have hc := Chg.setObj w S b (.map arr2 clock2) hS
  have hlow := hI.low k _ b hb rfl
  refine ⟨?_, ?_, hc.cell⟩
  · exact hH.chg hc (fun b' hb' => by cases hb'; exact hlow) (fun _ _ h => h) (fun b o h => .inl h)
  · refine hI.put hc (fun _ _ h => h) (RhoLe.refl r) k _ (.blk b) ?_ hb (fun _ _ => rfl) (fun b' hb' => .inr ⟨_, hb, hb'⟩) (fun b' hb' => ⟨_, hb, hb'⟩) (fun b o h => .inl h)
    have hlt := (Array.getElem?_eq_some_iff.1 hw).1
    exact ⟨b, arr2, clock2, hb, by simp [hlt], hn, fun j hj => ⟨(he j hj).1, (he j hj).2.1.mono (fun _ _ h => h) hc.cell r (RhoLe.refl r), (he j hj).2.2⟩, hbo, hS⟩

variable {o : Oper} {fr : Fr} {ow : Ow} {t k : Nat} {ty kt et : TypeId} {x y z : Operand} {es : Ents} {key : List UInt8}

theorem mnew_step (ho : o.op = .makeMap ty none) (ht : look t ow = none) (hd : dstOk o.dst n) :
    ∀ F' O', (∀ y ∈ o.op.operands.toList, evF F' y = evF (fF fr) y) → (∀ j ∈ [t], O' j = fO ow j) → StepAt P X n o F' O' (.mh t) [(t, .mp [])] := by
  intro F' O' he hO
  refine stepAt_of hd fun a w S r hH hI hr => ?_
  have hk : O' t = none := (hO t (by simp)).trans ht
  obtain ⟨r', g1, g2, g3, g4, g5⟩ := newMp_ok hH hI hk
  refine ⟨_, _, S, r', .inl ?_, g1, g2, g3, fun _ _ h => h, g4, g5⟩
  simp [execOp, ho, Instr.makeMap, Sem.run_bind, newObj, Sem.run, Result.andThen]

/-- The pair of a look-up. -/
def gotD (ok : Bool) (d : D) (c : Bool) : D :=
  match c with
  | true => .tu [d, .b ok]
  | false => d

theorem got_rel {d : D} {v : Value} (h : Rel S w r d v) (ok c : Bool) : Rel S w r (gotD ok d c) (if c then .tuple #[v, .bool ok] else v) := by
  cases c with
  | false => exact h
  | true =>
    refine .tu _ _ _ rfl fun j hj => ?_
    match j, hj with
    | 0, _ => exact h
    | 1, _ => exact .b ..

theorem mhit_step {d : D} {c : Bool} (hm : P.underlying ty = some (.map kt et)) (hkt : P.underlying kt = some .string) (ho : o.op = .lookup ty x y c) (hx : ev fr x = .mh k) (hy : ev fr y = .s key) (hk : look k ow = some (.mp es)) (hg : mget key es = some d) (hd : dstOk o.dst n) :
    ∀ F' O', (∀ y ∈ o.op.operands.toList, evF F' y = evF (fF fr) y) → (∀ j ∈ [k], O' j = fO ow j) → StepAt P X n o F' O' (gotD true d c) [] := by
  intro F' O' he hO
  refine stepAt_of hd fun a w S r hH hI hr => ?_
  have hx' := hr x
  rw [he x (by simp [ho, Op.operands]), evF_fF, hx] at hx'
  have hy' := hr y
  rw [he y (by simp [ho, Op.operands]), evF_fF, hy] at hy'
  obtain ⟨b, arr, clock, h1, h2, h3, h4, h5, h6, h7⟩ := mp_keys (hI.obj k _ ((hO k (by simp)).trans hk))
  generalize hvx : a.eval x = vx at hx'
  generalize hvy : a.eval y = vy at hy'
  cases hy'
  cases hx' with
  | mh _ _ b' hb' =>
    rw [h1] at hb'
    cases hb'
    have hf := find_mp key es arr.toList 0 h3
    rw [mget_pos] at hg
    split at hg
    · rename_i hlt
      rw [if_pos hlt] at hf
      obtain ⟨_, hev, _⟩ := h5 _ hlt
      rw [Option.some.inj hg] at hev
      have e1 : arr.toList.getD (mpos key es) default = arr.getD (mpos key es) default := by simp [List.getD_eq_getElem?_getD, Array.getD_eq_getD_getElem?]
      rw [e1] at hf
      refine fin_value hH hI rfl ?_ (got_rel hev true c)
      simp [execOp, ho, hvx, hvy, Instr.lookup, run_underlying hm, MapKept.run_getObj_map h2, MapKept.run_checkKey hkt (show MapKept.IsKey .string (.string ⟨key.toArray⟩) from trivial), MapKept.run_findKey hkt hf, Result.andThen]
    · cases hg

theorem mmiss_step {zd : D} {c : Bool} {B' : Tb} (hB : tb P = B') (hz : B'.zr et = some zd) (hm : P.underlying ty = some (.map kt et)) (hkt : P.underlying kt = some .string) (ho : o.op = .lookup ty x y c) (hx : ev fr x = .mh k) (hy : ev fr y = .s key) (hk : look k ow = some (.mp es)) (hg : mget key es = none) (hd : dstOk o.dst n) :
    ∀ F' O', (∀ y ∈ o.op.operands.toList, evF F' y = evF (fF fr) y) → (∀ j ∈ [k], O' j = fO ow j) → StepAt P X n o F' O' (gotD false zd c) [] := by
  intro F' O' he hO
  have hz' : zeroD P et = some zd := by subst hB; exact hz
  obtain ⟨i, zv, q1, q2, q3⟩ := zeroD_spec hz'
  refine stepAt_of hd fun a w S r hH hI hr => ?_
  have hx' := hr x
  rw [he x (by simp [ho, Op.operands]), evF_fF, hx] at hx'
  have hy' := hr y
  rw [he y (by simp [ho, Op.operands]), evF_fF, hy] at hy'
  obtain ⟨b, arr, clock, h1, h2, h3, h4, h5, h6, h7⟩ := mp_keys (hI.obj k _ ((hO k (by simp)).trans hk))
  have hzv := ofVal_rel S w r zv
  rw [← q3] at hzv
  generalize hvx : a.eval x = vx at hx'
  generalize hvy : a.eval y = vy at hy'
  cases hy'
  cases hx' with
  | mh _ _ b' hb' =>
    rw [h1] at hb'
    cases hb'
    have hf := find_mp key es arr.toList 0 h3
    rw [mget_pos] at hg
    split at hg
    · cases hg
    · rename_i hlt
      rw [if_neg hlt] at hf
      refine fin_value hH hI rfl ?_ (got_rel hzv false c)
      simp [execOp, ho, hvx, hvy, Instr.lookup, run_underlying hm, MapKept.run_getObj_map h2, MapKept.run_checkKey hkt (show MapKept.IsKey .string (.string ⟨key.toArray⟩) from trivial), MapKept.run_findKey hkt hf, Result.andThen, zeroValue, typeInfo, q1, q2]

theorem mput_step {d : D} (hm : P.underlying ty = some (.map kt et)) (hkt : P.underlying kt = some .string) (ho : o.op = .mapUpdate ty x y z) (hx : ev fr x = .mh k) (hy : ev fr y = .s key) (hz : ev fr z = d) (h1d : d.one = true) (hk : look k ow = some (.mp es)) (hdst : o.dst = none) :
    ∀ F' O', (∀ y ∈ o.op.operands.toList, evF F' y = evF (fF fr) y) → (∀ j ∈ [k], O' j = fO ow j) → StepAt P X n o F' O' .any [(k, .mp (mput key d es))] := by
  intro F' O' he hO
  refine stepAt_of (by rw [hdst]; trivial) fun a w S r hH hI hr => ?_
  have hx' := hr x
  rw [he x (by simp [ho, Op.operands]), evF_fF, hx] at hx'
  have hy' := hr y
  rw [he y (by simp [ho, Op.operands]), evF_fF, hy] at hy'
  have hz' := hr z
  rw [he z (by simp [ho, Op.operands]), evF_fF, hz] at hz'
  have hkO := (hO k (by simp)).trans hk
  obtain ⟨b, arr, clock, h1, h2, h3, h4, h5, h6, h7⟩ := mp_keys (hI.obj k _ hkO)
  generalize hvx : a.eval x = vx at hx'
  generalize hvy : a.eval y = vy at hy'
  generalize hvz : a.eval z = vz at hz'
  cases hy'
  cases hx' with
  | mh _ _ b' hb' =>
    rw [h1] at hb'
    cases hb'
    have hf := find_mp key es arr.toList 0 h3
    rw [mput_pos]
    by_cases hlt : mpos key es < es.length
    · rw [if_pos hlt] at hf ⊢
      obtain ⟨hek, hev, heo⟩ := h5 _ hlt
      have hsz : mpos key es < arr.size := by omega
      have hj : arr[mpos key es]? = some (arr.getD (mpos key es) default) := by simp [Array.getD_eq_getD_getElem?, hsz]
      have hkey : (es.getD (mpos key es) ([], .any)).1 = key := mpos_key key es hlt
      rw [hkey] at hek
      have hk0 : MapKept.IsKey .string (.string ⟨key.toArray⟩) := trivial
      have hgm : ∀ j, (arr.modify (mpos key es) fun e => { e with key := .string ⟨key.toArray⟩, val := vz }).getD j default = if j = mpos key es then { arr.getD (mpos key es) default with key := .string ⟨key.toArray⟩, val := vz } else arr.getD j default := fun j => by
        simp only [Array.getD_eq_getD_getElem?, Array.getElem?_modify]
        by_cases h : j = mpos key es
        · subst h
          simp [hsz]
        · rw [if_neg h, if_neg (fun e => h e.symm)]
      obtain ⟨g1, g2, g3⟩ := setMp_ok (es2 := es.set (mpos key es) (key, d)) (arr2 := arr.modify (mpos key es) fun e => { e with key := .string ⟨key.toArray⟩, val := vz }) (clock2 := clock) hH hI hkO h1 h2 h7 (by simpa using h4)
        (fun j hj2 => by
          rw [hgm]
          by_cases h : j = mpos key es
          · subst h
            rw [if_pos rfl, List.getD_eq_getElem?_getD, List.getElem?_set_self hlt]
            exact ⟨rfl, hz', h1d⟩
          · rw [if_neg h, List.getD_eq_getElem?_getD, List.getElem?_set_ne (fun e => h e.symm), ← List.getD_eq_getElem?_getD]
            exact h5 j (by simpa using hj2))
        (by
          have hb : ∀ j, ((arr.modify (mpos key es) fun e => { e with key := .string ⟨key.toArray⟩, val := vz }).getD j default).born = (arr.getD j default).born := fun j => by
            rw [hgm]
            by_cases h : j = mpos key es
            · subst h
              rw [if_pos rfl]
            · rw [if_neg h]
          refine ⟨fun i j hij hj2 => ?_, fun i hi2 => ?_⟩
          · rw [hb, hb]
            exact h6.1 i j hij (by simpa using hj2)
          · rw [hb]
            exact h6.2 i (by simpa using hi2))
      refine ⟨undef, _, S, r, .inr ⟨?_, rfl⟩, .any .., g1, g2, fun _ _ h => h, g3, RhoLe.refl r⟩
      obtain ⟨e0, hj0, hek0⟩ : ∃ e0, arr[mpos key es]? = some e0 ∧ e0.key = .string ⟨key.toArray⟩ := ⟨_, hj, hek⟩
      clear hj hek hev hgm
      simp [execOp, ho, hvx, hvy, hvz, Instr.mapUpdate, run_underlying hm, MapKept.run_getObj_map h2, MapKept.run_checkKey hkt hk0, MapKept.run_findKey hkt hf, hj0, hek0, MapKept.run_keyThatStays hk0, MapKept.run_setObj_map _ h2, Result.andThen]
    · rw [if_neg hlt] at hf ⊢
      have hk0 : MapKept.IsKey .string (.string ⟨key.toArray⟩) := trivial
      have hgp : ∀ j, (arr.push ⟨.string ⟨key.toArray⟩, vz, clock⟩).getD j default = if j = arr.size then ⟨.string ⟨key.toArray⟩, vz, clock⟩ else arr.getD j default := fun j => by
        simp only [Array.getD_eq_getD_getElem?, Array.getElem?_push]
        by_cases h : j = arr.size
        · subst h
          simp
        · rw [if_neg h, if_neg h]
      obtain ⟨g1, g2, g3⟩ := setMp_ok (es2 := es ++ [(key, d)]) (arr2 := arr.push ⟨.string ⟨key.toArray⟩, vz, clock⟩) (clock2 := clock + 1) hH hI hkO h1 h2 h7 (by simp [h4])
        (fun j hj2 => by
          rw [hgp]
          by_cases h : j = arr.size
          · subst h
            rw [if_pos rfl, h4, List.getD_eq_getElem?_getD, List.getElem?_append_right (Nat.le_refl _)]
            simp only [Nat.sub_self]
            exact ⟨rfl, hz', h1d⟩
          · have hj3 : j < es.length := by
              simp only [List.length_append, List.length_cons, List.length_nil] at hj2
              omega
            rw [if_neg h, List.getD_eq_getElem?_getD, List.getElem?_append_left hj3, ← List.getD_eq_getElem?_getD]
            exact h5 j hj3)
        (by
          refine ⟨fun i j hij hj2 => ?_, fun i hi2 => ?_⟩
          · rw [hgp, hgp]
            have hj3 : j < arr.size + 1 := by simpa using hj2
            rw [if_neg (show ¬ i = arr.size by omega)]
            by_cases h : j = arr.size
            · rw [if_pos h]
              exact h6.2 i (by omega)
            · rw [if_neg h]
              exact h6.1 i j hij (by omega)
          · rw [hgp]
            have hi3 : i < arr.size + 1 := by simpa using hi2
            by_cases h : i = arr.size
            · rw [if_pos h]
              exact Nat.lt_succ_self _
            · rw [if_neg h]
              exact Nat.lt_succ_of_lt (h6.2 i (by omega)))
      refine ⟨undef, _, S, r, .inr ⟨?_, rfl⟩, .any .., g1, g2, fun _ _ h => h, g3, RhoLe.refl r⟩
      simp [execOp, ho, hvx, hvy, hvz, Instr.mapUpdate, run_underlying hm, MapKept.run_getObj_map h2, MapKept.run_checkKey hkt hk0, MapKept.run_findKey hkt hf, MapKept.run_setObj_map _ h2, Result.andThen]

theorem mlen_step (hm : P.underlying ty = some (.map kt et)) (ho : o.op = .call ⟨.builtin .len, #[x], #[ty]⟩) (hx : ev fr x = .mh k) (hk : look k ow = some (.mp es)) (hd : dstOk o.dst n) :
    ∀ F' O', (∀ y ∈ o.op.operands.toList, evF F' y = evF (fF fr) y) → (∀ j ∈ [k], O' j = fO ow j) → StepAt P X n o F' O' (.i .i64 es.length) [] := by
  intro F' O' he hO
  refine stepAt_of hd fun a w S r hH hI hr => ?_
  have hx' := hr x
  rw [he x (by simp [ho, Op.operands, Call.operands]), evF_fF, hx] at hx'
  obtain ⟨b, arr, clock, h1, h2, h3, h4, h5, h6, h7⟩ := mp_keys (hI.obj k _ ((hO k (by simp)).trans hk))
  generalize hvx : a.eval x = vx at hx'
  cases hx' with
  | mh _ _ b' hb' =>
    rw [h1] at hb'
    cases hb'
    refine fin_value hH hI rfl ?_ (show Rel S w r (.i .i64 es.length) (goInt es.length) from .i ..)
    simp [execOp, ho, resolve, invoke, builtin, hvx, Builtin.len_, run_underlying hm, MapKept.run_getObj_map h2, Result.andThen, h4]

theorem mdel_step (hm : P.underlying ty = some (.map kt et)) (hkt : P.underlying kt = some .string) (t2 : TypeId) (ho : o.op = .call ⟨.builtin .delete, #[x, y], #[ty, t2]⟩) (hx : ev fr x = .mh k) (hy : ev fr y = .s key) (hk : look k ow = some (.mp es)) (hd : dstOk o.dst n) :
    ∀ F' O', (∀ y ∈ o.op.operands.toList, evF F' y = evF (fF fr) y) → (∀ j ∈ [k], O' j = fO ow j) → StepAt P X n o F' O' (.tu []) [(k, .mp (mdel key es))] := by
  intro F' O' he hO
  refine stepAt_of hd fun a w S r hH hI hr => ?_
  have hx' := hr x
  rw [he x (by simp [ho, Op.operands, Call.operands]), evF_fF, hx] at hx'
  have hy' := hr y
  rw [he y (by simp [ho, Op.operands, Call.operands]), evF_fF, hy] at hy'
  have hkO := (hO k (by simp)).trans hk
  obtain ⟨b, arr, clock, h1, h2, h3, h4, h5, h6, h7⟩ := mp_keys (hI.obj k _ hkO)
  have hk0 : MapKept.IsKey .string (.string ⟨key.toArray⟩) := trivial
  generalize hvx : a.eval x = vx at hx'
  generalize hvy : a.eval y = vy at hy'
  cases hy'
  cases hx' with
  | mh _ _ b' hb' =>
    rw [h1] at hb'
    cases hb'
    have hf := find_mp key es arr.toList 0 h3
    rw [mdel_pos]
    by_cases hlt : mpos key es < es.length
    · rw [if_pos hlt] at hf
      have hsz : mpos key es < arr.size := by omega
      have hge : ∀ j, (arr.eraseIdxIfInBounds (mpos key es)).getD j default = if j < mpos key es then arr.getD j default else arr.getD (j + 1) default := fun j => by
        unfold Array.eraseIdxIfInBounds
        rw [dif_pos hsz]
        simp only [Array.getD_eq_getD_getElem?, Array.getElem?_eraseIdx]
        split <;> rfl
      have hsize : (arr.eraseIdxIfInBounds (mpos key es)).size = arr.size - 1 := by
        unfold Array.eraseIdxIfInBounds
        rw [dif_pos hsz]
        simp
      obtain ⟨g1, g2, g3⟩ := setMp_ok (es2 := es.eraseIdx (mpos key es)) (arr2 := arr.eraseIdxIfInBounds (mpos key es)) (clock2 := clock) hH hI hkO h1 h2 h7 (by rw [hsize, List.length_eraseIdx, if_pos hlt, h4])
        (fun j hj2 => by
          rw [List.length_eraseIdx, if_pos hlt] at hj2
          rw [hge, List.getD_eq_getElem?_getD, List.getElem?_eraseIdx]
          by_cases h : j < mpos key es
          · rw [if_pos h, if_pos h, ← List.getD_eq_getElem?_getD]
            exact h5 j (by omega)
          · rw [if_neg h, if_neg h, ← List.getD_eq_getElem?_getD]
            exact h5 (j + 1) (by omega))
        (by
          refine ⟨fun i j hij hj2 => ?_, fun i hi2 => ?_⟩
          · rw [hsize] at hj2
            rw [hge, hge]
            split <;> split
            · exact h6.1 i j hij (by omega)
            · exact h6.1 i (j + 1) (by omega) (by omega)
            · omega
            · exact h6.1 (i + 1) (j + 1) (by omega) (by omega)
          · rw [hsize] at hi2
            rw [hge]
            split
            · exact h6.2 i (by omega)
            · exact h6.2 (i + 1) (by omega))
      refine ⟨.tuple #[], _, S, r, .inl ?_, .tu _ _ _ rfl (fun j hj => by simp at hj), g1, g2, fun _ _ h => h, g3, RhoLe.refl r⟩
      simp [execOp, ho, resolve, invoke, builtin, hvx, hvy, Builtin.delete_, run_underlying hm, MapKept.run_getObj_map h2, MapKept.run_checkKey hkt hk0, MapKept.run_findKey hkt hf, MapKept.run_setObj_map _ h2, Result.andThen]
    · rw [if_neg hlt] at hf
      rw [List.eraseIdx_of_length_le (by omega)]
      obtain ⟨g1, g2, g3⟩ := setMp_ok (es2 := es) (arr2 := arr) (clock2 := clock) hH hI hkO h1 h2 h7 h4 h5 h6
      refine ⟨.tuple #[], _, S, r, .inl ?_, .tu _ _ _ rfl (fun j hj => by simp at hj), g1, g2, fun _ _ h => h, g3, RhoLe.refl r⟩
      simp [execOp, ho, resolve, invoke, builtin, hvx, hvy, Builtin.delete_, run_underlying hm, MapKept.run_getObj_map h2, MapKept.run_checkKey hkt hk0, MapKept.run_findKey hkt hf, MapKept.run_setObj_map _ h2, Result.andThen]

theorem mclr_step (hm : P.underlying ty = some (.map kt et)) (ho : o.op = .call ⟨.builtin .clear, #[x], #[ty]⟩) (hx : ev fr x = .mh k) (hk : look k ow = some (.mp es)) (hd : dstOk o.dst n) :
    ∀ F' O', (∀ y ∈ o.op.operands.toList, evF F' y = evF (fF fr) y) → (∀ j ∈ [k], O' j = fO ow j) → StepAt P X n o F' O' (.tu []) [(k, .mp [])] := by
  intro F' O' he hO
  refine stepAt_of hd fun a w S r hH hI hr => ?_
  have hx' := hr x
  rw [he x (by simp [ho, Op.operands, Call.operands]), evF_fF, hx] at hx'
  have hkO := (hO k (by simp)).trans hk
  obtain ⟨b, arr, clock, h1, h2, h3, h4, h5, h6, h7⟩ := mp_keys (hI.obj k _ hkO)
  generalize hvx : a.eval x = vx at hx'
  cases hx' with
  | mh _ _ b' hb' =>
    rw [h1] at hb'
    cases hb'
    obtain ⟨g1, g2, g3⟩ := setMp_ok (es2 := []) (arr2 := #[]) (clock2 := clock) hH hI hkO h1 h2 h7 rfl (fun j hj => by simp at hj) ⟨fun i j _ h => by simp at h, fun i h => by simp at h⟩
    refine ⟨.tuple #[], _, S, r, .inl ?_, .tu _ _ _ rfl (fun j hj => by simp at hj), g1, g2, fun _ _ h => h, g3, RhoLe.refl r⟩
    simp [execOp, ho, resolve, invoke, builtin, hvx, Builtin.clear_, run_underlying hm, MapKept.run_getObj_map h2, MapKept.run_setObj_map _ h2, Result.andThen]

end

section
variable {X : Ctx} {n : Nat} {all rest : List Oper} {fr : Fr} {ow : Ow} {tr : List (List Nat × List Nat)} {K : Fr → Ow → List (List Nat × List Nat) → Prop}
variable {t k : Nat} {ty ty' kt et t2 : TypeId} {ps : String} {af : Array Edge} {x y z : Operand} {es : Ents} {key : List UInt8} {d : D} {c : Bool} {g u : Nat} {want : Bool}

set_option maxRecDepth 100000 in
/-- A key that is there. -/
theorem r_mhit (hm : Try.prog.underlying ty = some (.map kt et)) (hkt : Try.prog.underlying kt = some .string) (hx : ev fr x = .mh k) (hy : ev fr y = .s key) (hk : look k ow = some (.mp es)) (hg : mget key es = some d) (hn : Nat.blt t n = true)
    (h : CT Try.prog X n all rest ((t, gotD true d c) :: fr) ow (tr ++ [([k], [])]) K) : CT Try.prog X n all (⟨some t, .lookup ty x y c, ty', ps, af, none⟩ :: rest) fr ow tr K :=
  CT.cons (e := ⟨gotD true d c, [k], []⟩) (.plain rfl (mhit_step (o := ⟨some t, .lookup ty x y c, ty', ps, af, none⟩) hm hkt rfl hx hy hk hg (show t < n by simpa using hn))) (fF_cons ..) rfl h

set_option maxRecDepth 100000 in
/-- A key that is not there. -/
theorem r_mmiss (hm : Try.prog.underlying ty = some (.map kt et)) (hkt : Try.prog.underlying kt = some .string) (hz : B.zr et = some d) (hx : ev fr x = .mh k) (hy : ev fr y = .s key) (hk : look k ow = some (.mp es)) (hg : mget key es = none) (hn : Nat.blt t n = true)
    (h : CT Try.prog X n all rest ((t, gotD false d c) :: fr) ow (tr ++ [([k], [])]) K) : CT Try.prog X n all (⟨some t, .lookup ty x y c, ty', ps, af, none⟩ :: rest) fr ow tr K :=
  CT.cons (e := ⟨gotD false d c, [k], []⟩) (.plain rfl (mmiss_step (o := ⟨some t, .lookup ty x y c, ty', ps, af, none⟩) tb_eq hz hm hkt rfl hx hy hk hg (show t < n by simpa using hn))) (fF_cons ..) rfl h

set_option maxRecDepth 100000 in
/-- An entry written. -/
theorem r_mput (hm : Try.prog.underlying ty = some (.map kt et)) (hkt : Try.prog.underlying kt = some .string) (hx : ev fr x = .mh k) (hy : ev fr y = .s key) (hz : ev fr z = d) (h1 : d.one = true) (hk : look k ow = some (.mp es))
    (h : CT Try.prog X n all rest fr ((k, .mp (mput key d es)) :: ow) (tr ++ [([k], [k])]) K) : CT Try.prog X n all (⟨none, .mapUpdate ty x y z, ty', ps, af, none⟩ :: rest) fr ow tr K :=
  CT.cons (e := ⟨.any, [k], [(k, .mp (mput key d es))]⟩) (.plain rfl (mput_step (o := ⟨none, .mapUpdate ty x y z, ty', ps, af, none⟩) hm hkt rfl hx hy hz h1 hk rfl)) rfl (fO_cons ..) h

set_option maxRecDepth 100000 in
/-- How many entries there are. -/
theorem r_mlen (hm : Try.prog.underlying ty = some (.map kt et)) (hx : ev fr x = .mh k) (hk : look k ow = some (.mp es)) (hn : Nat.blt t n = true)
    (h : CT Try.prog X n all rest ((t, .i .i64 es.length) :: fr) ow (tr ++ [([k], [])]) K) : CT Try.prog X n all (⟨some t, .call ⟨.builtin .len, #[x], #[ty]⟩, ty', ps, af, none⟩ :: rest) fr ow tr K :=
  CT.cons (e := ⟨.i .i64 es.length, [k], []⟩) (.plain rfl (mlen_step (o := ⟨some t, .call ⟨.builtin .len, #[x], #[ty]⟩, ty', ps, af, none⟩) hm rfl hx hk (show t < n by simpa using hn))) (fF_cons ..) rfl h

set_option maxRecDepth 100000 in
/-- All entries taken out. -/
theorem r_mclr (hm : Try.prog.underlying ty = some (.map kt et)) (hx : ev fr x = .mh k) (hk : look k ow = some (.mp es)) (hn : Nat.blt t n = true)
    (h : CT Try.prog X n all rest ((t, .tu []) :: fr) ((k, .mp []) :: ow) (tr ++ [([k], [k])]) K) : CT Try.prog X n all (⟨some t, .call ⟨.builtin .clear, #[x], #[ty]⟩, ty', ps, af, none⟩ :: rest) fr ow tr K :=
  CT.cons (e := ⟨.tu [], [k], [(k, .mp [])]⟩) (.plain rfl (mclr_step (o := ⟨some t, .call ⟨.builtin .clear, #[x], #[ty]⟩, ty', ps, af, none⟩) hm rfl hx hk (show t < n by simpa using hn))) (fF_cons ..) (fO_cons ..) h
end

end Go.Proofs.Ytghhohckonbkkaa.Flow

/-
  FLOW, PART Z: OBJECTS THAT POINT AT EACH OTHER, HOWEVER MANY THERE ARE: loads and stores by what the object is known to be; pointers held against each other.
-/
namespace Go.Proofs.Ytghhohckonbkkaa.Flow
open Go

section
variable {P : Program} {X : Ctx} {n : Nat} {o : Oper} {fr : Fr} {ow : Ow} {k k' : Nat} {ty ty2 : TypeId} {x y : Operand} {cs cs' : List D}

theorem ptr_run {w : World} {tp te : TypeId} {j : TypeInfo} {a b : Addr} (hp : P.underlying tp = some (.pointer te)) (hte : P.info? te = some j) (hsz : j.size ≠ 0)
    (h : a = b ∨ (a ≠ b ∧ (∃ ca ta, w.heap[a.block]? = some (.cells ca ta (0, 0))) ∧ ∃ cb tb, w.heap[b.block]? = some (.cells cb tb (0, 0)))) (d : Nat) :
    (Op.equalIn (d + 1) tp (.pointer (some a)) (.pointer (some b))).run P w = .ok (decide (a = b)) w := by
  rcases h with rfl | ⟨hne, ⟨ca, ta, ha⟩, cb, tb, hb⟩
  · simp [Op.equalIn, run_underlying hp, sizeOf, typeInfo, hte, run_sameAddr_same]
  · simp [Op.equalIn, run_underlying hp, sizeOf, typeInfo, hte, hsz, run_sameAddr_other w hne ha hb, hne]

/-- Two variables' addresses. -/
theorem peq_step {te : TypeId} {j : TypeInfo} {neg : Bool} (hp : P.underlying ty = some (.pointer te)) (hte : P.info? te = some j) (hsz : j.size ≠ 0) (ho : o.op = .binOp (if neg then .neq else .eql) ty x y ty2) (hx : ev fr x = .pv k 0) (hy : ev fr y = .pv k' 0)
    (hk : look k ow = some (.var cs)) (hk' : look k' ow = some (.var cs')) (hd : dstOk o.dst n) :
    ∀ F' O', (∀ y ∈ o.op.operands.toList, evF F' y = evF (fF fr) y) → (∀ j ∈ [k, k'], O' j = fO ow j) → StepAt P X n o F' O' (.b (if neg then !decide (k = k') else decide (k = k'))) [] := by
  intro F' O' he hO
  refine stepAt_of hd fun a w S r hH hI hr => ?_
  have hx' := hr x
  rw [he x (by simp [ho, Op.operands]), evF_fF, hx] at hx'
  have hy' := hr y
  rw [he y (by simp [ho, Op.operands]), evF_fF, hy] at hy'
  obtain ⟨b, cur, e, h1, h2, _⟩ := hI.obj k _ ((hO k (by simp)).trans hk)
  obtain ⟨b', cur', e', h1', h2', _⟩ := hI.obj k' _ ((hO k' (by simp)).trans hk')
  generalize hvx : a.eval x = vx at hx'
  generalize hvy : a.eval y = vy at hy'
  cases hx' with
  | pv _ _ _ q hq =>
  cases hy' with
  | pv _ _ _ q' hq' =>
    rw [h1] at hq
    cases hq
    rw [h1'] at hq'
    cases hq'
    have hbb : decide (k = k') = decide ((⟨b, 0, none⟩ : Addr) = ⟨b', 0, none⟩) := by
      by_cases h : k = k'
      · subst h
        rw [h1] at h1'
        cases h1'
        simp
      · have := hI.apart k k' _ _ b h h1 h1' rfl
        have hne : b ≠ b' := fun e => this (by rw [e]; rfl)
        simp [h, hne]
    have hrun := ptr_run (P := P) (w := w) (a := ⟨b, 0, none⟩) (b := ⟨b', 0, none⟩) hp hte hsz (by
      by_cases h : (⟨b, 0, none⟩ : Addr) = ⟨b', 0, none⟩
      · exact .inl h
      · exact .inr ⟨h, ⟨_, _, h2⟩, _, _, h2'⟩) 9999
    rw [hbb]
    cases neg with
    | false =>
      refine fin_value hH hI rfl ?_ (show Rel S w r (.b (decide ((⟨b, 0, none⟩ : Addr) = ⟨b', 0, none⟩))) (.bool _) from .b ..)
      have e1 : binOp .eql ty (.pointer (some ⟨b, 0, none⟩)) (.pointer (some ⟨b', 0, none⟩)) = (do pure (.bool (← Op.equalIn (9999 + 1) ty (.pointer (some ⟨b, 0, none⟩)) (.pointer (some ⟨b', 0, none⟩))))) := rfl
      simp [execOp, ho, hvx, hvy, eqGuard, e1, hrun, Result.andThen]
    | true =>
      refine fin_value hH hI rfl ?_ (show Rel S w r (.b (!decide ((⟨b, 0, none⟩ : Addr) = ⟨b', 0, none⟩))) (.bool _) from .b ..)
      have e1 : binOp .neq ty (.pointer (some ⟨b, 0, none⟩)) (.pointer (some ⟨b', 0, none⟩)) = (do pure (.bool (!(← Op.equalIn (9999 + 1) ty (.pointer (some ⟨b, 0, none⟩)) (.pointer (some ⟨b', 0, none⟩)))))) := rfl
      simp [execOp, ho, hvx, hvy, eqGuard, e1, hrun, Result.andThen]
end

section
variable {X : Ctx} {n : Nat} {all rest : List Oper} {fr : Fr} {ow : Ow} {tr : List (List Nat × List Nat)} {K : Fr → Ow → List (List Nat × List Nat) → Prop}
variable {t k : Nat} {ty ty' : TypeId} {ps : String} {af : Array Edge} {x y : Operand} {cs : List D} {d : D} {off : Nat} {z : Nat × Bool}

/-- A load from a variable that is known by a law. -/
theorem r_loadP (hx : ev fr x = .pv k off) (hz : B.sz ty = some z) (hk : look k ow = some (.var cs)) (hd : partD z cs off = d) (hp : partP z cs off) (hn : Nat.blt t n = true)
    (h : CT Try.prog X n all rest ((t, d) :: fr) ow (tr ++ [([k], [])]) K) : CT Try.prog X n all (⟨some t, .load ty x, ty', ps, af, none⟩ :: rest) fr ow tr K := by
  refine r_val (d := d) (p := partP z cs off) (rd := [k]) ?_ hn hp h
  show loadD B (fun k => look k ow) ty (ev fr x) = _
  rw [hx]
  unfold loadD
  rw [hz]
  dsimp only
  rw [hk]
  dsimp only
  rw [fz_eq, hd]

/-- A store into a variable that is known by a law. -/
theorem r_storP (hx : ev fr x = .pv k off) (hy : ev fr y = d) (hz : B.sz ty = some z) (hk : look k ow = some (.var cs)) (hl : d.cells.length = z.1) (hfit : off + d.cells.length ≤ cs.length) (hs : d.solid = true) (h1 : d.cells.all D.one = true)
    (h : CT Try.prog X n all rest fr ((k, .var (putCells cs off d.cells)) :: ow) (tr ++ [([k], [k])]) K) : CT Try.prog X n all (⟨none, .store ty x y, ty', ps, af, none⟩ :: rest) fr ow tr K := by
  refine r_sto (d := .any) (p := d.cells.length = z.1 ∧ off + d.cells.length ≤ cs.length ∧ d.solid = true ∧ d.cells.all D.one = true) (rd := [k]) ?_ ⟨hl, hfit, hs, h1⟩ h
  show (match ev fr x with
    | .ap .. => storeA B (fun k => look k ow) ty (ev fr x) (ev fr y)
    | _ => storeD B (fun k => look k ow) ty (ev fr x) (ev fr y)) = _
  rw [hx, hy]
  dsimp only
  unfold storeD
  rw [hz]
  dsimp only
  rw [hk]
  dsimp only
  rw [fz_eq, fzA_eq]
end

section
variable {P : Program} {X : Ctx} {n : Nat} {fr : Fr} {ow : Ow} {d : D}

/-- Objects lent to a callee that hands new ones back beside them. -/
theorem lendN_step {o : Oper} {f : FuncId} {args : List D} {lo lo' : Ow} {ids ids2 : List Nat} (hP : ∀ vs w, (callFunc f vs).run P w = .ok (.enter f vs) w) (hc : callOf fr o.op = some (f, args)) (hk : hasAll (fun k => look k ow) lo)
    (hi1 : lo.map (·.1) = ids) (hi2 : lo'.map (·.1) = ids2) (hnd : ids2.Nodup) (hsub : ∀ k ∈ ids, k ∈ ids2) (hnew : ∀ k ∈ ids2, k ∉ ids → look k ow = none)
    (hok : (args.map (lendA ids)).all (D.okIn ids) = true) (hf1 : lo.all (fun x => x.2.okIn ids) = true) (hf2 : lo'.all (fun x => x.2.okIn ids2) = true) (hf3 : d.okIn ids2 = true)
    (hC : CtrO P f (args.map (lendA ids)) lo d lo') (hd : dstOk o.dst n) :
    ∀ F' O', (∀ x ∈ o.op.operands.toList, evF F' x = evF (fF fr) x) → (∀ j ∈ ids2, O' j = fO ow j) → StepAt P X n o F' O' d lo' := by
  intro F' O' he hO a w K' Q' ⟨S, r, hH, hI, hF, hdf, hn, hρ⟩ hK
  obtain ⟨vs, hrun, hsz, hrel⟩ := call_enter hP hc he (fun x => evF_rel hH.glob hF x)
  have hOk : ∀ k o, look k lo = some o → O' k = some o := fun k o h => by
    have hm : k ∈ ids := by rw [← hi1]; exact List.mem_map.2 ⟨(k, o), mem_of_look h, rfl⟩
    exact (hO k (hsub k hm)).trans (hasAll_get hk k o h)
  have hmem : ∀ k, k ∈ ids → ∃ o, look k lo = some o := fun k h => look_some (by rw [hi1]; exact h)
  have hmem' : ∀ k, k ∈ ids2 → ∃ o, look k lo' = some o := fun k h => look_some (by rw [hi2]; exact h)
  have hin : ∀ k o, look k lo = some o → k ∈ ids ∧ o.okIn ids = true := fun k o h => by
    have h1 := mem_of_look h
    rw [List.all_eq_true] at hf1
    exact ⟨by rw [← hi1]; exact List.mem_map.2 ⟨(k, o), h1, rfl⟩, hf1 _ h1⟩
  have hin' : ∀ k o, look k lo' = some o → k ∈ ids2 ∧ o.okIn ids2 = true := fun k o h => by
    have h1 := mem_of_look h
    rw [List.all_eq_true] at hf2
    exact ⟨by rw [← hi2]; exact List.mem_map.2 ⟨(k, o), h1, rfl⟩, hf2 _ h1⟩
  have hblt : ∀ k l b, r k = some l → l.block = some b → b < w.heap.size := fun k l b hl hb => by
    cases ho : O' k with
    | none => rw [hI.dom k ho] at hl; cases hl
    | some o => exact (hI.obj k o ho).blockLt hl hb
  let X' : Ctx := { w0 := w, S0 := S, L := fun b => ∃ k ∈ ids, ∃ l, r k = some l ∧ l.block = some b, r0 := keepR r ids, ids := ids }
  have hH' : Hist X' w S := ⟨rfl, rfl, rfl, Nat.le_refl _, fun _ _ _ => rfl, fun _ _ h => h, fun _ _ _ => rfl, fun _ _ h => .inl h, hH.valid, hH.glob⟩
  have hI' : Inv X' w S X'.r0 (fO lo) := by
    refine ⟨fun k o hk' => ?_, fun k hk' => ?_, fun i j l l' b' hij hl hl' hb' => ?_, fun k l b' hl hb' => ?_⟩
    · obtain ⟨h1, h2⟩ := hin k o hk'
      exact (hI.obj k o (hOk k o hk')).okIn h2 (RhoLe.refl _) (if_pos h1)
    · refine if_neg fun hm => ?_
      obtain ⟨o, ho⟩ := hmem k hm
      rw [show fO lo k = look k lo from rfl, ho] at hk'
      cases hk'
    · have hl : keepR r ids i = some l := hl
      have hl' : keepR r ids j = some l' := hl'
      simp only [keepR] at hl hl'
      split at hl <;> first | (cases hl; done) | skip
      split at hl' <;> first | (cases hl'; done) | skip
      exact hI.apart i j l l' b' hij hl hl' hb'
    · have hl : keepR r ids k = some l := hl
      simp only [keepR] at hl
      split at hl <;> first | (cases hl; done) | skip
      rename_i hm
      exact .inr ⟨k, hm, l, hl, hb'⟩
  have hrel' : ∀ j, j < (args.map (lendA ids)).length → Rel S w X'.r0 ((args.map (lendA ids)).getD j .any) (vs.getD j undef) := by
    intro j hj
    have hj' : j < args.length := by simpa using hj
    have e : (args.map (lendA ids)).getD j .any = lendA ids (args.getD j .any) := by simp [List.getD_eq_getElem?_getD, hj']
    have hokj : (lendA ids (args.getD j .any)).okIn ids = true := by
      rw [← e]
      rw [List.all_eq_true] at hok
      refine hok _ ?_
      simp only [List.getD_eq_getElem?_getD, List.getElem?_eq_getElem hj, Option.getD_some]
      exact List.getElem_mem hj
    rw [e]
    have hr := hrel j hj'
    generalize args.getD j .any = dj at hr hokj
    generalize vs.getD j undef = vj at hr
    refine Rel.okIn (r := r) ?_ hokj
    cases dj with
    | gs k z m g =>
      simp only [lendA]
      split
      · exact hr
      · exact hr.shut
    | _ => exact hr
  unfold Oper.wp
  rw [hrun]
  refine (hC X' vs hi1.symm hH' hI' (by simpa using hsz) hrel').mono ?_
  rintro e w' ⟨v, S', r', rfl, g1, g2, g3, g4⟩
  let r2 : Rho := fun k => if k ∈ ids2 then r' k else r k
  have hr2 : RhoLe r r2 := fun k l hl => by
    by_cases hm : k ∈ ids2
    · have hm0 : k ∈ ids := by
        rcases Classical.em (k ∈ ids) with h | h
        · exact h
        · have h0 : O' k = none := (hO k hm).trans (hnew k hm h)
          rw [hI.dom k h0] at hl
          cases hl
      obtain ⟨l', h1, h2⟩ := g4 k l (by show keepR r ids k = some l; rw [keepR, if_pos hm0]; exact hl)
      exact ⟨l', by show (if k ∈ ids2 then r' k else r k) = some l'; rw [if_pos hm]; exact h1, h2⟩
    · exact ⟨l, by show (if k ∈ ids2 then r' k else r k) = some l; rw [if_neg hm]; exact hl, LocLe.refl l⟩
  have hr3 : RhoLe (keepR r' ids2) r2 := fun k l hl => by
    simp only [keepR] at hl
    split at hl <;> first | (cases hl; done) | skip
    rename_i hm
    exact ⟨l, by show (if k ∈ ids2 then r' k else r k) = some l; rw [if_pos hm]; exact hl, LocLe.refl l⟩
  have hXL : ∀ b, X'.L b → X.w0.heap.size ≤ b ∨ X.L b := fun b ⟨k, _, l, hl, hb⟩ => hI.low k l b hl hb
  have hother : ∀ k l b, k ∉ ids2 → r k = some l → l.block = some b → ¬ X'.L b := fun k l b hm hl hb ⟨k', hm', l', hl', hb'⟩ =>
    hI.apart k k' l l' b (fun e => hm (e ▸ hsub k' hm')) hl hl' hb hb'
  refine hK v w' ⟨S', r2, ?_, ?_, rel_put (fun t => (hF t).mono g2.sub g2.cell r2 hr2) (hn ▸ hd) ((g1.okIn hf3).mono (fun _ _ h => h) (fun _ _ _ => rfl) r2 hr3), by rw [put_defers]; exact hdf, by rw [put_size]; exact hn, hρ.trans hr2⟩
  · refine ⟨g2.os.trans hH.os, g2.tape.trans hH.tape, g2.output.trans hH.output, Nat.le_trans hH.size g2.size, fun k hk' hl => ?_, fun b o hb => g2.sub b o (hH.sub b o hb), fun b o hb => (g2.cell b o (hH.sub b o hb)).trans (hH.cell b o hb), fun b o hb => ?_, g2.valid, g2.glob⟩
    · refine (g2.block k (Nat.lt_of_lt_of_le hk' hH.size) fun hx => ?_).trans (hH.block k hk' hl)
      rcases hXL k hx with h | h
      · omega
      · exact hl h
    · rcases g2.new b o hb with h | h | h
      · exact hH.new b o h
      · exact .inr (.inl (Nat.le_trans hH.size h))
      · rcases hXL b h with h | h
        · exact .inr (.inl h)
        · exact .inr (.inr h)
  · have hnd' : (lo'.map (·.1)).Nodup := by rw [hi2]; exact hnd
    have hup : ∀ k, k ∉ ids2 → updO O' lo' k = O' k := fun k hm => by
      rw [updO_look hnd', look_none (by rw [hi2]; exact hm)]
    refine ⟨fun k o hk' => ?_, fun k hk' => ?_, fun i j l l' b hij hl hl' hb => ?_, fun k l b hl hb => ?_⟩
    · by_cases hm : k ∈ ids2
      · obtain ⟨o', ho'⟩ := hmem' k hm
        rw [updO_look hnd', ho'] at hk'
        obtain rfl : o' = o := Option.some.inj hk'
        exact (g3.obj k o' ho').okIn (hin' k o' ho').2 hr3 (if_pos hm)
      · rw [hup k hm] at hk'
        refine (hI.obj k o hk').keepL g2.sub g2.cell hr2 (if_neg hm) (fun l b hl hb => g2.block b (hblt k l b hl hb) (hother k l b hm hl hb)) (fun b o hs => ?_)
        rcases g2.new b o hs with h | h | h
        · exact .inl h
        · refine .inr fun l hl hb => ?_
          have := hblt k l b hl hb
          have h : w.heap.size ≤ b := h
          omega
        · exact .inr fun l hl hb => hother k l b hm hl hb h
    · by_cases hm : k ∈ ids2
      · obtain ⟨o', ho'⟩ := hmem' k hm
        rw [updO_look hnd', ho'] at hk'
        cases hk'
      · rw [hup k hm] at hk'
        exact (if_neg hm).trans (hI.dom k hk')
    · have hl : (if i ∈ ids2 then r' i else r i) = some l := hl
      have hl' : (if j ∈ ids2 then r' j else r j) = some l' := hl'
      by_cases h1 : i ∈ ids2
      · rw [if_pos h1] at hl
        by_cases h2 : j ∈ ids2
        · rw [if_pos h2] at hl'
          exact g3.apart i j l l' b hij hl hl' hb
        · rw [if_neg h2] at hl'
          intro hb'
          rcases g3.low i l b hl hb with h | h
          · have := hblt j l' b hl' hb'
            have h : w.heap.size ≤ b := h
            omega
          · exact hother j l' b h2 hl' hb' h
      · rw [if_neg h1] at hl
        by_cases h2 : j ∈ ids2
        · rw [if_pos h2] at hl'
          intro hb'
          rcases g3.low j l' b hl' hb' with h | h
          · have := hblt i l b hl hb
            have h : w.heap.size ≤ b := h
            omega
          · exact hother i l b h1 hl hb h
        · rw [if_neg h2] at hl'
          exact hI.apart i j l l' b hij hl hl' hb
    · have hl : (if k ∈ ids2 then r' k else r k) = some l := hl
      by_cases h1 : k ∈ ids2
      · rw [if_pos h1] at hl
        rcases g3.low k l b hl hb with h | h
        · exact .inl (Nat.le_trans hH.size h)
        · exact hXL b h
      · rw [if_neg h1] at hl
        exact hI.low k l b hl hb

end

theorem look_app {α : Type} {k : Nat} : ∀ {a b : List (Nat × α)}, look k (a ++ b) = match look k a with
    | some o => some o
    | none => look k b
  | [], b => rfl
  | (u, e) :: a, b => by
    simp only [List.cons_append, look]
    cases Nat.beq u k with
    | true => rfl
    | false => exact look_app

section
variable {X : Ctx} {n : Nat} {all rest : List Oper} {fr : Fr} {ow : Ow} {tr : List (List Nat × List Nat)} {K : Fr → Ow → List (List Nat × List Nat) → Prop}
variable {t k k' : Nat} {op : Op} {ty ty2 ty' : TypeId} {ps : String} {af : Array Edge} {x y : Operand} {cs cs' : List D} {d : D} {f : FuncId} {args : List D} {g u : Nat} {want : Bool}

set_option maxRecDepth 100000 in
theorem r_pne {te : TypeId} {j : TypeInfo} (hp : Try.prog.underlying ty = some (.pointer te)) (hte : Try.prog.info? te = some j) (hsz : j.size ≠ 0) (hx : ev fr x = .pv k 0) (hy : ev fr y = .pv k' 0) (hk : look k ow = some (.var cs)) (hk' : look k' ow = some (.var cs')) (hn : Nat.blt t n = true)
    (h : CT Try.prog X n all rest ((t, .b (!decide (k = k'))) :: fr) ow (tr ++ [([k, k'], [])]) K) : CT Try.prog X n all (⟨some t, .binOp .neq ty x y ty2, ty', ps, af, none⟩ :: rest) fr ow tr K :=
  CT.cons (e := ⟨.b (!decide (k = k')), [k, k'], []⟩) (.plain rfl (peq_step (neg := true) (o := ⟨some t, .binOp .neq ty x y ty2, ty', ps, af, none⟩) hp hte hsz rfl hx hy hk hk' (show t < n by simpa using hn))) (fF_cons ..) rfl h
end

end Go.Proofs.Ytghhohckonbkkaa.Flow

/-
  FLOW, PART ZN: AN OBJECT'S ADDRESS HELD AGAINST NIL.
-/
namespace Go.Proofs.Ytghhohckonbkkaa.Flow
open Go

section
variable {P : Program} {X : Ctx} {n : Nat} {o : Oper} {fr : Fr} {ow : Ow} {k : Nat} {ty ty2 : TypeId} {x y : Operand}

theorem nil_run {w : World} {tp te : TypeId} {a : Addr} (hp : P.underlying tp = some (.pointer te)) (d : Nat) :
    (Op.equalIn (d + 1) tp (.pointer (some a)) (.pointer none)).run P w = .ok false w := by
  simp [Op.equalIn, run_underlying hp]

/-- A variable's address is not nil. -/
theorem pnil_step {te : TypeId} {neg : Bool} (hp : P.underlying ty = some (.pointer te)) (ho : o.op = .binOp (if neg then .neq else .eql) ty x y ty2) (hx : ev fr x = .pv k 0) (hy : ev fr y = .v (.pointer none)) (hd : dstOk o.dst n) :
    ∀ F' O', (∀ y ∈ o.op.operands.toList, evF F' y = evF (fF fr) y) → (∀ j ∈ ([] : List Nat), O' j = fO ow j) → StepAt P X n o F' O' (.b neg) [] := by
  intro F' O' he hO
  refine stepAt_of hd fun a w S r hH hI hr => ?_
  have hx' := hr x
  rw [he x (by simp [ho, Op.operands]), evF_fF, hx] at hx'
  have hy' := hr y
  rw [he y (by simp [ho, Op.operands]), evF_fF, hy] at hy'
  generalize hvx : a.eval x = vx at hx'
  generalize hvy : a.eval y = vy at hy'
  cases hx' with
  | pv _ _ b q hq =>
  cases hy'
  have hrun := nil_run (P := P) (w := w) (a := ⟨q, 0, none⟩) hp 9999
  cases neg with
  | false =>
    refine fin_value hH hI rfl ?_ (show Rel S w r (.b false) (.bool _) from .b ..)
    have e1 : binOp .eql ty (.pointer (some ⟨q, 0, none⟩)) (.pointer none) = (do pure (.bool (← Op.equalIn (9999 + 1) ty (.pointer (some ⟨q, 0, none⟩)) (.pointer none)))) := rfl
    simp [execOp, ho, hvx, hvy, eqGuard, e1, hrun, Result.andThen]
  | true =>
    refine fin_value hH hI rfl ?_ (show Rel S w r (.b true) (.bool _) from .b ..)
    have e1 : binOp .neq ty (.pointer (some ⟨q, 0, none⟩)) (.pointer none) = (do pure (.bool (!(← Op.equalIn (9999 + 1) ty (.pointer (some ⟨q, 0, none⟩)) (.pointer none))))) := rfl
    simp [execOp, ho, hvx, hvy, eqGuard, e1, hrun, Result.andThen]
end

section
variable {X : Ctx} {n : Nat} {all rest : List Oper} {fr : Fr} {ow : Ow} {tr : List (List Nat × List Nat)} {K : Fr → Ow → List (List Nat × List Nat) → Prop}
variable {t k : Nat} {ty ty' ty2 : TypeId} {ps : String} {af : Array Edge} {x y : Operand}

set_option maxRecDepth 100000 in
/-- A variable's address is not nil. -/
theorem r_pnil {te : TypeId} (hp : Try.prog.underlying ty = some (.pointer te)) (hx : ev fr x = .pv k 0) (hy : ev fr y = .v (.pointer none)) (hn : Nat.blt t n = true)
    (h : CT Try.prog X n all rest ((t, .b false) :: fr) ow (tr ++ [([], [])]) K) : CT Try.prog X n all (⟨some t, .binOp .eql ty x y ty2, ty', ps, af, none⟩ :: rest) fr ow tr K :=
  CT.cons (e := ⟨.b false, [], []⟩) (.plain rfl (pnil_step (neg := false) (o := ⟨some t, .binOp .eql ty x y ty2, ty', ps, af, none⟩) hp rfl hx hy (show t < n by simpa using hn))) (fF_cons ..) rfl h
end

section
variable {X : Ctx} {n : Nat} {all rest : List Oper} {fr : Fr} {ow : Ow} {tr : List (List Nat × List Nat)} {K : Fr → Ow → List (List Nat × List Nat) → Prop}
variable {k : Nat} {ty ty' t2 kt et : TypeId} {ps : String} {af : Array Edge} {x y : Operand} {key : List UInt8} {es : List (List UInt8 × D)}

set_option maxRecDepth 100000 in
/-- An entry taken out, the call's (empty) result kept nowhere. -/
theorem r_mdelN (hm : Try.prog.underlying ty = some (.map kt et)) (hkt : Try.prog.underlying kt = some .string) (hx : ev fr x = .mh k) (hy : ev fr y = .s key) (hk : look k ow = some (.mp es))
    (h : CT Try.prog X n all rest fr ((k, .mp (mdel key es)) :: ow) (tr ++ [([k], [k])]) K) : CT Try.prog X n all (⟨none, .call ⟨.builtin .delete, #[x, y], #[ty, t2]⟩, ty', ps, af, none⟩ :: rest) fr ow tr K :=
  CT.cons (e := ⟨.tu [], [k], [(k, .mp (mdel key es))]⟩) (.plain rfl (mdel_step (t2 := t2) (o := ⟨none, .call ⟨.builtin .delete, #[x, y], #[ty, t2]⟩, ty', ps, af, none⟩) hm hkt rfl hx hy hk trivial)) rfl (fO_cons ..) h
end

end Go.Proofs.Ytghhohckonbkkaa.Flow

/-
  FLOW, PART ZR: A CONTRACT UNDER OTHER LABELS OF ITS OBJECTS.
-/
namespace Go.Proofs.Ytghhohckonbkkaa.Flow
open Go

mutual
def D.ren (σ : Nat → Nat) : D → D
  | .pv k off => .pv (σ k) off
  | .gs k esz len f => .gs (σ k) esz len f
  | .ah k esz len => .ah (σ k) esz len
  | .ap k esz len i off => .ap (σ k) esz len i off
  | .mh k => .mh (σ k)
  | .fn f cs => .fn f (renL σ cs)
  | .ag cs => .ag (renL σ cs)
  | .tu cs => .tu (renL σ cs)
  | .any => .any
  | .i k n => .i k n
  | .b x => .b x
  | .s l => .s l
  | .nilS => .nilS
  | .v x => .v x
  | .sl a b f => .sl a b f
  | .rf cs off => .rf cs off
  | .e0 z => .e0 z
  | .se z b => .se z b
  | .rn k len f off => .rn k len f off
def renL (σ : Nat → Nat) : List D → List D
  | [] => []
  | d :: r => d.ren σ :: renL σ r
end

theorem renL_length (σ : Nat → Nat) : ∀ cs : List D, (renL σ cs).length = cs.length
  | [] => by simp [renL]
  | _ :: r => by simp [renL, renL_length σ r]

theorem renL_getD (σ : Nat → Nat) : ∀ (cs : List D) (j : Nat), (renL σ cs).getD j .any = (cs.getD j .any).ren σ
  | [], j => by simp [renL, D.ren]
  | _ :: r, 0 => by simp [renL]
  | _ :: r, j + 1 => by simpa [renL] using renL_getD σ r j

mutual
theorem ren_ren {σ τ : Nat → Nat} (h : ∀ k, τ (σ k) = k) : ∀ d : D, (d.ren σ).ren τ = d
  | .pv k off => by simp [D.ren, h]
  | .gs k esz len f => by simp [D.ren, h]
  | .ah k esz len => by simp [D.ren, h]
  | .ap k esz len i off => by simp [D.ren, h]
  | .mh k => by simp [D.ren, h]
  | .fn f cs => by simp [D.ren, renL_renL h cs]
  | .ag cs => by simp [D.ren, renL_renL h cs]
  | .tu cs => by simp [D.ren, renL_renL h cs]
  | .any => by simp [D.ren]
  | .i k n => by simp [D.ren]
  | .b x => by simp [D.ren]
  | .s l => by simp [D.ren]
  | .nilS => by simp [D.ren]
  | .v x => by simp [D.ren]
  | .sl a b f => by simp [D.ren]
  | .rf cs off => by simp [D.ren]
  | .e0 z => by simp [D.ren]
  | .se z b => by simp [D.ren]
  | .rn k len f off => by simp [D.ren]
theorem renL_renL {σ τ : Nat → Nat} (h : ∀ k, τ (σ k) = k) : ∀ cs : List D, renL τ (renL σ cs) = cs
  | [] => by simp [renL]
  | d :: r => by simp [renL, ren_ren h d, renL_renL h r]
end

theorem ren_one (σ : Nat → Nat) (d : D) : (d.ren σ).one = d.one := by cases d <;> simp [D.ren, D.one]

theorem Rel.ren {S : Cells} {w : World} {r : Rho} {d : D} {v : Value} {σ : Nat → Nat} (h : Rel S w r d v) : ∀ r' : Rho, (∀ k, r' (σ k) = r k) → Rel S w r' (d.ren σ) v := by
  induction h with
  | any => intro r' _; simp only [D.ren]; exact .any ..
  | i => intro r' _; simp only [D.ren]; exact .i ..
  | b => intro r' _; simp only [D.ren]; exact .b ..
  | s => intro r' _; simp only [D.ren]; exact .s ..
  | nilS => intro r' _; simp only [D.ren]; exact .nilS ..
  | v => intro r' _; simp only [D.ren]; exact .v ..
  | fn r f cs vs hn h ih => intro r' hr; simp only [D.ren]; exact .fn _ _ _ _ (by rw [renL_length]; exact hn) fun j hj => by rw [renL_getD]; exact ih j (by rwa [renL_length] at hj) r' hr
  | ag r cs vs hn h ih => intro r' hr; simp only [D.ren]; exact .ag _ _ _ (by rw [renL_length]; exact hn) fun j hj => by rw [renL_getD]; exact ih j (by rwa [renL_length] at hj) r' hr
  | tu r cs vs hn h ih => intro r' hr; simp only [D.ren]; exact .tu _ _ _ (by rw [renL_length]; exact hn) fun j hj => by rw [renL_getD]; exact ih j (by rwa [renL_length] at hj) r' hr
  | sl r esz len f a cap c hc hm hl hcell hr _ => intro r' _; simp only [D.ren]; exact .sl r' esz len f a cap c hc hm hl hcell hr
  | rf r cs off b o c hp hcell hr _ => intro r' _; simp only [D.ren]; exact .rf r' cs off b o c hp hcell hr
  | pv r k off b h => intro r' hr; simp only [D.ren]; exact .pv _ _ _ _ (by rw [hr]; exact h)
  | gs r k esz len f v tv L h hk hL ht ih => intro r' hr; simp only [D.ren]; exact .gs _ _ _ _ _ _ tv L (by simpa [D.ren] using ih r' hr) (by rw [hr]; exact hk) hL ht
  | ah r k esz len cap a tv L hk hL ht ha => intro r' hr; simp only [D.ren]; exact .ah _ _ _ _ _ _ tv L (by rw [hr]; exact hk) hL ht ha
  | ap r k esz len i off a tv L hk hL ht ha => intro r' hr; simp only [D.ren]; exact .ap _ _ _ _ _ _ _ tv L (by rw [hr]; exact hk) hL ht ha
  | e0 => intro r' _; simp only [D.ren]; exact .e0 ..
  | rn r k len f off b h => intro r' _; simp only [D.ren]; exact .rn _ _ _ _ _ _ h
  | mh r k b h => intro r' hr; simp only [D.ren]; exact .mh _ _ _ (by rw [hr]; exact h)
  | se r z b a cap hm hb => intro r' _; simp only [D.ren]; exact .se _ _ _ _ _ hm hb

def Own.ren (σ : Nat → Nat) : Own → Own
  | .var cs => .var (renL σ cs)
  | .row e esz len => .row e esz len
  | .arr e esz len f => .arr e esz len f
  | .ob x => .ob x
  | .bld T d => .bld T (d.ren σ)
  | .mp es => .mp (es.map fun p => (p.1, p.2.ren σ))
  | .gone => .gone

theorem own_ren_ren {σ τ : Nat → Nat} (h : ∀ k, τ (σ k) = k) (o : Own) : (o.ren σ).ren τ = o := by
  cases o <;> simp [Own.ren, renL_renL h, ren_ren h, Function.comp_def]

theorem ObjOk.ren {S : Cells} {w : World} {r r' : Rho} {k : Nat} {o : Own} {σ : Nat → Nat} (h : ObjOk S w r k o) (hr : ∀ k, r' (σ k) = r k) : ObjOk S w r' (σ k) (o.ren σ) := by
  cases o with
  | var cs =>
    obtain ⟨b, cur, e, h1, h2, h3, h4, h5⟩ := h
    exact ⟨b, cur, e, by rw [hr]; exact h1, h2, by rw [renL_length]; exact h3, fun j hj => by
      rw [renL_length] at hj
      rw [renL_getD, ren_one]
      exact ⟨(h4 j hj).1.ren r' hr, (h4 j hj).2⟩, h5⟩
  | row e esz len =>
    obtain ⟨tv, h1, h2⟩ := h
    exact ⟨tv, by rw [hr]; exact h1, h2⟩
  | arr e esz len f =>
    obtain ⟨tv, h1, h2⟩ := h
    exact ⟨tv, by rw [hr]; exact h1, h2⟩
  | ob x =>
    obtain ⟨b, h1, h2⟩ := h
    exact ⟨b, by rw [hr]; exact h1, h2⟩
  | bld T d =>
    obtain ⟨b, cur, e, h1, h2, h3, h4, ⟨h5, h6⟩, h7⟩ := h
    exact ⟨b, cur, e, by rw [hr]; exact h1, h2, h3, h4, ⟨h5.ren r' hr, by rw [ren_one]; exact h6⟩, h7⟩
  | mp es =>
    obtain ⟨b, arr, clock, h1, h2, h3, h4, h5⟩ := h
    refine ⟨b, arr, clock, by rw [hr]; exact h1, h2, by simpa using h3, fun j hj => ?_, h5⟩
    have hj' : j < es.length := by simpa using hj
    obtain ⟨a1, a2, a3⟩ := h4 j hj'
    have e : (es.map fun p => (p.1, p.2.ren σ)).getD j ([], .any) = ((es.getD j ([], .any)).1, (es.getD j ([], .any)).2.ren σ) := by
      simp [List.getD_eq_getElem?_getD, hj']
    rw [e]
    exact ⟨a1, a2.ren r' hr, by rw [ren_one]; exact a3⟩
  | gone =>
    obtain ⟨l, h1, h2⟩ := h
    exact ⟨l, by rw [hr]; exact h1, h2⟩

def renO (σ : Nat → Nat) (ow : Ow) : Ow := ow.map fun p => (σ p.1, p.2.ren σ)

theorem look_renO {σ τ : Nat → Nat} (h : ∀ k, τ (σ k) = k) (k : Nat) : ∀ ow : Ow, look (σ k) (renO σ ow) = (look k ow).map (Own.ren σ)
  | [] => rfl
  | (u, o) :: r => by
    have e : Nat.beq (σ u) (σ k) = Nat.beq u k := by
      by_cases hu : u = k
      · subst hu; simp
      · have : σ u ≠ σ k := fun e => hu (by rw [← h u, ← h k, e])
        rw [Bool.eq_iff_iff, Nat.beq_eq, Nat.beq_eq]
        exact ⟨fun e => absurd e this, fun e => absurd e hu⟩
    show look (σ k) ((σ u, o.ren σ) :: renO σ r) = _
    simp only [look, e]
    cases Nat.beq u k with
    | true => rfl
    | false => exact look_renO h k r

theorem fO_renO {σ τ : Nat → Nat} (h : ∀ k, τ (σ k) = k) (h' : ∀ k, σ (τ k) = k) (ow : Ow) (k : Nat) : fO (renO σ ow) k = (fO ow (τ k)).map (Own.ren σ) := by
  have := look_renO h (τ k) ow
  rw [h'] at this
  exact this

theorem Inv.ren {X X' : Ctx} {w : World} {S : Cells} {r r' : Rho} {ow : Ow} {σ τ : Nat → Nat} (h : ∀ k, τ (σ k) = k) (h' : ∀ k, σ (τ k) = k) (hw : X'.w0 = X.w0) (hL : X'.L = X.L) (hr : ∀ k, r' (σ k) = r k) (hI : Inv X w S r (fO ow)) : Inv X' w S r' (fO (renO σ ow)) := by
  have hr2 : ∀ k, r' k = r (τ k) := fun k => by rw [← hr (τ k), h']
  refine ⟨fun k o hk => ?_, fun k hk => ?_, fun k k' l l' b hne hl hl' hb => ?_, fun k l b hl hb => ?_⟩
  · rw [fO_renO h h'] at hk
    cases ho : fO ow (τ k) with
    | none => rw [ho] at hk; cases hk
    | some o' =>
      rw [ho] at hk
      cases hk
      have := (hI.obj _ _ ho).ren (σ := σ) hr
      rwa [h'] at this
  · rw [fO_renO h h'] at hk
    rw [hr2]
    refine hI.dom _ ?_
    cases ho : fO ow (τ k) with
    | none => rfl
    | some o' => rw [ho] at hk; cases hk
  · rw [hr2] at hl hl'
    exact hI.apart _ _ _ _ b (fun e => hne (by rw [← h' k, ← h' k', e])) hl hl' hb
  · rw [hr2] at hl
    rw [hw, hL]
    exact hI.low _ _ b hl hb

/-- A CONTRACT UNDER OTHER LABELS. -/
theorem CtrO.ren {P : Program} {f : FuncId} {args : List D} {ow ow' : Ow} {d : D} (hC : CtrO P f args ow d ow') (σ τ : Nat → Nat) (h : ∀ k, τ (σ k) = k) (h' : ∀ k, σ (τ k) = k) : CtrO P f (renL σ args) (renO σ ow) (d.ren σ) (renO σ ow') := by
  intro X vs hid hH hI hn hr
  have hown : renO τ (renO σ ow) = ow := by
    unfold renO
    rw [List.map_map]
    exact (List.map_congr_left (fun p _ => by simp [h, own_ren_ren h])).trans (List.map_id _)
  have hI1 : Inv { X with r0 := fun k => X.r0 (σ k), ids := ow.map (·.1) } X.w0 X.S0 (fun k => X.r0 (σ k)) (fO ow) := by
    have := Inv.ren (X := X) (r := X.r0) (X' := { X with r0 := fun k => X.r0 (σ k), ids := ow.map (·.1) }) (r' := fun k => X.r0 (σ k)) h' h rfl rfl (fun k => show X.r0 (σ (τ k)) = X.r0 k by rw [h']) hI
    rwa [hown] at this
  refine (hC { X with r0 := fun k => X.r0 (σ k), ids := ow.map (·.1) } vs rfl ⟨hH.os, hH.tape, hH.output, hH.size, hH.block, hH.sub, hH.cell, hH.new, hH.valid, hH.glob⟩ hI1 (by rw [hn, renL_length]) (fun j hj => ?_)).mono ?_
  · have := hr j (by rw [renL_length]; exact hj)
    rw [renL_getD] at this
    have := this.ren (σ := τ) (fun k => X.r0 (σ k)) (fun k => by simp only [h'])
    rwa [ren_ren h] at this
  · rintro e w' ⟨v, S', r', he, hd, hH', hI', hle⟩
    refine ⟨v, S', fun k => r' (τ k), he, hd.ren _ (fun k => by simp only [h]), ⟨hH'.os, hH'.tape, hH'.output, hH'.size, hH'.block, hH'.sub, hH'.cell, hH'.new, hH'.valid, hH'.glob⟩, Inv.ren (X := { X with r0 := fun k => X.r0 (σ k), ids := ow.map (·.1) }) (X' := X) (r := r') h h' rfl rfl (fun k => show r' (τ (σ k)) = r' k by rw [h]) hI', fun k l hl => ?_⟩
    have := hle (τ k) l (by simpa only [h'] using hl)
    exact this

end Go.Proofs.Ytghhohckonbkkaa.Flow

/-
  FLOW, PART ZL: ANY ORDER COMES TO ONE END, WHATEVER THE OBJECTS' LABELS ARE.
-/
namespace Go.Proofs.Ytghhohckonbkkaa.Flow
open Go

def trR (σ : Nat → Nat) (tr : List (List Nat × List Nat)) : List (List Nat × List Nat) := tr.map fun x => (x.1.map σ, x.2.map σ)

def renF (σ : Nat → Nat) (f : Foot) : Foot := ⟨f.st, f.wt, f.so.map σ, f.wo.map σ⟩

def inL (L : List Nat) (f : Foot) : Prop := (∀ a ∈ f.so, a ∈ L) ∧ ∀ a ∈ f.wo, a ∈ L

end Go.Proofs.Ytghhohckonbkkaa.Flow

/- LRU: the cache's objects (the cache, its map, its ring of entries) under labels, loads and stores. -/
namespace Go.Proofs.Ytghhohckonbkkaa.Flow
open Go

/-- The label of the ring (1) and of the entries (2, ..). -/
def lab (i : Nat) : Nat := i + 9002
theorem lab_inj {i j : Nat} : lab i = lab j ↔ i = j := by unfold lab; omega
theorem lab_ge (i : Nat) : 9002 ≤ lab i := by unfold lab; omega
theorem lab_beq (i j : Nat) : Nat.beq (lab i) (lab j) = Nat.beq i j := by
  rw [Bool.eq_iff_iff, Nat.beq_eq, Nat.beq_eq, lab_inj]
attribute [irreducible] lab

/-- A pointer at an entry; 0 is nil. -/
def pD : Nat → D
  | 0 => .v (.pointer none)
  | j + 1 => .pv (lab (j + 1)) 0

theorem pD_pos {j : Nat} (h : 0 < j) : pD j = .pv (lab j) 0 := by
  cases j with
  | zero => omega
  | succ j => rfl

/-- The cache: how many entries have been made (n, the ring with them); the cache's own cells; the map; each entry's cells. -/
structure Rg where
  n : Nat
  E : Int
  M : Int
  sz : Int
  h : Int
  m : Int
  es : List (List UInt8 × Nat)
  key : Nat → List UInt8
  val : Nat → D
  nw : Nat → Nat
  ls : Nat → Nat

def nodeC (g : Rg) (i : Nat) : List D := [.s (g.key i), g.val i, pD (g.nw i), pD (g.ls i)]
def cacheC (g : Rg) : List D := [.i .i64 g.E, .i .i64 g.M, .mh 9001, .pv (lab 1) 0, .i .i64 g.sz, .i .i64 g.h, .i .i64 g.m]
def mapE (es : List (List UInt8 × Nat)) : Ents := es.map fun p => (p.1, .pv (lab p.2) 0)
def nodes (g : Rg) : Ow := (List.range g.n).map fun i => (lab (i + 1), .var (nodeC g (i + 1)))
def objs (g : Rg) : Ow := (9000, .var (cacheC g)) :: (9001, .mp (mapE g.es)) :: nodes g
def idsG (n : Nat) : List Nat := 9000 :: 9001 :: (List.range n).map fun i => lab (i + 1)

theorem objs_ids (g : Rg) : (objs g).map (·.1) = idsG g.n := by
  simp [objs, nodes, idsG, Function.comp_def]

theorem lab_ne0 (i : Nat) : lab i ≠ 9000 := by have := lab_ge i; omega
theorem lab_ne1 (i : Nat) : lab i ≠ 9001 := by have := lab_ge i; omega

theorem ids_nodup (n : Nat) : (idsG n).Nodup := by
  unfold idsG
  refine List.nodup_cons.2 ⟨fun h => ?_, List.nodup_cons.2 ⟨fun h => ?_, ?_⟩⟩
  · rcases List.mem_cons.1 h with h | h
    · omega
    · obtain ⟨i, _, hi⟩ := List.mem_map.1 h
      exact lab_ne0 _ hi
  · obtain ⟨i, _, hi⟩ := List.mem_map.1 h
    exact lab_ne1 _ hi
  · exact List.pairwise_map.2 (List.nodup_range.imp fun h e => h (by have := lab_inj.1 e; omega))

theorem look_nodes {α : Type} (F : Nat → α) (i : Nat) : ∀ (l : List Nat), look (lab (i + 1)) (l.map fun i => (lab (i + 1), F i)) = if i ∈ l then some (F i) else none
  | [] => by simp [look]
  | j :: r => by
    simp only [List.map_cons, look, lab_beq]
    by_cases h : j = i
    · subst h
      simp
    · have : Nat.beq (j + 1) (i + 1) = false := by
        rw [Bool.eq_false_iff]
        intro e
        have := Nat.eq_of_beq_eq_true e
        omega
      rw [this, look_nodes F i r]
      simp [Ne.symm h]

theorem look_beq {α : Type} {u k : Nat} {o : α} {r : List (Nat × α)} (h : u ≠ k) : look k ((u, o) :: r) = look k r := by
  simp only [look]
  have : Nat.beq u k = false := by
    rw [Bool.eq_false_iff]
    exact fun e => h (Nat.eq_of_beq_eq_true e)
  rw [this]

theorem look_hit {α : Type} {k : Nat} {o : α} {r : List (Nat × α)} : look k ((k, o) :: r) = some o := by
  simp [look]

theorem look_node {g : Rg} {i : Nat} (h : 0 < i ∧ i ≤ g.n) : look (lab i) (objs g) = some (.var (nodeC g i)) := by
  obtain ⟨j, rfl⟩ : ∃ j, i = j + 1 := ⟨i - 1, by omega⟩
  unfold objs
  rw [look_beq (lab_ne0 _).symm, look_beq (lab_ne1 _).symm]
  unfold nodes
  rw [look_nodes (fun i => Own.var (nodeC g (i + 1))) j]
  rw [if_pos (by simp; omega)]

theorem look_cache (g : Rg) : look 9000 (objs g) = some (.var (cacheC g)) := rfl
theorem look_map (g : Rg) : look 9001 (objs g) = some (.mp (mapE g.es)) := rfl

theorem look_objs_none {g : Rg} {k : Nat} (h : k ∉ idsG g.n) : look k (objs g) = none := look_none (by rw [objs_ids]; exact h)

attribute [irreducible] objs

/-- What is pointed at is there. -/
structure Wf0 (g : Rg) : Prop where
  pos : 0 < g.n
  nd : ∀ i, 0 < i → i ≤ g.n → g.nw i ≤ g.n ∧ g.ls i ≤ g.n ∧ (g.val i).free = true
  mp : ∀ p ∈ g.es, 0 < p.2 ∧ p.2 ≤ g.n

theorem memB_of {k : Nat} {l : List Nat} (h : k ∈ l) : memB k l = true := by
  induction l with
  | nil => simp at h
  | cons x r ih =>
    simp only [memB]
    cases hb : Nat.beq x k with
    | true => rfl
    | false =>
      rcases List.mem_cons.1 h with rfl | h
      · rw [Nat.beq_refl] at hb
        cases hb
      · exact ih h

theorem mem_ids {i n : Nat} (h : 0 < i ∧ i ≤ n) : lab i ∈ idsG n := by
  unfold idsG
  exact List.mem_cons_of_mem _ (List.mem_cons_of_mem _ (List.mem_map.2 ⟨i - 1, by simp; omega, by rw [show i - 1 + 1 = i by omega]⟩))

theorem memB_lab {i n : Nat} (h : 0 < i ∧ i ≤ n) : memB (lab i) (idsG n) = true := memB_of (mem_ids h)
theorem memB_c (n : Nat) : memB 9000 (idsG n) = true := rfl
theorem memB_m (n : Nat) : memB 9001 (idsG n) = true := rfl

theorem pD_okIn {j n : Nat} (h : j ≤ n) : (pD j).okIn (idsG n) = true := by
  cases j with
  | zero => rfl
  | succ j => exact memB_lab ⟨by omega, h⟩

theorem objs_okIn {g : Rg} (h : Wf0 g) : (objs g).all (fun x => x.2.okIn (idsG g.n)) = true := by
  unfold objs
  rw [List.all_cons, List.all_cons, List.all_eq_true.2]
  · rw [Bool.and_true, Bool.and_eq_true]
    constructor
    · simp only [Own.okIn, cacheC, List.all_cons, List.all_nil, D.okIn, memB_m, memB_lab (show 0 < 1 ∧ 1 ≤ g.n from ⟨by omega, h.pos⟩)]
      rfl
    · simp only [Own.okIn, mapE, List.all_map, List.all_eq_true]
      intro p hp
      exact memB_lab (h.mp p hp)
  · intro x hx
    unfold nodes at hx
    obtain ⟨i, hi, rfl⟩ := List.mem_map.1 hx
    have hi : i < g.n := by simpa using hi
    obtain ⟨h1, h2, h3⟩ := h.nd (i + 1) (by omega) (by omega)
    simp only [Own.okIn, nodeC, List.all_cons, List.all_nil, pD_okIn h1, pD_okIn h2, okIn_of_free h3]
    rfl

theorem mem_look {α : Type} {k : Nat} {o : α} : ∀ {l : List (Nat × α)}, (l.map (·.1)).Nodup → (k, o) ∈ l → look k l = some o
  | [], _, h => by simp at h
  | (u, e) :: r, hn, h => by
    simp only [List.map_cons, List.nodup_cons] at hn
    rcases List.mem_cons.1 h with h | h
    · cases h
      exact look_hit
    · have hne : u ≠ k := fun e => hn.1 (by subst e; exact List.mem_map.2 ⟨_, h, rfl⟩)
      rw [look_beq hne]
      exact mem_look hn.2 h

/-- Objects of the call's own, under small labels. -/
def lits (own : Ow) : Bool := own.all fun p => Nat.blt p.1 9000

theorem lits_not {own : Ow} (h : lits own = true) {k : Nat} {n : Nat} (hk : k ∈ idsG n) : k ∉ own.map (·.1) := fun hm => by
  obtain ⟨p, hp, rfl⟩ := List.mem_map.1 hm
  unfold lits at h
  rw [List.all_eq_true] at h
  have h1 := h p hp
  simp at h1
  unfold idsG at hk
  rcases List.mem_cons.1 hk with hk | hk
  · omega
  rcases List.mem_cons.1 hk with hk | hk
  · omega
  obtain ⟨i, _, hi⟩ := List.mem_map.1 hk
  have := lab_ge (i + 1)
  omega

theorem look_own {own r : Ow} {k : Nat} (h : k ∉ own.map (·.1)) : look k (own ++ r) = look k r := by
  rw [look_app, look_none h]

theorem hasAll_of {own : Nat → Option Own} : ∀ {lo : Ow}, (∀ p ∈ lo, own p.1 = some p.2) → hasAll own lo
  | [], _ => trivial
  | p :: r, h => ⟨h p (by simp), hasAll_of fun q hq => h q (by simp [hq])⟩

theorem hasAll_objs {own : Ow} (h : lits own = true) (g : Rg) : hasAll (fun k => look k (own ++ objs g)) (objs g) :=
  hasAll_of fun p hp => by
    have hm : p.1 ∈ idsG g.n := by rw [← objs_ids]; exact List.mem_map.2 ⟨p, hp, rfl⟩
    show look p.1 (own ++ objs g) = some p.2
    rw [look_own (lits_not h hm)]
    exact mem_look (by rw [objs_ids]; exact ids_nodup _) hp

theorem leOw_of {ow : Ow} : ∀ {lo : Ow}, (∀ p ∈ lo, look p.1 ow = some p.2 ∧ ((∃ cs, p.2 = .var cs) ∨ ∃ es, p.2 = .mp es)) → leOw ow lo
  | [], _ => trivial
  | (k, o) :: r, h => by
    refine ⟨?_, leOw_of fun q hq => h q (by simp [hq])⟩
    obtain ⟨h1, h2⟩ := h (k, o) (by simp)
    rcases h2 with ⟨cs, h2⟩ | ⟨es, h2⟩
    · have h2 : o = .var cs := h2
      subst h2
      exact h1
    · have h2 : o = .mp es := h2
      subst h2
      exact h1

theorem leOw_objs {own : Ow} (h : lits own = true) (g : Rg) : leOw (own ++ objs g) (objs g) := leOw_of fun p hp => by
  have hm : p.1 ∈ idsG g.n := by rw [← objs_ids]; exact List.mem_map.2 ⟨p, hp, rfl⟩
  refine ⟨by rw [look_own (lits_not h hm)]; exact mem_look (by rw [objs_ids]; exact ids_nodup _) hp, ?_⟩
  unfold objs at hp
  rcases List.mem_cons.1 hp with rfl | hp
  · exact .inl ⟨_, rfl⟩
  rcases List.mem_cons.1 hp with rfl | hp
  · exact .inr ⟨_, rfl⟩
  unfold nodes at hp
  obtain ⟨i, _, rfl⟩ := List.mem_map.1 hp
  exact .inl ⟨_, rfl⟩

theorem leOw_self (g : Rg) : leOw (objs g) (objs g) := leOw_objs (own := []) rfl g

def upd {α : Type} (f : Nat → α) (i : Nat) (j : α) : Nat → α := fun k => if k = i then j else f k
theorem upd_same {α : Type} (f : Nat → α) (i : Nat) (j : α) : upd f i j i = j := if_pos rfl
theorem upd_ne {α : Type} {f : Nat → α} {i k : Nat} {j : α} (h : k ≠ i) : upd f i j k = f k := if_neg h

theorem fO_node {g g' : Rg} {i : Nat} {cs : List D} (hi : 0 < i ∧ i ≤ g'.n) (hcs : nodeC g' i = cs) (hn : ∀ k, k ∈ idsG g'.n ↔ (k ∈ idsG g.n ∨ k = lab i)) (hc : cacheC g' = cacheC g) (hm : g'.es = g.es) (ho : ∀ j, j ≠ i → 0 < j → j ≤ g'.n → j ≤ g.n ∧ nodeC g' j = nodeC g j) : fO ((lab i, .var cs) :: objs g) = fO (objs g') := by
  funext k
  show look k ((lab i, .var cs) :: objs g) = look k (objs g')
  by_cases h : k = lab i
  · subst h
    rw [look_hit, look_node hi, hcs]
  · rw [look_beq (Ne.symm h)]
    by_cases hk : k ∈ idsG g'.n
    · have hk' := hk
      unfold idsG at hk'
      rcases List.mem_cons.1 hk' with rfl | hk'
      · rw [look_cache, look_cache, hc]
      rcases List.mem_cons.1 hk' with rfl | hk'
      · rw [look_map, look_map, hm]
      obtain ⟨j, hj, rfl⟩ := List.mem_map.1 hk'
      have hj : j < g'.n := by simpa using hj
      have hji : j + 1 ≠ i := fun e => h (by rw [e])
      obtain ⟨h1, h2⟩ := ho (j + 1) hji (by omega) (by omega)
      rw [look_node ⟨by omega, h1⟩, look_node ⟨by omega, by omega⟩, h2]
    · rw [look_objs_none hk, look_objs_none (fun hg => hk ((hn k).2 (.inl hg)))]

theorem fO_same {g g' : Rg} {cs : List D} (hcs : cacheC g' = cs) (hn : g'.n = g.n) (hm : g'.es = g.es) (ho : ∀ j, nodeC g' j = nodeC g j) : fO ((9000, .var cs) :: objs g) = fO (objs g') := by
  funext k
  show look k ((9000, .var cs) :: objs g) = look k (objs g')
  unfold objs
  simp only [look]
  cases Nat.beq 9000 k with
  | true => dsimp only; rw [hcs]
  | false =>
    dsimp only
    unfold nodes
    simp only [hm, hn, ho]

theorem fO_mapE {g g' : Rg} {es : Ents} (he : mapE g'.es = es) (hc : cacheC g' = cacheC g) (hn : g'.n = g.n) (ho : ∀ j, nodeC g' j = nodeC g j) : fO ((9001, .mp es) :: objs g) = fO (objs g') := by
  funext k
  show look k ((9001, .mp es) :: objs g) = look k (objs g')
  by_cases h : k = 9001
  · subst h
    rw [look_hit, look_map, he]
  · rw [look_beq (Ne.symm h)]
    unfold objs
    simp only [look]
    cases Nat.beq 9000 k with
    | true => dsimp only; rw [hc]
    | false =>
      dsimp only
      have hb : Nat.beq 9001 k = false := by
        rw [Bool.eq_false_iff]
        exact fun e => h (Nat.eq_of_beq_eq_true e).symm
      rw [hb]
      dsimp only
      unfold nodes
      simp only [hn, ho]

section
variable {X : Ctx} {n : Nat} {all rest : List Oper} {fr : Fr} {ow : Ow} {tr : List (List Nat × List Nat)} {K : Fr → Ow → List (List Nat × List Nat) → Prop}
variable {t i j : Nat} {ty ty' : TypeId} {ps : String} {af : Array Edge} {x y : Operand} {g : Rg} {d : D} {v : Int}

/-! ### Loads -/
theorem r_ldK (hx : ev fr x = .pv (lab i) 0) (hz : B.sz ty = some (1, false)) (hn : Nat.blt t n = true) (hk : look (lab i) ow = some (.var (nodeC g i)))
    (h : CT Try.prog X n all rest ((t, .s (g.key i)) :: fr) ow (tr ++ [([lab i], [])]) K) : CT Try.prog X n all (⟨some t, .load ty x, ty', ps, af, none⟩ :: rest) fr ow tr K :=
  r_loadP hx hz hk rfl (show 0 + 1 ≤ 4 by omega) hn h
theorem r_ldV (hx : ev fr x = .pv (lab i) 1) (hz : B.sz ty = some (1, false)) (hn : Nat.blt t n = true) (hk : look (lab i) ow = some (.var (nodeC g i))) (hd : g.val i = d)
    (h : CT Try.prog X n all rest ((t, d) :: fr) ow (tr ++ [([lab i], [])]) K) : CT Try.prog X n all (⟨some t, .load ty x, ty', ps, af, none⟩ :: rest) fr ow tr K :=
  r_loadP hx hz hk hd (show 1 + 1 ≤ 4 by omega) hn h
theorem r_ldW (hx : ev fr x = .pv (lab i) 2) (hz : B.sz ty = some (1, false)) (hn : Nat.blt t n = true) (hk : look (lab i) ow = some (.var (nodeC g i))) (hd : g.nw i = j) (hj : 0 < j)
    (h : CT Try.prog X n all rest ((t, .pv (lab j) 0) :: fr) ow (tr ++ [([lab i], [])]) K) : CT Try.prog X n all (⟨some t, .load ty x, ty', ps, af, none⟩ :: rest) fr ow tr K :=
  r_loadP hx hz hk (show pD (g.nw i) = _ by rw [hd]; exact pD_pos hj) (show 2 + 1 ≤ 4 by omega) hn h
theorem r_ldL (hx : ev fr x = .pv (lab i) 3) (hz : B.sz ty = some (1, false)) (hn : Nat.blt t n = true) (hk : look (lab i) ow = some (.var (nodeC g i))) (hd : g.ls i = j) (hj : 0 < j)
    (h : CT Try.prog X n all rest ((t, .pv (lab j) 0) :: fr) ow (tr ++ [([lab i], [])]) K) : CT Try.prog X n all (⟨some t, .load ty x, ty', ps, af, none⟩ :: rest) fr ow tr K :=
  r_loadP hx hz hk (show pD (g.ls i) = _ by rw [hd]; exact pD_pos hj) (show 3 + 1 ≤ 4 by omega) hn h

/-! ### Stores -/
theorem r_stW (hx : ev fr x = .pv (lab i) 2) (hy : ev fr y = .pv (lab j) 0) (hz : B.sz ty = some (1, false)) (hi : 0 < i ∧ i ≤ g.n) (hj : 0 < j)
    (h : CT Try.prog X n all rest fr (objs { g with nw := upd g.nw i j }) (tr ++ [([lab i], [lab i])]) K) : CT Try.prog X n all (⟨none, .store ty x y, ty', ps, af, none⟩ :: rest) fr (objs g) tr K := by
  refine r_storP (d := pD j) hx (hy.trans (pD_pos hj).symm) hz (look_node hi) ?_ ?_ ?_ ?_ ?_
  · rw [pD_pos hj]; rfl
  · rw [pD_pos hj]; exact (show 2 + 1 ≤ 4 by omega)
  · rw [pD_pos hj]; rfl
  · rw [pD_pos hj]; rfl
  obtain ⟨es, fr2, ow2, hc, hK⟩ := h
  refine ⟨es, fr2, ow2, ?_, hK⟩
  rw [fO_node (g' := { g with nw := upd g.nw i j }) hi]
  · exact hc
  · rw [pD_pos hj]
    show [D.s (g.key i), g.val i, pD (upd g.nw i j i), pD (g.ls i)] = _
    rw [upd_same, pD_pos hj]
    rfl
  · exact fun k => ⟨.inl, fun h => h.elim id fun e => e ▸ mem_ids hi⟩
  · rfl
  · rfl
  · intro k hk h0 h1
    refine ⟨h1, ?_⟩
    show [D.s (g.key k), g.val k, pD (upd g.nw i j k), pD (g.ls k)] = _
    rw [upd_ne hk]
    rfl
theorem r_stL (hx : ev fr x = .pv (lab i) 3) (hy : ev fr y = .pv (lab j) 0) (hz : B.sz ty = some (1, false)) (hi : 0 < i ∧ i ≤ g.n) (hj : 0 < j)
    (h : CT Try.prog X n all rest fr (objs { g with ls := upd g.ls i j }) (tr ++ [([lab i], [lab i])]) K) : CT Try.prog X n all (⟨none, .store ty x y, ty', ps, af, none⟩ :: rest) fr (objs g) tr K := by
  refine r_storP (d := pD j) hx (hy.trans (pD_pos hj).symm) hz (look_node hi) ?_ ?_ ?_ ?_ ?_
  · rw [pD_pos hj]; rfl
  · rw [pD_pos hj]; exact (show 3 + 1 ≤ 4 by omega)
  · rw [pD_pos hj]; rfl
  · rw [pD_pos hj]; rfl
  obtain ⟨es, fr2, ow2, hc, hK⟩ := h
  refine ⟨es, fr2, ow2, ?_, hK⟩
  rw [fO_node (g' := { g with ls := upd g.ls i j }) hi]
  · exact hc
  · rw [pD_pos hj]
    show [D.s (g.key i), g.val i, pD (g.nw i), pD (upd g.ls i j i)] = _
    rw [upd_same, pD_pos hj]
    rfl
  · exact fun k => ⟨.inl, fun h => h.elim id fun e => e ▸ mem_ids hi⟩
  · rfl
  · rfl
  · intro k hk h0 h1
    refine ⟨h1, ?_⟩
    show [D.s (g.key k), g.val k, pD (g.nw k), pD (upd g.ls i j k)] = _
    rw [upd_ne hk]
    rfl

theorem r_stC {off : Nat} {g' : Rg} (hx : ev fr x = .pv 9000 off) (hy : ev fr y = .i .i64 v) (hz : B.sz ty = some (1, false)) (ho : off < 7) (hcs : cacheC g' = putCells (cacheC g) off [.i .i64 v]) (hn : g'.n = g.n) (hm : g'.es = g.es) (hnd : ∀ j, nodeC g' j = nodeC g j)
    (h : CT Try.prog X n all rest fr (objs g') (tr ++ [([9000], [9000])]) K) : CT Try.prog X n all (⟨none, .store ty x y, ty', ps, af, none⟩ :: rest) fr (objs g) tr K := by
  refine r_storP hx hy hz (look_cache g) rfl (show off + 1 ≤ 7 by omega) rfl rfl ?_
  obtain ⟨es, fr2, ow2, hc, hK⟩ := h
  refine ⟨es, fr2, ow2, ?_, hK⟩
  rw [show (D.i IntKind.i64 v).cells = [D.i .i64 v] from rfl, fO_same (g' := g') hcs hn hm hnd]
  exact hc
theorem r_stSz (hx : ev fr x = .pv 9000 4) (hy : ev fr y = .i .i64 v) (hz : B.sz ty = some (1, false))
    (h : CT Try.prog X n all rest fr (objs { g with sz := v }) (tr ++ [([9000], [9000])]) K) : CT Try.prog X n all (⟨none, .store ty x y, ty', ps, af, none⟩ :: rest) fr (objs g) tr K :=
  r_stC (g' := { g with sz := v }) hx hy hz (by omega) rfl rfl rfl (fun _ => rfl) h
theorem r_stHt (hx : ev fr x = .pv 9000 5) (hy : ev fr y = .i .i64 v) (hz : B.sz ty = some (1, false))
    (h : CT Try.prog X n all rest fr (objs { g with h := v }) (tr ++ [([9000], [9000])]) K) : CT Try.prog X n all (⟨none, .store ty x y, ty', ps, af, none⟩ :: rest) fr (objs g) tr K :=
  r_stC (g' := { g with h := v }) hx hy hz (by omega) rfl rfl rfl (fun _ => rfl) h
theorem r_stMs (hx : ev fr x = .pv 9000 6) (hy : ev fr y = .i .i64 v) (hz : B.sz ty = some (1, false))
    (h : CT Try.prog X n all rest fr (objs { g with m := v }) (tr ++ [([9000], [9000])]) K) : CT Try.prog X n all (⟨none, .store ty x y, ty', ps, af, none⟩ :: rest) fr (objs g) tr K :=
  r_stC (g' := { g with m := v }) hx hy hz (by omega) rfl rfl rfl (fun _ => rfl) h

/-! ### The cache's own cells -/
theorem r_ldC {off : Nat} (hx : ev fr x = .pv 9000 off) (hz : B.sz ty = some (1, false)) (hn : Nat.blt t n = true) (hk : look 9000 ow = some (.var (cacheC g))) (ho : off < 7) (hd : (cacheC g).getD off .any = d)
    (h : CT Try.prog X n all rest ((t, d) :: fr) ow (tr ++ [([9000], [])]) K) : CT Try.prog X n all (⟨some t, .load ty x, ty', ps, af, none⟩ :: rest) fr ow tr K :=
  r_loadP hx hz hk hd (show off + 1 ≤ 7 by omega) hn h
theorem r_ldC0 (hx : ev fr x = .pv 9000 0) (hz : B.sz ty = some (1, false)) (hn : Nat.blt t n = true) (hk : look 9000 ow = some (.var (cacheC g)))
    (h : CT Try.prog X n all rest ((t, .i .i64 g.E) :: fr) ow (tr ++ [([9000], [])]) K) : CT Try.prog X n all (⟨some t, .load ty x, ty', ps, af, none⟩ :: rest) fr ow tr K := r_ldC hx hz hn hk (by omega) rfl h
theorem r_ldC1 (hx : ev fr x = .pv 9000 1) (hz : B.sz ty = some (1, false)) (hn : Nat.blt t n = true) (hk : look 9000 ow = some (.var (cacheC g)))
    (h : CT Try.prog X n all rest ((t, .i .i64 g.M) :: fr) ow (tr ++ [([9000], [])]) K) : CT Try.prog X n all (⟨some t, .load ty x, ty', ps, af, none⟩ :: rest) fr ow tr K := r_ldC hx hz hn hk (by omega) rfl h
theorem r_ldC2 (hx : ev fr x = .pv 9000 2) (hz : B.sz ty = some (1, false)) (hn : Nat.blt t n = true) (hk : look 9000 ow = some (.var (cacheC g)))
    (h : CT Try.prog X n all rest ((t, .mh 9001) :: fr) ow (tr ++ [([9000], [])]) K) : CT Try.prog X n all (⟨some t, .load ty x, ty', ps, af, none⟩ :: rest) fr ow tr K := r_ldC hx hz hn hk (by omega) rfl h
theorem r_ldC3 (hx : ev fr x = .pv 9000 3) (hz : B.sz ty = some (1, false)) (hn : Nat.blt t n = true) (hk : look 9000 ow = some (.var (cacheC g)))
    (h : CT Try.prog X n all rest ((t, .pv (lab 1) 0) :: fr) ow (tr ++ [([9000], [])]) K) : CT Try.prog X n all (⟨some t, .load ty x, ty', ps, af, none⟩ :: rest) fr ow tr K := r_ldC hx hz hn hk (by omega) rfl h
theorem r_ldC4 (hx : ev fr x = .pv 9000 4) (hz : B.sz ty = some (1, false)) (hn : Nat.blt t n = true) (hk : look 9000 ow = some (.var (cacheC g)))
    (h : CT Try.prog X n all rest ((t, .i .i64 g.sz) :: fr) ow (tr ++ [([9000], [])]) K) : CT Try.prog X n all (⟨some t, .load ty x, ty', ps, af, none⟩ :: rest) fr ow tr K := r_ldC hx hz hn hk (by omega) rfl h
theorem r_ldC5 (hx : ev fr x = .pv 9000 5) (hz : B.sz ty = some (1, false)) (hn : Nat.blt t n = true) (hk : look 9000 ow = some (.var (cacheC g)))
    (h : CT Try.prog X n all rest ((t, .i .i64 g.h) :: fr) ow (tr ++ [([9000], [])]) K) : CT Try.prog X n all (⟨some t, .load ty x, ty', ps, af, none⟩ :: rest) fr ow tr K := r_ldC hx hz hn hk (by omega) rfl h
theorem r_ldC6 (hx : ev fr x = .pv 9000 6) (hz : B.sz ty = some (1, false)) (hn : Nat.blt t n = true) (hk : look 9000 ow = some (.var (cacheC g)))
    (h : CT Try.prog X n all rest ((t, .i .i64 g.m) :: fr) ow (tr ++ [([9000], [])]) K) : CT Try.prog X n all (⟨some t, .load ty x, ty', ps, af, none⟩ :: rest) fr ow tr K := r_ldC hx hz hn hk (by omega) rfl h
end

/-! ### Any order comes to one end, though all objects were one -/
def col1 : List Nat → List Nat
  | [] => []
  | _ :: _ => [0]
def col (tr : List (List Nat × List Nat)) : List (List Nat × List Nat) := tr.map fun x => (col1 x.1, col1 x.2)

theorem meets_col {x y : List Nat} (h : meets (col1 x) (col1 y) = false) : meets x y = false := by
  cases x with
  | nil => rfl
  | cons a x =>
    cases y with
    | nil =>
      unfold meets
      rw [Bool.eq_false_iff]
      intro e
      rw [List.any_eq_true] at e
      obtain ⟨_, _, e⟩ := e
      simp at e
    | cons b y => cases h

def colF (f : Foot) : Foot := ⟨f.st, f.wt, col1 f.so, col1 f.wo⟩

theorem clash_col {x y : Foot} (h : clash (colF x) (colF y) = false) : clash x y = false := by
  simp only [clash, Bool.or_eq_false_iff] at h ⊢
  obtain ⟨⟨⟨h1, h2⟩, h3⟩, ⟨h4, h5⟩, h6⟩ := h
  exact ⟨⟨⟨h1, h2⟩, h3⟩, ⟨meets_col h4, meets_col h5⟩, meets_col h6⟩

theorem feet_col (all : List Oper) : ∀ (l : List Oper) (tr : List (List Nat × List Nat)), feet all l (col tr) = (feet all l tr).map colF
  | [], _ => by simp [feet]
  | o :: r, [] => congrArg (Foot.mk (seesOf all o) o.dst.toList [] [] :: ·) (feet_col all r [])
  | o :: r, x :: y => congrArg (Foot.mk (seesOf all o) o.dst.toList (col1 x.1) (col1 x.2) :: ·) (feet_col all r y)

theorem pairsOk_col {an : Nat} {y : Foot} : ∀ (l : List Foot) (i : Nat), pairsOk an (colF y) i (l.map colF) = true → pairsOk an y i l = true
  | [], _, _ => by simp [pairsOk]
  | x :: r, i, h => by
    simp only [pairsOk, List.map_cons, Bool.and_eq_true, Bool.or_eq_true, Bool.not_eq_true'] at h ⊢
    exact ⟨h.1.imp id clash_col, pairsOk_col r (i + 1) h.2⟩

theorem allOk_col {an : List Nat} : ∀ (l done : List Foot) (j : Nat), allOk an (done.map colF) (l.map colF) j = true → allOk an done l j = true
  | [], _, _, _ => by simp [allOk]
  | y :: r, done, j, h => by
    simp only [allOk, List.map_cons, Bool.and_eq_true] at h ⊢
    exact ⟨pairsOk_col done 0 h.1, allOk_col r (done ++ [y]) (j + 1) (by simpa using h.2)⟩

theorem flowOk_col {ops : List Oper} {tr : List (List Nat × List Nat)} (h : flowOk ops (col tr) = true) : flowOk ops tr = true := by
  simp only [flowOk, Bool.and_eq_true] at h ⊢
  refine ⟨?_, h.2⟩
  rw [feet_col] at h
  exact allOk_col (feet ops ops tr) [] 0 h.1

end Go.Proofs.Ytghhohckonbkkaa.Flow
