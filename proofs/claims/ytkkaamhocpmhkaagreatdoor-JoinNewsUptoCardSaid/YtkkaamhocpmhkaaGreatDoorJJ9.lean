/- The texts FlowP, U0, D0, FlowQ, FlowR, T12, one behind the other. -/
import Derived.Test.YtkkaamhocpmhkaaGreatDoorJJ8
import Derived.Laws.BitsLemmas
import Derived.Test.YtkkaamhocpmhkaaGreatDoorRows
import Derived.ProofKit
import Derived.OpenShut
import Derived.JoinedCond
namespace Go.Proofs.YtkkaamhocpmhkaaGreatDoor.Flow
def lendA (ids : List Nat) : D → D
  | .gs k e n f => match memB k ids with
    | true => .gs k e n f
    | false => .sl e n f
  | d => d
def hasAll (own : Nat → Option Own) : Ow → Prop
  | [] => True
  | (k, o) :: r => own k = some o ∧ hasAll own r
theorem zdJ {own : Nat → Option Own} : ∀ {lo : Ow}, hasAll own lo → ∀ k o, look k lo = some o → own k = some o
  | [], _, k, o, h => by simp [look] at h
  | (u, e) :: r, h, k, o, hk => by
    simp only [look] at hk
    cases hb : Nat.beq u k with
    | true =>
      have := Nat.eq_of_beq_eq_true hb
      subst this
      rw [hb] at hk
      cases hk
      exact h.1
    | false =>
      rw [hb] at hk
      exact zdJ h.2 k o hk
theorem zbd {α : Type} {k : Nat} {o : α} : ∀ {l : List (Nat × α)}, look k l = some o → (k, o) ∈ l
  | [], h => by simp [look] at h
  | (u, e) :: r, h => by
    simp only [look] at h
    cases hb : Nat.beq u k with
    | true =>
      have := Nat.eq_of_beq_eq_true hb
      subst this
      rw [hb] at h
      cases h
      simp
    | false =>
      rw [hb] at h
      exact List.mem_cons_of_mem _ (zbd h)
theorem zbw {O : Nat → Option Own} : ∀ {l : Ow}, (l.map (·.1)).Nodup → ∀ k, updO O l k = match look k l with
    | some o => some o
    | none => O k
  | [], _, k => rfl
  | (u, e) :: r, hn, k => by
    simp only [List.map_cons, List.nodup_cons] at hn
    simp only [updO, look]
    rw [zbw hn.2 k]
    cases hb : Nat.beq u k with
    | true =>
      have := Nat.eq_of_beq_eq_true hb
      subst this
      rw [zbK hn.1]
      simp
    | false =>
      have hne : k ≠ u := fun e => by subst e; rw [Nat.beq_refl] at hb; cases hb
      cases look k r with
      | some o => rfl
      | none => simp [hne]
theorem ObjOk.keepL {S S' : Cells} {w w' : World} {r r' : Rho} {k : Nat} {o : Own} (h : ObjOk S w r k o) (hS : ∀ b o, S b o → S' b o) (hc : ∀ b o, S b o → w'.cell? ⟨b, o, none⟩ = w.cell? ⟨b, o, none⟩) (hr : RhoLe r r') (hk : r' k = r k)
    (hg : ∀ l b, r k = some l → l.block = some b → w'.heap[b]? = w.heap[b]?) (hn : ∀ b o, S' b o → S b o ∨ ∀ l, r k = some l → l.block ≠ some b) : ObjOk S' w' r' k o := by
  have hmono : ∀ d v, Rel S w r d v → Rel S' w' r' d v := fun d v hd => hd.mono hS hc r' hr
  cases o with
  | var cs =>
    obtain ⟨b, cur, e, h1, h2, h3, h4, h5⟩ := h
    have hb : (Loc.blk b).block = some b := rfl
    refine ⟨b, cur, e, hk.trans h1, ?_, h3, fun j hj => ⟨hmono _ _ (h4 j hj).1, (h4 j hj).2⟩, fun o ho => ?_⟩
    · rw [hg _ _ h1 hb]; exact h2
    · rcases hn b o ho with h6 | h6
      · exact h5 o h6
      · exact h6 _ h1 hb
  | row e esz len =>
    obtain ⟨tv, h1, h2⟩ := h
    refine ⟨tv, hk.trans h1, ?_⟩
    rcases h2 with h2 | ⟨g', cap, cur, rfl, h3, h4, h5, h6, h7⟩
    · exact .inl h2
    · have hb : (Loc.row (.slice (some ⟨g', 0, none⟩) len cap) len).block = some g' := rfl
      refine .inr ⟨g', cap, cur, rfl, ?_, h4, h5, h6, fun o ho hs => ?_⟩
      · rw [hg _ _ h1 hb]; exact h3
      · rcases hn g' o hs with h8 | h8
        · exact h7 o ho h8
        · exact h8 _ h1 hb
  | arr e esz len f =>
    obtain ⟨tv, h1, h2⟩ := h
    refine ⟨tv, hk.trans h1, ?_⟩
    rcases h2 with h2 | ⟨g', cap, cur, rfl, h3, h4, h5, h6, h7, h8, h9⟩
    · exact .inl h2
    · have hb : (Loc.row (.slice (some ⟨g', 0, none⟩) len cap) len).block = some g' := rfl
      refine .inr ⟨g', cap, cur, rfl, ?_, h4, h5, h6, h7, fun i j hi hj => (h8 i j hi hj).mono hS hc noRho (RhoLe.refl _), fun o hs => ?_⟩
      · rw [hg _ _ h1 hb]; exact h3
      · rcases hn g' o hs with h10 | h10
        · exact h9 o h10
        · exact h10 _ h1 hb
  | ob x =>
    obtain ⟨b, h1, h2, h5⟩ := h
    have hb : (Loc.blk b).block = some b := rfl
    refine ⟨b, hk.trans h1, ?_, fun o ho => ?_⟩
    · rw [hg _ _ h1 hb]; exact h2
    · rcases hn b o ho with h6 | h6
      · exact h5 o h6
      · exact h6 _ h1 hb
  | bld T d =>
    obtain ⟨b, cur, e, h1, h2, h3, h4, h7, h5⟩ := h
    have hb : (Loc.blk b).block = some b := rfl
    refine ⟨b, cur, e, hk.trans h1, ?_, h3, h4, ⟨hmono _ _ h7.1, h7.2⟩, fun o ho => ?_⟩
    · rw [hg _ _ h1 hb]; exact h2
    · rcases hn b o ho with h6 | h6
      · exact h5 o h6
      · exact h6 _ h1 hb
  | mp es =>
    obtain ⟨b, arr, clock, h1, h2, h3, h4, h7, h5⟩ := h
    have hb : (Loc.blk b).block = some b := rfl
    refine ⟨b, arr, clock, hk.trans h1, ?_, h3, fun j hj => ⟨(h4 j hj).1, hmono _ _ (h4 j hj).2.1, (h4 j hj).2.2⟩, h7, fun o ho => ?_⟩
    · rw [hg _ _ h1 hb]; exact h2
    · rcases hn b o ho with h6 | h6
      · exact h5 o h6
      · exact h6 _ h1 hb
  | bm e len f =>
    obtain ⟨b, cap, cur, h1, h2, h3, h4, h7, h8, h5⟩ := h
    have hb : (Loc.row (.slice (some ⟨b, 0, none⟩) len cap) len).block = some b := rfl
    refine ⟨b, cap, cur, hk.trans h1, ?_, h3, h4, h7, h8, fun o ho => ?_⟩
    · rw [hg _ _ h1 hb]; exact h2
    · rcases hn b o ho with h6 | h6
      · exact h5 o h6
      · exact h6 _ h1 hb
  | gone =>
    obtain ⟨l, h1, h2⟩ := h
    refine ⟨l, hk.trans h1, fun b hb => ?_⟩
    have h3 := hg l b h1 hb
    rw [Array.getElem?_eq_getElem (h2 b hb)] at h3
    exact (Array.getElem?_eq_some_iff.1 h3).1
theorem ObjOk.okIn {S : Cells} {w : World} {r r' : Rho} {k : Nat} {o : Own} {ks : List Nat} (h : ObjOk S w r k o) (hok : o.okIn ks = true) (hr : RhoLe (keepR r ks) r') (hk : r' k = r k) : ObjOk S w r' k o := by
  cases o with
  | var cs =>
    obtain ⟨b, cur, e, h1, h2, h3, h4, h5⟩ := h
    refine ⟨b, cur, e, hk.trans h1, h2, h3, fun j hj => ⟨((h4 j hj).1.okIn (ks := ks) ?_).mono (fun _ _ h => h) (fun _ _ _ => rfl) r' hr, (h4 j hj).2⟩, h5⟩
    simp only [Own.okIn, List.all_eq_true] at hok
    refine hok _ ?_
    simp only [List.getD_eq_getElem?_getD, List.getElem?_eq_getElem hj, Option.getD_some]
    exact List.getElem_mem hj
  | row e esz len =>
    obtain ⟨tv, h1, h2⟩ := h
    exact ⟨tv, hk.trans h1, h2⟩
  | arr e esz len f =>
    obtain ⟨tv, h1, h2⟩ := h
    exact ⟨tv, hk.trans h1, h2⟩
  | ob x =>
    obtain ⟨b, h1, h2⟩ := h
    exact ⟨b, hk.trans h1, h2⟩
  | bld T d =>
    obtain ⟨b, cur, e, h1, h2, h3, h4, h7, h5⟩ := h
    exact ⟨b, cur, e, hk.trans h1, h2, h3, h4, ⟨(h7.1.okIn (ks := ks) hok).mono (fun _ _ h => h) (fun _ _ _ => rfl) r' hr, h7.2⟩, h5⟩
  | mp es =>
    obtain ⟨b, arr, clock, h1, h2, h3, h4, h7, h5⟩ := h
    refine ⟨b, arr, clock, hk.trans h1, h2, h3, fun j hj => ⟨(h4 j hj).1, ((h4 j hj).2.1.okIn (ks := ks) ?_).mono (fun _ _ h => h) (fun _ _ _ => rfl) r' hr, (h4 j hj).2.2⟩, h7, h5⟩
    simp only [Own.okIn, List.all_eq_true] at hok
    refine hok _ ?_
    simp only [List.getD_eq_getElem?_getD, List.getElem?_eq_getElem hj, Option.getD_some]
    exact List.getElem_mem hj
  | bm e len f =>
    obtain ⟨b, cap, cur, h1, h2⟩ := h
    exact ⟨b, cap, cur, hk.trans h1, h2⟩
  | gone =>
    obtain ⟨l, h1, h2⟩ := h
    exact ⟨l, hk.trans h1, h2⟩
section
variable {P : Program} {X : Ctx} {n : Nat} {fr : Fr} {ow : Ow} {d : D}
theorem zef {o : Oper} {f : FuncId} {args : List D} {lo lo' : Ow} {ids : List Nat} (hP : ∀ vs w, (callFunc f vs).run P w = .ok (.enter f vs) w) (hc : callOf fr o.op = some (f, args)) (hk : hasAll (fun k => look k ow) lo)
    (hi1 : lo.map (·.1) = ids) (hi2 : lo'.map (·.1) = ids) (hnd : ids.Nodup)
    (hok : (args.map (lendA ids)).all (D.okIn ids) = true) (hf1 : lo.all (fun x => x.2.okIn ids) = true) (hf2 : lo'.all (fun x => x.2.okIn ids) = true) (hf3 : d.okIn ids = true)
    (hC : CtrO P f (args.map (lendA ids)) lo d lo') (hd : dstOk o.dst n) :
    ∀ F' O', (∀ x ∈ o.op.operands.toList, evF F' x = evF (fF fr) x) → (∀ j ∈ ids, O' j = fO ow j) → StepAt P X n o F' O' d lo' := by
  intro F' O' he hO a w K' Q' ⟨S, r, hH, hI, hF, hdf, hn, hρ⟩ hK
  obtain ⟨vs, hrun, hsz, hrel⟩ := zbD hP hc he (fun x => zcw hH.glob hF x)
  have hOk : ∀ k o, look k lo = some o → O' k = some o := fun k o h => by
    have hm : k ∈ ids := by rw [← hi1]; exact List.mem_map.2 ⟨(k, o), zbd h, rfl⟩
    exact (hO k hm).trans (zdJ hk k o h)
  have hmem : ∀ k, k ∈ ids → ∃ o, look k lo = some o := fun k h => zcy (by rw [hi1]; exact h)
  have hmem' : ∀ k, k ∈ ids → ∃ o, look k lo' = some o := fun k h => zcy (by rw [hi2]; exact h)
  have hin : ∀ k o, look k lo = some o → k ∈ ids ∧ o.okIn ids = true := fun k o h => by
    have h1 := zbd h
    rw [List.all_eq_true] at hf1
    exact ⟨by rw [← hi1]; exact List.mem_map.2 ⟨(k, o), h1, rfl⟩, hf1 _ h1⟩
  have hin' : ∀ k o, look k lo' = some o → k ∈ ids ∧ o.okIn ids = true := fun k o h => by
    have h1 := zbd h
    rw [List.all_eq_true] at hf2
    exact ⟨by rw [← hi2]; exact List.mem_map.2 ⟨(k, o), h1, rfl⟩, hf2 _ h1⟩
  have hblt : ∀ k l b, r k = some l → l.block = some b → b < w.heap.size := fun k l b hl hb => by
    cases ho : O' k with
    | none => rw [hI.dom k ho] at hl; cases hl
    | some o => exact (hI.obj k o ho).blockLt hl hb
  let X' : Ctx := { w0 := w, S0 := S, L := fun b => ∃ k ∈ ids, ∃ l, r k = some l ∧ l.block = some b, r0 := keepR r ids, ids := ids }
  have hH' : Hist X' w S := ⟨rfl, rfl, rfl, Nat.le_refl _, fun _ _ _ => rfl, fun _ _ h => h, fun _ _ _ => rfl, fun _ _ h => .inl h, hH.valid, hH.glob⟩
  have hI' : Inv X' w S X'.r0 (fO lo) := by
    refine ⟨fun k o hk' => ?_, fun k hk' => ?_, fun i j l l' b' hij hl hl' hb' => ?_, fun k l b' hl hb' => ?_⟩
    · obtain ⟨h1, h2⟩ := hin k o hk'
      exact (hI.obj k o (hOk k o hk')).okIn h2 (RhoLe.refl _) (if_pos h1)
    · refine if_neg fun hm => ?_
      obtain ⟨o, ho⟩ := hmem k hm
      rw [show fO lo k = look k lo from rfl, ho] at hk'
      cases hk'
    · have hl : keepR r ids i = some l := hl
      have hl' : keepR r ids j = some l' := hl'
      simp only [keepR] at hl hl'
      split at hl <;> first | (cases hl; done) | skip
      split at hl' <;> first | (cases hl'; done) | skip
      exact hI.apart i j l l' b' hij hl hl' hb'
    · have hl : keepR r ids k = some l := hl
      simp only [keepR] at hl
      split at hl <;> first | (cases hl; done) | skip
      rename_i hm
      exact .inr ⟨k, hm, l, hl, hb'⟩
  have hrel' : ∀ j, j < (args.map (lendA ids)).length → Rel S w X'.r0 ((args.map (lendA ids)).getD j .any) (vs.getD j undef) := by
    intro j hj
    have hj' : j < args.length := by simpa using hj
    have e : (args.map (lendA ids)).getD j .any = lendA ids (args.getD j .any) := by simp [List.getD_eq_getElem?_getD, hj']
    have hokj : (lendA ids (args.getD j .any)).okIn ids = true := by
      rw [← e]
      rw [List.all_eq_true] at hok
      refine hok _ ?_
      simp only [List.getD_eq_getElem?_getD, List.getElem?_eq_getElem hj, Option.getD_some]
      exact List.getElem_mem hj
    rw [e]
    have hr := hrel j hj'
    generalize args.getD j .any = dj at hr hokj
    generalize vs.getD j undef = vj at hr
    refine Rel.okIn (r := r) ?_ hokj
    cases dj with
    | gs k z m g =>
      simp only [lendA]
      split
      · exact hr
      · exact hr.shut
    | _ => exact hr
  refine OW.enter hrun ((hC X' vs hi1.symm hH' hI' (by simpa using hsz) hrel').mono ?_)
  rintro e w' ⟨v, S', r', rfl, g1, g2, g3, g4⟩
  let r2 : Rho := fun k => if k ∈ ids then r' k else r k
  have hr2 : RhoLe r r2 := fun k l hl => by
    by_cases hm : k ∈ ids
    · obtain ⟨l', h1, h2⟩ := g4 k l (by show keepR r ids k = some l; rw [keepR, if_pos hm]; exact hl)
      exact ⟨l', by show (if k ∈ ids then r' k else r k) = some l'; rw [if_pos hm]; exact h1, h2⟩
    · exact ⟨l, by show (if k ∈ ids then r' k else r k) = some l; rw [if_neg hm]; exact hl, LocLe.refl l⟩
  have hr3 : RhoLe (keepR r' ids) r2 := fun k l hl => by
    simp only [keepR] at hl
    split at hl <;> first | (cases hl; done) | skip
    rename_i hm
    exact ⟨l, by show (if k ∈ ids then r' k else r k) = some l; rw [if_pos hm]; exact hl, LocLe.refl l⟩
  have hXL : ∀ b, X'.L b → X.w0.heap.size ≤ b ∨ X.L b := fun b ⟨k, _, l, hl, hb⟩ => hI.low k l b hl hb
  have hother : ∀ k l b, k ∉ ids → r k = some l → l.block = some b → ¬ X'.L b := fun k l b hm hl hb ⟨k', hm', l', hl', hb'⟩ =>
    hI.apart k k' l l' b (fun e => hm (e ▸ hm')) hl hl' hb hb'
  refine hK v w' ⟨S', r2, ?_, ?_, zcx (fun t => (hF t).mono g2.sub g2.cell r2 hr2) (hn ▸ hd) ((g1.okIn hf3).mono (fun _ _ h => h) (fun _ _ _ => rfl) r2 hr3), by rw [zbg]; exact hdf, by rw [zbR]; exact hn, hρ.trans hr2⟩
  · refine ⟨g2.os.trans hH.os, g2.tape.trans hH.tape, g2.output.trans hH.output, Nat.le_trans hH.size g2.size, fun k hk' hl => ?_, fun b o hb => g2.sub b o (hH.sub b o hb), fun b o hb => (g2.cell b o (hH.sub b o hb)).trans (hH.cell b o hb), fun b o hb => ?_, g2.valid, g2.glob⟩
    · refine (g2.block k (Nat.lt_of_lt_of_le hk' hH.size) fun hx => ?_).trans (hH.block k hk' hl)
      rcases hXL k hx with h | h
      · omega
      · exact hl h
    · rcases g2.new b o hb with h | h | h
      · exact hH.new b o h
      · exact .inr (.inl (Nat.le_trans hH.size h))
      · rcases hXL b h with h | h
        · exact .inr (.inl h)
        · exact .inr (.inr h)
  · have hnd' : (lo'.map (·.1)).Nodup := by rw [hi2]; exact hnd
    have hup : ∀ k, k ∉ ids → updO O' lo' k = O' k := fun k hm => by
      rw [zbw hnd', zbK (by rw [hi2]; exact hm)]
    refine ⟨fun k o hk' => ?_, fun k hk' => ?_, fun i j l l' b hij hl hl' hb => ?_, fun k l b hl hb => ?_⟩
    · by_cases hm : k ∈ ids
      · obtain ⟨o', ho'⟩ := hmem' k hm
        rw [zbw hnd', ho'] at hk'
        obtain rfl : o' = o := Option.some.inj hk'
        exact (g3.obj k o' ho').okIn (hin' k o' ho').2 hr3 (if_pos hm)
      · rw [hup k hm] at hk'
        refine (hI.obj k o hk').keepL g2.sub g2.cell hr2 (if_neg hm) (fun l b hl hb => g2.block b (hblt k l b hl hb) (hother k l b hm hl hb)) (fun b o hs => ?_)
        rcases g2.new b o hs with h | h | h
        · exact .inl h
        · refine .inr fun l hl hb => ?_
          have := hblt k l b hl hb
          have h : w.heap.size ≤ b := h
          omega
        · exact .inr fun l hl hb => hother k l b hm hl hb h
    · by_cases hm : k ∈ ids
      · obtain ⟨o', ho'⟩ := hmem' k hm
        rw [zbw hnd', ho'] at hk'
        cases hk'
      · rw [hup k hm] at hk'
        exact (if_neg hm).trans (hI.dom k hk')
    · have hl : (if i ∈ ids then r' i else r i) = some l := hl
      have hl' : (if j ∈ ids then r' j else r j) = some l' := hl'
      by_cases h1 : i ∈ ids
      · rw [if_pos h1] at hl
        by_cases h2 : j ∈ ids
        · rw [if_pos h2] at hl'
          exact g3.apart i j l l' b hij hl hl' hb
        · rw [if_neg h2] at hl'
          intro hb'
          rcases g3.low i l b hl hb with h | h
          · have := hblt j l' b hl' hb'
            have h : w.heap.size ≤ b := h
            omega
          · exact hother j l' b h2 hl' hb' h
      · rw [if_neg h1] at hl
        by_cases h2 : j ∈ ids
        · rw [if_pos h2] at hl'
          intro hb'
          rcases g3.low j l' b hl' hb' with h | h
          · have := hblt i l b hl hb
            have h : w.heap.size ≤ b := h
            omega
          · exact hother i l b h1 hl hb h
        · rw [if_neg h2] at hl'
          exact hI.apart i j l l' b hij hl hl' hb
    · have hl : (if k ∈ ids then r' k else r k) = some l := hl
      by_cases h1 : k ∈ ids
      · rw [if_pos h1] at hl
        rcases g3.low k l b hl hb with h | h
        · exact .inl (Nat.le_trans hH.size h)
        · exact hXL b h
      · rw [if_neg h1] at hl
        exact hI.low k l b hl hb
def resU (B : Tb) (fr : Fr) (ow : Ow) (rs : List ResultVar) : Option D :=
  match rs with
  | [.tmp t] => fz (getD' t fr) some
  | rs => resD B fr ow rs
theorem zeF {ow : Ow} {fr : Fr} {fn : Func} {a : Act} {w : World} {S : Cells} {r : Rho} {d : D} {rs : List ResultVar} (hrs : fn.results = ⟨rs⟩) (hI : Inv X w S r (fO ow)) (hF : ∀ t, Rel S w r (fF fr t) (a.tmps.getD t undef)) (h : resU (tb P) fr ow rs = some d) :
    ∃ v, (results fn a.tmps).run P w = .ok v w ∧ Rel S w r d v := by
  unfold resU at h
  split at h
  · rename_i t
    rw [zdD] at h
    cases h
    refine ⟨a.tmps.getD t undef, ?_, hF t⟩
    have hm : (fn.results.mapM (resF a.tmps)).run P w = .ok #[a.tmps.getD t undef] w := by
      rw [hrs, Array.mapM_eq_mapM_toList]
      have h1 : ([ResultVar.tmp t].mapM (resF a.tmps)).run P w = .ok [a.tmps.getD t undef] w := by
        have h0 : (resF a.tmps (.tmp t)).run P w = .ok (a.tmps.getD t undef) w := rfl
        rw [List.mapM_cons]
        simp only [Sem.run_bind, h0, List.mapM_nil, Result.andThen_ok, Sem.run_pure]
      simp only [Sem.run_map, h1, Result.andThen_ok]
    simp only [zbA, Sem.run_bind, hm, Result.andThen_ok, Sem.run_pure]
    rfl
  · exact zfV hrs hI hF h
variable {ow' : Ow}
theorem CtrO.of_TU {f : FuncId} {fn : Func} {c : Code} {N : Nat} {rs : List ResultVar} {args : List D} {d : D} (hf : P.funcs[f]? = some fn) (hb : fn.body = some c) (hN : fn.ntmps = N) (hrs : fn.results = ⟨rs⟩) (hlen : args.length ≤ N)
    (h : ∀ X : Ctx, Lent X → X.ids = ow.map (·.1) → T P X N c (slots 0 args) ow (fun e fr2 ow2 => (e = .ret ∨ e = .normal) ∧ ∃ d2, resU (tb P) fr2 ow2 rs = some d2 ∧ Weak d2 d ∧ d.okIn (ow'.map (·.1)) = true ∧ Le X fr2 ow2 [] ow')) :
    CtrO P f args ow d ow' := by
  refine CtrO.of0 fun X vs hdf0 hids hH hI hsz hrel => ?_
  have hL : Lent X := fun k hk => by
    rw [hids]
    cases hmem : look k ow with
    | none => exact absurd (hI.dom k hmem) hk
    | some o =>
      by_cases hm : k ∈ ow.map (·.1)
      · exact hm
      · rw [zbK hm] at hmem; cases hmem
  refine calls_of_wp hf hb ?_
  have hrep : Rep X N (fF (slots 0 args)) (fO ow) { tmps := vs ++ Array.replicate (fn.ntmps - vs.size) undef, defers := [] } X.w0 := by
    refine ⟨X.S0, X.r0, hH, hI, fun t => ?_, hdf0.symm, by simp; omega, RhoLe.refl _⟩
    show Rel _ _ _ (getD' t (slots 0 args)) _
    rw [zcp]
    simp only [Nat.zero_le, if_true, Nat.sub_zero]
    by_cases ht : t < args.length
    · have := hrel t ht
      rw [Array.getD_eq_getD_getElem?, Array.getElem?_append_left (by omega), ← Array.getD_eq_getD_getElem?]
      exact this
    · rw [List.getD_eq_getElem?_getD, List.getElem?_eq_none (by omega)]
      exact .any ..
  refine wp_mono (h X hL hids _ _ hrep).wide fun e a w ⟨fr2, ow2, ⟨he, d2, h1, h2, h3, h4⟩, hrep2⟩ => ?_
  obtain ⟨S, r, hH2, hI2, hF2, hd2, _, hρ2⟩ := hrep2
  obtain ⟨v, hv, hvr⟩ := zeF (P := P) hrs hI2 hF2 h1
  have hok := h4.ok
  simp only [okAll, Bool.and_eq_true] at hok
  have hfin : ∃ v' S' r', Ending.returned v = .returned v' ∧ Rel S' w r' d v' ∧ Hist X w S' ∧ Inv X w S' r' (fO ow') ∧ RhoLe X.r0 r' := by
    refine ⟨v, S, keepR r (ow'.map (·.1)), rfl, ?_, hH2, hI2.keep h4.ow hok.2, fun k l hk => ?_⟩
    · exact (hvr.weak h2).okIn h3
    · obtain ⟨l', g1, g2⟩ := hρ2 k l hk
      have : k ∈ ow'.map (·.1) := h4.ids k (hL k (by rw [hk]; simp))
      exact ⟨l', by simp only [keepR]; rw [if_pos this]; exact g1, g2⟩
  rcases he with rfl | rfl
  · exact ⟨hd2.trans hdf0, v, hv, hfin⟩
  · exact ⟨hd2.trans hdf0, v, hv, hfin⟩
theorem T.adoptV {c : Code} {Q : Exit → Fr → Ow → Prop} (v j k e z : Nat) (cs : List D) (f : Nat → List D) (hv : look v ow = some (.var cs)) (hj : cs.getD j .any = .nilS) (hk : look k ow = none)
    (h : T P X n c fr ((v, .var (cs.set j (.gs k z 0 f))) :: (k, .row e z 0) :: ow) Q) : T P X n c fr ow Q := fun a w hr => by
  refine h a w ?_
  obtain ⟨S, r, hH, hI, hF, hd, hn, hρ⟩ := hr
  have hle : RhoLe r (updR r k (.row (.slice none 0 0) 0)) := RhoLe.new (hI.dom k hk)
  have hk0 : updR r k (.row (.slice none 0 0) 0) k = some (.row (.slice none 0 0) 0) := by simp [updR]
  have hc : Chg w w S none := ⟨rfl, rfl, rfl, Nat.le_refl _, fun _ _ _ => rfl, fun _ _ _ => rfl⟩
  have hI2 : Inv X w S (updR r k (.row (.slice none 0 0) 0)) (fO ((k, .row e z 0) :: ow)) := by
    rw [zaM]
    exact hI.put hc (fun _ _ h => h) hle k _ (.row (.slice none 0 0) 0) ⟨_, hk0, .inl ⟨rfl, rfl⟩⟩ hk0 (fun j hj => by simp [updR, hj]) (fun b hb => by simp [Loc.block] at hb) (fun b hb => by cases hb) (fun _ _ h => .inl h)
  have hvk : v ≠ k := fun e => by subst e; rw [hv] at hk; cases hk
  have hv2 : fO ((k, .row e z 0) :: ow) v = some (.var cs) := by
    rw [zaM]
    show (if v = k then _ else fO ow v) = _
    rw [if_neg hvk]
    exact hv
  have hobj := hI2.obj v _ hv2
  obtain ⟨b, cur, e0, h1, h2, h3, h4, h5⟩ := hobj
  refine ⟨S, updR r k (.row (.slice none 0 0) 0), hH, ?_, fun u => (hF u).mono (fun _ _ h => h) (fun _ _ _ => rfl) _ hle, hd, hn, hρ.trans hle⟩
  rw [zaM]
  refine hI2.put hc (fun _ _ h => h) (RhoLe.refl _) v _ (.blk b) ⟨b, cur, e0, h1, h2, by simpa using h3, fun i hi => ?_, h5⟩ h1 (fun _ _ => rfl) (fun b' hb' => .inr ⟨_, h1, hb'⟩) (fun b hb => by cases hb) (fun _ _ h => .inl h)
  have hi' : i < cs.length := by simpa using hi
  by_cases e : j = i
  · subst e
    have e1 : (cs.set j (D.gs k z 0 f)).getD j .any = .gs k z 0 f := by simp [List.getD_eq_getElem?_getD, hi']
    rw [e1]
    have h6 := (h4 j hi').1
    rw [hj] at h6
    generalize cur.getD j undef = vj at h6 ⊢
    cases h6
    refine ⟨.gs _ k z 0 f _ _ 0 (.sl _ _ _ _ none 0 (fun _ _ => undef) (Nat.le_refl _) (by unfold maxLen; omega) (fun i hi => by omega) (fun i j hi => by omega) (fun i j hi => by omega)) hk0 (Nat.le_refl _) (fun _ => .inl rfl), rfl⟩
  · have e1 : (cs.set j (D.gs k z 0 f)).getD i .any = cs.getD i .any := by simp [List.getD_eq_getElem?_getD, e]
    rw [e1]
    exact h4 i hi'
end
section
variable {X : Ctx} {n : Nat} {all rest : List Oper} {fr : Fr} {ow : Ow} {tr : List (List Nat × List Nat)} {K : Fr → Ow → List (List Nat × List Nat) → Prop} {Q : Exit → Fr → Ow → Prop}
variable {t : Nat} {op : Op} {ty : TypeId} {pos : String} {af : Array Edge} {d : D} {g u : Nat} {want : Bool} {k k2 : Nat} {o1 o2 o1' o2' : Own} {f : FuncId} {args : List D}
theorem zod (ow : Ow) (k1 k2 : Nat) (o1 o2 : Own) (hne : k1 ≠ k2) : fO ((k1, o1) :: (k2, o2) :: ow) = updO (fO ow) [(k1, o1), (k2, o2)] := by
  funext u
  rw [zaM, zaM]
  simp only [updO]
  by_cases h1 : u = k1
  · subst h1
    simp [hne]
  · by_cases h2 : u = k2
    · subst h2
      rw [if_neg h1]
      simp
    · simp [h1, h2]
theorem zcz (k k2 : Nat) (hc : callOf fr op = some (f, args)) (hn : Nat.blt t n = true) (hP : ∀ vs w, (callFunc f vs).run Tryz.prog w = .ok (.enter f vs) w) (hk : look k ow = some o1) (hk2 : look k2 ow = some o2) (hne : Nat.beq k k2 = false)
    (hok : (args.map (lendA [k, k2])).all (D.okIn [k, k2]) = true) (hf1 : o1.okIn [k, k2] = true) (hf2 : o2.okIn [k, k2] = true) (hg1 : o1'.okIn [k, k2] = true) (hg2 : o2'.okIn [k, k2] = true) (hf3 : d.okIn [k, k2] = true)
    (hC : CtrO Tryz.prog f (args.map (lendA [k, k2])) [(k, o1), (k2, o2)] d [(k, o1'), (k2, o2')])
    (h : CT Tryz.prog X n all rest ((t, d) :: fr) ((k, o1') :: (k2, o2') :: ow) (tr ++ [([k, k2], [k, k2])]) K) : CT Tryz.prog X n all (⟨some t, op, ty, pos, af, none⟩ :: rest) fr ow tr K :=
  have hne' : k ≠ k2 := fun e => by subst e; rw [Nat.beq_refl] at hne; cases hne
  CT.cons (e := ⟨d, [k, k2], [(k, o1'), (k2, o2')]⟩) (.plain rfl (zef (o := ⟨some t, op, ty, pos, af, none⟩) (ow := ow) (lo := [(k, o1), (k2, o2)]) hP hc ⟨hk, hk2, trivial⟩ rfl rfl (by simp [hne']) hok (by simp [hf1, hf2]) (by simp [hg1, hg2]) hf3 hC (show t < n by simpa using hn))) (zaE ..) (zod _ _ _ _ _ hne') h
theorem zoU (ow : Ow) (k1 k2 k3 : Nat) (o1 o2 o3 : Own) (h12 : k1 ≠ k2) (h13 : k1 ≠ k3) (h23 : k2 ≠ k3) : fO ((k1, o1) :: (k2, o2) :: (k3, o3) :: ow) = updO (fO ow) [(k1, o1), (k2, o2), (k3, o3)] := by
  funext u
  rw [zaM, zaM, zaM]
  simp only [updO]
  by_cases h1 : u = k1
  · subst h1
    simp [h12, h13]
  · by_cases h2 : u = k2
    · subst h2
      simp [h1, h23]
    · by_cases h3 : u = k3
      · subst h3
        simp [h1, h2]
      · simp [h1, h2, h3]
theorem zgT {o3 o3' : Own} (k k2 k3 : Nat) (hc : callOf fr op = some (f, args)) (hn : Nat.blt t n = true) (hP : ∀ vs w, (callFunc f vs).run Tryz.prog w = .ok (.enter f vs) w) (hk : look k ow = some o1) (hk2 : look k2 ow = some o2) (hk3 : look k3 ow = some o3)
    (hne : (!Nat.beq k k2 && !Nat.beq k k3 && !Nat.beq k2 k3) = true)
    (hok : (args.map (lendA [k, k2, k3])).all (D.okIn [k, k2, k3]) = true) (f1 : o1.okIn [k, k2, k3] = true) (f2 : o2.okIn [k, k2, k3] = true) (f3 : o3.okIn [k, k2, k3] = true) (g1 : o1'.okIn [k, k2, k3] = true) (g2 : o2'.okIn [k, k2, k3] = true) (g3 : o3'.okIn [k, k2, k3] = true) (hf3 : d.okIn [k, k2, k3] = true)
    (hC : CtrO Tryz.prog f (args.map (lendA [k, k2, k3])) [(k, o1), (k2, o2), (k3, o3)] d [(k, o1'), (k2, o2'), (k3, o3')])
    (h : CT Tryz.prog X n all rest ((t, d) :: fr) ((k, o1') :: (k2, o2') :: (k3, o3') :: ow) (tr ++ [([k, k2, k3], [k, k2, k3])]) K) : CT Tryz.prog X n all (⟨some t, op, ty, pos, af, none⟩ :: rest) fr ow tr K := by
  simp only [Bool.and_eq_true, Bool.not_eq_true'] at hne
  have h12 : k ≠ k2 := fun e => by subst e; simp [Nat.beq_refl] at hne
  have h13 : k ≠ k3 := fun e => by subst e; simp [Nat.beq_refl] at hne
  have h23 : k2 ≠ k3 := fun e => by subst e; simp [Nat.beq_refl] at hne
  exact CT.cons (e := ⟨d, [k, k2, k3], [(k, o1'), (k2, o2'), (k3, o3')]⟩) (.plain rfl (zef (o := ⟨some t, op, ty, pos, af, none⟩) (ow := ow) (lo := [(k, o1), (k2, o2), (k3, o3)]) hP hc ⟨hk, hk2, hk3, trivial⟩ rfl rfl (by simp [h12, h13, h23]) hok (by simp [f1, f2, f3]) (by simp [g1, g2, g3]) hf3 hC (show t < n by simpa using hn))) (zaE ..) (zoU _ _ _ _ _ _ _ h12 h13 h23) h
structure Stay (p : Prop) : Prop where
  out : p
def EndsM (rs : List ResultVar) (d : D) (lo : Ow) (e : Exit) (fr : Fr) (ow : Ow) : Prop :=
  match e with
  | .ret | .normal => ∃ d2, resU B fr ow rs = some d2 ∧ Weak d2 d ∧ leOw ow lo
  | _ => False
theorem zpt {rs : List ResultVar} {d d2 : D} {lo : Ow} (h : resU B fr ow rs = some d2) (he : d2 = d) (hlo : Stay (leOw ow lo)) : Rtn (EndsM rs d lo) fr ow := by
  unfold Rtn
  exact ⟨d2, h, .of_eq he, hlo.out⟩
theorem zlL {fn : Func} {c : Code} {N : Nat} {rs : List ResultVar} {lo lo' : Ow} {ids : List Nat} (hf : Tryz.prog.funcs[f]? = some fn) (hb : fn.body = some c) (hN : fn.ntmps = N) (hrs : fn.results = ⟨rs⟩) (hlen : Nat.ble args.length N = true)
    (hi1 : lo.map (·.1) = ids) (hi2 : lo'.map (·.1) = ids) (hd : d.okIn ids = true) (hcs : lo'.all (fun x => x.2.okIn ids) = true)
    (h : ∀ X : Ctx, Lent X → X.ids = ids → T Tryz.prog X N c (slots 0 args) lo (EndsM rs d lo')) : CtrO Tryz.prog f args lo d lo' := by
  refine CtrO.of_TU hf hb hN hrs (by simpa using hlen) fun X hL hi => (h X hL (hi.trans hi1)).mono fun e fr2 ow2 hq => ?_
  have key : ∀ d2, resU B fr2 ow2 rs = some d2 → Weak d2 d → leOw ow2 lo' →
      ∃ d2, resU (tb Tryz.prog) fr2 ow2 rs = some d2 ∧ Weak d2 d ∧ d.okIn (lo'.map (·.1)) = true ∧ Le X fr2 ow2 [] lo' := by
    intro d2 h1 h2 h3
    refine ⟨d2, by rw [zer]; exact h1, h2, by rw [hi2]; exact hd, trivial, h3, ?_, fun k hk => ?_⟩
    · rw [hi2]
      simp only [okAll, List.all_nil, Bool.true_and]
      exact hcs
    · rw [hi, hi1] at hk
      rw [hi2]
      exact hk
  cases e with
  | ret => obtain ⟨d2, h1, h2, h3⟩ := hq; exact ⟨.inl rfl, key d2 h1 h2 h3⟩
  | normal => obtain ⟨d2, h1, h2, h3⟩ := hq; exact ⟨.inr rfl, key d2 h1 h2 h3⟩
  | _ => exact hq.elim
end
end Go.Proofs.YtkkaamhocpmhkaaGreatDoor.Flow

namespace Go.Proofs.YtkkaamhocpmhkaaGreatDoor.Flow
open Go
theorem T.weakF {P : Program} {X : Ctx} {n : Nat} {fr : Fr} {ow : Ow} {Q : Exit → Fr → Ow → Prop} {c : Code} (t : Nat) (d : D) (hw : Weak (getD' t fr) d) (h : T P X n c ((t, d) :: fr) ow Q) : T P X n c fr ow Q := fun a w hr => h a w (by
  obtain ⟨S, r, hH, hI, hF, hd, hn, hρ⟩ := hr
  refine ⟨S, r, hH, hI, fun u => ?_, hd, hn, hρ⟩
  rw [zaE]
  show Rel _ _ _ (if u = t then _ else fF fr u) _
  by_cases e : u = t
  · subst e
    rw [if_pos rfl]
    exact (hF u).weak hw
  · rw [if_neg e]
    exact hF u)
theorem T.shutF {P : Program} {X : Ctx} {n : Nat} {fr : Fr} {ow : Ow} {Q : Exit → Fr → Ow → Prop} {c : Code} (t : Nat) (d : D) (hd : (getD' t fr).shut = d) (h : T P X n c ((t, d) :: fr) ow Q) : T P X n c fr ow Q := fun a w hr => h a w (by
  obtain ⟨S, r, hH, hI, hF, hdf, hn, hρ⟩ := hr
  refine ⟨S, r, hH, hI, fun u => ?_, hdf, hn, hρ⟩
  rw [zaE]
  show Rel _ _ _ (if u = t then _ else fF fr u) _
  by_cases e : u = t
  · subst e
    rw [if_pos rfl, ← hd]
    exact (hF u).shut
  · rw [if_neg e]
    exact hF u)
theorem ziK (x : UInt8) (n : Nat) (h : n < 256) : (x.toNat : Int) = n ↔ x = UInt8.ofNat n := by
  constructor
  · intro h1
    have h2 : x.toNat = n := by exact_mod_cast h1
    apply UInt8.toNat.inj
    simp [h2]; omega
  · intro h1
    subst h1
    simp; omega
theorem zaD (s : List UInt8) (i : Int) : 0 ≤ at' s i ∧ at' s i < 256 := by
  have := (s.getD i.toNat 0).toNat_lt
  unfold at'
  omega
theorem wi6_ (n : Int) : IntKind.i64.wrap n = (n + 9223372036854775808) % 18446744073709551616 - 9223372036854775808 := IntKind.wrap_i64 n
theorem wi3_ (n : Int) : IntKind.i32.wrap n = (n + 2147483648) % 4294967296 - 2147483648 := IntKind.wrap_i32 n
theorem zlG (n : Int) : IntKind.u8.wrap n = n % 256 := by simp [IntKind.wrap, IntKind.bits, IntKind.signed]
theorem wrap_i32 (n : Int) (h : -2147483648 ≤ n) (h2 : n < 2147483648) : IntKind.i32.wrap n = n := by
  simp [IntKind.wrap, IntKind.bits, IntKind.signed]
  omega
theorem zar (n : Int) : IntKind.u64.wrap n = n % 18446744073709551616 := by simp [IntKind.wrap, IntKind.bits, IntKind.signed]
theorem zbv (n : Int) : IntKind.u32.wrap n = n % 4294967296 := by simp [IntKind.wrap, IntKind.bits, IntKind.signed]
theorem zjn (n : Int) (h : 0 ≤ n) (h2 : n < 4294967296) : IntKind.u32.wrap n = n := by
  simp [IntKind.wrap, IntKind.bits, IntKind.signed]
  omega

abbrev dcD (neg : Bool) (s : List UInt8) (e : Int) : D := .ag [.b neg, .s s, .i .i64 e]
def digs (s : List UInt8) : Prop := ∀ i : Nat, i < s.length → 48 ≤ at' s i ∧ at' s i ≤ 57
def RightP (neg : Bool) (s : List UInt8) (e : Int) : Prop :=
  if s.length = 0 then neg = false ∧ e = 0
  else digs s ∧ s.length ≤ 100 ∧ ¬ at' s 0 = 48 ∧ ¬ at' s (s.length - 1) = 48 ∧ -1000 ≤ e ∧ e ≤ 1000
instance (s : List UInt8) : Decidable (digs s) := by
  unfold digs
  infer_instance
instance (neg : Bool) (s : List UInt8) (e : Int) : Decidable (RightP neg s e) := by
  unfold RightP
  infer_instance
def rightB (neg : Bool) (s : List UInt8) (e : Int) : Bool := decide (RightP neg s e)
theorem zaY {neg : Bool} {s : List UInt8} {e : Int} : rightB neg s e = true ↔ RightP neg s e := by unfold rightB; exact decide_eq_true_iff
theorem zcJ {neg : Bool} {s : List UInt8} {e : Int} (h : ¬ RightP neg s e) : rightB neg s e = false := by
  rw [← Bool.not_eq_true, zaY]
  exact h
theorem zaL {neg : Bool} {s : List UInt8} {e : Int} {b : Bool} (h : b = true ↔ RightP neg s e) : D.b b = .b (rightB neg s e) := by
  congr 1
  rw [Bool.eq_iff_iff, h, zaY]
theorem zca {neg : Bool} {s : List UInt8} {e : Int} (h : s.length = 0) : RightP neg s e ↔ neg = false ∧ e = 0 := by unfold RightP; rw [if_pos h]
theorem zaK {neg : Bool} {s : List UInt8} {e : Int} (h : ¬ s.length = 0) : RightP neg s e ↔ digs s ∧ s.length ≤ 100 ∧ ¬ at' s 0 = 48 ∧ ¬ at' s (s.length - 1) = 48 ∧ -1000 ≤ e ∧ e ≤ 1000 := by unfold RightP; rw [if_neg h]
theorem zdV {s : List UInt8} (h : s.length = 0) : s = [] := List.length_eq_zero_iff.1 h
set_option maxHeartbeats 1000000 in
theorem zbE (neg : Bool) (s : List UInt8) (e : Int) (hs : s.length ≤ 1099511627776) : Ctr Tryz.prog 127 [dcD neg s e] (.b (rightB neg s e)) := by
  refine zax Tryz.func127 rfl Tryz.ntmps127 Tryz.results127 rfl rfl fun X hL hX => ?_
  repeat' (first |with_reducible (first |refine zah ?_|refine zaa ?_|refine zag ?_|refine zad ?_|refine zan ?_|refine zai ?_|refine zaf ?_|refine zam ?_)|refine zab rfl rfl True.intro ?_|((first |refine zac rfl ?_ ?_)<;>intro)|((first |refine zab rfl rfl ?_ ?_|refine zav rfl rfl ?_ ?_);focus (first |exact le_ rfl|((repeat' refine And.intro ?_ ?_)<;>omega)|((repeat' refine And.intro ?_ ?_)<;>first |rfl)))|refine zaq rfl ?_|fail)
  · rename_i h0
    refine zaL ?_
    rw [zca (by omega), zdV (show s.length = 0 by omega)]
    simp
  rename_i h0
  have h0 : ¬ s.length = 0 := by omega
  refine T.loop hL (fun i : Nat => [(1, .pv 1 0), (3, .i .i64 s.length), (13, .i .i64 s.length), (14, .i .i64 i)]) (fun _ => [(1, .var [.b neg, .s s, .i .i64 e])]) (fun i => i ≤ s.length ∧ ∀ j : Nat, j < i → 48 ≤ at' s j ∧ at' s j ≤ 57) (fun i => s.length - i) 0
    ⟨Nat.zero_le _, fun j hj => absurd hj (Nat.not_lt_zero _)⟩ ⟨⟨rfl, rfl, rfl, rfl, trivial⟩, ⟨rfl, trivial⟩, rfl, by rw [hX]; intro k hk; cases hk⟩ ?_
  rintro i ⟨g1, g2⟩
  repeat' (first |with_reducible (first |refine zah ?_|refine zaa ?_|refine zag ?_|refine zad ?_|refine zan ?_|refine zai ?_|refine zat ?_|refine zaf ?_|refine zao ?_|refine zas ?_|refine zam ?_|refine zaz ?_)|refine zab rfl rfl True.intro ?_|refine zap rfl rfl rfl ?_|refine zaj rfl rfl rfl rfl True.intro ?_|refine zau rfl ?_|((first |refine zac rfl ?_ ?_|refine zak rfl rfl ?_ ?_|refine zbX rfl rfl ?_ ?_)<;>intro)|((first |refine zab rfl rfl ?_ ?_|refine zaj rfl rfl rfl rfl ?_ ?_);focus (first |omega|exact le_ rfl|((repeat' refine And.intro ?_ ?_)<;>omega)))|refine zaB rfl ?_|refine zaq rfl ?_|fail)
  · exact zaL (iff_of_false (by simp) (by rw [zaK h0]; rintro ⟨h1, _⟩; have := h1 i (by omega); omega))
  · exact zaL (iff_of_false (by simp) (by rw [zaK h0]; rintro ⟨h1, _⟩; have := h1 i (by omega); omega))
  · refine ⟨i + 1, ⟨by omega, fun j hj => ?_⟩, by omega, ⟨rfl, rfl, rfl, rfl, trivial⟩, ⟨rfl, trivial⟩, rfl, by rw [hX]; intro k hk; cases hk⟩
    by_cases hji : j = i
    · subst hji
      exact ⟨by omega, by omega⟩
    · exact g2 j (by omega)
  · refine zaL ?_
    rw [zaK h0, decide_eq_true_iff]
    exact ⟨fun h => ⟨fun j hj => g2 j (by omega), by omega, ‹_›, ‹_›, ‹_›, h⟩, fun h => h.2.2.2.2.2⟩
  · exact zaL (iff_of_false (by simp) (by rw [zaK h0]; rintro ⟨_, _, _, _, h5, _⟩; exact absurd h5 ‹_›))
  · exact zaL (iff_of_false (by simp) (by rw [zaK h0]; rintro ⟨_, _, _, h4, _⟩; exact absurd ‹_› h4))
  · exact zaL (iff_of_false (by simp) (by rw [zaK h0]; rintro ⟨_, _, h3, _⟩; exact absurd ‹_› h3))
  · exact zaL (iff_of_false (by simp) (by rw [zaK h0]; rintro ⟨_, h2, _⟩; omega))
theorem zhJ (c : Int) : Ctr Tryz.prog 188 [.i .u8 c] (.b (decide (48 ≤ c ∧ c ≤ 57))) := by
  refine zax Tryz.func188 rfl Tryz.ntmps188 Tryz.results188 rfl rfl fun X hL hX => ?_
  repeat' (first |with_reducible (first |refine zah ?_|refine zaa ?_|refine zag ?_|refine zad ?_|refine zan ?_)|refine zab rfl rfl True.intro ?_|refine zap rfl rfl rfl ?_|refine zaj rfl rfl rfl rfl True.intro ?_|((first |refine zak rfl rfl ?_ ?_)<;>intro)|refine zaq rfl ?_|fail)
  · congr 1
    simp [*]
  · congr 1
    simp [*]
set_option maxHeartbeats 1000000 in
theorem zbB (neg : Bool) (s : List UInt8) (e : Int) (hs : s.length ≤ 1099511627776) : Ctr Tryz.prog 135 [dcD neg s e] (.b (rightB neg s e)) := by
  refine zax Tryz.func135 rfl Tryz.ntmps135 Tryz.results135 rfl rfl fun X hL hX => ?_
  repeat' (first |with_reducible (first |refine zah ?_|refine zaa ?_|refine zag ?_|refine zad ?_|refine zan ?_|refine zai ?_|refine zaf ?_|refine zam ?_)|refine zab rfl rfl True.intro ?_|refine zap rfl rfl rfl ?_|refine zaj rfl rfl rfl rfl True.intro ?_|refine zau rfl ?_|((first |refine zac rfl ?_ ?_|refine zak rfl rfl ?_ ?_|refine zaT rfl rfl ?_ ?_)<;>intro)|((first |refine zab rfl rfl ?_ ?_|refine zaj rfl rfl rfl rfl ?_ ?_|refine zav rfl rfl ?_ ?_);focus (first |omega|exact le_ rfl|((repeat' refine And.intro ?_ ?_)<;>omega)|((repeat' refine And.intro ?_ ?_)<;>first |rfl)))|refine zaq rfl ?_|fail)
  · refine zaL ?_
    rw [zca (by omega)]
    simp [*]
  · refine zaL ?_
    rw [zca (by omega)]
    simp [*]
  · exact zaL (iff_of_false (by simp) (by rw [zaK (by omega)]; rintro ⟨_, h2, _⟩; omega))
  · exact zaL (iff_of_false (by simp) (by rw [zaK (by omega)]; rintro ⟨_, _, h3, _⟩; exact absurd ‹_› h3))
  · exact zaL (iff_of_false (by simp) (by rw [zaK (by omega)]; rintro ⟨_, _, _, h4, _⟩; exact absurd ‹_› h4))
  · exact zaL (iff_of_false (by simp) (by rw [zaK (by omega)]; rintro ⟨_, _, _, _, h5, _⟩; omega))
  · exact zaL (iff_of_false (by simp) (by rw [zaK (by omega)]; rintro ⟨_, _, _, _, _, h6⟩; omega))
  rename_i k0 k1 k2 k3 k4 k5
  have h0 : ¬ s.length = 0 := by omega
  refine T.loop hL (fun i : Nat => [(1, .pv 1 0), (3, .i .i64 s.length), (4, .i .i64 i)]) (fun _ => [(1, .var [.b neg, .s s, .i .i64 e])]) (fun i => i ≤ s.length ∧ ∀ j : Nat, j < i → 48 ≤ at' s j ∧ at' s j ≤ 57) (fun i => s.length - i) 0
    ⟨Nat.zero_le _, fun j hj => absurd hj (Nat.not_lt_zero _)⟩ ⟨⟨rfl, rfl, rfl, trivial⟩, ⟨rfl, trivial⟩, rfl, by rw [hX]; intro k hk; cases hk⟩ ?_
  rintro i ⟨g1, g2⟩
  repeat' (first |with_reducible (first |refine zah ?_|refine zaa ?_|refine zag ?_|refine zad ?_|refine zan ?_|refine zai ?_|refine zat ?_|refine zaf ?_|refine zao ?_|refine zas ?_|refine zam ?_|refine zaz ?_)|refine zab rfl rfl True.intro ?_|((first |refine zac rfl ?_ ?_|refine zaS rfl ?_ ?_)<;>intro)|((first |refine zab rfl rfl ?_ ?_);focus (first |omega|exact le_ rfl|((repeat' refine And.intro ?_ ?_)<;>omega)))|refine zaB rfl ?_|refine zaq rfl ?_|refine zae (f := 188) rfl rfl Tryz.call188 rfl (zhJ (at' s i)) ?_|fail)
  · rename_i h1 h2
    exact zaL (iff_of_false (by simp) (by rw [zaK h0]; rintro ⟨h1, _⟩; have := h1 i (by omega); simp at h2; omega))
  · rename_i h1 h2
    have h2 : 48 ≤ at' s i ∧ at' s i ≤ 57 := by simpa using h2
    refine ⟨i + 1, ⟨by omega, fun j hj => ?_⟩, by omega, ⟨rfl, rfl, rfl, trivial⟩, ⟨rfl, trivial⟩, rfl, by rw [hX]; intro k hk; cases hk⟩
    by_cases hji : j = i
    · subst hji
      exact h2
    · exact g2 j (by omega)
  · refine zaL (iff_of_true rfl ?_)
    rw [zaK h0]
    exact ⟨fun j hj => g2 j (by omega), by omega, k2, k3, by omega, by omega⟩
theorem zbk (l : List UInt8) : l = [] ∨ ∃ r w, l = r ++ [w] := by
  rcases List.eq_nil_or_concat l with h | ⟨r, w, h⟩
  · exact .inl h
  · exact .inr ⟨r, w, by simpa using h⟩
theorem zcA (s : List UInt8) (i : Nat) (h : i < s.length) : s.take (i + 1) = s.take i ++ [s.getD i 0] := by
  rw [List.take_add_one, List.getD_eq_getElem?_getD, List.getElem?_eq_getElem h]
  rfl
theorem RightP.bounds {neg : Bool} {s : List UInt8} {e : Int} (h : RightP neg s e) : s.length ≤ 100 ∧ -1000 ≤ e ∧ e ≤ 1000 ∧ digs s := by
  unfold RightP at h
  split at h
  · rename_i h0
    exact ⟨by omega, by omega, by omega, fun i hi => by omega⟩
  · exact ⟨h.2.1, h.2.2.2.2.1, h.2.2.2.2.2, h.1⟩
end Go.Proofs.YtkkaamhocpmhkaaGreatDoor.Flow

namespace Go.Proofs.YtkkaamhocpmhkaaGreatDoor.Flow
open Go.ChangeShapes Go.WideShapes Go.ChangeAt Go.RowKit
theorem zgU : ownKnob Tryz.prog.godebug = none := by kernel_rfl
theorem zmj : laidOutB Tryz.prog = true := by kernel_rfl
variable {H : Type} {enc : TypeId × Value → H}
def allOf (W : World) : Cells := fun b _ => b < W.heap.size
theorem zch {W W' : World} {S' : Cells} (h : Hist { w0 := W, S0 := allOf W, L := fun _ => False } W' S') : Below W.heap.size W W' :=
  ⟨h.os, h.tape, h.output, h.size, fun k hk => h.block k hk (fun h => h)⟩
theorem zdA {W W' : World} (hb : Below W.heap.size W W') {sp : Nat → Bool} : ∀ {ts : List TypeId} {vs : List Value} {ds : List (DataW H)} {ps : List MemPlace}, (∀ t ∈ ts, Tryz.prog.readableRec t = true ∧ t < Tryz.prog.types.size) → (∀ x ∈ ps, x.block < W.heap.size) →
    DataW.TrodAll enc Tryz.prog W 0 (fun _ => true) true ts vs ds ps → (∀ p ∈ ps, sp p.block = true) → DataW.TrodAll enc Tryz.prog W' 0 sp true ts vs ds ps
  | [], [], [], _, _, _, h, _ => h
  | [], [], _ :: _, _, _, _, h, _ => h.elim
  | [], _ :: _, _, _, _, _, h, _ => h.elim
  | _ :: _, [], _, _, _, _, h, _ => h.elim
  | _ :: _, _ :: _, [], _, _, _, h, _ => h.elim
  | t :: ts, v :: vs, d :: ds, ps, ht, hlt, h, hsp => by
    obtain ⟨p, q, h1, h2, rfl⟩ := h
    refine ⟨p, q, ?_, zdA hb (fun t ht' => ht t (by simp [ht'])) (fun x hx => hlt x (by simp [hx])) h2 (fun x hx => hsp x (by simp [hx])), rfl⟩
    exact WideElems.Trod_stays zmj (ht t (by simp)).1 (ht t (by simp)).2 h1 (fun x hx => hb.same (hlt x (by simp [hx]))) (fun x hx => hsp x (by simp [hx]))
theorem zgm {f : Func} {s : ChangeSpec} {apart fresh handsOn : Bool} {W W' : World} {args : Array Value} {ds gs : List (DataW H)} {before : List MemPlace} {t : TypeId}
    (hW : DataW.Whole enc Tryz.prog f.params.toList s.vars apart W args.toList ds gs before) (hvars : s.vars = []) (hpar : ∀ t ∈ f.params.toList, Tryz.prog.readableRec t = true ∧ t < Tryz.prog.types.size)
    (hres : f.resultTypes = #[t]) (ht : Tryz.prog.underlying t = some .bool) (hspec : s.fn H (ds ++ gs) = { results := [.lit (.bool true)], args := ds }) (hb : Below W.heap.size W W') :
    s.post enc Tryz.prog f apart fresh handsOn false W args (.bool true) W' := by
  have hW' := hW
  obtain ⟨p, q, hA, hV, rfl, hfz, hnd⟩ := hW
  rw [hvars] at hV
  have hq : gs = [] ∧ q = [] := by
    cases gs with
    | nil => exact ⟨rfl, hV⟩
    | cons => exact hV.elim
  obtain ⟨rfl, rfl⟩ := hq
  have hlt : ∀ x ∈ p, x.block < W.heap.size := fun x hx => by simpa using hW'.lt x (by simpa using hx)
  refine ⟨ds, [], p ++ [], [], p, [], hW', ?_, ?_, ?_, hb.frame _, fun h => nomatch h⟩
  · rw [hspec, hres]
    exact trodAll_mk1 (shut_bool ht true)
  · rw [hspec]
    exact zdA hb hpar hlt hA (fun x hx => by simpa using hlt x hx)
  · rw [hspec, hvars]
    rfl

set_option maxRecDepth 100000
variable {H : Type} {enc : TypeId × Value → H} {W : World}
def strOf : DataW H → List UInt8
  | .lit (.string l) => l
  | _ => []
def intOf : DataW H → Int
  | .lit (.int _ n) => n
  | _ => 0
def boolOf : DataW H → Bool
  | .lit (.bool b) => b
  | _ => false
def kids : DataW H → List (DataW H)
  | .slice es _ => es
  | .agg ps => ps
  | _ => []
def Tells (enc : TypeId × Value → H) (W : World) (t z : Nat) (G : DataW H → List D) : Prop :=
  ∀ fuel cs x, DataW.trod enc Tryz.prog W 0 (fun _ => true) true fuel t cs = some x → cs.length = z ∧ (G x.1).length = z ∧ (G x.1).all D.plain = true ∧ ∀ j, j < z → Rel (allOf W) W noRho ((G x.1).getD j .any) (cs.getD j undef)
theorem zce {t : TypeId} (ht : Tryz.prog.underlying t = some .string) : Tells enc W t 1 (fun d => [.s (strOf d)]) := fun fuel cs x h => by
  obtain ⟨s, rfl, rfl, _⟩ := DataW.trod_string ht h
  refine ⟨rfl, rfl, rfl, fun j hj => ?_⟩
  obtain rfl : j = 0 := by omega
  exact .s _ s.data.toList
theorem znc {t : TypeId} {k : IntKind} (ht : Tryz.prog.underlying t = some (.int k)) : Tells enc W t 1 (fun d => [.i k (intOf d)]) := fun fuel cs x h => by
  obtain ⟨n, rfl, rfl, _⟩ := DataW.trod_int ht h
  refine ⟨rfl, rfl, rfl, fun j hj => ?_⟩
  obtain rfl : j = 0 := by omega
  exact .i _ k n
theorem zfX {t : TypeId} (ht : Tryz.prog.underlying t = some .bool) : Tells enc W t 1 (fun d => [.b (boolOf d)]) := fun fuel cs x h => by
  obtain ⟨b, rfl, rfl⟩ := DataW.trod_bool ht h
  refine ⟨rfl, rfl, rfl, fun j hj => ?_⟩
  obtain rfl : j = 0 := by omega
  exact .b _ b
theorem zeQ {t e z : Nat} {G : DataW H → List D} (ht : Tryz.prog.underlying t = some (.slice e)) (hc : Tryz.prog.cellsOf e = z) (hz : 0 < z) (hG : Tells enc W e z G) :
    Tells enc W t 1 (fun d => [.sl z (kids d).length (fun i => G ((kids d).getD i .nil))]) := fun fuel cs x h => by
  rcases DataW.trod_slice ht h with ⟨rfl, rfl⟩ | ⟨a, len, cap, elems, rest, n, rfl, rfl, rfl, hb, hl, hm, hlen, hel, _, _⟩
  · refine ⟨rfl, rfl, rfl, fun j hj => ?_⟩
    obtain rfl : j = 0 := by omega
    exact .sl _ z 0 _ none 0 (fun _ _ => undef) (Nat.le_refl _) (by unfold maxLen; omega) (fun i hi => by omega) (fun i j hi => by omega) (fun i j hi => by omega)
  · refine ⟨rfl, rfl, rfl, fun j hj => ?_⟩
    obtain rfl : j = 0 := by omega
    have each : ∀ i, i < len → ∃ cs' y, elems[i]? = some y ∧ W.cells? 0 (a.add (i * z)) z = some cs' ∧ DataW.trod enc Tryz.prog W 0 (fun _ => true) true n e cs' = some y := fun i hi => by
      have h1 := hel i hi
      have hi' : i < elems.length := by omega
      rw [hc, List.getElem?_eq_getElem hi'] at h1
      cases hcs : W.cells? 0 (a.add (i * z)) z with
      | none => rw [hcs] at h1; cases h1
      | some cs' =>
        rw [hcs] at h1
        exact ⟨cs', elems[i], List.getElem?_eq_getElem hi', rfl, h1⟩
    have hlen' : (elems.map (·.1)).length = len := by simp [hlen]
    have hk : ∀ i y, elems[i]? = some y → (elems.map (·.1)).getD i .nil = y.1 := fun i y hy => by
      simp [List.getD_eq_getElem?_getD, hy]
    have hspot : 0 < len → a.spot = none := fun h0 => by
      obtain ⟨cs', y, _, h2, h3⟩ := each 0 h0
      obtain ⟨_, hn, h4⟩ := World.cells?_some h2
      have h5 := h4 0 hz
      have hlt : 0 < cs'.length := by omega
      rw [List.getElem?_eq_getElem hlt] at h5
      cases hsp : a.spot with
      | none => rfl
      | some k =>
        exfalso
        simp only [Nat.zero_mul, Addr.add, if_true, World.cell?, hsp, Option.isSome_some] at h5
        split at h5 <;> simp at h5
    have hcl : ∀ i j, i < len → j < z → ∃ cs' y v, elems[i]? = some y ∧ DataW.trod enc Tryz.prog W 0 (fun _ => true) true n e cs' = some y ∧ cs'[j]? = some v ∧ W.cell? ⟨a.block, a.off + i * z + j, none⟩ = some v := fun i j hi hj => by
      obtain ⟨cs', y, h1, h2, h3⟩ := each i hi
      obtain ⟨_, hn, h4⟩ := World.cells?_some h2
      have h5 := h4 j hj
      have hlt : j < cs'.length := by omega
      rw [List.getElem?_eq_getElem hlt] at h5
      refine ⟨cs', y, cs'[j], h1, h3, List.getElem?_eq_getElem hlt, ?_⟩
      rw [← h5]
      have hsp := hspot (by omega)
      congr 1
      obtain ⟨ab, ao, asp⟩ := a
      simp only at hsp
      subst hsp
      simp only [Addr.add]
      split <;> split <;> simp_all <;> omega
    have hcell := fun i j hi hj => hcl i j hi hj
    show Rel (allOf W) W noRho (.sl z (elems.map (·.1)).length (fun i => G ((elems.map (·.1)).getD i .nil))) (.slice (some a) len cap)
    rw [hlen']
    refine .sl _ z len _ (some a) cap (fun i j => (W.cell? ⟨a.block, a.off + i * z + j, none⟩).getD undef) (by omega) hm (fun i hi => ?_) (fun i j hi hj => ?_) (fun i j hi hj => ?_)
    · obtain ⟨cs', y, h1, _, h3⟩ := each i hi
      rw [hk i y h1]
      have := hG _ _ _ h3
      exact ⟨this.2.1, this.2.2.1⟩
    · obtain ⟨cs', y, v, _, _, _, h4⟩ := hcl i j hi hj
      refine ⟨a.block, a.off, ?_, ?_, by rw [h4]; rfl⟩
      · have hsp := hspot (by omega)
        obtain ⟨ab, ao, asp⟩ := a
        simp only at hsp
        subst hsp
        rfl
      · show a.block < W.heap.size
        unfold World.cell? at h4
        split at h4
        · rename_i hh
          exact (Array.getElem?_eq_some_iff.1 hh).1
        · cases h4
    · obtain ⟨cs', y, v, h1, h2, h3, h4⟩ := hcl i j hi hj
      rw [hk i y h1, h4]
      have := (hG _ _ _ h2).2.2.2 j hj
      rw [List.getD_eq_getElem?_getD (l := cs'), h3] at this
      exact this
inductive TellsF (enc : TypeId × Value → H) (W : World) : List Field → Nat → List (DataW H → List D) → Nat → Prop
  | nil (off : Nat) : TellsF enc W [] off [] off
  | cons (f : Field) (fs : List Field) (off z N : Nat) (G : DataW H → List D) (Gs : List (DataW H → List D)) (ho : f.offset = off) (hc : Tryz.prog.cellsOf f.type = z) (hG : Tells enc W f.type z G) (h : TellsF enc W fs (off + z) Gs N) : TellsF enc W (f :: fs) off (G :: Gs) N
def catG : List (DataW H → List D) → List (DataW H) → List D
  | [], _ => []
  | g :: r, l => g (l.getD 0 .nil) ++ catG r (l.drop 1)
theorem zfM {n : Nat} {cs : List Value} : ∀ {fs : List Field} {off N : Nat} {Gs : List (DataW H → List D)} {xs : List (DataW H × List MemPlace)}, TellsF enc W fs off Gs N → cs.length = N → xs.length = fs.length →
    (∀ (i : Nat) (f : Field), fs[i]? = some f → DataW.trod enc Tryz.prog W 0 (fun _ => true) true n f.type ((cs.drop f.offset).take (Tryz.prog.cellsOf f.type)) = xs[i]?) →
    (catG Gs (xs.map (·.1))).length + off = N ∧ (catG Gs (xs.map (·.1))).all D.plain = true ∧ ∀ j, off + j < N → Rel (allOf W) W noRho ((catG Gs (xs.map (·.1))).getD j .any) (cs.getD (off + j) undef)
  | [], off, N, Gs, xs, h, hN, hn, hx => by
    cases h
    exact ⟨by simp [catG], rfl, fun j hj => by omega⟩
  | f :: fs, off, N, Gs, xs, h, hN, hn, hx => by
    cases h with
    | cons _ _ _ z _ G Gs ho hc hG h =>
      match xs, hn with
      | x :: xs, hn =>
        have h0 := hx 0 f rfl
        rw [ho, hc] at h0
        obtain ⟨k1, k2, k3, k4⟩ := hG _ _ _ h0
        obtain ⟨i1, i2, i3⟩ := zfM (xs := xs) h hN (by simpa using hn) (fun i g hg => hx (i + 1) g hg)
        simp only [List.map_cons, catG, List.getD_cons_zero, List.drop_succ_cons, List.drop_zero]
        refine ⟨by rw [List.length_append]; omega, by rw [List.all_append, k3, i2]; rfl, fun j hj => ?_⟩
        by_cases hjz : j < z
        · have e1 : (G x.1 ++ catG Gs (xs.map (·.1))).getD j .any = (G x.1).getD j .any := by
            simp [List.getD_eq_getElem?_getD, List.getElem?_append_left (show j < (G x.1).length by omega)]
          rw [e1]
          have := k4 j hjz
          have e2 : ((cs.drop off).take z).getD j undef = cs.getD (off + j) undef := by
            simp [List.getD_eq_getElem?_getD, hjz]
          rwa [e2] at this
        · have e1 : (G x.1 ++ catG Gs (xs.map (·.1))).getD j .any = (catG Gs (xs.map (·.1))).getD (j - z) .any := by
            simp only [List.getD_eq_getElem?_getD]
            rw [List.getElem?_append_right (by omega), k2]
          rw [e1]
          have := i3 (j - z) (by omega)
          rwa [show off + z + (j - z) = off + j by omega] at this
theorem zcs {t z : Nat} {fs : Array Field} {l : List Field} {Gs : List (DataW H → List D)} (ht : Tryz.prog.underlying t = some (.struct fs)) (hl : fs.toList = l) (hc : Tryz.prog.cellsOf t = z) (h : TellsF enc W l 0 Gs z) :
    Tells enc W t z (fun d => catG Gs (kids d)) := fun fuel cs x hx => by
  obtain ⟨xs, n, rfl, rfl, hlen, hn, hf⟩ := DataW.trod_struct ht hx
  rw [hc] at hlen
  have := zfM (n := n) (xs := xs) h hlen (by rw [hn, ← hl]; simp) (fun i f hi => hf i f (by rw [← hl] at hi; simpa using hi))
  refine ⟨hlen, by simpa [kids] using this.1, this.2.1, fun j hj => by simpa [kids] using this.2.2 j (by omega)⟩
theorem ziC {base : Nat} {t : TypeId} {v : Value} {d : DataW H} {ps : List MemPlace} (ht : Tryz.prog.underlying t = some .string) (hv : Value.okWide Tryz.prog W .any base t v) (h : DataW.Trod enc Tryz.prog W 0 (fun _ => true) true t v d ps) : Rel (allOf W) W noRho (.s (strOf d)) v := by
  obtain ⟨s, rfl⟩ := okWide_string ht hv
  obtain ⟨fuel, hf⟩ := h
  have := (zce ht _ _ _ hf).2.2.2 0 (by omega)
  exact this
theorem zmg {base : Nat} {t e z : Nat} {v : Value} {d : DataW H} {ps : List MemPlace} {G : DataW H → List D} (ht : Tryz.prog.underlying t = some (.slice e)) (hc : Tryz.prog.cellsOf e = z) (hz : 0 < z) (hG : Tells enc W e z G)
    (hv : Value.okWide Tryz.prog W .any base t v) (h : DataW.Trod enc Tryz.prog W 0 (fun _ => true) true t v d ps) : Rel (allOf W) W noRho (.sl z (kids d).length (fun i => G ((kids d).getD i .nil))) v := by
  obtain ⟨a, len, cap, rfl⟩ := okWide_slice ht hv
  obtain ⟨fuel, hf⟩ := h
  have := (zeQ ht hc hz hG _ _ _ hf).2.2.2 0 (by omega)
  exact this
theorem zlc {base : Nat} {t z : Nat} {fs : Array Field} {v : Value} {d : DataW H} {ps : List MemPlace} {G : DataW H → List D} (ht : Tryz.prog.underlying t = some (.struct fs)) (hG : Tells enc W t z G)
    (hv : Value.okWide Tryz.prog W .any base t v) (h : DataW.Trod enc Tryz.prog W 0 (fun _ => true) true t v d ps) : Rel (allOf W) W noRho (.ag (G d)) v := by
  obtain ⟨cs, rfl, hs⟩ := okWide_struct ht hv
  obtain ⟨fuel, hf⟩ := h
  obtain ⟨h1, h2, h3, h4⟩ := hG _ _ _ hf
  replace h2 : (G d).length = z := h2
  have h1' : cs.size = z := by simpa [Value.cells] using h1
  refine .ag _ _ cs (by omega) (fun j hj => ?_)
  have := h4 j (by omega)
  simpa [Value.cells, Array.getD_eq_getD_getElem?, List.getD_eq_getElem?_getD] using this
theorem zgJ (d : DataW H) : 1 ≤ Rows.uptoBulk d := by
  cases d with
  | lit l => cases l <;> simp [Rows.uptoBulk]
  | _ => simp [Rows.uptoBulk]
theorem zgy {d : DataW H} : ∀ {l : List (DataW H)}, d ∈ l → Rows.uptoBulk d ≤ Rows.uptoBulkAll l
  | x :: r, h => by
    simp only [Rows.uptoBulkAll]
    rcases List.mem_cons.1 h with rfl | h
    · omega
    · have := zgy h
      omega
theorem zgZ : ∀ (l : List (DataW H)), l.length ≤ Rows.uptoBulkAll l
  | [] => by simp
  | x :: r => by
    have := zgJ x
    have := zgZ r
    simp only [Rows.uptoBulkAll, List.length_cons]
    omega
theorem zdC (d : DataW H) : Rows.uptoBulkAll (kids d) ≤ Rows.uptoBulk d := by
  cases d <;> simp [kids, Rows.uptoBulk, Rows.uptoBulkAll] <;> omega
theorem zcM (d : DataW H) : (strOf d).length ≤ Rows.uptoBulk d := by
  cases d with
  | lit l => cases l <;> simp [strOf, Rows.uptoBulk]
  | _ => simp [strOf]
theorem zdn {α β : Type} (f : α → β) (l : List α) (a : α) (i : Nat) : (l.map f).getD i (f a) = f (l.getD i a) := by
  simp only [List.getD_eq_getElem?_getD, List.getElem?_map]
  cases l[i]? <;> rfl
end Go.Proofs.YtkkaamhocpmhkaaGreatDoor.Flow

namespace Go.Proofs.YtkkaamhocpmhkaaGreatDoor.Flow
open Go
section
variable {H : Type} {enc : TypeId × Value → H} {W : World}
def wordOf (d : DataW H) : Nat := (intOf d).toNat % 18446744073709551616
theorem zmz (d : DataW H) : wordOf d < 18446744073709551616 := Nat.mod_lt _ (by decide)
theorem zkK {t : TypeId} (ht : Tryz.prog.underlying t = some (.int .u64)) : Tells enc W t 1 (fun d => [.i .u64 (wordOf d : Nat)]) := fun fuel cs x h => by
  obtain ⟨n, rfl, rfl, hw⟩ := DataW.trod_int ht h
  refine ⟨rfl, rfl, rfl, fun j hj => ?_⟩
  obtain rfl : j = 0 := by omega
  have e1 : IntKind.u64.min ≤ n ∧ n ≤ IntKind.u64.max := by simpa [Lit.wf] using hw
  have e2 : IntKind.u64.min = 0 := by decide
  have e3 : IntKind.u64.max = 18446744073709551616 - 1 := by decide
  have e : ((wordOf (H := H) (.lit (.int .u64 n)) : Nat) : Int) = n := by
    show (((n.toNat % 18446744073709551616 : Nat)) : Int) = n
    omega
  dsimp only
  rw [e]
  exact .i _ .u64 n
set_option maxRecDepth 100000 in
theorem ziZ : Tells enc W 45 3 (fun d : DataW H => catG [fun d => [.i .i64 (intOf d)], fun d => [.s (strOf d)], fun d => [.i .u64 (wordOf d : Nat)]] (kids d)) :=
  zcs Tryz.underlying45 rfl (by kernel_rfl) (.cons _ _ 0 1 3 _ _ rfl (by kernel_rfl) (znc Tryz.underlying3) (.cons _ _ 1 1 3 _ _ rfl (by kernel_rfl) (zce Tryz.underlying9) (.cons _ _ 2 1 3 _ _ rfl (by kernel_rfl) (zkK Tryz.underlying43) (.nil 3))))
end
end Go.Proofs.YtkkaamhocpmhkaaGreatDoor.Flow
