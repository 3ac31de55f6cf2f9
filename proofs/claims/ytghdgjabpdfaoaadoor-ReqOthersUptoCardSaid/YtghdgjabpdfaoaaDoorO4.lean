/- The texts FlowP, FlowS, FlowW, FlowX, FlowZb, U0, Shelf, W0, one behind the other. -/
import Derived.Test.YtghdgjabpdfaoaaDoorO3
import Derived.Lib.OthersKept
import Derived.Lib.FrozenHead
import Derived.Laws.BitsLemmas
import Derived.Shelf.Strings.Trim
import Derived.Shelf.Small.Strs
import Derived.Shelf.Small.Wraps
import Derived.Shelf.Strconv.Itoa0
import Derived.Shelf.Strconv.Itoa1
import Derived.Shelf.LaysM
import Derived.Shelf.Strconv.Itoa2
import Derived.Shelf.Strconv.Itoa3
import Derived.Shelf.Strings.Cut
import Derived.Shelf.Strings.Prefix
import Derived.Shelf.Strings.Split
import Derived.Shelf.Strings.IndexAnyAll
import Derived.Test.YtghdgjabpdfaoaaDoorProg
import Derived.Shelf.Strings.SlTrimAscii
import Derived.Lib.SplitLaws
/-
  FLOW, PART P: A CALL TO WHICH SEVERAL OBJECTS ARE LENT (a variable, and a row that its cells hold), UNDER THE CALLER's OWN NUMBERS.
-/
namespace Go.Proofs.YtghdgjabpdfaoaaDoor.Flow

/-- An argument as the callee sees it: a row that isn't lent is a slice that is read only. -/
def lendA (ids : List Nat) : D → D
  | .gs k e n f => match memB k ids with
    | true => .gs k e n f
    | false => .sl e n f
  | d => d

def hasAll (own : Nat → Option Own) : Ow → Prop
  | [] => True
  | (k, o) :: r => own k = some o ∧ hasAll own r

theorem hasAll_get {own : Nat → Option Own} : ∀ {lo : Ow}, hasAll own lo → ∀ k o, look k lo = some o → own k = some o
  | [], _, k, o, h => by simp [look] at h
  | (u, e) :: r, h, k, o, hk => by
    simp only [look] at hk
    cases hb : Nat.beq u k with
    | true =>
      have := Nat.eq_of_beq_eq_true hb
      subst this
      rw [hb] at hk
      cases hk
      exact h.1
    | false =>
      rw [hb] at hk
      exact hasAll_get h.2 k o hk

theorem mem_of_look {α : Type} {k : Nat} {o : α} : ∀ {l : List (Nat × α)}, look k l = some o → (k, o) ∈ l
  | [], h => by simp [look] at h
  | (u, e) :: r, h => by
    simp only [look] at h
    cases hb : Nat.beq u k with
    | true =>
      have := Nat.eq_of_beq_eq_true hb
      subst this
      rw [hb] at h
      cases h
      simp
    | false =>
      rw [hb] at h
      exact List.mem_cons_of_mem _ (mem_of_look h)

theorem updO_look {O : Nat → Option Own} : ∀ {l : Ow}, (l.map (·.1)).Nodup → ∀ k, updO O l k = match look k l with
    | some o => some o
    | none => O k
  | [], _, k => rfl
  | (u, e) :: r, hn, k => by
    simp only [List.map_cons, List.nodup_cons] at hn
    simp only [updO, look]
    rw [updO_look hn.2 k]
    cases hb : Nat.beq u k with
    | true =>
      have := Nat.eq_of_beq_eq_true hb
      subst this
      rw [look_none hn.1]
      simp
    | false =>
      have hne : k ≠ u := fun e => by subst e; rw [Nat.beq_refl] at hb; cases hb
      cases look k r with
      | some o => rfl
      | none => simp [hne]

/-- An object whose block nobody has written to. -/
theorem ObjOk.keepL {S S' : Cells} {w w' : World} {r r' : Rho} {k : Nat} {o : Own} (h : ObjOk S w r k o) (hS : ∀ b o, S b o → S' b o) (hc : ∀ b o, S b o → w'.cell? ⟨b, o, none⟩ = w.cell? ⟨b, o, none⟩) (hr : RhoLe r r') (hk : r' k = r k)
    (hg : ∀ l b, r k = some l → l.block = some b → w'.heap[b]? = w.heap[b]?) (hn : ∀ b o, S' b o → S b o ∨ ∀ l, r k = some l → l.block ≠ some b) : ObjOk S' w' r' k o := by
  have hmono : ∀ d v, Rel S w r d v → Rel S' w' r' d v := fun d v hd => hd.mono hS hc r' hr
  cases o with
  | var cs =>
    obtain ⟨b, cur, e, h1, h2, h3, h4, h5⟩ := h
    have hb : (Loc.blk b).block = some b := rfl
    refine ⟨b, cur, e, hk.trans h1, ?_, h3, fun j hj => ⟨hmono _ _ (h4 j hj).1, (h4 j hj).2⟩, fun o ho => ?_⟩
    · rw [hg _ _ h1 hb]; exact h2
    · rcases hn b o ho with h6 | h6
      · exact h5 o h6
      · exact h6 _ h1 hb
  | row e esz len =>
    obtain ⟨tv, h1, h2⟩ := h
    refine ⟨tv, hk.trans h1, ?_⟩
    rcases h2 with h2 | ⟨g', cap, cur, rfl, h3, h4, h5, h6, h7⟩
    · exact .inl h2
    · have hb : (Loc.row (.slice (some ⟨g', 0, none⟩) len cap) len).block = some g' := rfl
      refine .inr ⟨g', cap, cur, rfl, ?_, h4, h5, h6, fun o ho hs => ?_⟩
      · rw [hg _ _ h1 hb]; exact h3
      · rcases hn g' o hs with h8 | h8
        · exact h7 o ho h8
        · exact h8 _ h1 hb
  | arr e esz len f =>
    obtain ⟨tv, h1, h2⟩ := h
    refine ⟨tv, hk.trans h1, ?_⟩
    rcases h2 with h2 | ⟨g', cap, cur, rfl, h3, h4, h5, h6, h7, h8, h9⟩
    · exact .inl h2
    · have hb : (Loc.row (.slice (some ⟨g', 0, none⟩) len cap) len).block = some g' := rfl
      refine .inr ⟨g', cap, cur, rfl, ?_, h4, h5, h6, h7, fun i j hi hj => (h8 i j hi hj).mono hS hc noRho (RhoLe.refl _), fun o hs => ?_⟩
      · rw [hg _ _ h1 hb]; exact h3
      · rcases hn g' o hs with h10 | h10
        · exact h9 o h10
        · exact h10 _ h1 hb
  | ob x =>
    obtain ⟨b, h1, h2, h5⟩ := h
    have hb : (Loc.blk b).block = some b := rfl
    refine ⟨b, hk.trans h1, ?_, fun o ho => ?_⟩
    · rw [hg _ _ h1 hb]; exact h2
    · rcases hn b o ho with h6 | h6
      · exact h5 o h6
      · exact h6 _ h1 hb
  | bld T d =>
    obtain ⟨b, cur, e, h1, h2, h3, h4, h7, h5⟩ := h
    have hb : (Loc.blk b).block = some b := rfl
    refine ⟨b, cur, e, hk.trans h1, ?_, h3, h4, ⟨hmono _ _ h7.1, h7.2⟩, fun o ho => ?_⟩
    · rw [hg _ _ h1 hb]; exact h2
    · rcases hn b o ho with h6 | h6
      · exact h5 o h6
      · exact h6 _ h1 hb
  | mp es =>
    obtain ⟨b, arr, clock, h1, h2, h3, h4, h7, h5⟩ := h
    have hb : (Loc.blk b).block = some b := rfl
    refine ⟨b, arr, clock, hk.trans h1, ?_, h3, fun j hj => ⟨(h4 j hj).1, hmono _ _ (h4 j hj).2.1, (h4 j hj).2.2⟩, h7, fun o ho => ?_⟩
    · rw [hg _ _ h1 hb]; exact h2
    · rcases hn b o ho with h6 | h6
      · exact h5 o h6
      · exact h6 _ h1 hb
  | bm e len f =>
    obtain ⟨b, cap, cur, h1, h2, h3, h4, h7, h8, h5⟩ := h
    have hb : (Loc.row (.slice (some ⟨b, 0, none⟩) len cap) len).block = some b := rfl
    refine ⟨b, cap, cur, hk.trans h1, ?_, h3, h4, h7, h8, fun o ho => ?_⟩
    · rw [hg _ _ h1 hb]; exact h2
    · rcases hn b o ho with h6 | h6
      · exact h5 o h6
      · exact h6 _ h1 hb
  | gone =>
    obtain ⟨l, h1, h2⟩ := h
    refine ⟨l, hk.trans h1, fun b hb => ?_⟩
    have h3 := hg l b h1 hb
    rw [Array.getElem?_eq_getElem (h2 b hb)] at h3
    exact (Array.getElem?_eq_some_iff.1 h3).1

/-- An object whose data name only certain objects. -/
theorem ObjOk.okIn {S : Cells} {w : World} {r r' : Rho} {k : Nat} {o : Own} {ks : List Nat} (h : ObjOk S w r k o) (hok : o.okIn ks = true) (hr : RhoLe (keepR r ks) r') (hk : r' k = r k) : ObjOk S w r' k o := by
  cases o with
  | var cs =>
    obtain ⟨b, cur, e, h1, h2, h3, h4, h5⟩ := h
    refine ⟨b, cur, e, hk.trans h1, h2, h3, fun j hj => ⟨((h4 j hj).1.okIn (ks := ks) ?_).mono (fun _ _ h => h) (fun _ _ _ => rfl) r' hr, (h4 j hj).2⟩, h5⟩
    simp only [Own.okIn, List.all_eq_true] at hok
    refine hok _ ?_
    simp only [List.getD_eq_getElem?_getD, List.getElem?_eq_getElem hj, Option.getD_some]
    exact List.getElem_mem hj
  | row e esz len =>
    obtain ⟨tv, h1, h2⟩ := h
    exact ⟨tv, hk.trans h1, h2⟩
  | arr e esz len f =>
    obtain ⟨tv, h1, h2⟩ := h
    exact ⟨tv, hk.trans h1, h2⟩
  | ob x =>
    obtain ⟨b, h1, h2⟩ := h
    exact ⟨b, hk.trans h1, h2⟩
  | bld T d =>
    obtain ⟨b, cur, e, h1, h2, h3, h4, h7, h5⟩ := h
    exact ⟨b, cur, e, hk.trans h1, h2, h3, h4, ⟨(h7.1.okIn (ks := ks) hok).mono (fun _ _ h => h) (fun _ _ _ => rfl) r' hr, h7.2⟩, h5⟩
  | mp es =>
    obtain ⟨b, arr, clock, h1, h2, h3, h4, h7, h5⟩ := h
    refine ⟨b, arr, clock, hk.trans h1, h2, h3, fun j hj => ⟨(h4 j hj).1, ((h4 j hj).2.1.okIn (ks := ks) ?_).mono (fun _ _ h => h) (fun _ _ _ => rfl) r' hr, (h4 j hj).2.2⟩, h7, h5⟩
    simp only [Own.okIn, List.all_eq_true] at hok
    refine hok _ ?_
    simp only [List.getD_eq_getElem?_getD, List.getElem?_eq_getElem hj, Option.getD_some]
    exact List.getElem_mem hj
  | bm e len f =>
    obtain ⟨b, cap, cur, h1, h2⟩ := h
    exact ⟨b, cap, cur, hk.trans h1, h2⟩
  | gone =>
    obtain ⟨l, h1, h2⟩ := h
    exact ⟨l, hk.trans h1, h2⟩

section
variable {P : Program} {X : Ctx} {n : Nat} {fr : Fr} {ow : Ow} {d : D}

theorem lendM_step {o : Oper} {f : FuncId} {args : List D} {lo lo' : Ow} {ids : List Nat} (hP : ∀ vs w, (callFunc f vs).run P w = .ok (.enter f vs) w) (hc : callOf fr o.op = some (f, args)) (hk : hasAll (fun k => look k ow) lo)
    (hi1 : lo.map (·.1) = ids) (hi2 : lo'.map (·.1) = ids) (hnd : ids.Nodup)
    (hok : (args.map (lendA ids)).all (D.okIn ids) = true) (hf1 : lo.all (fun x => x.2.okIn ids) = true) (hf2 : lo'.all (fun x => x.2.okIn ids) = true) (hf3 : d.okIn ids = true)
    (hC : CtrO P f (args.map (lendA ids)) lo d lo') (hd : dstOk o.dst n) :
    ∀ F' O', (∀ x ∈ o.op.operands.toList, evF F' x = evF (fF fr) x) → (∀ j ∈ ids, O' j = fO ow j) → StepAt P X n o F' O' d lo' := by
  intro F' O' he hO a w K' Q' ⟨S, r, hH, hI, hF, hdf, hn, hρ⟩ hK
  obtain ⟨vs, hrun, hsz, hrel⟩ := call_enter hP hc he (fun x => evF_rel hH.glob hF x)
  have hOk : ∀ k o, look k lo = some o → O' k = some o := fun k o h => by
    have hm : k ∈ ids := by rw [← hi1]; exact List.mem_map.2 ⟨(k, o), mem_of_look h, rfl⟩
    exact (hO k hm).trans (hasAll_get hk k o h)
  have hmem : ∀ k, k ∈ ids → ∃ o, look k lo = some o := fun k h => look_some (by rw [hi1]; exact h)
  have hmem' : ∀ k, k ∈ ids → ∃ o, look k lo' = some o := fun k h => look_some (by rw [hi2]; exact h)
  have hin : ∀ k o, look k lo = some o → k ∈ ids ∧ o.okIn ids = true := fun k o h => by
    have h1 := mem_of_look h
    rw [List.all_eq_true] at hf1
    exact ⟨by rw [← hi1]; exact List.mem_map.2 ⟨(k, o), h1, rfl⟩, hf1 _ h1⟩
  have hin' : ∀ k o, look k lo' = some o → k ∈ ids ∧ o.okIn ids = true := fun k o h => by
    have h1 := mem_of_look h
    rw [List.all_eq_true] at hf2
    exact ⟨by rw [← hi2]; exact List.mem_map.2 ⟨(k, o), h1, rfl⟩, hf2 _ h1⟩
  have hblt : ∀ k l b, r k = some l → l.block = some b → b < w.heap.size := fun k l b hl hb => by
    cases ho : O' k with
    | none => rw [hI.dom k ho] at hl; cases hl
    | some o => exact (hI.obj k o ho).blockLt hl hb
  let X' : Ctx := { w0 := w, S0 := S, L := fun b => ∃ k ∈ ids, ∃ l, r k = some l ∧ l.block = some b, r0 := keepR r ids, ids := ids }
  have hH' : Hist X' w S := ⟨rfl, rfl, rfl, Nat.le_refl _, fun _ _ _ => rfl, fun _ _ h => h, fun _ _ _ => rfl, fun _ _ h => .inl h, hH.valid, hH.glob⟩
  have hI' : Inv X' w S X'.r0 (fO lo) := by
    refine ⟨fun k o hk' => ?_, fun k hk' => ?_, fun i j l l' b' hij hl hl' hb' => ?_, fun k l b' hl hb' => ?_⟩
    · obtain ⟨h1, h2⟩ := hin k o hk'
      exact (hI.obj k o (hOk k o hk')).okIn h2 (RhoLe.refl _) (if_pos h1)
    · refine if_neg fun hm => ?_
      obtain ⟨o, ho⟩ := hmem k hm
      rw [show fO lo k = look k lo from rfl, ho] at hk'
      cases hk'
    · have hl : keepR r ids i = some l := hl
      have hl' : keepR r ids j = some l' := hl'
      simp only [keepR] at hl hl'
      split at hl <;> first | (cases hl; done) | skip
      split at hl' <;> first | (cases hl'; done) | skip
      exact hI.apart i j l l' b' hij hl hl' hb'
    · have hl : keepR r ids k = some l := hl
      simp only [keepR] at hl
      split at hl <;> first | (cases hl; done) | skip
      rename_i hm
      exact .inr ⟨k, hm, l, hl, hb'⟩
  have hrel' : ∀ j, j < (args.map (lendA ids)).length → Rel S w X'.r0 ((args.map (lendA ids)).getD j .any) (vs.getD j undef) := by
    intro j hj
    have hj' : j < args.length := by simpa using hj
    have e : (args.map (lendA ids)).getD j .any = lendA ids (args.getD j .any) := by simp [List.getD_eq_getElem?_getD, hj']
    have hokj : (lendA ids (args.getD j .any)).okIn ids = true := by
      rw [← e]
      rw [List.all_eq_true] at hok
      refine hok _ ?_
      simp only [List.getD_eq_getElem?_getD, List.getElem?_eq_getElem hj, Option.getD_some]
      exact List.getElem_mem hj
    rw [e]
    have hr := hrel j hj'
    generalize args.getD j .any = dj at hr hokj
    generalize vs.getD j undef = vj at hr
    refine Rel.okIn (r := r) ?_ hokj
    cases dj with
    | gs k z m g =>
      simp only [lendA]
      split
      · exact hr
      · exact hr.shut
    | _ => exact hr
  unfold Oper.wp
  rw [hrun]
  refine (hC X' vs hi1.symm hH' hI' (by simpa using hsz) hrel').mono ?_
  rintro e w' ⟨v, S', r', rfl, g1, g2, g3, g4⟩
  let r2 : Rho := fun k => if k ∈ ids then r' k else r k
  have hr2 : RhoLe r r2 := fun k l hl => by
    by_cases hm : k ∈ ids
    · obtain ⟨l', h1, h2⟩ := g4 k l (by show keepR r ids k = some l; rw [keepR, if_pos hm]; exact hl)
      exact ⟨l', by show (if k ∈ ids then r' k else r k) = some l'; rw [if_pos hm]; exact h1, h2⟩
    · exact ⟨l, by show (if k ∈ ids then r' k else r k) = some l; rw [if_neg hm]; exact hl, LocLe.refl l⟩
  have hr3 : RhoLe (keepR r' ids) r2 := fun k l hl => by
    simp only [keepR] at hl
    split at hl <;> first | (cases hl; done) | skip
    rename_i hm
    exact ⟨l, by show (if k ∈ ids then r' k else r k) = some l; rw [if_pos hm]; exact hl, LocLe.refl l⟩
  have hXL : ∀ b, X'.L b → X.w0.heap.size ≤ b ∨ X.L b := fun b ⟨k, _, l, hl, hb⟩ => hI.low k l b hl hb
  have hother : ∀ k l b, k ∉ ids → r k = some l → l.block = some b → ¬ X'.L b := fun k l b hm hl hb ⟨k', hm', l', hl', hb'⟩ =>
    hI.apart k k' l l' b (fun e => hm (e ▸ hm')) hl hl' hb hb'
  refine hK v w' ⟨S', r2, ?_, ?_, rel_put (fun t => (hF t).mono g2.sub g2.cell r2 hr2) (hn ▸ hd) ((g1.okIn hf3).mono (fun _ _ h => h) (fun _ _ _ => rfl) r2 hr3), by rw [put_defers]; exact hdf, by rw [put_size]; exact hn, hρ.trans hr2⟩
  · refine ⟨g2.os.trans hH.os, g2.tape.trans hH.tape, g2.output.trans hH.output, Nat.le_trans hH.size g2.size, fun k hk' hl => ?_, fun b o hb => g2.sub b o (hH.sub b o hb), fun b o hb => (g2.cell b o (hH.sub b o hb)).trans (hH.cell b o hb), fun b o hb => ?_, g2.valid, g2.glob⟩
    · refine (g2.block k (Nat.lt_of_lt_of_le hk' hH.size) fun hx => ?_).trans (hH.block k hk' hl)
      rcases hXL k hx with h | h
      · omega
      · exact hl h
    · rcases g2.new b o hb with h | h | h
      · exact hH.new b o h
      · exact .inr (.inl (Nat.le_trans hH.size h))
      · rcases hXL b h with h | h
        · exact .inr (.inl h)
        · exact .inr (.inr h)
  · have hnd' : (lo'.map (·.1)).Nodup := by rw [hi2]; exact hnd
    have hup : ∀ k, k ∉ ids → updO O' lo' k = O' k := fun k hm => by
      rw [updO_look hnd', look_none (by rw [hi2]; exact hm)]
    refine ⟨fun k o hk' => ?_, fun k hk' => ?_, fun i j l l' b hij hl hl' hb => ?_, fun k l b hl hb => ?_⟩
    · by_cases hm : k ∈ ids
      · obtain ⟨o', ho'⟩ := hmem' k hm
        rw [updO_look hnd', ho'] at hk'
        obtain rfl : o' = o := Option.some.inj hk'
        exact (g3.obj k o' ho').okIn (hin' k o' ho').2 hr3 (if_pos hm)
      · rw [hup k hm] at hk'
        refine (hI.obj k o hk').keepL g2.sub g2.cell hr2 (if_neg hm) (fun l b hl hb => g2.block b (hblt k l b hl hb) (hother k l b hm hl hb)) (fun b o hs => ?_)
        rcases g2.new b o hs with h | h | h
        · exact .inl h
        · refine .inr fun l hl hb => ?_
          have := hblt k l b hl hb
          have h : w.heap.size ≤ b := h
          omega
        · exact .inr fun l hl hb => hother k l b hm hl hb h
    · by_cases hm : k ∈ ids
      · obtain ⟨o', ho'⟩ := hmem' k hm
        rw [updO_look hnd', ho'] at hk'
        cases hk'
      · rw [hup k hm] at hk'
        exact (if_neg hm).trans (hI.dom k hk')
    · have hl : (if i ∈ ids then r' i else r i) = some l := hl
      have hl' : (if j ∈ ids then r' j else r j) = some l' := hl'
      by_cases h1 : i ∈ ids
      · rw [if_pos h1] at hl
        by_cases h2 : j ∈ ids
        · rw [if_pos h2] at hl'
          exact g3.apart i j l l' b hij hl hl' hb
        · rw [if_neg h2] at hl'
          intro hb'
          rcases g3.low i l b hl hb with h | h
          · have := hblt j l' b hl' hb'
            have h : w.heap.size ≤ b := h
            omega
          · exact hother j l' b h2 hl' hb' h
      · rw [if_neg h1] at hl
        by_cases h2 : j ∈ ids
        · rw [if_pos h2] at hl'
          intro hb'
          rcases g3.low j l' b hl' hb' with h | h
          · have := hblt i l b hl hb
            have h : w.heap.size ≤ b := h
            omega
          · exact hother i l b h1 hl hb h
        · rw [if_neg h2] at hl'
          exact hI.apart i j l l' b hij hl hl' hb
    · have hl : (if k ∈ ids then r' k else r k) = some l := hl
      by_cases h1 : k ∈ ids
      · rw [if_pos h1] at hl
        rcases g3.low k l b hl hb with h | h
        · exact .inl (Nat.le_trans hH.size h)
        · exact hXL b h
      · rw [if_neg h1] at hl
        exact hI.low k l b hl hb

/-- What is handed back; a single result as it stands. -/
def resU (B : Tb) (fr : Fr) (ow : Ow) (rs : List ResultVar) : Option D :=
  match rs with
  | [.tmp t] => fz (getD' t fr) some
  | rs => resD B fr ow rs

theorem results_okU {ow : Ow} {fr : Fr} {fn : Func} {a : Act} {w : World} {S : Cells} {r : Rho} {d : D} {rs : List ResultVar} (hrs : fn.results = ⟨rs⟩) (hI : Inv X w S r (fO ow)) (hF : ∀ t, Rel S w r (fF fr t) (a.tmps.getD t undef)) (h : resU (tb P) fr ow rs = some d) :
    ∃ v, (results fn a.tmps).run P w = .ok v w ∧ Rel S w r d v := by
  unfold resU at h
  split at h
  · rename_i t
    rw [fz_eq] at h
    cases h
    refine ⟨a.tmps.getD t undef, ?_, hF t⟩
    have hm : (fn.results.mapM (resF a.tmps)).run P w = .ok #[a.tmps.getD t undef] w := by
      rw [hrs, Array.mapM_eq_mapM_toList]
      have h1 : ([ResultVar.tmp t].mapM (resF a.tmps)).run P w = .ok [a.tmps.getD t undef] w := by
        have h0 : (resF a.tmps (.tmp t)).run P w = .ok (a.tmps.getD t undef) w := rfl
        rw [List.mapM_cons]
        simp only [Sem.run_bind, h0, List.mapM_nil, Result.andThen_ok, Sem.run_pure]
      simp only [Sem.run_map, h1, Result.andThen_ok]
    simp only [results_eq, Sem.run_bind, hm, Result.andThen_ok, Sem.run_pure]
    rfl
  · exact results_ok hrs hI hF h

variable {ow' : Ow}
/-- FROM A BODY TO A CONTRACT (a single result may be a row that goes on growing). -/
theorem CtrO.of_TU {f : FuncId} {fn : Func} {c : Code} {N : Nat} {rs : List ResultVar} {args : List D} {d : D} (hf : P.funcs[f]? = some fn) (hb : fn.body = some c) (hN : fn.ntmps = N) (hrs : fn.results = ⟨rs⟩) (hlen : args.length ≤ N)
    (h : ∀ X : Ctx, Lent X → X.ids = ow.map (·.1) → T P X N c (slots 0 args) ow (fun e fr2 ow2 => (e = .ret ∨ e = .normal) ∧ ∃ d2, resU (tb P) fr2 ow2 rs = some d2 ∧ Weak d2 d ∧ d.okIn (ow'.map (·.1)) = true ∧ Le X fr2 ow2 [] ow')) :
    CtrO P f args ow d ow' := by
  intro X vs hids hH hI hsz hrel
  have hL : Lent X := fun k hk => by
    rw [hids]
    cases hmem : look k ow with
    | none => exact absurd (hI.dom k hmem) hk
    | some o =>
      by_cases hm : k ∈ ow.map (·.1)
      · exact hm
      · rw [look_none hm] at hmem; cases hmem
  refine calls_of_wp hf hb ?_
  have hrep : Rep X N (fF (slots 0 args)) (fO ow) { tmps := vs ++ Array.replicate (fn.ntmps - vs.size) undef, defers := [] } X.w0 := by
    refine ⟨X.S0, X.r0, hH, hI, fun t => ?_, rfl, by simp; omega, RhoLe.refl _⟩
    show Rel _ _ _ (getD' t (slots 0 args)) _
    rw [slots_get]
    simp only [Nat.zero_le, if_true, Nat.sub_zero]
    by_cases ht : t < args.length
    · have := hrel t ht
      rw [Array.getD_eq_getD_getElem?, Array.getElem?_append_left (by omega), ← Array.getD_eq_getD_getElem?]
      exact this
    · rw [List.getD_eq_getElem?_getD, List.getElem?_eq_none (by omega)]
      exact .any ..
  refine wp_mono (h X hL hids _ _ hrep) fun e a w ⟨fr2, ow2, ⟨he, d2, h1, h2, h3, h4⟩, hrep2⟩ => ?_
  obtain ⟨S, r, hH2, hI2, hF2, hd2, _, hρ2⟩ := hrep2
  obtain ⟨v, hv, hvr⟩ := results_okU (P := P) hrs hI2 hF2 h1
  have hok := h4.ok
  simp only [okAll, Bool.and_eq_true] at hok
  have hfin : ∃ v' S' r', Ending.returned v = .returned v' ∧ Rel S' w r' d v' ∧ Hist X w S' ∧ Inv X w S' r' (fO ow') ∧ RhoLe X.r0 r' := by
    refine ⟨v, S, keepR r (ow'.map (·.1)), rfl, ?_, hH2, hI2.keep h4.ow hok.2, fun k l hk => ?_⟩
    · exact (hvr.weak h2).okIn h3
    · obtain ⟨l', g1, g2⟩ := hρ2 k l hk
      have : k ∈ ow'.map (·.1) := h4.ids k (hL k (by rw [hk]; simp))
      exact ⟨l', by simp only [keepR]; rw [if_pos this]; exact g1, g2⟩
  rcases he with rfl | rfl
  · exact ⟨hd2, v, hv, hfin⟩
  · exact ⟨hd2, v, hv, hfin⟩

/-- A nil slice in a variable's cell is taken for an empty row of the call's own. -/
theorem T.adoptV {c : Code} {Q : Exit → Fr → Ow → Prop} (v j k e z : Nat) (cs : List D) (f : Nat → List D) (hv : look v ow = some (.var cs)) (hj : cs.getD j .any = .nilS) (hk : look k ow = none)
    (h : T P X n c fr ((v, .var (cs.set j (.gs k z 0 f))) :: (k, .row e z 0) :: ow) Q) : T P X n c fr ow Q := fun a w hr => by
  refine h a w ?_
  obtain ⟨S, r, hH, hI, hF, hd, hn, hρ⟩ := hr
  have hle : RhoLe r (updR r k (.row (.slice none 0 0) 0)) := RhoLe.new (hI.dom k hk)
  have hk0 : updR r k (.row (.slice none 0 0) 0) k = some (.row (.slice none 0 0) 0) := by simp [updR]
  have hc : Chg w w S none := ⟨rfl, rfl, rfl, Nat.le_refl _, fun _ _ _ => rfl, fun _ _ _ => rfl⟩
  have hI2 : Inv X w S (updR r k (.row (.slice none 0 0) 0)) (fO ((k, .row e z 0) :: ow)) := by
    rw [fO_cons]
    exact hI.put hc (fun _ _ h => h) hle k _ (.row (.slice none 0 0) 0) ⟨_, hk0, .inl ⟨rfl, rfl⟩⟩ hk0 (fun j hj => by simp [updR, hj]) (fun b hb => by simp [Loc.block] at hb) (fun b hb => by cases hb) (fun _ _ h => .inl h)
  have hvk : v ≠ k := fun e => by subst e; rw [hv] at hk; cases hk
  have hv2 : fO ((k, .row e z 0) :: ow) v = some (.var cs) := by
    rw [fO_cons]
    show (if v = k then _ else fO ow v) = _
    rw [if_neg hvk]
    exact hv
  have hobj := hI2.obj v _ hv2
  obtain ⟨b, cur, e0, h1, h2, h3, h4, h5⟩ := hobj
  refine ⟨S, updR r k (.row (.slice none 0 0) 0), hH, ?_, fun u => (hF u).mono (fun _ _ h => h) (fun _ _ _ => rfl) _ hle, hd, hn, hρ.trans hle⟩
  rw [fO_cons]
  refine hI2.put hc (fun _ _ h => h) (RhoLe.refl _) v _ (.blk b) ⟨b, cur, e0, h1, h2, by simpa using h3, fun i hi => ?_, h5⟩ h1 (fun _ _ => rfl) (fun b' hb' => .inr ⟨_, h1, hb'⟩) (fun b hb => by cases hb) (fun _ _ h => .inl h)
  have hi' : i < cs.length := by simpa using hi
  by_cases e : j = i
  · subst e
    have e1 : (cs.set j (D.gs k z 0 f)).getD j .any = .gs k z 0 f := by simp [List.getD_eq_getElem?_getD, hi']
    rw [e1]
    have h6 := (h4 j hi').1
    rw [hj] at h6
    generalize cur.getD j undef = vj at h6 ⊢
    cases h6
    refine ⟨.gs _ k z 0 f _ _ 0 (.sl _ _ _ _ none 0 (fun _ _ => undef) (Nat.le_refl _) (by unfold maxLen; omega) (fun i hi => by omega) (fun i j hi => by omega) (fun i j hi => by omega)) hk0 (Nat.le_refl _) (fun _ => .inl rfl), rfl⟩
  · have e1 : (cs.set j (D.gs k z 0 f)).getD i .any = cs.getD i .any := by simp [List.getD_eq_getElem?_getD, List.getElem?_set, e]
    rw [e1]
    exact h4 i hi'
end

section
variable {X : Ctx} {n : Nat} {all rest : List Oper} {fr : Fr} {ow : Ow} {tr : List (List Nat × List Nat)} {K : Fr → Ow → List (List Nat × List Nat) → Prop} {Q : Exit → Fr → Ow → Prop}
variable {t : Nat} {op : Op} {ty : TypeId} {pos : String} {af : Array Edge} {d : D} {g u : Nat} {want : Bool} {k k2 : Nat} {o1 o2 o1' o2' : Own} {f : FuncId} {args : List D}

/-- A call to which one object is lent. -/
theorem r_lend1 (k : Nat) (hc : callOf fr op = some (f, args)) (hn : Nat.blt t n = true) (hP : ∀ vs w, (callFunc f vs).run Tryd.prog w = .ok (.enter f vs) w) (hk : look k ow = some o1)
    (hok : (args.map (lendA [k])).all (D.okIn [k]) = true) (hf1 : o1.okIn [k] = true) (hf2 : o1'.okIn [k] = true) (hf3 : d.okIn [k] = true)
    (hC : CtrO Tryd.prog f (args.map (lendA [k])) [(k, o1)] d [(k, o1')])
    (h : CT Tryd.prog X n all rest ((t, d) :: fr) ((k, o1') :: ow) (tr ++ [([k], [k])]) K) : CT Tryd.prog X n all (⟨some t, op, ty, pos, af, none⟩ :: rest) fr ow tr K :=
  CT.cons (e := ⟨d, [k], [(k, o1')]⟩) (.plain rfl (lendM_step (o := ⟨some t, op, ty, pos, af, none⟩) (ow := ow) (lo := [(k, o1)]) hP hc ⟨hk, trivial⟩ rfl rfl (by simp) hok (by simp [hf1]) (by simp [hf2]) hf3 hC (show t < n by simpa using hn))) (fF_cons ..) (fO_cons ..) h

/-- A goal that the walk leaves alone. -/
structure Stay (p : Prop) : Prop where
  out : p

/-- What must hold where a function ends to which objects were lent. -/
def EndsM (rs : List ResultVar) (d : D) (lo : Ow) (e : Exit) (fr : Fr) (ow : Ow) : Prop :=
  match e with
  | .ret | .normal => ∃ d2, resU B fr ow rs = some d2 ∧ Weak d2 d ∧ leOw ow lo
  | _ => False

theorem x_endM {rs : List ResultVar} {d d2 : D} {lo : Ow} (h : resU B fr ow rs = some d2) (he : d2 = d) (hlo : Stay (leOw ow lo)) : Rtn (EndsM rs d lo) fr ow := by
  unfold Rtn
  exact ⟨d2, h, .of_eq he, hlo.out⟩
theorem n_endM {rs : List ResultVar} {d d2 : D} {lo : Ow} (h : resU B fr ow rs = some d2) (he : d2 = d) (hlo : Stay (leOw ow lo)) : Nrm (EndsM rs d lo) fr ow := by
  unfold Nrm
  exact ⟨d2, h, .of_eq he, hlo.out⟩

/-- FROM A BODY TO A CONTRACT WITH OBJECTS LENT. -/
theorem r_methM {fn : Func} {c : Code} {N : Nat} {rs : List ResultVar} {lo lo' : Ow} {ids : List Nat} (hf : Tryd.prog.funcs[f]? = some fn) (hb : fn.body = some c) (hN : fn.ntmps = N) (hrs : fn.results = ⟨rs⟩) (hlen : Nat.ble args.length N = true)
    (hi1 : lo.map (·.1) = ids) (hi2 : lo'.map (·.1) = ids) (hd : d.okIn ids = true) (hcs : lo'.all (fun x => x.2.okIn ids) = true)
    (h : ∀ X : Ctx, Lent X → X.ids = ids → T Tryd.prog X N c (slots 0 args) lo (EndsM rs d lo')) : CtrO Tryd.prog f args lo d lo' := by
  refine CtrO.of_TU hf hb hN hrs (by simpa using hlen) fun X hL hi => (h X hL (hi.trans hi1)).mono fun e fr2 ow2 hq => ?_
  have key : ∀ d2, resU B fr2 ow2 rs = some d2 → Weak d2 d → leOw ow2 lo' →
      ∃ d2, resU (tb Tryd.prog) fr2 ow2 rs = some d2 ∧ Weak d2 d ∧ d.okIn (lo'.map (·.1)) = true ∧ Le X fr2 ow2 [] lo' := by
    intro d2 h1 h2 h3
    refine ⟨d2, by rw [tb_eq]; exact h1, h2, by rw [hi2]; exact hd, trivial, h3, ?_, fun k hk => ?_⟩
    · rw [hi2]
      simp only [okAll, List.all_nil, Bool.true_and]
      exact hcs
    · rw [hi, hi1] at hk
      rw [hi2]
      exact hk
  cases e with
  | ret => obtain ⟨d2, h1, h2, h3⟩ := hq; exact ⟨.inl rfl, key d2 h1 h2 h3⟩
  | normal => obtain ⟨d2, h1, h2, h3⟩ := hq; exact ⟨.inr rfl, key d2 h1 h2 h3⟩
  | _ => exact hq.elim
end
end Go.Proofs.YtghdgjabpdfaoaaDoor.Flow

/-
  FLOW, PART S: A TEXT OF SINGLE BYTES READ LETTER BY LETTER ('for .. range' over a text); division of numbers below 0.
-/
namespace Go.Proofs.YtghdgjabpdfaoaaDoor.Flow
open Go

/-- The object is changed in its place. -/
theorem Chg.setObj (w : World) (S : Cells) (b : Nat) (x : Obj) (hS : ∀ o, ¬ S b o) : Chg w { w with heap := w.heap.setIfInBounds b x } S (some b) where
  os := rfl
  tape := rfl
  output := rfl
  size := by simp
  block := fun k _ hne => by
    have : b ≠ k := fun e => hne (by rw [e])
    simp [Array.getElem?_setIfInBounds, this]
  cell := fun b' o hb => by
    have : b ≠ b' := fun e => hS o (by rw [e]; exact hb)
    have e : ({ w with heap := w.heap.setIfInBounds b x } : World).heap[b']? = w.heap[b']? := by simp [Array.getElem?_setIfInBounds, this]
    exact World.cell?_of_block e

section
variable {P : Program} {X : Ctx} {n : Nat} {O : Nat → Option Own}

/-- A new object, told as it lies. -/
theorem newOb_ok {w : World} {S : Cells} {r : Rho} (x : Obj) (hH : Hist X w S) (hI : Inv X w S r O) {k : Nat} (hk : O k = none) :
    ∃ r', Rel S (w.alloc x) r' (.pv k 0) (.pointer (some ⟨w.heap.size, 0, none⟩)) ∧ Hist X (w.alloc x) S ∧ Inv X (w.alloc x) S r' (updO O [(k, .ob x)]) ∧
      (∀ b o, S b o → (w.alloc x).cell? ⟨b, o, none⟩ = w.cell? ⟨b, o, none⟩) ∧ RhoLe r r' := by
  have hc := Chg.alloc w S hH.valid x
  have hr : RhoLe r (updR r k (.blk w.heap.size)) := RhoLe.new (hI.dom k hk)
  have hk0 : updR r k (.blk w.heap.size) k = some (.blk w.heap.size) := by simp [updR]
  refine ⟨updR r k (.blk w.heap.size), .pv _ k 0 _ hk0, ?_, ?_, hc.cell, hr⟩
  · exact hH.chg hc (fun b hb => by cases hb) (fun _ _ h => h) (fun b o h => .inl h)
  · refine hI.put hc (fun _ _ h => h) hr k _ (.blk w.heap.size) ?_ hk0 (fun j hj => by simp [updR, hj]) (fun b hb => ?_) (fun b hb => by cases hb) (fun b o h => .inl h)
    · exact ⟨w.heap.size, hk0, heap_alloc_new w _, fun o ho => by have := hH.valid _ _ ho; omega⟩
    · simp only [Loc.block, Option.some.injEq] at hb
      subst hb
      exact .inl ⟨Nat.le_refl _, .inl hH.size⟩

/-- An object told as it lies becomes another. -/
theorem setOb_ok {w : World} {S : Cells} {r : Rho} {x : Obj} {b : Nat} (y : Obj) (hH : Hist X w S) (hI : Inv X w S r O) {k : Nat} (hk : O k = some (.ob x)) (hb : r k = some (.blk b)) :
    Hist X { w with heap := w.heap.setIfInBounds b y } S ∧ Inv X { w with heap := w.heap.setIfInBounds b y } S r (updO O [(k, .ob y)]) ∧
      (∀ b' o, S b' o → ({ w with heap := w.heap.setIfInBounds b y } : World).cell? ⟨b', o, none⟩ = w.cell? ⟨b', o, none⟩) := by
  obtain ⟨b', h1, h2, h3⟩ := hI.obj k _ hk
  rw [hb] at h1
  cases h1
  have hc := Chg.setObj w S b y h3
  have hlow := hI.low k _ b hb rfl
  refine ⟨?_, ?_, hc.cell⟩
  · exact hH.chg hc (fun b' hb' => by cases hb'; exact hlow) (fun _ _ h => h) (fun b o h => .inl h)
  · refine hI.put hc (fun _ _ h => h) (RhoLe.refl r) k _ (.blk b) ?_ hb (fun _ _ => rfl) (fun b' hb' => .inr ⟨_, hb, hb'⟩) (fun b' hb' => ⟨_, hb, hb'⟩) (fun b o h => .inl h)
    have hlt := (Array.getElem?_eq_some_iff.1 h2).1
    exact ⟨b, hb, by simp [hlt], h3⟩

variable {o : Oper} {fr : Fr} {ow : Ow} {t k pos : Nat} {ty : TypeId} {x : Operand} {l : List UInt8}

theorem range_step {B' : Tb} (hB : tb P = B') (ho : o.op = .range ty x) (hty : B'.ty ty = .str) (hx : ev fr x = .s l) (ht : look t ow = none) (hd : dstOk o.dst n) :
    ∀ F' O', (∀ y ∈ o.op.operands.toList, evF F' y = evF (fF fr) y) → (∀ j ∈ [t], O' j = fO ow j) → StepAt P X n o F' O' (.pv t 0) [(t, .ob (.stringIter ⟨l.toArray⟩ 0))] := by
  intro F' O' he hO
  refine stepAt_of hd fun a w S r hH hI hr => ?_
  have hx' := hr x
  rw [he x (by simp [ho, Op.operands]), evF_fF, hx] at hx'
  have hk : O' t = none := (hO t (by simp)).trans ht
  have hu := tyOf_str (P := P) (t := ty) (by subst hB; exact hty)
  obtain ⟨r', g1, g2, g3, g4, g5⟩ := newOb_ok (.stringIter ⟨l.toArray⟩ 0) hH hI hk
  refine ⟨_, _, S, r', .inl ?_, g1, g2, g3, fun _ _ h => h, g4, g5⟩
  generalize hv : a.eval x = v at hx'
  cases hx'
  simp [execOp, ho, Instr.range, underlying, hu, hv, Sem.run_bind, newObj, Sem.run, Result.andThen]

theorem at_byte (l : List UInt8) (pos : Nat) (h : pos < l.length) : (((⟨l.toArray⟩ : ByteArray)[pos]'(by simpa [ByteArray.size] using h)).toNat : Int) = at' l pos := by
  unfold at'
  simp [List.getD_eq_getElem?_getD, h, ByteArray.getElem_eq_getElem_data]

theorem next_step (ho : o.op = .next x true) (hx : ev fr x = .pv k 0) (hk : look k ow = some (.ob (.stringIter ⟨l.toArray⟩ pos))) (hp : pos < l.length) (hb : at' l pos < 128) (hd : dstOk o.dst n) :
    ∀ F' O', (∀ y ∈ o.op.operands.toList, evF F' y = evF (fF fr) y) → (∀ j ∈ [k], O' j = fO ow j) →
      StepAt P X n o F' O' (.tu [.b true, .i .i64 pos, .i .i32 (at' l pos)]) [(k, .ob (.stringIter ⟨l.toArray⟩ (pos + 1)))] := by
  intro F' O' he hO
  refine stepAt_of hd fun a w S r hH hI hr => ?_
  have hx' := hr x
  rw [he x (by simp [ho, Op.operands]), evF_fF, hx] at hx'
  have hk' : O' k = some (.ob (.stringIter ⟨l.toArray⟩ pos)) := (hO k (by simp)).trans hk
  obtain ⟨b, h1, h2, h3⟩ := hI.obj k _ hk'
  obtain ⟨g1, g2, g3⟩ := setOb_ok (.stringIter ⟨l.toArray⟩ (pos + 1)) hH hI hk' h1
  have hlt : pos < (⟨l.toArray⟩ : ByteArray).size := by simpa [ByteArray.size] using hp
  have hbb : ((⟨l.toArray⟩ : ByteArray)[pos]'hlt).toNat < 128 := by
    have := at_byte l pos hp
    omega
  refine ⟨.tuple #[.bool true, .int .i64 pos, .int .i32 (((⟨l.toArray⟩ : ByteArray)[pos]'hlt).toNat)], _, S, r, .inl ?_, .tu _ _ _ rfl fun j hj => ?_, g1, g2, fun _ _ h => h, g3, RhoLe.refl r⟩
  · generalize hv : a.eval x = v at hx'
    cases hx' with
    | pv _ _ _ b' h4 =>
      rw [h1] at h4
      cases h4
      have hrun := Lib.run_next_ascii_at (P := P) w b ⟨l.toArray⟩ pos o.type h2 hlt hbb
      unfold World.iterAt at hrun
      simp only [execOp, ho, hv]
      simp [hrun]
  · match j, hj with
    | 0, _ => exact .b ..
    | 1, _ => exact .i ..
    | 2, _ =>
      show Rel S _ r (.i .i32 (at' l pos)) (.int .i32 _)
      rw [← at_byte l pos hp]
      exact .i ..

theorem over_step (ho : o.op = .next x true) (hx : ev fr x = .pv k 0) (hk : look k ow = some (.ob (.stringIter ⟨l.toArray⟩ pos))) (hp : l.length ≤ pos) (hd : dstOk o.dst n) :
    ∀ F' O', (∀ y ∈ o.op.operands.toList, evF F' y = evF (fF fr) y) → (∀ j ∈ [k], O' j = fO ow j) → StepAt P X n o F' O' (.tu [.b false]) [] := by
  intro F' O' he hO
  refine stepAt_of hd fun a w S r hH hI hr => ?_
  have hx' := hr x
  rw [he x (by simp [ho, Op.operands]), evF_fF, hx] at hx'
  have hk' : O' k = some (.ob (.stringIter ⟨l.toArray⟩ pos)) := (hO k (by simp)).trans hk
  obtain ⟨b, h1, h2, h3⟩ := hI.obj k _ hk'
  refine ⟨.tuple #[.bool false], w, S, r, .inl ?_, .tu _ _ _ rfl fun j hj => ?_, hH, hI, fun _ _ h => h, fun _ _ _ => rfl, RhoLe.refl r⟩
  · generalize hv : a.eval x = v at hx'
    cases hx' with
    | pv _ _ _ b' h4 =>
      rw [h1] at h4
      cases h4
      have hrun := Lib.run_next_end_at (P := P) w b ⟨l.toArray⟩ pos o.type h2 (by simpa [ByteArray.size] using hp)
      simp only [execOp, ho, hv]
      simp [hrun]
  · match j, hj with
    | 0, _ => exact .b ..

end

section
variable {X : Ctx} {n : Nat} {all rest : List Oper} {fr : Fr} {ow : Ow} {tr : List (List Nat × List Nat)} {K : Fr → Ow → List (List Nat × List Nat) → Prop}
variable {t k pos : Nat} {ty ty' : TypeId} {ps : String} {af : Array Edge} {x : Operand} {l : List UInt8}

theorem range_aux (o : Oper) (ho : o.op = .range ty x) (hg : o.guard = none) (hds : o.dst = some t) (hty : B.ty ty = .str) (hx : ev fr x = .s l) (ht : look t ow = none) (hn : Nat.blt t n = true)
    (h : CT Tryd.prog X n all rest ((t, .pv t 0) :: fr) ((t, .ob (.stringIter ⟨l.toArray⟩ 0)) :: ow) (tr ++ [([t], [t])]) K) : CT Tryd.prog X n all (o :: rest) fr ow tr K := by
  have e := tb_eq
  have h1 := @range_step Tryd.prog X n o fr ow t ty x l
  have h2 := @h1 B e
  have h3 := h2 ho
  have h4 := h3 hty hx ht (by rw [hds]; exact Nat.le_of_ble_eq_true hn)
  refine CT.cons (e := ⟨.pv t 0, [t], [(t, .ob (.stringIter ⟨l.toArray⟩ 0))]⟩) (.plain hg h4) ?_ (fO_cons ..) h
  rw [hds]
  exact fF_cons ..

/-- A text's letters, from the first. -/
theorem r_range (hty : B.ty ty = .str) (hx : ev fr x = .s l) (ht : look t ow = none) (hn : Nat.blt t n = true)
    (h : CT Tryd.prog X n all rest ((t, .pv t 0) :: fr) ((t, .ob (.stringIter ⟨l.toArray⟩ 0)) :: ow) (tr ++ [([t], [t])]) K) : CT Tryd.prog X n all (⟨some t, .range ty x, ty', ps, af, none⟩ :: rest) fr ow tr K := by
  generalize ho : (⟨some t, .range ty x, ty', ps, af, none⟩ : Oper) = o
  exact range_aux o (by rw [← ho]) (by rw [← ho]) (by rw [← ho]) hty hx ht hn h

/-- The next letter: a single byte. -/
theorem r_next (hx : ev fr x = .pv k 0) (hk : look k ow = some (.ob (.stringIter ⟨l.toArray⟩ pos))) (hn : Nat.blt t n = true) (hp : pos < l.length) (hb : at' l pos < 128)
    (h : CT Tryd.prog X n all rest ((t, .tu [.b true, .i .i64 pos, .i .i32 (at' l pos)]) :: fr) ((k, .ob (.stringIter ⟨l.toArray⟩ (pos + 1))) :: ow) (tr ++ [([k], [k])]) K) :
    CT Tryd.prog X n all (⟨some t, .next x true, ty', ps, af, none⟩ :: rest) fr ow tr K :=
  CT.cons (e := ⟨.tu [.b true, .i .i64 pos, .i .i32 (at' l pos)], [k], [(k, .ob (.stringIter ⟨l.toArray⟩ (pos + 1)))]⟩) (.plain rfl (next_step (P := Tryd.prog) (X := X) (o := ⟨some t, .next x true, ty', ps, af, none⟩) rfl hx hk hp hb (Nat.le_of_ble_eq_true hn))) (fF_cons ..) (fO_cons ..) h

/-- No letter more. -/
theorem r_over (hx : ev fr x = .pv k 0) (hk : look k ow = some (.ob (.stringIter ⟨l.toArray⟩ pos))) (hn : Nat.blt t n = true) (hp : l.length ≤ pos)
    (h : CT Tryd.prog X n all rest ((t, .tu [.b false]) :: fr) ow (tr ++ [([k], [])]) K) : CT Tryd.prog X n all (⟨some t, .next x true, ty', ps, af, none⟩ :: rest) fr ow tr K :=
  CT.cons (e := ⟨.tu [.b false], [k], []⟩) (.plain rfl (over_step (P := Tryd.prog) (X := X) (o := ⟨some t, .next x true, ty', ps, af, none⟩) rfl hx hk hp (Nat.le_of_ble_eq_true hn))) (fF_cons ..) rfl h

end
end Go.Proofs.YtghdgjabpdfaoaaDoor.Flow

/-
  FLOW, PART W: AN ARRAY OF THE CALL's OWN, ITS ELEMENTS WRITTEN ONE BY ONE (a row of one element that changes), AND ITS END TAKEN AS A SLICE THAT NOBODY WRITES TO ANY MORE.
-/
namespace Go.Proofs.YtghdgjabpdfaoaaDoor.Flow
open Go

section
variable {P : Program} {X : Ctx} {n : Nat} {O : Nat → Option Own}

variable {o : Oper} {fr : Fr} {ow : Ow} {t k : Nat} {ty : TypeId} {x : Operand}

end

section
variable {X : Ctx} {n : Nat} {all rest : List Oper} {fr : Fr} {ow : Ow} {tr : List (List Nat × List Nat)} {K : Fr → Ow → List (List Nat × List Nat) → Prop}
variable {t k : Nat} {ty ty' : TypeId} {ps : String} {af : Array Edge} {x : Operand}

end
end Go.Proofs.YtghdgjabpdfaoaaDoor.Flow

/-
  FLOW, PART X: several objects lent to a callee that leaves them as they are; a new variable under a name of one's own.
-/
namespace Go.Proofs.YtghdgjabpdfaoaaDoor.Flow
open Go

theorem var_step {P : Program} {X : Ctx} {n : Nat} {o : Oper} {fr : Fr} {ow : Ow} {ty : TypeId} {k : Nat} {B' : Tb} {zd : D} (hB : tb P = B') (ho : o.op = .alloc ty) (hz : B'.zr ty = some zd) (hs : zd.solid = true) (h1 : zd.cells.all D.one = true) (hk : look k ow = none) (hd : dstOk o.dst n) :
    ∀ F' O', (∀ y ∈ o.op.operands.toList, evF F' y = evF (fF fr) y) → (∀ j ∈ [k], O' j = fO ow j) → StepAt P X n o F' O' (.pv k 0) [(k, .var zd.cells)] := by
  intro F' O' he hO
  have hz' : zeroD P ty = some zd := by subst hB; exact hz
  obtain ⟨i, zv, g1, g2, g3⟩ := zeroD_spec hz'
  refine stepAt_of hd fun a w S r hH hI hr => ?_
  have hk' : O' k = none := (hO k (by simp)).trans hk
  have hv := ofVal_rel S w r zv
  rw [← g3] at hv
  obtain ⟨S', r', q1, q2, q3, q4, q5, q6⟩ := box_ok ty hH hI hv hs h1 hk'
  refine ⟨_, _, S', r', .inl ?_, q1, q2, q3, q4, q5, q6⟩
  simp [execOp, ho, Instr.alloc, zeroValue, typeInfo, g1, g2, newVar, newRow]

section
variable {X : Ctx} {n : Nat} {all rest : List Oper} {fr : Fr} {ow : Ow} {tr : List (List Nat × List Nat)} {K : Fr → Ow → List (List Nat × List Nat) → Prop}
variable {t k : Nat} {op : Op} {ty ty' : TypeId} {ps : String} {af : Array Edge} {d : D} {f : FuncId} {args : List D} {g u : Nat} {want : Bool}

theorem var_aux {zd : D} (k : Nat) (o : Oper) (ho : o.op = .alloc ty) (hg : o.guard = none) (hds : o.dst = some t) (hz : B.zr ty = some zd) (hs : zd.solid = true) (h1 : zd.cells.all D.one = true) (hk : look k ow = none) (hn : Nat.blt t n = true)
    (h : CT Tryd.prog X n all rest ((t, .pv k 0) :: fr) ((k, .var zd.cells) :: ow) (tr ++ [([k], [k])]) K) : CT Tryd.prog X n all (o :: rest) fr ow tr K := by
  have e := tb_eq
  have h1' := @var_step Tryd.prog X n o fr ow ty k B zd e ho hz hs h1 hk (by rw [hds]; exact Nat.le_of_ble_eq_true hn)
  refine CT.cons (e := ⟨.pv k 0, [k], [(k, .var zd.cells)]⟩) (.plain hg h1') ?_ (fO_cons ..) h
  rw [hds]
  exact fF_cons ..

/-- A new variable under a name of one's own. -/
theorem r_varAt {zd : D} (k : Nat) (hz : B.zr ty = some zd) (hs : zd.solid = true) (h1 : zd.cells.all D.one = true) (hk : look k ow = none) (hn : Nat.blt t n = true)
    (h : CT Tryd.prog X n all rest ((t, .pv k 0) :: fr) ((k, .var zd.cells) :: ow) (tr ++ [([k], [k])]) K) : CT Tryd.prog X n all (⟨some t, .alloc ty, ty', ps, af, none⟩ :: rest) fr ow tr K := by
  generalize ho : (⟨some t, .alloc ty, ty', ps, af, none⟩ : Oper) = o
  exact var_aux k o (by rw [← ho]) (by rw [← ho]) (by rw [← ho]) hz hs h1 hk hn h
end

end Go.Proofs.YtghdgjabpdfaoaaDoor.Flow

/-
  FLOW, PART ZB: A TEXT TURNED INTO BYTES THAT ARE WRITTEN TO, AND BACK.
-/
namespace Go.Proofs.YtghdgjabpdfaoaaDoor.Flow
open Go

/-- Cells written ahead of a frozen range. -/
theorem run_storeCells_ahead (P : Program) (g o : Nat) (t : TypeId) (fz : Nat × Nat) (v : Value) (cur : Array Value) (w : World) (hg : w.heap[g]? = some (.cells cur t fz)) (hfz : o < fz.1) (hl : o < cur.size) (h1 : v.oneCell' = true) :
    (storeCells ⟨g, o, none⟩ [v] 0).run P w = .ok () (w.setRow g (cur.setIfInBounds o v)) := by
  have hadd : (⟨g, o, none⟩ : Addr).add 0 = ⟨g, o, none⟩ := by unfold Addr.add; split <;> simp_all
  have hcell : w.cell? ⟨g, o, none⟩ = some cur[o] := by simp [World.cell?, hg, hl]
  have hfro : w.frozen? ⟨g, o, none⟩ = false := by
    obtain ⟨lo, hi'⟩ := fz
    simp only [World.frozen?, hg, Bool.and_eq_false_iff, decide_eq_false_iff_not]
    left
    simp only at hfz
    omega
  have hst : (store ((⟨g, o, none⟩ : Addr).add 0) v).run P w = .ok () (w.setRow g (cur.setIfInBounds o v)) := by
    rw [hadd, run_store P w _ v _ h1, hcell]
    simp [hfro, setCell_eq_setRow w g o cur t fz v hg]
  simp [storeCells, Sem.run_bind, hst, Result.andThen_ok]

section
variable {P : Program} {X : Ctx} {n : Nat} {o : Oper} {fr : Fr} {ow : Ow} {t k : Nat} {ty src dst e : TypeId} {x y : Operand} {l : List UInt8} {len i : Nat} {f : Nat → Int}

theorem cvB_step (ho : o.op = .convert src dst x) (hs : P.underlying src = some .string) (hd' : P.underlying dst = some (.slice e)) (he' : P.underlying e = some (.int .u8)) (hx : ev fr x = .s l) (hl : l.length < maxLen) (hk : look k ow = none) (hd : dstOk o.dst n) :
    ∀ F' O', (∀ y ∈ o.op.operands.toList, evF F' y = evF (fF fr) y) → (∀ j ∈ [k], O' j = fO ow j) → StepAt P X n o F' O' (.ah k 1 l.length) [(k, .bm e l.length fun i => ((l.getD i 0).toNat : Int))] := by
  intro F' O' he hO
  refine stepAt_of hd fun a w S r hH hI hr => ?_
  have hk' : O' k = none := (hO k (by simp)).trans hk
  have hx' := hr x
  rw [he x (by simp [ho, Op.operands]), evF_fF, hx] at hx'
  generalize hv : a.eval x = vx at hx'
  cases hx'
  have hrun := run_bytes_of_string (P := P) w src dst e ⟨l.toArray⟩ hs hd' he'
  have hsz : (ByteArray.mk l.toArray).size = l.length := by simp [ByteArray.size]
  rw [hsz] at hrun
  have hge := grownCap_ge w l.length 0 e
  have hcm := grownCap_le_maxLen w l.length 0 e (by omega)
  generalize hcap : grownCap w l.length 0 e = cap at *
  have hc := Chg.drewAlloc w S hH.valid (.cells (bytesRow ⟨l.toArray⟩ cap) e ((bytesRow ⟨l.toArray⟩ cap).size, (bytesRow ⟨l.toArray⟩ cap).size + 1)) none
  have hle : RhoLe r (updR r k (.row (.slice (some ⟨w.heap.size, 0, none⟩) l.length cap) l.length)) := RhoLe.new (hI.dom k hk')
  have hk0 : updR r k (.row (.slice (some ⟨w.heap.size, 0, none⟩) l.length cap) l.length) k = some (.row (.slice (some ⟨w.heap.size, 0, none⟩) l.length cap) l.length) := by simp [updR]
  refine ⟨_, _, S, _, .inl (by simp [execOp, ho, hv, hrun]), .ah _ k 1 l.length cap _ _ l.length hk0 (Nat.le_refl _) (fun _ => .refl _) (fun _ => ⟨_, rfl⟩), hH.chg hc (fun b hb => by cases hb) (fun _ _ h => h) (fun _ _ h => .inl h), ?_, fun _ _ h => h, hc.cell, hle⟩
  refine hI.put hc (fun _ _ h => h) hle k _ _ ⟨w.heap.size, cap, _, hk0, heap_alloc_new w.drew _, hge, hcm, ?_, fun i hi => ?_, fun o ho => by have := hH.valid _ _ ho; omega⟩ hk0 (fun j hj => by simp [updR, hj]) (fun b hb => ?_) (fun b hb => by cases hb) (fun b o h => .inl h)
  · simp [bytesRow]
  · simp only [bytesRow, List.map_toArray, Array.getD_eq_getD_getElem?]
    rw [Array.getElem?_append_left (by simpa using hi)]
    simp [hi, List.getD_eq_getElem?_getD]
  · simp only [Loc.block, Option.some.injEq] at hb
    subst hb
    exact .inl ⟨Nat.le_refl _, .inl hH.size⟩

theorem ldB_step {B' : Tb} (hB : tb P = B') (ho : o.op = .load ty x) (hz : B'.sz ty = some (1, false)) (hx : ev fr x = .ap k 1 len i 0) (hk : look k ow = some (.bm e len f)) (hi : i < len) (hd : dstOk o.dst n) :
    ∀ F' O', (∀ y ∈ o.op.operands.toList, evF F' y = evF (fF fr) y) → (∀ j ∈ [k], O' j = fO ow j) → StepAt P X n o F' O' (.i .u8 (f i)) [] := by
  intro F' O' he hO
  have hz' : szOf P ty = some (1, false) := by subst hB; exact hz
  refine stepAt_of hd fun a w S r hH hI hr => ?_
  have hx' := hr x
  rw [he x (by simp [ho, Op.operands]), evF_fF, hx] at hx'
  obtain ⟨g, cap, cur, h1, h2, h3, h4, h5, h6, h7⟩ := hI.obj k _ ((hO k (by simp)).trans hk)
  generalize hv : a.eval x = vx at hx'
  cases hx' with
  | ap _ _ _ _ _ _ ad tv L' q1 q2 q3 q4 =>
    rw [h1] at q1
    cases q1
    obtain ⟨g', cap', q5, rfl⟩ := q3 rfl
    cases q5
    obtain ⟨v, r1, r2⟩ := run_load_part (P := P) (w := w) (S := S) (o := i * 1) (b := g) (off := 0) (cs := [.i .u8 (f i)]) (c := fun j => cur.getD (i + j) undef) (r := noRho) hz' (Nat.le_refl 1) (fun j hj => by
      obtain rfl : j = 0 := by simpa using hj
      rw [cell_of_row w g _ cur e _ h2]
      simp [Array.getD_eq_getD_getElem?, show i < cur.size by omega]) (fun j hj => by
      obtain rfl : j = 0 := by simpa using hj
      rw [Nat.add_zero, h6 i hi]
      exact .i ..)
    rw [Nat.mul_one, Nat.add_zero] at r1 hv
    exact fin_value hH hI rfl (by simp [execOp, ho, hv, r1]) (r2.mono (fun _ _ h => h) (fun _ _ _ => rfl) r (fun k l h => by simp [noRho] at h))

theorem stB_step {B' : Tb} {m : Int} (hB : tb P = B') (ho : o.op = .store ty x y) (hz : B'.sz ty = some (1, false)) (hx : ev fr x = .ap k 1 len i 0) (hy : ev fr y = .i .u8 m) (hk : look k ow = some (.bm e len f)) (hi : i < len) (hd : dstOk o.dst n) :
    ∀ F' O', (∀ y ∈ o.op.operands.toList, evF F' y = evF (fF fr) y) → (∀ j ∈ [k], O' j = fO ow j) → StepAt P X n o F' O' .any [(k, .bm e len fun j => if j = i then m else f j)] := by
  intro F' O' he hO
  have hz' : szOf P ty = some (1, false) := by subst hB; exact hz
  refine stepAt_of hd fun a w S r hH hI hr => ?_
  have hx' := hr x
  rw [he x (by simp [ho, Op.operands]), evF_fF, hx] at hx'
  have hy' := hr y
  rw [he y (by simp [ho, Op.operands]), evF_fF, hy] at hy'
  have hkO := (hO k (by simp)).trans hk
  obtain ⟨g, cap, cur, h1, h2, h3, h4, h5, h6, h7⟩ := hI.obj k _ hkO
  generalize hv : a.eval x = vx at hx'
  generalize hvy : a.eval y = vy at hy'
  cases hy'
  cases hx' with
  | ap _ _ _ _ _ _ ad tv L' q1 q2 q3 q4 =>
    rw [h1] at q1
    cases q1
    obtain ⟨g', cap', q5, rfl⟩ := q3 rfl
    cases q5
    have hs := run_sizeOf (w := w) hz'
    have hst := run_storeCells_ahead P g i e _ (.int .u8 m) cur w h2 (by show i < cur.size; omega) (by omega) rfl
    have hb0 : (Loc.row (.slice (some ⟨g, 0, none⟩) len cap) len).block = some g := rfl
    have hch := Chg.setRow w S g cur (cur.setIfInBounds i (.int .u8 m)) e _ h2 (fun o ho => absurd ho (h7 o))
    have hrun : (Instr.storeAt ty (.pointer (some ⟨g, i, none⟩)) (.int .u8 m)).run P w = .ok () (w.setRow g (cur.setIfInBounds i (.int .u8 m))) := by
      simp only [Instr.storeAt, Instr.sureAddr, storeVar, Sem.run_bind, Sem.run_pure, Result.andThen_ok, hs]
      rw [if_neg (by simp [Value.cells])]
      exact hst
    rw [Nat.mul_one, Nat.add_zero] at hv
    refine ⟨undef, w.setRow g (cur.setIfInBounds i (.int .u8 m)), S, r, .inr ⟨by simp [execOp, ho, hv, hvy, hrun], rfl⟩, .any .., ?_, ?_, fun _ _ h => h, hch.cell, RhoLe.refl r⟩
    · exact hH.chg hch (fun b' hb' => by cases hb'; exact hI.low k _ g h1 hb0) (fun _ _ h => h) (fun _ _ h => .inl h)
    · refine hI.put hch (fun _ _ h => h) (RhoLe.refl r) k _ _ ⟨g, cap, cur.setIfInBounds i (.int .u8 m), h1, ?_, h3, h4, ?_, fun j hj => ?_, h7⟩ h1 (fun _ _ => rfl) (fun b' hb' => .inr ⟨_, h1, hb'⟩) (fun b' hb' => ⟨_, h1, by cases hb'; rfl⟩) (fun _ _ h => .inl h)
      · rw [setRow_heap w g cur _ e _ h2]
        simp
      · simpa using h5
      · by_cases hji : j = i
        · subst hji
          simp [Array.getD_eq_getD_getElem?, show j < cur.size by omega]
        · show _ = Value.int .u8 (if j = i then m else f j)
          rw [if_neg hji, ← h6 j hj]
          simp [Array.getD_eq_getD_getElem?, Array.getElem?_setIfInBounds, Ne.symm hji]

/-- The bytes that the numbers are. -/
def bmL (len : Nat) (f : Nat → Int) : List UInt8 := (List.range len).map fun i => UInt8.ofNat (f i).toNat

theorem strB_step (ho : o.op = .convert src dst x) (hs : P.underlying src = some (.slice e)) (he' : P.underlying e = some (.int .u8)) (hd' : P.underlying dst = some .string) (hx : ev fr x = .ah k 1 len) (hk : look k ow = some (.bm e len f)) (hf : ∀ i, i < len → 0 ≤ f i ∧ f i < 256) (hd : dstOk o.dst n) :
    ∀ F' O', (∀ y ∈ o.op.operands.toList, evF F' y = evF (fF fr) y) → (∀ j ∈ [k], O' j = fO ow j) → StepAt P X n o F' O' (.s (bmL len f)) [] := by
  intro F' O' he hO
  refine stepAt_of hd fun a w S r hH hI hr => ?_
  have hx' := hr x
  rw [he x (by simp [ho, Op.operands]), evF_fF, hx] at hx'
  obtain ⟨g, cap, cur, h1, h2, h3, h4, h5, h6, h7⟩ := hI.obj k _ ((hO k (by simp)).trans hk)
  generalize hv : a.eval x = vx at hx'
  cases hx' with
  | ah _ _ _ _ cap' a' tv L' q1 q2 q3 q4 =>
    rw [h1] at q1
    cases q1
    rcases q3 rfl with q5 | ⟨q5, _⟩
    · cases q5
      have hlen : (bmL len f).length = len := by simp [bmL]
      have hrun := run_convert_bytes_back (P := P) w src dst e ⟨g, 0, none⟩ cap (bmL len f) hs he' hd' (fun j hj => by
        rw [hlen] at hj
        have hadd : (⟨g, 0, none⟩ : Addr).add j = ⟨g, j, none⟩ := by unfold Addr.add; split <;> simp_all
        rw [hadd, cell_of_row w g _ cur e _ h2]
        have h8 := h6 j hj
        rw [Array.getD_eq_getD_getElem?, Array.getElem?_eq_getElem (by omega), Option.getD_some] at h8
        rw [Array.getElem?_eq_getElem (by omega), h8]
        obtain ⟨f1, f2⟩ := hf j hj
        have : ((bmL len f)[j]).toNat = (f j).toNat := by
          simp only [bmL, List.getElem_map, List.getElem_range]
          rw [UInt8.toNat_ofNat']
          omega
        rw [this, Int.toNat_of_nonneg f1])
      rw [hlen] at hrun
      exact fin_value hH hI rfl (by simp [execOp, ho, hv, hrun]) (.s _ _)
    · cases q5

end

section
variable {X : Ctx} {n : Nat} {all rest : List Oper} {fr : Fr} {ow : Ow} {tr : List (List Nat × List Nat)} {K : Fr → Ow → List (List Nat × List Nat) → Prop}
variable {t k : Nat} {ty ty' src dst e : TypeId} {ps : String} {af : Array Edge} {x y : Operand} {l : List UInt8} {len i : Nat} {f : Nat → Int} {m : Int}

set_option maxRecDepth 100000 in
/-- A text turned into bytes that are written to. -/
theorem r_cvB (hs : Tryd.prog.underlying src = some .string) (hd' : Tryd.prog.underlying dst = some (.slice e)) (he' : Tryd.prog.underlying e = some (.int .u8)) (hx : ev fr x = .s l) (hl : l.length < 9223372036854775807) (hk : look t ow = none) (hn : Nat.blt t n = true)
    (h : CT Tryd.prog X n all rest ((t, .ah t 1 l.length) :: fr) ((t, .bm e l.length fun i => ((l.getD i 0).toNat : Int)) :: ow) (tr ++ [([t], [t])]) K) : CT Tryd.prog X n all (⟨some t, .convert src dst x, ty', ps, af, none⟩ :: rest) fr ow tr K :=
  CT.cons (e := ⟨.ah t 1 l.length, [t], [(t, .bm e l.length fun i => ((l.getD i 0).toNat : Int))]⟩) (.plain rfl (cvB_step (o := ⟨some t, .convert src dst x, ty', ps, af, none⟩) rfl hs hd' he' hx hl hk (show t < n by simpa using hn))) (fF_cons ..) (fO_cons ..) h

theorem r_ldB (hz : B.sz ty = some (1, false)) (hx : ev fr x = .ap k 1 len i 0) (hk : look k ow = some (.bm e len f)) (hi : i < len) (hn : Nat.blt t n = true)
    (h : CT Tryd.prog X n all rest ((t, .i .u8 (f i)) :: fr) ow (tr ++ [([k], [])]) K) : CT Tryd.prog X n all (⟨some t, .load ty x, ty', ps, af, none⟩ :: rest) fr ow tr K :=
  CT.cons (e := ⟨.i .u8 (f i), [k], []⟩) (.plain rfl (ldB_step (o := ⟨some t, .load ty x, ty', ps, af, none⟩) tb_eq rfl hz hx hk hi (show t < n by simpa using hn))) (fF_cons ..) rfl h

theorem r_stB (hz : B.sz ty = some (1, false)) (hx : ev fr x = .ap k 1 len i 0) (hy : ev fr y = .i .u8 m) (hk : look k ow = some (.bm e len f)) (hi : i < len)
    (h : CT Tryd.prog X n all rest fr ((k, .bm e len fun j => if j = i then m else f j) :: ow) (tr ++ [([k], [k])]) K) : CT Tryd.prog X n all (⟨none, .store ty x y, ty', ps, af, none⟩ :: rest) fr ow tr K :=
  CT.cons (e := ⟨.any, [k], [(k, .bm e len fun j => if j = i then m else f j)]⟩) (.plain rfl (stB_step (o := ⟨none, .store ty x y, ty', ps, af, none⟩) tb_eq rfl hz hx hy hk hi trivial)) rfl (fO_cons ..) h

set_option maxRecDepth 100000 in
theorem r_strB (hs : Tryd.prog.underlying src = some (.slice e)) (he' : Tryd.prog.underlying e = some (.int .u8)) (hd' : Tryd.prog.underlying dst = some .string) (hx : ev fr x = .ah k 1 len) (hk : look k ow = some (.bm e len f)) (hf : ∀ i, i < len → 0 ≤ f i ∧ f i < 256) (hn : Nat.blt t n = true)
    (h : CT Tryd.prog X n all rest ((t, .s (bmL len f)) :: fr) ow (tr ++ [([k], [])]) K) : CT Tryd.prog X n all (⟨some t, .convert src dst x, ty', ps, af, none⟩ :: rest) fr ow tr K :=
  CT.cons (e := ⟨.s (bmL len f), [k], []⟩) (.plain rfl (strB_step (o := ⟨some t, .convert src dst x, ty', ps, af, none⟩) rfl hs he' hd' hx hk hf (show t < n by simpa using hn))) (fF_cons ..) rfl h
end

end Go.Proofs.YtghdgjabpdfaoaaDoor.Flow

/- BYTES: rows of bytes, and what bit operations do to small numbers. -/
namespace Go.Proofs.YtghdgjabpdfaoaaDoor.Flow
open Go

/-- A temporary is told by less. -/
theorem T.weakF {P : Program} {X : Ctx} {n : Nat} {fr : Fr} {ow : Ow} {Q : Exit → Fr → Ow → Prop} {c : Code} (t : Nat) (d : D) (hw : Weak (getD' t fr) d) (h : T P X n c ((t, d) :: fr) ow Q) : T P X n c fr ow Q := fun a w hr => h a w (by
  obtain ⟨S, r, hH, hI, hF, hd, hn, hρ⟩ := hr
  refine ⟨S, r, hH, hI, fun u => ?_, hd, hn, hρ⟩
  rw [fF_cons]
  show Rel _ _ _ (if u = t then _ else fF fr u) _
  by_cases e : u = t
  · subst e
    rw [if_pos rfl]
    exact (hF u).weak hw
  · rw [if_neg e]
    exact hF u)

theorem byte_eq (x : UInt8) (n : Nat) (h : n < 256) : (x.toNat : Int) = n ↔ x = UInt8.ofNat n := by
  constructor
  · intro h1
    have h2 : x.toNat = n := by exact_mod_cast h1
    apply UInt8.toNat.inj
    simp [h2]; omega
  · intro h1
    subst h1
    simp; omega

theorem at_eq (s : List UInt8) (i : Int) (n : Nat) (h : n < 256) : at' s i = n ↔ s.getD i.toNat 0 = UInt8.ofNat n := byte_eq _ n h
theorem at_range (s : List UInt8) (i : Int) : 0 ≤ at' s i ∧ at' s i < 256 := by
  have := (s.getD i.toNat 0).toNat_lt
  unfold at'
  omega

theorem bytesOf_bytesF (l : List UInt8) : bytesOf l.length (bytesF l) = l := by
  apply List.ext_getElem
  · simp [bytesOf]
  · intro n h1 h2
    simp [bytesOf, bytesF, byteOf, h2]

theorem bytesF_one (l : List UInt8) : ∀ i, i < l.length → ∃ n, bytesF l i = [.i .u8 n] := fun i _ => ⟨_, rfl⟩

/-- A number as a byte. -/
def by8 (n : Int) : UInt8 := UInt8.ofNat n.toNat
theorem by8_nat (n : Int) (h : 0 ≤ n) (h2 : n < 256) : ((by8 n).toNat : Int) = n := by
  unfold by8
  have : n.toNat < 256 := by omega
  simp
  omega
theorem by8_at (s : List UInt8) (i : Int) : by8 (at' s i) = s.getD i.toNat 0 := by
  unfold by8 at'
  simp

theorem wrap_u8 (n : Int) : IntKind.u8.wrap n = n % 256 := by simp [IntKind.wrap, IntKind.bits, IntKind.signed]
theorem wrap_i32 (n : Int) (h : -2147483648 ≤ n) (h2 : n < 2147483648) : IntKind.i32.wrap n = n := by
  simp [IntKind.wrap, IntKind.bits, IntKind.signed]
  omega
theorem wrap_u64' (n : Int) : IntKind.u64.wrap n = n % 18446744073709551616 := by simp [IntKind.wrap, IntKind.bits, IntKind.signed]
theorem wrap_u32' (n : Int) : IntKind.u32.wrap n = n % 4294967296 := by simp [IntKind.wrap, IntKind.bits, IntKind.signed]
theorem wrap_u32 (n : Int) (h : 0 ≤ n) (h2 : n < 4294967296) : IntKind.u32.wrap n = n := by
  simp [IntKind.wrap, IntKind.bits, IntKind.signed]
  omega

end Go.Proofs.YtghdgjabpdfaoaaDoor.Flow

/- The library's contracts that this seat's proofs use, laid by the kit's command over this translation, in plain words. -/
namespace Go.Proofs
open Go.Shelf
def Tryd.lays161_ren : Go.Shelf.Ren := ⟨fun | 161 => 95 | 231 => 87 | 227 => 89 | 233 => 90 | 235 => 92 | 228 => 108 | 197 => 99 | 151 => 109 | 260 => 114 | 152 => 106 | 137 => 38 | 119 => 120 | 224 => 112 | 225 => 111 | 217 => 63 | 266 => 84 | n => n, fun | 9 => 9 | 4 => 4 | 3 => 3 | 5 => 5 | 117 => 90 | 116 => 89 | 0 => 0 | 124 => 93 | 105 => 96 | 21 => 21 | 119 => 115 | 46 => 81 | 139 => 118 | 138 => 117 | n => n, fun | 3 => 2 | 4 => 3 | n => n⟩
theorem Tryd.lays161 : Go.Proofs.Lays.n161 Tryd.prog Tryd.lays161_ren := {
  mixed := by kernel_rfl
  f119 := Tryd.func120.trans (congrArg some (by kernel_rfl))
  f137 := Tryd.func38.trans (congrArg some (by kernel_rfl))
  f151 := Tryd.func109.trans (congrArg some (by kernel_rfl))
  f152 := Tryd.func106.trans (congrArg some (by kernel_rfl))
  f161 := Tryd.func95.trans (congrArg some (by kernel_rfl))
  f197 := Tryd.func99.trans (congrArg some (by kernel_rfl))
  f217 := Tryd.func63.trans (congrArg some (by kernel_rfl))
  f224 := Tryd.func112.trans (congrArg some (by kernel_rfl))
  f225 := Tryd.func111.trans (congrArg some (by kernel_rfl))
  f227 := Tryd.func89.trans (congrArg some (by kernel_rfl))
  f228 := Tryd.func108.trans (congrArg some (by kernel_rfl))
  f231 := Tryd.func87.trans (congrArg some (by kernel_rfl))
  f233 := Tryd.func90.trans (congrArg some (by kernel_rfl))
  f235 := Tryd.func92.trans (congrArg some (by kernel_rfl))
  f260 := Tryd.func114.trans (congrArg some (by kernel_rfl))
  f266 := Tryd.func84.trans (congrArg some (by kernel_rfl))
  t0 := Tryd.underlying0
  a0 := Tryd.isAgg0
  z0 := Tryd.sizeOf0
  v0 := Tryd.zeroValue0
  t3 := Tryd.underlying3
  a3 := Tryd.isAgg3
  z3 := Tryd.sizeOf3
  v3 := Tryd.zeroValue3
  t4 := Tryd.underlying4
  a4 := Tryd.isAgg4
  z4 := Tryd.sizeOf4
  v4 := Tryd.zeroValue4
  t5 := Tryd.underlying5
  a5 := Tryd.isAgg5
  z5 := Tryd.sizeOf5
  v5 := Tryd.zeroValue5
  t9 := Tryd.underlying9
  a9 := Tryd.isAgg9
  z9 := Tryd.sizeOf9
  v9 := Tryd.zeroValue9
  t21 := Tryd.underlying21
  a21 := Tryd.isAgg21
  z21 := Tryd.sizeOf21
  v21 := Tryd.zeroValue21
  t46 := Tryd.underlying81
  a46 := Tryd.isAgg81
  z46 := Tryd.sizeOf81
  v46 := Tryd.zeroValue81
  t105 := Tryd.underlying96
  a105 := Tryd.isAgg96
  z105 := Tryd.sizeOf96
  v105 := Tryd.zeroValue96
  t116 := Tryd.underlying89
  a116 := Tryd.isAgg89
  z116 := Tryd.sizeOf89
  t117 := Tryd.underlying90
  a117 := Tryd.isAgg90
  z117 := Tryd.sizeOf90
  v117 := Tryd.zeroValue90
  t119 := Tryd.underlying115
  a119 := Tryd.isAgg115
  z119 := Tryd.sizeOf115
  t124 := Tryd.underlying93
  a124 := Tryd.isAgg93
  z124 := Tryd.sizeOf93
  v124 := Tryd.zeroValue93
  t138 := Tryd.underlying117
  a138 := Tryd.isAgg117
  z138 := Tryd.sizeOf117
  v138 := Tryd.zeroValue117
  t139 := Tryd.underlying118
  a139 := Tryd.isAgg118
  z139 := Tryd.sizeOf118
  v139 := Tryd.zeroValue118
  g3 := by kernel_rfl
  g4 := by kernel_rfl }
open Go.RowKit in
/-- strings.TrimLeft: "TrimLeft returns a slice of the string s with all leading Unicode code points contained in cutset removed.": AT A cutset OF ONE ASCII BYTE. The world is as it was. (LAID: no walk: one application.) -/
theorem Tryd.strings_TrimLeft_one (s : ByteArray) (c : UInt8) (hc : c.toNat < 128) (w : World) :
    Calls Tryd.prog 95 #[.string s, .string ⟨#[c]⟩] w fun e w' => e = .returned (.string ⟨(Lib.trimLeftB s.data.toList c).toArray⟩) ∧ w' = w := Any.strings_TrimLeft_one Tryd.lays161 s c hc w
def Tryd.lays162_ren : Go.Shelf.Ren := ⟨fun | 162 => 83 | 232 => 88 | 227 => 89 | 234 => 91 | 236 => 93 | 228 => 108 | 271 => 110 | 151 => 109 | 120 => 121 | 197 => 99 | 152 => 106 | 260 => 114 | 137 => 38 | 119 => 120 | 224 => 112 | 225 => 111 | 217 => 63 | 266 => 84 | n => n, fun | 9 => 9 | 4 => 4 | 3 => 3 | 5 => 5 | 117 => 90 | 116 => 89 | 0 => 0 | 124 => 93 | 21 => 21 | 105 => 96 | 46 => 81 | 119 => 115 | 139 => 118 | 138 => 117 | n => n, fun | 3 => 2 | 4 => 3 | n => n⟩
theorem Tryd.lays162 : Go.Proofs.Lays.n162 Tryd.prog Tryd.lays162_ren := {
  mixed := by kernel_rfl
  f119 := Tryd.func120.trans (congrArg some (by kernel_rfl))
  f120 := Tryd.func121.trans (congrArg some (by kernel_rfl))
  f137 := Tryd.func38.trans (congrArg some (by kernel_rfl))
  f151 := Tryd.func109.trans (congrArg some (by kernel_rfl))
  f152 := Tryd.func106.trans (congrArg some (by kernel_rfl))
  f162 := Tryd.func83.trans (congrArg some (by kernel_rfl))
  f197 := Tryd.func99.trans (congrArg some (by kernel_rfl))
  f217 := Tryd.func63.trans (congrArg some (by kernel_rfl))
  f224 := Tryd.func112.trans (congrArg some (by kernel_rfl))
  f225 := Tryd.func111.trans (congrArg some (by kernel_rfl))
  f227 := Tryd.func89.trans (congrArg some (by kernel_rfl))
  f228 := Tryd.func108.trans (congrArg some (by kernel_rfl))
  f232 := Tryd.func88.trans (congrArg some (by kernel_rfl))
  f234 := Tryd.func91.trans (congrArg some (by kernel_rfl))
  f236 := Tryd.func93.trans (congrArg some (by kernel_rfl))
  f260 := Tryd.func114.trans (congrArg some (by kernel_rfl))
  f266 := Tryd.func84.trans (congrArg some (by kernel_rfl))
  f271 := Tryd.func110.trans (congrArg some (by kernel_rfl))
  t0 := Tryd.underlying0
  a0 := Tryd.isAgg0
  z0 := Tryd.sizeOf0
  v0 := Tryd.zeroValue0
  t3 := Tryd.underlying3
  a3 := Tryd.isAgg3
  z3 := Tryd.sizeOf3
  v3 := Tryd.zeroValue3
  t4 := Tryd.underlying4
  a4 := Tryd.isAgg4
  z4 := Tryd.sizeOf4
  v4 := Tryd.zeroValue4
  t5 := Tryd.underlying5
  a5 := Tryd.isAgg5
  z5 := Tryd.sizeOf5
  v5 := Tryd.zeroValue5
  t9 := Tryd.underlying9
  a9 := Tryd.isAgg9
  z9 := Tryd.sizeOf9
  v9 := Tryd.zeroValue9
  t21 := Tryd.underlying21
  a21 := Tryd.isAgg21
  z21 := Tryd.sizeOf21
  v21 := Tryd.zeroValue21
  t46 := Tryd.underlying81
  a46 := Tryd.isAgg81
  z46 := Tryd.sizeOf81
  v46 := Tryd.zeroValue81
  t105 := Tryd.underlying96
  a105 := Tryd.isAgg96
  z105 := Tryd.sizeOf96
  v105 := Tryd.zeroValue96
  t116 := Tryd.underlying89
  a116 := Tryd.isAgg89
  z116 := Tryd.sizeOf89
  t117 := Tryd.underlying90
  a117 := Tryd.isAgg90
  z117 := Tryd.sizeOf90
  v117 := Tryd.zeroValue90
  t119 := Tryd.underlying115
  a119 := Tryd.isAgg115
  z119 := Tryd.sizeOf115
  t124 := Tryd.underlying93
  a124 := Tryd.isAgg93
  z124 := Tryd.sizeOf93
  v124 := Tryd.zeroValue93
  t138 := Tryd.underlying117
  a138 := Tryd.isAgg117
  z138 := Tryd.sizeOf117
  v138 := Tryd.zeroValue117
  t139 := Tryd.underlying118
  a139 := Tryd.isAgg118
  z139 := Tryd.sizeOf118
  v139 := Tryd.zeroValue118
  g3 := by kernel_rfl
  g4 := by kernel_rfl }
open Go.RowKit in
/-- strings.TrimRight: "TrimRight returns a slice of the string s, with all trailing Unicode code points contained in cutset removed.": AT A cutset OF ONE ASCII BYTE. The world is as it was. (LAID: no walk: one application.) -/
theorem Tryd.strings_TrimRight_one (s : ByteArray) (c : UInt8) (hc : c.toNat < 128) (w : World) (hs : s.size ≤ 9223372036854775807) :
    Calls Tryd.prog 83 #[.string s, .string ⟨#[c]⟩] w fun e w' => e = .returned (.string ⟨(Lib.trimRightB s.data.toList c).toArray⟩) ∧ w' = w := Any.strings_TrimRight_one Tryd.lays162 s c hc w hs
def Tryd.lays160_ren : Go.Shelf.Ren := ⟨fun | 160 => 67 | 232 => 88 | 231 => 87 | 227 => 89 | 234 => 91 | 233 => 90 | 236 => 93 | 235 => 92 | 228 => 108 | 271 => 110 | 151 => 109 | 197 => 99 | 120 => 121 | 152 => 106 | 260 => 114 | 137 => 38 | 119 => 120 | 224 => 112 | 225 => 111 | 217 => 63 | 266 => 84 | n => n, fun | 9 => 9 | 4 => 4 | 3 => 3 | 5 => 5 | 117 => 90 | 116 => 89 | 0 => 0 | 124 => 93 | 21 => 21 | 105 => 96 | 46 => 81 | 119 => 115 | 139 => 118 | 138 => 117 | n => n, fun | 3 => 2 | 4 => 3 | n => n⟩
theorem Tryd.lays160 : Go.Proofs.Lays.n160 Tryd.prog Tryd.lays160_ren := {
  mixed := by kernel_rfl
  f119 := Tryd.func120.trans (congrArg some (by kernel_rfl))
  f120 := Tryd.func121.trans (congrArg some (by kernel_rfl))
  f137 := Tryd.func38.trans (congrArg some (by kernel_rfl))
  f151 := Tryd.func109.trans (congrArg some (by kernel_rfl))
  f152 := Tryd.func106.trans (congrArg some (by kernel_rfl))
  f160 := Tryd.func67.trans (congrArg some (by kernel_rfl))
  f197 := Tryd.func99.trans (congrArg some (by kernel_rfl))
  f217 := Tryd.func63.trans (congrArg some (by kernel_rfl))
  f224 := Tryd.func112.trans (congrArg some (by kernel_rfl))
  f225 := Tryd.func111.trans (congrArg some (by kernel_rfl))
  f227 := Tryd.func89.trans (congrArg some (by kernel_rfl))
  f228 := Tryd.func108.trans (congrArg some (by kernel_rfl))
  f231 := Tryd.func87.trans (congrArg some (by kernel_rfl))
  f232 := Tryd.func88.trans (congrArg some (by kernel_rfl))
  f233 := Tryd.func90.trans (congrArg some (by kernel_rfl))
  f234 := Tryd.func91.trans (congrArg some (by kernel_rfl))
  f235 := Tryd.func92.trans (congrArg some (by kernel_rfl))
  f236 := Tryd.func93.trans (congrArg some (by kernel_rfl))
  f260 := Tryd.func114.trans (congrArg some (by kernel_rfl))
  f266 := Tryd.func84.trans (congrArg some (by kernel_rfl))
  f271 := Tryd.func110.trans (congrArg some (by kernel_rfl))
  t0 := Tryd.underlying0
  a0 := Tryd.isAgg0
  z0 := Tryd.sizeOf0
  v0 := Tryd.zeroValue0
  t3 := Tryd.underlying3
  a3 := Tryd.isAgg3
  z3 := Tryd.sizeOf3
  v3 := Tryd.zeroValue3
  t4 := Tryd.underlying4
  a4 := Tryd.isAgg4
  z4 := Tryd.sizeOf4
  v4 := Tryd.zeroValue4
  t5 := Tryd.underlying5
  a5 := Tryd.isAgg5
  z5 := Tryd.sizeOf5
  v5 := Tryd.zeroValue5
  t9 := Tryd.underlying9
  a9 := Tryd.isAgg9
  z9 := Tryd.sizeOf9
  v9 := Tryd.zeroValue9
  t21 := Tryd.underlying21
  a21 := Tryd.isAgg21
  z21 := Tryd.sizeOf21
  v21 := Tryd.zeroValue21
  t46 := Tryd.underlying81
  a46 := Tryd.isAgg81
  z46 := Tryd.sizeOf81
  v46 := Tryd.zeroValue81
  t105 := Tryd.underlying96
  a105 := Tryd.isAgg96
  z105 := Tryd.sizeOf96
  v105 := Tryd.zeroValue96
  t116 := Tryd.underlying89
  a116 := Tryd.isAgg89
  z116 := Tryd.sizeOf89
  t117 := Tryd.underlying90
  a117 := Tryd.isAgg90
  z117 := Tryd.sizeOf90
  v117 := Tryd.zeroValue90
  t119 := Tryd.underlying115
  a119 := Tryd.isAgg115
  z119 := Tryd.sizeOf115
  t124 := Tryd.underlying93
  a124 := Tryd.isAgg93
  z124 := Tryd.sizeOf93
  v124 := Tryd.zeroValue93
  t138 := Tryd.underlying117
  a138 := Tryd.isAgg117
  z138 := Tryd.sizeOf117
  v138 := Tryd.zeroValue117
  t139 := Tryd.underlying118
  a139 := Tryd.isAgg118
  z139 := Tryd.sizeOf118
  v139 := Tryd.zeroValue118
  g3 := by kernel_rfl
  g4 := by kernel_rfl }
open Go.RowKit in
/-- strings.Trim: "Trim returns a slice of the string s with all leading and trailing Unicode code points contained in cutset removed.": AT A cutset OF ONE ASCII BYTE. THE WORLD BEHIND IT: as it was, or (where s is not empty) with ONE DRAW MORE off the tape: the statement 'return trimLeftByte(trimRightByte(s, c), c)' draws its order of evaluation. (LAID: no walk: one application.) -/
theorem Tryd.strings_Trim_one (s : ByteArray) (c : UInt8) (hc : c.toNat < 128) (w : World) (hs : s.size ≤ 9223372036854775807) :
    Calls Tryd.prog 67 #[.string s, .string ⟨#[c]⟩] w fun e w' => e = .returned (.string ⟨(Lib.trimB s.data.toList c).toArray⟩) ∧ (w' = w ∨ w' = w.drew) := Any.strings_Trim_one Tryd.lays160 s c hc w hs
def Tryd.lays137_ren : Go.Shelf.Ren := ⟨fun | 137 => 38 | 217 => 63 | 266 => 84 | n => n, fun | 9 => 9 | 5 => 5 | 3 => 3 | n => n, fun | n => n⟩
theorem Tryd.lays137 : Go.Proofs.Lays.n137 Tryd.prog Tryd.lays137_ren := {
  mixed := by kernel_rfl
  f137 := Tryd.func38.trans (congrArg some (by kernel_rfl))
  f217 := Tryd.func63.trans (congrArg some (by kernel_rfl))
  f266 := Tryd.func84.trans (congrArg some (by kernel_rfl))
  t3 := Tryd.underlying3
  a3 := Tryd.isAgg3
  z3 := Tryd.sizeOf3
  v3 := Tryd.zeroValue3
  t5 := Tryd.underlying5
  a5 := Tryd.isAgg5
  z5 := Tryd.sizeOf5
  v5 := Tryd.zeroValue5
  t9 := Tryd.underlying9
  a9 := Tryd.isAgg9
  z9 := Tryd.sizeOf9
  v9 := Tryd.zeroValue9 }
open Go.RowKit in
/-- strings.IndexByte: "IndexByte returns the index of the first instance of c in s, or -1 if c is not present in s.": IT RETURNS 'Lib.indexByte s c'; the world is as it was. (LAID: no walk: one application.) -/
theorem Tryd.strings_IndexByte (s : ByteArray) (c : Int) (w : World) :
    Calls Tryd.prog 38 #[.string s, .int .u8 c] w fun e w' => e = .returned (.int .i64 (Lib.indexByte s.data.toList c.toNat.toUInt8)) ∧ w' = w := Any.strings_IndexByte Tryd.lays137 s c w
def Tryd.lays103_ren : Go.Shelf.Ren := ⟨fun | 103 => 23 | 210 => 53 | 206 => 72 | n => n, fun | 9 => 9 | 4 => 4 | 24 => 43 | 3 => 3 | n => n, fun | n => n⟩
theorem Tryd.lays103 : Go.Proofs.Lays.n103 Tryd.prog Tryd.lays103_ren := {
  mixed := by kernel_rfl
  f103 := Tryd.func23.trans (congrArg some (by kernel_rfl))
  f206 := Tryd.func72.trans (congrArg some (by kernel_rfl))
  f210 := Tryd.func53.trans (congrArg some (by kernel_rfl))
  t3 := Tryd.underlying3
  a3 := Tryd.isAgg3
  z3 := Tryd.sizeOf3
  v3 := Tryd.zeroValue3
  t4 := Tryd.underlying4
  a4 := Tryd.isAgg4
  z4 := Tryd.sizeOf4
  v4 := Tryd.zeroValue4
  t9 := Tryd.underlying9
  a9 := Tryd.isAgg9
  z9 := Tryd.sizeOf9
  v9 := Tryd.zeroValue9
  t24 := Tryd.underlying43
  a24 := Tryd.isAgg43
  z24 := Tryd.sizeOf43
  v24 := Tryd.zeroValue43 }
open Go.RowKit in
/-- strings.CutPrefix: "CutPrefix returns s without the provided leading prefix string and reports whether it found the prefix. If s doesn't start with prefix, CutPrefix returns s, false. If prefix is the empty string, CutPrefix returns s, true.": IT RETURNS '(Lib.trimPrefix s p, Lib.hasPrefix s p)'; the world is as it was. (LAID: no walk: one application.) -/
theorem Tryd.strings_CutPrefix (s p : ByteArray) (w : World) :
    Calls Tryd.prog 23 #[.string s, .string p] w fun e w' => e = .returned (.tuple #[.string ⟨(Lib.trimPrefix s.data.toList p.data.toList).toArray⟩, .bool (Lib.hasPrefix s.data.toList p.data.toList)]) ∧ w' = w := Any.strings_CutPrefix Tryd.lays103 s p w
def Tryd.lays104_ren : Go.Shelf.Ren := ⟨fun | 104 => 24 | 211 => 54 | 207 => 73 | n => n, fun | 9 => 9 | 4 => 4 | 24 => 43 | 3 => 3 | n => n, fun | n => n⟩
theorem Tryd.lays104 : Go.Proofs.Lays.n104 Tryd.prog Tryd.lays104_ren := {
  mixed := by kernel_rfl
  f104 := Tryd.func24.trans (congrArg some (by kernel_rfl))
  f207 := Tryd.func73.trans (congrArg some (by kernel_rfl))
  f211 := Tryd.func54.trans (congrArg some (by kernel_rfl))
  t3 := Tryd.underlying3
  a3 := Tryd.isAgg3
  z3 := Tryd.sizeOf3
  v3 := Tryd.zeroValue3
  t4 := Tryd.underlying4
  a4 := Tryd.isAgg4
  z4 := Tryd.sizeOf4
  v4 := Tryd.zeroValue4
  t9 := Tryd.underlying9
  a9 := Tryd.isAgg9
  z9 := Tryd.sizeOf9
  v9 := Tryd.zeroValue9
  t24 := Tryd.underlying43
  a24 := Tryd.isAgg43
  z24 := Tryd.sizeOf43
  v24 := Tryd.zeroValue43 }
open Go.RowKit in
/-- strings.CutSuffix: "CutSuffix returns s without the provided ending suffix string and reports whether it found the suffix. If s doesn't end with suffix, CutSuffix returns s, false. If suffix is the empty string, CutSuffix returns s, true.": IT RETURNS '(Lib.trimSuffix s p, Lib.hasSuffix s p)'; the world is as it was. (LAID: no walk: one application.) -/
theorem Tryd.strings_CutSuffix (s p : ByteArray) (w : World) (hs : s.size ≤ 9223372036854775807) :
    Calls Tryd.prog 24 #[.string s, .string p] w fun e w' => e = .returned (.tuple #[.string ⟨(Lib.trimSuffix s.data.toList p.data.toList).toArray⟩, .bool (Lib.hasSuffix s.data.toList p.data.toList)]) ∧ w' = w := Any.strings_CutSuffix Tryd.lays104 s p w hs
def Tryd.lays129_ren : Go.Shelf.Ren := ⟨fun | 129 => 116 | n => n, fun | 53 => 99 | 3 => 3 | 4 => 4 | 46 => 81 | 5 => 5 | 9 => 9 | n => n, fun | n => n⟩
theorem Tryd.lays129 : Go.Proofs.Lays.n129 Tryd.prog Tryd.lays129_ren := {
  mixed := by kernel_rfl
  f129 := Tryd.func116.trans (congrArg some (by kernel_rfl))
  t3 := Tryd.underlying3
  a3 := Tryd.isAgg3
  z3 := Tryd.sizeOf3
  v3 := Tryd.zeroValue3
  t4 := Tryd.underlying4
  a4 := Tryd.isAgg4
  z4 := Tryd.sizeOf4
  v4 := Tryd.zeroValue4
  t5 := Tryd.underlying5
  a5 := Tryd.isAgg5
  z5 := Tryd.sizeOf5
  v5 := Tryd.zeroValue5
  t9 := Tryd.underlying9
  a9 := Tryd.isAgg9
  z9 := Tryd.sizeOf9
  v9 := Tryd.zeroValue9
  t46 := Tryd.underlying81
  a46 := Tryd.isAgg81
  z46 := Tryd.sizeOf81
  v46 := Tryd.zeroValue81
  t53 := Tryd.underlying99
  a53 := Tryd.isAgg99
  z53 := Tryd.sizeOf99
  v53 := Tryd.zeroValue99 }
/-- bits.Len64: "Len64 returns the minimum number of bits required to represent x; the result is 0 for x == 0.": IT RETURNS 'Lib.bitLen x'; the world is as it was. ('h0', 'h1': x is a uint64.) (LAID: no walk: one application.) -/
theorem Tryd.bits_Len64 (x : Int) (w : World) (h0 : 0 ≤ x) (h1 : x ≤ 18446744073709551615) :
    Calls Tryd.prog 116 #[.int .u64 x] w fun e w' => e = .returned (.int .i64 (Lib.bitLen x.toNat)) ∧ w' = w := Any.bits_Len64 Tryd.lays129 x w h0 h1
def Tryd.lays283_ren : Go.Shelf.Ren := ⟨fun | 283 => 101 | n => n, fun | 3 => 3 | 9 => 9 | 4 => 4 | n => n, fun | n => n⟩
theorem Tryd.lays283 : Go.Proofs.Lays.n283 Tryd.prog Tryd.lays283_ren := {
  mixed := by kernel_rfl
  f283 := Tryd.func101.trans (congrArg some (by kernel_rfl))
  t3 := Tryd.underlying3
  a3 := Tryd.isAgg3
  z3 := Tryd.sizeOf3
  v3 := Tryd.zeroValue3
  t4 := Tryd.underlying4
  a4 := Tryd.isAgg4
  z4 := Tryd.sizeOf4
  v4 := Tryd.zeroValue4
  t9 := Tryd.underlying9
  a9 := Tryd.isAgg9
  z9 := Tryd.sizeOf9
  v9 := Tryd.zeroValue9 }
open Go.Lib in
/-- internal/strconv.small: "small returns the string for an i with 0 <= i < nSmalls.": i's decimal numeral. The world is as it was. (LAID: no walk: one application.) -/
theorem Tryd.internal_strconv_small (i : Nat) (h : i < 100) (w : World) :
    Calls Tryd.prog 101 #[.int .i64 i] w fun e w' => e = .returned (.string ⟨(Lib.decDigits i).toArray⟩) ∧ w' = w := Any.internal_strconv_small Tryd.lays283 i h w
def Tryd.laysM284_ren : Go.Shelf.Ren := ⟨fun | 284 => 102 | 129 => 116 | 317 => 115 | 318 => 117 | n => n, fun | 53 => 99 | 3 => 3 | 212 => 109 | 0 => 0 | 4 => 4 | 46 => 81 | 5 => 5 | 9 => 9 | n => n, fun | 17 => 1 | n => n⟩
theorem Tryd.laysM284 : Go.Proofs.LaysM.n284 Tryd.prog Tryd.laysM284_ren := {
  mixed := by kernel_rfl
  f129 := Tryd.func116.trans (congrArg some (by kernel_rfl))
  f284 := Tryd.func102.trans (congrArg some (by kernel_rfl))
  f317 := Tryd.func115.trans (congrArg some (by kernel_rfl))
  f318 := Tryd.func117.trans (congrArg some (by kernel_rfl))
  t0 := Tryd.underlying0
  a0 := Tryd.isAgg0
  z0 := Tryd.sizeOf0
  v0 := Tryd.zeroValue0
  t3 := Tryd.underlying3
  a3 := Tryd.isAgg3
  z3 := Tryd.sizeOf3
  v3 := Tryd.zeroValue3
  t4 := Tryd.underlying4
  a4 := Tryd.isAgg4
  z4 := Tryd.sizeOf4
  v4 := Tryd.zeroValue4
  t5 := Tryd.underlying5
  a5 := Tryd.isAgg5
  z5 := Tryd.sizeOf5
  v5 := Tryd.zeroValue5
  t9 := Tryd.underlying9
  a9 := Tryd.isAgg9
  z9 := Tryd.sizeOf9
  v9 := Tryd.zeroValue9
  t46 := Tryd.underlying81
  a46 := Tryd.isAgg81
  z46 := Tryd.sizeOf81
  v46 := Tryd.zeroValue81
  t53 := Tryd.underlying99
  a53 := Tryd.isAgg99
  z53 := Tryd.sizeOf99
  v53 := Tryd.zeroValue99
  t212 := Tryd.underlying109
  a212 := Tryd.isAgg109
  z212 := Tryd.sizeOf109
  v212 := Tryd.zeroValue109
  g17 := by kernel_rfl
  i0 := by kernel_rfl
  i3 := by kernel_rfl
  i4 := by kernel_rfl
  i5 := by kernel_rfl
  i9 := by kernel_rfl
  i46 := by kernel_rfl
  i53 := by kernel_rfl
  i212 := by kernel_rfl
  m17 := by kernel_rfl }
open Go.Lib in
/-- internal/strconv.numDigits, at a d that is not 0: THE NUMBER OF d's DECIMAL DIGITS. The world is as it was. (LAID: no walk: one application.) -/
theorem Tryd.internal_strconv_numDigits (u : Nat) (h1 : 1 ≤ u) (h2 : u < 18446744073709551616) (w : World) (htab : Lib.TabIs Tryd.prog w "internal/strconv.uint64pow10" .u64 Lib.pow10Tab) :
    Calls Tryd.prog 102 #[.int .u64 u] w fun e w' => e = .returned (.int .i64 (Lib.nDigits u)) ∧ w' = w := Any.internal_strconv_numDigits Tryd.laysM284 u h1 h2 w htab
def Tryd.lays285_ren : Go.Shelf.Ren := ⟨fun | 285 => 103 | n => n, fun | 37 => 22 | 53 => 99 | 3 => 3 | 4 => 4 | 51 => 47 | 9 => 9 | 5 => 5 | 0 => 0 | n => n, fun | n => n⟩
theorem Tryd.lays285 : Go.Proofs.Lays.n285 Tryd.prog Tryd.lays285_ren := {
  mixed := by kernel_rfl
  f285 := Tryd.func103.trans (congrArg some (by kernel_rfl))
  t0 := Tryd.underlying0
  a0 := Tryd.isAgg0
  z0 := Tryd.sizeOf0
  v0 := Tryd.zeroValue0
  t3 := Tryd.underlying3
  a3 := Tryd.isAgg3
  z3 := Tryd.sizeOf3
  v3 := Tryd.zeroValue3
  t4 := Tryd.underlying4
  a4 := Tryd.isAgg4
  z4 := Tryd.sizeOf4
  v4 := Tryd.zeroValue4
  t5 := Tryd.underlying5
  a5 := Tryd.isAgg5
  z5 := Tryd.sizeOf5
  v5 := Tryd.zeroValue5
  t9 := Tryd.underlying9
  a9 := Tryd.isAgg9
  z9 := Tryd.sizeOf9
  v9 := Tryd.zeroValue9
  t37 := Tryd.underlying22
  a37 := Tryd.isAgg22
  z37 := Tryd.sizeOf22
  v37 := Tryd.zeroValue22
  t51 := Tryd.underlying47
  a51 := Tryd.isAgg47
  z51 := Tryd.sizeOf47
  v51 := Tryd.zeroValue47
  t53 := Tryd.underlying99
  a53 := Tryd.isAgg99
  z53 := Tryd.sizeOf99
  v53 := Tryd.zeroValue99 }
open Go.RowKit Go.Sort Go.Lib in
/-- internal/strconv.formatBase10: "formatBase10 formats the decimal representation of u into a. The caller is responsible for ensuring that a is big enough to hold u. If a is too big, leading zeros will be filled in as needed.": THE ROW HOLDS u's DIGITS ('FmtInv .. 0 ..': every place t holds 'dg u (len - 1 - t)'); all else is as it was but for the count of draws. (LAID: no walk: one application.) -/
theorem Tryd.internal_strconv_formatBase10 (blk off cap : Nat) (u : Nat) (d : Array UInt8) (w : World) (hH : Holds (fun (b : UInt8) => Value.int .u8 (b.toNat : Int)) w blk off d) (hu : u < 10 ^ d.size) (hu64 : u < 18446744073709551616) (hsz : d.size < 4611686018427387904) :
    Calls Tryd.prog 103 #[.slice (some ⟨blk, off, none⟩) d.size cap, .int .u64 u] w fun e w' =>
      e = .returned (.tuple #[]) ∧ ∃ (n v' : Nat) (dk : Array UInt8), w' = (putRow (fun (b : UInt8) => Value.int .u8 (b.toNat : Int)) w blk off dk).drewN n ∧ FmtInv d.size u 0 v' dk := Any.internal_strconv_formatBase10 Tryd.lays285 blk off cap u d w hH hu hu64 hsz
def Tryd.laysM171_ren : Go.Shelf.Ren := ⟨fun | 171 => 33 | 243 => 58 | 246 => 77 | 283 => 101 | 284 => 102 | 285 => 103 | 286 => 104 | 129 => 116 | 317 => 115 | 318 => 117 | 319 => 118 | 320 => 119 | 337 => 123 | 338 => 124 | n => n, fun | 3 => 3 | 9 => 9 | 2 => 2 | 4 => 4 | 171 => 98 | 0 => 0 | 53 => 99 | 37 => 22 | 5 => 5 | 173 => 102 | 212 => 109 | 51 => 47 | 20 => 20 | 213 => 110 | 46 => 81 | 232 => 120 | 233 => 121 | n => n, fun | 17 => 1 | 18 => 4 | 19 => 5 | n => n⟩
theorem Tryd.laysM171 : Go.Proofs.LaysM.n171 Tryd.prog Tryd.laysM171_ren := {
  mixed := by kernel_rfl
  f129 := Tryd.func116.trans (congrArg some (by kernel_rfl))
  f171 := Tryd.func33.trans (congrArg some (by kernel_rfl))
  f243 := Tryd.func58.trans (congrArg some (by kernel_rfl))
  f246 := Tryd.func77.trans (congrArg some (by kernel_rfl))
  f283 := Tryd.func101.trans (congrArg some (by kernel_rfl))
  f284 := Tryd.func102.trans (congrArg some (by kernel_rfl))
  f285 := Tryd.func103.trans (congrArg some (by kernel_rfl))
  f286 := Tryd.func104.trans (congrArg some (by kernel_rfl))
  f317 := Tryd.func115.trans (congrArg some (by kernel_rfl))
  f318 := Tryd.func117.trans (congrArg some (by kernel_rfl))
  f319 := Tryd.func118.trans (congrArg some (by kernel_rfl))
  f320 := Tryd.func119.trans (congrArg some (by kernel_rfl))
  f337 := Tryd.func123.trans (congrArg some (by kernel_rfl))
  f338 := Tryd.func124.trans (congrArg some (by kernel_rfl))
  t0 := Tryd.underlying0
  a0 := Tryd.isAgg0
  z0 := Tryd.sizeOf0
  v0 := Tryd.zeroValue0
  t2 := Tryd.underlying2
  a2 := Tryd.isAgg2
  z2 := Tryd.sizeOf2
  v2 := Tryd.zeroValue2
  t3 := Tryd.underlying3
  a3 := Tryd.isAgg3
  z3 := Tryd.sizeOf3
  v3 := Tryd.zeroValue3
  t4 := Tryd.underlying4
  a4 := Tryd.isAgg4
  z4 := Tryd.sizeOf4
  v4 := Tryd.zeroValue4
  t5 := Tryd.underlying5
  a5 := Tryd.isAgg5
  z5 := Tryd.sizeOf5
  v5 := Tryd.zeroValue5
  t9 := Tryd.underlying9
  a9 := Tryd.isAgg9
  z9 := Tryd.sizeOf9
  v9 := Tryd.zeroValue9
  t20 := Tryd.underlying20
  a20 := Tryd.isAgg20
  z20 := Tryd.sizeOf20
  v20 := Tryd.zeroValue20
  t37 := Tryd.underlying22
  a37 := Tryd.isAgg22
  z37 := Tryd.sizeOf22
  v37 := Tryd.zeroValue22
  t46 := Tryd.underlying81
  a46 := Tryd.isAgg81
  z46 := Tryd.sizeOf81
  v46 := Tryd.zeroValue81
  t51 := Tryd.underlying47
  a51 := Tryd.isAgg47
  z51 := Tryd.sizeOf47
  v51 := Tryd.zeroValue47
  t53 := Tryd.underlying99
  a53 := Tryd.isAgg99
  z53 := Tryd.sizeOf99
  v53 := Tryd.zeroValue99
  t171 := Tryd.underlying98
  a171 := Tryd.isAgg98
  z171 := Tryd.sizeOf98
  v171 := Tryd.zeroValue98
  t173 := Tryd.underlying102
  a173 := Tryd.isAgg102
  z173 := Tryd.sizeOf102
  v173 := Tryd.zeroValue102
  t212 := Tryd.underlying109
  a212 := Tryd.isAgg109
  z212 := Tryd.sizeOf109
  v212 := Tryd.zeroValue109
  t213 := Tryd.underlying110
  a213 := Tryd.isAgg110
  z213 := Tryd.sizeOf110
  t232 := Tryd.underlying120
  a232 := Tryd.isAgg120
  z232 := Tryd.sizeOf120
  v232 := Tryd.zeroValue120
  t233 := Tryd.underlying121
  a233 := Tryd.isAgg121
  z233 := Tryd.sizeOf121
  v233 := Tryd.zeroValue121
  g17 := by kernel_rfl
  g18 := by kernel_rfl
  g19 := by kernel_rfl
  i0 := by kernel_rfl
  i2 := by kernel_rfl
  i3 := by kernel_rfl
  i4 := by kernel_rfl
  i5 := by kernel_rfl
  i9 := by kernel_rfl
  i20 := by kernel_rfl
  i37 := by kernel_rfl
  i46 := by kernel_rfl
  i51 := by kernel_rfl
  i53 := by kernel_rfl
  i171 := by kernel_rfl
  i173 := by kernel_rfl
  i212 := by kernel_rfl
  i232 := by kernel_rfl
  i233 := by kernel_rfl
  m17 := by kernel_rfl
  m18 := by kernel_rfl
  m19 := by kernel_rfl }
open Go.RowKit Go.Sort Go.Lib in
/-- strconv.Itoa: "Itoa is equivalent to FormatInt(int64(i), 10).": i's DECIMAL NUMERAL ('Lib.itoa': a '-' where i is negative, then the digits), FOR EVERY int. The world behind the call: the world before it, new blocks behind the heap (the library's 'var a [24]byte'), draws. (LAID: no walk: one application.) -/
theorem Tryd.strconv_Itoa (n : Int) (h0 : -9223372036854775808 ≤ n) (h1 : n ≤ 9223372036854775807) (w : World) (htab : Lib.TabIs Tryd.prog w "internal/strconv.uint64pow10" .u64 Lib.pow10Tab) :
    Calls Tryd.prog 33 #[.int .i64 n] w fun e w' => e = .returned (.string ⟨(Lib.itoa n).toArray⟩) ∧ ∃ k os, w' = grow (w.drewN k) os := Any.strconv_Itoa Tryd.laysM171 n h0 h1 w htab
def Tryd.lays145_ren : Go.Shelf.Ren := ⟨fun | 145 => 44 | 220 => 68 | 219 => 94 | 217 => 63 | 225 => 111 | 224 => 112 | 267 => 113 | 266 => 84 | 314 => 122 | n => n, fun | 9 => 9 | 4 => 4 | 59 => 55 | 3 => 3 | 5 => 5 | 46 => 81 | 146 => 113 | 51 => 47 | n => n, fun | 1 => 0 | n => n⟩
theorem Tryd.lays145 : Go.Proofs.Lays.n145 Tryd.prog Tryd.lays145_ren := {
  mixed := by kernel_rfl
  f145 := Tryd.func44.trans (congrArg some (by kernel_rfl))
  f217 := Tryd.func63.trans (congrArg some (by kernel_rfl))
  f219 := Tryd.func94.trans (congrArg some (by kernel_rfl))
  f220 := Tryd.func68.trans (congrArg some (by kernel_rfl))
  f224 := Tryd.func112.trans (congrArg some (by kernel_rfl))
  f225 := Tryd.func111.trans (congrArg some (by kernel_rfl))
  f266 := Tryd.func84.trans (congrArg some (by kernel_rfl))
  f267 := Tryd.func113.trans (congrArg some (by kernel_rfl))
  f314 := Tryd.func122.trans (congrArg some (by kernel_rfl))
  t3 := Tryd.underlying3
  a3 := Tryd.isAgg3
  z3 := Tryd.sizeOf3
  v3 := Tryd.zeroValue3
  t4 := Tryd.underlying4
  a4 := Tryd.isAgg4
  z4 := Tryd.sizeOf4
  v4 := Tryd.zeroValue4
  t5 := Tryd.underlying5
  a5 := Tryd.isAgg5
  z5 := Tryd.sizeOf5
  v5 := Tryd.zeroValue5
  t9 := Tryd.underlying9
  a9 := Tryd.isAgg9
  z9 := Tryd.sizeOf9
  v9 := Tryd.zeroValue9
  t46 := Tryd.underlying81
  a46 := Tryd.isAgg81
  z46 := Tryd.sizeOf81
  v46 := Tryd.zeroValue81
  t51 := Tryd.underlying47
  a51 := Tryd.isAgg47
  z51 := Tryd.sizeOf47
  v51 := Tryd.zeroValue47
  t59 := Tryd.underlying55
  a59 := Tryd.isAgg55
  z59 := Tryd.sizeOf55
  v59 := Tryd.zeroValue55
  t146 := Tryd.underlying113
  a146 := Tryd.isAgg113
  z146 := Tryd.sizeOf113
  v146 := Tryd.zeroValue113
  g1 := by kernel_rfl }
open Go.RowKit Go.Lib in
/-- strings.Cut: "Cut slices s around the first instance of sep, returning the text before and after sep. The found result reports whether sep appears in s. If sep does not appear in s, cut returns s, "", false.": IT RETURNS 'Lib.cut s sep'; the world is as it was but for the count of draws. (LAID: no walk: one application.) -/
theorem Tryd.strings_Cut (s sep : ByteArray) (m : Int) (w : World) (hs : s.size < 4294967281) (hm : w.cell? ⟨0, 0, none⟩ = some (.int .i64 m)) :
    Calls Tryd.prog 44 #[.string s, .string sep] w fun e w' => e = .returned (.tuple #[.string ⟨(Lib.cut s.data.toList sep.data.toList).1.toArray⟩, .string ⟨(Lib.cut s.data.toList sep.data.toList).2.1.toArray⟩, .bool (Lib.cut s.data.toList sep.data.toList).2.2]) ∧ ∃ n, w' = w.drewN n := Any.strings_Cut Tryd.lays145 s sep m w hs hm
def Tryd.lays99_ren : Go.Shelf.Ren := ⟨fun | 99 => 96 | 206 => 72 | n => n, fun | 9 => 9 | 4 => 4 | 3 => 3 | n => n, fun | n => n⟩
theorem Tryd.lays99 : Go.Proofs.Lays.n99 Tryd.prog Tryd.lays99_ren := {
  mixed := by kernel_rfl
  f99 := Tryd.func96.trans (congrArg some (by kernel_rfl))
  f206 := Tryd.func72.trans (congrArg some (by kernel_rfl))
  t3 := Tryd.underlying3
  a3 := Tryd.isAgg3
  z3 := Tryd.sizeOf3
  v3 := Tryd.zeroValue3
  t4 := Tryd.underlying4
  a4 := Tryd.isAgg4
  z4 := Tryd.sizeOf4
  v4 := Tryd.zeroValue4
  t9 := Tryd.underlying9
  a9 := Tryd.isAgg9
  z9 := Tryd.sizeOf9
  v9 := Tryd.zeroValue9 }
open Go.RowKit Go.Lib in
/-- strings.HasPrefix: "HasPrefix reports whether the string s begins with prefix.": IT RETURNS 'Lib.hasPrefix s prefix'; the world is as it was. (LAID: no walk: one application.) -/
theorem Tryd.strings_HasPrefix (s p : ByteArray) (w : World) :
    Calls Tryd.prog 96 #[.string s, .string p] w fun e w' => e = .returned (.bool (Lib.hasPrefix s.data.toList p.data.toList)) ∧ w' = w := Any.strings_HasPrefix Tryd.lays99 s p w
def Tryd.lays146_ren : Go.Shelf.Ren := ⟨fun | 146 => 26 | 221 => 55 | 268 => 74 | 138 => 75 | 143 => 76 | 195 => 98 | 197 => 99 | 218 => 100 | 219 => 94 | 260 => 114 | 217 => 63 | 225 => 111 | 224 => 112 | 267 => 113 | 266 => 84 | 314 => 122 | n => n, fun | 9 => 9 | 31 => 34 | 3 => 3 | 4 => 4 | 0 => 0 | 105 => 96 | 21 => 21 | 5 => 5 | 46 => 81 | 119 => 115 | 139 => 118 | 138 => 117 | 146 => 113 | 51 => 47 | n => n, fun | 1 => 0 | 3 => 2 | 4 => 3 | n => n⟩
theorem Tryd.lays146 : Go.Proofs.Lays.n146 Tryd.prog Tryd.lays146_ren := {
  mixed := by kernel_rfl
  f138 := Tryd.func75.trans (congrArg some (by kernel_rfl))
  f143 := Tryd.func76.trans (congrArg some (by kernel_rfl))
  f146 := Tryd.func26.trans (congrArg some (by kernel_rfl))
  f195 := Tryd.func98.trans (congrArg some (by kernel_rfl))
  f197 := Tryd.func99.trans (congrArg some (by kernel_rfl))
  f217 := Tryd.func63.trans (congrArg some (by kernel_rfl))
  f218 := Tryd.func100.trans (congrArg some (by kernel_rfl))
  f219 := Tryd.func94.trans (congrArg some (by kernel_rfl))
  f221 := Tryd.func55.trans (congrArg some (by kernel_rfl))
  f224 := Tryd.func112.trans (congrArg some (by kernel_rfl))
  f225 := Tryd.func111.trans (congrArg some (by kernel_rfl))
  f260 := Tryd.func114.trans (congrArg some (by kernel_rfl))
  f266 := Tryd.func84.trans (congrArg some (by kernel_rfl))
  f267 := Tryd.func113.trans (congrArg some (by kernel_rfl))
  f268 := Tryd.func74.trans (congrArg some (by kernel_rfl))
  f314 := Tryd.func122.trans (congrArg some (by kernel_rfl))
  t0 := Tryd.underlying0
  a0 := Tryd.isAgg0
  z0 := Tryd.sizeOf0
  v0 := Tryd.zeroValue0
  t3 := Tryd.underlying3
  a3 := Tryd.isAgg3
  z3 := Tryd.sizeOf3
  v3 := Tryd.zeroValue3
  t4 := Tryd.underlying4
  a4 := Tryd.isAgg4
  z4 := Tryd.sizeOf4
  v4 := Tryd.zeroValue4
  t5 := Tryd.underlying5
  a5 := Tryd.isAgg5
  z5 := Tryd.sizeOf5
  v5 := Tryd.zeroValue5
  t9 := Tryd.underlying9
  a9 := Tryd.isAgg9
  z9 := Tryd.sizeOf9
  v9 := Tryd.zeroValue9
  t21 := Tryd.underlying21
  a21 := Tryd.isAgg21
  z21 := Tryd.sizeOf21
  v21 := Tryd.zeroValue21
  t31 := Tryd.underlying34
  a31 := Tryd.isAgg34
  z31 := Tryd.sizeOf34
  v31 := Tryd.zeroValue34
  t46 := Tryd.underlying81
  a46 := Tryd.isAgg81
  z46 := Tryd.sizeOf81
  v46 := Tryd.zeroValue81
  t51 := Tryd.underlying47
  a51 := Tryd.isAgg47
  z51 := Tryd.sizeOf47
  v51 := Tryd.zeroValue47
  t105 := Tryd.underlying96
  a105 := Tryd.isAgg96
  z105 := Tryd.sizeOf96
  v105 := Tryd.zeroValue96
  t119 := Tryd.underlying115
  a119 := Tryd.isAgg115
  z119 := Tryd.sizeOf115
  t138 := Tryd.underlying117
  a138 := Tryd.isAgg117
  z138 := Tryd.sizeOf117
  v138 := Tryd.zeroValue117
  t139 := Tryd.underlying118
  a139 := Tryd.isAgg118
  z139 := Tryd.sizeOf118
  v139 := Tryd.zeroValue118
  t146 := Tryd.underlying113
  a146 := Tryd.isAgg113
  z146 := Tryd.sizeOf113
  v146 := Tryd.zeroValue113
  g1 := by kernel_rfl
  g3 := by kernel_rfl
  g4 := by kernel_rfl }
open Go.RowKit Go.Lib in
/-- strings.Split. (LAID: no walk: one application.) -/
theorem Tryd.strings_Split (s sep : ByteArray) (m : Int) (w : World) (hs : s.size < 4294967281) (hm : w.cell? ⟨0, 0, none⟩ = some (.int .i64 m)) (h1 : 1 ≤ sep.size) :
    Calls Tryd.prog 26 #[.string s, .string sep] w fun e w' =>
      e = .returned (.slice (some ⟨w.heap.size, 0, none⟩) (Lib.countB s sep + 1) (Lib.countB s sep + 1)) ∧ w' = w.alloc (.cells ((Lib.splitB sep 0 (Lib.countB s sep) s).map Value.string).toArray 9) := Any.strings_Split Tryd.lays146 (by kernel_rfl) s sep m w hs hm h1
def Tryd.lays153_ren : Go.Shelf.Ren := ⟨fun | 153 => 86 | 152 => 106 | 226 => 107 | 227 => 89 | 228 => 108 | 137 => 38 | 119 => 120 | 224 => 112 | 225 => 111 | 217 => 63 | 266 => 84 | n => n, fun | 9 => 9 | 3 => 3 | 4 => 4 | 5 => 5 | 21 => 21 | 117 => 90 | 116 => 89 | 0 => 0 | 46 => 81 | 124 => 93 | n => n, fun | n => n⟩
theorem Tryd.lays153 : Go.Proofs.Lays.n153 Tryd.prog Tryd.lays153_ren := {
  mixed := by kernel_rfl
  f119 := Tryd.func120.trans (congrArg some (by kernel_rfl))
  f137 := Tryd.func38.trans (congrArg some (by kernel_rfl))
  f152 := Tryd.func106.trans (congrArg some (by kernel_rfl))
  f153 := Tryd.func86.trans (congrArg some (by kernel_rfl))
  f217 := Tryd.func63.trans (congrArg some (by kernel_rfl))
  f224 := Tryd.func112.trans (congrArg some (by kernel_rfl))
  f225 := Tryd.func111.trans (congrArg some (by kernel_rfl))
  f226 := Tryd.func107.trans (congrArg some (by kernel_rfl))
  f227 := Tryd.func89.trans (congrArg some (by kernel_rfl))
  f228 := Tryd.func108.trans (congrArg some (by kernel_rfl))
  f266 := Tryd.func84.trans (congrArg some (by kernel_rfl))
  t0 := Tryd.underlying0
  a0 := Tryd.isAgg0
  z0 := Tryd.sizeOf0
  v0 := Tryd.zeroValue0
  t3 := Tryd.underlying3
  a3 := Tryd.isAgg3
  z3 := Tryd.sizeOf3
  v3 := Tryd.zeroValue3
  t4 := Tryd.underlying4
  a4 := Tryd.isAgg4
  z4 := Tryd.sizeOf4
  v4 := Tryd.zeroValue4
  t5 := Tryd.underlying5
  a5 := Tryd.isAgg5
  z5 := Tryd.sizeOf5
  v5 := Tryd.zeroValue5
  t9 := Tryd.underlying9
  a9 := Tryd.isAgg9
  z9 := Tryd.sizeOf9
  v9 := Tryd.zeroValue9
  t21 := Tryd.underlying21
  a21 := Tryd.isAgg21
  z21 := Tryd.sizeOf21
  v21 := Tryd.zeroValue21
  t46 := Tryd.underlying81
  a46 := Tryd.isAgg81
  z46 := Tryd.sizeOf81
  v46 := Tryd.zeroValue81
  t116 := Tryd.underlying89
  a116 := Tryd.isAgg89
  z116 := Tryd.sizeOf89
  t117 := Tryd.underlying90
  a117 := Tryd.isAgg90
  z117 := Tryd.sizeOf90
  v117 := Tryd.zeroValue90
  t124 := Tryd.underlying93
  a124 := Tryd.isAgg93
  z124 := Tryd.sizeOf93
  v124 := Tryd.zeroValue93 }
open Go.RowKit Go.Lib in
theorem Tryd.strings_IndexAny_laid (s chars : ByteArray) (w : World) (hs : s.size < 4294967281) (hcs : chars.size < 4294967281) (has : ∀ (j : Nat) b, s.data.toList[j]? = some b → b.toNat < 128) (hac : ∀ (j : Nat) b, chars.data.toList[j]? = some b → b.toNat < 128) :
    Calls Tryd.prog 86 #[.string s, .string chars] w fun e w' => e = .returned (.int .i64 (Lib.indexAny s.data.toList chars.data.toList)) ∧ Below w.heap.size w w' := Any.strings_IndexAny_laid Tryd.lays153 (by kernel_rfl) s chars w hs hcs has hac
end Go.Proofs

/- REQ: the library's functions (the kit's contracts, laid at this seat), as Flow's. -/
namespace Go.Proofs.YtghdgjabpdfaoaaDoor.Flow
open Go

theorem w_two {vs : Array Value} (h : vs.size = 2) : vs = #[vs.getD 0 undef, vs.getD 1 undef] := by
  obtain ⟨l⟩ := vs
  match l, h with
  | [a, b], _ => rfl

theorem w_below {w w' : World} {S : Cells} (hv : ∀ b o, S b o → b < w.heap.size) (hg : GOk S w) (h : RowKit.Below w.heap.size w w') : Hist { w0 := w, S0 := S, L := fun _ => False } w' S where
  os := h.os
  tape := h.tape
  output := h.output
  size := h.size
  block := fun k hk _ => h.block k hk
  sub := fun _ _ h => h
  cell := fun b o hb => by
    have := h.block b (hv b o hb)
    simp [World.cell?, this]
  new := fun _ _ h => .inl h
  valid := fun b o hb => Nat.lt_of_lt_of_le (hv b o hb) h.size
  glob := hg.mono (fun _ _ h => h) fun b o hb => by
    have := h.block b (hv b o hb)
    simp [World.cell?, this]

theorem w_same {w : World} {S : Cells} (hv : ∀ b o, S b o → b < w.heap.size) (hg : GOk S w) : Hist { w0 := w, S0 := S, L := fun _ => False } w S := hist_start w S _ hv hg

theorem w_drewN {w : World} (n : Nat) : RowKit.Below w.heap.size w (w.drewN n) := ⟨rfl, rfl, rfl, Nat.le_refl _, fun _ _ => rfl⟩

theorem w_indexByte (s : List UInt8) (c : Int) : Ctr Tryd.prog 38 [.s s, .i .u8 c] (.i .i64 (Lib.indexByte s c.toNat.toUInt8)) := by
  intro w S vs hv hg hn hr
  have h0 := hr 0 (by simp)
  have h1 := hr 1 (by simp)
  rw [w_two hn]
  generalize vs.getD 0 undef = v0 at *
  generalize vs.getD 1 undef = v1 at *
  cases h0
  cases h1
  refine (Tryd.strings_IndexByte ⟨s.toArray⟩ c w).mono ?_
  rintro e w' ⟨rfl, rfl⟩
  exact ⟨_, S, rfl, .i _ _ _, w_same hv hg⟩

theorem w_cut (s sep : List UInt8) (hs : s.length < 4294967281) : Ctr Tryd.prog 44 [.s s, .s sep] (.tu [.s (Lib.cut s sep).1, .s (Lib.cut s sep).2.1, .b (Lib.cut s sep).2.2]) := by
  intro w S vs hv hg hn hr
  have h0 := hr 0 (by simp)
  have h1 := hr 1 (by simp)
  rw [w_two hn]
  generalize vs.getD 0 undef = v0 at *
  generalize vs.getD 1 undef = v1 at *
  cases h0
  cases h1
  obtain ⟨m, _, hm⟩ := hg.big 0 rfl
  refine (Tryd.strings_Cut ⟨s.toArray⟩ ⟨sep.toArray⟩ m w (by simpa [ByteArray.size] using hs) hm).mono ?_
  rintro e w' ⟨rfl, n, rfl⟩
  refine ⟨_, S, rfl, .tu _ _ _ rfl (fun j hj => ?_), w_below hv hg (w_drewN n)⟩
  match j, hj with
  | 0, _ => exact .s _ _
  | 1, _ => exact .s _ _
  | 2, _ => exact .b _ _

theorem w_trim (s cs : List UInt8) (hs : s.length ≤ 9223372036854775807) (hcs : cs.length < 4294967281) (ha : ∀ (j : Nat) b, cs[j]? = some b → b.toNat < 128) : Ctr Tryd.prog 67 [.s s, .s cs] (.s (Lib.trimS s cs)) := by
  intro w S vs hv hg hn hr
  have h0 := hr 0 (by simp)
  have h1 := hr 1 (by simp)
  rw [w_two hn]
  generalize vs.getD 0 undef = v0 at *
  generalize vs.getD 1 undef = v1 at *
  cases h0
  cases h1
  refine (Any.strings_Trim_laid Tryd.lays160 (by kernel_rfl) ⟨s.toArray⟩ ⟨cs.toArray⟩ w (by simpa [ByteArray.size] using hs) (by simpa [ByteArray.size] using hcs) (by simpa using ha)).mono ?_
  rintro e w' ⟨rfl, hb⟩
  exact ⟨_, S, rfl, .s _ _, w_below hv hg hb⟩

theorem w_trimRight (s cs : List UInt8) (hs : s.length ≤ 9223372036854775807) (hcs : cs.length < 4294967281) (ha : ∀ (j : Nat) b, cs[j]? = some b → b.toNat < 128) : Ctr Tryd.prog 83 [.s s, .s cs] (.s (Lib.trimRightS s cs)) := by
  intro w S vs hv hg hn hr
  have h0 := hr 0 (by simp)
  have h1 := hr 1 (by simp)
  rw [w_two hn]
  generalize vs.getD 0 undef = v0 at *
  generalize vs.getD 1 undef = v1 at *
  cases h0
  cases h1
  refine (Any.strings_TrimRight_laid Tryd.lays162 (by kernel_rfl) ⟨s.toArray⟩ ⟨cs.toArray⟩ w (by simpa [ByteArray.size] using hs) (by simpa [ByteArray.size] using hcs) (by simpa using ha)).mono ?_
  rintro e w' ⟨rfl, hb⟩
  exact ⟨_, S, rfl, .s _ _, w_below hv hg hb⟩

/-- A text split at another. -/
def splitL (s sep : List UInt8) : List (List UInt8) := (Lib.splitB ⟨sep.toArray⟩ 0 (Lib.countB ⟨s.toArray⟩ ⟨sep.toArray⟩) ⟨s.toArray⟩).map fun b => b.data.toList
def wxF (l : List (List UInt8)) : Nat → List D := fun i => [.s (l.getD i [])]

theorem splitL_len (s sep : List UInt8) (h1 : 1 ≤ sep.length) : (splitL s sep).length = Lib.countB ⟨s.toArray⟩ ⟨sep.toArray⟩ + 1 ∧ (splitL s sep).length ≤ s.length + 1 := by
  have h2 : 1 ≤ (ByteArray.mk sep.toArray).size := by simpa [ByteArray.size] using h1
  have h3 := Lib.splitB_all ⟨sep.toArray⟩ h2 0 _ ⟨s.toArray⟩ rfl
  have h4 := Lib.countB_le ⟨sep.toArray⟩ h2 (ByteArray.mk s.toArray).size ⟨s.toArray⟩ (Nat.le_refl _)
  have h5 : (ByteArray.mk s.toArray).size = s.length := by simp [ByteArray.size]
  unfold splitL
  rw [List.length_map, h3]
  omega

theorem w_split (s sep : List UInt8) (hs : s.length ≤ 4194304) (h1 : 1 ≤ sep.length) : Ctr Tryd.prog 26 [.s s, .s sep] (.sl 1 (splitL s sep).length (wxF (splitL s sep))) := by
  intro w S vs hv hg hn hr
  have h0 := hr 0 (by simp)
  have h2 := hr 1 (by simp)
  rw [w_two hn]
  generalize vs.getD 0 undef = v0 at *
  generalize vs.getD 1 undef = v1 at *
  cases h0
  cases h2
  obtain ⟨m, _, hm⟩ := hg.big 0 rfl
  obtain ⟨hl1, hl2⟩ := splitL_len s sep h1
  refine (Tryd.strings_Split ⟨s.toArray⟩ ⟨sep.toArray⟩ m w (by simp [ByteArray.size]; omega) hm (by simpa [ByteArray.size] using h1)).mono ?_
  rintro e w' ⟨rfl, rfl⟩
  rw [← hl1]
  have hc := Chg.alloc w S hv (.cells ((Lib.splitB ⟨sep.toArray⟩ 0 (Lib.countB ⟨s.toArray⟩ ⟨sep.toArray⟩) ⟨s.toArray⟩).map Value.string).toArray 9)
  refine ⟨_, fun b o => S b o ∨ (b = w.heap.size ∧ o < (splitL s sep).length), rfl, rel_row (c := fun i _ => .string ⟨((splitL s sep).getD i []).toArray⟩) (heap_alloc_new w _) (Nat.le_refl _) (by unfold maxLen; omega) (fun i j hi hj => ?_) (fun i j hi hj => .inr ⟨rfl, by omega⟩) (fun i hi => ⟨rfl, rfl⟩) (fun i j hi hj => ?_), ?_⟩
  · obtain rfl : j = 0 := by omega
    rw [Nat.mul_one, Nat.add_zero]
    unfold splitL at hi ⊢
    rw [List.length_map] at hi
    simp only [List.getElem?_toArray, List.getElem?_map, List.getD_eq_getElem?_getD, List.getElem?_eq_getElem hi, Option.map_some, Option.getD_some]
  · obtain rfl : j = 0 := by omega
    exact .s _ _
  · have := hist_start w S (fun _ => False) hv hg
    exact this.chg hc (fun b hb => by cases hb) (fun _ _ h => .inl h) (fun b o h => by
      rcases h with h | ⟨rfl, _⟩
      · exact .inl h
      · exact .inr ⟨.inl (Nat.le_refl _), by simp⟩)

theorem blanks_ascii : ∀ (j : Nat) b, ([32, 9] : List UInt8)[j]? = some b → b.toNat < 128 := fun j b h => by
  match j, h with
  | 0, h => cases h; decide
  | 1, h => cases h; decide
  | _ + 2, h => simp at h

end Go.Proofs.YtghdgjabpdfaoaaDoor.Flow
