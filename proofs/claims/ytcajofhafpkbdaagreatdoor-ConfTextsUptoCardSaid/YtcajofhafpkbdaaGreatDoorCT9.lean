/- The texts FlowP, U0, U1, U2, U3, one behind the other. -/
import Derived.Test.YtcajofhafpkbdaaGreatDoorCT8
import Derived.Laws.BitsLemmas
namespace Go.Proofs.YtcajofhafpkbdaaGreatDoor.Flow
def lendA (ids : List Nat) : D → D
  | .gs k e n f => match memB k ids with
    | true => .gs k e n f
    | false => .sl e n f
  | d => d
def hasAll (own : Nat → Option Own) : Ow → Prop
  | [] => True
  | (k, o) :: r => own k = some o ∧ hasAll own r
theorem zbD {own : Nat → Option Own} : ∀ {lo : Ow}, hasAll own lo → ∀ k o, look k lo = some o → own k = some o
  | [], _, k, o, h => by simp [look] at h
  | (u, e) :: r, h, k, o, hk => by
    simp only [look] at hk
    cases hb : Nat.beq u k with
    | true =>
      have := Nat.eq_of_beq_eq_true hb
      subst this
      rw [hb] at hk
      cases hk
      exact h.1
    | false =>
      rw [hb] at hk
      exact zbD h.2 k o hk
theorem zaL {α : Type} {k : Nat} {o : α} : ∀ {l : List (Nat × α)}, look k l = some o → (k, o) ∈ l
  | [], h => by simp [look] at h
  | (u, e) :: r, h => by
    simp only [look] at h
    cases hb : Nat.beq u k with
    | true =>
      have := Nat.eq_of_beq_eq_true hb
      subst this
      rw [hb] at h
      cases h
      simp
    | false =>
      rw [hb] at h
      exact List.mem_cons_of_mem _ (zaL h)
theorem zaQ {O : Nat → Option Own} : ∀ {l : Ow}, (l.map (·.1)).Nodup → ∀ k, updO O l k = match look k l with
    | some o => some o
    | none => O k
  | [], _, k => rfl
  | (u, e) :: r, hn, k => by
    simp only [List.map_cons, List.nodup_cons] at hn
    simp only [updO, look]
    rw [zaQ hn.2 k]
    cases hb : Nat.beq u k with
    | true =>
      have := Nat.eq_of_beq_eq_true hb
      subst this
      rw [zaY hn.1]
      simp
    | false =>
      have hne : k ≠ u := fun e => by subst e; rw [Nat.beq_refl] at hb; cases hb
      cases look k r with
      | some o => rfl
      | none => simp [hne]
theorem ObjOk.keepL {S S' : Cells} {w w' : World} {r r' : Rho} {k : Nat} {o : Own} (h : ObjOk S w r k o) (hS : ∀ b o, S b o → S' b o) (hc : ∀ b o, S b o → w'.cell? ⟨b, o, none⟩ = w.cell? ⟨b, o, none⟩) (hr : RhoLe r r') (hk : r' k = r k)
    (hg : ∀ l b, r k = some l → l.block = some b → w'.heap[b]? = w.heap[b]?) (hn : ∀ b o, S' b o → S b o ∨ ∀ l, r k = some l → l.block ≠ some b) : ObjOk S' w' r' k o := by
  have hmono : ∀ d v, Rel S w r d v → Rel S' w' r' d v := fun d v hd => hd.mono hS hc r' hr
  cases o with
  | var cs =>
    obtain ⟨b, cur, e, h1, h2, h3, h4, h5⟩ := h
    have hb : (Loc.blk b).block = some b := rfl
    refine ⟨b, cur, e, hk.trans h1, ?_, h3, fun j hj => ⟨hmono _ _ (h4 j hj).1, (h4 j hj).2⟩, fun o ho => ?_⟩
    · rw [hg _ _ h1 hb]; exact h2
    · rcases hn b o ho with h6 | h6
      · exact h5 o h6
      · exact h6 _ h1 hb
  | row e esz len =>
    obtain ⟨tv, h1, h2⟩ := h
    refine ⟨tv, hk.trans h1, ?_⟩
    rcases h2 with h2 | ⟨g', cap, cur, rfl, h3, h4, h5, h6, h7⟩
    · exact .inl h2
    · have hb : (Loc.row (.slice (some ⟨g', 0, none⟩) len cap) len).block = some g' := rfl
      refine .inr ⟨g', cap, cur, rfl, ?_, h4, h5, h6, fun o ho hs => ?_⟩
      · rw [hg _ _ h1 hb]; exact h3
      · rcases hn g' o hs with h8 | h8
        · exact h7 o ho h8
        · exact h8 _ h1 hb
  | arr e esz len f =>
    obtain ⟨tv, h1, h2⟩ := h
    refine ⟨tv, hk.trans h1, ?_⟩
    rcases h2 with h2 | ⟨g', cap, cur, rfl, h3, h4, h5, h6, h7, h8, h9⟩
    · exact .inl h2
    · have hb : (Loc.row (.slice (some ⟨g', 0, none⟩) len cap) len).block = some g' := rfl
      refine .inr ⟨g', cap, cur, rfl, ?_, h4, h5, h6, h7, fun i j hi hj => (h8 i j hi hj).mono hS hc noRho (RhoLe.refl _), fun o hs => ?_⟩
      · rw [hg _ _ h1 hb]; exact h3
      · rcases hn g' o hs with h10 | h10
        · exact h9 o h10
        · exact h10 _ h1 hb
  | ob x =>
    obtain ⟨b, h1, h2, h5⟩ := h
    have hb : (Loc.blk b).block = some b := rfl
    refine ⟨b, hk.trans h1, ?_, fun o ho => ?_⟩
    · rw [hg _ _ h1 hb]; exact h2
    · rcases hn b o ho with h6 | h6
      · exact h5 o h6
      · exact h6 _ h1 hb
  | bld T d =>
    obtain ⟨b, cur, e, h1, h2, h3, h4, h7, h5⟩ := h
    have hb : (Loc.blk b).block = some b := rfl
    refine ⟨b, cur, e, hk.trans h1, ?_, h3, h4, ⟨hmono _ _ h7.1, h7.2⟩, fun o ho => ?_⟩
    · rw [hg _ _ h1 hb]; exact h2
    · rcases hn b o ho with h6 | h6
      · exact h5 o h6
      · exact h6 _ h1 hb
  | mp es =>
    obtain ⟨b, arr, clock, h1, h2, h3, h4, h7, h5⟩ := h
    have hb : (Loc.blk b).block = some b := rfl
    refine ⟨b, arr, clock, hk.trans h1, ?_, h3, fun j hj => ⟨(h4 j hj).1, hmono _ _ (h4 j hj).2.1, (h4 j hj).2.2⟩, h7, fun o ho => ?_⟩
    · rw [hg _ _ h1 hb]; exact h2
    · rcases hn b o ho with h6 | h6
      · exact h5 o h6
      · exact h6 _ h1 hb
  | bm e len f =>
    obtain ⟨b, cap, cur, h1, h2, h3, h4, h7, h8, h5⟩ := h
    have hb : (Loc.row (.slice (some ⟨b, 0, none⟩) len cap) len).block = some b := rfl
    refine ⟨b, cap, cur, hk.trans h1, ?_, h3, h4, h7, h8, fun o ho => ?_⟩
    · rw [hg _ _ h1 hb]; exact h2
    · rcases hn b o ho with h6 | h6
      · exact h5 o h6
      · exact h6 _ h1 hb
  | gone =>
    obtain ⟨l, h1, h2⟩ := h
    refine ⟨l, hk.trans h1, fun b hb => ?_⟩
    have h3 := hg l b h1 hb
    rw [Array.getElem?_eq_getElem (h2 b hb)] at h3
    exact (Array.getElem?_eq_some_iff.1 h3).1
theorem ObjOk.okIn {S : Cells} {w : World} {r r' : Rho} {k : Nat} {o : Own} {ks : List Nat} (h : ObjOk S w r k o) (hok : o.okIn ks = true) (hr : RhoLe (keepR r ks) r') (hk : r' k = r k) : ObjOk S w r' k o := by
  cases o with
  | var cs =>
    obtain ⟨b, cur, e, h1, h2, h3, h4, h5⟩ := h
    refine ⟨b, cur, e, hk.trans h1, h2, h3, fun j hj => ⟨((h4 j hj).1.okIn (ks := ks) ?_).mono (fun _ _ h => h) (fun _ _ _ => rfl) r' hr, (h4 j hj).2⟩, h5⟩
    simp only [Own.okIn, List.all_eq_true] at hok
    refine hok _ ?_
    simp only [List.getD_eq_getElem?_getD, List.getElem?_eq_getElem hj, Option.getD_some]
    exact List.getElem_mem hj
  | row e esz len =>
    obtain ⟨tv, h1, h2⟩ := h
    exact ⟨tv, hk.trans h1, h2⟩
  | arr e esz len f =>
    obtain ⟨tv, h1, h2⟩ := h
    exact ⟨tv, hk.trans h1, h2⟩
  | ob x =>
    obtain ⟨b, h1, h2⟩ := h
    exact ⟨b, hk.trans h1, h2⟩
  | bld T d =>
    obtain ⟨b, cur, e, h1, h2, h3, h4, h7, h5⟩ := h
    exact ⟨b, cur, e, hk.trans h1, h2, h3, h4, ⟨(h7.1.okIn (ks := ks) hok).mono (fun _ _ h => h) (fun _ _ _ => rfl) r' hr, h7.2⟩, h5⟩
  | mp es =>
    obtain ⟨b, arr, clock, h1, h2, h3, h4, h7, h5⟩ := h
    refine ⟨b, arr, clock, hk.trans h1, h2, h3, fun j hj => ⟨(h4 j hj).1, ((h4 j hj).2.1.okIn (ks := ks) ?_).mono (fun _ _ h => h) (fun _ _ _ => rfl) r' hr, (h4 j hj).2.2⟩, h7, h5⟩
    simp only [Own.okIn, List.all_eq_true] at hok
    refine hok _ ?_
    simp only [List.getD_eq_getElem?_getD, List.getElem?_eq_getElem hj, Option.getD_some]
    exact List.getElem_mem hj
  | bm e len f =>
    obtain ⟨b, cap, cur, h1, h2⟩ := h
    exact ⟨b, cap, cur, hk.trans h1, h2⟩
  | gone =>
    obtain ⟨l, h1, h2⟩ := h
    exact ⟨l, hk.trans h1, h2⟩
section
variable {P : Program} {X : Ctx} {n : Nat} {fr : Fr} {ow : Ow} {d : D}
theorem zdA {o : Oper} {f : FuncId} {args : List D} {lo lo' : Ow} {ids : List Nat} (hP : ∀ vs w, (callFunc f vs).run P w = .ok (.enter f vs) w) (hc : callOf fr o.op = some (f, args)) (hk : hasAll (fun k => look k ow) lo)
    (hi1 : lo.map (·.1) = ids) (hi2 : lo'.map (·.1) = ids) (hnd : ids.Nodup)
    (hok : (args.map (lendA ids)).all (D.okIn ids) = true) (hf1 : lo.all (fun x => x.2.okIn ids) = true) (hf2 : lo'.all (fun x => x.2.okIn ids) = true) (hf3 : d.okIn ids = true)
    (hC : CtrO P f (args.map (lendA ids)) lo d lo') (hd : dstOk o.dst n) :
    ∀ F' O', (∀ x ∈ o.op.operands.toList, evF F' x = evF (fF fr) x) → (∀ j ∈ ids, O' j = fO ow j) → StepAt P X n o F' O' d lo' := by
  intro F' O' he hO a w K' Q' ⟨S, r, hH, hI, hF, hdf, hn, hρ⟩ hK
  obtain ⟨vs, hrun, hsz, hrel⟩ := zbX hP hc he (fun x => zce hH.glob hF x)
  have hOk : ∀ k o, look k lo = some o → O' k = some o := fun k o h => by
    have hm : k ∈ ids := by rw [← hi1]; exact List.mem_map.2 ⟨(k, o), zaL h, rfl⟩
    exact (hO k hm).trans (zbD hk k o h)
  have hmem : ∀ k, k ∈ ids → ∃ o, look k lo = some o := fun k h => zba (by rw [hi1]; exact h)
  have hmem' : ∀ k, k ∈ ids → ∃ o, look k lo' = some o := fun k h => zba (by rw [hi2]; exact h)
  have hin : ∀ k o, look k lo = some o → k ∈ ids ∧ o.okIn ids = true := fun k o h => by
    have h1 := zaL h
    rw [List.all_eq_true] at hf1
    exact ⟨by rw [← hi1]; exact List.mem_map.2 ⟨(k, o), h1, rfl⟩, hf1 _ h1⟩
  have hin' : ∀ k o, look k lo' = some o → k ∈ ids ∧ o.okIn ids = true := fun k o h => by
    have h1 := zaL h
    rw [List.all_eq_true] at hf2
    exact ⟨by rw [← hi2]; exact List.mem_map.2 ⟨(k, o), h1, rfl⟩, hf2 _ h1⟩
  have hblt : ∀ k l b, r k = some l → l.block = some b → b < w.heap.size := fun k l b hl hb => by
    cases ho : O' k with
    | none => rw [hI.dom k ho] at hl; cases hl
    | some o => exact (hI.obj k o ho).blockLt hl hb
  let X' : Ctx := { w0 := w, S0 := S, L := fun b => ∃ k ∈ ids, ∃ l, r k = some l ∧ l.block = some b, r0 := keepR r ids, ids := ids }
  have hH' : Hist X' w S := ⟨rfl, rfl, rfl, Nat.le_refl _, fun _ _ _ => rfl, fun _ _ h => h, fun _ _ _ => rfl, fun _ _ h => .inl h, hH.valid, hH.glob⟩
  have hI' : Inv X' w S X'.r0 (fO lo) := by
    refine ⟨fun k o hk' => ?_, fun k hk' => ?_, fun i j l l' b' hij hl hl' hb' => ?_, fun k l b' hl hb' => ?_⟩
    · obtain ⟨h1, h2⟩ := hin k o hk'
      exact (hI.obj k o (hOk k o hk')).okIn h2 (RhoLe.refl _) (if_pos h1)
    · refine if_neg fun hm => ?_
      obtain ⟨o, ho⟩ := hmem k hm
      rw [show fO lo k = look k lo from rfl, ho] at hk'
      cases hk'
    · have hl : keepR r ids i = some l := hl
      have hl' : keepR r ids j = some l' := hl'
      simp only [keepR] at hl hl'
      split at hl <;> first | (cases hl; done) | skip
      split at hl' <;> first | (cases hl'; done) | skip
      exact hI.apart i j l l' b' hij hl hl' hb'
    · have hl : keepR r ids k = some l := hl
      simp only [keepR] at hl
      split at hl <;> first | (cases hl; done) | skip
      rename_i hm
      exact .inr ⟨k, hm, l, hl, hb'⟩
  have hrel' : ∀ j, j < (args.map (lendA ids)).length → Rel S w X'.r0 ((args.map (lendA ids)).getD j .any) (vs.getD j undef) := by
    intro j hj
    have hj' : j < args.length := by simpa using hj
    have e : (args.map (lendA ids)).getD j .any = lendA ids (args.getD j .any) := by simp [List.getD_eq_getElem?_getD, hj']
    have hokj : (lendA ids (args.getD j .any)).okIn ids = true := by
      rw [← e]
      rw [List.all_eq_true] at hok
      refine hok _ ?_
      simp only [List.getD_eq_getElem?_getD, List.getElem?_eq_getElem hj, Option.getD_some]
      exact List.getElem_mem hj
    rw [e]
    have hr := hrel j hj'
    generalize args.getD j .any = dj at hr hokj
    generalize vs.getD j undef = vj at hr
    refine Rel.okIn (r := r) ?_ hokj
    cases dj with
    | gs k z m g =>
      simp only [lendA]
      split
      · exact hr
      · exact hr.shut
    | _ => exact hr
  refine OW.enter hrun ((hC X' vs hi1.symm hH' hI' (by simpa using hsz) hrel').mono ?_)
  rintro e w' ⟨v, S', r', rfl, g1, g2, g3, g4⟩
  let r2 : Rho := fun k => if k ∈ ids then r' k else r k
  have hr2 : RhoLe r r2 := fun k l hl => by
    by_cases hm : k ∈ ids
    · obtain ⟨l', h1, h2⟩ := g4 k l (by show keepR r ids k = some l; rw [keepR, if_pos hm]; exact hl)
      exact ⟨l', by show (if k ∈ ids then r' k else r k) = some l'; rw [if_pos hm]; exact h1, h2⟩
    · exact ⟨l, by show (if k ∈ ids then r' k else r k) = some l; rw [if_neg hm]; exact hl, LocLe.refl l⟩
  have hr3 : RhoLe (keepR r' ids) r2 := fun k l hl => by
    simp only [keepR] at hl
    split at hl <;> first | (cases hl; done) | skip
    rename_i hm
    exact ⟨l, by show (if k ∈ ids then r' k else r k) = some l; rw [if_pos hm]; exact hl, LocLe.refl l⟩
  have hXL : ∀ b, X'.L b → X.w0.heap.size ≤ b ∨ X.L b := fun b ⟨k, _, l, hl, hb⟩ => hI.low k l b hl hb
  have hother : ∀ k l b, k ∉ ids → r k = some l → l.block = some b → ¬ X'.L b := fun k l b hm hl hb ⟨k', hm', l', hl', hb'⟩ =>
    hI.apart k k' l l' b (fun e => hm (e ▸ hm')) hl hl' hb hb'
  refine hK v w' ⟨S', r2, ?_, ?_, zco (fun t => (hF t).mono g2.sub g2.cell r2 hr2) (hn ▸ hd) ((g1.okIn hf3).mono (fun _ _ h => h) (fun _ _ _ => rfl) r2 hr3), by rw [zbi]; exact hdf, by rw [zbK]; exact hn, hρ.trans hr2⟩
  · refine ⟨g2.os.trans hH.os, g2.tape.trans hH.tape, g2.output.trans hH.output, Nat.le_trans hH.size g2.size, fun k hk' hl => ?_, fun b o hb => g2.sub b o (hH.sub b o hb), fun b o hb => (g2.cell b o (hH.sub b o hb)).trans (hH.cell b o hb), fun b o hb => ?_, g2.valid, g2.glob⟩
    · refine (g2.block k (Nat.lt_of_lt_of_le hk' hH.size) fun hx => ?_).trans (hH.block k hk' hl)
      rcases hXL k hx with h | h
      · omega
      · exact hl h
    · rcases g2.new b o hb with h | h | h
      · exact hH.new b o h
      · exact .inr (.inl (Nat.le_trans hH.size h))
      · rcases hXL b h with h | h
        · exact .inr (.inl h)
        · exact .inr (.inr h)
  · have hnd' : (lo'.map (·.1)).Nodup := by rw [hi2]; exact hnd
    have hup : ∀ k, k ∉ ids → updO O' lo' k = O' k := fun k hm => by
      rw [zaQ hnd', zaY (by rw [hi2]; exact hm)]
    refine ⟨fun k o hk' => ?_, fun k hk' => ?_, fun i j l l' b hij hl hl' hb => ?_, fun k l b hl hb => ?_⟩
    · by_cases hm : k ∈ ids
      · obtain ⟨o', ho'⟩ := hmem' k hm
        rw [zaQ hnd', ho'] at hk'
        obtain rfl : o' = o := Option.some.inj hk'
        exact (g3.obj k o' ho').okIn (hin' k o' ho').2 hr3 (if_pos hm)
      · rw [hup k hm] at hk'
        refine (hI.obj k o hk').keepL g2.sub g2.cell hr2 (if_neg hm) (fun l b hl hb => g2.block b (hblt k l b hl hb) (hother k l b hm hl hb)) (fun b o hs => ?_)
        rcases g2.new b o hs with h | h | h
        · exact .inl h
        · refine .inr fun l hl hb => ?_
          have := hblt k l b hl hb
          have h : w.heap.size ≤ b := h
          omega
        · exact .inr fun l hl hb => hother k l b hm hl hb h
    · by_cases hm : k ∈ ids
      · obtain ⟨o', ho'⟩ := hmem' k hm
        rw [zaQ hnd', ho'] at hk'
        cases hk'
      · rw [hup k hm] at hk'
        exact (if_neg hm).trans (hI.dom k hk')
    · have hl : (if i ∈ ids then r' i else r i) = some l := hl
      have hl' : (if j ∈ ids then r' j else r j) = some l' := hl'
      by_cases h1 : i ∈ ids
      · rw [if_pos h1] at hl
        by_cases h2 : j ∈ ids
        · rw [if_pos h2] at hl'
          exact g3.apart i j l l' b hij hl hl' hb
        · rw [if_neg h2] at hl'
          intro hb'
          rcases g3.low i l b hl hb with h | h
          · have := hblt j l' b hl' hb'
            have h : w.heap.size ≤ b := h
            omega
          · exact hother j l' b h2 hl' hb' h
      · rw [if_neg h1] at hl
        by_cases h2 : j ∈ ids
        · rw [if_pos h2] at hl'
          intro hb'
          rcases g3.low j l' b hl' hb' with h | h
          · have := hblt i l b hl hb
            have h : w.heap.size ≤ b := h
            omega
          · exact hother i l b h1 hl hb h
        · rw [if_neg h2] at hl'
          exact hI.apart i j l l' b hij hl hl' hb
    · have hl : (if k ∈ ids then r' k else r k) = some l := hl
      by_cases h1 : k ∈ ids
      · rw [if_pos h1] at hl
        rcases g3.low k l b hl hb with h | h
        · exact .inl (Nat.le_trans hH.size h)
        · exact hXL b h
      · rw [if_neg h1] at hl
        exact hI.low k l b hl hb
def resU (B : Tb) (fr : Fr) (ow : Ow) (rs : List ResultVar) : Option D :=
  match rs with
  | [.tmp t] => fz (getD' t fr) some
  | rs => resD B fr ow rs
theorem zea {ow : Ow} {fr : Fr} {fn : Func} {a : Act} {w : World} {S : Cells} {r : Rho} {d : D} {rs : List ResultVar} (hrs : fn.results = ⟨rs⟩) (hI : Inv X w S r (fO ow)) (hF : ∀ t, Rel S w r (fF fr t) (a.tmps.getD t undef)) (h : resU (tb P) fr ow rs = some d) :
    ∃ v, (results fn a.tmps).run P w = .ok v w ∧ Rel S w r d v := by
  unfold resU at h
  split at h
  · rename_i t
    rw [zeG] at h
    cases h
    refine ⟨a.tmps.getD t undef, ?_, hF t⟩
    have hm : (fn.results.mapM (resF a.tmps)).run P w = .ok #[a.tmps.getD t undef] w := by
      rw [hrs, Array.mapM_eq_mapM_toList]
      have h1 : ([ResultVar.tmp t].mapM (resF a.tmps)).run P w = .ok [a.tmps.getD t undef] w := by
        have h0 : (resF a.tmps (.tmp t)).run P w = .ok (a.tmps.getD t undef) w := rfl
        rw [List.mapM_cons]
        simp only [Sem.run_bind, h0, List.mapM_nil, Result.andThen_ok, Sem.run_pure]
      simp only [Sem.run_map, h1, Result.andThen_ok]
    simp only [zbY, Sem.run_bind, hm, Result.andThen_ok, Sem.run_pure]
    rfl
  · exact zdN hrs hI hF h
variable {ow' : Ow}
theorem CtrO.of_TU {f : FuncId} {fn : Func} {c : Code} {N : Nat} {rs : List ResultVar} {args : List D} {d : D} (hf : P.funcs[f]? = some fn) (hb : fn.body = some c) (hN : fn.ntmps = N) (hrs : fn.results = ⟨rs⟩) (hlen : args.length ≤ N)
    (h : ∀ X : Ctx, Lent X → X.ids = ow.map (·.1) → T P X N c (slots 0 args) ow (fun e fr2 ow2 => (e = .ret ∨ e = .normal) ∧ ∃ d2, resU (tb P) fr2 ow2 rs = some d2 ∧ Weak d2 d ∧ d.okIn (ow'.map (·.1)) = true ∧ Le X fr2 ow2 [] ow')) :
    CtrO P f args ow d ow' := by
  refine CtrO.of0 fun X vs hdf0 hids hH hI hsz hrel => ?_
  have hL : Lent X := fun k hk => by
    rw [hids]
    cases hmem : look k ow with
    | none => exact absurd (hI.dom k hmem) hk
    | some o =>
      by_cases hm : k ∈ ow.map (·.1)
      · exact hm
      · rw [zaY hm] at hmem; cases hmem
  refine calls_of_wp hf hb ?_
  have hrep : Rep X N (fF (slots 0 args)) (fO ow) { tmps := vs ++ Array.replicate (fn.ntmps - vs.size) undef, defers := [] } X.w0 := by
    refine ⟨X.S0, X.r0, hH, hI, fun t => ?_, hdf0.symm, by simp; omega, RhoLe.refl _⟩
    show Rel _ _ _ (getD' t (slots 0 args)) _
    rw [zbN]
    simp only [Nat.zero_le, if_true, Nat.sub_zero]
    by_cases ht : t < args.length
    · have := hrel t ht
      rw [Array.getD_eq_getD_getElem?, Array.getElem?_append_left (by omega), ← Array.getD_eq_getD_getElem?]
      exact this
    · rw [List.getD_eq_getElem?_getD, List.getElem?_eq_none (by omega)]
      exact .any ..
  refine wp_mono (h X hL hids _ _ hrep).wide fun e a w ⟨fr2, ow2, ⟨he, d2, h1, h2, h3, h4⟩, hrep2⟩ => ?_
  obtain ⟨S, r, hH2, hI2, hF2, hd2, _, hρ2⟩ := hrep2
  obtain ⟨v, hv, hvr⟩ := zea (P := P) hrs hI2 hF2 h1
  have hok := h4.ok
  simp only [okAll, Bool.and_eq_true] at hok
  have hfin : ∃ v' S' r', Ending.returned v = .returned v' ∧ Rel S' w r' d v' ∧ Hist X w S' ∧ Inv X w S' r' (fO ow') ∧ RhoLe X.r0 r' := by
    refine ⟨v, S, keepR r (ow'.map (·.1)), rfl, ?_, hH2, hI2.keep h4.ow hok.2, fun k l hk => ?_⟩
    · exact (hvr.weak h2).okIn h3
    · obtain ⟨l', g1, g2⟩ := hρ2 k l hk
      have : k ∈ ow'.map (·.1) := h4.ids k (hL k (by rw [hk]; simp))
      exact ⟨l', by simp only [keepR]; rw [if_pos this]; exact g1, g2⟩
  rcases he with rfl | rfl
  · exact ⟨hd2.trans hdf0, v, hv, hfin⟩
  · exact ⟨hd2.trans hdf0, v, hv, hfin⟩
theorem T.adoptV {c : Code} {Q : Exit → Fr → Ow → Prop} (v j k e z : Nat) (cs : List D) (f : Nat → List D) (hv : look v ow = some (.var cs)) (hj : cs.getD j .any = .nilS) (hk : look k ow = none)
    (h : T P X n c fr ((v, .var (cs.set j (.gs k z 0 f))) :: (k, .row e z 0) :: ow) Q) : T P X n c fr ow Q := fun a w hr => by
  refine h a w ?_
  obtain ⟨S, r, hH, hI, hF, hd, hn, hρ⟩ := hr
  have hle : RhoLe r (updR r k (.row (.slice none 0 0) 0)) := RhoLe.new (hI.dom k hk)
  have hk0 : updR r k (.row (.slice none 0 0) 0) k = some (.row (.slice none 0 0) 0) := by simp [updR]
  have hc : Chg w w S none := ⟨rfl, rfl, rfl, Nat.le_refl _, fun _ _ _ => rfl, fun _ _ _ => rfl⟩
  have hI2 : Inv X w S (updR r k (.row (.slice none 0 0) 0)) (fO ((k, .row e z 0) :: ow)) := by
    rw [zaJ]
    exact hI.put hc (fun _ _ h => h) hle k _ (.row (.slice none 0 0) 0) ⟨_, hk0, .inl ⟨rfl, rfl⟩⟩ hk0 (fun j hj => by simp [updR, hj]) (fun b hb => by simp [Loc.block] at hb) (fun b hb => by cases hb) (fun _ _ h => .inl h)
  have hvk : v ≠ k := fun e => by subst e; rw [hv] at hk; cases hk
  have hv2 : fO ((k, .row e z 0) :: ow) v = some (.var cs) := by
    rw [zaJ]
    show (if v = k then _ else fO ow v) = _
    rw [if_neg hvk]
    exact hv
  have hobj := hI2.obj v _ hv2
  obtain ⟨b, cur, e0, h1, h2, h3, h4, h5⟩ := hobj
  refine ⟨S, updR r k (.row (.slice none 0 0) 0), hH, ?_, fun u => (hF u).mono (fun _ _ h => h) (fun _ _ _ => rfl) _ hle, hd, hn, hρ.trans hle⟩
  rw [zaJ]
  refine hI2.put hc (fun _ _ h => h) (RhoLe.refl _) v _ (.blk b) ⟨b, cur, e0, h1, h2, by simpa using h3, fun i hi => ?_, h5⟩ h1 (fun _ _ => rfl) (fun b' hb' => .inr ⟨_, h1, hb'⟩) (fun b hb => by cases hb) (fun _ _ h => .inl h)
  have hi' : i < cs.length := by simpa using hi
  by_cases e : j = i
  · subst e
    have e1 : (cs.set j (D.gs k z 0 f)).getD j .any = .gs k z 0 f := by simp [List.getD_eq_getElem?_getD, hi']
    rw [e1]
    have h6 := (h4 j hi').1
    rw [hj] at h6
    generalize cur.getD j undef = vj at h6 ⊢
    cases h6
    refine ⟨.gs _ k z 0 f _ _ 0 (.sl _ _ _ _ none 0 (fun _ _ => undef) (Nat.le_refl _) (by unfold maxLen; omega) (fun i hi => by omega) (fun i j hi => by omega) (fun i j hi => by omega)) hk0 (Nat.le_refl _) (fun _ => .inl rfl), rfl⟩
  · have e1 : (cs.set j (D.gs k z 0 f)).getD i .any = cs.getD i .any := by simp [List.getD_eq_getElem?_getD, e]
    rw [e1]
    exact h4 i hi'
end
section
variable {X : Ctx} {n : Nat} {all rest : List Oper} {fr : Fr} {ow : Ow} {tr : List (List Nat × List Nat)} {K : Fr → Ow → List (List Nat × List Nat) → Prop} {Q : Exit → Fr → Ow → Prop}
variable {t : Nat} {op : Op} {ty : TypeId} {pos : String} {af : Array Edge} {d : D} {g u : Nat} {want : Bool} {k k2 : Nat} {o1 o2 o1' o2' : Own} {f : FuncId} {args : List D}
theorem zaq (k : Nat) (hc : callOf fr op = some (f, args)) (hn : Nat.blt t n = true) (hP : ∀ vs w, (callFunc f vs).run Tryz.prog w = .ok (.enter f vs) w) (hk : look k ow = some o1)
    (hok : (args.map (lendA [k])).all (D.okIn [k]) = true) (hf1 : o1.okIn [k] = true) (hf2 : o1'.okIn [k] = true) (hf3 : d.okIn [k] = true)
    (hC : CtrO Tryz.prog f (args.map (lendA [k])) [(k, o1)] d [(k, o1')])
    (h : CT Tryz.prog X n all rest ((t, d) :: fr) ((k, o1') :: ow) (tr ++ [([k], [k])]) K) : CT Tryz.prog X n all (⟨some t, op, ty, pos, af, none⟩ :: rest) fr ow tr K :=
  CT.cons (e := ⟨d, [k], [(k, o1')]⟩) (.plain rfl (zdA (o := ⟨some t, op, ty, pos, af, none⟩) (ow := ow) (lo := [(k, o1)]) hP hc ⟨hk, trivial⟩ rfl rfl (by simp) hok (by simp [hf1]) (by simp [hf2]) hf3 hC (show t < n by simpa using hn))) (zaF ..) (zaJ ..) h
theorem zqC (ow : Ow) (k1 k2 : Nat) (o1 o2 : Own) (hne : k1 ≠ k2) : fO ((k1, o1) :: (k2, o2) :: ow) = updO (fO ow) [(k1, o1), (k2, o2)] := by
  funext u
  rw [zaJ, zaJ]
  simp only [updO]
  by_cases h1 : u = k1
  · subst h1
    simp [hne]
  · by_cases h2 : u = k2
    · subst h2
      rw [if_neg h1]
      simp
    · simp [h1, h2]
theorem zax (k k2 : Nat) (hc : callOf fr op = some (f, args)) (hn : Nat.blt t n = true) (hP : ∀ vs w, (callFunc f vs).run Tryz.prog w = .ok (.enter f vs) w) (hk : look k ow = some o1) (hk2 : look k2 ow = some o2) (hne : Nat.beq k k2 = false)
    (hok : (args.map (lendA [k, k2])).all (D.okIn [k, k2]) = true) (hf1 : o1.okIn [k, k2] = true) (hf2 : o2.okIn [k, k2] = true) (hg1 : o1'.okIn [k, k2] = true) (hg2 : o2'.okIn [k, k2] = true) (hf3 : d.okIn [k, k2] = true)
    (hC : CtrO Tryz.prog f (args.map (lendA [k, k2])) [(k, o1), (k2, o2)] d [(k, o1'), (k2, o2')])
    (h : CT Tryz.prog X n all rest ((t, d) :: fr) ((k, o1') :: (k2, o2') :: ow) (tr ++ [([k, k2], [k, k2])]) K) : CT Tryz.prog X n all (⟨some t, op, ty, pos, af, none⟩ :: rest) fr ow tr K :=
  have hne' : k ≠ k2 := fun e => by subst e; rw [Nat.beq_refl] at hne; cases hne
  CT.cons (e := ⟨d, [k, k2], [(k, o1'), (k2, o2')]⟩) (.plain rfl (zdA (o := ⟨some t, op, ty, pos, af, none⟩) (ow := ow) (lo := [(k, o1), (k2, o2)]) hP hc ⟨hk, hk2, trivial⟩ rfl rfl (by simp [hne']) hok (by simp [hf1, hf2]) (by simp [hg1, hg2]) hf3 hC (show t < n by simpa using hn))) (zaF ..) (zqC _ _ _ _ _ hne') h
theorem zfr (ow : Ow) (k1 k2 k3 : Nat) (o1 o2 o3 : Own) (h12 : k1 ≠ k2) (h13 : k1 ≠ k3) (h23 : k2 ≠ k3) : fO ((k1, o1) :: (k2, o2) :: (k3, o3) :: ow) = updO (fO ow) [(k1, o1), (k2, o2), (k3, o3)] := by
  funext u
  rw [zaJ, zaJ, zaJ]
  simp only [updO]
  by_cases h1 : u = k1
  · subst h1
    simp [h12, h13]
  · by_cases h2 : u = k2
    · subst h2
      simp [h1, h23]
    · by_cases h3 : u = k3
      · subst h3
        simp [h1, h2]
      · simp [h1, h2, h3]
theorem zhY {o3 o3' : Own} (k k2 k3 : Nat) (hc : callOf fr op = some (f, args)) (hn : Nat.blt t n = true) (hP : ∀ vs w, (callFunc f vs).run Tryz.prog w = .ok (.enter f vs) w) (hk : look k ow = some o1) (hk2 : look k2 ow = some o2) (hk3 : look k3 ow = some o3)
    (hne : (!Nat.beq k k2 && !Nat.beq k k3 && !Nat.beq k2 k3) = true)
    (hok : (args.map (lendA [k, k2, k3])).all (D.okIn [k, k2, k3]) = true) (f1 : o1.okIn [k, k2, k3] = true) (f2 : o2.okIn [k, k2, k3] = true) (f3 : o3.okIn [k, k2, k3] = true) (g1 : o1'.okIn [k, k2, k3] = true) (g2 : o2'.okIn [k, k2, k3] = true) (g3 : o3'.okIn [k, k2, k3] = true) (hf3 : d.okIn [k, k2, k3] = true)
    (hC : CtrO Tryz.prog f (args.map (lendA [k, k2, k3])) [(k, o1), (k2, o2), (k3, o3)] d [(k, o1'), (k2, o2'), (k3, o3')])
    (h : CT Tryz.prog X n all rest ((t, d) :: fr) ((k, o1') :: (k2, o2') :: (k3, o3') :: ow) (tr ++ [([k, k2, k3], [k, k2, k3])]) K) : CT Tryz.prog X n all (⟨some t, op, ty, pos, af, none⟩ :: rest) fr ow tr K := by
  simp only [Bool.and_eq_true, Bool.not_eq_true'] at hne
  have h12 : k ≠ k2 := fun e => by subst e; simp [Nat.beq_refl] at hne
  have h13 : k ≠ k3 := fun e => by subst e; simp [Nat.beq_refl] at hne
  have h23 : k2 ≠ k3 := fun e => by subst e; simp [Nat.beq_refl] at hne
  exact CT.cons (e := ⟨d, [k, k2, k3], [(k, o1'), (k2, o2'), (k3, o3')]⟩) (.plain rfl (zdA (o := ⟨some t, op, ty, pos, af, none⟩) (ow := ow) (lo := [(k, o1), (k2, o2), (k3, o3)]) hP hc ⟨hk, hk2, hk3, trivial⟩ rfl rfl (by simp [h12, h13, h23]) hok (by simp [f1, f2, f3]) (by simp [g1, g2, g3]) hf3 hC (show t < n by simpa using hn))) (zaF ..) (zfr _ _ _ _ _ _ _ h12 h13 h23) h
structure Stay (p : Prop) : Prop where
  out : p
def EndsM (rs : List ResultVar) (d : D) (lo : Ow) (e : Exit) (fr : Fr) (ow : Ow) : Prop :=
  match e with
  | .ret | .normal => ∃ d2, resU B fr ow rs = some d2 ∧ Weak d2 d ∧ leOw ow lo
  | _ => False
theorem zbb {rs : List ResultVar} {d d2 : D} {lo : Ow} (h : resU B fr ow rs = some d2) (he : d2 = d) (hlo : Stay (leOw ow lo)) : Rtn (EndsM rs d lo) fr ow := by
  unfold Rtn
  exact ⟨d2, h, .of_eq he, hlo.out⟩
theorem zbT {rs : List ResultVar} {d d2 : D} {lo : Ow} (h : resU B fr ow rs = some d2) (he : d2 = d) (hlo : Stay (leOw ow lo)) : Nrm (EndsM rs d lo) fr ow := by
  unfold Nrm
  exact ⟨d2, h, .of_eq he, hlo.out⟩
theorem zaI {fn : Func} {c : Code} {N : Nat} {rs : List ResultVar} {lo lo' : Ow} {ids : List Nat} (hf : Tryz.prog.funcs[f]? = some fn) (hb : fn.body = some c) (hN : fn.ntmps = N) (hrs : fn.results = ⟨rs⟩) (hlen : Nat.ble args.length N = true)
    (hi1 : lo.map (·.1) = ids) (hi2 : lo'.map (·.1) = ids) (hd : d.okIn ids = true) (hcs : lo'.all (fun x => x.2.okIn ids) = true)
    (h : ∀ X : Ctx, Lent X → X.ids = ids → T Tryz.prog X N c (slots 0 args) lo (EndsM rs d lo')) : CtrO Tryz.prog f args lo d lo' := by
  refine CtrO.of_TU hf hb hN hrs (by simpa using hlen) fun X hL hi => (h X hL (hi.trans hi1)).mono fun e fr2 ow2 hq => ?_
  have key : ∀ d2, resU B fr2 ow2 rs = some d2 → Weak d2 d → leOw ow2 lo' →
      ∃ d2, resU (tb Tryz.prog) fr2 ow2 rs = some d2 ∧ Weak d2 d ∧ d.okIn (lo'.map (·.1)) = true ∧ Le X fr2 ow2 [] lo' := by
    intro d2 h1 h2 h3
    refine ⟨d2, by rw [zct]; exact h1, h2, by rw [hi2]; exact hd, trivial, h3, ?_, fun k hk => ?_⟩
    · rw [hi2]
      simp only [okAll, List.all_nil, Bool.true_and]
      exact hcs
    · rw [hi, hi1] at hk
      rw [hi2]
      exact hk
  cases e with
  | ret => obtain ⟨d2, h1, h2, h3⟩ := hq; exact ⟨.inl rfl, key d2 h1 h2 h3⟩
  | normal => obtain ⟨d2, h1, h2, h3⟩ := hq; exact ⟨.inr rfl, key d2 h1 h2 h3⟩
  | _ => exact hq.elim
end
end Go.Proofs.YtcajofhafpkbdaaGreatDoor.Flow

namespace Go.Proofs.YtcajofhafpkbdaaGreatDoor.Flow
open Go
theorem T.weakF {P : Program} {X : Ctx} {n : Nat} {fr : Fr} {ow : Ow} {Q : Exit → Fr → Ow → Prop} {c : Code} (t : Nat) (d : D) (hw : Weak (getD' t fr) d) (h : T P X n c ((t, d) :: fr) ow Q) : T P X n c fr ow Q := fun a w hr => h a w (by
  obtain ⟨S, r, hH, hI, hF, hd, hn, hρ⟩ := hr
  refine ⟨S, r, hH, hI, fun u => ?_, hd, hn, hρ⟩
  rw [zaF]
  show Rel _ _ _ (if u = t then _ else fF fr u) _
  by_cases e : u = t
  · subst e
    rw [if_pos rfl]
    exact (hF u).weak hw
  · rw [if_neg e]
    exact hF u)
theorem zrX (x : UInt8) (n : Nat) (h : n < 256) : (x.toNat : Int) = n ↔ x = UInt8.ofNat n := by
  constructor
  · intro h1
    have h2 : x.toNat = n := by exact_mod_cast h1
    apply UInt8.toNat.inj
    simp [h2]; omega
  · intro h1
    subst h1
    simp; omega
theorem zaH (s : List UInt8) (i : Int) : 0 ≤ at' s i ∧ at' s i < 256 := by
  have := (s.getD i.toNat 0).toNat_lt
  unfold at'
  omega
theorem zbI (l : List UInt8) : bytesOf l.length (bytesF l) = l := by
  apply List.ext_getElem
  · simp [bytesOf]
  · intro n h1 h2
    simp [bytesOf, bytesF, byteOf, h2]
theorem zhc (l : List UInt8) : ∀ i, i < l.length → ∃ n, bytesF l i = [.i .u8 n] := fun _i _ => ⟨_, rfl⟩
theorem zmD (l xs : List UInt8) (g : Nat → List D) (hg : ∀ i, i < xs.length → g i = bytesF xs i) : catF l.length (bytesF l) xs.length g = bytesF (l ++ xs) := by
  funext j
  unfold catF
  by_cases h : j < l.length
  · rw [if_pos h]
    simp [bytesF, List.getD_eq_getElem?_getD, h, List.getElem?_append_left]
  · rw [if_neg h]
    by_cases h2 : j < l.length + xs.length
    · rw [if_pos h2, hg _ (by omega)]
      simp [bytesF, List.getD_eq_getElem?_getD, List.getElem?_append_right (show l.length ≤ j by omega)]
    · rw [if_neg h2]
      simp [bytesF, List.getD_eq_getElem?_getD, List.getElem?_append_right (show l.length ≤ j by omega)]
      rw [List.getElem?_eq_none (show l.length ≤ j by omega), List.getElem?_eq_none (show xs.length ≤ j - l.length by omega)]
theorem zdS (k : Nat) (l xs : List UInt8) (m : Nat) (g : Nat → List D) (hm : m = xs.length) (hg : ∀ i, i < xs.length → g i = bytesF xs i) :
    D.gs k 1 (l.length + m) (catF l.length (bytesF l) m g) = D.gs k 1 (l ++ xs).length (bytesF (l ++ xs)) := by
  subst hm
  rw [zmD l xs g hg]
  simp
theorem zsu (k : Nat) (l : List UInt8) (x : UInt8) (g : Nat → List D) (hg : g 0 = [.i .u8 (x.toNat : Int)]) : D.gs k 1 (l.length + 1) (catF l.length (bytesF l) 1 g) = D.gs k 1 (l ++ [x]).length (bytesF (l ++ [x])) :=
  zdS k l [x] 1 g rfl (fun i hi => by
    have : i = 0 := by simpa using hi
    subst this
    exact hg)
def by8 (n : Int) : UInt8 := UInt8.ofNat n.toNat
theorem zcJ (n : Int) (h : 0 ≤ n) (h2 : n < 256) : ((by8 n).toNat : Int) = n := by
  unfold by8
  have : n.toNat < 256 := by omega
  simp
  omega
theorem ztT (s : List UInt8) (i : Int) : by8 (at' s i) = s.getD i.toNat 0 := by
  unfold by8 at'
  simp
theorem wi6_ (n : Int) : IntKind.i64.wrap n = (n + 9223372036854775808) % 18446744073709551616 - 9223372036854775808 := IntKind.wrap_i64 n
theorem wi3_ (n : Int) : IntKind.i32.wrap n = (n + 2147483648) % 4294967296 - 2147483648 := IntKind.wrap_i32 n
theorem zcp (n : Int) : IntKind.u8.wrap n = n % 256 := by simp [IntKind.wrap, IntKind.bits, IntKind.signed]
theorem wrap_i32 (n : Int) (h : -2147483648 ≤ n) (h2 : n < 2147483648) : IntKind.i32.wrap n = n := by
  simp [IntKind.wrap, IntKind.bits, IntKind.signed]
  omega
theorem zjo (n : Int) : IntKind.u64.wrap n = n % 18446744073709551616 := by simp [IntKind.wrap, IntKind.bits, IntKind.signed]
theorem zlp (n : Int) (h : 0 ≤ n) (h2 : n < 4294967296) : IntKind.u32.wrap n = n := by
  simp [IntKind.wrap, IntKind.bits, IntKind.signed]
  omega
set_option maxRecDepth 100000 in
theorem ztk : ∀ x : _root_.Fin 32, bits .or .u8 192 ((x.val : Nat) : Int) = 192 + (x.val : Nat) := by decide
set_option maxRecDepth 100000 in
theorem ztz : ∀ x : _root_.Fin 16, bits .or .u8 224 ((x.val : Nat) : Int) = 224 + (x.val : Nat) := by decide
set_option maxRecDepth 100000 in
theorem zth : ∀ x : _root_.Fin 8, bits .or .u8 240 ((x.val : Nat) : Int) = 240 + (x.val : Nat) := by decide
set_option maxRecDepth 100000 in
theorem zti : ∀ x : _root_.Fin 64, bits .or .u8 128 ((x.val : Nat) : Int) = 128 + (x.val : Nat) := by decide
set_option maxRecDepth 100000 in
theorem ztP : ∀ x : _root_.Fin 256, bits .and .u8 ((x.val : Nat) : Int) 63 = ((x.val % 64 : Nat) : Int) := by decide
theorem or192 (n : Int) (h : 0 ≤ n) (h2 : n < 32) : bits .or .u8 192 n = 192 + n := by
  have := ztk ⟨n.toNat, by omega⟩
  simp only at this
  rwa [show ((n.toNat : Nat) : Int) = n by omega] at this
theorem or224 (n : Int) (h : 0 ≤ n) (h2 : n < 16) : bits .or .u8 224 n = 224 + n := by
  have := ztz ⟨n.toNat, by omega⟩
  simp only at this
  rwa [show ((n.toNat : Nat) : Int) = n by omega] at this
theorem or240 (n : Int) (h : 0 ≤ n) (h2 : n < 8) : bits .or .u8 240 n = 240 + n := by
  have := zth ⟨n.toNat, by omega⟩
  simp only at this
  rwa [show ((n.toNat : Nat) : Int) = n by omega] at this
theorem or128 (n : Int) (h : 0 ≤ n) (h2 : n < 64) : bits .or .u8 128 n = 128 + n := by
  have := zti ⟨n.toNat, by omega⟩
  simp only at this
  rwa [show ((n.toNat : Nat) : Int) = n by omega] at this
theorem and63 (n : Int) (h : 0 ≤ n) (h2 : n < 256) : bits .and .u8 n 63 = n % 64 := by
  have := ztP ⟨n.toNat, by omega⟩
  simp only at this
  rw [show ((n.toNat : Nat) : Int) = n by omega] at this
  rw [this]
  omega

def hexF (c : Int) : Int := if 48 ≤ c ∧ c ≤ 57 then c - 48 else if 97 ≤ c ∧ c ≤ 102 then c - 87 else if 65 ≤ c ∧ c ≤ 70 then c - 55 else -1
theorem zhl (c : Int) : -1 ≤ hexF c ∧ hexF c ≤ 15 := by
  unfold hexF
  split
  · omega
  · split
    · omega
    · split <;> omega
theorem zsX (c : Int) (h0 : 0 ≤ c) (h1 : c < 256) : Ctr Tryz.prog 178 [.i .u8 c] (.i .i64 (hexF c)) := by
  refine zaE Tryz.func178 rfl Tryz.ntmps178 Tryz.results178 rfl rfl fun X hL hX => ?_
  repeat' (first |with_reducible (first |refine zag ?_|refine zaa ?_|refine zaf ?_|refine zad ?_|refine zaj ?_|refine zah ?_|refine zae ?_|refine zap ?_|refine zam ?_|refine zar ?_)|refine zab rfl rfl True.intro ?_|refine zat rfl rfl rfl ?_|refine zak rfl rfl rfl rfl True.intro ?_|refine zal rfl ?_|((first |refine zac rfl ?_ ?_|refine zan rfl rfl ?_ ?_)<;>intro<;>try (first |(exfalso;omega)))|((first |refine zab rfl rfl ?_ ?_);focus (first |((repeat first |rw [zcp]|rw [wi6_]);(repeat' refine And.intro ?_ ?_)<;>omega)))|refine zau rfl ?_|fail)
  all_goals
    congr 1
    try simp only [zcp, wi6_]
    unfold hexF
    first
      | (rw [if_pos (by omega)]; omega)
      | (rw [if_neg (by omega), if_pos (by omega)]; omega)
      | (rw [if_neg (by omega), if_neg (by omega), if_pos (by omega)]; omega)
      | (rw [if_neg (by omega), if_neg (by omega), if_neg (by omega)])
def rd (s : List UInt8) (i : Int) (o : List UInt8) (e : Int) : List D := [.s s, .i .i64 i, .gs 200 1 o.length (bytesF o), .i .i64 e]
def rdl (s : List UInt8) (i : Int) (o : List UInt8) (e : Int) : Ow := [(20, .var (rd s i o e)), (200, .row 5 1 o.length)]
def failF (e c : Int) : Int := if e = 0 then c else e
theorem zcl (s : List UInt8) (i : Int) (o : List UInt8) (e c : Int) : CtrO Tryz.prog 133 [.pv 20 0, .i .i64 c] (rdl s i o e) (.tu []) (rdl s i o (failF e c)) := by
  refine zaI Tryz.func133 rfl Tryz.ntmps133 Tryz.results133 rfl rfl rfl rfl rfl fun X hL hX => ?_
  repeat' (first |with_reducible (first |refine zag ?_|refine zaa ?_|refine zaf ?_|refine zad ?_|refine zah ?_)|refine zab rfl rfl True.intro ?_|((first |refine zac rfl ?_ ?_)<;>intro)|((first |refine zab rfl rfl ?_ ?_|refine zaw rfl ?_ ?_);focus (first |exact le_ rfl|((repeat' refine And.intro ?_ ?_)<;>first |rfl|exact Nat.le_refl _)))|refine zbT rfl rfl ?_|fail)
  · exact ⟨⟨by rw [show failF e c = c from if_pos ‹_›]; rfl, rfl, trivial⟩⟩
  · exact ⟨⟨by rw [show failF e c = e from if_neg ‹_›]; rfl, rfl, trivial⟩⟩
theorem zlS (e c : Int) (h : ¬ c = 0) : ¬ failF e c = 0 := by
  unfold failF
  split
  · exact h
  · assumption
def nextF (s : List UInt8) (i e : Int) : Int × Int × Int := if e = 0 then (if i < s.length then (at' s i, i + 1, 0) else (0, i, 2)) else (0, i, e)
theorem zdw {s : List UInt8} {i e : Int} (h : e = 0) (h2 : i < s.length) : nextF s i e = (at' s i, i + 1, 0) := by
  unfold nextF
  rw [if_pos h, if_pos h2]
theorem zcc {s : List UInt8} {i e : Int} (h : e = 0) (h2 : ¬ i < s.length) : nextF s i e = (0, i, 2) := by
  unfold nextF
  rw [if_pos h, if_neg h2]
theorem zda {s : List UInt8} {i e : Int} (h : ¬ e = 0) : nextF s i e = (0, i, e) := by
  unfold nextF
  rw [if_neg h]
theorem zkG {s : List UInt8} {i e : Int} (_h : 0 ≤ i) (h2 : i ≤ s.length) : i ≤ (nextF s i e).2.1 ∧ (nextF s i e).2.1 ≤ s.length ∧ 0 ≤ (nextF s i e).1 ∧ (nextF s i e).1 < 256 ∧ (nextF s i e).2.1 ≤ i + 1 := by
  have := zaH s i
  unfold nextF
  split
  · split
    · dsimp only; omega
    · dsimp only; omega
  · dsimp only; omega
theorem zdv (s : List UInt8) (i : Int) (o : List UInt8) (e : Int) (hs : s.length ≤ 1099511627776) (h0 : 0 ≤ i) (h1 : i ≤ s.length) :
    CtrO Tryz.prog 131 [.pv 20 0] (rdl s i o e) (.i .u8 (nextF s i e).1) (rdl s (nextF s i e).2.1 o (nextF s i e).2.2) := by
  refine zaI Tryz.func131 rfl Tryz.ntmps131 Tryz.results131 rfl rfl rfl rfl rfl fun X hL hX => ?_
  have hz : ¬ failF e 2 = 0 := zlS e 2 (by omega)
  repeat' (first |with_reducible (first |refine zag ?_|refine zaa ?_|refine zaf ?_|refine zad ?_|refine zaj ?_|refine zah ?_|refine zam ?_|refine zaB ?_)|refine zab rfl rfl True.intro ?_|((first |refine zac rfl ?_ ?_|refine zaC rfl ?_ ?_)<;>intro<;>try (first |contradiction))|((first |refine zab rfl rfl ?_ ?_|refine zaw rfl ?_ ?_);focus (first |omega|exact le_ rfl|((repeat' refine And.intro ?_ ?_)<;>omega)|((repeat' refine And.intro ?_ ?_)<;>first |rfl|exact le_ rfl)))|with_reducible refine ⟨by kernel_rfl, ?_⟩|refine zbb rfl ?_ ?_|refine zax (f := 133) 20 200 rfl rfl Tryz.call133 rfl rfl rfl rfl rfl rfl rfl rfl rfl (zcl s i o e 2) ?_|fail)
  · by_cases he : e = 0
    · rw [zcc he (by omega)]
    · rw [zda he]
  · by_cases he : e = 0
    · rw [zcc he (by omega)]
      exact ⟨⟨by rw [show failF e 2 = 2 from if_pos he]; rfl, rfl, trivial⟩⟩
    · rw [zda he]
      exact ⟨⟨by rw [show failF e 2 = e from if_neg he]; rfl, rfl, trivial⟩⟩
  · rw [zda ‹_›]
  · rw [zda ‹_›]
    exact ⟨⟨rfl, rfl, trivial⟩⟩
  · rw [zdw ‹_› (by omega), show i + 1 - 1 = i by omega]
  · rw [zdw ‹_› (by omega)]
    subst e
    exact ⟨⟨rfl, rfl, trivial⟩⟩
def mustF (s : List UInt8) (i e c : Int) : Int × Int := ((nextF s i e).2.1, if (nextF s i e).1 = c then (nextF s i e).2.2 else failF (nextF s i e).2.2 3)
theorem zhU (s : List UInt8) (i : Int) (o : List UInt8) (e c : Int) (hs : s.length ≤ 1099511627776) (h0 : 0 ≤ i) (h1 : i ≤ s.length) :
    CtrO Tryz.prog 130 [.pv 20 0, .i .u8 c] (rdl s i o e) (.tu []) (rdl s (mustF s i e c).1 o (mustF s i e c).2) := by
  have hn := zdv s i o e hs h0 h1
  unfold mustF
  generalize nextF s i e = x at hn ⊢
  obtain ⟨b, j, e'⟩ := x
  dsimp only at hn ⊢
  refine zaI Tryz.func130 rfl Tryz.ntmps130 Tryz.results130 rfl rfl rfl rfl rfl fun X hL hX => ?_
  repeat' (first |with_reducible (first |refine zag ?_|refine zaa ?_|refine zaf ?_|refine zad ?_|refine zah ?_)|refine zab rfl rfl True.intro ?_|((first |refine zaC rfl ?_ ?_)<;>intro)|refine zbT rfl rfl ?_|refine zax (f := 133) 20 200 rfl rfl Tryz.call133 rfl rfl rfl rfl rfl rfl rfl rfl rfl (zcl s j o e' 3) ?_|refine zax (f := 131) 20 200 rfl rfl Tryz.call131 rfl rfl rfl rfl rfl rfl rfl rfl rfl hn ?_|fail)
  · exact ⟨⟨by rw [if_neg ‹_›]; rfl, rfl, trivial⟩⟩
  · exact ⟨⟨by rw [if_pos ‹_›]; rfl, rfl, trivial⟩⟩
def fourG (s : List UInt8) : Nat → Int → Int → Int × Int × Int
  | 0, n, i => (n, i, 0)
  | k + 1, n, i => if i < s.length then (if hexF (at' s i) < 0 then (0, i + 1, 3) else fourG s k (16 * n + hexF (at' s i)) (i + 1)) else (0, i, 2)
def fourF (s : List UInt8) (i e : Int) : Int × Int × Int := if e = 0 then fourG s 4 0 i else (0, i, e)

theorem or4 (n h : Int) (h0 : 0 ≤ n) (h1 : n < 4096) (h2 : 0 ≤ h) (h3 : h < 16) : bits .or .i32 (IntKind.i32.wrap (n * 2 ^ (4 : Int).toNat)) (IntKind.i32.wrap h) = 16 * n + h := by
  have e : n * 2 ^ (4 : Int).toNat = 16 * n := by
    show n * 2 ^ 4 = _
    omega
  rw [e, wrap_i32 _ (by omega) (by omega), wrap_i32 _ (by omega) (by omega)]
  exact bits_join .i32 31 (by decide) wraps_i32 4 (16 * n) h (by omega) (by omega) (by omega) h2 (by omega) (by omega)
section
variable {s : List UInt8} {k : Nat} {n i : Int}
theorem zcC (h : i < s.length) (h2 : ¬ hexF (at' s i) < 0) : fourG s (k + 1) n i = fourG s k (16 * n + hexF (at' s i)) (i + 1) := by
  rw [fourG, if_pos h, if_neg h2]
theorem zgO (h : i < s.length) (h2 : hexF (at' s i) < 0) : fourG s (k + 1) n i = (0, i + 1, 3) := by
  rw [fourG, if_pos h, if_pos h2]
theorem zfT (h : ¬ i < s.length) : fourG s (k + 1) n i = (0, i, 2) := by
  rw [fourG, if_neg h]
end
theorem zjK (s : List UInt8) (i : Int) (o : List UInt8) (hs : s.length ≤ 1099511627776) (h0 : 0 ≤ i) (h1 : i ≤ s.length) :
    CtrO Tryz.prog 167 [.pv 20 0] (rdl s i o 0) (.i .i32 (fourG s 4 0 i).1) (rdl s (fourG s 4 0 i).2.1 o (fourG s 4 0 i).2.2) := by
  refine zaI Tryz.func167 rfl Tryz.ntmps167 Tryz.results167 rfl rfl rfl rfl rfl fun X hL hX => ?_
  repeat' (first |with_reducible (first |refine zag ?_|refine zaa ?_|refine zaf ?_|refine zad ?_|refine zae ?_)|refine zab rfl rfl True.intro ?_|fail)
  refine T.loop hL (fun x : Nat × Int × Int => [(0, .pv 20 0), (3, .i .i32 x.2.1), (6, .i .i64 x.1)]) (fun x => rdl s x.2.2 o 0)
    (fun x => x.1 ≤ 4 ∧ 0 ≤ x.2.1 ∧ x.2.1 < 16 ^ x.1 ∧ 0 ≤ x.2.2 ∧ x.2.2 ≤ s.length ∧ fourG s (4 - x.1) x.2.1 x.2.2 = fourG s 4 0 i) (fun x => 4 - x.1) (0, 0, i) (by simp; omega)
    ⟨⟨rfl, rfl, rfl, trivial⟩, ⟨rfl, rfl, trivial⟩, rfl, by rw [hX]; intro k hk; exact hk⟩ ?_
  rintro ⟨k, n, j⟩ ⟨g1, g2, g3, g4, g5, g6⟩
  dsimp only at g1 g2 g3 g4 g5 g6 ⊢
  have hr := zaH s j
  have hh := zhl (at' s j)
  have hpow : k ≤ 3 → (16 : Int) ^ k ≤ 4096 := fun h => by
    have : k = 0 ∨ k = 1 ∨ k = 2 ∨ k = 3 := by omega
    rcases this with rfl | rfl | rfl | rfl <;> decide
  have hk : (k : Int) < 4 → 4 - k = (3 - k) + 1 := fun h => by omega
  have hk0 : ¬ (k : Int) < 4 → fourG s (4 - k) n j = (n, j, 0) := fun h => by rw [show 4 - k = 0 by omega]; rfl
  by_cases hj : j < s.length
  · have hn := zdv s j o 0 hs g4 g5
    rw [zdw rfl hj] at hn
    dsimp only at hn
    repeat' (first |with_reducible (first |refine zag ?_|refine zaa ?_|refine zaf ?_|refine zad ?_|refine zaj ?_|refine zah ?_|refine zaA ?_|refine zae ?_|refine zap ?_|refine zaz ?_|refine zam ?_|refine zar ?_)|refine zab rfl rfl True.intro ?_|refine zal rfl ?_|((first |refine zac rfl ?_ ?_)<;>intro)|((first |refine zab rfl rfl ?_ ?_);focus (first |omega|exact le_ rfl|((repeat' refine And.intro ?_ ?_)<;>omega)))|refine zaO rfl ?_|refine zbb rfl ?_ ?_|refine zax (f := 133) 20 200 rfl rfl Tryz.call133 rfl rfl rfl rfl rfl rfl rfl rfl rfl (zcl s (j + 1) o 0 3) ?_|refine zax (f := 131) 20 200 rfl rfl Tryz.call131 rfl rfl rfl rfl rfl rfl rfl rfl rfl hn ?_|refine zai (f := 178) rfl rfl Tryz.call178 rfl (zsX (at' s j) (by omega) (by omega)) ?_|fail)
    · rw [← g6, hk ‹_›, zgO hj ‹_›]
    · rw [← g6, hk ‹_›, zgO hj ‹_›]
      exact ⟨⟨rfl, rfl, trivial⟩⟩
    · have := hpow (by omega)
      refine ⟨(k + 1, 16 * n + hexF (at' s j), j + 1), ⟨by dsimp only; omega, by dsimp only; omega, by dsimp only; rw [Int.pow_succ]; omega, by dsimp only; omega, by dsimp only; omega, ?_⟩, by dsimp only; omega,
        ⟨rfl, by rw [← or4 n (hexF (at' s j)) g2 (by omega) (by omega) (by omega)]; rfl, rfl, trivial⟩, ⟨rfl, rfl, trivial⟩, rfl, by rw [hX]; intro k hk; exact hk⟩
      dsimp only
      rw [← g6, hk ‹_›, zcC hj ‹_›, show 4 - (k + 1) = 3 - k by omega]
    · rw [← g6, hk0 ‹_›]
    · rw [← g6, hk0 ‹_›]
      exact ⟨⟨rfl, rfl, trivial⟩⟩
  · have hn := zdv s j o 0 hs g4 g5
    rw [zcc rfl hj] at hn
    dsimp only at hn
    repeat' (first |with_reducible (first |refine zag ?_|refine zaa ?_|refine zaf ?_|refine zad ?_|refine zaj ?_|refine zah ?_|refine zaA ?_|refine zae ?_|refine zaz ?_|refine zam ?_|refine zar ?_)|refine zab rfl rfl True.intro ?_|refine zav rfl ?_|((first |refine zac rfl ?_ ?_)<;>intro)|((first |refine zab rfl rfl ?_ ?_);focus (first |exact le_ rfl|((repeat' refine And.intro ?_ ?_)<;>omega)))|refine zaO rfl ?_|refine zbb rfl ?_ ?_|refine zax (f := 131) 20 200 rfl rfl Tryz.call131 rfl rfl rfl rfl rfl rfl rfl rfl rfl hn ?_|fail)
    · rw [← g6, hk ‹_›, zfT hj]
    · rw [← g6, hk ‹_›, zfT hj]
      exact ⟨⟨rfl, rfl, trivial⟩⟩
    · rw [← g6, hk0 ‹_›]
    · rw [← g6, hk0 ‹_›]
      exact ⟨⟨rfl, rfl, trivial⟩⟩
theorem zqf (s : List UInt8) (i : Int) (o : List UInt8) (e : Int) (hs : s.length ≤ 1099511627776) (h0 : 0 ≤ i) (h1 : i ≤ s.length) :
    CtrO Tryz.prog 167 [.pv 20 0] (rdl s i o e) (.i .i32 (fourF s i e).1) (rdl s (fourF s i e).2.1 o (fourF s i e).2.2) := by
  by_cases he : e = 0
  · subst he
    exact zjK s i o hs h0 h1
  rw [show fourF s i e = (0, i, e) from if_neg he]
  have hn := zdv s i o e hs h0 h1
  rw [zda he] at hn
  dsimp only at hn ⊢
  refine zaI Tryz.func167 rfl Tryz.ntmps167 Tryz.results167 rfl rfl rfl rfl rfl fun X hL hX => ?_
  repeat' (first |with_reducible (first |refine zag ?_|refine zaa ?_|refine zaf ?_|refine zad ?_|refine zae ?_)|refine zab rfl rfl True.intro ?_|fail)
  refine T.loop hL (fun x : Nat => [(0, .pv 20 0), (3, .i .i32 0), (6, .i .i64 0)]) (fun x => rdl s i o e) (fun x => True) (fun x => x) 0 trivial
    ⟨⟨rfl, rfl, rfl, trivial⟩, ⟨rfl, rfl, trivial⟩, rfl, by rw [hX]; intro k hk; exact hk⟩ ?_
  intro x _
  repeat' (first |with_reducible (first |refine zag ?_|refine zaa ?_|refine zaf ?_|refine zad ?_|refine zaj ?_|refine zah ?_|refine zae ?_|refine zam ?_|refine zar ?_)|refine zab rfl rfl True.intro ?_|refine zav rfl ?_|((first |refine zaC rfl ?_ ?_)<;>intro<;>try (first |contradiction))|((first |refine zab rfl rfl ?_ ?_);focus (first |exact le_ rfl|((repeat' refine And.intro ?_ ?_)<;>omega)))|refine zbb rfl ?_ ?_|refine zax (f := 131) 20 200 rfl rfl Tryz.call131 rfl rfl rfl rfl rfl rfl rfl rfl rfl hn ?_|fail)
  all_goals first | rfl | exact ⟨⟨rfl, rfl, trivial⟩⟩ | contradiction
theorem zcI (s : List UInt8) : ∀ (k : Nat) (n i : Int), 0 ≤ i → i ≤ s.length → 0 ≤ n → 0 ≤ (fourG s k n i).1 ∧ (fourG s k n i).1 < 16 ^ k * (n + 1) ∧ i ≤ (fourG s k n i).2.1 ∧ (fourG s k n i).2.1 ≤ s.length ∧ (fourG s k n i).2.1 ≤ i + k ∧ ((fourG s k n i).2.2 ≠ 0 → (fourG s k n i).1 = 0) ∧ ((fourG s k n i).2.2 = 0 → (fourG s k n i).2.1 = i + k)
  | 0, n, i, h0, h1, h2 => by simp [fourG]; omega
  | k + 1, n, i, h0, h1, h2 => by
    have hh := zhl (at' s i)
    have hp : (0 : Int) < 16 ^ k := Int.pow_pos (by omega)
    rw [fourG]
    split
    · split
      · dsimp only
        refine ⟨by omega, ?_, by omega, by omega, by omega, fun _ => rfl, fun h => absurd h (by omega)⟩
        exact Int.mul_pos (Int.pow_pos (by omega)) (by omega)
      · have ih := zcI s k (16 * n + hexF (at' s i)) (i + 1) (by omega) (by omega) (by omega)
        obtain ⟨a, b, c, d, e, f, g⟩ := ih
        refine ⟨a, Int.lt_of_lt_of_le b ?_, by omega, by omega, by omega, f, fun h => by have := g h; omega⟩
        have : (16 : Int) ^ (k + 1) * (n + 1) = 16 ^ k * (16 * (n + 1)) := by rw [Int.pow_succ, Int.mul_assoc]
        rw [this]
        exact Int.mul_le_mul_of_nonneg_left (by omega) (by omega)
    · dsimp only
      refine ⟨by omega, ?_, by omega, by omega, by omega, fun _ => rfl, fun h => absurd h (by omega)⟩
      exact Int.mul_pos (Int.pow_pos (by omega)) (by omega)
theorem zfH (s : List UInt8) (i e : Int) (h0 : 0 ≤ i) (h1 : i ≤ s.length) : 0 ≤ (fourF s i e).1 ∧ (fourF s i e).1 < 65536 ∧ i ≤ (fourF s i e).2.1 ∧ (fourF s i e).2.1 ≤ s.length ∧ (fourF s i e).2.1 ≤ i + 4 ∧ ((fourF s i e).2.2 ≠ 0 → (fourF s i e).1 = 0) := by
  have h := zcI s 4 0 i h0 h1 (by omega)
  unfold fourF
  split
  · refine ⟨h.1, ?_, h.2.2.1, h.2.2.2.1, h.2.2.2.2.1, h.2.2.2.2.2.1⟩
    have := h.2.1
    omega
  · dsimp only
    omega

def utfB (n : Int) : List UInt8 :=
  if n < 128 then [by8 n] else if n < 2048 then [by8 (192 + n / 64), by8 (128 + n % 64)]
  else if n < 65536 then [by8 (224 + n / 4096), by8 (128 + n / 64 % 64), by8 (128 + n % 64)]
  else [by8 (240 + n / 262144), by8 (128 + n / 4096 % 64), by8 (128 + n / 64 % 64), by8 (128 + n % 64)]
theorem zlN (n : Int) : (utfB n).length ≤ 4 := by
  unfold utfB
  split
  · simp
  · split
    · simp
    · split <;> simp
theorem tail6 (x : Int) (_h : 0 ≤ x) : bits .or .u8 128 (bits .and .u8 (IntKind.u8.wrap x) 63) = ((by8 (128 + x % 64)).toNat : Int) := by
  rw [zcp, and63 _ (by omega) (by omega), or128 _ (by omega) (by omega), zcJ _ (by omega) (by omega)]
  omega
theorem head2 (x : Int) (h : 0 ≤ x) (h2 : x < 32) : bits .or .u8 192 (IntKind.u8.wrap x) = ((by8 (192 + x)).toNat : Int) := by
  rw [zcp, or192 _ (by omega) (by omega), zcJ _ (by omega) (by omega)]
  omega
theorem head3 (x : Int) (h : 0 ≤ x) (h2 : x < 16) : bits .or .u8 224 (IntKind.u8.wrap x) = ((by8 (224 + x)).toNat : Int) := by
  rw [zcp, or224 _ (by omega) (by omega), zcJ _ (by omega) (by omega)]
  omega
theorem head4 (x : Int) (h : 0 ≤ x) (h2 : x < 8) : bits .or .u8 240 (IntKind.u8.wrap x) = ((by8 (240 + x)).toNat : Int) := by
  rw [zcp, or240 _ (by omega) (by omega), zcJ _ (by omega) (by omega)]
  omega
theorem zoJ {r : Int} (h : r < 128) : utfB r = [by8 r] := if_pos h
theorem zrC {r : Int} (h0 : 128 ≤ r) (h : r < 2048) : utfB r = [by8 (192 + r / 64), by8 (128 + r % 64)] := by
  unfold utfB
  rw [if_neg (by omega), if_pos h]
theorem zlC {r : Int} (h0 : 2048 ≤ r) (h : r < 65536) : utfB r = [by8 (224 + r / 4096), by8 (128 + r / 64 % 64), by8 (128 + r % 64)] := by
  unfold utfB
  rw [if_neg (by omega), if_neg (by omega), if_pos h]
theorem zrO {r : Int} (h0 : 65536 ≤ r) : utfB r = [by8 (240 + r / 262144), by8 (128 + r / 4096 % 64), by8 (128 + r / 64 % 64), by8 (128 + r % 64)] := by
  unfold utfB
  rw [if_neg (by omega), if_neg (by omega), if_neg (by omega)]
theorem p6 : (2 : Int) ^ Int.toNat 6 = 64 := by decide
theorem p12 : (2 : Int) ^ Int.toNat 12 = 4096 := by decide
theorem p18 : (2 : Int) ^ Int.toNat 18 = 262144 := by decide
set_option maxHeartbeats 2000000 in
theorem zpp (o : List UInt8) (r : Int) (ho : o.length ≤ 1099511627776) (h0 : 128 ≤ r) (h1 : r ≤ 1114111) (h2 : r < 55296 ∨ 57343 < r) :
    CtrO Tryz.prog 179 [.gs 200 1 o.length (bytesF o), .i .i32 r] [(200, .row 5 1 o.length)] (.gs 200 1 (o ++ utfB r).length (bytesF (o ++ utfB r))) [(200, .row 5 1 (o ++ utfB r).length)] := by
  have hw : IntKind.u32.wrap r = r := zlp r (by omega) (by omega)
  refine zaI Tryz.func179 rfl Tryz.ntmps179 Tryz.results179 rfl rfl rfl rfl rfl fun X hL hX => ?_
  repeat' (first |with_reducible (first |refine zag ?_|refine zaa ?_|refine zaf ?_|refine zad ?_|refine zaj ?_|refine zah ?_|refine zae ?_|refine zar ?_)|refine zab rfl rfl True.intro ?_|refine zak rfl rfl rfl rfl True.intro ?_|((first |refine zac rfl ?_ ?_|refine zan rfl rfl ?_ ?_)<;>intro<;>try (first |contradiction|(exfalso;omega)))|((first |refine zab rfl rfl ?_ ?_|refine zao rfl rfl ?_ ?_);focus (first |omega|((repeat first |rw [zcp]);(repeat' refine And.intro ?_ ?_)<;>omega)|((repeat' refine And.intro ?_ ?_)<;>first |omega|rfl)))|refine zbb rfl ?_ ?_|fail)
  · rw [zrC h0 (by omega), p6]
    exact zdS 200 o _ 2 _ rfl (fun i hi => match i, hi with
      | 0, _ => congrArg (fun z => [D.i .u8 z]) (head2 _ (by omega) (by omega))
      | 1, _ => congrArg (fun z => [D.i .u8 z]) (tail6 _ (by omega)))
  · rw [zrC h0 (by omega)]
    exact ⟨⟨by rw [List.length_append]; rfl, trivial⟩⟩
  · rw [zlC (by omega) (by omega), p6, p12]
    exact zdS 200 o _ 3 _ rfl (fun i hi => match i, hi with
      | 0, _ => congrArg (fun z => [D.i .u8 z]) (head3 _ (by omega) (by omega))
      | 1, _ => congrArg (fun z => [D.i .u8 z]) (tail6 _ (by omega))
      | 2, _ => congrArg (fun z => [D.i .u8 z]) (tail6 _ (by omega)))
  · rw [zlC (by omega) (by omega)]
    exact ⟨⟨by rw [List.length_append]; rfl, trivial⟩⟩
  · rw [zlC (by omega) (by omega), p6, p12]
    exact zdS 200 o _ 3 _ rfl (fun i hi => match i, hi with
      | 0, _ => congrArg (fun z => [D.i .u8 z]) (head3 _ (by omega) (by omega))
      | 1, _ => congrArg (fun z => [D.i .u8 z]) (tail6 _ (by omega))
      | 2, _ => congrArg (fun z => [D.i .u8 z]) (tail6 _ (by omega)))
  · rw [zlC (by omega) (by omega)]
    exact ⟨⟨by rw [List.length_append]; rfl, trivial⟩⟩
  · rw [zrO (by omega), p6, p12, p18]
    exact zdS 200 o _ 4 _ rfl (fun i hi => match i, hi with
      | 0, _ => congrArg (fun z => [D.i .u8 z]) (head4 _ (by omega) (by omega))
      | 1, _ => congrArg (fun z => [D.i .u8 z]) (tail6 _ (by omega))
      | 2, _ => congrArg (fun z => [D.i .u8 z]) (tail6 _ (by omega))
      | 3, _ => congrArg (fun z => [D.i .u8 z]) (tail6 _ (by omega)))
  · rw [zrO (by omega)]
    exact ⟨⟨by rw [List.length_append]; rfl, trivial⟩⟩
theorem zlw (o : List UInt8) (r : Int) (ho : o.length ≤ 1099511627776) (h0 : 0 ≤ r) (h1 : r ≤ 1114111) (h2 : r < 55296 ∨ 57343 < r) :
    CtrO Tryz.prog 168 [.gs 200 1 o.length (bytesF o), .i .i32 r] [(200, .row 5 1 o.length)] (.gs 200 1 (o ++ utfB r).length (bytesF (o ++ utfB r))) [(200, .row 5 1 (o ++ utfB r).length)] := by
  have hw : IntKind.u32.wrap r = r := zlp r (by omega) (by omega)
  refine zaI Tryz.func168 rfl Tryz.ntmps168 Tryz.results168 rfl rfl rfl rfl rfl fun X hL hX => ?_
  repeat' (first |with_reducible (first |refine zag ?_|refine zaa ?_|refine zaf ?_|refine zad ?_|refine zaj ?_|refine zah ?_|refine zam ?_)|refine zab rfl rfl True.intro ?_|((first |refine zac rfl ?_ ?_)<;>intro)|((first |refine zao rfl rfl ?_ ?_);focus (first |((repeat first |rw [zcp]);(repeat' refine And.intro ?_ ?_)<;>omega)|((repeat' refine And.intro ?_ ?_)<;>first |omega|rfl)))|refine zbb rfl ?_ ?_|refine zaq (f := 179) 200 rfl rfl Tryz.call179 rfl rfl rfl rfl rfl (zpp o r ho (by omega) h1 h2) ?_|fail)
  · rw [zoJ (by omega)]
    exact zdS 200 o _ 1 _ rfl (fun i hi => match i, hi with
      | 0, _ => congrArg (fun z => [D.i .u8 z]) (show IntKind.u8.wrap r = ((by8 r).toNat : Int) by rw [zcp, zcJ _ h0 (by omega)]; omega))
  · rw [zoJ (by omega)]
    exact ⟨⟨by rw [List.length_append]; rfl, trivial⟩⟩
  · rfl
  · exact ⟨⟨rfl, trivial⟩⟩
end Go.Proofs.YtcajofhafpkbdaaGreatDoor.Flow
