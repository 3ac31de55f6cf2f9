/- The texts FlowZ, FlowPa, FlowPb, one behind the other. -/
import Derived.Test.YtcajofhafpkbdaaGreatDoorCQ8
import Derived.Test.YtcajofhafpkbdaaGreatDoorCQ13
import Derived.LaidEqlPtr
namespace Go.Proofs.YtcajofhafpkbdaaGreatDoor.Flow
open Go
section
variable {P : Program} {X : Ctx} {n : Nat} {o : Oper} {fr : Fr} {ow : Ow} {k k' : Nat} {ty ty2 : TypeId} {x y : Operand} {cs cs' : List D}
end
section
variable {X : Ctx} {n : Nat} {all rest : List Oper} {fr : Fr} {ow : Ow} {tr : List (List Nat × List Nat)} {K : Fr → Ow → List (List Nat × List Nat) → Prop}
variable {t k : Nat} {ty ty' : TypeId} {ps : String} {af : Array Edge} {x y : Operand} {cs : List D} {d : D} {off : Nat} {z : Nat × Bool}
end
section
variable {P : Program} {X : Ctx} {n : Nat} {fr : Fr} {ow : Ow} {d : D}
theorem zlm {o : Oper} {f : FuncId} {args : List D} {lo lo' : Ow} {ids ids2 : List Nat} (hP : ∀ vs w, (callFunc f vs).run P w = .ok (.enter f vs) w) (hc : callOf fr o.op = some (f, args)) (hk : hasAll (fun k => look k ow) lo)
    (hi1 : lo.map (·.1) = ids) (hi2 : lo'.map (·.1) = ids2) (hnd : ids2.Nodup) (hsub : ∀ k ∈ ids, k ∈ ids2) (hnew : ∀ k ∈ ids2, k ∉ ids → look k ow = none)
    (hok : (args.map (lendA ids)).all (D.okIn ids) = true) (hf1 : lo.all (fun x => x.2.okIn ids) = true) (hf2 : lo'.all (fun x => x.2.okIn ids2) = true) (hf3 : d.okIn ids2 = true)
    (hC : CtrO P f (args.map (lendA ids)) lo d lo') (hd : dstOk o.dst n) :
    ∀ F' O', (∀ x ∈ o.op.operands.toList, evF F' x = evF (fF fr) x) → (∀ j ∈ ids2, O' j = fO ow j) → StepAt P X n o F' O' d lo' := by
  intro F' O' he hO a w K' Q' ⟨S, r, hH, hI, hF, hdf, hn, hρ⟩ hK
  obtain ⟨vs, hrun, hsz, hrel⟩ := zch hP hc he (fun x => zcq hH.glob hF x)
  have hOk : ∀ k o, look k lo = some o → O' k = some o := fun k o h => by
    have hm : k ∈ ids := by rw [← hi1]; exact List.mem_map.2 ⟨(k, o), zaN h, rfl⟩
    exact (hO k (hsub k hm)).trans (zbL hk k o h)
  have hmem : ∀ k, k ∈ ids → ∃ o, look k lo = some o := fun k h => zbd (by rw [hi1]; exact h)
  have hmem' : ∀ k, k ∈ ids2 → ∃ o, look k lo' = some o := fun k h => zbd (by rw [hi2]; exact h)
  have hin : ∀ k o, look k lo = some o → k ∈ ids ∧ o.okIn ids = true := fun k o h => by
    have h1 := zaN h
    rw [List.all_eq_true] at hf1
    exact ⟨by rw [← hi1]; exact List.mem_map.2 ⟨(k, o), h1, rfl⟩, hf1 _ h1⟩
  have hin' : ∀ k o, look k lo' = some o → k ∈ ids2 ∧ o.okIn ids2 = true := fun k o h => by
    have h1 := zaN h
    rw [List.all_eq_true] at hf2
    exact ⟨by rw [← hi2]; exact List.mem_map.2 ⟨(k, o), h1, rfl⟩, hf2 _ h1⟩
  have hblt : ∀ k l b, r k = some l → l.block = some b → b < w.heap.size := fun k l b hl hb => by
    cases ho : O' k with
    | none => rw [hI.dom k ho] at hl; cases hl
    | some o => exact (hI.obj k o ho).blockLt hl hb
  let X' : Ctx := { w0 := w, S0 := S, L := fun b => ∃ k ∈ ids, ∃ l, r k = some l ∧ l.block = some b, r0 := keepR r ids, ids := ids }
  have hH' : Hist X' w S := ⟨rfl, rfl, rfl, Nat.le_refl _, fun _ _ _ => rfl, fun _ _ h => h, fun _ _ _ => rfl, fun _ _ h => .inl h, hH.valid, hH.glob⟩
  have hI' : Inv X' w S X'.r0 (fO lo) := by
    refine ⟨fun k o hk' => ?_, fun k hk' => ?_, fun i j l l' b' hij hl hl' hb' => ?_, fun k l b' hl hb' => ?_⟩
    · obtain ⟨h1, h2⟩ := hin k o hk'
      exact (hI.obj k o (hOk k o hk')).okIn h2 (RhoLe.refl _) (if_pos h1)
    · refine if_neg fun hm => ?_
      obtain ⟨o, ho⟩ := hmem k hm
      rw [show fO lo k = look k lo from rfl, ho] at hk'
      cases hk'
    · have hl : keepR r ids i = some l := hl
      have hl' : keepR r ids j = some l' := hl'
      simp only [keepR] at hl hl'
      split at hl <;> first | (cases hl; done) | skip
      split at hl' <;> first | (cases hl'; done) | skip
      exact hI.apart i j l l' b' hij hl hl' hb'
    · have hl : keepR r ids k = some l := hl
      simp only [keepR] at hl
      split at hl <;> first | (cases hl; done) | skip
      rename_i hm
      exact .inr ⟨k, hm, l, hl, hb'⟩
  have hrel' : ∀ j, j < (args.map (lendA ids)).length → Rel S w X'.r0 ((args.map (lendA ids)).getD j .any) (vs.getD j undef) := by
    intro j hj
    have hj' : j < args.length := by simpa using hj
    have e : (args.map (lendA ids)).getD j .any = lendA ids (args.getD j .any) := by simp [List.getD_eq_getElem?_getD, hj']
    have hokj : (lendA ids (args.getD j .any)).okIn ids = true := by
      rw [← e]
      rw [List.all_eq_true] at hok
      refine hok _ ?_
      simp only [List.getD_eq_getElem?_getD, List.getElem?_eq_getElem hj, Option.getD_some]
      exact List.getElem_mem hj
    rw [e]
    have hr := hrel j hj'
    generalize args.getD j .any = dj at hr hokj
    generalize vs.getD j undef = vj at hr
    refine Rel.okIn (r := r) ?_ hokj
    cases dj with
    | gs k z m g =>
      simp only [lendA]
      split
      · exact hr
      · exact hr.shut
    | _ => exact hr
  refine OW.enter hrun ((hC X' vs hi1.symm hH' hI' (by simpa using hsz) hrel').mono ?_)
  rintro e w' ⟨v, S', r', rfl, g1, g2, g3, g4⟩
  let r2 : Rho := fun k => if k ∈ ids2 then r' k else r k
  have hr2 : RhoLe r r2 := fun k l hl => by
    by_cases hm : k ∈ ids2
    · have hm0 : k ∈ ids := by
        rcases Classical.em (k ∈ ids) with h | h
        · exact h
        · have h0 : O' k = none := (hO k hm).trans (hnew k hm h)
          rw [hI.dom k h0] at hl
          cases hl
      obtain ⟨l', h1, h2⟩ := g4 k l (by show keepR r ids k = some l; rw [keepR, if_pos hm0]; exact hl)
      exact ⟨l', by show (if k ∈ ids2 then r' k else r k) = some l'; rw [if_pos hm]; exact h1, h2⟩
    · exact ⟨l, by show (if k ∈ ids2 then r' k else r k) = some l; rw [if_neg hm]; exact hl, LocLe.refl l⟩
  have hr3 : RhoLe (keepR r' ids2) r2 := fun k l hl => by
    simp only [keepR] at hl
    split at hl <;> first | (cases hl; done) | skip
    rename_i hm
    exact ⟨l, by show (if k ∈ ids2 then r' k else r k) = some l; rw [if_pos hm]; exact hl, LocLe.refl l⟩
  have hXL : ∀ b, X'.L b → X.w0.heap.size ≤ b ∨ X.L b := fun b ⟨k, _, l, hl, hb⟩ => hI.low k l b hl hb
  have hother : ∀ k l b, k ∉ ids2 → r k = some l → l.block = some b → ¬ X'.L b := fun k l b hm hl hb ⟨k', hm', l', hl', hb'⟩ =>
    hI.apart k k' l l' b (fun e => hm (e ▸ hsub k' hm')) hl hl' hb hb'
  refine hK v w' ⟨S', r2, ?_, ?_, zcx (fun t => (hF t).mono g2.sub g2.cell r2 hr2) (hn ▸ hd) ((g1.okIn hf3).mono (fun _ _ h => h) (fun _ _ _ => rfl) r2 hr3), by rw [zbk]; exact hdf, by rw [zbP]; exact hn, hρ.trans hr2⟩
  · refine ⟨g2.os.trans hH.os, g2.tape.trans hH.tape, g2.output.trans hH.output, Nat.le_trans hH.size g2.size, fun k hk' hl => ?_, fun b o hb => g2.sub b o (hH.sub b o hb), fun b o hb => (g2.cell b o (hH.sub b o hb)).trans (hH.cell b o hb), fun b o hb => ?_, g2.valid, g2.glob⟩
    · refine (g2.block k (Nat.lt_of_lt_of_le hk' hH.size) fun hx => ?_).trans (hH.block k hk' hl)
      rcases hXL k hx with h | h
      · omega
      · exact hl h
    · rcases g2.new b o hb with h | h | h
      · exact hH.new b o h
      · exact .inr (.inl (Nat.le_trans hH.size h))
      · rcases hXL b h with h | h
        · exact .inr (.inl h)
        · exact .inr (.inr h)
  · have hnd' : (lo'.map (·.1)).Nodup := by rw [hi2]; exact hnd
    have hup : ∀ k, k ∉ ids2 → updO O' lo' k = O' k := fun k hm => by
      rw [zaS hnd', zbc (by rw [hi2]; exact hm)]
    refine ⟨fun k o hk' => ?_, fun k hk' => ?_, fun i j l l' b hij hl hl' hb => ?_, fun k l b hl hb => ?_⟩
    · by_cases hm : k ∈ ids2
      · obtain ⟨o', ho'⟩ := hmem' k hm
        rw [zaS hnd', ho'] at hk'
        obtain rfl : o' = o := Option.some.inj hk'
        exact (g3.obj k o' ho').okIn (hin' k o' ho').2 hr3 (if_pos hm)
      · rw [hup k hm] at hk'
        refine (hI.obj k o hk').keepL g2.sub g2.cell hr2 (if_neg hm) (fun l b hl hb => g2.block b (hblt k l b hl hb) (hother k l b hm hl hb)) (fun b o hs => ?_)
        rcases g2.new b o hs with h | h | h
        · exact .inl h
        · refine .inr fun l hl hb => ?_
          have := hblt k l b hl hb
          have h : w.heap.size ≤ b := h
          omega
        · exact .inr fun l hl hb => hother k l b hm hl hb h
    · by_cases hm : k ∈ ids2
      · obtain ⟨o', ho'⟩ := hmem' k hm
        rw [zaS hnd', ho'] at hk'
        cases hk'
      · rw [hup k hm] at hk'
        exact (if_neg hm).trans (hI.dom k hk')
    · have hl : (if i ∈ ids2 then r' i else r i) = some l := hl
      have hl' : (if j ∈ ids2 then r' j else r j) = some l' := hl'
      by_cases h1 : i ∈ ids2
      · rw [if_pos h1] at hl
        by_cases h2 : j ∈ ids2
        · rw [if_pos h2] at hl'
          exact g3.apart i j l l' b hij hl hl' hb
        · rw [if_neg h2] at hl'
          intro hb'
          rcases g3.low i l b hl hb with h | h
          · have := hblt j l' b hl' hb'
            have h : w.heap.size ≤ b := h
            omega
          · exact hother j l' b h2 hl' hb' h
      · rw [if_neg h1] at hl
        by_cases h2 : j ∈ ids2
        · rw [if_pos h2] at hl'
          intro hb'
          rcases g3.low j l' b hl' hb' with h | h
          · have := hblt i l b hl hb
            have h : w.heap.size ≤ b := h
            omega
          · exact hother i l b h1 hl hb h
        · rw [if_neg h2] at hl'
          exact hI.apart i j l l' b hij hl hl' hb
    · have hl : (if k ∈ ids2 then r' k else r k) = some l := hl
      by_cases h1 : k ∈ ids2
      · rw [if_pos h1] at hl
        rcases g3.low k l b hl hb with h | h
        · exact .inl (Nat.le_trans hH.size h)
        · exact hXL b h
      · rw [if_neg h1] at hl
        exact hI.low k l b hl hb
end
theorem zky {α : Type} {k : Nat} : ∀ {a b : List (Nat × α)}, look k (a ++ b) = match look k a with
    | some o => some o
    | none => look k b
  | [], b => rfl
  | (u, e) :: a, b => by
    simp only [List.cons_append, look]
    cases Nat.beq u k with
    | true => rfl
    | false => exact zky
theorem zmB {lo ow : Ow} (hnd : (lo.map (·.1)).Nodup) : fO (lo ++ ow) = updO (fO ow) lo := by
  funext k
  rw [zaS hnd]
  show look k (lo ++ ow) = _
  rw [zky]
  cases look k lo <;> rfl
section
variable {X : Ctx} {n : Nat} {all rest : List Oper} {fr : Fr} {ow : Ow} {tr : List (List Nat × List Nat)} {K : Fr → Ow → List (List Nat × List Nat) → Prop}
variable {t k k' : Nat} {op : Op} {ty ty2 ty' : TypeId} {ps : String} {af : Array Edge} {x y : Operand} {cs cs' : List D} {d : D} {f : FuncId} {args : List D} {g u : Nat} {want : Bool}
theorem znV (lo lo' : Ow) (ids ids2 : List Nat) (hi1 : lo.map (·.1) = ids) (hi2 : lo'.map (·.1) = ids2) (hnd : ids2.Nodup) (hsub : ∀ k ∈ ids, k ∈ ids2) (hnew : ∀ k ∈ ids2, k ∉ ids → look k ow = none)
    (hc : callOf fr op = some (f, args)) (hn : Nat.blt t n = true) (hP : ∀ vs w, (callFunc f vs).run Tryz.prog w = .ok (.enter f vs) w) (hk : hasAll (fun k => look k ow) lo)
    (hok : (args.map (lendA ids)).all (D.okIn ids) = true) (hf1 : lo.all (fun x => x.2.okIn ids) = true) (hf2 : lo'.all (fun x => x.2.okIn ids2) = true) (hf3 : d.okIn ids2 = true)
    (hC : CtrO Tryz.prog f (args.map (lendA ids)) lo d lo')
    (h : CT Tryz.prog X n all rest ((t, d) :: fr) (lo' ++ ow) (tr ++ [(ids2, lo'.map (·.1))]) K) : CT Tryz.prog X n all (⟨some t, op, ty, ps, af, none⟩ :: rest) fr ow tr K :=
  CT.cons (e := ⟨d, ids2, lo'⟩) (.plain rfl (zlm (o := ⟨some t, op, ty, ps, af, none⟩) (ow := ow) hP hc hk hi1 hi2 hnd hsub hnew hok hf1 hf2 hf3 hC (show t < n by simpa using hn))) (zaH ..) (zmB (by rw [hi2]; exact hnd)) h
end
end Go.Proofs.YtcajofhafpkbdaaGreatDoor.Flow

namespace Go.Proofs.YtcajofhafpkbdaaGreatDoor.Flow
def pchain (pv : Value) : List PanicEntry := [{ v := pv, recovered := false }]
def CtrP (P : Program) (f : FuncId) (args : List D) (ow : Ow) (pv : Value) (ow' : Ow) : Prop :=
  ∀ (X : Ctx) (vs : Array Value), X.ids = ow.map (·.1) → Hist X X.w0 X.S0 → Inv X X.w0 X.S0 X.r0 (fO ow) → vs.size = args.length → (∀ j, j < args.length → Rel X.S0 X.w0 X.r0 (args.getD j .any) (vs.getD j undef)) →
    Calls P f vs X.w0 fun e w' => ∃ S' r', e = .panicked (pchain pv) ∧ Hist X w' S' ∧ Inv X w' S' r' (fO ow') ∧ RhoLe X.r0 r'
def PanAt (P : Program) (X : Ctx) (n : Nat) (o : Oper) (F : Nat → D) (O : Nat → Option Own) (ch : List PanicEntry) (wr : List (Nat × Own)) : Prop :=
  ∀ (a : Act) (w : World) (K : Act → World → Prop) (Q : Exit → Act → World → Prop), Rep X n F O a w → (∀ w', Rep X n F (updO O wr) a w' → Q (.panic ch) a w') → OW P o a w K Q
def splitOp : Nat → List Oper → (List Oper → Oper → Prop) → Prop
  | 0, o :: _, K => K [] o
  | k + 1, a :: r, K => splitOp k r fun pre o => K (a :: pre) o
  | _, [], _ => False
theorem zeU : ∀ {k : Nat} {ops : List Oper} {K : List Oper → Oper → Prop}, splitOp k ops K → ∃ pre o post, ops = pre ++ o :: post ∧ K pre o
  | 0, o :: r, _, h => ⟨[], o, r, rfl, h⟩
  | k + 1, a :: r, _, h => by
    obtain ⟨pre, o, post, h1, h2⟩ := zeU (k := k) (ops := r) h
    exact ⟨a :: pre, o, post, by rw [h1]; rfl, h2⟩
  | 0, [], _, h => h.elim
  | k + 1, [], _, h => h.elim
section
variable {P : Program} {X : Ctx} {n : Nat} {fr : Fr} {ow : Ow} {d : D} {Q : Exit → Fr → Ow → Prop}
theorem zfl {ops : Array Oper} {Q : Exit → Act → World → Prop} (m : Nat) : ∀ {l : List Oper} {k : Nat} {F : Nat → D} {O : Nat → Option Own} {es : List Eff} {F' : Nat → D} {O' : Nat → Option Own},
    Ch P X n ops.toList l F O es F' O' → (∀ j, j < l.length → l[j]? = ops[k + j]?) → (∀ a w, Rep X n F' O' a w → ∀ rd, wpOpsIn (fR rd) 0 P ops Q (List.range' (k + l.length) m) a w) → ∀ a w, Rep X n F O a w → ∀ rd, wpOpsIn (fR rd) 0 P ops Q (List.range' k (l.length + m)) a w
  | _, k, _, _, _, _, _, .nil F O, _, hQ, a, w, hr => fun rd => by simpa using hQ a w hr rd
  | _, k, _, _, _, _, _, .cons o rest F O e es F' O' h t, hl, hQ, a, w, hr => fun rd => by
    have h0 : ops[k]? = some o := by simpa using (hl 0 (by simp)).symm
    rw [List.length_cons, Nat.add_right_comm, List.range'_succ, wpOpsIn_cons]
    refine zcs h0 (h F O (fun _ _ => rfl) (fun _ _ => rfl)) hr (fun a' w' h' => ?_) rd
    refine zfl m t (fun j hj => by have := hl (j + 1) (by simpa using hj); simpa [Nat.add_assoc, Nat.add_comm 1 j] using this) (fun a w hr rd => ?_) a' w' h' rd
    have := hQ a w hr rd
    rwa [List.length_cons, show k + (rest.length + 1) = k + 1 + rest.length by omega] at this
def PanGoal (P : Program) (X : Ctx) (n : Nat) (Q : Exit → Fr → Ow → Prop) (o : Oper) (fr : Fr) (ow : Ow) : Prop :=
  o.guard = none ∧ ∃ ch wr ow2, PanAt P X n o (fF fr) (fO ow) ch wr ∧ fO ow2 = updO (fO ow) wr ∧ Q (.panic ch) fr ow2
theorem T.regionP {id : Nat} {ops : List Oper} (k : Nat) (h : splitOp k ops fun pre o => CT P X n ops pre fr ow [] fun fr1 ow1 _ => PanGoal P X n Q o fr1 ow1) : T P X n (.region id ⟨ops⟩ false) fr ow Q := fun a w hr rd => by
  obtain ⟨pre, o, post, hs, es, fr1, ow1, hc, hg, ch, wr, ow2, hp, hO, hq⟩ := zeU h
  refine wpIn_region ?_
  have hlen : (⟨ops⟩ : Array Oper).size = pre.length + (post.length + 1) := by
    show ops.length = _
    rw [hs]
    simp
  rw [List.range_eq_range', hlen]
  refine zfl (post.length + 1) (l := pre) (k := 0) hc (fun j hj => ?_) (fun a1 w1 hr1 rd => ?_) a w hr rd
  · show pre[j]? = ops.toArray[0 + j]?
    rw [Nat.zero_add, List.getElem?_toArray, hs, List.getElem?_append_left hj]
  · rw [Nat.zero_add, List.range'_succ, wpOpsIn_cons]
    have h0 : (⟨ops⟩ : Array Oper)[pre.length]? = some o := by
      show ops.toArray[pre.length]? = _
      rw [List.getElem?_toArray, hs]
      simp
    unfold wpOpIn
    simp only [h0, Region.wanted, hg, if_true]
    refine (hp a1 w1 _ _ hr1 fun w' hr2 => ⟨fr1, ow2, hq, ?_⟩).2 rd
    rw [hO]
    exact hr2
theorem zew {o : Oper} {f : FuncId} {args : List D} {lo lo' : Ow} {ids : List Nat} {pv : Value} (hP : ∀ vs w, (callFunc f vs).run P w = .ok (.enter f vs) w) (hc : callOf fr o.op = some (f, args)) (hk : hasAll (fun k => look k ow) lo)
    (hi1 : lo.map (·.1) = ids) (hi2 : lo'.map (·.1) = ids) (hnd : ids.Nodup)
    (hok : (args.map (lendA ids)).all (D.okIn ids) = true) (hf1 : lo.all (fun x => x.2.okIn ids) = true) (hf2 : lo'.all (fun x => x.2.okIn ids) = true)
    (hC : CtrP P f (args.map (lendA ids)) lo pv lo') :
    ∀ F' O', (∀ x ∈ o.op.operands.toList, evF F' x = evF (fF fr) x) → (∀ j ∈ ids, O' j = fO ow j) → PanAt P X n o F' O' (pchain pv) lo' := by
  intro F' O' he hO a w K' Q' ⟨S, r, hH, hI, hF, hdf, hn, hρ⟩ hK
  obtain ⟨vs, hrun, hsz, hrel⟩ := zch hP hc he (fun x => zcq hH.glob hF x)
  have hOk : ∀ k o, look k lo = some o → O' k = some o := fun k o h => by
    have hm : k ∈ ids := by rw [← hi1]; exact List.mem_map.2 ⟨(k, o), zaN h, rfl⟩
    exact (hO k hm).trans (zbL hk k o h)
  have hmem : ∀ k, k ∈ ids → ∃ o, look k lo = some o := fun k h => zbd (by rw [hi1]; exact h)
  have hmem' : ∀ k, k ∈ ids → ∃ o, look k lo' = some o := fun k h => zbd (by rw [hi2]; exact h)
  have hin : ∀ k o, look k lo = some o → k ∈ ids ∧ o.okIn ids = true := fun k o h => by
    have h1 := zaN h
    rw [List.all_eq_true] at hf1
    exact ⟨by rw [← hi1]; exact List.mem_map.2 ⟨(k, o), h1, rfl⟩, hf1 _ h1⟩
  have hin' : ∀ k o, look k lo' = some o → k ∈ ids ∧ o.okIn ids = true := fun k o h => by
    have h1 := zaN h
    rw [List.all_eq_true] at hf2
    exact ⟨by rw [← hi2]; exact List.mem_map.2 ⟨(k, o), h1, rfl⟩, hf2 _ h1⟩
  have hblt : ∀ k l b, r k = some l → l.block = some b → b < w.heap.size := fun k l b hl hb => by
    cases ho : O' k with
    | none => rw [hI.dom k ho] at hl; cases hl
    | some o => exact (hI.obj k o ho).blockLt hl hb
  let X' : Ctx := { w0 := w, S0 := S, L := fun b => ∃ k ∈ ids, ∃ l, r k = some l ∧ l.block = some b, r0 := keepR r ids, ids := ids }
  have hH' : Hist X' w S := ⟨rfl, rfl, rfl, Nat.le_refl _, fun _ _ _ => rfl, fun _ _ h => h, fun _ _ _ => rfl, fun _ _ h => .inl h, hH.valid, hH.glob⟩
  have hI' : Inv X' w S X'.r0 (fO lo) := by
    refine ⟨fun k o hk' => ?_, fun k hk' => ?_, fun i j l l' b' hij hl hl' hb' => ?_, fun k l b' hl hb' => ?_⟩
    · obtain ⟨h1, h2⟩ := hin k o hk'
      exact (hI.obj k o (hOk k o hk')).okIn h2 (RhoLe.refl _) (if_pos h1)
    · refine if_neg fun hm => ?_
      obtain ⟨o, ho⟩ := hmem k hm
      rw [show fO lo k = look k lo from rfl, ho] at hk'
      cases hk'
    · have hl : keepR r ids i = some l := hl
      have hl' : keepR r ids j = some l' := hl'
      simp only [keepR] at hl hl'
      split at hl <;> first | (cases hl; done) | skip
      split at hl' <;> first | (cases hl'; done) | skip
      exact hI.apart i j l l' b' hij hl hl' hb'
    · have hl : keepR r ids k = some l := hl
      simp only [keepR] at hl
      split at hl <;> first | (cases hl; done) | skip
      rename_i hm
      exact .inr ⟨k, hm, l, hl, hb'⟩
  have hrel' : ∀ j, j < (args.map (lendA ids)).length → Rel S w X'.r0 ((args.map (lendA ids)).getD j .any) (vs.getD j undef) := by
    intro j hj
    have hj' : j < args.length := by simpa using hj
    have e : (args.map (lendA ids)).getD j .any = lendA ids (args.getD j .any) := by simp [List.getD_eq_getElem?_getD, hj']
    have hokj : (lendA ids (args.getD j .any)).okIn ids = true := by
      rw [← e]
      rw [List.all_eq_true] at hok
      refine hok _ ?_
      simp only [List.getD_eq_getElem?_getD, List.getElem?_eq_getElem hj, Option.getD_some]
      exact List.getElem_mem hj
    rw [e]
    have hr := hrel j hj'
    generalize args.getD j .any = dj at hr hokj
    generalize vs.getD j undef = vj at hr
    refine Rel.okIn (r := r) ?_ hokj
    cases dj with
    | gs k z m g =>
      simp only [lendA]
      split
      · exact hr
      · exact hr.shut
    | _ => exact hr
  refine OW.enter hrun ((hC X' vs hi1.symm hH' hI' (by simpa using hsz) hrel').mono ?_)
  rintro e w' ⟨S', r', rfl, g2, g3, g4⟩
  let r2 : Rho := fun k => if k ∈ ids then r' k else r k
  have hr2 : RhoLe r r2 := fun k l hl => by
    by_cases hm : k ∈ ids
    · obtain ⟨l', h1, h2⟩ := g4 k l (by show keepR r ids k = some l; rw [keepR, if_pos hm]; exact hl)
      exact ⟨l', by show (if k ∈ ids then r' k else r k) = some l'; rw [if_pos hm]; exact h1, h2⟩
    · exact ⟨l, by show (if k ∈ ids then r' k else r k) = some l; rw [if_neg hm]; exact hl, LocLe.refl l⟩
  have hr3 : RhoLe (keepR r' ids) r2 := fun k l hl => by
    simp only [keepR] at hl
    split at hl <;> first | (cases hl; done) | skip
    rename_i hm
    exact ⟨l, by show (if k ∈ ids then r' k else r k) = some l; rw [if_pos hm]; exact hl, LocLe.refl l⟩
  have hXL : ∀ b, X'.L b → X.w0.heap.size ≤ b ∨ X.L b := fun b ⟨k, _, l, hl, hb⟩ => hI.low k l b hl hb
  have hother : ∀ k l b, k ∉ ids → r k = some l → l.block = some b → ¬ X'.L b := fun k l b hm hl hb ⟨k', hm', l', hl', hb'⟩ =>
    hI.apart k k' l l' b (fun e => hm (e ▸ hm')) hl hl' hb hb'
  refine hK w' ⟨S', r2, ?_, ?_, fun t => (hF t).mono g2.sub g2.cell r2 hr2, hdf, hn, hρ.trans hr2⟩
  · refine ⟨g2.os.trans hH.os, g2.tape.trans hH.tape, g2.output.trans hH.output, Nat.le_trans hH.size g2.size, fun k hk' hl => ?_, fun b o hb => g2.sub b o (hH.sub b o hb), fun b o hb => (g2.cell b o (hH.sub b o hb)).trans (hH.cell b o hb), fun b o hb => ?_, g2.valid, g2.glob⟩
    · refine (g2.block k (Nat.lt_of_lt_of_le hk' hH.size) fun hx => ?_).trans (hH.block k hk' hl)
      rcases hXL k hx with h | h
      · omega
      · exact hl h
    · rcases g2.new b o hb with h | h | h
      · exact hH.new b o h
      · exact .inr (.inl (Nat.le_trans hH.size h))
      · rcases hXL b h with h | h
        · exact .inr (.inl h)
        · exact .inr (.inr h)
  · have hnd' : (lo'.map (·.1)).Nodup := by rw [hi2]; exact hnd
    have hup : ∀ k, k ∉ ids → updO O' lo' k = O' k := fun k hm => by
      rw [zaS hnd', zbc (by rw [hi2]; exact hm)]
    refine ⟨fun k o hk' => ?_, fun k hk' => ?_, fun i j l l' b hij hl hl' hb => ?_, fun k l b hl hb => ?_⟩
    · by_cases hm : k ∈ ids
      · obtain ⟨o', ho'⟩ := hmem' k hm
        rw [zaS hnd', ho'] at hk'
        obtain rfl : o' = o := Option.some.inj hk'
        exact (g3.obj k o' ho').okIn (hin' k o' ho').2 hr3 (if_pos hm)
      · rw [hup k hm] at hk'
        refine (hI.obj k o hk').keepL g2.sub g2.cell hr2 (if_neg hm) (fun l b hl hb => g2.block b (hblt k l b hl hb) (hother k l b hm hl hb)) (fun b o hs => ?_)
        rcases g2.new b o hs with h | h | h
        · exact .inl h
        · refine .inr fun l hl hb => ?_
          have := hblt k l b hl hb
          have h : w.heap.size ≤ b := h
          omega
        · exact .inr fun l hl hb => hother k l b hm hl hb h
    · by_cases hm : k ∈ ids
      · obtain ⟨o', ho'⟩ := hmem' k hm
        rw [zaS hnd', ho'] at hk'
        cases hk'
      · rw [hup k hm] at hk'
        exact (if_neg hm).trans (hI.dom k hk')
    · have hl : (if i ∈ ids then r' i else r i) = some l := hl
      have hl' : (if j ∈ ids then r' j else r j) = some l' := hl'
      by_cases h1 : i ∈ ids
      · rw [if_pos h1] at hl
        by_cases h2 : j ∈ ids
        · rw [if_pos h2] at hl'
          exact g3.apart i j l l' b hij hl hl' hb
        · rw [if_neg h2] at hl'
          intro hb'
          rcases g3.low i l b hl hb with h | h
          · have := hblt j l' b hl' hb'
            have h : w.heap.size ≤ b := h
            omega
          · exact hother j l' b h2 hl' hb' h
      · rw [if_neg h1] at hl
        by_cases h2 : j ∈ ids
        · rw [if_pos h2] at hl'
          intro hb'
          rcases g3.low j l' b hl' hb' with h | h
          · have := hblt i l b hl hb
            have h : w.heap.size ≤ b := h
            omega
          · exact hother i l b h1 hl hb h
        · rw [if_neg h2] at hl'
          exact hI.apart i j l l' b hij hl hl' hb
    · have hl : (if k ∈ ids then r' k else r k) = some l := hl
      by_cases h1 : k ∈ ids
      · rw [if_pos h1] at hl
        rcases g3.low k l b hl hb with h | h
        · exact .inl (Nat.le_trans hH.size h)
        · exact hXL b h
      · rw [if_neg h1] at hl
        exact hI.low k l b hl hb
theorem CtrP.of0 {f : FuncId} {args : List D} {ow ow' : Ow} {pv : Value}
    (h : ∀ (X : Ctx) (vs : Array Value), X.dfs = [] → X.ids = ow.map (·.1) → Hist X X.w0 X.S0 → Inv X X.w0 X.S0 X.r0 (fO ow) → vs.size = args.length → (∀ j, j < args.length → Rel X.S0 X.w0 X.r0 (args.getD j .any) (vs.getD j undef)) →
      Calls P f vs X.w0 fun e w' => ∃ S' r', e = .panicked (pchain pv) ∧ Hist X w' S' ∧ Inv X w' S' r' (fO ow') ∧ RhoLe X.r0 r') : CtrP P f args ow pv ow' := fun X vs hids hH hI hn hr =>
  (h { X with dfs := [] } vs rfl hids (hH.re []) (hI.re []) hn hr).mono fun _ _ ⟨S', r', h1, h3, h4, h5⟩ => ⟨S', r', h1, h3.un, h4.un, h5⟩
theorem CtrP.of_T {f : FuncId} {fn : Func} {c : Code} {N : Nat} {args : List D} {pv : Value} {lo lo' : Ow} (hf : P.funcs[f]? = some fn) (hb : fn.body = some c) (hN : fn.ntmps = N) (hlen : args.length ≤ N) (hok : lo'.all (fun x => x.2.okIn (lo'.map (·.1))) = true) (hids : lo'.map (·.1) = lo.map (·.1))
    (h : ∀ X : Ctx, Lent X → X.ids = lo.map (·.1) → T P X N c (slots 0 args) lo (fun e _fr2 ow2 => e = .panic (pchain pv) ∧ leOw ow2 lo')) : CtrP P f args lo pv lo' := by
  refine CtrP.of0 fun X vs hdf0 hid hH hI hsz hrel => ?_
  have hL : Lent X := fun k hk => by
    rw [hid]
    cases hmem : look k lo with
    | none => exact absurd (hI.dom k hmem) hk
    | some o =>
      by_cases hm : k ∈ lo.map (·.1)
      · exact hm
      · rw [zbc hm] at hmem; cases hmem
  refine calls_of_wp hf hb ?_
  have hrep : Rep X N (fF (slots 0 args)) (fO lo) { tmps := vs ++ Array.replicate (fn.ntmps - vs.size) undef, defers := [] } X.w0 := by
    refine ⟨X.S0, X.r0, hH, hI, fun t => ?_, hdf0.symm, by simp; omega, RhoLe.refl _⟩
    show Rel _ _ _ (getD' t (slots 0 args)) _
    rw [zbW]
    simp only [Nat.zero_le, if_true, Nat.sub_zero]
    by_cases ht : t < args.length
    · have := hrel t ht
      rw [Array.getD_eq_getD_getElem?, Array.getElem?_append_left (by omega), ← Array.getD_eq_getD_getElem?]
      exact this
    · rw [List.getD_eq_getElem?_getD, List.getElem?_eq_none (by omega)]
      exact .any ..
  refine wp_mono (h X hL hid _ _ hrep).wide fun e a w ⟨fr2, ow2, ⟨he, hlo⟩, hrep2⟩ => ?_
  obtain ⟨S, r, hH2, hI2, hF2, hd2, _, hρ2⟩ := hrep2
  subst he
  refine ⟨hd2.trans hdf0, S, keepR r (lo'.map (·.1)), rfl, hH2, hI2.keep hlo hok, fun k l hk => ?_⟩
  obtain ⟨l', g1, g2⟩ := hρ2 k l hk
  have : k ∈ lo'.map (·.1) := by
    rw [hids, ← hid]
    exact hL k (by rw [hk]; simp)
  exact ⟨l', by simp only [keepR]; rw [if_pos this]; exact g1, g2⟩
end
section
variable {X : Ctx} {n : Nat} {all rest : List Oper} {fr : Fr} {ow : Ow} {Q : Exit → Fr → Ow → Prop}
variable {t : Nat} {op : Op} {ty : TypeId} {pos : String} {af : Array Edge} {d : D} {f : FuncId} {args : List D} {pv : Value} {dst : Option Tmp}
def Pnc (pv : Value) (Q : Exit → Fr → Ow → Prop) (fr : Fr) (ow : Ow) : Prop := Q (.panic (pchain pv)) fr ow
theorem zaX {K : Fr → Ow → Prop} (h : Pnc pv Q fr ow) : Pnc pv (thenQ K Q) fr ow := h
theorem zbJ {id : Nat} (h : Pnc pv Q fr ow) : Pnc pv (blockQ id Q) fr ow := h
theorem zbE (k : Nat) {id : Nat} {ops : List Oper} (h : splitOp k ops fun pre o => CT Tryz.prog X n ops pre fr ow [] fun fr1 ow1 _ => PanGoal Tryz.prog X n Q o fr1 ow1) : T Tryz.prog X n (.region id ⟨ops⟩ false) fr ow Q := T.regionP k h
theorem zbp {o1 o1' : Own} (k : Nat) (hc : callOf fr op = some (f, args)) (hP : ∀ vs w, (callFunc f vs).run Tryz.prog w = .ok (.enter f vs) w) (hk : look k ow = some o1)
    (hok : (args.map (lendA [k])).all (D.okIn [k]) = true) (hf1 : o1.okIn [k] = true) (hf2 : o1'.okIn [k] = true)
    (hC : CtrP Tryz.prog f (args.map (lendA [k])) [(k, o1)] pv [(k, o1')]) (h : Pnc pv Q fr ((k, o1') :: ow)) : PanGoal Tryz.prog X n Q ⟨dst, op, ty, pos, af, none⟩ fr ow :=
  ⟨rfl, pchain pv, [(k, o1')], (k, o1') :: ow, zew (o := ⟨dst, op, ty, pos, af, none⟩) (ow := ow) (lo := [(k, o1)]) (lo' := [(k, o1')]) (ids := [k]) hP hc ⟨hk, trivial⟩ rfl rfl (by simp) hok (by simp [hf1]) (by simp [hf2]) hC _ _ (fun x _ => zaZ fr x) (fun _ _ => rfl), zaL .., h⟩
theorem zdi (hc : callOf fr op = some (f, args)) (hP : ∀ vs w, (callFunc f vs).run Tryz.prog w = .ok (.enter f vs) w)
    (hok : (args.map (lendA [])).all (D.okIn []) = true) (hC : CtrP Tryz.prog f (args.map (lendA [])) [] pv []) (h : Pnc pv Q fr ow) : PanGoal Tryz.prog X n Q ⟨dst, op, ty, pos, af, none⟩ fr ow :=
  ⟨rfl, pchain pv, [], ow, zew (o := ⟨dst, op, ty, pos, af, none⟩) (ow := ow) (lo := []) (lo' := []) (ids := []) hP hc trivial rfl rfl (by simp) hok rfl rfl hC _ _ (fun x _ => zaZ fr x) (fun _ h => by cases h), rfl, h⟩
end
attribute [irreducible] Pnc
end Go.Proofs.YtcajofhafpkbdaaGreatDoor.Flow

namespace Go.Proofs.YtcajofhafpkbdaaGreatDoor.Flow
section
variable {P : Program} {X : Ctx} {n : Nat}
theorem zeb {l1 l2 : List Oper} {es1 es2 : List Eff} {L : Nat → Bool} {F : Nat → D} (h : es1.length = l1.length) : ∀ {k : Nat}, k ≤ l1.length → runF (l1 ++ l2) (es1 ++ es2) L F k = runF l1 es1 L F k
  | 0, _ => rfl
  | k + 1, hk => by
    rw [runF, runF, zeb h (by omega), List.getElem?_append_left (show k < l1.length by omega), List.getElem?_append_left (show k < es1.length by omega)]
theorem zek {l1 l2 : List Oper} {es1 es2 : List Eff} {L : Nat → Bool} {O : Nat → Option Own} (h : es1.length = l1.length) : ∀ {k : Nat}, k ≤ l1.length → runO (l1 ++ l2) (es1 ++ es2) L O k = runO l1 es1 L O k
  | 0, _ => rfl
  | k + 1, hk => by
    rw [runO, runO, zek h (by omega), List.getElem?_append_left (show k < l1.length by omega), List.getElem?_append_left (show k < es1.length by omega)]
theorem zgd {l1 l2 : List Oper} {es1 es2 : List Eff} {F : Nat → D} (h : es1.length = l1.length) : ∀ {j : Nat}, runF (l1 ++ l2) (es1 ++ es2) (fun _ => true) F (l1.length + j) = runF l2 es2 (fun _ => true) (runF l1 es1 (fun _ => true) F l1.length) j
  | 0 => by rw [Nat.add_zero, zeb h (Nat.le_refl _)]; rfl
  | j + 1 => by
    rw [← Nat.add_assoc, runF, runF, zgd h, List.getElem?_append_right (Nat.le_add_right _ _), List.getElem?_append_right (by omega), h, Nat.add_sub_cancel_left]
theorem zga {l1 l2 : List Oper} {es1 es2 : List Eff} {O : Nat → Option Own} (h : es1.length = l1.length) : ∀ {j : Nat}, runO (l1 ++ l2) (es1 ++ es2) (fun _ => true) O (l1.length + j) = runO l2 es2 (fun _ => true) (runO l1 es1 (fun _ => true) O l1.length) j
  | 0 => by rw [Nat.add_zero, zek h (Nat.le_refl _)]; rfl
  | j + 1 => by
    rw [← Nat.add_assoc, runO, runO, zga h, List.getElem?_append_right (Nat.le_add_right _ _), List.getElem?_append_right (by omega), h, Nat.add_sub_cancel_left]
theorem ziM (rd : Option Nat) {ops : Array Oper} {Q : Exit → Act → World → Prop} {F : Nat → D} {O : Nat → Option Own} {es : List Eff} {p : Nat} {op : Oper} {ep : Eff} {ch : List PanicEntry} (hlen0 : es.length = ops.toList.length)
    (hat : ∀ k o e, k ≠ p → ops.toList[k]? = some o → es[k]? = some e → LDoes P X n ops.toList o (runF ops.toList es (fun _ => true) F k) (runO ops.toList es (fun _ => true) O k) e)
    (hop : ops.toList[p]? = some op) (hep : es[p]? = some ep) (hg : op.guard = none)
    (hpan : ∀ F' O', (∀ t ∈ seesOf ops.toList op, F' t = runF ops.toList es (fun _ => true) F p t) → (∀ k ∈ ep.rd, O' k = runO ops.toList es (fun _ => true) O p k) → PanAt P X n op F' O' ch ep.wr)
    (hok : flowOk ops.toList (es.map fun e => (e.rd, e.wr.map (·.1))) = true) (hwr : ∀ k e, k ≠ p → es[k]? = some e → e.wr ≠ [] → Anc ops.toList k p)
    (hQ : ∀ a w F', Rep X n F' (updO O ep.wr) a w → Q (.panic ch) a w) :
    ∀ (fuel : Nat) (listed : Array Bool) (a : Act) (w : World), listed.size = ops.size → listed.getD p true = false → Closed ops listed → ((List.range ops.size).countP fun i => !listed.getD i true) ≤ fuel →
      Rep X n (runF ops.toList es (fun i => listed.getD i true) F ops.size) (runO ops.toList es (fun i => listed.getD i true) O ops.size) a w → wpAnyIn (fR rd) 0 P .any ops Q fuel listed a w := by
  have hN : ops.toList.length = ops.size := Array.length_toList
  have hlen := hlen0
  rw [hN] at hlen
  simp only [flowOk, Bool.and_eq_true] at hok
  obtain ⟨hall, hback⟩ := hok
  have hanc := zep (ops := ops.toList) ops.toList [] (fun j => by simp) (fun k j hk => by simp at hk)
  -- two operations that are not ordered do not clash
  have hcl : ∀ i k oi ok ei ek, ops.toList[i]? = some oi → ops.toList[k]? = some ok → es[i]? = some ei → es[k]? = some ek → i < k → ¬ Anc ops.toList k i → clash (footAt ops.toList oi ei) (footAt ops.toList ok ek) = false := by
    intro i k oi ok ei ek h1 h2 h3 h4 hik hna
    have := zeG hall rfl i k _ _ (by simpa using zfs (all := ops.toList) h1 h3) (by simpa using zfs (all := ops.toList) h2 h4) hik (Nat.zero_le _)
    rcases this with h | h
    · exact absurd (hanc k i h) hna
    · exact h
  have hes : ∀ i o, ops[i]? = some o → ∃ e, es[i]? = some e := fun i o ho => by
    have : i < ops.size := (Array.getElem?_eq_some_iff.1 ho).1
    exact ⟨_, List.getElem?_eq_getElem (by omega)⟩
  -- nothing ready: all listed
  have hdone : ∀ listed : Array Bool, listed.size = ops.size → Region.ready .any ops listed = [] → ∀ i, listed.getD i true = true := by
    intro listed hz hr i
    induction i using Nat.strongRecOn with
    | _ i ih =>
      cases hL : listed.getD i true with
      | true => rfl
      | false =>
        exfalso
        have hi : i < ops.size := by
          rcases Nat.lt_or_ge i listed.size with h | h
          · omega
          · rw [Array.getD_eq_getD_getElem?, Array.getElem?_eq_none h] at hL
            cases hL
        have hmem : i ∈ Region.ready .any ops listed := by
          refine mem_ready.2 ⟨hL, ops[i], by simp [hi], fun e he hb => ?_⟩
          have hlt := zdP hback i ops[i] (by simp [hi]) e (by simpa using he) hb
          have := ih e.on (by omega)
          rwa [zcI (b := true) (by omega)]
        rw [hr] at hmem
        cases hmem
  have hno : ∀ listed : Array Bool, listed.size = ops.size → listed.getD p true = false → Region.ready .any ops listed = [] → False := fun listed hz hlp hr => by
    rw [hdone listed hz hr p] at hlp
    cases hlp
  intro fuel
  induction fuel with
  | zero =>
    intro listed a w hz hlp hc hn hrep
    have hr : Region.ready .any ops listed = [] := by
      apply List.eq_nil_iff_forall_not_mem.2
      intro i hi
      obtain ⟨h1, o, ho, _⟩ := mem_ready.1 hi
      have hlt : i < ops.size := (Array.getElem?_eq_some_iff.1 ho).1
      have : 0 < (List.range ops.size).countP fun i => !listed.getD i true := List.countP_pos_iff.2 ⟨i, by simpa using hlt, by simp [h1]⟩
      omega
    exact (hno listed hz hlp hr).elim
  | succ fuel ih =>
    intro listed a w hz hlp hc hn hrep
    refine ⟨fun hr => (hno listed hz hlp hr).elim, fun j hj => ?_⟩
    obtain ⟨hjl, o, ho, hpre⟩ := mem_ready.1 hj
    have hjn : j < ops.size := (Array.getElem?_eq_some_iff.1 ho).1
    have hol : ops.toList[j]? = some o := by simpa using ho
    obtain ⟨e, he⟩ := hes j o ho
    -- whatever surely comes ahead of j has come up
    have hancj : ∀ i, Anc ops.toList j i → listed.getD i true = true := by
      intro i hi
      have hsize : ∀ k, listed.getD k false = true → listed.getD k true = true := fun k hk => by
        rcases Nat.lt_or_ge k listed.size with h | h
        · rw [zcI (b := false) h]; exact hk
        · simp [Array.getD_eq_getD_getElem?, Array.getElem?_eq_none h]
      cases hi with
      | one _ _ o' e' ho' he' hb hj' =>
        rw [hol] at ho'
        cases ho'
        subst hj'
        exact hsize _ (hpre e' (by simpa using he') hb)
      | more _ _ o' e' ho' he' hb t =>
        rw [hol] at ho'
        cases ho'
        exact hc.anc hz t (hsize _ (hpre e' (by simpa using he') hb))
    -- nothing that has come up and stands behind j in the text clashes with it; nothing that has not come up and stands ahead does
    have hafter : ∀ i oi ei, j ≤ i → ops.toList[i]? = some oi → es[i]? = some ei → listed.getD i true = true → clash (footAt ops.toList oi ei) (footAt ops.toList o e) = false := by
      intro i oi ei hji hoi hei hL
      have hne : j ≠ i := fun h => by subst h; rw [hjl] at hL; cases hL
      refine zgC _ _ (hcl j i o oi e ei hol hoi he hei (by omega) fun ha => ?_)
      have := hc.anc hz ha hL
      rw [hjl] at this
      cases this
    have hbefore : ∀ i oi ei, i < j → ops.toList[i]? = some oi → es[i]? = some ei → listed.getD i true = false → clash (footAt ops.toList oi ei) (footAt ops.toList o e) = false := by
      intro i oi ei hij hoi hei hL
      refine hcl i j oi o ei e hoi hol hei he hij fun ha => ?_
      have := hancj i ha
      rw [hL] at this
      cases this
    have hmj : ops.size = j + (ops.size - j) := by omega
    have hF : ∀ t, t ∈ seesOf ops.toList o ∨ t ∈ o.dst.toList → runF ops.toList es (fun i => listed.getD i true) F ops.size t = runF ops.toList es (fun _ => true) F j t := by
      intro t ht
      rw [hmj, zdf (fun i oi hji hoi hL => ?_), zcB (fun i oi hij hoi hne => ?_)]
      · have hL : listed.getD i true = false := by
          cases h : listed.getD i true with
          | false => rfl
          | true => exact absurd h hne
        obtain ⟨ei, hei⟩ := hes i oi (by simpa using hoi)
        have := hbefore i oi ei hij hoi hei hL
        simp only [clash, footAt, Bool.or_eq_false_iff] at this
        intro hmem
        rcases ht with ht | ht
        · exact zaI this.1.1.1 hmem ht
        · exact zaI this.1.1.2 hmem ht
      · obtain ⟨ei, hei⟩ := hes i oi (by simpa using hoi)
        have := hafter i oi ei hji hoi hei hL
        simp only [clash, footAt, Bool.or_eq_false_iff] at this
        intro hmem
        rcases ht with ht | ht
        · exact zaI this.1.1.1 hmem ht
        · exact zaI this.1.1.2 hmem ht
    have hO : ∀ t, t ∈ e.rd ∨ t ∈ e.wr.map (·.1) → runO ops.toList es (fun i => listed.getD i true) O ops.size t = runO ops.toList es (fun _ => true) O j t := by
      intro t ht
      have hoi : ∀ i ei, es[i]? = some ei → ∃ oi, ops.toList[i]? = some oi := fun i ei hei => by
        have : i < es.length := (List.getElem?_eq_some_iff.1 hei).1
        exact ⟨_, (Array.getElem?_toList).trans (Array.getElem?_eq_getElem (by omega))⟩
      rw [hmj, zdn (fun i ei hji hei hL => ?_), zcE (fun i ei hij hei hne => ?_)]
      · have hL : listed.getD i true = false := by
          cases h : listed.getD i true with
          | false => rfl
          | true => exact absurd h hne
        obtain ⟨oi, hoi⟩ := hoi i ei hei
        have := hbefore i oi ei hij hoi hei hL
        simp only [clash, footAt, Bool.or_eq_false_iff] at this
        intro hmem
        rcases ht with ht | ht
        · exact zaI this.2.1.1 hmem ht
        · exact zaI this.2.1.2 hmem ht
      · obtain ⟨oi, hoi⟩ := hoi i ei hei
        have := hafter i oi ei hji hoi hei hL
        simp only [clash, footAt, Bool.or_eq_false_iff] at this
        intro hmem
        rcases ht with ht | ht
        · exact zaI this.2.1.1 hmem ht
        · exact zaI this.2.1.2 hmem ht
    by_cases hjp : j = p
    · subst hjp
      rw [hop] at hol
      cases hol
      rw [hep] at he
      cases he
      have hOeq : ∀ m, runO ops.toList es (fun i => listed.getD i true) O m = O := by
        intro m
        induction m with
        | zero => rfl
        | succ m ihm =>
          rw [runO]
          split
          · rename_i hL
            split
            · rename_i o2 e2 ho2 he2
              have hm : m ≠ j := fun q => by
                subst q
                rw [hjl] at hL
                cases hL
              have hw0 : e2.wr = [] := by
                cases hw : e2.wr with
                | nil => rfl
                | cons x y =>
                  have := hc.anc hz (hwr m e2 hm he2 (by rw [hw]; simp)) hL
                  rw [hjl] at this
                  cases this
              rw [hw0]
              exact ihm
            · exact ihm
          · exact ihm
      unfold wpOpIn
      simp only [ho, Region.wanted, hg, if_true]
      refine OW.in rd (hpan _ _ (fun t ht => hF t (.inl ht)) (fun k hk => hO k (.inl hk)) a w _ _ hrep fun w' hr2 => hQ a w' (runF ops.toList es (fun i => listed.getD i true) F ops.size) ?_)
      rw [hOeq] at hr2
      exact hr2
    have hLd := hat j o e hjp hol he
    have hdoes := hLd _ _ (fun t ht => hF t (.inl ht)) (fun k hk => hO k (.inl hk))
    refine zcs ho hdoes hrep (fun a' w' hrep' => ?_) rd
    refine ih _ a' w' (by rw [Array.size_setIfInBounds]; exact hz) (by rw [getD_set_ne true hjp]; exact hlp) ?_ ?_ ?_
    · intro i oi hoi hL e' he' hb
      by_cases hij : j = i
      · subst hij
        rw [ho] at hoi
        cases hoi
        exact getD_set_true (hpre e' he' hb)
      · rw [getD_set_ne true hij] at hL
        exact getD_set_true (hc i oi hoi hL e' he' hb)
    · have hlt : ((List.range ops.size).countP fun i => !(listed.setIfInBounds j true).getD i true) < ((List.range ops.size).countP fun i => !listed.getD i true) := by
        refine zfC (j := j) (fun i hi => ?_) (by simp [hjl]) ?_ (by simpa using hjn)
        · by_cases hij : j = i
          · subst hij; simp [hjl]
          · rwa [getD_set_ne true hij] at hi
        · simp [Array.getD_eq_getD_getElem?, show j < listed.size by omega]
      omega
    · have hset : ∀ i, i ≠ j → (listed.setIfInBounds j true).getD i true = listed.getD i true := fun i hi => getD_set_ne true (Ne.symm hi)
      have hsetj : (listed.setIfInBounds j true).getD j true = true := by
        simp [Array.getD_eq_getD_getElem?, show j < listed.size by omega]
      have hmj1 : ops.size = j + 1 + (ops.size - (j + 1)) := by omega
      have eF : runF ops.toList es (fun i => (listed.setIfInBounds j true).getD i true) F ops.size = updF (runF ops.toList es (fun i => listed.getD i true) F ops.size) o.dst e.d := by
        funext t
        by_cases ht : t ∈ o.dst.toList
        · rw [hmj1, zdf (fun i oi hji hoi hL => ?_)]
          · rw [← hmj1]
            simp only [runF, hsetj, if_true, hol, he]
            exact zfq (.inl ht)
          · simp only [hset i (by omega)] at hL
            obtain ⟨ei, hei⟩ := hes i oi (by simpa using hoi)
            have := hafter i oi ei (by omega) hoi hei hL
            simp only [clash, footAt, Bool.or_eq_false_iff] at this
            exact fun hmem => zaI this.1.1.2 hmem ht
        · rw [zdb ht]
          refine zcB fun i oi hi hoi hne => ?_
          by_cases hij : i = j
          · subst hij
            rw [hol] at hoi
            cases hoi
            exact ht
          · exact absurd (hset i hij) hne
      have eO : runO ops.toList es (fun i => (listed.setIfInBounds j true).getD i true) O ops.size = updO (runO ops.toList es (fun i => listed.getD i true) O ops.size) e.wr := by
        funext t
        by_cases ht : t ∈ e.wr.map (·.1)
        · rw [hmj1, zdn (fun i ei hji hei hL => ?_)]
          · rw [← hmj1]
            simp only [runO, hsetj, if_true, hol, he]
            exact zdW (.inl ht)
          · simp only [hset i (by omega)] at hL
            have hlt : i < es.length := (List.getElem?_eq_some_iff.1 hei).1
            have hoi : ops.toList[i]? = some (ops[i]'(by omega)) := by simp [show i < ops.size by omega]
            have := hafter i _ ei (by omega) hoi hei hL
            simp only [clash, footAt, Bool.or_eq_false_iff] at this
            exact fun hmem => zaI this.2.1.2 hmem ht
        · rw [zcK ht]
          refine zcE fun i ei hi hei hne => ?_
          by_cases hij : i = j
          · subst hij
            rw [he] at hei
            cases hei
            exact ht
          · exact absurd (hset i hij) hne
      rw [eF, eO]
      exact hrep'
def okPan (p : Nat) (ops : List Oper) (tr : List (List Nat × List Nat)) : Bool := (List.range ops.length).all fun k => Nat.beq k p || (tr.getD k ([], [])).2.isEmpty || ((ancs ops []).getD k 0).testBit p
def splitOp3 : Nat → List Oper → (List Oper → Oper → List Oper → Prop) → Prop
  | 0, o :: r, K => K [] o r
  | k + 1, a :: r, K => splitOp3 k r fun pre o post => K (a :: pre) o post
  | _, [], _ => False
theorem zeg : ∀ {k : Nat} {ops : List Oper} {K : List Oper → Oper → List Oper → Prop}, splitOp3 k ops K → ∃ pre o post, ops = pre ++ o :: post ∧ pre.length = k ∧ K pre o post
  | 0, o :: r, _, h => ⟨[], o, r, rfl, rfl, h⟩
  | k + 1, a :: r, _, h => by
    obtain ⟨pre, o, post, h1, h2, h3⟩ := zeg (k := k) (ops := r) h
    exact ⟨a :: pre, o, post, by rw [h1]; rfl, by simp [h2], h3⟩
  | 0, [], _, h => h.elim
  | k + 1, [], _, h => h.elim
variable {fr : Fr} {ow : Ow} {Q : Exit → Fr → Ow → Prop}
def PanDraw (P : Program) (X : Ctx) (n : Nat) (Q : Exit → Fr → Ow → Prop) (all : List Oper) (p : Nat) (ow0 : Ow) (o : Oper) (post : List Oper) (fr : Fr) (ow : Ow) (tr : List (List Nat × List Nat)) : Prop :=
  o.guard = none ∧ ∃ (ch : List PanicEntry) (e : Eff) (fr2 : Fr) (ow2 : Ow), (∀ F' O', (∀ x ∈ o.op.operands.toList, evF F' x = evF (fF fr) x) → (∀ k ∈ e.rd, O' k = fO ow k) → PanAt P X n o F' O' ch e.wr) ∧ fF fr2 = updF (fF fr) o.dst e.d ∧ fO ow2 = updO (fO ow) e.wr ∧
    CT P X n all post fr2 ow2 (tr ++ [(e.rd, e.wr.map (·.1))]) fun _ _ tr => flowOk all tr = true ∧ okPan p all tr = true ∧ ∃ ow3, fO ow3 = updO (fO ow0) e.wr ∧ Q (.panic ch) [] ow3
theorem T.drawP {id : Nat} {ops : List Oper} (p : Nat) (hm : P.follows .mixedOrders = true) (h : splitOp3 p ops fun pre o post => CT P X n ops pre fr ow [] fun fr1 ow1 tr1 => PanDraw P X n Q ops p ow o post fr1 ow1 tr1) : T P X n (.region id ⟨ops⟩ true) fr ow Q := fun a w hr rd => by
  obtain ⟨pre, o, post, hs, hpl, es1, fr1, ow1, hc1, hg, ch, e, fr2, ow2, hp, hF2, hO2, es2, fr3, ow3', hc2, hok, hokp, ow3, hO3, hq⟩ := zeg h
  obtain ⟨hat1, hF1, hO1⟩ := hc1.at
  obtain ⟨hat2, _, _⟩ := hc2.at
  have hl1 := hc1.len
  have hl2 := hc2.len
  have htr : [] ++ es1.map (fun e => (e.rd, e.wr.map (·.1))) ++ [(e.rd, e.wr.map (·.1))] ++ es2.map (fun e => (e.rd, e.wr.map (·.1))) = (es1 ++ e :: es2).map fun e => (e.rd, e.wr.map (·.1)) := by simp
  rw [htr] at hok hokp
  have hlen : (es1 ++ e :: es2).length = ops.length := by
    rw [hs]
    simp [hl1, hl2]
  have hrunF : ∀ j, runF ops (es1 ++ e :: es2) (fun _ => true) (fF fr) (p + 1 + j) = runF post es2 (fun _ => true) (fF fr2) j := fun j => by
    have e1 : pre ++ o :: post = (pre ++ [o]) ++ post := by simp
    have e2 : es1 ++ e :: es2 = (es1 ++ [e]) ++ es2 := by simp
    have e3 : p + 1 = (pre ++ [o]).length := by simp [hpl]
    rw [hs, e1, e2, e3, zgd (by simp [hl1])]
    congr 1
    have e4 : (pre ++ [o]).length = pre.length + 1 := by simp
    rw [e4, zgd hl1, hF1, hF2]
    rfl
  have hrunO : ∀ j, runO ops (es1 ++ e :: es2) (fun _ => true) (fO ow) (p + 1 + j) = runO post es2 (fun _ => true) (fO ow2) j := fun j => by
    have e1 : pre ++ o :: post = (pre ++ [o]) ++ post := by simp
    have e2 : es1 ++ e :: es2 = (es1 ++ [e]) ++ es2 := by simp
    have e3 : p + 1 = (pre ++ [o]).length := by simp [hpl]
    rw [hs, e1, e2, e3, zga (by simp [hl1])]
    congr 1
    have e4 : (pre ++ [o]).length = pre.length + 1 := by simp
    rw [e4, zga hl1, hO1, hO2]
    rfl
  have hFp : runF ops (es1 ++ e :: es2) (fun _ => true) (fF fr) p = fF fr1 := by
    rw [hs, ← hpl, zeb hl1 (Nat.le_refl _), hF1]
  have hOp : runO ops (es1 ++ e :: es2) (fun _ => true) (fO ow) p = fO ow1 := by
    rw [hs, ← hpl, zek hl1 (Nat.le_refl _), hO1]
  have hanc := zep (ops := ops) ops [] (fun j => by simp) (fun k j hk => by simp at hk)
  have hop : ops[p]? = some o := by rw [hs, ← hpl]; simp
  have hep : (es1 ++ e :: es2)[p]? = some e := by rw [← hpl, ← hl1]; simp
  refine wpIn_region_any hm ?_
  have hnone : (fun i => (Array.replicate (⟨ops⟩ : Array Oper).size false).getD i true) = fun i => !decide (i < (⟨ops⟩ : Array Oper).size) := by
    funext i
    by_cases hi : i < ops.length <;> simp [Array.getD_eq_getD_getElem?, hi]
  have hsz : (⟨ops⟩ : Array Oper).size = ops.length := rfl
  have e1 : ∀ k, k ≤ (⟨ops⟩ : Array Oper).size → runF ops (es1 ++ e :: es2) (fun i => (Array.replicate (⟨ops⟩ : Array Oper).size false).getD i true) (fF fr) k = fF fr := by
    intro k hk
    induction k with
    | zero => rfl
    | succ k ih =>
      have hk' : ¬ ((Array.replicate (⟨ops⟩ : Array Oper).size false).getD k true = true) := by
        have hkk : (Array.replicate (⟨ops⟩ : Array Oper).size false).getD k true = !decide (k < (⟨ops⟩ : Array Oper).size) := congrFun hnone k
        rw [hkk]
        simp only [Bool.not_eq_true', decide_eq_false_iff_not]
        omega
      rw [runF, if_neg hk']
      exact ih (by omega)
  have e2 : ∀ k, k ≤ (⟨ops⟩ : Array Oper).size → runO ops (es1 ++ e :: es2) (fun i => (Array.replicate (⟨ops⟩ : Array Oper).size false).getD i true) (fO ow) k = fO ow := by
    intro k hk
    induction k with
    | zero => rfl
    | succ k ih =>
      have hk' : ¬ ((Array.replicate (⟨ops⟩ : Array Oper).size false).getD k true = true) := by
        have hkk : (Array.replicate (⟨ops⟩ : Array Oper).size false).getD k true = !decide (k < (⟨ops⟩ : Array Oper).size) := congrFun hnone k
        rw [hkk]
        simp only [Bool.not_eq_true', decide_eq_false_iff_not]
        omega
      rw [runO, if_neg hk']
      exact ih (by omega)
  have hplt : p < ops.length := (List.getElem?_eq_some_iff.1 hop).1
  refine ziM rd (P := P) (X := X) (n := n) (ops := ⟨ops⟩) (F := fF fr) (O := fO ow) (es := es1 ++ e :: es2) (p := p) (op := o) (ep := e) (ch := ch) hlen (fun k o' e' hkp ho' he' => ?_) hop hep hg (fun F' O' h1 h2 => hp F' O' (zfy (all := ops) fun t ht => ?_) fun k hk => ?_) hok
    (fun k e' hkp he' hw => ?_) (fun a w F' hrep => ⟨[], ow3, hq, ?_⟩) (⟨ops⟩ : Array Oper).size _ a _ (by simp) ?_ (fun i o' hi hL => ?_) (Nat.le_trans List.countP_le_length (by simp)) ?_
  · have ho' : ops[k]? = some o' := ho'
    rcases Nat.lt_or_ge k p with hlt | hge
    · have := hat1 k o' e' (by rw [hs, List.getElem?_append_left (by omega)] at ho'; exact ho') (by rw [List.getElem?_append_left (by omega)] at he'; exact he')
      rw [show runF (⟨ops⟩ : Array Oper).toList (es1 ++ e :: es2) (fun _ => true) (fF fr) k = runF pre es1 (fun _ => true) (fF fr) k by show runF ops _ _ _ _ = _; rw [hs, zeb hl1 (by omega)],
        show runO (⟨ops⟩ : Array Oper).toList (es1 ++ e :: es2) (fun _ => true) (fO ow) k = runO pre es1 (fun _ => true) (fO ow) k by show runO ops _ _ _ _ = _; rw [hs, zek hl1 (by omega)]]
      exact this
    · obtain ⟨j, rfl⟩ : ∃ j, k = p + 1 + j := ⟨k - (p + 1), by omega⟩
      have := hat2 j o' e' (by
        rw [hs, List.getElem?_append_right (by omega), show p + 1 + j - pre.length = j + 1 by omega] at ho'
        simpa using ho') (by
        rw [List.getElem?_append_right (by omega), show p + 1 + j - es1.length = j + 1 by omega] at he'
        simpa using he')
      rw [show runF (⟨ops⟩ : Array Oper).toList (es1 ++ e :: es2) (fun _ => true) (fF fr) (p + 1 + j) = _ from hrunF j, show runO (⟨ops⟩ : Array Oper).toList (es1 ++ e :: es2) (fun _ => true) (fO ow) (p + 1 + j) = _ from hrunO j]
      exact this
  · have := h1 t ht
    rwa [show runF (⟨ops⟩ : Array Oper).toList (es1 ++ e :: es2) (fun _ => true) (fF fr) p = fF fr1 from hFp] at this
  · have := h2 k hk
    rwa [show runO (⟨ops⟩ : Array Oper).toList (es1 ++ e :: es2) (fun _ => true) (fO ow) p = fO ow1 from hOp] at this
  · have hk : k < ops.length := by
      have := (List.getElem?_eq_some_iff.1 he').1
      omega
    have := List.all_eq_true.1 hokp k (List.mem_range.2 hk)
    simp only [Bool.or_eq_true] at this
    rcases this with (h3 | h3) | h3
    · exact absurd (Nat.eq_of_beq_eq_true h3) hkp
    · rw [List.getD_eq_getElem?_getD, List.getElem?_map, he'] at h3
      simp only [Option.map_some, Option.getD_some, List.isEmpty_iff, List.map_eq_nil_iff] at h3
      exact absurd h3 hw
    · exact hanc k p h3
  · have hkk : (Array.replicate (⟨ops⟩ : Array Oper).size false).getD p true = !decide (p < (⟨ops⟩ : Array Oper).size) := congrFun hnone p
    rw [hkk, decide_eq_true (show p < (⟨ops⟩ : Array Oper).size from hplt)]
    rfl
  · have hlt : i < (⟨ops⟩ : Array Oper).size := (Array.getElem?_eq_some_iff.1 hi).1
    have hkk : (Array.replicate (⟨ops⟩ : Array Oper).size false).getD i true = !decide (i < (⟨ops⟩ : Array Oper).size) := congrFun hnone i
    rw [hkk, decide_eq_true hlt] at hL
    cases hL
  · rw [show runF (⟨ops⟩ : Array Oper).toList (es1 ++ e :: es2) _ (fF fr) _ = fF fr from e1 _ (Nat.le_refl _), show runO (⟨ops⟩ : Array Oper).toList (es1 ++ e :: es2) _ (fO ow) _ = fO ow from e2 _ (Nat.le_refl _)]
    exact hr.drew
  · rw [hO3]
    obtain ⟨S, r, g1, g2, g3, g4, g5, g6⟩ := hrep
    exact ⟨S, r, g1, g2, fun t => .any .., g4, g5, g6⟩
end
section
variable {X : Ctx} {n : Nat} {all post : List Oper} {fr : Fr} {ow ow0 : Ow} {Q : Exit → Fr → Ow → Prop} {tr : List (List Nat × List Nat)}
variable {t p : Nat} {op : Op} {ty : TypeId} {pos : String} {af : Array Edge} {f : FuncId} {args : List D} {pv : Value}
theorem znZ (p : Nat) {id : Nat} {ops : List Oper} (h : splitOp3 p ops fun pre o post => CT Tryz.prog X n ops pre fr ow [] fun fr1 ow1 tr1 => PanDraw Tryz.prog X n Q ops p ow o post fr1 ow1 tr1) : T Tryz.prog X n (.region id ⟨ops⟩ true) fr ow Q := T.drawP p mixed h
theorem zho {o1 o1' : Own} (k : Nat) (d : D) (hc : callOf fr op = some (f, args)) (hP : ∀ vs w, (callFunc f vs).run Tryz.prog w = .ok (.enter f vs) w) (hk : look k ow = some o1)
    (hok : (args.map (lendA [k])).all (D.okIn [k]) = true) (hf1 : o1.okIn [k] = true) (hf2 : o1'.okIn [k] = true)
    (hC : CtrP Tryz.prog f (args.map (lendA [k])) [(k, o1)] pv [(k, o1')])
    (h : CT Tryz.prog X n all post ((t, d) :: fr) ((k, o1') :: ow) (tr ++ [([k], [k])]) fun _ _ tr => flowOk all tr = true ∧ okPan p all tr = true ∧ Pnc pv Q [] ((k, o1') :: ow0)) : PanDraw Tryz.prog X n Q all p ow0 ⟨some t, op, ty, pos, af, none⟩ post fr ow tr := by
  refine ⟨rfl, pchain pv, ⟨d, [k], [(k, o1')]⟩, (t, d) :: fr, (k, o1') :: ow, fun F' O' he hO => zew (o := ⟨some t, op, ty, pos, af, none⟩) (ow := ow) (lo := [(k, o1)]) (lo' := [(k, o1')]) (ids := [k]) hP hc ⟨hk, trivial⟩ rfl rfl (by simp) hok (by simp [hf1]) (by simp [hf2]) hC F' O' he hO, zaH .., zaL .., ?_⟩
  obtain ⟨es, fr', ow', hch, h1, h2, h3⟩ := h
  refine ⟨es, fr', ow', hch, h1, h2, (k, o1') :: ow0, zaL .., ?_⟩
  unfold Pnc at h3
  exact h3
end
end Go.Proofs.YtcajofhafpkbdaaGreatDoor.Flow
