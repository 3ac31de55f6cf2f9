/- The texts FlowZ, FlowPa, one behind the other. -/
import Derived.Test.YtcajofhafpkbdaaGreatDoorCF9
import Derived.Test.YtcajofhafpkbdaaGreatDoorCF18
import Derived.LaidEqlPtr
namespace Go.Proofs.YtcajofhafpkbdaaGreatDoor.Flow
open Go

section
variable {P : Program} {X : Ctx} {n : Nat} {o : Oper} {fr : Fr} {ow : Ow} {k k' : Nat} {ty ty2 : TypeId} {x y : Operand} {cs cs' : List D}

theorem zoc {w : World} {tp te : TypeId} {j : TypeInfo} {a b : Addr} (hp : P.underlying tp = some (.pointer te)) (hte : P.info? te = some j) (hsz : j.size ≠ 0)
    (h : a = b ∨ (a ≠ b ∧ (∃ ca ta, w.heap[a.block]? = some (.cells ca ta (0, 0))) ∧ ∃ cb tb, w.heap[b.block]? = some (.cells cb tb (0, 0)))) (d : Nat) :
    (Op.equalIn (d + 1) tp (.pointer (some a)) (.pointer (some b))).run P w = .ok (decide (a = b)) w := by
  rcases h with rfl | ⟨hne, ⟨ca, ta, ha⟩, cb, tb, hb⟩
  · simp [Op.equalIn, run_underlying hp, sizeOf, typeInfo, hte, run_sameAddr_same]
  · simp [Op.equalIn, run_underlying hp, sizeOf, typeInfo, hte, hsz, run_sameAddr_other w hne ha hb, hne]

theorem znr {te : TypeId} {j : TypeInfo} {neg : Bool} (hp : P.underlying ty = some (.pointer te)) (hte : P.info? te = some j) (hsz : j.size ≠ 0) (ho : o.op = .binOp (if neg then .neq else .eql) ty x y ty2) (hx : ev fr x = .pv k 0) (hy : ev fr y = .pv k' 0)
    (hk : look k ow = some (.var cs)) (hk' : look k' ow = some (.var cs')) (hd : dstOk o.dst n) :
    ∀ F' O', (∀ y ∈ o.op.operands.toList, evF F' y = evF (fF fr) y) → (∀ j ∈ [k, k'], O' j = fO ow j) → StepAt P X n o F' O' (.b (if neg then !decide (k = k') else decide (k = k'))) [] := by
  intro F' O' he hO
  refine zaS hd fun a w S r hH hI hr => ?_
  have hx' := hr x
  rw [he x (by simp [ho, Op.operands]), zbn, hx] at hx'
  have hy' := hr y
  rw [he y (by simp [ho, Op.operands]), zbn, hy] at hy'
  obtain ⟨b, cur, e, h1, h2, _⟩ := hI.obj k _ ((hO k (by simp)).trans hk)
  obtain ⟨b', cur', e', h1', h2', _⟩ := hI.obj k' _ ((hO k' (by simp)).trans hk')
  generalize hvx : a.eval x = vx at hx'
  generalize hvy : a.eval y = vy at hy'
  cases hx' with
  | pv _ _ _ q hq =>
  cases hy' with
  | pv _ _ _ q' hq' =>
    rw [h1] at hq
    cases hq
    rw [h1'] at hq'
    cases hq'
    have hbb : decide (k = k') = decide ((⟨b, 0, none⟩ : Addr) = ⟨b', 0, none⟩) := by
      by_cases h : k = k'
      · subst h
        rw [h1] at h1'
        cases h1'
        simp
      · have := hI.apart k k' _ _ b h h1 h1' rfl
        have hne : b ≠ b' := fun e => this (by rw [e]; rfl)
        rw [decide_eq_false h, decide_eq_false (fun e => hne (by cases e; rfl))]
    have hrun := zoc (P := P) (w := w) (a := ⟨b, 0, none⟩) (b := ⟨b', 0, none⟩) hp hte hsz (by
      by_cases h : (⟨b, 0, none⟩ : Addr) = ⟨b', 0, none⟩
      · exact .inl h
      · exact .inr ⟨h, ⟨_, _, h2⟩, _, _, h2'⟩) 9999
    rw [hbb]
    cases neg with
    | false =>
      refine zaU hH hI rfl ?_ (show Rel S w r (.b (decide ((⟨b, 0, none⟩ : Addr) = ⟨b', 0, none⟩))) (.bool _) from .b ..)
      have e1 : binOp .eql ty (.pointer (some ⟨b, 0, none⟩)) (.pointer (some ⟨b', 0, none⟩)) = (do pure (.bool (← Op.equalIn (9999 + 1) ty (.pointer (some ⟨b, 0, none⟩)) (.pointer (some ⟨b', 0, none⟩))))) := rfl
      simp [execOp, ho, hvx, hvy, eqGuard, e1, hrun, Result.andThen]
    | true =>
      refine zaU hH hI rfl ?_ (show Rel S w r (.b (!decide ((⟨b, 0, none⟩ : Addr) = ⟨b', 0, none⟩))) (.bool _) from .b ..)
      have e1 : binOp .neq ty (.pointer (some ⟨b, 0, none⟩)) (.pointer (some ⟨b', 0, none⟩)) = (do pure (.bool (!(← Op.equalIn (9999 + 1) ty (.pointer (some ⟨b, 0, none⟩)) (.pointer (some ⟨b', 0, none⟩)))))) := rfl
      simp [execOp, ho, hvx, hvy, eqGuard, e1, hrun, Result.andThen]
end

section
variable {X : Ctx} {n : Nat} {all rest : List Oper} {fr : Fr} {ow : Ow} {tr : List (List Nat × List Nat)} {K : Fr → Ow → List (List Nat × List Nat) → Prop}
variable {t k : Nat} {ty ty' : TypeId} {ps : String} {af : Array Edge} {x y : Operand} {cs : List D} {d : D} {off : Nat} {z : Nat × Bool}

theorem r_storP (hx : ev fr x = .pv k off) (hy : ev fr y = d) (hz : B.sz ty = some z) (hk : look k ow = some (.var cs)) (hl : d.cells.length = z.1) (hfit : off + d.cells.length ≤ cs.length) (hs : d.solid = true) (h1 : d.cells.all D.one = true)
    (h : CT Tryz.prog X n all rest fr ((k, .var (putCells cs off d.cells)) :: ow) (tr ++ [([k], [k])]) K) : CT Tryz.prog X n all (⟨none, .store ty x y, ty', ps, af, none⟩ :: rest) fr ow tr K := by
  refine zaJ (d := .any) (p := d.cells.length = z.1 ∧ off + d.cells.length ≤ cs.length ∧ d.solid = true ∧ d.cells.all D.one = true) (rd := [k]) ?_ ⟨hl, hfit, hs, h1⟩ h
  show (match ev fr x with
    | .ap .. => storeA B (fun k => look k ow) ty (ev fr x) (ev fr y)
    | _ => storeD B (fun k => look k ow) ty (ev fr x) (ev fr y)) = _
  rw [hx, hy]
  dsimp only
  unfold storeD
  rw [hz]
  dsimp only
  rw [hk]
  dsimp only
  rw [zdv, zcr]
end

section
variable {P : Program} {X : Ctx} {n : Nat} {fr : Fr} {ow : Ow} {d : D}

theorem zkB {o : Oper} {f : FuncId} {args : List D} {lo lo' : Ow} {ids ids2 : List Nat} (hP : ∀ vs w, (callFunc f vs).run P w = .ok (.enter f vs) w) (hc : callOf fr o.op = some (f, args)) (hk : hasAll (fun k => look k ow) lo)
    (hi1 : lo.map (·.1) = ids) (hi2 : lo'.map (·.1) = ids2) (hnd : ids2.Nodup) (hsub : ∀ k ∈ ids, k ∈ ids2) (hnew : ∀ k ∈ ids2, k ∉ ids → look k ow = none)
    (hok : (args.map (lendA ids)).all (D.okIn ids) = true) (hf1 : lo.all (fun x => x.2.okIn ids) = true) (hf2 : lo'.all (fun x => x.2.okIn ids2) = true) (hf3 : d.okIn ids2 = true)
    (hC : CtrO P f (args.map (lendA ids)) lo d lo') (hd : dstOk o.dst n) :
    ∀ F' O', (∀ x ∈ o.op.operands.toList, evF F' x = evF (fF fr) x) → (∀ j ∈ ids2, O' j = fO ow j) → StepAt P X n o F' O' d lo' := by
  intro F' O' he hO a w K' Q' ⟨S, r, hH, hI, hF, hdf, hn, hρ⟩ hK
  obtain ⟨vs, hrun, hsz, hrel⟩ := zbB hP hc he (fun x => zbK hH.glob hF x)
  have hOk : ∀ k o, look k lo = some o → O' k = some o := fun k o h => by
    have hm : k ∈ ids := by rw [← hi1]; exact List.mem_map.2 ⟨(k, o), zbd h, rfl⟩
    exact (hO k (hsub k hm)).trans (zbM hk k o h)
  have hmem : ∀ k, k ∈ ids → ∃ o, look k lo = some o := fun k h => zbm (by rw [hi1]; exact h)
  have hmem' : ∀ k, k ∈ ids2 → ∃ o, look k lo' = some o := fun k h => zbm (by rw [hi2]; exact h)
  have hin : ∀ k o, look k lo = some o → k ∈ ids ∧ o.okIn ids = true := fun k o h => by
    have h1 := zbd h
    rw [List.all_eq_true] at hf1
    exact ⟨by rw [← hi1]; exact List.mem_map.2 ⟨(k, o), h1, rfl⟩, hf1 _ h1⟩
  have hin' : ∀ k o, look k lo' = some o → k ∈ ids2 ∧ o.okIn ids2 = true := fun k o h => by
    have h1 := zbd h
    rw [List.all_eq_true] at hf2
    exact ⟨by rw [← hi2]; exact List.mem_map.2 ⟨(k, o), h1, rfl⟩, hf2 _ h1⟩
  have hblt : ∀ k l b, r k = some l → l.block = some b → b < w.heap.size := fun k l b hl hb => by
    cases ho : O' k with
    | none => rw [hI.dom k ho] at hl; cases hl
    | some o => exact (hI.obj k o ho).blockLt hl hb
  let X' : Ctx := { w0 := w, S0 := S, L := fun b => ∃ k ∈ ids, ∃ l, r k = some l ∧ l.block = some b, r0 := keepR r ids, ids := ids }
  have hH' : Hist X' w S := ⟨rfl, rfl, rfl, Nat.le_refl _, fun _ _ _ => rfl, fun _ _ h => h, fun _ _ _ => rfl, fun _ _ h => .inl h, hH.valid, hH.glob⟩
  have hI' : Inv X' w S X'.r0 (fO lo) := by
    refine ⟨fun k o hk' => ?_, fun k hk' => ?_, fun i j l l' b' hij hl hl' hb' => ?_, fun k l b' hl hb' => ?_⟩
    · obtain ⟨h1, h2⟩ := hin k o hk'
      exact (hI.obj k o (hOk k o hk')).okIn h2 (RhoLe.refl _) (if_pos h1)
    · refine if_neg fun hm => ?_
      obtain ⟨o, ho⟩ := hmem k hm
      rw [show fO lo k = look k lo from rfl, ho] at hk'
      cases hk'
    · have hl : keepR r ids i = some l := hl
      have hl' : keepR r ids j = some l' := hl'
      simp only [keepR] at hl hl'
      split at hl <;> first | (cases hl; done) | skip
      split at hl' <;> first | (cases hl'; done) | skip
      exact hI.apart i j l l' b' hij hl hl' hb'
    · have hl : keepR r ids k = some l := hl
      simp only [keepR] at hl
      split at hl <;> first | (cases hl; done) | skip
      rename_i hm
      exact .inr ⟨k, hm, l, hl, hb'⟩
  have hrel' : ∀ j, j < (args.map (lendA ids)).length → Rel S w X'.r0 ((args.map (lendA ids)).getD j .any) (vs.getD j undef) := by
    intro j hj
    have hj' : j < args.length := by simpa using hj
    have e : (args.map (lendA ids)).getD j .any = lendA ids (args.getD j .any) := by simp [List.getD_eq_getElem?_getD, hj']
    have hokj : (lendA ids (args.getD j .any)).okIn ids = true := by
      rw [← e]
      rw [List.all_eq_true] at hok
      refine hok _ ?_
      simp only [List.getD_eq_getElem?_getD, List.getElem?_eq_getElem hj, Option.getD_some]
      exact List.getElem_mem hj
    rw [e]
    have hr := hrel j hj'
    generalize args.getD j .any = dj at hr hokj
    generalize vs.getD j undef = vj at hr
    refine Rel.okIn (r := r) ?_ hokj
    cases dj with
    | gs k z m g =>
      simp only [lendA]
      split
      · exact hr
      · exact hr.shut
    | _ => exact hr
  refine OW.enter hrun ((hC X' vs hi1.symm hH' hI' (by simpa using hsz) hrel').mono ?_)
  rintro e w' ⟨v, S', r', rfl, g1, g2, g3, g4⟩
  let r2 : Rho := fun k => if k ∈ ids2 then r' k else r k
  have hr2 : RhoLe r r2 := fun k l hl => by
    by_cases hm : k ∈ ids2
    · have hm0 : k ∈ ids := by
        rcases Classical.em (k ∈ ids) with h | h
        · exact h
        · have h0 : O' k = none := (hO k hm).trans (hnew k hm h)
          rw [hI.dom k h0] at hl
          cases hl
      obtain ⟨l', h1, h2⟩ := g4 k l (by show keepR r ids k = some l; rw [keepR, if_pos hm0]; exact hl)
      exact ⟨l', by show (if k ∈ ids2 then r' k else r k) = some l'; rw [if_pos hm]; exact h1, h2⟩
    · exact ⟨l, by show (if k ∈ ids2 then r' k else r k) = some l; rw [if_neg hm]; exact hl, LocLe.refl l⟩
  have hr3 : RhoLe (keepR r' ids2) r2 := fun k l hl => by
    simp only [keepR] at hl
    split at hl <;> first | (cases hl; done) | skip
    rename_i hm
    exact ⟨l, by show (if k ∈ ids2 then r' k else r k) = some l; rw [if_pos hm]; exact hl, LocLe.refl l⟩
  have hXL : ∀ b, X'.L b → X.w0.heap.size ≤ b ∨ X.L b := fun b ⟨k, _, l, hl, hb⟩ => hI.low k l b hl hb
  have hother : ∀ k l b, k ∉ ids2 → r k = some l → l.block = some b → ¬ X'.L b := fun k l b hm hl hb ⟨k', hm', l', hl', hb'⟩ =>
    hI.apart k k' l l' b (fun e => hm (e ▸ hsub k' hm')) hl hl' hb hb'
  refine hK v w' ⟨S', r2, ?_, ?_, zbW (fun t => (hF t).mono g2.sub g2.cell r2 hr2) (hn ▸ hd) ((g1.okIn hf3).mono (fun _ _ h => h) (fun _ _ _ => rfl) r2 hr3), by rw [zbo]; exact hdf, by rw [zbF]; exact hn, hρ.trans hr2⟩
  · refine ⟨g2.os.trans hH.os, g2.tape.trans hH.tape, g2.output.trans hH.output, Nat.le_trans hH.size g2.size, fun k hk' hl => ?_, fun b o hb => g2.sub b o (hH.sub b o hb), fun b o hb => (g2.cell b o (hH.sub b o hb)).trans (hH.cell b o hb), fun b o hb => ?_, g2.valid, g2.glob⟩
    · refine (g2.block k (Nat.lt_of_lt_of_le hk' hH.size) fun hx => ?_).trans (hH.block k hk' hl)
      rcases hXL k hx with h | h
      · omega
      · exact hl h
    · rcases g2.new b o hb with h | h | h
      · exact hH.new b o h
      · exact .inr (.inl (Nat.le_trans hH.size h))
      · rcases hXL b h with h | h
        · exact .inr (.inl h)
        · exact .inr (.inr h)
  · have hnd' : (lo'.map (·.1)).Nodup := by rw [hi2]; exact hnd
    have hup : ∀ k, k ∉ ids2 → updO O' lo' k = O' k := fun k hm => by
      rw [zbh hnd', zbk (by rw [hi2]; exact hm)]
    refine ⟨fun k o hk' => ?_, fun k hk' => ?_, fun i j l l' b hij hl hl' hb => ?_, fun k l b hl hb => ?_⟩
    · by_cases hm : k ∈ ids2
      · obtain ⟨o', ho'⟩ := hmem' k hm
        rw [zbh hnd', ho'] at hk'
        obtain rfl : o' = o := Option.some.inj hk'
        exact (g3.obj k o' ho').okIn (hin' k o' ho').2 hr3 (if_pos hm)
      · rw [hup k hm] at hk'
        refine (hI.obj k o hk').keepL g2.sub g2.cell hr2 (if_neg hm) (fun l b hl hb => g2.block b (hblt k l b hl hb) (hother k l b hm hl hb)) (fun b o hs => ?_)
        rcases g2.new b o hs with h | h | h
        · exact .inl h
        · refine .inr fun l hl hb => ?_
          have := hblt k l b hl hb
          have h : w.heap.size ≤ b := h
          omega
        · exact .inr fun l hl hb => hother k l b hm hl hb h
    · by_cases hm : k ∈ ids2
      · obtain ⟨o', ho'⟩ := hmem' k hm
        rw [zbh hnd', ho'] at hk'
        cases hk'
      · rw [hup k hm] at hk'
        exact (if_neg hm).trans (hI.dom k hk')
    · have hl : (if i ∈ ids2 then r' i else r i) = some l := hl
      have hl' : (if j ∈ ids2 then r' j else r j) = some l' := hl'
      by_cases h1 : i ∈ ids2
      · rw [if_pos h1] at hl
        by_cases h2 : j ∈ ids2
        · rw [if_pos h2] at hl'
          exact g3.apart i j l l' b hij hl hl' hb
        · rw [if_neg h2] at hl'
          intro hb'
          rcases g3.low i l b hl hb with h | h
          · have := hblt j l' b hl' hb'
            have h : w.heap.size ≤ b := h
            omega
          · exact hother j l' b h2 hl' hb' h
      · rw [if_neg h1] at hl
        by_cases h2 : j ∈ ids2
        · rw [if_pos h2] at hl'
          intro hb'
          rcases g3.low j l' b hl' hb' with h | h
          · have := hblt i l b hl hb
            have h : w.heap.size ≤ b := h
            omega
          · exact hother i l b h1 hl hb h
        · rw [if_neg h2] at hl'
          exact hI.apart i j l l' b hij hl hl' hb
    · have hl : (if k ∈ ids2 then r' k else r k) = some l := hl
      by_cases h1 : k ∈ ids2
      · rw [if_pos h1] at hl
        rcases g3.low k l b hl hb with h | h
        · exact .inl (Nat.le_trans hH.size h)
        · exact hXL b h
      · rw [if_neg h1] at hl
        exact hI.low k l b hl hb

end

theorem zjh {α : Type} {k : Nat} : ∀ {a b : List (Nat × α)}, look k (a ++ b) = match look k a with
    | some o => some o
    | none => look k b
  | [], b => rfl
  | (u, e) :: a, b => by
    simp only [List.cons_append, look]
    cases Nat.beq u k with
    | true => rfl
    | false => exact zjh

theorem zlk {lo ow : Ow} (hnd : (lo.map (·.1)).Nodup) : fO (lo ++ ow) = updO (fO ow) lo := by
  funext k
  rw [zbh hnd]
  show look k (lo ++ ow) = _
  rw [zjh]
  cases look k lo <;> rfl

section
variable {X : Ctx} {n : Nat} {all rest : List Oper} {fr : Fr} {ow : Ow} {tr : List (List Nat × List Nat)} {K : Fr → Ow → List (List Nat × List Nat) → Prop}
variable {t k k' : Nat} {op : Op} {ty ty2 ty' : TypeId} {ps : String} {af : Array Edge} {x y : Operand} {cs cs' : List D} {d : D} {f : FuncId} {args : List D} {g u : Nat} {want : Bool}

theorem zkT (lo lo' : Ow) (ids ids2 : List Nat) (hi1 : lo.map (·.1) = ids) (hi2 : lo'.map (·.1) = ids2) (hnd : ids2.Nodup) (hsub : ∀ k ∈ ids, k ∈ ids2) (hnew : ∀ k ∈ ids2, k ∉ ids → look k ow = none)
    (hc : callOf fr op = some (f, args)) (hn : Nat.blt t n = true) (hP : ∀ vs w, (callFunc f vs).run Tryz.prog w = .ok (.enter f vs) w) (hk : hasAll (fun k => look k ow) lo)
    (hok : (args.map (lendA ids)).all (D.okIn ids) = true) (hf1 : lo.all (fun x => x.2.okIn ids) = true) (hf2 : lo'.all (fun x => x.2.okIn ids2) = true) (hf3 : d.okIn ids2 = true)
    (hC : CtrO Tryz.prog f (args.map (lendA ids)) lo d lo')
    (h : CT Tryz.prog X n all rest ((t, d) :: fr) (lo' ++ ow) (tr ++ [(ids2, lo'.map (·.1))]) K) : CT Tryz.prog X n all (⟨some t, op, ty, ps, af, none⟩ :: rest) fr ow tr K :=
  CT.cons (e := ⟨d, ids2, lo'⟩) (.plain rfl (zkB (o := ⟨some t, op, ty, ps, af, none⟩) (ow := ow) hP hc hk hi1 hi2 hnd hsub hnew hok hf1 hf2 hf3 hC (show t < n by simpa using hn))) (zaX ..) (zlk (by rw [hi2]; exact hnd)) h

set_option maxRecDepth 100000 in
theorem r_pne {te : TypeId} {j : TypeInfo} (hp : Tryz.prog.underlying ty = some (.pointer te)) (hte : Tryz.prog.info? te = some j) (hsz : j.size ≠ 0) (hx : ev fr x = .pv k 0) (hy : ev fr y = .pv k' 0) (hk : look k ow = some (.var cs)) (hk' : look k' ow = some (.var cs')) (hn : Nat.blt t n = true)
    (h : CT Tryz.prog X n all rest ((t, .b (!decide (k = k'))) :: fr) ow (tr ++ [([k, k'], [])]) K) : CT Tryz.prog X n all (⟨some t, .binOp .neq ty x y ty2, ty', ps, af, none⟩ :: rest) fr ow tr K :=
  CT.cons (e := ⟨.b (!decide (k = k')), [k, k'], []⟩) (.plain rfl (znr (neg := true) (o := ⟨some t, .binOp .neq ty x y ty2, ty', ps, af, none⟩) hp hte hsz rfl hx hy hk hk' (show t < n by simpa using hn))) (zaX ..) rfl h
end

end Go.Proofs.YtcajofhafpkbdaaGreatDoor.Flow

namespace Go.Proofs.YtcajofhafpkbdaaGreatDoor.Flow

def pchain (pv : Value) : List PanicEntry := [{ v := pv, recovered := false }]

def CtrP (P : Program) (f : FuncId) (args : List D) (ow : Ow) (pv : Value) (ow' : Ow) : Prop :=
  ∀ (X : Ctx) (vs : Array Value), X.ids = ow.map (·.1) → Hist X X.w0 X.S0 → Inv X X.w0 X.S0 X.r0 (fO ow) → vs.size = args.length → (∀ j, j < args.length → Rel X.S0 X.w0 X.r0 (args.getD j .any) (vs.getD j undef)) →
    Calls P f vs X.w0 fun e w' => ∃ S' r', e = .panicked (pchain pv) ∧ Hist X w' S' ∧ Inv X w' S' r' (fO ow') ∧ RhoLe X.r0 r'

def CtrE (P : Program) (f : FuncId) (args : List D) (ow : Ow) (out : Sum D Value) (ow' : Ow) : Prop :=
  match out with
  | .inl d => CtrO P f args ow d ow'
  | .inr pv => CtrP P f args ow pv ow'

def PanAt (P : Program) (X : Ctx) (n : Nat) (o : Oper) (F : Nat → D) (O : Nat → Option Own) (ch : List PanicEntry) (wr : List (Nat × Own)) : Prop :=
  ∀ (a : Act) (w : World) (K : Act → World → Prop) (Q : Exit → Act → World → Prop), Rep X n F O a w → (∀ w', Rep X n F (updO O wr) a w' → Q (.panic ch) a w') → OW P o a w K Q

def splitOp : Nat → List Oper → (List Oper → Oper → Prop) → Prop
  | 0, o :: _, K => K [] o
  | k + 1, a :: r, K => splitOp k r fun pre o => K (a :: pre) o
  | _, [], _ => False

theorem zem : ∀ {k : Nat} {ops : List Oper} {K : List Oper → Oper → Prop}, splitOp k ops K → ∃ pre o post, ops = pre ++ o :: post ∧ K pre o
  | 0, o :: r, _, h => ⟨[], o, r, rfl, h⟩
  | k + 1, a :: r, _, h => by
    obtain ⟨pre, o, post, h1, h2⟩ := zem (k := k) (ops := r) h
    exact ⟨a :: pre, o, post, by rw [h1]; rfl, h2⟩
  | 0, [], _, h => h.elim
  | k + 1, [], _, h => h.elim

section
variable {P : Program} {X : Ctx} {n : Nat} {fr : Fr} {ow : Ow} {d : D} {Q : Exit → Fr → Ow → Prop}

theorem zdo {ops : Array Oper} {Q : Exit → Act → World → Prop} (m : Nat) : ∀ {l : List Oper} {k : Nat} {F : Nat → D} {O : Nat → Option Own} {es : List Eff} {F' : Nat → D} {O' : Nat → Option Own},
    Ch P X n ops.toList l F O es F' O' → (∀ j, j < l.length → l[j]? = ops[k + j]?) → (∀ a w, Rep X n F' O' a w → ∀ rd, wpOpsIn (fR rd) 0 P ops Q (List.range' (k + l.length) m) a w) → ∀ a w, Rep X n F O a w → ∀ rd, wpOpsIn (fR rd) 0 P ops Q (List.range' k (l.length + m)) a w
  | _, k, _, _, _, _, _, .nil F O, _, hQ, a, w, hr => fun rd => by simpa using hQ a w hr rd
  | _, k, _, _, _, _, _, .cons o rest F O e es F' O' h t, hl, hQ, a, w, hr => fun rd => by
    have h0 : ops[k]? = some o := by simpa using (hl 0 (by simp)).symm
    rw [List.length_cons, Nat.add_right_comm, List.range'_succ, wpOpsIn_cons]
    refine zcl h0 (h F O (fun _ _ => rfl) (fun _ _ => rfl)) hr (fun a' w' h' => ?_) rd
    refine zdo m t (fun j hj => by have := hl (j + 1) (by simpa using hj); simpa [Nat.add_assoc, Nat.add_comm 1 j] using this) (fun a w hr rd => ?_) a' w' h' rd
    have := hQ a w hr rd
    rwa [List.length_cons, show k + (rest.length + 1) = k + 1 + rest.length by omega] at this

def PanGoal (P : Program) (X : Ctx) (n : Nat) (Q : Exit → Fr → Ow → Prop) (o : Oper) (fr : Fr) (ow : Ow) : Prop :=
  o.guard = none ∧ ∃ ch wr ow2, PanAt P X n o (fF fr) (fO ow) ch wr ∧ fO ow2 = updO (fO ow) wr ∧ Q (.panic ch) fr ow2

theorem T.regionP {id : Nat} {ops : List Oper} (k : Nat) (h : splitOp k ops fun pre o => CT P X n ops pre fr ow [] fun fr1 ow1 _ => PanGoal P X n Q o fr1 ow1) : T P X n (.region id ⟨ops⟩ false) fr ow Q := fun a w hr rd => by
  obtain ⟨pre, o, post, hs, es, fr1, ow1, hc, hg, ch, wr, ow2, hp, hO, hq⟩ := zem h
  refine wpIn_region ?_
  have hlen : (⟨ops⟩ : Array Oper).size = pre.length + (post.length + 1) := by
    show ops.length = _
    rw [hs]
    simp
  rw [List.range_eq_range', hlen]
  refine zdo (post.length + 1) (l := pre) (k := 0) hc (fun j hj => ?_) (fun a1 w1 hr1 rd => ?_) a w hr rd
  · show pre[j]? = ops.toArray[0 + j]?
    rw [Nat.zero_add, List.getElem?_toArray, hs, List.getElem?_append_left hj]
  · rw [Nat.zero_add, List.range'_succ, wpOpsIn_cons]
    have h0 : (⟨ops⟩ : Array Oper)[pre.length]? = some o := by
      show ops.toArray[pre.length]? = _
      rw [List.getElem?_toArray, hs]
      simp
    unfold wpOpIn
    simp only [h0, Region.wanted, hg, if_true]
    refine (hp a1 w1 _ _ hr1 fun w' hr2 => ⟨fr1, ow2, hq, ?_⟩).2 rd
    rw [hO]
    exact hr2

theorem zef {o : Oper} {f : FuncId} {args : List D} {lo lo' : Ow} {ids : List Nat} {pv : Value} (hP : ∀ vs w, (callFunc f vs).run P w = .ok (.enter f vs) w) (hc : callOf fr o.op = some (f, args)) (hk : hasAll (fun k => look k ow) lo)
    (hi1 : lo.map (·.1) = ids) (hi2 : lo'.map (·.1) = ids) (hnd : ids.Nodup)
    (hok : (args.map (lendA ids)).all (D.okIn ids) = true) (hf1 : lo.all (fun x => x.2.okIn ids) = true) (hf2 : lo'.all (fun x => x.2.okIn ids) = true)
    (hC : CtrP P f (args.map (lendA ids)) lo pv lo') :
    ∀ F' O', (∀ x ∈ o.op.operands.toList, evF F' x = evF (fF fr) x) → (∀ j ∈ ids, O' j = fO ow j) → PanAt P X n o F' O' (pchain pv) lo' := by
  intro F' O' he hO a w K' Q' ⟨S, r, hH, hI, hF, hdf, hn, hρ⟩ hK
  obtain ⟨vs, hrun, hsz, hrel⟩ := zbB hP hc he (fun x => zbK hH.glob hF x)
  have hOk : ∀ k o, look k lo = some o → O' k = some o := fun k o h => by
    have hm : k ∈ ids := by rw [← hi1]; exact List.mem_map.2 ⟨(k, o), zbd h, rfl⟩
    exact (hO k hm).trans (zbM hk k o h)
  have hmem : ∀ k, k ∈ ids → ∃ o, look k lo = some o := fun k h => zbm (by rw [hi1]; exact h)
  have hmem' : ∀ k, k ∈ ids → ∃ o, look k lo' = some o := fun k h => zbm (by rw [hi2]; exact h)
  have hin : ∀ k o, look k lo = some o → k ∈ ids ∧ o.okIn ids = true := fun k o h => by
    have h1 := zbd h
    rw [List.all_eq_true] at hf1
    exact ⟨by rw [← hi1]; exact List.mem_map.2 ⟨(k, o), h1, rfl⟩, hf1 _ h1⟩
  have hin' : ∀ k o, look k lo' = some o → k ∈ ids ∧ o.okIn ids = true := fun k o h => by
    have h1 := zbd h
    rw [List.all_eq_true] at hf2
    exact ⟨by rw [← hi2]; exact List.mem_map.2 ⟨(k, o), h1, rfl⟩, hf2 _ h1⟩
  have hblt : ∀ k l b, r k = some l → l.block = some b → b < w.heap.size := fun k l b hl hb => by
    cases ho : O' k with
    | none => rw [hI.dom k ho] at hl; cases hl
    | some o => exact (hI.obj k o ho).blockLt hl hb
  let X' : Ctx := { w0 := w, S0 := S, L := fun b => ∃ k ∈ ids, ∃ l, r k = some l ∧ l.block = some b, r0 := keepR r ids, ids := ids }
  have hH' : Hist X' w S := ⟨rfl, rfl, rfl, Nat.le_refl _, fun _ _ _ => rfl, fun _ _ h => h, fun _ _ _ => rfl, fun _ _ h => .inl h, hH.valid, hH.glob⟩
  have hI' : Inv X' w S X'.r0 (fO lo) := by
    refine ⟨fun k o hk' => ?_, fun k hk' => ?_, fun i j l l' b' hij hl hl' hb' => ?_, fun k l b' hl hb' => ?_⟩
    · obtain ⟨h1, h2⟩ := hin k o hk'
      exact (hI.obj k o (hOk k o hk')).okIn h2 (RhoLe.refl _) (if_pos h1)
    · refine if_neg fun hm => ?_
      obtain ⟨o, ho⟩ := hmem k hm
      rw [show fO lo k = look k lo from rfl, ho] at hk'
      cases hk'
    · have hl : keepR r ids i = some l := hl
      have hl' : keepR r ids j = some l' := hl'
      simp only [keepR] at hl hl'
      split at hl <;> first | (cases hl; done) | skip
      split at hl' <;> first | (cases hl'; done) | skip
      exact hI.apart i j l l' b' hij hl hl' hb'
    · have hl : keepR r ids k = some l := hl
      simp only [keepR] at hl
      split at hl <;> first | (cases hl; done) | skip
      rename_i hm
      exact .inr ⟨k, hm, l, hl, hb'⟩
  have hrel' : ∀ j, j < (args.map (lendA ids)).length → Rel S w X'.r0 ((args.map (lendA ids)).getD j .any) (vs.getD j undef) := by
    intro j hj
    have hj' : j < args.length := by simpa using hj
    have e : (args.map (lendA ids)).getD j .any = lendA ids (args.getD j .any) := by simp [List.getD_eq_getElem?_getD, hj']
    have hokj : (lendA ids (args.getD j .any)).okIn ids = true := by
      rw [← e]
      rw [List.all_eq_true] at hok
      refine hok _ ?_
      simp only [List.getD_eq_getElem?_getD, List.getElem?_eq_getElem hj, Option.getD_some]
      exact List.getElem_mem hj
    rw [e]
    have hr := hrel j hj'
    generalize args.getD j .any = dj at hr hokj
    generalize vs.getD j undef = vj at hr
    refine Rel.okIn (r := r) ?_ hokj
    cases dj with
    | gs k z m g =>
      simp only [lendA]
      split
      · exact hr
      · exact hr.shut
    | _ => exact hr
  refine OW.enter hrun ((hC X' vs hi1.symm hH' hI' (by simpa using hsz) hrel').mono ?_)
  rintro e w' ⟨S', r', rfl, g2, g3, g4⟩
  let r2 : Rho := fun k => if k ∈ ids then r' k else r k
  have hr2 : RhoLe r r2 := fun k l hl => by
    by_cases hm : k ∈ ids
    · obtain ⟨l', h1, h2⟩ := g4 k l (by show keepR r ids k = some l; rw [keepR, if_pos hm]; exact hl)
      exact ⟨l', by show (if k ∈ ids then r' k else r k) = some l'; rw [if_pos hm]; exact h1, h2⟩
    · exact ⟨l, by show (if k ∈ ids then r' k else r k) = some l; rw [if_neg hm]; exact hl, LocLe.refl l⟩
  have hr3 : RhoLe (keepR r' ids) r2 := fun k l hl => by
    simp only [keepR] at hl
    split at hl <;> first | (cases hl; done) | skip
    rename_i hm
    exact ⟨l, by show (if k ∈ ids then r' k else r k) = some l; rw [if_pos hm]; exact hl, LocLe.refl l⟩
  have hXL : ∀ b, X'.L b → X.w0.heap.size ≤ b ∨ X.L b := fun b ⟨k, _, l, hl, hb⟩ => hI.low k l b hl hb
  have hother : ∀ k l b, k ∉ ids → r k = some l → l.block = some b → ¬ X'.L b := fun k l b hm hl hb ⟨k', hm', l', hl', hb'⟩ =>
    hI.apart k k' l l' b (fun e => hm (e ▸ hm')) hl hl' hb hb'
  refine hK w' ⟨S', r2, ?_, ?_, fun t => (hF t).mono g2.sub g2.cell r2 hr2, hdf, hn, hρ.trans hr2⟩
  · refine ⟨g2.os.trans hH.os, g2.tape.trans hH.tape, g2.output.trans hH.output, Nat.le_trans hH.size g2.size, fun k hk' hl => ?_, fun b o hb => g2.sub b o (hH.sub b o hb), fun b o hb => (g2.cell b o (hH.sub b o hb)).trans (hH.cell b o hb), fun b o hb => ?_, g2.valid, g2.glob⟩
    · refine (g2.block k (Nat.lt_of_lt_of_le hk' hH.size) fun hx => ?_).trans (hH.block k hk' hl)
      rcases hXL k hx with h | h
      · omega
      · exact hl h
    · rcases g2.new b o hb with h | h | h
      · exact hH.new b o h
      · exact .inr (.inl (Nat.le_trans hH.size h))
      · rcases hXL b h with h | h
        · exact .inr (.inl h)
        · exact .inr (.inr h)
  · have hnd' : (lo'.map (·.1)).Nodup := by rw [hi2]; exact hnd
    have hup : ∀ k, k ∉ ids → updO O' lo' k = O' k := fun k hm => by
      rw [zbh hnd', zbk (by rw [hi2]; exact hm)]
    refine ⟨fun k o hk' => ?_, fun k hk' => ?_, fun i j l l' b hij hl hl' hb => ?_, fun k l b hl hb => ?_⟩
    · by_cases hm : k ∈ ids
      · obtain ⟨o', ho'⟩ := hmem' k hm
        rw [zbh hnd', ho'] at hk'
        obtain rfl : o' = o := Option.some.inj hk'
        exact (g3.obj k o' ho').okIn (hin' k o' ho').2 hr3 (if_pos hm)
      · rw [hup k hm] at hk'
        refine (hI.obj k o hk').keepL g2.sub g2.cell hr2 (if_neg hm) (fun l b hl hb => g2.block b (hblt k l b hl hb) (hother k l b hm hl hb)) (fun b o hs => ?_)
        rcases g2.new b o hs with h | h | h
        · exact .inl h
        · refine .inr fun l hl hb => ?_
          have := hblt k l b hl hb
          have h : w.heap.size ≤ b := h
          omega
        · exact .inr fun l hl hb => hother k l b hm hl hb h
    · by_cases hm : k ∈ ids
      · obtain ⟨o', ho'⟩ := hmem' k hm
        rw [zbh hnd', ho'] at hk'
        cases hk'
      · rw [hup k hm] at hk'
        exact (if_neg hm).trans (hI.dom k hk')
    · have hl : (if i ∈ ids then r' i else r i) = some l := hl
      have hl' : (if j ∈ ids then r' j else r j) = some l' := hl'
      by_cases h1 : i ∈ ids
      · rw [if_pos h1] at hl
        by_cases h2 : j ∈ ids
        · rw [if_pos h2] at hl'
          exact g3.apart i j l l' b hij hl hl' hb
        · rw [if_neg h2] at hl'
          intro hb'
          rcases g3.low i l b hl hb with h | h
          · have := hblt j l' b hl' hb'
            have h : w.heap.size ≤ b := h
            omega
          · exact hother j l' b h2 hl' hb' h
      · rw [if_neg h1] at hl
        by_cases h2 : j ∈ ids
        · rw [if_pos h2] at hl'
          intro hb'
          rcases g3.low j l' b hl' hb' with h | h
          · have := hblt i l b hl hb
            have h : w.heap.size ≤ b := h
            omega
          · exact hother i l b h1 hl hb h
        · rw [if_neg h2] at hl'
          exact hI.apart i j l l' b hij hl hl' hb
    · have hl : (if k ∈ ids then r' k else r k) = some l := hl
      by_cases h1 : k ∈ ids
      · rw [if_pos h1] at hl
        rcases g3.low k l b hl hb with h | h
        · exact .inl (Nat.le_trans hH.size h)
        · exact hXL b h
      · rw [if_neg h1] at hl
        exact hI.low k l b hl hb

theorem CtrP.of0 {f : FuncId} {args : List D} {ow ow' : Ow} {pv : Value}
    (h : ∀ (X : Ctx) (vs : Array Value), X.dfs = [] → X.ids = ow.map (·.1) → Hist X X.w0 X.S0 → Inv X X.w0 X.S0 X.r0 (fO ow) → vs.size = args.length → (∀ j, j < args.length → Rel X.S0 X.w0 X.r0 (args.getD j .any) (vs.getD j undef)) →
      Calls P f vs X.w0 fun e w' => ∃ S' r', e = .panicked (pchain pv) ∧ Hist X w' S' ∧ Inv X w' S' r' (fO ow') ∧ RhoLe X.r0 r') : CtrP P f args ow pv ow' := fun X vs hids hH hI hn hr =>
  (h { X with dfs := [] } vs rfl hids (hH.re []) (hI.re []) hn hr).mono fun _ _ ⟨S', r', h1, h3, h4, h5⟩ => ⟨S', r', h1, h3.un, h4.un, h5⟩

theorem CtrP.of_T {f : FuncId} {fn : Func} {c : Code} {N : Nat} {args : List D} {pv : Value} {lo lo' : Ow} (hf : P.funcs[f]? = some fn) (hb : fn.body = some c) (hN : fn.ntmps = N) (hlen : args.length ≤ N) (hok : lo'.all (fun x => x.2.okIn (lo'.map (·.1))) = true) (hids : lo'.map (·.1) = lo.map (·.1))
    (h : ∀ X : Ctx, Lent X → X.ids = lo.map (·.1) → T P X N c (slots 0 args) lo (fun e _fr2 ow2 => e = .panic (pchain pv) ∧ leOw ow2 lo')) : CtrP P f args lo pv lo' := by
  refine CtrP.of0 fun X vs hdf0 hid hH hI hsz hrel => ?_
  have hL : Lent X := fun k hk => by
    rw [hid]
    cases hmem : look k lo with
    | none => exact absurd (hI.dom k hmem) hk
    | some o =>
      by_cases hm : k ∈ lo.map (·.1)
      · exact hm
      · rw [zbk hm] at hmem; cases hmem
  refine calls_of_wp hf hb ?_
  have hrep : Rep X N (fF (slots 0 args)) (fO lo) { tmps := vs ++ Array.replicate (fn.ntmps - vs.size) undef, defers := [] } X.w0 := by
    refine ⟨X.S0, X.r0, hH, hI, fun t => ?_, hdf0.symm, by simp; omega, RhoLe.refl _⟩
    show Rel _ _ _ (getD' t (slots 0 args)) _
    rw [zbV]
    simp only [Nat.zero_le, if_true, Nat.sub_zero]
    by_cases ht : t < args.length
    · have := hrel t ht
      rw [Array.getD_eq_getD_getElem?, Array.getElem?_append_left (by omega), ← Array.getD_eq_getD_getElem?]
      exact this
    · rw [List.getD_eq_getElem?_getD, List.getElem?_eq_none (by omega)]
      exact .any ..
  refine wp_mono (h X hL hid _ _ hrep).wide fun e a w ⟨fr2, ow2, ⟨he, hlo⟩, hrep2⟩ => ?_
  obtain ⟨S, r, hH2, hI2, hF2, hd2, _, hρ2⟩ := hrep2
  subst he
  refine ⟨hd2.trans hdf0, S, keepR r (lo'.map (·.1)), rfl, hH2, hI2.keep hlo hok, fun k l hk => ?_⟩
  obtain ⟨l', g1, g2⟩ := hρ2 k l hk
  have : k ∈ lo'.map (·.1) := by
    rw [hids, ← hid]
    exact hL k (by rw [hk]; simp)
  exact ⟨l', by simp only [keepR]; rw [if_pos this]; exact g1, g2⟩
end

section
variable {X : Ctx} {n : Nat} {all rest : List Oper} {fr : Fr} {ow : Ow} {Q : Exit → Fr → Ow → Prop}
variable {t : Nat} {op : Op} {ty : TypeId} {pos : String} {af : Array Edge} {d : D} {f : FuncId} {args : List D} {pv : Value} {dst : Option Tmp}

def Pnc (pv : Value) (Q : Exit → Fr → Ow → Prop) (fr : Fr) (ow : Ow) : Prop := Q (.panic (pchain pv)) fr ow
theorem zdm {K : Fr → Ow → Prop} (h : Pnc pv Q fr ow) : Pnc pv (thenQ K Q) fr ow := h
theorem zcn {id : Nat} (h : Pnc pv Q fr ow) : Pnc pv (blockQ id Q) fr ow := h

theorem zfp (k : Nat) {id : Nat} {ops : List Oper} (h : splitOp k ops fun pre o => CT Tryz.prog X n ops pre fr ow [] fun fr1 ow1 _ => PanGoal Tryz.prog X n Q o fr1 ow1) : T Tryz.prog X n (.region id ⟨ops⟩ false) fr ow Q := T.regionP k h

theorem zij {o1 o1' : Own} (k : Nat) (hc : callOf fr op = some (f, args)) (hP : ∀ vs w, (callFunc f vs).run Tryz.prog w = .ok (.enter f vs) w) (hk : look k ow = some o1)
    (hok : (args.map (lendA [k])).all (D.okIn [k]) = true) (hf1 : o1.okIn [k] = true) (hf2 : o1'.okIn [k] = true)
    (hC : CtrP Tryz.prog f (args.map (lendA [k])) [(k, o1)] pv [(k, o1')]) (h : Pnc pv Q fr ((k, o1') :: ow)) : PanGoal Tryz.prog X n Q ⟨dst, op, ty, pos, af, none⟩ fr ow :=
  ⟨rfl, pchain pv, [(k, o1')], (k, o1') :: ow, zef (o := ⟨dst, op, ty, pos, af, none⟩) (ow := ow) (lo := [(k, o1)]) (lo' := [(k, o1')]) (ids := [k]) hP hc ⟨hk, trivial⟩ rfl rfl (by simp) hok (by simp [hf1]) (by simp [hf2]) hC _ _ (fun x _ => zbn fr x) (fun _ _ => rfl), zaW .., h⟩

theorem zfH (hc : callOf fr op = some (f, args)) (hP : ∀ vs w, (callFunc f vs).run Tryz.prog w = .ok (.enter f vs) w)
    (hok : (args.map (lendA [])).all (D.okIn []) = true) (hC : CtrP Tryz.prog f (args.map (lendA [])) [] pv []) (h : Pnc pv Q fr ow) : PanGoal Tryz.prog X n Q ⟨dst, op, ty, pos, af, none⟩ fr ow :=
  ⟨rfl, pchain pv, [], ow, zef (o := ⟨dst, op, ty, pos, af, none⟩) (ow := ow) (lo := []) (lo' := []) (ids := []) hP hc trivial rfl rfl (by simp) hok rfl rfl hC _ _ (fun x _ => zbn fr x) (fun _ h => by cases h), rfl, h⟩

def EndsE (rs : List ResultVar) (out : Sum D Value) (lo : Ow) (e : Exit) (fr : Fr) (ow : Ow) : Prop :=
  match out with
  | .inl d => EndsM rs d lo e fr ow
  | .inr pv => e = .panic (pchain pv) ∧ leOw ow lo

theorem r_methE {fn : Func} {c : Code} {N : Nat} {rs : List ResultVar} {lo lo' : Ow} {ids : List Nat} {out : Sum D Value} (hf : Tryz.prog.funcs[f]? = some fn) (hb : fn.body = some c) (hN : fn.ntmps = N) (hrs : fn.results = ⟨rs⟩) (hlen : Nat.ble args.length N = true)
    (hi1 : lo.map (·.1) = ids) (hi2 : lo'.map (·.1) = ids) (hd : ∀ d, out = .inl d → d.okIn ids = true) (hcs : lo'.all (fun x => x.2.okIn ids) = true)
    (h : ∀ X : Ctx, Lent X → X.ids = ids → T Tryz.prog X N c (slots 0 args) lo (EndsE rs out lo')) : CtrE Tryz.prog f args lo out lo' := by
  cases out with
  | inl d => exact zbi hf hb hN hrs hlen hi1 hi2 (hd d rfl) hcs h
  | inr pv => exact CtrP.of_T hf hb hN (by simpa using hlen) (by rw [hi2]; exact hcs) (hi2.trans hi1.symm) fun X hL hX => h X hL (hX.trans hi1)
end

attribute [irreducible] Pnc
end Go.Proofs.YtcajofhafpkbdaaGreatDoor.Flow
