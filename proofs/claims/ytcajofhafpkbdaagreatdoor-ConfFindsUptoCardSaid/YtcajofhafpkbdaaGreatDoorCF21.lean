/- The texts FlowPe, FlowPf, FlowRo, FlowRp, FlowRq, FlowXb, FlowRr, one behind the other. -/
import Derived.Test.YtcajofhafpkbdaaGreatDoorCF18
import Derived.Test.YtcajofhafpkbdaaGreatDoorCF19
import Derived.Test.YtcajofhafpkbdaaGreatDoorCF20
import Derived.RangeFuncRecord
import Derived.RangeFuncIn
import Derived.RangeFuncLeaves
import Derived.RangeFuncSeq
namespace Go.Proofs.YtcajofhafpkbdaaGreatDoor.Flow

section
variable {P : Program} {X : Ctx} {n : Nat} {o : Oper} {fr : Fr} {ow : Ow} {T xT : TypeId} {x : Operand} {k1 k2 : IntKind} {a b : Int} {fs : Array Field} {zd : D}

theorem zho (hT : P.underlying T = some (.struct fs)) (ho : o.op = .typeAssert x xT T true) (hx : ev fr x = .v (.iface T (.agg #[.int k1 a, .int k2 b]))) (hd : dstOk o.dst n) :
    ∀ F' O', (∀ y ∈ o.op.operands.toList, evF F' y = evF (fF fr) y) → (∀ j ∈ ([] : List Nat), O' j = fO ow j) → StepAt P X n o F' O' (.tu [.ag [.i k1 a, .i k2 b], .b true]) [] := by
  intro F' O' he _
  refine zaS hd fun ac w S r hH hI hr => ?_
  have hx' := hr x
  rw [he x (by simp [ho, Op.operands]), zbn, hx] at hx'
  refine ⟨.tuple #[.agg #[.int k1 a, .int k2 b], .bool true], w, S, r, .inl ?_, .tu _ _ _ rfl fun j hj => ?_, hH, hI, fun _ _ h => h, fun _ _ _ => rfl, RhoLe.refl r⟩
  · generalize hv : ac.eval x = v at hx'
    cases hx'
    simp [execOp, ho, hv, Instr.typeAssert, run_underlying hT, Result.andThen]
  · match j, hj with
    | 0, _ => exact .ag _ _ _ rfl fun j hj => match j, hj with
      | 0, _ => .i ..
      | 1, _ => .i ..
    | 1, _ => exact .b ..

theorem zgM (hT : P.underlying T = some (.struct fs)) (hz : zeroD P T = some zd) (ho : o.op = .typeAssert x xT T true) (hx : ev fr x = .v .nilIface) (hd : dstOk o.dst n) :
    ∀ F' O', (∀ y ∈ o.op.operands.toList, evF F' y = evF (fF fr) y) → (∀ j ∈ ([] : List Nat), O' j = fO ow j) → StepAt P X n o F' O' (.tu [zd, .b false]) [] := by
  intro F' O' he _
  refine zaS hd fun ac w S r hH hI hr => ?_
  have hx' := hr x
  rw [he x (by simp [ho, Op.operands]), zbn, hx] at hx'
  obtain ⟨i, zv, q1, q2, q3⟩ := zbs hz
  refine ⟨.tuple #[zv, .bool false], w, S, r, .inl ?_, .tu _ _ _ rfl fun j hj => ?_, hH, hI, fun _ _ h => h, fun _ _ _ => rfl, RhoLe.refl r⟩
  · generalize hv : ac.eval x = v at hx'
    cases hx'
    simp [execOp, ho, hv, Instr.typeAssert, run_underlying hT, Result.andThen, zeroValue, typeInfo, q1, q2]
  · match j, hj with
    | 0, _ =>
      have := zby S w r zv
      rw [← q3] at this
      exact this
    | 1, _ => exact .b ..
end

section
variable {X : Ctx} {n : Nat} {all rest : List Oper} {fr : Fr} {ow : Ow} {tr : List (List Nat × List Nat)} {K : Fr → Ow → List (List Nat × List Nat) → Prop}
variable {t : Nat} {ty T xT : TypeId} {ps : String} {af : Array Edge} {x : Operand} {k1 k2 : IntKind} {a b : Int} {fs : Array Field} {zd : D}
set_option maxRecDepth 100000 in
theorem zpW (hT : Tryz.prog.underlying T = some (.struct fs)) (hx : ev fr x = .v (.iface T (.agg #[.int k1 a, .int k2 b]))) (hn : Nat.blt t n = true)
    (h : CT Tryz.prog X n all rest ((t, .tu [.ag [.i k1 a, .i k2 b], .b true]) :: fr) ow (tr ++ [([], [])]) K) : CT Tryz.prog X n all (⟨some t, .typeAssert x xT T true, ty, ps, af, none⟩ :: rest) fr ow tr K :=
  CT.cons (e := ⟨.tu [.ag [.i k1 a, .i k2 b], .b true], [], []⟩) (.plain rfl (zho (P := Tryz.prog) (X := X) (o := ⟨some t, .typeAssert x xT T true, ty, ps, af, none⟩) hT rfl hx (show t < n from Nat.le_of_ble_eq_true hn))) (zaX ..) rfl h
set_option maxRecDepth 100000 in
theorem zpv (hT : Tryz.prog.underlying T = some (.struct fs)) (hz : B.zr T = some zd) (hx : ev fr x = .v .nilIface) (hn : Nat.blt t n = true)
    (h : CT Tryz.prog X n all rest ((t, .tu [zd, .b false]) :: fr) ow (tr ++ [([], [])]) K) : CT Tryz.prog X n all (⟨some t, .typeAssert x xT T true, ty, ps, af, none⟩ :: rest) fr ow tr K := by
  have hz' : zeroD Tryz.prog T = some zd := by
    have : (tb Tryz.prog).zr T = some zd := by rw [zch]; exact hz
    exact this
  exact CT.cons (e := ⟨.tu [zd, .b false], [], []⟩) (.plain rfl (zgM (P := Tryz.prog) (X := X) (o := ⟨some t, .typeAssert x xT T true, ty, ps, af, none⟩) hT hz' rfl hx (show t < n from Nat.le_of_ble_eq_true hn))) (zaX ..) rfl h
end

section
variable {X : Ctx} {n : Nat} {fr : Fr} {ow : Ow} {Q : Exit → Fr → Ow → Prop} {R : Exit → Act → World → Prop}
theorem td_seq {x y : Code} (h : T Tryz.prog X n x fr ow (thenQ (fun fr ow => TD Tryz.prog X n y fr ow R) (fun e fr ow => ∀ a w, Rep X n (fF fr) (fO ow) a w → R e a w))) : TD Tryz.prog X n (.seq x y) fr ow R := TD.seq h
end

end Go.Proofs.YtcajofhafpkbdaaGreatDoor.Flow

namespace Go.Proofs.YtcajofhafpkbdaaGreatDoor.Flow

section
variable {X : Ctx} {n : Nat} {fr : Fr} {ow : Ow}
def Fin (X : Ctx) (d : D) (e : Ending) (w' : World) : Prop := ∃ v S', e = .returned v ∧ Rel S' w' noRho d v ∧ Hist X w' S'
def Raw (X : Ctx) (n : Nat) (R : Exit → Act → World → Prop) (e : Exit) (fr : Fr) (ow : Ow) : Prop := ∀ a w, Rep X n (fF fr) (fO ow) a w → R e a w
theorem n_raw {R : Exit → Act → World → Prop} (h : Stay (∀ a w, Rep X n (fF fr) (fO ow) a w → R .normal a w)) : Nrm (Raw X n R) fr ow := by
  unfold Nrm
  exact h.out
theorem x_raw {R : Exit → Act → World → Prop} (h : Stay (∀ a w, Rep X n (fF fr) (fO ow) a w → R .ret a w)) : Rtn (Raw X n R) fr ow := by
  unfold Rtn
  exact h.out
theorem p_raw {pv : Value} {R : Exit → Act → World → Prop} (h : Stay (∀ a w, Rep X n (fF fr) (fO ow) a w → R (.panic (pchain pv)) a w)) : Pnc pv (Raw X n R) fr ow := by
  unfold Pnc
  exact h.out
theorem td_seq2 {x y : Code} {R : Exit → Act → World → Prop} (h : T Tryz.prog X n x fr ow (thenQ (fun fr ow => TD Tryz.prog X n y fr ow R) (Raw X n R))) : TD Tryz.prog X n (.seq x y) fr ow R := TD.seq h
theorem td_last {c : Code} {R : Exit → Act → World → Prop} (h : T Tryz.prog X n c fr ow (Raw X n R)) : TD Tryz.prog X n c fr ow R := TD.last h
theorem td_defer {id t : Nat} {f : FuncId} (ks : List Nat) {xs : List Operand} {ty1 ty2 : TypeId} {p1 p2 : String} {af1 af2 : Array Edge} {rest : Code} {R : Exit → Act → World → Prop}
    (hdf : X.dfs = []) (hr0 : X.r0 = noRho) (ht : Nat.blt t n = true) (hxs : xs.map (ev fr) = ks.map fun k => D.pv k 0)
    (h : ∀ X1 vs, Put X X1 f ks vs → TD Tryz.prog X1 n rest ((t, .fn f (ks.map fun k => .pv k 0)) :: fr) ow R) :
    TD Tryz.prog X n (.seq (.region id ⟨[⟨some t, .makeFunc (.func f) #[] ⟨xs⟩, ty1, p1, af1, none⟩, ⟨none, .defer ⟨.value (.tmp t), #[], #[]⟩, ty2, p2, af2, none⟩]⟩ false) rest) fr ow R :=
  TD.defer hdf hr0 (Nat.le_of_ble_eq_true ht) hxs h

theorem zpi {id : Nat} {t : Nat} {ty : TypeId} {pos : String} {af : Array Edge} {rest : List Oper} {y : Code} {cs : List Frame} (cs' : List Frame) (v : Value) {R : Exit → Act → List Frame → World → Prop}
    (hn : Nat.blt t n = true) (hc : match recoverD cs with | some (v', cs2) => v' = v ∧ cs2 = cs' | none => v = .nilIface ∧ cs' = cs) (hg : rest.all (fun o => o.guard.isNone) = true)
    (h : CT Tryz.prog X n (⟨some t, .call ⟨.builtin .recover, #[], #[]⟩, ty, pos, af, none⟩ :: rest) rest ((t, .v v) :: fr) ow [] fun fr ow _ => TD Tryz.prog X n y fr ow fun e a w => R e a cs' w) :
    TS Tryz.prog X n (.seq (.region id ⟨⟨some t, .call ⟨.builtin .recover, #[], #[]⟩, ty, pos, af, none⟩ :: rest⟩ false) y) fr ow cs R := by
  refine TS.seq (TS.recover (v := v) (cs' := cs') (Nat.le_of_ble_eq_true hn) hc hg ?_)
  obtain ⟨es, fr', ow', hch, hK⟩ := h
  exact ⟨es, fr', ow', hch, fun a w hr => wpS_of_wp (hK.out a w hr)⟩
end

end Go.Proofs.YtcajofhafpkbdaaGreatDoor.Flow

namespace Go.Proofs.YtcajofhafpkbdaaGreatDoor.Flow
open Go

section
variable {P : Program} {X : Ctx} {n : Nat} {fr : Fr} {ow : Ow} {d : D}

theorem zhB {w : World} {S : Cells} {r : Rho} {O' : Nat → Option Own} {args : List D} {vs : Array Value} {lo lo' : Ow} {ids : List Nat} (hH : Hist X w S) (hI : Inv X w S r O') (hOk : ∀ k o, look k lo = some o → O' k = some o)
    (hi1 : lo.map (·.1) = ids) (hi2 : lo'.map (·.1) = ids) (hnd : ids.Nodup)
    (hok : (args.map (lendA ids)).all (D.okIn ids) = true) (hf1 : lo.all (fun x => x.2.okIn ids) = true) (hf2 : lo'.all (fun x => x.2.okIn ids) = true) (hf3 : d.okIn ids = true)
    (hrel : ∀ j, j < args.length → Rel S w r (args.getD j .any) (vs.getD j undef))
    {Run : (Ending → World → Prop) → Prop} (hmono : ∀ R R' : Ending → World → Prop, (∀ e w, R e w → R' e w) → Run R → Run R')
    (hC : ∀ L : Nat → Prop, Hist ⟨w, S, L, keepR r ids, ids, []⟩ w S → Inv ⟨w, S, L, keepR r ids, ids, []⟩ w S (keepR r ids) (fO lo) →
      (∀ j, j < (args.map (lendA ids)).length → Rel S w (keepR r ids) ((args.map (lendA ids)).getD j .any) (vs.getD j undef)) →
      Run fun e w' => ∃ v S' r', e = .returned v ∧ Rel S' w' r' d v ∧ Hist ⟨w, S, L, keepR r ids, ids, []⟩ w' S' ∧ Inv ⟨w, S, L, keepR r ids, ids, []⟩ w' S' r' (fO lo') ∧ RhoLe (keepR r ids) r') :
    Run fun e w' => ∃ v S' r2, e = .returned v ∧ Rel S' w' r2 d v ∧ Hist X w' S' ∧ Inv X w' S' r2 (updO O' lo') ∧ (∀ b o, S b o → S' b o) ∧ (∀ b o, S b o → w'.cell? ⟨b, o, none⟩ = w.cell? ⟨b, o, none⟩) ∧ RhoLe r r2 := by
  have hmem : ∀ k, k ∈ ids → ∃ o, look k lo = some o := fun k h => zbm (by rw [hi1]; exact h)
  have hmem' : ∀ k, k ∈ ids → ∃ o, look k lo' = some o := fun k h => zbm (by rw [hi2]; exact h)
  have hin : ∀ k o, look k lo = some o → k ∈ ids ∧ o.okIn ids = true := fun k o h => by
    have h1 := zbd h
    rw [List.all_eq_true] at hf1
    exact ⟨by rw [← hi1]; exact List.mem_map.2 ⟨(k, o), h1, rfl⟩, hf1 _ h1⟩
  have hin' : ∀ k o, look k lo' = some o → k ∈ ids ∧ o.okIn ids = true := fun k o h => by
    have h1 := zbd h
    rw [List.all_eq_true] at hf2
    exact ⟨by rw [← hi2]; exact List.mem_map.2 ⟨(k, o), h1, rfl⟩, hf2 _ h1⟩
  have hblt : ∀ k l b, r k = some l → l.block = some b → b < w.heap.size := fun k l b hl hb => by
    cases ho : O' k with
    | none => rw [hI.dom k ho] at hl; cases hl
    | some o => exact (hI.obj k o ho).blockLt hl hb
  let X' : Ctx := ⟨w, S, fun b => ∃ k ∈ ids, ∃ l, r k = some l ∧ l.block = some b, keepR r ids, ids, []⟩
  have hH' : Hist X' w S := ⟨rfl, rfl, rfl, Nat.le_refl _, fun _ _ _ => rfl, fun _ _ h => h, fun _ _ _ => rfl, fun _ _ h => .inl h, hH.valid, hH.glob⟩
  have hI' : Inv X' w S X'.r0 (fO lo) := by
    refine ⟨fun k o hk' => ?_, fun k hk' => ?_, fun i j l l' b' hij hl hl' hb' => ?_, fun k l b' hl hb' => ?_⟩
    · obtain ⟨h1, h2⟩ := hin k o hk'
      exact (hI.obj k o (hOk k o hk')).okIn h2 (RhoLe.refl _) (if_pos h1)
    · refine if_neg fun hm => ?_
      obtain ⟨o, ho⟩ := hmem k hm
      rw [show fO lo k = look k lo from rfl, ho] at hk'
      cases hk'
    · have hl : keepR r ids i = some l := hl
      have hl' : keepR r ids j = some l' := hl'
      simp only [keepR] at hl hl'
      split at hl <;> first | (cases hl; done) | skip
      split at hl' <;> first | (cases hl'; done) | skip
      exact hI.apart i j l l' b' hij hl hl' hb'
    · have hl : keepR r ids k = some l := hl
      simp only [keepR] at hl
      split at hl <;> first | (cases hl; done) | skip
      rename_i hm
      exact .inr ⟨k, hm, l, hl, hb'⟩
  have hrel' : ∀ j, j < (args.map (lendA ids)).length → Rel S w X'.r0 ((args.map (lendA ids)).getD j .any) (vs.getD j undef) := by
    intro j hj
    have hj' : j < args.length := by simpa using hj
    have e : (args.map (lendA ids)).getD j .any = lendA ids (args.getD j .any) := by simp [List.getD_eq_getElem?_getD, hj']
    have hokj : (lendA ids (args.getD j .any)).okIn ids = true := by
      rw [← e]
      rw [List.all_eq_true] at hok
      refine hok _ ?_
      simp only [List.getD_eq_getElem?_getD, List.getElem?_eq_getElem hj, Option.getD_some]
      exact List.getElem_mem hj
    rw [e]
    have hr := hrel j hj'
    generalize args.getD j .any = dj at hr hokj
    generalize vs.getD j undef = vj at hr
    refine Rel.okIn (r := r) ?_ hokj
    cases dj with
    | gs k z m g =>
      simp only [lendA]
      split
      · exact hr
      · exact hr.shut
    | _ => exact hr
  refine hmono _ _ ?_ (hC X'.L hH' hI' hrel')
  rintro e w' ⟨v, S', r', rfl, g1, g2, g3, g4⟩
  let r2 : Rho := fun k => if k ∈ ids then r' k else r k
  have hr2 : RhoLe r r2 := fun k l hl => by
    by_cases hm : k ∈ ids
    · obtain ⟨l', h1, h2⟩ := g4 k l (by show keepR r ids k = some l; rw [keepR, if_pos hm]; exact hl)
      exact ⟨l', by show (if k ∈ ids then r' k else r k) = some l'; rw [if_pos hm]; exact h1, h2⟩
    · exact ⟨l, by show (if k ∈ ids then r' k else r k) = some l; rw [if_neg hm]; exact hl, LocLe.refl l⟩
  have hr3 : RhoLe (keepR r' ids) r2 := fun k l hl => by
    simp only [keepR] at hl
    split at hl <;> first | (cases hl; done) | skip
    rename_i hm
    exact ⟨l, by show (if k ∈ ids then r' k else r k) = some l; rw [if_pos hm]; exact hl, LocLe.refl l⟩
  have hXL : ∀ b, X'.L b → X.w0.heap.size ≤ b ∨ X.L b := fun b ⟨k, _, l, hl, hb⟩ => hI.low k l b hl hb
  have hother : ∀ k l b, k ∉ ids → r k = some l → l.block = some b → ¬ X'.L b := fun k l b hm hl hb ⟨k', hm', l', hl', hb'⟩ =>
    hI.apart k k' l l' b (fun e => hm (e ▸ hm')) hl hl' hb hb'
  refine ⟨v, S', r2, rfl, (g1.okIn hf3).mono (fun _ _ h => h) (fun _ _ _ => rfl) r2 hr3, ?_, ?_, g2.sub, g2.cell, hr2⟩
  · refine ⟨g2.os.trans hH.os, g2.tape.trans hH.tape, g2.output.trans hH.output, Nat.le_trans hH.size g2.size, fun k hk' hl => ?_, fun b o hb => g2.sub b o (hH.sub b o hb), fun b o hb => (g2.cell b o (hH.sub b o hb)).trans (hH.cell b o hb), fun b o hb => ?_, g2.valid, g2.glob⟩
    · refine (g2.block k (Nat.lt_of_lt_of_le hk' hH.size) fun hx => ?_).trans (hH.block k hk' hl)
      rcases hXL k hx with h | h
      · omega
      · exact hl h
    · rcases g2.new b o hb with h | h | h
      · exact hH.new b o h
      · exact .inr (.inl (Nat.le_trans hH.size h))
      · rcases hXL b h with h | h
        · exact .inr (.inl h)
        · exact .inr (.inr h)
  · have hnd' : (lo'.map (·.1)).Nodup := by rw [hi2]; exact hnd
    have hup : ∀ k, k ∉ ids → updO O' lo' k = O' k := fun k hm => by
      rw [zbh hnd', zbk (by rw [hi2]; exact hm)]
    refine ⟨fun k o hk' => ?_, fun k hk' => ?_, fun i j l l' b hij hl hl' hb => ?_, fun k l b hl hb => ?_⟩
    · by_cases hm : k ∈ ids
      · obtain ⟨o', ho'⟩ := hmem' k hm
        rw [zbh hnd', ho'] at hk'
        obtain rfl : o' = o := Option.some.inj hk'
        exact (g3.obj k o' ho').okIn (hin' k o' ho').2 hr3 (if_pos hm)
      · rw [hup k hm] at hk'
        refine (hI.obj k o hk').keepL g2.sub g2.cell hr2 (if_neg hm) (fun l b hl hb => g2.block b (hblt k l b hl hb) (hother k l b hm hl hb)) (fun b o hs => ?_)
        rcases g2.new b o hs with h | h | h
        · exact .inl h
        · refine .inr fun l hl hb => ?_
          have := hblt k l b hl hb
          have h : w.heap.size ≤ b := h
          omega
        · exact .inr fun l hl hb => hother k l b hm hl hb h
    · by_cases hm : k ∈ ids
      · obtain ⟨o', ho'⟩ := hmem' k hm
        rw [zbh hnd', ho'] at hk'
        cases hk'
      · rw [hup k hm] at hk'
        exact (if_neg hm).trans (hI.dom k hk')
    · have hl : (if i ∈ ids then r' i else r i) = some l := hl
      have hl' : (if j ∈ ids then r' j else r j) = some l' := hl'
      by_cases h1 : i ∈ ids
      · rw [if_pos h1] at hl
        by_cases h2 : j ∈ ids
        · rw [if_pos h2] at hl'
          exact g3.apart i j l l' b hij hl hl' hb
        · rw [if_neg h2] at hl'
          intro hb'
          rcases g3.low i l b hl hb with h | h
          · have := hblt j l' b hl' hb'
            have h : w.heap.size ≤ b := h
            omega
          · exact hother j l' b h2 hl' hb' h
      · rw [if_neg h1] at hl
        by_cases h2 : j ∈ ids
        · rw [if_pos h2] at hl'
          intro hb'
          rcases g3.low j l' b hl' hb' with h | h
          · have := hblt i l b hl hb
            have h : w.heap.size ≤ b := h
            omega
          · exact hother i l b h1 hl hb h
        · rw [if_neg h2] at hl'
          exact hI.apart i j l l' b hij hl hl' hb
    · have hl : (if k ∈ ids then r' k else r k) = some l := hl
      by_cases h1 : k ∈ ids
      · rw [if_pos h1] at hl
        rcases g3.low k l b hl hb with h | h
        · exact .inl (Nat.le_trans hH.size h)
        · exact hXL b h
      · rw [if_neg h1] at hl
        exact hI.low k l b hl hb

structure Stab (Hx : Cells → World → Rho → Prop) (ids : List Nat) : Prop where
  mono : ∀ {S S' : Cells} {w w' : World} {r r' : Rho}, Hx S w r → (∀ b o, S b o → S' b o) → (∀ b o, S b o → w'.cell? ⟨b, o, none⟩ = w.cell? ⟨b, o, none⟩) → RhoLe r r' → Hx S' w' r'
  keep : ∀ {S : Cells} {w : World} {r : Rho}, Hx S w r → Hx S w (keepR r ids)

def CtrH (P : Program) (f : FuncId) (Hx : Cells → World → Rho → Prop) (args : List D) (ow : Ow) (d : D) (ow' : Ow) : Prop :=
  ∀ (X : Ctx) (vs : Array Value), X.dfs = [] → X.ids = ow.map (·.1) → Hx X.S0 X.w0 X.r0 → Hist X X.w0 X.S0 → Inv X X.w0 X.S0 X.r0 (fO ow) → vs.size = args.length → (∀ j, j < args.length → Rel X.S0 X.w0 X.r0 (args.getD j .any) (vs.getD j undef)) →
    Calls P f vs X.w0 fun e w' => ∃ v S' r', e = .returned v ∧ Rel S' w' r' d v ∧ Hist X w' S' ∧ Inv X w' S' r' (fO ow') ∧ RhoLe X.r0 r'

def YC (P : Program) (l : Nat) (Hx : Cells → World → Rho → Prop) (args : List D) (ow : Ow) (out : Bool) (ow' : Ow) : Prop :=
  ∀ (X : Ctx) (vs : Array Value), X.dfs = [] → X.ids = ow.map (·.1) → Hx X.S0 X.w0 X.r0 → Hist X X.w0 X.S0 → Inv X X.w0 X.S0 X.r0 (fO ow) → vs.size = args.length → (∀ j, j < args.length → Rel X.S0 X.w0 X.r0 (args.getD j .any) (vs.getD j undef)) →
    YieldAt Fence.wide 0 P l vs X.w0 fun e w' => ∃ v S' r', e = .returned v ∧ Rel S' w' r' (.b out) v ∧ Hist X w' S' ∧ Inv X w' S' r' (fO ow') ∧ RhoLe X.r0 r'

theorem zgN {F : Fence} {m : Nat} {l : Nat} {vs : Array Value} {W : World} {R R' : Ending → World → Prop} (h : YieldAt F m P l vs W R) (hr : ∀ e w, R e w → R' e w) : YieldAt F m P l vs W R' :=
  let ⟨fn, tmps, assign, body, h1, h2⟩ := h
  ⟨fn, tmps, assign, body, h1, h2.mono hr⟩

def yieldOf (fr : Fr) : Op → Option (Nat × List D)
  | .call { callee := .value g, args := ⟨xs⟩, .. } => match ev fr g with
    | .v (.func (.yield l) ⟨[]⟩ ⟨[]⟩) => fzA (evs fr xs) fun a => some (l, a)
    | _ => none
  | _ => none

theorem zhY {o : Oper} {l : Nat} {args : List D} (hc : yieldOf fr o.op = some (l, args)) {S : Cells} {w : World} {r : Rho} {a : Act} (hr : ∀ x, Rel S w r (ev fr x) (a.eval x)) :
    ∃ vs : Array Value, (∀ y, (Instr.yield l vs).run P w = .ok y w → (execOp a.eval o).run P w = .ok y w) ∧ (∀ c, o.op ≠ .defer c) ∧ vs.size = args.length ∧ ∀ j, j < args.length → Rel S w r (args.getD j .any) (vs.getD j undef) := by
  unfold yieldOf at hc
  split at hc <;> first | (cases hc; done) | skip
  rename_i gg xs ts ho
  split at hc <;> first | (cases hc; done) | skip
  rename_i l' hg
  rw [zcr] at hc
  cases hc
  have h1 := hr gg
  rw [hg] at h1
  generalize hgv : a.eval gg = gv at h1
  cases h1 with
  | v =>
    refine ⟨(xs.map a.eval).toArray, fun y hy => ?_, fun c e => (by rw [ho] at e; cases e), by simp [zcU], fun j hj => zie (fun x _ => hr x) j (by rw [zcU] at hj; exact hj)⟩
    simp only [execOp, ho, Sem.run_bind, resolve, hgv, Deferred.ofValue, Sem.run_pure, Result.andThen_ok, invoke]
    simpa using hy

def YGoal (P : Program) (X : Ctx) (n : Nat) (Hx : Cells → World → Rho → Prop) (ops : List Oper) (Q : Exit → Fr → Ow → Prop) (o : Oper) (post : List Oper) (fr : Fr) (ow : Ow) : Prop :=
  o.guard = none ∧ ∃ t l args out lo lo' ids, o.dst = some t ∧ t < n ∧ yieldOf fr o.op = some (l, args) ∧ hasAll (fun k => look k ow) lo ∧ lo.map (·.1) = ids ∧ lo'.map (·.1) = ids ∧ ids.Nodup ∧ Stab Hx ids ∧
    (args.map (lendA ids)).all (D.okIn ids) = true ∧ lo.all (fun x => x.2.okIn ids) = true ∧ lo'.all (fun x => x.2.okIn ids) = true ∧ YC P l Hx (args.map (lendA ids)) lo out lo' ∧
    CT P X n ops post ((t, .b out) :: fr) (lo' ++ ow) [] fun fr ow _ => Q .normal fr ow

theorem T.regionY {Hx : Cells → World → Rho → Prop} {ids0 : List Nat} {id : Nat} {ops : List Oper} {Q : Exit → Fr → Ow → Prop} (hx : Hx X.S0 X.w0 X.r0) (hst : Stab Hx ids0) (k : Nat)
    (h : splitOp3 k ops fun pre o post => CT P X n ops pre fr ow [] fun fr1 ow1 _ => YGoal P X n Hx ops Q o post fr1 ow1) : T P X n (.region id ⟨ops⟩ false) fr ow Q := fun a w hr rd => by
  obtain ⟨pre, o, post, hs, _, es, fr1, ow1, hc, hg, t, l, args, out, lo, lo', ids, hd, ht, hy, hk, hi1, hi2, hnd, hst2, hok, hf1, hf2, hC, es2, fr2, ow2, hc2, hq⟩ := zcz h
  refine wpIn_region ?_
  have hlen : (⟨ops⟩ : Array Oper).size = pre.length + (post.length + 1) := by
    show ops.length = _
    rw [hs]
    simp
  rw [List.range_eq_range', hlen]
  refine zdo (post.length + 1) (l := pre) (k := 0) hc (fun j hj => ?_) (fun a1 w1 hr1 rd => ?_) a w hr rd
  · show pre[j]? = ops.toArray[0 + j]?
    rw [Nat.zero_add, List.getElem?_toArray, hs, List.getElem?_append_left hj]
  · rw [Nat.zero_add, List.range'_succ, wpOpsIn_cons]
    have h0 : (⟨ops⟩ : Array Oper)[pre.length]? = some o := by
      show ops.toArray[pre.length]? = _
      rw [List.getElem?_toArray, hs]
      simp
    unfold wpOpIn
    simp only [h0, Region.wanted, hg, if_true]
    obtain ⟨S, r, hH, hI, hF, hdf, hn, hρ⟩ := hr1
    have hev : ∀ x, Rel S w1 r (ev fr1 x) (a1.eval x) := fun x => by
      have := zbK hH.glob hF x
      rwa [zbn] at this
    obtain ⟨vs, hrun, hnd2, hsz, hrel⟩ := zhY (P := P) hy hev
    have hx1 : Hx S w1 r := hst.mono hx hH.sub hH.cell hρ
    have core := zhB (d := .b out) (O' := fO ow1) hH hI (fun k o h => zbM hk k o h) hi1 hi2 hnd hok hf1 hf2 rfl hrel (Run := YieldAt Fence.wide 0 P l vs w1) (fun R R' hm hR => zgN hR hm)
      (fun L q1 q2 q3 => hC ⟨w1, S, L, keepR r ids, ids, []⟩ vs rfl hi1.symm (hst2.keep hx1) q1 q2 (by simpa using hsz) q3)
    obtain ⟨fn, tmps, assign, body, hyr, hround⟩ := core
    refine ⟨fun _ _ => trivial, ?_⟩
    rw [Oper.semAt_eq rd a1.eval o hnd2, hrun _ hyr]
    refine ⟨fun e => (by cases e), hround.mono ?_⟩
    rintro e w' ⟨v, S', r2, rfl, g1, g2, g3, g4, g5, g6⟩
    have hrep : Rep X n (fF ((t, .b out) :: fr1)) (fO (lo' ++ ow1)) (a1.put o.dst v) w' := by
      rw [hd, zaX, zlk (by rw [hi2]; exact hnd)]
      have htn : t < a1.tmps.size := hn.symm ▸ ht
      exact ⟨S', r2, g2, g3, zbW (dst := some t) (fun t => (hF t).mono g4 g5 r2 g6) htn g1, by rw [zbo]; exact hdf, by rw [zbF]; exact hn, hρ.trans g6⟩
    refine zdw (ops := ⟨ops⟩) (k := pre.length + 1) hc2 (fun j => ?_) (fun a' w' h' => ⟨fr2, ow2, hq, h'⟩) _ _ hrep rd
    · show post[j]? = ops.toArray[pre.length + 1 + j]?
      rw [List.getElem?_toArray, hs, List.getElem?_append_right (by omega), show pre.length + 1 + j - pre.length = j + 1 by omega, List.getElem?_cons_succ]
end

section
variable {P : Program} {X : Ctx} {n : Nat} {fr : Fr} {ow ow' : Ow} {d : D}

theorem CtrH.of_TU {Hx : Cells → World → Rho → Prop} {f : FuncId} {fn : Func} {c : Code} {N : Nat} {rs : List ResultVar} {args : List D} {d : D} (hf : P.funcs[f]? = some fn) (hb : fn.body = some c) (hN : fn.ntmps = N) (hrs : fn.results = ⟨rs⟩) (hlen : args.length ≤ N)
    (h : ∀ X : Ctx, Lent X → X.ids = ow.map (·.1) → X.dfs = [] → Hx X.S0 X.w0 X.r0 → T P X N c (slots 0 args) ow (fun e fr2 ow2 => (e = .ret ∨ e = .normal) ∧ ∃ d2, resU (tb P) fr2 ow2 rs = some d2 ∧ Weak d2 d ∧ d.okIn (ow'.map (·.1)) = true ∧ Le X fr2 ow2 [] ow')) :
    CtrH P f Hx args ow d ow' := by
  intro X vs hdf0 hids hx hH hI hsz hrel
  have hL : Lent X := fun k hk => by
    rw [hids]
    cases hmem : look k ow with
    | none => exact absurd (hI.dom k hmem) hk
    | some o =>
      by_cases hm : k ∈ ow.map (·.1)
      · exact hm
      · rw [zbk hm] at hmem; cases hmem
  refine calls_of_wp hf hb ?_
  have hrep : Rep X N (fF (slots 0 args)) (fO ow) { tmps := vs ++ Array.replicate (fn.ntmps - vs.size) undef, defers := [] } X.w0 := by
    refine ⟨X.S0, X.r0, hH, hI, fun t => ?_, hdf0.symm, by simp; omega, RhoLe.refl _⟩
    show Rel _ _ _ (getD' t (slots 0 args)) _
    rw [zbV]
    simp only [Nat.zero_le, if_true, Nat.sub_zero]
    by_cases ht : t < args.length
    · have := hrel t ht
      rw [Array.getD_eq_getD_getElem?, Array.getElem?_append_left (by omega), ← Array.getD_eq_getD_getElem?]
      exact this
    · rw [List.getD_eq_getElem?_getD, List.getElem?_eq_none (by omega)]
      exact .any ..
  refine wp_mono (h X hL hids hdf0 hx _ _ hrep).wide fun e a w ⟨fr2, ow2, ⟨he, d2, h1, h2, h3, h4⟩, hrep2⟩ => ?_
  obtain ⟨S, r, hH2, hI2, hF2, hd2, _, hρ2⟩ := hrep2
  obtain ⟨v, hv, hvr⟩ := zdp (P := P) hrs hI2 hF2 h1
  have hok := h4.ok
  simp only [okAll, Bool.and_eq_true] at hok
  have hfin : ∃ v' S' r', Ending.returned v = .returned v' ∧ Rel S' w r' d v' ∧ Hist X w S' ∧ Inv X w S' r' (fO ow') ∧ RhoLe X.r0 r' := by
    refine ⟨v, S, keepR r (ow'.map (·.1)), rfl, ?_, hH2, hI2.keep h4.ow hok.2, fun k l hk => ?_⟩
    · exact (hvr.weak h2).okIn h3
    · obtain ⟨l', g1, g2⟩ := hρ2 k l hk
      have : k ∈ ow'.map (·.1) := h4.ids k (hL k (by rw [hk]; simp))
      exact ⟨l', by simp only [keepR]; rw [if_pos this]; exact g1, g2⟩
  rcases he with rfl | rfl
  · exact ⟨hd2.trans hdf0, v, hv, hfin⟩
  · exact ⟨hd2.trans hdf0, v, hv, hfin⟩

theorem zcL {r r' : Rho} {k l : Nat} (h : r k = some (.blk l)) (hr : RhoLe r r') : r' k = some (.blk l) := by
  obtain ⟨l', h1, h2⟩ := hr k _ h
  cases l' with
  | row => simp [LocLe] at h2
  | blk b =>
    simp only [LocLe] at h2
    rw [h1, h2]

theorem zfi {ks : List Nat} : ∀ {fr : Fr}, fr.all (fun x => x.2.okIn ks) = true → ∀ t, (getD' t fr).okIn ks = true
  | [], _, t => rfl
  | (u, e) :: r, h, t => by
    rw [List.all_cons, Bool.and_eq_true] at h
    have ih := zfi h.2 t
    have e1 : fF ((u, e) :: r) t = updF (fF r) (some u) e t := by rw [zaX]
    show (fF ((u, e) :: r) t).okIn ks = true
    rw [e1]
    simp only [updF]
    split
    · exact h.1
    · exact ih

def Hl (kR l : Nat) (fr1 : Fr) (tmps : Array Value) : Cells → World → Rho → Prop := fun S w r => r kR = some (.blk l) ∧ ∀ t, Rel S w r (fF fr1 t) (tmps.getD t undef)
theorem Hl.stab {kR l : Nat} {fr1 : Fr} {tmps : Array Value} {ids : List Nat} (hk : kR ∈ ids) (hf : fr1.all (fun x => x.2.okIn ids) = true) : Stab (Hl kR l fr1 tmps) ids where
  mono := fun h hS hc hr => ⟨zcL h.1 hr, fun t => (h.2 t).mono hS hc _ hr⟩
  keep := fun h => ⟨by simp only [keepR]; rw [if_pos hk]; exact h.1, fun t => (h.2 t).okIn (zfi hf t)⟩

def setFr : List Tmp → List D → Fr → Fr
  | p :: ps, d :: ds, fr => setFr ps ds ((p, d) :: fr)
  | _, _, fr => fr

theorem zmu {S : Cells} {w : World} {r : Rho} : ∀ {ps : List Tmp} {ds : List D} {vs : List Value} {fr : Fr} {tmps : Array Value}, ps.length = ds.length → vs.length = ds.length → (∀ p ∈ ps, p < tmps.size) →
    (∀ j, j < ds.length → Rel S w r (ds.getD j .any) (vs.getD j undef)) → (∀ t, Rel S w r (fF fr t) (tmps.getD t undef)) →
    (∀ t, Rel S w r (fF (setFr ps ds fr) t) (((ps.zip vs).foldl (fun tmps (x : Tmp × Value) => tmps.setIfInBounds x.1 x.2) tmps).getD t undef)) ∧ ((ps.zip vs).foldl (fun tmps (x : Tmp × Value) => tmps.setIfInBounds x.1 x.2) tmps).size = tmps.size
  | [], [], [], _, _, _, _, _, _, hf => ⟨hf, rfl⟩
  | p :: ps, d :: ds, v :: vs, fr, tmps, h1, h2, hp, hd, hf => by
    have h0 : Rel S w r d v := hd 0 (by simp)
    have hb : ∀ t, Rel S w r (fF ((p, d) :: fr) t) ((tmps.setIfInBounds p v).getD t undef) := fun t => by
      have := zbW (a := { tmps := tmps, defers := [] }) (dst := some p) hf (hp p (by simp)) h0 t
      rw [zaX]
      exact this
    have ih := zmu (ps := ps) (ds := ds) (vs := vs) (fr := (p, d) :: fr) (tmps := tmps.setIfInBounds p v) (by simpa using h1) (by simpa using h2) (fun q hq => by rw [Array.size_setIfInBounds]; exact hp q (by simp [hq])) (fun j hj => by
      have := hd (j + 1) (by simpa using hj)
      simpa using this) hb
    exact ⟨ih.1, ih.2.trans Array.size_setIfInBounds⟩

def EndsY (kR : Nat) (rec : Loop) (jump : Option Code) (lo' : Ow) (e : Exit) (_ : Fr) (ow : Ow) : Prop :=
  (match jump, e with
   | none, .normal => True
   | some .ret, .ret => True
   | some (.exit i), .exit j => i = j
   | _, _ => False) ∧ look kR ow = some (.ob (.loop { rec with state := .busy })) ∧
  leOw ((kR, .ob (.loop { rec with state := if jump.isNone then .ready else .done, pending := jump })) :: ow) lo'

theorem YC.of_T {l kR N : Nat} {rec : Loop} {fr1 : Fr} {args : List D} {lo lo' : Ow} {ids : List Nat} (jump : Option Code) (ps : List Tmp) (hps : rec.params = ⟨ps⟩) (hpl : ps.length = args.length) (hpn : ∀ p ∈ ps, p < N) (hN : rec.tmps.size = N)
    (hk : look kR lo = some (.ob (.loop rec))) (hst : rec.state = .ready) (hi1 : lo.map (·.1) = ids) (hi2 : lo'.map (·.1) = ids) (hcs : lo'.all (fun x => x.2.okIn ids) = true)
    (h : ∀ X : Ctx, Lent X → X.ids = ids → X.dfs = [] → T P X N rec.assign (setFr ps args fr1) lo
      (thenQ (fun fr ow => look kR ow = some (.ob (.loop rec)) ∧ T P X N rec.body fr ((kR, .ob (.loop { rec with state := .busy })) :: ow) (EndsY kR rec jump lo')) (fun _ _ _ => False))) :
    YC P l (Hl kR l fr1 rec.tmps) args lo jump.isNone lo' := by
  intro X vs hdf hids hx hH hI hsz hrel
  have hL : Lent X := fun k hk => by
    rw [hids]
    cases hmem : look k lo with
    | none => exact absurd (hI.dom k hmem) hk
    | some o =>
      by_cases hm : k ∈ lo.map (·.1)
      · exact hm
      · rw [zbk hm] at hmem; cases hmem
  have lies : ∀ {w : World} {S : Cells} {r : Rho} {O : Nat → Option Own} {x : Obj}, Inv X w S r O → RhoLe X.r0 r → O kR = some (.ob x) → w.heap[l]? = some x ∧ r kR = some (.blk l) := fun hI hr hO => by
    obtain ⟨b, h1, h2, _⟩ := hI.obj kR _ hO
    have h3 := zcL hx.1 hr
    rw [h3] at h1
    cases h1
    exact ⟨h2, h3⟩
  obtain ⟨hheap, _⟩ := lies hI (RhoLe.refl _) hk
  have hvl : vs.toList.length = args.length := by simpa using hsz
  have hz : (rec.params.zip vs).foldl (fun tmps (t, a) => tmps.setIfInBounds t a) rec.tmps = (ps.zip vs.toList).foldl (fun tmps (x : Tmp × Value) => tmps.setIfInBounds x.1 x.2) rec.tmps := by
    rw [hps]
    obtain ⟨vl⟩ := vs
    simp
  have hset := zmu (S := X.S0) (w := X.w0) (r := X.r0) (ps := ps) (ds := args) (vs := vs.toList) (fr := fr1) (tmps := rec.tmps) hpl hvl (fun p hp => by rw [hN]; exact hpn p hp) (fun j hj => by
    have := hrel j hj
    simpa [Array.getD_eq_getD_getElem?, List.getD_eq_getElem?_getD] using this) hx.2
  refine ⟨rec.fn, _, rec.assign, rec.body, run_yield hheap (by rw [hps]; simp [hsz, hpl]), ?_⟩
  rw [hz]
  refine roundIn_of_wpIn trivial ?_
  have hrep : Rep X N (fF (setFr ps args fr1)) (fO lo) { tmps := (ps.zip vs.toList).foldl (fun tmps (x : Tmp × Value) => tmps.setIfInBounds x.1 x.2) rec.tmps, defers := [] } X.w0 :=
    ⟨X.S0, X.r0, hH, hI, hset.1, hdf.symm, hset.2.trans hN, RhoLe.refl _⟩
  refine wpIn_mono (h X hL (hids.trans hi1) hdf _ _ hrep (some l)) fun e a1 w1 ⟨fr2, ow2, hq, hrep2⟩ => ?_
  cases e with
  | normal =>
    obtain ⟨hk2, hbody⟩ := hq
    obtain ⟨S, r, hH1, hI1, hF1, hdf1, hn1, hρ1⟩ := hrep2
    obtain ⟨hh1, hb1⟩ := lies hI1 hρ1 hk2
    obtain ⟨s1, s2, s3⟩ := zet (.loop { rec with state := .busy }) hH1 hI1 hk2 hb1
    refine ⟨_, run_beginRound hh1 hst, ?_⟩
    have hrep3 : Rep X N (fF fr2) (fO ((kR, .ob (.loop { rec with state := .busy })) :: ow2)) a1 (w1.putObj l (.loop { rec with state := .busy })) := by
      rw [zaW]
      exact ⟨S, r, s1, s2, fun t => (hF1 t).mono (fun _ _ h => h) s3 r (RhoLe.refl _), hdf1, hn1, hρ1⟩
    refine wpIn_mono (hbody a1 _ hrep3 (some l)) fun e a3 w3 ⟨fr4, ow4, ⟨he, hk4, hle⟩, hrep4⟩ => ?_
    obtain ⟨S4, r4, hH4, hI4, hF4, _, _, hρ4⟩ := hrep4
    obtain ⟨hh4, hb4⟩ := lies hI4 hρ4 hk4
    have fin : ∃ v w', (Instr.endRound l jump).run P w3 = .ok v w' ∧ ∃ v' S' r', Ending.returned v = .returned v' ∧ Rel S' w' r' (.b jump.isNone) v' ∧ Hist X w' S' ∧ Inv X w' S' r' (fO lo') ∧ RhoLe X.r0 r' := by
      obtain ⟨q1, q2, q3⟩ := zet (.loop { rec with state := if jump.isNone then .ready else .done, pending := jump }) hH4 hI4 hk4 hb4
      rw [← zaW] at q2
      have hrun : (Instr.endRound l jump).run P w3 = .ok (.bool jump.isNone) (w3.putObj l (.loop { rec with state := if jump.isNone then .ready else .done, pending := jump })) := run_endRound (r := { rec with state := .busy }) jump hh4
      have q1' : Hist X (w3.putObj l (.loop { rec with state := if jump.isNone then .ready else .done, pending := jump })) S4 := q1
      have q2' := q2.keep hle (by rw [hi2]; exact hcs)
      have q3' : Inv X (w3.putObj l (.loop { rec with state := if jump.isNone then .ready else .done, pending := jump })) S4 (keepR r4 (lo'.map (·.1))) (fO lo') := q2'
      refine ⟨_, _, hrun, _, S4, keepR r4 (lo'.map (·.1)), rfl, .b .., q1', q3', fun k l' hk' => ?_⟩
      obtain ⟨l2, g1, g2⟩ := hρ4 k l' hk'
      have : k ∈ lo'.map (·.1) := by
        rw [hi2, ← hi1, ← hids]
        exact hL k (by rw [hk']; simp)
      exact ⟨l2, by simp only [keepR]; rw [if_pos this]; exact g1, g2⟩
    cases jump with
    | none => cases e <;> first | exact fin | exact he.elim
    | some c =>
      cases c with
      | ret => cases e <;> first | exact fin | exact he.elim
      | exit i => cases e with
        | exit j =>
          obtain rfl : i = j := he
          exact fin
        | _ => exact he.elim
      | _ => cases e <;> exact he.elim
  | _ => exact hq.elim
end

theorem zmo {lo lo' : Ow} {ids : List Nat} (h1 : lo.map (·.1) = ids) (h2 : lo'.map (·.1) = ids) (hnd : ids.Nodup) : updO (fO lo) lo' = fO lo' := by
  funext k
  rw [zbh (by rw [h2]; exact hnd)]
  show _ = look k lo'
  cases h : look k lo' with
  | some o => rfl
  | none =>
    show look k lo = none
    refine zbk fun hm => ?_
    rw [h1, ← h2] at hm
    obtain ⟨o, ho⟩ := zbm hm
    rw [ho] at h
    cases h

structure Mark (X X1 : Ctx) (kD D : Nat) : Prop where
  w0 : X1.w0 = X.w0
  S0 : X1.S0 = X.S0
  L : X1.L = X.L
  ids : X1.ids = kD :: X.ids
  dfs : X1.dfs = [{ target := .collected D, args := #[] }]
  blk : X1.r0 kD = some (.blk D)
  lent : Lent X1

def recOf (fn : FuncId) (tmps : Array Value) (ps : List Tmp) (assign body : Code) (D : Nat) (jump : Option Code) : Loop :=
  { state := if jump.isNone then .ready else .done, pending := jump, fn := fn, tmps := tmps, params := ⟨ps⟩, assign := assign, body := body, defers := D }
def loopOw (kR kD : Nat) (rec : Loop) (ow : Ow) : Ow := (kR, .ob (.loop rec)) :: (kD, .ob (.deferred (some []))) :: ow

section
variable {P : Program} {X : Ctx} {n : Nat} {fr : Fr} {ow : Ow}

def AfterLoop (P : Program) (X : Ctx) (n : Nat) (fr : Fr) (ow : Ow) (R : Exit → Act → World → Prop) : Option Code → Prop
  | none => ∀ a w, Rep X n (fF fr) (fO ow) a w → R .normal a w
  | some c => TD P X n c fr ow R

theorem TD.rangeFunc {x : Operand} {ps : List Tmp} {assign body : Code} {R : Exit → Act → World → Prop} (hL : Lent X) (hdf : X.dfs = []) (fr1 : Fr) (ow1 lo' : Ow) (ids : List Nat) (hle : Le X fr ow fr1 ow1) (hi1 : ow1.map (·.1) = ids) (hi2 : lo'.map (·.1) = ids)
    (kR kD : Nat) (hnd : (kR :: kD :: ids).Nodup) {g : FuncId} {caps : List D} (hf : ev fr1 x = .fn g caps) (hP : ∀ vs w, (callFunc g vs).run P w = .ok (.enter g vs) w)
    (hcaps : (caps.map (lendA (kR :: kD :: ids))).all (D.okIn (kR :: kD :: ids)) = true) (hok1 : ow1.all (fun x => x.2.okIn (kR :: kD :: ids)) = true) (hok2 : lo'.all (fun x => x.2.okIn (kR :: kD :: ids)) = true) (hfr : fr1.all (fun x => x.2.okIn (kR :: kD :: ids)) = true)
    (jump : Option Code)
    (hIt : ∀ (fn : FuncId) (tmps : Array Value) (D l : Nat), tmps.size = n → CtrH P g (Hl kR l fr1 tmps) (.v (.func (.yield l) #[] #[]) :: caps.map (lendA (kR :: kD :: ids))) (loopOw kR kD (recOf fn tmps ps assign body D none) ow1) (.tu []) (loopOw kR kD (recOf fn tmps ps assign body D jump) lo'))
    (hK : ∀ (X1 : Ctx) (D : Nat) (rec rec2 : Loop), Mark X X1 kD D → AfterLoop P X1 n fr1 ((kR, .ob (.loop rec)) :: loopOw kR kD rec2 lo') R jump) :
    TD P X n (.rangeFunc x ⟨ps⟩ assign body) fr ow R := by
  refine TD.into fun a w hrep => wpIn_wide.1 (wpIn_rangeFunc (n := 0) fun fn _ => ?_)
  obtain ⟨S, r, hH, hI, hF, hdfs, hn, hρ⟩ := hrep.le hle hL
  have hnd0 := List.nodup_cons.1 hnd
  have hnd1 := List.nodup_cons.1 hnd0.2
  have hkD : look kD ow1 = none := zbk (by rw [hi1]; exact hnd1.1)
  have hkR : look kR ow1 = none := zbk (by rw [hi1]; exact fun h => hnd0.1 (List.mem_cons_of_mem _ h))
  have hne : kR ≠ kD := fun h => hnd0.1 (by rw [h]; exact List.mem_cons_self)
  obtain ⟨r1, p1, hH1, hI1, hc1, hr1⟩ := ziD (.deferred (some [])) hH hI (k := kD) hkD
  rw [← zaW] at hI1
  have hkR1 : fO ((kD, .ob (.deferred (some []))) :: ow1) kR = none := by
    rw [zaW]
    simp only [updO]
    rw [if_neg hne]
    exact hkR
  obtain ⟨r2, p2, hH2, hI2, hc2, hr2⟩ := ziD (.loop (recOf fn a.tmps ps assign body w.heap.size none)) hH1 hI1 (k := kR) hkR1
  rw [← zaW] at hI2
  have hbD : r1 kD = some (.blk w.heap.size) := by
    cases p1 with
    | pv _ _ _ b hb => exact hb
  have hbR : r2 kR = some (.blk (w.heap.size + 1)) := by
    have hs : (w.alloc (.deferred (some []))).heap.size = w.heap.size + 1 := by simp
    rw [hs] at p2
    cases p2 with
    | pv _ _ _ b hb => exact hb
  have hev := zbK hH.glob hF x
  rw [zbn, hf] at hev
  generalize hgv : a.eval x = gv at hev
  cases hev with
  | fn _ _ _ us hun hus =>
    refine ⟨w.heap.size + 1, [{ target := .collected w.heap.size, args := #[] }], (w.alloc (.deferred (some []))).alloc (.loop (recOf fn a.tmps ps assign body w.heap.size none)), ⟨.fn (.func g) us, #[.func (.yield (w.heap.size + 1)) #[] #[]]⟩, (w.alloc (.deferred (some []))).alloc (.loop (recOf fn a.tmps ps assign body w.heap.size none)), g, #[Value.func (.yield (w.heap.size + 1)) #[] #[]] ++ us, (w.alloc (.deferred (some []))).alloc (.loop (recOf fn a.tmps ps assign body w.heap.size none)), run_enterLoop_outer (P := P) (w := w) fn a.tmps ⟨ps⟩ assign body, ?_, fun _ _ => trivial, ?_, fun e => (by cases e), ?_⟩
    · have hc : a.eval (.const (.func (.yield (w.heap.size + 1)) #[] #[])) = .func (.yield (w.heap.size + 1)) #[] #[] := rfl
      simp only [resolve, hgv, Deferred.ofValue, Sem.run_pure, List.map_toArray, List.map_cons, List.map_nil, hc]
      simp only [Array.empty_append]
    · simp only [invoke, hP]
    · have hrel : ∀ j, j < (D.v (.func (.yield (w.heap.size + 1)) #[] #[]) :: caps).length → Rel S ((w.alloc (.deferred (some []))).alloc (.loop (recOf fn a.tmps ps assign body w.heap.size none))) r2 ((D.v (.func (.yield (w.heap.size + 1)) #[] #[]) :: caps).getD j .any) ((#[Value.func (.yield (w.heap.size + 1)) #[] #[]] ++ us).getD j undef) := fun j hj => by
        match j, hj with
        | 0, _ =>
          have e1 : (#[Value.func (.yield (w.heap.size + 1)) #[] #[]] ++ us).getD 0 undef = .func (.yield (w.heap.size + 1)) #[] #[] := by
            rw [Array.getD_eq_getD_getElem?, Array.getElem?_append_left (by simp)]
            simp
          rw [e1]
          exact .v ..
        | j + 1, hj =>
          have hj' : j < caps.length := by simpa using hj
          have e1 : (#[Value.func (.yield (w.heap.size + 1)) #[] #[]] ++ us).getD (j + 1) undef = us.getD j undef := by
            rw [Array.getD_eq_getD_getElem?, Array.getD_eq_getD_getElem?, Array.getElem?_append_right (by simp)]
            simp
          rw [e1]
          exact ((hus j hj').mono (fun _ _ h => h) hc1 r1 hr1).mono (fun _ _ h => h) hc2 r2 hr2
      have core := zhB (X := X) (d := .tu []) (O' := fO (loopOw kR kD (recOf fn a.tmps ps assign body w.heap.size none) ow1)) (lo := loopOw kR kD (recOf fn a.tmps ps assign body w.heap.size none) ow1) (lo' := loopOw kR kD (recOf fn a.tmps ps assign body w.heap.size jump) lo')
        hH2 hI2 (fun k o h => h) (ids := kR :: kD :: ids) (by simp [loopOw, hi1]) (by simp [loopOw, hi2]) hnd
        (args := D.v (.func (.yield (w.heap.size + 1)) #[] #[]) :: caps) (by rw [List.map_cons, List.all_cons, hcaps]; rfl) (by simp only [loopOw, List.all_cons, hok1]; rfl) (by simp only [loopOw, List.all_cons, hok2]; rfl) rfl hrel
        (Run := Calls P g (#[Value.func (.yield (w.heap.size + 1)) #[] #[]] ++ us) ((w.alloc (.deferred (some []))).alloc (.loop (recOf fn a.tmps ps assign body w.heap.size none)))) (fun R R' hm hR => hR.mono hm)
        (fun L q1 q2 q3 => hIt fn a.tmps w.heap.size (w.heap.size + 1) hn ⟨_, S, L, keepR r2 (kR :: kD :: ids), kR :: kD :: ids, []⟩ _ rfl (by simp [loopOw, hi1])
          ⟨by simp only [keepR]; rw [if_pos List.mem_cons_self]; exact hbR, fun t => (((hF t).mono (fun _ _ h => h) hc1 r1 hr1).mono (fun _ _ h => h) hc2 r2 hr2).okIn (zfi hfr t)⟩ q1 q2 (by simp [hun]; omega) q3)
      refine callsIn_wide.2 (core.mono ?_)
      rintro e w3 ⟨v, S', r3, rfl, g1, g2, g3, g4, g5, g6⟩
      rw [zmo (ids := kR :: kD :: ids) (by simp [loopOw, hi1]) (by simp [loopOw, hi2]) hnd] at g3
      have hbR3 := zcL hbR g6
      have hlk : fO (loopOw kR kD (recOf fn a.tmps ps assign body w.heap.size jump) lo') kR = some (.ob (.loop (recOf fn a.tmps ps assign body w.heap.size jump))) := by
        unfold loopOw
        rw [zaW]
        simp [updO]
      obtain ⟨b, h1, h2, _⟩ := g3.obj kR _ hlk
      rw [hbR3] at h1
      cases h1
      obtain ⟨s1, s2, s3⟩ := zet (.loop { recOf fn a.tmps ps assign body w.heap.size jump with state := .exhausted }) g2 g3 hlk hbR3
      rw [← zaW] at s2
      have hnb : (recOf fn a.tmps ps assign body w.heap.size jump).state ≠ .busy := by
        show (if jump.isNone then LoopState.ready else .done) ≠ .busy
        cases jump.isNone <;> simp
      refine ⟨jump, _, run_endLoop h2 hnb, ?_⟩
      let X1 : Ctx := ⟨X.w0, X.S0, X.L, fun k => if k = kD then some (.blk w.heap.size) else X.r0 k, kD :: X.ids, [{ target := .collected w.heap.size, args := #[] }]⟩
      have hM : Mark X X1 kD w.heap.size := ⟨rfl, rfl, rfl, rfl, rfl, if_pos rfl, fun k hk => by
        have hk : (if k = kD then some (Loc.blk w.heap.size) else X.r0 k) ≠ none := hk
        show k ∈ kD :: X.ids
        by_cases e : k = kD
        · rw [e]; exact List.mem_cons_self
        · rw [if_neg e] at hk
          exact List.mem_cons_of_mem _ (hL k hk)⟩
      have hbD3 := zcL hbD (hr2.trans g6)
      have hrep' : Rep X1 n (fF fr1) (fO ((kR, .ob (.loop { recOf fn a.tmps ps assign body w.heap.size jump with state := .exhausted })) :: loopOw kR kD (recOf fn a.tmps ps assign body w.heap.size jump) lo')) { a with defers := [{ target := .collected w.heap.size, args := #[] }] ++ a.defers }
          (w3.putObj (w.heap.size + 1) (.loop { recOf fn a.tmps ps assign body w.heap.size jump with state := .exhausted })) := by
        refine ⟨S', r3, ⟨s1.os, s1.tape, s1.output, s1.size, s1.block, s1.sub, s1.cell, s1.new, s1.valid, s1.glob⟩, ⟨s2.obj, s2.dom, s2.apart, s2.low⟩, fun t => ?_, ?_, hn, fun k l hk => ?_⟩
        · exact ((((hF t).mono (fun _ _ h => h) hc1 r1 hr1).mono (fun _ _ h => h) hc2 r2 hr2).mono g4 g5 r3 g6).mono (fun _ _ h => h) s3 r3 (RhoLe.refl _)
        · show [_] ++ a.defers = [_]
          rw [hdfs, hdf]
          rfl
        · have hk : (if k = kD then some (Loc.blk w.heap.size) else X.r0 k) = some l := hk
          by_cases e : k = kD
          · rw [if_pos e] at hk
            cases hk
            exact ⟨_, by rw [e]; exact hbD3, LocLe.refl _⟩
          · rw [if_neg e] at hk
            exact (((hρ.trans hr1).trans hr2).trans g6) k l hk
      have hk1 := hK X1 w.heap.size { recOf fn a.tmps ps assign body w.heap.size jump with state := .exhausted } (recOf fn a.tmps ps assign body w.heap.size jump) hM
      cases jump with
      | none => exact hk1 _ _ hrep'
      | some c => exact wpIn_wide.2 (TD.out hk1 _ _ hrep')
end

section
variable {X : Ctx} {n : Nat} {fr : Fr} {ow : Ow}
theorem r_funM {f : FuncId} {fn : Func} {c : Code} {N : Nat} {args : List D} {d : D} (hf : Tryz.prog.funcs[f]? = some fn) (hb : fn.body = some c) (hN : fn.ntmps = N) (hlen : Nat.ble args.length N = true)
    (h : ∀ X : Ctx, Lent X → X.ids = [] → X.dfs = [] → X.r0 = noRho → TD Tryz.prog X N c (slots 0 args) [] (bodyPostM Fence.wide 0 Tryz.prog fn (Fin X d))) : Ctr Tryz.prog f args d := by
  intro w S vs hv hgl hn hr
  let X : Ctx := { w0 := w, S0 := S, L := fun _ => False }
  have hrep : Rep X N (fF (slots 0 args)) (fO []) { tmps := vs ++ Array.replicate (fn.ntmps - vs.size) undef, defers := [] } w := by
    have hlen' : args.length ≤ N := by simpa using hlen
    refine ⟨S, noRho, zfA w S _ hv hgl, zep _ _ _, fun t => ?_, rfl, by simp; omega, RhoLe.refl _⟩
    show Rel _ _ _ (getD' t (slots 0 args)) _
    rw [zbV]
    simp only [Nat.zero_le, if_true, Nat.sub_zero]
    by_cases ht : t < args.length
    · have := hr t ht
      rw [Array.getD_eq_getD_getElem?, Array.getElem?_append_left (by omega), ← Array.getD_eq_getD_getElem?]
      exact this
    · rw [List.getD_eq_getElem?_getD, List.getElem?_eq_none (by omega)]
      exact .any ..
  exact callsIn_wide.1 (callsIn_of_wp_marks (F := Fence.wide) (n := 0) hf hb trivial (wpIn_wide.2 ((h X (fun k hk => absurd rfl hk) rfl rfl rfl).out _ w hrep)))

theorem zpg {X1 : Ctx} {kD b : Nat} {fn : Func} {rs : List ResultVar} {d d2 : D} {a : Act} {w : World} (hm : Mark X X1 kD b) (hrep : Rep X1 n (fF fr) (fO ow) a w) (hk : look kD ow = some (.ob (.deferred (some [])))) (hrs : fn.results = ⟨rs⟩)
    (hres : resD B fr ((kD, .ob (.deferred none)) :: ow) rs = some d2) (hw : Weak d2 d) (hd : d.free = true) : LeavesInM Fence.wide 0 Tryz.prog fn a.tmps (Fin X d) a.defers .returning w := by
  obtain ⟨S, r, hH, hI, hF, hdfs, hn, hρ⟩ := hrep
  rw [hdfs, hm.dfs]
  have hb := zcL hm.blk hρ
  obtain ⟨b', h1, h2, _⟩ := hI.obj kD _ hk
  rw [hb] at h1
  cases h1
  obtain ⟨s1, s2, s3⟩ := zet (.deferred none) hH hI hk hb
  rw [← zaW] at s2
  refine ⟨by simp, .inl ⟨b, _, rfl, run_takeDeferred h2, ?_⟩⟩
  obtain ⟨v, hv, hvr⟩ := zdg (P := Tryz.prog) (fn := fn) (a := a) hrs s2 (fun t => (hF t).mono (fun _ _ h => h) s3 r (RhoLe.refl _)) (by rw [zch]; exact hres)
  have hist : Hist X (w.putObj b (.deferred none)) S := by
    obtain ⟨w0, S0, L, r0, ids, dfs⟩ := X1
    obtain ⟨e1, e2, e3, _, _, _, _⟩ := hm
    cases e1
    cases e2
    cases e3
    exact ⟨s1.os, s1.tape, s1.output, s1.size, s1.block, s1.sub, s1.cell, s1.new, s1.valid, s1.glob⟩
  exact ⟨v, hv, v, S, rfl, (hvr.weak hw).free hd noRho, hist⟩
end

theorem zkJ {P : Program} {X : Ctx} {n : Nat} {o : Oper} {fr : Fr} {ow : Ow} {ty : TypeId} {x : Operand} {k : Nat} {d : D} (ho : o.op = .box ty x) (hx : ev fr x = d) (hs : d.solid = true) (h1 : d.cells.all D.one = true) (hk : look k ow = none) (hd : dstOk o.dst n) :
    ∀ F' O', (∀ y ∈ o.op.operands.toList, evF F' y = evF (fF fr) y) → (∀ j ∈ [k], O' j = fO ow j) → StepAt P X n o F' O' (.pv k 0) [(k, .var d.cells)] := by
  intro F' O' he hO
  refine zaS hd fun a w S r hH hI hr => ?_
  have hx' := hr x
  rw [he x (by simp [ho, Op.operands]), zbn, hx] at hx'
  have hk' : O' k = none := (hO k (by simp)).trans hk
  obtain ⟨S', r', g1, g2, g3, g4, g5, g6⟩ := zjk ty hH hI hx' hs h1 hk'
  refine ⟨_, _, S', r', .inl ?_, g1, g2, g3, g4, g5, g6⟩
  simp [execOp, ho, Instr.box, newVar, newRow]

section
variable {X : Ctx} {n : Nat} {all rest : List Oper} {fr : Fr} {ow : Ow} {tr : List (List Nat × List Nat)} {K : Fr → Ow → List (List Nat × List Nat) → Prop}
variable {t : Nat} {ty ty' : TypeId} {ps : String} {af : Array Edge} {d : D} {x : Operand}

theorem zdq (k : Nat) (hx : ev fr x = d) (hs : d.solid = true) (h1 : d.cells.all D.one = true) (hk : look k ow = none) (hn : Nat.blt t n = true)
    (h : CT Tryz.prog X n all rest ((t, .pv k 0) :: fr) ((k, .var d.cells) :: ow) (tr ++ [([k], [k])]) K) : CT Tryz.prog X n all (⟨some t, .box ty x, ty', ps, af, none⟩ :: rest) fr ow tr K :=
  CT.cons (e := ⟨.pv k 0, [k], [(k, .var d.cells)]⟩) (.plain rfl (zkJ (o := ⟨some t, .box ty x, ty', ps, af, none⟩) rfl hx hs h1 hk (show t < n by simpa using hn))) (zaX ..) (zaW ..) h
end

section
variable {P : Program} {X : Ctx} {n : Nat} {fr : Fr} {ow : Ow}
theorem Rep.adoptV {a : Act} {w : World} (v j k e z : Nat) (cs : List D) (f : Nat → List D) (hv : look v ow = some (.var cs)) (hj : cs.getD j .any = .nilS) (hk : look k ow = none) (hr : Rep X n (fF fr) (fO ow) a w) :
    Rep X n (fF fr) (fO ((v, .var (cs.set j (.gs k z 0 f))) :: (k, .row e z 0) :: ow)) a w := by
  obtain ⟨S, r, hH, hI, hF, hd, hn, hρ⟩ := hr
  have hle : RhoLe r (updR r k (.row (.slice none 0 0) 0)) := RhoLe.new (hI.dom k hk)
  have hk0 : updR r k (.row (.slice none 0 0) 0) k = some (.row (.slice none 0 0) 0) := by simp [updR]
  have hc : Chg w w S none := ⟨rfl, rfl, rfl, Nat.le_refl _, fun _ _ _ => rfl, fun _ _ _ => rfl⟩
  have hI2 : Inv X w S (updR r k (.row (.slice none 0 0) 0)) (fO ((k, .row e z 0) :: ow)) := by
    rw [zaW]
    exact hI.put hc (fun _ _ h => h) hle k _ (.row (.slice none 0 0) 0) ⟨_, hk0, .inl ⟨rfl, rfl⟩⟩ hk0 (fun j hj => by simp [updR, hj]) (fun b hb => by simp [Loc.block] at hb) (fun b hb => by cases hb) (fun _ _ h => .inl h)
  have hvk : v ≠ k := fun e => by subst e; rw [hv] at hk; cases hk
  have hv2 : fO ((k, .row e z 0) :: ow) v = some (.var cs) := by
    rw [zaW]
    show (if v = k then _ else fO ow v) = _
    rw [if_neg hvk]
    exact hv
  have hobj := hI2.obj v _ hv2
  obtain ⟨b, cur, e0, h1, h2, h3, h4, h5⟩ := hobj
  refine ⟨S, updR r k (.row (.slice none 0 0) 0), hH, ?_, fun u => (hF u).mono (fun _ _ h => h) (fun _ _ _ => rfl) _ hle, hd, hn, hρ.trans hle⟩
  rw [zaW]
  refine hI2.put hc (fun _ _ h => h) (RhoLe.refl _) v _ (.blk b) ⟨b, cur, e0, h1, h2, by simpa using h3, fun i hi => ?_, h5⟩ h1 (fun _ _ => rfl) (fun b' hb' => .inr ⟨_, h1, hb'⟩) (fun b hb => by cases hb) (fun _ _ h => .inl h)
  have hi' : i < cs.length := by simpa using hi
  by_cases e : j = i
  · subst e
    have e1 : (cs.set j (D.gs k z 0 f)).getD j .any = .gs k z 0 f := by simp [List.getD_eq_getElem?_getD, hi']
    rw [e1]
    have h6 := (h4 j hi').1
    rw [hj] at h6
    generalize cur.getD j undef = vj at h6 ⊢
    cases h6
    refine ⟨.gs _ k z 0 f _ _ 0 (.sl _ _ _ _ none 0 (fun _ _ => undef) (Nat.le_refl _) (by unfold maxLen; omega) (fun i hi => by omega) (fun i j hi => by omega) (fun i j hi => by omega)) hk0 (Nat.le_refl _) (fun _ => .inl rfl), rfl⟩
  · have e1 : (cs.set j (D.gs k z 0 f)).getD i .any = cs.getD i .any := by simp [List.getD_eq_getElem?_getD, e]
    rw [e1]
    exact h4 i hi'
theorem TD.adoptV {c : Code} {R : Exit → Act → World → Prop} (v j k e z : Nat) (cs : List D) (f : Nat → List D) (hv : look v ow = some (.var cs)) (hj : cs.getD j .any = .nilS) (hk : look k ow = none)
    (h : TD P X n c fr ((v, .var (cs.set j (.gs k z 0 f))) :: (k, .row e z 0) :: ow) R) : TD P X n c fr ow R := TD.into fun a w hr => h.out a w (hr.adoptV v j k e z cs f hv hj hk)

theorem n_endY {kR : Nat} {rec : Loop} {lo' : Ow} (h1 : look kR ow = some (.ob (.loop { rec with state := .busy }))) (h2 : Stay (leOw ((kR, .ob (.loop { rec with state := .ready, pending := none })) :: ow) lo')) : Nrm (EndsY kR rec none lo') fr ow := by
  unfold Nrm
  exact ⟨trivial, h1, h2.out⟩
theorem x_endY {kR : Nat} {rec : Loop} {lo' : Ow} (h1 : look kR ow = some (.ob (.loop { rec with state := .busy }))) (h2 : Stay (leOw ((kR, .ob (.loop { rec with state := .done, pending := some .ret })) :: ow) lo')) : Rtn (EndsY kR rec (some .ret) lo') fr ow := by
  unfold Rtn
  exact ⟨trivial, h1, h2.out⟩
theorem YC.of_T2 {l kR N : Nat} {rec : Loop} {tmps : Array Value} {fr1 : Fr} {args : List D} {lo lo' : Ow} {ids : List Nat} {out : Bool} (jump : Option Code) (ps : List Tmp) (hk : look kR lo = some (.ob (.loop rec))) (htm : rec.tmps = tmps) (hout : jump.isNone = out) (hps : rec.params = ⟨ps⟩) (hpl : ps.length = args.length) (hpn : ∀ p ∈ ps, p < N) (hN : tmps.size = N)
    (hst : rec.state = .ready) (hi1 : lo.map (·.1) = ids) (hi2 : lo'.map (·.1) = ids) (hcs : lo'.all (fun x => x.2.okIn ids) = true)
    (h : ∀ X : Ctx, Lent X → X.ids = ids → X.dfs = [] → T P X N rec.assign (setFr ps args fr1) lo
      (thenQ (fun fr ow => look kR ow = some (.ob (.loop rec)) ∧ T P X N rec.body fr ((kR, .ob (.loop { rec with state := .busy })) :: ow) (EndsY kR rec jump lo')) (fun _ _ _ => False))) :
    YC P l (Hl kR l fr1 tmps) args lo out lo' := by
  subst htm hout
  exact YC.of_T jump ps hps hpl hpn hN hk hst hi1 hi2 hcs h
end

section
variable {X : Ctx} {n : Nat} {all post : List Oper} {fr : Fr} {ow : Ow}
theorem r_yield {Hx : Cells → World → Rho → Prop} {Q : Exit → Fr → Ow → Prop} {t l : Nat} {op : Op} {ty : TypeId} {ps : String} {af : Array Edge} {args : List D} (lo lo' : Ow) (ids : List Nat) (out : Bool) (hy : yieldOf fr op = some (l, args)) (hn : Nat.blt t n = true)
    (hk : hasAll (fun k => look k ow) lo) (hi1 : lo.map (·.1) = ids) (hi2 : lo'.map (·.1) = ids) (hnd : ids.Nodup) (hst : Stab Hx ids) (hok : (args.map (lendA ids)).all (D.okIn ids) = true) (hf1 : lo.all (fun x => x.2.okIn ids) = true) (hf2 : lo'.all (fun x => x.2.okIn ids) = true)
    (hC : YC Tryz.prog l Hx (args.map (lendA ids)) lo out lo') (h : CT Tryz.prog X n all post ((t, .b out) :: fr) (lo' ++ ow) [] fun fr ow _ => Nrm Q fr ow) : YGoal Tryz.prog X n Hx all Q ⟨some t, op, ty, ps, af, none⟩ post fr ow := by
  unfold Nrm at h
  exact ⟨rfl, t, l, args, out, lo, lo', ids, rfl, by simpa using hn, hy, hk, hi1, hi2, hnd, hst, hok, hf1, hf2, hC, h⟩

theorem zna {f : FuncId} {args : List D} {d : D} {fn : Func} {c : Code} {N : Nat} {rs : List ResultVar} {lo lo' : Ow} {ids ids2 : List Nat} (hf : Tryz.prog.funcs[f]? = some fn) (hb : fn.body = some c) (hN : fn.ntmps = N) (hrs : fn.results = ⟨rs⟩) (hlen : Nat.ble args.length N = true)
    (hi1 : lo.map (·.1) = ids) (hi2 : lo'.map (·.1) = ids2) (hsub : ∀ k ∈ ids, k ∈ ids2) (hd : d.okIn ids2 = true) (hcs : lo'.all (fun x => x.2.okIn ids2) = true)
    (h : ∀ X : Ctx, Lent X → X.ids = ids → T Tryz.prog X N c (slots 0 args) lo (EndsM rs d lo')) : CtrO Tryz.prog f args lo d lo' := by
  refine CtrO.of_TU hf hb hN hrs (by simpa using hlen) fun X hL hi => (h X hL (hi.trans hi1)).mono fun e fr2 ow2 hq => ?_
  have key : ∀ d2, resU B fr2 ow2 rs = some d2 → Weak d2 d → leOw ow2 lo' →
      ∃ d2, resU (tb Tryz.prog) fr2 ow2 rs = some d2 ∧ Weak d2 d ∧ d.okIn (lo'.map (·.1)) = true ∧ Le X fr2 ow2 [] lo' := by
    intro d2 h1 h2 h3
    refine ⟨d2, by rw [zch]; exact h1, h2, by rw [hi2]; exact hd, trivial, h3, ?_, fun k hk => ?_⟩
    · rw [hi2]
      simp only [okAll, List.all_nil, Bool.true_and]
      exact hcs
    · rw [hi, hi1] at hk
      rw [hi2]
      exact hsub k hk
  cases e with
  | ret => obtain ⟨d2, h1, h2, h3⟩ := hq; exact ⟨.inl rfl, key d2 h1 h2 h3⟩
  | normal => obtain ⟨d2, h1, h2, h3⟩ := hq; exact ⟨.inr rfl, key d2 h1 h2 h3⟩
  | _ => exact hq.elim
end

end Go.Proofs.YtcajofhafpkbdaaGreatDoor.Flow
