/- The texts FlowPc, FlowPd, FlowPe, FlowPf, FlowRo, FlowRp, FlowRq, FlowXb, FlowRr, one behind the other. -/
import Derived.Test.YtcajofhafpkbdaaGreatDoorCQ12
import Derived.Test.YtcajofhafpkbdaaGreatDoorCQ13
import Derived.Test.YtcajofhafpkbdaaGreatDoorCQ14
import Derived.Recover
import Derived.RangeFuncRecord
import Derived.RangeFuncIn
import Derived.RangeFuncLeaves
import Derived.RangeFuncSeq
namespace Go.Proofs.YtcajofhafpkbdaaGreatDoor.Flow
section
variable {P : Program} {X : Ctx} {n : Nat} {o : Oper} {fr : Fr} {ow : Ow} {T : TypeId} {x : Operand} {k1 k2 : IntKind} {a b : Int} {fs : Array Field}
theorem zjA (hT : P.underlying T = some (.struct fs)) (ho : o.op = .makeInterface T x) (hx : ev fr x = .ag [.i k1 a, .i k2 b]) (hd : dstOk o.dst n) :
    ∀ F' O', (∀ y ∈ o.op.operands.toList, evF F' y = evF (fF fr) y) → (∀ j ∈ ([] : List Nat), O' j = fO ow j) → StepAt P X n o F' O' (.v (.iface T (.agg #[.int k1 a, .int k2 b]))) [] := by
  intro F' O' he _
  refine zax hd fun ac w S r hH hI hr => ?_
  have hx' := hr x
  rw [he x (by simp [ho, Op.operands]), zaZ, hx] at hx'
  refine ⟨.iface T (.agg #[.int k1 a, .int k2 b]), w, S, r, .inl ?_, .v .., hH, hI, fun _ _ h => h, fun _ _ _ => rfl, RhoLe.refl r⟩
  generalize hv : ac.eval x = v at hx'
  cases hx' with
  | ag _ _ vs hn h =>
    have h0 := h 0 (by simp)
    have h1 := h 1 (by simp)
    have hvs : vs = #[vs.getD 0 undef, vs.getD 1 undef] := by
      obtain ⟨l⟩ := vs
      match l, hn with
      | [p, q], _ => rfl
    generalize vs.getD 0 undef = u0 at *
    generalize vs.getD 1 undef = u1 at *
    subst hvs
    cases h0
    cases h1
    simp [execOp, ho, hv, Instr.makeInterface, run_underlying hT, Result.andThen]
end
section
variable {X : Ctx} {n : Nat} {all rest : List Oper} {fr : Fr} {ow : Ow} {tr : List (List Nat × List Nat)} {K : Fr → Ow → List (List Nat × List Nat) → Prop} {Q : Exit → Fr → Ow → Prop}
variable {t : Nat} {ty T : TypeId} {ps : String} {af : Array Edge} {x : Operand} {k1 k2 : IntKind} {a b : Int} {fs : Array Field} {pv : Value} {tt : TypeId}
set_option maxRecDepth 100000 in
theorem zpj (hT : Tryz.prog.underlying T = some (.struct fs)) (hx : ev fr x = .ag [.i k1 a, .i k2 b]) (hn : Nat.blt t n = true)
    (h : CT Tryz.prog X n all rest ((t, .v (.iface T (.agg #[.int k1 a, .int k2 b]))) :: fr) ow (tr ++ [([], [])]) K) : CT Tryz.prog X n all (⟨some t, .makeInterface T x, ty, ps, af, none⟩ :: rest) fr ow tr K :=
  CT.cons (e := ⟨.v (.iface T (.agg #[.int k1 a, .int k2 b])), [], []⟩) (.plain rfl (zjA (P := Tryz.prog) (X := X) (o := ⟨some t, .makeInterface T x, ty, ps, af, none⟩) hT rfl hx (show t < n from Nat.le_of_ble_eq_true hn))) (zaH ..) rfl h
set_option maxRecDepth 100000 in
theorem zrG {v : Value} (hx : ev fr x = .v (.iface tt v)) (h : Pnc (.iface tt v) Q fr ow) : PanGoal Tryz.prog X n Q ⟨none, .panic x, ty, ps, af, none⟩ fr ow := by
  refine ⟨rfl, pchain (.iface tt v), [], ow, fun ac w K Q' hr hQ => ?_, rfl, ?_⟩
  · have hx' : ac.eval x = .iface tt v := by
      obtain ⟨S, r, hH, _, hF, _⟩ := hr
      have := zcq hH.glob hF x
      rw [zaZ, hx] at this
      generalize ac.eval x = u at this
      cases this
      rfl
    have hrun : (execOp ac.eval ⟨none, .panic x, ty, ps, af, none⟩).run Tryz.prog w = .halt (.panic (.iface tt v)) w := by
      simp [execOp, hx', Instr.panic]
    exact OW.panic (fun c e => by cases e) hrun (hQ w hr)
  · unfold Pnc at h
    exact h
end
section
variable {n : Nat} {fr : Fr} {ow : Ow} {pv : Value} {f : FuncId} {args : List D}
def EndsP (pv : Value) (lo : Ow) (e : Exit) (_ : Fr) (ow : Ow) : Prop := e = .panic (pchain pv) ∧ leOw ow lo
theorem ziZ {pv' : Value} {lo : Ow} (he : pv' = pv) (hlo : leOw ow lo) : Pnc pv' (EndsP pv lo) fr ow := by
  unfold Pnc
  subst he
  exact ⟨rfl, hlo⟩
theorem zeM {fn : Func} {c : Code} {N : Nat} {lo lo' : Ow} {ids : List Nat} (hf : Tryz.prog.funcs[f]? = some fn) (hb : fn.body = some c) (hN : fn.ntmps = N) (hlen : Nat.ble args.length N = true)
    (hi1 : lo.map (·.1) = ids) (hi2 : lo'.map (·.1) = ids) (hcs : lo'.all (fun x => x.2.okIn ids) = true)
    (h : ∀ X : Ctx, Lent X → X.ids = ids → T Tryz.prog X N c (slots 0 args) lo (EndsP pv lo')) : CtrP Tryz.prog f args lo pv lo' :=
  CtrP.of_T hf hb hN (by simpa using hlen) (by rw [hi2]; exact hcs) (hi2.trans hi1.symm) fun X hL hX => h X hL (hX.trans hi1)
end
end Go.Proofs.YtcajofhafpkbdaaGreatDoor.Flow

namespace Go.Proofs.YtcajofhafpkbdaaGreatDoor.Flow
def lentX (w : World) (S : Cells) (r : Rho) (ids : List Nat) : Ctx := { w0 := w, S0 := S, L := fun b => ∃ k ∈ ids, ∃ l, r k = some l ∧ l.block = some b, r0 := keepR r ids, ids := ids }
section
variable {P : Program} {X : Ctx} {n : Nat}
theorem zmb {w : World} {S : Cells} {r : Rho} {O' : Nat → Option Own} {lo : Ow} {ids : List Nat} (hH : Hist X w S) (hI : Inv X w S r O') (hOk : ∀ k o, look k lo = some o → O' k = some o) (hi1 : lo.map (·.1) = ids) (hf1 : lo.all (fun x => x.2.okIn ids) = true) :
    Hist (lentX w S r ids) w S ∧ Inv (lentX w S r ids) w S (keepR r ids) (fO lo) := by
  have hmem : ∀ k, k ∈ ids → ∃ o, look k lo = some o := fun k h => zbd (by rw [hi1]; exact h)
  have hin : ∀ k o, look k lo = some o → k ∈ ids ∧ o.okIn ids = true := fun k o h => by
    have h1 := zaN h
    rw [List.all_eq_true] at hf1
    exact ⟨by rw [← hi1]; exact List.mem_map.2 ⟨(k, o), h1, rfl⟩, hf1 _ h1⟩
  have hblt : ∀ k l b, r k = some l → l.block = some b → b < w.heap.size := fun k l b hl hb => by
    cases ho : O' k with
    | none => rw [hI.dom k ho] at hl; cases hl
    | some o => exact (hI.obj k o ho).blockLt hl hb
  have hH' : Hist (lentX w S r ids) w S := ⟨rfl, rfl, rfl, Nat.le_refl _, fun _ _ _ => rfl, fun _ _ h => h, fun _ _ _ => rfl, fun _ _ h => .inl h, hH.valid, hH.glob⟩
  have hI' : Inv (lentX w S r ids) w S (keepR r ids) (fO lo) := by
    refine ⟨fun k o hk' => ?_, fun k hk' => ?_, fun i j l l' b' hij hl hl' hb' => ?_, fun k l b' hl hb' => ?_⟩
    · obtain ⟨h1, h2⟩ := hin k o hk'
      exact (hI.obj k o (hOk k o hk')).okIn h2 (RhoLe.refl _) (if_pos h1)
    · refine if_neg fun hm => ?_
      obtain ⟨o, ho⟩ := hmem k hm
      rw [show fO lo k = look k lo from rfl, ho] at hk'
      cases hk'
    · have hl : keepR r ids i = some l := hl
      have hl' : keepR r ids j = some l' := hl'
      simp only [keepR] at hl hl'
      split at hl <;> first | (cases hl; done) | skip
      split at hl' <;> first | (cases hl'; done) | skip
      exact hI.apart i j l l' b' hij hl hl' hb'
    · have hl : keepR r ids k = some l := hl
      simp only [keepR] at hl
      split at hl <;> first | (cases hl; done) | skip
      rename_i hm
      exact .inr ⟨k, hm, l, hl, hb'⟩
  exact ⟨hH', hI'⟩
theorem zoa {w w' : World} {S S' : Cells} {r r' : Rho} {O' : Nat → Option Own} {lo' : Ow} {ids : List Nat} (hH : Hist X w S) (hI : Inv X w S r O') (hi2 : lo'.map (·.1) = ids) (hnd : ids.Nodup) (hf2 : lo'.all (fun x => x.2.okIn ids) = true)
    (g2 : Hist (lentX w S r ids) w' S') (g3 : Inv (lentX w S r ids) w' S' r' (fO lo')) (g4 : RhoLe (keepR r ids) r') : ∃ r2, RhoLe r r2 ∧ RhoLe (keepR r' ids) r2 ∧ Hist X w' S' ∧ Inv X w' S' r2 (updO O' lo') := by
  have hmem' : ∀ k, k ∈ ids → ∃ o, look k lo' = some o := fun k h => zbd (by rw [hi2]; exact h)
  have hin' : ∀ k o, look k lo' = some o → k ∈ ids ∧ o.okIn ids = true := fun k o h => by
    have h1 := zaN h
    rw [List.all_eq_true] at hf2
    exact ⟨by rw [← hi2]; exact List.mem_map.2 ⟨(k, o), h1, rfl⟩, hf2 _ h1⟩
  have hblt : ∀ k l b, r k = some l → l.block = some b → b < w.heap.size := fun k l b hl hb => by
    cases ho : O' k with
    | none => rw [hI.dom k ho] at hl; cases hl
    | some o => exact (hI.obj k o ho).blockLt hl hb
  let r2 : Rho := fun k => if k ∈ ids then r' k else r k
  have hr2 : RhoLe r r2 := fun k l hl => by
    by_cases hm : k ∈ ids
    · obtain ⟨l', h1, h2⟩ := g4 k l (by show keepR r ids k = some l; rw [keepR, if_pos hm]; exact hl)
      exact ⟨l', by show (if k ∈ ids then r' k else r k) = some l'; rw [if_pos hm]; exact h1, h2⟩
    · exact ⟨l, by show (if k ∈ ids then r' k else r k) = some l; rw [if_neg hm]; exact hl, LocLe.refl l⟩
  have hr3 : RhoLe (keepR r' ids) r2 := fun k l hl => by
    simp only [keepR] at hl
    split at hl <;> first | (cases hl; done) | skip
    rename_i hm
    exact ⟨l, by show (if k ∈ ids then r' k else r k) = some l; rw [if_pos hm]; exact hl, LocLe.refl l⟩
  have hXL : ∀ b, (lentX w S r ids).L b → X.w0.heap.size ≤ b ∨ X.L b := fun b ⟨k, _, l, hl, hb⟩ => hI.low k l b hl hb
  have hother : ∀ k l b, k ∉ ids → r k = some l → l.block = some b → ¬ (lentX w S r ids).L b := fun k l b hm hl hb ⟨k', hm', l', hl', hb'⟩ =>
    hI.apart k k' l l' b (fun e => hm (e ▸ hm')) hl hl' hb hb'
  refine ⟨r2, hr2, hr3, ?_, ?_⟩
  · refine ⟨g2.os.trans hH.os, g2.tape.trans hH.tape, g2.output.trans hH.output, Nat.le_trans hH.size g2.size, fun k hk' hl => ?_, fun b o hb => g2.sub b o (hH.sub b o hb), fun b o hb => (g2.cell b o (hH.sub b o hb)).trans (hH.cell b o hb), fun b o hb => ?_, g2.valid, g2.glob⟩
    · refine (g2.block k (Nat.lt_of_lt_of_le hk' hH.size) fun hx => ?_).trans (hH.block k hk' hl)
      rcases hXL k hx with h | h
      · omega
      · exact hl h
    · rcases g2.new b o hb with h | h | h
      · exact hH.new b o h
      · exact .inr (.inl (Nat.le_trans hH.size h))
      · rcases hXL b h with h | h
        · exact .inr (.inl h)
        · exact .inr (.inr h)
  · have hnd' : (lo'.map (·.1)).Nodup := by rw [hi2]; exact hnd
    have hup : ∀ k, k ∉ ids → updO O' lo' k = O' k := fun k hm => by
      rw [zaS hnd', zbc (by rw [hi2]; exact hm)]
    refine ⟨fun k o hk' => ?_, fun k hk' => ?_, fun i j l l' b hij hl hl' hb => ?_, fun k l b hl hb => ?_⟩
    · by_cases hm : k ∈ ids
      · obtain ⟨o', ho'⟩ := hmem' k hm
        rw [zaS hnd', ho'] at hk'
        obtain rfl : o' = o := Option.some.inj hk'
        exact (g3.obj k o' ho').okIn (hin' k o' ho').2 hr3 (if_pos hm)
      · rw [hup k hm] at hk'
        refine (hI.obj k o hk').keepL g2.sub g2.cell hr2 (if_neg hm) (fun l b hl hb => g2.block b (hblt k l b hl hb) (hother k l b hm hl hb)) (fun b o hs => ?_)
        rcases g2.new b o hs with h | h | h
        · exact .inl h
        · refine .inr fun l hl hb => ?_
          have := hblt k l b hl hb
          have h : w.heap.size ≤ b := h
          omega
        · exact .inr fun l hl hb => hother k l b hm hl hb h
    · by_cases hm : k ∈ ids
      · obtain ⟨o', ho'⟩ := hmem' k hm
        rw [zaS hnd', ho'] at hk'
        cases hk'
      · rw [hup k hm] at hk'
        exact (if_neg hm).trans (hI.dom k hk')
    · have hl : (if i ∈ ids then r' i else r i) = some l := hl
      have hl' : (if j ∈ ids then r' j else r j) = some l' := hl'
      by_cases h1 : i ∈ ids
      · rw [if_pos h1] at hl
        by_cases h2 : j ∈ ids
        · rw [if_pos h2] at hl'
          exact g3.apart i j l l' b hij hl hl' hb
        · rw [if_neg h2] at hl'
          intro hb'
          rcases g3.low i l b hl hb with h | h
          · have := hblt j l' b hl' hb'
            have h : w.heap.size ≤ b := h
            omega
          · exact hother j l' b h2 hl' hb' h
      · rw [if_neg h1] at hl
        by_cases h2 : j ∈ ids
        · rw [if_pos h2] at hl'
          intro hb'
          rcases g3.low j l' b hl' hb' with h | h
          · have := hblt i l b hl hb
            have h : w.heap.size ≤ b := h
            omega
          · exact hother i l b h1 hl hb h
        · rw [if_neg h2] at hl'
          exact hI.apart i j l l' b hij hl hl' hb
    · have hl : (if k ∈ ids then r' k else r k) = some l := hl
      by_cases h1 : k ∈ ids
      · rw [if_pos h1] at hl
        rcases g3.low k l b hl hb with h | h
        · exact .inl (Nat.le_trans hH.size h)
        · exact hXL b h
      · rw [if_neg h1] at hl
        exact hI.low k l b hl hb
end
def CtrD (P : Program) (f : FuncId) (args : List D) (ow : Ow) (u : FrameMode) (ow' : Ow) (u' : FrameMode) : Prop :=
  ∀ (X : Ctx) (vs : Array Value), X.dfs = [] → X.ids = ow.map (·.1) → Hist X X.w0 X.S0 → Inv X X.w0 X.S0 X.r0 (fO ow) → vs.size = args.length → (∀ j, j < args.length → Rel X.S0 X.w0 X.r0 (args.getD j .any) (vs.getD j undef)) →
    CallsD P f vs u X.w0 fun e u1 w' => (∃ v, e = .returned v) ∧ u1 = u' ∧ ∃ S' r', Hist X w' S' ∧ Inv X w' S' r' (fO ow') ∧ RhoLe X.r0 r'
def TD (P : Program) (X : Ctx) (n : Nat) (c : Code) (fr : Fr) (ow : Ow) (R : Exit → Act → World → Prop) : Prop := ∀ a w, Rep X n (fF fr) (fO ow) a w → c.wp P R a w
def TS (P : Program) (X : Ctx) (n : Nat) (c : Code) (fr : Fr) (ow : Ow) (cs : List Frame) (R : Exit → Act → List Frame → World → Prop) : Prop := ∀ a w, Rep X n (fF fr) (fO ow) a w → c.wpS P R a cs w
section
variable {P : Program} {X : Ctx} {n : Nat} {fr : Fr} {ow : Ow}
theorem TD.out {c : Code} {R : Exit → Act → World → Prop} (h : TD P X n c fr ow R) : ∀ a w, Rep X n (fF fr) (fO ow) a w → c.wp P R a w := h
theorem TD.into {c : Code} {R : Exit → Act → World → Prop} (h : ∀ a w, Rep X n (fF fr) (fO ow) a w → c.wp P R a w) : TD P X n c fr ow R := h
theorem TD.seq {x y : Code} {R : Exit → Act → World → Prop} (h : T P X n x fr ow (thenQ (fun fr ow => TD P X n y fr ow R) (fun e fr ow => ∀ a w, Rep X n (fF fr) (fO ow) a w → R e a w))) : TD P X n (.seq x y) fr ow R := fun a w hr => by
  refine wp_seq (wp_mono (h a w hr).wide fun e a' w' hq => ?_)
  obtain ⟨fr', ow', h1, h2⟩ := hq
  cases e with
  | normal => exact h1 a' w' h2
  | _ => exact h1 a' w' h2
theorem TD.last {c : Code} {R : Exit → Act → World → Prop} (h : T P X n c fr ow (fun e fr ow => ∀ a w, Rep X n (fF fr) (fO ow) a w → R e a w)) : TD P X n c fr ow R := fun a w hr =>
  wp_mono (h a w hr).wide fun _ a' w' ⟨_, _, h1, h2⟩ => h1 a' w' h2
theorem TS.seq {x y : Code} {cs : List Frame} {R : Exit → Act → List Frame → World → Prop} (h : TS P X n x fr ow cs (Exit.thenS (fun a cs w => y.wpS P R a cs w) R)) : TS P X n (.seq x y) fr ow cs R := fun a w hr => wpS_seq (h a w hr)
theorem zeW {ops : Array Oper} {cs : List Frame} {Q : Exit → Act → List Frame → World → Prop} : ∀ {l : List Oper} {k : Nat} {F : Nat → D} {O : Nat → Option Own} {es : List Eff} {F' : Nat → D} {O' : Nat → Option Own},
    Ch P X n ops.toList l F O es F' O' → (∀ j, l[j]? = ops[k + j]?) → (∀ o ∈ l, o.guard = none) → (∀ a w, Rep X n F' O' a w → Q .normal a cs w) → ∀ a w, Rep X n F O a w → wpOpsS P ops Q (List.range' k l.length) a cs w
  | _, k, _, _, _, _, _, .nil F O, _, _, hQ, a, w, hr => by simpa [wpOpsS] using hQ a w hr
  | _, k, _, _, _, _, _, .cons o rest F O e es F' O' h t, hl, hg, hQ, a, w, hr => by
    have h0 : ops[k]? = some o := by simpa using (hl 0).symm
    have hgo : o.guard = none := hg o (by simp)
    rw [List.length_cons, List.range'_succ]
    have hd := h F O (fun _ _ => rfl) (fun _ _ => rfl)
    unfold Does at hd
    simp only [hgo] at hd
    have hw := (hd a w (fun a' w' => wpOpsS P ops Q (List.range' (k + 1) rest.length) a' cs w') (fun e a w => Q e a cs w) hr fun v w' h' =>
      zeW t (fun j => by have := hl (j + 1); simpa [Nat.add_assoc, Nat.add_comm 1 j] using this) (fun o ho => hg o (by simp [ho])) hQ _ w' h').1
    simp only [wpOpsS, h0, Region.wanted, hgo, if_true]
    unfold Oper.wp at hw
    split
    · rename_i w' hrun
      rw [hrun] at hw
      exact hw.elim
    · exact hw
theorem TS.recover {id : Nat} {t : Nat} {ty : TypeId} {pos : String} {af : Array Edge} {rest : List Oper} {cs cs' : List Frame} {v : Value} {R : Exit → Act → List Frame → World → Prop}
    (hn : t < n) (hc : match recoverD cs with | some (v', cs2) => v' = v ∧ cs2 = cs' | none => v = .nilIface ∧ cs' = cs) (hg : rest.all (fun o => o.guard.isNone) = true)
    (h : CT P X n (⟨some t, .call ⟨.builtin .recover, #[], #[]⟩, ty, pos, af, none⟩ :: rest) rest ((t, .v v) :: fr) ow [] fun fr ow _ => ∀ a w, Rep X n (fF fr) (fO ow) a w → R .normal a cs' w) :
    TS P X n (.region id ⟨⟨some t, .call ⟨.builtin .recover, #[], #[]⟩, ty, pos, af, none⟩ :: rest⟩ false) fr ow cs R := fun a w hr => by
  refine wpS_region ?_
  obtain ⟨es, fr', ow', hch, hK⟩ := h
  generalize ho : (⟨some t, .call ⟨.builtin .recover, #[], #[]⟩, ty, pos, af, none⟩ : Oper) = o at *
  have hlen : (⟨o :: rest⟩ : Array Oper).size = rest.length + 1 := rfl
  have h0 : (⟨o :: rest⟩ : Array Oper)[0]? = some o := rfl
  have hgo : o.guard = none := by rw [← ho]
  have hrun : (execOp a.eval o).run P w = .ok .recover w := by
    rw [← ho]
    simp [execOp, resolve, invoke, builtin]
  have hrep : Rep X n (fF ((t, .v v) :: fr)) (fO ow) (a.put o.dst v) w := by
    obtain ⟨S, r, h1, h2, h3, h4, h5, h6⟩ := hr
    rw [zaH, ← ho]
    exact ⟨S, r, h1, h2, zcx h3 (show t < a.tmps.size by omega) (.v ..), by rw [zbk]; exact h4, by rw [zbP]; exact h5, h6⟩
  rw [List.range_eq_range', hlen, List.range'_succ]
  simp only [wpOpsS, h0, Region.wanted, hgo, if_true, hrun]
  have next : wpOpsS P ⟨o :: rest⟩ R (List.range' (0 + 1) rest.length) (a.put o.dst v) cs' w := by
    refine zeW (ops := ⟨o :: rest⟩) (k := 0 + 1) hch (fun j => ?_) (fun o2 ho2 => ?_) (fun a w hr => hK a w hr) _ w hrep
    · show rest[j]? = (o :: rest).toArray[0 + 1 + j]?
      rw [List.getElem?_toArray, show 0 + 1 + j = j + 1 by omega, List.getElem?_cons_succ]
    · have := List.all_eq_true.1 hg o2 ho2
      exact Option.isNone_iff_eq_none.1 this
  split
  · rename_i v' cs2 hrec
    rw [hrec] at hc
    obtain ⟨rfl, rfl⟩ := hc
    exact next
  · rename_i hrec
    rw [hrec] at hc
    obtain ⟨rfl, rfl⟩ := hc
    exact next
theorem CtrD.of_TS {f : FuncId} {fn : Func} {c : Code} {N : Nat} {args : List D} {lo lo' : Ow} {u u' : FrameMode} {ids : List Nat} (hf : P.funcs[f]? = some fn) (hb : fn.body = some c) (hN : fn.ntmps = N) (hrs : fn.results = #[]) (hlen : args.length ≤ N)
    (hi1 : lo.map (·.1) = ids) (hi2 : lo'.map (·.1) = ids) (hcs : lo'.all (fun x => x.2.okIn ids) = true)
    (h : ∀ (X : Ctx) (c₀ : Frame) (cs : List Frame), Lent X → X.ids = ids → X.dfs = [] → c₀.mode = u → TS P X N c (slots 0 args) lo (c₀ :: cs) fun e a cs2 w => (e = .normal ∨ e = .ret) ∧ cs2 = { c₀ with mode := u' } :: cs ∧ ∃ fr2 ow2, Rep X N (fF fr2) (fO ow2) a w ∧ leOw ow2 lo') : CtrD P f args lo u lo' u' := by
  intro X vs hdf0 hid hH hI hsz hrel
  have hL : Lent X := fun k hk => by
    rw [hid]
    cases hmem : look k lo with
    | none => exact absurd (hI.dom k hmem) hk
    | some o =>
      by_cases hm : k ∈ lo.map (·.1)
      · exact hm
      · rw [zbc hm] at hmem; cases hmem
  refine callsD_of_wpS hf hb fun c₀ cs hu => ?_
  have hrep : Rep X N (fF (slots 0 args)) (fO lo) { tmps := vs ++ Array.replicate (fn.ntmps - vs.size) undef, defers := [] } X.w0 := by
    refine ⟨X.S0, X.r0, hH, hI, fun t => ?_, hdf0.symm, by simp; omega, RhoLe.refl _⟩
    show Rel _ _ _ (getD' t (slots 0 args)) _
    rw [zbW]
    simp only [Nat.zero_le, if_true, Nat.sub_zero]
    by_cases ht : t < args.length
    · have := hrel t ht
      rw [Array.getD_eq_getD_getElem?, Array.getElem?_append_left (by omega), ← Array.getD_eq_getD_getElem?]
      exact this
    · rw [List.getD_eq_getElem?_getD, List.getElem?_eq_none (by omega)]
      exact .any ..
  have key := h X c₀ cs hL (hid.trans hi1) hdf0 hu _ _ hrep
  have hres : ∀ (tmps : Array Value) (w : World), (results fn tmps).run P w = .ok (.tuple #[]) w := fun tmps w => by
    simp [zcf, hrs]
  intro b k hk hr
  obtain ⟨e, a', cs2, w', ⟨he, hcs2, fr2, ow2, hrep2, hlo⟩, harr⟩ := key b k hk hr
  refine ⟨e, a', cs2, w', ?_, harr⟩
  obtain ⟨S, r, hH2, hI2, hF2, hd2, _, hρ2⟩ := hrep2
  have hfin : ∃ S' r', Hist X w' S' ∧ Inv X w' S' r' (fO lo') ∧ RhoLe X.r0 r' := by
    refine ⟨S, keepR r (lo'.map (·.1)), hH2, hI2.keep hlo (by rw [hi2]; exact hcs), fun k l hk => ?_⟩
    obtain ⟨l', g1, g2⟩ := hρ2 k l hk
    have : k ∈ lo'.map (·.1) := by
      rw [hi2, ← hi1, ← hid]
      exact hL k (by rw [hk]; simp)
    exact ⟨l', by simp only [keepR]; rw [if_pos this]; exact g1, g2⟩
  rcases he with rfl | rfl
  · exact ⟨hd2.trans hdf0, u', hcs2, .tuple #[], hres _ _, ⟨_, rfl⟩, rfl, hfin⟩
  · exact ⟨hd2.trans hdf0, u', hcs2, .tuple #[], hres _ _, ⟨_, rfl⟩, rfl, hfin⟩
structure Put (X X1 : Ctx) (f : FuncId) (ks : List Nat) (vs : Array Value) : Prop where
  w0 : X1.w0 = X.w0
  S0 : X1.S0 = X.S0
  L : X1.L = X.L
  ids : X1.ids = ks
  dfs : X1.dfs = [⟨.fn (.func f) vs, #[]⟩]
  size : vs.size = ks.length
  at' : ∀ j, j < ks.length → ∃ b, X1.r0 (ks.getD j 0) = some (.blk b) ∧ vs.getD j undef = .pointer (some ⟨b, 0, none⟩)
  lent : Lent X1
theorem Hist.of_put {X1 : Ctx} {f : FuncId} {ks : List Nat} {vs : Array Value} (h : Put X X1 f ks vs) {w : World} {S : Cells} (hH : Hist X1 w S) : Hist X w S := by
  obtain ⟨w0, S0, L, r0, ids, dfs⟩ := X1
  have e1 : w0 = X.w0 := h.w0
  have e2 : S0 = X.S0 := h.S0
  have e3 : L = X.L := h.L
  subst e1 e2 e3
  exact ⟨hH.os, hH.tape, hH.output, hH.size, hH.block, hH.sub, hH.cell, hH.new, hH.valid, hH.glob⟩
theorem TD.defer {id t : Nat} {f : FuncId} {ks : List Nat} {xs : List Operand} {ty1 ty2 : TypeId} {p1 p2 : String} {af1 af2 : Array Edge} {rest : Code} {R : Exit → Act → World → Prop}
    (hdf : X.dfs = []) (_hr0 : X.r0 = noRho) (ht : t < n) (hxs : xs.map (ev fr) = ks.map fun k => D.pv k 0)
    (h : ∀ X1 vs, Put X X1 f ks vs → TD P X1 n rest ((t, .fn f (ks.map fun k => .pv k 0)) :: fr) ow R) :
    TD P X n (.seq (.region id ⟨[⟨some t, .makeFunc (.func f) #[] ⟨xs⟩, ty1, p1, af1, none⟩, ⟨none, .defer ⟨.value (.tmp t), #[], #[]⟩, ty2, p2, af2, none⟩]⟩ false) rest) fr ow R := fun a w hr => by
  generalize ho1 : (⟨some t, .makeFunc (.func f) #[] ⟨xs⟩, ty1, p1, af1, none⟩ : Oper) = o1
  generalize ho2 : (⟨none, .defer ⟨.value (.tmp t), #[], #[]⟩, ty2, p2, af2, none⟩ : Oper) = o2
  refine wp_seq (wp_region ?_)
  have hs : step (tb P) (ev fr) (fun k => look k ow) o1 = some ⟨.fn f (ks.map fun k => .pv k 0), True, [], []⟩ := by
    rw [← ho1]
    show fzA (xs.map (ev fr)) (fun l => Stp.pure (.fn f l)) = _
    rw [zdk, hxs]
    rfl
  have hst := zbM (P := P) (X := X) (n := n) hs True.intro (by rw [← ho1]; exact ht) (fF fr) (fO ow) (fun x _ => zaZ fr x) (fun _ _ => rfl)
  have hr2 : List.range (⟨[o1, o2]⟩ : Array Oper).size = [0, 1] := rfl
  have h01 : (⟨[o1, o2]⟩ : Array Oper)[0]? = some o1 := rfl
  have h02 : (⟨[o1, o2]⟩ : Array Oper)[1]? = some o2 := rfl
  have hg1 : o1.guard = none := by rw [← ho1]
  have hg2 : o2.guard = none := by rw [← ho2]
  rw [hr2]
  simp only [wpOps, h01, h02, Region.wanted, hg1, hg2, if_true]
  refine .inl (OW.left (hst a w _ _ hr fun v w1 hrep => ?_))
  left
  have hd1 : o1.dst = some t := by rw [← ho1]
  rw [hd1] at hrep ⊢
  obtain ⟨S, r, hH, hI, hF, hdfs, hn, hρ⟩ := hrep
  generalize a.put (some t) v = a1 at *
  have hft := hF t
  rw [show updF (fF fr) (some t) (.fn f (ks.map fun k => .pv k 0)) t = .fn f (ks.map fun k => .pv k 0) by simp [updF]] at hft
  generalize hu : a1.tmps.getD t undef = u at hft
  cases hft with
  | fn _ _ _ vs hvn hvr =>
    have hev : a1.eval (.tmp t) = .func (.func f) #[] vs := hu
    have hrun : (execOp a1.eval o2).run P w1 = .ok (.defer ⟨.fn (.func f) vs, #[]⟩) w1 := by
      rw [← ho2]
      simp [execOp, resolve, hev, Deferred.ofValue]
    unfold Oper.wp
    rw [hrun]
    have hd2 : o2.dst = none := by rw [← ho2]
    show Exit.then (fun a w => rest.wp P R a w) R .normal ({ a1 with defers := ⟨.fn (.func f) vs, #[]⟩ :: a1.defers }.put o2.dst undef) w1
    rw [hd2]
    let X1 : Ctx := { w0 := X.w0, S0 := X.S0, L := X.L, r0 := keepR r ks, ids := ks, dfs := [⟨.fn (.func f) vs, #[]⟩] }
    have hvs : vs.size = ks.length := by simpa using hvn
    have hput : Put X X1 f ks vs := by
      refine ⟨rfl, rfl, rfl, rfl, rfl, hvs, fun j hj => ?_, fun k hk => ?_⟩
      · have h1 := hvr j (by simpa using hj)
        rw [show (ks.map fun k => D.pv k 0).getD j .any = .pv (ks.getD j 0) 0 by simp [List.getD_eq_getElem?_getD, hj]] at h1
        generalize vs.getD j undef = x at h1 ⊢
        cases h1 with
        | pv _ _ _ b hb =>
          refine ⟨b, ?_, rfl⟩
          show keepR r ks (ks.getD j 0) = some (.blk b)
          rw [keepR, if_pos]
          · exact hb
          · rw [List.getD_eq_getElem?_getD, List.getElem?_eq_getElem hj, Option.getD_some]
            exact List.getElem_mem hj
      · have hk : keepR r ks k ≠ none := hk
        show k ∈ ks
        rw [keepR] at hk
        by_cases hm : k ∈ ks
        · exact hm
        · rw [if_neg hm] at hk
          exact absurd rfl hk
    refine h X1 vs hput _ w1 ?_
    refine ⟨S, r, ⟨hH.os, hH.tape, hH.output, hH.size, hH.block, hH.sub, hH.cell, hH.new, hH.valid, hH.glob⟩, ⟨hI.obj, hI.dom, hI.apart, hI.low⟩, fun z => ?_, ?_, hn, fun k l hk => ?_⟩
    · rw [zaH]
      exact hF z
    · show ⟨.fn (.func f) vs, #[]⟩ :: a1.defers = [⟨.fn (.func f) vs, #[]⟩]
      rw [hdfs, hdf]
    · have hk : keepR r ks k = some l := hk
      rw [keepR] at hk
      by_cases hm : k ∈ ks
      · rw [if_pos hm] at hk
        exact ⟨l, hk, LocLe.refl l⟩
      · rw [if_neg hm] at hk
        cases hk
theorem znw {X1 : Ctx} {f : FuncId} {fn : Func} {ks : List Nat} {vs : Array Value} {lo lo' : Ow} {u u' : FrameMode} {rs : List ResultVar} {d d2 : D} {a : Act} {w : World} (hput : Put X X1 f ks vs)
    (hP : ∀ vs w, (callFunc f vs).run P w = .ok (.enter f vs) w) (hC : CtrD P f (ks.map fun k => .pv k 0) lo u lo' u') (hrun : u ≠ .run) (hset : settle u' = .returning)
    (hk : hasAll (fun k => look k ow) lo) (hi1 : lo.map (·.1) = ks) (hi2 : lo'.map (·.1) = ks) (hnd : ks.Nodup) (hf1 : lo.all (fun x => x.2.okIn ks) = true) (hf2 : lo'.all (fun x => x.2.okIn ks) = true)
    (hrep : Rep X1 n (fF fr) (fO ow) a w) (hrs : fn.results = ⟨rs⟩) {ow2 : Ow} (how : fO ow2 = updO (fO ow) lo') (hres : resD (tb P) fr ow2 rs = some d2) (hw : Weak d2 d) (hd : d.free = true) :
    Leaves P fn a.tmps (fun e w' => ∃ v S', e = .returned v ∧ Rel S' w' noRho d v ∧ Hist X w' S') a.defers u w := by
  obtain ⟨S, r, hH, hI, hF, hdfs, hn, hρ⟩ := hrep
  rw [hdfs, hput.dfs]
  have hOk : ∀ k o, look k lo = some o → fO ow k = some o := fun k o h => zbL hk k o h
  obtain ⟨hH', hI'⟩ := zmb hH hI hOk hi1 hf1
  have hinv : (invoke (.fn (.func f) vs) #[]).run P w = .ok (.enter f vs) w := by
    have := hP vs w
    simpa [invoke] using this
  have hrel : ∀ j, j < (ks.map fun k => D.pv k 0).length → Rel S w (keepR r ks) ((ks.map fun k => D.pv k 0).getD j .any) (vs.getD j undef) := fun j hj => by
    have hj' : j < ks.length := by simpa using hj
    obtain ⟨b, h1, h2⟩ := hput.at' j hj'
    rw [show (ks.map fun k => D.pv k 0).getD j .any = .pv (ks.getD j 0) 0 by simp [List.getD_eq_getElem?_getD, hj'], h2]
    refine .pv _ _ _ b ?_
    obtain ⟨l', g1, g2⟩ := hρ _ _ h1
    have hm : ks.getD j 0 ∈ ks := by
      rw [List.getD_eq_getElem?_getD, List.getElem?_eq_getElem hj', Option.getD_some]
      exact List.getElem_mem hj'
    rw [keepR, if_pos hm]
    cases l' with
    | blk b' =>
      simp only [LocLe] at g2
      subst g2
      exact g1
    | row => simp [LocLe] at g2
  refine leaves_cons hrun hinv ((hC (lentX w S r ks) vs rfl hi1.symm hH' hI' (by simpa using hput.size) hrel).mono ?_)
  rintro e u1 w' ⟨⟨v0, rfl⟩, rfl, S', r', g2, g3, g4⟩
  obtain ⟨r2, q1, q2, q3, q4⟩ := zoa hH hI hi2 hnd hf2 g2 g3 g4
  dsimp only
  rw [hset]
  rw [← how] at q4
  obtain ⟨v, hv, hvr⟩ := zdC (P := P) (fn := fn) (a := a) hrs q4 (fun t => (hF t).mono g2.sub g2.cell r2 q1) hres
  exact ⟨v, hv, v, S', rfl, (hvr.weak hw).free hd noRho, q3.of_put hput⟩
end
attribute [irreducible] TD
end Go.Proofs.YtcajofhafpkbdaaGreatDoor.Flow

namespace Go.Proofs.YtcajofhafpkbdaaGreatDoor.Flow
section
variable {P : Program} {X : Ctx} {n : Nat} {o : Oper} {fr : Fr} {ow : Ow} {T xT : TypeId} {x : Operand} {k1 k2 : IntKind} {a b : Int} {fs : Array Field} {zd : D}
theorem ziV (hT : P.underlying T = some (.struct fs)) (ho : o.op = .typeAssert x xT T true) (hx : ev fr x = .v (.iface T (.agg #[.int k1 a, .int k2 b]))) (hd : dstOk o.dst n) :
    ∀ F' O', (∀ y ∈ o.op.operands.toList, evF F' y = evF (fF fr) y) → (∀ j ∈ ([] : List Nat), O' j = fO ow j) → StepAt P X n o F' O' (.tu [.ag [.i k1 a, .i k2 b], .b true]) [] := by
  intro F' O' he _
  refine zax hd fun ac w S r hH hI hr => ?_
  have hx' := hr x
  rw [he x (by simp [ho, Op.operands]), zaZ, hx] at hx'
  refine ⟨.tuple #[.agg #[.int k1 a, .int k2 b], .bool true], w, S, r, .inl ?_, .tu _ _ _ rfl fun j hj => ?_, hH, hI, fun _ _ h => h, fun _ _ _ => rfl, RhoLe.refl r⟩
  · generalize hv : ac.eval x = v at hx'
    cases hx'
    simp [execOp, ho, hv, Instr.typeAssert, run_underlying hT, Result.andThen]
  · match j, hj with
    | 0, _ => exact .ag _ _ _ rfl fun j hj => match j, hj with
      | 0, _ => .i ..
      | 1, _ => .i ..
    | 1, _ => exact .b ..
theorem zib (hT : P.underlying T = some (.struct fs)) (hz : zeroD P T = some zd) (ho : o.op = .typeAssert x xT T true) (hx : ev fr x = .v .nilIface) (hd : dstOk o.dst n) :
    ∀ F' O', (∀ y ∈ o.op.operands.toList, evF F' y = evF (fF fr) y) → (∀ j ∈ ([] : List Nat), O' j = fO ow j) → StepAt P X n o F' O' (.tu [zd, .b false]) [] := by
  intro F' O' he _
  refine zax hd fun ac w S r hH hI hr => ?_
  have hx' := hr x
  rw [he x (by simp [ho, Op.operands]), zaZ, hx] at hx'
  obtain ⟨i, zv, q1, q2, q3⟩ := zbj hz
  refine ⟨.tuple #[zv, .bool false], w, S, r, .inl ?_, .tu _ _ _ rfl fun j hj => ?_, hH, hI, fun _ _ h => h, fun _ _ _ => rfl, RhoLe.refl r⟩
  · generalize hv : ac.eval x = v at hx'
    cases hx'
    simp [execOp, ho, hv, Instr.typeAssert, run_underlying hT, Result.andThen, zeroValue, typeInfo, q1, q2]
  · match j, hj with
    | 0, _ =>
      have := zbv S w r zv
      rw [← q3] at this
      exact this
    | 1, _ => exact .b ..
end
section
variable {X : Ctx} {n : Nat} {all rest : List Oper} {fr : Fr} {ow : Ow} {tr : List (List Nat × List Nat)} {K : Fr → Ow → List (List Nat × List Nat) → Prop}
variable {t : Nat} {ty T xT : TypeId} {ps : String} {af : Array Edge} {x : Operand} {k1 k2 : IntKind} {a b : Int} {fs : Array Field} {zd : D}
set_option maxRecDepth 100000 in
theorem znr (hT : Tryz.prog.underlying T = some (.struct fs)) (hx : ev fr x = .v (.iface T (.agg #[.int k1 a, .int k2 b]))) (hn : Nat.blt t n = true)
    (h : CT Tryz.prog X n all rest ((t, .tu [.ag [.i k1 a, .i k2 b], .b true]) :: fr) ow (tr ++ [([], [])]) K) : CT Tryz.prog X n all (⟨some t, .typeAssert x xT T true, ty, ps, af, none⟩ :: rest) fr ow tr K :=
  CT.cons (e := ⟨.tu [.ag [.i k1 a, .i k2 b], .b true], [], []⟩) (.plain rfl (ziV (P := Tryz.prog) (X := X) (o := ⟨some t, .typeAssert x xT T true, ty, ps, af, none⟩) hT rfl hx (show t < n from Nat.le_of_ble_eq_true hn))) (zaH ..) rfl h
set_option maxRecDepth 100000 in
theorem zoF (hT : Tryz.prog.underlying T = some (.struct fs)) (hz : B.zr T = some zd) (hx : ev fr x = .v .nilIface) (hn : Nat.blt t n = true)
    (h : CT Tryz.prog X n all rest ((t, .tu [zd, .b false]) :: fr) ow (tr ++ [([], [])]) K) : CT Tryz.prog X n all (⟨some t, .typeAssert x xT T true, ty, ps, af, none⟩ :: rest) fr ow tr K := by
  have hz' : zeroD Tryz.prog T = some zd := by
    have : (tb Tryz.prog).zr T = some zd := by rw [zcD]; exact hz
    exact this
  exact CT.cons (e := ⟨.tu [zd, .b false], [], []⟩) (.plain rfl (zib (P := Tryz.prog) (X := X) (o := ⟨some t, .typeAssert x xT T true, ty, ps, af, none⟩) hT hz' rfl hx (show t < n from Nat.le_of_ble_eq_true hn))) (zaH ..) rfl h
end
section
variable {X : Ctx} {n : Nat} {fr : Fr} {ow : Ow} {Q : Exit → Fr → Ow → Prop} {R : Exit → Act → World → Prop}
end
end Go.Proofs.YtcajofhafpkbdaaGreatDoor.Flow

namespace Go.Proofs.YtcajofhafpkbdaaGreatDoor.Flow
section
variable {X : Ctx} {n : Nat} {fr : Fr} {ow : Ow}
def Fin (X : Ctx) (d : D) (e : Ending) (w' : World) : Prop := ∃ v S', e = .returned v ∧ Rel S' w' noRho d v ∧ Hist X w' S'
def Raw (X : Ctx) (n : Nat) (R : Exit → Act → World → Prop) (e : Exit) (fr : Fr) (ow : Ow) : Prop := ∀ a w, Rep X n (fF fr) (fO ow) a w → R e a w
theorem zrV {R : Exit → Act → World → Prop} (h : Stay (∀ a w, Rep X n (fF fr) (fO ow) a w → R .normal a w)) : Nrm (Raw X n R) fr ow := by
  unfold Nrm
  exact h.out
theorem zsy {R : Exit → Act → World → Prop} (h : Stay (∀ a w, Rep X n (fF fr) (fO ow) a w → R .ret a w)) : Rtn (Raw X n R) fr ow := by
  unfold Rtn
  exact h.out
theorem zsc {pv : Value} {R : Exit → Act → World → Prop} (h : Stay (∀ a w, Rep X n (fF fr) (fO ow) a w → R (.panic (pchain pv)) a w)) : Pnc pv (Raw X n R) fr ow := by
  unfold Pnc
  exact h.out
theorem zcS {x y : Code} {R : Exit → Act → World → Prop} (h : T Tryz.prog X n x fr ow (thenQ (fun fr ow => TD Tryz.prog X n y fr ow R) (Raw X n R))) : TD Tryz.prog X n (.seq x y) fr ow R := TD.seq h
theorem zjY {c : Code} {R : Exit → Act → World → Prop} (h : T Tryz.prog X n c fr ow (Raw X n R)) : TD Tryz.prog X n c fr ow R := TD.last h
theorem zhw {id t : Nat} {f : FuncId} (ks : List Nat) {xs : List Operand} {ty1 ty2 : TypeId} {p1 p2 : String} {af1 af2 : Array Edge} {rest : Code} {R : Exit → Act → World → Prop}
    (hdf : X.dfs = []) (hr0 : X.r0 = noRho) (ht : Nat.blt t n = true) (hxs : xs.map (ev fr) = ks.map fun k => D.pv k 0)
    (h : ∀ X1 vs, Put X X1 f ks vs → TD Tryz.prog X1 n rest ((t, .fn f (ks.map fun k => .pv k 0)) :: fr) ow R) :
    TD Tryz.prog X n (.seq (.region id ⟨[⟨some t, .makeFunc (.func f) #[] ⟨xs⟩, ty1, p1, af1, none⟩, ⟨none, .defer ⟨.value (.tmp t), #[], #[]⟩, ty2, p2, af2, none⟩]⟩ false) rest) fr ow R :=
  TD.defer hdf hr0 (Nat.le_of_ble_eq_true ht) hxs h
theorem zns {fn : Func} {rs : List ResultVar} {d d2 : D} {a : Act} {w : World} (hdf : X.dfs = []) (hrep : Rep X n (fF fr) (fO ow) a w) (hrs : fn.results = ⟨rs⟩) (hres : resD B fr ow rs = some d2) (hw : Weak d2 d) (hd : d.free = true) :
    Leaves Tryz.prog fn a.tmps (Fin X d) a.defers .returning w := by
  obtain ⟨S, r, hH, hI, hF, hdfs, hn, hρ⟩ := hrep
  rw [hdfs, hdf]
  obtain ⟨v, hv, hvr⟩ := zdC (P := Tryz.prog) (fn := fn) (a := a) hrs hI hF (by rw [zcD]; exact hres)
  exact ⟨v, hv, v, S, rfl, (hvr.weak hw).free hd noRho, hH⟩
theorem zsx {f : FuncId} {fn : Func} {c : Code} {N : Nat} {args : List D} {d : D} (hf : Tryz.prog.funcs[f]? = some fn) (hb : fn.body = some c) (hN : fn.ntmps = N) (hlen : Nat.ble args.length N = true)
    (h : ∀ X : Ctx, Lent X → X.ids = [] → X.dfs = [] → X.r0 = noRho → TD Tryz.prog X N c (slots 0 args) [] (bodyPostD Tryz.prog fn (Fin X d))) : Ctr Tryz.prog f args d := by
  intro w S vs hv hgl hn hr
  let X : Ctx := { w0 := w, S0 := S, L := fun _ => False }
  have hrep : Rep X N (fF (slots 0 args)) (fO []) { tmps := vs ++ Array.replicate (fn.ntmps - vs.size) undef, defers := [] } w := by
    have hlen' : args.length ≤ N := by simpa using hlen
    refine ⟨S, noRho, zgF w S _ hv hgl, zhm _ _ _, fun t => ?_, rfl, by simp; omega, RhoLe.refl _⟩
    show Rel _ _ _ (getD' t (slots 0 args)) _
    rw [zbW]
    simp only [Nat.zero_le, if_true, Nat.sub_zero]
    by_cases ht : t < args.length
    · have := hr t ht
      rw [Array.getD_eq_getD_getElem?, Array.getElem?_append_left (by omega), ← Array.getD_eq_getD_getElem?]
      exact this
    · rw [List.getD_eq_getElem?_getD, List.getElem?_eq_none (by omega)]
      exact .any ..
  exact calls_of_wp_defers hf hb ((h X (fun k hk => absurd rfl hk) rfl rfl rfl).out _ w hrep)
theorem zjJ {X1 : Ctx} {f : FuncId} {fn : Func} {ks : List Nat} {vs : Array Value} {lo lo' : Ow} {u u' : FrameMode} {rs : List ResultVar} {d d2 : D} {a : Act} {w : World} (hput : Put X X1 f ks vs)
    (hP : ∀ vs w, (callFunc f vs).run Tryz.prog w = .ok (.enter f vs) w) (hC : CtrD Tryz.prog f (ks.map fun k => .pv k 0) lo u lo' u') (hrun : u ≠ .run) (hset : settle u' = .returning)
    (hk : hasAll (fun k => look k ow) lo) (hi1 : lo.map (·.1) = ks) (hi2 : lo'.map (·.1) = ks) (hnd : ks.Nodup) (hf1 : lo.all (fun x => x.2.okIn ks) = true) (hf2 : lo'.all (fun x => x.2.okIn ks) = true)
    (hrep : Rep X1 n (fF fr) (fO ow) a w) (hrs : fn.results = ⟨rs⟩) (ow2 : Ow) (how : fO ow2 = updO (fO ow) lo') (hres : resD B fr ow2 rs = some d2) (hw : Weak d2 d) (hd : d.free = true) :
    Leaves Tryz.prog fn a.tmps (Fin X d) a.defers u w :=
  znw hput hP hC hrun hset hk hi1 hi2 hnd hf1 hf2 hrep hrs how (by rw [zcD]; exact hres) hw hd
theorem zgK {id : Nat} {t : Nat} {ty : TypeId} {pos : String} {af : Array Edge} {rest : List Oper} {y : Code} {cs : List Frame} (cs' : List Frame) (v : Value) {R : Exit → Act → List Frame → World → Prop}
    (hn : Nat.blt t n = true) (hc : match recoverD cs with | some (v', cs2) => v' = v ∧ cs2 = cs' | none => v = .nilIface ∧ cs' = cs) (hg : rest.all (fun o => o.guard.isNone) = true)
    (h : CT Tryz.prog X n (⟨some t, .call ⟨.builtin .recover, #[], #[]⟩, ty, pos, af, none⟩ :: rest) rest ((t, .v v) :: fr) ow [] fun fr ow _ => TD Tryz.prog X n y fr ow fun e a w => R e a cs' w) :
    TS Tryz.prog X n (.seq (.region id ⟨⟨some t, .call ⟨.builtin .recover, #[], #[]⟩, ty, pos, af, none⟩ :: rest⟩ false) y) fr ow cs R := by
  refine TS.seq (TS.recover (v := v) (cs' := cs') (Nat.le_of_ble_eq_true hn) hc hg ?_)
  obtain ⟨es, fr', ow', hch, hK⟩ := h
  exact ⟨es, fr', ow', hch, fun a w hr => wpS_of_wp (hK.out a w hr)⟩
end
end Go.Proofs.YtcajofhafpkbdaaGreatDoor.Flow

namespace Go.Proofs.YtcajofhafpkbdaaGreatDoor.Flow
open Go
section
variable {P : Program} {X : Ctx} {n : Nat} {fr : Fr} {ow : Ow} {d : D}
structure Stab (Hx : Cells → World → Rho → Prop) (ids : List Nat) : Prop where
  mono : ∀ {S S' : Cells} {w w' : World} {r r' : Rho}, Hx S w r → (∀ b o, S b o → S' b o) → (∀ b o, S b o → w'.cell? ⟨b, o, none⟩ = w.cell? ⟨b, o, none⟩) → RhoLe r r' → Hx S' w' r'
  keep : ∀ {S : Cells} {w : World} {r : Rho}, Hx S w r → Hx S w (keepR r ids)
def CtrH (P : Program) (f : FuncId) (Hx : Cells → World → Rho → Prop) (args : List D) (ow : Ow) (d : D) (ow' : Ow) : Prop :=
  ∀ (X : Ctx) (vs : Array Value), X.dfs = [] → X.ids = ow.map (·.1) → Hx X.S0 X.w0 X.r0 → Hist X X.w0 X.S0 → Inv X X.w0 X.S0 X.r0 (fO ow) → vs.size = args.length → (∀ j, j < args.length → Rel X.S0 X.w0 X.r0 (args.getD j .any) (vs.getD j undef)) →
    Calls P f vs X.w0 fun e w' => ∃ v S' r', e = .returned v ∧ Rel S' w' r' d v ∧ Hist X w' S' ∧ Inv X w' S' r' (fO ow') ∧ RhoLe X.r0 r'
end

section
variable {P : Program} {X : Ctx} {n : Nat} {fr : Fr} {ow ow' : Ow} {d : D}
theorem CtrH.of_TU {Hx : Cells → World → Rho → Prop} {f : FuncId} {fn : Func} {c : Code} {N : Nat} {rs : List ResultVar} {args : List D} {d : D} (hf : P.funcs[f]? = some fn) (hb : fn.body = some c) (hN : fn.ntmps = N) (hrs : fn.results = ⟨rs⟩) (hlen : args.length ≤ N)
    (h : ∀ X : Ctx, Lent X → X.ids = ow.map (·.1) → X.dfs = [] → Hx X.S0 X.w0 X.r0 → T P X N c (slots 0 args) ow (fun e fr2 ow2 => (e = .ret ∨ e = .normal) ∧ ∃ d2, resU (tb P) fr2 ow2 rs = some d2 ∧ Weak d2 d ∧ d.okIn (ow'.map (·.1)) = true ∧ Le X fr2 ow2 [] ow')) :
    CtrH P f Hx args ow d ow' := by
  intro X vs hdf0 hids hx hH hI hsz hrel
  have hL : Lent X := fun k hk => by
    rw [hids]
    cases hmem : look k ow with
    | none => exact absurd (hI.dom k hmem) hk
    | some o =>
      by_cases hm : k ∈ ow.map (·.1)
      · exact hm
      · rw [zbc hm] at hmem; cases hmem
  refine calls_of_wp hf hb ?_
  have hrep : Rep X N (fF (slots 0 args)) (fO ow) { tmps := vs ++ Array.replicate (fn.ntmps - vs.size) undef, defers := [] } X.w0 := by
    refine ⟨X.S0, X.r0, hH, hI, fun t => ?_, hdf0.symm, by simp; omega, RhoLe.refl _⟩
    show Rel _ _ _ (getD' t (slots 0 args)) _
    rw [zbW]
    simp only [Nat.zero_le, if_true, Nat.sub_zero]
    by_cases ht : t < args.length
    · have := hrel t ht
      rw [Array.getD_eq_getD_getElem?, Array.getElem?_append_left (by omega), ← Array.getD_eq_getD_getElem?]
      exact this
    · rw [List.getD_eq_getElem?_getD, List.getElem?_eq_none (by omega)]
      exact .any ..
  refine wp_mono (h X hL hids hdf0 hx _ _ hrep).wide fun e a w ⟨fr2, ow2, ⟨he, d2, h1, h2, h3, h4⟩, hrep2⟩ => ?_
  obtain ⟨S, r, hH2, hI2, hF2, hd2, _, hρ2⟩ := hrep2
  obtain ⟨v, hv, hvr⟩ := zdQ (P := P) hrs hI2 hF2 h1
  have hok := h4.ok
  simp only [okAll, Bool.and_eq_true] at hok
  have hfin : ∃ v' S' r', Ending.returned v = .returned v' ∧ Rel S' w r' d v' ∧ Hist X w S' ∧ Inv X w S' r' (fO ow') ∧ RhoLe X.r0 r' := by
    refine ⟨v, S, keepR r (ow'.map (·.1)), rfl, ?_, hH2, hI2.keep h4.ow hok.2, fun k l hk => ?_⟩
    · exact (hvr.weak h2).okIn h3
    · obtain ⟨l', g1, g2⟩ := hρ2 k l hk
      have : k ∈ ow'.map (·.1) := h4.ids k (hL k (by rw [hk]; simp))
      exact ⟨l', by simp only [keepR]; rw [if_pos this]; exact g1, g2⟩
  rcases he with rfl | rfl
  · exact ⟨hd2.trans hdf0, v, hv, hfin⟩
  · exact ⟨hd2.trans hdf0, v, hv, hfin⟩
end

structure Mark (X X1 : Ctx) (kD D : Nat) : Prop where
  w0 : X1.w0 = X.w0
  S0 : X1.S0 = X.S0
  L : X1.L = X.L
  ids : X1.ids = kD :: X.ids
  dfs : X1.dfs = [{ target := .collected D, args := #[] }]
  blk : X1.r0 kD = some (.blk D)
  lent : Lent X1
section
variable {P : Program} {X : Ctx} {n : Nat} {fr : Fr} {ow : Ow}
end
section
variable {X : Ctx} {n : Nat} {fr : Fr} {ow : Ow}
end

theorem zmi {P : Program} {X : Ctx} {n : Nat} {o : Oper} {fr : Fr} {ow : Ow} {ty : TypeId} {x : Operand} {k : Nat} {d : D} (ho : o.op = .box ty x) (hx : ev fr x = d) (hs : d.solid = true) (h1 : d.cells.all D.one = true) (hk : look k ow = none) (hd : dstOk o.dst n) :
    ∀ F' O', (∀ y ∈ o.op.operands.toList, evF F' y = evF (fF fr) y) → (∀ j ∈ [k], O' j = fO ow j) → StepAt P X n o F' O' (.pv k 0) [(k, .var d.cells)] := by
  intro F' O' he hO
  refine zax hd fun a w S r hH hI hr => ?_
  have hx' := hr x
  rw [he x (by simp [ho, Op.operands]), zaZ, hx] at hx'
  have hk' : O' k = none := (hO k (by simp)).trans hk
  obtain ⟨S', r', g1, g2, g3, g4, g5, g6⟩ := zki ty hH hI hx' hs h1 hk'
  refine ⟨_, _, S', r', .inl ?_, g1, g2, g3, g4, g5, g6⟩
  simp [execOp, ho, Instr.box, newVar, newRow]
section
variable {X : Ctx} {n : Nat} {all rest : List Oper} {fr : Fr} {ow : Ow} {tr : List (List Nat × List Nat)} {K : Fr → Ow → List (List Nat × List Nat) → Prop}
variable {t : Nat} {ty ty' : TypeId} {ps : String} {af : Array Edge} {d : D} {x : Operand}
theorem zcP (k : Nat) (hx : ev fr x = d) (hs : d.solid = true) (h1 : d.cells.all D.one = true) (hk : look k ow = none) (hn : Nat.blt t n = true)
    (h : CT Tryz.prog X n all rest ((t, .pv k 0) :: fr) ((k, .var d.cells) :: ow) (tr ++ [([k], [k])]) K) : CT Tryz.prog X n all (⟨some t, .box ty x, ty', ps, af, none⟩ :: rest) fr ow tr K :=
  CT.cons (e := ⟨.pv k 0, [k], [(k, .var d.cells)]⟩) (.plain rfl (zmi (o := ⟨some t, .box ty x, ty', ps, af, none⟩) rfl hx hs h1 hk (show t < n by simpa using hn))) (zaH ..) (zaL ..) h
end

section
variable {P : Program} {X : Ctx} {n : Nat} {fr : Fr} {ow : Ow}
theorem Rep.adoptV {a : Act} {w : World} (v j k e z : Nat) (cs : List D) (f : Nat → List D) (hv : look v ow = some (.var cs)) (hj : cs.getD j .any = .nilS) (hk : look k ow = none) (hr : Rep X n (fF fr) (fO ow) a w) :
    Rep X n (fF fr) (fO ((v, .var (cs.set j (.gs k z 0 f))) :: (k, .row e z 0) :: ow)) a w := by
  obtain ⟨S, r, hH, hI, hF, hd, hn, hρ⟩ := hr
  have hle : RhoLe r (updR r k (.row (.slice none 0 0) 0)) := RhoLe.new (hI.dom k hk)
  have hk0 : updR r k (.row (.slice none 0 0) 0) k = some (.row (.slice none 0 0) 0) := by simp [updR]
  have hc : Chg w w S none := ⟨rfl, rfl, rfl, Nat.le_refl _, fun _ _ _ => rfl, fun _ _ _ => rfl⟩
  have hI2 : Inv X w S (updR r k (.row (.slice none 0 0) 0)) (fO ((k, .row e z 0) :: ow)) := by
    rw [zaL]
    exact hI.put hc (fun _ _ h => h) hle k _ (.row (.slice none 0 0) 0) ⟨_, hk0, .inl ⟨rfl, rfl⟩⟩ hk0 (fun j hj => by simp [updR, hj]) (fun b hb => by simp [Loc.block] at hb) (fun b hb => by cases hb) (fun _ _ h => .inl h)
  have hvk : v ≠ k := fun e => by subst e; rw [hv] at hk; cases hk
  have hv2 : fO ((k, .row e z 0) :: ow) v = some (.var cs) := by
    rw [zaL]
    show (if v = k then _ else fO ow v) = _
    rw [if_neg hvk]
    exact hv
  have hobj := hI2.obj v _ hv2
  obtain ⟨b, cur, e0, h1, h2, h3, h4, h5⟩ := hobj
  refine ⟨S, updR r k (.row (.slice none 0 0) 0), hH, ?_, fun u => (hF u).mono (fun _ _ h => h) (fun _ _ _ => rfl) _ hle, hd, hn, hρ.trans hle⟩
  rw [zaL]
  refine hI2.put hc (fun _ _ h => h) (RhoLe.refl _) v _ (.blk b) ⟨b, cur, e0, h1, h2, by simpa using h3, fun i hi => ?_, h5⟩ h1 (fun _ _ => rfl) (fun b' hb' => .inr ⟨_, h1, hb'⟩) (fun b hb => by cases hb) (fun _ _ h => .inl h)
  have hi' : i < cs.length := by simpa using hi
  by_cases e : j = i
  · subst e
    have e1 : (cs.set j (D.gs k z 0 f)).getD j .any = .gs k z 0 f := by simp [List.getD_eq_getElem?_getD, hi']
    rw [e1]
    have h6 := (h4 j hi').1
    rw [hj] at h6
    generalize cur.getD j undef = vj at h6 ⊢
    cases h6
    refine ⟨.gs _ k z 0 f _ _ 0 (.sl _ _ _ _ none 0 (fun _ _ => undef) (Nat.le_refl _) (by unfold maxLen; omega) (fun i hi => by omega) (fun i j hi => by omega) (fun i j hi => by omega)) hk0 (Nat.le_refl _) (fun _ => .inl rfl), rfl⟩
  · have e1 : (cs.set j (D.gs k z 0 f)).getD i .any = cs.getD i .any := by simp [List.getD_eq_getElem?_getD, e]
    rw [e1]
    exact h4 i hi'
theorem TD.adoptV {c : Code} {R : Exit → Act → World → Prop} (v j k e z : Nat) (cs : List D) (f : Nat → List D) (hv : look v ow = some (.var cs)) (hj : cs.getD j .any = .nilS) (hk : look k ow = none)
    (h : TD P X n c fr ((v, .var (cs.set j (.gs k z 0 f))) :: (k, .row e z 0) :: ow) R) : TD P X n c fr ow R := TD.into fun a w hr => h.out a w (hr.adoptV v j k e z cs f hv hj hk)
end
section
variable {X : Ctx} {n : Nat} {all post : List Oper} {fr : Fr} {ow : Ow}
theorem zpk {f : FuncId} {args : List D} {d : D} {fn : Func} {c : Code} {N : Nat} {rs : List ResultVar} {lo lo' : Ow} {ids ids2 : List Nat} (hf : Tryz.prog.funcs[f]? = some fn) (hb : fn.body = some c) (hN : fn.ntmps = N) (hrs : fn.results = ⟨rs⟩) (hlen : Nat.ble args.length N = true)
    (hi1 : lo.map (·.1) = ids) (hi2 : lo'.map (·.1) = ids2) (hsub : ∀ k ∈ ids, k ∈ ids2) (hd : d.okIn ids2 = true) (hcs : lo'.all (fun x => x.2.okIn ids2) = true)
    (h : ∀ X : Ctx, Lent X → X.ids = ids → T Tryz.prog X N c (slots 0 args) lo (EndsM rs d lo')) : CtrO Tryz.prog f args lo d lo' := by
  refine CtrO.of_TU hf hb hN hrs (by simpa using hlen) fun X hL hi => (h X hL (hi.trans hi1)).mono fun e fr2 ow2 hq => ?_
  have key : ∀ d2, resU B fr2 ow2 rs = some d2 → Weak d2 d → leOw ow2 lo' →
      ∃ d2, resU (tb Tryz.prog) fr2 ow2 rs = some d2 ∧ Weak d2 d ∧ d.okIn (lo'.map (·.1)) = true ∧ Le X fr2 ow2 [] lo' := by
    intro d2 h1 h2 h3
    refine ⟨d2, by rw [zcD]; exact h1, h2, by rw [hi2]; exact hd, trivial, h3, ?_, fun k hk => ?_⟩
    · rw [hi2]
      simp only [okAll, List.all_nil, Bool.true_and]
      exact hcs
    · rw [hi, hi1] at hk
      rw [hi2]
      exact hsub k hk
  cases e with
  | ret => obtain ⟨d2, h1, h2, h3⟩ := hq; exact ⟨.inl rfl, key d2 h1 h2 h3⟩
  | normal => obtain ⟨d2, h1, h2, h3⟩ := hq; exact ⟨.inr rfl, key d2 h1 h2 h3⟩
  | _ => exact hq.elim
end
end Go.Proofs.YtcajofhafpkbdaaGreatDoor.Flow
