/- The texts FlowPd, FlowPe, FlowPf, FlowRo, FlowRp, FlowRq, FlowXb, FlowRr, FlowXd, H10, one behind the other. -/
import Derived.Test.YtkkaamhocpmhkaaGreatDoorJJ15
import Derived.Test.YtkkaamhocpmhkaaGreatDoorJJ17
import Derived.Test.YtkkaamhocpmhkaaGreatDoorJJ19
import Derived.Recover
import Derived.RangeFuncRecord
import Derived.RangeFuncIn
import Derived.RangeFuncLeaves
import Derived.RangeFuncSeq
namespace Go.Proofs.YtkkaamhocpmhkaaGreatDoor.Flow
section
variable {P : Program} {X : Ctx} {n : Nat}
end
def CtrD (P : Program) (f : FuncId) (args : List D) (ow : Ow) (u : FrameMode) (ow' : Ow) (u' : FrameMode) : Prop :=
  ∀ (X : Ctx) (vs : Array Value), X.dfs = [] → X.ids = ow.map (·.1) → Hist X X.w0 X.S0 → Inv X X.w0 X.S0 X.r0 (fO ow) → vs.size = args.length → (∀ j, j < args.length → Rel X.S0 X.w0 X.r0 (args.getD j .any) (vs.getD j undef)) →
    CallsD P f vs u X.w0 fun e u1 w' => (∃ v, e = .returned v) ∧ u1 = u' ∧ ∃ S' r', Hist X w' S' ∧ Inv X w' S' r' (fO ow') ∧ RhoLe X.r0 r'
def TD (P : Program) (X : Ctx) (n : Nat) (c : Code) (fr : Fr) (ow : Ow) (R : Exit → Act → World → Prop) : Prop := ∀ a w, Rep X n (fF fr) (fO ow) a w → c.wp P R a w
def TS (P : Program) (X : Ctx) (n : Nat) (c : Code) (fr : Fr) (ow : Ow) (cs : List Frame) (R : Exit → Act → List Frame → World → Prop) : Prop := ∀ a w, Rep X n (fF fr) (fO ow) a w → c.wpS P R a cs w
section
variable {P : Program} {X : Ctx} {n : Nat} {fr : Fr} {ow : Ow}
theorem TD.out {c : Code} {R : Exit → Act → World → Prop} (h : TD P X n c fr ow R) : ∀ a w, Rep X n (fF fr) (fO ow) a w → c.wp P R a w := h
theorem TD.into {c : Code} {R : Exit → Act → World → Prop} (h : ∀ a w, Rep X n (fF fr) (fO ow) a w → c.wp P R a w) : TD P X n c fr ow R := h
theorem CtrD.of_TS {f : FuncId} {fn : Func} {c : Code} {N : Nat} {args : List D} {lo lo' : Ow} {u u' : FrameMode} {ids : List Nat} (hf : P.funcs[f]? = some fn) (hb : fn.body = some c) (hN : fn.ntmps = N) (hrs : fn.results = #[]) (hlen : args.length ≤ N)
    (hi1 : lo.map (·.1) = ids) (hi2 : lo'.map (·.1) = ids) (hcs : lo'.all (fun x => x.2.okIn ids) = true)
    (h : ∀ (X : Ctx) (c₀ : Frame) (cs : List Frame), Lent X → X.ids = ids → X.dfs = [] → c₀.mode = u → TS P X N c (slots 0 args) lo (c₀ :: cs) fun e a cs2 w => (e = .normal ∨ e = .ret) ∧ cs2 = { c₀ with mode := u' } :: cs ∧ ∃ fr2 ow2, Rep X N (fF fr2) (fO ow2) a w ∧ leOw ow2 lo') : CtrD P f args lo u lo' u' := by
  intro X vs hdf0 hid hH hI hsz hrel
  have hL : Lent X := fun k hk => by
    rw [hid]
    cases hmem : look k lo with
    | none => exact absurd (hI.dom k hmem) hk
    | some o =>
      by_cases hm : k ∈ lo.map (·.1)
      · exact hm
      · rw [zbK hm] at hmem; cases hmem
  refine callsD_of_wpS hf hb fun c₀ cs hu => ?_
  have hrep : Rep X N (fF (slots 0 args)) (fO lo) { tmps := vs ++ Array.replicate (fn.ntmps - vs.size) undef, defers := [] } X.w0 := by
    refine ⟨X.S0, X.r0, hH, hI, fun t => ?_, hdf0.symm, by simp; omega, RhoLe.refl _⟩
    show Rel _ _ _ (getD' t (slots 0 args)) _
    rw [zcp]
    simp only [Nat.zero_le, if_true, Nat.sub_zero]
    by_cases ht : t < args.length
    · have := hrel t ht
      rw [Array.getD_eq_getD_getElem?, Array.getElem?_append_left (by omega), ← Array.getD_eq_getD_getElem?]
      exact this
    · rw [List.getD_eq_getElem?_getD, List.getElem?_eq_none (by omega)]
      exact .any ..
  have key := h X c₀ cs hL (hid.trans hi1) hdf0 hu _ _ hrep
  have hres : ∀ (tmps : Array Value) (w : World), (results fn tmps).run P w = .ok (.tuple #[]) w := fun tmps w => by
    simp [zbA, hrs]
  intro b k hk hr
  obtain ⟨e, a', cs2, w', ⟨he, hcs2, fr2, ow2, hrep2, hlo⟩, harr⟩ := key b k hk hr
  refine ⟨e, a', cs2, w', ?_, harr⟩
  obtain ⟨S, r, hH2, hI2, hF2, hd2, _, hρ2⟩ := hrep2
  have hfin : ∃ S' r', Hist X w' S' ∧ Inv X w' S' r' (fO lo') ∧ RhoLe X.r0 r' := by
    refine ⟨S, keepR r (lo'.map (·.1)), hH2, hI2.keep hlo (by rw [hi2]; exact hcs), fun k l hk => ?_⟩
    obtain ⟨l', g1, g2⟩ := hρ2 k l hk
    have : k ∈ lo'.map (·.1) := by
      rw [hi2, ← hi1, ← hid]
      exact hL k (by rw [hk]; simp)
    exact ⟨l', by simp only [keepR]; rw [if_pos this]; exact g1, g2⟩
  rcases he with rfl | rfl
  · exact ⟨hd2.trans hdf0, u', hcs2, .tuple #[], hres _ _, ⟨_, rfl⟩, rfl, hfin⟩
  · exact ⟨hd2.trans hdf0, u', hcs2, .tuple #[], hres _ _, ⟨_, rfl⟩, rfl, hfin⟩
structure Put (X X1 : Ctx) (f : FuncId) (ks : List Nat) (vs : Array Value) : Prop where
  w0 : X1.w0 = X.w0
  S0 : X1.S0 = X.S0
  L : X1.L = X.L
  ids : X1.ids = ks
  dfs : X1.dfs = [⟨.fn (.func f) vs, #[]⟩]
  size : vs.size = ks.length
  at' : ∀ j, j < ks.length → ∃ b, X1.r0 (ks.getD j 0) = some (.blk b) ∧ vs.getD j undef = .pointer (some ⟨b, 0, none⟩)
  lent : Lent X1
end
attribute [irreducible] TD
end Go.Proofs.YtkkaamhocpmhkaaGreatDoor.Flow

namespace Go.Proofs.YtkkaamhocpmhkaaGreatDoor.Flow
section
variable {P : Program} {X : Ctx} {n : Nat} {o : Oper} {fr : Fr} {ow : Ow} {T xT : TypeId} {x : Operand} {k1 k2 : IntKind} {a b : Int} {fs : Array Field} {zd : D}
end
section
variable {X : Ctx} {n : Nat} {all rest : List Oper} {fr : Fr} {ow : Ow} {tr : List (List Nat × List Nat)} {K : Fr → Ow → List (List Nat × List Nat) → Prop}
variable {t : Nat} {ty T xT : TypeId} {ps : String} {af : Array Edge} {x : Operand} {k1 k2 : IntKind} {a b : Int} {fs : Array Field} {zd : D}
end
section
variable {X : Ctx} {n : Nat} {fr : Fr} {ow : Ow} {Q : Exit → Fr → Ow → Prop} {R : Exit → Act → World → Prop}
end
end Go.Proofs.YtkkaamhocpmhkaaGreatDoor.Flow

namespace Go.Proofs.YtkkaamhocpmhkaaGreatDoor.Flow
section
variable {X : Ctx} {n : Nat} {fr : Fr} {ow : Ow}
end
end Go.Proofs.YtkkaamhocpmhkaaGreatDoor.Flow

namespace Go.Proofs.YtkkaamhocpmhkaaGreatDoor.Flow
open Go
section
variable {P : Program} {X : Ctx} {n : Nat} {fr : Fr} {ow : Ow} {d : D}
structure Stab (Hx : Cells → World → Rho → Prop) (ids : List Nat) : Prop where
  mono : ∀ {S S' : Cells} {w w' : World} {r r' : Rho}, Hx S w r → (∀ b o, S b o → S' b o) → (∀ b o, S b o → w'.cell? ⟨b, o, none⟩ = w.cell? ⟨b, o, none⟩) → RhoLe r r' → Hx S' w' r'
  keep : ∀ {S : Cells} {w : World} {r : Rho}, Hx S w r → Hx S w (keepR r ids)
end

section
variable {P : Program} {X : Ctx} {n : Nat} {fr : Fr} {ow ow' : Ow} {d : D}
end

structure Mark (X X1 : Ctx) (kD D : Nat) : Prop where
  w0 : X1.w0 = X.w0
  S0 : X1.S0 = X.S0
  L : X1.L = X.L
  ids : X1.ids = kD :: X.ids
  dfs : X1.dfs = [{ target := .collected D, args := #[] }]
  blk : X1.r0 kD = some (.blk D)
  lent : Lent X1
section
variable {P : Program} {X : Ctx} {n : Nat} {fr : Fr} {ow : Ow}
end
section
variable {X : Ctx} {n : Nat} {fr : Fr} {ow : Ow}
end

theorem zkZ {P : Program} {X : Ctx} {n : Nat} {o : Oper} {fr : Fr} {ow : Ow} {ty : TypeId} {x : Operand} {k : Nat} {d : D} (ho : o.op = .box ty x) (hx : ev fr x = d) (hs : d.solid = true) (h1 : d.cells.all D.one = true) (hk : look k ow = none) (hd : dstOk o.dst n) :
    ∀ F' O', (∀ y ∈ o.op.operands.toList, evF F' y = evF (fF fr) y) → (∀ j ∈ [k], O' j = fO ow j) → StepAt P X n o F' O' (.pv k 0) [(k, .var d.cells)] := by
  intro F' O' he hO
  refine zay hd fun a w S r hH hI hr => ?_
  have hx' := hr x
  rw [he x (by simp [ho, Op.operands]), zaX, hx] at hx'
  have hk' : O' k = none := (hO k (by simp)).trans hk
  obtain ⟨S', r', g1, g2, g3, g4, g5, g6⟩ := zmp ty hH hI hx' hs h1 hk'
  refine ⟨_, _, S', r', .inl ?_, g1, g2, g3, g4, g5, g6⟩
  simp [execOp, ho, Instr.box, newVar, newRow]
section
variable {X : Ctx} {n : Nat} {all rest : List Oper} {fr : Fr} {ow : Ow} {tr : List (List Nat × List Nat)} {K : Fr → Ow → List (List Nat × List Nat) → Prop}
variable {t : Nat} {ty ty' : TypeId} {ps : String} {af : Array Edge} {d : D} {x : Operand}
theorem zfD (k : Nat) (hx : ev fr x = d) (hs : d.solid = true) (h1 : d.cells.all D.one = true) (hk : look k ow = none) (hn : Nat.blt t n = true)
    (h : CT Tryz.prog X n all rest ((t, .pv k 0) :: fr) ((k, .var d.cells) :: ow) (tr ++ [([k], [k])]) K) : CT Tryz.prog X n all (⟨some t, .box ty x, ty', ps, af, none⟩ :: rest) fr ow tr K :=
  CT.cons (e := ⟨.pv k 0, [k], [(k, .var d.cells)]⟩) (.plain rfl (zkZ (o := ⟨some t, .box ty x, ty', ps, af, none⟩) rfl hx hs h1 hk (show t < n by simpa using hn))) (zaE ..) (zaM ..) h
end

section
variable {P : Program} {X : Ctx} {n : Nat} {fr : Fr} {ow : Ow}
theorem Rep.adoptV {a : Act} {w : World} (v j k e z : Nat) (cs : List D) (f : Nat → List D) (hv : look v ow = some (.var cs)) (hj : cs.getD j .any = .nilS) (hk : look k ow = none) (hr : Rep X n (fF fr) (fO ow) a w) :
    Rep X n (fF fr) (fO ((v, .var (cs.set j (.gs k z 0 f))) :: (k, .row e z 0) :: ow)) a w := by
  obtain ⟨S, r, hH, hI, hF, hd, hn, hρ⟩ := hr
  have hle : RhoLe r (updR r k (.row (.slice none 0 0) 0)) := RhoLe.new (hI.dom k hk)
  have hk0 : updR r k (.row (.slice none 0 0) 0) k = some (.row (.slice none 0 0) 0) := by simp [updR]
  have hc : Chg w w S none := ⟨rfl, rfl, rfl, Nat.le_refl _, fun _ _ _ => rfl, fun _ _ _ => rfl⟩
  have hI2 : Inv X w S (updR r k (.row (.slice none 0 0) 0)) (fO ((k, .row e z 0) :: ow)) := by
    rw [zaM]
    exact hI.put hc (fun _ _ h => h) hle k _ (.row (.slice none 0 0) 0) ⟨_, hk0, .inl ⟨rfl, rfl⟩⟩ hk0 (fun j hj => by simp [updR, hj]) (fun b hb => by simp [Loc.block] at hb) (fun b hb => by cases hb) (fun _ _ h => .inl h)
  have hvk : v ≠ k := fun e => by subst e; rw [hv] at hk; cases hk
  have hv2 : fO ((k, .row e z 0) :: ow) v = some (.var cs) := by
    rw [zaM]
    show (if v = k then _ else fO ow v) = _
    rw [if_neg hvk]
    exact hv
  have hobj := hI2.obj v _ hv2
  obtain ⟨b, cur, e0, h1, h2, h3, h4, h5⟩ := hobj
  refine ⟨S, updR r k (.row (.slice none 0 0) 0), hH, ?_, fun u => (hF u).mono (fun _ _ h => h) (fun _ _ _ => rfl) _ hle, hd, hn, hρ.trans hle⟩
  rw [zaM]
  refine hI2.put hc (fun _ _ h => h) (RhoLe.refl _) v _ (.blk b) ⟨b, cur, e0, h1, h2, by simpa using h3, fun i hi => ?_, h5⟩ h1 (fun _ _ => rfl) (fun b' hb' => .inr ⟨_, h1, hb'⟩) (fun b hb => by cases hb) (fun _ _ h => .inl h)
  have hi' : i < cs.length := by simpa using hi
  by_cases e : j = i
  · subst e
    have e1 : (cs.set j (D.gs k z 0 f)).getD j .any = .gs k z 0 f := by simp [List.getD_eq_getElem?_getD, hi']
    rw [e1]
    have h6 := (h4 j hi').1
    rw [hj] at h6
    generalize cur.getD j undef = vj at h6 ⊢
    cases h6
    refine ⟨.gs _ k z 0 f _ _ 0 (.sl _ _ _ _ none 0 (fun _ _ => undef) (Nat.le_refl _) (by unfold maxLen; omega) (fun i hi => by omega) (fun i j hi => by omega) (fun i j hi => by omega)) hk0 (Nat.le_refl _) (fun _ => .inl rfl), rfl⟩
  · have e1 : (cs.set j (D.gs k z 0 f)).getD i .any = cs.getD i .any := by simp [List.getD_eq_getElem?_getD, e]
    rw [e1]
    exact h4 i hi'
theorem TD.adoptV {c : Code} {R : Exit → Act → World → Prop} (v j k e z : Nat) (cs : List D) (f : Nat → List D) (hv : look v ow = some (.var cs)) (hj : cs.getD j .any = .nilS) (hk : look k ow = none)
    (h : TD P X n c fr ((v, .var (cs.set j (.gs k z 0 f))) :: (k, .row e z 0) :: ow) R) : TD P X n c fr ow R := TD.into fun a w hr => h.out a w (hr.adoptV v j k e z cs f hv hj hk)
end
section
variable {X : Ctx} {n : Nat} {all post : List Oper} {fr : Fr} {ow : Ow}
end

def D.okS (ks : List Nat) : D → Bool
  | .ag cs => cs.all (D.okIn ks)
  | .tu cs => cs.all (D.okIn ks)
  | d => d.okIn ks
def lendS (ids : List Nat) : D → D
  | .ag cs => .ag (cs.map (lendA ids))
  | d => lendA ids d
theorem Rel.lendA {S : Cells} {w : World} {r : Rho} {d : D} {v : Value} (ids : List Nat) (h : Rel S w r d v) : Rel S w r (lendA ids d) v := by
  cases d with
  | gs k z m g =>
    simp only [Flow.lendA]
    split
    · exact h
    · exact h.shut
  | _ => exact h
theorem Rel.lendS {S : Cells} {w : World} {r : Rho} {d : D} {v : Value} (ids : List Nat) (h : Rel S w r d v) : Rel S w r (lendS ids d) v := by
  cases d with
  | ag cs =>
    cases h with
    | ag _ _ vs hn h =>
      refine .ag _ _ vs (by simpa using hn) fun j hj => ?_
      have hj' : j < cs.length := by simpa using hj
      have e : (cs.map (Flow.lendA ids)).getD j .any = Flow.lendA ids (cs.getD j .any) := by simp [List.getD_eq_getElem?_getD, hj']
      rw [e]
      exact (h j hj').lendA ids
  | _ => exact h.lendA ids
theorem Rel.okS {S : Cells} {w : World} {r : Rho} {d : D} {v : Value} (h : Rel S w r d v) {ks : List Nat} (hk : d.okS ks = true) : Rel S w (keepR r ks) d v := by
  cases d with
  | ag cs =>
    cases h with
    | ag _ _ vs hn h =>
      refine .ag _ _ vs hn fun j hj => (h j hj).okIn ?_
      have hk' : cs.all (D.okIn ks) = true := hk
      rw [List.all_eq_true] at hk'
      refine hk' _ ?_
      simp only [List.getD_eq_getElem?_getD, List.getElem?_eq_getElem hj, Option.getD_some]
      exact List.getElem_mem hj
  | tu cs =>
    cases h with
    | tu _ _ vs hn h =>
      refine .tu _ _ vs hn fun j hj => (h j hj).okIn ?_
      have hk' : cs.all (D.okIn ks) = true := hk
      rw [List.all_eq_true] at hk'
      refine hk' _ ?_
      simp only [List.getD_eq_getElem?_getD, List.getElem?_eq_getElem hj, Option.getD_some]
      exact List.getElem_mem hj
  | _ => exact h.okIn hk
section
variable {P : Program} {X : Ctx} {n : Nat} {fr : Fr} {ow ow' : Ow} {d : D}
theorem zkJ {o : Oper} {f : FuncId} {args : List D} {lo lo' : Ow} {ids ids2 : List Nat} (hP : ∀ vs w, (callFunc f vs).run P w = .ok (.enter f vs) w) (hc : callOf fr o.op = some (f, args)) (hk : hasAll (fun k => look k ow) lo)
    (hi1 : lo.map (·.1) = ids) (hi2 : lo'.map (·.1) = ids2) (hnd : ids2.Nodup) (hsub : ∀ k ∈ ids, k ∈ ids2) (hnew : ∀ k ∈ ids2, k ∉ ids → look k ow = none)
    (hok : (args.map (lendS ids)).all (D.okS ids) = true) (hf1 : lo.all (fun x => x.2.okIn ids) = true) (hf2 : lo'.all (fun x => x.2.okIn ids2) = true) (hf3 : d.okS ids2 = true)
    (hC : CtrO P f (args.map (lendS ids)) lo d lo') (hd : dstOk o.dst n) :
    ∀ F' O', (∀ x ∈ o.op.operands.toList, evF F' x = evF (fF fr) x) → (∀ j ∈ ids2, O' j = fO ow j) → StepAt P X n o F' O' d lo' := by
  intro F' O' he hO a w K' Q' ⟨S, r, hH, hI, hF, hdf, hn, hρ⟩ hK
  obtain ⟨vs, hrun, hsz, hrel⟩ := zbD hP hc he (fun x => zcw hH.glob hF x)
  have hOk : ∀ k o, look k lo = some o → O' k = some o := fun k o h => by
    have hm : k ∈ ids := by rw [← hi1]; exact List.mem_map.2 ⟨(k, o), zbd h, rfl⟩
    exact (hO k (hsub k hm)).trans (zdJ hk k o h)
  have hmem : ∀ k, k ∈ ids → ∃ o, look k lo = some o := fun k h => zcy (by rw [hi1]; exact h)
  have hmem' : ∀ k, k ∈ ids2 → ∃ o, look k lo' = some o := fun k h => zcy (by rw [hi2]; exact h)
  have hin : ∀ k o, look k lo = some o → k ∈ ids ∧ o.okIn ids = true := fun k o h => by
    have h1 := zbd h
    rw [List.all_eq_true] at hf1
    exact ⟨by rw [← hi1]; exact List.mem_map.2 ⟨(k, o), h1, rfl⟩, hf1 _ h1⟩
  have hin' : ∀ k o, look k lo' = some o → k ∈ ids2 ∧ o.okIn ids2 = true := fun k o h => by
    have h1 := zbd h
    rw [List.all_eq_true] at hf2
    exact ⟨by rw [← hi2]; exact List.mem_map.2 ⟨(k, o), h1, rfl⟩, hf2 _ h1⟩
  have hblt : ∀ k l b, r k = some l → l.block = some b → b < w.heap.size := fun k l b hl hb => by
    cases ho : O' k with
    | none => rw [hI.dom k ho] at hl; cases hl
    | some o => exact (hI.obj k o ho).blockLt hl hb
  let X' : Ctx := { w0 := w, S0 := S, L := fun b => ∃ k ∈ ids, ∃ l, r k = some l ∧ l.block = some b, r0 := keepR r ids, ids := ids }
  have hH' : Hist X' w S := ⟨rfl, rfl, rfl, Nat.le_refl _, fun _ _ _ => rfl, fun _ _ h => h, fun _ _ _ => rfl, fun _ _ h => .inl h, hH.valid, hH.glob⟩
  have hI' : Inv X' w S X'.r0 (fO lo) := by
    refine ⟨fun k o hk' => ?_, fun k hk' => ?_, fun i j l l' b' hij hl hl' hb' => ?_, fun k l b' hl hb' => ?_⟩
    · obtain ⟨h1, h2⟩ := hin k o hk'
      exact (hI.obj k o (hOk k o hk')).okIn h2 (RhoLe.refl _) (if_pos h1)
    · refine if_neg fun hm => ?_
      obtain ⟨o, ho⟩ := hmem k hm
      rw [show fO lo k = look k lo from rfl, ho] at hk'
      cases hk'
    · have hl : keepR r ids i = some l := hl
      have hl' : keepR r ids j = some l' := hl'
      simp only [keepR] at hl hl'
      split at hl <;> first | (cases hl; done) | skip
      split at hl' <;> first | (cases hl'; done) | skip
      exact hI.apart i j l l' b' hij hl hl' hb'
    · have hl : keepR r ids k = some l := hl
      simp only [keepR] at hl
      split at hl <;> first | (cases hl; done) | skip
      rename_i hm
      exact .inr ⟨k, hm, l, hl, hb'⟩
  have hrel' : ∀ j, j < (args.map (lendS ids)).length → Rel S w X'.r0 ((args.map (lendS ids)).getD j .any) (vs.getD j undef) := by
    intro j hj
    have hj' : j < args.length := by simpa using hj
    have e : (args.map (lendS ids)).getD j .any = lendS ids (args.getD j .any) := by simp [List.getD_eq_getElem?_getD, hj']
    have hokj : (lendS ids (args.getD j .any)).okS ids = true := by
      rw [← e]
      rw [List.all_eq_true] at hok
      refine hok _ ?_
      simp only [List.getD_eq_getElem?_getD, List.getElem?_eq_getElem hj, Option.getD_some]
      exact List.getElem_mem hj
    rw [e]
    exact ((hrel j hj').lendS ids).okS hokj
  refine OW.enter hrun ((hC X' vs hi1.symm hH' hI' (by simpa using hsz) hrel').mono ?_)
  rintro e w' ⟨v, S', r', rfl, g1, g2, g3, g4⟩
  let r2 : Rho := fun k => if k ∈ ids2 then r' k else r k
  have hr2 : RhoLe r r2 := fun k l hl => by
    by_cases hm : k ∈ ids2
    · have hm0 : k ∈ ids := by
        rcases Classical.em (k ∈ ids) with h | h
        · exact h
        · have h0 : O' k = none := (hO k hm).trans (hnew k hm h)
          rw [hI.dom k h0] at hl
          cases hl
      obtain ⟨l', h1, h2⟩ := g4 k l (by show keepR r ids k = some l; rw [keepR, if_pos hm0]; exact hl)
      exact ⟨l', by show (if k ∈ ids2 then r' k else r k) = some l'; rw [if_pos hm]; exact h1, h2⟩
    · exact ⟨l, by show (if k ∈ ids2 then r' k else r k) = some l; rw [if_neg hm]; exact hl, LocLe.refl l⟩
  have hr3 : RhoLe (keepR r' ids2) r2 := fun k l hl => by
    simp only [keepR] at hl
    split at hl <;> first | (cases hl; done) | skip
    rename_i hm
    exact ⟨l, by show (if k ∈ ids2 then r' k else r k) = some l; rw [if_pos hm]; exact hl, LocLe.refl l⟩
  have hXL : ∀ b, X'.L b → X.w0.heap.size ≤ b ∨ X.L b := fun b ⟨k, _, l, hl, hb⟩ => hI.low k l b hl hb
  have hother : ∀ k l b, k ∉ ids2 → r k = some l → l.block = some b → ¬ X'.L b := fun k l b hm hl hb ⟨k', hm', l', hl', hb'⟩ =>
    hI.apart k k' l l' b (fun e => hm (e ▸ hsub k' hm')) hl hl' hb hb'
  refine hK v w' ⟨S', r2, ?_, ?_, zcx (fun t => (hF t).mono g2.sub g2.cell r2 hr2) (hn ▸ hd) ((g1.okS hf3).mono (fun _ _ h => h) (fun _ _ _ => rfl) r2 hr3), by rw [zbg]; exact hdf, by rw [zbR]; exact hn, hρ.trans hr2⟩
  · refine ⟨g2.os.trans hH.os, g2.tape.trans hH.tape, g2.output.trans hH.output, Nat.le_trans hH.size g2.size, fun k hk' hl => ?_, fun b o hb => g2.sub b o (hH.sub b o hb), fun b o hb => (g2.cell b o (hH.sub b o hb)).trans (hH.cell b o hb), fun b o hb => ?_, g2.valid, g2.glob⟩
    · refine (g2.block k (Nat.lt_of_lt_of_le hk' hH.size) fun hx => ?_).trans (hH.block k hk' hl)
      rcases hXL k hx with h | h
      · omega
      · exact hl h
    · rcases g2.new b o hb with h | h | h
      · exact hH.new b o h
      · exact .inr (.inl (Nat.le_trans hH.size h))
      · rcases hXL b h with h | h
        · exact .inr (.inl h)
        · exact .inr (.inr h)
  · have hnd' : (lo'.map (·.1)).Nodup := by rw [hi2]; exact hnd
    have hup : ∀ k, k ∉ ids2 → updO O' lo' k = O' k := fun k hm => by
      rw [zbw hnd', zbK (by rw [hi2]; exact hm)]
    refine ⟨fun k o hk' => ?_, fun k hk' => ?_, fun i j l l' b hij hl hl' hb => ?_, fun k l b hl hb => ?_⟩
    · by_cases hm : k ∈ ids2
      · obtain ⟨o', ho'⟩ := hmem' k hm
        rw [zbw hnd', ho'] at hk'
        obtain rfl : o' = o := Option.some.inj hk'
        exact (g3.obj k o' ho').okIn (hin' k o' ho').2 hr3 (if_pos hm)
      · rw [hup k hm] at hk'
        refine (hI.obj k o hk').keepL g2.sub g2.cell hr2 (if_neg hm) (fun l b hl hb => g2.block b (hblt k l b hl hb) (hother k l b hm hl hb)) (fun b o hs => ?_)
        rcases g2.new b o hs with h | h | h
        · exact .inl h
        · refine .inr fun l hl hb => ?_
          have := hblt k l b hl hb
          have h : w.heap.size ≤ b := h
          omega
        · exact .inr fun l hl hb => hother k l b hm hl hb h
    · by_cases hm : k ∈ ids2
      · obtain ⟨o', ho'⟩ := hmem' k hm
        rw [zbw hnd', ho'] at hk'
        cases hk'
      · rw [hup k hm] at hk'
        exact (if_neg hm).trans (hI.dom k hk')
    · have hl : (if i ∈ ids2 then r' i else r i) = some l := hl
      have hl' : (if j ∈ ids2 then r' j else r j) = some l' := hl'
      by_cases h1 : i ∈ ids2
      · rw [if_pos h1] at hl
        by_cases h2 : j ∈ ids2
        · rw [if_pos h2] at hl'
          exact g3.apart i j l l' b hij hl hl' hb
        · rw [if_neg h2] at hl'
          intro hb'
          rcases g3.low i l b hl hb with h | h
          · have := hblt j l' b hl' hb'
            have h : w.heap.size ≤ b := h
            omega
          · exact hother j l' b h2 hl' hb' h
      · rw [if_neg h1] at hl
        by_cases h2 : j ∈ ids2
        · rw [if_pos h2] at hl'
          intro hb'
          rcases g3.low j l' b hl' hb' with h | h
          · have := hblt i l b hl hb
            have h : w.heap.size ≤ b := h
            omega
          · exact hother i l b h1 hl hb h
        · rw [if_neg h2] at hl'
          exact hI.apart i j l l' b hij hl hl' hb
    · have hl : (if k ∈ ids2 then r' k else r k) = some l := hl
      by_cases h1 : k ∈ ids2
      · rw [if_pos h1] at hl
        rcases g3.low k l b hl hb with h | h
        · exact .inl (Nat.le_trans hH.size h)
        · exact hXL b h
      · rw [if_neg h1] at hl
        exact hI.low k l b hl hb
def resS (B : Tb) (fr : Fr) (ow : Ow) (rs : List ResultVar) : Option D :=
  match rs with
  | [.cell a t] => match getD' a fr with
    | .pv k off => match look k ow, B.sz t with
      | some (.var cs), some z => match z.2 with
        | true => match Nat.beq off 0 && Nat.beq z.1 cs.length with
          | true => fz (.ag cs) some
          | false => none
        | false => none
      | _, _ => none
    | _ => none
  | rs => resU B fr ow rs
theorem ziV {fn : Func} {a : Act} {w : World} {S : Cells} {r : Rho} {d : D} {rs : List ResultVar} (hrs : fn.results = ⟨rs⟩) (hI : Inv X w S r (fO ow)) (hF : ∀ t, Rel S w r (fF fr t) (a.tmps.getD t undef)) (h : resS (tb P) fr ow rs = some d) :
    ∃ v, (results fn a.tmps).run P w = .ok v w ∧ Rel S w r d v := by
  unfold resS at h
  split at h
  · rename_i x t
    simp only [zdD] at h
    split at h <;> first | (cases h; done) | skip
    rename_i k off hx
    split at h <;> first | (cases h; done) | skip
    rename_i cs z hk hz
    have hv := hF x
    rw [show fF fr x = .pv k off from hx] at hv
    generalize hav : a.tmps.getD x undef = av at hv
    cases hv with
    | pv _ _ _ b hb =>
      obtain ⟨b', cur, e', g1, g2, g3, g4, g5⟩ := hI.obj k _ hk
      rw [hb] at g1
      cases g1
      have hcell : ∀ j, j < cs.length → w.cell? ⟨b, 0 + j, none⟩ = some (cur.getD j undef) := fun j hj => by
        rw [Nat.zero_add, cell_of_row w b j cur e' (0, 0) g2]
        have : j < cur.size := by omega
        simp [Array.getD_eq_getD_getElem?, this]
      split at h <;> first | (cases h; done) | skip
      rename_i hz2
      split at h <;> first | (cases h; done) | skip
      rename_i hb2
      cases h
      simp only [Bool.and_eq_true] at hb2
      have e0 := Nat.eq_of_beq_eq_true hb2.1
      have e1 := Nat.eq_of_beq_eq_true hb2.2
      subst e0
      obtain ⟨u, q1, q2⟩ := zba (P := P) (o := 0) (b := b) (off := 0) hz (by simp only [partP, hz2]; omega) hcell (fun j hj => (g4 j hj).1)
      have e3 : partD z cs 0 = .ag cs := by
        simp only [partD, hz2]
        rw [e1]
        simp
      rw [e3] at q2
      refine ⟨u, ?_, q2⟩
      have hu : (Instr.loadAt t (.pointer (some ⟨b, 0, none⟩))).run P w = .ok u w := by simpa using q1
      simp only [Instr.loadAt, Instr.sureAddr, Sem.run_bind, Sem.run_pure, Result.andThen_ok] at hu
      have h0 : (resF a.tmps (.cell x t)).run P w = .ok u w := by
        simp only [resF, hav, asAddr, Sem.run_bind, Sem.run_pure, Result.andThen_ok]
        exact hu
      have hm : (fn.results.mapM (resF a.tmps)).run P w = .ok #[u] w := by
        rw [hrs, Array.mapM_eq_mapM_toList]
        have h1 : ([ResultVar.cell x t].mapM (resF a.tmps)).run P w = .ok [u] w := by
          rw [List.mapM_cons]
          simp only [Sem.run_bind, h0, List.mapM_nil, Result.andThen_ok, Sem.run_pure]
        simp only [Sem.run_map, h1, Result.andThen_ok]
      simp only [zbA, Sem.run_bind, hm, Result.andThen_ok, Sem.run_pure]
      rfl
  · exact zeF hrs hI hF h
theorem CtrO.of_TS {f : FuncId} {fn : Func} {c : Code} {N : Nat} {rs : List ResultVar} {args : List D} {d : D} (hf : P.funcs[f]? = some fn) (hb : fn.body = some c) (hN : fn.ntmps = N) (hrs : fn.results = ⟨rs⟩) (hlen : args.length ≤ N)
    (h : ∀ X : Ctx, Lent X → X.ids = ow.map (·.1) → T P X N c (slots 0 args) ow (fun e fr2 ow2 => (e = .ret ∨ e = .normal) ∧ ∃ d2, resS (tb P) fr2 ow2 rs = some d2 ∧ Weak d2 d ∧ d.okS (ow'.map (·.1)) = true ∧ Le X fr2 ow2 [] ow')) :
    CtrO P f args ow d ow' := by
  refine CtrO.of0 fun X vs hdf0 hids hH hI hsz hrel => ?_
  have hL : Lent X := fun k hk => by
    rw [hids]
    cases hmem : look k ow with
    | none => exact absurd (hI.dom k hmem) hk
    | some o =>
      by_cases hm : k ∈ ow.map (·.1)
      · exact hm
      · rw [zbK hm] at hmem; cases hmem
  refine calls_of_wp hf hb ?_
  have hrep : Rep X N (fF (slots 0 args)) (fO ow) { tmps := vs ++ Array.replicate (fn.ntmps - vs.size) undef, defers := [] } X.w0 := by
    refine ⟨X.S0, X.r0, hH, hI, fun t => ?_, hdf0.symm, by simp; omega, RhoLe.refl _⟩
    show Rel _ _ _ (getD' t (slots 0 args)) _
    rw [zcp]
    simp only [Nat.zero_le, if_true, Nat.sub_zero]
    by_cases ht : t < args.length
    · have := hrel t ht
      rw [Array.getD_eq_getD_getElem?, Array.getElem?_append_left (by omega), ← Array.getD_eq_getD_getElem?]
      exact this
    · rw [List.getD_eq_getElem?_getD, List.getElem?_eq_none (by omega)]
      exact .any ..
  refine wp_mono (h X hL hids _ _ hrep).wide fun e a w ⟨fr2, ow2, ⟨he, d2, h1, h2, h3, h4⟩, hrep2⟩ => ?_
  obtain ⟨S, r, hH2, hI2, hF2, hd2, _, hρ2⟩ := hrep2
  obtain ⟨v, hv, hvr⟩ := ziV (P := P) hrs hI2 hF2 h1
  have hok := h4.ok
  simp only [okAll, Bool.and_eq_true] at hok
  have hfin : ∃ v' S' r', Ending.returned v = .returned v' ∧ Rel S' w r' d v' ∧ Hist X w S' ∧ Inv X w S' r' (fO ow') ∧ RhoLe X.r0 r' := by
    refine ⟨v, S, keepR r (ow'.map (·.1)), rfl, ?_, hH2, hI2.keep h4.ow hok.2, fun k l hk => ?_⟩
    · exact (hvr.weak h2).okS h3
    · obtain ⟨l', g1, g2⟩ := hρ2 k l hk
      have : k ∈ ow'.map (·.1) := h4.ids k (hL k (by rw [hk]; simp))
      exact ⟨l', by simp only [keepR]; rw [if_pos this]; exact g1, g2⟩
  rcases he with rfl | rfl
  · exact ⟨hd2.trans hdf0, v, hv, hfin⟩
  · exact ⟨hd2.trans hdf0, v, hv, hfin⟩
end
section
variable {X : Ctx} {n : Nat} {all rest : List Oper} {fr : Fr} {ow : Ow} {tr : List (List Nat × List Nat)} {K : Fr → Ow → List (List Nat × List Nat) → Prop}
variable {t k k' : Nat} {op : Op} {ty ty2 ty' : TypeId} {ps : String} {af : Array Edge} {x y : Operand} {cs cs' : List D} {d : D} {f : FuncId} {args : List D} {g u : Nat} {want : Bool}
theorem ziT (lo lo' : Ow) (ids ids2 : List Nat) (hi1 : lo.map (·.1) = ids) (hi2 : lo'.map (·.1) = ids2) (hnd : ids2.Nodup) (hsub : ∀ k ∈ ids, k ∈ ids2) (hnew : ∀ k ∈ ids2, k ∉ ids → look k ow = none)
    (hc : callOf fr op = some (f, args)) (hn : Nat.blt t n = true) (hP : ∀ vs w, (callFunc f vs).run Tryz.prog w = .ok (.enter f vs) w) (hk : hasAll (fun k => look k ow) lo)
    (hok : (args.map (lendS ids)).all (D.okS ids) = true) (hf1 : lo.all (fun x => x.2.okIn ids) = true) (hf2 : lo'.all (fun x => x.2.okIn ids2) = true) (hf3 : d.okS ids2 = true)
    (hC : CtrO Tryz.prog f (args.map (lendS ids)) lo d lo')
    (h : CT Tryz.prog X n all rest ((t, d) :: fr) (lo' ++ ow) (tr ++ [(ids2, lo'.map (·.1))]) K) : CT Tryz.prog X n all (⟨some t, op, ty, ps, af, none⟩ :: rest) fr ow tr K :=
  CT.cons (e := ⟨d, ids2, lo'⟩) (.plain rfl (zkJ (o := ⟨some t, op, ty, ps, af, none⟩) (ow := ow) hP hc hk hi1 hi2 hnd hsub hnew hok hf1 hf2 hf3 hC (show t < n by simpa using hn))) (zaE ..) (zro (by rw [hi2]; exact hnd)) h
def EndsS (rs : List ResultVar) (d : D) (lo : Ow) (e : Exit) (fr : Fr) (ow : Ow) : Prop :=
  match e with
  | .ret | .normal => ∃ d2, resS B fr ow rs = some d2 ∧ Weak d2 d ∧ leOw ow lo
  | _ => False
theorem zcm {rs : List ResultVar} {d d2 : D} {lo : Ow} (h : resS B fr ow rs = some d2) (he : Weak d2 d) (hlo : Stay (leOw ow lo)) : Rtn (EndsS rs d lo) fr ow := by
  unfold Rtn
  exact ⟨d2, h, he, hlo.out⟩
theorem zdb {f : FuncId} {args : List D} {d : D} {fn : Func} {c : Code} {N : Nat} {rs : List ResultVar} {lo lo' : Ow} {ids ids2 : List Nat} (hf : Tryz.prog.funcs[f]? = some fn) (hb : fn.body = some c) (hN : fn.ntmps = N) (hrs : fn.results = ⟨rs⟩) (hlen : Nat.ble args.length N = true)
    (hi1 : lo.map (·.1) = ids) (hi2 : lo'.map (·.1) = ids2) (hsub : ∀ k ∈ ids, k ∈ ids2) (hd : d.okS ids2 = true) (hcs : lo'.all (fun x => x.2.okIn ids2) = true)
    (h : ∀ X : Ctx, Lent X → X.ids = ids → T Tryz.prog X N c (slots 0 args) lo (EndsS rs d lo')) : CtrO Tryz.prog f args lo d lo' := by
  refine CtrO.of_TS hf hb hN hrs (by simpa using hlen) fun X hL hi => (h X hL (hi.trans hi1)).mono fun e fr2 ow2 hq => ?_
  have key : ∀ d2, resS B fr2 ow2 rs = some d2 → Weak d2 d → leOw ow2 lo' →
      ∃ d2, resS (tb Tryz.prog) fr2 ow2 rs = some d2 ∧ Weak d2 d ∧ d.okS (lo'.map (·.1)) = true ∧ Le X fr2 ow2 [] lo' := by
    intro d2 h1 h2 h3
    refine ⟨d2, by rw [zer]; exact h1, h2, by rw [hi2]; exact hd, trivial, h3, ?_, fun k hk => ?_⟩
    · rw [hi2]
      simp only [okAll, List.all_nil, Bool.true_and]
      exact hcs
    · rw [hi, hi1] at hk
      rw [hi2]
      exact hsub k hk
  cases e with
  | ret => obtain ⟨d2, h1, h2, h3⟩ := hq; exact ⟨.inl rfl, key d2 h1 h2 h3⟩
  | normal => obtain ⟨d2, h1, h2, h3⟩ := hq; exact ⟨.inr rfl, key d2 h1 h2 h3⟩
  | _ => exact hq.elim
end

theorem zbT : Tryz.prog.underlying 71 = some (.map 9 3) := by kernel_rfl
def tblP (rows : List (List Tx)) (j : JnR) (cols : D) : List D := [.s j.key, .s j.attr, .nilS, .nilS, .b j.texts, .b j.drop, .sl 1 (namesR rows).length (Csv.rowF (namesR rows)), .sl 1 (rows.length - 1) (fun i => Csv.tabF rows (1 + i)), .mh 68, cols]
def colF (l : List Nat) : Nat → List D := fun k => [.i .i64 ((l.getD k 0 : Nat) : Int)]
def tblO (rows : List (List Tx)) (j : JnR) : Ow := [(70, .var (tblP rows j (.gs 101 1 (colsR rows j).length (colF (colsR rows j))))), (68, .mp (firstE (keysR rows (colK rows j)) (rows.length - 1))), (101, .row 3 1 (colsR rows j).length)]
theorem zpm (k : Nat) (l : List Nat) (x : Nat) (g : Nat → List D) (hg : g 0 = [.i .i64 ((x : Nat) : Int)]) : D.gs k 1 (l.length + 1) (catF l.length (colF l) 1 g) = D.gs k 1 (l ++ [x]).length (colF (l ++ [x])) := by
  have e : catF l.length (colF l) 1 g = colF (l ++ [x]) := by
    funext j
    unfold catF colF
    by_cases h : j < l.length
    · rw [if_pos h]
      simp [List.getD_eq_getElem?_getD, List.getElem?_append_left h]
    · rw [if_neg h]
      by_cases h2 : j < l.length + 1
      · have : j = l.length := by omega
        subst this
        rw [if_pos (by omega), Nat.sub_self, hg]
        simp [List.getD_eq_getElem?_getD]
      · rw [if_neg (by omega)]
        simp [List.getD_eq_getElem?_getD, show l.length ≤ j by omega]
        rw [List.getElem?_eq_none (by simp; omega)]
        rfl
  rw [e, List.length_append]
  rfl
theorem okF3 {fr : Fr} {ks : List Tx} {i : Nat} {cs cs' : List D} (h : okAll [68, 70, 3] fr [(70, .var cs), (3, .var cs')] = true) : okAll [68, 70, 3] fr [(68, .mp (firstE ks i)), (70, .var cs), (3, .var cs')] = true := by
  unfold okAll at h ⊢
  rw [List.all_cons, okFirst]
  exact h
theorem okF4 {fr : Fr} {ks : List Tx} {i n : Nat} {t : TypeId} {cs cs' : List D} (h : okAll [68, 70, 101, 3] fr [(70, .var cs), (101, .row t 1 n), (3, .var cs')] = true) : okAll [68, 70, 101, 3] fr [(68, .mp (firstE ks i)), (70, .var cs), (101, .row t 1 n), (3, .var cs')] = true := by
  unfold okAll at h ⊢
  rw [List.all_cons, okFirst]
  exact h
theorem zqd {rows : List (List Tx)} {k i : Nat} (h : i < rows.length - 1) : (keysR rows k).getD i [] = (rows.getD (1 + i) []).getD k [] := by
  unfold keysR
  rw [List.getD_eq_getElem?_getD, List.getElem?_map, List.getElem?_drop, List.getElem?_eq_getElem (by omega)]
  simp [List.getD_eq_getElem?_getD, show 1 + i < rows.length by omega]
theorem zbL (rows : List (List Tx)) (k : Nat) : (keysR rows k).length = rows.length - 1 := by
  unfold keysR
  rw [List.length_map, List.length_drop]
theorem zgh (P : Nat → Bool) (i : Nat) : (List.range (i + 1)).filter P = if P i = true then (List.range i).filter P ++ [i] else (List.range i).filter P := by
  rw [List.range_succ, List.filter_append, List.filter_cons, List.filter_nil]
  split
  · rfl
  · rw [List.append_nil]
theorem zoQ {l : List Tx} (h : rightN l) {k : Tx} (hk : k ∈ l) {i : Nat} (hi : i < l.length) : (i : Int) = Csv.idxI k l ↔ l.getD i [] = k := by
  have h0 := (zbO k l).2 hk
  have h1 := (zcD k l).2
  have hat := zmh k l h0
  constructor
  · intro e
    rw [← e] at hat
    exact hat
  · intro e
    have hf := zka k l
    by_cases h2 : (i : Int) < Csv.idxI k l
    · exact absurd e (hf i h2)
    · by_cases h3 : (i : Int) = Csv.idxI k l
      · exact h3
      · refine absurd ?_ (h i hi).2
        rw [e, ← hat]
        have h4 : (Csv.idxI k l).toNat < i := by omega
        rw [show l.getD (Csv.idxI k l).toNat [] = l[(Csv.idxI k l).toNat] by simp [List.getD_eq_getElem?_getD, show (Csv.idxI k l).toNat < l.length by omega]]
        exact List.mem_iff_getElem.2 ⟨(Csv.idxI k l).toNat, by rw [List.length_take]; omega, by rw [List.getElem_take]⟩
set_option maxRecDepth 100000 in
set_option maxHeartbeats 16000000 in
theorem zeD (s : Tx) (j : JnR) (hs : s.length ≤ 1000000) (h1 : j.only.length ≤ 4194304) (h2 : j.notl.length ≤ 4194304) (hb : (tabJ s j).2 = 0) : CtrO Tryz.prog 9 [.s s, .ag (jnP j)] [] (.tu [.pv 70 0, .i .i64 0]) (tblO (tabJ s j).1 j) := by
  have c1 := Csv.parse_ctr s (by omega)
  obtain ⟨hT, hE⟩ := zdq hb
  have e0 : (Csv.parseG s).2.2 = 0 ∧ hasAllT (namesR (Csv.parseG s).1) j.only ∧ hasAllT (namesR (Csv.parseG s).1) j.notl := by
    unfold tabJ at hb
    by_cases a : ¬ (Csv.parseG s).2.2 = 0
    · rw [if_pos a] at hb
      exact absurd hb a
    rw [if_neg a] at hb
    by_cases b : ¬ (j.key ∈ namesR (Csv.parseG s).1 ∧ hasAllT (namesR (Csv.parseG s).1) j.only ∧ hasAllT (namesR (Csv.parseG s).1) j.notl)
    · rw [if_pos b] at hb
      cases hb
    exact ⟨Decidable.not_not.1 a, (Decidable.not_not.1 b).2⟩
  rw [← hE] at e0
  unfold Csv.parsed at c1
  rw [← hE] at c1
  obtain ⟨e1, ho, hz⟩ := e0
  rw [e1] at c1
  generalize (Csv.parseG s).2.1 = at' at c1
  generalize (tabJ s j).1 = rows at *
  clear hE hb
  obtain ⟨few, some1, good, hkey, hnames⟩ := hT
  obtain ⟨n1, n2⟩ := zaI good
  have c2 := Csv.column_ctr rows j.key (by omega) (by have : (rows.getD 0 []).length ≤ s.length + 1 := n1; omega)
  rw [zdI] at c2
  have c3 := zeB (namesR rows) j.only (by omega) (by omega)
  have c4 := zeB (namesR rows) j.notl (by omega) (by omega)
  have c5 := zfU (namesR rows) (by omega) (fun i => Nat.le_trans (n2 i) (by omega))
  rw [decide_eq_true ho] at c3
  rw [decide_eq_true hz] at c4
  rw [decide_eq_true hnames] at c5
  have hk0 := (zbO j.key (namesR rows)).2 hkey
  have hkl := (zcD j.key (namesR rows)).2
  rw [decide_eq_true hk0] at c2
  have hmax : max (Csv.idxI j.key (namesR rows)) 0 = Csv.idxI j.key (namesR rows) := by omega
  rw [hmax] at c2
  clear hmax
  have hr : (0 : Int) < rows.length := by omega
  have hcn : ∀ i : Nat, i < (namesR rows).length → ((i : Int) = Csv.idxI j.key (namesR rows) ↔ (namesR rows).getD i [] = j.key) := fun i hi => zoQ hnames hkey hi
  have hK : colK rows j = (Csv.idxI j.key (namesR rows)).toNat := rfl
  have hnl : (namesR rows).length = (rows.getD 0 []).length := rfl
  unfold tblO
  rw [hK]
  clear hK ho hz
  unfold namesR at c2 c3 c4 c5
  generalize hkI : Csv.idxI j.key (namesR rows) = kI at *
  have hkI2 : Csv.idxI j.key (rows.getD 0 []) = kI := hkI
  rw [hkI2] at c2
  clear hkI hkI2
  refine zdb (ids := []) (ids2 := [70, 68, 101]) Tryz.func9 rfl Tryz.ntmps9 Tryz.results9 rfl rfl rfl (fun _ h => by cases h) rfl ?_ fun X hL hX => ?_
  · rw [List.all_cons, List.all_cons, okFirst]
    rfl
  repeat' (first |refine zpJ rfl rfl ?_|refine zae (f := 29) rfl rfl Tryz.call29 rfl c1 ?_|refine zae (f := 30) rfl rfl Tryz.call30 rfl c2 ?_|refine zaw (f := 31) rfl rfl rfl rfl Tryz.call31 rfl c3 ?_|refine zaw (f := 31) rfl rfl rfl rfl Tryz.call31 rfl c4 ?_|refine zae (f := 32) rfl rfl Tryz.call32 rfl c5 ?_|with_reducible (first |refine zah ?_|refine zaa ?_|refine zag ?_|refine zad ?_|refine zai ?_|refine zaf ?_|refine zao ?_|refine zaC ?_)|refine zab rfl rfl True.intro ?_|refine zaj rfl rfl rfl rfl True.intro ?_|refine zal rfl ?_|((first |refine zaT rfl rfl ?_ ?_)<;>intro<;>try (first |(rename_i hz;exact tf_ hz)))|((first |refine zab rfl rfl ?_ ?_|refine zaj rfl rfl rfl rfl ?_ ?_|refine zav rfl rfl ?_ ?_|refine zaH rfl ?_ ?_);focus (first |omega|exact le_ rfl|((repeat' refine And.intro ?_ ?_)<;>omega)|((repeat' refine And.intro ?_ ?_)<;>first |rfl|exact le_ rfl)))|with_reducible refine ⟨by kernel_rfl, ?_⟩|fail)
  clear c1 c2 c3 c4 c5
  refine T.loop hL (fun i : Nat => [(3, .pv 3 0), (9, .i .i64 kI), (11, .pv 70 0), (82, .sl 1 (rows.length - 1) (fun q => Csv.tabF rows (1 + q))), (83, .i .i64 ((rows.length - 1 : Nat) : Int)), (84, .i .i64 i)]) (fun i => [(68, .mp (firstE (keysR rows kI.toNat) i)), (70, .var (tblP rows j .nilS)), (3, .var (jnP j))])
    (fun i => i ≤ rows.length - 1) (fun i => rows.length - 1 - i) 0 (Nat.zero_le _)
    ⟨⟨rfl, rfl, rfl, rfl, rfl, rfl, trivial⟩, ⟨rfl, rfl, rfl, trivial⟩, okF3 rfl, by rw [hX]; simp⟩ ?_
  intro i g1
  try dsimp only at g1 ⊢
  have hnat : (i : Int).toNat = i := Int.toNat_natCast i
  by_cases hi : i < rows.length - 1
  · have hi' : (i : Int) < ((rows.length - 1 : Nat) : Int) := by omega
    have hrow := (good (1 + i) (by omega)).1
    have hlt : kI < ((rows.getD (1 + (i : Int).toNat) []).length : Int) := by rw [hnat]; omega
    have hcell := zqd (k := kI.toNat) hi
    have hf := zdp (keysR rows kI.toNat) ((keysR rows kI.toNat).getD i []) i (by rw [zbL]; omega)
    have hstep : firstE (keysR rows kI.toNat) (i + 1) = match mget ((keysR rows kI.toNat).getD i []) (firstE (keysR rows kI.toNat) i) with
      | some _ => firstE (keysR rows kI.toNat) i
      | none => mput ((keysR rows kI.toNat).getD i []) (.i .i64 (i : Int)) (firstE (keysR rows kI.toNat) i) := rfl
    rw [hcell] at hf hstep
    rw [← hnat] at hf hstep
    generalize Csv.idxI ((rows.getD (1 + (i : Int).toNat) []).getD kI.toNat []) (List.take (i : Int).toNat (keysR rows kI.toNat)) = ix at hf
    rw [hnat] at hstep hf
    have hc2 : (rows.getD (1 + i) []).getD kI.toNat [] = (rows.getD (1 + (i : Int).toNat) []).getD kI.toNat [] := by rw [hnat]
    rw [hc2] at hstep hf
    by_cases h0 : ix < 0
    · rw [if_pos h0] at hf
      rw [hf] at hstep
      dsimp only at hstep
      repeat' (first |refine zhh zbT Tryz.underlying9 rfl rfl rfl rfl hf rfl ?_|refine zpl zbT Tryz.underlying9 rfl rfl rfl rfl rfl ?_|with_reducible (first |refine zah ?_|refine zaa ?_|refine zag ?_|refine zad ?_|refine zai ?_|refine zaf ?_|refine zao ?_|refine zaC ?_)|refine zab rfl rfl True.intro ?_|refine zau rfl ?_|((first |refine zac rfl ?_ ?_)<;>intro<;>try (first |(exfalso;omega)))|((first |refine zab rfl rfl ?_ ?_);focus (first |omega|exact le_ rfl|((repeat' refine And.intro ?_ ?_)<;>omega)))|with_reducible refine ⟨by kernel_rfl, ?_⟩|fail)
      all_goals first
        | exact ⟨i + 1, by omega, by omega, ⟨rfl, rfl, rfl, rfl, rfl, rfl, trivial⟩, ⟨congrArg (fun e => some (Own.mp e)) hstep.symm, rfl, rfl, trivial⟩, okF3 rfl, by rw [hX]; simp⟩
        | (exfalso; omega)
        | trace_state
    · rw [if_neg h0] at hf
      rw [hf] at hstep
      dsimp only at hstep
      repeat' (first |refine znd zbT Tryz.underlying9 rfl rfl rfl hf rfl ?_|with_reducible (first |refine zah ?_|refine zaa ?_|refine zag ?_|refine zad ?_|refine zai ?_|refine zaf ?_|refine zao ?_|refine zaC ?_)|refine zab rfl rfl True.intro ?_|refine zal rfl ?_|((first |refine zac rfl ?_ ?_)<;>intro<;>try (first |(exfalso;omega)))|((first |refine zab rfl rfl ?_ ?_);focus (first |omega|exact le_ rfl|((repeat' refine And.intro ?_ ?_)<;>omega)))|with_reducible refine ⟨by kernel_rfl, ?_⟩|fail)
      all_goals first
        | exact ⟨i + 1, by omega, by omega, ⟨rfl, rfl, rfl, rfl, rfl, rfl, trivial⟩, ⟨congrArg (fun e => some (Own.mp e)) hstep.symm, rfl, rfl, trivial⟩, okF3 rfl, by rw [hX]; simp⟩
        | (exfalso; omega)
        | trace_state
  have hi' : ¬ (i : Int) < ((rows.length - 1 : Nat) : Int) := by omega
  have hii : i = rows.length - 1 := by omega
  subst hii
  clear g1 hnat hi hi'
  repeat' (first |refine T.adoptV 70 9 101 3 1 _ (colF []) rfl rfl rfl ?_|with_reducible (first |refine zah ?_|refine zaa ?_|refine zag ?_|refine zad ?_|refine zat ?_|refine zaf ?_|refine zas ?_)|refine zab rfl rfl True.intro ?_|((first |refine zac rfl ?_ ?_)<;>intro<;>try (first |(exfalso;omega)))|((first |refine zab rfl rfl ?_ ?_);focus (first |exact le_ rfl|((repeat' refine And.intro ?_ ?_)<;>omega)))|refine zaB rfl ?_|fail)
  have hcols : ∀ x : Nat, joinedP j ((namesR rows).getD x []) = joinedP j ((rows.getD 0 []).getD x []) := fun _ => rfl
  have hfin : (List.range (rows.getD 0 []).length).filter (fun x => joinedP j ((rows.getD 0 []).getD x [])) = colsR rows j := rfl
  refine T.loop hL (fun x : Nat × List Nat => [(3, .pv 3 0), (9, .i .i64 kI), (11, .pv 70 0), (116, .sl 1 (rows.getD 0 []).length (Csv.rowF (rows.getD 0 []))), (117, .i .i64 (rows.getD 0 []).length), (118, .i .i64 x.1)]) (fun x => [(68, .mp (firstE (keysR rows kI.toNat) (rows.length - 1))), (70, .var (tblP rows j (.gs 101 1 x.2.length (colF x.2)))), (101, .row 3 1 x.2.length), (3, .var (jnP j))])
    (fun x => x.1 ≤ (rows.getD 0 []).length ∧ x.2.length ≤ x.1 ∧ x.2 = (List.range x.1).filter (fun x => joinedP j ((rows.getD 0 []).getD x []))) (fun x => (rows.getD 0 []).length - x.1) (0, []) ⟨Nat.zero_le _, Nat.le_refl _, rfl⟩
    ⟨⟨rfl, rfl, rfl, rfl, rfl, rfl, trivial⟩, ⟨rfl, rfl, rfl, rfl, trivial⟩, okF4 rfl, by rw [hX]; simp⟩ ?_
  rintro ⟨i, cols⟩ ⟨g1, g2, g3⟩
  try dsimp only at g1 g2 g3 ⊢
  have hnat : (i : Int).toNat = i := Int.toNat_natCast i
  by_cases hi : i < (rows.getD 0 []).length
  rotate_left
  · have hi' : ¬ (i : Int) < ((rows.getD 0 []).length : Int) := by omega
    have hce : cols = colsR rows j := by
      rw [g3, show i = (rows.getD 0 []).length by omega]
      exact hfin
    rw [← hce]
    repeat' (first |with_reducible (first |refine zah ?_|refine zaa ?_|refine zag ?_|refine zad ?_|refine zan ?_|refine zat ?_|refine zas ?_)|refine zab rfl rfl True.intro ?_|((first |refine zac rfl ?_ ?_)<;>intro<;>try (first |(exfalso;omega)))|refine zaB rfl ?_|refine zcm rfl (.refl _) ⟨⟨rfl, rfl, rfl, trivial⟩⟩|fail)
    all_goals first
      | rfl
      | trace_state
  have hi' : (i : Int) < ((rows.getD 0 []).length : Int) := by omega
  have hn := zgh (fun x => joinedP j ((rows.getD 0 []).getD x [])) i
  rw [← g3] at hn
  have hck := hcn i hi
  have hjn : joinedP j ((rows.getD 0 []).getD (i : Int).toNat []) = joinedP j ((rows.getD 0 []).getD i []) := by rw [hnat]
  have hck2 : (i : Int) = kI ↔ ((rows.getD 0 []).getD (i : Int).toNat []) = j.key := by rw [hnat]; exact hck
  try dsimp only at hn
  rw [← hjn] at hn
  unfold joinedP at hn
  have cI := zgk j.only ((rows.getD 0 []).getD (i : Int).toNat []) (by omega)
  have cN := zgk j.notl ((rows.getD 0 []).getD (i : Int).toNat []) (by omega)
  have hlen : ∀ x : Nat, cols.length + 1 = (cols ++ [x]).length := fun x => by rw [List.length_append]; rfl
  clear g3 hjn hck hcols hfin hcn
  by_cases ho : 0 < j.only.length
  · have ho' : (j.only.length : Int) > 0 := by omega
    by_cases hm : ((rows.getD 0 []).getD (i : Int).toNat []) ∈ j.only
    · rw [decide_eq_true hm] at cI
      by_cases hz : ((rows.getD 0 []).getD (i : Int).toNat []) ∈ j.notl
      · rw [decide_eq_true hz] at cN
        rw [if_pos hz, if_neg Bool.false_ne_true] at hn
        repeat' (first |refine zae (f := 33) rfl rfl Tryz.call33 rfl cI ?_|refine zaw (f := 33) rfl rfl rfl rfl Tryz.call33 rfl cN ?_|with_reducible (first |refine zah ?_|refine zaa ?_|refine zag ?_|refine zad ?_|refine zai ?_|refine zaf ?_|refine zao ?_)|refine zab rfl rfl True.intro ?_|refine zaj rfl rfl rfl rfl True.intro ?_|refine zal rfl ?_|((first |refine zac rfl ?_ ?_)<;>intro<;>try (first |(exfalso;omega)))|((first |refine zab rfl rfl ?_ ?_|refine zaj rfl rfl rfl rfl ?_ ?_);focus (first |omega|exact le_ rfl|((repeat' refine And.intro ?_ ?_)<;>omega)))|fail)
        all_goals first
          | exact ⟨(i + 1, cols), ⟨by dsimp only; omega, by dsimp only; omega, by dsimp only; exact hn.symm⟩, by dsimp only; omega, ⟨rfl, rfl, rfl, rfl, rfl, rfl, trivial⟩, ⟨rfl, rfl, rfl, rfl, trivial⟩, okF4 rfl, by rw [hX]; simp⟩
          | (exfalso; omega)
          | trace_state
      · rw [decide_eq_false hz] at cN
        rw [if_neg hz, if_pos ho, decide_eq_true hm, if_pos rfl] at hn
        repeat' (first |refine zae (f := 33) rfl rfl Tryz.call33 rfl cI ?_|refine zaw (f := 33) rfl rfl rfl rfl Tryz.call33 rfl cN ?_|with_reducible (first |refine zah ?_|refine zaa ?_|refine zag ?_|refine zad ?_|refine zai ?_|refine zaf ?_|refine zao ?_)|refine zab rfl rfl True.intro ?_|refine zaj rfl rfl rfl rfl True.intro ?_|refine zau rfl ?_|((first |refine zac rfl ?_ ?_)<;>intro<;>try (first |(exfalso;omega)))|((first |refine zab rfl rfl ?_ ?_|refine zaj rfl rfl rfl rfl ?_ ?_|refine zav rfl rfl ?_ ?_|refine zaH rfl ?_ ?_);focus (first |omega|exact le_ rfl|((repeat' refine And.intro ?_ ?_)<;>omega)|((repeat' refine And.intro ?_ ?_)<;>first |omega|rfl|exact Nat.le_refl _)))|fail)
        all_goals first
          | exact ⟨(i + 1, cols ++ [i]), ⟨by dsimp only; omega, by dsimp only; rw [← hlen]; omega, by dsimp only; exact hn.symm⟩, by dsimp only; omega, ⟨rfl, rfl, rfl, rfl, rfl, rfl, trivial⟩, ⟨rfl, congrArg (fun d => some (Own.var (tblP rows j d))) (zpm 101 cols i _ rfl), congrArg (fun n => some (Own.row 3 1 n)) (hlen i), rfl, trivial⟩, okF4 rfl, by rw [hX]; simp⟩
          | (exfalso; omega)
          | trace_state
    · rw [decide_eq_false hm] at cI
      have hn : (List.range (i + 1)).filter (fun x => joinedP j ((rows.getD 0 []).getD x [])) = cols := by
        refine Eq.trans hn ?_
        by_cases hz : ((rows.getD 0 []).getD (i : Int).toNat []) ∈ j.notl
        · rw [if_pos hz, if_neg Bool.false_ne_true]
        · rw [if_neg hz, if_pos ho, decide_eq_false hm, if_neg Bool.false_ne_true]
      repeat' (first |refine zae (f := 33) rfl rfl Tryz.call33 rfl cI ?_|with_reducible (first |refine zah ?_|refine zaa ?_|refine zag ?_|refine zad ?_|refine zai ?_|refine zaf ?_|refine zao ?_)|refine zab rfl rfl True.intro ?_|refine zap rfl rfl rfl ?_|refine zal rfl ?_|((first |refine zac rfl ?_ ?_)<;>intro<;>try (first |(exfalso;omega)))|((first |refine zab rfl rfl ?_ ?_);focus (first |omega|exact le_ rfl|((repeat' refine And.intro ?_ ?_)<;>omega)))|fail)
      all_goals first
        | exact ⟨(i + 1, cols), ⟨by dsimp only; omega, by dsimp only; omega, by dsimp only; exact hn.symm⟩, by dsimp only; omega, ⟨rfl, rfl, rfl, rfl, rfl, rfl, trivial⟩, ⟨rfl, rfl, rfl, rfl, trivial⟩, okF4 rfl, by rw [hX]; simp⟩
        | (exfalso; omega)
        | trace_state
  · have ho' : ¬ (j.only.length : Int) > 0 := by omega
    by_cases hm : (i : Int) = kI
    · have hn : (List.range (i + 1)).filter (fun x => joinedP j ((rows.getD 0 []).getD x [])) = cols := by
        refine Eq.trans hn ?_
        by_cases hz : ((rows.getD 0 []).getD (i : Int).toNat []) ∈ j.notl
        · rw [if_pos hz, if_neg Bool.false_ne_true]
        · rw [if_neg hz, if_neg ho, decide_eq_false (show ¬ ¬ ((rows.getD 0 []).getD (i : Int).toNat []) = j.key from fun q => q (hck2.1 hm)), if_neg Bool.false_ne_true]
      repeat' (first |with_reducible (first |refine zah ?_|refine zaa ?_|refine zag ?_|refine zad ?_|refine zai ?_|refine zaf ?_|refine zao ?_)|refine zab rfl rfl True.intro ?_|refine zap rfl rfl rfl ?_|refine zal rfl ?_|((first |refine zac rfl ?_ ?_|refine zbX rfl rfl ?_ ?_)<;>intro<;>try (first |(exfalso;omega)))|((first |refine zab rfl rfl ?_ ?_);focus (first |omega|exact le_ rfl|((repeat' refine And.intro ?_ ?_)<;>omega)))|fail)
      all_goals first
        | exact ⟨(i + 1, cols), ⟨by dsimp only; omega, by dsimp only; omega, by dsimp only; exact hn.symm⟩, by dsimp only; omega, ⟨rfl, rfl, rfl, rfl, rfl, rfl, trivial⟩, ⟨rfl, rfl, rfl, rfl, trivial⟩, okF4 rfl, by rw [hX]; simp⟩
        | (exfalso; omega)
        | trace_state
    · by_cases hz : ((rows.getD 0 []).getD (i : Int).toNat []) ∈ j.notl
      · rw [decide_eq_true hz] at cN
        rw [if_pos hz, if_neg Bool.false_ne_true] at hn
        repeat' (first |refine zaw (f := 33) rfl rfl rfl rfl Tryz.call33 rfl cN ?_|with_reducible (first |refine zah ?_|refine zaa ?_|refine zag ?_|refine zad ?_|refine zai ?_|refine zaf ?_|refine zao ?_)|refine zab rfl rfl True.intro ?_|refine zaj rfl rfl rfl rfl True.intro ?_|refine zal rfl ?_|((first |refine zac rfl ?_ ?_|refine zbX rfl rfl ?_ ?_)<;>intro<;>try (first |(exfalso;omega)))|((first |refine zab rfl rfl ?_ ?_|refine zaj rfl rfl rfl rfl ?_ ?_);focus (first |omega|exact le_ rfl|((repeat' refine And.intro ?_ ?_)<;>omega)))|fail)
        all_goals first
          | exact ⟨(i + 1, cols), ⟨by dsimp only; omega, by dsimp only; omega, by dsimp only; exact hn.symm⟩, by dsimp only; omega, ⟨rfl, rfl, rfl, rfl, rfl, rfl, trivial⟩, ⟨rfl, rfl, rfl, rfl, trivial⟩, okF4 rfl, by rw [hX]; simp⟩
          | (exfalso; omega)
          | trace_state
      · rw [decide_eq_false hz] at cN
        rw [if_neg hz, if_neg ho, decide_eq_true (show ¬ ((rows.getD 0 []).getD (i : Int).toNat []) = j.key from fun q => hm (hck2.2 q)), if_pos rfl] at hn
        repeat' (first |refine zaw (f := 33) rfl rfl rfl rfl Tryz.call33 rfl cN ?_|with_reducible (first |refine zah ?_|refine zaa ?_|refine zag ?_|refine zad ?_|refine zai ?_|refine zaf ?_|refine zao ?_)|refine zab rfl rfl True.intro ?_|refine zaj rfl rfl rfl rfl True.intro ?_|refine zau rfl ?_|((first |refine zac rfl ?_ ?_|refine zbX rfl rfl ?_ ?_)<;>intro<;>try (first |(exfalso;omega)))|((first |refine zab rfl rfl ?_ ?_|refine zaj rfl rfl rfl rfl ?_ ?_|refine zav rfl rfl ?_ ?_|refine zaH rfl ?_ ?_);focus (first |omega|exact le_ rfl|((repeat' refine And.intro ?_ ?_)<;>omega)|((repeat' refine And.intro ?_ ?_)<;>first |omega|rfl|exact Nat.le_refl _)))|fail)
        all_goals first
          | exact ⟨(i + 1, cols ++ [i]), ⟨by dsimp only; omega, by dsimp only; rw [← hlen]; omega, by dsimp only; exact hn.symm⟩, by dsimp only; omega, ⟨rfl, rfl, rfl, rfl, rfl, rfl, trivial⟩, ⟨rfl, congrArg (fun d => some (Own.var (tblP rows j d))) (zpm 101 cols i _ rfl), congrArg (fun n => some (Own.row 3 1 n)) (hlen i), rfl, trivial⟩, okF4 rfl, by rw [hX]; simp⟩
          | (exfalso; omega)
          | trace_state
end Go.Proofs.YtkkaamhocpmhkaaGreatDoor.Flow
