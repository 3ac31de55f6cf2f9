/-
  FLOW, PART O: A CALL TO WHICH A VARIABLE IS LENT (a method with a pointer receiver).
-/
import Derived.Test.YteidmimpkipcfaaDoorCFlowN
namespace Go.Proofs.YteidmimpkipcfaaDoor.Flow

/-- An argument in the callee's own numbers: the lent variable is its number 0. -/
def unsub (k : Nat) : D → D
  | .pv j o => match Nat.beq j k with
    | true => .pv 0 o
    | false => .pv (j + 1) o
  | d => d.shut

def okA : D → Bool
  | .pv 0 _ => true
  | d => d.free

section
variable {P : Program} {X : Ctx} {n : Nat} {fr : Fr} {ow : Ow} {d : D}

theorem lend_step {o : Oper} {f : FuncId} {args : List D} {k : Nat} {cs cs' : List D} (hP : ∀ vs w, (callFunc f vs).run P w = .ok (.enter f vs) w) (hc : callOf fr o.op = some (f, args)) (hk : look k ow = some (.var cs))
    (hok : (args.map (unsub k)).all okA = true) (hf1 : cs.all D.free = true) (hf2 : cs'.all D.free = true) (hf3 : d.free = true)
    (hC : CtrO P f (args.map (unsub k)) [(0, .var cs)] d [(0, .var cs')]) (hd : dstOk o.dst n) :
    ∀ F' O', (∀ x ∈ o.op.operands.toList, evF F' x = evF (fF fr) x) → (∀ j ∈ [k], O' j = fO ow j) → StepAt P X n o F' O' d [(k, .var cs')] := by
  intro F' O' he hO a w K' Q' ⟨S, r, hH, hI, hF, hdf, hn, hρ⟩ hK
  obtain ⟨vs, hrun, hsz, hrel⟩ := call_enter hP hc he (fun x => evF_rel hH.glob hF x)
  have hOk : O' k = some (.var cs) := (hO k (by simp)).trans hk
  have hobj := hI.obj k _ hOk
  obtain ⟨b, cur, e0, hb, hheap, hsz0, hcells, hfree⟩ := hobj
  have getFree : ∀ (l : List D), l.all D.free = true → ∀ j, j < l.length → (l.getD j .any).free = true := fun l hl j hj => by
    rw [List.all_eq_true] at hl
    refine hl _ ?_
    simp only [List.getD_eq_getElem?_getD, List.getElem?_eq_getElem hj, Option.getD_some]
    exact List.getElem_mem hj
  have hblt : b < w.heap.size := (Array.getElem?_eq_some_iff.1 hheap).1
  let X' : Ctx := { w0 := w, S0 := S, L := fun b' => b' = b, r0 := fun j => if j = 0 then some (.blk b) else none, ids := [0] }
  have hH' : Hist X' w S := ⟨rfl, rfl, rfl, Nat.le_refl _, fun _ _ _ => rfl, fun _ _ h => h, fun _ _ _ => rfl, fun _ _ h => .inl h, hH.valid, hH.glob⟩
  have hI' : Inv X' w S X'.r0 (fO [(0, .var cs)]) := by
    refine ⟨fun j ob hj => ?_, fun j hj => ?_, fun i j l l' b' hij hl hl' hb' => ?_, fun j l b' hl hb' => ?_⟩
    · have hj0 : j = 0 ∧ ob = .var cs := by
        rw [fO_cons] at hj
        have hj : (if j = 0 then some (Own.var cs) else fO [] j) = some ob := hj
        by_cases e : j = 0
        · rw [if_pos e] at hj
          exact ⟨e, (Option.some.inj hj).symm⟩
        · rw [if_neg e] at hj
          cases hj
      obtain ⟨rfl, rfl⟩ := hj0
      exact ⟨b, cur, e0, rfl, hheap, hsz0, fun j hj => ⟨(hcells j hj).1.free (getFree cs hf1 j hj) _, (hcells j hj).2⟩, hfree⟩
    · show (if j = 0 then some (Loc.blk b) else none) = none
      rw [if_neg]
      intro e
      subst e
      cases hj
    · have hl : (if i = 0 then some (Loc.blk b) else none) = some l := hl
      have hl' : (if j = 0 then some (Loc.blk b) else none) = some l' := hl'
      by_cases e : i = 0
      · by_cases e' : j = 0
        · omega
        · rw [if_neg e'] at hl'; cases hl'
      · rw [if_neg e] at hl; cases hl
    · have hl : (if j = 0 then some (Loc.blk b) else none) = some l := hl
      by_cases e : j = 0
      · rw [if_pos e] at hl
        cases hl
        exact .inr (Option.some.inj hb').symm
      · rw [if_neg e] at hl; cases hl
  have hrel' : ∀ j, j < (args.map (unsub k)).length → Rel S w X'.r0 ((args.map (unsub k)).getD j .any) (vs.getD j undef) := by
    intro j hj
    have hj' : j < args.length := by simpa using hj
    have e : (args.map (unsub k)).getD j .any = unsub k (args.getD j .any) := by simp [List.getD_eq_getElem?_getD, hj']
    have hokj : okA (unsub k (args.getD j .any)) = true := by
      rw [← e]
      rw [List.all_eq_true] at hok
      refine hok _ ?_
      simp only [List.getD_eq_getElem?_getD, List.getElem?_eq_getElem hj, Option.getD_some]
      exact List.getElem_mem hj
    rw [e]
    have hr := hrel j hj'
    generalize args.getD j .any = dj at hr hokj
    generalize vs.getD j undef = vj at hr
    by_cases hpv : ∃ i off, dj = .pv i off
    · obtain ⟨i, off, rfl⟩ := hpv
      simp only [unsub] at hokj ⊢
      cases hbq : Nat.beq i k with
      | true =>
        have := Nat.eq_of_beq_eq_true hbq
        subst this
        cases hr with
        | pv _ _ _ b2 hb2 =>
          rw [hb] at hb2
          cases hb2
          exact .pv _ 0 off b rfl
      | false =>
        rw [hbq] at hokj
        simp [okA, D.free] at hokj
    · have hu : unsub k dj = dj.shut := by
        cases dj <;> first | rfl | exact absurd ⟨_, _, rfl⟩ hpv
      rw [hu] at hokj ⊢
      refine hr.shut.free ?_ _
      cases dj <;> first | exact hokj | exact absurd ⟨_, _, rfl⟩ hpv
  unfold Oper.wp
  rw [hrun]
  refine (hC X' vs rfl hH' hI' (by simpa using hsz) hrel').mono ?_
  rintro e w' ⟨v, S', r', rfl, g1, g2, g3, g4⟩
  obtain ⟨l', hl', hle'⟩ := g4 0 (.blk b) rfl
  obtain ⟨b2, cur', e', q1, q2, q3, q4, q5⟩ := g3.obj 0 (.var cs') rfl
  have hb2 : b2 = b := by
    rw [q1] at hl'
    cases hl'
    exact hle'.symm
  subst hb2
  have hch : Chg w w' S (some b2) := ⟨g2.os, g2.tape, g2.output, g2.size, fun j hj hne => g2.block j hj (fun (h : j = b2) => hne (by rw [h])), g2.cell⟩
  have hnew : ∀ b' o, S' b' o → S b' o ∨ w.heap.size ≤ b' := fun b' o hb' => by
    rcases g2.new b' o hb' with h | h | h
    · exact .inl h
    · exact .inr h
    · have h : b' = b2 := h
      subst h
      exact absurd hb' (q5 o)
  refine hK v w' ⟨S', r, ?_, ?_, rel_put (fun t => (hF t).mono g2.sub g2.cell r (RhoLe.refl r)) (hn ▸ hd) (g1.free hf3 r), by rw [put_defers]; exact hdf, by rw [put_size]; exact hn, hρ⟩
  · refine hH.chg hch (fun b' hb' => by cases hb'; exact hI.low k _ b2 hb rfl) g2.sub (fun b' o hb' => ?_)
    rcases hnew b' o hb' with h | h
    · exact .inl h
    · exact .inr ⟨.inl (Nat.le_trans hH.size h), g2.valid b' o hb'⟩
  · refine hI.put hch g2.sub (RhoLe.refl r) k (.var cs') (.blk b2) ?_ hb (fun _ _ => rfl) (fun b' hb' => .inr ⟨_, hb, hb'⟩) (fun b' hb' => ⟨_, hb, by cases hb'; rfl⟩) (fun b' o h => ?_)
    · exact ⟨b2, cur', e', hb, q2, q3, fun j hj => ⟨(q4 j hj).1.free (getFree cs' hf2 j hj) r, (q4 j hj).2⟩, q5⟩
    · rcases hnew b' o h with h | h
      · exact .inl h
      · exact .inr (.inr h)
end

/-- The same where the callee leaves the variable as it is. -/
theorem lend_read {P : Program} {X : Ctx} {n : Nat} {fr : Fr} {ow : Ow} {d : D} {o : Oper} {f : FuncId} {args : List D} {k : Nat} {cs : List D} (hP : ∀ vs w, (callFunc f vs).run P w = .ok (.enter f vs) w) (hc : callOf fr o.op = some (f, args)) (hk : look k ow = some (.var cs))
    (hok : (args.map (unsub k)).all okA = true) (hf1 : cs.all D.free = true) (hf3 : d.free = true)
    (hC : CtrO P f (args.map (unsub k)) [(0, .var cs)] d [(0, .var cs)]) (hd : dstOk o.dst n) :
    ∀ F' O', (∀ x ∈ o.op.operands.toList, evF F' x = evF (fF fr) x) → (∀ j ∈ [k], O' j = fO ow j) → StepAt P X n o F' O' d [] := by
  intro F' O' he hO
  have h := lend_step (X := X) (n := n) hP hc hk hok hf1 hf1 hf3 hC hd F' O' he hO
  have e : updO O' [(k, .var cs)] = updO O' [] := by
    funext j
    simp only [updO]
    split
    · rename_i e
      subst e
      exact ((hO j (by simp)).trans hk).symm
    · rfl
  unfold StepAt at h ⊢
  rw [e] at h
  exact h

section
variable {X : Ctx} {n : Nat} {all rest : List Oper} {fr : Fr} {ow : Ow} {tr : List (List Nat × List Nat)} {K : Fr → Ow → List (List Nat × List Nat) → Prop} {Q : Exit → Fr → Ow → Prop}
variable {t : Nat} {op : Op} {ty : TypeId} {pos : String} {af : Array Edge} {d : D} {g u : Nat} {want : Bool} {k : Nat} {cs cs' : List D} {f : FuncId} {args : List D}

/-- A method called on a variable of the call's own, by its contract. -/
theorem r_lend (k : Nat) (hc : callOf fr op = some (f, args)) (hn : Nat.blt t n = true) (hP : ∀ vs w, (callFunc f vs).run Tryd.prog w = .ok (.enter f vs) w) (hk : look k ow = some (.var cs))
    (hok : (args.map (unsub k)).all okA = true) (hf1 : cs.all D.free = true) (hf2 : cs'.all D.free = true) (hf3 : d.free = true)
    (hC : CtrO Tryd.prog f (args.map (unsub k)) [(0, .var cs)] d [(0, .var cs')])
    (h : CT Tryd.prog X n all rest ((t, d) :: fr) ((k, .var cs') :: ow) (tr ++ [([k], [k])]) K) : CT Tryd.prog X n all (⟨some t, op, ty, pos, af, none⟩ :: rest) fr ow tr K :=
  CT.cons (e := ⟨d, [k], [(k, .var cs')]⟩) (.plain rfl (lend_step (o := ⟨some t, op, ty, pos, af, none⟩) (ow := ow) hP hc hk hok hf1 hf2 hf3 hC (show t < n by simpa using hn))) (fF_cons ..) (fO_cons ..) h

theorem r_lend0 (k : Nat) (hc : callOf fr op = some (f, args)) (hP : ∀ vs w, (callFunc f vs).run Tryd.prog w = .ok (.enter f vs) w) (hk : look k ow = some (.var cs))
    (hok : (args.map (unsub k)).all okA = true) (hf1 : cs.all D.free = true) (hf2 : cs'.all D.free = true) (hf3 : d.free = true)
    (hC : CtrO Tryd.prog f (args.map (unsub k)) [(0, .var cs)] d [(0, .var cs')])
    (h : CT Tryd.prog X n all rest fr ((k, .var cs') :: ow) (tr ++ [([k], [k])]) K) : CT Tryd.prog X n all (⟨none, op, ty, pos, af, none⟩ :: rest) fr ow tr K :=
  CT.cons (e := ⟨d, [k], [(k, .var cs')]⟩) (.plain rfl (lend_step (o := ⟨none, op, ty, pos, af, none⟩) (ow := ow) hP hc hk hok hf1 hf2 hf3 hC trivial)) rfl (fO_cons ..) h

theorem r_glend (k : Nat) (hu : dstAt all g = some u) (hg : getD' u fr = .b want) (hc : callOf fr op = some (f, args)) (hn : Nat.blt t n = true) (hP : ∀ vs w, (callFunc f vs).run Tryd.prog w = .ok (.enter f vs) w) (hk : look k ow = some (.var cs))
    (hok : (args.map (unsub k)).all okA = true) (hf1 : cs.all D.free = true) (hf2 : cs'.all D.free = true) (hf3 : d.free = true)
    (hC : CtrO Tryd.prog f (args.map (unsub k)) [(0, .var cs)] d [(0, .var cs')])
    (h : CT Tryd.prog X n all rest ((t, d) :: fr) ((k, .var cs') :: ow) (tr ++ [([k], [k])]) K) : CT Tryd.prog X n all (⟨some t, op, ty, pos, af, some (g, want)⟩ :: rest) fr ow tr K :=
  CT.cons (e := ⟨d, [k], [(k, .var cs')]⟩) (.guarded rfl hu hg (lend_step (o := ⟨some t, op, ty, pos, af, some (g, want)⟩) (ow := ow) hP hc hk hok hf1 hf2 hf3 hC (show t < n by simpa using hn))) (fF_cons ..) (fO_cons ..) h

theorem r_lendr (k : Nat) (hc : callOf fr op = some (f, args)) (hn : Nat.blt t n = true) (hP : ∀ vs w, (callFunc f vs).run Tryd.prog w = .ok (.enter f vs) w) (hk : look k ow = some (.var cs))
    (hok : (args.map (unsub k)).all okA = true) (hf1 : cs.all D.free = true) (hf3 : d.free = true)
    (hC : CtrO Tryd.prog f (args.map (unsub k)) [(0, .var cs)] d [(0, .var cs)])
    (h : CT Tryd.prog X n all rest ((t, d) :: fr) ow (tr ++ [([k], [])]) K) : CT Tryd.prog X n all (⟨some t, op, ty, pos, af, none⟩ :: rest) fr ow tr K :=
  CT.cons (e := ⟨d, [k], []⟩) (.plain rfl (lend_read (o := ⟨some t, op, ty, pos, af, none⟩) (ow := ow) hP hc hk hok hf1 hf3 hC (show t < n by simpa using hn))) (fF_cons ..) rfl h

theorem r_glendr (k : Nat) (hu : dstAt all g = some u) (hg : getD' u fr = .b want) (hc : callOf fr op = some (f, args)) (hn : Nat.blt t n = true) (hP : ∀ vs w, (callFunc f vs).run Tryd.prog w = .ok (.enter f vs) w) (hk : look k ow = some (.var cs))
    (hok : (args.map (unsub k)).all okA = true) (hf1 : cs.all D.free = true) (hf3 : d.free = true)
    (hC : CtrO Tryd.prog f (args.map (unsub k)) [(0, .var cs)] d [(0, .var cs)])
    (h : CT Tryd.prog X n all rest ((t, d) :: fr) ow (tr ++ [([k], [])]) K) : CT Tryd.prog X n all (⟨some t, op, ty, pos, af, some (g, want)⟩ :: rest) fr ow tr K :=
  CT.cons (e := ⟨d, [k], []⟩) (.guarded rfl hu hg (lend_read (o := ⟨some t, op, ty, pos, af, some (g, want)⟩) (ow := ow) hP hc hk hok hf1 hf3 hC (show t < n by simpa using hn))) (fF_cons ..) rfl h

/-- What must hold where a method ends: its results tell d, the lent variable (number 0) holds cs. -/
def EndsO (rs : List ResultVar) (d : D) (cs : List D) (e : Exit) (fr : Fr) (ow : Ow) : Prop :=
  match e with
  | .ret | .normal => ∃ d2 cs2, resD B fr ow rs = some d2 ∧ look 0 ow = some (.var cs2) ∧ Weak d2 d ∧ cs2 = cs
  | _ => False

theorem x_endO {rs : List ResultVar} {d d2 : D} {cs cs2 : List D} (h : resD B fr ow rs = some d2) (h2 : look 0 ow = some (.var cs2)) (he : d2 = d) (hcs : cs2 = cs) : Rtn (EndsO rs d cs) fr ow := by
  unfold Rtn
  exact ⟨d2, cs2, h, h2, .of_eq he, hcs⟩
theorem n_endO {rs : List ResultVar} {d d2 : D} {cs cs2 : List D} (h : resD B fr ow rs = some d2) (h2 : look 0 ow = some (.var cs2)) (he : d2 = d) (hcs : cs2 = cs) : Nrm (EndsO rs d cs) fr ow := by
  unfold Nrm
  exact ⟨d2, cs2, h, h2, .of_eq he, hcs⟩

theorem x_endOw {rs : List ResultVar} {d d2 : D} {cs cs2 : List D} (h : resD B fr ow rs = some d2) (h2 : look 0 ow = some (.var cs2)) (he : Weak d2 d) (hcs : cs2 = cs) : Rtn (EndsO rs d cs) fr ow := by
  unfold Rtn
  exact ⟨d2, cs2, h, h2, he, hcs⟩
theorem n_endOw {rs : List ResultVar} {d d2 : D} {cs cs2 : List D} (h : resD B fr ow rs = some d2) (h2 : look 0 ow = some (.var cs2)) (he : Weak d2 d) (hcs : cs2 = cs) : Nrm (EndsO rs d cs) fr ow := by
  unfold Nrm
  exact ⟨d2, cs2, h, h2, he, hcs⟩

/-- FROM A METHOD's BODY TO ITS CONTRACT. -/
theorem r_meth {fn : Func} {c : Code} {N : Nat} {rs : List ResultVar} (hf : Tryd.prog.funcs[f]? = some fn) (hb : fn.body = some c) (hN : fn.ntmps = N) (hrs : fn.results = ⟨rs⟩) (hlen : Nat.ble args.length N = true) (hd : d.free = true) (hcs : cs'.all D.free = true)
    (h : ∀ X : Ctx, Lent X → X.ids = [0] → T Tryd.prog X N c (slots 0 args) [(0, .var cs)] (EndsO rs d cs')) : CtrO Tryd.prog f args [(0, .var cs)] d [(0, .var cs')] := by
  refine CtrO.of_T hf hb hN hrs (by simpa using hlen) fun X hL hi => (h X hL hi).mono fun e fr2 ow2 hq => ?_
  have key : ∀ d2 cs2, resD B fr2 ow2 rs = some d2 → look 0 ow2 = some (.var cs2) → Weak d2 d → cs2 = cs' →
      ∃ d2, resD (tb Tryd.prog) fr2 ow2 rs = some d2 ∧ Weak d2 d ∧ d.okIn (([(0, .var cs')] : Ow).map (·.1)) = true ∧ Le X fr2 ow2 [] [(0, .var cs')] := by
    intro d2 cs2 h1 h2 h3 h4
    subst h4
    refine ⟨d2, by rw [tb_eq]; exact h1, h3, okIn_of_free hd _, trivial, ⟨h2, trivial⟩, ?_, fun k hk => ?_⟩
    · simp only [okAll, List.all_nil, List.all_cons, Own.okIn, Bool.true_and, Bool.and_true]
      rw [List.all_eq_true] at hcs ⊢
      exact fun x hx => okIn_of_free (hcs x hx) _
    · rw [hi] at hk
      simpa using hk
  cases e with
  | ret => obtain ⟨d2, cs2, h1, h2, h3, h4⟩ := hq; exact ⟨.inl rfl, key d2 cs2 h1 h2 h3 h4⟩
  | normal => obtain ⟨d2, cs2, h1, h2, h3, h4⟩ := hq; exact ⟨.inr rfl, key d2 cs2 h1 h2 h3 h4⟩
  | _ => exact hq.elim
end
end Go.Proofs.YteidmimpkipcfaaDoor.Flow
