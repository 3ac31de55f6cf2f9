/- The texts FlowL, FlowM, FlowT, FlowN, FlowO, one behind the other. -/
import Derived.Test.YtghdgjabpdfaoaaDoorO2
import Derived.Deep.LoopGhost
/-
  FLOW, PART L: RULES FOR BODIES, AND CONTRACTS.
-/
namespace Go.Proofs.YtghdgjabpdfaoaaDoor.Flow

abbrev Fr := List (Nat × D)
abbrev Ow := List (Nat × Own)
def fF (fr : Fr) : Nat → D := fun t => getD' t fr
def fO (ow : Ow) : Nat → Option Own := fun k => look k ow

theorem fF_cons (fr : Fr) (t : Nat) (d : D) : fF ((t, d) :: fr) = updF (fF fr) (some t) d := by
  funext u
  show getD' u ((t, d) :: fr) = if u = t then d else getD' u fr
  simp only [getD']
  by_cases h : u = t
  · subst h
    have : Nat.beq u u = true := Nat.beq_refl u
    rw [this]
    simp
  · have : Nat.beq t u = false := by
      cases hb : Nat.beq t u with
      | false => rfl
      | true => exact absurd (Nat.eq_of_beq_eq_true hb).symm h
    rw [this]
    simp [h]

theorem fO_cons (ow : Ow) (k : Nat) (o : Own) : fO ((k, o) :: ow) = updO (fO ow) [(k, o)] := by
  funext u
  show look u ((k, o) :: ow) = if u = k then some o else look u ow
  simp only [look]
  by_cases h : u = k
  · subst h
    have : Nat.beq u u = true := Nat.beq_refl u
    rw [this]
    simp
  · have : Nat.beq k u = false := by
      cases hb : Nat.beq k u with
      | false => rfl
      | true => exact absurd (Nat.eq_of_beq_eq_true hb).symm h
    rw [this]
    simp [h]

theorem evF_fF (fr : Fr) (x : Operand) : evF (fF fr) x = ev fr x := by cases x <;> rfl

/-! ### Contracts -/

/-- A part of a datum without objects. -/
def D.free1 : D → Bool
  | .any | .v _ => true
  | c => c.plain

/-- A datum without objects. -/
def D.free : D → Bool
  | .any => true
  | .ag cs | .fn _ cs => cs.all D.free1
  | .tu cs => cs.all fun c => match c with
    | .ag ds => ds.all D.free1
    | c => c.free1
  | .pv .. | .gs .. | .ah .. | .ap .. | .mh _ => false
  | _ => true

theorem Rel.free {S : Cells} {w : World} {r : Rho} {d : D} {v : Value} (h : Rel S w r d v) (hf : d.free = true) : ∀ r', Rel S w r' d v := by
  have one : ∀ (c : D) (u : Value), Rel S w r c u → D.free1 c = true → ∀ r', Rel S w r' c u := by
    intro c u hc hp r'
    unfold D.free1 at hp
    split at hp
    · exact .any ..
    · cases hc; exact .v ..
    · exact hc.plain hp r'
  have all1 : ∀ {p : D → Bool} {cs : List D}, cs.all p = true → ∀ j, j < cs.length → p (cs.getD j .any) = true := by
    intro p cs hp j hj
    rw [List.all_eq_true] at hp
    refine hp _ ?_
    simp only [List.getD_eq_getElem?_getD, List.getElem?_eq_getElem hj, Option.getD_some]
    exact List.getElem_mem hj
  have many : ∀ (cs : List D) (vs : Array Value), (∀ j, j < cs.length → Rel S w r (cs.getD j .any) (vs.getD j undef)) → cs.all D.free1 = true →
      ∀ r', ∀ j, j < cs.length → Rel S w r' (cs.getD j .any) (vs.getD j undef) := fun cs vs hc hp r' j hj => one _ _ (hc j hj) (all1 hp j hj) r'
  have two : ∀ (c : D) (u : Value), Rel S w r c u → (match c with | .ag ds => ds.all D.free1 | c => c.free1) = true → ∀ r', Rel S w r' c u := by
    intro c u hc hp r'
    split at hp
    · cases hc with
      | ag _ _ vs hn h => exact .ag r' _ vs hn (many _ vs h hp r')
    · exact one _ _ hc hp r'
  cases h with
  | any => exact fun r' => .any ..
  | i => exact fun r' => .i ..
  | b => exact fun r' => .b ..
  | s => exact fun r' => .s ..
  | nilS => exact fun r' => .nilS _
  | v => exact fun r' => .v ..
  | fn _ f cs vs hn h => exact fun r' => .fn r' f cs vs hn (many cs vs h hf r')
  | ag _ cs vs hn h => exact fun r' => .ag r' cs vs hn (many cs vs h hf r')
  | tu _ cs vs hn h => exact fun r' => .tu r' cs vs hn fun j hj => two _ _ (h j hj) (all1 (p := fun c => match c with | .ag ds => ds.all D.free1 | c => c.free1) hf j hj) r'
  | sl _ esz len f a cap c hc hm hl hcell hr => exact fun r' => .sl r' esz len f a cap c hc hm hl hcell hr
  | rf _ cs off b o c hp hcell hr => exact fun r' => .rf r' cs off b o c hp hcell hr
  | pv => simp [D.free] at hf
  | mh => simp [D.free] at hf
  | gs => simp [D.free] at hf
  | ah => simp [D.free] at hf
  | ap => simp [D.free] at hf
  | e0 => exact fun r' => .e0 ..
  | se _ z b a cap hm hb => exact fun r' => .se r' z b a cap hm hb
  | rn _ k len f off b h => exact fun r' => .rn r' k len f off b h

def noOwn : Nat → Option Own := fun _ => none

/-- A CONTRACT WITHOUT OBJECTS: called with values told by 'args' the function returns one told by 'd', and changes nothing that was there. -/
def Ctr (P : Program) (f : FuncId) (args : List D) (d : D) : Prop :=
  ∀ (w : World) (S : Cells) (vs : Array Value), (∀ b o, S b o → b < w.heap.size) → GOk S w → vs.size = args.length → (∀ j, j < args.length → Rel S w noRho (args.getD j .any) (vs.getD j undef)) →
    Calls P f vs w fun e w' => ∃ v S', e = .returned v ∧ Rel S' w' noRho d v ∧ Hist { w0 := w, S0 := S, L := fun _ => False } w' S'

/-- A CONTRACT WITH OBJECTS LENT: 'ow' before the call, 'ow'' behind it. -/
def CtrO (P : Program) (f : FuncId) (args : List D) (ow : Ow) (d : D) (ow' : Ow) : Prop :=
  ∀ (X : Ctx) (vs : Array Value), X.ids = ow.map (·.1) → Hist X X.w0 X.S0 → Inv X X.w0 X.S0 X.r0 (fO ow) → vs.size = args.length → (∀ j, j < args.length → Rel X.S0 X.w0 X.r0 (args.getD j .any) (vs.getD j undef)) →
    Calls P f vs X.w0 fun e w' => ∃ v S' r', e = .returned v ∧ Rel S' w' r' d v ∧ Hist X w' S' ∧ Inv X w' S' r' (fO ow') ∧ RhoLe X.r0 r'

theorem hist_start (w : World) (S : Cells) (L : Nat → Prop) (h : ∀ b o, S b o → b < w.heap.size) (hg : GOk S w) : Hist { w0 := w, S0 := S, L := L } w S :=
  ⟨rfl, rfl, rfl, Nat.le_refl _, fun _ _ _ => rfl, fun _ _ h => h, fun _ _ _ => rfl, fun _ _ h => .inl h, h, hg⟩

theorem inv_none (X : Ctx) (w : World) (S : Cells) : Inv X w S noRho (fO []) where
  obj := fun k o h => by simp [fO, look] at h
  dom := fun _ _ => rfl
  apart := fun _ _ _ _ _ _ h => by simp [noRho] at h
  low := fun _ _ _ h => by simp [noRho] at h

theorem Ctr.of {P : Program} {f : FuncId} {args : List D} {d : D} {ow' : Ow} (h : CtrO P f args [] d ow') (hd : d.free = true) : Ctr P f args d := by
  intro w S vs hv hgl hn hr
  refine (h ⟨w, S, fun _ => False, noRho, []⟩ vs rfl ⟨rfl, rfl, rfl, Nat.le_refl _, fun _ _ _ => rfl, fun _ _ h => h, fun _ _ _ => rfl, fun _ _ h => .inl h, hv, hgl⟩ (inv_none _ _ _) hn hr).mono ?_
  rintro e w' ⟨v, S', r', rfl, h1, h2, _, _⟩
  exact ⟨v, S', rfl, h1.free hd noRho, h2.os, h2.tape, h2.output, h2.size, h2.block, h2.sub, h2.cell, h2.new, h2.valid, h2.glob⟩

theorem Ctr.weak {P : Program} {f : FuncId} {args args' : List D} {d : D} (h : Ctr P f args' d) (hn : args'.length = args.length) (hw : ∀ j, j < args.length → Weak (args.getD j .any) (args'.getD j .any)) : Ctr P f args d :=
  fun w S vs hv hg hs hr => h w S vs hv hg (by omega) (fun j hj => (hr j (by omega)).weak (hw j (by omega)))

theorem Ctr.weak1 {P : Program} {f : FuncId} {a a' d : D} (h : Ctr P f [a'] d) (h1 : Weak a a') : Ctr P f [a] d := h.weak rfl fun j hj => match j, hj with
  | 0, _ => h1

theorem Ctr.weak2 {P : Program} {f : FuncId} {a a' b b' d : D} (h : Ctr P f [a', b'] d) (h1 : Weak a a') (h2 : Weak b b') : Ctr P f [a, b] d := h.weak rfl fun j hj => match j, hj with
  | 0, _ => h1
  | 1, _ => h2

section
variable (P : Program) (X : Ctx) (n : Nat)

/-- A TRIPLE: from a state a piece of code comes to an exit in a state of which Q holds. -/
def T (c : Code) (fr : Fr) (ow : Ow) (Q : Exit → Fr → Ow → Prop) : Prop :=
  ∀ a w, Rep X n (fF fr) (fO ow) a w → c.wp P (fun e a w => ∃ fr' ow', Q e fr' ow' ∧ Rep X n (fF fr') (fO ow') a w) a w

/-- Operations in a chain, and what holds behind it. -/
def CT (all l : List Oper) (fr : Fr) (ow : Ow) (tr : List (List Nat × List Nat)) (K : Fr → Ow → List (List Nat × List Nat) → Prop) : Prop :=
  ∃ es fr' ow', Ch P X n all l (fF fr) (fO ow) es (fF fr') (fO ow') ∧ K fr' ow' (tr ++ es.map fun e => (e.rd, e.wr.map (·.1)))
end

section
variable {P : Program} {X : Ctx} {n : Nat} {all rest : List Oper} {fr : Fr} {ow : Ow} {tr : List (List Nat × List Nat)} {K : Fr → Ow → List (List Nat × List Nat) → Prop} {Q : Exit → Fr → Ow → Prop}

theorem CT.nil (h : K fr ow tr) : CT P X n all [] fr ow tr K := ⟨[], fr, ow, .nil .., by simpa using h⟩

theorem CT.cons {o : Oper} {e : Eff} {fr1 : Fr} {ow1 : Ow} (h : LDoes P X n all o (fF fr) (fO ow) e) (hF : fF fr1 = updF (fF fr) o.dst e.d) (hO : fO ow1 = updO (fO ow) e.wr)
    (t : CT P X n all rest fr1 ow1 (tr ++ [(e.rd, e.wr.map (·.1))]) K) : CT P X n all (o :: rest) fr ow tr K := by
  obtain ⟨es, fr', ow', hc, hK⟩ := t
  refine ⟨e :: es, fr', ow', .cons o rest _ _ e es _ _ h (by rw [← hF, ← hO]; exact hc), ?_⟩
  simpa [List.append_assoc] using hK

theorem evF_agree {F F' : Nat → D} {o : Oper} (h : ∀ t ∈ seesOf all o, F' t = F t) : ∀ x ∈ o.op.operands.toList, evF F' x = evF F x := by
  intro x hx
  cases x with
  | tmp t => exact h t (List.mem_append.2 (.inl (mem_tmpsOf hx)))
  | const v => rfl
  | global g => rfl
  | func f => rfl

theorem LDoes.plain {o : Oper} {e : Eff} {F : Nat → D} {O : Nat → Option Own} (hg : o.guard = none) (h : ∀ F' O', (∀ x ∈ o.op.operands.toList, evF F' x = evF F x) → (∀ k ∈ e.rd, O' k = O k) → StepAt P X n o F' O' e.d e.wr) :
    LDoes P X n all o F O e := fun F' O' h1 h2 => by
  unfold Does
  rw [hg]
  exact h F' O' (evF_agree h1) h2

theorem LDoes.guarded {o : Oper} {e : Eff} {F : Nat → D} {O : Nat → Option Own} {g u : Nat} {want : Bool} (hg : o.guard = some (g, want)) (hu : dstAt all g = some u) (hF : F u = .b want)
    (h : ∀ F' O', (∀ x ∈ o.op.operands.toList, evF F' x = evF F x) → (∀ k ∈ e.rd, O' k = O k) → StepAt P X n o F' O' e.d e.wr) : LDoes P X n all o F O e := fun F' O' h1 h2 => by
  unfold Does
  rw [hg]
  refine ⟨u, hu, .inl ⟨?_, h F' O' (evF_agree h1) h2⟩⟩
  rw [h1 u (by simp [seesOf, hg, hu])]
  exact hF

theorem LDoes.skip {o : Oper} {F : Nat → D} {O : Nat → Option Own} {g u : Nat} {want : Bool} (hg : o.guard = some (g, want)) (hu : dstAt all g = some u) (hF : F u = .b (!want) ∨ F u = .tu []) (hd : dstOk o.dst n) :
    LDoes P X n all o F O ⟨.tu [], [], []⟩ := fun F' O' h1 h2 => by
  unfold Does
  rw [hg]
  refine ⟨u, hu, .inr ⟨?_, rfl, rfl, hd⟩⟩
  rw [h1 u (by simp [seesOf, hg, hu])]
  exact hF

theorem step_local {o : Oper} {d : D} {p : Prop} {rd : List Nat} {wr : List (Nat × Own)} (hs : step (tb P) (ev fr) (fun k => look k ow) o = some ⟨d, p, rd, wr⟩) (hp : p) (hd : dstOk o.dst n) :
    ∀ F' O', (∀ x ∈ o.op.operands.toList, evF F' x = evF (fF fr) x) → (∀ k ∈ rd, O' k = fO ow k) → StepAt P X n o F' O' d wr := fun F' O' h1 h2 =>
  step_sound hs hp hd (fun x hx => (h1 x hx).trans (evF_fF fr x)) h2

theorem step_localK {ar : Bool} {o : Oper} {d : D} {p : Prop} {rd : List Nat} {wr : List (Nat × Own)} (hs : stepK ar (tb P) (ev fr) (fun k => look k ow) o = some ⟨d, p, rd, wr⟩) (hp : p) (hd : dstOk o.dst n) :
    ∀ F' O', (∀ x ∈ o.op.operands.toList, evF F' x = evF (fF fr) x) → (∀ k ∈ rd, O' k = fO ow k) → StepAt P X n o F' O' d wr := fun F' O' h1 h2 =>
  stepK_sound hs hp hd (fun x hx => (h1 x hx).trans (evF_fF fr x)) h2

variable {t : Nat} {op : Op} {ty : TypeId} {pos : String} {af : Array Edge} {d : D} {p : Prop} {rd : List Nat} {k : Nat} {ob : Own} {g u : Nat} {want : Bool}

/-- A new row whose elements may change. -/
theorem CT.arr (hs : stepK true (tb P) (ev fr) (fun k => look k ow) ⟨some t, op, ty, pos, af, none⟩ = some ⟨d, p, rd, [(k, ob)]⟩) (hn : t < n) (hp : p) (h : CT P X n all rest ((t, d) :: fr) ((k, ob) :: ow) (tr ++ [(rd, [k])]) K) :
    CT P X n all (⟨some t, op, ty, pos, af, none⟩ :: rest) fr ow tr K :=
  CT.cons (e := ⟨d, rd, [(k, ob)]⟩) (.plain rfl (step_localK hs hp hn)) (fF_cons ..) (fO_cons ..) h

theorem CT.garr (hu : dstAt all g = some u) (hc : getD' u fr = .b want) (hs : stepK true (tb P) (ev fr) (fun k => look k ow) ⟨some t, op, ty, pos, af, some (g, want)⟩ = some ⟨d, p, rd, [(k, ob)]⟩) (hn : t < n) (hp : p)
    (h : CT P X n all rest ((t, d) :: fr) ((k, ob) :: ow) (tr ++ [(rd, [k])]) K) : CT P X n all (⟨some t, op, ty, pos, af, some (g, want)⟩ :: rest) fr ow tr K :=
  CT.cons (e := ⟨d, rd, [(k, ob)]⟩) (.guarded rfl hu hc (step_localK hs hp hn)) (fF_cons ..) (fO_cons ..) h

/-- A value into a temporary. -/
theorem CT.val (hs : step (tb P) (ev fr) (fun k => look k ow) ⟨some t, op, ty, pos, af, none⟩ = some ⟨d, p, rd, []⟩) (hn : t < n) (hp : p) (h : CT P X n all rest ((t, d) :: fr) ow (tr ++ [(rd, [])]) K) :
    CT P X n all (⟨some t, op, ty, pos, af, none⟩ :: rest) fr ow tr K :=
  CT.cons (e := ⟨d, rd, []⟩) (.plain rfl (step_local hs hp hn)) (fF_cons ..) rfl h

/-- A value into a temporary, and an object that is new or changed. -/
theorem CT.obj (hs : step (tb P) (ev fr) (fun k => look k ow) ⟨some t, op, ty, pos, af, none⟩ = some ⟨d, p, rd, [(k, ob)]⟩) (hn : t < n) (hp : p) (h : CT P X n all rest ((t, d) :: fr) ((k, ob) :: ow) (tr ++ [(rd, [k])]) K) :
    CT P X n all (⟨some t, op, ty, pos, af, none⟩ :: rest) fr ow tr K :=
  CT.cons (e := ⟨d, rd, [(k, ob)]⟩) (.plain rfl (step_local hs hp hn)) (fF_cons ..) (fO_cons ..) h

theorem CT.sto (hs : step (tb P) (ev fr) (fun k => look k ow) ⟨none, op, ty, pos, af, none⟩ = some ⟨d, p, rd, [(k, ob)]⟩) (hp : p) (h : CT P X n all rest fr ((k, ob) :: ow) (tr ++ [(rd, [k])]) K) :
    CT P X n all (⟨none, op, ty, pos, af, none⟩ :: rest) fr ow tr K :=
  CT.cons (e := ⟨d, rd, [(k, ob)]⟩) (.plain rfl (step_local hs hp trivial)) rfl (fO_cons ..) h

theorem CT.gval (hu : dstAt all g = some u) (hc : getD' u fr = .b want) (hs : step (tb P) (ev fr) (fun k => look k ow) ⟨some t, op, ty, pos, af, some (g, want)⟩ = some ⟨d, p, rd, []⟩) (hn : t < n) (hp : p)
    (h : CT P X n all rest ((t, d) :: fr) ow (tr ++ [(rd, [])]) K) : CT P X n all (⟨some t, op, ty, pos, af, some (g, want)⟩ :: rest) fr ow tr K :=
  CT.cons (e := ⟨d, rd, []⟩) (.guarded rfl hu hc (step_local hs hp hn)) (fF_cons ..) rfl h

theorem CT.gobj (hu : dstAt all g = some u) (hc : getD' u fr = .b want) (hs : step (tb P) (ev fr) (fun k => look k ow) ⟨some t, op, ty, pos, af, some (g, want)⟩ = some ⟨d, p, rd, [(k, ob)]⟩) (hn : t < n) (hp : p)
    (h : CT P X n all rest ((t, d) :: fr) ((k, ob) :: ow) (tr ++ [(rd, [k])]) K) : CT P X n all (⟨some t, op, ty, pos, af, some (g, want)⟩ :: rest) fr ow tr K :=
  CT.cons (e := ⟨d, rd, [(k, ob)]⟩) (.guarded rfl hu hc (step_local hs hp hn)) (fF_cons ..) (fO_cons ..) h

theorem CT.gskip (hu : dstAt all g = some u) (hc : getD' u fr = .b (!want) ∨ getD' u fr = .tu []) (hn : t < n) (h : CT P X n all rest ((t, .tu []) :: fr) ow (tr ++ [([], [])]) K) :
    CT P X n all (⟨some t, op, ty, pos, af, some (g, want)⟩ :: rest) fr ow tr K :=
  CT.cons (e := ⟨.tu [], [], []⟩) (.skip rfl hu hc hn) (fF_cons ..) rfl h

/-- A guard whose outcome is open: both. -/
theorem CT.split {dst : Option Tmp} {c : Bool} (hu : dstAt all g = some u) (hc : getD' u fr = .b c)
    (h1 : c = true → CT P X n all (⟨dst, op, ty, pos, af, some (g, want)⟩ :: rest) ((u, .b true) :: fr) ow tr K)
    (h2 : c = false → CT P X n all (⟨dst, op, ty, pos, af, some (g, want)⟩ :: rest) ((u, .b false) :: fr) ow tr K) :
    CT P X n all (⟨dst, op, ty, pos, af, some (g, want)⟩ :: rest) fr ow tr K := by
  have key : ∀ b, getD' u fr = .b b → fF ((u, .b b) :: fr) = fF fr := fun b hb => by
    funext x
    rw [fF_cons]
    show (if x = u then D.b b else getD' x fr) = getD' x fr
    by_cases e : x = u
    · subst e; rw [if_pos rfl, hb]
    · rw [if_neg e]
  cases c with
  | true =>
    obtain ⟨es, fr', ow', hch, hK⟩ := h1 rfl
    rw [key true hc] at hch
    exact ⟨es, fr', ow', hch, hK⟩
  | false =>
    obtain ⟨es, fr', ow', hch, hK⟩ := h2 rfl
    rw [key false hc] at hch
    exact ⟨es, fr', ow', hch, hK⟩

/-! ### Calls -/
def evs (fr : Fr) : List Operand → List D
  | [] => []
  | x :: r => ev fr x :: evs fr r

theorem evs_len (fr : Fr) : ∀ xs, (evs fr xs).length = xs.length
  | [] => rfl
  | x :: r => by simp [evs, evs_len fr r]

/-- An operation that calls a Go function. -/
def callOf (fr : Fr) : Op → Option (FuncId × List D)
  | .call { callee := .value g, args := ⟨xs⟩, .. } => match ev fr g with
    | .fn f cs => fzA (evs fr xs ++ cs) fun l => some (f, l)
    | _ => none
  | _ => none

theorem evs_rel {S : Cells} {w : World} {r : Rho} {a : Act} : ∀ {xs : List Operand}, (∀ x ∈ xs, Rel S w r (ev fr x) (a.eval x)) → ∀ j, j < xs.length → Rel S w r ((evs fr xs).getD j .any) ((xs.map a.eval).toArray.getD j undef)
  | x :: xs, h, 0, _ => by simpa [evs] using h x (by simp)
  | x :: xs, h, j + 1, hj => by
    have := evs_rel (xs := xs) (fun y hy => h y (by simp [hy])) j (by simpa using hj)
    simpa [evs, Array.getD_eq_getD_getElem?, List.getD_eq_getElem?_getD] using this

theorem call_enter {o : Oper} {f : FuncId} {args : List D} (hP : ∀ vs w, (callFunc f vs).run P w = .ok (.enter f vs) w) (hc : callOf fr o.op = some (f, args)) {F : Nat → D} (he : ∀ x ∈ o.op.operands.toList, evF F x = evF (fF fr) x)
    {S : Cells} {w : World} {r : Rho} {a : Act} (hr : ∀ x, Rel S w r (evF F x) (a.eval x)) :
    ∃ vs : Array Value, (execOp a.eval o).run P w = .ok (.enter f vs) w ∧ vs.size = args.length ∧ ∀ j, j < args.length → Rel S w r (args.getD j .any) (vs.getD j undef) := by
  have hev : ∀ x ∈ o.op.operands.toList, Rel S w r (ev fr x) (a.eval x) := fun x hx => by
    rw [← evF_fF, ← he x hx]
    exact hr x
  unfold callOf at hc
  split at hc <;> first | (cases hc; done) | skip
  rename_i gg xs ts ho
  split at hc <;> first | (cases hc; done) | skip
  rename_i f' cs hg
  rw [fzA_eq] at hc
  cases hc
  have h1 := hev gg (by simp [ho, Op.operands, Call.operands])
  rw [hg] at h1
  have hxs : ∀ x ∈ xs, Rel S w r (ev fr x) (a.eval x) := fun x hx => hev x (by simp [ho, Op.operands, Call.operands, hx])
  generalize hgv : a.eval gg = gv at h1
  cases h1 with
  | fn _ _ _ us hn hus =>
    refine ⟨(xs.map a.eval).toArray ++ us, ?_, by simp [evs_len, hn], fun j hj => ?_⟩
    · simp only [execOp, ho, Sem.run_bind, resolve, hgv, Deferred.ofValue, Sem.run_pure, Result.andThen_ok, invoke]
      simp [hP]
    · by_cases hlt : j < xs.length
      · have h2 := evs_rel (S := S) (w := w) (r := r) (a := a) hxs j hlt
        have e1 : (evs fr xs ++ cs).getD j .any = (evs fr xs).getD j .any := by
          simp [List.getD_eq_getElem?_getD, List.getElem?_append_left (show j < (evs fr xs).length by rw [evs_len]; exact hlt)]
        have e2 : ((xs.map a.eval).toArray ++ us).getD j undef = ((xs.map a.eval).toArray).getD j undef := by
          rw [Array.getD_eq_getD_getElem?, Array.getD_eq_getD_getElem?, Array.getElem?_append_left (by simpa using hlt)]
        rw [e1, e2]
        exact h2
      · have hj' : j - xs.length < cs.length := by
          have : (evs fr xs ++ cs).length = xs.length + cs.length := by simp [evs_len]
          omega
        have e1 : (evs fr xs ++ cs).getD j .any = cs.getD (j - xs.length) .any := by
          simp [List.getD_eq_getElem?_getD, List.getElem?_append_right (show (evs fr xs).length ≤ j by rw [evs_len]; omega), evs_len]
        have e2 : ((xs.map a.eval).toArray ++ us).getD j undef = us.getD (j - xs.length) undef := by
          rw [Array.getD_eq_getD_getElem?, Array.getD_eq_getD_getElem?, Array.getElem?_append_right (by simp; omega)]
          simp
        rw [e1, e2]
        exact hus _ hj'

theorem shut_rel {S : Cells} {w : World} {r : Rho} {args : List D} {vs : Array Value} (h : ∀ j, j < args.length → Rel S w r (args.getD j .any) (vs.getD j undef)) (hf : (args.map D.shut).all D.free = true) :
    ∀ j, j < (args.map D.shut).length → Rel S w noRho ((args.map D.shut).getD j .any) (vs.getD j undef) := by
  intro j hj
  have hj' : j < args.length := by simpa using hj
  have e : (args.map D.shut).getD j .any = (args.getD j .any).shut := by simp [List.getD_eq_getElem?_getD, hj']
  have h1 := (h j hj').shut
  rw [e]
  refine h1.free ?_ noRho
  rw [List.all_eq_true] at hf
  rw [← e]
  refine hf _ ?_
  simp only [List.getD_eq_getElem?_getD, List.getElem?_eq_getElem hj, Option.getD_some]
  exact List.getElem_mem hj

/-- A call by a contract without objects. -/
theorem call_step {o : Oper} {f : FuncId} {args : List D} (hP : ∀ vs w, (callFunc f vs).run P w = .ok (.enter f vs) w) (hc : callOf fr o.op = some (f, args)) (hf : (args.map D.shut).all D.free = true)
    (hC : Ctr P f (args.map D.shut) d) (hd : dstOk o.dst n) : ∀ F' O', (∀ x ∈ o.op.operands.toList, evF F' x = evF (fF fr) x) → (∀ k ∈ ([] : List Nat), O' k = fO ow k) → StepAt P X n o F' O' d [] := by
  intro F' O' he _ a w K' Q' ⟨S, r, hH, hI, hF, hdf, hn, hρ⟩ hK
  obtain ⟨vs, hrun, hsz, hrel⟩ := call_enter hP hc he (fun x => evF_rel hH.glob hF x)
  unfold Oper.wp
  rw [hrun]
  refine (hC w S vs hH.valid hH.glob (by simpa using hsz) (shut_rel hrel hf)).mono ?_
  rintro e w' ⟨v, S', rfl, h1, h2⟩
  have hch : Chg w w' S none := ⟨h2.os, h2.tape, h2.output, h2.size, fun k hk _ => h2.block k hk (fun h => h), h2.cell⟩
  refine hK v w' ⟨S', r, ?_, ?_, rel_put (fun t => (hF t).mono h2.sub h2.cell r (RhoLe.refl r)) (hn ▸ hd) (h1.mono (fun _ _ h => h) (fun _ _ _ => rfl) r (fun k l h => by simp [noRho] at h)), by rw [put_defers]; exact hdf, by rw [put_size]; exact hn, hρ⟩
  · refine hH.chg hch (fun b hb => by cases hb) h2.sub (fun b o hb => ?_)
    rcases h2.new b o hb with h | h | h
    · exact .inl h
    · exact .inr ⟨.inl (Nat.le_trans hH.size h), h2.valid b o hb⟩
    · exact h.elim
  · refine hI.grow hch h2.sub (fun b o hb => ?_)
    rcases h2.new b o hb with h | h | h
    · exact .inl h
    · exact .inr h
    · exact h.elim

/-! ### Calls that look at rows whose elements may change -/

/-- Data that hangs on no memory. -/
def D.scal0 : D → Bool
  | .any | .i .. | .b _ | .s _ | .nilS | .v _ | .e0 _ => true
  | _ => false
def D.scal : D → Bool
  | .tu cs | .ag cs => cs.all D.scal0
  | d => d.scal0

theorem Rel.scal {S : Cells} {w : World} {r : Rho} {d : D} {v : Value} (h : Rel S w r d v) (hs : d.scal = true) : ∀ S' w' r', Rel S' w' r' d v := by
  have one : ∀ (c : D) (u : Value), Rel S w r c u → c.scal0 = true → ∀ S' w' r', Rel S' w' r' c u := by
    intro c u hc hp S' w' r'
    cases hc <;> first | (simp [D.scal0] at hp; done) | constructor
  have many : ∀ (cs : List D) (vs : Array Value), (∀ j, j < cs.length → Rel S w r (cs.getD j .any) (vs.getD j undef)) → cs.all D.scal0 = true → ∀ S' w' r', ∀ j, j < cs.length → Rel S' w' r' (cs.getD j .any) (vs.getD j undef) := by
    intro cs vs hc hp S' w' r' j hj
    refine one _ _ (hc j hj) ?_ S' w' r'
    rw [List.all_eq_true] at hp
    refine hp _ ?_
    simp only [List.getD_eq_getElem?_getD, List.getElem?_eq_getElem hj, Option.getD_some]
    exact List.getElem_mem hj
  intro S' w' r'
  cases h with
  | tu _ cs vs hn h => exact .tu _ cs vs hn (many cs vs h hs S' w' r')
  | ag _ cs vs hn h => exact .ag _ cs vs hn (many cs vs h hs S' w' r')
  | any => exact .any ..
  | i => exact .i ..
  | b => exact .b ..
  | s => exact .s ..
  | nilS => exact .nilS _
  | v => exact .v ..
  | e0 => exact .e0 ..
  | _ => simp [D.scal, D.scal0] at hs

/-- What the call owns, read as memory that is read only: a row whose elements may change, a variable. -/
def D.shut1 (own : Nat → Option Own) : D → D
  | .ah k z n => match own k with
    | some (.arr _ _ _ f) => .sl z n f
    | _ => .ah k z n
  | .pv k o => match own k with
    | some (.var cs) => .rf cs o
    | _ => .pv k o
  | .gs _ e n f => .sl e n f
  | d => d
def D.shutO (own : Nat → Option Own) : D → D
  | .fn f cs => .fn f (cs.map (D.shut1 own))
  | d => d.shut1 own
def ok1 (own : Nat → Option Own) : D → Prop
  | .ah k z n => match own k with
    | some (.arr _ z' L _) => z' = z ∧ n = L
    | _ => False
  | .pv k _ => match own k with
    | some (.var cs) => cs.all D.plain = true
    | _ => False
  | _ => True
def ok1s (own : Nat → Option Own) : List D → Prop
  | [] => True
  | d :: r => ok1 own d ∧ ok1s own r
def okO (own : Nat → Option Own) : D → Prop
  | .fn _ cs => ok1s own cs
  | d => ok1 own d
def okOs (own : Nat → Option Own) : List D → Prop
  | [] => True
  | d :: r => okO own d ∧ okOs own r
def key1 : List D → List Nat
  | [] => []
  | .ah k _ _ :: r => k :: key1 r
  | .pv k _ :: r => k :: key1 r
  | _ :: r => key1 r
def keysO : List D → List Nat
  | [] => []
  | .ah k _ _ :: r => k :: keysO r
  | .pv k _ :: r => k :: keysO r
  | .fn _ cs :: r => key1 cs ++ keysO r
  | _ :: r => keysO r

theorem mem_key1 {k : Nat} {d : D} (hd : (∃ z m, d = .ah k z m) ∨ ∃ o, d = .pv k o) : ∀ {l : List D}, d ∈ l → k ∈ key1 l
  | [], h => by cases h
  | e :: r, h => by
    rcases List.mem_cons.1 h with h | h
    · subst h
      rcases hd with ⟨z, m, rfl⟩ | ⟨o, rfl⟩ <;> simp [key1]
    · have := mem_key1 hd h
      cases e <;> simp [key1, this]
theorem mem_keysO {k : Nat} {d : D} (hd : (∃ z m, d = .ah k z m) ∨ ∃ o, d = .pv k o) : ∀ {l : List D}, d ∈ l → k ∈ keysO l
  | [], h => by cases h
  | e :: r, h => by
    rcases List.mem_cons.1 h with h | h
    · subst h
      rcases hd with ⟨z, m, rfl⟩ | ⟨o, rfl⟩ <;> simp [keysO]
    · have := mem_keysO hd h
      cases e <;> simp [keysO, this]
theorem mem_keysF {k : Nat} {f : FuncId} {cs : List D} (hk : k ∈ key1 cs) : ∀ {l : List D}, .fn f cs ∈ l → k ∈ keysO l
  | [], h => by cases h
  | e :: r, h => by
    rcases List.mem_cons.1 h with h | h
    · subst h
      simp [keysO, hk]
    · have := mem_keysF hk h
      cases e <;> simp [keysO, this]

theorem ok1s_mem {own : Nat → Option Own} : ∀ {l : List D}, ok1s own l → ∀ d ∈ l, ok1 own d
  | [], _, _, h => by cases h
  | _ :: _, h, d, hd => by
    rcases List.mem_cons.1 hd with e | e
    · subst e; exact h.1
    · exact ok1s_mem h.2 d e
theorem okOs_mem {own : Nat → Option Own} : ∀ {l : List D}, okOs own l → ∀ d ∈ l, okO own d
  | [], _, _, h => by cases h
  | _ :: _, h, d, hd => by
    rcases List.mem_cons.1 hd with e | e
    · subst e; exact h.1
    · exact okOs_mem h.2 d e

/-- All that the call owns is taken for read only. -/
def S2of (S : Cells) (w : World) (r : Rho) : Cells := fun b o => S b o ∨ (b < w.heap.size ∧ ∃ k l, r k = some l ∧ l.block = some b)

theorem shut1_rel {own O' : Nat → Option Own} {S : Cells} {w : World} {r : Rho} {dj : D} {vj : Value} (hI : Inv X w S r O') (h1 : Rel S w r dj vj) (hok : ok1 own dj) (hO : ∀ k, ((∃ z m, dj = .ah k z m) ∨ ∃ o, dj = .pv k o) → O' k = own k)
    (hfr : (D.shut1 own dj).plain = true ∨ dj = .any ∨ ∃ x, dj = .v x) : Rel (S2of S w r) w noRho (D.shut1 own dj) vj := by
  have hmono : ∀ d v, Rel S w r d v → Rel (S2of S w r) w r d v := fun d v h => h.mono (fun _ _ h => .inl h) (fun _ _ _ => rfl) r (RhoLe.refl r)
  by_cases hah : ∃ k z m, dj = .ah k z m
  · obtain ⟨k, z, m, rfl⟩ := hah
    have hOk := hO k (.inl ⟨z, m, rfl⟩)
    simp only [ok1] at hok
    simp only [D.shut1]
    split at hok
    · rename_i e' z' L ff hl
      obtain ⟨rfl, rfl⟩ := hok
      try rw [hl]
      show Rel (S2of S w r) w noRho (.sl z' m ff) vj
      have hOk' : O' k = some (.arr e' z' m ff) := hOk.trans hl
      obtain ⟨tv, g1, g2⟩ := hI.obj k _ hOk'
      cases h1 with
      | ah _ _ _ _ cap ax tv' L' hk0 hL hta hag =>
        rw [hk0] at g1
        cases g1
        rcases g2 with ⟨rfl, h0⟩ | ⟨g, cap', cur, rfl, q1, q2, q3, q4, q5, q6, q7⟩
        · subst h0
          rcases hta rfl with e1 | ⟨_, a2, e1⟩
          · cases e1
            exact .sl _ _ _ _ _ _ (fun _ _ => undef) (Nat.le_refl _) (by unfold maxLen; omega) (fun i hi => by omega) (fun i j hi => by omega) (fun i j hi => by omega)
          · cases e1
            exact .sl _ _ _ _ _ _ (fun _ _ => undef) (Nat.le_refl _) (by unfold maxLen; omega) (fun i hi => by omega) (fun i j hi => by omega) (fun i j hi => by omega)
        · rcases hta rfl with e1 | ⟨e1, _⟩
          · cases e1
            refine .sl _ _ _ _ _ _ (fun i j => cur.getD (i * z' + j) undef) q2 q3 q5 (fun i j hi hj => ⟨g, 0, rfl, .inr ⟨(Array.getElem?_eq_some_iff.1 q1).1, k, _, hk0, rfl⟩, ?_⟩) (fun i j hi hj => (q6 i j hi hj).mono (fun _ _ h => .inl h) (fun _ _ _ => rfl) noRho (RhoLe.refl _))
            rw [Nat.zero_add, cell_of_row w g _ cur e' (0, 0) q1]
            have : (i + 1) * z' ≤ cap * z' := Nat.mul_le_mul_right z' (by omega)
            rw [Nat.add_mul] at this
            have : i * z' + j < cur.size := by omega
            simp [Array.getD_eq_getD_getElem?, this]
          · cases e1
    · exact hok.elim
  by_cases hpv : ∃ k o, dj = .pv k o
  · obtain ⟨k, o, rfl⟩ := hpv
    have hOk := hO k (.inr ⟨o, rfl⟩)
    simp only [ok1] at hok
    simp only [D.shut1]
    split at hok
    · rename_i cs hl
      try rw [hl]
      show Rel (S2of S w r) w noRho (.rf cs o) vj
      have hOk' : O' k = some (.var cs) := hOk.trans hl
      obtain ⟨b, cur, e', g1, g2, g3, g4, g5⟩ := hI.obj k _ hOk'
      cases h1 with
      | pv _ _ _ b' hb =>
        rw [hb] at g1
        cases g1
        have := Rel.rf (S := S2of S w r) (w := w) noRho cs o b 0 (fun j => cur.getD j undef) hok (fun j hj => ⟨.inr ⟨(Array.getElem?_eq_some_iff.1 g2).1, k, _, hb, rfl⟩, by
          rw [Nat.zero_add, cell_of_row w b _ cur e' (0, 0) g2]
          have : j < cur.size := by omega
          simp [Array.getD_eq_getD_getElem?, this]⟩) (fun j hj => by
            refine ((g4 j hj).1.plain ?_ noRho).mono (fun _ _ h => .inl h) (fun _ _ _ => rfl) noRho (RhoLe.refl _)
            rw [List.all_eq_true] at hok
            refine hok _ ?_
            simp only [List.getD_eq_getElem?_getD, List.getElem?_eq_getElem hj, Option.getD_some]
            exact List.getElem_mem hj)
        simpa using this
    · exact hok.elim
  have hsh : D.shut1 own dj = dj.shut := by
    cases dj <;> first | rfl | exact absurd ⟨_, _, _, rfl⟩ hah | exact absurd ⟨_, _, rfl⟩ hpv
  rw [hsh] at hfr ⊢
  rcases hfr with h | rfl | ⟨x, rfl⟩
  · exact (hmono _ _ h1.shut).plain h noRho
  · exact .any ..
  · cases h1
    exact .v ..

/-- A call by a contract without objects that answers with data that hangs on no memory. -/
theorem call_stepS {o : Oper} {f : FuncId} {args : List D} (hP : ∀ vs w, (callFunc f vs).run P w = .ok (.enter f vs) w) (hc : callOf fr o.op = some (f, args)) (hp : okOs (fun k => look k ow) args) (hf : (args.map (D.shutO fun k => look k ow)).all D.free = true)
    (hC : Ctr P f (args.map (D.shutO fun k => look k ow)) d) (hs : d.scal = true) (hd : dstOk o.dst n) : ∀ F' O', (∀ x ∈ o.op.operands.toList, evF F' x = evF (fF fr) x) → (∀ k ∈ keysO args, O' k = fO ow k) → StepAt P X n o F' O' d [] := by
  intro F' O' he hO a w K' Q' ⟨S, r, hH, hI, hF, hdf, hn, hρ⟩ hK
  obtain ⟨vs, hrun, hsz, hrel⟩ := call_enter hP hc he (fun x => evF_rel hH.glob hF x)
  let S2 : Cells := S2of S w r
  have hmono : ∀ d v, Rel S w r d v → Rel S2 w r d v := fun d v h => h.mono (fun _ _ h => .inl h) (fun _ _ _ => rfl) r (RhoLe.refl r)
  have hrel2 : ∀ j, j < (args.map (D.shutO fun k => look k ow)).length → Rel S2 w noRho ((args.map (D.shutO fun k => look k ow)).getD j .any) (vs.getD j undef) := by
    intro j hj
    have hj' : j < args.length := by simpa using hj
    have e : (args.map (D.shutO fun k => look k ow)).getD j .any = D.shutO (fun k => look k ow) (args.getD j .any) := by simp [List.getD_eq_getElem?_getD, hj']
    have hmem : args.getD j .any ∈ args := by
      simp only [List.getD_eq_getElem?_getD, List.getElem?_eq_getElem hj', Option.getD_some]
      exact List.getElem_mem hj'
    have hfr : (D.shutO (fun k => look k ow) (args.getD j .any)).free = true := by
      rw [List.all_eq_true] at hf
      exact hf _ (List.mem_map.2 ⟨_, hmem, rfl⟩)
    rw [e]
    have h1 := hrel j hj'
    have hok := okOs_mem hp _ hmem
    generalize args.getD j .any = dj at h1 hok hmem hfr
    generalize vs.getD j undef = vj at h1
    by_cases hfn : ∃ g cs, dj = .fn g cs
    · obtain ⟨g, cs, rfl⟩ := hfn
      simp only [okO] at hok
      simp only [D.shutO] at hfr ⊢
      cases h1 with
      | fn _ _ _ us hn' hus =>
        refine .fn _ g _ us (by simpa using hn') (fun i hi => ?_)
        have hi' : i < cs.length := by simpa using hi
        have e2 : (cs.map (D.shut1 fun k => look k ow)).getD i .any = D.shut1 (fun k => look k ow) (cs.getD i .any) := by simp [List.getD_eq_getElem?_getD, hi']
        have hmi : cs.getD i .any ∈ cs := by
          simp only [List.getD_eq_getElem?_getD, List.getElem?_eq_getElem hi', Option.getD_some]
          exact List.getElem_mem hi'
        rw [e2]
        refine shut1_rel hI (hus i hi') (ok1s_mem hok _ hmi) (fun k hk => hO k (mem_keysF (mem_key1 hk hmi) hmem)) ?_
        have hfr' : ((cs.map (D.shut1 fun k => look k ow)).all fun c => match c with | .any | .v _ => true | c => c.plain) = true := hfr
        rw [List.all_eq_true] at hfr'
        have h3 := hfr' _ (List.mem_map.2 ⟨_, hmi, rfl⟩)
        generalize cs.getD i .any = c at h3
        have hv : ∀ x, D.shut1 (fun k => look k ow) c = .v x → c = .v x := fun x hx => by
          cases c <;> first | rfl | (simp only [D.shut1] at hx; first | exact hx | (cases hx; done) | (split at hx <;> cases hx))
        have hany : D.shut1 (fun k => look k ow) c = .any → c = .any := fun hx => by
          cases c <;> first | rfl | (simp only [D.shut1] at hx; first | exact hx | (cases hx; done) | (split at hx <;> cases hx))
        split at h3
        · rename_i hq
          exact .inr (.inl (hany hq))
        · rename_i x hq
          exact .inr (.inr ⟨x, hv x hq⟩)
        · exact .inl h3
    · have hso : D.shutO (fun k => look k ow) dj = D.shut1 (fun k => look k ow) dj := by
        cases dj <;> first | rfl | exact absurd ⟨_, _, rfl⟩ hfn
      have hoo : ok1 (fun k => look k ow) dj := by
        cases dj <;> first | exact hok | exact absurd ⟨_, _, rfl⟩ hfn
      rw [hso] at hfr ⊢
      by_cases hahpv : (∃ k z m, dj = .ah k z m) ∨ ∃ k o, dj = .pv k o
      · refine shut1_rel hI h1 hoo (fun k hk => hO k (mem_keysO hk hmem)) (.inl ?_)
        rcases hahpv with ⟨k, z, m, rfl⟩ | ⟨k, o', rfl⟩ <;> simp only [D.shut1] at hfr ⊢ <;> split at hfr <;> first | exact hfr | (simp [D.free] at hfr; done) | (simp only [*] at *; exact hfr) | (simp [D.plain])
      · have hsh : D.shut1 (fun k => look k ow) dj = dj.shut := by
          cases dj <;> first | rfl | exact absurd (.inl ⟨_, _, _, rfl⟩) hahpv | exact absurd (.inr ⟨_, _, rfl⟩) hahpv
        rw [hsh] at hfr ⊢
        exact (hmono _ _ h1.shut).free hfr noRho
  have hv2 : ∀ b o, S2 b o → b < w.heap.size := fun b o h => by
    rcases h with h | h
    · exact hH.valid b o h
    · exact h.1
  unfold Oper.wp
  rw [hrun]
  refine (hC w S2 vs hv2 (hH.glob.mono (fun _ _ h => .inl h) (fun _ _ _ => rfl)) (by simpa using hsz) hrel2).mono ?_
  rintro e w' ⟨v, S', rfl, h1, h2⟩
  have hch : Chg w w' S none := ⟨h2.os, h2.tape, h2.output, h2.size, fun k hk _ => h2.block k hk (fun h => h), fun b o hb => h2.cell b o (.inl hb)⟩
  refine hK v w' ⟨S, r, ?_, ?_, rel_put (fun t => (hF t).mono (fun _ _ h => h) hch.cell r (RhoLe.refl r)) (hn ▸ hd) (h1.scal hs S w' r), by rw [put_defers]; exact hdf, by rw [put_size]; exact hn, hρ⟩
  · exact hH.chg hch (fun b hb => by cases hb) (fun _ _ h => h) (fun b o hb => .inl hb)
  · exact hI.grow hch (fun _ _ h => h) (fun b o hb => .inl hb)

/-- A call by a contract that hands back a new row. -/
theorem call_stepN {o : Oper} {f : FuncId} {args : List D} {k t z L : Nat} {e : TypeId} {g : Nat → List D} (hP : ∀ vs w, (callFunc f vs).run P w = .ok (.enter f vs) w) (hc : callOf fr o.op = some (f, args)) (hf : (args.map D.shut).all D.free = true)
    (hC : CtrO P f (args.map D.shut) [] (.ah k z L) [(k, .arr e z L g)]) (ht : look t ow = none) (hd : dstOk o.dst n) : ∀ F' O', (∀ x ∈ o.op.operands.toList, evF F' x = evF (fF fr) x) → (∀ j ∈ [t], O' j = fO ow j) → StepAt P X n o F' O' (.ah t z L) [(t, .arr e z L g)] := by
  intro F' O' he hO a w K' Q' ⟨S, r, hH, hI, hF, hdf, hn, hρ⟩ hK
  obtain ⟨vs, hrun, hsz, hrel⟩ := call_enter hP hc he (fun x => evF_rel hH.glob hF x)
  unfold Oper.wp
  rw [hrun]
  let X' : Ctx := { w0 := w, S0 := S, L := fun _ => False, r0 := noRho, ids := [] }
  refine (hC X' vs rfl ⟨rfl, rfl, rfl, Nat.le_refl _, fun _ _ _ => rfl, fun _ _ h => h, fun _ _ _ => rfl, fun _ _ h => .inl h, hH.valid, hH.glob⟩ (inv_none X' w S) (by simpa using hsz) (shut_rel hrel hf)).mono ?_
  rintro e' w' ⟨v, S', r', rfl, g1, g2, g3, _⟩
  obtain ⟨tv, q1, q2⟩ := g3.obj k (.arr e z L g) (by show look k [(k, _)] = _; simp [look])
  cases g1 with
  | ah _ _ _ _ cap ax tv' L' hk0 hL hta hag =>
    rw [hk0] at q1
    cases q1
    have hch : Chg w w' S none := ⟨g2.os, g2.tape, g2.output, g2.size, fun j hj _ => g2.block j hj (fun h => h), g2.cell⟩
    have hrt : r t = none := hI.dom t ((hO t (by simp)).trans ht)
    have hle : RhoLe r (updR r t (.row tv L)) := RhoLe.new hrt
    have hr2 : updR r t (.row tv L) t = some (.row tv L) := by simp [updR]
    have hnew : ∀ b o, S' b o → S b o ∨ w.heap.size ≤ b := fun b o h => by
      rcases g2.new b o h with h | h | h
      · exact .inl h
      · exact .inr h
      · exact h.elim
    refine hK _ w' ⟨S', updR r t (.row tv L), ?_, ?_, rel_put (fun u => (hF u).mono g2.sub g2.cell _ hle) (hn ▸ hd) (.ah _ t z L cap ax tv L hr2 (Nat.le_refl _) hta hag), by rw [put_defers]; exact hdf, by rw [put_size]; exact hn, hρ.trans hle⟩
    · refine hH.chg hch (fun b hb => by cases hb) g2.sub (fun b o hb => ?_)
      rcases hnew b o hb with h | h
      · exact .inl h
      · exact .inr ⟨.inl (Nat.le_trans hH.size h), g2.valid b o hb⟩
    · refine hI.put hch g2.sub hle t _ (.row tv L) ⟨tv, hr2, q2⟩ hr2 (fun j hj => by simp [updR, hj]) (fun b hb => .inl ?_) (fun b hb => by cases hb) (fun b o h => (hnew b o h).elim .inl (fun h => .inr (.inr h)))
      rcases g3.low k _ b hk0 hb with h | h
      · exact ⟨h, .inl (Nat.le_trans hH.size h)⟩
      · exact h.elim

theorem CT.callN {f : FuncId} {args : List D} {k z L : Nat} {e : TypeId} {g : Nat → List D} (hc : callOf fr op = some (f, args)) (hn : t < n) (hP : ∀ vs w, (callFunc f vs).run P w = .ok (.enter f vs) w) (hf : (args.map D.shut).all D.free = true)
    (hC : CtrO P f (args.map D.shut) [] (.ah k z L) [(k, .arr e z L g)]) (ht : look t ow = none)
    (h : CT P X n all rest ((t, .ah t z L) :: fr) ((t, .arr e z L g) :: ow) (tr ++ [([t], [t])]) K) : CT P X n all (⟨some t, op, ty, pos, af, none⟩ :: rest) fr ow tr K :=
  CT.cons (e := ⟨.ah t z L, [t], [(t, .arr e z L g)]⟩) (.plain rfl (call_stepN (o := ⟨some t, op, ty, pos, af, none⟩) (ow := ow) hP hc hf hC ht hn)) (fF_cons ..) (fO_cons ..) h

theorem CT.callS {f : FuncId} {args : List D} (hc : callOf fr op = some (f, args)) (hn : t < n) (hP : ∀ vs w, (callFunc f vs).run P w = .ok (.enter f vs) w) (hp : okOs (fun k => look k ow) args) (hf : (args.map (D.shutO fun k => look k ow)).all D.free = true)
    (hC : Ctr P f (args.map (D.shutO fun k => look k ow)) d) (hs : d.scal = true)
    (h : CT P X n all rest ((t, d) :: fr) ow (tr ++ [(keysO args, [])]) K) : CT P X n all (⟨some t, op, ty, pos, af, none⟩ :: rest) fr ow tr K :=
  CT.cons (e := ⟨d, keysO args, []⟩) (.plain rfl (call_stepS (o := ⟨some t, op, ty, pos, af, none⟩) (ow := ow) hP hc hp hf hC hs hn)) (fF_cons ..) rfl h

theorem CT.gcallS {f : FuncId} {args : List D} (hu : dstAt all g = some u) (hg : getD' u fr = .b want) (hc : callOf fr op = some (f, args)) (hn : t < n) (hP : ∀ vs w, (callFunc f vs).run P w = .ok (.enter f vs) w) (hp : okOs (fun k => look k ow) args) (hf : (args.map (D.shutO fun k => look k ow)).all D.free = true)
    (hC : Ctr P f (args.map (D.shutO fun k => look k ow)) d) (hs : d.scal = true)
    (h : CT P X n all rest ((t, d) :: fr) ow (tr ++ [(keysO args, [])]) K) : CT P X n all (⟨some t, op, ty, pos, af, some (g, want)⟩ :: rest) fr ow tr K :=
  CT.cons (e := ⟨d, keysO args, []⟩) (.guarded rfl hu hg (call_stepS (o := ⟨some t, op, ty, pos, af, some (g, want)⟩) (ow := ow) hP hc hp hf hC hs hn)) (fF_cons ..) rfl h

theorem CT.call {f : FuncId} {args : List D} (hc : callOf fr op = some (f, args)) (hn : t < n) (hP : ∀ vs w, (callFunc f vs).run P w = .ok (.enter f vs) w) (hf : (args.map D.shut).all D.free = true) (hC : Ctr P f (args.map D.shut) d)
    (h : CT P X n all rest ((t, d) :: fr) ow (tr ++ [([], [])]) K) : CT P X n all (⟨some t, op, ty, pos, af, none⟩ :: rest) fr ow tr K :=
  CT.cons (e := ⟨d, [], []⟩) (.plain rfl (call_step (o := ⟨some t, op, ty, pos, af, none⟩) (ow := ow) hP hc hf hC hn)) (fF_cons ..) rfl h

theorem CT.gcall {f : FuncId} {args : List D} (hu : dstAt all g = some u) (hg : getD' u fr = .b want) (hc : callOf fr op = some (f, args)) (hn : t < n) (hP : ∀ vs w, (callFunc f vs).run P w = .ok (.enter f vs) w)
    (hf : (args.map D.shut).all D.free = true) (hC : Ctr P f (args.map D.shut) d)
    (h : CT P X n all rest ((t, d) :: fr) ow (tr ++ [([], [])]) K) : CT P X n all (⟨some t, op, ty, pos, af, some (g, want)⟩ :: rest) fr ow tr K :=
  CT.cons (e := ⟨d, [], []⟩) (.guarded rfl hu hg (call_step (o := ⟨some t, op, ty, pos, af, some (g, want)⟩) (ow := ow) hP hc hf hC hn)) (fF_cons ..) rfl h

/-! ### Code -/
def thenQ (K : Fr → Ow → Prop) (Q : Exit → Fr → Ow → Prop) : Exit → Fr → Ow → Prop
  | .normal, fr, ow => K fr ow
  | e, fr, ow => Q e fr ow

def blockQ (id : Nat) (Q : Exit → Fr → Ow → Prop) : Exit → Fr → Ow → Prop
  | .exit j, fr, ow => match Nat.beq j id with
    | true => Q .normal fr ow
    | false => Q (.exit j) fr ow
  | e, fr, ow => Q e fr ow

theorem T.seq {x y : Code} (h : T P X n x fr ow (thenQ (fun fr ow => T P X n y fr ow Q) Q)) : T P X n (.seq x y) fr ow Q := fun a w hr => by
  refine wp_seq (wp_mono (h a w hr) fun e a w hq => ?_)
  obtain ⟨fr', ow', h1, h2⟩ := hq
  cases e with
  | normal => exact h1 a w h2
  | _ => exact ⟨fr', ow', h1, h2⟩

theorem T.skip (h : Q .normal fr ow) : T P X n .skip fr ow Q := fun _ _ hr => wp_skip ⟨fr, ow, h, hr⟩
theorem T.ret (h : Q .ret fr ow) : T P X n .ret fr ow Q := fun _ _ hr => wp_ret ⟨fr, ow, h, hr⟩
theorem T.exit {id : Nat} (h : Q (.exit id) fr ow) : T P X n (.exit id) fr ow Q := fun _ _ hr => wp_exit ⟨fr, ow, h, hr⟩

theorem T.region {id : Nat} {ops : List Oper} (h : CT P X n ops ops fr ow [] (fun fr ow _ => Q .normal fr ow)) : T P X n (.region id ⟨ops⟩ false) fr ow Q := fun a w hr => by
  obtain ⟨es, fr', ow', hc, hK⟩ := h
  exact wp_region_of_ch hc (fun a' w' h' => ⟨fr', ow', hK, h'⟩) hr

theorem T.draw {id : Nat} {ops : List Oper} (hm : P.follows .mixedOrders = true) (h : CT P X n ops ops fr ow [] (fun fr ow tr => flowOk ops tr = true ∧ Q .normal fr ow)) : T P X n (.region id ⟨ops⟩ true) fr ow Q := fun a w hr => by
  obtain ⟨es, fr', ow', hc, hok, hK⟩ := h
  exact wp_region_any_of_ch hm hc (by simpa using hok) (fun a' w' h' => ⟨fr', ow', hK, h'⟩) hr

theorem T.cond {c : Operand} {x y : Code} {b : Bool} (hc : ev fr c = .b b) (h1 : b = true → T P X n x fr ow Q) (h2 : b = false → T P X n y fr ow Q) : T P X n (.cond c x y) fr ow Q := fun a w hr => by
  have he : a.eval c = .bool b := by
    obtain ⟨S, r, hH, _, hF, _, _, _⟩ := hr
    have h := evF_rel hH.glob hF c
    rw [evF_fF, hc] at h
    generalize a.eval c = v at h
    cases h
    rfl
  exact wp_cond_split he (fun hb => h1 hb a w hr) (fun hb => h2 hb a w hr)

theorem T.block {id : Nat} {c : Code} (h : T P X n c fr ow (blockQ id Q)) : T P X n (.block id c) fr ow Q := fun a w hr => by
  refine wp_block (wp_mono (h a w hr) fun e a w hq => ?_)
  obtain ⟨fr', ow', h1, h2⟩ := hq
  cases e with
  | exit j =>
    simp only [blockQ] at h1
    simp only [Exit.inBlock]
    cases hb : Nat.beq j id with
    | true =>
      rw [hb] at h1
      rw [if_pos (Nat.eq_of_beq_eq_true hb)]
      exact ⟨fr', ow', h1, h2⟩
    | false =>
      rw [hb] at h1
      rw [if_neg (fun e => by subst e; rw [Nat.beq_refl] at hb; cases hb)]
      exact ⟨fr', ow', h1, h2⟩
  | _ => exact ⟨fr', ow', h1, h2⟩

end
end Go.Proofs.YtghdgjabpdfaoaaDoor.Flow

/-
  FLOW, PART M: LOOPS, WHAT A FUNCTION HANDS BACK, CALLS THAT LEND OBJECTS.
-/
namespace Go.Proofs.YtghdgjabpdfaoaaDoor.Flow

def memB (k : Nat) : List Nat → Bool
  | [] => false
  | x :: r => match Nat.beq x k with
    | true => true
    | false => memB k r

theorem memB_spec {k : Nat} : ∀ {l : List Nat}, memB k l = true → k ∈ l
  | [], h => by simp [memB] at h
  | x :: r, h => by
    simp only [memB] at h
    cases hb : Nat.beq x k with
    | true => have := Nat.eq_of_beq_eq_true hb; subst this; simp
    | false => rw [hb] at h; exact List.mem_cons_of_mem _ (memB_spec h)

/-- A part of a datum: a variable among these, or none. -/
def D.okI1 (ks : List Nat) : D → Bool
  | .pv k _ => memB k ks
  | .any | .v _ => true
  | c => c.plain

/-- A datum whose objects are among these. -/
def D.okIn (ks : List Nat) : D → Bool
  | .pv k _ => memB k ks
  | .gs k _ _ _ => memB k ks
  | .ah k _ _ => memB k ks
  | .ap k _ _ _ _ => memB k ks
  | .mh k => memB k ks
  | .fn _ cs => cs.all (D.okI1 ks)
  | d => d.free

def keepR (r : Rho) (ks : List Nat) : Rho := fun k => if k ∈ ks then r k else none

theorem Rel.okIn {S : Cells} {w : World} {r : Rho} {d : D} {v : Value} (h : Rel S w r d v) {ks : List Nat} (hk : d.okIn ks = true) : Rel S w (keepR r ks) d v := by
  cases h with
  | pv _ k off b h => exact .pv _ k off b (by simp only [keepR]; rw [if_pos (memB_spec hk)]; exact h)
  | gs _ k esz len f _ tv L h hk' hL ht => exact .gs _ k esz len f v tv L ((h.plain rfl) _) (by simp only [keepR]; rw [if_pos (memB_spec hk)]; exact hk') hL ht
  | ah _ k esz len cap a tv L hk' hL ht ha => exact .ah _ k esz len cap a tv L (by simp only [keepR]; rw [if_pos (memB_spec hk)]; exact hk') hL ht ha
  | ap _ k esz len i off a tv L hk' hL ht ha => exact .ap _ k esz len i off a tv L (by simp only [keepR]; rw [if_pos (memB_spec hk)]; exact hk') hL ht ha
  | mh _ k b h => exact .mh _ k b (by simp only [keepR]; rw [if_pos (memB_spec hk)]; exact h)
  | e0 => exact .e0 ..
  | se _ z b a cap hm hb => exact .se _ z b a cap hm hb
  | rn _ k len f off b h => exact .rn _ k len f off b h
  | any => exact .any ..
  | i => exact .i ..
  | b => exact .b ..
  | s => exact .s ..
  | nilS => exact .nilS _
  | v => exact .v ..
  | fn _ f cs vs hn h =>
    refine .fn _ f cs vs hn fun j hj => ?_
    have hj1 := h j hj
    have hj2 : D.okI1 ks (cs.getD j .any) = true := by
      have hk' : cs.all (D.okI1 ks) = true := hk
      rw [List.all_eq_true] at hk'
      refine hk' _ ?_
      simp only [List.getD_eq_getElem?_getD, List.getElem?_eq_getElem hj, Option.getD_some]
      exact List.getElem_mem hj
    generalize cs.getD j .any = c at hj1 hj2
    generalize vs.getD j undef = u at hj1
    cases hj1 with
    | pv _ k off b h => exact .pv _ k off b (by simp only [keepR]; rw [if_pos (memB_spec hj2)]; exact h)
    | any => exact .any ..
    | v => exact .v ..
    | i => exact .i ..
    | b => exact .b ..
    | s => exact .s ..
    | nilS => exact .nilS _
    | fn _ f cs vs hn h => exact (Rel.fn _ f cs vs hn h).plain hj2 _
    | ag _ cs vs hn h => exact (Rel.ag _ cs vs hn h).plain hj2 _
    | tu _ cs vs hn h => exact (Rel.tu _ cs vs hn h).plain hj2 _
    | sl _ esz len f a cap c hc hm hl hcell hr => exact .sl _ esz len f a cap c hc hm hl hcell hr
    | rf _ cs off b o c hp hcell hr => exact .rf _ cs off b o c hp hcell hr
    | gs => simp [D.okI1, D.plain] at hj2
    | mh => simp [D.okI1, D.plain] at hj2
    | ah => simp [D.okI1, D.plain] at hj2
    | ap => simp [D.okI1, D.plain] at hj2
    | e0 => exact .e0 ..
    | se _ z b a cap hm hb => exact .se _ z b a cap hm hb
    | rn _ k len f off b h => exact .rn _ k len f off b h
  | ag _ cs vs hn h => exact (Rel.ag _ cs vs hn h).free hk _
  | tu _ cs vs hn h => exact (Rel.tu _ cs vs hn h).free hk _
  | sl _ esz len f a cap c hc hm hl hcell hr => exact .sl _ esz len f a cap c hc hm hl hcell hr
  | rf _ cs off b o c hp hcell hr => exact .rf _ cs off b o c hp hcell hr

def Own.okIn (ks : List Nat) : Own → Bool
  | .var cs => cs.all (D.okIn ks)
  | .row .. => true
  | .arr .. => true
  | .ob _ => true
  | .bld _ d => d.okIn ks
  | .mp es => es.all fun p => p.2.okIn ks
  | .bm .. => true
  | .gone => true

def leFr (fr : Fr) : Fr → Prop
  | [] => True
  | (t, e) :: r => getD' t fr = e ∧ leFr fr r

/-- Cells told by cells that tell no less. -/
def WL (a b : List D) : Prop := a = b ∨ (b.length = a.length ∧ b.all D.plain = true ∧ ∀ j, j < a.length → Weak (a.getD j .any) (b.getD j .any))

def leOw (ow : Ow) : Ow → Prop
  | [] => True
  | (k, o) :: r => (match o with
      | .arr e z L f => ∃ L2 f2, look k ow = some (.arr e z L2 f2) ∧ L2 = L ∧ ∀ i, i < L → WL (f2 i) (f i)
      | .bld T d => look k ow = some (.bld T d) ∨ look k ow = some (.var [.pv k 0, d])
      | .gone => ∃ o2, look k ow = some o2
      | o => look k ow = some o) ∧ leOw ow r

/-- An object told by one that is the same where it matters. -/
def ownLe (k : Nat) (o2 o : Own) : Prop :=
  match o with
  | .arr e z L f => ∃ L2 f2, o2 = .arr e z L2 f2 ∧ L2 = L ∧ ∀ i, i < L → WL (f2 i) (f i)
  | .bld T d => o2 = .bld T d ∨ o2 = .var [.pv k 0, d]
  | .gone => True
  | o => o2 = o

def okAll (ks : List Nat) (fr : Fr) (ow : Ow) : Bool := fr.all (fun x => x.2.okIn ks) && ow.all (fun x => x.2.okIn ks)

theorem leFr_get {fr : Fr} : ∀ {fr' : Fr}, leFr fr fr' → ∀ t, getD' t fr' = .any ∨ (getD' t fr' = getD' t fr ∧ ∃ e, (t, e) ∈ fr' ∧ getD' t fr' = e)
  | [], _, t => .inl rfl
  | (u, e) :: r, h, t => by
    simp only [getD']
    cases hb : Nat.beq u t with
    | true =>
      have := Nat.eq_of_beq_eq_true hb
      subst this
      exact .inr ⟨h.1.symm, e, by simp, rfl⟩
    | false =>
      rcases leFr_get h.2 t with h1 | ⟨h1, e', h2, h3⟩
      · exact .inl h1
      · exact .inr ⟨h1, e', by simp [h2], h3⟩

theorem leOw_get {ow : Ow} : ∀ {ow' : Ow}, leOw ow ow' → ∀ k o, look k ow' = some o → (∃ o2, look k ow = some o2 ∧ ownLe k o2 o) ∧ (k, o) ∈ ow'
  | [], _, k, o, h => by simp [look] at h
  | (u, e) :: r, h, k, o, hk => by
    simp only [look] at hk
    cases hb : Nat.beq u k with
    | true =>
      rw [hb] at hk
      have := Nat.eq_of_beq_eq_true hb
      subst this
      cases hk
      refine ⟨?_, by simp⟩
      cases e with
      | arr e z L f =>
        obtain ⟨L2, f2, h1, h2⟩ := h.1
        exact ⟨_, h1, L2, f2, rfl, h2⟩
      | var cs => exact ⟨_, h.1, rfl⟩
      | row e z L => exact ⟨_, h.1, rfl⟩
      | ob x => exact ⟨_, h.1, rfl⟩
      | mp es => exact ⟨_, h.1, rfl⟩
      | bm e len f => exact ⟨_, h.1, rfl⟩
      | bld T d =>
        rcases h.1 with h1 | h1
        · exact ⟨_, h1, .inl rfl⟩
        · exact ⟨_, h1, .inr rfl⟩
      | gone =>
        obtain ⟨o2, h1⟩ := h.1
        exact ⟨_, h1, trivial⟩
    | false =>
      rw [hb] at hk
      have := leOw_get h.2 k o hk
      exact ⟨this.1, by simp [this.2]⟩

theorem look_none {ow : Ow} {k : Nat} (h : k ∉ ow.map (·.1)) : look k ow = none := by
  induction ow with
  | nil => rfl
  | cons x r ih =>
    obtain ⟨u, e⟩ := x
    simp only [List.map_cons, List.mem_cons, not_or] at h
    simp only [look]
    cases hb : Nat.beq u k with
    | true => exact absurd (Nat.eq_of_beq_eq_true hb).symm h.1
    | false => exact ih h.2

theorem look_some {ow : Ow} {k : Nat} (h : k ∈ ow.map (·.1)) : ∃ o, look k ow = some o := by
  induction ow with
  | nil => simp at h
  | cons x r ih =>
    obtain ⟨u, e⟩ := x
    simp only [List.map_cons, List.mem_cons] at h
    simp only [look]
    cases hb : Nat.beq u k with
    | true => exact ⟨e, rfl⟩
    | false =>
      rcases h with h | h
      · subst h; rw [Nat.beq_refl] at hb; cases hb
      · exact ih h

section
variable {P : Program} {X : Ctx} {n : Nat} {fr fr' : Fr} {ow ow' : Ow} {Q : Exit → Fr → Ow → Prop}

/-- Objects that are dropped. -/
theorem Inv.keep {w : World} {S : Cells} {r : Rho} (hI : Inv X w S r (fO ow)) (h : leOw ow ow') (hok : ow'.all (fun x => x.2.okIn (ow'.map (·.1))) = true) : Inv X w S (keepR r (ow'.map (·.1))) (fO ow') where
  obj := fun k o hk => by
    obtain ⟨⟨o2, h1, hle⟩, h2⟩ := leOw_get h k o hk
    have hmem : k ∈ ow'.map (·.1) := List.mem_map.2 ⟨(k, o), h2, rfl⟩
    have hkr : keepR r (ow'.map (·.1)) k = r k := if_pos hmem
    have ho := hI.obj k o2 h1
    cases o with
    | var cs =>
      obtain rfl : o2 = .var cs := hle
      obtain ⟨b, cur, e, g1, g2, g3, g4, g5⟩ := ho
      refine ⟨b, cur, e, hkr.trans g1, g2, g3, fun j hj => ⟨(g4 j hj).1.okIn ?_, (g4 j hj).2⟩, g5⟩
      rw [List.all_eq_true] at hok
      have := hok (k, .var cs) h2
      simp only [Own.okIn, List.all_eq_true] at this
      refine this _ ?_
      simp only [List.getD_eq_getElem?_getD, List.getElem?_eq_getElem hj, Option.getD_some]
      exact List.getElem_mem hj
    | row e esz len =>
      obtain rfl : o2 = .row e esz len := hle
      obtain ⟨tv, g1, g2⟩ := ho
      exact ⟨tv, hkr.trans g1, g2⟩
    | ob x =>
      obtain rfl : o2 = .ob x := hle
      obtain ⟨b, g1, g2⟩ := ho
      exact ⟨b, hkr.trans g1, g2⟩
    | bm e len f =>
      obtain rfl : o2 = .bm e len f := hle
      obtain ⟨b, cap, cur, g1, g2⟩ := ho
      exact ⟨b, cap, cur, hkr.trans g1, g2⟩
    | mp es =>
      obtain rfl : o2 = .mp es := hle
      obtain ⟨b, arr, clock, g1, g2, g3, g4, g6, g5⟩ := ho
      refine ⟨b, arr, clock, hkr.trans g1, g2, g3, fun j hj => ⟨(g4 j hj).1, (g4 j hj).2.1.okIn ?_, (g4 j hj).2.2⟩, g6, g5⟩
      rw [List.all_eq_true] at hok
      have := hok (k, .mp es) h2
      simp only [Own.okIn, List.all_eq_true] at this
      refine this _ ?_
      simp only [List.getD_eq_getElem?_getD, List.getElem?_eq_getElem hj, Option.getD_some]
      exact List.getElem_mem hj
    | bld T d =>
      have hd : d.okIn (ow'.map (·.1)) = true := by
        rw [List.all_eq_true] at hok
        exact hok (k, .bld T d) h2
      rcases hle with rfl | rfl
      · obtain ⟨b, cur, e, g1, g2, g3, g4, g6, g5⟩ := ho
        exact ⟨b, cur, e, hkr.trans g1, g2, g3, g4, ⟨g6.1.okIn hd, g6.2⟩, g5⟩
      · obtain ⟨b, cur, e, g1, g2, g3, g4, g5⟩ := ho
        have q0 := (g4 0 (by simp)).1
        have q1 := g4 1 (by simp)
        refine ⟨b, cur, e, hkr.trans g1, g2, g3, .inr ?_, ⟨q1.1.okIn hd, q1.2⟩, g5⟩
        generalize cur.getD 0 undef = v0 at q0
        cases q0 with
        | pv _ _ _ b' h4 =>
          rw [g1] at h4
          cases h4
          rfl
    | gone =>
      obtain ⟨l, g1, g2⟩ := ho.toGone
      exact ⟨l, hkr.trans g1, g2⟩
    | arr e esz len f =>
      obtain ⟨L2, f2, rfl, rfl, hff⟩ := hle
      obtain ⟨tv, g1, g2⟩ := ho
      refine ⟨tv, hkr.trans g1, ?_⟩
      rcases g2 with g2 | ⟨g, cap, cur, q0, q1, q2, q3, q4, q5, q6, q7⟩
      · exact .inl g2
      · refine .inr ⟨g, cap, cur, q0, q1, q2, q3, q4, fun i hi => ?_, fun i j hi hj => ?_, q7⟩
        · rcases hff i hi with h | ⟨h1, h2, _⟩
          · rw [← h]; exact q5 i hi
          · exact ⟨h1.trans (q5 i hi).1, h2⟩
        · rcases hff i hi with h | ⟨_, _, h3⟩
          · rw [← h]; exact q6 i j hi hj
          · exact (q6 i j hi hj).weak (h3 j (by rw [(q5 i hi).1]; exact hj))
  dom := fun k hk => by
    by_cases hm : k ∈ ow'.map (·.1)
    · obtain ⟨o, ho⟩ := look_some hm
      rw [show fO ow' k = look k ow' from rfl, ho] at hk
      cases hk
    · exact if_neg hm
  apart := fun k k' l l' b hkk hl hl' hb => by
    simp only [keepR] at hl hl'
    split at hl <;> first | (cases hl; done) | skip
    split at hl' <;> first | (cases hl'; done) | skip
    exact hI.apart k k' l l' b hkk hl hl' hb
  low := fun k l b hl hb => by
    simp only [keepR] at hl
    split at hl <;> first | (cases hl; done) | skip
    exact hI.low k l b hl hb

/-- A state told by less. -/
structure Le (X : Ctx) (fr : Fr) (ow : Ow) (fr' : Fr) (ow' : Ow) : Prop where
  fr : leFr fr fr'
  ow : leOw ow ow'
  ok : okAll (ow'.map (·.1)) fr' ow' = true
  ids : ∀ k ∈ X.ids, k ∈ ow'.map (·.1)

/-- The lent objects are those that are named. -/
def Lent (X : Ctx) : Prop := ∀ k, X.r0 k ≠ none → k ∈ X.ids

theorem Rep.le {a : Act} {w : World} (h : Rep X n (fF fr) (fO ow) a w) (hl : Le X fr ow fr' ow') (hL : Lent X) : Rep X n (fF fr') (fO ow') a w := by
  obtain ⟨S, r, hH, hI, hF, hd, hn, hρ⟩ := h
  have hok := hl.ok
  simp only [okAll, Bool.and_eq_true] at hok
  refine ⟨S, keepR r (ow'.map (·.1)), hH, hI.keep hl.ow hok.2, fun t => ?_, hd, hn, fun k l hk => ?_⟩
  · rcases leFr_get hl.fr t with h1 | ⟨h1, e, h2, h3⟩
    · show Rel _ _ _ (getD' t fr') _
      rw [h1]
      exact .any ..
    · show Rel _ _ _ (getD' t fr') _
      have h4 := hok.1
      rw [List.all_eq_true] at h4
      have h5 := h4 (t, e) h2
      refine Rel.okIn ?_ (by rw [h3]; exact h5)
      rw [h1]
      exact hF t
  · obtain ⟨l', h1, h2⟩ := hρ k l hk
    have : k ∈ ow'.map (·.1) := hl.ids k (hL k (by rw [hk]; simp))
    exact ⟨l', by simp only [keepR]; rw [if_pos this]; exact h1, h2⟩

/-- A LOOP. -/
theorem T.loop {c : Code} {ι : Type} (hL : Lent X) (mkF : ι → Fr) (mkO : ι → Ow) (I : ι → Prop) (μ : ι → Nat) (x0 : ι) (h0 : I x0) (hle : Le X fr ow (mkF x0) (mkO x0))
    (h : ∀ x, I x → T P X n c (mkF x) (mkO x) (thenQ (fun fr ow => ∃ y, I y ∧ μ y < μ x ∧ Le X fr ow (mkF y) (mkO y)) Q)) : T P X n (.loop c) fr ow Q := fun a w hr => by
  refine wp_loop_ghost (fun m a w => ∃ x, I x ∧ μ x = m ∧ Rep X n (fF (mkF x)) (fO (mkO x)) a w) (μ x0) ⟨x0, h0, rfl, hr.le hle hL⟩ fun m a w ⟨x, hI, hm, hrep⟩ => ?_
  refine wp_mono (h x hI a w hrep) fun e a' w' ⟨fr', ow', hq, hrep'⟩ => ?_
  cases e with
  | normal =>
    obtain ⟨y, hy, hlt, hley⟩ := hq
    exact ⟨μ y, by omega, y, hy, rfl, hrep'.le hley hL⟩
  | _ => exact ⟨fr', ow', hq, hrep'⟩

/-- A nil slice is taken for an empty row of the call's own. -/
theorem T.adopt {c : Code} (t k e z : Nat) (f : Nat → List D) (ht : getD' t fr = .nilS) (hk : look k ow = none) (h : T P X n c ((t, .gs k z 0 f) :: fr) ((k, .row e z 0) :: ow) Q) : T P X n c fr ow Q := fun a w hr => by
  refine h a w ?_
  obtain ⟨S, r, hH, hI, hF, hd, hn, hρ⟩ := hr
  have hv : a.tmps.getD t undef = .slice none 0 0 := by
    have := hF t
    rw [show fF fr t = .nilS from ht] at this
    generalize a.tmps.getD t undef = v at this
    cases this
    rfl
  have hle : RhoLe r (updR r k (.row (.slice none 0 0) 0)) := RhoLe.new (hI.dom k hk)
  have hk0 : updR r k (.row (.slice none 0 0) 0) k = some (.row (.slice none 0 0) 0) := by simp [updR]
  have hc : Chg w w S none := ⟨rfl, rfl, rfl, Nat.le_refl _, fun _ _ _ => rfl, fun _ _ _ => rfl⟩
  refine ⟨S, updR r k (.row (.slice none 0 0) 0), hH, ?_, fun u => ?_, hd, hn, hρ.trans hle⟩
  · rw [fO_cons]
    exact hI.put hc (fun _ _ h => h) hle k _ (.row (.slice none 0 0) 0) ⟨_, hk0, .inl ⟨rfl, rfl⟩⟩ hk0 (fun j hj => by simp [updR, hj]) (fun b hb => by simp [Loc.block] at hb) (fun b hb => by cases hb) (fun _ _ h => .inl h)
  · rw [fF_cons]
    show Rel _ _ _ (if u = t then _ else fF fr u) _
    by_cases e : u = t
    · subst e
      rw [if_pos rfl, hv]
      refine .gs _ k z 0 f _ _ 0 (.sl _ _ _ _ none 0 (fun _ _ => undef) (Nat.le_refl _) (by unfold maxLen; omega) (fun i hi => by omega) (fun i j hi => by omega) (fun i j hi => by omega)) hk0 (Nat.le_refl _) (fun _ => .inl rfl)
    · rw [if_neg e]
      exact (hF u).mono (fun _ _ h => h) (fun _ _ _ => rfl) _ hle

/-- .. or for one whose elements may change. -/
theorem Rep.adoptA {a : Act} {w : World} (t k e z : Nat) (f : Nat → List D) (ht : getD' t fr = .nilS) (hk : look k ow = none) (hr : Rep X n (fF fr) (fO ow) a w) : Rep X n (fF ((t, .ah k z 0) :: fr)) (fO ((k, .arr e z 0 f) :: ow)) a w := by
  obtain ⟨S, r, hH, hI, hF, hd, hn, hρ⟩ := hr
  have hv : a.tmps.getD t undef = .slice none 0 0 := by
    have := hF t
    rw [show fF fr t = .nilS from ht] at this
    generalize a.tmps.getD t undef = v at this
    cases this
    rfl
  have hle : RhoLe r (updR r k (.row (.slice none 0 0) 0)) := RhoLe.new (hI.dom k hk)
  have hk0 : updR r k (.row (.slice none 0 0) 0) k = some (.row (.slice none 0 0) 0) := by simp [updR]
  have hc : Chg w w S none := ⟨rfl, rfl, rfl, Nat.le_refl _, fun _ _ _ => rfl, fun _ _ _ => rfl⟩
  refine ⟨S, updR r k (.row (.slice none 0 0) 0), hH, ?_, fun u => ?_, hd, hn, hρ.trans hle⟩
  · rw [fO_cons]
    exact hI.put hc (fun _ _ h => h) hle k _ (.row (.slice none 0 0) 0) ⟨_, hk0, .inl ⟨rfl, rfl⟩⟩ hk0 (fun j hj => by simp [updR, hj]) (fun b hb => by simp [Loc.block] at hb) (fun b hb => by cases hb) (fun _ _ h => .inl h)
  · rw [fF_cons]
    show Rel _ _ _ (if u = t then _ else fF fr u) _
    by_cases e : u = t
    · subst e
      rw [if_pos rfl, hv]
      exact .ah _ k z 0 0 none _ 0 hk0 (Nat.le_refl _) (fun _ => .inl rfl) (fun h => by omega)
    · rw [if_neg e]
      exact (hF u).mono (fun _ _ h => h) (fun _ _ _ => rfl) _ hle

theorem T.adoptA {c : Code} (t k e z : Nat) (f : Nat → List D) (ht : getD' t fr = .nilS) (hk : look k ow = none) (h : T P X n c ((t, .ah k z 0) :: fr) ((k, .arr e z 0 f) :: ow) Q) : T P X n c fr ow Q :=
  fun a w hr => h a w (hr.adoptA t k e z f ht hk)

def setAll (ts : List Nat) (d : D) (fr : Fr) : Fr :=
  match ts with
  | [] => fr
  | t :: r => (t, d) :: setAll r d fr

theorem setAll_get {ts : List Nat} {d : D} {fr : Fr} {u : Nat} : (u ∈ ts ∧ getD' u (setAll ts d fr) = d) ∨ getD' u (setAll ts d fr) = getD' u fr := by
  induction ts with
  | nil => exact .inr rfl
  | cons t r ih =>
    simp only [setAll, getD']
    cases hb : Nat.beq t u with
    | true =>
      have := Nat.eq_of_beq_eq_true hb
      subst this
      exact .inl ⟨by simp, rfl⟩
    | false =>
      rcases ih with ⟨h1, h2⟩ | h
      · exact .inl ⟨by simp [h1], h2⟩
      · exact .inr h

def allAh (fr : Fr) (k z L : Nat) : List Nat → Prop
  | [] => True
  | t :: r => getD' t fr = .ah k z L ∧ allAh fr k z L r

theorem allAh_mem {fr : Fr} {k z L : Nat} : ∀ {ts : List Nat}, allAh fr k z L ts → ∀ t ∈ ts, getD' t fr = .ah k z L
  | [], _, _, h => by cases h
  | _ :: _, h, t, ht => by
    rcases List.mem_cons.1 ht with e | e
    · subst e; exact h.1
    · exact allAh_mem h.2 t e

/-- A row's elements stay as they are from here on. -/
theorem Rep.freeze {a : Act} {w : World} (ts : List Nat) (k e z L : Nat) (f : Nat → List D) (hk : look k ow = some (.arr e z L f)) (ht : allAh fr k z L ts) (hr : Rep X n (fF fr) (fO ow) a w) : Rep X n (fF (setAll ts (.gs k z L f) fr)) (fO ((k, .row e z L) :: ow)) a w := by
  obtain ⟨S, r, hH, hI, hF, hd, hn, hρ⟩ := hr
  obtain ⟨tv, g1, g2⟩ := hI.obj k _ hk
  let S2 : Cells := fun b o => S b o ∨ (b < w.heap.size ∧ (Loc.row tv L).block = some b ∧ o < L * z)
  have hc : Chg w w S none := ⟨rfl, rfl, rfl, Nat.le_refl _, fun _ _ _ => rfl, fun _ _ _ => rfl⟩
  have hS2 : ∀ b o, S b o → S2 b o := fun _ _ h => .inl h
  refine ⟨S2, r, ?_, ?_, fun u => ?_, hd, hn, hρ⟩
  · refine hH.chg hc (fun b hb => by cases hb) hS2 (fun b o h => ?_)
    rcases h with h | ⟨h1, h2, _⟩
    · exact .inl h
    · exact .inr ⟨hI.low k _ b g1 h2, h1⟩
  · rw [fO_cons]
    refine hI.put hc hS2 (RhoLe.refl r) k _ (.row tv L) ⟨tv, g1, ?_⟩ g1 (fun _ _ => rfl) (fun b hb => .inr ⟨_, g1, hb⟩) (fun b hb => by cases hb) (fun b o h => ?_)
    · rcases g2 with g2 | ⟨g, cap, cur, rfl, q1, q2, q3, q4, q5, q6, q7⟩
      · exact .inl g2
      · refine .inr ⟨g, cap, cur, rfl, q1, q2, q3, q4, fun o ho h => ?_⟩
        rcases h with h | ⟨_, _, h⟩
        · exact q7 o h
        · omega
    · rcases h with h | ⟨_, h, _⟩
      · exact .inl h
      · exact .inr (.inl h)
  · show Rel _ _ _ (getD' u (setAll ts (.gs k z L f) fr)) _
    rcases setAll_get (ts := ts) (d := .gs k z L f) (fr := fr) (u := u) with ⟨hu, e1⟩ | e1
    · rw [e1]
      have h1 := hF u
      rw [show fF fr u = .ah k z L from allAh_mem ht u hu] at h1
      generalize a.tmps.getD u undef = v at h1
      cases h1 with
      | ah _ _ _ _ cap ax tv' L' hk0 hL hta hag =>
        rw [hk0] at g1
        cases g1
        refine .gs _ k z L f _ _ _ ?_ hk0 (Nat.le_refl _) hta
        rcases g2 with ⟨rfl, h0⟩ | ⟨g, cap', cur, rfl, q1, q2, q3, q4, q5, q6, q7⟩
        · subst h0
          rcases hta rfl with e1 | ⟨_, a2, e1⟩
          · cases e1
            exact .sl _ _ _ _ _ _ (fun _ _ => undef) (Nat.le_refl _) (by unfold maxLen; omega) (fun i hi => by omega) (fun i j hi => by omega) (fun i j hi => by omega)
          · cases e1
            exact .sl _ _ _ _ _ _ (fun _ _ => undef) (Nat.le_refl _) (by unfold maxLen; omega) (fun i hi => by omega) (fun i j hi => by omega) (fun i j hi => by omega)
        · rcases hta rfl with e1 | ⟨e1, _⟩
          · cases e1
            have hlt : ∀ i j, i < L → j < z → i * z + j < L * z := fun i j hi hj => by
              have : (i + 1) * z ≤ L * z := Nat.mul_le_mul_right z hi
              rw [Nat.add_mul] at this
              omega
            refine .sl _ _ _ _ _ _ (fun i j => cur.getD (i * z + j) undef) q2 q3 q5 (fun i j hi hj => ⟨g, 0, rfl, .inr ⟨(Array.getElem?_eq_some_iff.1 q1).1, rfl, by rw [Nat.zero_add]; exact hlt i j hi hj⟩, ?_⟩) (fun i j hi hj => (q6 i j hi hj).mono hS2 (fun _ _ _ => rfl) noRho (RhoLe.refl _))
            rw [Nat.zero_add, cell_of_row w g _ cur e (0, 0) q1]
            have : L * z ≤ cap * z := Nat.mul_le_mul_right z q2
            have := hlt i j hi hj
            have : i * z + j < cur.size := by omega
            simp [Array.getD_eq_getD_getElem?, this]
          · cases e1
    · rw [e1]
      exact (hF u).mono hS2 (fun _ _ _ => rfl) r (RhoLe.refl r)

theorem T.freeze {c : Code} (ts : List Nat) (k e z L : Nat) (f : Nat → List D) (hk : look k ow = some (.arr e z L f)) (ht : allAh fr k z L ts) (h : T P X n c (setAll ts (.gs k z L f) fr) ((k, .row e z L) :: ow) Q) : T P X n c fr ow Q :=
  fun a w hr => h a w (hr.freeze ts k e z L f hk ht)

/-- A row that is handed back, read as a slice. -/
theorem CtrO.shut {f : FuncId} {args : List D} {k z L : Nat} {e : TypeId} {g : Nat → List D} (h : CtrO P f args [] (.ah k z L) [(k, .arr e z L g)]) : Ctr P f args (.sl z L g) := by
  intro w S vs hv hgl hn hr
  refine (h ⟨w, S, fun _ => False, noRho, []⟩ vs rfl ⟨rfl, rfl, rfl, Nat.le_refl _, fun _ _ _ => rfl, fun _ _ h => h, fun _ _ _ => rfl, fun _ _ h => .inl h, hv, hgl⟩ (inv_none _ _ _) hn hr).mono ?_
  rintro e' w' ⟨v, S', r', rfl, h1, h2, h3, _⟩
  obtain ⟨tv, g1, g2⟩ := h3.obj k (.arr e z L g) (by show look k [(k, _)] = _; simp [look])
  cases h1 with
  | ah _ _ _ _ cap ax tv' L' hk0 hL hta hag =>
    rw [hk0] at g1
    cases g1
    let S2 : Cells := fun b o => S' b o ∨ (b < w'.heap.size ∧ (Loc.row tv L).block = some b ∧ o < L * z)
    have hS2 : ∀ b o, S' b o → S2 b o := fun _ _ h => .inl h
    refine ⟨_, S2, rfl, ?_, h2.os, h2.tape, h2.output, h2.size, h2.block, fun b o hb => .inl (h2.sub b o hb), h2.cell, fun b o hb => ?_, fun b o hb => ?_, h2.glob.mono hS2 (fun _ _ _ => rfl)⟩
    · rcases g2 with ⟨rfl, h0⟩ | ⟨gg, cap', cur, rfl, q1, q2, q3, q4, q5, q6, q7⟩
      · subst h0
        rcases hta rfl with e1 | ⟨_, a2, e1⟩
        · cases e1
          exact .sl _ _ _ _ _ _ (fun _ _ => undef) (Nat.le_refl _) (by unfold maxLen; omega) (fun i hi => by omega) (fun i j hi => by omega) (fun i j hi => by omega)
        · cases e1
          exact .sl _ _ _ _ _ _ (fun _ _ => undef) (Nat.le_refl _) (by unfold maxLen; omega) (fun i hi => by omega) (fun i j hi => by omega) (fun i j hi => by omega)
      · rcases hta rfl with e1 | ⟨e1, _⟩
        · cases e1
          have hlt : ∀ i j, i < L → j < z → i * z + j < L * z := fun i j hi hj => by
            have : (i + 1) * z ≤ L * z := Nat.mul_le_mul_right z hi
            rw [Nat.add_mul] at this
            omega
          refine .sl _ _ _ _ _ _ (fun i j => cur.getD (i * z + j) undef) q2 q3 q5 (fun i j hi hj => ⟨gg, 0, rfl, .inr ⟨(Array.getElem?_eq_some_iff.1 q1).1, rfl, by rw [Nat.zero_add]; exact hlt i j hi hj⟩, ?_⟩) (fun i j hi hj => (q6 i j hi hj).mono hS2 (fun _ _ _ => rfl) noRho (RhoLe.refl _))
          rw [Nat.zero_add, cell_of_row w' gg _ cur e (0, 0) q1]
          have : L * z ≤ cap * z := Nat.mul_le_mul_right z q2
          have := hlt i j hi hj
          have : i * z + j < cur.size := by omega
          simp [Array.getD_eq_getD_getElem?, this]
        · cases e1
    · rcases hb with hb | ⟨_, hb, _⟩
      · exact h2.new b o hb
      · rcases h3.low k _ b hk0 hb with h | h
        · exact .inr (.inl h)
        · exact h.elim
    · rcases hb with hb | ⟨hb, _⟩
      · exact h2.valid b o hb
      · exact hb

/-- A state that is told anew: rows frozen, nil slices taken for rows. -/
inductive Frz : Fr → Ow → Fr → Ow → Prop
  | refl (fr : Fr) (ow : Ow) : Frz fr ow fr ow
  | freeze (fr : Fr) (ow : Ow) (fr' : Fr) (ow' : Ow) (ts : List Nat) (k e z L : Nat) (f : Nat → List D) (hk : look k ow = some (.arr e z L f)) (ht : allAh fr k z L ts) (h : Frz (setAll ts (.gs k z L f) fr) ((k, .row e z L) :: ow) fr' ow') : Frz fr ow fr' ow'
  | adopt (fr : Fr) (ow : Ow) (fr' : Fr) (ow' : Ow) (t k e z : Nat) (f : Nat → List D) (ht : getD' t fr = .nilS) (hk : look k ow = none) (h : Frz ((t, .ah k z 0) :: fr) ((k, .arr e z 0 f) :: ow) fr' ow') : Frz fr ow fr' ow'

theorem Rep.frz {a : Act} {w : World} {fr fr' : Fr} {ow ow' : Ow} (h : Frz fr ow fr' ow') : Rep X n (fF fr) (fO ow) a w → Rep X n (fF fr') (fO ow') a w := by
  induction h with
  | refl => exact id
  | freeze fr ow fr' ow' ts k e z L f hk ht h ih => exact fun hr => ih (hr.freeze ts k e z L f hk ht)
  | adopt fr ow fr' ow' t k e z f ht hk h ih => exact fun hr => ih (hr.adoptA t k e z f ht hk)

/-! ### Results -/
def resDs (B : Tb) (fr : Fr) (ow : Ow) : List ResultVar → Option (List D)
  | [] => some []
  | .tmp t :: r => match resDs B fr ow r with
    | some ds => fz (getD' t fr).shut fun d => some (d :: ds)
    | none => none
  | .cell a t :: r => match getD' a fr with
    | .pv k off => match look k ow, B.sz t, resDs B fr ow r with
      | some (.var cs), some z, some ds => match z.2 with
        | true => match Nat.beq off 0 && Nat.beq z.1 cs.length with
          | true => fz (.ag (cs.map D.shut)) fun d => some (d :: ds)
          | false => none
        | false => match Nat.blt off cs.length with
          | true => fz (cs.getD off .any).shut fun d => some (d :: ds)
          | false => none
      | _, _, _ => none
    | _ => none

def resD (B : Tb) (fr : Fr) (ow : Ow) (rs : List ResultVar) : Option D :=
  match resDs B fr ow rs with
  | some [d] => some d
  | some ds => some (.tu ds)
  | none => none

theorem rel_shuts {S : Cells} {w : World} {r : Rho} {cs : List D} {vs : Array Value} (h : ∀ j, j < cs.length → Rel S w r (cs.getD j .any) (vs.getD j undef)) :
    ∀ j, j < (cs.map D.shut).length → Rel S w r ((cs.map D.shut).getD j .any) (vs.getD j undef) := by
  intro j hj
  have hj' : j < cs.length := by simpa using hj
  have e : (cs.map D.shut).getD j .any = (cs.getD j .any).shut := by simp [List.getD_eq_getElem?_getD, hj']
  rw [e]
  exact (h j hj').shut

def resF (tmps : Array Value) : ResultVar → Sem Value
  | .tmp t => pure (tmps.getD t undef)
  | .cell x t => do loadVar t (← asAddr (tmps.getD x undef))

theorem results_eq (fn : Func) (tmps : Array Value) : results fn tmps = (do
    let vs ← fn.results.mapM (resF tmps)
    pure (if h : vs.size = 1 then vs[0] else .tuple vs)) := rfl

theorem results_list {a : Act} {w : World} {S : Cells} {r : Rho} (hI : Inv X w S r (fO ow)) (hF : ∀ t, Rel S w r (fF fr t) (a.tmps.getD t undef)) :
    ∀ {rs : List ResultVar} {ds : List D}, resDs (tb P) fr ow rs = some ds →
      ∃ vs : List Value, (rs.mapM (resF a.tmps)).run P w = .ok vs w ∧ vs.length = ds.length ∧ ∀ j, j < ds.length → Rel S w r (ds.getD j .any) (vs.getD j undef)
  | [], ds, h => by
    cases h
    exact ⟨[], rfl, rfl, fun j hj => by simp at hj⟩
  | .tmp t :: rs, ds, h => by
    simp only [resDs, fz_eq] at h
    split at h <;> first | (cases h; done) | skip
    rename_i ds' hds
    cases h
    obtain ⟨vs, h1, h2, h3⟩ := results_list hI hF hds
    refine ⟨a.tmps.getD t undef :: vs, ?_, by simp [h2], fun j hj => ?_⟩
    · have h0 : (resF a.tmps (.tmp t)).run P w = .ok (a.tmps.getD t undef) w := rfl
      rw [List.mapM_cons]
      simp only [Sem.run_bind, h0, h1, Result.andThen_ok, Sem.run_pure]
    · cases j with
      | zero => exact (hF t).shut
      | succ j => simpa using h3 j (by simpa using hj)
  | .cell x t :: rs, ds, h => by
    simp only [resDs, fz_eq] at h
    split at h <;> first | (cases h; done) | skip
    rename_i k off hx
    split at h <;> first | (cases h; done) | skip
    rename_i cs z ds' hk hz hds
    obtain ⟨vs, h1, h2, h3⟩ := results_list hI hF hds
    have hv := hF x
    rw [show fF fr x = .pv k off from hx] at hv
    generalize hav : a.tmps.getD x undef = av at hv
    cases hv with
    | pv _ _ _ b hb =>
      obtain ⟨b', cur, e', g1, g2, g3, g4, g5⟩ := hI.obj k _ hk
      rw [hb] at g1
      cases g1
      have hcell : ∀ j, j < cs.length → w.cell? ⟨b, 0 + j, none⟩ = some (cur.getD j undef) := fun j hj => by
        rw [Nat.zero_add, cell_of_row w b j cur e' (0, 0) g2]
        have : j < cur.size := by omega
        simp [Array.getD_eq_getD_getElem?, this]
      have fin : ∀ (u : Value) (d : D), (Instr.loadAt t (.pointer (some ⟨b, off, none⟩))).run P w = .ok u w → Rel S w r d u → ds = d :: ds' →
          ∃ vs : List Value, ((ResultVar.cell x t :: rs).mapM (resF a.tmps)).run P w = .ok vs w ∧ vs.length = ds.length ∧ ∀ j, j < ds.length → Rel S w r (ds.getD j .any) (vs.getD j undef) := by
        intro u d hu hd he
        subst he
        refine ⟨u :: vs, ?_, by simp [h2], fun j hj => ?_⟩
        · simp only [Instr.loadAt, Instr.sureAddr, Sem.run_bind, Sem.run_pure, Result.andThen_ok] at hu
          have h0 : (resF a.tmps (.cell x t)).run P w = .ok u w := by
            simp only [resF, hav, asAddr, Sem.run_bind, Sem.run_pure, Result.andThen_ok]
            exact hu
          rw [List.mapM_cons]
          simp only [Sem.run_bind, h0, h1, Result.andThen_ok, Sem.run_pure]
        · cases j with
          | zero => simpa using hd
          | succ j => simpa using h3 j (by simpa using hj)
      split at h
      · rename_i hz2
        split at h <;> first | (cases h; done) | skip
        rename_i hb2
        cases h
        simp only [Bool.and_eq_true] at hb2
        have e0 := Nat.eq_of_beq_eq_true hb2.1
        have e1 := Nat.eq_of_beq_eq_true hb2.2
        subst e0
        obtain ⟨u, q1, q2⟩ := run_load_part (P := P) (o := 0) (b := b) (off := 0) hz (by simp only [partP, hz2]; omega) hcell (fun j hj => (g4 j hj).1)
        have e3 : partD z cs 0 = .ag cs := by
          simp only [partD, hz2]
          rw [e1]
          simp
        rw [e3] at q2
        refine fin u _ (by simpa using q1) ?_ rfl
        cases q2 with
        | ag _ _ us hn hus => exact .ag _ _ us (by simpa using hn) (rel_shuts hus)
      · rename_i hz2
        split at h <;> first | (cases h; done) | skip
        rename_i hb2
        cases h
        have hlt : off < cs.length := by simpa using hb2
        obtain ⟨u, q1, q2⟩ := run_load_part (P := P) (o := 0) (b := b) (off := off) hz (by simp only [partP, hz2]; omega) hcell (fun j hj => (g4 j hj).1)
        have e3 : partD z cs off = cs.getD off .any := by simp only [partD, hz2]
        rw [e3] at q2
        exact fin u _ (by simpa using q1) q2.shut rfl

theorem results_ok {fn : Func} {a : Act} {w : World} {S : Cells} {r : Rho} {d : D} {rs : List ResultVar} (hrs : fn.results = ⟨rs⟩) (hI : Inv X w S r (fO ow)) (hF : ∀ t, Rel S w r (fF fr t) (a.tmps.getD t undef)) (h : resD (tb P) fr ow rs = some d) :
    ∃ v, (results fn a.tmps).run P w = .ok v w ∧ Rel S w r d v := by
  unfold resD at h
  cases hds : resDs (tb P) fr ow rs with
  | none => rw [hds] at h; cases h
  | some ds =>
    rw [hds] at h
    obtain ⟨vs, h1, h2, h3⟩ := results_list (P := P) hI hF hds
    have hm : (fn.results.mapM (resF a.tmps)).run P w = .ok vs.toArray w := by
      rw [hrs, Array.mapM_eq_mapM_toList]
      simp only [Sem.run_map, h1, Result.andThen_ok]
    match ds, h, h2, h3 with
    | [e], h, h2, h3 =>
      cases h
      obtain ⟨v, rfl⟩ : ∃ v, vs = [v] := by
        match vs, h2 with
        | [v], _ => exact ⟨v, rfl⟩
      refine ⟨v, ?_, by simpa using h3 0 (by simp)⟩
      simp only [results_eq, Sem.run_bind, hm, Result.andThen_ok, Sem.run_pure]
      rfl
    | [], h, h2, h3 =>
      cases h
      have : vs = [] := List.eq_nil_of_length_eq_zero (by simpa using h2)
      subst this
      exact ⟨.tuple #[], by simp only [results_eq, Sem.run_bind, hm, Result.andThen_ok, Sem.run_pure]; rfl, .tu _ _ _ rfl (fun j hj => by simp at hj)⟩
    | e1 :: e2 :: es, h, h2, h3 =>
      cases h
      refine ⟨.tuple vs.toArray, ?_, .tu _ _ _ (by simpa using h2) (fun j hj => ?_)⟩
      · have hne : vs.length ≠ 1 := by rw [h2]; simp
        simp only [results_eq, Sem.run_bind, hm, Result.andThen_ok, Sem.run_pure]
        rw [dif_neg (by simpa using hne)]
      · rw [getD_arr]
        exact h3 j hj

def slots : Nat → List D → Fr
  | _, [] => []
  | i, d :: r => (i, d) :: slots (i + 1) r

theorem slots_get : ∀ {ds : List D} {i t : Nat}, getD' t (slots i ds) = if i ≤ t then ds.getD (t - i) .any else .any
  | [], i, t => by simp [slots, getD']
  | d :: r, i, t => by
    simp only [slots, getD']
    cases hb : Nat.beq i t with
    | true =>
      have := Nat.eq_of_beq_eq_true hb
      subst this
      simp
    | false =>
      have hne : i ≠ t := fun e => by subst e; rw [Nat.beq_refl] at hb; cases hb
      rw [slots_get]
      by_cases h : i + 1 ≤ t
      · rw [if_pos h, if_pos (by omega)]
        have : t - i = (t - (i + 1)) + 1 := by omega
        rw [this]
        simp
      · rw [if_neg h, if_neg (by omega)]

/-- FROM A BODY TO A CONTRACT. -/
theorem CtrO.of_T {f : FuncId} {fn : Func} {c : Code} {N : Nat} {rs : List ResultVar} {args : List D} {d : D} (hf : P.funcs[f]? = some fn) (hb : fn.body = some c) (hN : fn.ntmps = N) (hrs : fn.results = ⟨rs⟩) (hlen : args.length ≤ N)
    (h : ∀ X : Ctx, Lent X → X.ids = ow.map (·.1) → T P X N c (slots 0 args) ow (fun e fr2 ow2 => (e = .ret ∨ e = .normal) ∧ ∃ d2, resD (tb P) fr2 ow2 rs = some d2 ∧ Weak d2 d ∧ d.okIn (ow'.map (·.1)) = true ∧ Le X fr2 ow2 [] ow')) :
    CtrO P f args ow d ow' := by
  intro X vs hids hH hI hsz hrel
  have hL : Lent X := fun k hk => by
    rw [hids]
    cases hmem : look k ow with
    | none => exact absurd (hI.dom k hmem) hk
    | some o =>
      by_cases hm : k ∈ ow.map (·.1)
      · exact hm
      · rw [look_none hm] at hmem; cases hmem
  refine calls_of_wp hf hb ?_
  have hrep : Rep X N (fF (slots 0 args)) (fO ow) { tmps := vs ++ Array.replicate (fn.ntmps - vs.size) undef, defers := [] } X.w0 := by
    refine ⟨X.S0, X.r0, hH, hI, fun t => ?_, rfl, by simp; omega, RhoLe.refl _⟩
    show Rel _ _ _ (getD' t (slots 0 args)) _
    rw [slots_get]
    simp only [Nat.zero_le, if_true, Nat.sub_zero]
    by_cases ht : t < args.length
    · have := hrel t ht
      rw [Array.getD_eq_getD_getElem?, Array.getElem?_append_left (by omega), ← Array.getD_eq_getD_getElem?]
      exact this
    · rw [List.getD_eq_getElem?_getD, List.getElem?_eq_none (by omega)]
      exact .any ..
  refine wp_mono (h X hL hids _ _ hrep) fun e a w ⟨fr2, ow2, ⟨he, d2, h1, h2, h3, h4⟩, hrep2⟩ => ?_
  obtain ⟨S, r, hH2, hI2, hF2, hd2, _, hρ2⟩ := hrep2
  obtain ⟨v, hv, hvr⟩ := results_ok (P := P) hrs hI2 hF2 h1
  have hok := h4.ok
  simp only [okAll, Bool.and_eq_true] at hok
  have hfin : ∃ v' S' r', Ending.returned v = .returned v' ∧ Rel S' w r' d v' ∧ Hist X w S' ∧ Inv X w S' r' (fO ow') ∧ RhoLe X.r0 r' := by
    refine ⟨v, S, keepR r (ow'.map (·.1)), rfl, ?_, hH2, hI2.keep h4.ow hok.2, fun k l hk => ?_⟩
    · exact (hvr.weak h2).okIn h3
    · obtain ⟨l', g1, g2⟩ := hρ2 k l hk
      have : k ∈ ow'.map (·.1) := h4.ids k (hL k (by rw [hk]; simp))
      exact ⟨l', by simp only [keepR]; rw [if_pos this]; exact g1, g2⟩
  rcases he with rfl | rfl
  · exact ⟨hd2, v, hv, hfin⟩
  · exact ⟨hd2, v, hv, hfin⟩

end
end Go.Proofs.YtghdgjabpdfaoaaDoor.Flow

/-
  FLOW: THIS SEAT's TYPE TABLES, printed by a program of the bench out of the translation, and proved to be the program's.
-/
namespace Go.Proofs.YtghdgjabpdfaoaaDoor.Flow

def tyL : List (List (Ty)) := [
  [.other, .other, .int .i64, .int .i64, .bool, .int .u8, .int .u8, .struct [(0, 1, false), (1, 1, false), (2, 1, false), (3, 1, false)], .struct [(0, 1, false), (1, 1, false), (2, 1, false), (3, 1, false)], .str, .str, .str],
  [.int .u64, .struct [(0, 1, false), (1, 1, false)], .struct [(0, 1, false), (1, 1, false)], .ptr 124, .ptr 127, .ptr 136, .struct [(0, 1, false)], .struct [(0, 1, false)], .other, .int .i32, .slice 5 1 false 1, .other],
  [.struct [(0, 1, false), (1, 1, false), (2, 1, false)], .struct [(0, 1, false), (1, 1, false), (2, 1, false)], .other, .other, .other, .other, .other, .other, .other, .other, .slice 9 1 false 16, .struct [(0, 1, false), (1, 1, false), (2, 1, false), (3, 1, false), (4, 1, false)]],
  [.struct [(0, 1, false), (1, 1, false), (2, 1, false), (3, 1, false), (4, 1, false)], .other, .other, .other, .other, .other, .other, .other, .other, .other, .other, .int .u32],
  [.other, .slice 3 1 false 8, .other, .other, .other, .other, .other, .other, .other, .other, .other, .other],
  [.other, .other, .other, .other, .other, .array 256 47 1 false, .other, .other, .other, .struct [(0, 1, false), (1, 1, false), (2, 1, false)], .struct [(0, 1, false), (1, 1, false), (2, 1, false)], .other],
  [.other, .other, .other, .other, .other, .other, .other, .other, .other, .int .u64, .other, .other],
  [.other, .other, .other, .other, .array 256 4 1 false, .array 256 4 1 false, .other, .other, .other, .ptr 89, .other, .other],
  [.other, .other, .array 24 5 1 false, .int .u64, .other, .other, .other, .other, .other, .other, .other, .other],
  [.other, .array 20 99 1 false, .array 65 5 1 false, .other, .other, .other, .other, .array 256 5 1 false, .struct [(0, 1, false), (1, 1, false)], .struct [(0, 1, false), (1, 1, false)], .array 16 117 2 true, .other],
  [.array 32 5 1 false, .array 64 5 1 false, .other, .struct [(0, 1, false), (1, 1, false), (2, 1, false), (3, 1, false)], .struct [(0, 1, false), (1, 1, false), (2, 1, false), (3, 1, false)], .array 0 16 1 false, .struct [(0, 0, true)], .struct [(0, 0, true)], .other, .int .u8, .int .u8, .other],
  [.ptr 5, .int .i32, .int .i32, .struct [(0, 1, false), (1, 1, false), (2, 1, false), (3, 1, false), (4, 1, false), (5, 1, false), (6, 1, false), (7, 1, false), (8, 1, false), (9, 1, false), (10, 1, false)], .struct [(0, 1, false), (1, 1, false), (2, 1, false), (3, 1, false), (4, 1, false), (5, 1, false), (6, 1, false), (7, 1, false), (8, 1, false), (9, 1, false), (10, 1, false)], .other, .other, .other, .other, .other, .other, .other]]
def szL : List (List (Option (Nat × Bool))) := [
  [some (1, false), some (1, false), some (1, false), some (1, false), some (1, false), some (1, false), some (1, false), some (4, true), some (4, true), some (1, false), some (1, false), some (1, false)],
  [some (1, false), some (2, true), some (2, true), some (1, false), some (1, false), some (1, false), some (1, true), some (1, true), some (1, false), some (1, false), some (1, false), some (1, false)],
  [some (3, true), some (3, true), some (1, false), some (1, false), some (1, false), some (1, false), some (1, false), some (1, false), some (1, false), some (1, false), some (1, false), some (5, true)],
  [some (5, true), some (1, false), some (1, false), some (1, false), some (1, false), some (1, false), some (1, false), some (1, false), some (1, false), some (1, false), some (1, false), some (1, false)],
  [some (1, false), some (1, false), some (1, false), some (1, false), some (1, false), some (1, false), some (1, false), some (1, false), some (1, false), some (1, false), some (1, false), some (1, false)],
  [some (1, false), some (1, false), some (1, false), some (1, false), some (1, false), some (256, true), some (1, false), some (1, false), some (1, false), some (3, true), some (3, true), some (1, false)],
  [some (1, false), some (1, false), some (1, false), some (1, false), some (1, false), some (1, false), some (1, false), some (1, false), some (1, false), some (1, false), some (1, false), some (1, false)],
  [some (1, false), some (1, false), some (1, false), some (1, false), some (256, true), some (256, true), some (1, false), some (1, false), some (1, false), some (1, false), some (1, false), some (1, false)],
  [some (1, false), some (1, false), some (24, true), some (1, false), some (1, false), some (1, false), some (1, false), some (1, false), some (1, false), some (1, false), some (1, false), some (1, false)],
  [some (1, false), some (20, true), some (65, true), some (1, false), some (1, false), some (1, false), some (1, false), some (256, true), some (2, true), some (2, true), some (32, true), some (1, false)],
  [some (32, true), some (64, true), some (1, false), some (4, true), some (4, true), some (0, true), some (0, true), some (0, true), some (1, false), some (1, false), some (1, false), some (1, false)],
  [some (1, false), some (1, false), some (1, false), some (11, true), some (11, true), some (1, false), none, none, none, none, none, none]]
def eqL : List (List (Option (List (Nat × Nat)))) := [
  [none, none, none, none, none, none, none, some [(0, 0), (1, 0), (2, 1), (3, 0)], some [(0, 0), (1, 0), (2, 1), (3, 0)], none, none, none],
  [none, none, none, none, none, none, none, none, none, none, none, none],
  [some [(0, 0), (1, 0), (2, 0)], some [(0, 0), (1, 0), (2, 0)], none, none, none, none, none, none, none, none, none, none],
  [none, none, none, none, none, none, none, none, none, none, none, none],
  [none, none, none, none, none, none, none, none, none, none, none, none],
  [none, none, none, none, none, none, none, none, none, some [(0, 1), (1, 2), (2, 0)], some [(0, 1), (1, 2), (2, 0)], none],
  [none, none, none, none, none, none, none, none, none, none, none, none],
  [none, none, none, none, none, none, none, none, none, none, none, none],
  [none, none, none, none, none, none, none, none, none, none, none, none],
  [none, none, none, none, none, none, none, none, some [(0, 0), (1, 0)], some [(0, 0), (1, 0)], none, none],
  [none, none, none, none, none, none, none, none, none, none, none, none],
  [none, none, none, none, none, none, none, none, none, none, none, none]]
def zrL : List (List (Option D)) := [
  [some (.any), some (.v (.nilFunc)), some (.i .i64 0), some (.i .i64 0), some (.b false), some (.i .u8 0), some (.i .u8 0), some (.ag [.i .i64 0, .i .i64 0, .b false, .i .u8 0]), some (.ag [.i .i64 0, .i .i64 0, .b false, .i .u8 0]), some (.s []), some (.s []), some (.s [])],
  [some (.i .u64 0), some (.ag [.s [], .i .u64 0]), some (.ag [.s [], .i .u64 0]), some (.v (.pointer none)), some (.v (.pointer none)), some (.v (.pointer none)), some (.ag [.v (.pointer none)]), some (.ag [.v (.pointer none)]), some (.v (.nilIface)), some (.i .i32 0), some (.nilS), some (.v (.nilFunc))],
  [some (.ag [.i .i64 0, .i .i64 0, .i .i64 0]), some (.ag [.i .i64 0, .i .i64 0, .i .i64 0]), some (.any), some (.v (.nilFunc)), some (.v (.nilFunc)), some (.v (.nilFunc)), some (.v (.nilFunc)), some (.any), some (.v (.nilFunc)), some (.v (.nilFunc)), some (.nilS), some (.ag [.s [], .s [], .b false, .b false, .nilS])],
  [some (.ag [.s [], .s [], .b false, .b false, .nilS]), some (.any), some (.v (.nilFunc)), some (.v (.nilFunc)), some (.v (.nilFunc)), some (.v (.nilFunc)), some (.v (.nilFunc)), some (.any), some (.v (.nilFunc)), some (.v (.nilFunc)), some (.v (.nilFunc)), some (.i .u32 0)],
  [some (.v (.nilFunc)), some (.nilS), some (.v (.nilFunc)), some (.v (.nilFunc)), some (.v (.nilFunc)), some (.any), some (.v (.nilFunc)), some (.any), some (.v (.nilFunc)), some (.v (.map none)), some (.v (.map none)), some (.v (.nilFunc))],
  [some (.v (.nilFunc)), some (.v (.nilFunc)), some (.v (.nilFunc)), some (.v (.nilFunc)), some (.v (.nilFunc)), some (.ag (List.replicate 256 (.i .u32 0))), some (.v (.nilFunc)), some (.v (.nilFunc)), some (.v (.nilFunc)), some (.ag [.b false, .s [], .i .i64 0]), some (.ag [.b false, .s [], .i .i64 0]), some (.v (.nilFunc))],
  [some (.v (.map none)), some (.any), some (.v (.nilFunc)), some (.v (.nilFunc)), some (.v (.nilFunc)), some (.v (.nilFunc)), some (.v (.nilFunc)), some (.v (.nilFunc)), some (.v (.nilFunc)), some (.i .u64 0), some (.v (.nilFunc)), some (.v (.nilFunc))],
  [some (.v (.nilFunc)), some (.any), some (.v (.nilFunc)), some (.v (.nilFunc)), some (.ag (List.replicate 256 (.b false))), some (.ag (List.replicate 256 (.b false))), some (.any), some (.v (.nilFunc)), some (.v (.nilFunc)), some (.v (.pointer none)), some (.v (.nilFunc)), some (.v (.nilFunc))],
  [some (.any), some (.v (.nilFunc)), some (.ag [.i .u8 0, .i .u8 0, .i .u8 0, .i .u8 0, .i .u8 0, .i .u8 0, .i .u8 0, .i .u8 0, .i .u8 0, .i .u8 0, .i .u8 0, .i .u8 0, .i .u8 0, .i .u8 0, .i .u8 0, .i .u8 0, .i .u8 0, .i .u8 0, .i .u8 0, .i .u8 0, .i .u8 0, .i .u8 0, .i .u8 0, .i .u8 0]), some (.i .u64 0), some (.v (.nilFunc)), some (.v (.nilFunc)), some (.any), some (.v (.nilFunc)), some (.v (.nilFunc)), some (.v (.nilFunc)), some (.v (.nilFunc)), some (.v (.nilFunc))],
  [some (.v (.nilFunc)), some (.ag [.i .u64 0, .i .u64 0, .i .u64 0, .i .u64 0, .i .u64 0, .i .u64 0, .i .u64 0, .i .u64 0, .i .u64 0, .i .u64 0, .i .u64 0, .i .u64 0, .i .u64 0, .i .u64 0, .i .u64 0, .i .u64 0, .i .u64 0, .i .u64 0, .i .u64 0, .i .u64 0]), some (.ag (List.replicate 65 (.i .u8 0))), some (.v (.nilFunc)), some (.v (.nilFunc)), some (.any), some (.v (.nilFunc)), some (.ag (List.replicate 256 (.i .u8 0))), some (.ag [.i .u8 0, .i .u8 0]), some (.ag [.i .u8 0, .i .u8 0]), some (.ag [.i .u8 0, .i .u8 0, .i .u8 0, .i .u8 0, .i .u8 0, .i .u8 0, .i .u8 0, .i .u8 0, .i .u8 0, .i .u8 0, .i .u8 0, .i .u8 0, .i .u8 0, .i .u8 0, .i .u8 0, .i .u8 0, .i .u8 0, .i .u8 0, .i .u8 0, .i .u8 0, .i .u8 0, .i .u8 0, .i .u8 0, .i .u8 0, .i .u8 0, .i .u8 0, .i .u8 0, .i .u8 0, .i .u8 0, .i .u8 0, .i .u8 0, .i .u8 0]), some (.v (.nilFunc))],
  [some (.ag [.i .u8 0, .i .u8 0, .i .u8 0, .i .u8 0, .i .u8 0, .i .u8 0, .i .u8 0, .i .u8 0, .i .u8 0, .i .u8 0, .i .u8 0, .i .u8 0, .i .u8 0, .i .u8 0, .i .u8 0, .i .u8 0, .i .u8 0, .i .u8 0, .i .u8 0, .i .u8 0, .i .u8 0, .i .u8 0, .i .u8 0, .i .u8 0, .i .u8 0, .i .u8 0, .i .u8 0, .i .u8 0, .i .u8 0, .i .u8 0, .i .u8 0, .i .u8 0]), some (.ag [.i .u8 0, .i .u8 0, .i .u8 0, .i .u8 0, .i .u8 0, .i .u8 0, .i .u8 0, .i .u8 0, .i .u8 0, .i .u8 0, .i .u8 0, .i .u8 0, .i .u8 0, .i .u8 0, .i .u8 0, .i .u8 0, .i .u8 0, .i .u8 0, .i .u8 0, .i .u8 0, .i .u8 0, .i .u8 0, .i .u8 0, .i .u8 0, .i .u8 0, .i .u8 0, .i .u8 0, .i .u8 0, .i .u8 0, .i .u8 0, .i .u8 0, .i .u8 0, .i .u8 0, .i .u8 0, .i .u8 0, .i .u8 0, .i .u8 0, .i .u8 0, .i .u8 0, .i .u8 0, .i .u8 0, .i .u8 0, .i .u8 0, .i .u8 0, .i .u8 0, .i .u8 0, .i .u8 0, .i .u8 0, .i .u8 0, .i .u8 0, .i .u8 0, .i .u8 0, .i .u8 0, .i .u8 0, .i .u8 0, .i .u8 0, .i .u8 0, .i .u8 0, .i .u8 0, .i .u8 0, .i .u8 0, .i .u8 0, .i .u8 0, .i .u8 0]), some (.v (.nilFunc)), some (.ag [.v (.pointer none), .v (.pointer none), .v (.pointer none), .s []]), some (.ag [.v (.pointer none), .v (.pointer none), .v (.pointer none), .s []]), some (.ag []), some (.ag []), some (.ag []), some (.v (.nilFunc)), some (.i .u8 0), some (.i .u8 0), some (.v (.nilFunc))],
  [some (.v (.pointer none)), some (.i .i32 0), some (.i .i32 0), some (.ag [.i .u64 0, .i .u64 0, .i .u32 0, .i .u8 0, .i .u8 0, .i .u8 0, .i .u8 0, .v (.nilFunc), .v (.pointer none), .i .i32 0, .i .i32 0]), some (.ag [.i .u64 0, .i .u64 0, .i .u32 0, .i .u8 0, .i .u8 0, .i .u8 0, .i .u8 0, .v (.nilFunc), .v (.pointer none), .i .i32 0, .i .i32 0]), some (.v (.pointer none)), none, none, none, none, none, none]]

def B : Tb := ⟨at2 .other tyL, at2 none szL, at2 none zrL, at2 none eqL⟩

theorem size_le : Tryd.prog.types.size ≤ 144 := le_of_eq_of_le (by kernel_rfl : Tryd.prog.types.size = 138) (by omega)
theorem ty_eq : tyOf Tryd.prog = at2 .other tyL := table_eq (N := 144) (by kernel_rfl) (by kernel_rfl) fun _ ht => tyOf_ge (Nat.le_trans size_le ht)
theorem sz_eq : szOf Tryd.prog = at2 none szL := table_eq (N := 144) (by kernel_rfl) (by kernel_rfl) fun _ ht => szOf_ge (Nat.le_trans size_le ht)
theorem zr_eq : zeroD Tryd.prog = at2 none zrL := table_eq (N := 144) (by kernel_rfl) (by kernel_rfl) fun _ ht => zeroD_ge (Nat.le_trans size_le ht)
theorem eq_eq : eqOf Tryd.prog = at2 none eqL := table_eq (N := 144) (by kernel_rfl) (by kernel_rfl) fun _ ht => eqOf_ge (Nat.le_trans size_le ht)
theorem tb_eq : tb Tryd.prog = B := by unfold tb B; rw [ty_eq, sz_eq, zr_eq, eq_eq]
theorem mixed : Tryd.prog.follows .mixedOrders = true := by kernel_rfl

end Go.Proofs.YtghdgjabpdfaoaaDoor.Flow

/-
  FLOW, PART N: THE RULES AT THIS SEAT's PROGRAM AND TABLES.
-/
namespace Go.Proofs.YtghdgjabpdfaoaaDoor.Flow

section
variable {X : Ctx} {n : Nat} {all rest : List Oper} {fr : Fr} {ow : Ow} {tr : List (List Nat × List Nat)} {K : Fr → Ow → List (List Nat × List Nat) → Prop} {Q : Exit → Fr → Ow → Prop}
variable {t : Nat} {op : Op} {ty : TypeId} {pos : String} {af : Array Edge} {d : D} {p : Prop} {rd : List Nat} {k : Nat} {ob : Own} {g u : Nat} {want : Bool}

theorem r_val (hs : step B (ev fr) (fun k => look k ow) ⟨some t, op, ty, pos, af, none⟩ = some ⟨d, p, rd, []⟩) (hn : Nat.blt t n = true) (hp : p) (h : CT Tryd.prog X n all rest ((t, d) :: fr) ow (tr ++ [(rd, [])]) K) :
    CT Tryd.prog X n all (⟨some t, op, ty, pos, af, none⟩ :: rest) fr ow tr K := CT.val (by rw [tb_eq]; exact hs) (by simpa using hn) hp h
theorem r_obj (hs : step B (ev fr) (fun k => look k ow) ⟨some t, op, ty, pos, af, none⟩ = some ⟨d, p, rd, [(k, ob)]⟩) (hn : Nat.blt t n = true) (hp : p) (h : CT Tryd.prog X n all rest ((t, d) :: fr) ((k, ob) :: ow) (tr ++ [(rd, [k])]) K) :
    CT Tryd.prog X n all (⟨some t, op, ty, pos, af, none⟩ :: rest) fr ow tr K := CT.obj (by rw [tb_eq]; exact hs) (by simpa using hn) hp h
theorem r_arr (hs : stepK true B (ev fr) (fun k => look k ow) ⟨some t, op, ty, pos, af, none⟩ = some ⟨d, p, rd, [(k, ob)]⟩) (hn : Nat.blt t n = true) (hp : p) (h : CT Tryd.prog X n all rest ((t, d) :: fr) ((k, ob) :: ow) (tr ++ [(rd, [k])]) K) :
    CT Tryd.prog X n all (⟨some t, op, ty, pos, af, none⟩ :: rest) fr ow tr K := CT.arr (by rw [tb_eq]; exact hs) (by simpa using hn) hp h
theorem r_garr (hu : dstAt all g = some u) (hc : getD' u fr = .b want) (hs : stepK true B (ev fr) (fun k => look k ow) ⟨some t, op, ty, pos, af, some (g, want)⟩ = some ⟨d, p, rd, [(k, ob)]⟩) (hn : Nat.blt t n = true) (hp : p)
    (h : CT Tryd.prog X n all rest ((t, d) :: fr) ((k, ob) :: ow) (tr ++ [(rd, [k])]) K) : CT Tryd.prog X n all (⟨some t, op, ty, pos, af, some (g, want)⟩ :: rest) fr ow tr K := CT.garr hu hc (by rw [tb_eq]; exact hs) (by simpa using hn) hp h
theorem r_callS {f : FuncId} {args : List D} (hc : callOf fr op = some (f, args)) (hn : Nat.blt t n = true) (hP : ∀ vs w, (callFunc f vs).run Tryd.prog w = .ok (.enter f vs) w) (hp : okOs (fun k => look k ow) args) (hf : (args.map (D.shutO fun k => look k ow)).all D.free = true)
    (hC : Ctr Tryd.prog f (args.map (D.shutO fun k => look k ow)) d) (hs : d.scal = true)
    (h : CT Tryd.prog X n all rest ((t, d) :: fr) ow (tr ++ [(keysO args, [])]) K) : CT Tryd.prog X n all (⟨some t, op, ty, pos, af, none⟩ :: rest) fr ow tr K := CT.callS hc (by simpa using hn) hP hp hf hC hs h
theorem r_gcallS {f : FuncId} {args : List D} (hu : dstAt all g = some u) (hg : getD' u fr = .b want) (hc : callOf fr op = some (f, args)) (hn : Nat.blt t n = true) (hP : ∀ vs w, (callFunc f vs).run Tryd.prog w = .ok (.enter f vs) w) (hp : okOs (fun k => look k ow) args) (hf : (args.map (D.shutO fun k => look k ow)).all D.free = true)
    (hC : Ctr Tryd.prog f (args.map (D.shutO fun k => look k ow)) d) (hs : d.scal = true)
    (h : CT Tryd.prog X n all rest ((t, d) :: fr) ow (tr ++ [(keysO args, [])]) K) : CT Tryd.prog X n all (⟨some t, op, ty, pos, af, some (g, want)⟩ :: rest) fr ow tr K := CT.gcallS hu hg hc (by simpa using hn) hP hp hf hC hs h
theorem r_callN {f : FuncId} {args : List D} {k z L : Nat} {e : TypeId} {h0 : Nat → List D} (hc : callOf fr op = some (f, args)) (hn : Nat.blt t n = true) (hP : ∀ vs w, (callFunc f vs).run Tryd.prog w = .ok (.enter f vs) w) (hf : (args.map D.shut).all D.free = true)
    (hC : CtrO Tryd.prog f (args.map D.shut) [] (.ah k z L) [(k, .arr e z L h0)]) (ht : look t ow = none)
    (h : CT Tryd.prog X n all rest ((t, .ah t z L) :: fr) ((t, .arr e z L h0) :: ow) (tr ++ [([t], [t])]) K) : CT Tryd.prog X n all (⟨some t, op, ty, pos, af, none⟩ :: rest) fr ow tr K := CT.callN hc (by simpa using hn) hP hf hC ht h
theorem r_sto (hs : step B (ev fr) (fun k => look k ow) ⟨none, op, ty, pos, af, none⟩ = some ⟨d, p, rd, [(k, ob)]⟩) (hp : p) (h : CT Tryd.prog X n all rest fr ((k, ob) :: ow) (tr ++ [(rd, [k])]) K) :
    CT Tryd.prog X n all (⟨none, op, ty, pos, af, none⟩ :: rest) fr ow tr K := CT.sto (by rw [tb_eq]; exact hs) hp h
theorem r_gval (hu : dstAt all g = some u) (hc : getD' u fr = .b want) (hs : step B (ev fr) (fun k => look k ow) ⟨some t, op, ty, pos, af, some (g, want)⟩ = some ⟨d, p, rd, []⟩) (hn : Nat.blt t n = true) (hp : p)
    (h : CT Tryd.prog X n all rest ((t, d) :: fr) ow (tr ++ [(rd, [])]) K) : CT Tryd.prog X n all (⟨some t, op, ty, pos, af, some (g, want)⟩ :: rest) fr ow tr K := CT.gval hu hc (by rw [tb_eq]; exact hs) (by simpa using hn) hp h
theorem r_gobj (hu : dstAt all g = some u) (hc : getD' u fr = .b want) (hs : step B (ev fr) (fun k => look k ow) ⟨some t, op, ty, pos, af, some (g, want)⟩ = some ⟨d, p, rd, [(k, ob)]⟩) (hn : Nat.blt t n = true) (hp : p)
    (h : CT Tryd.prog X n all rest ((t, d) :: fr) ((k, ob) :: ow) (tr ++ [(rd, [k])]) K) : CT Tryd.prog X n all (⟨some t, op, ty, pos, af, some (g, want)⟩ :: rest) fr ow tr K := CT.gobj hu hc (by rw [tb_eq]; exact hs) (by simpa using hn) hp h
theorem r_gskip (hu : dstAt all g = some u) (hc : getD' u fr = .b (!want)) (hn : Nat.blt t n = true) (h : CT Tryd.prog X n all rest ((t, .tu []) :: fr) ow (tr ++ [([], [])]) K) :
    CT Tryd.prog X n all (⟨some t, op, ty, pos, af, some (g, want)⟩ :: rest) fr ow tr K := CT.gskip hu (.inl hc) (by simpa using hn) h
theorem r_gskip2 (hu : dstAt all g = some u) (hc : getD' u fr = .tu []) (hn : Nat.blt t n = true) (h : CT Tryd.prog X n all rest ((t, .tu []) :: fr) ow (tr ++ [([], [])]) K) :
    CT Tryd.prog X n all (⟨some t, op, ty, pos, af, some (g, want)⟩ :: rest) fr ow tr K := CT.gskip hu (.inr hc) (by simpa using hn) h

theorem r_call {f : FuncId} {args : List D} (hc : callOf fr op = some (f, args)) (hn : Nat.blt t n = true) (hP : ∀ vs w, (callFunc f vs).run Tryd.prog w = .ok (.enter f vs) w) (hf : (args.map D.shut).all D.free = true) (hC : Ctr Tryd.prog f (args.map D.shut) d)
    (h : CT Tryd.prog X n all rest ((t, d) :: fr) ow (tr ++ [([], [])]) K) : CT Tryd.prog X n all (⟨some t, op, ty, pos, af, none⟩ :: rest) fr ow tr K := CT.call hc (by simpa using hn) hP hf hC h
theorem r_gcall {f : FuncId} {args : List D} (hu : dstAt all g = some u) (hg : getD' u fr = .b want) (hc : callOf fr op = some (f, args)) (hn : Nat.blt t n = true) (hP : ∀ vs w, (callFunc f vs).run Tryd.prog w = .ok (.enter f vs) w)
    (hf : (args.map D.shut).all D.free = true) (hC : Ctr Tryd.prog f (args.map D.shut) d)
    (h : CT Tryd.prog X n all rest ((t, d) :: fr) ow (tr ++ [([], [])]) K) : CT Tryd.prog X n all (⟨some t, op, ty, pos, af, some (g, want)⟩ :: rest) fr ow tr K := CT.gcall hu hg hc (by simpa using hn) hP hf hC h

/-- The state at an exit, in the walk's words. -/
def Nrm (Q : Exit → Fr → Ow → Prop) (fr : Fr) (ow : Ow) : Prop := Q .normal fr ow
def Rtn (Q : Exit → Fr → Ow → Prop) (fr : Fr) (ow : Ow) : Prop := Q .ret fr ow
def Exi (id : Nat) (Q : Exit → Fr → Ow → Prop) (fr : Fr) (ow : Ow) : Prop := Q (.exit id) fr ow

theorem n_then {K : Fr → Ow → Prop} (h : K fr ow) : Nrm (thenQ K Q) fr ow := h
theorem n_block {id : Nat} (h : Nrm Q fr ow) : Nrm (blockQ id Q) fr ow := h
theorem e_then {K : Fr → Ow → Prop} {id : Nat} (h : Exi id Q fr ow) : Exi id (thenQ K Q) fr ow := h
theorem e_hit {j id : Nat} (hb : Nat.beq j id = true) (h : Nrm Q fr ow) : Exi j (blockQ id Q) fr ow := by
  show blockQ id Q (.exit j) fr ow
  simp only [blockQ, hb]
  exact h
theorem e_miss {j id : Nat} (hb : Nat.beq j id = false) (h : Exi j Q fr ow) : Exi j (blockQ id Q) fr ow := by
  show blockQ id Q (.exit j) fr ow
  simp only [blockQ, hb]
  exact h
theorem x_then {K : Fr → Ow → Prop} (h : Rtn Q fr ow) : Rtn (thenQ K Q) fr ow := h
theorem x_block {id : Nat} (h : Rtn Q fr ow) : Rtn (blockQ id Q) fr ow := h

theorem t_seq {x y : Code} (h : T Tryd.prog X n x fr ow (thenQ (fun fr ow => T Tryd.prog X n y fr ow Q) Q)) : T Tryd.prog X n (.seq x y) fr ow Q := T.seq h
theorem t_skip (h : Nrm Q fr ow) : T Tryd.prog X n .skip fr ow Q := T.skip h
theorem t_ret (h : Rtn Q fr ow) : T Tryd.prog X n .ret fr ow Q := T.ret h
theorem t_exit {id : Nat} (h : Exi id Q fr ow) : T Tryd.prog X n (.exit id) fr ow Q := T.exit h
theorem t_block {id : Nat} {c : Code} (h : T Tryd.prog X n c fr ow (blockQ id Q)) : T Tryd.prog X n (.block id c) fr ow Q := T.block h
theorem t_true {c : Operand} {x y : Code} (hc : ev fr c = .b true) (h : T Tryd.prog X n x fr ow Q) : T Tryd.prog X n (.cond c x y) fr ow Q := T.cond hc (fun _ => h) (fun e => nomatch e)
theorem t_false {c : Operand} {x y : Code} (hc : ev fr c = .b false) (h : T Tryd.prog X n y fr ow Q) : T Tryd.prog X n (.cond c x y) fr ow Q := T.cond hc (fun e => nomatch e) (fun _ => h)
theorem t_cond {c : Operand} {x y : Code} {b : Bool} (hc : ev fr c = .b b) (h1 : b = true → T Tryd.prog X n x fr ow Q) (h2 : b = false → T Tryd.prog X n y fr ow Q) : T Tryd.prog X n (.cond c x y) fr ow Q := T.cond hc h1 h2
theorem t_region {id : Nat} {ops : List Oper} (h : CT Tryd.prog X n ops ops fr ow [] (fun fr ow _ => Nrm Q fr ow)) : T Tryd.prog X n (.region id ⟨ops⟩ false) fr ow Q := T.region h
theorem t_draw {id : Nat} {ops : List Oper} (h : CT Tryd.prog X n ops ops fr ow [] (fun fr ow tr => flowOk ops tr = true ∧ Nrm Q fr ow)) : T Tryd.prog X n (.region id ⟨ops⟩ true) fr ow Q := T.draw mixed h
theorem c_nil {K : Fr → Ow → List (List Nat × List Nat) → Prop} (h : K fr ow tr) : CT Tryd.prog X n all [] fr ow tr K := CT.nil h
theorem c_split {dst : Option Tmp} {c : Bool} (hu : dstAt all g = some u) (hc : getD' u fr = .b c)
    (h1 : c = true → CT Tryd.prog X n all (⟨dst, op, ty, pos, af, some (g, want)⟩ :: rest) ((u, .b true) :: fr) ow tr K)
    (h2 : c = false → CT Tryd.prog X n all (⟨dst, op, ty, pos, af, some (g, want)⟩ :: rest) ((u, .b false) :: fr) ow tr K) :
    CT Tryd.prog X n all (⟨dst, op, ty, pos, af, some (g, want)⟩ :: rest) fr ow tr K := CT.split hu hc h1 h2

/-- A guard that is decided (for the walk: not to part on it again). -/
theorem c_lit {dst : Option Tmp} {c : Bool} (c' : Bool) (hu : dstAt all g = some u) (hc : getD' u fr = .b c) (_ : c = c') (h : CT Tryd.prog X n all (⟨dst, op, ty, pos, af, some (g, want)⟩ :: rest) fr ow tr K) : CT Tryd.prog X n all (⟨dst, op, ty, pos, af, some (g, want)⟩ :: rest) fr ow tr K := h

theorem c_grd {dst : Option Tmp} (h : CT Tryd.prog X n all (⟨dst, op, ty, pos, af, some (g, want)⟩ :: rest) fr ow tr K) : CT Tryd.prog X n all (⟨dst, op, ty, pos, af, some (g, want)⟩ :: rest) fr ow tr K := h

theorem c_split_d {dst : Option Tmp} {q : Prop} [Decidable q] (hu : dstAt all g = some u) (hc : getD' u fr = .b (decide q))
    (h1 : q → CT Tryd.prog X n all (⟨dst, op, ty, pos, af, some (g, want)⟩ :: rest) ((u, .b true) :: fr) ow tr K)
    (h2 : ¬ q → CT Tryd.prog X n all (⟨dst, op, ty, pos, af, some (g, want)⟩ :: rest) ((u, .b false) :: fr) ow tr K) :
    CT Tryd.prog X n all (⟨dst, op, ty, pos, af, some (g, want)⟩ :: rest) fr ow tr K := CT.split hu hc (fun h => h1 (of_decide_eq_true h)) (fun h => h2 (of_decide_eq_false h))
theorem c_split_i {dst : Option Tmp} {a b : Int} (hu : dstAt all g = some u) (hc : getD' u fr = .b (a == b))
    (h1 : a = b → CT Tryd.prog X n all (⟨dst, op, ty, pos, af, some (g, want)⟩ :: rest) ((u, .b true) :: fr) ow tr K)
    (h2 : ¬ a = b → CT Tryd.prog X n all (⟨dst, op, ty, pos, af, some (g, want)⟩ :: rest) ((u, .b false) :: fr) ow tr K) :
    CT Tryd.prog X n all (⟨dst, op, ty, pos, af, some (g, want)⟩ :: rest) fr ow tr K := CT.split hu hc (fun h => h1 (by simpa using h)) (fun h => h2 (by simpa using h))
theorem c_split_j {dst : Option Tmp} {a b : Int} (hu : dstAt all g = some u) (hc : getD' u fr = .b (a != b))
    (h1 : ¬ a = b → CT Tryd.prog X n all (⟨dst, op, ty, pos, af, some (g, want)⟩ :: rest) ((u, .b true) :: fr) ow tr K)
    (h2 : a = b → CT Tryd.prog X n all (⟨dst, op, ty, pos, af, some (g, want)⟩ :: rest) ((u, .b false) :: fr) ow tr K) :
    CT Tryd.prog X n all (⟨dst, op, ty, pos, af, some (g, want)⟩ :: rest) fr ow tr K := CT.split hu hc (fun h => h1 (by simpa using h)) (fun h => h2 (by simpa using h))
theorem c_split_s {dst : Option Tmp} {a b : List UInt8} (hu : dstAt all g = some u) (hc : getD' u fr = .b (a == b))
    (h1 : a = b → CT Tryd.prog X n all (⟨dst, op, ty, pos, af, some (g, want)⟩ :: rest) ((u, .b true) :: fr) ow tr K)
    (h2 : ¬ a = b → CT Tryd.prog X n all (⟨dst, op, ty, pos, af, some (g, want)⟩ :: rest) ((u, .b false) :: fr) ow tr K) :
    CT Tryd.prog X n all (⟨dst, op, ty, pos, af, some (g, want)⟩ :: rest) fr ow tr K := CT.split hu hc (fun h => h1 (by simpa using h)) (fun h => h2 (by simpa using h))
theorem c_split_n {dst : Option Tmp} {c : Bool} (hu : dstAt all g = some u) (hc : getD' u fr = .b (!c))
    (h1 : c = false → CT Tryd.prog X n all (⟨dst, op, ty, pos, af, some (g, want)⟩ :: rest) ((u, .b true) :: fr) ow tr K)
    (h2 : c = true → CT Tryd.prog X n all (⟨dst, op, ty, pos, af, some (g, want)⟩ :: rest) ((u, .b false) :: fr) ow tr K) :
    CT Tryd.prog X n all (⟨dst, op, ty, pos, af, some (g, want)⟩ :: rest) fr ow tr K := CT.split hu hc (fun h => h1 (by simpa using h)) (fun h => h2 (by simpa using h))

theorem t_cond_d {c : Operand} {x y : Code} {q : Prop} [Decidable q] (hc : ev fr c = .b (decide q)) (h1 : q → T Tryd.prog X n x fr ow Q) (h2 : ¬ q → T Tryd.prog X n y fr ow Q) : T Tryd.prog X n (.cond c x y) fr ow Q :=
  T.cond hc (fun h => h1 (of_decide_eq_true h)) (fun h => h2 (of_decide_eq_false h))
theorem t_cond_i {c : Operand} {x y : Code} {a b : Int} (hc : ev fr c = .b (a == b)) (h1 : a = b → T Tryd.prog X n x fr ow Q) (h2 : ¬ a = b → T Tryd.prog X n y fr ow Q) : T Tryd.prog X n (.cond c x y) fr ow Q :=
  T.cond hc (fun h => h1 (by simpa using h)) (fun h => h2 (by simpa using h))
theorem t_cond_j {c : Operand} {x y : Code} {a b : Int} (hc : ev fr c = .b (a != b)) (h1 : ¬ a = b → T Tryd.prog X n x fr ow Q) (h2 : a = b → T Tryd.prog X n y fr ow Q) : T Tryd.prog X n (.cond c x y) fr ow Q :=
  T.cond hc (fun h => h1 (by simpa using h)) (fun h => h2 (by simpa using h))
theorem t_cond_s {c : Operand} {x y : Code} {a b : List UInt8} (hc : ev fr c = .b (a == b)) (h1 : a = b → T Tryd.prog X n x fr ow Q) (h2 : ¬ a = b → T Tryd.prog X n y fr ow Q) : T Tryd.prog X n (.cond c x y) fr ow Q :=
  T.cond hc (fun h => h1 (by simpa using h)) (fun h => h2 (by simpa using h))
theorem t_cond_n {c : Operand} {x y : Code} {b : Bool} (hc : ev fr c = .b (!b)) (h1 : b = false → T Tryd.prog X n x fr ow Q) (h2 : b = true → T Tryd.prog X n y fr ow Q) : T Tryd.prog X n (.cond c x y) fr ow Q :=
  T.cond hc (fun h => h1 (by simpa using h)) (fun h => h2 (by simpa using h))

theorem T.mono {c : Code} {Q' : Exit → Fr → Ow → Prop} (h : T Tryd.prog X n c fr ow Q) (hq : ∀ e fr ow, Q e fr ow → Q' e fr ow) : T Tryd.prog X n c fr ow Q' := fun a w hr =>
  wp_mono (h a w hr) fun _ _ _ ⟨fr', ow', h1, h2⟩ => ⟨fr', ow', hq _ _ _ h1, h2⟩

/-- Paths that meet: behind a piece of code the state is of one form. -/
theorem T.mid {ι : Type} {c s : Code} {Q' : Exit → Fr → Ow → Prop} (hL : Lent X) (mkF : ι → Fr) (mkO : ι → Ow) (I : ι → Prop) (hK : ∀ z, I z → T Tryd.prog X n s (mkF z) (mkO z) Q')
    (h : T Tryd.prog X n c fr ow (thenQ (fun fr ow => ∃ z, I z ∧ Le X fr ow (mkF z) (mkO z)) Q)) : T Tryd.prog X n c fr ow (thenQ (fun fr ow => T Tryd.prog X n s fr ow Q') Q) :=
  h.mono fun e fr ow hq => by
    cases e with
    | normal =>
      obtain ⟨z, hz, hle⟩ := (show ∃ z, I z ∧ Le X fr ow (mkF z) (mkO z) from hq)
      exact show T Tryd.prog X n s fr ow Q' from fun a w hr => hK z hz a w (hr.le hle hL)
    | _ => exact hq

/-- .. behind the piece that begins with a region of this number (the paths first, then what follows). -/
theorem r_mid {ι : Type} (id : Nat) {ops : Array Oper} {dr : Bool} {c s : Code} {Q' : Exit → Fr → Ow → Prop} (hL : Lent X) (mkF : ι → Fr) (mkO : ι → Ow) (I : ι → Prop)
    (h : T Tryd.prog X n (.seq (.region id ops dr) c) fr ow (thenQ (fun fr ow => ∃ z, I z ∧ Le X fr ow (mkF z) (mkO z)) Q)) (hK : ∀ z, I z → T Tryd.prog X n s (mkF z) (mkO z) Q') :
    T Tryd.prog X n (.seq (.region id ops dr) c) fr ow (thenQ (fun fr ow => T Tryd.prog X n s fr ow Q') Q) := T.mid hL mkF mkO I hK h

theorem okIn_of_free {d : D} (h : d.free = true) (ks : List Nat) : d.okIn ks = true := by
  cases d with
  | fn f cs =>
    have h : cs.all D.free1 = true := h
    show cs.all (D.okI1 ks) = true
    rw [List.all_eq_true] at h ⊢
    intro c hc
    have := h c hc
    cases c <;> first | exact this | rfl | (simp [D.free1, D.plain] at this)
  | _ => first | exact h | (simp [D.free] at h)

theorem T.monoF {c : Code} {Q' : Exit → Fr → Ow → Prop} (h : T Tryd.prog X n c fr ow Q) (hq : ∀ e fr ow, Q e fr ow → ∃ fr' ow', Frz fr ow fr' ow' ∧ Q' e fr' ow') : T Tryd.prog X n c fr ow Q' := fun a w hr =>
  wp_mono (h a w hr) fun e _ _ ⟨fr', ow', h1, h2⟩ => by
    obtain ⟨fr2, ow2, h3, h4⟩ := hq e fr' ow' h1
    exact ⟨fr2, ow2, h4, h2.frz h3⟩

/-- What must hold where a function ends: its results tell d. -/
def Ends (rs : List ResultVar) (d : D) (e : Exit) (fr : Fr) (ow : Ow) : Prop :=
  match e with
  | .ret | .normal => ∃ fr' ow' d2, Frz fr ow fr' ow' ∧ resD B fr' ow' rs = some d2 ∧ Weak d2 d
  | _ => False

theorem x_end {rs : List ResultVar} {d d2 : D} (h : resD B fr ow rs = some d2) (he : d2 = d) : Rtn (Ends rs d) fr ow := ⟨fr, ow, d2, .refl .., h, .of_eq he⟩
theorem n_end {rs : List ResultVar} {d d2 : D} (h : resD B fr ow rs = some d2) (he : d2 = d) : Nrm (Ends rs d) fr ow := ⟨fr, ow, d2, .refl .., h, .of_eq he⟩
theorem x_endw {rs : List ResultVar} {d d2 : D} (h : resD B fr ow rs = some d2) (he : Weak d2 d) : Rtn (Ends rs d) fr ow := ⟨fr, ow, d2, .refl .., h, he⟩
theorem n_endw {rs : List ResultVar} {d d2 : D} (h : resD B fr ow rs = some d2) (he : Weak d2 d) : Nrm (Ends rs d) fr ow := ⟨fr, ow, d2, .refl .., h, he⟩
theorem x_endF {rs : List ResultVar} {d d2 : D} {e z L : Nat} {f : Nat → List D} (ts : List Nat) (k : Nat) (hk : look k ow = some (.arr e z L f)) (ht : allAh fr k z L ts) (h : resD B (setAll ts (.gs k z L f) fr) ((k, .row e z L) :: ow) rs = some d2) (he : Weak d2 d) : Rtn (Ends rs d) fr ow :=
  ⟨_, _, d2, .freeze _ _ _ _ ts k e z L f hk ht (.refl ..), h, he⟩
theorem n_endF {rs : List ResultVar} {d d2 : D} {e z L : Nat} {f : Nat → List D} (ts : List Nat) (k : Nat) (hk : look k ow = some (.arr e z L f)) (ht : allAh fr k z L ts) (h : resD B (setAll ts (.gs k z L f) fr) ((k, .row e z L) :: ow) rs = some d2) (he : Weak d2 d) : Nrm (Ends rs d) fr ow :=
  ⟨_, _, d2, .freeze _ _ _ _ ts k e z L f hk ht (.refl ..), h, he⟩

/-- FROM A BODY TO A CONTRACT. -/
theorem r_fun {f : FuncId} {fn : Func} {c : Code} {N : Nat} {rs : List ResultVar} {args : List D} {d : D} (hf : Tryd.prog.funcs[f]? = some fn) (hb : fn.body = some c) (hN : fn.ntmps = N) (hrs : fn.results = ⟨rs⟩) (hlen : Nat.ble args.length N = true) (hd : d.free = true)
    (h : ∀ X : Ctx, Lent X → X.ids = [] → T Tryd.prog X N c (slots 0 args) [] (Ends rs d)) : Ctr Tryd.prog f args d := by
  refine Ctr.of (ow' := []) (CtrO.of_T hf hb hN hrs (by simpa using hlen) fun X hL hi => (h X hL hi).monoF fun e fr2 ow2 hq => ?_) hd
  have key : ∀ fr3 ow3 d2, resD B fr3 ow3 rs = some d2 → Weak d2 d → ∃ d2, resD (tb Tryd.prog) fr3 ow3 rs = some d2 ∧ Weak d2 d ∧ d.okIn (([] : Ow).map (·.1)) = true ∧ Le X fr3 ow3 [] [] := by
    intro fr3 ow3 d2 h1 h2
    refine ⟨d2, by rw [tb_eq]; exact h1, h2, okIn_of_free hd _, trivial, trivial, rfl, fun k hk => ?_⟩
    rw [hi] at hk
    cases hk
  cases e with
  | ret => obtain ⟨fr3, ow3, d2, h0, h1, h2⟩ := hq; exact ⟨fr3, ow3, h0, .inl rfl, key _ _ d2 h1 h2⟩
  | normal => obtain ⟨fr3, ow3, d2, h0, h1, h2⟩ := hq; exact ⟨fr3, ow3, h0, .inr rfl, key _ _ d2 h1 h2⟩
  | _ => exact hq.elim

/-- What must hold where a function ends that hands back a new row. -/
def EndsN (rs : List ResultVar) (k : Nat) (el : TypeId) (z L : Nat) (g : Nat → List D) (e : Exit) (fr : Fr) (ow : Ow) : Prop :=
  match e with
  | .ret | .normal => ∃ fr' ow' L2 g2, Frz fr ow fr' ow' ∧ resD B fr' ow' rs = some (.ah k z L2) ∧ look k ow' = some (.arr el z L2 g2) ∧ L2 = L ∧ ∀ i, i < L → g2 i = g i
  | _ => False

/-- FROM A BODY TO A CONTRACT THAT HANDS BACK A NEW ROW. -/
theorem r_new {f : FuncId} {fn : Func} {c : Code} {N : Nat} {rs : List ResultVar} {args : List D} {z L : Nat} {el : TypeId} {g : Nat → List D} (k : Nat) (hf : Tryd.prog.funcs[f]? = some fn) (hb : fn.body = some c) (hN : fn.ntmps = N) (hrs : fn.results = ⟨rs⟩) (hlen : Nat.ble args.length N = true)
    (h : ∀ X : Ctx, Lent X → X.ids = [] → T Tryd.prog X N c (slots 0 args) [] (EndsN rs k el z L g)) : CtrO Tryd.prog f args [] (.ah k z L) [(k, .arr el z L g)] := by
  refine CtrO.of_T hf hb hN hrs (by simpa using hlen) fun X hL hi => (h X hL hi).monoF fun e fr2 ow2 hq => ?_
  have key : ∀ fr3 ow3 L2 g2, resD B fr3 ow3 rs = some (.ah k z L2) → look k ow3 = some (.arr el z L2 g2) → L2 = L → (∀ i, i < L → g2 i = g i) →
      ∃ d2, resD (tb Tryd.prog) fr3 ow3 rs = some d2 ∧ Weak d2 (.ah k z L) ∧ (D.ah k z L).okIn (([(k, .arr el z L g)] : Ow).map (·.1)) = true ∧ Le X fr3 ow3 [] [(k, .arr el z L g)] := by
    intro fr3 ow3 L2 g2 h1 h2 h3 h4
    subst h3
    exact ⟨_, by rw [tb_eq]; exact h1, .refl _, by simp [D.okIn, memB], trivial, ⟨⟨_, _, h2, rfl, fun i hi => .inl (h4 i hi)⟩, trivial⟩, rfl, fun j hj => by rw [hi] at hj; cases hj⟩
  cases e with
  | ret => obtain ⟨fr3, ow3, L2, g2, h0, h1, h2, h3, h4⟩ := hq; exact ⟨fr3, ow3, h0, .inl rfl, key _ _ L2 g2 h1 h2 h3 h4⟩
  | normal => obtain ⟨fr3, ow3, L2, g2, h0, h1, h2, h3, h4⟩ := hq; exact ⟨fr3, ow3, h0, .inr rfl, key _ _ L2 g2 h1 h2 h3 h4⟩
  | _ => exact hq.elim
end

attribute [irreducible] Nrm Rtn Exi

end Go.Proofs.YtghdgjabpdfaoaaDoor.Flow

/-
  FLOW, PART O: A CALL TO WHICH A VARIABLE IS LENT (a method with a pointer receiver).
-/
namespace Go.Proofs.YtghdgjabpdfaoaaDoor.Flow

/-- An argument in the callee's own numbers: the lent variable is its number 0. -/
def unsub (k : Nat) : D → D
  | .pv j o => match Nat.beq j k with
    | true => .pv 0 o
    | false => .pv (j + 1) o
  | d => d.shut

def okA : D → Bool
  | .pv 0 _ => true
  | d => d.free

section
variable {P : Program} {X : Ctx} {n : Nat} {fr : Fr} {ow : Ow} {d : D}

theorem lend_step {o : Oper} {f : FuncId} {args : List D} {k : Nat} {cs cs' : List D} (hP : ∀ vs w, (callFunc f vs).run P w = .ok (.enter f vs) w) (hc : callOf fr o.op = some (f, args)) (hk : look k ow = some (.var cs))
    (hok : (args.map (unsub k)).all okA = true) (hf1 : cs.all D.free = true) (hf2 : cs'.all D.free = true) (hf3 : d.free = true)
    (hC : CtrO P f (args.map (unsub k)) [(0, .var cs)] d [(0, .var cs')]) (hd : dstOk o.dst n) :
    ∀ F' O', (∀ x ∈ o.op.operands.toList, evF F' x = evF (fF fr) x) → (∀ j ∈ [k], O' j = fO ow j) → StepAt P X n o F' O' d [(k, .var cs')] := by
  intro F' O' he hO a w K' Q' ⟨S, r, hH, hI, hF, hdf, hn, hρ⟩ hK
  obtain ⟨vs, hrun, hsz, hrel⟩ := call_enter hP hc he (fun x => evF_rel hH.glob hF x)
  have hOk : O' k = some (.var cs) := (hO k (by simp)).trans hk
  have hobj := hI.obj k _ hOk
  obtain ⟨b, cur, e0, hb, hheap, hsz0, hcells, hfree⟩ := hobj
  have getFree : ∀ (l : List D), l.all D.free = true → ∀ j, j < l.length → (l.getD j .any).free = true := fun l hl j hj => by
    rw [List.all_eq_true] at hl
    refine hl _ ?_
    simp only [List.getD_eq_getElem?_getD, List.getElem?_eq_getElem hj, Option.getD_some]
    exact List.getElem_mem hj
  have hblt : b < w.heap.size := (Array.getElem?_eq_some_iff.1 hheap).1
  let X' : Ctx := { w0 := w, S0 := S, L := fun b' => b' = b, r0 := fun j => if j = 0 then some (.blk b) else none, ids := [0] }
  have hH' : Hist X' w S := ⟨rfl, rfl, rfl, Nat.le_refl _, fun _ _ _ => rfl, fun _ _ h => h, fun _ _ _ => rfl, fun _ _ h => .inl h, hH.valid, hH.glob⟩
  have hI' : Inv X' w S X'.r0 (fO [(0, .var cs)]) := by
    refine ⟨fun j ob hj => ?_, fun j hj => ?_, fun i j l l' b' hij hl hl' hb' => ?_, fun j l b' hl hb' => ?_⟩
    · have hj0 : j = 0 ∧ ob = .var cs := by
        rw [fO_cons] at hj
        have hj : (if j = 0 then some (Own.var cs) else fO [] j) = some ob := hj
        by_cases e : j = 0
        · rw [if_pos e] at hj
          exact ⟨e, (Option.some.inj hj).symm⟩
        · rw [if_neg e] at hj
          cases hj
      obtain ⟨rfl, rfl⟩ := hj0
      exact ⟨b, cur, e0, rfl, hheap, hsz0, fun j hj => ⟨(hcells j hj).1.free (getFree cs hf1 j hj) _, (hcells j hj).2⟩, hfree⟩
    · show (if j = 0 then some (Loc.blk b) else none) = none
      rw [if_neg]
      intro e
      subst e
      cases hj
    · have hl : (if i = 0 then some (Loc.blk b) else none) = some l := hl
      have hl' : (if j = 0 then some (Loc.blk b) else none) = some l' := hl'
      by_cases e : i = 0
      · by_cases e' : j = 0
        · omega
        · rw [if_neg e'] at hl'; cases hl'
      · rw [if_neg e] at hl; cases hl
    · have hl : (if j = 0 then some (Loc.blk b) else none) = some l := hl
      by_cases e : j = 0
      · rw [if_pos e] at hl
        cases hl
        exact .inr (Option.some.inj hb').symm
      · rw [if_neg e] at hl; cases hl
  have hrel' : ∀ j, j < (args.map (unsub k)).length → Rel S w X'.r0 ((args.map (unsub k)).getD j .any) (vs.getD j undef) := by
    intro j hj
    have hj' : j < args.length := by simpa using hj
    have e : (args.map (unsub k)).getD j .any = unsub k (args.getD j .any) := by simp [List.getD_eq_getElem?_getD, hj']
    have hokj : okA (unsub k (args.getD j .any)) = true := by
      rw [← e]
      rw [List.all_eq_true] at hok
      refine hok _ ?_
      simp only [List.getD_eq_getElem?_getD, List.getElem?_eq_getElem hj, Option.getD_some]
      exact List.getElem_mem hj
    rw [e]
    have hr := hrel j hj'
    generalize args.getD j .any = dj at hr hokj
    generalize vs.getD j undef = vj at hr
    by_cases hpv : ∃ i off, dj = .pv i off
    · obtain ⟨i, off, rfl⟩ := hpv
      simp only [unsub] at hokj ⊢
      cases hbq : Nat.beq i k with
      | true =>
        have := Nat.eq_of_beq_eq_true hbq
        subst this
        cases hr with
        | pv _ _ _ b2 hb2 =>
          rw [hb] at hb2
          cases hb2
          exact .pv _ 0 off b rfl
      | false =>
        rw [hbq] at hokj
        simp [okA, D.free] at hokj
    · have hu : unsub k dj = dj.shut := by
        cases dj <;> first | rfl | exact absurd ⟨_, _, rfl⟩ hpv
      rw [hu] at hokj ⊢
      refine hr.shut.free ?_ _
      cases dj <;> first | exact hokj | exact absurd ⟨_, _, rfl⟩ hpv
  unfold Oper.wp
  rw [hrun]
  refine (hC X' vs rfl hH' hI' (by simpa using hsz) hrel').mono ?_
  rintro e w' ⟨v, S', r', rfl, g1, g2, g3, g4⟩
  obtain ⟨l', hl', hle'⟩ := g4 0 (.blk b) rfl
  obtain ⟨b2, cur', e', q1, q2, q3, q4, q5⟩ := g3.obj 0 (.var cs') rfl
  have hb2 : b2 = b := by
    rw [q1] at hl'
    cases hl'
    exact hle'.symm
  subst hb2
  have hch : Chg w w' S (some b2) := ⟨g2.os, g2.tape, g2.output, g2.size, fun j hj hne => g2.block j hj (fun (h : j = b2) => hne (by rw [h])), g2.cell⟩
  have hnew : ∀ b' o, S' b' o → S b' o ∨ w.heap.size ≤ b' := fun b' o hb' => by
    rcases g2.new b' o hb' with h | h | h
    · exact .inl h
    · exact .inr h
    · have h : b' = b2 := h
      subst h
      exact absurd hb' (q5 o)
  refine hK v w' ⟨S', r, ?_, ?_, rel_put (fun t => (hF t).mono g2.sub g2.cell r (RhoLe.refl r)) (hn ▸ hd) (g1.free hf3 r), by rw [put_defers]; exact hdf, by rw [put_size]; exact hn, hρ⟩
  · refine hH.chg hch (fun b' hb' => by cases hb'; exact hI.low k _ b2 hb rfl) g2.sub (fun b' o hb' => ?_)
    rcases hnew b' o hb' with h | h
    · exact .inl h
    · exact .inr ⟨.inl (Nat.le_trans hH.size h), g2.valid b' o hb'⟩
  · refine hI.put hch g2.sub (RhoLe.refl r) k (.var cs') (.blk b2) ?_ hb (fun _ _ => rfl) (fun b' hb' => .inr ⟨_, hb, hb'⟩) (fun b' hb' => ⟨_, hb, by cases hb'; rfl⟩) (fun b' o h => ?_)
    · exact ⟨b2, cur', e', hb, q2, q3, fun j hj => ⟨(q4 j hj).1.free (getFree cs' hf2 j hj) r, (q4 j hj).2⟩, q5⟩
    · rcases hnew b' o h with h | h
      · exact .inl h
      · exact .inr (.inr h)
end

section
variable {X : Ctx} {n : Nat} {all rest : List Oper} {fr : Fr} {ow : Ow} {tr : List (List Nat × List Nat)} {K : Fr → Ow → List (List Nat × List Nat) → Prop} {Q : Exit → Fr → Ow → Prop}
variable {t : Nat} {op : Op} {ty : TypeId} {pos : String} {af : Array Edge} {d : D} {g u : Nat} {want : Bool} {k : Nat} {cs cs' : List D} {f : FuncId} {args : List D}

/-- What must hold where a method ends: its results tell d, the lent variable (number 0) holds cs. -/
def EndsO (rs : List ResultVar) (d : D) (cs : List D) (e : Exit) (fr : Fr) (ow : Ow) : Prop :=
  match e with
  | .ret | .normal => ∃ d2 cs2, resD B fr ow rs = some d2 ∧ look 0 ow = some (.var cs2) ∧ Weak d2 d ∧ cs2 = cs
  | _ => False

/-- FROM A METHOD's BODY TO ITS CONTRACT. -/
theorem r_meth {fn : Func} {c : Code} {N : Nat} {rs : List ResultVar} (hf : Tryd.prog.funcs[f]? = some fn) (hb : fn.body = some c) (hN : fn.ntmps = N) (hrs : fn.results = ⟨rs⟩) (hlen : Nat.ble args.length N = true) (hd : d.free = true) (hcs : cs'.all D.free = true)
    (h : ∀ X : Ctx, Lent X → X.ids = [0] → T Tryd.prog X N c (slots 0 args) [(0, .var cs)] (EndsO rs d cs')) : CtrO Tryd.prog f args [(0, .var cs)] d [(0, .var cs')] := by
  refine CtrO.of_T hf hb hN hrs (by simpa using hlen) fun X hL hi => (h X hL hi).mono fun e fr2 ow2 hq => ?_
  have key : ∀ d2 cs2, resD B fr2 ow2 rs = some d2 → look 0 ow2 = some (.var cs2) → Weak d2 d → cs2 = cs' →
      ∃ d2, resD (tb Tryd.prog) fr2 ow2 rs = some d2 ∧ Weak d2 d ∧ d.okIn (([(0, .var cs')] : Ow).map (·.1)) = true ∧ Le X fr2 ow2 [] [(0, .var cs')] := by
    intro d2 cs2 h1 h2 h3 h4
    subst h4
    refine ⟨d2, by rw [tb_eq]; exact h1, h3, okIn_of_free hd _, trivial, ⟨h2, trivial⟩, ?_, fun k hk => ?_⟩
    · simp only [okAll, List.all_nil, List.all_cons, Own.okIn, Bool.true_and, Bool.and_true]
      rw [List.all_eq_true] at hcs ⊢
      exact fun x hx => okIn_of_free (hcs x hx) _
    · rw [hi] at hk
      simpa using hk
  cases e with
  | ret => obtain ⟨d2, cs2, h1, h2, h3, h4⟩ := hq; exact ⟨.inl rfl, key d2 cs2 h1 h2 h3 h4⟩
  | normal => obtain ⟨d2, cs2, h1, h2, h3, h4⟩ := hq; exact ⟨.inr rfl, key d2 cs2 h1 h2 h3 h4⟩
  | _ => exact hq.elim
end
end Go.Proofs.YtghdgjabpdfaoaaDoor.Flow
