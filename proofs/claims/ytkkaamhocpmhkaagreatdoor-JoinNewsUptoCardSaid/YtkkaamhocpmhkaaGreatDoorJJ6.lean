/- The texts FlowL, one behind the other. -/
import Derived.Test.YtkkaamhocpmhkaaGreatDoorJJ5
import Derived.Deep.LoopGhost
namespace Go.Proofs.YtkkaamhocpmhkaaGreatDoor.Flow
abbrev Fr := List (Nat × D)
abbrev Ow := List (Nat × Own)
def fF (fr : Fr) : Nat → D := fun t => getD' t fr
def fO (ow : Ow) : Nat → Option Own := fun k => look k ow
theorem zaE (fr : Fr) (t : Nat) (d : D) : fF ((t, d) :: fr) = updF (fF fr) (some t) d := by
  funext u
  show getD' u ((t, d) :: fr) = if u = t then d else getD' u fr
  simp only [getD']
  by_cases h : u = t
  · subst h
    have : Nat.beq u u = true := Nat.beq_refl u
    rw [this]
    simp
  · have : Nat.beq t u = false := by
      cases hb : Nat.beq t u with
      | false => rfl
      | true => exact absurd (Nat.eq_of_beq_eq_true hb).symm h
    rw [this]
    simp [h]
theorem zaM (ow : Ow) (k : Nat) (o : Own) : fO ((k, o) :: ow) = updO (fO ow) [(k, o)] := by
  funext u
  show look u ((k, o) :: ow) = if u = k then some o else look u ow
  simp only [look]
  by_cases h : u = k
  · subst h
    have : Nat.beq u u = true := Nat.beq_refl u
    rw [this]
    simp
  · have : Nat.beq k u = false := by
      cases hb : Nat.beq k u with
      | false => rfl
      | true => exact absurd (Nat.eq_of_beq_eq_true hb).symm h
    rw [this]
    simp [h]
theorem zaX (fr : Fr) (x : Operand) : evF (fF fr) x = ev fr x := by cases x <;> rfl

def D.free1 : D → Bool
  | .any | .v _ => true
  | c => c.plain
def D.free : D → Bool
  | .any => true
  | .ag cs | .fn _ cs => cs.all D.free1
  | .tu cs => cs.all fun c => match c with
    | .ag ds => ds.all D.free1
    | c => c.free1
  | .pv .. | .gs .. | .ah .. | .ap .. | .mh _ => false
  | _ => true
theorem Rel.free {S : Cells} {w : World} {r : Rho} {d : D} {v : Value} (h : Rel S w r d v) (hf : d.free = true) : ∀ r', Rel S w r' d v := by
  have one : ∀ (c : D) (u : Value), Rel S w r c u → D.free1 c = true → ∀ r', Rel S w r' c u := by
    intro c u hc hp r'
    unfold D.free1 at hp
    split at hp
    · exact .any ..
    · cases hc; exact .v ..
    · exact hc.plain hp r'
  have all1 : ∀ {p : D → Bool} {cs : List D}, cs.all p = true → ∀ j, j < cs.length → p (cs.getD j .any) = true := by
    intro p cs hp j hj
    rw [List.all_eq_true] at hp
    refine hp _ ?_
    simp only [List.getD_eq_getElem?_getD, List.getElem?_eq_getElem hj, Option.getD_some]
    exact List.getElem_mem hj
  have many : ∀ (cs : List D) (vs : Array Value), (∀ j, j < cs.length → Rel S w r (cs.getD j .any) (vs.getD j undef)) → cs.all D.free1 = true →
      ∀ r', ∀ j, j < cs.length → Rel S w r' (cs.getD j .any) (vs.getD j undef) := fun cs vs hc hp r' j hj => one _ _ (hc j hj) (all1 hp j hj) r'
  have two : ∀ (c : D) (u : Value), Rel S w r c u → (match c with | .ag ds => ds.all D.free1 | c => c.free1) = true → ∀ r', Rel S w r' c u := by
    intro c u hc hp r'
    split at hp
    · cases hc with
      | ag _ _ vs hn h => exact .ag r' _ vs hn (many _ vs h hp r')
    · exact one _ _ hc hp r'
  cases h with
  | any => exact fun r' => .any ..
  | i => exact fun r' => .i ..
  | b => exact fun r' => .b ..
  | s => exact fun r' => .s ..
  | nilS => exact fun r' => .nilS _
  | v => exact fun r' => .v ..
  | fn _ f cs vs hn h => exact fun r' => .fn r' f cs vs hn (many cs vs h hf r')
  | ag _ cs vs hn h => exact fun r' => .ag r' cs vs hn (many cs vs h hf r')
  | tu _ cs vs hn h => exact fun r' => .tu r' cs vs hn fun j hj => two _ _ (h j hj) (all1 (p := fun c => match c with | .ag ds => ds.all D.free1 | c => c.free1) hf j hj) r'
  | sl _ esz len f a cap c hc hm hl hcell hr => exact fun r' => .sl r' esz len f a cap c hc hm hl hcell hr
  | rf _ cs off b o c hp hcell hr => exact fun r' => .rf r' cs off b o c hp hcell hr
  | pv => simp [D.free] at hf
  | mh => simp [D.free] at hf
  | gs => simp [D.free] at hf
  | ah => simp [D.free] at hf
  | ap => simp [D.free] at hf
  | e0 => exact fun r' => .e0 ..
  | se _ z b a cap hm hb => exact fun r' => .se r' z b a cap hm hb
  | rn _ k len f off b h => exact fun r' => .rn r' k len f off b h
def Ctr (P : Program) (f : FuncId) (args : List D) (d : D) : Prop :=
  ∀ (w : World) (S : Cells) (vs : Array Value), (∀ b o, S b o → b < w.heap.size) → GOk S w → vs.size = args.length → (∀ j, j < args.length → Rel S w noRho (args.getD j .any) (vs.getD j undef)) →
    Calls P f vs w fun e w' => ∃ v S', e = .returned v ∧ Rel S' w' noRho d v ∧ Hist { w0 := w, S0 := S, L := fun _ => False } w' S'
def CtrO (P : Program) (f : FuncId) (args : List D) (ow : Ow) (d : D) (ow' : Ow) : Prop :=
  ∀ (X : Ctx) (vs : Array Value), X.ids = ow.map (·.1) → Hist X X.w0 X.S0 → Inv X X.w0 X.S0 X.r0 (fO ow) → vs.size = args.length → (∀ j, j < args.length → Rel X.S0 X.w0 X.r0 (args.getD j .any) (vs.getD j undef)) →
    Calls P f vs X.w0 fun e w' => ∃ v S' r', e = .returned v ∧ Rel S' w' r' d v ∧ Hist X w' S' ∧ Inv X w' S' r' (fO ow') ∧ RhoLe X.r0 r'
theorem Hist.re {X : Ctx} {w : World} {S : Cells} (h : Hist X w S) (ds : List Deferred) : Hist { X with dfs := ds } w S := ⟨h.os, h.tape, h.output, h.size, h.block, h.sub, h.cell, h.new, h.valid, h.glob⟩
theorem Hist.un {X : Ctx} {w : World} {S : Cells} {ds : List Deferred} (h : Hist { X with dfs := ds } w S) : Hist X w S := ⟨h.os, h.tape, h.output, h.size, h.block, h.sub, h.cell, h.new, h.valid, h.glob⟩
theorem Inv.re {X : Ctx} {w : World} {S : Cells} {r : Rho} {O : Nat → Option Own} (h : Inv X w S r O) (ds : List Deferred) : Inv { X with dfs := ds } w S r O := ⟨h.obj, h.dom, h.apart, h.low⟩
theorem Inv.un {X : Ctx} {w : World} {S : Cells} {r : Rho} {O : Nat → Option Own} {ds : List Deferred} (h : Inv { X with dfs := ds } w S r O) : Inv X w S r O := ⟨h.obj, h.dom, h.apart, h.low⟩
theorem CtrO.of0 {P : Program} {f : FuncId} {args : List D} {ow ow' : Ow} {d : D}
    (h : ∀ (X : Ctx) (vs : Array Value), X.dfs = [] → X.ids = ow.map (·.1) → Hist X X.w0 X.S0 → Inv X X.w0 X.S0 X.r0 (fO ow) → vs.size = args.length → (∀ j, j < args.length → Rel X.S0 X.w0 X.r0 (args.getD j .any) (vs.getD j undef)) →
      Calls P f vs X.w0 fun e w' => ∃ v S' r', e = .returned v ∧ Rel S' w' r' d v ∧ Hist X w' S' ∧ Inv X w' S' r' (fO ow') ∧ RhoLe X.r0 r') : CtrO P f args ow d ow' := fun X vs hids hH hI hn hr =>
  (h { X with dfs := [] } vs rfl hids (hH.re []) (hI.re []) hn hr).mono fun _ _ ⟨v, S', r', h1, h2, h3, h4, h5⟩ => ⟨v, S', r', h1, h2, h3.un, h4.un, h5⟩
theorem zkV (w : World) (S : Cells) (L : Nat → Prop) (h : ∀ b o, S b o → b < w.heap.size) (hg : GOk S w) : Hist { w0 := w, S0 := S, L := L } w S :=
  ⟨rfl, rfl, rfl, Nat.le_refl _, fun _ _ _ => rfl, fun _ _ h => h, fun _ _ _ => rfl, fun _ _ h => .inl h, h, hg⟩
theorem zgP (X : Ctx) (w : World) (S : Cells) : Inv X w S noRho (fO []) where
  obj := fun k o h => by simp [fO, look] at h
  dom := fun _ _ => rfl
  apart := fun _ _ _ _ _ _ h => by simp [noRho] at h
  low := fun _ _ _ h => by simp [noRho] at h
theorem Ctr.of {P : Program} {f : FuncId} {args : List D} {d : D} {ow' : Ow} (h : CtrO P f args [] d ow') (hd : d.free = true) : Ctr P f args d := by
  intro w S vs hv hgl hn hr
  refine (h ⟨w, S, fun _ => False, noRho, [], []⟩ vs rfl ⟨rfl, rfl, rfl, Nat.le_refl _, fun _ _ _ => rfl, fun _ _ h => h, fun _ _ _ => rfl, fun _ _ h => .inl h, hv, hgl⟩ (zgP _ _ _) hn hr).mono ?_
  rintro e w' ⟨v, S', r', rfl, h1, h2, _, _⟩
  exact ⟨v, S', rfl, h1.free hd noRho, h2.os, h2.tape, h2.output, h2.size, h2.block, h2.sub, h2.cell, h2.new, h2.valid, h2.glob⟩
theorem Ctr.weak {P : Program} {f : FuncId} {args args' : List D} {d : D} (h : Ctr P f args' d) (hn : args'.length = args.length) (hw : ∀ j, j < args.length → Weak (args.getD j .any) (args'.getD j .any)) : Ctr P f args d :=
  fun w S vs hv hg hs hr => h w S vs hv hg (by omega) (fun j hj => (hr j (by omega)).weak (hw j (by omega)))
theorem Ctr.weak2 {P : Program} {f : FuncId} {a a' b b' d : D} (h : Ctr P f [a', b'] d) (h1 : Weak a a') (h2 : Weak b b') : Ctr P f [a, b] d := h.weak rfl fun j hj => match j, hj with
  | 0, _ => h1
  | 1, _ => h2
theorem Ctr.weak3 {P : Program} {f : FuncId} {a a' b b' c c' d : D} (h : Ctr P f [a', b', c'] d) (h1 : Weak a a') (h2 : Weak b b') (h3 : Weak c c') : Ctr P f [a, b, c] d := h.weak rfl fun j hj => match j, hj with
  | 0, _ => h1
  | 1, _ => h2
  | 2, _ => h3
section
variable (P : Program) (X : Ctx) (n : Nat)
def T (c : Code) (fr : Fr) (ow : Ow) (Q : Exit → Fr → Ow → Prop) : Prop :=
  ∀ a w, Rep X n (fF fr) (fO ow) a w → Wc P c (fun e a w => ∃ fr' ow', Q e fr' ow' ∧ Rep X n (fF fr') (fO ow') a w) a w
def CT (all l : List Oper) (fr : Fr) (ow : Ow) (tr : List (List Nat × List Nat)) (K : Fr → Ow → List (List Nat × List Nat) → Prop) : Prop :=
  ∃ es fr' ow', Ch P X n all l (fF fr) (fO ow) es (fF fr') (fO ow') ∧ K fr' ow' (tr ++ es.map fun e => (e.rd, e.wr.map (·.1)))
end
section
variable {P : Program} {X : Ctx} {n : Nat} {all rest : List Oper} {fr : Fr} {ow : Ow} {tr : List (List Nat × List Nat)} {K : Fr → Ow → List (List Nat × List Nat) → Prop} {Q : Exit → Fr → Ow → Prop}
theorem CT.nil (h : K fr ow tr) : CT P X n all [] fr ow tr K := ⟨[], fr, ow, .nil .., by simpa using h⟩
theorem CT.cons {o : Oper} {e : Eff} {fr1 : Fr} {ow1 : Ow} (h : LDoes P X n all o (fF fr) (fO ow) e) (hF : fF fr1 = updF (fF fr) o.dst e.d) (hO : fO ow1 = updO (fO ow) e.wr)
    (t : CT P X n all rest fr1 ow1 (tr ++ [(e.rd, e.wr.map (·.1))]) K) : CT P X n all (o :: rest) fr ow tr K := by
  obtain ⟨es, fr', ow', hc, hK⟩ := t
  refine ⟨e :: es, fr', ow', .cons o rest _ _ e es _ _ h (by rw [← hF, ← hO]; exact hc), ?_⟩
  simpa [List.append_assoc] using hK
theorem zhB {F F' : Nat → D} {o : Oper} (h : ∀ t ∈ seesOf all o, F' t = F t) : ∀ x ∈ o.op.operands.toList, evF F' x = evF F x := by
  intro x hx
  cases x with
  | tmp t => exact h t (List.mem_append.2 (.inl (zli hx)))
  | const v => rfl
  | global g => rfl
  | func f => rfl
theorem LDoes.plain {o : Oper} {e : Eff} {F : Nat → D} {O : Nat → Option Own} (hg : o.guard = none) (h : ∀ F' O', (∀ x ∈ o.op.operands.toList, evF F' x = evF F x) → (∀ k ∈ e.rd, O' k = O k) → StepAt P X n o F' O' e.d e.wr) :
    LDoes P X n all o F O e := fun F' O' h1 h2 => by
  unfold Does
  rw [hg]
  exact h F' O' (zhB h1) h2
theorem LDoes.guarded {o : Oper} {e : Eff} {F : Nat → D} {O : Nat → Option Own} {g u : Nat} {want : Bool} (hg : o.guard = some (g, want)) (hu : dstAt all g = some u) (hF : F u = .b want)
    (h : ∀ F' O', (∀ x ∈ o.op.operands.toList, evF F' x = evF F x) → (∀ k ∈ e.rd, O' k = O k) → StepAt P X n o F' O' e.d e.wr) : LDoes P X n all o F O e := fun F' O' h1 h2 => by
  unfold Does
  rw [hg]
  refine ⟨u, hu, .inl ⟨?_, h F' O' (zhB h1) h2⟩⟩
  rw [h1 u (by simp [seesOf, hg, hu])]
  exact hF
theorem LDoes.skip {o : Oper} {F : Nat → D} {O : Nat → Option Own} {g u : Nat} {want : Bool} (hg : o.guard = some (g, want)) (hu : dstAt all g = some u) (hF : F u = .b (!want) ∨ F u = .tu []) (hd : dstOk o.dst n) :
    LDoes P X n all o F O ⟨.tu [], [], []⟩ := fun F' O' h1 h2 => by
  unfold Does
  rw [hg]
  refine ⟨u, hu, .inr ⟨?_, rfl, rfl, hd⟩⟩
  rw [h1 u (by simp [seesOf, hg, hu])]
  exact hF
theorem zcR {o : Oper} {d : D} {p : Prop} {rd : List Nat} {wr : List (Nat × Own)} (hs : step (tb P) (ev fr) (fun k => look k ow) o = some ⟨d, p, rd, wr⟩) (hp : p) (hd : dstOk o.dst n) :
    ∀ F' O', (∀ x ∈ o.op.operands.toList, evF F' x = evF (fF fr) x) → (∀ k ∈ rd, O' k = fO ow k) → StepAt P X n o F' O' d wr := fun _F' _O' h1 h2 =>
  zkx hs hp hd (fun x hx => (h1 x hx).trans (zaX fr x)) h2
theorem ziY {ar : Bool} {o : Oper} {d : D} {p : Prop} {rd : List Nat} {wr : List (Nat × Own)} (hs : stepK ar (tb P) (ev fr) (fun k => look k ow) o = some ⟨d, p, rd, wr⟩) (hp : p) (hd : dstOk o.dst n) :
    ∀ F' O', (∀ x ∈ o.op.operands.toList, evF F' x = evF (fF fr) x) → (∀ k ∈ rd, O' k = fO ow k) → StepAt P X n o F' O' d wr := fun _F' _O' h1 h2 =>
  zeX hs hp hd (fun x hx => (h1 x hx).trans (zaX fr x)) h2
variable {t : Nat} {op : Op} {ty : TypeId} {pos : String} {af : Array Edge} {d : D} {p : Prop} {rd : List Nat} {k : Nat} {ob : Own} {g u : Nat} {want : Bool}
theorem CT.arr (hs : stepK true (tb P) (ev fr) (fun k => look k ow) ⟨some t, op, ty, pos, af, none⟩ = some ⟨d, p, rd, [(k, ob)]⟩) (hn : t < n) (hp : p) (h : CT P X n all rest ((t, d) :: fr) ((k, ob) :: ow) (tr ++ [(rd, [k])]) K) :
    CT P X n all (⟨some t, op, ty, pos, af, none⟩ :: rest) fr ow tr K :=
  CT.cons (e := ⟨d, rd, [(k, ob)]⟩) (.plain rfl (ziY hs hp hn)) (zaE ..) (zaM ..) h
theorem CT.val (hs : step (tb P) (ev fr) (fun k => look k ow) ⟨some t, op, ty, pos, af, none⟩ = some ⟨d, p, rd, []⟩) (hn : t < n) (hp : p) (h : CT P X n all rest ((t, d) :: fr) ow (tr ++ [(rd, [])]) K) :
    CT P X n all (⟨some t, op, ty, pos, af, none⟩ :: rest) fr ow tr K :=
  CT.cons (e := ⟨d, rd, []⟩) (.plain rfl (zcR hs hp hn)) (zaE ..) rfl h
theorem CT.obj (hs : step (tb P) (ev fr) (fun k => look k ow) ⟨some t, op, ty, pos, af, none⟩ = some ⟨d, p, rd, [(k, ob)]⟩) (hn : t < n) (hp : p) (h : CT P X n all rest ((t, d) :: fr) ((k, ob) :: ow) (tr ++ [(rd, [k])]) K) :
    CT P X n all (⟨some t, op, ty, pos, af, none⟩ :: rest) fr ow tr K :=
  CT.cons (e := ⟨d, rd, [(k, ob)]⟩) (.plain rfl (zcR hs hp hn)) (zaE ..) (zaM ..) h
theorem CT.sto (hs : step (tb P) (ev fr) (fun k => look k ow) ⟨none, op, ty, pos, af, none⟩ = some ⟨d, p, rd, [(k, ob)]⟩) (hp : p) (h : CT P X n all rest fr ((k, ob) :: ow) (tr ++ [(rd, [k])]) K) :
    CT P X n all (⟨none, op, ty, pos, af, none⟩ :: rest) fr ow tr K :=
  CT.cons (e := ⟨d, rd, [(k, ob)]⟩) (.plain rfl (zcR hs hp trivial)) rfl (zaM ..) h
theorem CT.gval (hu : dstAt all g = some u) (hc : getD' u fr = .b want) (hs : step (tb P) (ev fr) (fun k => look k ow) ⟨some t, op, ty, pos, af, some (g, want)⟩ = some ⟨d, p, rd, []⟩) (hn : t < n) (hp : p)
    (h : CT P X n all rest ((t, d) :: fr) ow (tr ++ [(rd, [])]) K) : CT P X n all (⟨some t, op, ty, pos, af, some (g, want)⟩ :: rest) fr ow tr K :=
  CT.cons (e := ⟨d, rd, []⟩) (.guarded rfl hu hc (zcR hs hp hn)) (zaE ..) rfl h
theorem CT.gskip (hu : dstAt all g = some u) (hc : getD' u fr = .b (!want) ∨ getD' u fr = .tu []) (hn : t < n) (h : CT P X n all rest ((t, .tu []) :: fr) ow (tr ++ [([], [])]) K) :
    CT P X n all (⟨some t, op, ty, pos, af, some (g, want)⟩ :: rest) fr ow tr K :=
  CT.cons (e := ⟨.tu [], [], []⟩) (.skip rfl hu hc hn) (zaE ..) rfl h
theorem CT.split {dst : Option Tmp} {c : Bool} (hu : dstAt all g = some u) (hc : getD' u fr = .b c)
    (h1 : c = true → CT P X n all (⟨dst, op, ty, pos, af, some (g, want)⟩ :: rest) ((u, .b true) :: fr) ow tr K)
    (h2 : c = false → CT P X n all (⟨dst, op, ty, pos, af, some (g, want)⟩ :: rest) ((u, .b false) :: fr) ow tr K) :
    CT P X n all (⟨dst, op, ty, pos, af, some (g, want)⟩ :: rest) fr ow tr K := by
  have key : ∀ b, getD' u fr = .b b → fF ((u, .b b) :: fr) = fF fr := fun b hb => by
    funext x
    rw [zaE]
    show (if x = u then D.b b else getD' x fr) = getD' x fr
    by_cases e : x = u
    · subst e; rw [if_pos rfl, hb]
    · rw [if_neg e]
  cases c with
  | true =>
    obtain ⟨es, fr', ow', hch, hK⟩ := h1 rfl
    rw [key true hc] at hch
    exact ⟨es, fr', ow', hch, hK⟩
  | false =>
    obtain ⟨es, fr', ow', hch, hK⟩ := h2 rfl
    rw [key false hc] at hch
    exact ⟨es, fr', ow', hch, hK⟩
def evs (fr : Fr) : List Operand → List D
  | [] => []
  | x :: r => ev fr x :: evs fr r
theorem zdF (fr : Fr) : ∀ xs, (evs fr xs).length = xs.length
  | [] => rfl
  | x :: r => by simp [evs, zdF fr r]
def callOf (fr : Fr) : Op → Option (FuncId × List D)
  | .call { callee := .value g, args := ⟨xs⟩, .. } => match ev fr g with
    | .fn f cs => fzA (evs fr xs ++ cs) fun l => some (f, l)
    | _ => none
  | _ => none
theorem zlV {S : Cells} {w : World} {r : Rho} {a : Act} : ∀ {xs : List Operand}, (∀ x ∈ xs, Rel S w r (ev fr x) (a.eval x)) → ∀ j, j < xs.length → Rel S w r ((evs fr xs).getD j .any) ((xs.map a.eval).toArray.getD j undef)
  | x :: xs, h, 0, _ => by simpa [evs] using h x (by simp)
  | x :: xs, h, j + 1, hj => by
    have := zlV (xs := xs) (fun y hy => h y (by simp [hy])) j (by simpa using hj)
    simpa [evs, Array.getD_eq_getD_getElem?, List.getD_eq_getElem?_getD] using this
theorem zbD {o : Oper} {f : FuncId} {args : List D} (hP : ∀ vs w, (callFunc f vs).run P w = .ok (.enter f vs) w) (hc : callOf fr o.op = some (f, args)) {F : Nat → D} (he : ∀ x ∈ o.op.operands.toList, evF F x = evF (fF fr) x)
    {S : Cells} {w : World} {r : Rho} {a : Act} (hr : ∀ x, Rel S w r (evF F x) (a.eval x)) :
    ∃ vs : Array Value, (execOp a.eval o).run P w = .ok (.enter f vs) w ∧ vs.size = args.length ∧ ∀ j, j < args.length → Rel S w r (args.getD j .any) (vs.getD j undef) := by
  have hev : ∀ x ∈ o.op.operands.toList, Rel S w r (ev fr x) (a.eval x) := fun x hx => by
    rw [← zaX, ← he x hx]
    exact hr x
  unfold callOf at hc
  split at hc <;> first | (cases hc; done) | skip
  rename_i gg xs ts ho
  split at hc <;> first | (cases hc; done) | skip
  rename_i f' cs hg
  rw [zcT] at hc
  cases hc
  have h1 := hev gg (by simp [ho, Op.operands, Call.operands])
  rw [hg] at h1
  have hxs : ∀ x ∈ xs, Rel S w r (ev fr x) (a.eval x) := fun x hx => hev x (by simp [ho, Op.operands, Call.operands, hx])
  generalize hgv : a.eval gg = gv at h1
  cases h1 with
  | fn _ _ _ us hn hus =>
    refine ⟨(xs.map a.eval).toArray ++ us, ?_, by simp [zdF, hn], fun j hj => ?_⟩
    · simp only [execOp, ho, Sem.run_bind, resolve, hgv, Deferred.ofValue, Sem.run_pure, Result.andThen_ok, invoke]
      simp [hP]
    · by_cases hlt : j < xs.length
      · have h2 := zlV (S := S) (w := w) (r := r) (a := a) hxs j hlt
        have e1 : (evs fr xs ++ cs).getD j .any = (evs fr xs).getD j .any := by
          simp [List.getD_eq_getElem?_getD, List.getElem?_append_left (show j < (evs fr xs).length by rw [zdF]; exact hlt)]
        have e2 : ((xs.map a.eval).toArray ++ us).getD j undef = ((xs.map a.eval).toArray).getD j undef := by
          rw [Array.getD_eq_getD_getElem?, Array.getD_eq_getD_getElem?, Array.getElem?_append_left (by simpa using hlt)]
        rw [e1, e2]
        exact h2
      · have hj' : j - xs.length < cs.length := by
          have : (evs fr xs ++ cs).length = xs.length + cs.length := by simp [zdF]
          omega
        have e1 : (evs fr xs ++ cs).getD j .any = cs.getD (j - xs.length) .any := by
          simp [List.getD_eq_getElem?_getD, List.getElem?_append_right (show (evs fr xs).length ≤ j by rw [zdF]; omega), zdF]
        have e2 : ((xs.map a.eval).toArray ++ us).getD j undef = us.getD (j - xs.length) undef := by
          rw [Array.getD_eq_getD_getElem?, Array.getD_eq_getD_getElem?, Array.getElem?_append_right (by simp; omega)]
          simp
        rw [e1, e2]
        exact hus _ hj'
theorem zkk {S : Cells} {w : World} {r : Rho} {args : List D} {vs : Array Value} (h : ∀ j, j < args.length → Rel S w r (args.getD j .any) (vs.getD j undef)) (hf : (args.map D.shut).all D.free = true) :
    ∀ j, j < (args.map D.shut).length → Rel S w noRho ((args.map D.shut).getD j .any) (vs.getD j undef) := by
  intro j hj
  have hj' : j < args.length := by simpa using hj
  have e : (args.map D.shut).getD j .any = (args.getD j .any).shut := by simp [List.getD_eq_getElem?_getD, hj']
  have h1 := (h j hj').shut
  rw [e]
  refine h1.free ?_ noRho
  rw [List.all_eq_true] at hf
  rw [← e]
  refine hf _ ?_
  simp only [List.getD_eq_getElem?_getD, List.getElem?_eq_getElem hj, Option.getD_some]
  exact List.getElem_mem hj
theorem zij {o : Oper} {f : FuncId} {args : List D} (hP : ∀ vs w, (callFunc f vs).run P w = .ok (.enter f vs) w) (hc : callOf fr o.op = some (f, args)) (hf : (args.map D.shut).all D.free = true)
    (hC : Ctr P f (args.map D.shut) d) (hd : dstOk o.dst n) : ∀ F' O', (∀ x ∈ o.op.operands.toList, evF F' x = evF (fF fr) x) → (∀ k ∈ ([] : List Nat), O' k = fO ow k) → StepAt P X n o F' O' d [] := by
  intro F' O' he _ a w K' Q' ⟨S, r, hH, hI, hF, hdf, hn, hρ⟩ hK
  obtain ⟨vs, hrun, hsz, hrel⟩ := zbD hP hc he (fun x => zcw hH.glob hF x)
  refine OW.enter hrun ((hC w S vs hH.valid hH.glob (by simpa using hsz) (zkk hrel hf)).mono ?_)
  rintro e w' ⟨v, S', rfl, h1, h2⟩
  have hch : Chg w w' S none := ⟨h2.os, h2.tape, h2.output, h2.size, fun k hk _ => h2.block k hk (fun h => h), h2.cell⟩
  refine hK v w' ⟨S', r, ?_, ?_, zcx (fun t => (hF t).mono h2.sub h2.cell r (RhoLe.refl r)) (hn ▸ hd) (h1.mono (fun _ _ h => h) (fun _ _ _ => rfl) r (fun k l h => by simp [noRho] at h)), by rw [zbg]; exact hdf, by rw [zbR]; exact hn, hρ⟩
  · refine hH.chg hch (fun b hb => by cases hb) h2.sub (fun b o hb => ?_)
    rcases h2.new b o hb with h | h | h
    · exact .inl h
    · exact .inr ⟨.inl (Nat.le_trans hH.size h), h2.valid b o hb⟩
    · exact h.elim
  · refine hI.grow hch h2.sub (fun b o hb => ?_)
    rcases h2.new b o hb with h | h | h
    · exact .inl h
    · exact .inr h
    · exact h.elim

def D.scal0 : D → Bool
  | .any | .i .. | .b _ | .s _ | .nilS | .v _ | .e0 _ => true
  | _ => false
def D.scal : D → Bool
  | .tu cs | .ag cs => cs.all D.scal0
  | d => d.scal0
theorem Rel.scal {S : Cells} {w : World} {r : Rho} {d : D} {v : Value} (h : Rel S w r d v) (hs : d.scal = true) : ∀ S' w' r', Rel S' w' r' d v := by
  have one : ∀ (c : D) (u : Value), Rel S w r c u → c.scal0 = true → ∀ S' w' r', Rel S' w' r' c u := by
    intro c u hc hp S' w' r'
    cases hc <;> first | (simp [D.scal0] at hp; done) | constructor
  have many : ∀ (cs : List D) (vs : Array Value), (∀ j, j < cs.length → Rel S w r (cs.getD j .any) (vs.getD j undef)) → cs.all D.scal0 = true → ∀ S' w' r', ∀ j, j < cs.length → Rel S' w' r' (cs.getD j .any) (vs.getD j undef) := by
    intro cs vs hc hp S' w' r' j hj
    refine one _ _ (hc j hj) ?_ S' w' r'
    rw [List.all_eq_true] at hp
    refine hp _ ?_
    simp only [List.getD_eq_getElem?_getD, List.getElem?_eq_getElem hj, Option.getD_some]
    exact List.getElem_mem hj
  intro S' w' r'
  cases h with
  | tu _ cs vs hn h => exact .tu _ cs vs hn (many cs vs h hs S' w' r')
  | ag _ cs vs hn h => exact .ag _ cs vs hn (many cs vs h hs S' w' r')
  | any => exact .any ..
  | i => exact .i ..
  | b => exact .b ..
  | s => exact .s ..
  | nilS => exact .nilS _
  | v => exact .v ..
  | e0 => exact .e0 ..
  | _ => simp [D.scal, D.scal0] at hs
def D.shut1 (own : Nat → Option Own) : D → D
  | .ah k z n => match own k with
    | some (.arr _ _ _ f) => .sl z n f
    | _ => .ah k z n
  | .pv k o => match own k with
    | some (.var cs) => .rf cs o
    | _ => .pv k o
  | .gs _ e n f => .sl e n f
  | d => d
def D.shutO (own : Nat → Option Own) : D → D
  | .fn f cs => .fn f (cs.map (D.shut1 own))
  | d => d.shut1 own
def ok1 (own : Nat → Option Own) : D → Prop
  | .ah k z n => match own k with
    | some (.arr _ z' L _) => z' = z ∧ n = L
    | _ => False
  | .pv k _ => match own k with
    | some (.var cs) => cs.all D.plain = true
    | _ => False
  | _ => True
def ok1s (own : Nat → Option Own) : List D → Prop
  | [] => True
  | d :: r => ok1 own d ∧ ok1s own r
def okO (own : Nat → Option Own) : D → Prop
  | .fn _ cs => ok1s own cs
  | d => ok1 own d
def okOs (own : Nat → Option Own) : List D → Prop
  | [] => True
  | d :: r => okO own d ∧ okOs own r
def key1 : List D → List Nat
  | [] => []
  | .ah k _ _ :: r => k :: key1 r
  | .pv k _ :: r => k :: key1 r
  | _ :: r => key1 r
def keysO : List D → List Nat
  | [] => []
  | .ah k _ _ :: r => k :: keysO r
  | .pv k _ :: r => k :: keysO r
  | .fn _ cs :: r => key1 cs ++ keysO r
  | _ :: r => keysO r
theorem zkh {k : Nat} {d : D} (hd : (∃ z m, d = .ah k z m) ∨ ∃ o, d = .pv k o) : ∀ {l : List D}, d ∈ l → k ∈ key1 l
  | [], h => by cases h
  | e :: r, h => by
    rcases List.mem_cons.1 h with h | h
    · subst h
      rcases hd with ⟨z, m, rfl⟩ | ⟨o, rfl⟩ <;> simp [key1]
    · have := zkh hd h
      cases e <;> simp [key1, this]
theorem zho {k : Nat} {d : D} (hd : (∃ z m, d = .ah k z m) ∨ ∃ o, d = .pv k o) : ∀ {l : List D}, d ∈ l → k ∈ keysO l
  | [], h => by cases h
  | e :: r, h => by
    rcases List.mem_cons.1 h with h | h
    · subst h
      rcases hd with ⟨z, m, rfl⟩ | ⟨o, rfl⟩ <;> simp [keysO]
    · have := zho hd h
      cases e <;> simp [keysO, this]
theorem zhS {k : Nat} {f : FuncId} {cs : List D} (hk : k ∈ key1 cs) : ∀ {l : List D}, .fn f cs ∈ l → k ∈ keysO l
  | [], h => by cases h
  | e :: r, h => by
    rcases List.mem_cons.1 h with h | h
    · subst h
      simp [keysO, hk]
    · have := zhS hk h
      cases e <;> simp [keysO, this]
theorem zkf {own : Nat → Option Own} : ∀ {l : List D}, ok1s own l → ∀ d ∈ l, ok1 own d
  | [], _, _, h => by cases h
  | _ :: _, h, d, hd => by
    rcases List.mem_cons.1 hd with e | e
    · subst e; exact h.1
    · exact zkf h.2 d e
theorem zkl {own : Nat → Option Own} : ∀ {l : List D}, okOs own l → ∀ d ∈ l, okO own d
  | [], _, _, h => by cases h
  | _ :: _, h, d, hd => by
    rcases List.mem_cons.1 hd with e | e
    · subst e; exact h.1
    · exact zkl h.2 d e
def S2of (S : Cells) (w : World) (r : Rho) : Cells := fun b o => S b o ∨ (b < w.heap.size ∧ ∃ k l, r k = some l ∧ l.block = some b)
theorem zhC {own O' : Nat → Option Own} {S : Cells} {w : World} {r : Rho} {dj : D} {vj : Value} (hI : Inv X w S r O') (h1 : Rel S w r dj vj) (hok : ok1 own dj) (hO : ∀ k, ((∃ z m, dj = .ah k z m) ∨ ∃ o, dj = .pv k o) → O' k = own k)
    (hfr : (D.shut1 own dj).plain = true ∨ dj = .any ∨ ∃ x, dj = .v x) : Rel (S2of S w r) w noRho (D.shut1 own dj) vj := by
  have hmono : ∀ d v, Rel S w r d v → Rel (S2of S w r) w r d v := fun d v h => h.mono (fun _ _ h => .inl h) (fun _ _ _ => rfl) r (RhoLe.refl r)
  by_cases hah : ∃ k z m, dj = .ah k z m
  · obtain ⟨k, z, m, rfl⟩ := hah
    have hOk := hO k (.inl ⟨z, m, rfl⟩)
    simp only [ok1] at hok
    simp only [D.shut1]
    split at hok
    · rename_i e' z' L ff hl
      obtain ⟨rfl, rfl⟩ := hok
      try rw [hl]
      show Rel (S2of S w r) w noRho (.sl z' m ff) vj
      have hOk' : O' k = some (.arr e' z' m ff) := hOk.trans hl
      obtain ⟨tv, g1, g2⟩ := hI.obj k _ hOk'
      cases h1 with
      | ah _ _ _ _ cap ax tv' L' hk0 hL hta hag =>
        rw [hk0] at g1
        cases g1
        rcases g2 with ⟨rfl, h0⟩ | ⟨g, cap', cur, rfl, q1, q2, q3, q4, q5, q6, q7⟩
        · subst h0
          rcases hta rfl with e1 | ⟨_, a2, e1⟩
          · cases e1
            exact .sl _ _ _ _ _ _ (fun _ _ => undef) (Nat.le_refl _) (by unfold maxLen; omega) (fun i hi => by omega) (fun i j hi => by omega) (fun i j hi => by omega)
          · cases e1
            exact .sl _ _ _ _ _ _ (fun _ _ => undef) (Nat.le_refl _) (by unfold maxLen; omega) (fun i hi => by omega) (fun i j hi => by omega) (fun i j hi => by omega)
        · rcases hta rfl with e1 | ⟨e1, _⟩
          · cases e1
            refine .sl _ _ _ _ _ _ (fun i j => cur.getD (i * z' + j) undef) q2 q3 q5 (fun i j hi hj => ⟨g, 0, rfl, .inr ⟨(Array.getElem?_eq_some_iff.1 q1).1, k, _, hk0, rfl⟩, ?_⟩) (fun i j hi hj => (q6 i j hi hj).mono (fun _ _ h => .inl h) (fun _ _ _ => rfl) noRho (RhoLe.refl _))
            rw [Nat.zero_add, cell_of_row w g _ cur e' (0, 0) q1]
            have : (i + 1) * z' ≤ cap * z' := Nat.mul_le_mul_right z' (by omega)
            rw [Nat.add_mul] at this
            have : i * z' + j < cur.size := by omega
            simp [Array.getD_eq_getD_getElem?, this]
          · cases e1
    · exact hok.elim
  by_cases hpv : ∃ k o, dj = .pv k o
  · obtain ⟨k, o, rfl⟩ := hpv
    have hOk := hO k (.inr ⟨o, rfl⟩)
    simp only [ok1] at hok
    simp only [D.shut1]
    split at hok
    · rename_i cs hl
      try rw [hl]
      show Rel (S2of S w r) w noRho (.rf cs o) vj
      have hOk' : O' k = some (.var cs) := hOk.trans hl
      obtain ⟨b, cur, e', g1, g2, g3, g4, g5⟩ := hI.obj k _ hOk'
      cases h1 with
      | pv _ _ _ b' hb =>
        rw [hb] at g1
        cases g1
        have := Rel.rf (S := S2of S w r) (w := w) noRho cs o b 0 (fun j => cur.getD j undef) hok (fun j hj => ⟨.inr ⟨(Array.getElem?_eq_some_iff.1 g2).1, k, _, hb, rfl⟩, by
          rw [Nat.zero_add, cell_of_row w b _ cur e' (0, 0) g2]
          have : j < cur.size := by omega
          simp [Array.getD_eq_getD_getElem?, this]⟩) (fun j hj => by
            refine ((g4 j hj).1.plain ?_ noRho).mono (fun _ _ h => .inl h) (fun _ _ _ => rfl) noRho (RhoLe.refl _)
            rw [List.all_eq_true] at hok
            refine hok _ ?_
            simp only [List.getD_eq_getElem?_getD, List.getElem?_eq_getElem hj, Option.getD_some]
            exact List.getElem_mem hj)
        simpa using this
    · exact hok.elim
  have hsh : D.shut1 own dj = dj.shut := by
    cases dj <;> first | rfl | exact absurd ⟨_, _, _, rfl⟩ hah | exact absurd ⟨_, _, rfl⟩ hpv
  rw [hsh] at hfr ⊢
  rcases hfr with h | rfl | ⟨x, rfl⟩
  · exact (hmono _ _ h1.shut).plain h noRho
  · exact .any ..
  · cases h1
    exact .v ..
theorem zlt {o : Oper} {f : FuncId} {args : List D} (hP : ∀ vs w, (callFunc f vs).run P w = .ok (.enter f vs) w) (hc : callOf fr o.op = some (f, args)) (hp : okOs (fun k => look k ow) args) (hf : (args.map (D.shutO fun k => look k ow)).all D.free = true)
    (hC : Ctr P f (args.map (D.shutO fun k => look k ow)) d) (hs : d.scal = true) (hd : dstOk o.dst n) : ∀ F' O', (∀ x ∈ o.op.operands.toList, evF F' x = evF (fF fr) x) → (∀ k ∈ keysO args, O' k = fO ow k) → StepAt P X n o F' O' d [] := by
  intro F' O' he hO a w K' Q' ⟨S, r, hH, hI, hF, hdf, hn, hρ⟩ hK
  obtain ⟨vs, hrun, hsz, hrel⟩ := zbD hP hc he (fun x => zcw hH.glob hF x)
  let S2 : Cells := S2of S w r
  have hmono : ∀ d v, Rel S w r d v → Rel S2 w r d v := fun d v h => h.mono (fun _ _ h => .inl h) (fun _ _ _ => rfl) r (RhoLe.refl r)
  have hrel2 : ∀ j, j < (args.map (D.shutO fun k => look k ow)).length → Rel S2 w noRho ((args.map (D.shutO fun k => look k ow)).getD j .any) (vs.getD j undef) := by
    intro j hj
    have hj' : j < args.length := by simpa using hj
    have e : (args.map (D.shutO fun k => look k ow)).getD j .any = D.shutO (fun k => look k ow) (args.getD j .any) := by simp [List.getD_eq_getElem?_getD, hj']
    have hmem : args.getD j .any ∈ args := by
      simp only [List.getD_eq_getElem?_getD, List.getElem?_eq_getElem hj', Option.getD_some]
      exact List.getElem_mem hj'
    have hfr : (D.shutO (fun k => look k ow) (args.getD j .any)).free = true := by
      rw [List.all_eq_true] at hf
      exact hf _ (List.mem_map.2 ⟨_, hmem, rfl⟩)
    rw [e]
    have h1 := hrel j hj'
    have hok := zkl hp _ hmem
    generalize args.getD j .any = dj at h1 hok hmem hfr
    generalize vs.getD j undef = vj at h1
    by_cases hfn : ∃ g cs, dj = .fn g cs
    · obtain ⟨g, cs, rfl⟩ := hfn
      simp only [okO] at hok
      simp only [D.shutO] at hfr ⊢
      cases h1 with
      | fn _ _ _ us hn' hus =>
        refine .fn _ g _ us (by simpa using hn') (fun i hi => ?_)
        have hi' : i < cs.length := by simpa using hi
        have e2 : (cs.map (D.shut1 fun k => look k ow)).getD i .any = D.shut1 (fun k => look k ow) (cs.getD i .any) := by simp [List.getD_eq_getElem?_getD, hi']
        have hmi : cs.getD i .any ∈ cs := by
          simp only [List.getD_eq_getElem?_getD, List.getElem?_eq_getElem hi', Option.getD_some]
          exact List.getElem_mem hi'
        rw [e2]
        refine zhC hI (hus i hi') (zkf hok _ hmi) (fun k hk => hO k (zhS (zkh hk hmi) hmem)) ?_
        have hfr' : ((cs.map (D.shut1 fun k => look k ow)).all fun c => match c with | .any | .v _ => true | c => c.plain) = true := hfr
        rw [List.all_eq_true] at hfr'
        have h3 := hfr' _ (List.mem_map.2 ⟨_, hmi, rfl⟩)
        generalize cs.getD i .any = c at h3
        have hv : ∀ x, D.shut1 (fun k => look k ow) c = .v x → c = .v x := fun x hx => by
          cases c <;> first | rfl | (simp only [D.shut1] at hx; first | exact hx | (cases hx; done) | (split at hx <;> cases hx))
        have hany : D.shut1 (fun k => look k ow) c = .any → c = .any := fun hx => by
          cases c <;> first | rfl | (simp only [D.shut1] at hx; first | exact hx | (cases hx; done) | (split at hx <;> cases hx))
        split at h3
        · rename_i hq
          exact .inr (.inl (hany hq))
        · rename_i x hq
          exact .inr (.inr ⟨x, hv x hq⟩)
        · exact .inl h3
    · have hso : D.shutO (fun k => look k ow) dj = D.shut1 (fun k => look k ow) dj := by
        cases dj <;> first | rfl | exact absurd ⟨_, _, rfl⟩ hfn
      have hoo : ok1 (fun k => look k ow) dj := by
        cases dj <;> first | exact hok | exact absurd ⟨_, _, rfl⟩ hfn
      rw [hso] at hfr ⊢
      by_cases hahpv : (∃ k z m, dj = .ah k z m) ∨ ∃ k o, dj = .pv k o
      · refine zhC hI h1 hoo (fun k hk => hO k (zho hk hmem)) (.inl ?_)
        rcases hahpv with ⟨k, z, m, rfl⟩ | ⟨k, o', rfl⟩ <;> simp only [D.shut1] at hfr ⊢ <;> split at hfr <;> first | exact hfr | (simp [D.free] at hfr; done) | (simp only [*] at *; exact hfr) | (simp [D.plain])
      · have hsh : D.shut1 (fun k => look k ow) dj = dj.shut := by
          cases dj <;> first | rfl | exact absurd (.inl ⟨_, _, _, rfl⟩) hahpv | exact absurd (.inr ⟨_, _, rfl⟩) hahpv
        rw [hsh] at hfr ⊢
        exact (hmono _ _ h1.shut).free hfr noRho
  have hv2 : ∀ b o, S2 b o → b < w.heap.size := fun b o h => by
    rcases h with h | h
    · exact hH.valid b o h
    · exact h.1
  refine OW.enter hrun ((hC w S2 vs hv2 (hH.glob.mono (fun _ _ h => .inl h) (fun _ _ _ => rfl)) (by simpa using hsz) hrel2).mono ?_)
  rintro e w' ⟨v, S', rfl, h1, h2⟩
  have hch : Chg w w' S none := ⟨h2.os, h2.tape, h2.output, h2.size, fun k hk _ => h2.block k hk (fun h => h), fun b o hb => h2.cell b o (.inl hb)⟩
  refine hK v w' ⟨S, r, ?_, ?_, zcx (fun t => (hF t).mono (fun _ _ h => h) hch.cell r (RhoLe.refl r)) (hn ▸ hd) (h1.scal hs S w' r), by rw [zbg]; exact hdf, by rw [zbR]; exact hn, hρ⟩
  · exact hH.chg hch (fun b hb => by cases hb) (fun _ _ h => h) (fun b o hb => .inl hb)
  · exact hI.grow hch (fun _ _ h => h) (fun b o hb => .inl hb)
theorem zkC {o : Oper} {f : FuncId} {args : List D} {k t z L : Nat} {e : TypeId} {g : Nat → List D} (hP : ∀ vs w, (callFunc f vs).run P w = .ok (.enter f vs) w) (hc : callOf fr o.op = some (f, args)) (hf : (args.map D.shut).all D.free = true)
    (hC : CtrO P f (args.map D.shut) [] (.ah k z L) [(k, .arr e z L g)]) (ht : look t ow = none) (hd : dstOk o.dst n) : ∀ F' O', (∀ x ∈ o.op.operands.toList, evF F' x = evF (fF fr) x) → (∀ j ∈ [t], O' j = fO ow j) → StepAt P X n o F' O' (.ah t z L) [(t, .arr e z L g)] := by
  intro F' O' he hO a w K' Q' ⟨S, r, hH, hI, hF, hdf, hn, hρ⟩ hK
  obtain ⟨vs, hrun, hsz, hrel⟩ := zbD hP hc he (fun x => zcw hH.glob hF x)
  let X' : Ctx := { w0 := w, S0 := S, L := fun _ => False, r0 := noRho, ids := [] }
  refine OW.enter hrun ((hC X' vs rfl ⟨rfl, rfl, rfl, Nat.le_refl _, fun _ _ _ => rfl, fun _ _ h => h, fun _ _ _ => rfl, fun _ _ h => .inl h, hH.valid, hH.glob⟩ (zgP X' w S) (by simpa using hsz) (zkk hrel hf)).mono ?_)
  rintro e' w' ⟨v, S', r', rfl, g1, g2, g3, _⟩
  obtain ⟨tv, q1, q2⟩ := g3.obj k (.arr e z L g) (by show look k [(k, _)] = _; simp [look])
  cases g1 with
  | ah _ _ _ _ cap ax tv' L' hk0 hL hta hag =>
    rw [hk0] at q1
    cases q1
    have hch : Chg w w' S none := ⟨g2.os, g2.tape, g2.output, g2.size, fun j hj _ => g2.block j hj (fun h => h), g2.cell⟩
    have hrt : r t = none := hI.dom t ((hO t (by simp)).trans ht)
    have hle : RhoLe r (updR r t (.row tv L)) := RhoLe.new hrt
    have hr2 : updR r t (.row tv L) t = some (.row tv L) := by simp [updR]
    have hnew : ∀ b o, S' b o → S b o ∨ w.heap.size ≤ b := fun b o h => by
      rcases g2.new b o h with h | h | h
      · exact .inl h
      · exact .inr h
      · exact h.elim
    refine hK _ w' ⟨S', updR r t (.row tv L), ?_, ?_, zcx (fun u => (hF u).mono g2.sub g2.cell _ hle) (hn ▸ hd) (.ah _ t z L cap ax tv L hr2 (Nat.le_refl _) hta hag), by rw [zbg]; exact hdf, by rw [zbR]; exact hn, hρ.trans hle⟩
    · refine hH.chg hch (fun b hb => by cases hb) g2.sub (fun b o hb => ?_)
      rcases hnew b o hb with h | h
      · exact .inl h
      · exact .inr ⟨.inl (Nat.le_trans hH.size h), g2.valid b o hb⟩
    · refine hI.put hch g2.sub hle t _ (.row tv L) ⟨tv, hr2, q2⟩ hr2 (fun j hj => by simp [updR, hj]) (fun b hb => .inl ?_) (fun b hb => by cases hb) (fun b o h => (hnew b o h).elim .inl (fun h => .inr (.inr h)))
      rcases g3.low k _ b hk0 hb with h | h
      · exact ⟨h, .inl (Nat.le_trans hH.size h)⟩
      · exact h.elim
theorem CT.callN {f : FuncId} {args : List D} {k z L : Nat} {e : TypeId} {g : Nat → List D} (hc : callOf fr op = some (f, args)) (hn : t < n) (hP : ∀ vs w, (callFunc f vs).run P w = .ok (.enter f vs) w) (hf : (args.map D.shut).all D.free = true)
    (hC : CtrO P f (args.map D.shut) [] (.ah k z L) [(k, .arr e z L g)]) (ht : look t ow = none)
    (h : CT P X n all rest ((t, .ah t z L) :: fr) ((t, .arr e z L g) :: ow) (tr ++ [([t], [t])]) K) : CT P X n all (⟨some t, op, ty, pos, af, none⟩ :: rest) fr ow tr K :=
  CT.cons (e := ⟨.ah t z L, [t], [(t, .arr e z L g)]⟩) (.plain rfl (zkC (o := ⟨some t, op, ty, pos, af, none⟩) (ow := ow) hP hc hf hC ht hn)) (zaE ..) (zaM ..) h
theorem CT.callS {f : FuncId} {args : List D} (hc : callOf fr op = some (f, args)) (hn : t < n) (hP : ∀ vs w, (callFunc f vs).run P w = .ok (.enter f vs) w) (hp : okOs (fun k => look k ow) args) (hf : (args.map (D.shutO fun k => look k ow)).all D.free = true)
    (hC : Ctr P f (args.map (D.shutO fun k => look k ow)) d) (hs : d.scal = true)
    (h : CT P X n all rest ((t, d) :: fr) ow (tr ++ [(keysO args, [])]) K) : CT P X n all (⟨some t, op, ty, pos, af, none⟩ :: rest) fr ow tr K :=
  CT.cons (e := ⟨d, keysO args, []⟩) (.plain rfl (zlt (o := ⟨some t, op, ty, pos, af, none⟩) (ow := ow) hP hc hp hf hC hs hn)) (zaE ..) rfl h
theorem CT.call {f : FuncId} {args : List D} (hc : callOf fr op = some (f, args)) (hn : t < n) (hP : ∀ vs w, (callFunc f vs).run P w = .ok (.enter f vs) w) (hf : (args.map D.shut).all D.free = true) (hC : Ctr P f (args.map D.shut) d)
    (h : CT P X n all rest ((t, d) :: fr) ow (tr ++ [([], [])]) K) : CT P X n all (⟨some t, op, ty, pos, af, none⟩ :: rest) fr ow tr K :=
  CT.cons (e := ⟨d, [], []⟩) (.plain rfl (zij (o := ⟨some t, op, ty, pos, af, none⟩) (ow := ow) hP hc hf hC hn)) (zaE ..) rfl h
theorem CT.gcall {f : FuncId} {args : List D} (hu : dstAt all g = some u) (hg : getD' u fr = .b want) (hc : callOf fr op = some (f, args)) (hn : t < n) (hP : ∀ vs w, (callFunc f vs).run P w = .ok (.enter f vs) w)
    (hf : (args.map D.shut).all D.free = true) (hC : Ctr P f (args.map D.shut) d)
    (h : CT P X n all rest ((t, d) :: fr) ow (tr ++ [([], [])]) K) : CT P X n all (⟨some t, op, ty, pos, af, some (g, want)⟩ :: rest) fr ow tr K :=
  CT.cons (e := ⟨d, [], []⟩) (.guarded rfl hu hg (zij (o := ⟨some t, op, ty, pos, af, some (g, want)⟩) (ow := ow) hP hc hf hC hn)) (zaE ..) rfl h
def thenQ (K : Fr → Ow → Prop) (Q : Exit → Fr → Ow → Prop) : Exit → Fr → Ow → Prop
  | .normal, fr, ow => K fr ow
  | e, fr, ow => Q e fr ow
def blockQ (id : Nat) (Q : Exit → Fr → Ow → Prop) : Exit → Fr → Ow → Prop
  | .exit j, fr, ow => match Nat.beq j id with
    | true => Q .normal fr ow
    | false => Q (.exit j) fr ow
  | e, fr, ow => Q e fr ow
theorem T.seq {x y : Code} (h : T P X n x fr ow (thenQ (fun fr ow => T P X n y fr ow Q) Q)) : T P X n (.seq x y) fr ow Q := fun a w hr => by
  refine Wc.seq ((h a w hr).mono fun e a w hq => ?_)
  obtain ⟨fr', ow', h1, h2⟩ := hq
  cases e with
  | normal => exact h1 a w h2
  | _ => exact ⟨fr', ow', h1, h2⟩
theorem T.skip (h : Q .normal fr ow) : T P X n .skip fr ow Q := fun _ _ hr => Wc.skip ⟨fr, ow, h, hr⟩
theorem T.ret (h : Q .ret fr ow) : T P X n .ret fr ow Q := fun _ _ hr => Wc.ret ⟨fr, ow, h, hr⟩
theorem T.exit {id : Nat} (h : Q (.exit id) fr ow) : T P X n (.exit id) fr ow Q := fun _ _ hr => Wc.exit ⟨fr, ow, h, hr⟩
theorem T.region {id : Nat} {ops : List Oper} (h : CT P X n ops ops fr ow [] (fun fr ow _ => Q .normal fr ow)) : T P X n (.region id ⟨ops⟩ false) fr ow Q := fun a w hr => by
  obtain ⟨es, fr', ow', hc, hK⟩ := h
  exact zfz hc (fun a' w' h' => ⟨fr', ow', hK, h'⟩) hr
theorem T.draw {id : Nat} {ops : List Oper} (hm : P.follows .mixedOrders = true) (h : CT P X n ops ops fr ow [] (fun fr ow tr => flowOk ops tr = true ∧ Q .normal fr ow)) : T P X n (.region id ⟨ops⟩ true) fr ow Q := fun a w hr => by
  obtain ⟨es, fr', ow', hc, hok, hK⟩ := h
  exact zcV hm hc (by simpa using hok) (fun a' w' h' => ⟨fr', ow', hK, h'⟩) hr
theorem T.cond {c : Operand} {x y : Code} {b : Bool} (hc : ev fr c = .b b) (h1 : b = true → T P X n x fr ow Q) (h2 : b = false → T P X n y fr ow Q) : T P X n (.cond c x y) fr ow Q := fun a w hr => by
  have he : a.eval c = .bool b := by
    obtain ⟨S, r, hH, _, hF, _, _, _⟩ := hr
    have h := zcw hH.glob hF c
    rw [zaX, hc] at h
    generalize a.eval c = v at h
    cases h
    rfl
  exact Wc.cond_split he (fun hb => h1 hb a w hr) (fun hb => h2 hb a w hr)
theorem T.block {id : Nat} {c : Code} (h : T P X n c fr ow (blockQ id Q)) : T P X n (.block id c) fr ow Q := fun a w hr => by
  refine Wc.block ((h a w hr).mono fun e a w hq => ?_)
  obtain ⟨fr', ow', h1, h2⟩ := hq
  cases e with
  | exit j =>
    simp only [blockQ] at h1
    simp only [Exit.inBlock]
    cases hb : Nat.beq j id with
    | true =>
      rw [hb] at h1
      rw [if_pos (Nat.eq_of_beq_eq_true hb)]
      exact ⟨fr', ow', h1, h2⟩
    | false =>
      rw [hb] at h1
      rw [if_neg (fun e => by subst e; rw [Nat.beq_refl] at hb; cases hb)]
      exact ⟨fr', ow', h1, h2⟩
  | _ => exact ⟨fr', ow', h1, h2⟩
end
end Go.Proofs.YtkkaamhocpmhkaaGreatDoor.Flow
