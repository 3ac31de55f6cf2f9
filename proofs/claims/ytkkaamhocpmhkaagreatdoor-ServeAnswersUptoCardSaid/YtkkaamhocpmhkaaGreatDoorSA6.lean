/- The texts FlowL, one behind the other. -/
import Derived.Test.YtkkaamhocpmhkaaGreatDoorSA5
import Derived.Deep.LoopGhost
namespace Go.Proofs.YtkkaamhocpmhkaaGreatDoor.Flow
abbrev Fr := List (Nat × D)
abbrev Ow := List (Nat × Own)
def fF (fr : Fr) : Nat → D := fun t => getD' t fr
def fO (ow : Ow) : Nat → Option Own := fun k => look k ow
theorem zaD (fr : Fr) (t : Nat) (d : D) : fF ((t, d) :: fr) = updF (fF fr) (some t) d := by
  funext u
  show getD' u ((t, d) :: fr) = if u = t then d else getD' u fr
  simp only [getD']
  by_cases h : u = t
  · subst h
    have : Nat.beq u u = true := Nat.beq_refl u
    rw [this]
    simp
  · have : Nat.beq t u = false := by
      cases hb : Nat.beq t u with
      | false => rfl
      | true => exact absurd (Nat.eq_of_beq_eq_true hb).symm h
    rw [this]
    simp [h]
theorem zaA (ow : Ow) (k : Nat) (o : Own) : fO ((k, o) :: ow) = updO (fO ow) [(k, o)] := by
  funext u
  show look u ((k, o) :: ow) = if u = k then some o else look u ow
  simp only [look]
  by_cases h : u = k
  · subst h
    have : Nat.beq u u = true := Nat.beq_refl u
    rw [this]
    simp
  · have : Nat.beq k u = false := by
      cases hb : Nat.beq k u with
      | false => rfl
      | true => exact absurd (Nat.eq_of_beq_eq_true hb).symm h
    rw [this]
    simp [h]
theorem zaP (fr : Fr) (x : Operand) : evF (fF fr) x = ev fr x := by cases x <;> rfl

def D.free1 : D → Bool
  | .any | .v _ => true
  | c => c.plain
def D.free : D → Bool
  | .any => true
  | .ag cs | .fn _ cs => cs.all D.free1
  | .tu cs => cs.all fun c => match c with
    | .ag ds => ds.all D.free1
    | c => c.free1
  | .pv .. | .gs .. | .ah .. | .ap .. | .mh _ => false
  | _ => true
theorem Rel.free {S : Cells} {w : World} {r : Rho} {d : D} {v : Value} (h : Rel S w r d v) (hf : d.free = true) : ∀ r', Rel S w r' d v := by
  have one : ∀ (c : D) (u : Value), Rel S w r c u → D.free1 c = true → ∀ r', Rel S w r' c u := by
    intro c u hc hp r'
    unfold D.free1 at hp
    split at hp
    · exact .any ..
    · cases hc; exact .v ..
    · exact hc.plain hp r'
  have all1 : ∀ {p : D → Bool} {cs : List D}, cs.all p = true → ∀ j, j < cs.length → p (cs.getD j .any) = true := by
    intro p cs hp j hj
    rw [List.all_eq_true] at hp
    refine hp _ ?_
    simp only [List.getD_eq_getElem?_getD, List.getElem?_eq_getElem hj, Option.getD_some]
    exact List.getElem_mem hj
  have many : ∀ (cs : List D) (vs : Array Value), (∀ j, j < cs.length → Rel S w r (cs.getD j .any) (vs.getD j undef)) → cs.all D.free1 = true →
      ∀ r', ∀ j, j < cs.length → Rel S w r' (cs.getD j .any) (vs.getD j undef) := fun cs vs hc hp r' j hj => one _ _ (hc j hj) (all1 hp j hj) r'
  have two : ∀ (c : D) (u : Value), Rel S w r c u → (match c with | .ag ds => ds.all D.free1 | c => c.free1) = true → ∀ r', Rel S w r' c u := by
    intro c u hc hp r'
    split at hp
    · cases hc with
      | ag _ _ vs hn h => exact .ag r' _ vs hn (many _ vs h hp r')
    · exact one _ _ hc hp r'
  cases h with
  | any => exact fun r' => .any ..
  | i => exact fun r' => .i ..
  | b => exact fun r' => .b ..
  | s => exact fun r' => .s ..
  | nilS => exact fun r' => .nilS _
  | v => exact fun r' => .v ..
  | fn _ f cs vs hn h => exact fun r' => .fn r' f cs vs hn (many cs vs h hf r')
  | ag _ cs vs hn h => exact fun r' => .ag r' cs vs hn (many cs vs h hf r')
  | tu _ cs vs hn h => exact fun r' => .tu r' cs vs hn fun j hj => two _ _ (h j hj) (all1 (p := fun c => match c with | .ag ds => ds.all D.free1 | c => c.free1) hf j hj) r'
  | sl _ esz len f a cap c hc hm hl hcell hr => exact fun r' => .sl r' esz len f a cap c hc hm hl hcell hr
  | rf _ cs off b o c hp hcell hr => exact fun r' => .rf r' cs off b o c hp hcell hr
  | pv => simp [D.free] at hf
  | mh => simp [D.free] at hf
  | gs => simp [D.free] at hf
  | ah => simp [D.free] at hf
  | ap => simp [D.free] at hf
  | e0 => exact fun r' => .e0 ..
  | se _ z b a cap hm hb => exact fun r' => .se r' z b a cap hm hb
  | rn _ k len f off b h => exact fun r' => .rn r' k len f off b h
def Ctr (P : Program) (f : FuncId) (args : List D) (d : D) : Prop :=
  ∀ (w : World) (S : Cells) (vs : Array Value), (∀ b o, S b o → b < w.heap.size) → GOk S w → vs.size = args.length → (∀ j, j < args.length → Rel S w noRho (args.getD j .any) (vs.getD j undef)) →
    Calls P f vs w fun e w' => ∃ v S', e = .returned v ∧ Rel S' w' noRho d v ∧ Hist { w0 := w, S0 := S, L := fun _ => False } w' S'
def CtrO (P : Program) (f : FuncId) (args : List D) (ow : Ow) (d : D) (ow' : Ow) : Prop :=
  ∀ (X : Ctx) (vs : Array Value), X.ids = ow.map (·.1) → Hist X X.w0 X.S0 → Inv X X.w0 X.S0 X.r0 (fO ow) → vs.size = args.length → (∀ j, j < args.length → Rel X.S0 X.w0 X.r0 (args.getD j .any) (vs.getD j undef)) →
    Calls P f vs X.w0 fun e w' => ∃ v S' r', e = .returned v ∧ Rel S' w' r' d v ∧ Hist X w' S' ∧ Inv X w' S' r' (fO ow') ∧ RhoLe X.r0 r'
theorem Hist.re {X : Ctx} {w : World} {S : Cells} (h : Hist X w S) (ds : List Deferred) : Hist { X with dfs := ds } w S := ⟨h.os, h.tape, h.output, h.size, h.block, h.sub, h.cell, h.new, h.valid, h.glob⟩
theorem Hist.un {X : Ctx} {w : World} {S : Cells} {ds : List Deferred} (h : Hist { X with dfs := ds } w S) : Hist X w S := ⟨h.os, h.tape, h.output, h.size, h.block, h.sub, h.cell, h.new, h.valid, h.glob⟩
theorem Inv.re {X : Ctx} {w : World} {S : Cells} {r : Rho} {O : Nat → Option Own} (h : Inv X w S r O) (ds : List Deferred) : Inv { X with dfs := ds } w S r O := ⟨h.obj, h.dom, h.apart, h.low⟩
theorem Inv.un {X : Ctx} {w : World} {S : Cells} {r : Rho} {O : Nat → Option Own} {ds : List Deferred} (h : Inv { X with dfs := ds } w S r O) : Inv X w S r O := ⟨h.obj, h.dom, h.apart, h.low⟩
theorem CtrO.of0 {P : Program} {f : FuncId} {args : List D} {ow ow' : Ow} {d : D}
    (h : ∀ (X : Ctx) (vs : Array Value), X.dfs = [] → X.ids = ow.map (·.1) → Hist X X.w0 X.S0 → Inv X X.w0 X.S0 X.r0 (fO ow) → vs.size = args.length → (∀ j, j < args.length → Rel X.S0 X.w0 X.r0 (args.getD j .any) (vs.getD j undef)) →
      Calls P f vs X.w0 fun e w' => ∃ v S' r', e = .returned v ∧ Rel S' w' r' d v ∧ Hist X w' S' ∧ Inv X w' S' r' (fO ow') ∧ RhoLe X.r0 r') : CtrO P f args ow d ow' := fun X vs hids hH hI hn hr =>
  (h { X with dfs := [] } vs rfl hids (hH.re []) (hI.re []) hn hr).mono fun _ _ ⟨v, S', r', h1, h2, h3, h4, h5⟩ => ⟨v, S', r', h1, h2, h3.un, h4.un, h5⟩
theorem zdY (w : World) (S : Cells) (L : Nat → Prop) (h : ∀ b o, S b o → b < w.heap.size) (hg : GOk S w) : Hist { w0 := w, S0 := S, L := L } w S :=
  ⟨rfl, rfl, rfl, Nat.le_refl _, fun _ _ _ => rfl, fun _ _ h => h, fun _ _ _ => rfl, fun _ _ h => .inl h, h, hg⟩
theorem zeA (X : Ctx) (w : World) (S : Cells) : Inv X w S noRho (fO []) where
  obj := fun k o h => by simp [fO, look] at h
  dom := fun _ _ => rfl
  apart := fun _ _ _ _ _ _ h => by simp [noRho] at h
  low := fun _ _ _ h => by simp [noRho] at h
theorem Ctr.of {P : Program} {f : FuncId} {args : List D} {d : D} {ow' : Ow} (h : CtrO P f args [] d ow') (hd : d.free = true) : Ctr P f args d := by
  intro w S vs hv hgl hn hr
  refine (h ⟨w, S, fun _ => False, noRho, [], []⟩ vs rfl ⟨rfl, rfl, rfl, Nat.le_refl _, fun _ _ _ => rfl, fun _ _ h => h, fun _ _ _ => rfl, fun _ _ h => .inl h, hv, hgl⟩ (zeA _ _ _) hn hr).mono ?_
  rintro e w' ⟨v, S', r', rfl, h1, h2, _, _⟩
  exact ⟨v, S', rfl, h1.free hd noRho, h2.os, h2.tape, h2.output, h2.size, h2.block, h2.sub, h2.cell, h2.new, h2.valid, h2.glob⟩
theorem Ctr.weak {P : Program} {f : FuncId} {args args' : List D} {d : D} (h : Ctr P f args' d) (hn : args'.length = args.length) (hw : ∀ j, j < args.length → Weak (args.getD j .any) (args'.getD j .any)) : Ctr P f args d :=
  fun w S vs hv hg hs hr => h w S vs hv hg (by omega) (fun j hj => (hr j (by omega)).weak (hw j (by omega)))
theorem Ctr.weak1 {P : Program} {f : FuncId} {a a' d : D} (h : Ctr P f [a'] d) (h1 : Weak a a') : Ctr P f [a] d := h.weak rfl fun j hj => match j, hj with
  | 0, _ => h1
theorem Ctr.weak2 {P : Program} {f : FuncId} {a a' b b' d : D} (h : Ctr P f [a', b'] d) (h1 : Weak a a') (h2 : Weak b b') : Ctr P f [a, b] d := h.weak rfl fun j hj => match j, hj with
  | 0, _ => h1
  | 1, _ => h2
section
variable (P : Program) (X : Ctx) (n : Nat)
def T (c : Code) (fr : Fr) (ow : Ow) (Q : Exit → Fr → Ow → Prop) : Prop :=
  ∀ a w, Rep X n (fF fr) (fO ow) a w → Wc P c (fun e a w => ∃ fr' ow', Q e fr' ow' ∧ Rep X n (fF fr') (fO ow') a w) a w
def CT (all l : List Oper) (fr : Fr) (ow : Ow) (tr : List (List Nat × List Nat)) (K : Fr → Ow → List (List Nat × List Nat) → Prop) : Prop :=
  ∃ es fr' ow', Ch P X n all l (fF fr) (fO ow) es (fF fr') (fO ow') ∧ K fr' ow' (tr ++ es.map fun e => (e.rd, e.wr.map (·.1)))
end
section
variable {P : Program} {X : Ctx} {n : Nat} {all rest : List Oper} {fr : Fr} {ow : Ow} {tr : List (List Nat × List Nat)} {K : Fr → Ow → List (List Nat × List Nat) → Prop} {Q : Exit → Fr → Ow → Prop}
theorem CT.nil (h : K fr ow tr) : CT P X n all [] fr ow tr K := ⟨[], fr, ow, .nil .., by simpa using h⟩
theorem CT.cons {o : Oper} {e : Eff} {fr1 : Fr} {ow1 : Ow} (h : LDoes P X n all o (fF fr) (fO ow) e) (hF : fF fr1 = updF (fF fr) o.dst e.d) (hO : fO ow1 = updO (fO ow) e.wr)
    (t : CT P X n all rest fr1 ow1 (tr ++ [(e.rd, e.wr.map (·.1))]) K) : CT P X n all (o :: rest) fr ow tr K := by
  obtain ⟨es, fr', ow', hc, hK⟩ := t
  refine ⟨e :: es, fr', ow', .cons o rest _ _ e es _ _ h (by rw [← hF, ← hO]; exact hc), ?_⟩
  simpa [List.append_assoc] using hK
theorem zfj {F F' : Nat → D} {o : Oper} (h : ∀ t ∈ seesOf all o, F' t = F t) : ∀ x ∈ o.op.operands.toList, evF F' x = evF F x := by
  intro x hx
  cases x with
  | tmp t => exact h t (List.mem_append.2 (.inl (zii hx)))
  | const v => rfl
  | global g => rfl
  | func f => rfl
theorem LDoes.plain {o : Oper} {e : Eff} {F : Nat → D} {O : Nat → Option Own} (hg : o.guard = none) (h : ∀ F' O', (∀ x ∈ o.op.operands.toList, evF F' x = evF F x) → (∀ k ∈ e.rd, O' k = O k) → StepAt P X n o F' O' e.d e.wr) :
    LDoes P X n all o F O e := fun F' O' h1 h2 => by
  unfold Does
  rw [hg]
  exact h F' O' (zfj h1) h2
theorem LDoes.guarded {o : Oper} {e : Eff} {F : Nat → D} {O : Nat → Option Own} {g u : Nat} {want : Bool} (hg : o.guard = some (g, want)) (hu : dstAt all g = some u) (hF : F u = .b want)
    (h : ∀ F' O', (∀ x ∈ o.op.operands.toList, evF F' x = evF F x) → (∀ k ∈ e.rd, O' k = O k) → StepAt P X n o F' O' e.d e.wr) : LDoes P X n all o F O e := fun F' O' h1 h2 => by
  unfold Does
  rw [hg]
  refine ⟨u, hu, .inl ⟨?_, h F' O' (zfj h1) h2⟩⟩
  rw [h1 u (by simp [seesOf, hg, hu])]
  exact hF
theorem LDoes.skip {o : Oper} {F : Nat → D} {O : Nat → Option Own} {g u : Nat} {want : Bool} (hg : o.guard = some (g, want)) (hu : dstAt all g = some u) (hF : F u = .b (!want) ∨ F u = .tu []) (hd : dstOk o.dst n) :
    LDoes P X n all o F O ⟨.tu [], [], []⟩ := fun F' O' h1 h2 => by
  unfold Does
  rw [hg]
  refine ⟨u, hu, .inr ⟨?_, rfl, rfl, hd⟩⟩
  rw [h1 u (by simp [seesOf, hg, hu])]
  exact hF
theorem zbu {o : Oper} {d : D} {p : Prop} {rd : List Nat} {wr : List (Nat × Own)} (hs : step (tb P) (ev fr) (fun k => look k ow) o = some ⟨d, p, rd, wr⟩) (hp : p) (hd : dstOk o.dst n) :
    ∀ F' O', (∀ x ∈ o.op.operands.toList, evF F' x = evF (fF fr) x) → (∀ k ∈ rd, O' k = fO ow k) → StepAt P X n o F' O' d wr := fun _F' _O' h1 h2 =>
  zhr hs hp hd (fun x hx => (h1 x hx).trans (zaP fr x)) h2
theorem zgv {ar : Bool} {o : Oper} {d : D} {p : Prop} {rd : List Nat} {wr : List (Nat × Own)} (hs : stepK ar (tb P) (ev fr) (fun k => look k ow) o = some ⟨d, p, rd, wr⟩) (hp : p) (hd : dstOk o.dst n) :
    ∀ F' O', (∀ x ∈ o.op.operands.toList, evF F' x = evF (fF fr) x) → (∀ k ∈ rd, O' k = fO ow k) → StepAt P X n o F' O' d wr := fun _F' _O' h1 h2 =>
  zdQ hs hp hd (fun x hx => (h1 x hx).trans (zaP fr x)) h2
variable {t : Nat} {op : Op} {ty : TypeId} {pos : String} {af : Array Edge} {d : D} {p : Prop} {rd : List Nat} {k : Nat} {ob : Own} {g u : Nat} {want : Bool}
theorem CT.arr (hs : stepK true (tb P) (ev fr) (fun k => look k ow) ⟨some t, op, ty, pos, af, none⟩ = some ⟨d, p, rd, [(k, ob)]⟩) (hn : t < n) (hp : p) (h : CT P X n all rest ((t, d) :: fr) ((k, ob) :: ow) (tr ++ [(rd, [k])]) K) :
    CT P X n all (⟨some t, op, ty, pos, af, none⟩ :: rest) fr ow tr K :=
  CT.cons (e := ⟨d, rd, [(k, ob)]⟩) (.plain rfl (zgv hs hp hn)) (zaD ..) (zaA ..) h
theorem CT.val (hs : step (tb P) (ev fr) (fun k => look k ow) ⟨some t, op, ty, pos, af, none⟩ = some ⟨d, p, rd, []⟩) (hn : t < n) (hp : p) (h : CT P X n all rest ((t, d) :: fr) ow (tr ++ [(rd, [])]) K) :
    CT P X n all (⟨some t, op, ty, pos, af, none⟩ :: rest) fr ow tr K :=
  CT.cons (e := ⟨d, rd, []⟩) (.plain rfl (zbu hs hp hn)) (zaD ..) rfl h
theorem CT.obj (hs : step (tb P) (ev fr) (fun k => look k ow) ⟨some t, op, ty, pos, af, none⟩ = some ⟨d, p, rd, [(k, ob)]⟩) (hn : t < n) (hp : p) (h : CT P X n all rest ((t, d) :: fr) ((k, ob) :: ow) (tr ++ [(rd, [k])]) K) :
    CT P X n all (⟨some t, op, ty, pos, af, none⟩ :: rest) fr ow tr K :=
  CT.cons (e := ⟨d, rd, [(k, ob)]⟩) (.plain rfl (zbu hs hp hn)) (zaD ..) (zaA ..) h
theorem CT.sto (hs : step (tb P) (ev fr) (fun k => look k ow) ⟨none, op, ty, pos, af, none⟩ = some ⟨d, p, rd, [(k, ob)]⟩) (hp : p) (h : CT P X n all rest fr ((k, ob) :: ow) (tr ++ [(rd, [k])]) K) :
    CT P X n all (⟨none, op, ty, pos, af, none⟩ :: rest) fr ow tr K :=
  CT.cons (e := ⟨d, rd, [(k, ob)]⟩) (.plain rfl (zbu hs hp trivial)) rfl (zaA ..) h
theorem CT.gval (hu : dstAt all g = some u) (hc : getD' u fr = .b want) (hs : step (tb P) (ev fr) (fun k => look k ow) ⟨some t, op, ty, pos, af, some (g, want)⟩ = some ⟨d, p, rd, []⟩) (hn : t < n) (hp : p)
    (h : CT P X n all rest ((t, d) :: fr) ow (tr ++ [(rd, [])]) K) : CT P X n all (⟨some t, op, ty, pos, af, some (g, want)⟩ :: rest) fr ow tr K :=
  CT.cons (e := ⟨d, rd, []⟩) (.guarded rfl hu hc (zbu hs hp hn)) (zaD ..) rfl h
theorem CT.gskip (hu : dstAt all g = some u) (hc : getD' u fr = .b (!want) ∨ getD' u fr = .tu []) (hn : t < n) (h : CT P X n all rest ((t, .tu []) :: fr) ow (tr ++ [([], [])]) K) :
    CT P X n all (⟨some t, op, ty, pos, af, some (g, want)⟩ :: rest) fr ow tr K :=
  CT.cons (e := ⟨.tu [], [], []⟩) (.skip rfl hu hc hn) (zaD ..) rfl h
theorem CT.split {dst : Option Tmp} {c : Bool} (hu : dstAt all g = some u) (hc : getD' u fr = .b c)
    (h1 : c = true → CT P X n all (⟨dst, op, ty, pos, af, some (g, want)⟩ :: rest) ((u, .b true) :: fr) ow tr K)
    (h2 : c = false → CT P X n all (⟨dst, op, ty, pos, af, some (g, want)⟩ :: rest) ((u, .b false) :: fr) ow tr K) :
    CT P X n all (⟨dst, op, ty, pos, af, some (g, want)⟩ :: rest) fr ow tr K := by
  have key : ∀ b, getD' u fr = .b b → fF ((u, .b b) :: fr) = fF fr := fun b hb => by
    funext x
    rw [zaD]
    show (if x = u then D.b b else getD' x fr) = getD' x fr
    by_cases e : x = u
    · subst e; rw [if_pos rfl, hb]
    · rw [if_neg e]
  cases c with
  | true =>
    obtain ⟨es, fr', ow', hch, hK⟩ := h1 rfl
    rw [key true hc] at hch
    exact ⟨es, fr', ow', hch, hK⟩
  | false =>
    obtain ⟨es, fr', ow', hch, hK⟩ := h2 rfl
    rw [key false hc] at hch
    exact ⟨es, fr', ow', hch, hK⟩
def evs (fr : Fr) : List Operand → List D
  | [] => []
  | x :: r => ev fr x :: evs fr r
theorem zbM (fr : Fr) : ∀ xs, (evs fr xs).length = xs.length
  | [] => rfl
  | x :: r => by simp [evs, zbM fr r]
def callOf (fr : Fr) : Op → Option (FuncId × List D)
  | .call { callee := .value g, args := ⟨xs⟩, .. } => match ev fr g with
    | .fn f cs => fzA (evs fr xs ++ cs) fun l => some (f, l)
    | _ => none
  | _ => none
theorem zfZ {S : Cells} {w : World} {r : Rho} {a : Act} : ∀ {xs : List Operand}, (∀ x ∈ xs, Rel S w r (ev fr x) (a.eval x)) → ∀ j, j < xs.length → Rel S w r ((evs fr xs).getD j .any) ((xs.map a.eval).toArray.getD j undef)
  | x :: xs, h, 0, _ => by simpa [evs] using h x (by simp)
  | x :: xs, h, j + 1, hj => by
    have := zfZ (xs := xs) (fun y hy => h y (by simp [hy])) j (by simpa using hj)
    simpa [evs, Array.getD_eq_getD_getElem?, List.getD_eq_getElem?_getD] using this
theorem zcd {o : Oper} {f : FuncId} {args : List D} (hP : ∀ vs w, (callFunc f vs).run P w = .ok (.enter f vs) w) (hc : callOf fr o.op = some (f, args)) {F : Nat → D} (he : ∀ x ∈ o.op.operands.toList, evF F x = evF (fF fr) x)
    {S : Cells} {w : World} {r : Rho} {a : Act} (hr : ∀ x, Rel S w r (evF F x) (a.eval x)) :
    ∃ vs : Array Value, (execOp a.eval o).run P w = .ok (.enter f vs) w ∧ vs.size = args.length ∧ ∀ j, j < args.length → Rel S w r (args.getD j .any) (vs.getD j undef) := by
  have hev : ∀ x ∈ o.op.operands.toList, Rel S w r (ev fr x) (a.eval x) := fun x hx => by
    rw [← zaP, ← he x hx]
    exact hr x
  unfold callOf at hc
  split at hc <;> first | (cases hc; done) | skip
  rename_i gg xs ts ho
  split at hc <;> first | (cases hc; done) | skip
  rename_i f' cs hg
  rw [zbx] at hc
  cases hc
  have h1 := hev gg (by simp [ho, Op.operands, Call.operands])
  rw [hg] at h1
  have hxs : ∀ x ∈ xs, Rel S w r (ev fr x) (a.eval x) := fun x hx => hev x (by simp [ho, Op.operands, Call.operands, hx])
  generalize hgv : a.eval gg = gv at h1
  cases h1 with
  | fn _ _ _ us hn hus =>
    refine ⟨(xs.map a.eval).toArray ++ us, ?_, by simp [zbM, hn], fun j hj => ?_⟩
    · simp only [execOp, ho, Sem.run_bind, resolve, hgv, Deferred.ofValue, Sem.run_pure, Result.andThen_ok, invoke]
      simp [hP]
    · by_cases hlt : j < xs.length
      · have h2 := zfZ (S := S) (w := w) (r := r) (a := a) hxs j hlt
        have e1 : (evs fr xs ++ cs).getD j .any = (evs fr xs).getD j .any := by
          simp [List.getD_eq_getElem?_getD, List.getElem?_append_left (show j < (evs fr xs).length by rw [zbM]; exact hlt)]
        have e2 : ((xs.map a.eval).toArray ++ us).getD j undef = ((xs.map a.eval).toArray).getD j undef := by
          rw [Array.getD_eq_getD_getElem?, Array.getD_eq_getD_getElem?, Array.getElem?_append_left (by simpa using hlt)]
        rw [e1, e2]
        exact h2
      · have hj' : j - xs.length < cs.length := by
          have : (evs fr xs ++ cs).length = xs.length + cs.length := by simp [zbM]
          omega
        have e1 : (evs fr xs ++ cs).getD j .any = cs.getD (j - xs.length) .any := by
          simp [List.getD_eq_getElem?_getD, List.getElem?_append_right (show (evs fr xs).length ≤ j by rw [zbM]; omega), zbM]
        have e2 : ((xs.map a.eval).toArray ++ us).getD j undef = us.getD (j - xs.length) undef := by
          rw [Array.getD_eq_getD_getElem?, Array.getD_eq_getD_getElem?, Array.getElem?_append_right (by simp; omega)]
          simp
        rw [e1, e2]
        exact hus _ hj'
theorem zkw {S : Cells} {w : World} {r : Rho} {args : List D} {vs : Array Value} (h : ∀ j, j < args.length → Rel S w r (args.getD j .any) (vs.getD j undef)) (hf : (args.map D.shut).all D.free = true) :
    ∀ j, j < (args.map D.shut).length → Rel S w noRho ((args.map D.shut).getD j .any) (vs.getD j undef) := by
  intro j hj
  have hj' : j < args.length := by simpa using hj
  have e : (args.map D.shut).getD j .any = (args.getD j .any).shut := by simp [List.getD_eq_getElem?_getD, hj']
  have h1 := (h j hj').shut
  rw [e]
  refine h1.free ?_ noRho
  rw [List.all_eq_true] at hf
  rw [← e]
  refine hf _ ?_
  simp only [List.getD_eq_getElem?_getD, List.getElem?_eq_getElem hj, Option.getD_some]
  exact List.getElem_mem hj
theorem zfy {o : Oper} {f : FuncId} {args : List D} (hP : ∀ vs w, (callFunc f vs).run P w = .ok (.enter f vs) w) (hc : callOf fr o.op = some (f, args)) (hf : (args.map D.shut).all D.free = true)
    (hC : Ctr P f (args.map D.shut) d) (hd : dstOk o.dst n) : ∀ F' O', (∀ x ∈ o.op.operands.toList, evF F' x = evF (fF fr) x) → (∀ k ∈ ([] : List Nat), O' k = fO ow k) → StepAt P X n o F' O' d [] := by
  intro F' O' he _ a w K' Q' ⟨S, r, hH, hI, hF, hdf, hn, hρ⟩ hK
  obtain ⟨vs, hrun, hsz, hrel⟩ := zcd hP hc he (fun x => zbK hH.glob hF x)
  refine OW.enter hrun ((hC w S vs hH.valid hH.glob (by simpa using hsz) (zkw hrel hf)).mono ?_)
  rintro e w' ⟨v, S', rfl, h1, h2⟩
  have hch : Chg w w' S none := ⟨h2.os, h2.tape, h2.output, h2.size, fun k hk _ => h2.block k hk (fun h => h), h2.cell⟩
  refine hK v w' ⟨S', r, ?_, ?_, zbO (fun t => (hF t).mono h2.sub h2.cell r (RhoLe.refl r)) (hn ▸ hd) (h1.mono (fun _ _ h => h) (fun _ _ _ => rfl) r (fun k l h => by simp [noRho] at h)), by rw [zbd]; exact hdf, by rw [zbD]; exact hn, hρ⟩
  · refine hH.chg hch (fun b hb => by cases hb) h2.sub (fun b o hb => ?_)
    rcases h2.new b o hb with h | h | h
    · exact .inl h
    · exact .inr ⟨.inl (Nat.le_trans hH.size h), h2.valid b o hb⟩
    · exact h.elim
  · refine hI.grow hch h2.sub (fun b o hb => ?_)
    rcases h2.new b o hb with h | h | h
    · exact .inl h
    · exact .inr h
    · exact h.elim
theorem CT.call {f : FuncId} {args : List D} (hc : callOf fr op = some (f, args)) (hn : t < n) (hP : ∀ vs w, (callFunc f vs).run P w = .ok (.enter f vs) w) (hf : (args.map D.shut).all D.free = true) (hC : Ctr P f (args.map D.shut) d)
    (h : CT P X n all rest ((t, d) :: fr) ow (tr ++ [([], [])]) K) : CT P X n all (⟨some t, op, ty, pos, af, none⟩ :: rest) fr ow tr K :=
  CT.cons (e := ⟨d, [], []⟩) (.plain rfl (zfy (o := ⟨some t, op, ty, pos, af, none⟩) (ow := ow) hP hc hf hC hn)) (zaD ..) rfl h
theorem CT.gcall {f : FuncId} {args : List D} (hu : dstAt all g = some u) (hg : getD' u fr = .b want) (hc : callOf fr op = some (f, args)) (hn : t < n) (hP : ∀ vs w, (callFunc f vs).run P w = .ok (.enter f vs) w)
    (hf : (args.map D.shut).all D.free = true) (hC : Ctr P f (args.map D.shut) d)
    (h : CT P X n all rest ((t, d) :: fr) ow (tr ++ [([], [])]) K) : CT P X n all (⟨some t, op, ty, pos, af, some (g, want)⟩ :: rest) fr ow tr K :=
  CT.cons (e := ⟨d, [], []⟩) (.guarded rfl hu hg (zfy (o := ⟨some t, op, ty, pos, af, some (g, want)⟩) (ow := ow) hP hc hf hC hn)) (zaD ..) rfl h
def thenQ (K : Fr → Ow → Prop) (Q : Exit → Fr → Ow → Prop) : Exit → Fr → Ow → Prop
  | .normal, fr, ow => K fr ow
  | e, fr, ow => Q e fr ow
def blockQ (id : Nat) (Q : Exit → Fr → Ow → Prop) : Exit → Fr → Ow → Prop
  | .exit j, fr, ow => match Nat.beq j id with
    | true => Q .normal fr ow
    | false => Q (.exit j) fr ow
  | e, fr, ow => Q e fr ow
theorem T.seq {x y : Code} (h : T P X n x fr ow (thenQ (fun fr ow => T P X n y fr ow Q) Q)) : T P X n (.seq x y) fr ow Q := fun a w hr => by
  refine Wc.seq ((h a w hr).mono fun e a w hq => ?_)
  obtain ⟨fr', ow', h1, h2⟩ := hq
  cases e with
  | normal => exact h1 a w h2
  | _ => exact ⟨fr', ow', h1, h2⟩
theorem T.skip (h : Q .normal fr ow) : T P X n .skip fr ow Q := fun _ _ hr => Wc.skip ⟨fr, ow, h, hr⟩
theorem T.ret (h : Q .ret fr ow) : T P X n .ret fr ow Q := fun _ _ hr => Wc.ret ⟨fr, ow, h, hr⟩
theorem T.exit {id : Nat} (h : Q (.exit id) fr ow) : T P X n (.exit id) fr ow Q := fun _ _ hr => Wc.exit ⟨fr, ow, h, hr⟩
theorem T.region {id : Nat} {ops : List Oper} (h : CT P X n ops ops fr ow [] (fun fr ow _ => Q .normal fr ow)) : T P X n (.region id ⟨ops⟩ false) fr ow Q := fun a w hr => by
  obtain ⟨es, fr', ow', hc, hK⟩ := h
  exact zdA hc (fun a' w' h' => ⟨fr', ow', hK, h'⟩) hr
theorem T.draw {id : Nat} {ops : List Oper} (hm : P.follows .mixedOrders = true) (h : CT P X n ops ops fr ow [] (fun fr ow tr => flowOk ops tr = true ∧ Q .normal fr ow)) : T P X n (.region id ⟨ops⟩ true) fr ow Q := fun a w hr => by
  obtain ⟨es, fr', ow', hc, hok, hK⟩ := h
  exact zci hm hc (by simpa using hok) (fun a' w' h' => ⟨fr', ow', hK, h'⟩) hr
theorem T.cond {c : Operand} {x y : Code} {b : Bool} (hc : ev fr c = .b b) (h1 : b = true → T P X n x fr ow Q) (h2 : b = false → T P X n y fr ow Q) : T P X n (.cond c x y) fr ow Q := fun a w hr => by
  have he : a.eval c = .bool b := by
    obtain ⟨S, r, hH, _, hF, _, _, _⟩ := hr
    have h := zbK hH.glob hF c
    rw [zaP, hc] at h
    generalize a.eval c = v at h
    cases h
    rfl
  exact Wc.cond_split he (fun hb => h1 hb a w hr) (fun hb => h2 hb a w hr)
theorem T.block {id : Nat} {c : Code} (h : T P X n c fr ow (blockQ id Q)) : T P X n (.block id c) fr ow Q := fun a w hr => by
  refine Wc.block ((h a w hr).mono fun e a w hq => ?_)
  obtain ⟨fr', ow', h1, h2⟩ := hq
  cases e with
  | exit j =>
    simp only [blockQ] at h1
    simp only [Exit.inBlock]
    cases hb : Nat.beq j id with
    | true =>
      rw [hb] at h1
      rw [if_pos (Nat.eq_of_beq_eq_true hb)]
      exact ⟨fr', ow', h1, h2⟩
    | false =>
      rw [hb] at h1
      rw [if_neg (fun e => by subst e; rw [Nat.beq_refl] at hb; cases hb)]
      exact ⟨fr', ow', h1, h2⟩
  | _ => exact ⟨fr', ow', h1, h2⟩
end
end Go.Proofs.YtkkaamhocpmhkaaGreatDoor.Flow
