/-
  FLOW, PART E: OPERATIONS THAT MAKE OR WRITE MEMORY OF THE CALL'S OWN.
-/
import Derived.Test.YteidmimpkipcfaaDoorCFlowD
namespace Go.Proofs.YteidmimpkipcfaaDoor.Flow

/-- From w to w' at most block g was written (cells in S were not), and blocks were made. -/
structure Chg (w w' : World) (S : Cells) (g : Option Nat) : Prop where
  os : w'.os = w.os
  tape : w'.tape = w.tape
  output : w'.output = w.output
  size : w.heap.size ≤ w'.heap.size
  block : ∀ k, k < w.heap.size → some k ≠ g → w'.heap[k]? = w.heap[k]?
  cell : ∀ b o, S b o → w'.cell? ⟨b, o, none⟩ = w.cell? ⟨b, o, none⟩

section
variable {X : Ctx} {w w' : World} {S S' : Cells} {r r' : Rho} {O : Nat → Option Own} {g : Option Nat}

theorem Hist.chg (h : Hist X w S) (c : Chg w w' S g) (hg : ∀ b, g = some b → X.w0.heap.size ≤ b ∨ X.L b) (hS : ∀ b o, S b o → S' b o)
    (hn : ∀ b o, S' b o → S b o ∨ ((X.w0.heap.size ≤ b ∨ X.L b) ∧ b < w'.heap.size)) : Hist X w' S' where
  os := c.os.trans h.os
  tape := c.tape.trans h.tape
  output := c.output.trans h.output
  size := Nat.le_trans h.size c.size
  block := fun k hk hl => (c.block k (Nat.lt_of_lt_of_le hk h.size) (fun e => by
    rcases hg k e.symm with h1 | h1
    · omega
    · exact hl h1)).trans (h.block k hk hl)
  sub := fun b o hb => hS _ _ (h.sub b o hb)
  cell := fun b o hb => (c.cell b o (h.sub b o hb)).trans (h.cell b o hb)
  new := fun b o hb => by
    rcases hn b o hb with h1 | ⟨h1 | h1, _⟩
    · exact h.new b o h1
    · exact .inr (.inl h1)
    · exact .inr (.inr h1)
  valid := fun b o hb => by
    rcases hn b o hb with h1 | h1
    · exact Nat.lt_of_lt_of_le (h.valid b o h1) c.size
    · exact h1.2
  glob := h.glob.mono hS c.cell

theorem ObjOk.blockLt {k : Nat} {o : Own} (h : ObjOk S w r k o) {l : Loc} {b : Nat} (hl : r k = some l) (hb : l.block = some b) : b < w.heap.size := by
  cases o with
  | var cs =>
    obtain ⟨b', cur, e, h1, h2, _⟩ := h
    rw [h1] at hl
    cases hl
    simp only [Loc.block, Option.some.injEq] at hb
    subst hb
    exact (Array.getElem?_eq_some_iff.1 h2).1
  | row e esz len =>
    obtain ⟨tv, h1, h2⟩ := h
    rw [h1] at hl
    cases hl
    rcases h2 with ⟨rfl, _⟩ | ⟨g, cap, cur, rfl, hg, _⟩
    · simp [Loc.block] at hb
    · simp only [Loc.block, Option.some.injEq] at hb
      subst hb
      exact (Array.getElem?_eq_some_iff.1 hg).1
  | arr e esz len f =>
    obtain ⟨tv, h1, h2⟩ := h
    rw [h1] at hl
    cases hl
    rcases h2 with ⟨rfl, _⟩ | ⟨g, cap, cur, rfl, hg, _⟩
    · simp [Loc.block] at hb
    · simp only [Loc.block, Option.some.injEq] at hb
      subst hb
      exact (Array.getElem?_eq_some_iff.1 hg).1
  | ob x =>
    obtain ⟨b', h1, h2, _⟩ := h
    rw [h1] at hl
    cases hl
    simp only [Loc.block, Option.some.injEq] at hb
    subst hb
    exact (Array.getElem?_eq_some_iff.1 h2).1
  | bld T d =>
    obtain ⟨b', cur, e, h1, h2, _⟩ := h
    rw [h1] at hl
    cases hl
    simp only [Loc.block, Option.some.injEq] at hb
    subst hb
    exact (Array.getElem?_eq_some_iff.1 h2).1
  | gone =>
    obtain ⟨l', h1, h2⟩ := h
    rw [h1] at hl
    cases hl
    exact h2 b hb

theorem ObjOk.loc {k : Nat} {o : Own} (h : ObjOk S w r k o) : ∃ l, r k = some l := by
  cases o with
  | var cs => obtain ⟨b', cur, e, h1, _⟩ := h; exact ⟨_, h1⟩
  | row e esz len => obtain ⟨tv, h1, _⟩ := h; exact ⟨_, h1⟩
  | arr e esz len f => obtain ⟨tv, h1, _⟩ := h; exact ⟨_, h1⟩
  | ob x => obtain ⟨b', h1, _⟩ := h; exact ⟨_, h1⟩
  | bld T d => obtain ⟨b', cur, e, h1, _⟩ := h; exact ⟨_, h1⟩
  | gone => obtain ⟨l', h1, _⟩ := h; exact ⟨_, h1⟩

/-- No more is told. -/
theorem ObjOk.toGone {k : Nat} {o : Own} (h : ObjOk S w r k o) : ObjOk S w r k .gone :=
  let ⟨l, hl⟩ := h.loc
  ⟨l, hl, fun _ hb => h.blockLt hl hb⟩

theorem ObjOk.keep {k : Nat} {o : Own} (h : ObjOk S w r k o) (c : Chg w w' S g) (hS : ∀ b o, S b o → S' b o) (hr : RhoLe r r') (hk : r' k = r k)
    (hg : ∀ l b, r k = some l → l.block = some b → g ≠ some b) (hn : ∀ b o, S' b o → S b o ∨ ∀ l, r k = some l → l.block ≠ some b) : ObjOk S' w' r' k o := by
  have hmono : ∀ d v, Rel S w r d v → Rel S' w' r' d v := fun d v hd => hd.mono hS (fun b o hb => c.cell b o hb) r' hr
  have hlt := fun l b (hl : r k = some l) (hb : l.block = some b) => h.blockLt hl hb
  cases o with
  | var cs =>
    obtain ⟨b, cur, e, h1, h2, h3, h4, h5⟩ := h
    have hb : (Loc.blk b).block = some b := rfl
    refine ⟨b, cur, e, hk.trans h1, ?_, h3, fun j hj => ⟨hmono _ _ (h4 j hj).1, (h4 j hj).2⟩, fun o ho => ?_⟩
    · rw [c.block b (hlt _ _ h1 hb) (fun e => hg _ _ h1 hb e.symm)]; exact h2
    · rcases hn b o ho with h6 | h6
      · exact h5 o h6
      · exact h6 _ h1 hb
  | row e esz len =>
    obtain ⟨tv, h1, h2⟩ := h
    refine ⟨tv, hk.trans h1, ?_⟩
    rcases h2 with h2 | ⟨g', cap, cur, rfl, h3, h4, h5, h6, h7⟩
    · exact .inl h2
    · have hb : (Loc.row (.slice (some ⟨g', 0, none⟩) len cap) len).block = some g' := rfl
      refine .inr ⟨g', cap, cur, rfl, ?_, h4, h5, h6, fun o ho hs => ?_⟩
      · rw [c.block g' (hlt _ _ h1 hb) (fun e => hg _ _ h1 hb e.symm)]; exact h3
      · rcases hn g' o hs with h8 | h8
        · exact h7 o ho h8
        · exact h8 _ h1 hb
  | arr e esz len f =>
    obtain ⟨tv, h1, h2⟩ := h
    refine ⟨tv, hk.trans h1, ?_⟩
    rcases h2 with h2 | ⟨g', cap, cur, rfl, h3, h4, h5, h6, h7, h8, h9⟩
    · exact .inl h2
    · have hb : (Loc.row (.slice (some ⟨g', 0, none⟩) len cap) len).block = some g' := rfl
      refine .inr ⟨g', cap, cur, rfl, ?_, h4, h5, h6, h7, fun i j hi hj => (h8 i j hi hj).mono hS (fun b o hb => c.cell b o hb) noRho (RhoLe.refl _), fun o hs => ?_⟩
      · rw [c.block g' (hlt _ _ h1 hb) (fun e => hg _ _ h1 hb e.symm)]; exact h3
      · rcases hn g' o hs with h10 | h10
        · exact h9 o h10
        · exact h10 _ h1 hb
  | ob x =>
    obtain ⟨b, h1, h2, h5⟩ := h
    have hb : (Loc.blk b).block = some b := rfl
    refine ⟨b, hk.trans h1, ?_, fun o ho => ?_⟩
    · rw [c.block b (hlt _ _ h1 hb) (fun e => hg _ _ h1 hb e.symm)]; exact h2
    · rcases hn b o ho with h6 | h6
      · exact h5 o h6
      · exact h6 _ h1 hb
  | bld T d =>
    obtain ⟨b, cur, e, h1, h2, h3, h4, h7, h5⟩ := h
    have hb : (Loc.blk b).block = some b := rfl
    refine ⟨b, cur, e, hk.trans h1, ?_, h3, h4, ⟨hmono _ _ h7.1, h7.2⟩, fun o ho => ?_⟩
    · rw [c.block b (hlt _ _ h1 hb) (fun e => hg _ _ h1 hb e.symm)]; exact h2
    · rcases hn b o ho with h6 | h6
      · exact h5 o h6
      · exact h6 _ h1 hb
  | gone =>
    obtain ⟨l, h1, h2⟩ := h
    exact ⟨l, hk.trans h1, fun b hb => Nat.lt_of_lt_of_le (h2 b hb) c.size⟩

/-- One object is new, or has changed; its block is new, or the one that it had. -/
theorem Inv.put (h : Inv X w S r O) (c : Chg w w' S g) (hS : ∀ b o, S b o → S' b o) (hr : RhoLe r r') (k0 : Nat) (o0 : Own) (l0 : Loc) (h0 : ObjOk S' w' r' k0 o0)
    (hl0 : r' k0 = some l0) (hoth : ∀ k, k ≠ k0 → r' k = r k)
    (hb0 : ∀ b, l0.block = some b → (w.heap.size ≤ b ∧ (X.w0.heap.size ≤ b ∨ X.L b)) ∨ ∃ l, r k0 = some l ∧ l.block = some b)
    (hg : ∀ b, g = some b → ∃ l, r k0 = some l ∧ l.block = some b)
    (hn : ∀ b o, S' b o → S b o ∨ l0.block = some b ∨ w.heap.size ≤ b) : Inv X w' S' r' (fun j => if j = k0 then some o0 else O j) := by
  have hlt : ∀ k l b, r k = some l → l.block = some b → b < w.heap.size := fun k l b hl hb => by
    cases ho : O k with
    | none => rw [h.dom k ho] at hl; cases hl
    | some o => exact (h.obj k o ho).blockLt hl hb
  have hne : ∀ k l b, k ≠ k0 → r k = some l → l.block = some b → l0.block ≠ some b := fun k l b hk hl hb e => by
    rcases hb0 b e with ⟨h1, _⟩ | ⟨l', h1, h2⟩
    · have := hlt k l b hl hb; omega
    · exact h.apart k k0 l l' b hk hl h1 hb h2
  constructor
  · intro k o hk
    by_cases e : k = k0
    · subst e
      simp only [if_true] at hk
      cases hk
      exact h0
    · simp only [if_neg e] at hk
      refine (h.obj k o hk).keep c hS hr (hoth k e) (fun l b hl hb eg => ?_) (fun b o hs => ?_)
      · obtain ⟨l', h1, h2⟩ := hg b eg
        exact h.apart k k0 l l' b e hl h1 hb h2
      · rcases hn b o hs with h1 | h1 | h1
        · exact .inl h1
        · exact .inr fun l hl hb => hne k l b e hl hb h1
        · exact .inr fun l hl hb => by have := hlt k l b hl hb; omega
  · intro k hk
    by_cases e : k = k0
    · subst e; simp at hk
    · simp only [if_neg e] at hk
      rw [hoth k e]
      exact h.dom k hk
  · intro k k' l l' b hkk hl hl' hb hb'
    by_cases e : k = k0
    · subst e
      have e' : k' ≠ k := fun e => hkk e.symm
      rw [hl0] at hl
      cases hl
      rw [hoth k' e'] at hl'
      exact hne k' l' b e' hl' hb' hb
    · rw [hoth k e] at hl
      by_cases e' : k' = k0
      · subst e'
        rw [hl0] at hl'
        cases hl'
        exact hne k l b e hl hb hb'
      · rw [hoth k' e'] at hl'
        exact h.apart k k' l l' b hkk hl hl' hb hb'
  · intro k l b hl hb
    by_cases e : k = k0
    · subst e
      rw [hl0] at hl
      cases hl
      rcases hb0 b hb with ⟨_, h1⟩ | ⟨l', h1, h2⟩
      · exact h1
      · exact h.low k l' b h1 h2
    · rw [hoth k e] at hl
      exact h.low k l b hl hb

/-- A new object's place. -/
def updR (r : Rho) (k : Nat) (l : Loc) : Rho := fun j => if j = k then some l else r j

theorem RhoLe.new {k : Nat} {l : Loc} (h : r k = none) : RhoLe r (updR r k l) := fun j l' hj => by
  have : j ≠ k := fun e => by subst e; rw [h] at hj; cases hj
  exact ⟨l', by simp [updR, this, hj], LocLe.refl _⟩

theorem RhoLe.upd {k : Nat} {l l0 : Loc} (h : r k = some l0) (hl : LocLe l0 l) : RhoLe r (updR r k l) := fun j l' hj => by
  by_cases e : j = k
  · subst e
    rw [h] at hj
    cases hj
    exact ⟨l, by simp [updR], hl⟩
  · exact ⟨l', by simp [updR, e, hj], LocLe.refl _⟩

theorem Chg.alloc (w : World) (S : Cells) (hv : ∀ b o, S b o → b < w.heap.size) (ob : Obj) : Chg w (w.alloc ob) S none where
  os := rfl
  tape := rfl
  output := rfl
  size := by simp
  block := fun k hk _ => RowKit.Below.heap_alloc w ob k hk
  cell := fun b o hb => World.cell?_of_block (w := w) (RowKit.Below.heap_alloc w ob b (hv b o hb))

theorem Chg.drewAlloc (w : World) (S : Cells) (hv : ∀ b o, S b o → b < w.heap.size) (ob : Obj) (g : Option Nat) : Chg w (w.drew.alloc ob) S g where
  os := rfl
  tape := rfl
  output := rfl
  size := by simp
  block := fun k hk _ => RowKit.Below.heap_alloc w.drew ob k hk
  cell := fun b o hb => World.cell?_of_block (w := w) (RowKit.Below.heap_alloc w.drew ob b (hv b o hb))

theorem Chg.setRow (w : World) (S : Cells) (g : Nat) (old cs : Array Value) (t : TypeId) (fr : Nat × Nat) (hg : w.heap[g]? = some (.cells old t fr)) (hc : ∀ o, S g o → cs[o]? = old[o]?) :
    Chg w (w.setRow g cs) S (some g) where
  os := rfl
  tape := rfl
  output := rfl
  size := by simp
  block := fun k _ hne => setRow_other w g k cs (fun e => hne (by rw [e]))
  cell := fun b o hb => by
    by_cases e : b = g
    · subst e
      rw [cell_setRow_same w b o old cs t fr hg, hc o hb, cell_of_row w b o old t fr hg]
    · exact cell_setRow_other w g cs ⟨b, o, none⟩ e

end

/-! ### Values of known cells -/
section
variable {P : Program} {S : Cells} {w : World} {r : Rho}

theorem rel_cells {d : D} {v : Value} (h : Rel S w r d v) (hs : d.solid = true) : v.cells.size = d.cells.length ∧ ∀ j, j < d.cells.length → Rel S w r (d.cells.getD j .any) (v.cells.getD j undef) := by
  have one : ∀ (d : D) (v : Value), d.cells = [d] → v.cells = #[v] → Rel S w r d v → v.cells.size = d.cells.length ∧ ∀ j, j < d.cells.length → Rel S w r (d.cells.getD j .any) (v.cells.getD j undef) := by
    intro d v h1 h2 h3
    rw [h1, h2]
    refine ⟨rfl, fun j hj => ?_⟩
    have : j = 0 := by simpa using hj
    subst this
    exact h3
  cases h with
  | any => simp [D.solid] at hs
  | tu => simp [D.solid] at hs
  | ag _ cs vs hn h => exact ⟨hn, h⟩
  | v =>
    have hv : v.cells = #[v] := by cases v <;> first | rfl | (simp [D.solid, Value.oneCell'] at hs)
    exact one _ _ rfl hv (.v ..)
  | i => exact one _ _ rfl rfl (.i ..)
  | b => exact one _ _ rfl rfl (.b ..)
  | s => exact one _ _ rfl rfl (.s ..)
  | nilS => exact one _ _ rfl rfl (.nilS ..)
  | fn _ f cs vs hn h => exact one _ _ rfl rfl (.fn _ f cs vs hn h)
  | sl _ esz len f a cap c hc hm hl hcell hr => exact one _ _ rfl rfl (.sl _ esz len f a cap c hc hm hl hcell hr)
  | rf _ cs off b o c hp hcell hr => exact one _ _ rfl rfl (.rf _ cs off b o c hp hcell hr)
  | pv _ k off b h => exact one _ _ rfl rfl (.pv _ k off b h)
  | ah _ k esz len cap a tv L hk hL ht ha => exact one _ _ rfl rfl (.ah _ k esz len cap a tv L hk hL ht ha)
  | ap _ k esz len i off a tv L hk hL ht ha => exact one _ _ rfl rfl (.ap _ k esz len i off a tv L hk hL ht ha)
  | e0 _ z a => exact one _ _ rfl rfl (.e0 _ z a)
  | se _ z b a cap hm hb => exact one _ _ rfl rfl (.se _ z b a cap hm hb)
  | rn _ k len f off b h => exact one _ _ rfl rfl (.rn _ k len f off b h)
  | gs _ k esz len f _ tv L h hk hL ht =>
    have hv : v.cells = #[v] := by cases h; rfl
    exact one _ _ rfl hv (.gs _ k esz len f v tv L h hk hL ht)

theorem getD_put {α : Type} (cs ds : List α) (off j : Nat) (x : α) (h : off + ds.length ≤ cs.length) :
    (cs.take off ++ ds ++ cs.drop (off + ds.length)).getD j x = if off ≤ j ∧ j < off + ds.length then ds.getD (j - off) x else cs.getD j x := by
  simp only [List.getD_eq_getElem?_getD]
  by_cases h1 : j < off
  · rw [if_neg (by omega), List.append_assoc, List.getElem?_append_left (by simp; omega), List.getElem?_take_of_lt h1]
  · by_cases h2 : j < off + ds.length
    · rw [if_pos (by omega), List.getElem?_append_left (by simp; omega), List.getElem?_append_right (by simp; omega)]
      congr 2
      simp; omega
    · rw [if_neg (by omega), List.getElem?_append_right (by simp; omega), List.getElem?_drop]
      congr 2
      simp; omega

theorem length_put {α : Type} (cs ds : List α) (off : Nat) (h : off + ds.length ≤ cs.length) : (cs.take off ++ ds ++ cs.drop (off + ds.length)).length = cs.length := by
  simp; omega
end

/-! ### The operations -/
section
variable {P : Program} {X : Ctx} {n : Nat} {o : Oper} {F : Nat → D} {O : Nat → Option Own}

/-- What an operation may do: hand back a value told by d, in a world in which one object is new or changed. -/
theorem stepAt_of (hd : dstOk o.dst n) {d : D} {wr : List (Nat × Own)}
    (h : ∀ (a : Act) (w : World) (S : Cells) (r : Rho), Hist X w S → Inv X w S r O → (∀ x, Rel S w r (evF F x) (a.eval x)) →
      ∃ v w' S' r', ((execOp a.eval o).run P w = .ok (.value v) w' ∨ ((execOp a.eval o).run P w = .ok .skip w' ∧ v = undef)) ∧ Rel S' w' r' d v ∧ Hist X w' S' ∧ Inv X w' S' r' (updO O wr) ∧
        (∀ b o, S b o → S' b o) ∧ (∀ b o, S b o → w'.cell? ⟨b, o, none⟩ = w.cell? ⟨b, o, none⟩) ∧ RhoLe r r') :
    StepAt P X n o F O d wr := by
  intro a w K Q ⟨S, r, hH, hI, hF, hdf, hn, hρ⟩ hK
  obtain ⟨v, w', S', r', hrun, hv, hH', hI', hS, hc, hr⟩ := h a w S r hH hI (fun x => evF_rel hH.glob hF x)
  have hrep : Rep X n (updF F o.dst d) (updO O wr) (a.put o.dst v) w' :=
    ⟨S', r', hH', hI', rel_put (fun t => (hF t).mono hS hc r' hr) (hn ▸ hd) hv, by rw [put_defers]; exact hdf, by rw [put_size]; exact hn, hρ.trans hr⟩
  unfold Oper.wp
  rcases hrun with hrun | ⟨hrun, rfl⟩
  · rw [hrun]; exact hK v w' hrep
  · rw [hrun]; exact hK undef w' hrep

theorem getD_beq {α : Type} {x : Option α} {y : α} (h : x = some y) : x = some y := h

/-- A new variable. -/
theorem box_ok {w : World} {S : Cells} {r : Rho} {d : D} {v : Value} (e : TypeId) (hH : Hist X w S) (hI : Inv X w S r O) (hv : Rel S w r d v) (hs : d.solid = true) (h1 : d.cells.all D.one = true)
    {k : Nat} (hk : O k = none) :
    ∃ S' r', Rel S' (w.alloc (.cells v.cells e)) r' (.pv k 0) (.pointer (some ⟨w.heap.size, 0, none⟩)) ∧ Hist X (w.alloc (.cells v.cells e)) S' ∧
      Inv X (w.alloc (.cells v.cells e)) S' r' (updO O [(k, .var d.cells)]) ∧ (∀ b o, S b o → S' b o) ∧
      (∀ b o, S b o → (w.alloc (.cells v.cells e)).cell? ⟨b, o, none⟩ = w.cell? ⟨b, o, none⟩) ∧ RhoLe r r' := by
  have hc := Chg.alloc w S hH.valid (.cells v.cells e)
  have hr : RhoLe r (updR r k (.blk w.heap.size)) := RhoLe.new (hI.dom k hk)
  obtain ⟨hz, hcell⟩ := rel_cells hv hs
  have hk0 : updR r k (.blk w.heap.size) k = some (.blk w.heap.size) := by simp [updR]
  refine ⟨S, updR r k (.blk w.heap.size), .pv _ k 0 _ hk0, ?_, ?_, fun _ _ h => h, hc.cell, hr⟩
  · exact hH.chg hc (fun b hb => by cases hb) (fun _ _ h => h) (fun b o h => .inl h)
  · refine hI.put hc (fun _ _ h => h) hr k _ (.blk w.heap.size) ?_ hk0 (fun j hj => by simp [updR, hj]) (fun b hb => ?_) (fun b hb => by cases hb) (fun b o h => .inl h)
    · refine ⟨w.heap.size, v.cells, e, hk0, heap_alloc_new w _, hz, fun j hj => ⟨(hcell j hj).mono (fun _ _ h => h) hc.cell _ hr, ?_⟩, fun o ho => ?_⟩
      · rw [List.all_eq_true] at h1
        refine h1 _ ?_
        simp only [List.getD_eq_getElem?_getD, List.getElem?_eq_getElem hj, Option.getD_some]
        exact List.getElem_mem hj
      · have := hH.valid _ _ ho; omega
    · simp only [Loc.block, Option.some.injEq] at hb
      subst hb
      exact .inl ⟨Nat.le_refl _, .inl hH.size⟩

end
end Go.Proofs.YteidmimpkipcfaaDoor.Flow
