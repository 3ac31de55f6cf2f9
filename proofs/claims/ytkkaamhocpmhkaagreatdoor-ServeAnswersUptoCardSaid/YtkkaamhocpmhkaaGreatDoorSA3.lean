/- The texts FlowE, FlowF, FlowG, one behind the other. -/
import Derived.Test.YtkkaamhocpmhkaaGreatDoorSA2
import Derived.Deep.AppendSrc
namespace Go.Proofs.YtkkaamhocpmhkaaGreatDoor.Flow
structure Chg (w w' : World) (S : Cells) (g : Option Nat) : Prop where
  os : w'.os = w.os
  tape : w'.tape = w.tape
  output : w'.output = w.output
  size : w.heap.size ≤ w'.heap.size
  block : ∀ k, k < w.heap.size → some k ≠ g → w'.heap[k]? = w.heap[k]?
  cell : ∀ b o, S b o → w'.cell? ⟨b, o, none⟩ = w.cell? ⟨b, o, none⟩
section
variable {X : Ctx} {w w' : World} {S S' : Cells} {r r' : Rho} {O : Nat → Option Own} {g : Option Nat}
theorem Hist.chg (h : Hist X w S) (c : Chg w w' S g) (hg : ∀ b, g = some b → X.w0.heap.size ≤ b ∨ X.L b) (hS : ∀ b o, S b o → S' b o)
    (hn : ∀ b o, S' b o → S b o ∨ ((X.w0.heap.size ≤ b ∨ X.L b) ∧ b < w'.heap.size)) : Hist X w' S' where
  os := c.os.trans h.os
  tape := c.tape.trans h.tape
  output := c.output.trans h.output
  size := Nat.le_trans h.size c.size
  block := fun k hk hl => (c.block k (Nat.lt_of_lt_of_le hk h.size) (fun e => by
    rcases hg k e.symm with h1 | h1
    · omega
    · exact hl h1)).trans (h.block k hk hl)
  sub := fun b o hb => hS _ _ (h.sub b o hb)
  cell := fun b o hb => (c.cell b o (h.sub b o hb)).trans (h.cell b o hb)
  new := fun b o hb => by
    rcases hn b o hb with h1 | ⟨h1 | h1, _⟩
    · exact h.new b o h1
    · exact .inr (.inl h1)
    · exact .inr (.inr h1)
  valid := fun b o hb => by
    rcases hn b o hb with h1 | h1
    · exact Nat.lt_of_lt_of_le (h.valid b o h1) c.size
    · exact h1.2
  glob := h.glob.mono hS c.cell
theorem ObjOk.blockLt {k : Nat} {o : Own} (h : ObjOk S w r k o) {l : Loc} {b : Nat} (hl : r k = some l) (hb : l.block = some b) : b < w.heap.size := by
  cases o with
  | var cs =>
    obtain ⟨b', cur, e, h1, h2, _⟩ := h
    rw [h1] at hl
    cases hl
    simp only [Loc.block, Option.some.injEq] at hb
    subst hb
    exact (Array.getElem?_eq_some_iff.1 h2).1
  | row e esz len =>
    obtain ⟨tv, h1, h2⟩ := h
    rw [h1] at hl
    cases hl
    rcases h2 with ⟨rfl, _⟩ | ⟨g, cap, cur, rfl, hg, _⟩
    · simp [Loc.block] at hb
    · simp only [Loc.block, Option.some.injEq] at hb
      subst hb
      exact (Array.getElem?_eq_some_iff.1 hg).1
  | arr e esz len f =>
    obtain ⟨tv, h1, h2⟩ := h
    rw [h1] at hl
    cases hl
    rcases h2 with ⟨rfl, _⟩ | ⟨g, cap, cur, rfl, hg, _⟩
    · simp [Loc.block] at hb
    · simp only [Loc.block, Option.some.injEq] at hb
      subst hb
      exact (Array.getElem?_eq_some_iff.1 hg).1
  | ob x =>
    obtain ⟨b', h1, h2, _⟩ := h
    rw [h1] at hl
    cases hl
    simp only [Loc.block, Option.some.injEq] at hb
    subst hb
    exact (Array.getElem?_eq_some_iff.1 h2).1
  | bld T d =>
    obtain ⟨b', cur, e, h1, h2, _⟩ := h
    rw [h1] at hl
    cases hl
    simp only [Loc.block, Option.some.injEq] at hb
    subst hb
    exact (Array.getElem?_eq_some_iff.1 h2).1
  | mp es =>
    obtain ⟨b', arr, clock, h1, h2, _⟩ := h
    rw [h1] at hl
    cases hl
    simp only [Loc.block, Option.some.injEq] at hb
    subst hb
    exact (Array.getElem?_eq_some_iff.1 h2).1
  | bm e len f =>
    obtain ⟨g, cap, cur, fz, h1, h2, _⟩ := h
    rw [h1] at hl
    cases hl
    simp only [Loc.block, Option.some.injEq] at hb
    subst hb
    exact (Array.getElem?_eq_some_iff.1 h2).1
  | gone =>
    obtain ⟨l', h1, h2⟩ := h
    rw [h1] at hl
    cases hl
    exact h2 b hb
theorem ObjOk.loc {k : Nat} {o : Own} (h : ObjOk S w r k o) : ∃ l, r k = some l := by
  cases o with
  | var cs => obtain ⟨b', cur, e, h1, _⟩ := h; exact ⟨_, h1⟩
  | row e esz len => obtain ⟨tv, h1, _⟩ := h; exact ⟨_, h1⟩
  | arr e esz len f => obtain ⟨tv, h1, _⟩ := h; exact ⟨_, h1⟩
  | ob x => obtain ⟨b', h1, _⟩ := h; exact ⟨_, h1⟩
  | bld T d => obtain ⟨b', cur, e, h1, _⟩ := h; exact ⟨_, h1⟩
  | mp es => obtain ⟨b', arr, clock, h1, _⟩ := h; exact ⟨_, h1⟩
  | bm e len f => obtain ⟨g, cap, cur, fz, h1, _⟩ := h; exact ⟨_, h1⟩
  | gone => obtain ⟨l', h1, _⟩ := h; exact ⟨_, h1⟩
theorem ObjOk.toGone {k : Nat} {o : Own} (h : ObjOk S w r k o) : ObjOk S w r k .gone :=
  let ⟨l, hl⟩ := h.loc
  ⟨l, hl, fun _ hb => h.blockLt hl hb⟩
theorem ObjOk.keep {k : Nat} {o : Own} (h : ObjOk S w r k o) (c : Chg w w' S g) (hS : ∀ b o, S b o → S' b o) (hr : RhoLe r r') (hk : r' k = r k)
    (hg : ∀ l b, r k = some l → l.block = some b → g ≠ some b) (hn : ∀ b o, S' b o → S b o ∨ ∀ l, r k = some l → l.block ≠ some b) : ObjOk S' w' r' k o := by
  have hmono : ∀ d v, Rel S w r d v → Rel S' w' r' d v := fun d v hd => hd.mono hS (fun b o hb => c.cell b o hb) r' hr
  have hlt := fun l b (hl : r k = some l) (hb : l.block = some b) => h.blockLt hl hb
  cases o with
  | var cs =>
    obtain ⟨b, cur, e, h1, h2, h3, h4, h5⟩ := h
    have hb : (Loc.blk b).block = some b := rfl
    refine ⟨b, cur, e, hk.trans h1, ?_, h3, fun j hj => ⟨hmono _ _ (h4 j hj).1, (h4 j hj).2⟩, fun o ho => ?_⟩
    · rw [c.block b (hlt _ _ h1 hb) (fun e => hg _ _ h1 hb e.symm)]; exact h2
    · rcases hn b o ho with h6 | h6
      · exact h5 o h6
      · exact h6 _ h1 hb
  | row e esz len =>
    obtain ⟨tv, h1, h2⟩ := h
    refine ⟨tv, hk.trans h1, ?_⟩
    rcases h2 with h2 | ⟨g', cap, cur, rfl, h3, h4, h5, h6, h7⟩
    · exact .inl h2
    · have hb : (Loc.row (.slice (some ⟨g', 0, none⟩) len cap) len).block = some g' := rfl
      refine .inr ⟨g', cap, cur, rfl, ?_, h4, h5, h6, fun o ho hs => ?_⟩
      · rw [c.block g' (hlt _ _ h1 hb) (fun e => hg _ _ h1 hb e.symm)]; exact h3
      · rcases hn g' o hs with h8 | h8
        · exact h7 o ho h8
        · exact h8 _ h1 hb
  | arr e esz len f =>
    obtain ⟨tv, h1, h2⟩ := h
    refine ⟨tv, hk.trans h1, ?_⟩
    rcases h2 with h2 | ⟨g', cap, cur, rfl, h3, h4, h5, h6, h7, h8, h9⟩
    · exact .inl h2
    · have hb : (Loc.row (.slice (some ⟨g', 0, none⟩) len cap) len).block = some g' := rfl
      refine .inr ⟨g', cap, cur, rfl, ?_, h4, h5, h6, h7, fun i j hi hj => (h8 i j hi hj).mono hS (fun b o hb => c.cell b o hb) noRho (RhoLe.refl _), fun o hs => ?_⟩
      · rw [c.block g' (hlt _ _ h1 hb) (fun e => hg _ _ h1 hb e.symm)]; exact h3
      · rcases hn g' o hs with h10 | h10
        · exact h9 o h10
        · exact h10 _ h1 hb
  | ob x =>
    obtain ⟨b, h1, h2, h5⟩ := h
    have hb : (Loc.blk b).block = some b := rfl
    refine ⟨b, hk.trans h1, ?_, fun o ho => ?_⟩
    · rw [c.block b (hlt _ _ h1 hb) (fun e => hg _ _ h1 hb e.symm)]; exact h2
    · rcases hn b o ho with h6 | h6
      · exact h5 o h6
      · exact h6 _ h1 hb
  | bld T d =>
    obtain ⟨b, cur, e, h1, h2, h3, h4, h7, h5⟩ := h
    have hb : (Loc.blk b).block = some b := rfl
    refine ⟨b, cur, e, hk.trans h1, ?_, h3, h4, ⟨hmono _ _ h7.1, h7.2⟩, fun o ho => ?_⟩
    · rw [c.block b (hlt _ _ h1 hb) (fun e => hg _ _ h1 hb e.symm)]; exact h2
    · rcases hn b o ho with h6 | h6
      · exact h5 o h6
      · exact h6 _ h1 hb
  | mp es =>
    obtain ⟨b, arr, clock, h1, h2, h3, h4, h7, h5⟩ := h
    have hb : (Loc.blk b).block = some b := rfl
    refine ⟨b, arr, clock, hk.trans h1, ?_, h3, fun j hj => ⟨(h4 j hj).1, hmono _ _ (h4 j hj).2.1, (h4 j hj).2.2⟩, h7, fun o ho => ?_⟩
    · rw [c.block b (hlt _ _ h1 hb) (fun e => hg _ _ h1 hb e.symm)]; exact h2
    · rcases hn b o ho with h6 | h6
      · exact h5 o h6
      · exact h6 _ h1 hb
  | bm e len f =>
    obtain ⟨b, cap, cur, fz, h1, h2, h3, h4, h7, h8, h9, h5⟩ := h
    have hb : (Loc.row (.slice (some ⟨b, 0, none⟩) len cap) len).block = some b := rfl
    refine ⟨b, cap, cur, fz, hk.trans h1, ?_, h3, h4, h7, h8, h9, fun o ho => ?_⟩
    · rw [c.block b (hlt _ _ h1 hb) (fun e => hg _ _ h1 hb e.symm)]; exact h2
    · rcases hn b o ho with h6 | h6
      · exact h5 o h6
      · exact h6 _ h1 hb
  | gone =>
    obtain ⟨l, h1, h2⟩ := h
    exact ⟨l, hk.trans h1, fun b hb => Nat.lt_of_lt_of_le (h2 b hb) c.size⟩
theorem Inv.put (h : Inv X w S r O) (c : Chg w w' S g) (hS : ∀ b o, S b o → S' b o) (hr : RhoLe r r') (k0 : Nat) (o0 : Own) (l0 : Loc) (h0 : ObjOk S' w' r' k0 o0)
    (hl0 : r' k0 = some l0) (hoth : ∀ k, k ≠ k0 → r' k = r k)
    (hb0 : ∀ b, l0.block = some b → (w.heap.size ≤ b ∧ (X.w0.heap.size ≤ b ∨ X.L b)) ∨ ∃ l, r k0 = some l ∧ l.block = some b)
    (hg : ∀ b, g = some b → ∃ l, r k0 = some l ∧ l.block = some b)
    (hn : ∀ b o, S' b o → S b o ∨ l0.block = some b ∨ w.heap.size ≤ b) : Inv X w' S' r' (fun j => if j = k0 then some o0 else O j) := by
  have hlt : ∀ k l b, r k = some l → l.block = some b → b < w.heap.size := fun k l b hl hb => by
    cases ho : O k with
    | none => rw [h.dom k ho] at hl; cases hl
    | some o => exact (h.obj k o ho).blockLt hl hb
  have hne : ∀ k l b, k ≠ k0 → r k = some l → l.block = some b → l0.block ≠ some b := fun k l b hk hl hb e => by
    rcases hb0 b e with ⟨h1, _⟩ | ⟨l', h1, h2⟩
    · have := hlt k l b hl hb; omega
    · exact h.apart k k0 l l' b hk hl h1 hb h2
  constructor
  · intro k o hk
    by_cases e : k = k0
    · subst e
      simp only [if_true] at hk
      cases hk
      exact h0
    · simp only [if_neg e] at hk
      refine (h.obj k o hk).keep c hS hr (hoth k e) (fun l b hl hb eg => ?_) (fun b o hs => ?_)
      · obtain ⟨l', h1, h2⟩ := hg b eg
        exact h.apart k k0 l l' b e hl h1 hb h2
      · rcases hn b o hs with h1 | h1 | h1
        · exact .inl h1
        · exact .inr fun l hl hb => hne k l b e hl hb h1
        · exact .inr fun l hl hb => by have := hlt k l b hl hb; omega
  · intro k hk
    by_cases e : k = k0
    · subst e; simp at hk
    · simp only [if_neg e] at hk
      rw [hoth k e]
      exact h.dom k hk
  · intro k k' l l' b hkk hl hl' hb hb'
    by_cases e : k = k0
    · subst e
      have e' : k' ≠ k := fun e => hkk e.symm
      rw [hl0] at hl
      cases hl
      rw [hoth k' e'] at hl'
      exact hne k' l' b e' hl' hb' hb
    · rw [hoth k e] at hl
      by_cases e' : k' = k0
      · subst e'
        rw [hl0] at hl'
        cases hl'
        exact hne k l b e hl hb hb'
      · rw [hoth k' e'] at hl'
        exact h.apart k k' l l' b hkk hl hl' hb hb'
  · intro k l b hl hb
    by_cases e : k = k0
    · subst e
      rw [hl0] at hl
      cases hl
      rcases hb0 b hb with ⟨_, h1⟩ | ⟨l', h1, h2⟩
      · exact h1
      · exact h.low k l' b h1 h2
    · rw [hoth k e] at hl
      exact h.low k l b hl hb
def updR (r : Rho) (k : Nat) (l : Loc) : Rho := fun j => if j = k then some l else r j
theorem RhoLe.new {k : Nat} {l : Loc} (h : r k = none) : RhoLe r (updR r k l) := fun j l' hj => by
  have : j ≠ k := fun e => by subst e; rw [h] at hj; cases hj
  exact ⟨l', by simp [updR, this, hj], LocLe.refl _⟩
theorem RhoLe.upd {k : Nat} {l l0 : Loc} (h : r k = some l0) (hl : LocLe l0 l) : RhoLe r (updR r k l) := fun j l' hj => by
  by_cases e : j = k
  · subst e
    rw [h] at hj
    cases hj
    exact ⟨l, by simp [updR], hl⟩
  · exact ⟨l', by simp [updR, e, hj], LocLe.refl _⟩
theorem Chg.alloc (w : World) (S : Cells) (hv : ∀ b o, S b o → b < w.heap.size) (ob : Obj) : Chg w (w.alloc ob) S none where
  os := rfl
  tape := rfl
  output := rfl
  size := by simp
  block := fun k hk _ => RowKit.Below.heap_alloc w ob k hk
  cell := fun b o hb => World.cell?_of_block (w := w) (RowKit.Below.heap_alloc w ob b (hv b o hb))
theorem Chg.drewAlloc (w : World) (S : Cells) (hv : ∀ b o, S b o → b < w.heap.size) (ob : Obj) (g : Option Nat) : Chg w (w.drew.alloc ob) S g where
  os := rfl
  tape := rfl
  output := rfl
  size := by simp
  block := fun k hk _ => RowKit.Below.heap_alloc w.drew ob k hk
  cell := fun b o hb => World.cell?_of_block (w := w) (RowKit.Below.heap_alloc w.drew ob b (hv b o hb))
theorem Chg.setRow (w : World) (S : Cells) (g : Nat) (old cs : Array Value) (t : TypeId) (fr : Nat × Nat) (hg : w.heap[g]? = some (.cells old t fr)) (hc : ∀ o, S g o → cs[o]? = old[o]?) :
    Chg w (w.setRow g cs) S (some g) where
  os := rfl
  tape := rfl
  output := rfl
  size := by simp
  block := fun k _ hne => setRow_other w g k cs (fun e => hne (by rw [e]))
  cell := fun b o hb => by
    by_cases e : b = g
    · subst e
      rw [cell_setRow_same w b o old cs t fr hg, hc o hb, cell_of_row w b o old t fr hg]
    · exact cell_setRow_other w g cs ⟨b, o, none⟩ e
end
section
variable {P : Program} {S : Cells} {w : World} {r : Rho}
theorem zaY {d : D} {v : Value} (h : Rel S w r d v) (hs : d.solid = true) : v.cells.size = d.cells.length ∧ ∀ j, j < d.cells.length → Rel S w r (d.cells.getD j .any) (v.cells.getD j undef) := by
  have one : ∀ (d : D) (v : Value), d.cells = [d] → v.cells = #[v] → Rel S w r d v → v.cells.size = d.cells.length ∧ ∀ j, j < d.cells.length → Rel S w r (d.cells.getD j .any) (v.cells.getD j undef) := by
    intro d v h1 h2 h3
    rw [h1, h2]
    refine ⟨rfl, fun j hj => ?_⟩
    have : j = 0 := by simpa using hj
    subst this
    exact h3
  cases h with
  | any => simp [D.solid] at hs
  | tu => simp [D.solid] at hs
  | ag _ cs vs hn h => exact ⟨hn, h⟩
  | v =>
    have hv : v.cells = #[v] := by cases v <;> first | rfl | (simp [D.solid, Value.oneCell'] at hs)
    exact one _ _ rfl hv (.v ..)
  | i => exact one _ _ rfl rfl (.i ..)
  | b => exact one _ _ rfl rfl (.b ..)
  | s => exact one _ _ rfl rfl (.s ..)
  | nilS => exact one _ _ rfl rfl (.nilS ..)
  | fn _ f cs vs hn h => exact one _ _ rfl rfl (.fn _ f cs vs hn h)
  | sl _ esz len f a cap c hc hm hl hcell hr => exact one _ _ rfl rfl (.sl _ esz len f a cap c hc hm hl hcell hr)
  | rf _ cs off b o c hp hcell hr => exact one _ _ rfl rfl (.rf _ cs off b o c hp hcell hr)
  | pv _ k off b h => exact one _ _ rfl rfl (.pv _ k off b h)
  | mh _ k b h => exact one _ _ rfl rfl (.mh _ k b h)
  | ah _ k esz len cap a tv L hk hL ht ha => exact one _ _ rfl rfl (.ah _ k esz len cap a tv L hk hL ht ha)
  | ap _ k esz len i off a tv L hk hL ht ha => exact one _ _ rfl rfl (.ap _ k esz len i off a tv L hk hL ht ha)
  | e0 _ z a => exact one _ _ rfl rfl (.e0 _ z a)
  | se _ z b a cap hm hb => exact one _ _ rfl rfl (.se _ z b a cap hm hb)
  | rn _ k len f off b h => exact one _ _ rfl rfl (.rn _ k len f off b h)
  | gs _ k esz len f _ tv L h hk hL ht =>
    have hv : v.cells = #[v] := by cases h; rfl
    exact one _ _ rfl hv (.gs _ k esz len f v tv L h hk hL ht)
theorem zbW {α : Type} (cs ds : List α) (off j : Nat) (x : α) (h : off + ds.length ≤ cs.length) :
    (cs.take off ++ ds ++ cs.drop (off + ds.length)).getD j x = if off ≤ j ∧ j < off + ds.length then ds.getD (j - off) x else cs.getD j x := by
  simp only [List.getD_eq_getElem?_getD]
  by_cases h1 : j < off
  · rw [if_neg (by omega), List.append_assoc, List.getElem?_append_left (by simp; omega), List.getElem?_take_of_lt h1]
  · by_cases h2 : j < off + ds.length
    · rw [if_pos (by omega), List.getElem?_append_left (by simp; omega), List.getElem?_append_right (by simp; omega)]
      congr 2
      simp; omega
    · rw [if_neg (by omega), List.getElem?_append_right (by simp; omega), List.getElem?_drop]
      congr 2
      simp; omega
theorem zbk {α : Type} (cs ds : List α) (off : Nat) (h : off + ds.length ≤ cs.length) : (cs.take off ++ ds ++ cs.drop (off + ds.length)).length = cs.length := by
  simp; omega
end
section
variable {P : Program} {X : Ctx} {n : Nat} {o : Oper} {F : Nat → D} {O : Nat → Option Own}
theorem zap (hd : dstOk o.dst n) {d : D} {wr : List (Nat × Own)}
    (h : ∀ (a : Act) (w : World) (S : Cells) (r : Rho), Hist X w S → Inv X w S r O → (∀ x, Rel S w r (evF F x) (a.eval x)) →
      ∃ v w' S' r', ((execOp a.eval o).run P w = .ok (.value v) w' ∨ ((execOp a.eval o).run P w = .ok .skip w' ∧ v = undef)) ∧ Rel S' w' r' d v ∧ Hist X w' S' ∧ Inv X w' S' r' (updO O wr) ∧
        (∀ b o, S b o → S' b o) ∧ (∀ b o, S b o → w'.cell? ⟨b, o, none⟩ = w.cell? ⟨b, o, none⟩) ∧ RhoLe r r') :
    StepAt P X n o F O d wr := by
  intro a w K Q ⟨S, r, hH, hI, hF, hdf, hn, hρ⟩ hK
  obtain ⟨v, w', S', r', hrun, hv, hH', hI', hS, hc, hr⟩ := h a w S r hH hI (fun x => zbK hH.glob hF x)
  have hrep : Rep X n (updF F o.dst d) (updO O wr) (a.put o.dst v) w' :=
    ⟨S', r', hH', hI', zbO (fun t => (hF t).mono hS hc r' hr) (hn ▸ hd) hv, by rw [zbd]; exact hdf, by rw [zbD]; exact hn, hρ.trans hr⟩
  rcases hrun with hrun | ⟨hrun, rfl⟩
  · exact OW.value hrun (hK v w' hrep)
  · exact OW.skip hrun (hK undef w' hrep)
theorem zfg {w : World} {S : Cells} {r : Rho} {d : D} {v : Value} (e : TypeId) (hH : Hist X w S) (hI : Inv X w S r O) (hv : Rel S w r d v) (hs : d.solid = true) (h1 : d.cells.all D.one = true)
    {k : Nat} (hk : O k = none) :
    ∃ S' r', Rel S' (w.alloc (.cells v.cells e)) r' (.pv k 0) (.pointer (some ⟨w.heap.size, 0, none⟩)) ∧ Hist X (w.alloc (.cells v.cells e)) S' ∧
      Inv X (w.alloc (.cells v.cells e)) S' r' (updO O [(k, .var d.cells)]) ∧ (∀ b o, S b o → S' b o) ∧
      (∀ b o, S b o → (w.alloc (.cells v.cells e)).cell? ⟨b, o, none⟩ = w.cell? ⟨b, o, none⟩) ∧ RhoLe r r' := by
  have hc := Chg.alloc w S hH.valid (.cells v.cells e)
  have hr : RhoLe r (updR r k (.blk w.heap.size)) := RhoLe.new (hI.dom k hk)
  obtain ⟨hz, hcell⟩ := zaY hv hs
  have hk0 : updR r k (.blk w.heap.size) k = some (.blk w.heap.size) := by simp [updR]
  refine ⟨S, updR r k (.blk w.heap.size), .pv _ k 0 _ hk0, ?_, ?_, fun _ _ h => h, hc.cell, hr⟩
  · exact hH.chg hc (fun b hb => by cases hb) (fun _ _ h => h) (fun b o h => .inl h)
  · refine hI.put hc (fun _ _ h => h) hr k _ (.blk w.heap.size) ?_ hk0 (fun j hj => by simp [updR, hj]) (fun b hb => ?_) (fun b hb => by cases hb) (fun b o h => .inl h)
    · refine ⟨w.heap.size, v.cells, e, hk0, heap_alloc_new w _, hz, fun j hj => ⟨(hcell j hj).mono (fun _ _ h => h) hc.cell _ hr, ?_⟩, fun o ho => ?_⟩
      · rw [List.all_eq_true] at h1
        refine h1 _ ?_
        simp only [List.getD_eq_getElem?_getD, List.getElem?_eq_getElem hj, Option.getD_some]
        exact List.getElem_mem hj
      · have := hH.valid _ _ ho; omega
    · simp only [Loc.block, Option.some.injEq] at hb
      subst hb
      exact .inl ⟨Nat.le_refl _, .inl hH.size⟩
end
end Go.Proofs.YtkkaamhocpmhkaaGreatDoor.Flow

namespace Go.Proofs.YtkkaamhocpmhkaaGreatDoor.Flow
def flat (z m : Nat) (c : Nat → Nat → Value) : List Value := (List.range (m * z)).map fun p => c (p / z) (p % z)
theorem zaF (z m : Nat) (c : Nat → Nat → Value) : (flat z m c).length = m * z := by simp [flat]
theorem zcm {z m i j : Nat} (c : Nat → Nat → Value) (hi : i < m) (hj : j < z) : (flat z m c)[i * z + j]? = some (c i j) := by
  have h1 : i * z + j < m * z := by
    have : (i + 1) * z ≤ m * z := Nat.mul_le_mul_right z hi
    rw [Nat.add_mul] at this
    omega
  have h2 : (i * z + j) / z = i := by
    rw [Nat.mul_comm, Nat.mul_add_div (by omega), Nat.div_eq_of_lt hj, Nat.add_zero]
  have h3 : (i * z + j) % z = j := by
    rw [Nat.mul_comm, Nat.mul_add_mod, Nat.mod_eq_of_lt hj]
  simp [flat, h1, h2, h3]
theorem zca {z m p : Nat} (h : p < m * z) : ∃ i j, p = i * z + j ∧ i < m ∧ j < z := by
  have hz : 0 < z := by
    rcases Nat.eq_zero_or_pos z with e | e
    · subst e; simp at h
    · exact e
  refine ⟨p / z, p % z, ?_, (Nat.div_lt_iff_lt_mul hz).2 h, Nat.mod_lt _ hz⟩
  rw [Nat.mul_comm]
  exact (Nat.div_add_mod p z).symm
theorem zfW {S : Cells} {w : World} {z m : Nat} {f : Nat → List D} {c : Nat → Nat → Value} (hl : ∀ i, i < m → (f i).length = z ∧ (f i).all D.plain = true)
    (hr : ∀ i j, i < m → j < z → Rel S w noRho ((f i).getD j .any) (c i j)) : ∀ u ∈ flat z m c, u.oneCell' = true := by
  intro u hu
  simp only [flat, List.mem_map, List.mem_range] at hu
  obtain ⟨p, hp, rfl⟩ := hu
  obtain ⟨i, j, he, hi, hj⟩ := zca hp
  have hz : 0 < z := by omega
  have h2 : p / z = i := by subst he; rw [Nat.mul_comm, Nat.mul_add_div (by omega), Nat.div_eq_of_lt hj, Nat.add_zero]
  have h3 : p % z = j := by subst he; rw [Nat.mul_comm, Nat.mul_add_mod, Nat.mod_eq_of_lt hj]
  rw [h2, h3]
  refine (hr i j hi hj).one (D.one_of_plain ?_)
  have := (hl i hi).2
  rw [List.all_eq_true] at this
  have hj' : j < (f i).length := by rw [(hl i hi).1]; exact hj
  refine this _ ?_
  simp only [List.getD_eq_getElem?_getD, List.getElem?_eq_getElem hj', Option.getD_some]
  exact List.getElem_mem hj'
section
variable {P : Program} {S : Cells} {w : World} {r : Rho}
theorem zgF {z N : Nat} {f : Nat → List D} {c : Nat → Nat → Value} {g cap : Nat} {cur : Array Value} {e : TypeId} {fr : Nat × Nat} (hg : w.heap[g]? = some (.cells cur e fr)) (hc : N ≤ cap) (hm : cap ≤ maxLen)
    (hcur : ∀ i j, i < N → j < z → cur[i * z + j]? = some (c i j)) (hS : ∀ i j, i < N → j < z → S g (i * z + j))
    (hl : ∀ i, i < N → (f i).length = z ∧ (f i).all D.plain = true) (hr : ∀ i j, i < N → j < z → Rel S w noRho ((f i).getD j .any) (c i j)) :
    Rel S w r (.sl z N f) (.slice (some ⟨g, 0, none⟩) N cap) :=
  .sl _ z N f _ cap c hc hm hl (fun i j hi hj => ⟨g, 0, rfl, by rw [Nat.zero_add]; exact hS i j hi hj, by rw [Nat.zero_add, cell_of_row w g _ cur e fr hg]; exact hcur i j hi hj⟩) hr
end
theorem zbZ {α : Type} (l : List α) (j : Nat) (x : α) : l.toArray.getD j x = l.getD j x := by simp [Array.getD_eq_getD_getElem?, List.getD_eq_getElem?_getD]
theorem zfx (off : Nat) : ∀ (l : List Value) (k : Nat) (cs : Array Value), off + k + l.length ≤ cs.size →
    (l.zipIdx k).foldl (fun cs (x : Value × Nat) => cs.setIfInBounds (off + x.2) x.1) cs = (cs.toList.take (off + k) ++ l ++ cs.toList.drop (off + k + l.length)).toArray
  | [], k, cs, _ => by simp
  | x :: l, k, cs, h => by
    simp only [List.zipIdx_cons, List.foldl_cons]
    rw [zfx off l (k + 1) _ (by simp at h ⊢; omega)]
    have e := list_seg_step cs.toList (off + k) x l (by simp at h ⊢; omega)
    congr 1
    simpa [Array.toList_setIfInBounds, Nat.add_assoc] using e
section
variable {P : Program} {S : Cells} {w : World} {r : Rho}
inductive Parts (S : Cells) (w : World) (r : Rho) : List (Nat × D) → List (Nat × Value) → Prop
  | nil : Parts S w r [] []
  | cons (i : Nat) (d : D) (v : Value) (ds : List (Nat × D)) (vs : List (Nat × Value)) (h : Rel S w r d v) (t : Parts S w r ds vs) : Parts S w r ((i, d) :: ds) ((i, v) :: vs)
theorem zez {e : Operand → D} {ρ : Operand → Value} : ∀ (l : List (Nat × Operand)), (∀ i x, (i, x) ∈ l → Rel S w r (e x) (ρ x)) → Parts S w r (evParts e l) (l.map fun (i, x) => (i, ρ x))
  | [], _ => .nil
  | (i, x) :: l, h => .cons i _ _ _ _ (h i x (by simp)) (zez l (fun j y hy => h j y (by simp [hy])))
theorem zbR {place : Nat → Option (Nat × Nat)} : ∀ {ds : List (Nat × D)} {vs : List (Nat × Value)} {cs cs' : List D} {cells : Array Value}, Parts S w r ds vs → fillD place cs ds = some cs' →
    cells.size = cs.length → (∀ j, j < cs.length → Rel S w r (cs.getD j .any) (cells.getD j undef)) →
    ∃ cells', Instr.fill place cells vs = some cells' ∧ cells'.size = cs'.length ∧ cs'.length = cs.length ∧ ∀ j, j < cs'.length → Rel S w r (cs'.getD j .any) (cells'.getD j undef)
  | _, _, cs, cs', cells, .nil, h, hn, hr => by
    simp only [fillD, Option.some.injEq] at h
    subst h
    exact ⟨cells, rfl, hn, rfl, hr⟩
  | _, _, cs, cs', cells, .cons i d v ds vs hd t, h, hn, hr => by
    simp only [fillD, zbx] at h
    cases hp : place i with
    | none => simp only [hp] at h; cases h
    | some q =>
      obtain ⟨off, size⟩ := q
      simp only [hp] at h
      cases hb : (Nat.beq d.cells.length size && Nat.ble (off + size) cs.length && d.solid) with
      | false => simp only [hb] at h; cases h
      | true =>
        simp only [hb] at h
        simp only [Bool.and_eq_true, Nat.ble_eq] at hb
        obtain ⟨⟨h1', h2⟩, h3⟩ := hb
        have h1 := Nat.eq_of_beq_eq_true h1'
        obtain ⟨hv, hvr⟩ := zaY hd h3
        have hfit : off + d.cells.length ≤ cs.length := by omega
        have hlen := zbk cs d.cells off hfit
        have e : (v.cells.zipIdx.foldl (fun cs (x : Value × Nat) => cs.setIfInBounds (off + x.2) x.1) cells) = (cells.toList.take off ++ v.cells.toList ++ cells.toList.drop (off + v.cells.toList.length)).toArray := by
          rw [← Array.foldl_toList, Array.toList_zipIdx]
          have := zfx off v.cells.toList 0 cells (by simp; omega)
          simpa using this
        have hvl : v.cells.toList.length = d.cells.length := by simpa using hv
        have hfit' : off + v.cells.toList.length ≤ cells.toList.length := by simp; omega
        have hlen' := zbk cells.toList v.cells.toList off hfit'
        obtain ⟨cells', g1, g2, g3, g4⟩ := zbR (cells := (cells.toList.take off ++ v.cells.toList ++ cells.toList.drop (off + v.cells.toList.length)).toArray) t h
          (by
            unfold putCells
            rw [hlen, List.size_toArray, hlen']
            simpa using hn)
          (fun j hj => by
            unfold putCells at hj ⊢
            rw [hlen] at hj
            rw [zbW _ _ _ _ _ hfit, zbZ, zbW _ _ _ _ _ hfit', hvl]
            by_cases hc : off ≤ j ∧ j < off + d.cells.length
            · rw [if_pos hc, if_pos hc]
              have := hvr (j - off) (by omega)
              simpa [Array.getD_eq_getD_getElem?, List.getD_eq_getElem?_getD] using this
            · rw [if_neg hc, if_neg hc]
              have := hr j hj
              simpa [Array.getD_eq_getD_getElem?, List.getD_eq_getElem?_getD] using this)
        refine ⟨cells', ?_, g2, ?_, g4⟩
        · simp only [Instr.fill, hp]
          rw [if_neg (by simp; omega)]
          have e' : (v.cells.zipIdx.foldl (fun cs (c, j) => cs.setIfInBounds (off + j) c) cells) = (cells.toList.take off ++ v.cells.toList ++ cells.toList.drop (off + v.cells.toList.length)).toArray := e
          rw [e']
          exact g1
        · rw [g3]
          unfold putCells
          exact hlen
end
end Go.Proofs.YtkkaamhocpmhkaaGreatDoor.Flow

namespace Go.Proofs.YtkkaamhocpmhkaaGreatDoor.Flow
section
variable {P : Program} {X : Ctx} {n : Nat} {o : Oper} {F : Nat → D} {O O' : Nat → Option Own}
theorem zkz {w : World} {S : Cells} {r : Rho} {t : TypeId} {z : Nat × Bool} {k off : Nat} {cs : List D} {d : D} {va vx : Value} (hH : Hist X w S) (hI : Inv X w S r O)
    (ha : Rel S w r (.pv k off) va) (hx : Rel S w r d vx) (hz : szOf P t = some z) (hk : O k = some (.var cs)) (h1 : d.cells.length = z.1) (h2 : off + d.cells.length ≤ cs.length)
    (h3 : d.solid = true) (h4 : d.cells.all D.one = true) :
    ∃ w' , (Instr.storeAt t va vx).run P w = .ok () w' ∧ Hist X w' S ∧ Inv X w' S r (updO O [(k, .var (putCells cs off d.cells))]) ∧ (∀ b o, S b o → w'.cell? ⟨b, o, none⟩ = w.cell? ⟨b, o, none⟩) := by
  cases ha with
  | pv _ _ _ b hb =>
    obtain ⟨b', cur, e, g1, g2, g3, g4, g5⟩ := hI.obj k _ hk
    rw [hb] at g1
    cases g1
    obtain ⟨hv, hvr⟩ := zaY hx h3
    have hs := zaz (w := w) hz
    have hvl : vx.cells.toList.length = d.cells.length := by simpa using hv
    have h1c : ∀ v ∈ vx.cells.toList, v.oneCell' = true := by
      intro v hv'
      obtain ⟨j, hj, he⟩ := List.mem_iff_getElem.1 hv'
      rw [hvl] at hj
      have hrj := hvr j hj
      have hone : (d.cells.getD j .any).one = true := by
        rw [List.all_eq_true] at h4
        refine h4 _ ?_
        simp only [List.getD_eq_getElem?_getD, List.getElem?_eq_getElem hj, Option.getD_some]
        exact List.getElem_mem hj
      have := hrj.one hone
      rw [← he]
      have hj' : j < vx.cells.size := by omega
      simpa [Array.getD_eq_getD_getElem?, hj'] using this
    have hst := run_storeCells_at P b off e vx.cells.toList 0 cur w g2 (by rw [hvl]; omega) h1c
    simp only [Nat.add_zero] at hst
    refine ⟨w.setRow b (cur.toList.take off ++ vx.cells.toList ++ cur.toList.drop (off + vx.cells.toList.length)).toArray, ?_, ?_, ?_, ?_⟩
    · simp only [Instr.storeAt, Instr.sureAddr, storeVar, Sem.run_bind, Sem.run_pure, Result.andThen_ok, hs]
      rw [if_neg (by omega)]
      exact hst
    · exact hH.chg (Chg.setRow w S b cur _ e (0, 0) g2 (fun o ho => absurd ho (g5 o))) (fun b' hb' => by cases hb'; exact hI.low k _ b hb rfl) (fun _ _ h => h) (fun _ _ h => .inl h)
    · refine hI.put (Chg.setRow w S b cur _ e (0, 0) g2 (fun o ho => absurd ho (g5 o))) (fun _ _ h => h) (RhoLe.refl r) k _ (.blk b) ?_ hb (fun _ _ => rfl)
        (fun b' hb' => .inr ⟨_, hb, hb'⟩) (fun b' hb' => ⟨_, hb, by cases hb'; rfl⟩) (fun _ _ h => .inl h)
      have hlen := zbk cs d.cells off h2
      have hfit' : off + vx.cells.toList.length ≤ cur.toList.length := by simp; omega
      have hlen' := zbk cur.toList vx.cells.toList off hfit'
      have hc := (Chg.setRow w S b cur (cur.toList.take off ++ vx.cells.toList ++ cur.toList.drop (off + vx.cells.toList.length)).toArray e (0, 0) g2 (fun o ho => absurd ho (g5 o))).cell
      refine ⟨b, _, e, hb, setRow_heap w b cur _ e (0, 0) g2, ?_, fun j hj => ?_, g5⟩
      · unfold putCells
        rw [hlen, List.size_toArray, hlen']
        simpa using g3
      · unfold putCells at hj ⊢
        rw [hlen] at hj
        rw [zbW _ _ _ _ _ h2, zbZ, zbW _ _ _ _ _ hfit', hvl]
        by_cases hcj : off ≤ j ∧ j < off + d.cells.length
        · rw [if_pos hcj, if_pos hcj]
          have hj2 : j - off < d.cells.length := by omega
          have h5 := hvr (j - off) hj2
          refine ⟨?_, ?_⟩
          · have := h5.mono (fun _ _ h => h) hc r (RhoLe.refl r)
            rw [hvl] at this
            simpa [Array.getD_eq_getD_getElem?, List.getD_eq_getElem?_getD] using this
          · rw [List.all_eq_true] at h4
            refine h4 _ ?_
            simp only [List.getD_eq_getElem?_getD, List.getElem?_eq_getElem hj2, Option.getD_some]
            exact List.getElem_mem hj2
        · rw [if_neg hcj, if_neg hcj]
          have h5 := g4 j hj
          refine ⟨?_, h5.2⟩
          have := h5.1.mono (fun _ _ h => h) hc r (RhoLe.refl r)
          rw [hvl] at this
          simpa [Array.getD_eq_getD_getElem?, List.getD_eq_getElem?_getD] using this
    · exact (Chg.setRow w S b cur _ e (0, 0) g2 (fun o ho => absurd ho (g5 o))).cell
theorem zke {w : World} {S : Cells} {r : Rho} {t : TypeId} {z : Nat × Bool} {k e len i off : Nat} {el : TypeId} {L : Nat} {f : Nat → List D} {d : D} {va vx : Value} (hH : Hist X w S) (hI : Inv X w S r O)
    (ha : Rel S w r (.ap k e len i off) va) (hx : Rel S w r d vx) (hz : szOf P t = some z) (hk : O k = some (.arr el e L f)) (hlen : len = L) (hi : i < L) (h1 : d.cells.length = z.1) (h2 : off + d.cells.length ≤ e)
    (h3 : d.solid = true) (h4 : d.cells.all D.plain = true) :
    ∃ w' , (Instr.storeAt t va vx).run P w = .ok () w' ∧ Hist X w' S ∧ Inv X w' S r (updO O [(k, .arr el e L (putF f i (putCells (f i) off d.cells)))]) ∧ (∀ b o, S b o → w'.cell? ⟨b, o, none⟩ = w.cell? ⟨b, o, none⟩) := by
  subst hlen
  cases ha with
  | ap _ _ _ _ _ _ a tv L' hk' hL hta hag =>
    obtain ⟨tv', g1, g2⟩ := hI.obj k _ hk
    rw [hk'] at g1
    cases g1
    obtain ⟨g, cap, htv, rfl⟩ := hta rfl
    rcases g2 with ⟨e1, e2⟩ | ⟨g', cap', cur, e1, g2, g3, g4, g5, g6, g7, g8⟩
    · omega
    rw [htv] at e1
    cases e1
    obtain ⟨hv, hvr⟩ := zaY hx h3
    have hs := zaz (w := w) hz
    have hvl : vx.cells.toList.length = d.cells.length := by simpa using hv
    have hpl : ∀ j, j < d.cells.length → (d.cells.getD j .any).plain = true := fun j hj => by
      rw [List.all_eq_true] at h4
      refine h4 _ ?_
      simp only [List.getD_eq_getElem?_getD, List.getElem?_eq_getElem hj, Option.getD_some]
      exact List.getElem_mem hj
    have h1c : ∀ v ∈ vx.cells.toList, v.oneCell' = true := by
      intro v hv'
      obtain ⟨j, hj, he⟩ := List.mem_iff_getElem.1 hv'
      rw [hvl] at hj
      have := (hvr j hj).one (D.one_of_plain (hpl j hj))
      rw [← he]
      have hj' : j < vx.cells.size := by omega
      simpa [Array.getD_eq_getD_getElem?, hj'] using this
    have hfl := (g6 i hi).1
    have hbound : i * e + e ≤ cap * e := by
      have : (i + 1) * e ≤ cap * e := Nat.mul_le_mul_right e (by omega)
      rw [Nat.add_mul] at this
      omega
    have hst := run_storeCells_at P g (i * e + off) el vx.cells.toList 0 cur w g2 (by rw [hvl]; omega) h1c
    simp only [Nat.add_zero] at hst
    have hb0 : (Loc.row (.slice (some ⟨g, 0, none⟩) len cap) len).block = some g := rfl
    have hch := Chg.setRow w S g cur (cur.toList.take (i * e + off) ++ vx.cells.toList ++ cur.toList.drop (i * e + off + vx.cells.toList.length)).toArray el (0, 0) g2 (fun o ho => absurd ho (g8 o))
    refine ⟨w.setRow g (cur.toList.take (i * e + off) ++ vx.cells.toList ++ cur.toList.drop (i * e + off + vx.cells.toList.length)).toArray, ?_, ?_, ?_, hch.cell⟩
    · simp only [Instr.storeAt, Instr.sureAddr, storeVar, Sem.run_bind, Sem.run_pure, Result.andThen_ok, hs]
      rw [if_neg (by omega)]
      exact hst
    · exact hH.chg hch (fun b' hb' => by cases hb'; exact hI.low k _ g (htv ▸ hk') hb0) (fun _ _ h => h) (fun _ _ h => .inl h)
    · refine hI.put hch (fun _ _ h => h) (RhoLe.refl r) k _ (.row tv len) ?_ hk' (fun _ _ => rfl)
        (fun b' hb' => .inr ⟨_, hk', hb'⟩) (fun b' hb' => ⟨_, htv ▸ hk', by cases hb'; rfl⟩) (fun _ _ h => .inl h)
      have hfit' : i * e + off + vx.cells.toList.length ≤ cur.toList.length := by simp; omega
      have hlen' := zbk cur.toList vx.cells.toList (i * e + off) hfit'
      have hfit2 : off + d.cells.length ≤ (f i).length := by omega
      refine ⟨tv, hk', .inr ⟨g, cap, _, htv, setRow_heap w g cur _ el (0, 0) g2, g3, g4, ?_, fun i' hi' => ?_, fun i' j hi' hj => ?_, g8⟩⟩
      · rw [List.size_toArray, hlen']
        simpa using g5
      · unfold putF
        by_cases hii : i' = i
        · rw [if_pos hii]
          unfold putCells
          refine ⟨by rw [zbk _ _ _ hfit2]; exact hfl, ?_⟩
          rw [List.all_eq_true] at h4 ⊢
          have g6' := (g6 i hi).2
          rw [List.all_eq_true] at g6'
          intro x hx'
          simp only [List.mem_append] at hx'
          rcases hx' with (hx' | hx') | hx'
          · exact g6' x (List.mem_of_mem_take hx')
          · exact h4 x hx'
          · exact g6' x (List.mem_of_mem_drop hx')
        · rw [if_neg hii]; exact g6 i' hi'
      · rw [zbZ, zbW _ _ _ _ _ hfit', hvl]
        have hold := (g7 i' j hi' hj).mono (fun _ _ h => h) hch.cell noRho (RhoLe.refl _)
        rw [hvl] at hold
        unfold putF
        by_cases hii : i' = i
        · subst hii
          rw [if_pos rfl]
          unfold putCells
          rw [zbW _ _ _ _ _ hfit2]
          by_cases hcj : off ≤ j ∧ j < off + d.cells.length
          · rw [if_pos hcj, if_pos (by omega)]
            have hj2 : j - off < d.cells.length := by omega
            have h5 := ((hvr (j - off) hj2).plain (hpl _ hj2) noRho).mono (fun _ _ h => h) hch.cell noRho (RhoLe.refl _)
            rw [show i' * e + j - (i' * e + off) = j - off by omega]
            rw [hvl] at h5
            simpa [Array.getD_eq_getD_getElem?, List.getD_eq_getElem?_getD] using h5
          · rw [if_neg hcj, if_neg (by omega)]
            simpa [Array.getD_eq_getD_getElem?, List.getD_eq_getElem?_getD] using hold
        · rw [if_neg hii, if_neg ?_]
          · simpa [Array.getD_eq_getD_getElem?, List.getD_eq_getElem?_getD] using hold
          · intro hc
            rcases Nat.lt_or_gt_of_ne hii with h | h
            · have : (i' + 1) * e ≤ i * e := Nat.mul_le_mul_right e h
              rw [Nat.add_mul] at this
              omega
            · have : (i + 1) * e ≤ i' * e := Nat.mul_le_mul_right e h
              rw [Nat.add_mul] at this
              omega
theorem zed (ar : Bool) {w w' : World} {S : Cells} {r : Rho} {g : Option Nat} {k : Nat} {el : TypeId} {z N cap blk : Nat} {cur : Array Value} {f : Nat → List D} {c : Nat → Nat → Value} (hH : Hist X w S) (hI : Inv X w S r O)
    (hc : Chg w w' S g) (hg : ∀ b, g = some b → ∃ l, r k = some l ∧ l.block = some b)
    (hnew : (w.heap.size ≤ blk ∧ blk < w'.heap.size ∧ X.w0.heap.size ≤ blk) ∨ (∃ l, r k = some l ∧ l.block = some blk ∧ blk < w'.heap.size))
    (hle : RhoLe r (updR r k (.row (.slice (some ⟨blk, 0, none⟩) N cap) N)))
    (hb : w'.heap[blk]? = some (.cells cur el (0, 0))) (hN : N ≤ cap) (hm : cap ≤ maxLen) (hsz : cur.size = cap * z)
    (hcur : ∀ i j, i < N → j < z → cur[i * z + j]? = some (c i j)) (hold : ∀ o, (ar = true ∨ N * z ≤ o) → ¬ S blk o)
    (hl : ∀ i, i < N → (f i).length = z ∧ (f i).all D.plain = true) (hr : ∀ i j, i < N → j < z → Rel S w noRho ((f i).getD j .any) (c i j)) :
    ∃ S' r', Rel S' w' r' (mkH ar k z N f) (.slice (some ⟨blk, 0, none⟩) N cap) ∧ Hist X w' S' ∧ Inv X w' S' r' (updO O [(k, mkO ar el z N f)]) ∧ (∀ b o, S b o → S' b o) ∧
      (∀ b o, S b o → w'.cell? ⟨b, o, none⟩ = w.cell? ⟨b, o, none⟩) ∧ RhoLe r r' := by
  have hk0 : updR r k (.row (.slice (some ⟨blk, 0, none⟩) N cap) N) k = some (.row (.slice (some ⟨blk, 0, none⟩) N cap) N) := by simp [updR]
  have hlow : X.w0.heap.size ≤ blk ∨ X.L blk := by
    rcases hnew with ⟨_, _, h⟩ | ⟨l, h1, h2, _⟩
    · exact .inl h
    · exact hI.low k l blk h1 h2
  have hblt : blk < w'.heap.size := by
    rcases hnew with ⟨_, h, _⟩ | ⟨_, _, _, h⟩ <;> exact h
  have hmono : ∀ d v, Rel S w noRho d v → Rel (fun b o => S b o ∨ (b = blk ∧ o < N * z)) w' noRho d v := fun d v h => h.mono (fun _ _ h => .inl h) hc.cell noRho (RhoLe.refl _)
  have hblk : ∀ b, (Loc.row (.slice (some ⟨blk, 0, none⟩) N cap) N).block = some b → (w.heap.size ≤ b ∧ (X.w0.heap.size ≤ b ∨ X.L b)) ∨ ∃ l, r k = some l ∧ l.block = some b := fun b hb' => by
    simp only [Loc.block, Option.some.injEq] at hb'
    subst hb'
    rcases hnew with ⟨h1, _, h3⟩ | ⟨l, h1, h2, _⟩
    · exact .inl ⟨h1, .inl h3⟩
    · exact .inr ⟨l, h1, h2⟩
  cases ar with
  | true =>
    refine ⟨S, updR r k (.row (.slice (some ⟨blk, 0, none⟩) N cap) N), .ah _ k z N cap _ _ N hk0 (Nat.le_refl _) (fun _ => .inl rfl) (fun _ => ⟨blk, rfl⟩), ?_, ?_, fun _ _ h => h, hc.cell, hle⟩
    · refine hH.chg hc (fun b hb => ?_) (fun _ _ h => h) (fun b o h => .inl h)
      obtain ⟨l, h1, h2⟩ := hg b hb
      exact hI.low k l b h1 h2
    · refine hI.put hc (fun _ _ h => h) hle k _ (.row (.slice (some ⟨blk, 0, none⟩) N cap) N) ?_ hk0 (fun j hj => by simp [updR, hj]) hblk hg (fun b o h => .inl h)
      refine ⟨_, hk0, .inr ⟨blk, cap, cur, rfl, hb, hN, hm, hsz, hl, fun i j hi hj => ?_, fun o => hold o (.inl rfl)⟩⟩
      rw [Array.getD_eq_getD_getElem?, hcur i j hi hj]
      exact (hr i j hi hj).mono (fun _ _ h => h) hc.cell noRho (RhoLe.refl _)
  | false =>
    refine ⟨fun b o => S b o ∨ (b = blk ∧ o < N * z), updR r k (.row (.slice (some ⟨blk, 0, none⟩) N cap) N), ?_, ?_, ?_, fun _ _ h => .inl h, hc.cell, hle⟩
    · refine .gs _ k z N f _ _ N (zgF (c := c) hb hN hm hcur (fun i j hi hj => .inr ⟨rfl, ?_⟩) hl (fun i j hi hj => hmono _ _ (hr i j hi hj))) hk0 (Nat.le_refl _) (fun _ => .inl rfl)
      have : (i + 1) * z ≤ N * z := Nat.mul_le_mul_right z hi
      rw [Nat.add_mul] at this
      omega
    · refine hH.chg hc (fun b hb => ?_) (fun _ _ h => .inl h) (fun b o h => ?_)
      · obtain ⟨l, h1, h2⟩ := hg b hb
        exact hI.low k l b h1 h2
      · rcases h with h | ⟨rfl, _⟩
        · exact .inl h
        · exact .inr ⟨hlow, hblt⟩
    · refine hI.put hc (fun _ _ h => .inl h) hle k _ (.row (.slice (some ⟨blk, 0, none⟩) N cap) N) ?_ hk0 (fun j hj => by simp [updR, hj]) hblk hg (fun b o h => ?_)
      · refine ⟨_, hk0, .inr ⟨blk, cap, cur, rfl, hb, hN, hm, hsz, fun o ho h => ?_⟩⟩
        rcases h with h | ⟨_, h⟩
        · exact hold o (.inr ho) h
        · omega
      · rcases h with h | ⟨rfl, _⟩
        · exact .inl h
        · exact .inr (.inl rfl)
theorem zfm {n m cap by' : Nat} (h : cap < n + m) (hb : (n + m) * by' ≤ 140737488355328) : Builtin.nextslicecap (n + m) cap * by' ≤ 281474976710656 := growslice_fits h hb
theorem zaU {S : Cells} {w : World} {r : Rho} {z m : Nat} {f : Nat → List D} {v : Value} (h : Rel S w r (.sl z m f) v) :
    ∃ (a : Option Addr) (cap : Nat) (c : Nat → Nat → Value), v = .slice a m cap ∧ m ≤ cap ∧ cap ≤ maxLen ∧ (∀ i, i < m → (f i).length = z ∧ (f i).all D.plain = true) ∧ (∀ i j, i < m → j < z → Rel S w noRho ((f i).getD j .any) (c i j)) ∧
      (∀ i j, i < m → j < z → ∃ b o, a = some ⟨b, o, none⟩ ∧ S b (o + i * z + j) ∧ w.cell? ⟨b, o + i * z + j, none⟩ = some (c i j)) := by
  cases h with
  | sl _ _ _ _ a cap c hc hm hl hcell hr => exact ⟨a, cap, c, rfl, hc, hm, hl, hr, hcell⟩
theorem zhW {w : World} {S : Cells} {z m : Nat} {c : Nat → Nat → Value} {ad : Addr} (hcell : ∀ i j, i < m → j < z → ∃ b o, some ad = some (⟨b, o, none⟩ : Addr) ∧ S b (o + i * z + j) ∧ w.cell? ⟨b, o + i * z + j, none⟩ = some (c i j)) :
    ∀ j u, (flat z m c)[j]? = some u → w.cell? (ad.add j) = some u := by
  intro p u hu
  have hp : p < m * z := by
    have := (List.getElem?_eq_some_iff.1 hu).1
    rwa [zaF] at this
  obtain ⟨i, j, rfl, hi, hj⟩ := zca hp
  rw [zcm c hi hj] at hu
  cases hu
  obtain ⟨b, o, he, _, hc⟩ := hcell i j hi hj
  cases he
  rw [Addr.add_lit]
  rw [Nat.add_assoc] at hc
  exact hc
theorem ziK {z n m i j : Nat} {c1 c2 : Nat → Nat → Value} (rest : List Value) (hi : i < n + m) (hj : j < z) :
    (flat z n c1 ++ flat z m c2 ++ rest)[i * z + j]? = some (if i < n then c1 i j else c2 (i - n) j) := by
  by_cases h : i < n
  · have h1 : i * z + j < (flat z n c1).length := by
      rw [zaF]
      have : (i + 1) * z ≤ n * z := Nat.mul_le_mul_right z h
      rw [Nat.add_mul] at this
      omega
    rw [List.append_assoc, List.getElem?_append_left h1, zcm c1 h hj, if_pos h]
  · have hi' : i - n < m := by omega
    have e : i * z + j = n * z + ((i - n) * z + j) := by
      have : i * z = n * z + (i - n) * z := by rw [← Nat.add_mul]; congr 1; omega
      omega
    have h2 : (i - n) * z + j < (flat z m c2).length := by
      rw [zaF]
      have : (i - n + 1) * z ≤ m * z := Nat.mul_le_mul_right z hi'
      rw [Nat.add_mul] at this
      omega
    rw [e, List.append_assoc, List.getElem?_append_right (by rw [zaF]; omega), zaF]
    rw [show n * z + ((i - n) * z + j) - n * z = (i - n) * z + j by omega]
    rw [List.getElem?_append_left h2, zcm c2 hi' hj, if_neg h]
theorem zlk {z n m : Nat} {S : Cells} {w : World} {f g : Nat → List D} {c1 c2 : Nat → Nat → Value}
    (hl : ∀ i, i < n → (f i).length = z ∧ (f i).all D.plain = true) (hr : ∀ i j, i < n → j < z → Rel S w noRho ((f i).getD j .any) (c1 i j))
    (hl2 : ∀ i, i < m → (g i).length = z ∧ (g i).all D.plain = true) (hr2 : ∀ i j, i < m → j < z → Rel S w noRho ((g i).getD j .any) (c2 i j)) :
    (∀ i, i < n + m → (catF n f m g i).length = z ∧ (catF n f m g i).all D.plain = true) ∧
    (∀ i j, i < n + m → j < z → Rel S w noRho ((catF n f m g i).getD j .any) (if i < n then c1 i j else c2 (i - n) j)) := by
  refine ⟨fun i hi => ?_, fun i j hi hj => ?_⟩
  · unfold catF
    by_cases h : i < n
    · rw [if_pos h]; exact hl i h
    · rw [if_neg h, if_pos hi]; exact hl2 (i - n) (by omega)
  · unfold catF
    by_cases h : i < n
    · rw [if_pos h, if_pos h]; exact hr i j h hj
    · rw [if_neg h, if_pos hi, if_neg h]; exact hr2 (i - n) j (by omega) hj
theorem zce (z : Array Value) (n : Nat) : (Builtin.zeroCells z n).size = n * z.size := by simp [Builtin.zeroCells]
theorem zlV {ar : Bool} {S : Cells} {w : World} {r : Rho} {k : Nat} {el : TypeId} {z L : Nat} {f : Nat → List D} (h : ObjOk S w r k (mkO ar el z L f)) : ∃ tv, r k = some (.row tv L) ∧ ((tv = .slice none 0 0 ∧ L = 0) ∨
      ∃ g cap cur, tv = .slice (some ⟨g, 0, none⟩) L cap ∧ w.heap[g]? = some (.cells cur el (0, 0)) ∧ L ≤ cap ∧ cap ≤ maxLen ∧ cur.size = cap * z ∧ ∀ o, (ar = true ∨ L * z ≤ o) → ¬ S g o) := by
  cases ar with
  | true =>
    obtain ⟨tv, h1, h2⟩ := h
    refine ⟨tv, h1, ?_⟩
    rcases h2 with h2 | ⟨g, cap, cur, h2, h3, h4, h5, h6, _, _, h7⟩
    · exact .inl h2
    · exact .inr ⟨g, cap, cur, h2, h3, h4, h5, h6, fun o _ => h7 o⟩
  | false =>
    obtain ⟨tv, h1, h2⟩ := h
    refine ⟨tv, h1, ?_⟩
    rcases h2 with h2 | ⟨g, cap, cur, h2, h3, h4, h5, h6, h7⟩
    · exact .inl h2
    · exact .inr ⟨g, cap, cur, h2, h3, h4, h5, h6, fun o h => h7 o (by
        rcases h with h | h
        · cases h
        · exact h)⟩
theorem zdr {w : World} {z L cap : Nat} {ax : Option Addr} {c1 : Nat → Nat → Value} (hz : 0 < z) (hcell : ∀ i j, i < L → j < z → ∃ b o, ax = some ⟨b, o, none⟩ ∧ w.cell? ⟨b, o + i * z + j, none⟩ = some (c1 i j)) :
    (Builtin.firstCells z L (.slice ax L cap)).run P w = .ok (flat z L c1).toArray w := by
  cases ax with
  | none =>
    rw [run_firstCells_none]
    rcases Nat.eq_zero_or_pos L with rfl | h
    · simp [flat]
    · obtain ⟨b, o, h1, _⟩ := hcell 0 0 h hz
      cases h1
  | some ad =>
    refine run_firstCells_some w z L ad L cap _ (zaF ..) (fun p u hu => ?_)
    have hp : p < L * z := by
      have := (List.getElem?_eq_some_iff.1 hu).1
      rwa [zaF] at this
    obtain ⟨i, j, rfl, hi, hj⟩ := zca hp
    rw [zcm c1 hi hj] at hu
    cases hu
    obtain ⟨b, o, he, hc⟩ := hcell i j hi hj
    cases he
    rw [Addr.add_lit]
    rw [Nat.add_assoc] at hc
    exact hc
theorem zdI {w : World} {t tx ty e : TypeId} {i : TypeInfo} (ht : P.underlying t = some (.slice e)) (hi : P.info? e = some i) {g sLen sCap : Nat} {cur : Array Value} (hg : w.heap[g]? = some (.cells cur e (0, 0)))
    {x : Value} {m : Nat} {news : List Value} (hs : Src P i.size tx x m news w) (hroom : sLen + m ≤ sCap) (hfit : sLen * i.size + news.length ≤ cur.size) :
    (Builtin.append_ #[t, tx] ty #[.slice (some ⟨g, 0, none⟩) sLen sCap, x]).run P w =
      .ok (.slice (some ⟨g, 0, none⟩) (sLen + m) sCap) (w.setRow g (cur.toList.take (sLen * i.size) ++ news ++ cur.toList.drop (sLen * i.size + news.length)).toArray) := by
  have hst := run_storeCells_at P g (sLen * i.size) e news 0 cur w hg (by simpa using hfit) hs.one
  simp only [Nat.add_zero] at hst
  have hlen := hs.len w
  have hcs := hs.cells
  rcases hs.kind with ⟨e', hk⟩ | hk <;> simp [Builtin.append_, run_underlying ht, run_underlying hk, sizeOf, typeInfo, hi, hlen, hroom, hcs, Addr.add_lit, hst]
theorem zdG (ar : Bool) {w : World} {S : Cells} {r : Rho} {t tx ty el : TypeId} {i : TypeInfo} {zv : Value} {k L : Nat} {z : Nat} {m capx : Nat} {ax : Option Addr} {f g : Nat → List D} {c1 c2 : Nat → Nat → Value} {vy : Value} (hH : Hist X w S) (hI : Inv X w S r O)
    (ht : P.underlying t = some (.slice el)) (hi : P.info? el = some i) (hz : i.size = z) (hzv : i.zero = some zv) (hzs : zv.cells.size = z) (hz0 : 0 < z) (hcx : L ≤ capx)
    (hl1 : ∀ i, i < L → (f i).length = z ∧ (f i).all D.plain = true) (hr1 : ∀ i j, i < L → j < z → Rel S w noRho ((f i).getD j .any) (c1 i j))
    (hcell1 : ∀ i j, i < L → j < z → ∃ b o, ax = some ⟨b, o, none⟩ ∧ w.cell? ⟨b, o + i * z + j, none⟩ = some (c1 i j))
    (hsrc : Src P z tx vy m (flat z m c2) w)
    (hl2 : ∀ i, i < m → (g i).length = z ∧ (g i).all D.plain = true) (hr2 : ∀ i j, i < m → j < z → Rel S w noRho ((g i).getD j .any) (c2 i j))
    (hm : 0 < m) (hmax : L + m ≤ maxLen) (hby : (L + m) * i.bytes ≤ 140737488355328)
    (hk : (O k = none ∧ L = 0 ∧ capx = 0) ∨ (O k = some (mkO ar el z L f) ∧ ∀ tv, r k = some (.row tv L) → Tip (.slice ax L capx) tv)) :
    ∃ v w', (Builtin.append_ #[t, tx] ty #[.slice ax L capx, vy]).run P w = .ok v w' ∧ ∃ S' r', Rel S' w' r' (mkH ar k z (L + m) (catF L f m g)) v ∧ Hist X w' S' ∧ Inv X w' S' r' (updO O [(k, mkO ar el z (L + m) (catF L f m g))]) ∧
      (∀ b o, S b o → S' b o) ∧ (∀ b o, S b o → w'.cell? ⟨b, o, none⟩ = w.cell? ⟨b, o, none⟩) ∧ RhoLe r r' := by
  subst hz
  have hnl : (flat i.size m c2).length = m * i.size := zaF ..
  obtain ⟨hcl, hcr⟩ := zlk hl1 hr1 hl2 hr2
  have hi63 : ((L + m : Nat) : Int) ≤ 9223372036854775807 := by unfold maxLen at hmax; omega
  have newBlock : capx < L + m → (∀ cap', RhoLe r (updR r k (.row (.slice (some ⟨w.heap.size, 0, none⟩) (L + m) cap') (L + m)))) →
      ∃ v w', (Builtin.append_ #[t, tx] ty #[.slice ax L capx, vy]).run P w = .ok v w' ∧ ∃ S' r', Rel S' w' r' (mkH ar k i.size (L + m) (catF L f m g)) v ∧ Hist X w' S' ∧ Inv X w' S' r' (updO O [(k, mkO ar el i.size (L + m) (catF L f m g))]) ∧
        (∀ b o, S b o → S' b o) ∧ (∀ b o, S b o → w'.cell? ⟨b, o, none⟩ = w.cell? ⟨b, o, none⟩) ∧ RhoLe r r' := by
    intro hlt hle
    have hge := grownCap_ge w (L + m) capx el
    have hcm : grownCap w (L + m) capx el ≤ maxLen := grownCap_le_maxLen w (L + m) capx el hmax
    have hrun := run_append_grow_src (P := P) w t tx ty el i zv ht hi hzv ax L capx (flat i.size L c1)
      (zdr (P := P) (w := w.drew) hz0 (fun i' j hi' hj => by
        obtain ⟨b, o, h1, h2⟩ := hcell1 i' j hi' hj
        exact ⟨b, o, h1, by simpa using h2⟩)) vy m (flat i.size m c2) hsrc hlt hi63 (zfm hlt hby)
    refine ⟨_, _, hrun, ?_⟩
    refine zed ar (g := none) (c := fun i' j => if i' < L then c1 i' j else c2 (i' - L) j) hH hI (Chg.drewAlloc w S hH.valid _ none) (fun b hb => by cases hb)
      (.inl ⟨Nat.le_refl _, by simp, hH.size⟩) (hle _) (heap_alloc_new w.drew _) hge hcm ?_ (fun i' j hi' hj => ?_) (fun o _ hs => ?_) hcl hcr
    · simp only [Array.size_append, List.size_toArray, List.length_append, zce, hzs, zaF, ← Nat.add_mul]
      congr 1
      omega
    · have := ziK (c1 := c1) (c2 := c2) (Builtin.zeroCells zv.cells (grownCap w (L + m) capx el - (L + m))).toList hi' hj
      rw [← this, ← Array.getElem?_toList]
      simp
    · have := hH.valid _ _ hs; omega
  rcases hk with ⟨hk, rfl, rfl⟩ | ⟨hk, htip⟩
  · exact newBlock (by omega) (fun _ => RhoLe.new (hI.dom k hk))
  · obtain ⟨tv, htv, hrow⟩ := zlV (hI.obj k _ hk)
    have hle : ∀ blk cap', RhoLe r (updR r k (.row (.slice (some ⟨blk, 0, none⟩) (L + m) cap') (L + m))) := fun blk cap' => RhoLe.upd htv ⟨by omega, fun e => by omega⟩
    rcases htip tv htv with htip | ⟨_, a2, htip⟩
    · rcases hrow with ⟨hnil, rfl⟩ | ⟨b, cap, cur, htv', hb, hLc, hcm, hsz, hfree⟩
      · rw [hnil] at htip
        simp only [Value.slice.injEq] at htip
        exact newBlock (by omega) (fun _ => hle _ _)
      · rw [htv'] at htip
        simp only [Value.slice.injEq] at htip
        obtain ⟨rfl, _, rfl⟩ := htip
        subst htv'
        have hblt : b < w.heap.size := (Array.getElem?_eq_some_iff.1 hb).1
        by_cases hroom : L + m ≤ capx
        · have hfit : L * i.size + (flat i.size m c2).length ≤ cur.size := by
            rw [zaF, hsz, ← Nat.add_mul]
            exact Nat.mul_le_mul_right _ hroom
          have hrun := zdI (P := P) (w := w) (ty := ty) ht hi hb hsrc hroom hfit
          have hold : ∀ o, S b o → (cur.toList.take (L * i.size) ++ flat i.size m c2 ++ cur.toList.drop (L * i.size + (flat i.size m c2).length)).toArray[o]? = cur[o]? := by
            intro o ho
            have hlt : o < L * i.size := by
              rcases Nat.lt_or_ge o (L * i.size) with h | h
              · exact h
              · exact absurd ho (hfree o (.inr h))
            rw [List.getElem?_toArray, List.append_assoc, List.getElem?_append_left (by simp; omega), List.getElem?_take_of_lt hlt, Array.getElem?_toList]
          refine ⟨_, _, hrun, ?_⟩
          refine zed ar (el := el) (z := i.size) (N := L + m) (cap := capx) (f := catF L f m g) (k := k) (c := fun i' j => if i' < L then c1 i' j else c2 (i' - L) j) hH hI (Chg.setRow w S b cur _ el (0, 0) hb hold)
            (fun b' hb' => ⟨_, htv, by cases hb'; rfl⟩) (.inr ⟨_, htv, rfl, by simpa using hblt⟩) (hle _ _) (setRow_heap w b cur _ el (0, 0) hb) hroom hcm
            (by simp only [List.size_toArray, List.length_append, List.length_take, List.length_drop, Array.length_toList]; omega)
            (fun i' j hi' hj => by
              have e : cur.toList.take (L * i.size) = flat i.size L c1 := by
                apply List.ext_getElem?
                intro p
                by_cases hp : p < L * i.size
                · obtain ⟨i2, j2, rfl, h2, h3⟩ := zca hp
                  rw [List.getElem?_take_of_lt hp, zcm c1 h2 h3, Array.getElem?_toList]
                  obtain ⟨b', o', he, hc'⟩ := hcell1 i2 j2 h2 h3
                  cases he
                  rw [Nat.zero_add, cell_of_row w b _ cur el (0, 0) hb] at hc'
                  exact hc'
                · rw [List.getElem?_eq_none (by simp; omega), List.getElem?_eq_none (by rw [zaF]; omega)]
              rw [List.getElem?_toArray, e]
              exact ziK _ hi' hj)
            (fun o ho => hfree o (by
              rcases ho with h | h
              · exact .inl h
              · exact .inr (Nat.le_trans (Nat.mul_le_mul_right _ (by omega)) h))) hcl hcr
        · exact newBlock (by omega) (fun _ => hle _ _)
    · simp only [Value.slice.injEq] at htip
      exact newBlock (by omega) (fun _ => hle _ _)
end
end Go.Proofs.YtkkaamhocpmhkaaGreatDoor.Flow
