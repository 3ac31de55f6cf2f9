/-
  FLOW, PART S: A TEXT OF SINGLE BYTES READ LETTER BY LETTER ('for .. range' over a text); division of numbers below 0.
-/
import Derived.Test.YteidmimpkipcfaaDoorCFlowP
import Derived.Lib.OthersKept
namespace Go.Proofs.YteidmimpkipcfaaDoor.Flow
open Go

/-- The object is changed in its place. -/
theorem Chg.setObj (w : World) (S : Cells) (b : Nat) (x : Obj) (hS : ∀ o, ¬ S b o) : Chg w { w with heap := w.heap.setIfInBounds b x } S (some b) where
  os := rfl
  tape := rfl
  output := rfl
  size := by simp
  block := fun k _ hne => by
    have : b ≠ k := fun e => hne (by rw [e])
    simp [Array.getElem?_setIfInBounds, this]
  cell := fun b' o hb => by
    have : b ≠ b' := fun e => hS o (by rw [e]; exact hb)
    have e : ({ w with heap := w.heap.setIfInBounds b x } : World).heap[b']? = w.heap[b']? := by simp [Array.getElem?_setIfInBounds, this]
    exact World.cell?_of_block e

section
variable {P : Program} {X : Ctx} {n : Nat} {O : Nat → Option Own}

/-- A new object, told as it lies. -/
theorem newOb_ok {w : World} {S : Cells} {r : Rho} (x : Obj) (hH : Hist X w S) (hI : Inv X w S r O) {k : Nat} (hk : O k = none) :
    ∃ r', Rel S (w.alloc x) r' (.pv k 0) (.pointer (some ⟨w.heap.size, 0, none⟩)) ∧ Hist X (w.alloc x) S ∧ Inv X (w.alloc x) S r' (updO O [(k, .ob x)]) ∧
      (∀ b o, S b o → (w.alloc x).cell? ⟨b, o, none⟩ = w.cell? ⟨b, o, none⟩) ∧ RhoLe r r' := by
  have hc := Chg.alloc w S hH.valid x
  have hr : RhoLe r (updR r k (.blk w.heap.size)) := RhoLe.new (hI.dom k hk)
  have hk0 : updR r k (.blk w.heap.size) k = some (.blk w.heap.size) := by simp [updR]
  refine ⟨updR r k (.blk w.heap.size), .pv _ k 0 _ hk0, ?_, ?_, hc.cell, hr⟩
  · exact hH.chg hc (fun b hb => by cases hb) (fun _ _ h => h) (fun b o h => .inl h)
  · refine hI.put hc (fun _ _ h => h) hr k _ (.blk w.heap.size) ?_ hk0 (fun j hj => by simp [updR, hj]) (fun b hb => ?_) (fun b hb => by cases hb) (fun b o h => .inl h)
    · exact ⟨w.heap.size, hk0, heap_alloc_new w _, fun o ho => by have := hH.valid _ _ ho; omega⟩
    · simp only [Loc.block, Option.some.injEq] at hb
      subst hb
      exact .inl ⟨Nat.le_refl _, .inl hH.size⟩

/-- An object told as it lies becomes another. -/
theorem setOb_ok {w : World} {S : Cells} {r : Rho} {x : Obj} {b : Nat} (y : Obj) (hH : Hist X w S) (hI : Inv X w S r O) {k : Nat} (hk : O k = some (.ob x)) (hb : r k = some (.blk b)) :
    Hist X { w with heap := w.heap.setIfInBounds b y } S ∧ Inv X { w with heap := w.heap.setIfInBounds b y } S r (updO O [(k, .ob y)]) ∧
      (∀ b' o, S b' o → ({ w with heap := w.heap.setIfInBounds b y } : World).cell? ⟨b', o, none⟩ = w.cell? ⟨b', o, none⟩) := by
  obtain ⟨b', h1, h2, h3⟩ := hI.obj k _ hk
  rw [hb] at h1
  cases h1
  have hc := Chg.setObj w S b y h3
  have hlow := hI.low k _ b hb rfl
  refine ⟨?_, ?_, hc.cell⟩
  · exact hH.chg hc (fun b' hb' => by cases hb'; exact hlow) (fun _ _ h => h) (fun b o h => .inl h)
  · refine hI.put hc (fun _ _ h => h) (RhoLe.refl r) k _ (.blk b) ?_ hb (fun _ _ => rfl) (fun b' hb' => .inr ⟨_, hb, hb'⟩) (fun b' hb' => ⟨_, hb, hb'⟩) (fun b o h => .inl h)
    have hlt := (Array.getElem?_eq_some_iff.1 h2).1
    exact ⟨b, hb, by simp [hlt], h3⟩

variable {o : Oper} {fr : Fr} {ow : Ow} {t k pos : Nat} {ty : TypeId} {x : Operand} {l : List UInt8}

theorem range_step {B' : Tb} (hB : tb P = B') (ho : o.op = .range ty x) (hty : B'.ty ty = .str) (hx : ev fr x = .s l) (ht : look t ow = none) (hd : dstOk o.dst n) :
    ∀ F' O', (∀ y ∈ o.op.operands.toList, evF F' y = evF (fF fr) y) → (∀ j ∈ [t], O' j = fO ow j) → StepAt P X n o F' O' (.pv t 0) [(t, .ob (.stringIter ⟨l.toArray⟩ 0))] := by
  intro F' O' he hO
  refine stepAt_of hd fun a w S r hH hI hr => ?_
  have hx' := hr x
  rw [he x (by simp [ho, Op.operands]), evF_fF, hx] at hx'
  have hk : O' t = none := (hO t (by simp)).trans ht
  have hu := tyOf_str (P := P) (t := ty) (by subst hB; exact hty)
  obtain ⟨r', g1, g2, g3, g4, g5⟩ := newOb_ok (.stringIter ⟨l.toArray⟩ 0) hH hI hk
  refine ⟨_, _, S, r', .inl ?_, g1, g2, g3, fun _ _ h => h, g4, g5⟩
  generalize hv : a.eval x = v at hx'
  cases hx'
  simp [execOp, ho, Instr.range, underlying, hu, hv, Sem.run_bind, newObj, Sem.run, Result.andThen]

theorem at_byte (l : List UInt8) (pos : Nat) (h : pos < l.length) : (((⟨l.toArray⟩ : ByteArray)[pos]'(by simpa [ByteArray.size] using h)).toNat : Int) = at' l pos := by
  unfold at'
  simp [List.getD_eq_getElem?_getD, h, ByteArray.getElem_eq_getElem_data]

theorem next_step (ho : o.op = .next x true) (hx : ev fr x = .pv k 0) (hk : look k ow = some (.ob (.stringIter ⟨l.toArray⟩ pos))) (hp : pos < l.length) (hb : at' l pos < 128) (hd : dstOk o.dst n) :
    ∀ F' O', (∀ y ∈ o.op.operands.toList, evF F' y = evF (fF fr) y) → (∀ j ∈ [k], O' j = fO ow j) →
      StepAt P X n o F' O' (.tu [.b true, .i .i64 pos, .i .i32 (at' l pos)]) [(k, .ob (.stringIter ⟨l.toArray⟩ (pos + 1)))] := by
  intro F' O' he hO
  refine stepAt_of hd fun a w S r hH hI hr => ?_
  have hx' := hr x
  rw [he x (by simp [ho, Op.operands]), evF_fF, hx] at hx'
  have hk' : O' k = some (.ob (.stringIter ⟨l.toArray⟩ pos)) := (hO k (by simp)).trans hk
  obtain ⟨b, h1, h2, h3⟩ := hI.obj k _ hk'
  obtain ⟨g1, g2, g3⟩ := setOb_ok (.stringIter ⟨l.toArray⟩ (pos + 1)) hH hI hk' h1
  have hlt : pos < (⟨l.toArray⟩ : ByteArray).size := by simpa [ByteArray.size] using hp
  have hbb : ((⟨l.toArray⟩ : ByteArray)[pos]'hlt).toNat < 128 := by
    have := at_byte l pos hp
    omega
  refine ⟨.tuple #[.bool true, .int .i64 pos, .int .i32 (((⟨l.toArray⟩ : ByteArray)[pos]'hlt).toNat)], _, S, r, .inl ?_, .tu _ _ _ rfl fun j hj => ?_, g1, g2, fun _ _ h => h, g3, RhoLe.refl r⟩
  · generalize hv : a.eval x = v at hx'
    cases hx' with
    | pv _ _ _ b' h4 =>
      rw [h1] at h4
      cases h4
      have hrun := Lib.run_next_ascii_at (P := P) w b ⟨l.toArray⟩ pos o.type h2 hlt hbb
      unfold World.iterAt at hrun
      simp only [execOp, ho, hv]
      simp [hrun]
  · match j, hj with
    | 0, _ => exact .b ..
    | 1, _ => exact .i ..
    | 2, _ =>
      show Rel S _ r (.i .i32 (at' l pos)) (.int .i32 _)
      rw [← at_byte l pos hp]
      exact .i ..

theorem over_step (ho : o.op = .next x true) (hx : ev fr x = .pv k 0) (hk : look k ow = some (.ob (.stringIter ⟨l.toArray⟩ pos))) (hp : l.length ≤ pos) (hd : dstOk o.dst n) :
    ∀ F' O', (∀ y ∈ o.op.operands.toList, evF F' y = evF (fF fr) y) → (∀ j ∈ [k], O' j = fO ow j) → StepAt P X n o F' O' (.tu [.b false]) [] := by
  intro F' O' he hO
  refine stepAt_of hd fun a w S r hH hI hr => ?_
  have hx' := hr x
  rw [he x (by simp [ho, Op.operands]), evF_fF, hx] at hx'
  have hk' : O' k = some (.ob (.stringIter ⟨l.toArray⟩ pos)) := (hO k (by simp)).trans hk
  obtain ⟨b, h1, h2, h3⟩ := hI.obj k _ hk'
  refine ⟨.tuple #[.bool false], w, S, r, .inl ?_, .tu _ _ _ rfl fun j hj => ?_, hH, hI, fun _ _ h => h, fun _ _ _ => rfl, RhoLe.refl r⟩
  · generalize hv : a.eval x = v at hx'
    cases hx' with
    | pv _ _ _ b' h4 =>
      rw [h1] at h4
      cases h4
      have hrun := Lib.run_next_end_at (P := P) w b ⟨l.toArray⟩ pos o.type h2 (by simpa [ByteArray.size] using hp)
      simp only [execOp, ho, hv]
      simp [hrun]
  · match j, hj with
    | 0, _ => exact .b ..

theorem tdiv_in {a b : Int} (hb : 0 < b) (ha : InI a) : InI (a.tdiv b) := by
  have h1 : (a.tdiv b).natAbs = a.natAbs / b.natAbs := Int.natAbs_tdiv a b
  have h2 : a.natAbs / b.natAbs ≤ a.natAbs := Nat.div_le_self _ _
  by_cases h : 0 ≤ a
  · have := Int.tdiv_nonneg h (Int.le_of_lt hb)
    omega
  · have h3 : a.tdiv b ≤ 0 := by
      have e : (-a).tdiv b = -(a.tdiv b) := Int.neg_tdiv a b
      have := Int.tdiv_nonneg (show 0 ≤ -a by omega) (Int.le_of_lt hb)
      omega
    omega

theorem quo_step {a b : Int} {y : Operand} {ty2 : TypeId} (ho : o.op = .binOp .quo ty x y ty2) (hx : ev fr x = .i .i64 a) (hy : ev fr y = .i .i64 b) (hb : 0 < b) (ha : InI a) (hd : dstOk o.dst n) :
    ∀ F' O', (∀ y ∈ o.op.operands.toList, evF F' y = evF (fF fr) y) → (∀ j ∈ ([] : List Nat), O' j = fO ow j) → StepAt P X n o F' O' (.i .i64 (a.tdiv b)) [] := by
  intro F' O' he _
  refine stepAt_of hd fun a' w S r hH hI hr => ?_
  have hx' := hr x
  have hy' := hr y
  rw [he x (by simp [ho, Op.operands]), evF_fF, hx] at hx'
  rw [he y (by simp [ho, Op.operands]), evF_fF, hy] at hy'
  have hne : b ≠ 0 := by omega
  refine ⟨.int .i64 (a.tdiv b), w, S, r, .inl ?_, .i .., hH, hI, fun _ _ h => h, fun _ _ _ => rfl, RhoLe.refl r⟩
  generalize hv : a'.eval x = v at hx'
  generalize hu : a'.eval y = u at hy'
  cases hx'
  cases hy'
  have h1 : (do eqGuard .quo ty x y (.int .i64 a) (.int .i64 b); binOp .quo ty (.int .i64 a) (.int .i64 b) : Sem Value).run P w = .ok (.int .i64 (IntKind.i64.wrap (a.tdiv b))) w := by
    have e0 : (eqGuard .quo ty x y (.int .i64 a) (.int .i64 b)) = pure () := rfl
    simp only [e0]
    simp [binOp_quo, Op.intDiv, hne]
  rw [wrapI (tdiv_in hb ha)] at h1
  simp only [execOp, ho, hv, hu, Sem.run_bind] at h1 ⊢
  rw [h1]
  rfl

theorem rem_step {k : IntKind} {a b : Int} {y : Operand} {ty2 : TypeId} (ho : o.op = .binOp .rem ty x y ty2) (hx : ev fr x = .i k a) (hy : ev fr y = .i k b) (hb : 0 < b) (hd : dstOk o.dst n) :
    ∀ F' O', (∀ y ∈ o.op.operands.toList, evF F' y = evF (fF fr) y) → (∀ j ∈ ([] : List Nat), O' j = fO ow j) → StepAt P X n o F' O' (.i k (a.tmod b)) [] := by
  intro F' O' he _
  refine stepAt_of hd fun a' w S r hH hI hr => ?_
  have hx' := hr x
  have hy' := hr y
  rw [he x (by simp [ho, Op.operands]), evF_fF, hx] at hx'
  rw [he y (by simp [ho, Op.operands]), evF_fF, hy] at hy'
  have hne : b ≠ 0 := by omega
  refine ⟨.int k (a.tmod b), w, S, r, .inl ?_, .i .., hH, hI, fun _ _ h => h, fun _ _ _ => rfl, RhoLe.refl r⟩
  generalize hv : a'.eval x = v at hx'
  generalize hu : a'.eval y = u at hy'
  cases hx'
  cases hy'
  have h1 : (do eqGuard .rem ty x y (.int k a) (.int k b); binOp .rem ty (.int k a) (.int k b) : Sem Value).run P w = .ok (.int k (a.tmod b)) w := by
    have e0 : (eqGuard .rem ty x y (.int k a) (.int k b)) = pure () := rfl
    simp only [e0]
    simp [binOp_rem, Op.intDiv, hne]
  simp only [execOp, ho, hv, hu, Sem.run_bind] at h1 ⊢
  rw [h1]
  rfl

end

section
variable {X : Ctx} {n : Nat} {all rest : List Oper} {fr : Fr} {ow : Ow} {tr : List (List Nat × List Nat)} {K : Fr → Ow → List (List Nat × List Nat) → Prop}
variable {t k pos : Nat} {ty ty' : TypeId} {ps : String} {af : Array Edge} {x : Operand} {l : List UInt8}

theorem range_aux (o : Oper) (ho : o.op = .range ty x) (hg : o.guard = none) (hds : o.dst = some t) (hty : B.ty ty = .str) (hx : ev fr x = .s l) (ht : look t ow = none) (hn : Nat.blt t n = true)
    (h : CT Tryd.prog X n all rest ((t, .pv t 0) :: fr) ((t, .ob (.stringIter ⟨l.toArray⟩ 0)) :: ow) (tr ++ [([t], [t])]) K) : CT Tryd.prog X n all (o :: rest) fr ow tr K := by
  have e := tb_eq
  have h1 := @range_step Tryd.prog X n o fr ow t ty x l
  have h2 := @h1 B e
  have h3 := h2 ho
  have h4 := h3 hty hx ht (by rw [hds]; exact Nat.le_of_ble_eq_true hn)
  refine CT.cons (e := ⟨.pv t 0, [t], [(t, .ob (.stringIter ⟨l.toArray⟩ 0))]⟩) (.plain hg h4) ?_ (fO_cons ..) h
  rw [hds]
  exact fF_cons ..

/-- A text's letters, from the first. -/
theorem r_range (hty : B.ty ty = .str) (hx : ev fr x = .s l) (ht : look t ow = none) (hn : Nat.blt t n = true)
    (h : CT Tryd.prog X n all rest ((t, .pv t 0) :: fr) ((t, .ob (.stringIter ⟨l.toArray⟩ 0)) :: ow) (tr ++ [([t], [t])]) K) : CT Tryd.prog X n all (⟨some t, .range ty x, ty', ps, af, none⟩ :: rest) fr ow tr K := by
  generalize ho : (⟨some t, .range ty x, ty', ps, af, none⟩ : Oper) = o
  exact range_aux o (by rw [← ho]) (by rw [← ho]) (by rw [← ho]) hty hx ht hn h

/-- The next letter: a single byte. -/
theorem r_next (hx : ev fr x = .pv k 0) (hk : look k ow = some (.ob (.stringIter ⟨l.toArray⟩ pos))) (hn : Nat.blt t n = true) (hp : pos < l.length) (hb : at' l pos < 128)
    (h : CT Tryd.prog X n all rest ((t, .tu [.b true, .i .i64 pos, .i .i32 (at' l pos)]) :: fr) ((k, .ob (.stringIter ⟨l.toArray⟩ (pos + 1))) :: ow) (tr ++ [([k], [k])]) K) :
    CT Tryd.prog X n all (⟨some t, .next x true, ty', ps, af, none⟩ :: rest) fr ow tr K :=
  CT.cons (e := ⟨.tu [.b true, .i .i64 pos, .i .i32 (at' l pos)], [k], [(k, .ob (.stringIter ⟨l.toArray⟩ (pos + 1)))]⟩) (.plain rfl (next_step (P := Tryd.prog) (X := X) (o := ⟨some t, .next x true, ty', ps, af, none⟩) rfl hx hk hp hb (Nat.le_of_ble_eq_true hn))) (fF_cons ..) (fO_cons ..) h

/-- No letter more. -/
theorem r_over (hx : ev fr x = .pv k 0) (hk : look k ow = some (.ob (.stringIter ⟨l.toArray⟩ pos))) (hn : Nat.blt t n = true) (hp : l.length ≤ pos)
    (h : CT Tryd.prog X n all rest ((t, .tu [.b false]) :: fr) ow (tr ++ [([k], [])]) K) : CT Tryd.prog X n all (⟨some t, .next x true, ty', ps, af, none⟩ :: rest) fr ow tr K :=
  CT.cons (e := ⟨.tu [.b false], [k], []⟩) (.plain rfl (over_step (P := Tryd.prog) (X := X) (o := ⟨some t, .next x true, ty', ps, af, none⟩) rfl hx hk hp (Nat.le_of_ble_eq_true hn))) (fF_cons ..) rfl h

/-- Division of numbers below 0 too: towards 0. -/
theorem r_tquo {a b : Int} {y : Operand} {ty2 : TypeId} (hx : ev fr x = .i .i64 a) (hy : ev fr y = .i .i64 b) (hn : Nat.blt t n = true) (hb : 0 < b) (ha : InI a)
    (h : CT Tryd.prog X n all rest ((t, .i .i64 (a.tdiv b)) :: fr) ow (tr ++ [([], [])]) K) : CT Tryd.prog X n all (⟨some t, .binOp .quo ty x y ty2, ty', ps, af, none⟩ :: rest) fr ow tr K :=
  CT.cons (e := ⟨.i .i64 (a.tdiv b), [], []⟩) (.plain rfl (quo_step (P := Tryd.prog) (X := X) (o := ⟨some t, .binOp .quo ty x y ty2, ty', ps, af, none⟩) rfl hx hy hb ha (Nat.le_of_ble_eq_true hn))) (fF_cons ..) rfl h

theorem r_trem {k : IntKind} {a b : Int} {y : Operand} {ty2 : TypeId} (hx : ev fr x = .i k a) (hy : ev fr y = .i k b) (hn : Nat.blt t n = true) (hb : 0 < b)
    (h : CT Tryd.prog X n all rest ((t, .i k (a.tmod b)) :: fr) ow (tr ++ [([], [])]) K) : CT Tryd.prog X n all (⟨some t, .binOp .rem ty x y ty2, ty', ps, af, none⟩ :: rest) fr ow tr K :=
  CT.cons (e := ⟨.i k (a.tmod b), [], []⟩) (.plain rfl (rem_step (P := Tryd.prog) (X := X) (o := ⟨some t, .binOp .rem ty x y ty2, ty', ps, af, none⟩) rfl hx hy hb (Nat.le_of_ble_eq_true hn))) (fF_cons ..) rfl h

theorem r_gtrem {k : IntKind} {a b : Int} {y : Operand} {ty2 : TypeId} {g u : Nat} {want : Bool} (hu : dstAt all g = some u) (hc : getD' u fr = .b want) (hx : ev fr x = .i k a) (hy : ev fr y = .i k b) (hn : Nat.blt t n = true) (hb : 0 < b)
    (h : CT Tryd.prog X n all rest ((t, .i k (a.tmod b)) :: fr) ow (tr ++ [([], [])]) K) : CT Tryd.prog X n all (⟨some t, .binOp .rem ty x y ty2, ty', ps, af, some (g, want)⟩ :: rest) fr ow tr K :=
  CT.cons (e := ⟨.i k (a.tmod b), [], []⟩) (.guarded rfl hu hc (rem_step (o := ⟨some t, .binOp .rem ty x y ty2, ty', ps, af, some (g, want)⟩) rfl hx hy hb (Nat.le_of_ble_eq_true hn))) (fF_cons ..) rfl h

theorem r_gtquo {a b : Int} {y : Operand} {ty2 : TypeId} {g u : Nat} {want : Bool} (hu : dstAt all g = some u) (hc : getD' u fr = .b want) (hx : ev fr x = .i .i64 a) (hy : ev fr y = .i .i64 b) (hn : Nat.blt t n = true) (hb : 0 < b) (ha : InI a)
    (h : CT Tryd.prog X n all rest ((t, .i .i64 (a.tdiv b)) :: fr) ow (tr ++ [([], [])]) K) : CT Tryd.prog X n all (⟨some t, .binOp .quo ty x y ty2, ty', ps, af, some (g, want)⟩ :: rest) fr ow tr K :=
  CT.cons (e := ⟨.i .i64 (a.tdiv b), [], []⟩) (.guarded rfl hu hc (quo_step (o := ⟨some t, .binOp .quo ty x y ty2, ty', ps, af, some (g, want)⟩) rfl hx hy hb ha (Nat.le_of_ble_eq_true hn))) (fF_cons ..) rfl h

end
end Go.Proofs.YteidmimpkipcfaaDoor.Flow
