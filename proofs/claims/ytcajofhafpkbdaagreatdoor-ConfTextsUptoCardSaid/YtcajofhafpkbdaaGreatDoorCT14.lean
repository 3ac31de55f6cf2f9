/- The texts FlowS, FlowW, FlowXc, G9, G10, G11, FlowX, one behind the other. -/
import Derived.Test.YtcajofhafpkbdaaGreatDoorCT9
import Derived.Test.YtcajofhafpkbdaaGreatDoorCT13
import Derived.Lib.OthersKept
namespace Go.Proofs.YtcajofhafpkbdaaGreatDoor.Flow
open Go
theorem Chg.setObj (w : World) (S : Cells) (b : Nat) (x : Obj) (hS : ∀ o, ¬ S b o) : Chg w { w with heap := w.heap.setIfInBounds b x } S (some b) where
  os := rfl
  tape := rfl
  output := rfl
  size := by simp
  block := fun k _ hne => by
    have : b ≠ k := fun e => hne (by rw [e])
    simp [this]
  cell := fun b' o hb => by
    have : b ≠ b' := fun e => hS o (by rw [e]; exact hb)
    have e : ({ w with heap := w.heap.setIfInBounds b x } : World).heap[b']? = w.heap[b']? := by simp [this]
    exact World.cell?_of_block e
section
variable {P : Program} {X : Ctx} {n : Nat} {O : Nat → Option Own}
theorem zqJ {w : World} {S : Cells} {r : Rho} (x : Obj) (hH : Hist X w S) (hI : Inv X w S r O) {k : Nat} (hk : O k = none) :
    ∃ r', Rel S (w.alloc x) r' (.pv k 0) (.pointer (some ⟨w.heap.size, 0, none⟩)) ∧ Hist X (w.alloc x) S ∧ Inv X (w.alloc x) S r' (updO O [(k, .ob x)]) ∧
      (∀ b o, S b o → (w.alloc x).cell? ⟨b, o, none⟩ = w.cell? ⟨b, o, none⟩) ∧ RhoLe r r' := by
  have hc := Chg.alloc w S hH.valid x
  have hr : RhoLe r (updR r k (.blk w.heap.size)) := RhoLe.new (hI.dom k hk)
  have hk0 : updR r k (.blk w.heap.size) k = some (.blk w.heap.size) := by simp [updR]
  refine ⟨updR r k (.blk w.heap.size), .pv _ k 0 _ hk0, ?_, ?_, hc.cell, hr⟩
  · exact hH.chg hc (fun b hb => by cases hb) (fun _ _ h => h) (fun b o h => .inl h)
  · refine hI.put hc (fun _ _ h => h) hr k _ (.blk w.heap.size) ?_ hk0 (fun j hj => by simp [updR, hj]) (fun b hb => ?_) (fun b hb => by cases hb) (fun b o h => .inl h)
    · exact ⟨w.heap.size, hk0, heap_alloc_new w _, fun o ho => by have := hH.valid _ _ ho; omega⟩
    · simp only [Loc.block, Option.some.injEq] at hb
      subst hb
      exact .inl ⟨Nat.le_refl _, .inl hH.size⟩
theorem zrf {w : World} {S : Cells} {r : Rho} {x : Obj} {b : Nat} (y : Obj) (hH : Hist X w S) (hI : Inv X w S r O) {k : Nat} (hk : O k = some (.ob x)) (hb : r k = some (.blk b)) :
    Hist X { w with heap := w.heap.setIfInBounds b y } S ∧ Inv X { w with heap := w.heap.setIfInBounds b y } S r (updO O [(k, .ob y)]) ∧
      (∀ b' o, S b' o → ({ w with heap := w.heap.setIfInBounds b y } : World).cell? ⟨b', o, none⟩ = w.cell? ⟨b', o, none⟩) := by
  obtain ⟨b', h1, h2, h3⟩ := hI.obj k _ hk
  rw [hb] at h1
  cases h1
  have hc := Chg.setObj w S b y h3
  have hlow := hI.low k _ b hb rfl
  refine ⟨?_, ?_, hc.cell⟩
  · exact hH.chg hc (fun b' hb' => by cases hb'; exact hlow) (fun _ _ h => h) (fun b o h => .inl h)
  · refine hI.put hc (fun _ _ h => h) (RhoLe.refl r) k _ (.blk b) ?_ hb (fun _ _ => rfl) (fun b' hb' => .inr ⟨_, hb, hb'⟩) (fun b' hb' => ⟨_, hb, hb'⟩) (fun b o h => .inl h)
    have hlt := (Array.getElem?_eq_some_iff.1 h2).1
    exact ⟨b, hb, by simp [hlt], h3⟩
variable {o : Oper} {fr : Fr} {ow : Ow} {t k pos : Nat} {ty : TypeId} {x : Operand} {l : List UInt8}
theorem zmv {B' : Tb} (hB : tb P = B') (ho : o.op = .range ty x) (hty : B'.ty ty = .str) (hx : ev fr x = .s l) (ht : look t ow = none) (hd : dstOk o.dst n) :
    ∀ F' O', (∀ y ∈ o.op.operands.toList, evF F' y = evF (fF fr) y) → (∀ j ∈ [t], O' j = fO ow j) → StepAt P X n o F' O' (.pv t 0) [(t, .ob (.stringIter ⟨l.toArray⟩ 0))] := by
  intro F' O' he hO
  refine zas hd fun a w S r hH hI hr => ?_
  have hx' := hr x
  rw [he x (by simp [ho, Op.operands]), zaT, hx] at hx'
  have hk : O' t = none := (hO t (by simp)).trans ht
  have hu := zbc (P := P) (t := ty) (by subst hB; exact hty)
  obtain ⟨r', g1, g2, g3, g4, g5⟩ := zqJ (.stringIter ⟨l.toArray⟩ 0) hH hI hk
  refine ⟨_, _, S, r', .inl ?_, g1, g2, g3, fun _ _ h => h, g4, g5⟩
  generalize hv : a.eval x = v at hx'
  cases hx'
  simp [execOp, ho, Instr.range, underlying, hu, hv, Sem.run_bind, newObj, Sem.run, Result.andThen]
theorem zoN (l : List UInt8) (pos : Nat) (h : pos < l.length) : (((⟨l.toArray⟩ : ByteArray)[pos]'(by simpa [ByteArray.size] using h)).toNat : Int) = at' l pos := by
  unfold at'
  simp [List.getD_eq_getElem?_getD, h, ByteArray.getElem_eq_getElem_data]
theorem zpf (ho : o.op = .next x true) (hx : ev fr x = .pv k 0) (hk : look k ow = some (.ob (.stringIter ⟨l.toArray⟩ pos))) (hp : pos < l.length) (hb : at' l pos < 128) (hd : dstOk o.dst n) :
    ∀ F' O', (∀ y ∈ o.op.operands.toList, evF F' y = evF (fF fr) y) → (∀ j ∈ [k], O' j = fO ow j) →
      StepAt P X n o F' O' (.tu [.b true, .i .i64 pos, .i .i32 (at' l pos)]) [(k, .ob (.stringIter ⟨l.toArray⟩ (pos + 1)))] := by
  intro F' O' he hO
  refine zas hd fun a w S r hH hI hr => ?_
  have hx' := hr x
  rw [he x (by simp [ho, Op.operands]), zaT, hx] at hx'
  have hk' : O' k = some (.ob (.stringIter ⟨l.toArray⟩ pos)) := (hO k (by simp)).trans hk
  obtain ⟨b, h1, h2, h3⟩ := hI.obj k _ hk'
  obtain ⟨g1, g2, g3⟩ := zrf (.stringIter ⟨l.toArray⟩ (pos + 1)) hH hI hk' h1
  have hlt : pos < (⟨l.toArray⟩ : ByteArray).size := by simpa [ByteArray.size] using hp
  have hbb : ((⟨l.toArray⟩ : ByteArray)[pos]'hlt).toNat < 128 := by
    have := zoN l pos hp
    omega
  refine ⟨.tuple #[.bool true, .int .i64 pos, .int .i32 (((⟨l.toArray⟩ : ByteArray)[pos]'hlt).toNat)], _, S, r, .inl ?_, .tu _ _ _ rfl fun j hj => ?_, g1, g2, fun _ _ h => h, g3, RhoLe.refl r⟩
  · generalize hv : a.eval x = v at hx'
    cases hx' with
    | pv _ _ _ b' h4 =>
      rw [h1] at h4
      cases h4
      have hrun := Lib.run_next_ascii_at (P := P) w b ⟨l.toArray⟩ pos o.type h2 hlt hbb
      unfold World.iterAt at hrun
      simp only [execOp, ho, hv]
      simp [hrun]
  · match j, hj with
    | 0, _ => exact .b ..
    | 1, _ => exact .i ..
    | 2, _ =>
      show Rel S _ r (.i .i32 (at' l pos)) (.int .i32 _)
      rw [← zoN l pos hp]
      exact .i ..
theorem zpD (ho : o.op = .next x true) (hx : ev fr x = .pv k 0) (hk : look k ow = some (.ob (.stringIter ⟨l.toArray⟩ pos))) (hp : l.length ≤ pos) (hd : dstOk o.dst n) :
    ∀ F' O', (∀ y ∈ o.op.operands.toList, evF F' y = evF (fF fr) y) → (∀ j ∈ [k], O' j = fO ow j) → StepAt P X n o F' O' (.tu [.b false]) [] := by
  intro F' O' he hO
  refine zas hd fun a w S r hH hI hr => ?_
  have hx' := hr x
  rw [he x (by simp [ho, Op.operands]), zaT, hx] at hx'
  have hk' : O' k = some (.ob (.stringIter ⟨l.toArray⟩ pos)) := (hO k (by simp)).trans hk
  obtain ⟨b, h1, h2, h3⟩ := hI.obj k _ hk'
  refine ⟨.tuple #[.bool false], w, S, r, .inl ?_, .tu _ _ _ rfl fun j hj => ?_, hH, hI, fun _ _ h => h, fun _ _ _ => rfl, RhoLe.refl r⟩
  · generalize hv : a.eval x = v at hx'
    cases hx' with
    | pv _ _ _ b' h4 =>
      rw [h1] at h4
      cases h4
      have hrun := Lib.run_next_end_at (P := P) w b ⟨l.toArray⟩ pos o.type h2 (by simpa [ByteArray.size] using hp)
      simp only [execOp, ho, hv]
      simp [hrun]
  · match j, hj with
    | 0, _ => exact .b ..
theorem zns {a b : Int} (hb : 0 < b) (ha : InI a) : InI (a.tdiv b) := by
  have h1 : (a.tdiv b).natAbs = a.natAbs / b.natAbs := Int.natAbs_tdiv a b
  have h2 : a.natAbs / b.natAbs ≤ a.natAbs := Nat.div_le_self _ _
  by_cases h : 0 ≤ a
  · have := Int.tdiv_nonneg h (Int.le_of_lt hb)
    omega
  · have h3 : a.tdiv b ≤ 0 := by
      have e : (-a).tdiv b = -(a.tdiv b) := Int.neg_tdiv a b
      have := Int.tdiv_nonneg (show 0 ≤ -a by omega) (Int.le_of_lt hb)
      omega
    omega
theorem zqa {a b : Int} {y : Operand} {ty2 : TypeId} (ho : o.op = .binOp .quo ty x y ty2) (hx : ev fr x = .i .i64 a) (hy : ev fr y = .i .i64 b) (hb : 0 < b) (ha : InI a) (hd : dstOk o.dst n) :
    ∀ F' O', (∀ y ∈ o.op.operands.toList, evF F' y = evF (fF fr) y) → (∀ j ∈ ([] : List Nat), O' j = fO ow j) → StepAt P X n o F' O' (.i .i64 (a.tdiv b)) [] := by
  intro F' O' he _
  refine zas hd fun a' w S r hH hI hr => ?_
  have hx' := hr x
  have hy' := hr y
  rw [he x (by simp [ho, Op.operands]), zaT, hx] at hx'
  rw [he y (by simp [ho, Op.operands]), zaT, hy] at hy'
  have hne : b ≠ 0 := by omega
  refine ⟨.int .i64 (a.tdiv b), w, S, r, .inl ?_, .i .., hH, hI, fun _ _ h => h, fun _ _ _ => rfl, RhoLe.refl r⟩
  generalize hv : a'.eval x = v at hx'
  generalize hu : a'.eval y = u at hy'
  cases hx'
  cases hy'
  have h1 : (do eqGuard .quo ty x y (.int .i64 a) (.int .i64 b); binOp .quo ty (.int .i64 a) (.int .i64 b) : Sem Value).run P w = .ok (.int .i64 (IntKind.i64.wrap (a.tdiv b))) w := by
    have e0 : (eqGuard .quo ty x y (.int .i64 a) (.int .i64 b)) = pure () := rfl
    simp only [e0]
    simp [binOp_quo, Op.intDiv, hne]
  rw [wrapI (zns hb ha)] at h1
  simp only [execOp, ho, hv, hu, Sem.run_bind] at h1 ⊢
  rw [h1]
  rfl
theorem zpS {k : IntKind} {a b : Int} {y : Operand} {ty2 : TypeId} (ho : o.op = .binOp .rem ty x y ty2) (hx : ev fr x = .i k a) (hy : ev fr y = .i k b) (hb : 0 < b) (hd : dstOk o.dst n) :
    ∀ F' O', (∀ y ∈ o.op.operands.toList, evF F' y = evF (fF fr) y) → (∀ j ∈ ([] : List Nat), O' j = fO ow j) → StepAt P X n o F' O' (.i k (a.tmod b)) [] := by
  intro F' O' he _
  refine zas hd fun a' w S r hH hI hr => ?_
  have hx' := hr x
  have hy' := hr y
  rw [he x (by simp [ho, Op.operands]), zaT, hx] at hx'
  rw [he y (by simp [ho, Op.operands]), zaT, hy] at hy'
  have hne : b ≠ 0 := by omega
  refine ⟨.int k (a.tmod b), w, S, r, .inl ?_, .i .., hH, hI, fun _ _ h => h, fun _ _ _ => rfl, RhoLe.refl r⟩
  generalize hv : a'.eval x = v at hx'
  generalize hu : a'.eval y = u at hy'
  cases hx'
  cases hy'
  have h1 : (do eqGuard .rem ty x y (.int k a) (.int k b); binOp .rem ty (.int k a) (.int k b) : Sem Value).run P w = .ok (.int k (a.tmod b)) w := by
    have e0 : (eqGuard .rem ty x y (.int k a) (.int k b)) = pure () := rfl
    simp only [e0]
    simp [binOp_rem, Op.intDiv, hne]
  simp only [execOp, ho, hv, hu, Sem.run_bind] at h1 ⊢
  rw [h1]
  rfl
end
section
variable {X : Ctx} {n : Nat} {all rest : List Oper} {fr : Fr} {ow : Ow} {tr : List (List Nat × List Nat)} {K : Fr → Ow → List (List Nat × List Nat) → Prop}
variable {t k pos : Nat} {ty ty' : TypeId} {ps : String} {af : Array Edge} {x : Operand} {l : List UInt8}
theorem znJ (o : Oper) (ho : o.op = .range ty x) (hg : o.guard = none) (hds : o.dst = some t) (hty : B.ty ty = .str) (hx : ev fr x = .s l) (ht : look t ow = none) (hn : Nat.blt t n = true)
    (h : CT Tryz.prog X n all rest ((t, .pv t 0) :: fr) ((t, .ob (.stringIter ⟨l.toArray⟩ 0)) :: ow) (tr ++ [([t], [t])]) K) : CT Tryz.prog X n all (o :: rest) fr ow tr K := by
  have e := zct
  have h1 := @zmv Tryz.prog X n o fr ow t ty x l
  have h2 := @h1 B e
  have h3 := h2 ho
  have h4 := h3 hty hx ht (by rw [hds]; exact Nat.le_of_ble_eq_true hn)
  refine CT.cons (e := ⟨.pv t 0, [t], [(t, .ob (.stringIter ⟨l.toArray⟩ 0))]⟩) (.plain hg h4) ?_ (zaJ ..) h
  rw [hds]
  exact zaF ..
theorem zsJ (hty : B.ty ty = .str) (hx : ev fr x = .s l) (ht : look t ow = none) (hn : Nat.blt t n = true)
    (h : CT Tryz.prog X n all rest ((t, .pv t 0) :: fr) ((t, .ob (.stringIter ⟨l.toArray⟩ 0)) :: ow) (tr ++ [([t], [t])]) K) : CT Tryz.prog X n all (⟨some t, .range ty x, ty', ps, af, none⟩ :: rest) fr ow tr K := by
  generalize ho : (⟨some t, .range ty x, ty', ps, af, none⟩ : Oper) = o
  exact znJ o (by rw [← ho]) (by rw [← ho]) (by rw [← ho]) hty hx ht hn h
theorem ztS (hx : ev fr x = .pv k 0) (hk : look k ow = some (.ob (.stringIter ⟨l.toArray⟩ pos))) (hn : Nat.blt t n = true) (hp : pos < l.length) (hb : at' l pos < 128)
    (h : CT Tryz.prog X n all rest ((t, .tu [.b true, .i .i64 pos, .i .i32 (at' l pos)]) :: fr) ((k, .ob (.stringIter ⟨l.toArray⟩ (pos + 1))) :: ow) (tr ++ [([k], [k])]) K) :
    CT Tryz.prog X n all (⟨some t, .next x true, ty', ps, af, none⟩ :: rest) fr ow tr K :=
  CT.cons (e := ⟨.tu [.b true, .i .i64 pos, .i .i32 (at' l pos)], [k], [(k, .ob (.stringIter ⟨l.toArray⟩ (pos + 1)))]⟩) (.plain rfl (zpf (P := Tryz.prog) (X := X) (o := ⟨some t, .next x true, ty', ps, af, none⟩) rfl hx hk hp hb (Nat.le_of_ble_eq_true hn))) (zaF ..) (zaJ ..) h
theorem zub (hx : ev fr x = .pv k 0) (hk : look k ow = some (.ob (.stringIter ⟨l.toArray⟩ pos))) (hn : Nat.blt t n = true) (hp : l.length ≤ pos)
    (h : CT Tryz.prog X n all rest ((t, .tu [.b false]) :: fr) ow (tr ++ [([k], [])]) K) : CT Tryz.prog X n all (⟨some t, .next x true, ty', ps, af, none⟩ :: rest) fr ow tr K :=
  CT.cons (e := ⟨.tu [.b false], [k], []⟩) (.plain rfl (zpD (P := Tryz.prog) (X := X) (o := ⟨some t, .next x true, ty', ps, af, none⟩) rfl hx hk hp (Nat.le_of_ble_eq_true hn))) (zaF ..) rfl h
theorem ztQ {a b : Int} {y : Operand} {ty2 : TypeId} (hx : ev fr x = .i .i64 a) (hy : ev fr y = .i .i64 b) (hn : Nat.blt t n = true) (hb : 0 < b) (ha : InI a)
    (h : CT Tryz.prog X n all rest ((t, .i .i64 (a.tdiv b)) :: fr) ow (tr ++ [([], [])]) K) : CT Tryz.prog X n all (⟨some t, .binOp .quo ty x y ty2, ty', ps, af, none⟩ :: rest) fr ow tr K :=
  CT.cons (e := ⟨.i .i64 (a.tdiv b), [], []⟩) (.plain rfl (zqa (P := Tryz.prog) (X := X) (o := ⟨some t, .binOp .quo ty x y ty2, ty', ps, af, none⟩) rfl hx hy hb ha (Nat.le_of_ble_eq_true hn))) (zaF ..) rfl h
theorem zto {k : IntKind} {a b : Int} {y : Operand} {ty2 : TypeId} (hx : ev fr x = .i k a) (hy : ev fr y = .i k b) (hn : Nat.blt t n = true) (hb : 0 < b)
    (h : CT Tryz.prog X n all rest ((t, .i k (a.tmod b)) :: fr) ow (tr ++ [([], [])]) K) : CT Tryz.prog X n all (⟨some t, .binOp .rem ty x y ty2, ty', ps, af, none⟩ :: rest) fr ow tr K :=
  CT.cons (e := ⟨.i k (a.tmod b), [], []⟩) (.plain rfl (zpS (P := Tryz.prog) (X := X) (o := ⟨some t, .binOp .rem ty x y ty2, ty', ps, af, none⟩) rfl hx hy hb (Nat.le_of_ble_eq_true hn))) (zaF ..) rfl h
end

section
variable {P : Program} {X : Ctx} {n : Nat} {O : Nat → Option Own}
variable {o : Oper} {fr : Fr} {ow : Ow} {t k : Nat} {ty : TypeId} {x : Operand}
end
section
variable {X : Ctx} {n : Nat} {all rest : List Oper} {fr : Fr} {ow : Ow} {tr : List (List Nat × List Nat)} {K : Fr → Ow → List (List Nat × List Nat) → Prop}
variable {t k : Nat} {ty ty' : TypeId} {ps : String} {af : Array Edge} {x : Operand}
end

section
variable {P : Program} {X : Ctx} {n : Nat} {o : Oper} {fr : Fr} {ow : Ow} {ty : TypeId} {x : Operand}
theorem znz {B' : Tb} {el : Nat} {cs : List D} (hB : tb P = B') (ho : o.op = .slice ty x none none none) (hty : B'.ty ty = .array cs.length el 1 false) (hx : ev fr x = .rf cs 0) (hm : cs.length ≤ 1048576) (hd : dstOk o.dst n) :
    ∀ F' O', (∀ y ∈ o.op.operands.toList, evF F' y = evF (fF fr) y) → (∀ j ∈ ([] : List Nat), O' j = fO ow j) → StepAt P X n o F' O' (.sl 1 cs.length (fun j => [cs.getD j .any])) [] := by
  intro F' O' he hO
  have hty' : tyOf P ty = .array cs.length el 1 false := by subst hB; exact hty
  obtain ⟨hu, hsz⟩ := zbw hty'
  refine zas hd fun a w S r hH hI hr => ?_
  have hx' := hr x
  rw [he x (by simp [ho, Op.operands]), zaT, hx] at hx'
  generalize hv : a.eval x = vx at hx'
  cases hx' with
  | rf _ _ _ b q c hp hcell hrel =>
  have hrun : (execOp a.eval o).run P w = .ok (.value (.slice (some ⟨b, q, none⟩) cs.length cs.length)) w := by
    have hs := zaN (w := w) hsz
    simp [execOp, ho, hv, Instr.sliceAt, Instr.sureAddr, Instr.sliceBounds, run_underlying hu, hs, Addr.add]
    try omega
  refine ⟨_, w, S, r, .inl hrun, ?_, hH, hI, fun b o h => h, fun _ _ _ => rfl, RhoLe.refl r⟩
  refine .sl r 1 cs.length _ (some ⟨b, q, none⟩) cs.length (fun j _ => c j) (Nat.le_refl _) (by unfold maxLen; omega) (fun j hj => ⟨rfl, ?_⟩) (fun j k hj hk => ?_) (fun j k hj hk => ?_)
  · simp only [List.all_cons, List.all_nil, Bool.and_true]
    rw [List.all_eq_true] at hp
    refine hp _ ?_
    rw [List.getD_eq_getElem?_getD, List.getElem?_eq_getElem hj, Option.getD_some]
    exact List.getElem_mem _
  · obtain rfl : k = 0 := by omega
    refine ⟨b, q, rfl, ?_⟩
    rw [Nat.mul_one, Nat.add_zero]
    exact hcell j hj
  · obtain rfl : k = 0 := by omega
    exact hrel j hj
end
section
variable {X : Ctx} {n : Nat} {all rest : List Oper} {fr : Fr} {ow : Ow} {tr : List (List Nat × List Nat)} {K : Fr → Ow → List (List Nat × List Nat) → Prop}
variable {t : Nat} {ty ty' : TypeId} {ps : String} {af : Array Edge} {x : Operand}
theorem zri {el : Nat} {cs : List D} (o : Oper) (ho : o.op = .slice ty x none none none) (hg : o.guard = none) (hds : o.dst = some t) (hty : B.ty ty = .array cs.length el 1 false) (hx : ev fr x = .rf cs 0) (hm : cs.length ≤ 1048576) (hn : Nat.blt t n = true)
    (h : CT Tryz.prog X n all rest ((t, .sl 1 cs.length (fun j => [cs.getD j .any])) :: fr) ow (tr ++ [([], [])]) K) : CT Tryz.prog X n all (o :: rest) fr ow tr K := by
  have q := zct
  have q1 := @znz Tryz.prog X n o fr ow ty x
  have q2 := @q1 B el cs q
  have q3 := q2 ho
  have q4 := q3 hty hx hm (by rw [hds]; exact Nat.le_of_ble_eq_true hn)
  refine CT.cons (e := ⟨.sl 1 cs.length (fun j => [cs.getD j .any]), [], []⟩) (.plain hg q4) ?_ rfl h
  rw [hds]
  exact zaF ..
theorem zjF {el : Nat} {cs : List D} (hty : B.ty ty = .array cs.length el 1 false) (hx : ev fr x = .rf cs 0) (hm : cs.length ≤ 1048576) (hn : Nat.blt t n = true)
    (h : CT Tryz.prog X n all rest ((t, .sl 1 cs.length (fun j => [cs.getD j .any])) :: fr) ow (tr ++ [([], [])]) K) : CT Tryz.prog X n all (⟨some t, .slice ty x none none none, ty', ps, af, none⟩ :: rest) fr ow tr K := by
  generalize ho : (⟨some t, .slice ty x none none none, ty', ps, af, none⟩ : Oper) = o
  exact zri o (by rw [← ho]) (by rw [← ho]) (by rw [← ho]) hty hx hm hn h
end

def layOk (l : List Fld) (i : Nat) : Prop := validL (l.getD i ([], [])).1 = true ∧ validL (l.getD i ([], [])).2 = true ∧ ∀ k, k < i → ¬ (l.getD k ([], [])).1 = (l.getD i ([], [])).1
instance (l : List Fld) (i : Nat) : Decidable (layOk l i) := by unfold layOk; infer_instance
def okSrc (s : SrcR) : Prop := ¬ s.arch = [] ∧ [s.arch, s.csv, s.key, s.attr].all validL = true ∧ s.only.all validL = true ∧ s.notl.all validL = true ∧ (∀ i, i < s.lays.length → layOk s.lays i) ∧ (¬ s.csv = [] ∨ noneJ s)
instance (s : SrcR) : Decidable (okSrc s) := by unfold okSrc; infer_instance
theorem zjc (a b c d : Txt) : Weak (.sl 1 4 (chunk 1 [.s a, .s b, .s c, .s d])) (.sl 1 [a, b, c, d].length (txF [a, b, c, d])) :=
  Weak.sl_ofG rfl (fun i hi => match i, hi with
    | 0, _ => rfl
    | 1, _ => rfl
    | 2, _ => rfl
    | 3, _ => rfl) fun _ _ => rfl
theorem zhP (a b : Txt) : Weak (.sl 1 2 (fun j => [[D.s a, D.s b].getD j .any])) (.sl 1 [a, b].length (txF [a, b])) :=
  Weak.sl_ofG rfl (fun i hi => match i, hi with
    | 0, _ => rfl
    | 1, _ => rfl) fun _ _ => rfl
theorem at4 {a b c d : Txt} {n : Nat} (ha : a.length ≤ n) (hb : b.length ≤ n) (hc : c.length ≤ n) (hd : d.length ≤ n) (i : Nat) : ([a, b, c, d].getD i []).length ≤ n := match i with
  | 0 => ha
  | 1 => hb
  | 2 => hc
  | 3 => hd
  | _ + 4 => Nat.zero_le _
theorem atTwo {a b : Txt} {n : Nat} (ha : a.length ≤ n) (hb : b.length ≤ n) (i : Nat) : ([a, b].getD i []).length ≤ n := match i with
  | 0 => ha
  | 1 => hb
  | _ + 2 => Nat.zero_le _
set_option maxRecDepth 100000 in
set_option maxHeartbeats 16000000 in
theorem zjP (s : SrcR) (hs : smallS s) (hb : bigS s) : Ctr Tryz.prog 39 [.ag (srcP s)] (.b (decide (okSrc s))) := by
  obtain ⟨s1, s2, s3⟩ := hs
  obtain ⟨b1, b2, b3, b4, b5, b6, b7⟩ := hb
  unfold bigT at b1 b2 b3 b4 b5 b6 b7
  have c1 := (zcM [s.arch, s.csv, s.key, s.attr] (by simp) (at4 (by omega) (by omega) (by omega) (by omega))).weak1 (zjc _ _ _ _)
  have c2 := zcM s.only s2 (fun i => by have := b5 i; omega)
  have c3 := zcM s.notl s3 (fun i => by have := b6 i; omega)
  refine zaE Tryz.func39 rfl Tryz.ntmps39 Tryz.results39 rfl rfl fun X hL hX => ?_
  by_cases h0 : ¬ s.arch = [] ∧ [s.arch, s.csv, s.key, s.attr].all validL = true ∧ s.only.all validL = true ∧ s.notl.all validL = true
  rotate_left
  · have hne : ¬ okSrc s := fun h => h0 ⟨h.1, h.2.1, h.2.2.1, h.2.2.2.1⟩
    rw [decide_eq_false hne]
    repeat' (first |refine zaK (f := 73) rfl rfl rfl rfl Tryz.call73 rfl c1 ?_|refine zaK (f := 73) rfl rfl rfl rfl Tryz.call73 rfl c2 ?_|refine zaK (f := 73) rfl rfl rfl rfl Tryz.call73 rfl c3 ?_|with_reducible (first |refine zag ?_|refine zaa ?_|refine zaf ?_|refine zad ?_|refine zaj ?_|refine zah ?_|refine zae ?_|refine zam ?_)|refine zab rfl rfl True.intro ?_|refine zat rfl rfl rfl ?_|refine zak rfl rfl rfl rfl True.intro ?_|refine zav rfl ?_|((first |refine zbr rfl ?_ ?_|refine zep rfl rfl ?_ ?_|refine zaD rfl rfl ?_ ?_)<;>intro)|((first |refine zab rfl rfl ?_ ?_|refine zak rfl rfl rfl rfl ?_ ?_|refine zao rfl rfl ?_ ?_|refine zrt rfl rfl rfl rfl ?_ ?_);focus (first |exact le_ rfl|((repeat' refine And.intro ?_ ?_)<;>omega)|((repeat' refine And.intro ?_ ?_)<;>first |omega|rfl)))|refine zau rfl ?_|fail)
    all_goals first
      | rfl
      | exact absurd ⟨by assumption, by assumption, by assumption, by assumption⟩ h0
  obtain ⟨p1, p2, p3, p4⟩ := h0
  rw [p2] at c1
  rw [p3] at c2
  rw [p4] at c3
  have p1' : ¬ s.arch = (⟨#[]⟩ : ByteArray).data.toList := p1
  repeat' (first |refine zaK (f := 73) rfl rfl rfl rfl Tryz.call73 rfl c1 ?_|refine zaK (f := 73) rfl rfl rfl rfl Tryz.call73 rfl c2 ?_|refine zaK (f := 73) rfl rfl rfl rfl Tryz.call73 rfl c3 ?_|with_reducible (first |refine zag ?_|refine zaa ?_|refine zaf ?_|refine zad ?_|refine zah ?_|refine zae ?_)|refine zab rfl rfl True.intro ?_|refine zak rfl rfl rfl rfl True.intro ?_|refine zal rfl ?_|((first |refine zep rfl rfl ?_ ?_|refine zaD rfl rfl ?_ ?_)<;>intro<;>try (first |contradiction))|((first |refine zab rfl rfl ?_ ?_|refine zak rfl rfl rfl rfl ?_ ?_|refine zao rfl rfl ?_ ?_|refine zrt rfl rfl rfl rfl ?_ ?_);focus (first |exact le_ rfl|((repeat' refine And.intro ?_ ?_)<;>omega)|((repeat' refine And.intro ?_ ?_)<;>first |omega|rfl)))|fail)
  clear c1 c2 c3
  refine T.loop hL (fun i : Nat => [(1, .pv 1 0), (3, .i .i64 i)]) (fun _ => [(1, .var (srcP s))])
    (fun i => i ≤ s.lays.length ∧ ∀ j, j < i → layOk s.lays j) (fun i => s.lays.length - i) 0 ⟨Nat.zero_le _, fun j h => absurd h (Nat.not_lt_zero _)⟩
    ⟨⟨rfl, rfl, trivial⟩, ⟨rfl, trivial⟩, rfl, by rw [hX]; simp⟩ ?_
  rintro i ⟨g1, g2⟩
  try dsimp only at g1 g2 ⊢
  have hnat : (i : Int).toNat = i := Int.toNat_natCast i
  by_cases hil : i < s.lays.length
  rotate_left
  · have hil' : ¬ (i : Int) < s.lays.length := by omega
    have hz : noneJ s ↔ ((s.key.length : Int) + s.attr.length + s.only.length + s.notl.length = 0 ∧ s.texts = false ∧ s.drop = false) := by
      unfold noneJ
      rw [← List.length_eq_zero_iff, ← List.length_eq_zero_iff (l := s.attr)]
      constructor
      · rintro ⟨q1, q2, q3, q4, q5⟩
        exact ⟨by omega, q4, q5⟩
      · rintro ⟨q1, q4, q5⟩
        exact ⟨by omega, by omega, by omega, q4, q5⟩
    have hd : decide (okSrc s) = decide (¬ s.csv = [] ∨ ((s.key.length : Int) + s.attr.length + s.only.length + s.notl.length = 0 ∧ s.texts = false ∧ s.drop = false)) :=
      decide_eq_decide.2 ⟨fun h => h.2.2.2.2.2.imp id hz.1, fun h => ⟨p1, p2, p3, p4, fun j hj => g2 j (by omega), h.imp id hz.2⟩⟩
    rw [hd]
    clear hd hz g2
    repeat' (first |with_reducible (first |refine zag ?_|refine zaa ?_|refine zaf ?_|refine zad ?_|refine zaj ?_|refine zaA ?_|refine zaz ?_)|refine zab rfl rfl True.intro ?_|refine zat rfl rfl rfl ?_|refine zdO rfl rfl rfl ?_|refine zak rfl rfl rfl rfl True.intro ?_|((first |refine zac rfl ?_ ?_|refine zan rfl rfl ?_ ?_|refine zaD rfl rfl ?_ ?_)<;>intro<;>try (first |contradiction))|((first |refine zab rfl rfl ?_ ?_|refine zak rfl rfl rfl rfl ?_ ?_|refine zao rfl rfl ?_ ?_|refine zaw rfl ?_ ?_);focus (first |omega|exact le_ rfl|((repeat' refine And.intro ?_ ?_)<;>omega)|((repeat' refine And.intro ?_ ?_)<;>first |rfl|exact Nat.le_refl _)))|refine zaO rfl ?_|refine zau rfl ?_|fail)
    all_goals (refine congrArg D.b ?_; clear hL hX X p1 p1' p2 p3 p4 b1 b2 b3 b4 b5 b6 b7 s1 s2 s3; first | (simp_all; done) | (simp_all; generalize s.drop = q; cases q <;> rfl))
  have hil' : (i : Int) < s.lays.length := by omega
  have hbi := b7 (i : Int).toNat
  have c4 := (zcM [(s.lays.getD (i : Int).toNat ([], [])).1, (s.lays.getD (i : Int).toNat ([], [])).2] (by simp) (atTwo (by omega) (by omega))).weak1 (zhP _ _)
  by_cases hv : validL (s.lays.getD (i : Int).toNat ([], [])).1 = true ∧ validL (s.lays.getD (i : Int).toNat ([], [])).2 = true
  rotate_left
  · have e : [(s.lays.getD (i : Int).toNat ([], [])).1, (s.lays.getD (i : Int).toNat ([], [])).2].all validL = false := by
      cases q1 : validL (s.lays.getD (i : Int).toNat ([], [])).1 <;> cases q2 : validL (s.lays.getD (i : Int).toNat ([], [])).2 <;> simp_all
    rw [e] at c4
    have hne : ¬ okSrc s := fun h => hv (by
      have := h.2.2.2.2.1 i hil
      rw [hnat]
      exact ⟨this.1, this.2.1⟩)
    rw [decide_eq_false hne]
    clear e hne hv
    repeat' (first |refine zjF rfl rfl (le_ rfl) rfl ?_|refine zai (f := 73) rfl rfl Tryz.call73 rfl c4 ?_|with_reducible (first |refine zag ?_|refine zaa ?_|refine zaf ?_|refine zad ?_|refine zaj ?_|refine zah ?_|refine zae ?_|refine zam ?_|refine zar ?_)|refine zab rfl rfl True.intro ?_|refine zav rfl ?_|((first |refine zac rfl ?_ ?_)<;>intro<;>try (first |contradiction))|((first |refine zab rfl rfl ?_ ?_);focus (first |omega|exact le_ rfl|((repeat' refine And.intro ?_ ?_)<;>omega)))|refine zau rfl ?_|fail)
    all_goals rfl
  have e : [(s.lays.getD (i : Int).toNat ([], [])).1, (s.lays.getD (i : Int).toNat ([], [])).2].all validL = true := by rw [List.all_cons, List.all_cons, hv.1, hv.2]; rfl
  rw [e] at c4
  clear e
  repeat' (first |refine zjF rfl rfl (le_ rfl) rfl ?_|refine zai (f := 73) rfl rfl Tryz.call73 rfl c4 ?_|with_reducible (first |refine zag ?_|refine zaa ?_|refine zaf ?_|refine zad ?_|refine zah ?_|refine zae ?_)|refine zab rfl rfl True.intro ?_|refine zal rfl ?_|((first |refine zac rfl ?_ ?_)<;>intro<;>try (first |contradiction))|((first |refine zab rfl rfl ?_ ?_);focus (first |omega|exact le_ rfl|((repeat' refine And.intro ?_ ?_)<;>omega)))|fail)
  clear c4
  refine T.loop hL (fun k : Nat => [(1, .pv 1 0), (3, .i .i64 i), (4, .i .i64 k)]) (fun _ => [(1, .var (srcP s))])
    (fun k => k ≤ i ∧ ∀ j, j < k → ¬ (s.lays.getD j ([], [])).1 = (s.lays.getD i ([], [])).1) (fun k => i - k) 0 ⟨Nat.zero_le _, fun j h => absurd h (Nat.not_lt_zero _)⟩
    ⟨⟨rfl, rfl, rfl, trivial⟩, ⟨rfl, trivial⟩, rfl, by rw [hX]; simp⟩ ?_
  rintro k ⟨d1, d2⟩
  try dsimp only at d1 d2 ⊢
  have knat : (k : Int).toNat = k := Int.toNat_natCast k
  by_cases hki : k < i
  rotate_left
  · have hki' : ¬ (k : Int) < i := by omega
    have g3 : ∀ j, j < i + 1 → layOk s.lays j := fun j hj => by
      by_cases e : j = i
      · rw [e]
        rw [hnat] at hv
        exact ⟨hv.1, hv.2, fun q hq => d2 q (by omega)⟩
      · exact g2 j (by omega)
    clear g2 d2
    repeat' (first |with_reducible (first |refine zag ?_|refine zaa ?_|refine zaf ?_|refine zad ?_|refine zaA ?_|refine zap ?_|refine zaz ?_)|refine zab rfl rfl True.intro ?_|((first |refine zac rfl ?_ ?_)<;>intro<;>try (first |contradiction))|((first |refine zab rfl rfl ?_ ?_);focus (first |omega|((repeat' refine And.intro ?_ ?_)<;>omega)))|refine zaO rfl ?_|fail)
    all_goals exact ⟨i + 1, ⟨by omega, g3⟩, by omega, ⟨rfl, rfl, trivial⟩, ⟨rfl, trivial⟩, rfl, by rw [hX]; simp⟩
  have hki' : (k : Int) < i := by omega
  clear g2
  by_cases he : (s.lays.getD k ([], [])).1 = (s.lays.getD i ([], [])).1
  · have hne : ¬ okSrc s := fun h => (h.2.2.2.2.1 i hil).2.2 k hki he
    rw [decide_eq_false hne]
    have he' : ¬ ((s.lays.getD (k : Int).toNat ([], [])).1 == (s.lays.getD (i : Int).toNat ([], [])).1) = false := by
      rw [hnat, knat]
      exact fun h => beq_eq_false_iff_ne.1 h he
    clear d2 hne
    repeat' (first |with_reducible (first |refine zag ?_|refine zaa ?_|refine zaf ?_|refine zad ?_|refine zaj ?_|refine zah ?_|refine zae ?_|refine zam ?_|refine zar ?_|refine zaB ?_)|refine zab rfl rfl True.intro ?_|((first |refine zac rfl ?_ ?_|refine zbJ rfl ?_ ?_)<;>intro<;>try (first |contradiction))|((first |refine zab rfl rfl ?_ ?_);focus (first |omega|exact le_ rfl|((repeat' refine And.intro ?_ ?_)<;>omega)))|with_reducible refine ⟨by kernel_rfl, ?_⟩|refine zau rfl ?_|fail)
    all_goals rfl
  · have he' : ¬ ((s.lays.getD (k : Int).toNat ([], [])).1 == (s.lays.getD (i : Int).toNat ([], [])).1) = true := by
      rw [hnat, knat]
      exact fun h => he (beq_iff_eq.1 h)
    have d3 : ∀ j, j < k + 1 → ¬ (s.lays.getD j ([], [])).1 = (s.lays.getD i ([], [])).1 := fun j hj => by
      by_cases e : j = k
      · rw [e]; exact he
      · exact d2 j (by omega)
    clear d2
    repeat' (first |with_reducible (first |refine zag ?_|refine zaa ?_|refine zaf ?_|refine zad ?_|refine zah ?_|refine zae ?_|refine zap ?_|refine zaB ?_)|refine zab rfl rfl True.intro ?_|((first |refine zac rfl ?_ ?_|refine zbJ rfl ?_ ?_)<;>intro<;>try (first |contradiction))|((first |refine zab rfl rfl ?_ ?_);focus (first |omega|exact le_ rfl|((repeat' refine And.intro ?_ ?_)<;>omega)))|with_reducible refine ⟨by kernel_rfl, ?_⟩|fail)
    all_goals exact ⟨k + 1, ⟨by omega, d3⟩, by omega, ⟨rfl, rfl, rfl, trivial⟩, ⟨rfl, trivial⟩, rfl, by rw [hX]; simp⟩

def hdOk (c : CmpR) : Prop := nmB c.id = true ∧ 1 ≤ (c.srcs.length : Int) ∧ (c.srcs.length : Int) ≤ 16 ∧ 0 ≤ c.buf ∧ c.buf ≤ 64 ∧ 0 ≤ c.mx ∧ c.mx ≤ 30 ∧ 0 ≤ c.lim ∧ c.lim ≤ 1048576
instance (c : CmpR) : Decidable (hdOk c) := by unfold hdOk; infer_instance
def cmpOk (l : List CmpR) (i : Nat) : Prop := hdOk (l.getD i c0R) ∧ (∀ k, k < i → ¬ (l.getD k c0R).id = (l.getD i c0R).id) ∧ ∀ k, k < (l.getD i c0R).srcs.length → okSrc ((l.getD i c0R).srcs.getD k s0R)
instance (l : List CmpR) (i : Nat) : Decidable (cmpOk l i) := by unfold cmpOk; infer_instance
def okL (l : List CmpR) : Prop := ∀ i, i < l.length → cmpOk l i
instance (l : List CmpR) : Decidable (okL l) := by unfold okL; infer_instance
set_option maxRecDepth 100000 in
set_option maxHeartbeats 16000000 in
theorem zhm (l : List CmpR) (hl : smallL l) (hb : ∀ i, bigC (l.getD i c0R)) : Ctr Tryz.prog 18 [.sl 5 l.length (cmpF l)] (.b (decide (okL l))) := by
  obtain ⟨hl1, hl2⟩ := hl
  refine zaE Tryz.func18 rfl Tryz.ntmps18 Tryz.results18 rfl rfl fun X hL hX => ?_
  repeat' (first |with_reducible (first |refine zag ?_|refine zaa ?_|refine zaf ?_|refine zad ?_|refine zae ?_)|refine zab rfl rfl True.intro ?_|fail)
  refine T.loop hL (fun i : Nat => [(0, .sl 5 l.length (cmpF l)), (3, .i .i64 i)]) (fun _ => [])
    (fun i => i ≤ l.length ∧ ∀ j, j < i → cmpOk l j) (fun i => l.length - i) 0 ⟨Nat.zero_le _, fun j h => absurd h (Nat.not_lt_zero _)⟩
    ⟨⟨rfl, rfl, trivial⟩, trivial, rfl, by rw [hX]; simp⟩ ?_
  rintro i ⟨g1, g2⟩
  try dsimp only at g1 g2 ⊢
  have hnat : (i : Int).toNat = i := Int.toNat_natCast i
  by_cases hil : i < l.length
  rotate_left
  · have hil' : ¬ (i : Int) < l.length := by omega
    rw [decide_eq_true (show okL l from fun j hj => g2 j (by omega))]
    repeat' (first |with_reducible (first |refine zag ?_|refine zaa ?_|refine zaf ?_|refine zad ?_|refine zaj ?_|refine zaA ?_|refine zaz ?_)|refine zab rfl rfl True.intro ?_|((first |refine zac rfl ?_ ?_)<;>intro<;>try (first |contradiction))|refine zaO rfl ?_|refine zau rfl ?_|fail)
    all_goals rfl
  have hil' : (i : Int) < l.length := by omega
  obtain ⟨hb1, hb2⟩ := hb (i : Int).toNat
  obtain ⟨hc1, hc2⟩ := hl2 (i : Int).toNat
  unfold bigT at hb1
  have hno : ¬ cmpOk l (i : Int).toNat → ¬ okL l := fun h q => h (by rw [hnat]; exact q i hil)
  have hnx : cmpOk l (i : Int).toNat → ∀ j, j < i + 1 → cmpOk l j := fun h j hj => by
    by_cases e : j = i
    · rw [e]
      rwa [hnat] at h
    · exact g2 j (by omega)
  clear hb hl2 g2
  have c1 := zos (l.getD (i : Int).toNat c0R).id (by omega)
  by_cases hd : hdOk (l.getD (i : Int).toNat c0R)
  rotate_left
  · rw [decide_eq_false (hno fun h => hd h.1)]
    clear hno hnx
    repeat' (first |refine zai (f := 11) rfl rfl Tryz.call11 rfl c1 ?_|with_reducible (first |refine zag ?_|refine zaa ?_|refine zaf ?_|refine zad ?_|refine zaj ?_|refine zah ?_|refine zae ?_|refine zam ?_|refine zar ?_)|refine zab rfl rfl True.intro ?_|refine zat rfl rfl rfl ?_|refine zak rfl rfl rfl rfl True.intro ?_|refine zav rfl ?_|((first |refine zac rfl ?_ ?_|refine zan rfl rfl ?_ ?_|refine zaD rfl rfl ?_ ?_)<;>intro<;>try (first |contradiction))|((first |refine zab rfl rfl ?_ ?_|refine zak rfl rfl rfl rfl ?_ ?_|refine zao rfl rfl ?_ ?_|refine zaw rfl ?_ ?_);focus (first |omega|exact le_ rfl|((repeat' refine And.intro ?_ ?_)<;>omega)|((repeat' refine And.intro ?_ ?_)<;>first |rfl|exact Nat.le_refl _)))|refine zau rfl ?_|fail)
    all_goals first
      | rfl
      | exact absurd ⟨by assumption, by omega, by omega, by omega, by omega, by omega, by omega, by omega, by omega⟩ hd
      | trace_state
  obtain ⟨q1, q2, q3, q4, q5, q6, q7, q8, q9⟩ := id hd
  rw [q1] at c1
  repeat' (first |refine zai (f := 11) rfl rfl Tryz.call11 rfl c1 ?_|with_reducible (first |refine zag ?_|refine zaa ?_|refine zaf ?_|refine zad ?_|refine zah ?_|refine zae ?_)|refine zab rfl rfl True.intro ?_|refine zak rfl rfl rfl rfl True.intro ?_|((first |refine zac rfl ?_ ?_|refine zan rfl rfl ?_ ?_|refine zaD rfl rfl ?_ ?_)<;>intro<;>try (first |contradiction|(exfalso;omega)))|((first |refine zab rfl rfl ?_ ?_|refine zak rfl rfl rfl rfl ?_ ?_|refine zao rfl rfl ?_ ?_|refine zaw rfl ?_ ?_);focus (first |omega|exact le_ rfl|((repeat' refine And.intro ?_ ?_)<;>omega)|((repeat' refine And.intro ?_ ?_)<;>first |rfl|exact Nat.le_refl _)))|fail)
  clear c1
  refine T.loop hL (fun k : Nat => [(0, .sl 5 l.length (cmpF l)), (3, .i .i64 i), (4, .pv 4 0), (5, .i .i64 k)]) (fun _ => [(4, .var (cmpP (l.getD (i : Int).toNat c0R)))])
    (fun k => k ≤ i ∧ ∀ j, j < k → ¬ (l.getD j c0R).id = (l.getD (i : Int).toNat c0R).id) (fun k => i - k) 0 ⟨Nat.zero_le _, fun j h => absurd h (Nat.not_lt_zero _)⟩
    ⟨⟨rfl, rfl, rfl, rfl, trivial⟩, ⟨rfl, trivial⟩, rfl, by rw [hX]; simp⟩ ?_
  rintro k ⟨d1, d2⟩
  try dsimp only at d1 d2 ⊢
  have knat : (k : Int).toNat = k := Int.toNat_natCast k
  by_cases hki : k < i
  · have hki' : (k : Int) < i := by omega
    by_cases he : (l.getD k c0R).id = (l.getD (i : Int).toNat c0R).id
    · rw [decide_eq_false (hno fun h => h.2.1 k (by omega) he)]
      have he' : ¬ ((l.getD (k : Int).toNat c0R).id == (l.getD (i : Int).toNat c0R).id) = false := by
        rw [knat]
        exact fun h => beq_eq_false_iff_ne.1 h he
      clear d2 hno hnx
      repeat' (first |with_reducible (first |refine zag ?_|refine zaa ?_|refine zaf ?_|refine zad ?_|refine zaj ?_|refine zah ?_|refine zae ?_|refine zam ?_|refine zar ?_|refine zaB ?_)|refine zab rfl rfl True.intro ?_|((first |refine zac rfl ?_ ?_|refine zbJ rfl ?_ ?_)<;>intro<;>try (first |contradiction))|((first |refine zab rfl rfl ?_ ?_);focus (first |omega|exact le_ rfl|((repeat' refine And.intro ?_ ?_)<;>omega)))|with_reducible refine ⟨by kernel_rfl, ?_⟩|refine zau rfl ?_|fail)
      all_goals rfl
    · have he' : ¬ ((l.getD (k : Int).toNat c0R).id == (l.getD (i : Int).toNat c0R).id) = true := by
        rw [knat]
        exact fun h => he (beq_iff_eq.1 h)
      have d3 : ∀ j, j < k + 1 → ¬ (l.getD j c0R).id = (l.getD (i : Int).toNat c0R).id := fun j hj => by
        by_cases e : j = k
        · rw [e]; exact he
        · exact d2 j (by omega)
      clear d2 hno hnx
      repeat' (first |with_reducible (first |refine zag ?_|refine zaa ?_|refine zaf ?_|refine zad ?_|refine zah ?_|refine zae ?_|refine zap ?_|refine zaB ?_)|refine zab rfl rfl True.intro ?_|((first |refine zac rfl ?_ ?_|refine zbJ rfl ?_ ?_)<;>intro<;>try (first |contradiction))|((first |refine zab rfl rfl ?_ ?_);focus (first |omega|exact le_ rfl|((repeat' refine And.intro ?_ ?_)<;>omega)))|with_reducible refine ⟨by kernel_rfl, ?_⟩|fail)
      all_goals exact ⟨k + 1, ⟨by omega, d3⟩, by omega, ⟨rfl, rfl, rfl, rfl, trivial⟩, ⟨rfl, trivial⟩, rfl, by rw [hX]; simp⟩
  have hki' : ¬ (k : Int) < i := by omega
  have hid : ∀ j, j < (i : Int).toNat → ¬ (l.getD j c0R).id = (l.getD (i : Int).toNat c0R).id := fun j hj => d2 j (by omega)
  clear d2
  repeat' (first |with_reducible (first |refine zag ?_|refine zaa ?_|refine zaf ?_|refine zad ?_|refine zaA ?_|refine zae ?_|refine zaz ?_)|refine zab rfl rfl True.intro ?_|((first |refine zac rfl ?_ ?_)<;>intro<;>try (first |contradiction))|refine zaO rfl ?_|fail)
  refine T.loop hL (fun m : Nat => [(0, .sl 5 l.length (cmpF l)), (3, .i .i64 i), (4, .pv 4 0), (6, .i .i64 m)]) (fun _ => [(4, .var (cmpP (l.getD (i : Int).toNat c0R)))])
    (fun m => m ≤ (l.getD (i : Int).toNat c0R).srcs.length ∧ ∀ j, j < m → okSrc ((l.getD (i : Int).toNat c0R).srcs.getD j s0R)) (fun m => (l.getD (i : Int).toNat c0R).srcs.length - m) 0 ⟨Nat.zero_le _, fun j h => absurd h (Nat.not_lt_zero _)⟩
    ⟨⟨rfl, rfl, rfl, rfl, trivial⟩, ⟨rfl, trivial⟩, rfl, by rw [hX]; simp⟩ ?_
  rintro m ⟨u1, u2⟩
  try dsimp only at u1 u2 ⊢
  have mnat : (m : Int).toNat = m := Int.toNat_natCast m
  by_cases hml : m < (l.getD (i : Int).toNat c0R).srcs.length
  rotate_left
  · have hml' : ¬ (m : Int) < (l.getD (i : Int).toNat c0R).srcs.length := by omega
    have g3 := hnx ⟨hd, hid, fun j hj => u2 j (by omega)⟩
    clear u2 hno hnx hid
    repeat' (first |with_reducible (first |refine zag ?_|refine zaa ?_|refine zaf ?_|refine zad ?_|refine zaA ?_|refine zap ?_|refine zaz ?_)|refine zab rfl rfl True.intro ?_|((first |refine zac rfl ?_ ?_)<;>intro<;>try (first |contradiction))|((first |refine zab rfl rfl ?_ ?_);focus (first |omega|exact le_ rfl|((repeat' refine And.intro ?_ ?_)<;>omega)))|refine zaO rfl ?_|fail)
    all_goals exact ⟨i + 1, ⟨by omega, g3⟩, by omega, ⟨rfl, rfl, trivial⟩, trivial, rfl, by rw [hX]; simp⟩
  have hml' : (m : Int) < (l.getD (i : Int).toNat c0R).srcs.length := by omega
  have c := zjP ((l.getD (i : Int).toNat c0R).srcs.getD (m : Int).toNat s0R) (hc2 _) (hb2 _)
  by_cases hk : okSrc ((l.getD (i : Int).toNat c0R).srcs.getD (m : Int).toNat s0R)
  · rw [decide_eq_true hk] at c
    have u3 : ∀ j, j < m + 1 → okSrc ((l.getD (i : Int).toNat c0R).srcs.getD j s0R) := fun j hj => by
      by_cases e : j = m
      · rw [e]
        rwa [mnat] at hk
      · exact u2 j (by omega)
    clear u2 hno hnx hid
    repeat' (first |refine zai (f := 39) rfl rfl Tryz.call39 rfl c ?_|with_reducible (first |refine zag ?_|refine zaa ?_|refine zaf ?_|refine zad ?_|refine zah ?_|refine zae ?_|refine zap ?_)|refine zab rfl rfl True.intro ?_|refine zal rfl ?_|((first |refine zac rfl ?_ ?_)<;>intro<;>try (first |contradiction))|((first |refine zab rfl rfl ?_ ?_);focus (first |omega|exact le_ rfl|((repeat' refine And.intro ?_ ?_)<;>omega)))|fail)
    all_goals exact ⟨m + 1, ⟨by omega, u3⟩, by omega, ⟨rfl, rfl, rfl, rfl, trivial⟩, ⟨rfl, trivial⟩, rfl, by rw [hX]; simp⟩
  · rw [decide_eq_false hk] at c
    rw [decide_eq_false (hno fun h => hk (by rw [mnat]; exact h.2.2 m hml))]
    clear u2 hno hnx hid
    repeat' (first |refine zai (f := 39) rfl rfl Tryz.call39 rfl c ?_|with_reducible (first |refine zag ?_|refine zaa ?_|refine zaf ?_|refine zad ?_|refine zaj ?_|refine zah ?_|refine zae ?_|refine zam ?_|refine zar ?_)|refine zab rfl rfl True.intro ?_|refine zav rfl ?_|((first |refine zac rfl ?_ ?_)<;>intro<;>try (first |contradiction))|((first |refine zab rfl rfl ?_ ?_);focus (first |omega|exact le_ rfl|((repeat' refine And.intro ?_ ?_)<;>omega)))|refine zau rfl ?_|fail)
    all_goals rfl

def pairT (p : Fld) : List Txt := [p.1, p.2]
def textsS (s : SrcR) : List Txt := [s.arch, s.csv, s.key, s.attr] ++ s.only ++ s.notl ++ s.lays.flatMap pairT
def fitS (s : SrcR) : Prop := s.lays.length ≤ 1000000 ∧ s.only.length ≤ 1000000 ∧ s.notl.length ≤ 1000000
theorem zoc {s : SrcR} (h : fitS s) : smallS s := ⟨Nat.le_trans h.1 (by decide), Nat.le_trans h.2.1 (by decide), Nat.le_trans h.2.2 (by decide)⟩
section
variable {α : Type} {f : α → Txt} {d : α} {l : List α} {i : Nat}
theorem zhB (hi : i < l.length) : f (l.getD i d) ∈ (l.map f).take i ↔ ∃ k, k < i ∧ f (l.getD k d) = f (l.getD i d) := by
  rw [List.mem_iff_getElem]
  constructor
  · rintro ⟨k, hk, e⟩
    rw [List.length_take] at hk
    rw [List.getElem_take, List.getElem_map] at e
    refine ⟨k, by omega, ?_⟩
    rw [← e]
    simp [List.getD_eq_getElem?_getD, show k < l.length by omega]
  · rintro ⟨k, hk, e⟩
    refine ⟨k, by rw [List.length_take, List.length_map]; omega, ?_⟩
    rw [List.getElem_take, List.getElem_map, ← e]
    simp [List.getD_eq_getElem?_getD, show k < l.length by omega]
theorem zkN (hi : i < l.length) : f (l.getD i d) ∉ (l.map f).take i ↔ ∀ k, k < i → ¬ f (l.getD k d) = f (l.getD i d) :=
  ⟨fun h k hk e => h ((zhB hi).2 ⟨k, hk, e⟩), fun h q => let ⟨k, hk, e⟩ := (zhB hi).1 q; h k hk e⟩
theorem ziL (hi : i < l.length) : (l.map f).take (i + 1) = (l.map f).take i ++ [f (l.getD i d)] := by
  rw [List.take_add_one]
  simp [List.getD_eq_getElem?_getD, hi]
end
theorem znm {l : List Fld} {i : Nat} (hi : i < l.length) : (l.take (i + 1)).flatMap pairT = (l.take i).flatMap pairT ++ pairT (l.getD i ([], [])) := by
  rw [List.take_add_one, List.flatMap_append]
  simp [List.getD_eq_getElem?_getD, hi]
theorem zqH (l : List Fld) : (l.flatMap pairT).all validL = true ↔ ∀ i, i < l.length → validL (l.getD i ([], [])).1 = true ∧ validL (l.getD i ([], [])).2 = true := by
  have e : ∀ i (hi : i < l.length), l.getD i ([], []) = l[i] := fun i hi => by simp [List.getD_eq_getElem?_getD, hi]
  rw [List.all_flatMap, List.all_eq_true]
  constructor
  · intro h i hi
    have := h _ (List.getElem_mem hi)
    rw [e i hi]
    simpa [pairT] using this
  · intro h p hp
    obtain ⟨i, hi, rfl⟩ := List.mem_iff_getElem.1 hp
    have := h i hi
    rw [e i hi] at this
    simpa [pairT] using this
def disS (s : SrcR) : Prop := ∀ i, i < s.lays.length → ∀ k, k < i → ¬ (s.lays.getD k ([], [])).1 = (s.lays.getD i ([], [])).1
theorem zfX (s : SrcR) : okSrc s ↔ disS s ∧ ¬ s.arch = [] ∧ (textsS s).all validL = true ∧ (¬ s.csv = [] ∨ noneJ s) := by
  unfold okSrc textsS disS layOk
  rw [List.all_append, List.all_append, List.all_append, Bool.and_eq_true, Bool.and_eq_true, Bool.and_eq_true, zqH]
  constructor
  · rintro ⟨h1, h2, h3, h4, h5, h6⟩
    exact ⟨fun i hi k hk => (h5 i hi).2.2 k hk, h1, ⟨⟨⟨h2, h3⟩, h4⟩, fun i hi => ⟨(h5 i hi).1, (h5 i hi).2.1⟩⟩, h6⟩
  · rintro ⟨h5, h1, ⟨⟨⟨h2, h3⟩, h4⟩, h7⟩, h6⟩
    exact ⟨h1, h2, h3, h4, fun i hi => ⟨(h7 i hi).1, (h7 i hi).2, fun k hk => h5 i hi k hk⟩, h6⟩
theorem zmA (s : SrcR) : (textsS s).length = 4 + s.only.length + s.notl.length + 2 * s.lays.length := by
  unfold textsS
  have : ∀ l : List Fld, (l.flatMap pairT).length = 2 * l.length := fun l => by
    induction l with
    | nil => rfl
    | cons p r ih =>
      rw [List.flatMap_cons, List.length_append, ih]
      show 2 + _ = 2 * (r.length + 1)
      omega
  simp only [List.length_append, this, List.length_cons, List.length_nil]
theorem zkb {l : List Txt} {n : Nat} (h : ∀ t ∈ l, t.length ≤ n) (i : Nat) : (l.getD i []).length ≤ n := by
  by_cases hi : i < l.length
  · rw [show l.getD i [] = l[i] by simp [List.getD_eq_getElem?_getD, hi]]
    exact h _ (List.getElem_mem hi)
  · rw [List.getD_eq_getElem?_getD, List.getElem?_eq_none (by omega)]
    exact Nat.zero_le _
theorem zmP {s : SrcR} (h : bigS s) (i : Nat) : ((textsS s).getD i []).length ≤ 1048576 := by
  obtain ⟨b1, b2, b3, b4, b5, b6, b7⟩ := h
  refine zkb (fun t ht => ?_) i
  have at' : ∀ (l : List Txt), (∀ i, bigT (l.getD i [])) → t ∈ l → t.length ≤ 1048576 := fun l hl hm => by
    obtain ⟨i, hi, rfl⟩ := List.mem_iff_getElem.1 hm
    have := hl i
    rwa [show l.getD i [] = l[i] by simp [List.getD_eq_getElem?_getD, hi]] at this
  unfold textsS at ht
  rcases List.mem_append.1 ht with ht | ht
  · rcases List.mem_append.1 ht with ht | ht
    · rcases List.mem_append.1 ht with ht | ht
      · rcases List.mem_cons.1 ht with rfl | ht
        · exact b1
        rcases List.mem_cons.1 ht with rfl | ht
        · exact b2
        rcases List.mem_cons.1 ht with rfl | ht
        · exact b3
        rcases List.mem_cons.1 ht with rfl | ht
        · exact b4
        cases ht
      · exact at' _ b5 ht
    · exact at' _ b6 ht
  · obtain ⟨p, hp, ht⟩ := List.mem_flatMap.1 ht
    obtain ⟨i, hi, rfl⟩ := List.mem_iff_getElem.1 hp
    have := b7 i
    rw [show s.lays.getD i ([], []) = s.lays[i] by simp [List.getD_eq_getElem?_getD, hi]] at this
    rcases List.mem_cons.1 ht with rfl | ht
    · exact this.1
    rcases List.mem_cons.1 ht with rfl | ht
    · exact this.2
    cases ht

theorem zhj {O : Nat → Option Own} : ∀ {lo : Ow}, hasAll O lo → updO O lo = O
  | [], _ => rfl
  | (k, o) :: r, h => by
    have e : (fun j => if j = k then some o else O j) = O := by
      funext j
      by_cases hj : j = k
      · subst hj
        rw [if_pos rfl]
        exact h.1.symm
      · rw [if_neg hj]
    show updO (fun j => if j = k then some o else O j) r = O
    rw [e]
    exact zhj h.2
theorem zfj {O O' : Nat → Option Own} : ∀ {lo : Ow}, hasAll O lo → (∀ j ∈ lo.map (·.1), O' j = O j) → hasAll O' lo
  | [], _, _ => trivial
  | (k, o) :: r, h, hc => ⟨(hc k (by simp)).trans h.1, zfj h.2 fun j hj => hc j (by simp at hj ⊢; exact .inr hj)⟩
theorem zmz {P : Program} {X : Ctx} {n : Nat} {fr : Fr} {ow : Ow} {d : D} {o : Oper} {f : FuncId} {args : List D} {lo : Ow} {ids : List Nat} (hP : ∀ vs w, (callFunc f vs).run P w = .ok (.enter f vs) w) (hc : callOf fr o.op = some (f, args)) (hk : hasAll (fun k => look k ow) lo)
    (hi : lo.map (·.1) = ids) (hnd : ids.Nodup) (hok : (args.map (lendA ids)).all (D.okIn ids) = true) (hf1 : lo.all (fun x => x.2.okIn ids) = true) (hf3 : d.okIn ids = true)
    (hC : CtrO P f (args.map (lendA ids)) lo d lo) (hd : dstOk o.dst n) :
    ∀ F' O', (∀ x ∈ o.op.operands.toList, evF F' x = evF (fF fr) x) → (∀ j ∈ ids, O' j = fO ow j) → StepAt P X n o F' O' d [] := by
  intro F' O' he hO
  have h := zdA (X := X) (n := n) hP hc hk hi hi hnd hok hf1 hf1 hf3 hC hd F' O' he hO
  have e : updO O' lo = updO O' [] := zhj (zfj hk fun j hj => hO j (by rw [← hi]; exact hj))
  unfold StepAt at h ⊢
  rw [e] at h
  exact h
theorem zqV {P : Program} {X : Ctx} {n : Nat} {o : Oper} {fr : Fr} {ow : Ow} {ty : TypeId} {k : Nat} {B' : Tb} {zd : D} (hB : tb P = B') (ho : o.op = .alloc ty) (hz : B'.zr ty = some zd) (hs : zd.solid = true) (h1 : zd.cells.all D.one = true) (hk : look k ow = none) (hd : dstOk o.dst n) :
    ∀ F' O', (∀ y ∈ o.op.operands.toList, evF F' y = evF (fF fr) y) → (∀ j ∈ [k], O' j = fO ow j) → StepAt P X n o F' O' (.pv k 0) [(k, .var zd.cells)] := by
  intro F' O' he hO
  have hz' : zeroD P ty = some zd := by subst hB; exact hz
  obtain ⟨i, zv, g1, g2, g3⟩ := zbg hz'
  refine zas hd fun a w S r hH hI hr => ?_
  have hk' : O' k = none := (hO k (by simp)).trans hk
  have hv := zbq S w r zv
  rw [← g3] at hv
  obtain ⟨S', r', q1, q2, q3, q4, q5, q6⟩ := zlE ty hH hI hv hs h1 hk'
  refine ⟨_, _, S', r', .inl ?_, q1, q2, q3, q4, q5, q6⟩
  simp [execOp, ho, Instr.alloc, zeroValue, typeInfo, g1, g2, newVar, newRow]
section
variable {X : Ctx} {n : Nat} {all rest : List Oper} {fr : Fr} {ow : Ow} {tr : List (List Nat × List Nat)} {K : Fr → Ow → List (List Nat × List Nat) → Prop}
variable {t k : Nat} {op : Op} {ty ty' : TypeId} {ps : String} {af : Array Edge} {d : D} {f : FuncId} {args : List D} {g u : Nat} {want : Bool}
theorem znv (lo : Ow) (ids : List Nat) (hi : lo.map (·.1) = ids) (hnd : ids.Nodup) (hc : callOf fr op = some (f, args)) (hn : Nat.blt t n = true) (hP : ∀ vs w, (callFunc f vs).run Tryz.prog w = .ok (.enter f vs) w) (hk : hasAll (fun k => look k ow) lo)
    (hok : (args.map (lendA ids)).all (D.okIn ids) = true) (hf1 : lo.all (fun x => x.2.okIn ids) = true) (hf3 : d.okIn ids = true)
    (hC : CtrO Tryz.prog f (args.map (lendA ids)) lo d lo)
    (h : CT Tryz.prog X n all rest ((t, d) :: fr) ow (tr ++ [(ids, [])]) K) : CT Tryz.prog X n all (⟨some t, op, ty, ps, af, none⟩ :: rest) fr ow tr K :=
  CT.cons (e := ⟨d, ids, []⟩) (.plain rfl (zmz (o := ⟨some t, op, ty, ps, af, none⟩) (ow := ow) hP hc hk hi hnd hok hf1 hf3 hC (show t < n by simpa using hn))) (zaF ..) rfl h
theorem zsP {zd : D} (k : Nat) (o : Oper) (ho : o.op = .alloc ty) (hg : o.guard = none) (hds : o.dst = some t) (hz : B.zr ty = some zd) (hs : zd.solid = true) (h1 : zd.cells.all D.one = true) (hk : look k ow = none) (hn : Nat.blt t n = true)
    (h : CT Tryz.prog X n all rest ((t, .pv k 0) :: fr) ((k, .var zd.cells) :: ow) (tr ++ [([k], [k])]) K) : CT Tryz.prog X n all (o :: rest) fr ow tr K := by
  have e := zct
  have h1' := @zqV Tryz.prog X n o fr ow ty k B zd e ho hz hs h1 hk (by rw [hds]; exact Nat.le_of_ble_eq_true hn)
  refine CT.cons (e := ⟨.pv k 0, [k], [(k, .var zd.cells)]⟩) (.plain hg h1') ?_ (zaJ ..) h
  rw [hds]
  exact zaF ..
theorem zoz {zd : D} (k : Nat) (hz : B.zr ty = some zd) (hs : zd.solid = true) (h1 : zd.cells.all D.one = true) (hk : look k ow = none) (hn : Nat.blt t n = true)
    (h : CT Tryz.prog X n all rest ((t, .pv k 0) :: fr) ((k, .var zd.cells) :: ow) (tr ++ [([k], [k])]) K) : CT Tryz.prog X n all (⟨some t, .alloc ty, ty', ps, af, none⟩ :: rest) fr ow tr K := by
  generalize ho : (⟨some t, .alloc ty, ty', ps, af, none⟩ : Oper) = o
  exact zsP k o (by rw [← ho]) (by rw [← ho]) (by rw [← ho]) hz hs h1 hk hn h
end
end Go.Proofs.YtcajofhafpkbdaaGreatDoor.Flow
