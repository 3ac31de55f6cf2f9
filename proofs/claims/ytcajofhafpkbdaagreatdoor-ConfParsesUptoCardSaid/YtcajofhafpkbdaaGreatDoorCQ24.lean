/- The texts FlowV, LibsB, BW, J28, one behind the other. -/
import Derived.Test.YtcajofhafpkbdaaGreatDoorCQ11
import Derived.Test.YtcajofhafpkbdaaGreatDoorCQ12
import Derived.Test.YtcajofhafpkbdaaGreatDoorCQ15
import Derived.Test.YtcajofhafpkbdaaGreatDoorCQ19
import Derived.Test.YtcajofhafpkbdaaGreatDoorCQ23
import Derived.Lib.UnsafeStr
import Derived.Lib.ReplaceLaws
namespace Go.Proofs.YtcajofhafpkbdaaGreatDoor.Flow
open Go
section
variable {P : Program} {X : Ctx} {n : Nat} {O : Nat → Option Own}
theorem zsv {w : World} {S : Cells} {r : Rho} {zv : Value} (e : TypeId) (hH : Hist X w S) (hI : Inv X w S r O) (hv : Rel S w r (.ag [.v (.pointer none), .nilS]) zv) {k : Nat} (hk : O k = none) :
    ∃ S' r', Rel S' (w.alloc (.cells zv.cells e)) r' (.pv k 0) (.pointer (some ⟨w.heap.size, 0, none⟩)) ∧ Hist X (w.alloc (.cells zv.cells e)) S' ∧
      Inv X (w.alloc (.cells zv.cells e)) S' r' (updO O [(k, .bld e .nilS)]) ∧ (∀ b o, S b o → S' b o) ∧
      (∀ b o, S b o → (w.alloc (.cells zv.cells e)).cell? ⟨b, o, none⟩ = w.cell? ⟨b, o, none⟩) ∧ RhoLe r r' := by
  have hc := Chg.alloc w S hH.valid (.cells zv.cells e)
  have hr : RhoLe r (updR r k (.blk w.heap.size)) := RhoLe.new (hI.dom k hk)
  obtain ⟨hz, hcell⟩ := zbD hv rfl
  have hk0 : updR r k (.blk w.heap.size) k = some (.blk w.heap.size) := by simp [updR]
  refine ⟨S, updR r k (.blk w.heap.size), .pv _ k 0 _ hk0, ?_, ?_, fun _ _ h => h, hc.cell, hr⟩
  · exact hH.chg hc (fun b hb => by cases hb) (fun _ _ h => h) (fun b o h => .inl h)
  · refine hI.put hc (fun _ _ h => h) hr k _ (.blk w.heap.size) ?_ hk0 (fun j hj => by simp [updR, hj]) (fun b hb => ?_) (fun b hb => by cases hb) (fun b o h => .inl h)
    · refine ⟨w.heap.size, zv.cells, e, hk0, heap_alloc_new w _, hz, .inl ⟨?_, rfl⟩, ⟨(hcell 1 (by decide)).mono (fun _ _ h => h) hc.cell _ hr, rfl⟩, fun o ho => ?_⟩
      · have h0 : Rel S w r (.v (.pointer none)) (zv.cells.getD 0 undef) := hcell 0 (by decide)
        generalize zv.cells.getD 0 undef = v0 at h0
        cases h0
        rfl
      · have := hH.valid _ _ ho; omega
    · simp only [Loc.block, Option.some.injEq] at hb
      subst hb
      exact .inl ⟨Nat.le_refl _, .inl hH.size⟩
variable {o : Oper} {fr : Fr} {ow : Ow} {t k : Nat} {ty : TypeId} {x : Operand}
theorem zqb {B' : Tb} (hB : tb P = B') (ho : o.op = .alloc ty) (hz : B'.zr ty = some (.ag [.v (.pointer none), .nilS])) (ht : look t ow = none) (hd : dstOk o.dst n) :
    ∀ F' O', (∀ y ∈ o.op.operands.toList, evF F' y = evF (fF fr) y) → (∀ j ∈ [t], O' j = fO ow j) → StepAt P X n o F' O' (.pv t 0) [(t, .bld ty .nilS)] := by
  intro F' O' he hO
  have hz' : zeroD P ty = some (.ag [.v (.pointer none), .nilS]) := by subst hB; exact hz
  obtain ⟨i, zv, h1, h2, h3⟩ := zbj hz'
  refine zax hd fun a w S r hH hI hr => ?_
  have hk : O' t = none := (hO t (by simp)).trans ht
  have hv := zbv S w r zv
  rw [← h3] at hv
  obtain ⟨S', r', g1, g2, g3, g4, g5, g6⟩ := zsv ty hH hI hv hk
  refine ⟨_, _, S', r', .inl ?_, g1, g2, g3, g4, g5, g6⟩
  simp [execOp, ho, Instr.alloc, zeroValue, typeInfo, h1, h2, newVar, newRow]
theorem T.adoptB {c : Code} {Q : Exit → Fr → Ow → Prop} (v k : Nat) (e T0 : TypeId) (f : Nat → List D) (hv : look v ow = some (.bld T0 .nilS)) (hk : look k ow = none)
    (h : T P X n c fr ((v, .bld T0 (.gs k 1 0 f)) :: (k, .row e 1 0) :: ow) Q) : T P X n c fr ow Q := fun a w hr => by
  refine h a w ?_
  obtain ⟨S, r, hH, hI, hF, hd, hn, hρ⟩ := hr
  have hle : RhoLe r (updR r k (.row (.slice none 0 0) 0)) := RhoLe.new (hI.dom k hk)
  have hk0 : updR r k (.row (.slice none 0 0) 0) k = some (.row (.slice none 0 0) 0) := by simp [updR]
  have hc : Chg w w S none := ⟨rfl, rfl, rfl, Nat.le_refl _, fun _ _ _ => rfl, fun _ _ _ => rfl⟩
  have hI2 : Inv X w S (updR r k (.row (.slice none 0 0) 0)) (fO ((k, .row e 1 0) :: ow)) := by
    rw [zaL]
    exact hI.put hc (fun _ _ h => h) hle k _ (.row (.slice none 0 0) 0) ⟨_, hk0, .inl ⟨rfl, rfl⟩⟩ hk0 (fun j hj => by simp [updR, hj]) (fun b hb => by simp [Loc.block] at hb) (fun b hb => by cases hb) (fun _ _ h => .inl h)
  have hvk : v ≠ k := fun e => by subst e; rw [hv] at hk; cases hk
  have hv2 : fO ((k, .row e 1 0) :: ow) v = some (.bld T0 .nilS) := by
    rw [zaL]
    show (if v = k then _ else fO ow v) = _
    rw [if_neg hvk]
    exact hv
  obtain ⟨b, cur, e0, h1, h2, h3, h4, h5, h6⟩ := hI2.obj v _ hv2
  refine ⟨S, updR r k (.row (.slice none 0 0) 0), hH, ?_, fun u => (hF u).mono (fun _ _ h => h) (fun _ _ _ => rfl) _ hle, hd, hn, hρ.trans hle⟩
  rw [zaL]
  refine hI2.put hc (fun _ _ h => h) (RhoLe.refl _) v _ (.blk b) ⟨b, cur, e0, h1, h2, h3, h4, ⟨?_, rfl⟩, h6⟩ h1 (fun _ _ => rfl) (fun b' hb' => .inr ⟨_, h1, hb'⟩) (fun b hb => by cases hb) (fun _ _ h => .inl h)
  have h7 := h5.1
  generalize cur.getD 1 undef = vj at h7 ⊢
  cases h7
  exact .gs _ k 1 0 f _ _ 0 (.sl _ _ _ _ none 0 (fun _ _ => undef) (Nat.le_refl _) (by unfold maxLen; omega) (fun i hi => by omega) (fun i j hi => by omega) (fun i j hi => by omega)) hk0 (Nat.le_refl _) (fun _ => .inl rfl)
theorem ziX (w : World) (b : Nat) (u : Value) (cur : Array Value) (e : TypeId) (fz : Nat × Nat) (h : w.heap[b]? = some (.cells cur e fz)) : (w.setCell ⟨b, 0, none⟩ u).heap[b]? = some (.cells (cur.setIfInBounds 0 u) e fz) := by
  simp only [World.setCell, Array.getElem?_modify, if_true, h, Option.map_some]
  rfl
theorem Chg.setCell (w : World) (S : Cells) (b : Nat) (u : Value) (hS : ∀ o, ¬ S b o) : Chg w (w.setCell ⟨b, 0, none⟩ u) S (some b) where
  os := rfl
  tape := rfl
  output := rfl
  size := by simp [World.setCell]
  block := fun k _ hne => RowKit.Below.heap_setCell w _ u k (fun e => hne (by rw [e]))
  cell := fun b' o hb => World.cell?_of_block (RowKit.Below.heap_setCell w _ u b' (fun e => hS o (by rw [← show b' = b from e]; exact hb)))
theorem zqW {f : FuncId} {T0 : TypeId} {d : D} {lo : Ow}
    (hu : ∀ (b : Nat) (w : World), w.cell? ⟨b, 0, none⟩ = some (.pointer (some ⟨b, 0, none⟩)) → Calls P f #[.pointer (some ⟨b, 0, none⟩)] w fun e w' => e = .returned (.tuple #[]) ∧ w' = w)
    (hf : ∀ (b : Nat) (w : World), w.cell? ⟨b, 0, none⟩ = some (.pointer none) → w.shape? b = some (T0, 2) → w.frozen? ⟨b, 0, none⟩ = false →
      Calls P f #[.pointer (some ⟨b, 0, none⟩)] w fun e w' => e = .returned (.tuple #[]) ∧ w' = w.setCell ⟨b, 0, none⟩ (.pointer (some ⟨b, 0, none⟩))) :
    CtrO P f [.pv k 0] ((k, .bld T0 d) :: lo) (.tu []) ((k, .var [.pv k 0, d]) :: lo) := by
  intro X vs hids hH hI hn hr
  have h0 := hr 0 (by simp)
  have e1 : vs = #[vs.getD 0 undef] := by
    obtain ⟨l⟩ := vs
    match l, hn with
    | [a], _ => rfl
  rw [e1]
  generalize vs.getD 0 undef = v0 at *
  have hO : fO ((k, .bld T0 d) :: lo) k = some (.bld T0 d) := by
    rw [zaL]
    exact if_pos rfl
  obtain ⟨b, cur, e, g1, g2, g3, g4, g5, g6⟩ := hI.obj k _ hO
  have h0 : Rel X.S0 X.w0 X.r0 (.pv k 0) v0 := h0
  cases h0 with
  | pv _ _ _ b' hb =>
  rw [g1] at hb
  cases hb
  have hup : ∀ (w' : World) (cur' : Array Value) (g : Option Nat), (g = none ∨ g = some b) → Chg X.w0 w' X.S0 g → w'.heap[b]? = some (.cells cur' e (0, 0)) → cur'.size = 2 → cur'.getD 0 undef = .pointer (some ⟨b, 0, none⟩) → cur'.getD 1 undef = cur.getD 1 undef →
      Hist X w' X.S0 ∧ Inv X w' X.S0 X.r0 (fO ((k, .var [.pv k 0, d]) :: lo)) := by
    intro w' cur' g hg hc q1 q2 q3 q4
    have hgb : ∀ b', g = some b' → b' = b := fun b' h => by
      rcases hg with rfl | rfl
      · cases h
      · cases h; rfl
    refine ⟨hH.chg hc (fun b' hb' => by rw [hgb b' hb']; exact hI.low k _ b g1 rfl) (fun _ _ h => h) (fun _ _ h => .inl h), ?_⟩
    have hEq : fO ((k, Own.var [.pv k 0, d]) :: lo) = fun j => if j = k then some (Own.var [.pv k 0, d]) else fO ((k, Own.bld T0 d) :: lo) j := by
      rw [zaL, zaL]
      funext j
      show (if j = k then _ else _) = if j = k then _ else (if j = k then _ else _)
      by_cases hj : j = k
      · rw [if_pos hj, if_pos hj]
      · rw [if_neg hj, if_neg hj, if_neg hj]
    rw [hEq]
    refine hI.put hc (fun _ _ h => h) (RhoLe.refl _) k _ (.blk b) ?_ g1 (fun _ _ => rfl) (fun b' hb' => .inr ⟨_, g1, hb'⟩) (fun b' hb' => ⟨_, g1, by rw [hgb b' hb']; rfl⟩) (fun _ _ h => .inl h)
    refine ⟨b, cur', e, g1, q1, q2, fun j hj => ?_, g6⟩
    match j, hj with
    | 0, _ =>
      rw [q3]
      exact ⟨.pv _ k 0 b g1, rfl⟩
    | 1, _ =>
      rw [q4]
      exact ⟨g5.1.mono (fun _ _ h => h) hc.cell _ (RhoLe.refl _), g5.2⟩
  have hc0 : X.w0.cell? ⟨b, 0, none⟩ = some (cur.getD 0 undef) := by
    rw [Lib.cell_of_heap g2]
    have : 0 < cur.size := by omega
    simp [Array.getD_eq_getD_getElem?, this]
  rcases g4 with ⟨g4, rfl⟩ | g4
  · refine (hf b X.w0 (by rw [hc0, g4]) (by simp [World.shape?, g2, g3]) (by simp [World.frozen?, g2])).mono ?_
    rintro e' w' ⟨rfl, rfl⟩
    have hc := Chg.setCell X.w0 X.S0 b (.pointer (some ⟨b, 0, none⟩)) g6
    obtain ⟨q1, q2⟩ := hup _ _ _ (.inr rfl) hc (ziX _ b _ cur e (0, 0) g2) (by simpa using g3) (by simp [Array.getD_eq_getD_getElem?, g3]) (by simp [Array.getD_eq_getD_getElem?])
    exact ⟨_, X.S0, X.r0, rfl, .tu _ _ _ rfl (fun j hj => absurd hj (by simp)), q1, q2, RhoLe.refl _⟩
  · refine (hu b X.w0 (by rw [hc0, g4])).mono ?_
    rintro e' w' ⟨rfl, rfl⟩
    obtain ⟨q1, q2⟩ := hup _ cur none (.inl rfl) ⟨rfl, rfl, rfl, Nat.le_refl _, fun _ _ _ => rfl, fun _ _ _ => rfl⟩ g2 g3 g4 rfl
    exact ⟨_, X.S0, X.r0, rfl, .tu _ _ _ rfl (fun j hj => absurd hj (by simp)), q1, q2, RhoLe.refl _⟩
theorem zmd {B' : Tb} {d : D} {T0 : TypeId} (hB : tb P = B') (ho : o.op = .load ty x) (hz : B'.sz ty = some (1, false)) (hx : ev fr x = .pv k 1) (hk : look k ow = some (.bld T0 d)) (hd : dstOk o.dst n) :
    ∀ F' O', (∀ y ∈ o.op.operands.toList, evF F' y = evF (fF fr) y) → (∀ j ∈ [k], O' j = fO ow j) → StepAt P X n o F' O' d [] := by
  intro F' O' he hO
  have hz' : szOf P ty = some (1, false) := by subst hB; exact hz
  refine zax hd fun a w S r hH hI hr => ?_
  have hx' := hr x
  rw [he x (by simp [ho, Op.operands]), zaZ, hx] at hx'
  have hk' : O' k = some (.bld T0 d) := (hO k (by simp)).trans hk
  obtain ⟨b, cur, e, g1, g2, g3, g4, g5, g6⟩ := hI.obj k _ hk'
  generalize hv : a.eval x = vx at hx'
  cases hx' with
  | pv _ _ _ b' hb =>
    rw [g1] at hb
    cases hb
    obtain ⟨v, q1, q2⟩ := zbf (P := P) (S := S) (r := r) (w := w) (t := ty) (z := (1, false)) (cs := [.any, d]) (o := 0) (b := b) (off := 1) (c := fun j => cur.getD j undef) hz' (by show 1 < 2; omega) (fun j hj => by
      rw [Nat.zero_add, cell_of_row w b j cur e (0, 0) g2]
      have : j < cur.size := by rw [g3]; exact hj
      simp [Array.getD_eq_getD_getElem?, this]) (fun j hj => match j, hj with
        | 0, _ => .any ..
        | 1, _ => g5.1)
    rw [Nat.zero_add] at q1
    exact ⟨v, w, S, r, .inl (by simp [execOp, ho, hv, q1]), q2, hH, hI, fun _ _ h => h, fun _ _ _ => rfl, RhoLe.refl r⟩
theorem zlt {e : TypeId} {L : Nat} {f : Nat → List D} {ts : Array TypeId} (ho : o.op = .call { callee := .builtin .unsafeSliceData, args := #[x], argTypes := ts }) (hx : ev fr x = .gs k 1 L f) (hk : look k ow = some (.row e 1 L)) (hL : 0 < L) (hd : dstOk o.dst n) :
    ∀ F' O', (∀ y ∈ o.op.operands.toList, evF F' y = evF (fF fr) y) → (∀ j ∈ [k], O' j = fO ow j) → StepAt P X n o F' O' (.ap k 1 L 0 0) [] := by
  intro F' O' he hO
  refine zax hd fun a w S r hH hI hr => ?_
  have hx' := hr x
  rw [he x (by simp [ho, Op.operands, Call.operands]), zaZ, hx] at hx'
  have hk' : O' k = some (.row e 1 L) := (hO k (by simp)).trans hk
  obtain ⟨tv, g1, g2⟩ := hI.obj k _ hk'
  rcases g2 with ⟨_, g2⟩ | ⟨g, cap, cur, rfl, g3, g4, g5, g6, g7⟩
  · omega
  generalize hv : a.eval x = vx at hx'
  cases hx' with
  | gs _ _ _ _ _ _ tv' L' h1 h2 h3 h4 =>
    rw [g1] at h2
    cases h2
    have h5 : vx = .slice (some ⟨g, 0, none⟩) L cap := by
      rcases h4 rfl with h5 | ⟨h5, _⟩
      · exact h5
      · cases h5
    subst h5
    have hrun := Lib.run_unsafeSliceData_row (P := P) w ts o.type ⟨g, 0, none⟩ L cap (by omega)
    refine ⟨.pointer (some ⟨g, 0, none⟩), w, S, r, .inl ?_, .ap _ k 1 L 0 0 _ _ L g1 (Nat.le_refl _) (fun _ => ⟨g, cap, rfl, by simp⟩) ⟨g, 0, rfl⟩, hH, hI, fun _ _ h => h, fun _ _ _ => rfl, RhoLe.refl r⟩
    simp [execOp, ho, resolve, invoke, builtin, hv, hrun]
theorem zjh (w : World) (a : Addr) (m : Nat) (p : Addr) : (w.freeze a m).cell? p = w.cell? p := by
  unfold World.freeze
  split
  · rfl
  · unfold World.cell?
    simp only [Array.getElem?_modify]
    by_cases h : a.block = p.block
    · rw [if_pos h]
      cases w.heap[p.block]? with
      | none => rfl
      | some o => cases o <;> rfl
    · rw [if_neg h]
theorem zfm (w : World) (a : Addr) (m : Nat) : (w.freeze a m).heap.size = w.heap.size := by
  unfold World.freeze
  split
  · rfl
  · simp
theorem ziY (w : World) (g o m j : Nat) (h : j ≠ g) : (w.freeze ⟨g, o, none⟩ m).heap[j]? = w.heap[j]? := by
  unfold World.freeze
  split
  · rfl
  · simp only [Array.getElem?_modify]
    rw [if_neg (fun e => h e.symm)]
theorem Chg.freeze (w : World) (S : Cells) (g m : Nat) : Chg w (w.freeze ⟨g, 0, none⟩ m) S (some g) where
  os := by unfold World.freeze; split <;> rfl
  tape := by unfold World.freeze; split <;> rfl
  output := by unfold World.freeze; split <;> rfl
  size := by rw [zfm]; omega
  block := fun j _ hne => ziY w g 0 m j (fun e => hne (by rw [e]))
  cell := fun b o _ => zjh w _ m _
theorem zmL {y : Operand} {pt it e T0 : TypeId} {kb : Nat} {l : List UInt8} (hp : P.underlying pt = some (.pointer e)) (hc : P.cellsOf e = 1) (ho : o.op = .call { callee := .builtin .unsafeString, args := #[x, y], argTypes := #[pt, it] })
    (hx : ev fr x = .ap k 1 l.length 0 0) (hy : ev fr y = .i .i64 l.length) (hk : look k ow = some (.row e 1 l.length)) (hb : look kb ow = some (.bld T0 (.gs k 1 l.length (bytesF l)))) (_hne : kb ≠ k) (hL : 0 < l.length) (hd : dstOk o.dst n) :
    ∀ F' O', (∀ y ∈ o.op.operands.toList, evF F' y = evF (fF fr) y) → (∀ j ∈ [kb, k], O' j = fO ow j) → StepAt P X n o F' O' (.s l) [(k, .gone)] := by
  intro F' O' he hO
  refine zax hd fun a w S r hH hI hr => ?_
  have hx' := hr x
  have hy' := hr y
  rw [he x (by simp [ho, Op.operands, Call.operands]), zaZ, hx] at hx'
  rw [he y (by simp [ho, Op.operands, Call.operands]), zaZ, hy] at hy'
  have hk' : O' k = some (.row e 1 l.length) := (hO k (by simp)).trans hk
  have hb' : O' kb = some (.bld T0 (.gs k 1 l.length (bytesF l))) := (hO kb (by simp)).trans hb
  obtain ⟨tv, g1, g2⟩ := hI.obj k _ hk'
  rcases g2 with ⟨_, g2⟩ | ⟨g, cap, cur, rfl, g3, g4, g5, g6, g7⟩
  · omega
  obtain ⟨bb, bc, be, q1, q2, q3, q4, q5, q6⟩ := hI.obj kb _ hb'
  have q7 := q5.1
  generalize bc.getD 1 undef = vb at q7
  generalize hv : a.eval x = vx at hx'
  generalize hu : a.eval y = vy at hy'
  cases hy'
  cases hx' with
  | ap _ _ _ _ _ _ ad tv' L' h2 h3 h4 h5 =>
  rw [g1] at h2
  cases h2
  obtain ⟨g', cap', h6, h7⟩ := h4 rfl
  cases h6
  subst h7
  cases q7 with
  | gs _ _ _ _ _ _ tv2 L2 m1 m2 m3 m4 =>
  rw [g1] at m2
  cases m2
  have m5 : vb = .slice (some ⟨g, 0, none⟩) l.length cap := by
    rcases m4 rfl with h5 | ⟨h5, _⟩
    · exact h5
    · cases h5
  subst m5
  cases m1 with
  | sl _ _ _ _ _ _ c n1 n2 n3 n4 n5 =>
  have hcell : ∀ j xx, l[j]? = some xx → w.cell? ((⟨g, 0, none⟩ : Addr).add j) = some (.int .u8 xx.toNat) := fun j xx hj => by
    have hjl : j < l.length := (List.getElem?_eq_some_iff.1 hj).1
    obtain ⟨b, o', e1, _, e2⟩ := n4 j 0 hjl (by omega)
    cases e1
    have e3 := n5 j 0 hjl (by omega)
    have e4 : (bytesF l j).getD 0 .any = .i .u8 (xx.toNat : Int) := by
      simp [bytesF, List.getD_eq_getElem?_getD, hj]
    rw [e4] at e3
    generalize c j 0 = cv at e2 e3
    cases e3
    rw [Addr.add_lit]
    simpa using e2
  have hl0 : l ≠ [] := fun h => by rw [h] at hL; simp at hL
  have hrun := Lib.run_unsafeString_row (P := P) w pt it o.type e hp hc g cur.size (by simp [World.shape?, g3]) l hl0 (by omega) (by unfold maxLen at g5; omega) hcell
  have hch := Chg.freeze w S g l.length
  refine ⟨.string ⟨l.toArray⟩, w.freeze ⟨g, 0, none⟩ l.length, S, r, .inl ?_, .s .., ?_, ?_, fun _ _ h => h, hch.cell, RhoLe.refl r⟩
  · have e0 : (⟨g, 0 * 1 + 0, none⟩ : Addr) = ⟨g, 0, none⟩ := rfl
    simp [execOp, ho, resolve, invoke, builtin, hv, hu, hrun]
  · exact hH.chg hch (fun b' hb' => by cases hb'; exact hI.low k _ g g1 rfl) (fun _ _ h => h) (fun _ _ h => .inl h)
  · refine hI.put hch (fun _ _ h => h) (RhoLe.refl r) k _ _ ⟨_, g1, fun b' hb' => ?_⟩ g1 (fun _ _ => rfl) (fun b' hb' => .inr ⟨_, g1, hb'⟩) (fun b' hb' => ⟨_, g1, by cases hb'; rfl⟩) (fun _ _ h => .inl h)
    rw [zfm]
    simp only [Loc.block, Option.some.injEq] at hb'
    subst hb'
    exact (Array.getElem?_eq_some_iff.1 g3).1
end
section
variable {X : Ctx} {n : Nat} {all rest : List Oper} {fr : Fr} {ow : Ow} {tr : List (List Nat × List Nat)} {K : Fr → Ow → List (List Nat × List Nat) → Prop}
variable {t k : Nat} {ty ty' : TypeId} {ps : String} {af : Array Edge} {x : Operand} {l : List UInt8}
theorem zry (o : Oper) (ho : o.op = .alloc ty) (hg : o.guard = none) (hds : o.dst = some t) (hz : B.zr ty = some (.ag [.v (.pointer none), .nilS])) (ht : look t ow = none) (hn : Nat.blt t n = true)
    (h : CT Tryz.prog X n all rest ((t, .pv t 0) :: fr) ((t, .bld ty .nilS) :: ow) (tr ++ [([t], [t])]) K) : CT Tryz.prog X n all (o :: rest) fr ow tr K := by
  have e := zcD
  have h1 := @zqb Tryz.prog X n o fr ow t ty
  have h2 := @h1 B e
  have h3 := h2 ho
  have h4 := h3 hz ht (by rw [hds]; exact Nat.le_of_ble_eq_true hn)
  refine CT.cons (e := ⟨.pv t 0, [t], [(t, .bld ty .nilS)]⟩) (.plain hg h4) ?_ (zaL ..) h
  rw [hds]
  exact zaH ..
theorem r_bld (hz : B.zr ty = some (.ag [.v (.pointer none), .nilS])) (ht : look t ow = none) (hn : Nat.blt t n = true)
    (h : CT Tryz.prog X n all rest ((t, .pv t 0) :: fr) ((t, .bld ty .nilS) :: ow) (tr ++ [([t], [t])]) K) : CT Tryz.prog X n all (⟨some t, .alloc ty, ty', ps, af, none⟩ :: rest) fr ow tr K := by
  generalize ho : (⟨some t, .alloc ty, ty', ps, af, none⟩ : Oper) = o
  exact zry o (by rw [← ho]) (by rw [← ho]) (by rw [← ho]) hz ht hn h
theorem zre {d : D} {T0 : TypeId} (hx : ev fr x = .pv k 1) (hk : look k ow = some (.bld T0 d)) (hz : B.sz ty = some (1, false)) (hn : Nat.blt t n = true)
    (h : CT Tryz.prog X n all rest ((t, d) :: fr) ow (tr ++ [([k], [])]) K) : CT Tryz.prog X n all (⟨some t, .load ty x, ty', ps, af, none⟩ :: rest) fr ow tr K :=
  CT.cons (e := ⟨d, [k], []⟩) (.plain rfl (zmd (P := Tryz.prog) (X := X) (o := ⟨some t, .load ty x, ty', ps, af, none⟩) zcD rfl hz hx hk (Nat.le_of_ble_eq_true hn))) (zaH ..) rfl h
theorem zrN {e : TypeId} {L : Nat} {f : Nat → List D} {ts : Array TypeId} (hx : ev fr x = .gs k 1 L f) (hk : look k ow = some (.row e 1 L)) (hn : Nat.blt t n = true) (hL : 0 < L)
    (h : CT Tryz.prog X n all rest ((t, .ap k 1 L 0 0) :: fr) ow (tr ++ [([k], [])]) K) : CT Tryz.prog X n all (⟨some t, .call { callee := .builtin .unsafeSliceData, args := #[x], argTypes := ts }, ty', ps, af, none⟩ :: rest) fr ow tr K :=
  CT.cons (e := ⟨.ap k 1 L 0 0, [k], []⟩) (.plain rfl (zlt (P := Tryz.prog) (X := X) (o := ⟨some t, .call { callee := .builtin .unsafeSliceData, args := #[x], argTypes := ts }, ty', ps, af, none⟩) rfl hx hk hL (Nat.le_of_ble_eq_true hn))) (zaH ..) rfl h
set_option maxRecDepth 100000 in
theorem zrW {y : Operand} {pt it e T0 : TypeId} (kb : Nat) (l : List UInt8) (hx : ev fr x = .ap k 1 l.length 0 0) (hy : ev fr y = .i .i64 l.length) (hk : look k ow = some (.row e 1 l.length)) (hb : look kb ow = some (.bld T0 (.gs k 1 l.length (bytesF l))))
    (hp : Tryz.prog.underlying pt = some (.pointer e)) (hc : Tryz.prog.cellsOf e = 1) (hne : Nat.beq kb k = false) (hn : Nat.blt t n = true) (hL : 0 < l.length)
    (h : CT Tryz.prog X n all rest ((t, .s l) :: fr) ((k, .gone) :: ow) (tr ++ [([kb, k], [k])]) K) : CT Tryz.prog X n all (⟨some t, .call { callee := .builtin .unsafeString, args := #[x, y], argTypes := #[pt, it] }, ty', ps, af, none⟩ :: rest) fr ow tr K :=
  CT.cons (e := ⟨.s l, [kb, k], [(k, .gone)]⟩) (.plain rfl (zmL (P := Tryz.prog) (X := X) (o := ⟨some t, .call { callee := .builtin .unsafeString, args := #[x, y], argTypes := #[pt, it] }, ty', ps, af, none⟩) hp hc rfl hx hy hk hb (fun e => by subst e; rw [Nat.beq_refl] at hne; cases hne) hL (Nat.le_of_ble_eq_true hn))) (zaH ..) (zaL ..) h
end

theorem copyU (b : Nat) (w : World) (h0 : w.cell? ⟨b, 0, none⟩ = some (.pointer (some ⟨b, 0, none⟩))) :
    Calls Tryz.prog 125 #[.pointer (some ⟨b, 0, none⟩)] w fun e w' => e = .returned (.tuple #[]) ∧ w' = w :=
  Any.Builder_copyCheck_used (P := Tryz.prog) (ρ := Tryz.lays105_ren) { Tryz.lays105 with } Tryz.Builder_Extra_105.toX72 b w h0
theorem copyF (b : Nat) (w : World) (h0 : w.cell? ⟨b, 0, none⟩ = some (.pointer none)) (hs : w.shape? b = some (110, 2)) (hf : w.frozen? ⟨b, 0, none⟩ = false) :
    Calls Tryz.prog 125 #[.pointer (some ⟨b, 0, none⟩)] w fun e w' => e = .returned (.tuple #[]) ∧ w' = w.setCell ⟨b, 0, none⟩ (.pointer (some ⟨b, 0, none⟩)) :=
  Any.Builder_copyCheck_fresh (P := Tryz.prog) (ρ := Tryz.lays105_ren) { Tryz.lays105 with } Tryz.Builder_Extra_105.toX72 b w h0 hs hf
theorem zpz (k : Nat) (d : D) (lo : Ow) : CtrO Tryz.prog 125 [.pv k 0] ((k, .bld 110 d) :: lo) (.tu []) ((k, .var [.pv k 0, d]) :: lo) :=
  zqW copyU copyF
end Go.Proofs.YtcajofhafpkbdaaGreatDoor.Flow


namespace Go.Proofs.YtcajofhafpkbdaaGreatDoor.Flow
open Go
def bl (l : List UInt8) : Ow := [(3, .bld 110 (.gs 200 1 l.length (bytesF l))), (200, .row 5 1 l.length)]
theorem zrn (l xs : List UInt8) (g : Nat → List D) (hg : ∀ i, i < xs.length → g i = bytesF xs i) : catF l.length (bytesF l) xs.length g = bytesF (l ++ xs) := by
  funext j
  unfold catF
  by_cases h : j < l.length
  · rw [if_pos h]
    simp [bytesF, List.getD_eq_getElem?_getD, h, List.getElem?_append_left]
  · rw [if_neg h]
    by_cases h2 : j < l.length + xs.length
    · rw [if_pos h2, hg _ (by omega)]
      simp [bytesF, List.getD_eq_getElem?_getD, List.getElem?_append_right (show l.length ≤ j by omega)]
    · rw [if_neg h2]
      simp [bytesF, List.getD_eq_getElem?_getD, List.getElem?_append_right (show l.length ≤ j by omega)]
      rw [List.getElem?_eq_none (show l.length ≤ j by omega), List.getElem?_eq_none (show xs.length ≤ j - l.length by omega)]
theorem gs_tx (k : Nat) (l xs : List UInt8) (m : Nat) (g : Nat → List D) (hm : m = xs.length) (hg : ∀ i, i < xs.length → g i = bytesF xs i) :
    D.gs k 1 (l.length + m) (catF l.length (bytesF l) m g) = D.gs k 1 (l ++ xs).length (bytesF (l ++ xs)) := by
  subst hm
  rw [zrn l xs g hg]
  simp
set_option maxRecDepth 100000 in
theorem zbr (l s : List UInt8) (hl : l.length + s.length ≤ 1099511627776) :
    CtrO Tryz.prog 97 [.pv 3 0, .s s] (bl l) (.tu [.i .i64 s.length, .v .nilIface]) (bl (l ++ s)) := by
  have hc := zpz 3 (.gs 200 1 l.length (bytesF l)) [(200, .row 5 1 l.length)]
  refine zaK Tryz.func97 rfl Tryz.ntmps97 Tryz.results97 rfl rfl rfl rfl rfl fun X hL hX => ?_
  repeat' (first |with_reducible (first |refine zag ?_|refine zaa ?_|refine zaf ?_|refine zad ?_|refine zaj ?_)|refine zab rfl rfl True.intro ?_|((first |refine zab rfl rfl ?_ ?_|refine zao rfl rfl ?_ ?_|refine zar rfl ?_ ?_);focus (first |exact le_ rfl|((repeat' refine And.intro ?_ ?_)<;>first |omega|rfl|exact Nat.le_refl _)))|refine zbe rfl rfl ?_|refine zaC (f := 125) 3 200 rfl rfl Tryz.call125 rfl rfl rfl rfl rfl rfl rfl rfl rfl hc ?_|fail)
  exact ⟨⟨.inr (congrArg (fun d => some (Own.var [.pv 3 0, d])) (gs_tx 200 l s _ _ rfl (fun _ _ => rfl))), by rw [List.length_append]; rfl, trivial⟩⟩
set_option maxRecDepth 100000 in
theorem zlk (l : List UInt8) (h0 : 0 < l.length) (_hl : l.length ≤ 1099511627776) :
    CtrO Tryz.prog 67 [.pv 3 0] (bl l) (.s l) [(3, .gone), (200, .gone)] := by
  have hp : Tryz.prog.underlying 139 = some (.pointer 5) := Tryz.underlying139
  have hz : Tryz.prog.cellsOf 5 = 1 := by kernel_rfl
  refine zaK Tryz.func67 rfl Tryz.ntmps67 Tryz.results67 rfl rfl rfl rfl rfl fun X hL hX => ?_
  repeat' (first |with_reducible (first |refine zag ?_|refine zaa ?_|refine zaf ?_|refine zad ?_|refine zaj ?_|refine zaD ?_)|refine zab rfl rfl True.intro ?_|with_reducible refine ⟨by kernel_rfl, ?_⟩|refine zbe rfl rfl ?_|refine zre rfl rfl rfl rfl ?_|refine zrN rfl rfl rfl h0 ?_|refine zrW 3 l rfl rfl rfl rfl hp hz rfl rfl h0 ?_|fail)
  exact ⟨⟨⟨_, rfl⟩, ⟨_, rfl⟩, trivial⟩⟩

theorem CtrO.weakJ {P : Program} {f : FuncId} {args args' : List D} {ow ow' : Ow} {d : D} (hC : CtrO P f args' ow d ow') (hn : args'.length = args.length) (h : ∀ j, j < args.length → Weak (args.getD j .any) (args'.getD j .any)) : CtrO P f args ow d ow' := by
  intro X vs hids hH hI hs hr
  exact hC X vs hids hH hI (hs.trans hn.symm) fun j hj => (hr j (hn ▸ hj)).weak (h j (hn ▸ hj))
theorem CtrO.weakJ2 {P : Program} {f : FuncId} {a b b' : D} {ow ow' : Ow} {d : D} (hC : CtrO P f [a, b'] ow d ow') (h : Weak b b') : CtrO P f [a, b] ow d ow' := hC.weakJ rfl fun j hj => match j, hj with
  | 0, _ => .refl _
  | 1, _ => h
def blV (m : List UInt8) (cs : List D) : Ow := [(3, .bld 110 (.gs 200 1 m.length (bytesF m))), (200, .row 5 1 m.length), (5, .var cs)]
theorem zfn {a m : List UInt8} {cs : List D} : ∀ k ∈ (bl a).map (·.1), k ∈ (blV m cs).map (·.1) := fun k hk => by
  have hk : k ∈ [3, 200] := hk
  show k ∈ [3, 200, 5]
  simp only [List.mem_cons, List.not_mem_nil, or_false] at hk ⊢
  omega
set_option maxRecDepth 100000 in
set_option maxHeartbeats 4000000 in
theorem zgt (k : Int) (b g : Bool) (d : List UInt8) (e : Int) (t : List UInt8) (l : List J) (ks : List (List UInt8)) (op en : List UInt8) (a : List UInt8) (dp : Nat) (mp : Bool) (hmp : mp = decide (k = 5))
    (hb : jbL l + txL ks ≤ 1000000) (hop : op.length ≤ 10) (hen : en.length ≤ 10) (ha : a.length ≤ 200000000000) (hr : l.all (rightJ dp) = true) (hks : mp = true → ks.length = l.length)
    (hp : ∀ i, i < l.length → ∀ a' : List UInt8, a'.length ≤ a.length + 10 + 1010 * (jbL l + txL ks) → CtrO Tryz.prog 66 [.pv 3 0, .ag (jP (l.getD i j0))] (bl a') (.tu []) (bl (a' ++ textJ (l.getD i j0)))) :
    CtrO Tryz.prog 100 [.pv 3 0, .ag [.i .i64 k, .b b, .b g, .s d, .i .i64 e, .s t, .sl 8 l.length (jG l), .sl 1 ks.length (txF ks)], .s op, .s en] (bl a) (.tu []) (bl (a ++ (op ++ partsT mp true l ks ++ en))) := by
  have hll : l.length ≤ 1000000 := by
    have := zjc l
    have := zbZ l
    omega
  have hkk : ∀ i, (ks.getD i []).length ≤ 1000000 := fun i => by
    have := znT (ks := ks) (i := i)
    omega
  have hpl := zgP (znf dp) l ks mp true hr
  have hpn : ∀ i, i ≤ l.length → (partN mp l ks i).length ≤ 1010 * (jbL l + txL ks) := fun i hi => by
    have h1 := ziJ mp l ks
    have mono : ∀ n i, i + n = l.length → (partN mp l ks i).length ≤ (partN mp l ks l.length).length := by
      intro n
      induction n with
      | zero => intro i h; rw [show i = l.length by omega]; exact Nat.le_refl _
      | succ n ih =>
        intro i h
        have h2 := ih (i + 1) (by omega)
        rw [zgr mp ks (show i < l.length by omega)] at h2
        simp only [List.length_append] at h2
        omega
    have := mono (l.length - i) i (by omega)
    rw [h1] at this
    omega
  have cO := zbr a op (by omega)
  have e0 : a ++ op = (a ++ op) ++ partN mp l ks 0 := by rw [zlW, List.append_nil]
  rw [e0] at cO
  clear e0
  refine zaK Tryz.func100 rfl Tryz.ntmps100 Tryz.results100 rfl rfl rfl rfl rfl fun X hL hX => ?_
  repeat' (first |with_reducible (first |refine zag ?_|refine zaa ?_|refine zaf ?_|refine zad ?_|refine zae ?_)|refine zab rfl rfl True.intro ?_|((first |refine zab rfl rfl ?_ ?_|refine zao rfl rfl ?_ ?_);focus (first |exact le_ rfl|((repeat' refine And.intro ?_ ?_)<;>omega)|((repeat' refine And.intro ?_ ?_)<;>first |rfl)))|refine zaC (f := 97) 3 200 rfl rfl Tryz.call97 rfl rfl rfl rfl rfl rfl rfl rfl rfl cO ?_|fail)
  refine T.loop hL (fun i : Nat => [(0, .pv 3 0), (3, .s en), (5, .pv 5 0), (14, .sl 8 l.length (jG l)), (15, .i .i64 l.length), (16, .i .i64 i)]) (fun i => blV ((a ++ op) ++ partN mp l ks i) [.i .i64 k, .b b, .b g, .s d, .i .i64 e, .s t, .sl 8 l.length (jG l), .sl 1 ks.length (txF ks)])
    (fun i => i ≤ l.length) (fun i => l.length - i) 0 (Nat.zero_le _)
    ⟨⟨rfl, rfl, rfl, rfl, rfl, rfl, trivial⟩, ⟨.inl rfl, rfl, rfl, trivial⟩, rfl, by rw [hX]; exact zfn⟩ ?_
  intro i hi
  have hbi := hpn i hi
  have hnat : (i : Int).toNat = i := Int.toNat_natCast i
  by_cases hil : i < l.length
  · have hbs := hpn (i + 1) hil
    have hs := zgr mp ks hil
    rw [hs] at hbs
    simp only [List.length_append] at hbs
    have hjp : jP (l.getD i j0) = jP (l.getD (i : Int).toNat j0) := by rw [hnat]
    cases mp with
    | true =>
      have hk5 : k = 5 := of_decide_eq_true hmp.symm
      have hik : i < ks.length := by have := hks rfl; omega
      have cQ := zhX (ks.getD (i : Int).toNat []) (by have := hkk (i : Int).toNat; omega)
      have hq : quoteL (ks.getD i []) = quoteL (ks.getD (i : Int).toNat []) := by rw [hnat]
      rw [if_pos rfl, hq] at hs hbs
      clear hq
      generalize quoteL (ks.getD (i : Int).toNat []) = Q at *
      simp only [List.length_append, List.length_cons, List.length_nil] at hbs
      by_cases h0 : i = 0
      · rw [if_pos h0] at hbs
        simp only [List.length_nil] at hbs
        have cK := zbr ((a ++ op) ++ partN true l ks i) (Q ++ [58]) (by simp only [List.length_append, List.length_cons, List.length_nil] at *; omega)
        have cP := hp i hil (((a ++ op) ++ partN true l ks i) ++ (Q ++ [58])) (by simp only [List.length_append, List.length_cons, List.length_nil] at *; omega)
        have eF : (((a ++ op) ++ partN true l ks i) ++ (Q ++ [58])) ++ textJ (l.getD i j0) = (a ++ op) ++ partN true l ks (i + 1) := by
          rw [hs, if_pos h0]
          simp only [List.append_assoc, List.append_nil]
        rw [eF] at cP
        have h0i : (i : Int) = 0 := by omega
        rw [hjp] at cP
        clear hs hp hpl hpn hkk hjp
        repeat' (first |refine zah (f := 99) rfl rfl Tryz.call99 rfl cQ ?_|refine zaC (f := 97) 3 200 rfl rfl Tryz.call97 rfl rfl rfl rfl rfl rfl rfl rfl rfl cK ?_|refine zaC (f := 66) 3 200 rfl rfl Tryz.call66 rfl rfl rfl rfl rfl rfl rfl rfl rfl cP ?_|with_reducible (first |refine zag ?_|refine zaa ?_|refine zaf ?_|refine zad ?_|refine zai ?_|refine zae ?_|refine zaq ?_)|refine zab rfl rfl True.intro ?_|((first |refine zac rfl ?_ ?_)<;>intro<;>try (first |(exfalso;omega)))|((first |refine zab rfl rfl ?_ ?_|refine zao rfl rfl ?_ ?_|refine zar rfl ?_ ?_);focus (first |(simp only [List.length_cons, List.length_nil];omega)|omega|exact le_ rfl|((repeat' refine And.intro ?_ ?_)<;>omega)|((repeat' refine And.intro ?_ ?_)<;>first |rfl|exact Nat.le_refl _)))|fail)
        all_goals exact ⟨i + 1, by omega, by omega, ⟨rfl, rfl, rfl, rfl, rfl, congrArg (D.i .i64) (by omega), trivial⟩, ⟨.inl rfl, rfl, rfl, trivial⟩, rfl, by rw [hX]; exact zfn⟩
      · rw [if_neg h0] at hbs
        simp only [List.length_cons, List.length_nil] at hbs
        have cC := zbr ((a ++ op) ++ partN true l ks i) [44] (by simp only [List.length_append, List.length_cons, List.length_nil] at *; omega)
        have cK := zbr (((a ++ op) ++ partN true l ks i) ++ [44]) (Q ++ [58]) (by simp only [List.length_append, List.length_cons, List.length_nil] at *; omega)
        have cP := hp i hil ((((a ++ op) ++ partN true l ks i) ++ [44]) ++ (Q ++ [58])) (by simp only [List.length_append, List.length_cons, List.length_nil] at *; omega)
        have eF : ((((a ++ op) ++ partN true l ks i) ++ [44]) ++ (Q ++ [58])) ++ textJ (l.getD i j0) = (a ++ op) ++ partN true l ks (i + 1) := by
          rw [hs, if_neg h0]
          simp only [List.append_assoc]
        rw [eF] at cP
        have h0i : 0 < (i : Int) := by omega
        rw [hjp] at cP
        clear hs hp hpl hpn hkk hjp
        repeat' (first |refine zaC (f := 97) 3 200 rfl rfl Tryz.call97 rfl rfl rfl rfl rfl rfl rfl rfl rfl cC ?_|refine zah (f := 99) rfl rfl Tryz.call99 rfl cQ ?_|refine zaC (f := 97) 3 200 rfl rfl Tryz.call97 rfl rfl rfl rfl rfl rfl rfl rfl rfl cK ?_|refine zaC (f := 66) 3 200 rfl rfl Tryz.call66 rfl rfl rfl rfl rfl rfl rfl rfl rfl cP ?_|with_reducible (first |refine zag ?_|refine zaa ?_|refine zaf ?_|refine zad ?_|refine zai ?_|refine zae ?_|refine zaq ?_)|refine zab rfl rfl True.intro ?_|((first |refine zac rfl ?_ ?_)<;>intro<;>try (first |(exfalso;omega)))|((first |refine zab rfl rfl ?_ ?_|refine zao rfl rfl ?_ ?_|refine zar rfl ?_ ?_);focus (first |(simp only [List.length_cons, List.length_nil];omega)|omega|exact le_ rfl|((repeat' refine And.intro ?_ ?_)<;>omega)|((repeat' refine And.intro ?_ ?_)<;>first |rfl|exact Nat.le_refl _)))|fail)
        all_goals exact ⟨i + 1, by omega, by omega, ⟨rfl, rfl, rfl, rfl, rfl, congrArg (D.i .i64) (by omega), trivial⟩, ⟨.inl rfl, rfl, rfl, trivial⟩, rfl, by rw [hX]; exact zfn⟩
    | false =>
      have hk5 : ¬ k = 5 := of_decide_eq_false hmp.symm
      rw [if_neg Bool.false_ne_true] at hs hbs
      simp only [List.length_nil] at hbs
      by_cases h0 : i = 0
      · rw [if_pos h0] at hbs
        simp only [List.length_nil] at hbs
        have cP := hp i hil ((a ++ op) ++ partN false l ks i) (by simp only [List.length_append] at *; omega)
        have eF : ((a ++ op) ++ partN false l ks i) ++ textJ (l.getD i j0) = (a ++ op) ++ partN false l ks (i + 1) := by
          rw [hs, if_pos h0]
          simp only [List.append_assoc, List.append_nil]
        rw [eF] at cP
        have h0i : (i : Int) = 0 := by omega
        rw [hjp] at cP
        clear hs hp hpl hpn hkk hjp
        repeat' (first |refine zaC (f := 66) 3 200 rfl rfl Tryz.call66 rfl rfl rfl rfl rfl rfl rfl rfl rfl cP ?_|with_reducible (first |refine zag ?_|refine zaa ?_|refine zaf ?_|refine zad ?_|refine zai ?_|refine zae ?_|refine zaq ?_)|refine zab rfl rfl True.intro ?_|((first |refine zac rfl ?_ ?_)<;>intro<;>try (first |(exfalso;omega)))|((first |refine zab rfl rfl ?_ ?_|refine zao rfl rfl ?_ ?_|refine zar rfl ?_ ?_);focus (first |omega|exact le_ rfl|((repeat' refine And.intro ?_ ?_)<;>omega)|((repeat' refine And.intro ?_ ?_)<;>first |rfl|exact Nat.le_refl _)))|fail)
        all_goals exact ⟨i + 1, by omega, by omega, ⟨rfl, rfl, rfl, rfl, rfl, congrArg (D.i .i64) (by omega), trivial⟩, ⟨.inl rfl, rfl, rfl, trivial⟩, rfl, by rw [hX]; exact zfn⟩
      · rw [if_neg h0] at hbs
        simp only [List.length_cons, List.length_nil] at hbs
        have cC := zbr ((a ++ op) ++ partN false l ks i) [44] (by simp only [List.length_append, List.length_cons, List.length_nil] at *; omega)
        have cP := hp i hil (((a ++ op) ++ partN false l ks i) ++ [44]) (by simp only [List.length_append, List.length_cons, List.length_nil] at *; omega)
        have eF : (((a ++ op) ++ partN false l ks i) ++ [44]) ++ textJ (l.getD i j0) = (a ++ op) ++ partN false l ks (i + 1) := by
          rw [hs, if_neg h0]
          simp only [List.append_assoc, List.append_nil]
        rw [eF] at cP
        have h0i : 0 < (i : Int) := by omega
        rw [hjp] at cP
        clear hs hp hpl hpn hkk hjp
        repeat' (first |refine zaC (f := 97) 3 200 rfl rfl Tryz.call97 rfl rfl rfl rfl rfl rfl rfl rfl rfl cC ?_|refine zaC (f := 66) 3 200 rfl rfl Tryz.call66 rfl rfl rfl rfl rfl rfl rfl rfl rfl cP ?_|with_reducible (first |refine zag ?_|refine zaa ?_|refine zaf ?_|refine zad ?_|refine zai ?_|refine zae ?_|refine zaq ?_)|refine zab rfl rfl True.intro ?_|((first |refine zac rfl ?_ ?_)<;>intro<;>try (first |(exfalso;omega)))|((first |refine zab rfl rfl ?_ ?_|refine zao rfl rfl ?_ ?_|refine zar rfl ?_ ?_);focus (first |omega|exact le_ rfl|((repeat' refine And.intro ?_ ?_)<;>omega)|((repeat' refine And.intro ?_ ?_)<;>first |rfl|exact Nat.le_refl _)))|fail)
        all_goals exact ⟨i + 1, by omega, by omega, ⟨rfl, rfl, rfl, rfl, rfl, congrArg (D.i .i64) (by omega), trivial⟩, ⟨.inl rfl, rfl, rfl, trivial⟩, rfl, by rw [hX]; exact zfn⟩
  · have hie : i = l.length := by omega
    have cE := zbr ((a ++ op) ++ partN mp l ks i) en (by simp only [List.length_append]; omega)
    have e1 : ((a ++ op) ++ partN mp l ks i) ++ en = a ++ (op ++ partsT mp true l ks ++ en) := by
      rw [hie, ziJ]
      simp only [List.append_assoc]
    rw [e1] at cE
    repeat' (first |with_reducible (first |refine zag ?_|refine zaa ?_|refine zaf ?_|refine zad ?_|refine zaz ?_|refine zaA ?_)|refine zab rfl rfl True.intro ?_|((first |refine zac rfl ?_ ?_)<;>intro<;>try (first |(exfalso;omega)))|refine zaJ rfl ?_|refine zcc rfl rfl ?_|refine zaC (f := 97) 3 200 rfl rfl Tryz.call97 rfl rfl rfl rfl rfl rfl rfl rfl rfl cE ?_|fail)
    all_goals exact ⟨⟨.inl rfl, rfl, trivial⟩⟩
set_option maxRecDepth 100000 in
set_option maxHeartbeats 4000000 in
theorem zpX : ∀ (dp : Nat) (x : J) (a : List UInt8), rightJ dp x = true → jb x ≤ 1000000 → a.length + 1020 * (dp * jb x) ≤ 200000000000 → CtrO Tryz.prog 66 [.pv 3 0, .ag (jP x)] (bl a) (.tu []) (bl (a ++ textJ x)) := by
  intro dp
  induction dp with
  | zero => intro x a h; cases h
  | succ dp ih =>
    intro x a h hb ha
    refine CtrO.weakJ2 ?_ (zme x)
    have he := zqN x
    obtain ⟨k, b, g, d, e, t, l, ks⟩ := x
    replace he : jb (.mk k b g d e t l ks) = 1 + d.length + t.length + jbL l + txL ks := he
    have hm : (dp + 1) * jb (.mk k b g d e t l ks) = dp * jb (.mk k b g d e t l ks) + jb (.mk k b g d e t l ks) := Nat.succ_mul _ _
    have hp : l.all (rightJ dp) = true → ∀ i, i < l.length → ∀ a' : List UInt8, a'.length ≤ a.length + 10 + 1010 * (jbL l + txL ks) → CtrO Tryz.prog 66 [.pv 3 0, .ag (jP (l.getD i j0))] (bl a') (.tu []) (bl (a' ++ textJ (l.getD i j0))) := fun hr i hi a' h' => by
      have h1 := znD hi
      have h2 : dp * jb (l.getD i j0) ≤ dp * jb (.mk k b g d e t l ks) := Nat.mul_le_mul_left _ (by omega)
      refine ih _ a' ?_ (by omega) (by omega)
      rw [show l.getD i j0 = l[i] by simp [List.getD_eq_getElem?_getD, hi]]
      exact List.all_eq_true.1 hr _ (List.getElem_mem hi)
    clear ih
    rw [textJ]
    rw [zhu] at h
    show CtrO Tryz.prog 66 [.pv 3 0, .ag [.i .i64 k, .b b, .b g, .s d, .i .i64 e, .s t, .sl 8 l.length (jG l), .sl 1 ks.length (txF ks)]] _ _ _
    by_cases k0 : k = 0
    · rw [if_pos k0]
      have cW := zbr a nullW (by show a.length + 4 ≤ _; omega)
      generalize a ++ nullW = M at *
      refine zaK Tryz.func66 rfl Tryz.ntmps66 Tryz.results66 rfl rfl rfl rfl rfl fun X hL hX => ?_
      repeat' (first |refine zcP 60 rfl rfl rfl rfl rfl ?_|with_reducible (first |refine zag ?_|refine zaa ?_|refine zaf ?_|refine zad ?_|refine zae ?_|refine zaq ?_)|refine zab rfl rfl True.intro ?_|((first |refine zac rfl ?_ ?_)<;>intro<;>try (first |(exfalso;omega)))|((first |refine zab rfl rfl ?_ ?_);focus (first |exact le_ rfl|((repeat' refine And.intro ?_ ?_)<;>omega)))|refine zcc rfl rfl ?_|refine zaC (f := 97) 3 200 rfl rfl Tryz.call97 rfl rfl rfl rfl rfl rfl rfl rfl rfl cW ?_|fail)
      all_goals exact ⟨⟨.inl rfl, rfl, trivial⟩⟩
    rw [if_neg k0]
    by_cases k1 : k = 1
    · rw [if_pos k1]
      cases b with
      | true =>
        rw [if_pos rfl]
        have cW := zbr a trueW (by show a.length + 4 ≤ _; omega)
        generalize a ++ trueW = M at *
        refine zaK Tryz.func66 rfl Tryz.ntmps66 Tryz.results66 rfl rfl rfl rfl rfl fun X hL hX => ?_
        repeat' (first |refine zcP 60 rfl rfl rfl rfl rfl ?_|with_reducible (first |refine zag ?_|refine zaa ?_|refine zaf ?_|refine zad ?_|refine zae ?_|refine zaq ?_)|refine zab rfl rfl True.intro ?_|refine zas rfl ?_|((first |refine zac rfl ?_ ?_)<;>intro<;>try (first |(exfalso;omega)))|((first |refine zab rfl rfl ?_ ?_);focus (first |exact le_ rfl|((repeat' refine And.intro ?_ ?_)<;>omega)))|refine zcc rfl rfl ?_|refine zaC (f := 97) 3 200 rfl rfl Tryz.call97 rfl rfl rfl rfl rfl rfl rfl rfl rfl cW ?_|fail)
        all_goals exact ⟨⟨.inl rfl, rfl, trivial⟩⟩
      | false =>
        rw [if_neg Bool.false_ne_true]
        have cW := zbr a falseW (by show a.length + 5 ≤ _; omega)
        generalize a ++ falseW = M at *
        refine zaK Tryz.func66 rfl Tryz.ntmps66 Tryz.results66 rfl rfl rfl rfl rfl fun X hL hX => ?_
        repeat' (first |refine zcP 60 rfl rfl rfl rfl rfl ?_|with_reducible (first |refine zag ?_|refine zaa ?_|refine zaf ?_|refine zad ?_|refine zae ?_|refine zaq ?_)|refine zab rfl rfl True.intro ?_|refine zak rfl ?_|((first |refine zac rfl ?_ ?_)<;>intro<;>try (first |(exfalso;omega)))|((first |refine zab rfl rfl ?_ ?_);focus (first |exact le_ rfl|((repeat' refine And.intro ?_ ?_)<;>omega)))|refine zcc rfl rfl ?_|refine zaC (f := 97) 3 200 rfl rfl Tryz.call97 rfl rfl rfl rfl rfl rfl rfl rfl rfl cW ?_|fail)
        all_goals exact ⟨⟨.inl rfl, rfl, trivial⟩⟩
    rw [if_neg k1]
    rw [if_neg (fun q => q.elim k0 k1)] at h
    by_cases k2 : k = 2
    · rw [if_pos k2] at h ⊢
      have hlt := zhM (zgQ h)
      have cT := zqa g d e (by omega)
      have cW := zbr a (textF g d e) (by omega)
      generalize a ++ textF g d e = M at *
      generalize textF g d e = R at *
      refine zaK Tryz.func66 rfl Tryz.ntmps66 Tryz.results66 rfl rfl rfl rfl rfl fun X hL hX => ?_
      repeat' (first |refine zcP 60 rfl rfl rfl rfl rfl ?_|refine zah (f := 98) rfl rfl Tryz.call98 rfl cT ?_|with_reducible (first |refine zag ?_|refine zaa ?_|refine zaf ?_|refine zad ?_|refine zae ?_|refine zaq ?_)|refine zab rfl rfl True.intro ?_|((first |refine zac rfl ?_ ?_)<;>intro<;>try (first |(exfalso;omega)))|((first |refine zab rfl rfl ?_ ?_);focus (first |exact le_ rfl|((repeat' refine And.intro ?_ ?_)<;>omega)))|refine zcc rfl rfl ?_|refine zaC (f := 97) 3 200 rfl rfl Tryz.call97 rfl rfl rfl rfl rfl rfl rfl rfl rfl cW ?_|fail)
      all_goals exact ⟨⟨.inl rfl, rfl, trivial⟩⟩
    rw [if_neg k2] at h ⊢
    by_cases k3 : k = 3
    · rw [if_pos k3] at h ⊢
      have hlt := zhG t
      have cT := zhX t (by omega)
      have cW := zbr a (quoteL t) (by omega)
      generalize a ++ quoteL t = M at *
      generalize quoteL t = R at *
      refine zaK Tryz.func66 rfl Tryz.ntmps66 Tryz.results66 rfl rfl rfl rfl rfl fun X hL hX => ?_
      repeat' (first |refine zcP 60 rfl rfl rfl rfl rfl ?_|refine zah (f := 99) rfl rfl Tryz.call99 rfl cT ?_|with_reducible (first |refine zag ?_|refine zaa ?_|refine zaf ?_|refine zad ?_|refine zae ?_|refine zaq ?_)|refine zab rfl rfl True.intro ?_|((first |refine zac rfl ?_ ?_)<;>intro<;>try (first |(exfalso;omega)))|((first |refine zab rfl rfl ?_ ?_);focus (first |exact le_ rfl|((repeat' refine And.intro ?_ ?_)<;>omega)))|refine zcc rfl rfl ?_|refine zaC (f := 97) 3 200 rfl rfl Tryz.call97 rfl rfl rfl rfl rfl rfl rfl rfl rfl cW ?_|fail)
      all_goals exact ⟨⟨.inl rfl, rfl, trivial⟩⟩
    rw [if_neg k3] at h ⊢
    by_cases k4 : k = 4
    · rw [if_pos k4]
      rw [if_neg (by omega), if_pos k4] at h
      have cP := zgt k b g d e t l ks [91] [93] a dp false (decide_eq_false (by omega)).symm (by omega) (by decide) (by decide) (by omega) h (fun q => by cases q) (hp h)
      generalize a ++ ([91] ++ partsT false true l ks ++ [93]) = M at *
      clear hp
      refine zaK Tryz.func66 rfl Tryz.ntmps66 Tryz.results66 rfl rfl rfl rfl rfl fun X hL hX => ?_
      repeat' (first |refine zcP 60 rfl rfl rfl rfl rfl ?_|with_reducible (first |refine zag ?_|refine zaa ?_|refine zaf ?_|refine zad ?_|refine zae ?_|refine zaq ?_)|refine zab rfl rfl True.intro ?_|((first |refine zac rfl ?_ ?_)<;>intro<;>try (first |(exfalso;omega)))|((first |refine zab rfl rfl ?_ ?_);focus (first |exact le_ rfl|((repeat' refine And.intro ?_ ?_)<;>omega)))|refine zcc rfl rfl ?_|refine zaC (f := 100) 3 200 rfl rfl Tryz.call100 rfl rfl rfl rfl rfl rfl rfl rfl rfl cP ?_|fail)
      all_goals exact ⟨⟨.inl rfl, rfl, trivial⟩⟩
    rw [if_neg k4] at h ⊢
    by_cases k5 : k = 5
    · rw [if_pos k5, Bool.and_eq_true, Bool.and_eq_true, decide_eq_true_eq] at h
      have cP := zgt k b g d e t l ks [123] [125] a dp (decide (k = 5)) rfl (by omega) (by decide) (by decide) (by omega) h.2 (fun _ => h.1.2) (hp h.2)
      generalize a ++ ([123] ++ partsT (decide (k = 5)) true l ks ++ [125]) = M at *
      clear hp
      refine zaK Tryz.func66 rfl Tryz.ntmps66 Tryz.results66 rfl rfl rfl rfl rfl fun X hL hX => ?_
      repeat' (first |refine zcP 60 rfl rfl rfl rfl rfl ?_|with_reducible (first |refine zag ?_|refine zaa ?_|refine zaf ?_|refine zad ?_|refine zae ?_|refine zaq ?_)|refine zab rfl rfl True.intro ?_|((first |refine zac rfl ?_ ?_)<;>intro<;>try (first |(exfalso;omega)))|((first |refine zab rfl rfl ?_ ?_);focus (first |exact le_ rfl|((repeat' refine And.intro ?_ ?_)<;>omega)))|refine zcc rfl rfl ?_|refine zaC (f := 100) 3 200 rfl rfl Tryz.call100 rfl rfl rfl rfl rfl rfl rfl rfl rfl cP ?_|fail)
      all_goals exact ⟨⟨.inl rfl, rfl, trivial⟩⟩
    · rw [if_neg k5] at h
      cases h
theorem zpg {dp : Nat} {x : J} (h : rightJ dp x = true) : 0 < (textJ x).length := by
  obtain ⟨c, r, h1, _⟩ := zmt h
  rw [h1]
  exact Nat.succ_pos _
set_option maxRecDepth 100000 in
set_option maxHeartbeats 1000000 in
theorem zlS (x : J) (hb : jb x ≤ 1000000) : Ctr Tryz.prog 36 [.ag (jP x)] (.s (if rightJ 64 x = true then textJ x else [])) := by
  have cR := zjP x (by omega)
  cases hr : rightJ 64 x with
  | false =>
    rw [hr] at cR
    rw [if_neg Bool.false_ne_true]
    refine zay Tryz.func36 rfl Tryz.ntmps36 Tryz.results36 rfl rfl fun X hL hX => ?_
    repeat' (first |refine zah (f := 65) rfl rfl Tryz.call65 rfl cR ?_|with_reducible (first |refine zag ?_|refine zaa ?_|refine zaf ?_|refine zad ?_|refine zaj ?_|refine zal ?_)|refine zab rfl rfl True.intro ?_|refine zas rfl ?_|((first |refine zab rfl rfl ?_ ?_|refine zao rfl rfl ?_ ?_);focus (first |exact le_ rfl|((repeat' refine And.intro ?_ ?_)<;>omega)|((repeat' refine And.intro ?_ ?_)<;>first |rfl)))|refine zaw rfl ?_|fail)
    all_goals rfl
  | true =>
    rw [hr] at cR
    rw [if_pos rfl]
    have hl := znf 64 x hr
    have hp := zpg hr
    have cP := zpX 64 x [] hr hb (by simp only [List.length_nil]; omega)
    rw [List.nil_append] at cP
    have cS := zlk (textJ x) hp (by omega)
    generalize textJ x = R at *
    refine zay Tryz.func36 rfl Tryz.ntmps36 Tryz.results36 rfl rfl fun X hL hX => ?_
    repeat' (first |refine r_bld rfl rfl rfl ?_|refine zah (f := 65) rfl rfl Tryz.call65 rfl cR ?_|refine T.adoptB 3 200 5 110 (bytesF []) rfl rfl ?_|with_reducible (first |refine zag ?_|refine zaa ?_|refine zaf ?_|refine zad ?_|refine zaj ?_|refine zai ?_)|refine zab rfl rfl True.intro ?_|refine zak rfl ?_|((first |refine zab rfl rfl ?_ ?_|refine zao rfl rfl ?_ ?_);focus (first |exact le_ rfl|((repeat' refine And.intro ?_ ?_)<;>omega)|((repeat' refine And.intro ?_ ?_)<;>first |rfl)))|refine zaw rfl ?_|refine zaC (f := 66) 3 200 rfl rfl Tryz.call66 rfl rfl rfl rfl rfl rfl rfl rfl rfl cP ?_|refine zaC (f := 67) 3 200 rfl rfl Tryz.call67 rfl rfl rfl rfl rfl rfl rfl rfl rfl cS ?_|fail)
    all_goals rfl
end Go.Proofs.YtcajofhafpkbdaaGreatDoor.Flow
