/- The texts RFlowS, RFlowW, RFlowX, RFlowY, RFlowZ, RFlowPd, one behind the other. -/
import Derived.Test.YtbegohehjkjnmaaDoorMR9
import Derived.Test.YtbegohehjkjnmaaDoorMR14
import Derived.Lib.OthersKept
import Derived.MapKept
import Derived.LaidEqlPtr
import Derived.Recover
namespace Go.Proofs.YtbegohehjkjnmaaDoor.Flow
open Go

theorem Chg.setObj (w : World) (S : Cells) (b : Nat) (x : Obj) (hS : ∀ o, ¬ S b o) : Chg w { w with heap := w.heap.setIfInBounds b x } S (some b) where
  os := rfl
  tape := rfl
  output := rfl
  size := by simp
  block := fun k _ hne => by
    have : b ≠ k := fun e => hne (by rw [e])
    simp [this]
  cell := fun b' o hb => by
    have : b ≠ b' := fun e => hS o (by rw [e]; exact hb)
    have e : ({ w with heap := w.heap.setIfInBounds b x } : World).heap[b']? = w.heap[b']? := by simp [this]
    exact World.cell?_of_block e

section
variable {P : Program} {X : Ctx} {n : Nat} {O : Nat → Option Own}

theorem newOb_ok {w : World} {S : Cells} {r : Rho} (x : Obj) (hH : Hist X w S) (hI : Inv X w S r O) {k : Nat} (hk : O k = none) :
    ∃ r', Rel S (w.alloc x) r' (.pv k 0) (.pointer (some ⟨w.heap.size, 0, none⟩)) ∧ Hist X (w.alloc x) S ∧ Inv X (w.alloc x) S r' (updO O [(k, .ob x)]) ∧
      (∀ b o, S b o → (w.alloc x).cell? ⟨b, o, none⟩ = w.cell? ⟨b, o, none⟩) ∧ RhoLe r r' := by
  have hc := Chg.alloc w S hH.valid x
  have hr : RhoLe r (updR r k (.blk w.heap.size)) := RhoLe.new (hI.dom k hk)
  have hk0 : updR r k (.blk w.heap.size) k = some (.blk w.heap.size) := by simp [updR]
  refine ⟨updR r k (.blk w.heap.size), .pv _ k 0 _ hk0, ?_, ?_, hc.cell, hr⟩
  · exact hH.chg hc (fun b hb => by cases hb) (fun _ _ h => h) (fun b o h => .inl h)
  · refine hI.put hc (fun _ _ h => h) hr k _ (.blk w.heap.size) ?_ hk0 (fun j hj => by simp [updR, hj]) (fun b hb => ?_) (fun b hb => by cases hb) (fun b o h => .inl h)
    · exact ⟨w.heap.size, hk0, heap_alloc_new w _, fun o ho => by have := hH.valid _ _ ho; omega⟩
    · simp only [Loc.block, Option.some.injEq] at hb
      subst hb
      exact .inl ⟨Nat.le_refl _, .inl hH.size⟩

theorem setOb_ok {w : World} {S : Cells} {r : Rho} {x : Obj} {b : Nat} (y : Obj) (hH : Hist X w S) (hI : Inv X w S r O) {k : Nat} (hk : O k = some (.ob x)) (hb : r k = some (.blk b)) :
    Hist X { w with heap := w.heap.setIfInBounds b y } S ∧ Inv X { w with heap := w.heap.setIfInBounds b y } S r (updO O [(k, .ob y)]) ∧
      (∀ b' o, S b' o → ({ w with heap := w.heap.setIfInBounds b y } : World).cell? ⟨b', o, none⟩ = w.cell? ⟨b', o, none⟩) := by
  obtain ⟨b', h1, h2, h3⟩ := hI.obj k _ hk
  rw [hb] at h1
  cases h1
  have hc := Chg.setObj w S b y h3
  have hlow := hI.low k _ b hb rfl
  refine ⟨?_, ?_, hc.cell⟩
  · exact hH.chg hc (fun b' hb' => by cases hb'; exact hlow) (fun _ _ h => h) (fun b o h => .inl h)
  · refine hI.put hc (fun _ _ h => h) (RhoLe.refl r) k _ (.blk b) ?_ hb (fun _ _ => rfl) (fun b' hb' => .inr ⟨_, hb, hb'⟩) (fun b' hb' => ⟨_, hb, hb'⟩) (fun b o h => .inl h)
    have hlt := (Array.getElem?_eq_some_iff.1 h2).1
    exact ⟨b, hb, by simp [hlt], h3⟩

variable {o : Oper} {fr : Fr} {ow : Ow} {t k pos : Nat} {ty : TypeId} {x : Operand} {l : List UInt8}

end

section
variable {X : Ctx} {n : Nat} {all rest : List Oper} {fr : Fr} {ow : Ow} {tr : List (List Nat × List Nat)} {K : Fr → Ow → List (List Nat × List Nat) → Prop}
variable {t k pos : Nat} {ty ty' : TypeId} {ps : String} {af : Array Edge} {x : Operand} {l : List UInt8}

end

section
variable {P : Program} {X : Ctx} {n : Nat} {O : Nat → Option Own}

variable {o : Oper} {fr : Fr} {ow : Ow} {t k : Nat} {ty : TypeId} {x : Operand}

end

section
variable {X : Ctx} {n : Nat} {all rest : List Oper} {fr : Fr} {ow : Ow} {tr : List (List Nat × List Nat)} {K : Fr → Ow → List (List Nat × List Nat) → Prop}
variable {t k : Nat} {ty ty' : TypeId} {ps : String} {af : Array Edge} {x : Operand}

end

theorem var_step {P : Program} {X : Ctx} {n : Nat} {o : Oper} {fr : Fr} {ow : Ow} {ty : TypeId} {k : Nat} {B' : Tb} {zd : D} (hB : tb P = B') (ho : o.op = .alloc ty) (hz : B'.zr ty = some zd) (hs : zd.solid = true) (h1 : zd.cells.all D.one = true) (hk : look k ow = none) (hd : dstOk o.dst n) :
    ∀ F' O', (∀ y ∈ o.op.operands.toList, evF F' y = evF (fF fr) y) → (∀ j ∈ [k], O' j = fO ow j) → StepAt P X n o F' O' (.pv k 0) [(k, .var zd.cells)] := by
  intro F' O' he hO
  have hz' : zeroD P ty = some zd := by subst hB; exact hz
  obtain ⟨i, zv, g1, g2, g3⟩ := zeroD_spec hz'
  refine stepAt_of hd fun a w S r hH hI hr => ?_
  have hk' : O' k = none := (hO k (by simp)).trans hk
  have hv := ofVal_rel S w r zv
  rw [← g3] at hv
  obtain ⟨S', r', q1, q2, q3, q4, q5, q6⟩ := box_ok ty hH hI hv hs h1 hk'
  refine ⟨_, _, S', r', .inl ?_, q1, q2, q3, q4, q5, q6⟩
  simp [execOp, ho, Instr.alloc, zeroValue, typeInfo, g1, g2, newVar, newRow]

section
variable {X : Ctx} {n : Nat} {all rest : List Oper} {fr : Fr} {ow : Ow} {tr : List (List Nat × List Nat)} {K : Fr → Ow → List (List Nat × List Nat) → Prop}
variable {t k : Nat} {op : Op} {ty ty' : TypeId} {ps : String} {af : Array Edge} {d : D} {f : FuncId} {args : List D} {g u : Nat} {want : Bool}

theorem var_aux {zd : D} (k : Nat) (o : Oper) (ho : o.op = .alloc ty) (hg : o.guard = none) (hds : o.dst = some t) (hz : B.zr ty = some zd) (hs : zd.solid = true) (h1 : zd.cells.all D.one = true) (hk : look k ow = none) (hn : Nat.blt t n = true)
    (h : CT Tryd.prog X n all rest ((t, .pv k 0) :: fr) ((k, .var zd.cells) :: ow) (tr ++ [([k], [k])]) K) : CT Tryd.prog X n all (o :: rest) fr ow tr K := by
  have e := tb_eq
  have h1' := @var_step Tryd.prog X n o fr ow ty k B zd e ho hz hs h1 hk (by rw [hds]; exact Nat.le_of_ble_eq_true hn)
  refine CT.cons (e := ⟨.pv k 0, [k], [(k, .var zd.cells)]⟩) (.plain hg h1') ?_ (fO_cons ..) h
  rw [hds]
  exact fF_cons ..

theorem r_varAt {zd : D} (k : Nat) (hz : B.zr ty = some zd) (hs : zd.solid = true) (h1 : zd.cells.all D.one = true) (hk : look k ow = none) (hn : Nat.blt t n = true)
    (h : CT Tryd.prog X n all rest ((t, .pv k 0) :: fr) ((k, .var zd.cells) :: ow) (tr ++ [([k], [k])]) K) : CT Tryd.prog X n all (⟨some t, .alloc ty, ty', ps, af, none⟩ :: rest) fr ow tr K := by
  generalize ho : (⟨some t, .alloc ty, ty', ps, af, none⟩ : Oper) = o
  exact var_aux k o (by rw [← ho]) (by rw [← ho]) (by rw [← ho]) hz hs h1 hk hn h
end

abbrev Ents := List (List UInt8 × D)

def mget (key : List UInt8) : Ents → Option D
  | [] => none
  | p :: r => if p.1 = key then some p.2 else mget key r
def mput (key : List UInt8) (d : D) : Ents → Ents
  | [] => [(key, d)]
  | p :: r => if p.1 = key then (key, d) :: r else p :: mput key d r
def mdel (key : List UInt8) : Ents → Ents
  | [] => []
  | p :: r => if p.1 = key then r else p :: mdel key r
def mpos (key : List UInt8) : Ents → Nat
  | [] => 0
  | p :: r => if p.1 = key then 0 else mpos key r + 1

def KeysOk : Ents → List MapEntry → Prop
  | [], [] => True
  | p :: r, e :: l => e.key = .string ⟨p.1.toArray⟩ ∧ KeysOk r l
  | _, _ => False

theorem keys_of : ∀ {es : Ents} {l : List MapEntry}, l.length = es.length → (∀ j, j < es.length → (l.getD j default).key = .string ⟨(es.getD j ([], .any)).1.toArray⟩) → KeysOk es l
  | [], [], _, _ => trivial
  | [], _ :: _, h, _ => by simp at h
  | _ :: _, [], h, _ => by simp at h
  | p :: r, e :: l, hn, h => ⟨h 0 (by simp), keys_of (by simpa using hn) fun j hj => by
      have := h (j + 1) (by simpa using hj)
      simpa using this⟩

section
variable {P : Program} {X : Ctx} {n : Nat} {O : Nat → Option Own} {w : World} {S : Cells} {r : Rho}

theorem mp_keys {k : Nat} {es : Ents} (h : ObjOk S w r k (.mp es)) : ∃ b arr clock, r k = some (.blk b) ∧ w.heap[b]? = some (.map arr clock) ∧ KeysOk es arr.toList ∧ arr.size = es.length ∧ (∀ j, j < es.length → EntOk S w r (es.getD j ([], .any)) (arr.getD j default)) ∧ BornOk arr clock ∧ ∀ o, ¬ S b o := by
  obtain ⟨b, arr, clock, h1, h2, h3, h4, h5, h6⟩ := h
  refine ⟨b, arr, clock, h1, h2, keys_of (by simpa using h3) (fun j hj => ?_), h3, h4, h5, h6⟩
  have := (h4 j hj).1
  simpa [List.getD_eq_getElem?_getD, Array.getD_eq_getD_getElem?] using this

theorem setMp_ok {es es2 : Ents} {arr arr2 : Array MapEntry} {clock clock2 b : Nat} (hH : Hist X w S) (hI : Inv X w S r O) {k : Nat} (_hk : O k = some (.mp es)) (hb : r k = some (.blk b)) (hw : w.heap[b]? = some (.map arr clock)) (hS : ∀ o, ¬ S b o)
    (hn : arr2.size = es2.length) (he : ∀ j, j < es2.length → EntOk S w r (es2.getD j ([], .any)) (arr2.getD j default)) (hbo : BornOk arr2 clock2) :
    Hist X { w with heap := w.heap.setIfInBounds b (.map arr2 clock2) } S ∧ Inv X { w with heap := w.heap.setIfInBounds b (.map arr2 clock2) } S r (updO O [(k, .mp es2)]) ∧
      (∀ b' o, S b' o → ({ w with heap := w.heap.setIfInBounds b (.map arr2 clock2) } : World).cell? ⟨b', o, none⟩ = w.cell? ⟨b', o, none⟩) := by
  have hc := Chg.setObj w S b (.map arr2 clock2) hS
  have hlow := hI.low k _ b hb rfl
  refine ⟨?_, ?_, hc.cell⟩
  · exact hH.chg hc (fun b' hb' => by cases hb'; exact hlow) (fun _ _ h => h) (fun b o h => .inl h)
  · refine hI.put hc (fun _ _ h => h) (RhoLe.refl r) k _ (.blk b) ?_ hb (fun _ _ => rfl) (fun b' hb' => .inr ⟨_, hb, hb'⟩) (fun b' hb' => ⟨_, hb, hb'⟩) (fun b o h => .inl h)
    have hlt := (Array.getElem?_eq_some_iff.1 hw).1
    exact ⟨b, arr2, clock2, hb, by simp [hlt], hn, fun j hj => ⟨(he j hj).1, (he j hj).2.1.mono (fun _ _ h => h) hc.cell r (RhoLe.refl r), (he j hj).2.2⟩, hbo, hS⟩

variable {o : Oper} {fr : Fr} {ow : Ow} {t k : Nat} {ty kt et : TypeId} {x y z : Operand} {es : Ents} {key : List UInt8}

def gotD (ok : Bool) (d : D) (c : Bool) : D :=
  match c with
  | true => .tu [d, .b ok]
  | false => d

theorem mclr_step (hm : P.underlying ty = some (.map kt et)) (ho : o.op = .call ⟨.builtin .clear, #[x], #[ty]⟩) (hx : ev fr x = .mh k) (hk : look k ow = some (.mp es)) (hd : dstOk o.dst n) :
    ∀ F' O', (∀ y ∈ o.op.operands.toList, evF F' y = evF (fF fr) y) → (∀ j ∈ [k], O' j = fO ow j) → StepAt P X n o F' O' (.tu []) [(k, .mp [])] := by
  intro F' O' he hO
  refine stepAt_of hd fun a w S r hH hI hr => ?_
  have hx' := hr x
  rw [he x (by simp [ho, Op.operands, Call.operands]), evF_fF, hx] at hx'
  have hkO := (hO k (by simp)).trans hk
  obtain ⟨b, arr, clock, h1, h2, h3, h4, h5, h6, h7⟩ := mp_keys (hI.obj k _ hkO)
  generalize hvx : a.eval x = vx at hx'
  cases hx' with
  | mh _ _ b' hb' =>
    rw [h1] at hb'
    cases hb'
    obtain ⟨g1, g2, g3⟩ := setMp_ok (es2 := []) (arr2 := #[]) (clock2 := clock) hH hI hkO h1 h2 h7 rfl (fun j hj => by simp at hj) ⟨fun i j _ h => by simp at h, fun i h => by simp at h⟩
    refine ⟨.tuple #[], _, S, r, .inl ?_, .tu _ _ _ rfl (fun j hj => by simp at hj), g1, g2, fun _ _ h => h, g3, RhoLe.refl r⟩
    simp [execOp, ho, resolve, invoke, builtin, hvx, Builtin.clear_, run_underlying hm, MapKept.run_getObj_map h2, MapKept.run_setObj_map _ h2, Result.andThen]

end

section
variable {X : Ctx} {n : Nat} {all rest : List Oper} {fr : Fr} {ow : Ow} {tr : List (List Nat × List Nat)} {K : Fr → Ow → List (List Nat × List Nat) → Prop}
variable {t k : Nat} {ty ty' kt et t2 : TypeId} {ps : String} {af : Array Edge} {x y z : Operand} {es : Ents} {key : List UInt8} {d : D} {c : Bool} {g u : Nat} {want : Bool}

set_option maxRecDepth 100000 in
theorem r_mclr (hm : Tryd.prog.underlying ty = some (.map kt et)) (hx : ev fr x = .mh k) (hk : look k ow = some (.mp es)) (hn : Nat.blt t n = true)
    (h : CT Tryd.prog X n all rest ((t, .tu []) :: fr) ((k, .mp []) :: ow) (tr ++ [([k], [k])]) K) : CT Tryd.prog X n all (⟨some t, .call ⟨.builtin .clear, #[x], #[ty]⟩, ty', ps, af, none⟩ :: rest) fr ow tr K :=
  CT.cons (e := ⟨.tu [], [k], [(k, .mp [])]⟩) (.plain rfl (mclr_step (o := ⟨some t, .call ⟨.builtin .clear, #[x], #[ty]⟩, ty', ps, af, none⟩) hm rfl hx hk (show t < n by simpa using hn))) (fF_cons ..) (fO_cons ..) h
end

section
variable {P : Program} {X : Ctx} {n : Nat} {o : Oper} {fr : Fr} {ow : Ow} {k k' : Nat} {ty ty2 : TypeId} {x y : Operand} {cs cs' : List D}

theorem ptr_run {w : World} {tp te : TypeId} {j : TypeInfo} {a b : Addr} (hp : P.underlying tp = some (.pointer te)) (hte : P.info? te = some j) (hsz : j.size ≠ 0)
    (h : a = b ∨ (a ≠ b ∧ (∃ ca ta, w.heap[a.block]? = some (.cells ca ta (0, 0))) ∧ ∃ cb tb, w.heap[b.block]? = some (.cells cb tb (0, 0)))) (d : Nat) :
    (Op.equalIn (d + 1) tp (.pointer (some a)) (.pointer (some b))).run P w = .ok (decide (a = b)) w := by
  rcases h with rfl | ⟨hne, ⟨ca, ta, ha⟩, cb, tb, hb⟩
  · simp [Op.equalIn, run_underlying hp, sizeOf, typeInfo, hte, run_sameAddr_same]
  · simp [Op.equalIn, run_underlying hp, sizeOf, typeInfo, hte, hsz, run_sameAddr_other w hne ha hb, hne]

theorem peq_step {te : TypeId} {j : TypeInfo} {neg : Bool} (hp : P.underlying ty = some (.pointer te)) (hte : P.info? te = some j) (hsz : j.size ≠ 0) (ho : o.op = .binOp (if neg then .neq else .eql) ty x y ty2) (hx : ev fr x = .pv k 0) (hy : ev fr y = .pv k' 0)
    (hk : look k ow = some (.var cs)) (hk' : look k' ow = some (.var cs')) (hd : dstOk o.dst n) :
    ∀ F' O', (∀ y ∈ o.op.operands.toList, evF F' y = evF (fF fr) y) → (∀ j ∈ [k, k'], O' j = fO ow j) → StepAt P X n o F' O' (.b (if neg then !decide (k = k') else decide (k = k'))) [] := by
  intro F' O' he hO
  refine stepAt_of hd fun a w S r hH hI hr => ?_
  have hx' := hr x
  rw [he x (by simp [ho, Op.operands]), evF_fF, hx] at hx'
  have hy' := hr y
  rw [he y (by simp [ho, Op.operands]), evF_fF, hy] at hy'
  obtain ⟨b, cur, e, h1, h2, _⟩ := hI.obj k _ ((hO k (by simp)).trans hk)
  obtain ⟨b', cur', e', h1', h2', _⟩ := hI.obj k' _ ((hO k' (by simp)).trans hk')
  generalize hvx : a.eval x = vx at hx'
  generalize hvy : a.eval y = vy at hy'
  cases hx' with
  | pv _ _ _ q hq =>
  cases hy' with
  | pv _ _ _ q' hq' =>
    rw [h1] at hq
    cases hq
    rw [h1'] at hq'
    cases hq'
    have hbb : decide (k = k') = decide ((⟨b, 0, none⟩ : Addr) = ⟨b', 0, none⟩) := by
      by_cases h : k = k'
      · subst h
        rw [h1] at h1'
        cases h1'
        simp
      · have := hI.apart k k' _ _ b h h1 h1' rfl
        have hne : b ≠ b' := fun e => this (by rw [e]; rfl)
        rw [decide_eq_false h, decide_eq_false (fun e => hne (by cases e; rfl))]
    have hrun := ptr_run (P := P) (w := w) (a := ⟨b, 0, none⟩) (b := ⟨b', 0, none⟩) hp hte hsz (by
      by_cases h : (⟨b, 0, none⟩ : Addr) = ⟨b', 0, none⟩
      · exact .inl h
      · exact .inr ⟨h, ⟨_, _, h2⟩, _, _, h2'⟩) 9999
    rw [hbb]
    cases neg with
    | false =>
      refine fin_value hH hI rfl ?_ (show Rel S w r (.b (decide ((⟨b, 0, none⟩ : Addr) = ⟨b', 0, none⟩))) (.bool _) from .b ..)
      have e1 : binOp .eql ty (.pointer (some ⟨b, 0, none⟩)) (.pointer (some ⟨b', 0, none⟩)) = (do pure (.bool (← Op.equalIn (9999 + 1) ty (.pointer (some ⟨b, 0, none⟩)) (.pointer (some ⟨b', 0, none⟩))))) := rfl
      simp [execOp, ho, hvx, hvy, eqGuard, e1, hrun, Result.andThen]
    | true =>
      refine fin_value hH hI rfl ?_ (show Rel S w r (.b (!decide ((⟨b, 0, none⟩ : Addr) = ⟨b', 0, none⟩))) (.bool _) from .b ..)
      have e1 : binOp .neq ty (.pointer (some ⟨b, 0, none⟩)) (.pointer (some ⟨b', 0, none⟩)) = (do pure (.bool (!(← Op.equalIn (9999 + 1) ty (.pointer (some ⟨b, 0, none⟩)) (.pointer (some ⟨b', 0, none⟩)))))) := rfl
      simp [execOp, ho, hvx, hvy, eqGuard, e1, hrun, Result.andThen]
end

section
variable {X : Ctx} {n : Nat} {all rest : List Oper} {fr : Fr} {ow : Ow} {tr : List (List Nat × List Nat)} {K : Fr → Ow → List (List Nat × List Nat) → Prop}
variable {t k : Nat} {ty ty' : TypeId} {ps : String} {af : Array Edge} {x y : Operand} {cs : List D} {d : D} {off : Nat} {z : Nat × Bool}

theorem r_storP (hx : ev fr x = .pv k off) (hy : ev fr y = d) (hz : B.sz ty = some z) (hk : look k ow = some (.var cs)) (hl : d.cells.length = z.1) (hfit : off + d.cells.length ≤ cs.length) (hs : d.solid = true) (h1 : d.cells.all D.one = true)
    (h : CT Tryd.prog X n all rest fr ((k, .var (putCells cs off d.cells)) :: ow) (tr ++ [([k], [k])]) K) : CT Tryd.prog X n all (⟨none, .store ty x y, ty', ps, af, none⟩ :: rest) fr ow tr K := by
  refine r_sto (d := .any) (p := d.cells.length = z.1 ∧ off + d.cells.length ≤ cs.length ∧ d.solid = true ∧ d.cells.all D.one = true) (rd := [k]) ?_ ⟨hl, hfit, hs, h1⟩ h
  show (match ev fr x with
    | .ap .. => storeA B (fun k => look k ow) ty (ev fr x) (ev fr y)
    | _ => storeD B (fun k => look k ow) ty (ev fr x) (ev fr y)) = _
  rw [hx, hy]
  dsimp only
  unfold storeD
  rw [hz]
  dsimp only
  rw [hk]
  dsimp only
  rw [fz_eq, fzA_eq]
end

section
variable {P : Program} {X : Ctx} {n : Nat} {fr : Fr} {ow : Ow} {d : D}

theorem lendN_step {o : Oper} {f : FuncId} {args : List D} {lo lo' : Ow} {ids ids2 : List Nat} (hP : ∀ vs w, (callFunc f vs).run P w = .ok (.enter f vs) w) (hc : callOf fr o.op = some (f, args)) (hk : hasAll (fun k => look k ow) lo)
    (hi1 : lo.map (·.1) = ids) (hi2 : lo'.map (·.1) = ids2) (hnd : ids2.Nodup) (hsub : ∀ k ∈ ids, k ∈ ids2) (hnew : ∀ k ∈ ids2, k ∉ ids → look k ow = none)
    (hok : (args.map (lendA ids)).all (D.okIn ids) = true) (hf1 : lo.all (fun x => x.2.okIn ids) = true) (hf2 : lo'.all (fun x => x.2.okIn ids2) = true) (hf3 : d.okIn ids2 = true)
    (hC : CtrO P f (args.map (lendA ids)) lo d lo') (hd : dstOk o.dst n) :
    ∀ F' O', (∀ x ∈ o.op.operands.toList, evF F' x = evF (fF fr) x) → (∀ j ∈ ids2, O' j = fO ow j) → StepAt P X n o F' O' d lo' := by
  intro F' O' he hO a w K' Q' ⟨S, r, hH, hI, hF, hdf, hn, hρ⟩ hK
  obtain ⟨vs, hrun, hsz, hrel⟩ := call_enter hP hc he (fun x => evF_rel hH.glob hF x)
  have hOk : ∀ k o, look k lo = some o → O' k = some o := fun k o h => by
    have hm : k ∈ ids := by rw [← hi1]; exact List.mem_map.2 ⟨(k, o), mem_of_look h, rfl⟩
    exact (hO k (hsub k hm)).trans (hasAll_get hk k o h)
  have hmem : ∀ k, k ∈ ids → ∃ o, look k lo = some o := fun k h => look_some (by rw [hi1]; exact h)
  have hmem' : ∀ k, k ∈ ids2 → ∃ o, look k lo' = some o := fun k h => look_some (by rw [hi2]; exact h)
  have hin : ∀ k o, look k lo = some o → k ∈ ids ∧ o.okIn ids = true := fun k o h => by
    have h1 := mem_of_look h
    rw [List.all_eq_true] at hf1
    exact ⟨by rw [← hi1]; exact List.mem_map.2 ⟨(k, o), h1, rfl⟩, hf1 _ h1⟩
  have hin' : ∀ k o, look k lo' = some o → k ∈ ids2 ∧ o.okIn ids2 = true := fun k o h => by
    have h1 := mem_of_look h
    rw [List.all_eq_true] at hf2
    exact ⟨by rw [← hi2]; exact List.mem_map.2 ⟨(k, o), h1, rfl⟩, hf2 _ h1⟩
  have hblt : ∀ k l b, r k = some l → l.block = some b → b < w.heap.size := fun k l b hl hb => by
    cases ho : O' k with
    | none => rw [hI.dom k ho] at hl; cases hl
    | some o => exact (hI.obj k o ho).blockLt hl hb
  let X' : Ctx := { w0 := w, S0 := S, L := fun b => ∃ k ∈ ids, ∃ l, r k = some l ∧ l.block = some b, r0 := keepR r ids, ids := ids }
  have hH' : Hist X' w S := ⟨rfl, rfl, rfl, Nat.le_refl _, fun _ _ _ => rfl, fun _ _ h => h, fun _ _ _ => rfl, fun _ _ h => .inl h, hH.valid, hH.glob⟩
  have hI' : Inv X' w S X'.r0 (fO lo) := by
    refine ⟨fun k o hk' => ?_, fun k hk' => ?_, fun i j l l' b' hij hl hl' hb' => ?_, fun k l b' hl hb' => ?_⟩
    · obtain ⟨h1, h2⟩ := hin k o hk'
      exact (hI.obj k o (hOk k o hk')).okIn h2 (RhoLe.refl _) (if_pos h1)
    · refine if_neg fun hm => ?_
      obtain ⟨o, ho⟩ := hmem k hm
      rw [show fO lo k = look k lo from rfl, ho] at hk'
      cases hk'
    · have hl : keepR r ids i = some l := hl
      have hl' : keepR r ids j = some l' := hl'
      simp only [keepR] at hl hl'
      split at hl <;> first | (cases hl; done) | skip
      split at hl' <;> first | (cases hl'; done) | skip
      exact hI.apart i j l l' b' hij hl hl' hb'
    · have hl : keepR r ids k = some l := hl
      simp only [keepR] at hl
      split at hl <;> first | (cases hl; done) | skip
      rename_i hm
      exact .inr ⟨k, hm, l, hl, hb'⟩
  have hrel' : ∀ j, j < (args.map (lendA ids)).length → Rel S w X'.r0 ((args.map (lendA ids)).getD j .any) (vs.getD j undef) := by
    intro j hj
    have hj' : j < args.length := by simpa using hj
    have e : (args.map (lendA ids)).getD j .any = lendA ids (args.getD j .any) := by simp [List.getD_eq_getElem?_getD, hj']
    have hokj : (lendA ids (args.getD j .any)).okIn ids = true := by
      rw [← e]
      rw [List.all_eq_true] at hok
      refine hok _ ?_
      simp only [List.getD_eq_getElem?_getD, List.getElem?_eq_getElem hj, Option.getD_some]
      exact List.getElem_mem hj
    rw [e]
    have hr := hrel j hj'
    generalize args.getD j .any = dj at hr hokj
    generalize vs.getD j undef = vj at hr
    refine Rel.okIn (r := r) ?_ hokj
    cases dj with
    | gs k z m g =>
      simp only [lendA]
      split
      · exact hr
      · exact hr.shut
    | _ => exact hr
  refine OW.enter hrun ((hC X' vs hi1.symm hH' hI' (by simpa using hsz) hrel').mono ?_)
  rintro e w' ⟨v, S', r', rfl, g1, g2, g3, g4⟩
  let r2 : Rho := fun k => if k ∈ ids2 then r' k else r k
  have hr2 : RhoLe r r2 := fun k l hl => by
    by_cases hm : k ∈ ids2
    · have hm0 : k ∈ ids := by
        rcases Classical.em (k ∈ ids) with h | h
        · exact h
        · have h0 : O' k = none := (hO k hm).trans (hnew k hm h)
          rw [hI.dom k h0] at hl
          cases hl
      obtain ⟨l', h1, h2⟩ := g4 k l (by show keepR r ids k = some l; rw [keepR, if_pos hm0]; exact hl)
      exact ⟨l', by show (if k ∈ ids2 then r' k else r k) = some l'; rw [if_pos hm]; exact h1, h2⟩
    · exact ⟨l, by show (if k ∈ ids2 then r' k else r k) = some l; rw [if_neg hm]; exact hl, LocLe.refl l⟩
  have hr3 : RhoLe (keepR r' ids2) r2 := fun k l hl => by
    simp only [keepR] at hl
    split at hl <;> first | (cases hl; done) | skip
    rename_i hm
    exact ⟨l, by show (if k ∈ ids2 then r' k else r k) = some l; rw [if_pos hm]; exact hl, LocLe.refl l⟩
  have hXL : ∀ b, X'.L b → X.w0.heap.size ≤ b ∨ X.L b := fun b ⟨k, _, l, hl, hb⟩ => hI.low k l b hl hb
  have hother : ∀ k l b, k ∉ ids2 → r k = some l → l.block = some b → ¬ X'.L b := fun k l b hm hl hb ⟨k', hm', l', hl', hb'⟩ =>
    hI.apart k k' l l' b (fun e => hm (e ▸ hsub k' hm')) hl hl' hb hb'
  refine hK v w' ⟨S', r2, ?_, ?_, rel_put (fun t => (hF t).mono g2.sub g2.cell r2 hr2) (hn ▸ hd) ((g1.okIn hf3).mono (fun _ _ h => h) (fun _ _ _ => rfl) r2 hr3), by rw [put_defers]; exact hdf, by rw [put_size]; exact hn, hρ.trans hr2⟩
  · refine ⟨g2.os.trans hH.os, g2.tape.trans hH.tape, g2.output.trans hH.output, Nat.le_trans hH.size g2.size, fun k hk' hl => ?_, fun b o hb => g2.sub b o (hH.sub b o hb), fun b o hb => (g2.cell b o (hH.sub b o hb)).trans (hH.cell b o hb), fun b o hb => ?_, g2.valid, g2.glob⟩
    · refine (g2.block k (Nat.lt_of_lt_of_le hk' hH.size) fun hx => ?_).trans (hH.block k hk' hl)
      rcases hXL k hx with h | h
      · omega
      · exact hl h
    · rcases g2.new b o hb with h | h | h
      · exact hH.new b o h
      · exact .inr (.inl (Nat.le_trans hH.size h))
      · rcases hXL b h with h | h
        · exact .inr (.inl h)
        · exact .inr (.inr h)
  · have hnd' : (lo'.map (·.1)).Nodup := by rw [hi2]; exact hnd
    have hup : ∀ k, k ∉ ids2 → updO O' lo' k = O' k := fun k hm => by
      rw [updO_look hnd', look_none (by rw [hi2]; exact hm)]
    refine ⟨fun k o hk' => ?_, fun k hk' => ?_, fun i j l l' b hij hl hl' hb => ?_, fun k l b hl hb => ?_⟩
    · by_cases hm : k ∈ ids2
      · obtain ⟨o', ho'⟩ := hmem' k hm
        rw [updO_look hnd', ho'] at hk'
        obtain rfl : o' = o := Option.some.inj hk'
        exact (g3.obj k o' ho').okIn (hin' k o' ho').2 hr3 (if_pos hm)
      · rw [hup k hm] at hk'
        refine (hI.obj k o hk').keepL g2.sub g2.cell hr2 (if_neg hm) (fun l b hl hb => g2.block b (hblt k l b hl hb) (hother k l b hm hl hb)) (fun b o hs => ?_)
        rcases g2.new b o hs with h | h | h
        · exact .inl h
        · refine .inr fun l hl hb => ?_
          have := hblt k l b hl hb
          have h : w.heap.size ≤ b := h
          omega
        · exact .inr fun l hl hb => hother k l b hm hl hb h
    · by_cases hm : k ∈ ids2
      · obtain ⟨o', ho'⟩ := hmem' k hm
        rw [updO_look hnd', ho'] at hk'
        cases hk'
      · rw [hup k hm] at hk'
        exact (if_neg hm).trans (hI.dom k hk')
    · have hl : (if i ∈ ids2 then r' i else r i) = some l := hl
      have hl' : (if j ∈ ids2 then r' j else r j) = some l' := hl'
      by_cases h1 : i ∈ ids2
      · rw [if_pos h1] at hl
        by_cases h2 : j ∈ ids2
        · rw [if_pos h2] at hl'
          exact g3.apart i j l l' b hij hl hl' hb
        · rw [if_neg h2] at hl'
          intro hb'
          rcases g3.low i l b hl hb with h | h
          · have := hblt j l' b hl' hb'
            have h : w.heap.size ≤ b := h
            omega
          · exact hother j l' b h2 hl' hb' h
      · rw [if_neg h1] at hl
        by_cases h2 : j ∈ ids2
        · rw [if_pos h2] at hl'
          intro hb'
          rcases g3.low j l' b hl' hb' with h | h
          · have := hblt i l b hl hb
            have h : w.heap.size ≤ b := h
            omega
          · exact hother i l b h1 hl hb h
        · rw [if_neg h2] at hl'
          exact hI.apart i j l l' b hij hl hl' hb
    · have hl : (if k ∈ ids2 then r' k else r k) = some l := hl
      by_cases h1 : k ∈ ids2
      · rw [if_pos h1] at hl
        rcases g3.low k l b hl hb with h | h
        · exact .inl (Nat.le_trans hH.size h)
        · exact hXL b h
      · rw [if_neg h1] at hl
        exact hI.low k l b hl hb

end

theorem look_app {α : Type} {k : Nat} : ∀ {a b : List (Nat × α)}, look k (a ++ b) = match look k a with
    | some o => some o
    | none => look k b
  | [], b => rfl
  | (u, e) :: a, b => by
    simp only [List.cons_append, look]
    cases Nat.beq u k with
    | true => rfl
    | false => exact look_app

theorem fO_app {lo ow : Ow} (hnd : (lo.map (·.1)).Nodup) : fO (lo ++ ow) = updO (fO ow) lo := by
  funext k
  rw [updO_look hnd]
  show look k (lo ++ ow) = _
  rw [look_app]
  cases look k lo <;> rfl

section
variable {X : Ctx} {n : Nat} {all rest : List Oper} {fr : Fr} {ow : Ow} {tr : List (List Nat × List Nat)} {K : Fr → Ow → List (List Nat × List Nat) → Prop}
variable {t k k' : Nat} {op : Op} {ty ty2 ty' : TypeId} {ps : String} {af : Array Edge} {x y : Operand} {cs cs' : List D} {d : D} {f : FuncId} {args : List D} {g u : Nat} {want : Bool}

theorem r_lendN (lo lo' : Ow) (ids ids2 : List Nat) (hi1 : lo.map (·.1) = ids) (hi2 : lo'.map (·.1) = ids2) (hnd : ids2.Nodup) (hsub : ∀ k ∈ ids, k ∈ ids2) (hnew : ∀ k ∈ ids2, k ∉ ids → look k ow = none)
    (hc : callOf fr op = some (f, args)) (hn : Nat.blt t n = true) (hP : ∀ vs w, (callFunc f vs).run Tryd.prog w = .ok (.enter f vs) w) (hk : hasAll (fun k => look k ow) lo)
    (hok : (args.map (lendA ids)).all (D.okIn ids) = true) (hf1 : lo.all (fun x => x.2.okIn ids) = true) (hf2 : lo'.all (fun x => x.2.okIn ids2) = true) (hf3 : d.okIn ids2 = true)
    (hC : CtrO Tryd.prog f (args.map (lendA ids)) lo d lo')
    (h : CT Tryd.prog X n all rest ((t, d) :: fr) (lo' ++ ow) (tr ++ [(ids2, lo'.map (·.1))]) K) : CT Tryd.prog X n all (⟨some t, op, ty, ps, af, none⟩ :: rest) fr ow tr K :=
  CT.cons (e := ⟨d, ids2, lo'⟩) (.plain rfl (lendN_step (o := ⟨some t, op, ty, ps, af, none⟩) (ow := ow) hP hc hk hi1 hi2 hnd hsub hnew hok hf1 hf2 hf3 hC (show t < n by simpa using hn))) (fF_cons ..) (fO_app (by rw [hi2]; exact hnd)) h

set_option maxRecDepth 100000 in
theorem r_pne {te : TypeId} {j : TypeInfo} (hp : Tryd.prog.underlying ty = some (.pointer te)) (hte : Tryd.prog.info? te = some j) (hsz : j.size ≠ 0) (hx : ev fr x = .pv k 0) (hy : ev fr y = .pv k' 0) (hk : look k ow = some (.var cs)) (hk' : look k' ow = some (.var cs')) (hn : Nat.blt t n = true)
    (h : CT Tryd.prog X n all rest ((t, .b (!decide (k = k'))) :: fr) ow (tr ++ [([k, k'], [])]) K) : CT Tryd.prog X n all (⟨some t, .binOp .neq ty x y ty2, ty', ps, af, none⟩ :: rest) fr ow tr K :=
  CT.cons (e := ⟨.b (!decide (k = k')), [k, k'], []⟩) (.plain rfl (peq_step (neg := true) (o := ⟨some t, .binOp .neq ty x y ty2, ty', ps, af, none⟩) hp hte hsz rfl hx hy hk hk' (show t < n by simpa using hn))) (fF_cons ..) rfl h
end

end Go.Proofs.YtbegohehjkjnmaaDoor.Flow

namespace Go.Proofs.YtbegohehjkjnmaaDoor.Flow

def lentX (w : World) (S : Cells) (r : Rho) (ids : List Nat) : Ctx := { w0 := w, S0 := S, L := fun b => ∃ k ∈ ids, ∃ l, r k = some l ∧ l.block = some b, r0 := keepR r ids, ids := ids }

section
variable {P : Program} {X : Ctx} {n : Nat}
theorem lend_start {w : World} {S : Cells} {r : Rho} {O' : Nat → Option Own} {lo : Ow} {ids : List Nat} (hH : Hist X w S) (hI : Inv X w S r O') (hOk : ∀ k o, look k lo = some o → O' k = some o) (hi1 : lo.map (·.1) = ids) (hf1 : lo.all (fun x => x.2.okIn ids) = true) :
    Hist (lentX w S r ids) w S ∧ Inv (lentX w S r ids) w S (keepR r ids) (fO lo) := by
  have hmem : ∀ k, k ∈ ids → ∃ o, look k lo = some o := fun k h => look_some (by rw [hi1]; exact h)
  have hin : ∀ k o, look k lo = some o → k ∈ ids ∧ o.okIn ids = true := fun k o h => by
    have h1 := mem_of_look h
    rw [List.all_eq_true] at hf1
    exact ⟨by rw [← hi1]; exact List.mem_map.2 ⟨(k, o), h1, rfl⟩, hf1 _ h1⟩
  have hblt : ∀ k l b, r k = some l → l.block = some b → b < w.heap.size := fun k l b hl hb => by
    cases ho : O' k with
    | none => rw [hI.dom k ho] at hl; cases hl
    | some o => exact (hI.obj k o ho).blockLt hl hb
  have hH' : Hist (lentX w S r ids) w S := ⟨rfl, rfl, rfl, Nat.le_refl _, fun _ _ _ => rfl, fun _ _ h => h, fun _ _ _ => rfl, fun _ _ h => .inl h, hH.valid, hH.glob⟩
  have hI' : Inv (lentX w S r ids) w S (keepR r ids) (fO lo) := by
    refine ⟨fun k o hk' => ?_, fun k hk' => ?_, fun i j l l' b' hij hl hl' hb' => ?_, fun k l b' hl hb' => ?_⟩
    · obtain ⟨h1, h2⟩ := hin k o hk'
      exact (hI.obj k o (hOk k o hk')).okIn h2 (RhoLe.refl _) (if_pos h1)
    · refine if_neg fun hm => ?_
      obtain ⟨o, ho⟩ := hmem k hm
      rw [show fO lo k = look k lo from rfl, ho] at hk'
      cases hk'
    · have hl : keepR r ids i = some l := hl
      have hl' : keepR r ids j = some l' := hl'
      simp only [keepR] at hl hl'
      split at hl <;> first | (cases hl; done) | skip
      split at hl' <;> first | (cases hl'; done) | skip
      exact hI.apart i j l l' b' hij hl hl' hb'
    · have hl : keepR r ids k = some l := hl
      simp only [keepR] at hl
      split at hl <;> first | (cases hl; done) | skip
      rename_i hm
      exact .inr ⟨k, hm, l, hl, hb'⟩
  exact ⟨hH', hI'⟩

theorem lend_back {w w' : World} {S S' : Cells} {r r' : Rho} {O' : Nat → Option Own} {lo' : Ow} {ids : List Nat} (hH : Hist X w S) (hI : Inv X w S r O') (hi2 : lo'.map (·.1) = ids) (hnd : ids.Nodup) (hf2 : lo'.all (fun x => x.2.okIn ids) = true)
    (g2 : Hist (lentX w S r ids) w' S') (g3 : Inv (lentX w S r ids) w' S' r' (fO lo')) (g4 : RhoLe (keepR r ids) r') : ∃ r2, RhoLe r r2 ∧ RhoLe (keepR r' ids) r2 ∧ Hist X w' S' ∧ Inv X w' S' r2 (updO O' lo') := by
  have hmem' : ∀ k, k ∈ ids → ∃ o, look k lo' = some o := fun k h => look_some (by rw [hi2]; exact h)
  have hin' : ∀ k o, look k lo' = some o → k ∈ ids ∧ o.okIn ids = true := fun k o h => by
    have h1 := mem_of_look h
    rw [List.all_eq_true] at hf2
    exact ⟨by rw [← hi2]; exact List.mem_map.2 ⟨(k, o), h1, rfl⟩, hf2 _ h1⟩
  have hblt : ∀ k l b, r k = some l → l.block = some b → b < w.heap.size := fun k l b hl hb => by
    cases ho : O' k with
    | none => rw [hI.dom k ho] at hl; cases hl
    | some o => exact (hI.obj k o ho).blockLt hl hb
  let r2 : Rho := fun k => if k ∈ ids then r' k else r k
  have hr2 : RhoLe r r2 := fun k l hl => by
    by_cases hm : k ∈ ids
    · obtain ⟨l', h1, h2⟩ := g4 k l (by show keepR r ids k = some l; rw [keepR, if_pos hm]; exact hl)
      exact ⟨l', by show (if k ∈ ids then r' k else r k) = some l'; rw [if_pos hm]; exact h1, h2⟩
    · exact ⟨l, by show (if k ∈ ids then r' k else r k) = some l; rw [if_neg hm]; exact hl, LocLe.refl l⟩
  have hr3 : RhoLe (keepR r' ids) r2 := fun k l hl => by
    simp only [keepR] at hl
    split at hl <;> first | (cases hl; done) | skip
    rename_i hm
    exact ⟨l, by show (if k ∈ ids then r' k else r k) = some l; rw [if_pos hm]; exact hl, LocLe.refl l⟩
  have hXL : ∀ b, (lentX w S r ids).L b → X.w0.heap.size ≤ b ∨ X.L b := fun b ⟨k, _, l, hl, hb⟩ => hI.low k l b hl hb
  have hother : ∀ k l b, k ∉ ids → r k = some l → l.block = some b → ¬ (lentX w S r ids).L b := fun k l b hm hl hb ⟨k', hm', l', hl', hb'⟩ =>
    hI.apart k k' l l' b (fun e => hm (e ▸ hm')) hl hl' hb hb'
  refine ⟨r2, hr2, hr3, ?_, ?_⟩
  · refine ⟨g2.os.trans hH.os, g2.tape.trans hH.tape, g2.output.trans hH.output, Nat.le_trans hH.size g2.size, fun k hk' hl => ?_, fun b o hb => g2.sub b o (hH.sub b o hb), fun b o hb => (g2.cell b o (hH.sub b o hb)).trans (hH.cell b o hb), fun b o hb => ?_, g2.valid, g2.glob⟩
    · refine (g2.block k (Nat.lt_of_lt_of_le hk' hH.size) fun hx => ?_).trans (hH.block k hk' hl)
      rcases hXL k hx with h | h
      · omega
      · exact hl h
    · rcases g2.new b o hb with h | h | h
      · exact hH.new b o h
      · exact .inr (.inl (Nat.le_trans hH.size h))
      · rcases hXL b h with h | h
        · exact .inr (.inl h)
        · exact .inr (.inr h)
  · have hnd' : (lo'.map (·.1)).Nodup := by rw [hi2]; exact hnd
    have hup : ∀ k, k ∉ ids → updO O' lo' k = O' k := fun k hm => by
      rw [updO_look hnd', look_none (by rw [hi2]; exact hm)]
    refine ⟨fun k o hk' => ?_, fun k hk' => ?_, fun i j l l' b hij hl hl' hb => ?_, fun k l b hl hb => ?_⟩
    · by_cases hm : k ∈ ids
      · obtain ⟨o', ho'⟩ := hmem' k hm
        rw [updO_look hnd', ho'] at hk'
        obtain rfl : o' = o := Option.some.inj hk'
        exact (g3.obj k o' ho').okIn (hin' k o' ho').2 hr3 (if_pos hm)
      · rw [hup k hm] at hk'
        refine (hI.obj k o hk').keepL g2.sub g2.cell hr2 (if_neg hm) (fun l b hl hb => g2.block b (hblt k l b hl hb) (hother k l b hm hl hb)) (fun b o hs => ?_)
        rcases g2.new b o hs with h | h | h
        · exact .inl h
        · refine .inr fun l hl hb => ?_
          have := hblt k l b hl hb
          have h : w.heap.size ≤ b := h
          omega
        · exact .inr fun l hl hb => hother k l b hm hl hb h
    · by_cases hm : k ∈ ids
      · obtain ⟨o', ho'⟩ := hmem' k hm
        rw [updO_look hnd', ho'] at hk'
        cases hk'
      · rw [hup k hm] at hk'
        exact (if_neg hm).trans (hI.dom k hk')
    · have hl : (if i ∈ ids then r' i else r i) = some l := hl
      have hl' : (if j ∈ ids then r' j else r j) = some l' := hl'
      by_cases h1 : i ∈ ids
      · rw [if_pos h1] at hl
        by_cases h2 : j ∈ ids
        · rw [if_pos h2] at hl'
          exact g3.apart i j l l' b hij hl hl' hb
        · rw [if_neg h2] at hl'
          intro hb'
          rcases g3.low i l b hl hb with h | h
          · have := hblt j l' b hl' hb'
            have h : w.heap.size ≤ b := h
            omega
          · exact hother j l' b h2 hl' hb' h
      · rw [if_neg h1] at hl
        by_cases h2 : j ∈ ids
        · rw [if_pos h2] at hl'
          intro hb'
          rcases g3.low j l' b hl' hb' with h | h
          · have := hblt i l b hl hb
            have h : w.heap.size ≤ b := h
            omega
          · exact hother i l b h1 hl hb h
        · rw [if_neg h2] at hl'
          exact hI.apart i j l l' b hij hl hl' hb
    · have hl : (if k ∈ ids then r' k else r k) = some l := hl
      by_cases h1 : k ∈ ids
      · rw [if_pos h1] at hl
        rcases g3.low k l b hl hb with h | h
        · exact .inl (Nat.le_trans hH.size h)
        · exact hXL b h
      · rw [if_neg h1] at hl
        exact hI.low k l b hl hb
end

def CtrD (P : Program) (f : FuncId) (args : List D) (ow : Ow) (u : FrameMode) (ow' : Ow) (u' : FrameMode) : Prop :=
  ∀ (X : Ctx) (vs : Array Value), X.dfs = [] → X.ids = ow.map (·.1) → Hist X X.w0 X.S0 → Inv X X.w0 X.S0 X.r0 (fO ow) → vs.size = args.length → (∀ j, j < args.length → Rel X.S0 X.w0 X.r0 (args.getD j .any) (vs.getD j undef)) →
    CallsD P f vs u X.w0 fun e u1 w' => (∃ v, e = .returned v) ∧ u1 = u' ∧ ∃ S' r', Hist X w' S' ∧ Inv X w' S' r' (fO ow') ∧ RhoLe X.r0 r'

def TD (P : Program) (X : Ctx) (n : Nat) (c : Code) (fr : Fr) (ow : Ow) (R : Exit → Act → World → Prop) : Prop := ∀ a w, Rep X n (fF fr) (fO ow) a w → c.wp P R a w
def TS (P : Program) (X : Ctx) (n : Nat) (c : Code) (fr : Fr) (ow : Ow) (cs : List Frame) (R : Exit → Act → List Frame → World → Prop) : Prop := ∀ a w, Rep X n (fF fr) (fO ow) a w → c.wpS P R a cs w

section
variable {P : Program} {X : Ctx} {n : Nat} {fr : Fr} {ow : Ow}

theorem TD.out {c : Code} {R : Exit → Act → World → Prop} (h : TD P X n c fr ow R) : ∀ a w, Rep X n (fF fr) (fO ow) a w → c.wp P R a w := h
theorem TD.into {c : Code} {R : Exit → Act → World → Prop} (h : ∀ a w, Rep X n (fF fr) (fO ow) a w → c.wp P R a w) : TD P X n c fr ow R := h
theorem TD.seqR {x y : Code} {R : Exit → Act → World → Prop} (h : TD P X n x fr ow (Exit.then (fun a w => y.wp P R a w) R)) : TD P X n (.seq x y) fr ow R := fun a w hr => wp_seq (h a w hr)
theorem TD.blockR {id : Nat} {c : Code} {R : Exit → Act → World → Prop} (h : TD P X n c fr ow (Exit.inBlock id R)) : TD P X n (.block id c) fr ow R := fun a w hr => wp_block (h a w hr)
theorem TD.seq {x y : Code} {R : Exit → Act → World → Prop} (h : T P X n x fr ow (thenQ (fun fr ow => TD P X n y fr ow R) (fun e fr ow => ∀ a w, Rep X n (fF fr) (fO ow) a w → R e a w))) : TD P X n (.seq x y) fr ow R := fun a w hr => by
  refine wp_seq (wp_mono (h a w hr).wide fun e a' w' hq => ?_)
  obtain ⟨fr', ow', h1, h2⟩ := hq
  cases e with
  | normal => exact h1 a' w' h2
  | _ => exact h1 a' w' h2
theorem TD.last {c : Code} {R : Exit → Act → World → Prop} (h : T P X n c fr ow (fun e fr ow => ∀ a w, Rep X n (fF fr) (fO ow) a w → R e a w)) : TD P X n c fr ow R := fun a w hr =>
  wp_mono (h a w hr).wide fun _ a' w' ⟨_, _, h1, h2⟩ => h1 a' w' h2
theorem TS.seq {x y : Code} {cs : List Frame} {R : Exit → Act → List Frame → World → Prop} (h : TS P X n x fr ow cs (Exit.thenS (fun a cs w => y.wpS P R a cs w) R)) : TS P X n (.seq x y) fr ow cs R := fun a w hr => wpS_seq (h a w hr)
theorem TS.of_TD {c : Code} {cs : List Frame} {R : Exit → Act → List Frame → World → Prop} (h : TD P X n c fr ow fun e a w => R e a cs w) : TS P X n c fr ow cs R := fun a w hr => wpS_of_wp (h a w hr)

theorem wpOpsS_of_ch {ops : Array Oper} {cs : List Frame} {Q : Exit → Act → List Frame → World → Prop} : ∀ {l : List Oper} {k : Nat} {F : Nat → D} {O : Nat → Option Own} {es : List Eff} {F' : Nat → D} {O' : Nat → Option Own},
    Ch P X n ops.toList l F O es F' O' → (∀ j, l[j]? = ops[k + j]?) → (∀ o ∈ l, o.guard = none) → (∀ a w, Rep X n F' O' a w → Q .normal a cs w) → ∀ a w, Rep X n F O a w → wpOpsS P ops Q (List.range' k l.length) a cs w
  | _, k, _, _, _, _, _, .nil F O, _, _, hQ, a, w, hr => by simpa [wpOpsS] using hQ a w hr
  | _, k, _, _, _, _, _, .cons o rest F O e es F' O' h t, hl, hg, hQ, a, w, hr => by
    have h0 : ops[k]? = some o := by simpa using (hl 0).symm
    have hgo : o.guard = none := hg o (by simp)
    rw [List.length_cons, List.range'_succ]
    have hd := h F O (fun _ _ => rfl) (fun _ _ => rfl)
    unfold Does at hd
    simp only [hgo] at hd
    have hw := (hd a w (fun a' w' => wpOpsS P ops Q (List.range' (k + 1) rest.length) a' cs w') (fun e a w => Q e a cs w) hr fun v w' h' =>
      wpOpsS_of_ch t (fun j => by have := hl (j + 1); simpa [Nat.add_assoc, Nat.add_comm 1 j] using this) (fun o ho => hg o (by simp [ho])) hQ _ w' h').1
    simp only [wpOpsS, h0, Region.wanted, hgo, if_true]
    unfold Oper.wp at hw
    split
    · rename_i w' hrun
      rw [hrun] at hw
      exact hw.elim
    · exact hw

theorem TS.recover {id : Nat} {t : Nat} {ty : TypeId} {pos : String} {af : Array Edge} {rest : List Oper} {cs cs' : List Frame} {v : Value} {R : Exit → Act → List Frame → World → Prop}
    (hn : t < n) (hc : match recoverD cs with | some (v', cs2) => v' = v ∧ cs2 = cs' | none => v = .nilIface ∧ cs' = cs) (hg : rest.all (fun o => o.guard.isNone) = true)
    (h : CT P X n (⟨some t, .call ⟨.builtin .recover, #[], #[]⟩, ty, pos, af, none⟩ :: rest) rest ((t, .v v) :: fr) ow [] fun fr ow _ => ∀ a w, Rep X n (fF fr) (fO ow) a w → R .normal a cs' w) :
    TS P X n (.region id ⟨⟨some t, .call ⟨.builtin .recover, #[], #[]⟩, ty, pos, af, none⟩ :: rest⟩ false) fr ow cs R := fun a w hr => by
  refine wpS_region ?_
  obtain ⟨es, fr', ow', hch, hK⟩ := h
  generalize ho : (⟨some t, .call ⟨.builtin .recover, #[], #[]⟩, ty, pos, af, none⟩ : Oper) = o at *
  have hlen : (⟨o :: rest⟩ : Array Oper).size = rest.length + 1 := rfl
  have h0 : (⟨o :: rest⟩ : Array Oper)[0]? = some o := rfl
  have hgo : o.guard = none := by rw [← ho]
  have hrun : (execOp a.eval o).run P w = .ok .recover w := by
    rw [← ho]
    simp [execOp, resolve, invoke, builtin]
  have hrep : Rep X n (fF ((t, .v v) :: fr)) (fO ow) (a.put o.dst v) w := by
    obtain ⟨S, r, h1, h2, h3, h4, h5, h6⟩ := hr
    rw [fF_cons, ← ho]
    exact ⟨S, r, h1, h2, rel_put h3 (show t < a.tmps.size by omega) (.v ..), by rw [put_defers]; exact h4, by rw [put_size]; exact h5, h6⟩
  rw [List.range_eq_range', hlen, List.range'_succ]
  simp only [wpOpsS, h0, Region.wanted, hgo, if_true, hrun]
  have next : wpOpsS P ⟨o :: rest⟩ R (List.range' (0 + 1) rest.length) (a.put o.dst v) cs' w := by
    refine wpOpsS_of_ch (ops := ⟨o :: rest⟩) (k := 0 + 1) hch (fun j => ?_) (fun o2 ho2 => ?_) (fun a w hr => hK a w hr) _ w hrep
    · show rest[j]? = (o :: rest).toArray[0 + 1 + j]?
      rw [List.getElem?_toArray, show 0 + 1 + j = j + 1 by omega, List.getElem?_cons_succ]
    · have := List.all_eq_true.1 hg o2 ho2
      exact Option.isNone_iff_eq_none.1 this
  split
  · rename_i v' cs2 hrec
    rw [hrec] at hc
    obtain ⟨rfl, rfl⟩ := hc
    exact next
  · rename_i hrec
    rw [hrec] at hc
    obtain ⟨rfl, rfl⟩ := hc
    exact next

theorem CtrD.of_TS {f : FuncId} {fn : Func} {c : Code} {N : Nat} {args : List D} {lo lo' : Ow} {u u' : FrameMode} {ids : List Nat} (hf : P.funcs[f]? = some fn) (hb : fn.body = some c) (hN : fn.ntmps = N) (hrs : fn.results = #[]) (hlen : args.length ≤ N)
    (hi1 : lo.map (·.1) = ids) (hi2 : lo'.map (·.1) = ids) (hcs : lo'.all (fun x => x.2.okIn ids) = true)
    (h : ∀ (X : Ctx) (c₀ : Frame) (cs : List Frame), Lent X → X.ids = ids → X.dfs = [] → c₀.mode = u → TS P X N c (slots 0 args) lo (c₀ :: cs) fun e a cs2 w => (e = .normal ∨ e = .ret) ∧ cs2 = { c₀ with mode := u' } :: cs ∧ ∃ fr2 ow2, Rep X N (fF fr2) (fO ow2) a w ∧ leOw ow2 lo') : CtrD P f args lo u lo' u' := by
  intro X vs hdf0 hid hH hI hsz hrel
  have hL : Lent X := fun k hk => by
    rw [hid]
    cases hmem : look k lo with
    | none => exact absurd (hI.dom k hmem) hk
    | some o =>
      by_cases hm : k ∈ lo.map (·.1)
      · exact hm
      · rw [look_none hm] at hmem; cases hmem
  refine callsD_of_wpS hf hb fun c₀ cs hu => ?_
  have hrep : Rep X N (fF (slots 0 args)) (fO lo) { tmps := vs ++ Array.replicate (fn.ntmps - vs.size) undef, defers := [] } X.w0 := by
    refine ⟨X.S0, X.r0, hH, hI, fun t => ?_, hdf0.symm, by simp; omega, RhoLe.refl _⟩
    show Rel _ _ _ (getD' t (slots 0 args)) _
    rw [slots_get]
    simp only [Nat.zero_le, if_true, Nat.sub_zero]
    by_cases ht : t < args.length
    · have := hrel t ht
      rw [Array.getD_eq_getD_getElem?, Array.getElem?_append_left (by omega), ← Array.getD_eq_getD_getElem?]
      exact this
    · rw [List.getD_eq_getElem?_getD, List.getElem?_eq_none (by omega)]
      exact .any ..
  have key := h X c₀ cs hL (hid.trans hi1) hdf0 hu _ _ hrep
  have hres : ∀ (tmps : Array Value) (w : World), (results fn tmps).run P w = .ok (.tuple #[]) w := fun tmps w => by
    simp [results_eq, hrs]
  intro b k hk hr
  obtain ⟨e, a', cs2, w', ⟨he, hcs2, fr2, ow2, hrep2, hlo⟩, harr⟩ := key b k hk hr
  refine ⟨e, a', cs2, w', ?_, harr⟩
  obtain ⟨S, r, hH2, hI2, hF2, hd2, _, hρ2⟩ := hrep2
  have hfin : ∃ S' r', Hist X w' S' ∧ Inv X w' S' r' (fO lo') ∧ RhoLe X.r0 r' := by
    refine ⟨S, keepR r (lo'.map (·.1)), hH2, hI2.keep hlo (by rw [hi2]; exact hcs), fun k l hk => ?_⟩
    obtain ⟨l', g1, g2⟩ := hρ2 k l hk
    have : k ∈ lo'.map (·.1) := by
      rw [hi2, ← hi1, ← hid]
      exact hL k (by rw [hk]; simp)
    exact ⟨l', by simp only [keepR]; rw [if_pos this]; exact g1, g2⟩
  rcases he with rfl | rfl
  · exact ⟨hd2.trans hdf0, u', hcs2, .tuple #[], hres _ _, ⟨_, rfl⟩, rfl, hfin⟩
  · exact ⟨hd2.trans hdf0, u', hcs2, .tuple #[], hres _ _, ⟨_, rfl⟩, rfl, hfin⟩

structure Put (X X1 : Ctx) (f : FuncId) (ks : List Nat) (vs : Array Value) : Prop where
  w0 : X1.w0 = X.w0
  S0 : X1.S0 = X.S0
  L : X1.L = X.L
  ids : X1.ids = ks
  dfs : X1.dfs = [⟨.fn (.func f) vs, #[]⟩]
  size : vs.size = ks.length
  at' : ∀ j, j < ks.length → ∃ b, X1.r0 (ks.getD j 0) = some (.blk b) ∧ vs.getD j undef = .pointer (some ⟨b, 0, none⟩)
  lent : Lent X1

theorem Hist.of_put {X1 : Ctx} {f : FuncId} {ks : List Nat} {vs : Array Value} (h : Put X X1 f ks vs) {w : World} {S : Cells} (hH : Hist X1 w S) : Hist X w S := by
  obtain ⟨w0, S0, L, r0, ids, dfs⟩ := X1
  have e1 : w0 = X.w0 := h.w0
  have e2 : S0 = X.S0 := h.S0
  have e3 : L = X.L := h.L
  subst e1 e2 e3
  exact ⟨hH.os, hH.tape, hH.output, hH.size, hH.block, hH.sub, hH.cell, hH.new, hH.valid, hH.glob⟩

theorem TD.defer {id t : Nat} {f : FuncId} {ks : List Nat} {xs : List Operand} {ty1 ty2 : TypeId} {p1 p2 : String} {af1 af2 : Array Edge} {rest : Code} {R : Exit → Act → World → Prop}
    (hdf : X.dfs = []) (_hr0 : X.r0 = noRho) (ht : t < n) (hxs : xs.map (ev fr) = ks.map fun k => D.pv k 0)
    (h : ∀ X1 vs, Put X X1 f ks vs → TD P X1 n rest ((t, .fn f (ks.map fun k => .pv k 0)) :: fr) ow R) :
    TD P X n (.seq (.region id ⟨[⟨some t, .makeFunc (.func f) #[] ⟨xs⟩, ty1, p1, af1, none⟩, ⟨none, .defer ⟨.value (.tmp t), #[], #[]⟩, ty2, p2, af2, none⟩]⟩ false) rest) fr ow R := fun a w hr => by
  generalize ho1 : (⟨some t, .makeFunc (.func f) #[] ⟨xs⟩, ty1, p1, af1, none⟩ : Oper) = o1
  generalize ho2 : (⟨none, .defer ⟨.value (.tmp t), #[], #[]⟩, ty2, p2, af2, none⟩ : Oper) = o2
  refine wp_seq (wp_region ?_)
  have hs : step (tb P) (ev fr) (fun k => look k ow) o1 = some ⟨.fn f (ks.map fun k => .pv k 0), True, [], []⟩ := by
    rw [← ho1]
    show fzA (xs.map (ev fr)) (fun l => Stp.pure (.fn f l)) = _
    rw [fzA_eq, hxs]
    rfl
  have hst := step_local (P := P) (X := X) (n := n) hs True.intro (by rw [← ho1]; exact ht) (fF fr) (fO ow) (fun x _ => evF_fF fr x) (fun _ _ => rfl)
  have hr2 : List.range (⟨[o1, o2]⟩ : Array Oper).size = [0, 1] := rfl
  have h01 : (⟨[o1, o2]⟩ : Array Oper)[0]? = some o1 := rfl
  have h02 : (⟨[o1, o2]⟩ : Array Oper)[1]? = some o2 := rfl
  have hg1 : o1.guard = none := by rw [← ho1]
  have hg2 : o2.guard = none := by rw [← ho2]
  rw [hr2]
  simp only [wpOps, h01, h02, Region.wanted, hg1, hg2, if_true]
  refine .inl (OW.left (hst a w _ _ hr fun v w1 hrep => ?_))
  left
  have hd1 : o1.dst = some t := by rw [← ho1]
  rw [hd1] at hrep ⊢
  obtain ⟨S, r, hH, hI, hF, hdfs, hn, hρ⟩ := hrep
  generalize a.put (some t) v = a1 at *
  have hft := hF t
  rw [show updF (fF fr) (some t) (.fn f (ks.map fun k => .pv k 0)) t = .fn f (ks.map fun k => .pv k 0) by simp [updF]] at hft
  generalize hu : a1.tmps.getD t undef = u at hft
  cases hft with
  | fn _ _ _ vs hvn hvr =>
    have hev : a1.eval (.tmp t) = .func (.func f) #[] vs := hu
    have hrun : (execOp a1.eval o2).run P w1 = .ok (.defer ⟨.fn (.func f) vs, #[]⟩) w1 := by
      rw [← ho2]
      simp [execOp, resolve, hev, Deferred.ofValue]
    unfold Oper.wp
    rw [hrun]
    have hd2 : o2.dst = none := by rw [← ho2]
    show Exit.then (fun a w => rest.wp P R a w) R .normal ({ a1 with defers := ⟨.fn (.func f) vs, #[]⟩ :: a1.defers }.put o2.dst undef) w1
    rw [hd2]
    let X1 : Ctx := { w0 := X.w0, S0 := X.S0, L := X.L, r0 := keepR r ks, ids := ks, dfs := [⟨.fn (.func f) vs, #[]⟩] }
    have hvs : vs.size = ks.length := by simpa using hvn
    have hput : Put X X1 f ks vs := by
      refine ⟨rfl, rfl, rfl, rfl, rfl, hvs, fun j hj => ?_, fun k hk => ?_⟩
      · have h1 := hvr j (by simpa using hj)
        rw [show (ks.map fun k => D.pv k 0).getD j .any = .pv (ks.getD j 0) 0 by simp [List.getD_eq_getElem?_getD, hj]] at h1
        generalize vs.getD j undef = x at h1 ⊢
        cases h1 with
        | pv _ _ _ b hb =>
          refine ⟨b, ?_, rfl⟩
          show keepR r ks (ks.getD j 0) = some (.blk b)
          rw [keepR, if_pos]
          · exact hb
          · rw [List.getD_eq_getElem?_getD, List.getElem?_eq_getElem hj, Option.getD_some]
            exact List.getElem_mem hj
      · have hk : keepR r ks k ≠ none := hk
        show k ∈ ks
        rw [keepR] at hk
        by_cases hm : k ∈ ks
        · exact hm
        · rw [if_neg hm] at hk
          exact absurd rfl hk
    refine h X1 vs hput _ w1 ?_
    refine ⟨S, r, ⟨hH.os, hH.tape, hH.output, hH.size, hH.block, hH.sub, hH.cell, hH.new, hH.valid, hH.glob⟩, ⟨hI.obj, hI.dom, hI.apart, hI.low⟩, fun z => ?_, ?_, hn, fun k l hk => ?_⟩
    · rw [fF_cons]
      exact hF z
    · show ⟨.fn (.func f) vs, #[]⟩ :: a1.defers = [⟨.fn (.func f) vs, #[]⟩]
      rw [hdfs, hdf]
    · have hk : keepR r ks k = some l := hk
      rw [keepR] at hk
      by_cases hm : k ∈ ks
      · rw [if_pos hm] at hk
        exact ⟨l, hk, LocLe.refl l⟩
      · rw [if_neg hm] at hk
        cases hk

theorem leave_put {X1 : Ctx} {f : FuncId} {fn : Func} {ks : List Nat} {vs : Array Value} {lo lo' : Ow} {u u' : FrameMode} {rs : List ResultVar} {d d2 : D} {a : Act} {w : World} (hput : Put X X1 f ks vs)
    (hP : ∀ vs w, (callFunc f vs).run P w = .ok (.enter f vs) w) (hC : CtrD P f (ks.map fun k => .pv k 0) lo u lo' u') (hrun : u ≠ .run) (hset : settle u' = .returning)
    (hk : hasAll (fun k => look k ow) lo) (hi1 : lo.map (·.1) = ks) (hi2 : lo'.map (·.1) = ks) (hnd : ks.Nodup) (hf1 : lo.all (fun x => x.2.okIn ks) = true) (hf2 : lo'.all (fun x => x.2.okIn ks) = true)
    (hrep : Rep X1 n (fF fr) (fO ow) a w) (hrs : fn.results = ⟨rs⟩) {ow2 : Ow} (how : fO ow2 = updO (fO ow) lo') (hres : resD (tb P) fr ow2 rs = some d2) (hw : Weak d2 d) (hd : d.free = true) :
    Leaves P fn a.tmps (fun e w' => ∃ v S', e = .returned v ∧ Rel S' w' noRho d v ∧ Hist X w' S') a.defers u w := by
  obtain ⟨S, r, hH, hI, hF, hdfs, hn, hρ⟩ := hrep
  rw [hdfs, hput.dfs]
  have hOk : ∀ k o, look k lo = some o → fO ow k = some o := fun k o h => hasAll_get hk k o h
  obtain ⟨hH', hI'⟩ := lend_start hH hI hOk hi1 hf1
  have hinv : (invoke (.fn (.func f) vs) #[]).run P w = .ok (.enter f vs) w := by
    have := hP vs w
    simpa [invoke] using this
  have hrel : ∀ j, j < (ks.map fun k => D.pv k 0).length → Rel S w (keepR r ks) ((ks.map fun k => D.pv k 0).getD j .any) (vs.getD j undef) := fun j hj => by
    have hj' : j < ks.length := by simpa using hj
    obtain ⟨b, h1, h2⟩ := hput.at' j hj'
    rw [show (ks.map fun k => D.pv k 0).getD j .any = .pv (ks.getD j 0) 0 by simp [List.getD_eq_getElem?_getD, hj'], h2]
    refine .pv _ _ _ b ?_
    obtain ⟨l', g1, g2⟩ := hρ _ _ h1
    have hm : ks.getD j 0 ∈ ks := by
      rw [List.getD_eq_getElem?_getD, List.getElem?_eq_getElem hj', Option.getD_some]
      exact List.getElem_mem hj'
    rw [keepR, if_pos hm]
    cases l' with
    | blk b' =>
      simp only [LocLe] at g2
      subst g2
      exact g1
    | row => simp [LocLe] at g2
  refine leaves_cons hrun hinv ((hC (lentX w S r ks) vs rfl hi1.symm hH' hI' (by simpa using hput.size) hrel).mono ?_)
  rintro e u1 w' ⟨⟨v0, rfl⟩, rfl, S', r', g2, g3, g4⟩
  obtain ⟨r2, q1, q2, q3, q4⟩ := lend_back hH hI hi2 hnd hf2 g2 g3 g4
  dsimp only
  rw [hset]
  rw [← how] at q4
  obtain ⟨v, hv, hvr⟩ := results_ok (P := P) (fn := fn) (a := a) hrs q4 (fun t => (hF t).mono g2.sub g2.cell r2 q1) hres
  exact ⟨v, hv, v, S', rfl, (hvr.weak hw).free hd noRho, q3.of_put hput⟩
end

attribute [irreducible] TD

end Go.Proofs.YtbegohehjkjnmaaDoor.Flow
