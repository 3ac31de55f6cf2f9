/- The texts FlowY, W4, FlowZm, Y1, Y3, Y4, one behind the other. -/
import Derived.Test.YtghdgjabpdfaoaaDoorO4
import Derived.Test.YtghdgjabpdfaoaaDoorO5
import Derived.MapKept
import Derived.Maps.RangeRun
/-
  FLOW, PART Y: MAPS FROM TEXTS: made, looked up, written to.
-/
namespace Go.Proofs.YtghdgjabpdfaoaaDoor.Flow
open Go

abbrev Ents := List (List UInt8 × D)

def mget (key : List UInt8) : Ents → Option D
  | [] => none
  | p :: r => if p.1 = key then some p.2 else mget key r
def mput (key : List UInt8) (d : D) : Ents → Ents
  | [] => [(key, d)]
  | p :: r => if p.1 = key then (key, d) :: r else p :: mput key d r
def mdel (key : List UInt8) : Ents → Ents
  | [] => []
  | p :: r => if p.1 = key then r else p :: mdel key r
/-- Where a key stands first. -/
def mpos (key : List UInt8) : Ents → Nat
  | [] => 0
  | p :: r => if p.1 = key then 0 else mpos key r + 1

theorem mpos_le (key : List UInt8) : ∀ es : Ents, mpos key es ≤ es.length
  | [] => Nat.le_refl _
  | p :: r => by
    have := mpos_le key r
    unfold mpos
    split
    · simp
    · simpa using this

theorem mpos_key (key : List UInt8) : ∀ es : Ents, mpos key es < es.length → (es.getD (mpos key es) ([], .any)).1 = key
  | [], h => by simp at h
  | p :: r, h => by
    unfold mpos at h ⊢
    by_cases hk : p.1 = key
    · simp [hk]
    · rw [if_neg hk] at h ⊢
      have := mpos_key key r (by simpa using h)
      simpa using this

theorem mget_pos (key : List UInt8) : ∀ es : Ents, mget key es = if mpos key es < es.length then some (es.getD (mpos key es) ([], .any)).2 else none
  | [] => rfl
  | p :: r => by
    have ih := mget_pos key r
    unfold mget mpos
    by_cases h : p.1 = key
    · simp [h]
    · rw [if_neg h, if_neg h, ih]
      simp

theorem mput_pos (key : List UInt8) (d : D) : ∀ es : Ents, mput key d es = if mpos key es < es.length then es.set (mpos key es) (key, d) else es ++ [(key, d)]
  | [] => rfl
  | p :: r => by
    have ih := mput_pos key d r
    unfold mput mpos
    by_cases h : p.1 = key
    · simp [h]
    · rw [if_neg h, if_neg h, ih]
      simp only [List.length_cons, Nat.add_lt_add_iff_right]
      split <;> simp

/-- The keys of a map's entries. -/
def KeysOk : Ents → List MapEntry → Prop
  | [], [] => True
  | p :: r, e :: l => e.key = .string ⟨p.1.toArray⟩ ∧ KeysOk r l
  | _, _ => False

theorem keys_of : ∀ {es : Ents} {l : List MapEntry}, l.length = es.length → (∀ j, j < es.length → (l.getD j default).key = .string ⟨(es.getD j ([], .any)).1.toArray⟩) → KeysOk es l
  | [], [], _, _ => trivial
  | [], _ :: _, h, _ => by simp at h
  | _ :: _, [], h, _ => by simp at h
  | p :: r, e :: l, hn, h => ⟨h 0 (by simp), keys_of (by simpa using hn) fun j hj => by
      have := h (j + 1) (by simpa using hj)
      simpa using this⟩

theorem str_eq (a b : List UInt8) : ((⟨a.toArray⟩ : ByteArray) == ⟨b.toArray⟩) = decide (a = b) := by
  by_cases h : a = b
  · subst h
    simp [MapKept.bytes_beq]
  · rw [decide_eq_false h]
    cases hb : ((⟨a.toArray⟩ : ByteArray) == ⟨b.toArray⟩) with
    | false => rfl
    | true =>
      have := (MapKept.bytes_beq _ _).1 hb
      simp at this
      exact absurd this h

theorem find_mp (key : List UInt8) : ∀ (es : Ents) (l : List MapEntry) (i : Nat), KeysOk es l →
    Instr.findNow .string (.string ⟨key.toArray⟩) l i = some (if mpos key es < es.length then some (i + mpos key es, (l.getD (mpos key es) default).val) else none)
  | [], [], i, _ => rfl
  | [], _ :: _, _, h => h.elim
  | _ :: _, [], _, h => h.elim
  | p :: r, e :: l, i, h => by
    have ih := find_mp key r l (i + 1) h.2
    have hs : Instr.sameNow .string (.string ⟨key.toArray⟩) e.key = some (decide (key = p.1)) := by
      rw [h.1]
      show some _ = _
      rw [str_eq]
    unfold Instr.findNow
    rw [hs]
    unfold mpos
    by_cases hk : p.1 = key
    · rw [decide_eq_true hk.symm]
      simp [hk]
    · rw [decide_eq_false (fun h => hk h.symm)]
      simp only [ih, hk, if_false, List.length_cons, Nat.add_lt_add_iff_right]
      split
      · simp
        omega
      · rfl

section
variable {P : Program} {X : Ctx} {n : Nat} {O : Nat → Option Own} {w : World} {S : Cells} {r : Rho}

theorem mp_keys {k : Nat} {es : Ents} (h : ObjOk S w r k (.mp es)) : ∃ b arr clock, r k = some (.blk b) ∧ w.heap[b]? = some (.map arr clock) ∧ KeysOk es arr.toList ∧ arr.size = es.length ∧ (∀ j, j < es.length → EntOk S w r (es.getD j ([], .any)) (arr.getD j default)) ∧ BornOk arr clock ∧ ∀ o, ¬ S b o := by
  obtain ⟨b, arr, clock, h1, h2, h3, h4, h5, h6⟩ := h
  refine ⟨b, arr, clock, h1, h2, keys_of (by simpa using h3) (fun j hj => ?_), h3, h4, h5, h6⟩
  have := (h4 j hj).1
  simpa [List.getD_eq_getElem?_getD, Array.getD_eq_getD_getElem?] using this

/-- A new map. -/
theorem newMp_ok (hH : Hist X w S) (hI : Inv X w S r O) {k : Nat} (hk : O k = none) :
    ∃ r', Rel S (w.alloc (.map #[] 0)) r' (.mh k) (.map (some w.heap.size)) ∧ Hist X (w.alloc (.map #[] 0)) S ∧ Inv X (w.alloc (.map #[] 0)) S r' (updO O [(k, .mp [])]) ∧
      (∀ b o, S b o → (w.alloc (.map #[] 0)).cell? ⟨b, o, none⟩ = w.cell? ⟨b, o, none⟩) ∧ RhoLe r r' := by
  have hc := Chg.alloc w S hH.valid (.map #[] 0)
  have hr : RhoLe r (updR r k (.blk w.heap.size)) := RhoLe.new (hI.dom k hk)
  have hk0 : updR r k (.blk w.heap.size) k = some (.blk w.heap.size) := by simp [updR]
  refine ⟨updR r k (.blk w.heap.size), .mh _ k _ hk0, ?_, ?_, hc.cell, hr⟩
  · exact hH.chg hc (fun b hb => by cases hb) (fun _ _ h => h) (fun b o h => .inl h)
  · refine hI.put hc (fun _ _ h => h) hr k _ (.blk w.heap.size) ?_ hk0 (fun j hj => by simp [updR, hj]) (fun b hb => ?_) (fun b hb => by cases hb) (fun b o h => .inl h)
    · exact ⟨w.heap.size, #[], 0, hk0, heap_alloc_new w _, rfl, fun j hj => by simp at hj, ⟨fun i j _ h => by simp at h, fun i h => by simp at h⟩, fun o ho => by have := hH.valid _ _ ho; omega⟩
    · simp only [Loc.block, Option.some.injEq] at hb
      subst hb
      exact .inl ⟨Nat.le_refl _, .inl hH.size⟩

/-- A map's entries become others. -/
theorem setMp_ok {es es2 : Ents} {arr arr2 : Array MapEntry} {clock clock2 b : Nat} (hH : Hist X w S) (hI : Inv X w S r O) {k : Nat} (hk : O k = some (.mp es)) (hb : r k = some (.blk b)) (hw : w.heap[b]? = some (.map arr clock)) (hS : ∀ o, ¬ S b o)
    (hn : arr2.size = es2.length) (he : ∀ j, j < es2.length → EntOk S w r (es2.getD j ([], .any)) (arr2.getD j default)) (hbo : BornOk arr2 clock2) :
    Hist X { w with heap := w.heap.setIfInBounds b (.map arr2 clock2) } S ∧ Inv X { w with heap := w.heap.setIfInBounds b (.map arr2 clock2) } S r (updO O [(k, .mp es2)]) ∧
      (∀ b' o, S b' o → ({ w with heap := w.heap.setIfInBounds b (.map arr2 clock2) } : World).cell? ⟨b', o, none⟩ = w.cell? ⟨b', o, none⟩) := by
  have hc := Chg.setObj w S b (.map arr2 clock2) hS
  have hlow := hI.low k _ b hb rfl
  refine ⟨?_, ?_, hc.cell⟩
  · exact hH.chg hc (fun b' hb' => by cases hb'; exact hlow) (fun _ _ h => h) (fun b o h => .inl h)
  · refine hI.put hc (fun _ _ h => h) (RhoLe.refl r) k _ (.blk b) ?_ hb (fun _ _ => rfl) (fun b' hb' => .inr ⟨_, hb, hb'⟩) (fun b' hb' => ⟨_, hb, hb'⟩) (fun b o h => .inl h)
    have hlt := (Array.getElem?_eq_some_iff.1 hw).1
    exact ⟨b, arr2, clock2, hb, by simp [hlt], hn, fun j hj => ⟨(he j hj).1, (he j hj).2.1.mono (fun _ _ h => h) hc.cell r (RhoLe.refl r), (he j hj).2.2⟩, hbo, hS⟩

variable {o : Oper} {fr : Fr} {ow : Ow} {t k : Nat} {ty kt et : TypeId} {x y z : Operand} {es : Ents} {key : List UInt8}

theorem mnew_step (ho : o.op = .makeMap ty none) (ht : look t ow = none) (hd : dstOk o.dst n) :
    ∀ F' O', (∀ y ∈ o.op.operands.toList, evF F' y = evF (fF fr) y) → (∀ j ∈ [t], O' j = fO ow j) → StepAt P X n o F' O' (.mh t) [(t, .mp [])] := by
  intro F' O' he hO
  refine stepAt_of hd fun a w S r hH hI hr => ?_
  have hk : O' t = none := (hO t (by simp)).trans ht
  obtain ⟨r', g1, g2, g3, g4, g5⟩ := newMp_ok hH hI hk
  refine ⟨_, _, S, r', .inl ?_, g1, g2, g3, fun _ _ h => h, g4, g5⟩
  simp [execOp, ho, Instr.makeMap, Sem.run_bind, newObj, Sem.run, Result.andThen]

/-- The pair of a look-up. -/
def gotD (ok : Bool) (d : D) (c : Bool) : D :=
  match c with
  | true => .tu [d, .b ok]
  | false => d

theorem got_rel {d : D} {v : Value} (h : Rel S w r d v) (ok c : Bool) : Rel S w r (gotD ok d c) (if c then .tuple #[v, .bool ok] else v) := by
  cases c with
  | false => exact h
  | true =>
    refine .tu _ _ _ rfl fun j hj => ?_
    match j, hj with
    | 0, _ => exact h
    | 1, _ => exact .b ..

theorem mhit_step {d : D} {c : Bool} (hm : P.underlying ty = some (.map kt et)) (hkt : P.underlying kt = some .string) (ho : o.op = .lookup ty x y c) (hx : ev fr x = .mh k) (hy : ev fr y = .s key) (hk : look k ow = some (.mp es)) (hg : mget key es = some d) (hd : dstOk o.dst n) :
    ∀ F' O', (∀ y ∈ o.op.operands.toList, evF F' y = evF (fF fr) y) → (∀ j ∈ [k], O' j = fO ow j) → StepAt P X n o F' O' (gotD true d c) [] := by
  intro F' O' he hO
  refine stepAt_of hd fun a w S r hH hI hr => ?_
  have hx' := hr x
  rw [he x (by simp [ho, Op.operands]), evF_fF, hx] at hx'
  have hy' := hr y
  rw [he y (by simp [ho, Op.operands]), evF_fF, hy] at hy'
  obtain ⟨b, arr, clock, h1, h2, h3, h4, h5, h6, h7⟩ := mp_keys (hI.obj k _ ((hO k (by simp)).trans hk))
  generalize hvx : a.eval x = vx at hx'
  generalize hvy : a.eval y = vy at hy'
  cases hy'
  cases hx' with
  | mh _ _ b' hb' =>
    rw [h1] at hb'
    cases hb'
    have hf := find_mp key es arr.toList 0 h3
    rw [mget_pos] at hg
    split at hg
    · rename_i hlt
      rw [if_pos hlt] at hf
      obtain ⟨_, hev, _⟩ := h5 _ hlt
      rw [Option.some.inj hg] at hev
      have e1 : arr.toList.getD (mpos key es) default = arr.getD (mpos key es) default := by simp [List.getD_eq_getElem?_getD, Array.getD_eq_getD_getElem?]
      rw [e1] at hf
      refine fin_value hH hI rfl ?_ (got_rel hev true c)
      simp [execOp, ho, hvx, hvy, Instr.lookup, run_underlying hm, MapKept.run_getObj_map h2, MapKept.run_checkKey hkt (show MapKept.IsKey .string (.string ⟨key.toArray⟩) from trivial), MapKept.run_findKey hkt hf, Result.andThen]
    · cases hg

theorem mmiss_step {zd : D} {c : Bool} {B' : Tb} (hB : tb P = B') (hz : B'.zr et = some zd) (hm : P.underlying ty = some (.map kt et)) (hkt : P.underlying kt = some .string) (ho : o.op = .lookup ty x y c) (hx : ev fr x = .mh k) (hy : ev fr y = .s key) (hk : look k ow = some (.mp es)) (hg : mget key es = none) (hd : dstOk o.dst n) :
    ∀ F' O', (∀ y ∈ o.op.operands.toList, evF F' y = evF (fF fr) y) → (∀ j ∈ [k], O' j = fO ow j) → StepAt P X n o F' O' (gotD false zd c) [] := by
  intro F' O' he hO
  have hz' : zeroD P et = some zd := by subst hB; exact hz
  obtain ⟨i, zv, q1, q2, q3⟩ := zeroD_spec hz'
  refine stepAt_of hd fun a w S r hH hI hr => ?_
  have hx' := hr x
  rw [he x (by simp [ho, Op.operands]), evF_fF, hx] at hx'
  have hy' := hr y
  rw [he y (by simp [ho, Op.operands]), evF_fF, hy] at hy'
  obtain ⟨b, arr, clock, h1, h2, h3, h4, h5, h6, h7⟩ := mp_keys (hI.obj k _ ((hO k (by simp)).trans hk))
  have hzv := ofVal_rel S w r zv
  rw [← q3] at hzv
  generalize hvx : a.eval x = vx at hx'
  generalize hvy : a.eval y = vy at hy'
  cases hy'
  cases hx' with
  | mh _ _ b' hb' =>
    rw [h1] at hb'
    cases hb'
    have hf := find_mp key es arr.toList 0 h3
    rw [mget_pos] at hg
    split at hg
    · cases hg
    · rename_i hlt
      rw [if_neg hlt] at hf
      refine fin_value hH hI rfl ?_ (got_rel hzv false c)
      simp [execOp, ho, hvx, hvy, Instr.lookup, run_underlying hm, MapKept.run_getObj_map h2, MapKept.run_checkKey hkt (show MapKept.IsKey .string (.string ⟨key.toArray⟩) from trivial), MapKept.run_findKey hkt hf, Result.andThen, zeroValue, typeInfo, q1, q2]

theorem mput_step {d : D} (hm : P.underlying ty = some (.map kt et)) (hkt : P.underlying kt = some .string) (ho : o.op = .mapUpdate ty x y z) (hx : ev fr x = .mh k) (hy : ev fr y = .s key) (hz : ev fr z = d) (h1d : d.one = true) (hk : look k ow = some (.mp es)) (hdst : o.dst = none) :
    ∀ F' O', (∀ y ∈ o.op.operands.toList, evF F' y = evF (fF fr) y) → (∀ j ∈ [k], O' j = fO ow j) → StepAt P X n o F' O' .any [(k, .mp (mput key d es))] := by
  intro F' O' he hO
  refine stepAt_of (by rw [hdst]; trivial) fun a w S r hH hI hr => ?_
  have hx' := hr x
  rw [he x (by simp [ho, Op.operands]), evF_fF, hx] at hx'
  have hy' := hr y
  rw [he y (by simp [ho, Op.operands]), evF_fF, hy] at hy'
  have hz' := hr z
  rw [he z (by simp [ho, Op.operands]), evF_fF, hz] at hz'
  have hkO := (hO k (by simp)).trans hk
  obtain ⟨b, arr, clock, h1, h2, h3, h4, h5, h6, h7⟩ := mp_keys (hI.obj k _ hkO)
  generalize hvx : a.eval x = vx at hx'
  generalize hvy : a.eval y = vy at hy'
  generalize hvz : a.eval z = vz at hz'
  cases hy'
  cases hx' with
  | mh _ _ b' hb' =>
    rw [h1] at hb'
    cases hb'
    have hf := find_mp key es arr.toList 0 h3
    rw [mput_pos]
    by_cases hlt : mpos key es < es.length
    · rw [if_pos hlt] at hf ⊢
      obtain ⟨hek, hev, heo⟩ := h5 _ hlt
      have hsz : mpos key es < arr.size := by omega
      have hj : arr[mpos key es]? = some (arr.getD (mpos key es) default) := by simp [Array.getD_eq_getD_getElem?, hsz]
      have hkey : (es.getD (mpos key es) ([], .any)).1 = key := mpos_key key es hlt
      rw [hkey] at hek
      have hk0 : MapKept.IsKey .string (.string ⟨key.toArray⟩) := trivial
      have hgm : ∀ j, (arr.modify (mpos key es) fun e => { e with key := .string ⟨key.toArray⟩, val := vz }).getD j default = if j = mpos key es then { arr.getD (mpos key es) default with key := .string ⟨key.toArray⟩, val := vz } else arr.getD j default := fun j => by
        simp only [Array.getD_eq_getD_getElem?, Array.getElem?_modify]
        by_cases h : j = mpos key es
        · subst h
          simp [hsz]
        · rw [if_neg h, if_neg (fun e => h e.symm)]
      obtain ⟨g1, g2, g3⟩ := setMp_ok (es2 := es.set (mpos key es) (key, d)) (arr2 := arr.modify (mpos key es) fun e => { e with key := .string ⟨key.toArray⟩, val := vz }) (clock2 := clock) hH hI hkO h1 h2 h7 (by simpa using h4)
        (fun j hj2 => by
          rw [hgm]
          by_cases h : j = mpos key es
          · subst h
            rw [if_pos rfl, List.getD_eq_getElem?_getD, List.getElem?_set_self hlt]
            exact ⟨rfl, hz', h1d⟩
          · rw [if_neg h, List.getD_eq_getElem?_getD, List.getElem?_set_ne (fun e => h e.symm), ← List.getD_eq_getElem?_getD]
            exact h5 j (by simpa using hj2))
        (by
          have hb : ∀ j, ((arr.modify (mpos key es) fun e => { e with key := .string ⟨key.toArray⟩, val := vz }).getD j default).born = (arr.getD j default).born := fun j => by
            rw [hgm]
            by_cases h : j = mpos key es
            · subst h
              rw [if_pos rfl]
            · rw [if_neg h]
          refine ⟨fun i j hij hj2 => ?_, fun i hi2 => ?_⟩
          · rw [hb, hb]
            exact h6.1 i j hij (by simpa using hj2)
          · rw [hb]
            exact h6.2 i (by simpa using hi2))
      refine ⟨undef, _, S, r, .inr ⟨?_, rfl⟩, .any .., g1, g2, fun _ _ h => h, g3, RhoLe.refl r⟩
      obtain ⟨e0, hj0, hek0⟩ : ∃ e0, arr[mpos key es]? = some e0 ∧ e0.key = .string ⟨key.toArray⟩ := ⟨_, hj, hek⟩
      clear hj hek hev hgm
      simp [execOp, ho, hvx, hvy, hvz, Instr.mapUpdate, run_underlying hm, MapKept.run_getObj_map h2, MapKept.run_checkKey hkt hk0, MapKept.run_findKey hkt hf, hj0, hek0, MapKept.run_keyThatStays hk0, MapKept.run_setObj_map _ h2, Result.andThen]
    · rw [if_neg hlt] at hf ⊢
      have hk0 : MapKept.IsKey .string (.string ⟨key.toArray⟩) := trivial
      have hgp : ∀ j, (arr.push ⟨.string ⟨key.toArray⟩, vz, clock⟩).getD j default = if j = arr.size then ⟨.string ⟨key.toArray⟩, vz, clock⟩ else arr.getD j default := fun j => by
        simp only [Array.getD_eq_getD_getElem?, Array.getElem?_push]
        by_cases h : j = arr.size
        · subst h
          simp
        · rw [if_neg h, if_neg h]
      obtain ⟨g1, g2, g3⟩ := setMp_ok (es2 := es ++ [(key, d)]) (arr2 := arr.push ⟨.string ⟨key.toArray⟩, vz, clock⟩) (clock2 := clock + 1) hH hI hkO h1 h2 h7 (by simp [h4])
        (fun j hj2 => by
          rw [hgp]
          by_cases h : j = arr.size
          · subst h
            rw [if_pos rfl, h4, List.getD_eq_getElem?_getD, List.getElem?_append_right (Nat.le_refl _)]
            simp only [Nat.sub_self]
            exact ⟨rfl, hz', h1d⟩
          · have hj3 : j < es.length := by
              simp only [List.length_append, List.length_cons, List.length_nil] at hj2
              omega
            rw [if_neg h, List.getD_eq_getElem?_getD, List.getElem?_append_left hj3, ← List.getD_eq_getElem?_getD]
            exact h5 j hj3)
        (by
          refine ⟨fun i j hij hj2 => ?_, fun i hi2 => ?_⟩
          · rw [hgp, hgp]
            have hj3 : j < arr.size + 1 := by simpa using hj2
            rw [if_neg (show ¬ i = arr.size by omega)]
            by_cases h : j = arr.size
            · rw [if_pos h]
              exact h6.2 i (by omega)
            · rw [if_neg h]
              exact h6.1 i j hij (by omega)
          · rw [hgp]
            have hi3 : i < arr.size + 1 := by simpa using hi2
            by_cases h : i = arr.size
            · rw [if_pos h]
              exact Nat.lt_succ_self _
            · rw [if_neg h]
              exact Nat.lt_succ_of_lt (h6.2 i (by omega)))
      refine ⟨undef, _, S, r, .inr ⟨?_, rfl⟩, .any .., g1, g2, fun _ _ h => h, g3, RhoLe.refl r⟩
      simp [execOp, ho, hvx, hvy, hvz, Instr.mapUpdate, run_underlying hm, MapKept.run_getObj_map h2, MapKept.run_checkKey hkt hk0, MapKept.run_findKey hkt hf, MapKept.run_setObj_map _ h2, Result.andThen]

theorem mclr_step (hm : P.underlying ty = some (.map kt et)) (ho : o.op = .call ⟨.builtin .clear, #[x], #[ty]⟩) (hx : ev fr x = .mh k) (hk : look k ow = some (.mp es)) (hd : dstOk o.dst n) :
    ∀ F' O', (∀ y ∈ o.op.operands.toList, evF F' y = evF (fF fr) y) → (∀ j ∈ [k], O' j = fO ow j) → StepAt P X n o F' O' (.tu []) [(k, .mp [])] := by
  intro F' O' he hO
  refine stepAt_of hd fun a w S r hH hI hr => ?_
  have hx' := hr x
  rw [he x (by simp [ho, Op.operands, Call.operands]), evF_fF, hx] at hx'
  have hkO := (hO k (by simp)).trans hk
  obtain ⟨b, arr, clock, h1, h2, h3, h4, h5, h6, h7⟩ := mp_keys (hI.obj k _ hkO)
  generalize hvx : a.eval x = vx at hx'
  cases hx' with
  | mh _ _ b' hb' =>
    rw [h1] at hb'
    cases hb'
    obtain ⟨g1, g2, g3⟩ := setMp_ok (es2 := []) (arr2 := #[]) (clock2 := clock) hH hI hkO h1 h2 h7 rfl (fun j hj => by simp at hj) ⟨fun i j _ h => by simp at h, fun i h => by simp at h⟩
    refine ⟨.tuple #[], _, S, r, .inl ?_, .tu _ _ _ rfl (fun j hj => by simp at hj), g1, g2, fun _ _ h => h, g3, RhoLe.refl r⟩
    simp [execOp, ho, resolve, invoke, builtin, hvx, Builtin.clear_, run_underlying hm, MapKept.run_getObj_map h2, MapKept.run_setObj_map _ h2, Result.andThen]

end

section
variable {X : Ctx} {n : Nat} {all rest : List Oper} {fr : Fr} {ow : Ow} {tr : List (List Nat × List Nat)} {K : Fr → Ow → List (List Nat × List Nat) → Prop}
variable {t k : Nat} {ty ty' kt et t2 : TypeId} {ps : String} {af : Array Edge} {x y z : Operand} {es : Ents} {key : List UInt8} {d : D} {c : Bool} {g u : Nat} {want : Bool}

set_option maxRecDepth 100000 in
/-- A new map. -/
theorem r_mnew (ht : look t ow = none) (hn : Nat.blt t n = true) (h : CT Tryd.prog X n all rest ((t, .mh t) :: fr) ((t, .mp []) :: ow) (tr ++ [([t], [t])]) K) :
    CT Tryd.prog X n all (⟨some t, .makeMap ty none, ty', ps, af, none⟩ :: rest) fr ow tr K :=
  CT.cons (e := ⟨.mh t, [t], [(t, .mp [])]⟩) (.plain rfl (mnew_step (o := ⟨some t, .makeMap ty none, ty', ps, af, none⟩) rfl ht (show t < n by simpa using hn))) (fF_cons ..) (fO_cons ..) h

set_option maxRecDepth 100000 in
/-- A key that is there. -/
theorem r_mhit (hm : Tryd.prog.underlying ty = some (.map kt et)) (hkt : Tryd.prog.underlying kt = some .string) (hx : ev fr x = .mh k) (hy : ev fr y = .s key) (hk : look k ow = some (.mp es)) (hg : mget key es = some d) (hn : Nat.blt t n = true)
    (h : CT Tryd.prog X n all rest ((t, gotD true d c) :: fr) ow (tr ++ [([k], [])]) K) : CT Tryd.prog X n all (⟨some t, .lookup ty x y c, ty', ps, af, none⟩ :: rest) fr ow tr K :=
  CT.cons (e := ⟨gotD true d c, [k], []⟩) (.plain rfl (mhit_step (o := ⟨some t, .lookup ty x y c, ty', ps, af, none⟩) hm hkt rfl hx hy hk hg (show t < n by simpa using hn))) (fF_cons ..) rfl h

set_option maxRecDepth 100000 in
/-- A key that is not there. -/
theorem r_mmiss (hm : Tryd.prog.underlying ty = some (.map kt et)) (hkt : Tryd.prog.underlying kt = some .string) (hz : B.zr et = some d) (hx : ev fr x = .mh k) (hy : ev fr y = .s key) (hk : look k ow = some (.mp es)) (hg : mget key es = none) (hn : Nat.blt t n = true)
    (h : CT Tryd.prog X n all rest ((t, gotD false d c) :: fr) ow (tr ++ [([k], [])]) K) : CT Tryd.prog X n all (⟨some t, .lookup ty x y c, ty', ps, af, none⟩ :: rest) fr ow tr K :=
  CT.cons (e := ⟨gotD false d c, [k], []⟩) (.plain rfl (mmiss_step (o := ⟨some t, .lookup ty x y c, ty', ps, af, none⟩) tb_eq hz hm hkt rfl hx hy hk hg (show t < n by simpa using hn))) (fF_cons ..) rfl h

set_option maxRecDepth 100000 in
/-- An entry written. -/
theorem r_mput (hm : Tryd.prog.underlying ty = some (.map kt et)) (hkt : Tryd.prog.underlying kt = some .string) (hx : ev fr x = .mh k) (hy : ev fr y = .s key) (hz : ev fr z = d) (h1 : d.one = true) (hk : look k ow = some (.mp es))
    (h : CT Tryd.prog X n all rest fr ((k, .mp (mput key d es)) :: ow) (tr ++ [([k], [k])]) K) : CT Tryd.prog X n all (⟨none, .mapUpdate ty x y z, ty', ps, af, none⟩ :: rest) fr ow tr K :=
  CT.cons (e := ⟨.any, [k], [(k, .mp (mput key d es))]⟩) (.plain rfl (mput_step (o := ⟨none, .mapUpdate ty x y z, ty', ps, af, none⟩) hm hkt rfl hx hy hz h1 hk rfl)) rfl (fO_cons ..) h

set_option maxRecDepth 100000 in
/-- All entries taken out. -/
theorem r_mclr (hm : Tryd.prog.underlying ty = some (.map kt et)) (hx : ev fr x = .mh k) (hk : look k ow = some (.mp es)) (hn : Nat.blt t n = true)
    (h : CT Tryd.prog X n all rest ((t, .tu []) :: fr) ((k, .mp []) :: ow) (tr ++ [([k], [k])]) K) : CT Tryd.prog X n all (⟨some t, .call ⟨.builtin .clear, #[x], #[ty]⟩, ty', ps, af, none⟩ :: rest) fr ow tr K :=
  CT.cons (e := ⟨.tu [], [k], [(k, .mp [])]⟩) (.plain rfl (mclr_step (o := ⟨some t, .call ⟨.builtin .clear, #[x], #[ty]⟩, ty', ps, af, none⟩) hm rfl hx hk (show t < n by simpa using hn))) (fF_cons ..) (fO_cons ..) h
end

end Go.Proofs.YtghdgjabpdfaoaaDoor.Flow

/- REQ: is gzip taken? The law of words. -/
namespace Go.Proofs.YtghdgjabpdfaoaaDoor.Flow
open Go

abbrev Fnd := List (List UInt8 × Int)
def iget (k : List UInt8) : Fnd → Option Int
  | [] => none
  | p :: r => if p.1 = k then some p.2 else iget k r
def mapI (es : Fnd) : Ents := es.map fun p => (p.1, .i .i64 p.2)
theorem mget_mapI (k : List UInt8) : ∀ es, mget k (mapI es) = (iget k es).map fun i => D.i .i64 i
  | [] => rfl
  | p :: r => by
    have ih := mget_mapI k r
    simp only [mapI] at ih
    simp only [mapI, List.map_cons, mget, iget]
    split
    · rfl
    · exact ih
theorem mput_mapI {k : List UInt8} (q : Int) : ∀ {es : Fnd}, iget k es = none → mput k (.i .i64 q) (mapI es) = mapI (es ++ [(k, q)])
  | [], _ => rfl
  | p :: r, h => by
    unfold iget at h
    split at h
    · cases h
    · rename_i hne
      have ih := mput_mapI q h
      simp only [mapI] at ih
      simp only [mapI, List.map_cons, List.cons_append, mput]
      rw [if_neg hne, ih]

theorem okM (ks : List Nat) (es : Fnd) : (Own.mp (mapI es)).okIn ks = true := by
  show (mapI es).all (fun p => p.2.okIn ks) = true
  rw [List.all_eq_true]
  intro p hp
  obtain ⟨q, _, rfl⟩ := List.mem_map.1 hp
  rfl
theorem okW {fr : Fr} {es : Fnd} (h : fr.all (fun x => x.2.okIn [15]) = true) : okAll [15] fr [(15, .mp (mapI es))] = true := by
  unfold okAll
  rw [h, List.all_cons, okM]
  rfl

def addV (es : Fnd) (s : List UInt8) : Fnd := if (elemV s).2.2 = true ∧ iget (elemV s).1 es = none then es ++ [((elemV s).1, (elemV s).2.1)] else es
def partsV (es : Fnd) (ps : List (List UInt8)) : Fnd := ps.foldl addV es
def valsV (vs : List (List UInt8)) : Fnd := vs.foldl (fun es v => partsV es (splitL v [44])) []
def accV (vs : List (List UInt8)) : Bool := match iget [103, 122, 105, 112] (valsV vs) with
  | some q => decide (0 < q)
  | none => decide (0 < (iget [42] (valsV vs)).getD 0)

theorem parts_succ {es : Fnd} {ps : List (List UInt8)} {j : Nat} (h : j < ps.length) : partsV es (ps.take (j + 1)) = addV (partsV es (ps.take j)) (ps.getD j []) := by
  unfold partsV
  rw [List.take_add_one, List.foldl_append]
  have : ps[j]? = some (ps.getD j []) := by simp [List.getD_eq_getElem?_getD, h]
  rw [this]
  rfl
theorem vals_succ {vs : List (List UInt8)} {i : Nat} (h : i < vs.length) : valsV (vs.take (i + 1)) = partsV (valsV (vs.take i)) (splitL (vs.getD i []) [44]) := by
  unfold valsV
  rw [List.take_add_one, List.foldl_append]
  have : vs[i]? = some (vs.getD i []) := by simp [List.getD_eq_getElem?_getD, h]
  rw [this]
  rfl

theorem und_found : Tryd.prog.underlying 72 = some (.map 9 3) := by kernel_rfl

set_option maxRecDepth 100000 in
set_option maxHeartbeats 1000000 in
theorem accepts_ctr (vs : List (List UInt8)) (n : Nat) (f : Nat → List D) (hn : n = vs.length) (hf : ∀ i, i < vs.length → f i = [.s (vs.getD i [])]) (hl : vs.length ≤ 3000) (hv : ∀ i, (vs.getD i []).length ≤ 100000) (hp : ∀ i j, ((splitL (vs.getD i []) [44]).getD j []).length ≤ 100000) :
    Ctr Tryd.prog 36 [.sl 1 n f] (.b (accV vs)) := by
  subst hn
  refine Ctr.weak1 (a' := .sl 1 vs.length (wxF vs)) ?_ (.sl _ _ _ _ (fun i hi => ⟨by rw [hf i hi]; rfl, rfl⟩) (fun i j hi hj => .of_eq (by rw [hf i hi]; rfl)))
  refine r_fun Tryd.func36 rfl Tryd.ntmps36 Tryd.results36 rfl rfl fun X hL hX => ?_
  repeat' (first
    | refine r_mnew rfl rfl ?_
    | with_reducible (first | refine t_seq ?_ | refine t_region ?_ | refine c_nil ?_ | refine n_then ?_ | refine t_ret ?_ | refine t_skip ?_ | refine t_exit ?_ | refine t_block ?_ | refine n_block ?_ | refine e_then ?_ | refine x_then ?_ | refine x_block ?_ | refine t_draw ?_)
    | refine r_val rfl rfl True.intro ?_ | refine r_gskip rfl rfl rfl ?_ | refine r_gskip2 rfl rfl rfl ?_ | refine r_gval rfl rfl rfl rfl True.intro ?_
    | refine t_true rfl ?_ | refine t_false rfl ?_
    | ((first | refine t_cond_d rfl ?_ ?_ | refine t_cond_i rfl ?_ ?_ | refine t_cond_j rfl ?_ ?_ | refine t_cond_s rfl ?_ ?_ | refine t_cond_n rfl ?_ ?_ | refine t_cond rfl ?_ ?_ | refine c_split_d rfl rfl ?_ ?_ | refine c_split_i rfl rfl ?_ ?_ | refine c_split_j rfl rfl ?_ ?_ | refine c_split_s rfl rfl ?_ ?_ | refine c_split_n rfl rfl ?_ ?_) <;> intro <;> try (first | contradiction | (exfalso; omega)))
    | ((first | refine r_val rfl rfl ?_ ?_ | refine r_gval rfl rfl rfl rfl ?_ ?_ | refine r_obj rfl rfl ?_ ?_ | refine r_sto rfl ?_ ?_ | refine r_gobj rfl rfl rfl rfl ?_ ?_); focus (first | omega | exact Nat.le_of_ble_eq_true rfl | (simp_all; done) | (simp_all; omega) | ((repeat' refine And.intro ?_ ?_) <;> first | omega | rfl | exact Nat.le_refl _ | exact Nat.le_of_ble_eq_true rfl | exact bytesF_one _ | (simp_all; done) | (simp_all; omega))))
    | refine e_hit rfl ?_ | refine e_miss rfl ?_
    | with_reducible refine ⟨by kernel_rfl, ?_⟩ | ((with_reducible refine c_grd ?_); (fail_if_success (refine c_lit true rfl rfl rfl ?_)); (fail_if_success (refine c_lit false rfl rfl rfl ?_)); refine c_split rfl rfl (fun _ => ?_) (fun _ => ?_)))
  refine T.loop hL (fun i : Nat => [(3, .mh 15), (16, .sl 1 vs.length (wxF vs)), (17, .i .i64 vs.length), (18, .i .i64 i)]) (fun i => [(15, .mp (mapI (valsV (vs.take i))))]) (fun i => i ≤ vs.length) (fun i => vs.length - i) 0 (Nat.zero_le _)
    ⟨⟨rfl, rfl, rfl, rfl, trivial⟩, ⟨rfl, trivial⟩, okW rfl, fun q hq => by rw [hX] at hq; simp at hq⟩ ?_
  intro i hi
  by_cases hil : i < vs.length
  · have hnat : (i : Int).toNat = i := Int.toNat_natCast i
    have hvi := hv (i : Int).toNat
    have hsl := splitL_len (vs.getD (i : Int).toNat []) [44] (by decide)
    have hcs := w_split (vs.getD (i : Int).toNat []) [44] (by omega) (by decide)
    have hpi := hp (i : Int).toNat
    have hvs := vals_succ hil
    rw [← hnat] at hvs
    generalize hps : splitL (vs.getD (i : Int).toNat []) [44] = ps at *
    generalize hes : valsV (vs.take i) = es0 at *
    have hes' : valsV (vs.take (i : Int).toNat) = es0 := by rw [hnat]; exact hes
    rw [hes'] at hvs
    repeat' (first
      | refine r_call (f := 26) rfl rfl Tryd.call26 rfl hcs ?_
      | with_reducible (first | refine t_seq ?_ | refine t_region ?_ | refine c_nil ?_ | refine n_then ?_ | refine t_ret ?_ | refine t_skip ?_ | refine t_exit ?_ | refine t_block ?_ | refine n_block ?_ | refine e_then ?_ | refine x_then ?_ | refine x_block ?_ | refine t_draw ?_)
      | refine r_val rfl rfl True.intro ?_ | refine r_gskip rfl rfl rfl ?_ | refine r_gskip2 rfl rfl rfl ?_ | refine r_gval rfl rfl rfl rfl True.intro ?_
      | refine t_true rfl ?_ | refine t_false rfl ?_
      | ((first | refine t_cond_d rfl ?_ ?_ | refine t_cond_i rfl ?_ ?_ | refine t_cond_j rfl ?_ ?_ | refine t_cond_s rfl ?_ ?_ | refine t_cond_n rfl ?_ ?_ | refine t_cond rfl ?_ ?_ | refine c_split_d rfl rfl ?_ ?_ | refine c_split_i rfl rfl ?_ ?_ | refine c_split_j rfl rfl ?_ ?_ | refine c_split_s rfl rfl ?_ ?_ | refine c_split_n rfl rfl ?_ ?_) <;> intro <;> try (first | contradiction | (exfalso; omega)))
      | ((first | refine r_val rfl rfl ?_ ?_ | refine r_gval rfl rfl rfl rfl ?_ ?_ | refine r_obj rfl rfl ?_ ?_ | refine r_sto rfl ?_ ?_ | refine r_gobj rfl rfl rfl rfl ?_ ?_); focus (first | omega | exact Nat.le_of_ble_eq_true rfl | (simp_all; done) | (simp_all; omega) | ((repeat' refine And.intro ?_ ?_) <;> first | omega | rfl | exact Nat.le_refl _ | exact Nat.le_of_ble_eq_true rfl | exact bytesF_one _ | (simp_all; done) | (simp_all; omega))))
      | refine e_hit rfl ?_ | refine e_miss rfl ?_
      | with_reducible refine ⟨by kernel_rfl, ?_⟩ | ((with_reducible refine c_grd ?_); (fail_if_success (refine c_lit true rfl rfl rfl ?_)); (fail_if_success (refine c_lit false rfl rfl rfl ?_)); refine c_split rfl rfl (fun _ => ?_) (fun _ => ?_)))
    refine T.loop hL (fun j : Nat => [(3, .mh 15), (16, .sl 1 vs.length (wxF vs)), (17, .i .i64 vs.length), (18, .i .i64 i), (23, .sl 1 ps.length (wxF ps)), (24, .i .i64 ps.length), (25, .i .i64 j)]) (fun j => [(15, .mp (mapI (partsV es0 (ps.take j))))]) (fun j => j ≤ ps.length) (fun j => ps.length - j) 0 (Nat.zero_le _)
      ⟨⟨rfl, rfl, rfl, rfl, rfl, rfl, rfl, trivial⟩, ⟨rfl, trivial⟩, okW rfl, fun q hq => by rw [hX] at hq; simp at hq⟩ ?_
    intro j hj
    by_cases hjl : j < ps.length
    · have hnj : (j : Int).toNat = j := Int.toNat_natCast j
      have hce := element_ctr (ps.getD (j : Int).toNat []) (hpi _)
      have hsu := parts_succ (es := es0) hjl
      rw [← hnj] at hsu
      unfold elemD at hce
      unfold addV at hsu
      have hpj : ps.take (j : Int).toNat = ps.take j := by rw [hnj]
      rw [hpj] at hsu
      generalize hx : elemV (ps.getD (j : Int).toNat []) = x at *
      obtain ⟨nm, q, ok⟩ := x
      dsimp only at hce hsu
      generalize hpe : partsV es0 (ps.take j) = es at *
      have hfin : partsV es0 (ps.take (j + 1)) = if ok = true ∧ iget nm es = none then es ++ [(nm, q)] else es := by rw [← hsu, hnj]
      cases hg : iget nm es with
      | none =>
        have hm : mget nm (mapI es) = none := by rw [mget_mapI, hg]; rfl
        cases ok with
        | true =>
          rw [if_pos ⟨rfl, hg⟩] at hfin
          repeat' (first
            | refine r_call (f := 62) rfl rfl Tryd.call62 rfl hce ?_ | refine r_mmiss und_found Tryd.underlying9 rfl rfl rfl rfl hm rfl ?_ | refine r_mput und_found Tryd.underlying9 rfl rfl rfl rfl rfl ?_
            | with_reducible (first | refine t_seq ?_ | refine t_region ?_ | refine c_nil ?_ | refine n_then ?_ | refine t_ret ?_ | refine t_skip ?_ | refine t_exit ?_ | refine t_block ?_ | refine n_block ?_ | refine e_then ?_ | refine x_then ?_ | refine x_block ?_ | refine t_draw ?_)
            | refine r_val rfl rfl True.intro ?_ | refine r_gskip rfl rfl rfl ?_ | refine r_gskip2 rfl rfl rfl ?_ | refine r_gval rfl rfl rfl rfl True.intro ?_
            | refine t_true rfl ?_ | refine t_false rfl ?_
            | ((first | refine t_cond_d rfl ?_ ?_ | refine t_cond_i rfl ?_ ?_ | refine t_cond_j rfl ?_ ?_ | refine t_cond_s rfl ?_ ?_ | refine t_cond_n rfl ?_ ?_ | refine t_cond rfl ?_ ?_ | refine c_split_d rfl rfl ?_ ?_ | refine c_split_i rfl rfl ?_ ?_ | refine c_split_j rfl rfl ?_ ?_ | refine c_split_s rfl rfl ?_ ?_ | refine c_split_n rfl rfl ?_ ?_) <;> intro <;> try (first | contradiction | (exfalso; omega)))
            | ((first | refine r_val rfl rfl ?_ ?_ | refine r_gval rfl rfl rfl rfl ?_ ?_ | refine r_obj rfl rfl ?_ ?_ | refine r_sto rfl ?_ ?_ | refine r_gobj rfl rfl rfl rfl ?_ ?_); focus (first | omega | exact Nat.le_of_ble_eq_true rfl | (simp_all; done) | (simp_all; omega) | ((repeat' refine And.intro ?_ ?_) <;> first | omega | rfl | exact Nat.le_refl _ | exact Nat.le_of_ble_eq_true rfl | exact bytesF_one _ | (simp_all; done) | (simp_all; omega))))
            | refine e_hit rfl ?_ | refine e_miss rfl ?_
            | with_reducible refine ⟨by kernel_rfl, ?_⟩ | ((with_reducible refine c_grd ?_); (fail_if_success (refine c_lit true rfl rfl rfl ?_)); (fail_if_success (refine c_lit false rfl rfl rfl ?_)); refine c_split rfl rfl (fun _ => ?_) (fun _ => ?_)))
          all_goals exact ⟨j + 1, by omega, by omega, ⟨rfl, rfl, rfl, rfl, rfl, rfl, congrArg (D.i .i64) (by omega), trivial⟩, ⟨congrArg (fun e => some (Own.mp e)) (by rw [hfin, ← mput_mapI q hg]; rfl), trivial⟩, okW rfl, fun q hq => by rw [hX] at hq; simp at hq⟩
        | false =>
          rw [if_neg (by simp)] at hfin
          repeat' (first
            | refine r_call (f := 62) rfl rfl Tryd.call62 rfl hce ?_ | refine r_mmiss und_found Tryd.underlying9 rfl rfl rfl rfl hm rfl ?_
            | with_reducible (first | refine t_seq ?_ | refine t_region ?_ | refine c_nil ?_ | refine n_then ?_ | refine t_ret ?_ | refine t_skip ?_ | refine t_exit ?_ | refine t_block ?_ | refine n_block ?_ | refine e_then ?_ | refine x_then ?_ | refine x_block ?_ | refine t_draw ?_)
            | refine r_val rfl rfl True.intro ?_ | refine r_gskip rfl rfl rfl ?_ | refine r_gskip2 rfl rfl rfl ?_ | refine r_gval rfl rfl rfl rfl True.intro ?_
            | refine t_true rfl ?_ | refine t_false rfl ?_
            | ((first | refine t_cond_d rfl ?_ ?_ | refine t_cond_i rfl ?_ ?_ | refine t_cond_j rfl ?_ ?_ | refine t_cond_s rfl ?_ ?_ | refine t_cond_n rfl ?_ ?_ | refine t_cond rfl ?_ ?_ | refine c_split_d rfl rfl ?_ ?_ | refine c_split_i rfl rfl ?_ ?_ | refine c_split_j rfl rfl ?_ ?_ | refine c_split_s rfl rfl ?_ ?_ | refine c_split_n rfl rfl ?_ ?_) <;> intro <;> try (first | contradiction | (exfalso; omega)))
            | ((first | refine r_val rfl rfl ?_ ?_ | refine r_gval rfl rfl rfl rfl ?_ ?_ | refine r_obj rfl rfl ?_ ?_ | refine r_sto rfl ?_ ?_ | refine r_gobj rfl rfl rfl rfl ?_ ?_); focus (first | omega | exact Nat.le_of_ble_eq_true rfl | (simp_all; done) | (simp_all; omega) | ((repeat' refine And.intro ?_ ?_) <;> first | omega | rfl | exact Nat.le_refl _ | exact Nat.le_of_ble_eq_true rfl | exact bytesF_one _ | (simp_all; done) | (simp_all; omega))))
            | refine e_hit rfl ?_ | refine e_miss rfl ?_
            | with_reducible refine ⟨by kernel_rfl, ?_⟩ | ((with_reducible refine c_grd ?_); (fail_if_success (refine c_lit true rfl rfl rfl ?_)); (fail_if_success (refine c_lit false rfl rfl rfl ?_)); refine c_split rfl rfl (fun _ => ?_) (fun _ => ?_)))
          all_goals exact ⟨j + 1, by omega, by omega, ⟨rfl, rfl, rfl, rfl, rfl, rfl, congrArg (D.i .i64) (by omega), trivial⟩, ⟨by rw [hfin]; rfl, trivial⟩, okW rfl, fun q hq => by rw [hX] at hq; simp at hq⟩
      | some q0 =>
        have hm : mget nm (mapI es) = some (.i .i64 q0) := by rw [mget_mapI, hg]; rfl
        rw [if_neg (by rw [hg]; simp)] at hfin
        cases ok with
        | true =>
          repeat' (first
            | refine r_call (f := 62) rfl rfl Tryd.call62 rfl hce ?_ | refine r_mhit und_found Tryd.underlying9 rfl rfl rfl hm rfl ?_
            | with_reducible (first | refine t_seq ?_ | refine t_region ?_ | refine c_nil ?_ | refine n_then ?_ | refine t_ret ?_ | refine t_skip ?_ | refine t_exit ?_ | refine t_block ?_ | refine n_block ?_ | refine e_then ?_ | refine x_then ?_ | refine x_block ?_ | refine t_draw ?_)
            | refine r_val rfl rfl True.intro ?_ | refine r_gskip rfl rfl rfl ?_ | refine r_gskip2 rfl rfl rfl ?_ | refine r_gval rfl rfl rfl rfl True.intro ?_
            | refine t_true rfl ?_ | refine t_false rfl ?_
            | ((first | refine t_cond_d rfl ?_ ?_ | refine t_cond_i rfl ?_ ?_ | refine t_cond_j rfl ?_ ?_ | refine t_cond_s rfl ?_ ?_ | refine t_cond_n rfl ?_ ?_ | refine t_cond rfl ?_ ?_ | refine c_split_d rfl rfl ?_ ?_ | refine c_split_i rfl rfl ?_ ?_ | refine c_split_j rfl rfl ?_ ?_ | refine c_split_s rfl rfl ?_ ?_ | refine c_split_n rfl rfl ?_ ?_) <;> intro <;> try (first | contradiction | (exfalso; omega)))
            | ((first | refine r_val rfl rfl ?_ ?_ | refine r_gval rfl rfl rfl rfl ?_ ?_ | refine r_obj rfl rfl ?_ ?_ | refine r_sto rfl ?_ ?_ | refine r_gobj rfl rfl rfl rfl ?_ ?_); focus (first | omega | exact Nat.le_of_ble_eq_true rfl | (simp_all; done) | (simp_all; omega) | ((repeat' refine And.intro ?_ ?_) <;> first | omega | rfl | exact Nat.le_refl _ | exact Nat.le_of_ble_eq_true rfl | exact bytesF_one _ | (simp_all; done) | (simp_all; omega))))
            | refine e_hit rfl ?_ | refine e_miss rfl ?_
            | with_reducible refine ⟨by kernel_rfl, ?_⟩ | ((with_reducible refine c_grd ?_); (fail_if_success (refine c_lit true rfl rfl rfl ?_)); (fail_if_success (refine c_lit false rfl rfl rfl ?_)); refine c_split rfl rfl (fun _ => ?_) (fun _ => ?_)))
          all_goals exact ⟨j + 1, by omega, by omega, ⟨rfl, rfl, rfl, rfl, rfl, rfl, congrArg (D.i .i64) (by omega), trivial⟩, ⟨by rw [hfin]; rfl, trivial⟩, okW rfl, fun q hq => by rw [hX] at hq; simp at hq⟩
        | false =>
          repeat' (first
            | refine r_call (f := 62) rfl rfl Tryd.call62 rfl hce ?_ | refine r_mhit und_found Tryd.underlying9 rfl rfl rfl hm rfl ?_
            | with_reducible (first | refine t_seq ?_ | refine t_region ?_ | refine c_nil ?_ | refine n_then ?_ | refine t_ret ?_ | refine t_skip ?_ | refine t_exit ?_ | refine t_block ?_ | refine n_block ?_ | refine e_then ?_ | refine x_then ?_ | refine x_block ?_ | refine t_draw ?_)
            | refine r_val rfl rfl True.intro ?_ | refine r_gskip rfl rfl rfl ?_ | refine r_gskip2 rfl rfl rfl ?_ | refine r_gval rfl rfl rfl rfl True.intro ?_
            | refine t_true rfl ?_ | refine t_false rfl ?_
            | ((first | refine t_cond_d rfl ?_ ?_ | refine t_cond_i rfl ?_ ?_ | refine t_cond_j rfl ?_ ?_ | refine t_cond_s rfl ?_ ?_ | refine t_cond_n rfl ?_ ?_ | refine t_cond rfl ?_ ?_ | refine c_split_d rfl rfl ?_ ?_ | refine c_split_i rfl rfl ?_ ?_ | refine c_split_j rfl rfl ?_ ?_ | refine c_split_s rfl rfl ?_ ?_ | refine c_split_n rfl rfl ?_ ?_) <;> intro <;> try (first | contradiction | (exfalso; omega)))
            | ((first | refine r_val rfl rfl ?_ ?_ | refine r_gval rfl rfl rfl rfl ?_ ?_ | refine r_obj rfl rfl ?_ ?_ | refine r_sto rfl ?_ ?_ | refine r_gobj rfl rfl rfl rfl ?_ ?_); focus (first | omega | exact Nat.le_of_ble_eq_true rfl | (simp_all; done) | (simp_all; omega) | ((repeat' refine And.intro ?_ ?_) <;> first | omega | rfl | exact Nat.le_refl _ | exact Nat.le_of_ble_eq_true rfl | exact bytesF_one _ | (simp_all; done) | (simp_all; omega))))
            | refine e_hit rfl ?_ | refine e_miss rfl ?_
            | with_reducible refine ⟨by kernel_rfl, ?_⟩ | ((with_reducible refine c_grd ?_); (fail_if_success (refine c_lit true rfl rfl rfl ?_)); (fail_if_success (refine c_lit false rfl rfl rfl ?_)); refine c_split rfl rfl (fun _ => ?_) (fun _ => ?_)))
          all_goals exact ⟨j + 1, by omega, by omega, ⟨rfl, rfl, rfl, rfl, rfl, rfl, congrArg (D.i .i64) (by omega), trivial⟩, ⟨by rw [hfin]; rfl, trivial⟩, okW rfl, fun q hq => by rw [hX] at hq; simp at hq⟩
    · have : j = ps.length := by omega
      subst this
      have hfin : valsV (vs.take (i + 1)) = partsV es0 (ps.take ps.length) := by rw [List.take_length, ← hvs, hnat]
      repeat' (first
        | with_reducible (first | refine t_seq ?_ | refine t_region ?_ | refine c_nil ?_ | refine n_then ?_ | refine t_ret ?_ | refine t_skip ?_ | refine t_exit ?_ | refine t_block ?_ | refine n_block ?_ | refine e_then ?_ | refine x_then ?_ | refine x_block ?_ | refine t_draw ?_)
        | refine r_val rfl rfl True.intro ?_ | refine r_gskip rfl rfl rfl ?_ | refine r_gskip2 rfl rfl rfl ?_ | refine r_gval rfl rfl rfl rfl True.intro ?_
        | refine t_true rfl ?_ | refine t_false rfl ?_
        | ((first | refine t_cond_d rfl ?_ ?_ | refine t_cond_i rfl ?_ ?_ | refine t_cond_j rfl ?_ ?_ | refine t_cond_s rfl ?_ ?_ | refine t_cond_n rfl ?_ ?_ | refine t_cond rfl ?_ ?_ | refine c_split_d rfl rfl ?_ ?_ | refine c_split_i rfl rfl ?_ ?_ | refine c_split_j rfl rfl ?_ ?_ | refine c_split_s rfl rfl ?_ ?_ | refine c_split_n rfl rfl ?_ ?_) <;> intro <;> try (first | contradiction | (exfalso; omega)))
        | ((first | refine r_val rfl rfl ?_ ?_ | refine r_gval rfl rfl rfl rfl ?_ ?_ | refine r_obj rfl rfl ?_ ?_ | refine r_sto rfl ?_ ?_ | refine r_gobj rfl rfl rfl rfl ?_ ?_); focus (first | omega | exact Nat.le_of_ble_eq_true rfl | (simp_all; done) | (simp_all; omega) | ((repeat' refine And.intro ?_ ?_) <;> first | omega | rfl | exact Nat.le_refl _ | exact Nat.le_of_ble_eq_true rfl | exact bytesF_one _ | (simp_all; done) | (simp_all; omega))))
        | refine e_hit rfl ?_ | refine e_miss rfl ?_
        | with_reducible refine ⟨by kernel_rfl, ?_⟩ | ((with_reducible refine c_grd ?_); (fail_if_success (refine c_lit true rfl rfl rfl ?_)); (fail_if_success (refine c_lit false rfl rfl rfl ?_)); refine c_split rfl rfl (fun _ => ?_) (fun _ => ?_)))
      all_goals exact ⟨i + 1, by omega, by omega, ⟨rfl, rfl, rfl, congrArg (D.i .i64) (by omega), trivial⟩, ⟨by rw [hfin]; rfl, trivial⟩, okW rfl, fun q hq => by rw [hX] at hq; simp at hq⟩
  · have : i = vs.length := by omega
    subst this
    unfold accV
    rw [List.take_length]
    generalize valsV vs = es
    cases hg : iget [103, 122, 105, 112] es with
    | some q =>
      have hm : mget [103, 122, 105, 112] (mapI es) = some (.i .i64 q) := by rw [mget_mapI, hg]; rfl
      repeat' (first
        | refine r_mhit (key := [103, 122, 105, 112]) und_found Tryd.underlying9 rfl rfl rfl hm rfl ?_
        | with_reducible (first | refine t_seq ?_ | refine t_region ?_ | refine c_nil ?_ | refine n_then ?_ | refine t_ret ?_ | refine t_skip ?_ | refine t_exit ?_ | refine t_block ?_ | refine n_block ?_ | refine e_then ?_ | refine x_then ?_ | refine x_block ?_ | refine t_draw ?_)
        | refine r_val rfl rfl True.intro ?_ | refine r_gskip rfl rfl rfl ?_ | refine r_gskip2 rfl rfl rfl ?_ | refine r_gval rfl rfl rfl rfl True.intro ?_
        | refine t_true rfl ?_ | refine t_false rfl ?_
        | ((first | refine t_cond_d rfl ?_ ?_ | refine t_cond_i rfl ?_ ?_ | refine t_cond_j rfl ?_ ?_ | refine t_cond_s rfl ?_ ?_ | refine t_cond_n rfl ?_ ?_ | refine t_cond rfl ?_ ?_ | refine c_split_d rfl rfl ?_ ?_ | refine c_split_i rfl rfl ?_ ?_ | refine c_split_j rfl rfl ?_ ?_ | refine c_split_s rfl rfl ?_ ?_ | refine c_split_n rfl rfl ?_ ?_) <;> intro <;> try (first | contradiction | (exfalso; omega)))
        | ((first | refine r_val rfl rfl ?_ ?_ | refine r_gval rfl rfl rfl rfl ?_ ?_ | refine r_obj rfl rfl ?_ ?_ | refine r_sto rfl ?_ ?_ | refine r_gobj rfl rfl rfl rfl ?_ ?_); focus (first | omega | exact Nat.le_of_ble_eq_true rfl | (simp_all; done) | (simp_all; omega) | ((repeat' refine And.intro ?_ ?_) <;> first | omega | rfl | exact Nat.le_refl _ | exact Nat.le_of_ble_eq_true rfl | exact bytesF_one _ | (simp_all; done) | (simp_all; omega))))
        | refine e_hit rfl ?_ | refine e_miss rfl ?_
        | with_reducible refine ⟨by kernel_rfl, ?_⟩ | refine x_end rfl ?_ | refine n_end rfl ?_ | ((with_reducible refine c_grd ?_); (fail_if_success (refine c_lit true rfl rfl rfl ?_)); (fail_if_success (refine c_lit false rfl rfl rfl ?_)); refine c_split rfl rfl (fun _ => ?_) (fun _ => ?_)))
      all_goals rfl
    | none =>
      have hm : mget [103, 122, 105, 112] (mapI es) = none := by rw [mget_mapI, hg]; rfl
      cases hg2 : iget [42] es with
      | some q =>
        have hm2 : mget [42] (mapI es) = some (.i .i64 q) := by rw [mget_mapI, hg2]; rfl
        repeat' (first
          | refine r_mmiss (key := [103, 122, 105, 112]) und_found Tryd.underlying9 rfl rfl rfl rfl hm rfl ?_ | refine r_mhit (key := [42]) und_found Tryd.underlying9 rfl rfl rfl hm2 rfl ?_
          | with_reducible (first | refine t_seq ?_ | refine t_region ?_ | refine c_nil ?_ | refine n_then ?_ | refine t_ret ?_ | refine t_skip ?_ | refine t_exit ?_ | refine t_block ?_ | refine n_block ?_ | refine e_then ?_ | refine x_then ?_ | refine x_block ?_ | refine t_draw ?_)
          | refine r_val rfl rfl True.intro ?_ | refine r_gskip rfl rfl rfl ?_ | refine r_gskip2 rfl rfl rfl ?_ | refine r_gval rfl rfl rfl rfl True.intro ?_
          | refine t_true rfl ?_ | refine t_false rfl ?_
          | ((first | refine t_cond_d rfl ?_ ?_ | refine t_cond_i rfl ?_ ?_ | refine t_cond_j rfl ?_ ?_ | refine t_cond_s rfl ?_ ?_ | refine t_cond_n rfl ?_ ?_ | refine t_cond rfl ?_ ?_ | refine c_split_d rfl rfl ?_ ?_ | refine c_split_i rfl rfl ?_ ?_ | refine c_split_j rfl rfl ?_ ?_ | refine c_split_s rfl rfl ?_ ?_ | refine c_split_n rfl rfl ?_ ?_) <;> intro <;> try (first | contradiction | (exfalso; omega)))
          | ((first | refine r_val rfl rfl ?_ ?_ | refine r_gval rfl rfl rfl rfl ?_ ?_ | refine r_obj rfl rfl ?_ ?_ | refine r_sto rfl ?_ ?_ | refine r_gobj rfl rfl rfl rfl ?_ ?_); focus (first | omega | exact Nat.le_of_ble_eq_true rfl | (simp_all; done) | (simp_all; omega) | ((repeat' refine And.intro ?_ ?_) <;> first | omega | rfl | exact Nat.le_refl _ | exact Nat.le_of_ble_eq_true rfl | exact bytesF_one _ | (simp_all; done) | (simp_all; omega))))
          | refine e_hit rfl ?_ | refine e_miss rfl ?_
          | with_reducible refine ⟨by kernel_rfl, ?_⟩ | refine x_end rfl ?_ | refine n_end rfl ?_ | ((with_reducible refine c_grd ?_); (fail_if_success (refine c_lit true rfl rfl rfl ?_)); (fail_if_success (refine c_lit false rfl rfl rfl ?_)); refine c_split rfl rfl (fun _ => ?_) (fun _ => ?_)))
        all_goals rfl
      | none =>
        have hm2 : mget [42] (mapI es) = none := by rw [mget_mapI, hg2]; rfl
        repeat' (first
          | refine r_mmiss (key := [103, 122, 105, 112]) und_found Tryd.underlying9 rfl rfl rfl rfl hm rfl ?_ | refine r_mmiss (key := [42]) und_found Tryd.underlying9 rfl rfl rfl rfl hm2 rfl ?_
          | with_reducible (first | refine t_seq ?_ | refine t_region ?_ | refine c_nil ?_ | refine n_then ?_ | refine t_ret ?_ | refine t_skip ?_ | refine t_exit ?_ | refine t_block ?_ | refine n_block ?_ | refine e_then ?_ | refine x_then ?_ | refine x_block ?_ | refine t_draw ?_)
          | refine r_val rfl rfl True.intro ?_ | refine r_gskip rfl rfl rfl ?_ | refine r_gskip2 rfl rfl rfl ?_ | refine r_gval rfl rfl rfl rfl True.intro ?_
          | refine t_true rfl ?_ | refine t_false rfl ?_
          | ((first | refine t_cond_d rfl ?_ ?_ | refine t_cond_i rfl ?_ ?_ | refine t_cond_j rfl ?_ ?_ | refine t_cond_s rfl ?_ ?_ | refine t_cond_n rfl ?_ ?_ | refine t_cond rfl ?_ ?_ | refine c_split_d rfl rfl ?_ ?_ | refine c_split_i rfl rfl ?_ ?_ | refine c_split_j rfl rfl ?_ ?_ | refine c_split_s rfl rfl ?_ ?_ | refine c_split_n rfl rfl ?_ ?_) <;> intro <;> try (first | contradiction | (exfalso; omega)))
          | ((first | refine r_val rfl rfl ?_ ?_ | refine r_gval rfl rfl rfl rfl ?_ ?_ | refine r_obj rfl rfl ?_ ?_ | refine r_sto rfl ?_ ?_ | refine r_gobj rfl rfl rfl rfl ?_ ?_); focus (first | omega | exact Nat.le_of_ble_eq_true rfl | (simp_all; done) | (simp_all; omega) | ((repeat' refine And.intro ?_ ?_) <;> first | omega | rfl | exact Nat.le_refl _ | exact Nat.le_of_ble_eq_true rfl | exact bytesF_one _ | (simp_all; done) | (simp_all; omega))))
          | refine e_hit rfl ?_ | refine e_miss rfl ?_
          | with_reducible refine ⟨by kernel_rfl, ?_⟩ | refine x_end rfl ?_ | refine n_end rfl ?_ | ((with_reducible refine c_grd ?_); (fail_if_success (refine c_lit true rfl rfl rfl ?_)); (fail_if_success (refine c_lit false rfl rfl rfl ?_)); refine c_split rfl rfl (fun _ => ?_) (fun _ => ?_)))
        all_goals rfl

end Go.Proofs.YtghdgjabpdfaoaaDoor.Flow

/-
  FLOW, PART Zm: A RANGE OVER A MAP THAT WAS LENT: the entries come in whatever order.
-/
namespace Go.Proofs.YtghdgjabpdfaoaaDoor.Flow
open Go

/-- A map as it lay when the call began. -/
structure MapAt (X : Ctx) (k m : Nat) (arr : Array MapEntry) (clock : Nat) (es : Ents) : Prop where
  blk : X.r0 k = some (.blk m)
  size : arr.size = es.length
  ent : ∀ j, j < es.length → EntOk X.S0 X.w0 X.r0 (es.getD j ([], .any)) (arr.getD j default)
  pl : ∀ j, j < es.length → (es.getD j ([], .any)).2.plain = true
  born : BornOk arr clock

section
variable {P : Program} {X : Ctx} {n : Nat} {F : Nat → D} {O : Nat → Option Own} {k m : Nat} {arr : Array MapEntry} {clock : Nat} {es : Ents} {w : World} {S : Cells} {r : Rho}

theorem MapAt.now (h : MapAt X k m arr clock es) (hH : Hist X w S) (r : Rho) {j : Nat} (hj : j < es.length) : EntOk S w r (es.getD j ([], .any)) (arr.getD j default) := by
  obtain ⟨h1, h2, h3⟩ := h.ent j hj
  exact ⟨h1, (h2.mono hH.sub hH.cell X.r0 (RhoLe.refl _)).plain (h.pl j hj) r, h3⟩

theorem MapAt.lies (h : MapAt X k m arr clock es) (hI : Inv X w S r O) (hρ : RhoLe X.r0 r) (hk : O k = some (.ob (.map arr clock))) : r k = some (.blk m) ∧ w.heap[m]? = some (.map arr clock) ∧ ∀ o, ¬ S m o := by
  obtain ⟨l', h1, h2⟩ := hρ k _ h.blk
  obtain ⟨b, h3, h4, h5⟩ := hI.obj k _ hk
  cases l' with
  | row => simp [LocLe] at h2
  | blk b' =>
    simp only [LocLe] at h2
    subst h2
    rw [h1] at h3
    cases h3
    exact ⟨h1, h4, h5⟩

theorem stepAt_of2 {o : Oper} (hd : dstOk o.dst n) {d : D} {wr : List (Nat × Own)}
    (h : ∀ (a : Act) (w : World) (S : Cells) (r : Rho), Hist X w S → Inv X w S r O → (∀ x, Rel S w r (evF F x) (a.eval x)) → RhoLe X.r0 r →
      ∃ v w' S' r', ((execOp a.eval o).run P w = .ok (.value v) w') ∧ Rel S' w' r' d v ∧ Hist X w' S' ∧ Inv X w' S' r' (updO O wr) ∧
        (∀ b o, S b o → S' b o) ∧ (∀ b o, S b o → w'.cell? ⟨b, o, none⟩ = w.cell? ⟨b, o, none⟩) ∧ RhoLe r r') :
    StepAt P X n o F O d wr := by
  intro a w K Q ⟨S, r, hH, hI, hF, hdf, hn, hρ⟩ hK
  obtain ⟨v, w', S', r', hrun, hv, hH', hI', hS, hc, hr⟩ := h a w S r hH hI (fun x => evF_rel hH.glob hF x) hρ
  have hrep : Rep X n (updF F o.dst d) (updO O wr) (a.put o.dst v) w' :=
    ⟨S', r', hH', hI', rel_put (fun t => (hF t).mono hS hc r' hr) (hn ▸ hd) hv, by rw [put_defers]; exact hdf, by rw [put_size]; exact hn, hρ.trans hr⟩
  unfold Oper.wp
  rw [hrun]
  exact hK v w' hrep

variable {o : Oper} {fr : Fr} {ow : Ow} {t i j since : Nat} {ty kt et : TypeId} {x : Operand} {seen : Array Nat}

theorem mrange_step (hm : P.underlying ty = some (.map kt et)) (hM : MapAt X k m arr clock es) (ho : o.op = .range ty x) (hx : ev fr x = .mh k) (hk : look k ow = some (.ob (.map arr clock))) (ht : look t ow = none) (hd : dstOk o.dst n) :
    ∀ F' O', (∀ y ∈ o.op.operands.toList, evF F' y = evF (fF fr) y) → (∀ j ∈ [t, k], O' j = fO ow j) → StepAt P X n o F' O' (.pv t 0) [(t, .ob (.mapIter (some m) clock #[] clock))] := by
  intro F' O' he hO
  refine stepAt_of2 hd fun a w S r hH hI hr hρ => ?_
  have hx' := hr x
  rw [he x (by simp [ho, Op.operands]), evF_fF, hx] at hx'
  have hk' : O' t = none := (hO t (by simp)).trans ht
  obtain ⟨h1, h2, _⟩ := hM.lies hI hρ ((hO k (by simp)).trans hk)
  obtain ⟨r', g1, g2, g3, g4, g5⟩ := newOb_ok (.mapIter (some m) clock #[] clock) hH hI hk'
  refine ⟨_, _, S, r', ?_, g1, g2, g3, fun _ _ h => h, g4, g5⟩
  generalize hv : a.eval x = v at hx'
  cases hx' with
  | mh _ _ b hb =>
    rw [h1] at hb
    cases hb
    have hrun := run_range_map w ty kt et m arr clock hm h2
    simp [execOp, ho, hv, hrun, Result.andThen]

theorem born_nodup (h : BornOk arr clock) : (arr.toList.map (·.born)).Nodup := by
  unfold List.Nodup
  rw [List.pairwise_iff_getElem]
  intro i j hi hj hij
  have h1 := h.1 i j hij (by simpa using hj)
  simp only [List.length_map, Array.length_toList] at hi hj
  simp only [Array.getD_eq_getD_getElem?, Array.getElem?_eq_getElem hi, Array.getElem?_eq_getElem hj, Option.getD_some] at h1
  simp only [List.getElem_map, Array.getElem_toList]
  omega

theorem mentry_step (hM : MapAt X k m arr clock es) (ho : o.op = .entry x) (hx : ev fr x = .pv i 0) (hi : look i ow = some (.ob (.mapIter (some m) since (seen.push (arr.getD j default).born) clock))) (hk : look k ow = some (.ob (.map arr clock))) (hj : j < es.length) (hd : dstOk o.dst n) :
    ∀ F' O', (∀ y ∈ o.op.operands.toList, evF F' y = evF (fF fr) y) → (∀ j ∈ [i, k], O' j = fO ow j) → StepAt P X n o F' O' (.tu [.s (es.getD j ([], .any)).1, (es.getD j ([], .any)).2]) [] := by
  intro F' O' he hO
  refine stepAt_of2 hd fun a w S r hH hI hr hρ => ?_
  have hx' := hr x
  rw [he x (by simp [ho, Op.operands]), evF_fF, hx] at hx'
  obtain ⟨h1, h2, _⟩ := hM.lies hI hρ ((hO k (by simp)).trans hk)
  obtain ⟨b, h3, h4, h5⟩ := hI.obj i _ ((hO i (by simp)).trans hi)
  obtain ⟨e1, e2, _⟩ := hM.now hH r hj
  have hjs : j < arr.size := by rw [hM.size]; exact hj
  refine ⟨.tuple #[(arr.getD j default).key, (arr.getD j default).val], w, S, r, ?_, .tu _ _ _ rfl fun q hq => ?_, hH, hI, fun _ _ h => h, fun _ _ _ => rfl, RhoLe.refl r⟩
  · generalize hv : a.eval x = v at hx'
    cases hx' with
    | pv _ _ _ b' hb =>
      rw [h3] at hb
      cases hb
      have hrun := run_entry_at (P := P) w b m since seen arr clock (arr.getD j default) h4 h2 (by
        rw [Array.getD_eq_getD_getElem?, Array.getElem?_eq_getElem hjs]
        simp) (born_nodup hM.born)
      simp [execOp, ho, hv, hrun, Result.andThen]
  · match q, hq with
    | 0, _ =>
      show Rel S w r (.s _) (arr.getD j default).key
      rw [e1]
      exact .s ..
    | 1, _ => exact e2

/-- A region whose first operation may come out in several ways. -/
theorem wp_region_first {id : Nat} {ops : List Oper} {Q : Exit → Act → World → Prop} {a : Act} {w w' : World} {v : Value} {F' : Nat → D} {O' : Nat → Option Own} {ef : List Eff} (hg : o.guard = none) (hrun : (execOp a.eval o).run P w = .ok (.value v) w')
    (hrep : Rep X n F O (a.put o.dst v) w') (hch : Ch P X n (o :: ops) ops F O ef F' O') (hQ : ∀ a w, Rep X n F' O' a w → Q .normal a w) : (Code.region id ⟨o :: ops⟩ false).wp P Q a w := by
  refine wp_region ?_
  rw [List.range_eq_range']
  show wpOps P ⟨o :: ops⟩ Q (List.range' 0 (ops.length + 1)) a w
  rw [List.range'_succ, wpOps_cons]
  unfold wpOp
  simp only [List.getElem?_toArray, List.getElem?_cons_zero, Region.wanted, hg, if_true]
  refine .inl ?_
  unfold Oper.wp
  rw [hrun]
  exact wpOps_of_ch (ops := ⟨o :: ops⟩) (k := 1) hch (fun j => by simp [Nat.add_comm 1 j]) hQ _ _ hrep

theorem T.mnext {id : Nat} {ops : List Oper} {Q : Exit → Fr → Ow → Prop} {c0 : Nat} (hM : MapAt X k m arr clock es) (hg : o.guard = none) (hd : o.dst = some t) (htn : t < n) (ho : o.op = .next x false) (hx : ev fr x = .pv i 0) (hi : look i ow = some (.ob (.mapIter (some m) clock seen c0))) (hc0 : clock ≤ c0) (hk : look k ow = some (.ob (.map arr clock)))
    (h0 : (∀ j, j < es.length → (arr.getD j default).born ∈ seen) → CT P X n (o :: ops) ops ((t, .tu [.b false]) :: fr) ow [] (fun fr ow _ => Q .normal fr ow))
    (h1 : ∀ j, j < es.length → (arr.getD j default).born ∉ seen → CT P X n (o :: ops) ops ((t, .tu [.b true, .s (es.getD j ([], .any)).1, (es.getD j ([], .any)).2]) :: fr) ((i, .ob (.mapIter (some m) clock (seen.push (arr.getD j default).born) clock)) :: ow) [] (fun fr ow _ => Q .normal fr ow)) :
    T P X n (.region id ⟨o :: ops⟩ false) fr ow Q := by
  intro a w ⟨S, r, hH, hI, hF, hdf, hn, hρ⟩
  have hx' := evF_rel hH.glob hF x
  rw [evF_fF, hx] at hx'
  obtain ⟨q1, q2, q3⟩ := hM.lies hI hρ hk
  obtain ⟨b, h3, h4, h5⟩ := hI.obj i _ hi
  generalize hv : a.eval x = v at hx'
  cases hx' with
  | pv _ _ _ b' hb =>
    rw [h3] at hb
    cases hb
    have hold : ∀ y ∈ arr.toList, y.born < clock := fun y hy => by
      obtain ⟨q, hq, rfl⟩ := List.getElem_of_mem hy
      have hq' : q < arr.size := by simpa using hq
      have := hM.born.2 q hq'
      rw [Array.getD_eq_getD_getElem?, Array.getElem?_eq_getElem hq'] at this
      simpa using this
    have hop : ∀ y w1, (Instr.next (.pointer (some ⟨b, 0, none⟩)) false o.type).run P w = .ok y w1 → (execOp a.eval o).run P w = .ok (.value y) w1 := fun y w1 hy => by
      simp only [execOp, ho, hv]
      simp [hy]
    rcases run_next_at (P := P) w o.type b m clock c0 seen arr clock h4 q2 hold hc0 with ⟨hz, hrun⟩ | ⟨e, he, w1, hal, hrun⟩
    · have hall : ∀ j, j < es.length → (arr.getD j default).born ∈ seen := fun j hj => by
        have hjs : j < arr.size := by rw [hM.size]; exact hj
        rw [Array.getD_eq_getD_getElem?, Array.getElem?_eq_getElem hjs, Option.getD_some]
        unfold leftOf at hz
        have he := Array.eq_empty_of_size_eq_zero hz
        rw [Array.filter_eq_empty_iff] at he
        have := he arr[j] (Array.getElem_mem hjs)
        simpa using this
      obtain ⟨ef, fr', ow', hch, hK⟩ := h0 hall
      refine wp_region_first hg (hop _ _ hrun) (F := fF ((t, .tu [.b false]) :: fr)) (O := fO ow) ?_ hch (fun a' w' h' => ⟨fr', ow', hK, h'⟩)
      have hrp := rel_put (d := .tu [.b false]) (v := .tuple #[.bool false]) (dst := some t) hF (by simpa [dstOk, hn] using htn) (.tu _ _ _ rfl fun q hq => by
        match q, hq with
        | 0, _ => exact .b ..)
      rw [hd]
      exact ⟨S, r, hH, hI, fun u => by have := hrp u; rw [fF_cons]; exact this, by rw [put_defers]; exact hdf, by rw [put_size]; exact hn, hρ⟩
    · unfold leftOf at he
      rw [Array.toList_filter, List.mem_filter] at he
      obtain ⟨hm1, hm2⟩ := he
      obtain ⟨q, hq, rfl⟩ := List.getElem_of_mem hm1
      have hqs : q < arr.size := by simpa using hq
      have hqe : q < es.length := by rw [← hM.size]; exact hqs
      have eq : arr.getD q default = arr.toList[q] := by rw [Array.getD_eq_getD_getElem?, Array.getElem?_eq_getElem hqs]; simp
      have hns : (arr.getD q default).born ∉ seen := by
        rw [eq]
        simpa using hm2
      obtain ⟨ef, fr', ow', hch, hK⟩ := h1 q hqe hns
      have hrep1 : ∃ S r, Hist X w1 S ∧ Inv X w1 S r (fO ow) ∧ (∀ t, Rel S w1 r (fF fr t) (a.tmps.getD t undef)) ∧ RhoLe X.r0 r ∧ r i = some (.blk b) ∧ (∀ b' o, S b' o → True) := by
        rcases hal with rfl | rfl
        · exact ⟨S, r, hH, hI, hF, hρ, h3, fun _ _ _ => trivial⟩
        · have hc : Chg w w.drew S none := ⟨rfl, rfl, rfl, Nat.le_refl _, fun _ _ _ => rfl, fun _ _ _ => rfl⟩
          exact ⟨S, r, hH.chg hc (fun b hb => by cases hb) (fun _ _ h => h) (fun _ _ h => .inl h), hI.grow hc (fun _ _ h => h) (fun _ _ h => .inl h),
            fun t => (hF t).mono (w' := w.drew) (fun _ _ h => h) (fun _ _ _ => rfl) r (RhoLe.refl r), hρ, h3, fun _ _ _ => trivial⟩
      obtain ⟨S2, r2, g1, g2, g3, g4, g5, _⟩ := hrep1
      obtain ⟨s1, s2, s3⟩ := setOb_ok (.mapIter (some m) clock (seen.push (arr.getD q default).born) clock) g1 g2 (show fO ow i = _ from hi) g5
      refine wp_region_first hg (hop _ _ hrun) (F := fF ((t, .tu [.b true, .s (es.getD q ([], .any)).1, (es.getD q ([], .any)).2]) :: fr)) (O := fO ((i, .ob (.mapIter (some m) clock (seen.push (arr.getD q default).born) clock)) :: ow)) ?_ hch (fun a' w' h' => ⟨fr', ow', hK, h'⟩)
      rw [← eq]
      obtain ⟨e1, e2, _⟩ := hM.now s1 r2 hqe
      have hrp := rel_put (d := .tu [.b true, .s (es.getD q ([], .any)).1, (es.getD q ([], .any)).2]) (v := .tuple #[.bool true, (arr.getD q default).key, (arr.getD q default).val]) (dst := some t) (fun u => (g3 u).mono (fun _ _ h => h) s3 r2 (RhoLe.refl _)) (by simpa [dstOk, hn] using htn) (.tu _ _ _ rfl fun q hq => by
        match q, hq with
        | 0, _ => exact .b ..
        | 1, _ =>
          show Rel _ _ _ (.s _) (arr.getD _ default).key
          rw [e1]
          exact .s ..
        | 2, _ => exact e2)
      rw [hd]
      exact ⟨S2, r2, s1, by rw [fO_cons]; exact s2, fun u => by have := hrp u; rw [fF_cons]; exact this, by rw [put_defers]; exact hdf, by rw [put_size]; exact hn, g4⟩

/-- The map is a map again. -/
theorem T.mapShut {c : Code} {Q : Exit → Fr → Ow → Prop} (hM : MapAt X k m arr clock es) (hk : look k ow = some (.ob (.map arr clock))) (h : T P X n c fr ((k, .mp es) :: ow) Q) : T P X n c fr ow Q := fun a w hr => by
  refine h a w ?_
  obtain ⟨S, r, hH, hI, hF, hdf, hn, hρ⟩ := hr
  obtain ⟨q1, q2, q3⟩ := hM.lies hI hρ hk
  refine ⟨S, r, hH, ⟨fun j o hj => ?_, fun j hj => hI.dom j ?_, hI.apart, hI.low⟩, hF, hdf, hn, hρ⟩
  · rw [fO_cons] at hj
    simp only [updO] at hj
    by_cases e : j = k
    · subst e
      rw [if_pos rfl] at hj
      cases hj
      exact ⟨m, arr, clock, q1, q2, hM.size, fun j hj => hM.now hH r hj, hM.born, q3⟩
    · rw [if_neg e] at hj
      exact hI.obj j o hj
  · rw [fO_cons] at hj
    simp only [updO] at hj
    by_cases e : j = k
    · rw [if_pos e] at hj
      cases hj
    · rwa [if_neg e] at hj

/-- A contract of a function to which a map is lent: the map may be ranged over. -/
theorem CtrO.of_map {f : FuncId} {fn : Func} {c : Code} {N : Nat} {rs : List ResultVar} {args : List D} {d : D} (hf : P.funcs[f]? = some fn) (hb : fn.body = some c) (hN : fn.ntmps = N) (hrs : fn.results = ⟨rs⟩) (hlen : args.length ≤ N) (hes : ∀ j, j < es.length → (es.getD j ([], .any)).2.plain = true)
    (h : ∀ (X : Ctx) (m : Nat) (arr : Array MapEntry) (clock : Nat), Lent X → X.ids = [k] → MapAt X k m arr clock es → T P X N c (slots 0 args) [(k, .ob (.map arr clock))] (fun e fr2 ow2 => (e = .ret ∨ e = .normal) ∧ ∃ d2, resU (tb P) fr2 ow2 rs = some d2 ∧ Weak d2 d ∧ d.okIn [k] = true ∧ Le X fr2 ow2 [] [(k, .mp es)])) :
    CtrO P f args [(k, .mp es)] d [(k, .mp es)] := by
  intro X vs hids hH hI hsz hrel
  have hlk : look k [(k, Own.mp es)] = some (.mp es) := by simp [look, Nat.beq_refl]
  have hL : Lent X := fun u hu => by
    rw [hids]
    cases hmem : look u [(k, Own.mp es)] with
    | none => exact absurd (hI.dom u hmem) hu
    | some o =>
      by_cases hm : u ∈ [(k, Own.mp es)].map (·.1)
      · exact hm
      · rw [look_none hm] at hmem; cases hmem
  obtain ⟨m, arr, clock, q1, q2, q3, q4, q5, q6⟩ := hI.obj k _ hlk
  have hM : MapAt X k m arr clock es := ⟨q1, q3, q4, hes, q5⟩
  have hI2 : Inv X X.w0 X.S0 X.r0 (fO [(k, .ob (.map arr clock))]) := by
    refine ⟨fun j o hj => ?_, fun j hj => hI.dom j ?_, hI.apart, hI.low⟩
    · by_cases e : j = k
      · subst e
        have : look j [(j, Own.ob (.map arr clock))] = some (.ob (.map arr clock)) := by simp [look, Nat.beq_refl]
        rw [show fO [(j, Own.ob (.map arr clock))] j = _ from this] at hj
        cases hj
        exact ⟨m, q1, q2, q6⟩
      · rw [fO_cons] at hj
        simp only [updO, if_neg e] at hj
        cases hj
    · rw [fO_cons] at hj ⊢
      simp only [updO] at hj ⊢
      by_cases e : j = k
      · rw [if_pos e] at hj
        cases hj
      · rw [if_neg e] at hj ⊢
        exact hj
  refine calls_of_wp hf hb ?_
  have hrep : Rep X N (fF (slots 0 args)) (fO [(k, .ob (.map arr clock))]) { tmps := vs ++ Array.replicate (fn.ntmps - vs.size) undef, defers := [] } X.w0 := by
    refine ⟨X.S0, X.r0, hH, hI2, fun t => ?_, rfl, by simp; omega, RhoLe.refl _⟩
    show Rel _ _ _ (getD' t (slots 0 args)) _
    rw [slots_get]
    simp only [Nat.zero_le, if_true, Nat.sub_zero]
    by_cases ht : t < args.length
    · have := hrel t ht
      rw [Array.getD_eq_getD_getElem?, Array.getElem?_append_left (by omega), ← Array.getD_eq_getD_getElem?]
      exact this
    · rw [List.getD_eq_getElem?_getD, List.getElem?_eq_none (by omega)]
      exact .any ..
  refine wp_mono (h X m arr clock hL hids hM _ _ hrep) fun e a w ⟨fr2, ow2, ⟨he, d2, h1, h2, h3, h4⟩, hrep2⟩ => ?_
  obtain ⟨S, r, hH2, hI3, hF2, hd2, _, hρ2⟩ := hrep2
  obtain ⟨v, hv, hvr⟩ := results_okU (P := P) hrs hI3 hF2 h1
  have hok := h4.ok
  simp only [okAll, Bool.and_eq_true] at hok
  have hfin : ∃ v' S' r', Ending.returned v = .returned v' ∧ Rel S' w r' d v' ∧ Hist X w S' ∧ Inv X w S' r' (fO [(k, .mp es)]) ∧ RhoLe X.r0 r' := by
    refine ⟨v, S, keepR r ([(k, Own.mp es)].map (·.1)), rfl, ?_, hH2, hI3.keep h4.ow hok.2, fun k2 l hk => ?_⟩
    · exact (hvr.weak h2).okIn h3
    · obtain ⟨l', g1, g2⟩ := hρ2 k2 l hk
      have : k2 ∈ [(k, Own.mp es)].map (·.1) := h4.ids k2 (hL k2 (by rw [hk]; simp))
      exact ⟨l', by simp only [keepR]; rw [if_pos this]; exact g1, g2⟩
  rcases he with rfl | rfl
  · exact ⟨hd2, v, hv, hfin⟩
  · exact ⟨hd2, v, hv, hfin⟩
end

section
variable {X : Ctx} {n : Nat} {all rest : List Oper} {fr : Fr} {ow : Ow} {tr : List (List Nat × List Nat)} {K : Fr → Ow → List (List Nat × List Nat) → Prop} {Q : Exit → Fr → Ow → Prop}
variable {t k i m j since clock : Nat} {ty ty' kt et : TypeId} {ps : String} {af : Array Edge} {x : Operand} {arr : Array MapEntry} {es : Ents} {seen : Array Nat} {f : FuncId} {args : List D} {d : D}

theorem r_mrange (hM : MapAt X k m arr clock es) (hm : Tryd.prog.underlying ty = some (.map kt et)) (hx : ev fr x = .mh k) (hk : look k ow = some (.ob (.map arr clock))) (ht : look t ow = none) (hn : Nat.blt t n = true)
    (h : CT Tryd.prog X n all rest ((t, .pv t 0) :: fr) ((t, .ob (.mapIter (some m) clock #[] clock)) :: ow) (tr ++ [([t, k], [t])]) K) : CT Tryd.prog X n all (⟨some t, .range ty x, ty', ps, af, none⟩ :: rest) fr ow tr K := by
  generalize ho : (⟨some t, .range ty x, ty', ps, af, none⟩ : Oper) = o
  have h1 := mrange_step (P := Tryd.prog) (X := X) (n := n) (o := o) (fr := fr) hm hM (by rw [← ho]) hx hk ht (by rw [← ho]; exact Nat.le_of_ble_eq_true hn)
  refine CT.cons (e := ⟨.pv t 0, [t, k], [(t, .ob (.mapIter (some m) clock #[] clock))]⟩) (.plain (by rw [← ho]) h1) ?_ (fO_cons ..) h
  rw [← ho]
  exact fF_cons ..

theorem r_mentry (j : Nat) (hM : MapAt X k m arr clock es) (hx : ev fr x = .pv i 0) (hi : look i ow = some (.ob (.mapIter (some m) since (seen.push (arr.getD j default).born) clock))) (hk : look k ow = some (.ob (.map arr clock))) (hj : j < es.length) (hn : Nat.blt t n = true)
    (h : CT Tryd.prog X n all rest ((t, .tu [.s (es.getD j ([], .any)).1, (es.getD j ([], .any)).2]) :: fr) ow (tr ++ [([i, k], [])]) K) : CT Tryd.prog X n all (⟨some t, .entry x, ty', ps, af, none⟩ :: rest) fr ow tr K := by
  generalize ho : (⟨some t, .entry x, ty', ps, af, none⟩ : Oper) = o
  have h1 := mentry_step (P := Tryd.prog) (X := X) (n := n) (o := o) (fr := fr) hM (by rw [← ho]) hx hi hk hj (by rw [← ho]; exact Nat.le_of_ble_eq_true hn)
  refine CT.cons (e := ⟨.tu [.s (es.getD j ([], .any)).1, (es.getD j ([], .any)).2], [i, k], []⟩) (.plain (by rw [← ho]) h1) ?_ rfl h
  rw [← ho]
  exact fF_cons ..

/-- The next entry: any one that is left. -/
theorem t_mnext {id : Nat} {ops : List Oper} {c0 : Nat} (hM : MapAt X k m arr clock es) (hx : ev fr x = .pv i 0) (hi : look i ow = some (.ob (.mapIter (some m) clock seen c0))) (hc0 : clock ≤ c0) (hk : look k ow = some (.ob (.map arr clock))) (hn : Nat.blt t n = true)
    (h0 : (∀ j, j < es.length → (arr.getD j default).born ∈ seen) → CT Tryd.prog X n (⟨some t, .next x false, ty', ps, af, none⟩ :: ops) ops ((t, .tu [.b false]) :: fr) ow [] (fun fr ow _ => Nrm Q fr ow))
    (h1 : ∀ j, j < es.length → (arr.getD j default).born ∉ seen → CT Tryd.prog X n (⟨some t, .next x false, ty', ps, af, none⟩ :: ops) ops ((t, .tu [.b true, .s (es.getD j ([], .any)).1, (es.getD j ([], .any)).2]) :: fr) ((i, .ob (.mapIter (some m) clock (seen.push (arr.getD j default).born) clock)) :: ow) [] (fun fr ow _ => Nrm Q fr ow)) :
    T Tryd.prog X n (.region id ⟨⟨some t, .next x false, ty', ps, af, none⟩ :: ops⟩ false) fr ow Q := by
  unfold Nrm at h0 h1
  exact T.mnext (Q := Q) hM rfl rfl (by simpa using hn) rfl hx hi hc0 hk h0 h1

theorem t_retM (hM : MapAt X k m arr clock es) (hk : look k ow = some (.ob (.map arr clock))) (h : T Tryd.prog X n .ret fr ((k, .mp es) :: ow) Q) : T Tryd.prog X n .ret fr ow Q := T.mapShut hM hk h

theorem r_methMap {fn : Func} {c : Code} {N : Nat} {rs : List ResultVar} (hf : Tryd.prog.funcs[f]? = some fn) (hb : fn.body = some c) (hN : fn.ntmps = N) (hrs : fn.results = ⟨rs⟩) (hlen : Nat.ble args.length N = true) (hd : d.okIn [k] = true) (hes : ∀ j, j < es.length → (es.getD j ([], .any)).2.plain = true)
    (hok : (Own.mp es).okIn [k] = true)
    (h : ∀ (X : Ctx) (m : Nat) (arr : Array MapEntry) (clock : Nat), Lent X → X.ids = [k] → MapAt X k m arr clock es → T Tryd.prog X N c (slots 0 args) [(k, .ob (.map arr clock))] (EndsM rs d [(k, .mp es)])) : CtrO Tryd.prog f args [(k, .mp es)] d [(k, .mp es)] := by
  refine CtrO.of_map hf hb hN hrs (by simpa using hlen) hes fun X m arr clock hL hi hM => (h X m arr clock hL hi hM).mono fun e fr2 ow2 hq => ?_
  have key : ∀ d2, resU B fr2 ow2 rs = some d2 → Weak d2 d → leOw ow2 [(k, .mp es)] →
      ∃ d2, resU (tb Tryd.prog) fr2 ow2 rs = some d2 ∧ Weak d2 d ∧ d.okIn [k] = true ∧ Le X fr2 ow2 [] [(k, .mp es)] := by
    intro d2 h1 h2 h3
    refine ⟨d2, by rw [tb_eq]; exact h1, h2, hd, trivial, h3, ?_, fun u hu => ?_⟩
    · show okAll [k] [] [(k, .mp es)] = true
      simp only [okAll, List.all_nil, List.all_cons, Bool.true_and, Bool.and_true]
      exact hok
    · rw [hi] at hu
      exact hu
  cases e with
  | ret => obtain ⟨d2, h1, h2, h3⟩ := hq; exact ⟨.inl rfl, key d2 h1 h2 h3⟩
  | normal => obtain ⟨d2, h1, h2, h3⟩ := hq; exact ⟨.inr rfl, key d2 h1 h2 h3⟩
  | _ => exact hq.elim
end
end Go.Proofs.YtghdgjabpdfaoaaDoor.Flow

/- REQ: headers by names: is there what must be? -/
namespace Go.Proofs.YtghdgjabpdfaoaaDoor.Flow
open Go

section
variable {X : Ctx} {n : Nat} {all rest : List Oper} {fr : Fr} {ow : Ow} {tr : List (List Nat × List Nat)} {K : Fr → Ow → List (List Nat × List Nat) → Prop} {Q : Exit → Fr → Ow → Prop}
variable {t k i m since clock N : Nat} {ty ty' : TypeId} {ps : String} {af : Array Edge} {x : Operand} {arr : Array MapEntry} {es : Ents} {seen : Array Nat} {kf : Nat → List UInt8} {vf : Nat → D}

theorem r_mentryE (j : Nat) (hN : es.length = N) (hE : ∀ j, j < N → es.getD j ([], .any) = (kf j, vf j)) (hM : MapAt X k m arr clock es) (hj : j < N) (hx : ev fr x = .pv i 0) (hi : look i ow = some (.ob (.mapIter (some m) since (seen.push (arr.getD j default).born) clock))) (hk : look k ow = some (.ob (.map arr clock))) (hn : Nat.blt t n = true)
    (h : CT Tryd.prog X n all rest ((t, .tu [.s (kf j), vf j]) :: fr) ow (tr ++ [([i, k], [])]) K) : CT Tryd.prog X n all (⟨some t, .entry x, ty', ps, af, none⟩ :: rest) fr ow tr K := by
  refine r_mentry j hM hx hi hk (by omega) hn ?_
  rw [hE j hj]
  exact h

theorem t_mnextE {id : Nat} {ops : List Oper} {c0 : Nat} (hN : es.length = N) (hE : ∀ j, j < N → es.getD j ([], .any) = (kf j, vf j)) (hM : MapAt X k m arr clock es) (hx : ev fr x = .pv i 0) (hi : look i ow = some (.ob (.mapIter (some m) clock seen c0))) (hc0 : clock ≤ c0) (hk : look k ow = some (.ob (.map arr clock))) (hn : Nat.blt t n = true)
    (h0 : (∀ j, j < N → (arr.getD j default).born ∈ seen) → CT Tryd.prog X n (⟨some t, .next x false, ty', ps, af, none⟩ :: ops) ops ((t, .tu [.b false]) :: fr) ow [] (fun fr ow _ => Nrm Q fr ow))
    (h1 : ∀ j, j < N → (arr.getD j default).born ∉ seen → CT Tryd.prog X n (⟨some t, .next x false, ty', ps, af, none⟩ :: ops) ops ((t, .tu [.b true, .s (kf j), vf j]) :: fr) ((i, .ob (.mapIter (some m) clock (seen.push (arr.getD j default).born) clock)) :: ow) [] (fun fr ow _ => Nrm Q fr ow)) :
    T Tryd.prog X n (.region id ⟨⟨some t, .next x false, ty', ps, af, none⟩ :: ops⟩ false) fr ow Q := by
  subst hN
  refine t_mnext hM hx hi hc0 hk hn h0 fun j hj hs => ?_
  rw [hE j hj]
  exact h1 j hj hs

/-- The map is a map again, ahead of a region. -/
theorem t_mapAt (id : Nat) {ops : Array Oper} {b : Bool} (hM : MapAt X k m arr clock es) (hk : look k ow = some (.ob (.map arr clock))) (h : T Tryd.prog X n (.region id ops b) fr ((k, .mp es) :: ow) Q) : T Tryd.prog X n (.region id ops b) fr ow Q := T.mapShut hM hk h
end

theorem left_less {arr : Array MapEntry} {seen : Array Nat} {j : Nat} (hj : j < arr.size) (hs : (arr.getD j default).born ∉ seen) : (leftOf arr (seen.push (arr.getD j default).born)).size < (leftOf arr seen).size := by
  rw [Array.getD_eq_getD_getElem?, Array.getElem?_eq_getElem hj, Option.getD_some] at hs ⊢
  refine left_shrinks arr seen arr[j] ?_
  unfold leftOf
  rw [Array.toList_filter, List.mem_filter]
  exact ⟨by simp, by simpa using hs⟩
theorem born_inj {arr : Array MapEntry} {clock i j : Nat} (h : BornOk arr clock) (hi : i < arr.size) (hj : j < arr.size) (e : (arr.getD i default).born = (arr.getD j default).born) : i = j := by
  rcases Nat.lt_trichotomy i j with q | q | q
  · have := h.1 i j q hj
    omega
  · exact q
  · have := h.1 j i q hi
    omega

/-! ### Headers by names -/
abbrev Hdl := List (List UInt8 × List (List UInt8))
def entsH (hs : Hdl) : Ents := hs.map fun p => (p.1, .sl 1 p.2.length (wxF p.2))
def getH (key : List UInt8) : Hdl → List (List UInt8)
  | [] => []
  | p :: r => if p.1 = key then p.2 else getH key r
def hasH (key : List UInt8) (hs : Hdl) : Bool := hs.any fun p => decide (p.1 = key)
theorem mget_hit {key : List UInt8} : ∀ {hs : Hdl}, hasH key hs = true → mget key (entsH hs) = some (.sl 1 (getH key hs).length (wxF (getH key hs)))
  | [], h => by cases h
  | p :: r, h => by
    unfold hasH at h
    rw [List.any_cons] at h
    show mget key ((p.1, _) :: entsH r) = _
    unfold mget getH
    by_cases e : p.1 = key
    · rw [if_pos e, if_pos e]
    · rw [if_neg e, if_neg e]
      rw [decide_eq_false e, Bool.false_or] at h
      exact mget_hit h
theorem mget_miss {key : List UInt8} : ∀ {hs : Hdl}, hasH key hs = false → mget key (entsH hs) = none ∧ getH key hs = []
  | [], _ => ⟨rfl, rfl⟩
  | p :: r, h => by
    unfold hasH at h
    rw [List.any_cons, Bool.or_eq_false_iff] at h
    have e : ¬ p.1 = key := of_decide_eq_false h.1
    have ih := mget_miss (hs := r) h.2
    show mget key ((p.1, _) :: entsH r) = _ ∧ _
    unfold mget getH
    rw [if_neg e, if_neg e]
    exact ih
theorem entsH_len (hs : Hdl) : (entsH hs).length = hs.length := by simp [entsH]
theorem entsH_at (hs : Hdl) : ∀ j, j < hs.length → (entsH hs).getD j ([], .any) = ((hs.getD j ([], [])).1, D.sl 1 (hs.getD j ([], [])).2.length (wxF (hs.getD j ([], [])).2)) := fun j hj => by
  simp [entsH, List.getD_eq_getElem?_getD, hj]
theorem wxF_plain (l : List (List UInt8)) : (D.sl 1 l.length (wxF l)).plain = true := rfl
theorem entsH_ok (ks : List Nat) (hs : Hdl) : (Own.mp (entsH hs)).okIn ks = true := by
  show (entsH hs).all (fun p => p.2.okIn ks) = true
  rw [List.all_eq_true]
  intro p hp
  obtain ⟨q, _, rfl⟩ := List.mem_map.1 hp
  rfl

def hostK : List UInt8 := [104, 111, 115, 116]
def clenK : List UInt8 := [99, 111, 110, 116, 101, 110, 116, 45, 108, 101, 110, 103, 116, 104]
def tencK : List UInt8 := [116, 114, 97, 110, 115, 102, 101, 114, 45, 101, 110, 99, 111, 100, 105, 110, 103]
/-- Is a header one that may be? -/
def okH (p : List UInt8 × List (List UInt8)) : Bool :=
  if p.1 = hostK then decide (p.2.length = 1 ∧ ¬ p.2.getD 0 [] = [])
  else if p.1 = clenK then p.2.all (fun v => decide (v = [48])) && decide (p.2.length = 1)
  else decide (¬ p.1 = tencK)
def rightH (hs : Hdl) : Bool := hs.all okH && decide ((getH hostK hs).length = 1)

theorem right_bad {hs : Hdl} {j : Nat} (hj : j < hs.length) (h : okH (hs.getD j ([], [])) = false) : rightH hs = false := by
  unfold rightH
  have : hs.all okH = false := List.all_eq_false.2 ⟨hs.getD j ([], []), by
    rw [List.getD_eq_getElem?_getD, List.getElem?_eq_getElem hj, Option.getD_some]
    exact List.getElem_mem hj, by rw [h]; exact Bool.false_ne_true⟩
  rw [this]
  rfl
theorem right_all {hs : Hdl} (h : ∀ j, j < hs.length → okH (hs.getD j ([], [])) = true) : rightH hs = decide ((getH hostK hs).length = 1) := by
  unfold rightH
  have : hs.all okH = true := List.all_eq_true.2 fun p hp => by
    obtain ⟨j, hj, rfl⟩ := List.getElem_of_mem hp
    have := h j hj
    rwa [List.getD_eq_getElem?_getD, List.getElem?_eq_getElem hj, Option.getD_some] at this
  rw [this]
  rfl

theorem okH_host {p : List UInt8 × List (List UInt8)} (h : p.1 = hostK) : okH p = decide (p.2.length = 1 ∧ ¬ p.2.getD 0 [] = []) := if_pos h
theorem okH_clen {p : List UInt8 × List (List UInt8)} (h1 : ¬ p.1 = hostK) (h : p.1 = clenK) : okH p = (p.2.all (fun v => decide (v = [48])) && decide (p.2.length = 1)) := by
  unfold okH
  rw [if_neg h1, if_pos h]
theorem okH_oth {p : List UInt8 × List (List UInt8)} (h1 : ¬ p.1 = hostK) (h : ¬ p.1 = clenK) : okH p = decide (¬ p.1 = tencK) := by
  unfold okH
  rw [if_neg h1, if_neg h]
theorem all48 {l : List (List UInt8)} (h : ∀ q, q < l.length → l.getD q [] = [48]) : l.all (fun v => decide (v = [48])) = true := List.all_eq_true.2 fun v hv => by
  obtain ⟨q, hq, rfl⟩ := List.getElem_of_mem hv
  have := h q hq
  rw [List.getD_eq_getElem?_getD, List.getElem?_eq_getElem hq, Option.getD_some] at this
  exact decide_eq_true this
theorem not48 {l : List (List UInt8)} {q : Nat} (hq : q < l.length) (h : ¬ l.getD q [] = [48]) : l.all (fun v => decide (v = [48])) = false := List.all_eq_false.2 ⟨l.getD q [], by
  rw [List.getD_eq_getElem?_getD, List.getElem?_eq_getElem hq, Option.getD_some]
  exact List.getElem_mem hq, by rw [decide_eq_false h]; exact Bool.false_ne_true⟩

theorem und_heads : Tryd.prog.underlying 58 = some (.map 9 34) := by kernel_rfl

set_option maxRecDepth 100000 in
set_option maxHeartbeats 2000000 in
theorem right_ctr (hs : Hdl) (hl : ∀ j, (hs.getD j ([], [])).2.length ≤ 1000000) : CtrO Tryd.prog 43 [.mh 38] [(38, .mp (entsH hs))] (.b (rightH hs)) [(38, .mp (entsH hs))] := by
  refine r_methMap Tryd.func43 rfl Tryd.ntmps43 Tryd.results43 rfl rfl (fun j hj => by rw [entsH_at hs j (by rwa [entsH_len] at hj)]; rfl) (entsH_ok _ _) fun X m arr clock hL hX hM => ?_
  have hN := entsH_len hs
  have hE := entsH_at hs
  repeat' (first
    | refine r_mrange hM und_heads rfl rfl rfl rfl ?_
    | with_reducible (first | refine t_seq ?_ | refine t_region ?_ | refine c_nil ?_ | refine n_then ?_ | refine t_ret ?_ | refine t_skip ?_ | refine t_exit ?_ | refine t_block ?_ | refine n_block ?_ | refine e_then ?_ | refine x_then ?_ | refine x_block ?_ | refine t_draw ?_)
    | refine r_val rfl rfl True.intro ?_ | refine r_gskip rfl rfl rfl ?_ | refine r_gskip2 rfl rfl rfl ?_ | refine r_gval rfl rfl rfl rfl True.intro ?_
    | refine t_true rfl ?_ | refine t_false rfl ?_
    | ((first | refine t_cond_d rfl ?_ ?_ | refine t_cond_i rfl ?_ ?_ | refine t_cond_j rfl ?_ ?_ | refine t_cond_s rfl ?_ ?_ | refine t_cond_n rfl ?_ ?_ | refine t_cond rfl ?_ ?_ | refine c_split_d rfl rfl ?_ ?_ | refine c_split_i rfl rfl ?_ ?_ | refine c_split_j rfl rfl ?_ ?_ | refine c_split_s rfl rfl ?_ ?_ | refine c_split_n rfl rfl ?_ ?_) <;> intro <;> try (first | contradiction | (exfalso; omega)))
    | ((first | refine r_val rfl rfl ?_ ?_ | refine r_gval rfl rfl rfl rfl ?_ ?_ | refine r_obj rfl rfl ?_ ?_ | refine r_sto rfl ?_ ?_ | refine r_gobj rfl rfl rfl rfl ?_ ?_); focus (first | omega | exact Nat.le_of_ble_eq_true rfl | (simp_all; done) | (simp_all; omega) | ((repeat' refine And.intro ?_ ?_) <;> first | omega | rfl | exact Nat.le_refl _ | exact Nat.le_of_ble_eq_true rfl | exact bytesF_one _ | (simp_all; done) | (simp_all; omega))))
    | refine e_hit rfl ?_ | refine e_miss rfl ?_
    | with_reducible refine ⟨by kernel_rfl, ?_⟩ | ((with_reducible refine c_grd ?_); (fail_if_success (refine c_lit true rfl rfl rfl ?_)); (fail_if_success (refine c_lit false rfl rfl rfl ?_)); refine c_split rfl rfl (fun _ => ?_) (fun _ => ?_)))
  refine T.loop hL (fun _ : Array Nat => [(0, .mh 38), (8, .pv 8 0)]) (fun seen => [(8, .ob (.mapIter (some m) clock seen clock)), (38, .ob (.map arr clock))])
    (fun seen => ∀ j, j < hs.length → (arr.getD j default).born ∈ seen → okH (hs.getD j ([], [])) = true) (fun seen => (leftOf arr seen).size) #[] (fun j _ h => by simp at h)
    ⟨⟨rfl, rfl, trivial⟩, ⟨rfl, rfl, trivial⟩, rfl, fun q hq => by rw [hX] at hq; simp at hq; simp [hq]⟩ ?_
  intro seen hI
  have more : ∀ j, j < hs.length → okH (hs.getD j ([], [])) = true → ∀ j', j' < hs.length → (arr.getD j' default).born ∈ seen.push (arr.getD j default).born → okH (hs.getD j' ([], [])) = true := fun j hj ho j' hj' hm => by
    rcases Array.mem_push.1 hm with h | h
    · exact hI j' hj' h
    · rw [born_inj hM.born (by rw [hM.size, hN]; exact hj') (by rw [hM.size, hN]; exact hj) h]
      exact ho
  have less : ∀ j, j < hs.length → (arr.getD j default).born ∉ seen → (leftOf arr (seen.push (arr.getD j default).born)).size < (leftOf arr seen).size := fun j hj hs2 => left_less (by rw [hM.size, hN]; exact hj) hs2
  repeat' (first
    | refine t_mnextE hN hE hM rfl rfl (Nat.le_refl _) rfl rfl (fun hall => ?_) (fun j hj hns => ?_) | refine r_mentryE j hN hE hM hj rfl rfl rfl rfl ?_ | refine t_retM hM rfl ?_ | refine t_mapAt 18 hM rfl ?_
    | with_reducible (first | refine t_seq ?_ | refine t_region ?_ | refine c_nil ?_ | refine n_then ?_ | refine t_ret ?_ | refine t_skip ?_ | refine t_exit ?_ | refine t_block ?_ | refine n_block ?_ | refine e_then ?_ | refine x_then ?_ | refine x_block ?_ | refine t_draw ?_)
    | refine r_val rfl rfl True.intro ?_ | refine r_gskip rfl rfl rfl ?_ | refine r_gskip2 rfl rfl rfl ?_ | refine r_gval rfl rfl rfl rfl True.intro ?_
    | refine t_true rfl ?_ | refine t_false rfl ?_
    | ((first | refine t_cond_d rfl ?_ ?_ | refine t_cond_i rfl ?_ ?_ | refine t_cond_j rfl ?_ ?_ | refine t_cond_s rfl ?_ ?_ | refine t_cond_n rfl ?_ ?_ | refine t_cond rfl ?_ ?_ | refine c_split_d rfl rfl ?_ ?_ | refine c_split_i rfl rfl ?_ ?_ | refine c_split_j rfl rfl ?_ ?_ | refine c_split_s rfl rfl ?_ ?_ | refine c_split_n rfl rfl ?_ ?_) <;> intro <;> try (first | contradiction | (exfalso; omega)))
    | ((first | refine r_val rfl rfl ?_ ?_ | refine r_gval rfl rfl rfl rfl ?_ ?_ | refine r_obj rfl rfl ?_ ?_ | refine r_sto rfl ?_ ?_ | refine r_gobj rfl rfl rfl rfl ?_ ?_); focus (first | omega | exact Nat.le_of_ble_eq_true rfl | (simp_all; done) | (simp_all; omega) | ((repeat' refine And.intro ?_ ?_) <;> first | omega | rfl | exact Nat.le_refl _ | exact Nat.le_of_ble_eq_true rfl | exact bytesF_one _ | (simp_all; done) | (simp_all; omega))))
    | refine e_hit rfl ?_ | refine e_miss rfl ?_
    | with_reducible refine ⟨by kernel_rfl, ?_⟩ | refine x_endM rfl ?_ ⟨⟨rfl, trivial⟩⟩ | refine n_endM rfl ?_ ⟨⟨rfl, trivial⟩⟩ | ((with_reducible refine c_grd ?_); (fail_if_success (refine c_lit true rfl rfl rfl ?_)); (fail_if_success (refine c_lit false rfl rfl rfl ?_)); refine c_split rfl rfl (fun _ => ?_) (fun _ => ?_)))
  · cases hh : hasH hostK hs with
    | true =>
      have hg := mget_hit hh
      rw [right_all fun j hj => hI j hj (hall j hj)]
      repeat' (first
        | refine r_mhit (key := [104, 111, 115, 116]) und_heads Tryd.underlying9 rfl rfl rfl hg rfl ?_
        | with_reducible (first | refine t_seq ?_ | refine t_region ?_ | refine c_nil ?_ | refine n_then ?_ | refine t_ret ?_ | refine t_skip ?_ | refine t_exit ?_ | refine t_block ?_ | refine n_block ?_ | refine e_then ?_ | refine x_then ?_ | refine x_block ?_ | refine t_draw ?_)
        | refine r_val rfl rfl True.intro ?_ | refine r_gskip rfl rfl rfl ?_ | refine r_gskip2 rfl rfl rfl ?_ | refine r_gval rfl rfl rfl rfl True.intro ?_
        | refine t_true rfl ?_ | refine t_false rfl ?_
        | ((first | refine t_cond_d rfl ?_ ?_ | refine t_cond_i rfl ?_ ?_ | refine t_cond_j rfl ?_ ?_ | refine t_cond_s rfl ?_ ?_ | refine t_cond_n rfl ?_ ?_ | refine t_cond rfl ?_ ?_ | refine c_split_d rfl rfl ?_ ?_ | refine c_split_i rfl rfl ?_ ?_ | refine c_split_j rfl rfl ?_ ?_ | refine c_split_s rfl rfl ?_ ?_ | refine c_split_n rfl rfl ?_ ?_) <;> intro <;> try (first | contradiction | (exfalso; omega)))
        | ((first | refine r_val rfl rfl ?_ ?_ | refine r_gval rfl rfl rfl rfl ?_ ?_ | refine r_obj rfl rfl ?_ ?_ | refine r_sto rfl ?_ ?_ | refine r_gobj rfl rfl rfl rfl ?_ ?_); focus (first | omega | exact Nat.le_of_ble_eq_true rfl | (simp_all; done) | (simp_all; omega) | ((repeat' refine And.intro ?_ ?_) <;> first | omega | rfl | exact Nat.le_refl _ | exact Nat.le_of_ble_eq_true rfl | exact bytesF_one _ | (simp_all; done) | (simp_all; omega))))
        | refine e_hit rfl ?_ | refine e_miss rfl ?_
        | with_reducible refine ⟨by kernel_rfl, ?_⟩ | refine x_endM rfl ?_ ⟨⟨rfl, trivial⟩⟩ | refine n_endM rfl ?_ ⟨⟨rfl, trivial⟩⟩ | ((with_reducible refine c_grd ?_); (fail_if_success (refine c_lit true rfl rfl rfl ?_)); (fail_if_success (refine c_lit false rfl rfl rfl ?_)); refine c_split rfl rfl (fun _ => ?_) (fun _ => ?_)))
      all_goals exact congrArg D.b (by rw [Bool.eq_iff_iff, decide_eq_true_eq, beq_iff_eq]; omega)
    | false =>
      obtain ⟨hg, hz⟩ := mget_miss hh
      rw [right_all fun j hj => hI j hj (hall j hj), hz]
      repeat' (first
        | refine r_mmiss (key := [104, 111, 115, 116]) und_heads Tryd.underlying9 rfl rfl rfl rfl hg rfl ?_
        | with_reducible (first | refine t_seq ?_ | refine t_region ?_ | refine c_nil ?_ | refine n_then ?_ | refine t_ret ?_ | refine t_skip ?_ | refine t_exit ?_ | refine t_block ?_ | refine n_block ?_ | refine e_then ?_ | refine x_then ?_ | refine x_block ?_ | refine t_draw ?_)
        | refine r_val rfl rfl True.intro ?_ | refine r_gskip rfl rfl rfl ?_ | refine r_gskip2 rfl rfl rfl ?_ | refine r_gval rfl rfl rfl rfl True.intro ?_
        | refine t_true rfl ?_ | refine t_false rfl ?_
        | ((first | refine t_cond_d rfl ?_ ?_ | refine t_cond_i rfl ?_ ?_ | refine t_cond_j rfl ?_ ?_ | refine t_cond_s rfl ?_ ?_ | refine t_cond_n rfl ?_ ?_ | refine t_cond rfl ?_ ?_ | refine c_split_d rfl rfl ?_ ?_ | refine c_split_i rfl rfl ?_ ?_ | refine c_split_j rfl rfl ?_ ?_ | refine c_split_s rfl rfl ?_ ?_ | refine c_split_n rfl rfl ?_ ?_) <;> intro <;> try (first | contradiction | (exfalso; omega)))
        | ((first | refine r_val rfl rfl ?_ ?_ | refine r_gval rfl rfl rfl rfl ?_ ?_ | refine r_obj rfl rfl ?_ ?_ | refine r_sto rfl ?_ ?_ | refine r_gobj rfl rfl rfl rfl ?_ ?_); focus (first | omega | exact Nat.le_of_ble_eq_true rfl | (simp_all; done) | (simp_all; omega) | ((repeat' refine And.intro ?_ ?_) <;> first | omega | rfl | exact Nat.le_refl _ | exact Nat.le_of_ble_eq_true rfl | exact bytesF_one _ | (simp_all; done) | (simp_all; omega))))
        | refine e_hit rfl ?_ | refine e_miss rfl ?_
        | with_reducible refine ⟨by kernel_rfl, ?_⟩ | refine x_endM rfl ?_ ⟨⟨rfl, trivial⟩⟩ | refine n_endM rfl ?_ ⟨⟨rfl, trivial⟩⟩ | ((with_reducible refine c_grd ?_); (fail_if_success (refine c_lit true rfl rfl rfl ?_)); (fail_if_success (refine c_lit false rfl rfl rfl ?_)); refine c_split rfl rfl (fun _ => ?_) (fun _ => ?_)))
      all_goals rfl
  · rename_i h1 h2
    rw [right_bad hj (by rw [okH_host h1]; exact decide_eq_false fun q => by have := q.1; omega)]
  · rename_i h1 h2 h3
    rw [right_bad hj (by rw [okH_host h1]; exact decide_eq_false fun q => q.2 h3)]
  · rename_i h1 h2 h3
    exact ⟨_, more j hj (by rw [okH_host h1]; exact decide_eq_true ⟨by omega, h3⟩), less j hj hns, ⟨rfl, rfl, trivial⟩, ⟨rfl, rfl, trivial⟩, rfl, fun q hq => by rw [hX] at hq; simp at hq; simp [hq]⟩
  · rename_i n1 n2
    refine T.loop hL (fun i : Nat => [(0, .mh 38), (8, .pv 8 0), (4, .sl 1 (hs.getD j ([], [])).2.length (wxF (hs.getD j ([], [])).2)), (30, .sl 1 (hs.getD j ([], [])).2.length (wxF (hs.getD j ([], [])).2)), (31, .i .i64 (hs.getD j ([], [])).2.length), (32, .i .i64 i)])
      (fun _ => [(8, .ob (.mapIter (some m) clock (seen.push (arr.getD j default).born) clock)), (38, .ob (.map arr clock))]) (fun i => i ≤ (hs.getD j ([], [])).2.length ∧ ∀ q, q < i → (hs.getD j ([], [])).2.getD q [] = [48]) (fun i => (hs.getD j ([], [])).2.length - i) 0 ⟨Nat.zero_le _, fun q h => absurd h (Nat.not_lt_zero _)⟩
      ⟨⟨rfl, rfl, rfl, rfl, rfl, rfl, trivial⟩, ⟨rfl, rfl, trivial⟩, rfl, fun q hq => by rw [hX] at hq; simp at hq; simp [hq]⟩ ?_
    rintro i ⟨hi, h0⟩
    have hlj := hl j
    have hok := okH_clen n1 n2
    have mj := more j hj
    clear hE
    generalize (hs.getD j ([], [])).2 = l at *
    repeat' (first
      | refine t_retM hM rfl ?_
      | with_reducible (first | refine t_seq ?_ | refine t_region ?_ | refine c_nil ?_ | refine n_then ?_ | refine t_ret ?_ | refine t_skip ?_ | refine t_exit ?_ | refine t_block ?_ | refine n_block ?_ | refine e_then ?_ | refine x_then ?_ | refine x_block ?_ | refine t_draw ?_)
      | refine r_val rfl rfl True.intro ?_ | refine r_gskip rfl rfl rfl ?_ | refine r_gskip2 rfl rfl rfl ?_ | refine r_gval rfl rfl rfl rfl True.intro ?_
      | refine t_true rfl ?_ | refine t_false rfl ?_
      | ((first | refine t_cond_d rfl ?_ ?_ | refine t_cond_i rfl ?_ ?_ | refine t_cond_j rfl ?_ ?_ | refine t_cond_s rfl ?_ ?_ | refine t_cond_n rfl ?_ ?_ | refine t_cond rfl ?_ ?_ | refine c_split_d rfl rfl ?_ ?_ | refine c_split_i rfl rfl ?_ ?_ | refine c_split_j rfl rfl ?_ ?_ | refine c_split_s rfl rfl ?_ ?_ | refine c_split_n rfl rfl ?_ ?_) <;> intro <;> try (first | contradiction | (exfalso; omega)))
      | ((first | refine r_val rfl rfl ?_ ?_ | refine r_gval rfl rfl rfl rfl ?_ ?_ | refine r_obj rfl rfl ?_ ?_ | refine r_sto rfl ?_ ?_ | refine r_gobj rfl rfl rfl rfl ?_ ?_); focus (first | omega | exact Nat.le_of_ble_eq_true rfl | (simp_all; done) | (simp_all; omega) | ((repeat' refine And.intro ?_ ?_) <;> first | omega | rfl | exact Nat.le_refl _ | exact Nat.le_of_ble_eq_true rfl | exact bytesF_one _ | (simp_all; done) | (simp_all; omega))))
      | refine e_hit rfl ?_ | refine e_miss rfl ?_
      | with_reducible refine ⟨by kernel_rfl, ?_⟩ | refine x_endM rfl ?_ ⟨⟨rfl, trivial⟩⟩ | refine n_endM rfl ?_ ⟨⟨rfl, trivial⟩⟩ | ((with_reducible refine c_grd ?_); (fail_if_success (refine c_lit true rfl rfl rfl ?_)); (fail_if_success (refine c_lit false rfl rfl rfl ?_)); refine c_split rfl rfl (fun _ => ?_) (fun _ => ?_)))
    · rename_i k1 k2
      rw [right_bad hj (by
        rw [hok, not48 (q := i) (by omega) (fun e => by
          rw [show l.getD (i : Int).toNat [] = [48] from e] at k2
          cases k2)]
        rfl)]
    · rename_i k1 k2
      exact ⟨i + 1, ⟨by omega, fun q hq => by
        by_cases e : q = i
        · subst e
          exact beq_iff_eq.1 k2
        · exact h0 q (by omega)⟩, by omega, ⟨rfl, rfl, rfl, rfl, rfl, congrArg (D.i .i64) (by omega), trivial⟩, ⟨rfl, rfl, trivial⟩, rfl, fun q hq => by rw [hX] at hq; simp at hq; simp [hq]⟩
    · rename_i k1 k2
      exact ⟨_, mj (by
        rw [hok, all48 fun q hq => h0 q (by omega), decide_eq_true (by omega)]
        rfl), less j hj hns, ⟨rfl, rfl, trivial⟩, ⟨rfl, rfl, trivial⟩, rfl, fun q hq => by rw [hX] at hq; simp at hq; simp [hq]⟩
    · rename_i k1 k2
      rw [right_bad hj (by
        rw [hok, decide_eq_false (by omega), Bool.and_false])]
  · rename_i n1 n2 n3
    rw [right_bad hj (by rw [okH_oth n1 n2]; exact decide_eq_false fun q => q n3)]
  · rename_i n1 n2 n3
    exact ⟨_, more j hj (by rw [okH_oth n1 n2]; exact decide_eq_true n3), less j hj hns, ⟨rfl, rfl, trivial⟩, ⟨rfl, rfl, trivial⟩, rfl, fun q hq => by rw [hX] at hq; simp at hq; simp [hq]⟩

end Go.Proofs.YtghdgjabpdfaoaaDoor.Flow

/- REQ: lists by names, that grow: a map whose values are rows of their own. -/
namespace Go.Proofs.YtghdgjabpdfaoaaDoor.Flow
open Go

section
variable {P : Program} {X : Ctx} {n : Nat} {o : Oper} {fr : Fr} {ow : Ow} {t K : Nat} {ty el : TypeId} {x y : Operand} {g : Bool} {by' : Nat} {gf : Nat → List D}

theorem appK_step (hty : (tb P).ty ty = .slice el 1 g by') (hzo : zeroOk (tb P) el 1 = true) (ho : o.op = .call ⟨.builtin .append, #[x, y], #[ty, ty]⟩) (hx : ev fr x = .nilS) (hsrc : srcD (tb P) ty ty el (ev fr y) = some (1, 1, gf)) (hk : look K ow = none) (hb : by' ≤ 140737488355328) (hd : dstOk o.dst n) :
    ∀ F' O', (∀ y ∈ o.op.operands.toList, evF F' y = evF (fF fr) y) → (∀ j ∈ [K], O' j = fO ow j) → StepAt P X n o F' O' (.gs K 1 1 gf) [(K, .row el 1 1)] := by
  intro F' O' he hO
  refine stepAt_of hd fun a w S r hH hI hr => ?_
  have hx' := hr x
  rw [he x (by simp [ho, Op.operands, Call.operands]), evF_fF, hx] at hx'
  have hy' := hr y
  rw [he y (by simp [ho, Op.operands, Call.operands]), evF_fF] at hy'
  have hk' : O' K = none := (hO K (by simp)).trans hk
  obtain ⟨hu, hz, it, hi1, hi2, hi3⟩ := tyOf_slice (P := P) hty
  obtain ⟨zv, hzv, hzs⟩ : ∃ zv, it.zero = some zv ∧ zv.cells.size = 1 := by
    unfold zeroOk at hzo
    split at hzo
    · rename_i zd hzd
      simp only [Bool.and_eq_true] at hzo
      obtain ⟨ii, zv, hii, hzv, rfl⟩ := zeroD_spec hzd
      rw [hi1] at hii
      cases hii
      refine ⟨zv, hzv, ?_⟩
      rw [(rel_cells (ofVal_rel (fun _ _ => False) default noRho zv) hzo.2).1]
      exact Nat.eq_of_beq_eq_true hzo.1
    · cases hzo
  obtain ⟨c2, q1, q2, q3⟩ := srcD_sound (P := P) hsrc hu hy' (by decide)
  generalize hax : a.eval x = vx at hx'
  cases hx'
  obtain ⟨v, w', g0, S', r', g1, g2, g3, g4, g5, g6⟩ := append_ok false (P := P) (ty := o.type) (L := 0) (capx := 0) (ax := none) (f := gf) (g := gf) (c1 := fun _ _ => undef) hH hI hu hi1 hi2 hzv hzs (by decide) (Nat.le_refl _) (fun i hi => by omega) (fun i j hi => by omega) (fun i j hi => by omega)
    q1 q2 q3 (by decide) (by unfold maxLen; omega) (by rw [hi3]; omega) (.inl ⟨hk', rfl, rfl⟩)
  rw [catF_from gf gf 1 rfl, Nat.zero_add] at g1 g3
  exact ⟨v, w', S', r', .inl (by simp [execOp, ho, resolve, invoke, builtin, hax, g0]), g1, g2, g3, g4, g5, g6⟩
end

section
variable {X : Ctx} {n : Nat} {all rest : List Oper} {fr : Fr} {ow : Ow} {tr : List (List Nat × List Nat)} {K' : Fr → Ow → List (List Nat × List Nat) → Prop}
variable {t L m : Nat} {ty el ty' : TypeId} {ps : String} {af : Array Edge} {x y : Operand} {g : Bool} {by' : Nat} {f gf : Nat → List D}

/-- A new row of one, under a name of one's own. -/
theorem r_appK (K : Nat) (hty : B.ty ty = .slice el 1 g by') (hzo : zeroOk B el 1 = true) (hx : ev fr x = .nilS) (hsrc : srcD B ty ty el (ev fr y) = some (1, 1, gf)) (hk : look K ow = none) (hb : by' ≤ 140737488355328) (hn : Nat.blt t n = true)
    (h : CT Tryd.prog X n all rest ((t, .gs K 1 1 gf) :: fr) ((K, .row el 1 1) :: ow) (tr ++ [([K], [K])]) K') : CT Tryd.prog X n all (⟨some t, .call ⟨.builtin .append, #[x, y], #[ty, ty]⟩, ty', ps, af, none⟩ :: rest) fr ow tr K' := by
  generalize ho : (⟨some t, .call ⟨.builtin .append, #[x, y], #[ty, ty]⟩, ty', ps, af, none⟩ : Oper) = o
  rw [← tb_eq] at hty hzo hsrc
  have h1 := appK_step (P := Tryd.prog) (X := X) (n := n) (o := o) (fr := fr) (ow := ow) hty hzo (by rw [← ho]) hx hsrc hk hb (by rw [← ho]; exact Nat.le_of_ble_eq_true hn)
  refine CT.cons (e := ⟨.gs K 1 1 gf, [K], [(K, .row el 1 1)]⟩) (.plain (by rw [← ho]) h1) ?_ (fO_cons ..) h
  rw [← ho]
  exact fF_cons ..

/-- A row that is known by a law grows by one. -/
theorem r_appG (hty : B.ty ty = .slice el 1 g by') (hzo : zeroOk B el 1 = true) (hx : ev fr x = .gs L 1 m f) (hsrc : srcD B ty ty el (ev fr y) = some (1, 1, gf)) (hk : look L ow = some (.row el 1 m)) (hm : m ≤ 4194304) (hb : by' ≤ 16) (hn : Nat.blt t n = true)
    (h : CT Tryd.prog X n all rest ((t, .gs L 1 (m + 1) (catF m f 1 gf)) :: fr) ((L, .row el 1 (m + 1)) :: ow) (tr ++ [([L], [L])]) K') : CT Tryd.prog X n all (⟨some t, .call ⟨.builtin .append, #[x, y], #[ty, ty]⟩, ty', ps, af, none⟩ :: rest) fr ow tr K' := by
  refine CT.obj (p := 1 = 1 ∧ 1 = 1 ∧ 1 = 1 ∧ el = el ∧ m = m ∧ 0 < 1 ∧ m + 1 ≤ 9223372036854775807 ∧ (m + 1) * by' ≤ 140737488355328) (rd := [L]) ?_ (by simpa using hn) ⟨rfl, rfl, rfl, rfl, rfl, by decide, by omega, ?_⟩ h
  · rw [tb_eq]
    have e : step B (ev fr) (fun k => look k ow) ⟨some t, .call ⟨.builtin .append, #[x, y], #[ty, ty]⟩, ty', ps, af, none⟩ = appendD false B (fun k => look k ow) (some t) ty ty (ev fr x) (ev fr y) := rfl
    rw [e]
    unfold appendD
    simp only [hty, hzo, hsrc, hx, hk]
  · exact Nat.le_trans (Nat.mul_le_mul (show m + 1 ≤ 4194305 by omega) hb) (by decide)
end

theorem T.mapWeak {P : Program} {X : Ctx} {n : Nat} {fr : Fr} {ow : Ow} {Q : Exit → Fr → Ow → Prop} {c : Code} (k : Nat) (es es2 : Ents) (hk : look k ow = some (.mp es)) (hl : es2.length = es.length)
    (hw : ∀ j, j < es.length → (es2.getD j ([], .any)).1 = (es.getD j ([], .any)).1 ∧ (es2.getD j ([], .any)).2.one = true ∧ ∀ S w r v, Rel S w r (es.getD j ([], .any)).2 v → Rel S w r (es2.getD j ([], .any)).2 v) (h : T P X n c fr ((k, .mp es2) :: ow) Q) : T P X n c fr ow Q := fun a w hr => by
  refine h a w ?_
  obtain ⟨S, r, hH, hI, hF, hdf, hn, hρ⟩ := hr
  refine ⟨S, r, hH, ⟨fun j o hj => ?_, fun j hj => hI.dom j ?_, hI.apart, hI.low⟩, hF, hdf, hn, hρ⟩
  · rw [fO_cons] at hj
    simp only [updO] at hj
    by_cases e : j = k
    · subst e
      rw [if_pos rfl] at hj
      cases hj
      obtain ⟨b, arr, clock, q1, q2, q3, q4, q5, q6⟩ := hI.obj j _ hk
      refine ⟨b, arr, clock, q1, q2, by omega, fun i hi => ?_, q5, q6⟩
      obtain ⟨g1, g2, g3⟩ := q4 i (by omega)
      obtain ⟨k1, k2, k3⟩ := hw i (by omega)
      exact ⟨by rw [k1]; exact g1, k3 _ _ _ _ g2, k2⟩
    · rw [if_neg e] at hj
      exact hI.obj j o hj
  · rw [fO_cons] at hj
    simp only [updO] at hj
    by_cases e : j = k
    · rw [if_pos e] at hj
      cases hj
    · rwa [if_neg e] at hj

/-! ### The map -/
def entsGo (k : Nat) : Hdl → Ents
  | [] => []
  | p :: r => (p.1, .gs (100 + k) 1 p.2.length (wxF p.2)) :: entsGo (k + 1) r
def rowsGo (k : Nat) : Hdl → Ow
  | [] => []
  | p :: r => (100 + k, .row 9 1 p.2.length) :: rowsGo (k + 1) r
def addH (key v : List UInt8) : Hdl → Hdl
  | [] => [(key, [v])]
  | p :: r => if p.1 = key then (p.1, p.2 ++ [v]) :: r else p :: addH key v r
def posH (key : List UInt8) : Hdl → Nat
  | [] => 0
  | p :: r => if p.1 = key then 0 else posH key r + 1

theorem catF_wx (l : List (List UInt8)) (v : List UInt8) (gf : Nat → List D) (hg : gf 0 = [.s v]) : catF l.length (wxF l) 1 gf = wxF (l ++ [v]) := by
  funext j
  unfold catF wxF
  by_cases h : j < l.length
  · rw [if_pos h]
    simp [List.getD_eq_getElem?_getD, List.getElem?_append_left h]
  · rw [if_neg h]
    by_cases h2 : j < l.length + 1
    · obtain rfl : j = l.length := by omega
      rw [if_pos h2, Nat.sub_self, hg]
      simp [List.getD_eq_getElem?_getD]
    · rw [if_neg h2]
      simp [List.getD_eq_getElem?_getD, List.getElem?_append_right (show l.length ≤ j by omega)]
      rw [List.getElem?_eq_none (show l.length ≤ j by omega), List.getElem?_eq_none (show [v].length ≤ j - l.length by simp; omega)]

theorem posH_lt {key : List UInt8} : ∀ {hs : Hdl}, hasH key hs = true → posH key hs < hs.length
  | [], h => by cases h
  | p :: r, h => by
    unfold posH
    by_cases e : p.1 = key
    · rw [if_pos e]
      exact Nat.succ_pos _
    · rw [if_neg e]
      unfold hasH at h
      rw [List.any_cons, decide_eq_false e, Bool.false_or] at h
      exact Nat.succ_lt_succ (posH_lt h)
theorem posH_no {key : List UInt8} : ∀ {hs : Hdl}, hasH key hs = false → posH key hs = hs.length
  | [], _ => rfl
  | p :: r, h => by
    unfold hasH at h
    rw [List.any_cons, Bool.or_eq_false_iff] at h
    unfold posH
    rw [if_neg (of_decide_eq_false h.1), posH_no (hs := r) h.2]
    rfl
theorem mget_G {key : List UInt8} : ∀ {hs : Hdl} {k : Nat}, hasH key hs = true → mget key (entsGo k hs) = some (.gs (100 + (k + posH key hs)) 1 (getH key hs).length (wxF (getH key hs)))
  | [], _, h => by cases h
  | p :: r, k, h => by
    show mget key ((p.1, _) :: entsGo (k + 1) r) = _
    unfold mget posH getH
    by_cases e : p.1 = key
    · rw [if_pos e, if_pos e, if_pos e]
      rfl
    · rw [if_neg e, if_neg e, if_neg e]
      unfold hasH at h
      rw [List.any_cons, decide_eq_false e, Bool.false_or] at h
      rw [mget_G (hs := r) (k := k + 1) h, show k + 1 + posH key r = k + (posH key r + 1) by omega]
theorem mget_G0 {key : List UInt8} : ∀ {hs : Hdl} {k : Nat}, hasH key hs = false → mget key (entsGo k hs) = none
  | [], _, _ => rfl
  | p :: r, k, h => by
    unfold hasH at h
    rw [List.any_cons, Bool.or_eq_false_iff] at h
    show mget key ((p.1, _) :: entsGo (k + 1) r) = _
    unfold mget
    rw [if_neg (of_decide_eq_false h.1)]
    exact mget_G0 (hs := r) h.2
theorem mput_G {key v : List UInt8} : ∀ {hs : Hdl} {k : Nat}, mput key (.gs (100 + (k + posH key hs)) 1 ((getH key hs).length + 1) (wxF (getH key hs ++ [v]))) (entsGo k hs) = entsGo k (addH key v hs)
  | [], _ => rfl
  | p :: r, k => by
    show mput key _ ((p.1, _) :: entsGo (k + 1) r) = _
    unfold mput posH getH addH
    by_cases e : p.1 = key
    · rw [if_pos e, if_pos e, if_pos e, if_pos e]
      show _ = (p.1, D.gs (100 + k) 1 (p.2 ++ [v]).length (wxF (p.2 ++ [v]))) :: entsGo (k + 1) r
      rw [e, List.length_append]
      rfl
    · rw [if_neg e, if_neg e, if_neg e, if_neg e]
      show _ = (p.1, _) :: entsGo (k + 1) (addH key v r)
      rw [← mput_G (hs := r) (k := k + 1), show k + (posH key r + 1) = k + 1 + posH key r by omega]

theorem look_ne {k j : Nat} {o : Own} {ow : Ow} (h : k ≠ j) : look k ((j, o) :: ow) = look k ow := by
  have := congrFun (fO_cons ow j o) k
  simp only [updO, if_neg h] at this
  exact this
theorem look_eq {k : Nat} {o : Own} {ow : Ow} : look k ((k, o) :: ow) = some o := by
  have := congrFun (fO_cons ow k o) k
  simp only [updO, if_true] at this
  exact this
theorem rows_at : ∀ {hs : Hdl} {k i : Nat}, i < hs.length → look (100 + (k + i)) (rowsGo k hs) = some (.row 9 1 (hs.getD i ([], [])).2.length)
  | [], _, _, h => by simp at h
  | p :: r, k, 0, _ => look_eq
  | p :: r, k, i + 1, h => by
    show look _ ((100 + k, _) :: rowsGo (k + 1) r) = _
    rw [look_ne (by omega), show k + (i + 1) = k + 1 + i by omega, rows_at (hs := r) (k := k + 1) (by simpa using h)]
    rfl
theorem rows_no : ∀ {hs : Hdl} {k j : Nat}, (j < 100 + k ∨ 100 + k + hs.length ≤ j) → look j (rowsGo k hs) = none
  | [], _, _, _ => rfl
  | p :: r, k, j, h => by
    show look _ ((100 + k, _) :: rowsGo (k + 1) r) = _
    rw [List.length_cons] at h
    rw [look_ne (by omega)]
    exact rows_no (hs := r) (by omega)
theorem getH_at {key : List UInt8} : ∀ {hs : Hdl}, hasH key hs = true → (hs.getD (posH key hs) ([], [])).2 = getH key hs
  | [], h => by cases h
  | p :: r, h => by
    unfold posH getH
    by_cases e : p.1 = key
    · rw [if_pos e, if_pos e]
      rfl
    · rw [if_neg e, if_neg e]
      unfold hasH at h
      rw [List.any_cons, decide_eq_false e, Bool.false_or] at h
      exact getH_at h
theorem addH_at {key v : List UInt8} : ∀ {hs : Hdl} (i : Nat), i < (addH key v hs).length → ((addH key v hs).getD i ([], [])).2.length = if i = posH key hs then (getH key hs).length + 1 else (hs.getD i ([], [])).2.length
  | [], i, h => by
    obtain rfl : i = 0 := by simpa [addH] using h
    rfl
  | p :: r, i, h => by
    unfold addH posH getH at *
    by_cases e : p.1 = key
    · rw [if_pos e] at h
      rw [if_pos e, if_pos e, if_pos e]
      cases i with
      | zero => simp
      | succ i => simp
    · rw [if_neg e] at h
      rw [if_neg e, if_neg e, if_neg e]
      cases i with
      | zero => simp
      | succ i =>
        have := addH_at (key := key) (v := v) (hs := r) i (by simpa using h)
        simpa using this
theorem addH_len {key v : List UInt8} : ∀ {hs : Hdl}, (addH key v hs).length = if hasH key hs = true then hs.length else hs.length + 1
  | [] => rfl
  | p :: r => by
    unfold addH hasH
    rw [List.any_cons]
    by_cases e : p.1 = key
    · rw [if_pos e, decide_eq_true e]
      rfl
    · rw [if_neg e, decide_eq_false e, Bool.false_or, List.length_cons, addH_len (hs := r)]
      unfold hasH
      split <;> rfl

theorem leOw_rows {ow : Ow} : ∀ {hs : Hdl} {k : Nat}, (∀ i, i < hs.length → look (100 + (k + i)) ow = some (.row 9 1 (hs.getD i ([], [])).2.length)) → leOw ow (rowsGo k hs)
  | [], _, _ => trivial
  | p :: r, k, h => ⟨by simpa using h 0 (by simp), leOw_rows (hs := r) (k := k + 1) fun i hi => by
      have := h (i + 1) (by simpa using hi)
      rw [show k + (i + 1) = k + 1 + i by omega] at this
      simpa using this⟩
theorem rows_ids : ∀ {hs : Hdl} {k : Nat}, (rowsGo k hs).map (·.1) = (List.range' k hs.length).map (100 + ·)
  | [], _ => rfl
  | p :: r, k => by
    show (100 + k) :: (rowsGo (k + 1) r).map (·.1) = _
    rw [rows_ids (hs := r), List.length_cons, List.range'_succ]
    rfl
theorem memB_of {k : Nat} : ∀ {ks : List Nat}, k ∈ ks → memB k ks = true
  | [], h => by cases h
  | j :: r, h => by
    unfold memB
    rcases List.mem_cons.1 h with rfl | h
    · rw [Nat.beq_refl]
    · split
      · rfl
      · exact memB_of h
theorem ents_okIn {ids : List Nat} : ∀ {hs : Hdl} {k : Nat}, (∀ i, i < hs.length → 100 + (k + i) ∈ ids) → (Own.mp (entsGo k hs)).okIn ids = true
  | [], _, _ => rfl
  | p :: r, k, h => by
    show ((D.gs (100 + k) 1 p.2.length (wxF p.2)).okIn ids && (Own.mp (entsGo (k + 1) r)).okIn ids) = true
    have h0 : 100 + k ∈ ids := h 0 (by simp)
    rw [ents_okIn (hs := r) (k := k + 1) fun i hi => by
      have := h (i + 1) (by simpa using hi)
      rwa [show k + (i + 1) = k + 1 + i by omega] at this]
    show (memB (100 + k) ids && true) = true
    rw [memB_of h0]
    rfl
theorem rows_okIn {ids : List Nat} : ∀ {hs : Hdl} {k : Nat}, (rowsGo k hs).all (fun x => x.2.okIn ids) = true
  | [], _ => rfl
  | p :: r, k => by
    show (true && (rowsGo (k + 1) r).all (fun x => x.2.okIn ids)) = true
    rw [rows_okIn]
    rfl
theorem entsGo_len : ∀ {hs : Hdl} {k : Nat}, (entsGo k hs).length = hs.length
  | [], _ => rfl
  | p :: r, k => congrArg (· + 1) (entsGo_len (hs := r) (k := k + 1))
theorem entsGo_at : ∀ {hs : Hdl} {k : Nat} (i : Nat), i < hs.length → (entsGo k hs).getD i ([], .any) = ((hs.getD i ([], [])).1, .gs (100 + (k + i)) 1 (hs.getD i ([], [])).2.length (wxF (hs.getD i ([], [])).2))
  | [], _, _, h => by simp at h
  | p :: r, k, 0, _ => rfl
  | p :: r, k, i + 1, h => by
    have := entsGo_at (hs := r) (k := k + 1) i (by simpa using h)
    rw [show k + (i + 1) = k + 1 + i by omega]
    exact this

end Go.Proofs.YtghdgjabpdfaoaaDoor.Flow

/- REQ: lines, the first line, headers: the program's. -/
namespace Go.Proofs.YtghdgjabpdfaoaaDoor.Flow
open Go

section
variable {P : Program} {X : Ctx} {n : Nat} {o : Oper} {fr : Fr} {ow : Ow} {ty e : TypeId} {x : Operand} {k m : Nat} {f : Nat → List D}

theorem mark_heap {w : World} {g : Nat} {cur : Array Value} {e : TypeId} (hg : w.heap[g]? = some (.cells cur e (0, 0))) (N : Nat) :
    (w.freeze ⟨g, N, none⟩ 1).heap[g]? = some (.cells cur e (N, N + 1)) ∧ ∀ j, j ≠ g → (w.freeze ⟨g, N, none⟩ 1).heap[j]? = w.heap[j]? := by
  unfold World.freeze
  rw [if_neg (by decide)]
  constructor
  · simp [Array.getElem?_modify, hg]
  · intro j hj
    simp only [Array.getElem?_modify]
    rw [if_neg (fun e => hj e.symm)]

set_option maxRecDepth 100000 in
theorem same_step (hs : P.underlying ty = some (.slice e)) (he8 : P.underlying e = some (.int .u8)) (ho : o.op = .convert ty ty x) (hx : ev fr x = .gs k 1 m f) (hk : look k ow = some (.row e 1 m)) (hm : 0 < m) (hd : dstOk o.dst n) :
    ∀ F' O', (∀ y ∈ o.op.operands.toList, evF F' y = evF (fF fr) y) → (∀ j ∈ [k], O' j = fO ow j) → StepAt P X n o F' O' (.sl 1 m f) [(k, .gone)] := by
  intro F' O' he hO
  refine stepAt_of hd fun a w S r hH hI hr => ?_
  have hx' := hr x
  rw [he x (by simp [ho, Op.operands]), evF_fF, hx] at hx'
  obtain ⟨tv, h1, h2⟩ := hI.obj k _ ((hO k (by simp)).trans hk)
  generalize hv : a.eval x = v at hx'
  cases hx' with
  | gs _ _ _ _ _ _ tv' L q0 q1 q2 q3 =>
    rw [h1] at q1
    cases q1
    have ht := q3 rfl
    rcases h2 with ⟨_, h0⟩ | ⟨g, cap, cur, rfl, g1, g2, g3, g4, g5⟩
    · omega
    · have hve : v = .slice (some ⟨g, 0, none⟩) m cap := by
        rcases ht with h | ⟨h, _⟩
        · exact h
        · cases h
      subst hve
      obtain ⟨m1, m2⟩ := mark_heap g1 cur.size
      have hcell : ∀ b o, (w.freeze ⟨g, cur.size, none⟩ 1).cell? ⟨b, o, none⟩ = w.cell? ⟨b, o, none⟩ := fun b o => by
        by_cases e : b = g
        · subst e
          simp [World.cell?, m1, g1]
        · exact World.cell?_of_block (m2 b e)
      have hsz : (w.freeze ⟨g, cur.size, none⟩ 1).heap.size = w.heap.size := by
        unfold World.freeze
        rw [if_neg (by decide)]
        simp
      have hc : Chg w (w.freeze ⟨g, cur.size, none⟩ 1) S (some g) := ⟨by unfold World.freeze; split <;> rfl, by unfold World.freeze; split <;> rfl, by unfold World.freeze; split <;> rfl, by omega, fun j _ hj => m2 j (fun e => hj (by rw [e])), fun b o _ => hcell b o⟩
      have hlow := hI.low k _ g h1 rfl
      refine ⟨.slice (some ⟨g, 0, none⟩) m cap, _, S, r, .inl ?_, q0.mono (fun _ _ h => h) (fun b o _ => hcell b o) r (RhoLe.refl r), hH.chg hc (fun b' hb' => by cases hb'; exact hlow) (fun _ _ h => h) (fun b o h => .inl h), ?_, fun _ _ h => h, fun b o _ => hcell b o, RhoLe.refl r⟩
      · have hsh : w.shape? g = some (e, cur.size) := by
          unfold World.shape?
          rw [g1]
        simp [execOp, ho, hv, convert, run_underlying hs, run_underlying he8, markStringish, shape, Sem.run, Sem.run_bind, hsh, freeze, Result.andThen]
      · refine hI.put hc (fun _ _ h => h) (RhoLe.refl r) k _ _ ⟨_, h1, fun b hb => ?_⟩ h1 (fun _ _ => rfl) (fun b' hb' => .inr ⟨_, h1, hb'⟩) (fun b' hb' => ⟨_, h1, by cases hb'; rfl⟩) (fun b o h => .inl h)
        cases hb
        rw [hsz]
        exact (Array.getElem?_eq_some_iff.1 g1).1
end
section
variable {X : Ctx} {n : Nat} {all rest : List Oper} {fr : Fr} {ow : Ow} {tr : List (List Nat × List Nat)} {K : Fr → Ow → List (List Nat × List Nat) → Prop}
variable {t k m g u : Nat} {want : Bool} {ty ty' e : TypeId} {ps : String} {af : Array Edge} {x : Operand} {f : Nat → List D}
/-- Bytes turned into bytes (what a constant text turned into bytes is): marked, and no longer written to. -/
theorem r_gsame (hs : Tryd.prog.underlying ty = some (.slice e)) (he8 : Tryd.prog.underlying e = some (.int .u8)) (hu : dstAt all g = some u) (hc : getD' u fr = .b want) (hx : ev fr x = .gs k 1 m f) (hk : look k ow = some (.row e 1 m)) (hm : 0 < m) (hn : Nat.blt t n = true)
    (h : CT Tryd.prog X n all rest ((t, .sl 1 m f) :: fr) ((k, .gone) :: ow) (tr ++ [([k], [k])]) K) : CT Tryd.prog X n all (⟨some t, .convert ty ty x, ty', ps, af, some (g, want)⟩ :: rest) fr ow tr K := by
  generalize ho : (⟨some t, .convert ty ty x, ty', ps, af, some (g, want)⟩ : Oper) = o
  have h1 := same_step (P := Tryd.prog) (X := X) (n := n) (o := o) (fr := fr) (ow := ow) hs he8 (by rw [← ho]) hx hk hm (by rw [← ho]; exact Nat.le_of_ble_eq_true hn)
  refine CT.cons (e := ⟨.sl 1 m f, [k], [(k, .gone)]⟩) (.guarded (by rw [← ho]) hu hc h1) ?_ (fO_cons ..) h
  rw [← ho]
  exact fF_cons ..
end

theorem equal_ctr (n m : Nat) (f g : Nat → List D) (hf : ∀ i, i < n → ∃ v, f i = [.i .u8 v]) (hg : ∀ i, i < m → ∃ v, g i = [.i .u8 v]) (hn : n ≤ 4194304) (hm : m ≤ 4194304) : Ctr Tryd.prog 85 [.sl 1 n f, .sl 1 m g] (.b (bytesOf n f == bytesOf m g)) := by
  refine r_fun Tryd.func85 rfl Tryd.ntmps85 Tryd.results85 rfl rfl fun X hL hX => ?_
  repeat' (first
    | with_reducible (first | refine t_seq ?_ | refine t_region ?_ | refine c_nil ?_ | refine n_then ?_ | refine t_ret ?_ | refine t_skip ?_ | refine t_exit ?_ | refine t_block ?_ | refine n_block ?_ | refine e_then ?_ | refine x_then ?_ | refine x_block ?_ | refine t_draw ?_)
    | refine r_val rfl rfl True.intro ?_ | refine r_gskip rfl rfl rfl ?_ | refine r_gskip2 rfl rfl rfl ?_ | refine r_gval rfl rfl rfl rfl True.intro ?_
    | refine t_true rfl ?_ | refine t_false rfl ?_
    | ((first | refine t_cond_d rfl ?_ ?_ | refine t_cond_i rfl ?_ ?_ | refine t_cond_j rfl ?_ ?_ | refine t_cond_s rfl ?_ ?_ | refine t_cond_n rfl ?_ ?_ | refine t_cond rfl ?_ ?_ | refine c_split_d rfl rfl ?_ ?_ | refine c_split_i rfl rfl ?_ ?_ | refine c_split_j rfl rfl ?_ ?_ | refine c_split_s rfl rfl ?_ ?_ | refine c_split_n rfl rfl ?_ ?_) <;> intro <;> try (first | (rename_i hz; exact Bool.noConfusion (show true = false from hz)) | (rename_i hz; exact Bool.noConfusion (show false = true from hz)) | (exfalso; omega)))
    | ((first | refine r_val rfl rfl ?_ ?_ | refine r_gval rfl rfl rfl rfl ?_ ?_ | refine r_obj rfl rfl ?_ ?_ | refine r_sto rfl ?_ ?_ | refine r_gobj rfl rfl rfl rfl ?_ ?_); focus (first | (first | exact ⟨rfl, hf⟩ | exact ⟨rfl, hg⟩ | exact hf | exact hg) | omega | exact Nat.le_of_ble_eq_true rfl | (simp only [wrap_u8, IntKind.wrap_i64, IntKind.wrap_i32, wrap_u32', wrap_u64', InI]; (repeat' refine And.intro ?_ ?_) <;> omega) | ((repeat' refine And.intro ?_ ?_) <;> first | omega | rfl | exact Nat.le_refl _ | exact Nat.le_of_ble_eq_true rfl | exact bytesF_one _) | (simp_all; done) | (simp_all; omega)))
    | refine e_hit rfl ?_ | refine e_miss rfl ?_
    | with_reducible refine ⟨by kernel_rfl, ?_⟩ | refine x_end rfl ?_ | refine n_end rfl ?_ | ((with_reducible refine c_grd ?_); (fail_if_success (refine c_lit true rfl rfl rfl ?_)); (fail_if_success (refine c_lit false rfl rfl rfl ?_)); refine c_split rfl rfl (fun _ => ?_) (fun _ => ?_)))
  all_goals rfl

theorem bytesOf_sub (b : List UInt8) (k m : Nat) (h : k + m ≤ b.length) : bytesOf m (fun i => bytesF b (k + i)) = (b.drop k).take m := by
  apply List.ext_getElem
  · simp [bytesOf]
    omega
  · intro n h1 h2
    have : n < m := by simpa [bytesOf] using h1
    simp [bytesOf, bytesF, byteOf, List.getD_eq_getElem?_getD, show k + n < b.length by omega]

theorem sfx_beq (s p : List UInt8) : Lib.hasSuffix s p = (decide (p.length ≤ s.length) && (s.drop (s.length - p.length) == p)) := by
  unfold Lib.hasSuffix
  rw [Bool.eq_iff_iff, List.isSuffixOf_iff_suffix, List.suffix_iff_eq_drop, Bool.and_eq_true, decide_eq_true_eq, beq_iff_eq]
  constructor
  · intro h
    refine ⟨?_, h.symm⟩
    have := congrArg List.length h
    rw [List.length_drop] at this
    omega
  · exact fun h => h.2.symm

set_option maxRecDepth 100000 in
theorem hasSuf_ctr (b p : List UInt8) (hb : b.length ≤ 4194304) (hp : p.length ≤ 4194304) : Ctr Tryd.prog 64 [.sl 1 b.length (bytesF b), .sl 1 p.length (bytesF p)] (.b (Lib.hasSuffix b p)) := by
  rw [sfx_beq]
  refine r_fun Tryd.func64 rfl Tryd.ntmps64 Tryd.results64 rfl rfl fun X hL hX => ?_
  by_cases h : p.length ≤ b.length
  · have c1 := equal_ctr ((b.length : Int).toNat - ((b.length : Int) - p.length).toNat) p.length (fun i => bytesF b (((b.length : Int) - p.length).toNat + i)) (bytesF p) (fun i _ => ⟨_, rfl⟩) (bytesF_one p) (by omega) hp
    have e1 : bytesOf ((b.length : Int).toNat - ((b.length : Int) - p.length).toNat) (fun i => bytesF b (((b.length : Int) - p.length).toNat + i)) = b.drop (b.length - p.length) := by
      rw [show ((b.length : Int) - p.length).toNat = b.length - p.length by omega, show (b.length : Int).toNat - (b.length - p.length) = p.length by omega, bytesOf_sub b _ _ (by omega), List.take_of_length_le (by rw [List.length_drop]; omega)]
    rw [e1, bytesOf_bytesF] at c1
    rw [decide_eq_true h, Bool.true_and]
    generalize (List.drop (b.length - p.length) b == p) = q at *
    repeat' (first
      | refine r_gcall (f := 85) rfl rfl rfl rfl Tryd.call85 rfl c1 ?_
      | with_reducible (first | refine t_seq ?_ | refine t_region ?_ | refine c_nil ?_ | refine n_then ?_ | refine t_ret ?_ | refine t_skip ?_ | refine t_exit ?_ | refine t_block ?_ | refine n_block ?_ | refine e_then ?_ | refine x_then ?_ | refine x_block ?_ | refine t_draw ?_)
      | refine r_val rfl rfl True.intro ?_ | refine r_gskip rfl rfl rfl ?_ | refine r_gskip2 rfl rfl rfl ?_ | refine r_gval rfl rfl rfl rfl True.intro ?_
      | refine t_true rfl ?_ | refine t_false rfl ?_
      | ((first | refine t_cond_d rfl ?_ ?_ | refine t_cond_i rfl ?_ ?_ | refine t_cond_j rfl ?_ ?_ | refine t_cond_s rfl ?_ ?_ | refine t_cond_n rfl ?_ ?_ | refine t_cond rfl ?_ ?_ | refine c_split_d rfl rfl ?_ ?_ | refine c_split_i rfl rfl ?_ ?_ | refine c_split_j rfl rfl ?_ ?_ | refine c_split_s rfl rfl ?_ ?_ | refine c_split_n rfl rfl ?_ ?_) <;> intro <;> try (first | contradiction | (exfalso; omega)))
      | ((first | refine r_val rfl rfl ?_ ?_ | refine r_gval rfl rfl rfl rfl ?_ ?_ | refine r_obj rfl rfl ?_ ?_ | refine r_sto rfl ?_ ?_ | refine r_gobj rfl rfl rfl rfl ?_ ?_); focus (first | omega | exact Nat.le_of_ble_eq_true rfl | (simp_all; done) | (simp_all; omega) | ((repeat' refine And.intro ?_ ?_) <;> first | omega | rfl | exact Nat.le_refl _ | exact Nat.le_of_ble_eq_true rfl | exact bytesF_one _ | (simp_all; done) | (simp_all; omega))))
      | refine e_hit rfl ?_ | refine e_miss rfl ?_
      | with_reducible refine ⟨by kernel_rfl, ?_⟩ | refine x_end rfl ?_ | refine n_end rfl ?_ | ((with_reducible refine c_grd ?_); (fail_if_success (refine c_lit true rfl rfl rfl ?_)); (fail_if_success (refine c_lit false rfl rfl rfl ?_)); refine c_split rfl rfl (fun _ => ?_) (fun _ => ?_)))
    all_goals rfl
  · rw [decide_eq_false h, Bool.false_and]
    repeat' (first
      | with_reducible (first | refine t_seq ?_ | refine t_region ?_ | refine c_nil ?_ | refine n_then ?_ | refine t_ret ?_ | refine t_skip ?_ | refine t_exit ?_ | refine t_block ?_ | refine n_block ?_ | refine e_then ?_ | refine x_then ?_ | refine x_block ?_ | refine t_draw ?_)
      | refine r_val rfl rfl True.intro ?_ | refine r_gskip rfl rfl rfl ?_ | refine r_gskip2 rfl rfl rfl ?_ | refine r_gval rfl rfl rfl rfl True.intro ?_
      | refine t_true rfl ?_ | refine t_false rfl ?_
      | ((first | refine t_cond_d rfl ?_ ?_ | refine t_cond_i rfl ?_ ?_ | refine t_cond_j rfl ?_ ?_ | refine t_cond_s rfl ?_ ?_ | refine t_cond_n rfl ?_ ?_ | refine t_cond rfl ?_ ?_ | refine c_split_d rfl rfl ?_ ?_ | refine c_split_i rfl rfl ?_ ?_ | refine c_split_j rfl rfl ?_ ?_ | refine c_split_s rfl rfl ?_ ?_ | refine c_split_n rfl rfl ?_ ?_) <;> intro <;> try (first | contradiction | (exfalso; omega)))
      | ((first | refine r_val rfl rfl ?_ ?_ | refine r_gval rfl rfl rfl rfl ?_ ?_ | refine r_obj rfl rfl ?_ ?_ | refine r_sto rfl ?_ ?_ | refine r_gobj rfl rfl rfl rfl ?_ ?_); focus (first | omega | exact Nat.le_of_ble_eq_true rfl | (simp_all; done) | (simp_all; omega) | ((repeat' refine And.intro ?_ ?_) <;> first | omega | rfl | exact Nat.le_refl _ | exact Nat.le_of_ble_eq_true rfl | exact bytesF_one _ | (simp_all; done) | (simp_all; omega))))
      | refine e_hit rfl ?_ | refine e_miss rfl ?_
      | with_reducible refine ⟨by kernel_rfl, ?_⟩ | refine x_end rfl ?_ | refine n_end rfl ?_ | ((with_reducible refine c_grd ?_); (fail_if_success (refine c_lit true rfl rfl rfl ?_)); (fail_if_success (refine c_lit false rfl rfl rfl ?_)); refine c_split rfl rfl (fun _ => ?_) (fun _ => ?_)))
    all_goals rfl

/-! ### Lines -/
def crlf : List UInt8 := [13, 10]
def end4 : List UInt8 := [13, 10, 13, 10]
/-- A request's lines, by the program. -/
def linP (b : List UInt8) : Option (List (List UInt8)) :=
  if b.length ≤ 8192 ∧ Lib.hasSuffix b end4 = true then
    if (splitL (b.take (b.length - 4)) crlf).all (fun s => !Lib.containsAny s crlf) = true then some (splitL (b.take (b.length - 4)) crlf) else none
  else none
def linD (o : Option (List (List UInt8))) : D := match o with
  | some l => .tu [.sl 1 l.length (wxF l), .b true]
  | none => .tu [.nilS, .b false]

theorem sfx_iff4 {b p : List UInt8} (h : Lib.hasSuffix b p = true) : p.length ≤ b.length := by
  rw [sfx_beq, Bool.and_eq_true, decide_eq_true_eq] at h
  exact h.1
theorem split_piece (s sep : List UInt8) : ∀ j, ((splitL s sep).getD j []).length ≤ s.length := by
  have key : ∀ (k : Nat) (s : List UInt8) (j : Nat), ((Lib.splitK sep 0 k s).getD j []).length ≤ s.length := by
    intro k
    induction k with
    | zero =>
      intro s j
      cases j with
      | zero => exact Nat.le_refl _
      | succ j => exact Nat.zero_le _
    | succ k ih =>
      intro s j
      unfold Lib.splitK
      split
      · cases j with
        | zero => exact Nat.le_refl _
        | succ j => exact Nat.zero_le _
      · cases j with
        | zero =>
          show (List.take _ s).length ≤ _
          rw [List.length_take]
          omega
        | succ j =>
          refine Nat.le_trans (ih _ j) ?_
          rw [List.length_drop]
          omega
  intro j
  unfold splitL
  rw [Lib.splitB_data]
  exact key _ _ j

set_option maxRecDepth 100000 in
set_option maxHeartbeats 2000000 in
theorem lines_ctr (b : List UInt8) (hb : b.length ≤ 4194304) : Ctr Tryd.prog 40 [.sl 1 b.length (bytesF b)] (linD (linP b)) := by
  have hc : Ctr Tryd.prog 64 [.sl 1 b.length (bytesF b), .sl 1 4 (chunk 1 [.i .u8 13, .i .u8 10, .i .u8 13, .i .u8 10])] (.b (Lib.hasSuffix b end4)) :=
    (hasSuf_ctr b end4 hb (by decide)).weak2 (.refl _) (.sl _ _ _ _ (fun i hi => by
      match i, hi with
      | 0, _ => exact ⟨rfl, rfl⟩
      | 1, _ => exact ⟨rfl, rfl⟩
      | 2, _ => exact ⟨rfl, rfl⟩
      | 3, _ => exact ⟨rfl, rfl⟩) (fun i j hi hj => by
      match i, hi with
      | 0, _ => exact .of_eq rfl
      | 1, _ => exact .of_eq rfl
      | 2, _ => exact .of_eq rfl
      | 3, _ => exact .of_eq rfl))
  refine r_fun Tryd.func40 rfl Tryd.ntmps40 Tryd.results40 rfl (by unfold linD; split <;> rfl) fun X hL hX => ?_
  by_cases h1 : b.length ≤ 8192
  · cases hsf : Lib.hasSuffix b end4 with
    | false =>
      have hn : linP b = none := if_neg fun q => by rw [hsf] at q; cases q.2
      rw [hn]
      rw [hsf] at hc
      repeat' (first
        | refine r_gsame Tryd.underlying22 Tryd.underlying5 rfl rfl rfl rfl (by decide) rfl ?_ | refine r_gcall (f := 64) rfl rfl rfl rfl Tryd.call64 rfl hc ?_
        | with_reducible (first | refine t_seq ?_ | refine t_region ?_ | refine c_nil ?_ | refine n_then ?_ | refine t_ret ?_ | refine t_skip ?_ | refine t_exit ?_ | refine t_block ?_ | refine n_block ?_ | refine e_then ?_ | refine x_then ?_ | refine x_block ?_ | refine t_draw ?_)
        | refine r_val rfl rfl True.intro ?_ | refine r_gskip rfl rfl rfl ?_ | refine r_gskip2 rfl rfl rfl ?_ | refine r_gval rfl rfl rfl rfl True.intro ?_
        | refine t_true rfl ?_ | refine t_false rfl ?_
        | ((first | refine t_cond_d rfl ?_ ?_ | refine t_cond_i rfl ?_ ?_ | refine t_cond_j rfl ?_ ?_ | refine t_cond_s rfl ?_ ?_ | refine t_cond_n rfl ?_ ?_ | refine t_cond rfl ?_ ?_ | refine c_split_d rfl rfl ?_ ?_ | refine c_split_i rfl rfl ?_ ?_ | refine c_split_j rfl rfl ?_ ?_ | refine c_split_s rfl rfl ?_ ?_ | refine c_split_n rfl rfl ?_ ?_) <;> intro <;> try (first | contradiction | (exfalso; omega)))
        | ((first | refine r_val rfl rfl ?_ ?_ | refine r_gval rfl rfl rfl rfl ?_ ?_ | refine r_obj rfl rfl ?_ ?_ | refine r_sto rfl ?_ ?_ | refine r_gobj rfl rfl rfl rfl ?_ ?_); focus (first | omega | exact Nat.le_of_ble_eq_true rfl | (simp_all; done) | (simp_all; omega) | ((repeat' refine And.intro ?_ ?_) <;> first | omega | rfl | exact Nat.le_refl _ | exact Nat.le_of_ble_eq_true rfl | exact bytesF_one _ | (simp_all; done) | (simp_all; omega))))
        | refine e_hit rfl ?_ | refine e_miss rfl ?_
        | with_reducible refine ⟨by kernel_rfl, ?_⟩ | refine x_end rfl ?_ | refine n_end rfl ?_ | ((with_reducible refine c_grd ?_); (fail_if_success (refine c_lit true rfl rfl rfl ?_)); (fail_if_success (refine c_lit false rfl rfl rfl ?_)); refine c_split rfl rfl (fun _ => ?_) (fun _ => ?_)))
      all_goals rfl
    | true =>
      rw [hsf] at hc
      have h4 : 4 ≤ b.length := sfx_iff4 hsf
      have e1 : bytesOf (((b.length : Int) - 4).toNat - (0 : Int).toNat) (fun i => bytesF b ((0 : Int).toNat + i)) = b.take (b.length - 4) := by
        have := bytesOf_sub b 0 (b.length - 4) (by omega)
        rw [List.drop_zero] at this
        rw [← this]
        congr 1
        omega
      have c5 := w_split (b.take (b.length - 4)) crlf (by rw [List.length_take]; omega) (by decide)
      have hln := splitL_len (b.take (b.length - 4)) crlf (by decide)
      have hpc := split_piece (b.take (b.length - 4)) crlf
      rw [List.length_take] at hln hpc
      have hlp : linP b = if (splitL (b.take (b.length - 4)) crlf).all (fun s => !Lib.containsAny s crlf) = true then some (splitL (b.take (b.length - 4)) crlf) else none := if_pos ⟨h1, hsf⟩
      generalize splitL (b.take (b.length - 4)) crlf = l at *
      rw [← e1] at c5
      repeat' (first
        | refine r_gsame Tryd.underlying22 Tryd.underlying5 rfl rfl rfl rfl (by decide) rfl ?_ | refine r_gcall (f := 64) rfl rfl rfl rfl Tryd.call64 rfl hc ?_ | refine r_call (f := 26) rfl rfl Tryd.call26 rfl c5 ?_
        | with_reducible (first | refine t_seq ?_ | refine t_region ?_ | refine c_nil ?_ | refine n_then ?_ | refine t_ret ?_ | refine t_skip ?_ | refine t_exit ?_ | refine t_block ?_ | refine n_block ?_ | refine e_then ?_ | refine x_then ?_ | refine x_block ?_ | refine t_draw ?_)
        | refine r_val rfl rfl True.intro ?_ | refine r_gskip rfl rfl rfl ?_ | refine r_gskip2 rfl rfl rfl ?_ | refine r_gval rfl rfl rfl rfl True.intro ?_
        | refine t_true rfl ?_ | refine t_false rfl ?_
        | ((first | refine t_cond_d rfl ?_ ?_ | refine t_cond_i rfl ?_ ?_ | refine t_cond_j rfl ?_ ?_ | refine t_cond_s rfl ?_ ?_ | refine t_cond_n rfl ?_ ?_ | refine t_cond rfl ?_ ?_ | refine c_split_d rfl rfl ?_ ?_ | refine c_split_i rfl rfl ?_ ?_ | refine c_split_j rfl rfl ?_ ?_ | refine c_split_s rfl rfl ?_ ?_ | refine c_split_n rfl rfl ?_ ?_) <;> intro <;> try (first | (rename_i hz; exact Bool.noConfusion (show true = false from hz)) | (rename_i hz; exact Bool.noConfusion (show false = true from hz)) | (exfalso; omega)))
        | ((first | refine r_val rfl rfl ?_ ?_ | refine r_gval rfl rfl rfl rfl ?_ ?_ | refine r_obj rfl rfl ?_ ?_ | refine r_sto rfl ?_ ?_ | refine r_gobj rfl rfl rfl rfl ?_ ?_); focus (first | (first | exact ⟨rfl, fun i _ => ⟨_, rfl⟩⟩ | exact fun i _ => ⟨_, rfl⟩) | omega | exact Nat.le_of_ble_eq_true rfl | (simp only [wrap_u8, IntKind.wrap_i64, IntKind.wrap_i32, wrap_u32', wrap_u64', InI]; (repeat' refine And.intro ?_ ?_) <;> omega) | ((repeat' refine And.intro ?_ ?_) <;> first | omega | rfl | exact Nat.le_refl _ | exact Nat.le_of_ble_eq_true rfl | exact bytesF_one _) | (simp_all; done) | (simp_all; omega)))
        | refine e_hit rfl ?_ | refine e_miss rfl ?_
        | with_reducible refine ⟨by kernel_rfl, ?_⟩ | refine x_end rfl ?_ | refine n_end rfl ?_ | ((with_reducible refine c_grd ?_); (fail_if_success (refine c_lit true rfl rfl rfl ?_)); (fail_if_success (refine c_lit false rfl rfl rfl ?_)); refine c_split rfl rfl (fun _ => ?_) (fun _ => ?_)))
      refine T.loop hL (fun i : Nat => [(4, .sl 1 l.length (wxF l)), (24, .sl 1 l.length (wxF l)), (25, .i .i64 l.length), (26, .i .i64 i)]) (fun _ => []) (fun i => i ≤ l.length ∧ (l.take i).all (fun s => !Lib.containsAny s crlf) = true) (fun i => l.length - i) 0 ⟨Nat.zero_le _, by simp⟩
        ⟨⟨rfl, rfl, rfl, rfl, trivial⟩, trivial, rfl, fun q hq => by rw [hX] at hq; simp at hq⟩ ?_
      rintro i ⟨hi, hall⟩
      by_cases hil : i < l.length
      · have hnat : (i : Int).toNat = i := Int.toNat_natCast i
        have hst : (l.take (i + 1)).all (fun s => !Lib.containsAny s crlf) = ((l.take i).all (fun s => !Lib.containsAny s crlf) && !Lib.containsAny (l.getD i []) crlf) := by
          rw [List.take_add_one, List.all_append]
          congr 1
          have : l[i]? = some (l.getD i []) := by simp [List.getD_eq_getElem?_getD, hil]
          rw [this]
          simp
        have c6 := containsAny_ctr (l.getD (i : Int).toNat []) (by have := hpc (i : Int).toNat; omega)
        rw [hnat] at c6
        cases hq : Lib.containsAny (l.getD i []) crlf with
        | true =>
          have hn : linP b = none := by
            rw [hlp, if_neg]
            intro q
            have := List.all_eq_true.1 q (l.getD i []) (by
              rw [List.getD_eq_getElem?_getD, List.getElem?_eq_getElem hil, Option.getD_some]
              exact List.getElem_mem hil)
            rw [hq] at this
            cases this
          rw [hn]
          rw [show Lib.containsAny (l.getD i []) [13, 10] = true from hq] at c6
          repeat' (first
            | refine r_call (f := 65) rfl rfl Tryd.call65 rfl c6 ?_
            | with_reducible (first | refine t_seq ?_ | refine t_region ?_ | refine c_nil ?_ | refine n_then ?_ | refine t_ret ?_ | refine t_skip ?_ | refine t_exit ?_ | refine t_block ?_ | refine n_block ?_ | refine e_then ?_ | refine x_then ?_ | refine x_block ?_ | refine t_draw ?_)
            | refine r_val rfl rfl True.intro ?_ | refine r_gskip rfl rfl rfl ?_ | refine r_gskip2 rfl rfl rfl ?_ | refine r_gval rfl rfl rfl rfl True.intro ?_
            | refine t_true rfl ?_ | refine t_false rfl ?_
            | ((first | refine t_cond_d rfl ?_ ?_ | refine t_cond_i rfl ?_ ?_ | refine t_cond_j rfl ?_ ?_ | refine t_cond_s rfl ?_ ?_ | refine t_cond_n rfl ?_ ?_ | refine t_cond rfl ?_ ?_ | refine c_split_d rfl rfl ?_ ?_ | refine c_split_i rfl rfl ?_ ?_ | refine c_split_j rfl rfl ?_ ?_ | refine c_split_s rfl rfl ?_ ?_ | refine c_split_n rfl rfl ?_ ?_) <;> intro <;> try (first | contradiction | (exfalso; omega)))
            | ((first | refine r_val rfl rfl ?_ ?_ | refine r_gval rfl rfl rfl rfl ?_ ?_ | refine r_obj rfl rfl ?_ ?_ | refine r_sto rfl ?_ ?_ | refine r_gobj rfl rfl rfl rfl ?_ ?_); focus (first | omega | exact Nat.le_of_ble_eq_true rfl | (simp_all; done) | (simp_all; omega) | ((repeat' refine And.intro ?_ ?_) <;> first | omega | rfl | exact Nat.le_refl _ | exact Nat.le_of_ble_eq_true rfl | exact bytesF_one _ | (simp_all; done) | (simp_all; omega))))
            | refine e_hit rfl ?_ | refine e_miss rfl ?_
            | with_reducible refine ⟨by kernel_rfl, ?_⟩ | refine x_end rfl ?_ | refine n_end rfl ?_ | ((with_reducible refine c_grd ?_); (fail_if_success (refine c_lit true rfl rfl rfl ?_)); (fail_if_success (refine c_lit false rfl rfl rfl ?_)); refine c_split rfl rfl (fun _ => ?_) (fun _ => ?_)))
          all_goals rfl
        | false =>
          rw [show Lib.containsAny (l.getD i []) [13, 10] = false from hq] at c6
          repeat' (first
            | refine r_call (f := 65) rfl rfl Tryd.call65 rfl c6 ?_
            | with_reducible (first | refine t_seq ?_ | refine t_region ?_ | refine c_nil ?_ | refine n_then ?_ | refine t_ret ?_ | refine t_skip ?_ | refine t_exit ?_ | refine t_block ?_ | refine n_block ?_ | refine e_then ?_ | refine x_then ?_ | refine x_block ?_ | refine t_draw ?_)
            | refine r_val rfl rfl True.intro ?_ | refine r_gskip rfl rfl rfl ?_ | refine r_gskip2 rfl rfl rfl ?_ | refine r_gval rfl rfl rfl rfl True.intro ?_
            | refine t_true rfl ?_ | refine t_false rfl ?_
            | ((first | refine t_cond_d rfl ?_ ?_ | refine t_cond_i rfl ?_ ?_ | refine t_cond_j rfl ?_ ?_ | refine t_cond_s rfl ?_ ?_ | refine t_cond_n rfl ?_ ?_ | refine t_cond rfl ?_ ?_ | refine c_split_d rfl rfl ?_ ?_ | refine c_split_i rfl rfl ?_ ?_ | refine c_split_j rfl rfl ?_ ?_ | refine c_split_s rfl rfl ?_ ?_ | refine c_split_n rfl rfl ?_ ?_) <;> intro <;> try (first | contradiction | (exfalso; omega)))
            | ((first | refine r_val rfl rfl ?_ ?_ | refine r_gval rfl rfl rfl rfl ?_ ?_ | refine r_obj rfl rfl ?_ ?_ | refine r_sto rfl ?_ ?_ | refine r_gobj rfl rfl rfl rfl ?_ ?_); focus (first | omega | exact Nat.le_of_ble_eq_true rfl | (simp_all; done) | (simp_all; omega) | ((repeat' refine And.intro ?_ ?_) <;> first | omega | rfl | exact Nat.le_refl _ | exact Nat.le_of_ble_eq_true rfl | exact bytesF_one _ | (simp_all; done) | (simp_all; omega))))
            | refine e_hit rfl ?_ | refine e_miss rfl ?_
            | with_reducible refine ⟨by kernel_rfl, ?_⟩ | refine x_end rfl ?_ | refine n_end rfl ?_ | ((with_reducible refine c_grd ?_); (fail_if_success (refine c_lit true rfl rfl rfl ?_)); (fail_if_success (refine c_lit false rfl rfl rfl ?_)); refine c_split rfl rfl (fun _ => ?_) (fun _ => ?_)))
          all_goals exact ⟨i + 1, ⟨by omega, by rw [hst, hall, hq]; rfl⟩, by omega, ⟨rfl, rfl, rfl, congrArg (D.i .i64) (by omega), trivial⟩, trivial, rfl, fun q hq => by rw [hX] at hq; simp at hq⟩
      · have : i = l.length := by omega
        subst this
        rw [List.take_length] at hall
        rw [hlp, if_pos hall]
        repeat' (first
          | with_reducible (first | refine t_seq ?_ | refine t_region ?_ | refine c_nil ?_ | refine n_then ?_ | refine t_ret ?_ | refine t_skip ?_ | refine t_exit ?_ | refine t_block ?_ | refine n_block ?_ | refine e_then ?_ | refine x_then ?_ | refine x_block ?_ | refine t_draw ?_)
          | refine r_val rfl rfl True.intro ?_ | refine r_gskip rfl rfl rfl ?_ | refine r_gskip2 rfl rfl rfl ?_ | refine r_gval rfl rfl rfl rfl True.intro ?_
          | refine t_true rfl ?_ | refine t_false rfl ?_
          | ((first | refine t_cond_d rfl ?_ ?_ | refine t_cond_i rfl ?_ ?_ | refine t_cond_j rfl ?_ ?_ | refine t_cond_s rfl ?_ ?_ | refine t_cond_n rfl ?_ ?_ | refine t_cond rfl ?_ ?_ | refine c_split_d rfl rfl ?_ ?_ | refine c_split_i rfl rfl ?_ ?_ | refine c_split_j rfl rfl ?_ ?_ | refine c_split_s rfl rfl ?_ ?_ | refine c_split_n rfl rfl ?_ ?_) <;> intro <;> try (first | contradiction | (exfalso; omega)))
          | ((first | refine r_val rfl rfl ?_ ?_ | refine r_gval rfl rfl rfl rfl ?_ ?_ | refine r_obj rfl rfl ?_ ?_ | refine r_sto rfl ?_ ?_ | refine r_gobj rfl rfl rfl rfl ?_ ?_); focus (first | omega | exact Nat.le_of_ble_eq_true rfl | (simp_all; done) | (simp_all; omega) | ((repeat' refine And.intro ?_ ?_) <;> first | omega | rfl | exact Nat.le_refl _ | exact Nat.le_of_ble_eq_true rfl | exact bytesF_one _ | (simp_all; done) | (simp_all; omega))))
          | refine e_hit rfl ?_ | refine e_miss rfl ?_
          | with_reducible refine ⟨by kernel_rfl, ?_⟩ | refine x_end rfl ?_ | refine n_end rfl ?_ | ((with_reducible refine c_grd ?_); (fail_if_success (refine c_lit true rfl rfl rfl ?_)); (fail_if_success (refine c_lit false rfl rfl rfl ?_)); refine c_split rfl rfl (fun _ => ?_) (fun _ => ?_)))
        all_goals rfl
  · have hn : linP b = none := if_neg fun q => h1 q.1
    rw [hn]
    repeat' (first
      | with_reducible (first | refine t_seq ?_ | refine t_region ?_ | refine c_nil ?_ | refine n_then ?_ | refine t_ret ?_ | refine t_skip ?_ | refine t_exit ?_ | refine t_block ?_ | refine n_block ?_ | refine e_then ?_ | refine x_then ?_ | refine x_block ?_ | refine t_draw ?_)
      | refine r_val rfl rfl True.intro ?_ | refine r_gskip rfl rfl rfl ?_ | refine r_gskip2 rfl rfl rfl ?_ | refine r_gval rfl rfl rfl rfl True.intro ?_
      | refine t_true rfl ?_ | refine t_false rfl ?_
      | ((first | refine t_cond_d rfl ?_ ?_ | refine t_cond_i rfl ?_ ?_ | refine t_cond_j rfl ?_ ?_ | refine t_cond_s rfl ?_ ?_ | refine t_cond_n rfl ?_ ?_ | refine t_cond rfl ?_ ?_ | refine c_split_d rfl rfl ?_ ?_ | refine c_split_i rfl rfl ?_ ?_ | refine c_split_j rfl rfl ?_ ?_ | refine c_split_s rfl rfl ?_ ?_ | refine c_split_n rfl rfl ?_ ?_) <;> intro <;> try (first | contradiction | (exfalso; omega)))
      | ((first | refine r_val rfl rfl ?_ ?_ | refine r_gval rfl rfl rfl rfl ?_ ?_ | refine r_obj rfl rfl ?_ ?_ | refine r_sto rfl ?_ ?_ | refine r_gobj rfl rfl rfl rfl ?_ ?_); focus (first | omega | exact Nat.le_of_ble_eq_true rfl | (simp_all; done) | (simp_all; omega) | ((repeat' refine And.intro ?_ ?_) <;> first | omega | rfl | exact Nat.le_refl _ | exact Nat.le_of_ble_eq_true rfl | exact bytesF_one _ | (simp_all; done) | (simp_all; omega))))
      | refine e_hit rfl ?_ | refine e_miss rfl ?_
      | with_reducible refine ⟨by kernel_rfl, ?_⟩ | refine x_end rfl ?_ | refine n_end rfl ?_ | ((with_reducible refine c_grd ?_); (fail_if_success (refine c_lit true rfl rfl rfl ?_)); (fail_if_success (refine c_lit false rfl rfl rfl ?_)); refine c_split rfl rfl (fun _ => ?_) (fun _ => ?_)))
    all_goals rfl

end Go.Proofs.YtghdgjabpdfaoaaDoor.Flow
