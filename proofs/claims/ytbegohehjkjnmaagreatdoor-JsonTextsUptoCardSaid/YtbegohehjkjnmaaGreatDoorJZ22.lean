/- The texts FlowY, J22, U10, U11, U12, J2p, U13, U14, U15, U16, one behind the other. -/
import Derived.Test.YtbegohehjkjnmaaGreatDoorJZ11
import Derived.Test.YtbegohehjkjnmaaGreatDoorJZ12
import Derived.Test.YtbegohehjkjnmaaGreatDoorJZ21
import Derived.MapKept
namespace Go.Proofs.YtbegohehjkjnmaaGreatDoor.Flow
open Go

abbrev Ents := List (List UInt8 × D)

def mget (key : List UInt8) : Ents → Option D
  | [] => none
  | p :: r => if p.1 = key then some p.2 else mget key r
def mput (key : List UInt8) (d : D) : Ents → Ents
  | [] => [(key, d)]
  | p :: r => if p.1 = key then (key, d) :: r else p :: mput key d r
def mdel (key : List UInt8) : Ents → Ents
  | [] => []
  | p :: r => if p.1 = key then r else p :: mdel key r
def mpos (key : List UInt8) : Ents → Nat
  | [] => 0
  | p :: r => if p.1 = key then 0 else mpos key r + 1

theorem mpos_le (key : List UInt8) : ∀ es : Ents, mpos key es ≤ es.length
  | [] => Nat.le_refl _
  | p :: r => by
    have := mpos_le key r
    unfold mpos
    split
    · simp
    · simpa using this

theorem mpos_key (key : List UInt8) : ∀ es : Ents, mpos key es < es.length → (es.getD (mpos key es) ([], .any)).1 = key
  | [], h => by simp at h
  | p :: r, h => by
    unfold mpos at h ⊢
    by_cases hk : p.1 = key
    · simp [hk]
    · rw [if_neg hk] at h ⊢
      have := mpos_key key r (by simpa using h)
      simpa using this

theorem mget_pos (key : List UInt8) : ∀ es : Ents, mget key es = if mpos key es < es.length then some (es.getD (mpos key es) ([], .any)).2 else none
  | [] => rfl
  | p :: r => by
    have ih := mget_pos key r
    unfold mget mpos
    by_cases h : p.1 = key
    · simp [h]
    · rw [if_neg h, if_neg h, ih]
      simp

theorem mput_pos (key : List UInt8) (d : D) : ∀ es : Ents, mput key d es = if mpos key es < es.length then es.set (mpos key es) (key, d) else es ++ [(key, d)]
  | [] => rfl
  | p :: r => by
    have ih := mput_pos key d r
    unfold mput mpos
    by_cases h : p.1 = key
    · simp [h]
    · rw [if_neg h, if_neg h, ih]
      simp only [List.length_cons, Nat.add_lt_add_iff_right]
      split <;> simp

def KeysOk : Ents → List MapEntry → Prop
  | [], [] => True
  | p :: r, e :: l => e.key = .string ⟨p.1.toArray⟩ ∧ KeysOk r l
  | _, _ => False

theorem keys_of : ∀ {es : Ents} {l : List MapEntry}, l.length = es.length → (∀ j, j < es.length → (l.getD j default).key = .string ⟨(es.getD j ([], .any)).1.toArray⟩) → KeysOk es l
  | [], [], _, _ => trivial
  | [], _ :: _, h, _ => by simp at h
  | _ :: _, [], h, _ => by simp at h
  | p :: r, e :: l, hn, h => ⟨h 0 (by simp), keys_of (by simpa using hn) fun j hj => by
      have := h (j + 1) (by simpa using hj)
      simpa using this⟩

theorem str_eq (a b : List UInt8) : ((⟨a.toArray⟩ : ByteArray) == ⟨b.toArray⟩) = decide (a = b) := by
  by_cases h : a = b
  · subst h
    simp [MapKept.bytes_beq]
  · rw [decide_eq_false h]
    cases hb : ((⟨a.toArray⟩ : ByteArray) == ⟨b.toArray⟩) with
    | false => rfl
    | true =>
      have := (MapKept.bytes_beq _ _).1 hb
      simp at this
      exact absurd this h

theorem find_mp (key : List UInt8) : ∀ (es : Ents) (l : List MapEntry) (i : Nat), KeysOk es l →
    Instr.findNow .string (.string ⟨key.toArray⟩) l i = some (if mpos key es < es.length then some (i + mpos key es, (l.getD (mpos key es) default).val) else none)
  | [], [], i, _ => rfl
  | [], _ :: _, _, h => h.elim
  | _ :: _, [], _, h => h.elim
  | p :: r, e :: l, i, h => by
    have ih := find_mp key r l (i + 1) h.2
    have hs : Instr.sameNow .string (.string ⟨key.toArray⟩) e.key = some (decide (key = p.1)) := by
      rw [h.1]
      show some _ = _
      rw [str_eq]
    unfold Instr.findNow
    rw [hs]
    unfold mpos
    by_cases hk : p.1 = key
    · rw [decide_eq_true hk.symm]
      simp [hk]
    · rw [decide_eq_false (fun h => hk h.symm)]
      simp only [ih, hk, if_false, List.length_cons, Nat.add_lt_add_iff_right]
      split
      · simp
        omega
      · rfl

section
variable {P : Program} {X : Ctx} {n : Nat} {O : Nat → Option Own} {w : World} {S : Cells} {r : Rho}

theorem mp_keys {k : Nat} {es : Ents} (h : ObjOk S w r k (.mp es)) : ∃ b arr clock, r k = some (.blk b) ∧ w.heap[b]? = some (.map arr clock) ∧ KeysOk es arr.toList ∧ arr.size = es.length ∧ (∀ j, j < es.length → EntOk S w r (es.getD j ([], .any)) (arr.getD j default)) ∧ BornOk arr clock ∧ ∀ o, ¬ S b o := by
  obtain ⟨b, arr, clock, h1, h2, h3, h4, h5, h6⟩ := h
  refine ⟨b, arr, clock, h1, h2, keys_of (by simpa using h3) (fun j hj => ?_), h3, h4, h5, h6⟩
  have := (h4 j hj).1
  simpa [List.getD_eq_getElem?_getD, Array.getD_eq_getD_getElem?] using this

theorem newMp_ok (hH : Hist X w S) (hI : Inv X w S r O) {k : Nat} (hk : O k = none) :
    ∃ r', Rel S (w.alloc (.map #[] 0)) r' (.mh k) (.map (some w.heap.size)) ∧ Hist X (w.alloc (.map #[] 0)) S ∧ Inv X (w.alloc (.map #[] 0)) S r' (updO O [(k, .mp [])]) ∧
      (∀ b o, S b o → (w.alloc (.map #[] 0)).cell? ⟨b, o, none⟩ = w.cell? ⟨b, o, none⟩) ∧ RhoLe r r' := by
  have hc := Chg.alloc w S hH.valid (.map #[] 0)
  have hr : RhoLe r (updR r k (.blk w.heap.size)) := RhoLe.new (hI.dom k hk)
  have hk0 : updR r k (.blk w.heap.size) k = some (.blk w.heap.size) := by simp [updR]
  refine ⟨updR r k (.blk w.heap.size), .mh _ k _ hk0, ?_, ?_, hc.cell, hr⟩
  · exact hH.chg hc (fun b hb => by cases hb) (fun _ _ h => h) (fun b o h => .inl h)
  · refine hI.put hc (fun _ _ h => h) hr k _ (.blk w.heap.size) ?_ hk0 (fun j hj => by simp [updR, hj]) (fun b hb => ?_) (fun b hb => by cases hb) (fun b o h => .inl h)
    · exact ⟨w.heap.size, #[], 0, hk0, heap_alloc_new w _, rfl, fun j hj => by simp at hj, ⟨fun i j _ h => by simp at h, fun i h => by simp at h⟩, fun o ho => by have := hH.valid _ _ ho; omega⟩
    · simp only [Loc.block, Option.some.injEq] at hb
      subst hb
      exact .inl ⟨Nat.le_refl _, .inl hH.size⟩

theorem setMp_ok {es es2 : Ents} {arr arr2 : Array MapEntry} {clock clock2 b : Nat} (hH : Hist X w S) (hI : Inv X w S r O) {k : Nat} (_hk : O k = some (.mp es)) (hb : r k = some (.blk b)) (hw : w.heap[b]? = some (.map arr clock)) (hS : ∀ o, ¬ S b o)
    (hn : arr2.size = es2.length) (he : ∀ j, j < es2.length → EntOk S w r (es2.getD j ([], .any)) (arr2.getD j default)) (hbo : BornOk arr2 clock2) :
    Hist X { w with heap := w.heap.setIfInBounds b (.map arr2 clock2) } S ∧ Inv X { w with heap := w.heap.setIfInBounds b (.map arr2 clock2) } S r (updO O [(k, .mp es2)]) ∧
      (∀ b' o, S b' o → ({ w with heap := w.heap.setIfInBounds b (.map arr2 clock2) } : World).cell? ⟨b', o, none⟩ = w.cell? ⟨b', o, none⟩) := by
  have hc := Chg.setObj w S b (.map arr2 clock2) hS
  have hlow := hI.low k _ b hb rfl
  refine ⟨?_, ?_, hc.cell⟩
  · exact hH.chg hc (fun b' hb' => by cases hb'; exact hlow) (fun _ _ h => h) (fun b o h => .inl h)
  · refine hI.put hc (fun _ _ h => h) (RhoLe.refl r) k _ (.blk b) ?_ hb (fun _ _ => rfl) (fun b' hb' => .inr ⟨_, hb, hb'⟩) (fun b' hb' => ⟨_, hb, hb'⟩) (fun b o h => .inl h)
    have hlt := (Array.getElem?_eq_some_iff.1 hw).1
    exact ⟨b, arr2, clock2, hb, by simp [hlt], hn, fun j hj => ⟨(he j hj).1, (he j hj).2.1.mono (fun _ _ h => h) hc.cell r (RhoLe.refl r), (he j hj).2.2⟩, hbo, hS⟩

variable {o : Oper} {fr : Fr} {ow : Ow} {t k : Nat} {ty kt et : TypeId} {x y z : Operand} {es : Ents} {key : List UInt8}

theorem mnew_step (ho : o.op = .makeMap ty none) (ht : look t ow = none) (hd : dstOk o.dst n) :
    ∀ F' O', (∀ y ∈ o.op.operands.toList, evF F' y = evF (fF fr) y) → (∀ j ∈ [t], O' j = fO ow j) → StepAt P X n o F' O' (.mh t) [(t, .mp [])] := by
  intro F' O' he hO
  refine stepAt_of hd fun a w S r hH hI hr => ?_
  have hk : O' t = none := (hO t (by simp)).trans ht
  obtain ⟨r', g1, g2, g3, g4, g5⟩ := newMp_ok hH hI hk
  refine ⟨_, _, S, r', .inl ?_, g1, g2, g3, fun _ _ h => h, g4, g5⟩
  simp [execOp, ho, Instr.makeMap, newObj, Sem.run, Result.andThen]

def gotD (ok : Bool) (d : D) (c : Bool) : D :=
  match c with
  | true => .tu [d, .b ok]
  | false => d

theorem got_rel {d : D} {v : Value} (h : Rel S w r d v) (ok c : Bool) : Rel S w r (gotD ok d c) (if c then .tuple #[v, .bool ok] else v) := by
  cases c with
  | false => exact h
  | true =>
    refine .tu _ _ _ rfl fun j hj => ?_
    match j, hj with
    | 0, _ => exact h
    | 1, _ => exact .b ..

theorem mhit_step {d : D} {c : Bool} (hm : P.underlying ty = some (.map kt et)) (hkt : P.underlying kt = some .string) (ho : o.op = .lookup ty x y c) (hx : ev fr x = .mh k) (hy : ev fr y = .s key) (hk : look k ow = some (.mp es)) (hg : mget key es = some d) (hd : dstOk o.dst n) :
    ∀ F' O', (∀ y ∈ o.op.operands.toList, evF F' y = evF (fF fr) y) → (∀ j ∈ [k], O' j = fO ow j) → StepAt P X n o F' O' (gotD true d c) [] := by
  intro F' O' he hO
  refine stepAt_of hd fun a w S r hH hI hr => ?_
  have hx' := hr x
  rw [he x (by simp [ho, Op.operands]), evF_fF, hx] at hx'
  have hy' := hr y
  rw [he y (by simp [ho, Op.operands]), evF_fF, hy] at hy'
  obtain ⟨b, arr, clock, h1, h2, h3, h4, h5, h6, h7⟩ := mp_keys (hI.obj k _ ((hO k (by simp)).trans hk))
  generalize hvx : a.eval x = vx at hx'
  generalize hvy : a.eval y = vy at hy'
  cases hy'
  cases hx' with
  | mh _ _ b' hb' =>
    rw [h1] at hb'
    cases hb'
    have hf := find_mp key es arr.toList 0 h3
    rw [mget_pos] at hg
    split at hg
    · rename_i hlt
      rw [if_pos hlt] at hf
      obtain ⟨_, hev, _⟩ := h5 _ hlt
      rw [Option.some.inj hg] at hev
      have e1 : arr.toList.getD (mpos key es) default = arr.getD (mpos key es) default := by simp [List.getD_eq_getElem?_getD, Array.getD_eq_getD_getElem?]
      rw [e1] at hf
      refine fin_value hH hI rfl ?_ (got_rel hev true c)
      simp [execOp, ho, hvx, hvy, Instr.lookup, run_underlying hm, MapKept.run_getObj_map h2, MapKept.run_checkKey hkt (show MapKept.IsKey .string (.string ⟨key.toArray⟩) from trivial), MapKept.run_findKey hkt hf, Result.andThen]
    · cases hg

theorem mmiss_step {zd : D} {c : Bool} {B' : Tb} (hB : tb P = B') (hz : B'.zr et = some zd) (hm : P.underlying ty = some (.map kt et)) (hkt : P.underlying kt = some .string) (ho : o.op = .lookup ty x y c) (hx : ev fr x = .mh k) (hy : ev fr y = .s key) (hk : look k ow = some (.mp es)) (hg : mget key es = none) (hd : dstOk o.dst n) :
    ∀ F' O', (∀ y ∈ o.op.operands.toList, evF F' y = evF (fF fr) y) → (∀ j ∈ [k], O' j = fO ow j) → StepAt P X n o F' O' (gotD false zd c) [] := by
  intro F' O' he hO
  have hz' : zeroD P et = some zd := by subst hB; exact hz
  obtain ⟨i, zv, q1, q2, q3⟩ := zeroD_spec hz'
  refine stepAt_of hd fun a w S r hH hI hr => ?_
  have hx' := hr x
  rw [he x (by simp [ho, Op.operands]), evF_fF, hx] at hx'
  have hy' := hr y
  rw [he y (by simp [ho, Op.operands]), evF_fF, hy] at hy'
  obtain ⟨b, arr, clock, h1, h2, h3, h4, h5, h6, h7⟩ := mp_keys (hI.obj k _ ((hO k (by simp)).trans hk))
  have hzv := ofVal_rel S w r zv
  rw [← q3] at hzv
  generalize hvx : a.eval x = vx at hx'
  generalize hvy : a.eval y = vy at hy'
  cases hy'
  cases hx' with
  | mh _ _ b' hb' =>
    rw [h1] at hb'
    cases hb'
    have hf := find_mp key es arr.toList 0 h3
    rw [mget_pos] at hg
    split at hg
    · cases hg
    · rename_i hlt
      rw [if_neg hlt] at hf
      refine fin_value hH hI rfl ?_ (got_rel hzv false c)
      simp [execOp, ho, hvx, hvy, Instr.lookup, run_underlying hm, MapKept.run_getObj_map h2, MapKept.run_checkKey hkt (show MapKept.IsKey .string (.string ⟨key.toArray⟩) from trivial), MapKept.run_findKey hkt hf, Result.andThen, zeroValue, typeInfo, q1, q2]

theorem mput_step {d : D} (hm : P.underlying ty = some (.map kt et)) (hkt : P.underlying kt = some .string) (ho : o.op = .mapUpdate ty x y z) (hx : ev fr x = .mh k) (hy : ev fr y = .s key) (hz : ev fr z = d) (h1d : d.one = true) (hk : look k ow = some (.mp es)) (hdst : o.dst = none) :
    ∀ F' O', (∀ y ∈ o.op.operands.toList, evF F' y = evF (fF fr) y) → (∀ j ∈ [k], O' j = fO ow j) → StepAt P X n o F' O' .any [(k, .mp (mput key d es))] := by
  intro F' O' he hO
  refine stepAt_of (by rw [hdst]; trivial) fun a w S r hH hI hr => ?_
  have hx' := hr x
  rw [he x (by simp [ho, Op.operands]), evF_fF, hx] at hx'
  have hy' := hr y
  rw [he y (by simp [ho, Op.operands]), evF_fF, hy] at hy'
  have hz' := hr z
  rw [he z (by simp [ho, Op.operands]), evF_fF, hz] at hz'
  have hkO := (hO k (by simp)).trans hk
  obtain ⟨b, arr, clock, h1, h2, h3, h4, h5, h6, h7⟩ := mp_keys (hI.obj k _ hkO)
  generalize hvx : a.eval x = vx at hx'
  generalize hvy : a.eval y = vy at hy'
  generalize hvz : a.eval z = vz at hz'
  cases hy'
  cases hx' with
  | mh _ _ b' hb' =>
    rw [h1] at hb'
    cases hb'
    have hf := find_mp key es arr.toList 0 h3
    rw [mput_pos]
    by_cases hlt : mpos key es < es.length
    · rw [if_pos hlt] at hf ⊢
      obtain ⟨hek, hev, heo⟩ := h5 _ hlt
      have hsz : mpos key es < arr.size := by omega
      have hj : arr[mpos key es]? = some (arr.getD (mpos key es) default) := by simp [Array.getD_eq_getD_getElem?, hsz]
      have hkey : (es.getD (mpos key es) ([], .any)).1 = key := mpos_key key es hlt
      rw [hkey] at hek
      have hk0 : MapKept.IsKey .string (.string ⟨key.toArray⟩) := trivial
      have hgm : ∀ j, (arr.modify (mpos key es) fun e => { e with key := .string ⟨key.toArray⟩, val := vz }).getD j default = if j = mpos key es then { arr.getD (mpos key es) default with key := .string ⟨key.toArray⟩, val := vz } else arr.getD j default := fun j => by
        simp only [Array.getD_eq_getD_getElem?, Array.getElem?_modify]
        by_cases h : j = mpos key es
        · subst h
          simp [hsz]
        · rw [if_neg h, if_neg (fun e => h e.symm)]
      obtain ⟨g1, g2, g3⟩ := setMp_ok (es2 := es.set (mpos key es) (key, d)) (arr2 := arr.modify (mpos key es) fun e => { e with key := .string ⟨key.toArray⟩, val := vz }) (clock2 := clock) hH hI hkO h1 h2 h7 (by simpa using h4)
        (fun j hj2 => by
          rw [hgm]
          by_cases h : j = mpos key es
          · subst h
            rw [if_pos rfl, List.getD_eq_getElem?_getD, List.getElem?_set_self hlt]
            exact ⟨rfl, hz', h1d⟩
          · rw [if_neg h, List.getD_eq_getElem?_getD, List.getElem?_set_ne (fun e => h e.symm), ← List.getD_eq_getElem?_getD]
            exact h5 j (by simpa using hj2))
        (by
          have hb : ∀ j, ((arr.modify (mpos key es) fun e => { e with key := .string ⟨key.toArray⟩, val := vz }).getD j default).born = (arr.getD j default).born := fun j => by
            rw [hgm]
            by_cases h : j = mpos key es
            · subst h
              rw [if_pos rfl]
            · rw [if_neg h]
          refine ⟨fun i j hij hj2 => ?_, fun i hi2 => ?_⟩
          · rw [hb, hb]
            exact h6.1 i j hij (by simpa using hj2)
          · rw [hb]
            exact h6.2 i (by simpa using hi2))
      refine ⟨undef, _, S, r, .inr ⟨?_, rfl⟩, .any .., g1, g2, fun _ _ h => h, g3, RhoLe.refl r⟩
      obtain ⟨e0, hj0, hek0⟩ : ∃ e0, arr[mpos key es]? = some e0 ∧ e0.key = .string ⟨key.toArray⟩ := ⟨_, hj, hek⟩
      clear hj hek hev hgm
      simp [execOp, ho, hvx, hvy, hvz, Instr.mapUpdate, run_underlying hm, MapKept.run_getObj_map h2, MapKept.run_checkKey hkt hk0, MapKept.run_findKey hkt hf, hj0, hek0, MapKept.run_keyThatStays hk0, MapKept.run_setObj_map _ h2, Result.andThen]
    · rw [if_neg hlt] at hf ⊢
      have hk0 : MapKept.IsKey .string (.string ⟨key.toArray⟩) := trivial
      have hgp : ∀ j, (arr.push ⟨.string ⟨key.toArray⟩, vz, clock⟩).getD j default = if j = arr.size then ⟨.string ⟨key.toArray⟩, vz, clock⟩ else arr.getD j default := fun j => by
        simp only [Array.getD_eq_getD_getElem?, Array.getElem?_push]
        by_cases h : j = arr.size
        · subst h
          simp
        · rw [if_neg h, if_neg h]
      obtain ⟨g1, g2, g3⟩ := setMp_ok (es2 := es ++ [(key, d)]) (arr2 := arr.push ⟨.string ⟨key.toArray⟩, vz, clock⟩) (clock2 := clock + 1) hH hI hkO h1 h2 h7 (by simp [h4])
        (fun j hj2 => by
          rw [hgp]
          by_cases h : j = arr.size
          · subst h
            rw [if_pos rfl, h4, List.getD_eq_getElem?_getD, List.getElem?_append_right (Nat.le_refl _)]
            simp only [Nat.sub_self]
            exact ⟨rfl, hz', h1d⟩
          · have hj3 : j < es.length := by
              simp only [List.length_append, List.length_cons, List.length_nil] at hj2
              omega
            rw [if_neg h, List.getD_eq_getElem?_getD, List.getElem?_append_left hj3, ← List.getD_eq_getElem?_getD]
            exact h5 j hj3)
        (by
          refine ⟨fun i j hij hj2 => ?_, fun i hi2 => ?_⟩
          · rw [hgp, hgp]
            have hj3 : j < arr.size + 1 := by simpa using hj2
            rw [if_neg (show ¬ i = arr.size by omega)]
            by_cases h : j = arr.size
            · rw [if_pos h]
              exact h6.2 i (by omega)
            · rw [if_neg h]
              exact h6.1 i j hij (by omega)
          · rw [hgp]
            have hi3 : i < arr.size + 1 := by simpa using hi2
            by_cases h : i = arr.size
            · rw [if_pos h]
              exact Nat.lt_succ_self _
            · rw [if_neg h]
              exact Nat.lt_succ_of_lt (h6.2 i (by omega)))
      refine ⟨undef, _, S, r, .inr ⟨?_, rfl⟩, .any .., g1, g2, fun _ _ h => h, g3, RhoLe.refl r⟩
      simp [execOp, ho, hvx, hvy, hvz, Instr.mapUpdate, run_underlying hm, MapKept.run_getObj_map h2, MapKept.run_checkKey hkt hk0, MapKept.run_findKey hkt hf, MapKept.run_setObj_map _ h2, Result.andThen]

theorem mclr_step (hm : P.underlying ty = some (.map kt et)) (ho : o.op = .call ⟨.builtin .clear, #[x], #[ty]⟩) (hx : ev fr x = .mh k) (hk : look k ow = some (.mp es)) (hd : dstOk o.dst n) :
    ∀ F' O', (∀ y ∈ o.op.operands.toList, evF F' y = evF (fF fr) y) → (∀ j ∈ [k], O' j = fO ow j) → StepAt P X n o F' O' (.tu []) [(k, .mp [])] := by
  intro F' O' he hO
  refine stepAt_of hd fun a w S r hH hI hr => ?_
  have hx' := hr x
  rw [he x (by simp [ho, Op.operands, Call.operands]), evF_fF, hx] at hx'
  have hkO := (hO k (by simp)).trans hk
  obtain ⟨b, arr, clock, h1, h2, h3, h4, h5, h6, h7⟩ := mp_keys (hI.obj k _ hkO)
  generalize hvx : a.eval x = vx at hx'
  cases hx' with
  | mh _ _ b' hb' =>
    rw [h1] at hb'
    cases hb'
    obtain ⟨g1, g2, g3⟩ := setMp_ok (es2 := []) (arr2 := #[]) (clock2 := clock) hH hI hkO h1 h2 h7 rfl (fun j hj => by simp at hj) ⟨fun i j _ h => by simp at h, fun i h => by simp at h⟩
    refine ⟨.tuple #[], _, S, r, .inl ?_, .tu _ _ _ rfl (fun j hj => by simp at hj), g1, g2, fun _ _ h => h, g3, RhoLe.refl r⟩
    simp [execOp, ho, resolve, invoke, builtin, hvx, Builtin.clear_, run_underlying hm, MapKept.run_getObj_map h2, MapKept.run_setObj_map _ h2, Result.andThen]

end

section
variable {X : Ctx} {n : Nat} {all rest : List Oper} {fr : Fr} {ow : Ow} {tr : List (List Nat × List Nat)} {K : Fr → Ow → List (List Nat × List Nat) → Prop}
variable {t k : Nat} {ty ty' kt et t2 : TypeId} {ps : String} {af : Array Edge} {x y z : Operand} {es : Ents} {key : List UInt8} {d : D} {c : Bool} {g u : Nat} {want : Bool}

set_option maxRecDepth 100000 in
theorem r_mnew (ht : look t ow = none) (hn : Nat.blt t n = true) (h : CT Tryz.prog X n all rest ((t, .mh t) :: fr) ((t, .mp []) :: ow) (tr ++ [([t], [t])]) K) :
    CT Tryz.prog X n all (⟨some t, .makeMap ty none, ty', ps, af, none⟩ :: rest) fr ow tr K :=
  CT.cons (e := ⟨.mh t, [t], [(t, .mp [])]⟩) (.plain rfl (mnew_step (o := ⟨some t, .makeMap ty none, ty', ps, af, none⟩) rfl ht (show t < n by simpa using hn))) (fF_cons ..) (fO_cons ..) h

set_option maxRecDepth 100000 in
theorem r_mhit (hm : Tryz.prog.underlying ty = some (.map kt et)) (hkt : Tryz.prog.underlying kt = some .string) (hx : ev fr x = .mh k) (hy : ev fr y = .s key) (hk : look k ow = some (.mp es)) (hg : mget key es = some d) (hn : Nat.blt t n = true)
    (h : CT Tryz.prog X n all rest ((t, gotD true d c) :: fr) ow (tr ++ [([k], [])]) K) : CT Tryz.prog X n all (⟨some t, .lookup ty x y c, ty', ps, af, none⟩ :: rest) fr ow tr K :=
  CT.cons (e := ⟨gotD true d c, [k], []⟩) (.plain rfl (mhit_step (o := ⟨some t, .lookup ty x y c, ty', ps, af, none⟩) hm hkt rfl hx hy hk hg (show t < n by simpa using hn))) (fF_cons ..) rfl h

set_option maxRecDepth 100000 in
theorem r_mmiss (hm : Tryz.prog.underlying ty = some (.map kt et)) (hkt : Tryz.prog.underlying kt = some .string) (hz : B.zr et = some d) (hx : ev fr x = .mh k) (hy : ev fr y = .s key) (hk : look k ow = some (.mp es)) (hg : mget key es = none) (hn : Nat.blt t n = true)
    (h : CT Tryz.prog X n all rest ((t, gotD false d c) :: fr) ow (tr ++ [([k], [])]) K) : CT Tryz.prog X n all (⟨some t, .lookup ty x y c, ty', ps, af, none⟩ :: rest) fr ow tr K :=
  CT.cons (e := ⟨gotD false d c, [k], []⟩) (.plain rfl (mmiss_step (o := ⟨some t, .lookup ty x y c, ty', ps, af, none⟩) tb_eq hz hm hkt rfl hx hy hk hg (show t < n by simpa using hn))) (fF_cons ..) rfl h

set_option maxRecDepth 100000 in
theorem r_mput (hm : Tryz.prog.underlying ty = some (.map kt et)) (hkt : Tryz.prog.underlying kt = some .string) (hx : ev fr x = .mh k) (hy : ev fr y = .s key) (hz : ev fr z = d) (h1 : d.one = true) (hk : look k ow = some (.mp es))
    (h : CT Tryz.prog X n all rest fr ((k, .mp (mput key d es)) :: ow) (tr ++ [([k], [k])]) K) : CT Tryz.prog X n all (⟨none, .mapUpdate ty x y z, ty', ps, af, none⟩ :: rest) fr ow tr K :=
  CT.cons (e := ⟨.any, [k], [(k, .mp (mput key d es))]⟩) (.plain rfl (mput_step (o := ⟨none, .mapUpdate ty x y z, ty', ps, af, none⟩) hm hkt rfl hx hy hz h1 hk rfl)) rfl (fO_cons ..) h

set_option maxRecDepth 100000 in
theorem r_mclr (hm : Tryz.prog.underlying ty = some (.map kt et)) (hx : ev fr x = .mh k) (hk : look k ow = some (.mp es)) (hn : Nat.blt t n = true)
    (h : CT Tryz.prog X n all rest ((t, .tu []) :: fr) ((k, .mp []) :: ow) (tr ++ [([k], [k])]) K) : CT Tryz.prog X n all (⟨some t, .call ⟨.builtin .clear, #[x], #[ty]⟩, ty', ps, af, none⟩ :: rest) fr ow tr K :=
  CT.cons (e := ⟨.tu [], [k], [(k, .mp [])]⟩) (.plain rfl (mclr_step (o := ⟨some t, .call ⟨.builtin .clear, #[x], #[ty]⟩, ty', ps, af, none⟩) hm rfl hx hk (show t < n by simpa using hn))) (fF_cons ..) (fO_cons ..) h
end

end Go.Proofs.YtbegohehjkjnmaaGreatDoor.Flow

namespace Go.Proofs.YtbegohehjkjnmaaGreatDoor.Flow
open Go

def keysOk (ks : List (List UInt8)) : Bool := decide ks.Nodup && ks.all validL
def rightJ : Nat → J → Bool
  | 0, _ => false
  | d + 1, x => if x.kind = 0 ∨ x.kind = 1 then true else if x.kind = 2 then rightB x.neg x.dig x.exp else if x.kind = 3 then validL x.text
    else if x.kind = 5 then ((keysOk x.keys && decide (x.keys.length = x.list.length)) && x.list.all (rightJ d)) else if x.kind = 4 then x.list.all (rightJ d) else false

theorem right_mk (d : Nat) (k : Int) (y n : Bool) (dg : List UInt8) (e : Int) (t : List UInt8) (l : List J) (ks : List (List UInt8)) : rightJ (d + 1) (.mk k y n dg e t l ks) =
    if k = 0 ∨ k = 1 then true else if k = 2 then rightB n dg e else if k = 3 then validL t else if k = 5 then ((keysOk ks && decide (ks.length = l.length)) && l.all (rightJ d)) else if k = 4 then l.all (rightJ d) else false := rfl

theorem keysOk_hit {ks : List (List UInt8)} {i : Nat} (h : i < ks.length) (hm : ks.getD i [] ∈ ks.take i) : keysOk ks = false := by
  unfold keysOk
  rw [decide_eq_false, Bool.false_and]
  intro hn
  obtain ⟨j, hj, he⟩ := List.mem_iff_getElem.1 hm
  rw [List.length_take] at hj
  rw [List.getElem_take] at he
  have h2 := List.pairwise_iff_getElem.1 hn j i (by omega) h (by omega)
  apply h2
  rw [he]
  simp [List.getD_eq_getElem?_getD, h]
theorem keysOk_bad {ks : List (List UInt8)} {i : Nat} (h : i < ks.length) (hm : validL (ks.getD i []) = false) : keysOk ks = false := by
  unfold keysOk
  have : ks.all validL = false := by
    rw [List.all_eq_false]
    refine ⟨ks.getD i [], ?_, by rw [hm]; exact Bool.false_ne_true⟩
    rw [show ks.getD i [] = ks[i] by simp [List.getD_eq_getElem?_getD, h]]
    exact List.getElem_mem h
  rw [this, Bool.and_false]
theorem keysOk_all {ks : List (List UInt8)} (h : ∀ i, i < ks.length → ks.getD i [] ∉ ks.take i ∧ validL (ks.getD i []) = true) : keysOk ks = true := by
  unfold keysOk
  have e : ∀ i (hi : i < ks.length), ks.getD i [] = ks[i] := fun i hi => by simp [List.getD_eq_getElem?_getD, hi]
  rw [Bool.and_eq_true, decide_eq_true_eq, List.all_eq_true]
  refine ⟨List.pairwise_iff_getElem.2 fun i j hi hj hij he => ?_, fun k hk => ?_⟩
  · apply (h j hj).1
    rw [e j hj, ← he]
    exact List.mem_iff_getElem.2 ⟨i, by rw [List.length_take]; omega, by rw [List.getElem_take]⟩
  · obtain ⟨i, hi, rfl⟩ := List.mem_iff_getElem.1 hk
    have := (h i hi).2
    rwa [e i hi] at this
theorem keysOk_in {ks : List (List UInt8)} (h : keysOk ks = true) : ∀ i, i < ks.length → ks.getD i [] ∉ ks.take i ∧ validL (ks.getD i []) = true := fun i hi => by
  constructor
  · intro hm
    rw [keysOk_hit hi hm] at h
    cases h
  · cases hv : validL (ks.getD i []) with
    | true => rfl
    | false =>
      rw [keysOk_bad hi hv] at h
      cases h

def mapB (ks : List (List UInt8)) : Ents := ks.map fun k => (k, .b true)
theorem mget_mapB {k : List UInt8} : ∀ {ks : List (List UInt8)}, k ∈ ks → mget k (mapB ks) = some (.b true)
  | [], h => by cases h
  | p :: r, h => by
    show (if p = k then some (D.b true) else mget k (mapB r)) = _
    by_cases e : p = k
    · rw [if_pos e]
    · rw [if_neg e]
      exact mget_mapB ((List.mem_cons.1 h).resolve_left fun q => e q.symm)
theorem mget_mapBn {k : List UInt8} : ∀ {ks : List (List UInt8)}, k ∉ ks → mget k (mapB ks) = none
  | [], _ => rfl
  | p :: r, h => by
    show (if p = k then some (D.b true) else mget k (mapB r)) = _
    rw [if_neg fun e => h (List.mem_cons.2 (.inl e.symm))]
    exact mget_mapBn fun q => h (List.mem_cons.2 (.inr q))
theorem mput_mapB {k : List UInt8} : ∀ {ks : List (List UInt8)}, k ∉ ks → mput k (.b true) (mapB ks) = mapB (ks ++ [k])
  | [], _ => rfl
  | p :: r, h => by
    show (if p = k then _ else (p, D.b true) :: mput k (.b true) (mapB r)) = _
    rw [if_neg fun e => h (List.mem_cons.2 (.inl e.symm)), mput_mapB fun q => h (List.mem_cons.2 (.inr q))]
    rfl
theorem okMB (ls : List Nat) (ks : List (List UInt8)) : (Own.mp (mapB ks)).okIn ls = true := by
  show (mapB ks).all (fun p => p.2.okIn ls) = true
  rw [List.all_eq_true]
  intro p hp
  obtain ⟨q, _, rfl⟩ := List.mem_map.1 hp
  rfl
theorem take_succ' {ks : List (List UInt8)} {i : Nat} (h : i < ks.length) : ks.take (i + 1) = ks.take i ++ [ks.getD i []] := by
  rw [List.take_add_one]
  have : ks[i]? = some (ks.getD i []) := by simp [List.getD_eq_getElem?_getD, h]
  rw [this]
  rfl
theorem txL_at : ∀ {ks : List (List UInt8)} {i : Nat}, (ks.getD i []).length ≤ txL ks
  | [], _ => by simp
  | k :: r, 0 => by
    rw [txL]
    show k.length ≤ _
    omega
  | k :: r, i + 1 => by
    have := txL_at (ks := r) (i := i)
    rw [txL, List.getD_cons_succ]
    omega
theorem all_bad {l : List J} {d i : Nat} (h : i < l.length) (hb : rightJ d (l.getD i j0) = false) : l.all (rightJ d) = false := by
  rw [List.all_eq_false]
  refine ⟨l.getD i j0, ?_, by rw [hb]; exact Bool.false_ne_true⟩
  rw [show l.getD i j0 = l[i] by simp [List.getD_eq_getElem?_getD, h]]
  exact List.getElem_mem h
theorem all_ok {l : List J} {d : Nat} (h : ∀ i, i < l.length → rightJ d (l.getD i j0) = true) : l.all (rightJ d) = true := by
  rw [List.all_eq_true]
  intro x hx
  obtain ⟨i, hi, rfl⟩ := List.mem_iff_getElem.1 hx
  have := h i hi
  rwa [show l.getD i j0 = l[i] by simp [List.getD_eq_getElem?_getD, hi]] at this

end Go.Proofs.YtbegohehjkjnmaaGreatDoor.Flow

namespace Go.Proofs.YtbegohehjkjnmaaGreatDoor.Flow
open Go

end Go.Proofs.YtbegohehjkjnmaaGreatDoor.Flow

namespace Go.Proofs.YtbegohehjkjnmaaGreatDoor.Flow
open Go

def codeR (s : List UInt8) (i : Int) : Int × Int × Int :=
  if (fourG s 4 0 i).2.2 = 0 then
    (if 56320 ≤ (fourG s 4 0 i).1 ∧ (fourG s 4 0 i).1 < 57344 then (0, 0, 3)
    else if (fourG s 4 0 i).1 < 55296 ∨ 57344 ≤ (fourG s 4 0 i).1 then ((fourG s 4 0 i).1, i + 4, 0)
    else if i + 4 < s.length then
      (if at' s (i + 4) = 92 then
        (if i + 5 < s.length then
          (if at' s (i + 5) = 117 then
            (if (fourG s 4 0 (i + 6)).2.2 = 0 then
              (if (fourG s 4 0 (i + 6)).1 < 56320 ∨ 57344 ≤ (fourG s 4 0 (i + 6)).1 then (0, 0, 3) else (pairF (fourG s 4 0 i).1 (fourG s 4 0 (i + 6)).1, i + 10, 0))
            else (0, 0, (fourG s 4 0 (i + 6)).2.2))
          else (0, 0, 3))
        else (0, 0, 2))
      else (0, 0, 3))
    else (0, 0, 2))
  else (0, 0, (fourG s 4 0 i).2.2)

end Go.Proofs.YtbegohehjkjnmaaGreatDoor.Flow

namespace Go.Proofs.YtbegohehjkjnmaaGreatDoor.Flow
open Go

def hexD (n : Int) : UInt8 := by8 (if n < 10 then 48 + n else 87 + n)

def qI (n : Int) : List UInt8 :=
  if n = 8 then [92, 98] else if n = 9 then [92, 116] else if n = 10 then [92, 110] else if n = 12 then [92, 102] else if n = 13 then [92, 114]
  else if n = 34 then [92, 34] else if n = 92 then [92, 92] else if n < 32 then [92, 117, 48, 48, hexD (n / 16), hexD (n % 16)] else [by8 n]

def qL : List UInt8 → List UInt8
  | [] => []
  | c :: r => qI (c.toNat : Int) ++ qL r

def quoteL (s : List UInt8) : List UInt8 := if validL s = true then [34] ++ qL s ++ [34] else []

theorem qL_append (a b : List UInt8) : qL (a ++ b) = qL a ++ qL b := by
  induction a with
  | nil => rfl
  | cons c r ih => simp [qL, ih]

theorem qL_take (s : List UInt8) (i : Nat) (h : i < s.length) : qL (s.take (i + 1)) = qL (s.take i) ++ qI (at' s i) := by
  rw [List.take_add_one, qL_append]
  congr 1
  simp [at', h, qL, List.getD_eq_getElem?_getD]

theorem qI_len (n : Int) : (qI n).length ≤ 6 := by
  unfold qI
  (repeat' split) <;> simp

theorem qL_len : ∀ s : List UInt8, (qL s).length ≤ 6 * s.length
  | [] => by simp [qL]
  | c :: r => by
    have := qL_len r
    have := qI_len (c.toNat : Int)
    simp only [qL, List.length_append, List.length_cons]
    omega

theorem by8_self (c : UInt8) : by8 (c.toNat : Int) = c := by simp [by8]

theorem dropAt {t rest : List UInt8} {c : UInt8} {p : Nat} (h : t.drop p = c :: rest) : at' t (p : Int) = (c.toNat : Int) ∧ p < t.length ∧ t.drop (p + 1) = rest := by
  have hp : p < t.length := by
    have : (t.drop p).length = rest.length + 1 := by rw [h]; rfl
    simp at this
    omega
  have hg : t[p] = c := by
    have : (t.drop p)[0]? = some c := by rw [h]; rfl
    simpa [hp] using this
  refine ⟨?_, hp, ?_⟩
  · simp [at', hp, hg, List.getD_eq_getElem?_getD]
  · rw [← List.drop_drop, h]
    rfl

theorem hexF_D (n : Int) (h0 : 0 ≤ n) (h1 : n < 16) : hexF ((hexD n).toNat : Int) = n := by
  unfold hexD
  rw [by8_nat _ (by split <;> omega) (by split <;> omega)]
  exact hexF_lo _ n h0 h1 (.inl rfl)

theorem four_hex (t rest : List UInt8) (p : Nat) (a b c d : UInt8) (h : t.drop p = a :: b :: c :: d :: rest) (ha : 0 ≤ hexF (a.toNat : Int)) (hb : 0 ≤ hexF (b.toNat : Int)) (hc : 0 ≤ hexF (c.toNat : Int)) (hd : 0 ≤ hexF (d.toNat : Int)) :
    fourG t 4 0 (p : Int) = (16 * (16 * (16 * (16 * 0 + hexF (a.toNat : Int)) + hexF (b.toNat : Int)) + hexF (c.toNat : Int)) + hexF (d.toNat : Int), (p : Int) + 4, 0) := by
  obtain ⟨a1, a2, a3⟩ := dropAt h
  obtain ⟨b1, b2, b3⟩ := dropAt a3
  obtain ⟨c1, c2, c3⟩ := dropAt b3
  obtain ⟨d1, d2, d3⟩ := dropAt c3
  rw [show (((p + 1 : Nat)) : Int) = (p : Int) + 1 by omega] at b1
  rw [show (((p + 1 + 1 : Nat)) : Int) = (p : Int) + 1 + 1 by omega] at c1
  rw [show (((p + 1 + 1 + 1 : Nat)) : Int) = (p : Int) + 1 + 1 + 1 by omega] at d1
  rw [fourG_more (by omega) (by rw [a1]; omega), a1, fourG_more (by omega) (by rw [b1]; omega), b1, fourG_more (by omega) (by rw [c1]; omega), c1, fourG_more (by omega) (by rw [d1]; omega), d1]
  show (_, _, _) = (_, _, _)
  rw [show (p : Int) + 1 + 1 + 1 + 1 = p + 4 by omega]

theorem unq_step (t rest o : List UInt8) (c : UInt8) (p n : Nat) (h : t.drop p = qI (c.toNat : Int) ++ rest) :
    unqG t (n + 1) (p : Int) o = unqG t n ((p + (qI (c.toNat : Int)).length : Nat) : Int) (o ++ [c]) := by
  have hc : (c.toNat : Int) < 256 := by have := c.toNat_lt; omega
  have key : ∀ (k v : UInt8), qI (c.toNat : Int) = [92, k] → ¬ (k.toNat : Int) = 117 → escE (k.toNat : Int) = 0 → by8 (escV (k.toNat : Int)) = c → unqG t (n + 1) (p : Int) o = unqG t n ((p + (qI (c.toNat : Int)).length : Nat) : Int) (o ++ [c]) := by
    intro k v hq hk he hv
    rw [hq] at h ⊢
    obtain ⟨a1, a2, a3⟩ := dropAt (show t.drop p = 92 :: (k :: rest) from h)
    obtain ⟨b1, b2, b3⟩ := dropAt a3
    rw [show (((p + 1 : Nat)) : Int) = (p : Int) + 1 by omega] at b1
    have e : escP t ((p : Int) + 1) o = ((p : Int) + 2, o ++ [c], 0) := by
      unfold escP
      rw [if_pos (by omega), b1, if_neg hk, he, hv, show (p : Int) + 1 + 1 = p + 2 by omega]
    rw [unqG_esc (by omega) a1, e]
    rfl
  by_cases c8 : (c.toNat : Int) = 8
  · exact key 98 0 (by unfold qI; rw [if_pos c8]) (by decide) (by decide) (by rw [← by8_self c, c8]; decide)
  by_cases c9 : (c.toNat : Int) = 9
  · exact key 116 0 (by unfold qI; rw [if_neg c8, if_pos c9]) (by decide) (by decide) (by rw [← by8_self c, c9]; decide)
  by_cases c10 : (c.toNat : Int) = 10
  · exact key 110 0 (by unfold qI; rw [if_neg c8, if_neg c9, if_pos c10]) (by decide) (by decide) (by rw [← by8_self c, c10]; decide)
  by_cases c12 : (c.toNat : Int) = 12
  · exact key 102 0 (by unfold qI; rw [if_neg c8, if_neg c9, if_neg c10, if_pos c12]) (by decide) (by decide) (by rw [← by8_self c, c12]; decide)
  by_cases c13 : (c.toNat : Int) = 13
  · exact key 114 0 (by unfold qI; rw [if_neg c8, if_neg c9, if_neg c10, if_neg c12, if_pos c13]) (by decide) (by decide) (by rw [← by8_self c, c13]; decide)
  by_cases c34 : (c.toNat : Int) = 34
  · exact key 34 0 (by unfold qI; rw [if_neg c8, if_neg c9, if_neg c10, if_neg c12, if_neg c13, if_pos c34]) (by decide) (by decide) (by rw [← by8_self c, c34]; decide)
  by_cases c92 : (c.toNat : Int) = 92
  · exact key 92 0 (by unfold qI; rw [if_neg c8, if_neg c9, if_neg c10, if_neg c12, if_neg c13, if_neg c34, if_pos c92]) (by decide) (by decide) (by rw [← by8_self c, c92]; decide)
  clear key
  by_cases c32 : (c.toNat : Int) < 32
  · have hq : qI (c.toNat : Int) = [92, 117, 48, 48, hexD ((c.toNat : Int) / 16), hexD ((c.toNat : Int) % 16)] := by
      unfold qI
      rw [if_neg c8, if_neg c9, if_neg c10, if_neg c12, if_neg c13, if_neg c34, if_neg c92, if_pos c32]
    rw [hq] at h ⊢
    obtain ⟨a1, a2, a3⟩ := dropAt (show t.drop p = 92 :: (117 :: 48 :: 48 :: hexD ((c.toNat : Int) / 16) :: hexD ((c.toNat : Int) % 16) :: rest) from h)
    obtain ⟨b1, b2, b3⟩ := dropAt a3
    have d1 := hexF_D ((c.toNat : Int) / 16) (by omega) (by omega)
    have d2 := hexF_D ((c.toNat : Int) % 16) (by omega) (by omega)
    have h48 : hexF (((48 : UInt8).toNat : Nat) : Int) = 0 := by decide
    have hf := four_hex t rest (p + 1 + 1) 48 48 _ _ b3 (by omega) (by omega) (by omega) (by omega)
    rw [d1, d2, h48, show 16 * (16 * (16 * (16 * 0 + 0) + 0) + (c.toNat : Int) / 16) + (c.toNat : Int) % 16 = c.toNat by omega, show ((p + 1 + 1 : Nat) : Int) = (p : Int) + 1 + 1 by omega] at hf
    rw [show (((p + 1 : Nat)) : Int) = (p : Int) + 1 by omega] at b1
    have e : escP t ((p : Int) + 1) o = ((p : Int) + 6, o ++ [c], 0) := by
      unfold escP
      rw [if_pos (by omega), b1, if_pos (by decide), codeP_one hf (by omega), utfB_1 (by omega), by8_self, show (p : Int) + 1 + 1 + 4 = p + 6 by omega]
    rw [unqG_esc (by omega) a1, e]
    rfl
  · have hq : qI (c.toNat : Int) = [c] := by
      unfold qI
      rw [if_neg c8, if_neg c9, if_neg c10, if_neg c12, if_neg c13, if_neg c34, if_neg c92, if_neg c32, by8_self]
    rw [hq] at h ⊢
    obtain ⟨a1, a2, a3⟩ := dropAt (show t.drop p = c :: rest from h)
    rw [unqG_more (by omega) (by rw [a1]; exact c34) (by rw [a1]; exact c92) (by rw [a1]; exact c32), a1, by8_self]
    rfl

theorem unq_quoted (t behind : List UInt8) : ∀ (r o : List UInt8) (p n : Nat), t.drop p = qL r ++ 34 :: behind → t.length + 1 ≤ p + n → validL (o ++ r) = true → unqG t n (p : Int) o = (o ++ r, ((p + (qL r).length : Nat) : Int) + 1, 0)
  | [], o, p, n, h, hn, hv => by
    obtain ⟨a1, a2, a3⟩ := dropAt (show t.drop p = 34 :: behind from h)
    obtain ⟨n, rfl⟩ : ∃ k, n = k + 1 := ⟨n - 1, by omega⟩
    rw [List.append_nil] at hv ⊢
    rw [unqG_quote (by omega) a1 hv]
    rfl
  | c :: r, o, p, n, h, hn, hv => by
    have h2 : t.drop p = qI (c.toNat : Int) ++ (qL r ++ 34 :: behind) := by rw [h]; simp [qL]
    have hp : p < t.length := by
      by_cases hp : p < t.length
      · exact hp
      · rw [List.drop_eq_nil_of_le (by omega)] at h
        have := congrArg List.length h
        simp at this
    obtain ⟨n, rfl⟩ : ∃ k, n = k + 1 := ⟨n - 1, by omega⟩
    rw [unq_step t _ o c p n h2]
    have hl : 1 ≤ (qI (c.toNat : Int)).length := by
      unfold qI
      (repeat' split) <;> simp
    rw [unq_quoted t behind r (o ++ [c]) (p + (qI (c.toNat : Int)).length) n (by rw [← List.drop_drop, h2, List.drop_left]) (by omega) (by simpa using hv)]
    simp only [qL, List.length_append, List.append_assoc, List.cons_append, List.nil_append]
    congr 2
    omega

theorem unq_quote (s ahead behind : List UInt8) (hv : validL s = true) : unqF (ahead ++ quoteL s ++ behind) ahead.length = (s, (ahead.length : Int) + (quoteL s).length, 0) := by
  have hq : quoteL s = [34] ++ qL s ++ [34] := if_pos hv
  rw [hq]
  generalize ht : ahead ++ ([34] ++ qL s ++ [34]) ++ behind = t
  have hd : t.drop ahead.length = 34 :: (qL s ++ 34 :: behind) := by
    rw [← ht, List.append_assoc, List.drop_left]
    simp
  obtain ⟨a1, a2, a3⟩ := dropAt hd
  have hm : mustF t (ahead.length : Int) 0 34 = ((ahead.length : Int) + 1, 0) := by
    unfold mustF
    rw [nextF_ok rfl (by omega)]
    dsimp only
    rw [if_pos (by rw [a1]; rfl)]
  unfold unqF
  rw [if_neg (by omega), hm]
  dsimp only
  rw [if_pos rfl]
  have := unq_quoted t behind s [] (ahead.length + 1) (t.length + 1 - ((ahead.length : Int) + 1).toNat) a3 (by omega) hv
  rw [show (((ahead.length + 1 : Nat)) : Int) = (ahead.length : Int) + 1 by omega] at this
  rw [this]
  simp
  omega

end Go.Proofs.YtbegohehjkjnmaaGreatDoor.Flow

namespace Go.Proofs.YtbegohehjkjnmaaGreatDoor.Flow
open Go

section
variable {x r ds : List UInt8} {a : UInt8} {i : Nat}
theorem jd_lt {l : List UInt8} (h : x.drop i = a :: l) : i < x.length := by
  by_cases hi : i < x.length
  · exact hi
  · rw [List.drop_eq_nil_of_le (by omega)] at h
    cases h
theorem jd_at (h : x.drop i = a :: r) : at' x i = (a.toNat : Int) := by
  have hi := jd_lt h
  rw [drop_cons hi] at h
  have := (List.cons.inj h).1
  unfold at'
  rw [Int.toNat_natCast, this]
theorem jd_app (h : x.drop i = ds ++ r) : x.drop (i + ds.length) = r := by
  rw [← List.drop_drop, h, List.drop_left]
end

def aheadT (mp first : Bool) (ks : List (List UInt8)) : List UInt8 := (if first = true then [] else [44]) ++ (if mp = true then quoteL (ks.headD []) ++ [58] else [])

section
variable {x b : List UInt8} {a : UInt8} {i : Nat}
abbrev endsNum (a : UInt8) : Prop := isD a = false ∧ ¬ (a.toNat : Int) = 45 ∧ ¬ (a.toNat : Int) = 43 ∧ ¬ (a.toNat : Int) = 46 ∧ ¬ (a.toNat : Int) = 101 ∧ ¬ (a.toNat : Int) = 69

theorem dgT_delim (h : isD a = false) : dgT (x ++ a :: b) i = if i ≤ x.length then dgT x i else dgT (x ++ a :: b) i := by
  split
  · rename_i hi
    unfold dgT
    rw [List.drop_append_of_le_length hi]
    generalize x.drop i = q
    induction q with
    | nil => simp [h]
    | cons c q ih =>
      rw [List.cons_append, List.takeWhile_cons, List.takeWhile_cons, ih]
  · rfl
theorem dgT_del (h : isD a = false) (hi : i ≤ x.length) : dgT (x ++ a :: b) i = dgT x i := by rw [dgT_delim h, if_pos hi]
theorem sat_del {c : Int} (h : ¬ (a.toNat : Int) = c) (hi : i ≤ x.length) : sat (x ++ a :: b) i c ↔ sat x i c := by
  unfold sat at'
  rw [Int.toNat_natCast]
  by_cases e : i < x.length
  · rw [List.getD_eq_getElem?_getD, List.getElem?_append_left e, ← List.getD_eq_getElem?_getD]
    simp only [List.length_append, List.length_cons, e, true_and]
    exact ⟨fun q => q.2, fun q => ⟨by omega, q⟩⟩
  · have : i = x.length := by omega
    subst this
    constructor
    · intro q
      exfalso
      apply h
      have := q.2
      simpa [List.getD_eq_getElem?_getD] using this
    · intro q
      exact absurd q.1 (Nat.lt_irrefl _)
theorem isD_48 (h : isD a = false) : ¬ (a.toNat : Int) = 48 := fun q => by
  have : isD a = true := isD_iff.2 (by omega)
  rw [h] at this
  cases this
theorem whN_del (h : isD a = false) (hi : i ≤ x.length) : whN (x ++ a :: b) i = whN x i := by
  unfold whN
  rw [dgT_del h hi]
  simp only [sat_del (isD_48 h) hi]
theorem whN_leP (hi : i ≤ x.length) : (whN x i).2 ≤ x.length := by
  unfold whN
  have := dgT_len x i
  split
  · rename_i q
    have := q.1
    dsimp only
    omega
  · dsimp only
    omega
theorem frN_del (h : endsNum a) (hi : i ≤ x.length) : frN (x ++ a :: b) i = frN x i := by
  unfold frN
  simp only [sat_del h.2.2.2.1 hi]
  by_cases q : sat x i 46
  · rw [dgT_del h.1 (show i + 1 ≤ x.length from q.1)]
  · rw [if_neg (fun e => q e.1), if_neg (fun e => q e.1)]
theorem frN_leP (hi : i ≤ x.length) : (frN x i).2 ≤ x.length := by
  unfold frN
  have := dgT_len x (i + 1)
  split
  · rename_i q
    have := q.1.1
    dsimp only
    omega
  · exact hi
theorem exN_del {pw : List UInt8 → Int} (h : endsNum a) (hi : i ≤ x.length) : exN pw (x ++ a :: b) i = exN pw x i := by
  unfold exN
  simp only [sat_del h.2.2.2.2.1 hi, sat_del h.2.2.2.2.2 hi]
  by_cases q : sat x i 101 ∨ sat x i 69
  · have h1 : i + 1 ≤ x.length := by
      rcases q with q | q
      · exact q.1
      · exact q.1
    have e1 : sgN (x ++ a :: b) (i + 1) = sgN x (i + 1) := by
      unfold sgN
      simp only [sat_del h.2.2.1 h1, sat_del h.2.1 h1]
    have e2 : sgN x (i + 1) ≤ x.length := by
      unfold sgN
      split
      · rename_i q
        rcases q with q | q
        · exact q.1
        · exact q.1
      · exact h1
    rw [e1, dgT_del h.1 e2]
    simp only [sat_del h.2.1 h1]
  · rw [if_neg (fun e => q e.1), if_neg (fun e => q e.1)]
theorem parse_del {pw : List UInt8 → Int} (h : endsNum a) : parseG pw (x ++ a :: b) = parseG pw x := by
  have e0 : sg0 (x ++ a :: b) = sg0 x := by
    unfold sg0
    simp only [sat_del (i := 0) h.2.1 (Nat.zero_le _)]
  have l0 : sg0 x ≤ x.length := by
    unfold sg0
    split
    · rename_i q
      exact q.1
    · exact Nat.zero_le _
  unfold parseG
  dsimp only
  rw [e0, whN_del h.1 l0, frN_del h (whN_leP l0), exN_del h (frN_leP (whN_leP l0))]
  simp only [sat_del (i := 0) h.2.1 (Nat.zero_le _)]
end
theorem quote_first {s : List UInt8} (h : validL s = true) : ∃ r, quoteL s = 34 :: r := ⟨qL s ++ [34], by
  have hq : quoteL s = [34] ++ qL s ++ [34] := if_pos h
  rw [hq]
  rfl⟩
section
variable {s r b : List UInt8} {i : Nat} {a : UInt8}
theorem peek_of (h : s.drop i = a :: r) (ha : blkB a = false) : jpeek s i = .inl i := by
  have hi := jd_lt h
  have e : skN s i = i := skN_stay (by
    rw [drop_cons hi] at h
    rw [(List.cons.inj h).1]
    exact ha)
  unfold jpeek
  rw [e, if_pos hi]
theorem drop_le {l : List UInt8} (h : s.drop i = a :: l) : i ≤ s.length := Nat.le_of_lt (jd_lt h)
theorem text_of {k : List UInt8} (hv : validL k = true) (h : s.drop i = quoteL k ++ b) : jtext s i = .inl (k, i + (quoteL k).length) := by
  obtain ⟨r, hr⟩ := quote_first hv
  have hi : i ≤ s.length := drop_le (l := r ++ b) (by rw [h, hr]; rfl)
  have e : s = s.take i ++ quoteL k ++ b := by rw [List.append_assoc, ← h, List.take_append_drop]
  have q := unq_quote k (s.take i) b hv
  rw [← e, List.length_take, Nat.min_eq_left hi] at q
  unfold jtext
  rw [q]
  dsimp only
  rw [if_pos rfl]
  refine congrArg Sum.inl (Prod.ext rfl ?_)
  dsimp only
  omega
theorem word_of {w : List UInt8} {x : J} (h : s.drop i = w ++ b) : jword s i w x = .inl (x, i + w.length) := by
  unfold jword
  rw [if_pos]
  rw [h]
  unfold Lib.hasPrefix
  exact List.isPrefixOf_iff_prefix.2 (List.prefix_append _ _)
def endU (mp : Bool) : UInt8 := if mp = true then 125 else 93
theorem endU_ends (mp : Bool) : endsNum (endU mp) ∧ blkB (endU mp) = false ∧ ((endU mp).toNat : Int) = endM mp := by
  cases mp <;> decide
theorem keys_back {mp : Bool} {ks kacc : List (List UInt8)} (h : s.drop i = aheadT mp true ks ++ b) (hk : mp = true → ∃ k kr, ks = k :: kr ∧ k ∉ kacc ∧ validL k = true) :
    jkeys s mp i kacc = .inl (if mp = true then kacc ++ [ks.headD []] else kacc, i + (aheadT mp true ks).length) := by
  cases mp with
  | false => rfl
  | true =>
    obtain ⟨k, kr, rfl, h2, h3⟩ := hk rfl
    have ha : aheadT true true (k :: kr) = quoteL k ++ [58] := rfl
    rw [ha] at h ⊢
    rw [List.append_assoc] at h
    obtain ⟨r, hr⟩ := quote_first h3
    have p1 : jpeek s i = .inl i := peek_of (a := 34) (r := r ++ ([58] ++ b)) (by rw [h, hr]; rfl) (by decide)
    have a1 : at' s i = 34 := jd_at (a := 34) (r := r ++ ([58] ++ b)) (by rw [h, hr]; rfl)
    have t1 := text_of h3 h
    have d2 : s.drop (i + (quoteL k).length) = 58 :: b := jd_app h
    have p2 := peek_of d2 (by decide)
    have a2 : at' s ((i + (quoteL k).length : Nat) : Int) = 58 := jd_at d2
    unfold jkeys jkey
    rw [if_pos rfl, p1]
    dsimp only
    rw [if_neg (fun q => q a1), t1]
    dsimp only
    rw [if_neg h2, p2]
    dsimp only
    rw [if_neg (fun q => q a2)]
    dsimp only
    rw [if_pos rfl, List.length_append]
    rfl
theorem ahead_len (mp : Bool) (ks : List (List UInt8)) : (aheadT mp false ks) = 44 :: aheadT mp true ks := rfl
end

end Go.Proofs.YtbegohehjkjnmaaGreatDoor.Flow

namespace Go.Proofs.YtbegohehjkjnmaaGreatDoor.Flow
open Go

end Go.Proofs.YtbegohehjkjnmaaGreatDoor.Flow

namespace Go.Proofs.YtbegohehjkjnmaaGreatDoor.Flow
open Go

end Go.Proofs.YtbegohehjkjnmaaGreatDoor.Flow

namespace Go.Proofs.YtbegohehjkjnmaaGreatDoor.Flow
open Go

abbrev escFrom : List UInt8 := [34, 92, 47, 98, 102, 110, 114, 116]
abbrev escTo : List UInt8 := [34, 92, 47, 8, 12, 10, 13, 9]

def whichF (k : Int) : Nat → Int
  | 0 => -1
  | j + 1 => if at' escFrom j = k then j else whichF k j

end Go.Proofs.YtbegohehjkjnmaaGreatDoor.Flow

namespace Go.Proofs.YtbegohehjkjnmaaGreatDoor.Flow
open Go

end Go.Proofs.YtbegohehjkjnmaaGreatDoor.Flow
