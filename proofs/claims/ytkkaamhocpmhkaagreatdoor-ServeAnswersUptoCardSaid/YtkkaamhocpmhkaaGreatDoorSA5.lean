/- The texts FlowJ, FlowK, one behind the other. -/
import Derived.Test.YtkkaamhocpmhkaaGreatDoorSA4
namespace Go.Proofs.YtkkaamhocpmhkaaGreatDoor.Flow
structure Eff where
  d : D
  rd : List Nat
  wr : List (Nat × Own)
def dstAt : List Oper → Nat → Option Nat
  | [], _ => none
  | o :: _, 0 => o.dst
  | _ :: r, j + 1 => dstAt r j
theorem zgU : ∀ (l : List Oper) (j : Nat), dstAt l j = (l[j]?).bind (·.dst)
  | [], _ => by simp [dstAt]
  | o :: _, 0 => by simp [dstAt]
  | _ :: r, j + 1 => by simp [dstAt, zgU r j]
def tmpsOf : List Operand → List Nat
  | [] => []
  | .tmp t :: r => t :: tmpsOf r
  | .const _ :: r => tmpsOf r
  | .global _ :: r => tmpsOf r
  | .func _ :: r => tmpsOf r
theorem zii {t : Nat} {l : List Operand} (h : .tmp t ∈ l) : t ∈ tmpsOf l := by
  induction l with
  | nil => cases h
  | cons x r ih =>
    cases x with
    | tmp u =>
      rcases List.mem_cons.1 h with e | e
      · cases e; simp [tmpsOf]
      · simp [tmpsOf, ih e]
    | const v => exact ih (by simpa using h)
    | global g => exact ih (by simpa using h)
    | func f => exact ih (by simpa using h)
def seesOf (all : List Oper) (o : Oper) : List Nat :=
  tmpsOf o.op.operands.toList ++ (match o.guard with
    | some (g, _) => (dstAt all g).toList
    | none => [])
section
variable (P : Program) (X : Ctx) (n : Nat) (all : List Oper)
def Does (o : Oper) (F : Nat → D) (O : Nat → Option Own) (e : Eff) : Prop :=
  match o.guard with
  | none => StepAt P X n o F O e.d e.wr
  | some (g, want) => ∃ t, dstAt all g = some t ∧ ((F t = .b want ∧ StepAt P X n o F O e.d e.wr) ∨ ((F t = .b (!want) ∨ F t = .tu []) ∧ e.d = .tu [] ∧ e.wr = [] ∧ dstOk o.dst n))
def LDoes (o : Oper) (F : Nat → D) (O : Nat → Option Own) (e : Eff) : Prop :=
  ∀ F' O', (∀ t ∈ seesOf all o, F' t = F t) → (∀ k ∈ e.rd, O' k = O k) → Does P X n all o F' O' e
inductive Ch : List Oper → (Nat → D) → (Nat → Option Own) → List Eff → (Nat → D) → (Nat → Option Own) → Prop
  | nil (F : Nat → D) (O : Nat → Option Own) : Ch [] F O [] F O
  | cons (o : Oper) (rest : List Oper) (F : Nat → D) (O : Nat → Option Own) (e : Eff) (es : List Eff) (F' : Nat → D) (O' : Nat → Option Own) (h : LDoes P X n all o F O e)
      (t : Ch rest (updF F o.dst e.d) (updO O e.wr) es F' O') : Ch (o :: rest) F O (e :: es) F' O'
end
section
variable {P : Program} {X : Ctx} {n : Nat} {all : List Oper}
theorem zbJ {ops : Array Oper} {Q : Exit → Act → World → Prop} {i : Nat} {o : Oper} {F : Nat → D} {O : Nat → Option Own} {e : Eff} {a : Act} {w : World} {K : Act → World → Prop}
    (ho : ops[i]? = some o) (hd : Does P X n ops.toList o F O e) (hr : Rep X n F O a w) (hK : ∀ a' w', Rep X n (updF F o.dst e.d) (updO O e.wr) a' w' → K a' w') (rd : Option Nat) : wpOpIn (fR rd) 0 P ops Q i K a w := by
  unfold wpOpIn
  simp only [ho]
  unfold Does at hd
  cases hg : o.guard with
  | none =>
    simp only [hg] at hd
    simp only [Region.wanted, hg, if_true]
    exact (hd a w K Q hr fun v w' h => hK _ _ h).2 rd
  | some q =>
    obtain ⟨g, want⟩ := q
    simp only [hg] at hd
    obtain ⟨t, ht, hd⟩ := hd
    have hy : yielded ops a.tmps g = (a.tmps[t]?).bind fun v => match v with | .bool b => some b | _ => none := by
      rw [zgU] at ht
      unfold yielded
      rw [← Array.getElem?_toList, ht]
      simp only [Option.bind_some]
      cases a.tmps[t]? with
      | none => rfl
      | some v => cases v <;> rfl
    have hyb : ∀ c, F t = .b c → yielded ops a.tmps g = some c := fun c hF => by
      obtain ⟨S, r, _, _, hrel, _, _, _⟩ := hr
      have h1 := hrel t
      rw [hF] at h1
      rw [hy]
      cases hq : a.tmps[t]? with
      | none =>
        rw [Array.getD_eq_getD_getElem?, hq] at h1
        simp only [Option.getD_none, undef] at h1
        cases h1
      | some v =>
        rw [Array.getD_eq_getD_getElem?, hq] at h1
        simp only [Option.getD_some] at h1
        cases h1
        rfl
    have hyn : F t = .tu [] → yielded ops a.tmps g = none := fun hF => by
      obtain ⟨S, r, _, _, hrel, _, _, _⟩ := hr
      have h1 := hrel t
      rw [hF] at h1
      rw [hy]
      cases hq : a.tmps[t]? with
      | none => rfl
      | some v =>
        rw [Array.getD_eq_getD_getElem?, hq] at h1
        simp only [Option.getD_some] at h1
        cases h1
        rfl
    rcases hd with ⟨hF, hd⟩ | ⟨hF, hd1, hd2, hd3⟩
    · simp only [Region.wanted, hg, hyb want hF, beq_self_eq_true, if_true]
      exact (hd a w K Q hr fun v w' h => hK _ _ h).2 rd
    · have hw : Region.wanted o (yielded ops a.tmps) = false := by
        simp only [Region.wanted, hg]
        rcases hF with hF | hF
        · rw [hyb _ hF]
          cases want <;> rfl
        · rw [hyn hF]
          rfl
      rw [hw]
      simp only [Bool.false_eq_true, if_false]
      refine ⟨fun _ _ => trivial, hK _ _ ?_⟩
      rw [hd1, hd2]
      obtain ⟨S, r, hH, hI, hrel, hdf, hn, hρ⟩ := hr
      exact ⟨S, r, hH, hI, zbO hrel (hn ▸ hd3) (.tu _ [] #[] rfl (fun j hj => by simp at hj)), by rw [zbd]; exact hdf, by rw [zbD]; exact hn, hρ⟩
theorem zcl {ops : Array Oper} {Q : Exit → Act → World → Prop} : ∀ {l : List Oper} {k : Nat} {F : Nat → D} {O : Nat → Option Own} {es : List Eff} {F' : Nat → D} {O' : Nat → Option Own},
    Ch P X n ops.toList l F O es F' O' → (∀ j, l[j]? = ops[k + j]?) → (∀ a w, Rep X n F' O' a w → Q .normal a w) → ∀ a w, Rep X n F O a w → ∀ rd, wpOpsIn (fR rd) 0 P ops Q (List.range' k l.length) a w
  | _, k, _, _, _, _, _, .nil F O, _, hQ, a, w, hr => fun rd => by simpa [wpOpsIn] using hQ a w hr
  | _, k, _, _, _, _, _, .cons o rest F O e es F' O' h t, hl, hQ, a, w, hr => fun rd => by
    have h0 : ops[k]? = some o := by simpa using (hl 0).symm
    rw [List.length_cons, List.range'_succ, wpOpsIn_cons]
    refine zbJ h0 (h F O (fun _ _ => rfl) (fun _ _ => rfl)) hr (fun a' w' h' => ?_) rd
    exact zcl t (fun j => by have := hl (j + 1); simpa [Nat.add_assoc, Nat.add_comm 1 j] using this) hQ a' w' h' rd

def ancB (acc : List Nat) (l : List Edge) : Nat :=
  match l with
  | [] => 0
  | e :: r => match Region.binds .any e with
    | true => (2 ^ e.on ||| acc.getD e.on 0) ||| ancB acc r
    | false => ancB acc r
def ancs : List Oper → List Nat → List Nat
  | [], acc => acc
  | o :: r, acc => ancs r (acc ++ [ancB acc o.after.toList])
def meets (x y : List Nat) : Bool := x.any fun a => y.contains a
theorem zaM {x y : List Nat} (h : meets x y = false) {a : Nat} (hx : a ∈ x) : a ∉ y := by
  intro hy
  have : meets x y = true := by
    unfold meets
    rw [List.any_eq_true]
    exact ⟨a, hx, by simpa using hy⟩
  rw [h] at this
  cases this
structure Foot where
  st : List Nat
  wt : List Nat
  so : List Nat
  wo : List Nat
def clash (x y : Foot) : Bool := (meets x.wt y.st || meets x.wt y.wt || meets x.st y.wt) || (meets x.wo y.so || meets x.wo y.wo || meets x.so y.wo)
theorem zhA (x y : Foot) (h : clash x y = false) : clash y x = false := by
  have hm : ∀ a b : List Nat, meets a b = false → meets b a = false := fun a b h => by
    cases hb : meets b a with
    | false => rfl
    | true =>
      unfold meets at hb
      rw [List.any_eq_true] at hb
      obtain ⟨c, hc, hc'⟩ := hb
      exact absurd hc (zaM h (by simpa using hc'))
  simp only [clash, Bool.or_eq_false_iff] at h ⊢
  obtain ⟨⟨⟨h1, h2⟩, h3⟩, ⟨h4, h5⟩, h6⟩ := h
  exact ⟨⟨⟨hm _ _ h3, hm _ _ h2⟩, hm _ _ h1⟩, ⟨hm _ _ h6, hm _ _ h5⟩, hm _ _ h4⟩
def feet (all : List Oper) : List Oper → List (List Nat × List Nat) → List Foot
  | o :: r, x :: y => ⟨seesOf all o, o.dst.toList, x.1, x.2⟩ :: feet all r y
  | o :: r, [] => ⟨seesOf all o, o.dst.toList, [], []⟩ :: feet all r []
  | [], _ => []
def pairsOk (an : Nat) (y : Foot) : Nat → List Foot → Bool
  | _, [] => true
  | i, x :: r => (an.testBit i || !clash x y) && pairsOk an y (i + 1) r
def allOk (an : List Nat) : List Foot → List Foot → Nat → Bool
  | _, [], _ => true
  | done, y :: r, j => pairsOk (an.getD j 0) y 0 done && allOk an (done ++ [y]) r (j + 1)
def backOk : List Oper → Nat → Bool
  | [], _ => true
  | o :: r, i => (o.after.toList.all fun e => Nat.blt e.on i || !Region.binds .any e) && backOk r (i + 1)
def flowOk (ops : List Oper) (tr : List (List Nat × List Nat)) : Bool := allOk (ancs ops []) [] (feet ops ops tr) 0 && backOk ops 0
inductive Anc (ops : List Oper) : Nat → Nat → Prop
  | one (i j : Nat) (o : Oper) (e : Edge) (hi : ops[i]? = some o) (he : e ∈ o.after.toList) (hb : Region.binds .any e = true) (hj : e.on = j) : Anc ops i j
  | more (i j : Nat) (o : Oper) (e : Edge) (hi : ops[i]? = some o) (he : e ∈ o.after.toList) (hb : Region.binds .any e = true) (t : Anc ops e.on j) : Anc ops i j
theorem zdp {ops : List Oper} {acc : List Nat} {i j : Nat} {o : Oper} (hi : ops[i]? = some o) (hacc : ∀ k, ∀ j, (acc.getD k 0).testBit j = true → Anc ops k j) :
    ∀ (l : List Edge), (∀ e ∈ l, e ∈ o.after.toList) → (ancB acc l).testBit j = true → Anc ops i j
  | [], _, h => by simp [ancB] at h
  | e :: r, hl, h => by
    simp only [ancB] at h
    cases hb : Region.binds .any e with
    | false =>
      rw [hb] at h
      exact zdp hi hacc r (fun e he => hl e (by simp [he])) h
    | true =>
      rw [hb] at h
      simp only [Nat.testBit_or, Bool.or_eq_true, Nat.testBit_two_pow, decide_eq_true_eq] at h
      rcases h with (h | h) | h
      · exact .one i j o e hi (hl e (by simp)) hb h
      · exact .more i j o e hi (hl e (by simp)) hb (hacc _ _ h)
      · exact zdp hi hacc r (fun e he => hl e (by simp [he])) h
theorem zeT {ops : List Oper} : ∀ (l : List Oper) (acc : List Nat), (∀ j, l[j]? = ops[acc.length + j]?) → (∀ k, ∀ j, (acc.getD k 0).testBit j = true → Anc ops k j) →
    ∀ k j, ((ancs l acc).getD k 0).testBit j = true → Anc ops k j
  | [], acc, _, hacc, k, j, h => hacc k j h
  | o :: r, acc, hl, hacc, k, j, h => by
    have h0 : ops[acc.length]? = some o := by simpa using (hl 0).symm
    refine zeT r (acc ++ [ancB acc o.after.toList]) (fun j => by have := hl (j + 1); simpa [Nat.add_assoc, Nat.add_comm 1 j] using this) (fun k j hk => ?_) k j h
    rcases Nat.lt_trichotomy k acc.length with hlt | he | hgt
    · refine hacc k j ?_
      simpa [List.getD_eq_getElem?_getD, List.getElem?_append_left hlt] using hk
    · subst he
      refine zdp h0 hacc o.after.toList (fun _ h => h) ?_
      simpa [List.getD_eq_getElem?_getD] using hk
    · rw [List.getD_eq_getElem?_getD, List.getElem?_eq_none (by simp; omega)] at hk
      simp at hk
theorem zcV {an : Nat} {y : Foot} : ∀ {l : List Foot} {i : Nat}, pairsOk an y i l = true → ∀ k x, l[k]? = some x → an.testBit (i + k) = true ∨ clash x y = false
  | [], _, _, k, x, h => by simp at h
  | z :: r, i, hp, k, x, h => by
    simp only [pairsOk, Bool.and_eq_true, Bool.or_eq_true, Bool.not_eq_true'] at hp
    cases k with
    | zero => simp at h; subst h; exact hp.1
    | succ k =>
      have := zcV hp.2 k x (by simpa using h)
      rwa [show i + 1 + k = i + (k + 1) by omega] at this
theorem zek {an : List Nat} : ∀ {l done : List Foot} {j : Nat}, allOk an done l j = true → done.length = j → ∀ i k x y, (done ++ l)[i]? = some x → (done ++ l)[k]? = some y → i < k → j ≤ k →
    (an.getD k 0).testBit i = true ∨ clash x y = false
  | [], done, j, _, hj, i, k, x, y, _, hk, _, hjk => by
    rw [List.append_nil, List.getElem?_eq_none (by omega)] at hk
    cases hk
  | z :: r, done, j, h, hj, i, k, x, y, hx, hy, hik, hjk => by
    simp only [allOk, Bool.and_eq_true] at h
    rcases Nat.eq_or_lt_of_le hjk with e | e
    · subst e
      have hz : y = z := by
        rw [List.getElem?_append_right (by omega), hj, Nat.sub_self] at hy
        simpa using hy.symm
      subst hz
      have hx' : done[i]? = some x := by rwa [List.getElem?_append_left (by omega)] at hx
      have := zcV h.1 i x hx'
      rwa [Nat.zero_add] at this
    · have := zek (done := done ++ [z]) h.2 (by simp [hj]) i k x y (by simpa using hx) (by simpa using hy) hik e
      exact this
theorem zdo : ∀ {l : List Oper} {i : Nat}, backOk l i = true → ∀ k o, l[k]? = some o → ∀ e ∈ o.after.toList, Region.binds .any e = true → e.on < i + k
  | [], _, _, k, o, h => by simp at h
  | z :: r, i, hb, k, o, h => by
    simp only [backOk, Bool.and_eq_true, List.all_eq_true] at hb
    cases k with
    | zero =>
      simp at h
      subst h
      intro e he hbe
      have := hb.1 e he
      rw [hbe] at this
      simp only [Bool.not_true, Bool.or_false, Nat.blt_eq] at this
      omega
    | succ k =>
      intro e he hbe
      have := zdo hb.2 k o (by simpa using h) e he hbe
      omega
end
end Go.Proofs.YtkkaamhocpmhkaaGreatDoor.Flow

namespace Go.Proofs.YtkkaamhocpmhkaaGreatDoor.Flow
theorem zbL : ∀ {wr : List (Nat × Own)} {O : Nat → Option Own} {k : Nat}, k ∉ wr.map (·.1) → updO O wr k = O k
  | [], _, _, _ => rfl
  | (j, o) :: r, O, k, h => by
    simp only [List.map_cons, List.mem_cons, not_or] at h
    show updO (fun i => if i = j then some o else O i) r k = O k
    rw [zbL h.2]
    exact if_neg h.1
theorem zdz : ∀ {wr : List (Nat × Own)} {O O' : Nat → Option Own} {k : Nat}, (k ∈ wr.map (·.1) ∨ O k = O' k) → updO O wr k = updO O' wr k
  | [], _, _, _, h => by
    rcases h with h | h
    · simp at h
    · exact h
  | (j, o) :: r, O, O', k, h => by
    show updO (fun i => if i = j then some o else O i) r k = updO (fun i => if i = j then some o else O' i) r k
    refine zdz ?_
    by_cases e : k = j
    · exact .inr (by simp [e])
    · rcases h with h | h
      · simp only [List.map_cons, List.mem_cons] at h
        rcases h with h | h
        · exact absurd h e
        · exact .inl h
      · exact .inr (by simp [e, h])
theorem zcq {F : Nat → D} {dst : Option Tmp} {d : D} {t : Nat} (h : t ∉ dst.toList) : updF F dst d t = F t := by
  cases dst with
  | none => rfl
  | some u => exact if_neg (by simpa using h)
theorem zft {F F' : Nat → D} {dst : Option Tmp} {d : D} {t : Nat} (h : t ∈ dst.toList ∨ F t = F' t) : updF F dst d t = updF F' dst d t := by
  cases dst with
  | none => simpa [updF] using h
  | some u =>
    show (if t = u then d else F t) = (if t = u then d else F' t)
    by_cases e : t = u
    · simp [e]
    · rcases h with h | h
      · simp at h; exact absurd h e
      · simp [e, h]
def runF (ops : List Oper) (es : List Eff) (L : Nat → Bool) (F : Nat → D) : Nat → Nat → D
  | 0 => F
  | k + 1 => if L k then (match ops[k]?, es[k]? with
    | some o, some e => updF (runF ops es L F k) o.dst e.d
    | _, _ => runF ops es L F k) else runF ops es L F k
def runO (ops : List Oper) (es : List Eff) (L : Nat → Bool) (O : Nat → Option Own) : Nat → Nat → Option Own
  | 0 => O
  | k + 1 => if L k then (match ops[k]?, es[k]? with
    | some _, some e => updO (runO ops es L O k) e.wr
    | _, _ => runO ops es L O k) else runO ops es L O k
section
variable {ops : List Oper} {es : List Eff} {F : Nat → D} {O : Nat → Option Own}
theorem zcH {L L' : Nat → Bool} {t : Nat} : ∀ {k : Nat}, (∀ i o, i < k → ops[i]? = some o → L i ≠ L' i → t ∉ o.dst.toList) → runF ops es L F k t = runF ops es L' F k t
  | 0, _ => rfl
  | k + 1, h => by
    have ih := zcH (L := L) (L' := L') (t := t) (k := k) (fun i o hi => h i o (by omega))
    simp only [runF]
    cases ho : ops[k]? with
    | none => simp only []; simpa using ih
    | some o =>
      cases he : es[k]? with
      | none => simp only []; simpa using ih
      | some e =>
        simp only []
        by_cases hL : L k = L' k
        · rw [hL]
          cases L' k
          · simpa using ih
          · simpa using zft (.inr ih)
        · have hn := h k o (by omega) ho hL
          cases h1 : L k <;> cases h2 : L' k
          · exact absurd (h1.trans h2.symm) hL
          · simp only [Bool.false_eq_true, if_false, if_true]
            rw [zcq hn]; exact ih
          · simp only [Bool.false_eq_true, if_false, if_true]
            rw [zcq hn]; exact ih
          · exact absurd (h1.trans h2.symm) hL
theorem zcS {L L' : Nat → Bool} {t : Nat} : ∀ {k : Nat}, (∀ i e, i < k → es[i]? = some e → L i ≠ L' i → t ∉ e.wr.map (·.1)) → runO ops es L O k t = runO ops es L' O k t
  | 0, _ => rfl
  | k + 1, h => by
    have ih := zcS (L := L) (L' := L') (t := t) (k := k) (fun i o hi => h i o (by omega))
    simp only [runO]
    cases ho : ops[k]? with
    | none => simp only []; simpa using ih
    | some o =>
      cases he : es[k]? with
      | none => simp only []; simpa using ih
      | some e =>
        simp only []
        by_cases hL : L k = L' k
        · rw [hL]
          cases L' k
          · simpa using ih
          · simpa using zdz (.inr ih)
        · have hn := h k e (by omega) he hL
          cases h1 : L k <;> cases h2 : L' k
          · exact absurd (h1.trans h2.symm) hL
          · simp only [Bool.false_eq_true, if_false, if_true]
            rw [zbL hn]; exact ih
          · simp only [Bool.false_eq_true, if_false, if_true]
            rw [zbL hn]; exact ih
          · exact absurd (h1.trans h2.symm) hL
theorem zdt {L : Nat → Bool} {t j : Nat} : ∀ {m : Nat}, (∀ i o, j ≤ i → ops[i]? = some o → L i = true → t ∉ o.dst.toList) → runF ops es L F (j + m) t = runF ops es L F j t
  | 0, _ => rfl
  | m + 1, h => by
    have ih := zdt (L := L) (t := t) (j := j) (m := m) h
    show runF ops es L F (j + m + 1) t = _
    simp only [runF]
    cases ho : ops[j + m]? with
    | none => simp only []; simpa using ih
    | some o =>
      cases he : es[j + m]? with
      | none => simp only []; simpa using ih
      | some e =>
        simp only []
        cases hL : L (j + m) with
        | false => simpa using ih
        | true =>
          simp only [if_true]
          rw [zcq (h _ o (by omega) ho hL)]
          exact ih
theorem zdF {L : Nat → Bool} {t j : Nat} : ∀ {m : Nat}, (∀ i e, j ≤ i → es[i]? = some e → L i = true → t ∉ e.wr.map (·.1)) → runO ops es L O (j + m) t = runO ops es L O j t
  | 0, _ => rfl
  | m + 1, h => by
    have ih := zdF (L := L) (t := t) (j := j) (m := m) h
    show runO ops es L O (j + m + 1) t = _
    simp only [runO]
    cases ho : ops[j + m]? with
    | none => simp only []; simpa using ih
    | some o =>
      cases he : es[j + m]? with
      | none => simp only []; simpa using ih
      | some e =>
        simp only []
        cases hL : L (j + m) with
        | false => simpa using ih
        | true =>
          simp only [if_true]
          rw [zbL (h _ e (by omega) he hL)]
          exact ih
end
def footAt (all : List Oper) (o : Oper) (e : Eff) : Foot := ⟨seesOf all o, o.dst.toList, e.rd, e.wr.map (·.1)⟩
theorem zgy {all : List Oper} : ∀ {l : List Oper} {es : List Eff} {k : Nat} {o : Oper} {e : Eff}, l[k]? = some o → es[k]? = some e → (feet all l (es.map fun e => (e.rd, e.wr.map (·.1))))[k]? = some (footAt all o e)
  | [], _, k, o, e, h, _ => by simp at h
  | z :: l, [], k, o, e, _, h => by simp at h
  | z :: l, x :: es, 0, o, e, h, he => by
    simp at h he
    subst h he
    rfl
  | z :: l, x :: es, k + 1, o, e, h, he => by
    simp only [List.map_cons, feet]
    rw [List.getElem?_cons_succ]
    exact zgy (by simpa using h) (by simpa using he)
section
variable {P : Program} {X : Ctx} {n : Nat} {all : List Oper}
theorem Ch.len {l : List Oper} {F : Nat → D} {O : Nat → Option Own} {es : List Eff} {F' : Nat → D} {O' : Nat → Option Own} (h : Ch P X n all l F O es F' O') : es.length = l.length := by
  induction h with
  | nil => rfl
  | cons o rest F O e es F' O' h t ih => simp [ih]
theorem Ch.at {l : List Oper} {F : Nat → D} {O : Nat → Option Own} {es : List Eff} {F' : Nat → D} {O' : Nat → Option Own} (h : Ch P X n all l F O es F' O') :
    (∀ k o e, l[k]? = some o → es[k]? = some e → LDoes P X n all o (runF l es (fun _ => true) F k) (runO l es (fun _ => true) O k) e) ∧
    runF l es (fun _ => true) F l.length = F' ∧ runO l es (fun _ => true) O l.length = O' := by
  induction h with
  | nil F O => exact ⟨fun k o e h => by simp at h, rfl, rfl⟩
  | cons o rest F O e es F' O' h t ih =>
    have hF : ∀ k, runF (o :: rest) (e :: es) (fun _ => true) F (k + 1) = runF rest es (fun _ => true) (updF F o.dst e.d) k := by
      intro k
      induction k with
      | zero => simp [runF]
      | succ k ihk =>
        rw [runF]
        simp only [if_true, List.getElem?_cons_succ]
        rw [ihk]
        rw [runF]
        simp
    have hO : ∀ k, runO (o :: rest) (e :: es) (fun _ => true) O (k + 1) = runO rest es (fun _ => true) (updO O e.wr) k := by
      intro k
      induction k with
      | zero => simp [runO]
      | succ k ihk =>
        rw [runO]
        simp only [if_true, List.getElem?_cons_succ]
        rw [ihk]
        rw [runO]
        simp
    refine ⟨fun k o' e' ho he => ?_, ?_, ?_⟩
    · cases k with
      | zero =>
        simp at ho he
        subst ho he
        exact h
      | succ k =>
        rw [hF, hO]
        exact ih.1 k o' e' (by simpa using ho) (by simpa using he)
    · rw [List.length_cons, hF]; exact ih.2.1
    · rw [List.length_cons, hO]; exact ih.2.2
def Closed (ops : Array Oper) (listed : Array Bool) : Prop := ∀ i o, ops[i]? = some o → listed.getD i true = true → ∀ e ∈ o.after, Region.binds .any e = true → listed.getD e.on false = true
theorem zcK {listed : Array Bool} {j : Nat} {a b : Bool} (h : j < listed.size) : listed.getD j a = listed.getD j b := by
  simp [Array.getD_eq_getD_getElem?, h]
theorem Closed.anc {ops : Array Oper} {listed : Array Bool} (hc : Closed ops listed) (_hz : listed.size = ops.size) {i j : Nat} (h : Anc ops.toList i j) (hi : listed.getD i true = true) : listed.getD j true = true := by
  have hsize : ∀ k, listed.getD k false = true → listed.getD k true = true := fun k hk => by
    rcases Nat.lt_or_ge k listed.size with h | h
    · rw [zcK (b := false) h]; exact hk
    · simp [Array.getD_eq_getD_getElem?, Array.getElem?_eq_none h]
  induction h with
  | one i j o e ho he hb hj =>
    subst hj
    exact hsize _ (hc i o (by simpa using ho) hi e (by simpa using he) hb)
  | more i j o e ho he hb t ih => exact ih (hsize _ (hc i o (by simpa using ho) hi e (by simpa using he) hb))
theorem zfa {p p' : Nat → Bool} {j : Nat} (h1 : ∀ i, p' i = true → p i = true) (h2 : p j = true) (h3 : p' j = false) : ∀ {l : List Nat}, j ∈ l → l.countP p' < l.countP p
  | x :: l, h => by
    have hle : l.countP p' ≤ l.countP p := List.countP_mono_left fun i _ hi => h1 i hi
    rcases List.mem_cons.1 h with e | e
    · subst e
      rw [List.countP_cons_of_pos h2, List.countP_cons_of_neg (by simp [h3])]
      omega
    · have ih := zfa h1 h2 h3 e
      rw [List.countP_cons, List.countP_cons]
      cases hp : p' x with
      | false => simp; omega
      | true => simp [h1 x hp]; omega
theorem zgG (rd : Option Nat) {ops : Array Oper} {Q : Exit → Act → World → Prop} {F : Nat → D} {O : Nat → Option Own} {es : List Eff} {F' : Nat → D} {O' : Nat → Option Own} (h : Ch P X n ops.toList ops.toList F O es F' O')
    (hok : flowOk ops.toList (es.map fun e => (e.rd, e.wr.map (·.1))) = true) (hQ : ∀ a w, Rep X n F' O' a w → Q .normal a w) :
    ∀ (fuel : Nat) (listed : Array Bool) (a : Act) (w : World), listed.size = ops.size → Closed ops listed → ((List.range ops.size).countP fun i => !listed.getD i true) ≤ fuel →
      Rep X n (runF ops.toList es (fun i => listed.getD i true) F ops.size) (runO ops.toList es (fun i => listed.getD i true) O ops.size) a w → wpAnyIn (fR rd) 0 P .any ops Q fuel listed a w := by
  obtain ⟨hat, hendF, hendO⟩ := h.at
  have hlen := h.len
  have hN : ops.toList.length = ops.size := Array.length_toList
  rw [hN] at hlen hendF hendO
  simp only [flowOk, Bool.and_eq_true] at hok
  obtain ⟨hall, hback⟩ := hok
  have hanc := zeT (ops := ops.toList) ops.toList [] (fun j => by simp) (fun k j hk => by simp at hk)
  -- two operations that are not ordered do not clash
  have hcl : ∀ i k oi ok ei ek, ops.toList[i]? = some oi → ops.toList[k]? = some ok → es[i]? = some ei → es[k]? = some ek → i < k → ¬ Anc ops.toList k i → clash (footAt ops.toList oi ei) (footAt ops.toList ok ek) = false := by
    intro i k oi ok ei ek h1 h2 h3 h4 hik hna
    have := zek hall rfl i k _ _ (by simpa using zgy (all := ops.toList) h1 h3) (by simpa using zgy (all := ops.toList) h2 h4) hik (Nat.zero_le _)
    rcases this with h | h
    · exact absurd (hanc k i h) hna
    · exact h
  have hes : ∀ i o, ops[i]? = some o → ∃ e, es[i]? = some e := fun i o ho => by
    have : i < ops.size := (Array.getElem?_eq_some_iff.1 ho).1
    exact ⟨_, List.getElem?_eq_getElem (by omega)⟩
  -- nothing ready: all listed
  have hdone : ∀ listed : Array Bool, listed.size = ops.size → Region.ready .any ops listed = [] → ∀ i, listed.getD i true = true := by
    intro listed hz hr i
    induction i using Nat.strongRecOn with
    | _ i ih =>
      cases hL : listed.getD i true with
      | true => rfl
      | false =>
        exfalso
        have hi : i < ops.size := by
          rcases Nat.lt_or_ge i listed.size with h | h
          · omega
          · rw [Array.getD_eq_getD_getElem?, Array.getElem?_eq_none h] at hL
            cases hL
        have hmem : i ∈ Region.ready .any ops listed := by
          refine mem_ready.2 ⟨hL, ops[i], by simp [hi], fun e he hb => ?_⟩
          have hlt := zdo hback i ops[i] (by simp [hi]) e (by simpa using he) hb
          have := ih e.on (by omega)
          rwa [zcK (b := true) (by omega)]
        rw [hr] at hmem
        cases hmem
  have hfin : ∀ (listed : Array Bool) (a : Act) (w : World), listed.size = ops.size → Region.ready .any ops listed = [] →
      Rep X n (runF ops.toList es (fun i => listed.getD i true) F ops.size) (runO ops.toList es (fun i => listed.getD i true) O ops.size) a w → Q .normal a w := by
    intro listed a w hz hr hrep
    have hd := hdone listed hz hr
    have e : (fun i => listed.getD i true) = fun _ => true := funext hd
    rw [e, hendF, hendO] at hrep
    exact hQ a w hrep
  intro fuel
  induction fuel with
  | zero =>
    intro listed a w hz hc hn hrep
    have hr : Region.ready .any ops listed = [] := by
      apply List.eq_nil_iff_forall_not_mem.2
      intro i hi
      obtain ⟨h1, o, ho, _⟩ := mem_ready.1 hi
      have hlt : i < ops.size := (Array.getElem?_eq_some_iff.1 ho).1
      have : 0 < (List.range ops.size).countP fun i => !listed.getD i true := List.countP_pos_iff.2 ⟨i, by simpa using hlt, by simp [h1]⟩
      omega
    exact ⟨hr, hfin listed a w hz hr hrep⟩
  | succ fuel ih =>
    intro listed a w hz hc hn hrep
    refine ⟨fun hr => hfin listed a w hz hr hrep, fun j hj => ?_⟩
    obtain ⟨hjl, o, ho, hpre⟩ := mem_ready.1 hj
    have hjn : j < ops.size := (Array.getElem?_eq_some_iff.1 ho).1
    have hol : ops.toList[j]? = some o := by simpa using ho
    obtain ⟨e, he⟩ := hes j o ho
    have hLd := hat j o e hol he
    -- whatever surely comes ahead of j has come up
    have hancj : ∀ i, Anc ops.toList j i → listed.getD i true = true := by
      intro i hi
      have hsize : ∀ k, listed.getD k false = true → listed.getD k true = true := fun k hk => by
        rcases Nat.lt_or_ge k listed.size with h | h
        · rw [zcK (b := false) h]; exact hk
        · simp [Array.getD_eq_getD_getElem?, Array.getElem?_eq_none h]
      cases hi with
      | one _ _ o' e' ho' he' hb hj' =>
        rw [hol] at ho'
        cases ho'
        subst hj'
        exact hsize _ (hpre e' (by simpa using he') hb)
      | more _ _ o' e' ho' he' hb t =>
        rw [hol] at ho'
        cases ho'
        exact hc.anc hz t (hsize _ (hpre e' (by simpa using he') hb))
    -- nothing that has come up and stands behind j in the text clashes with it; nothing that has not come up and stands ahead does
    have hafter : ∀ i oi ei, j ≤ i → ops.toList[i]? = some oi → es[i]? = some ei → listed.getD i true = true → clash (footAt ops.toList oi ei) (footAt ops.toList o e) = false := by
      intro i oi ei hji hoi hei hL
      have hne : j ≠ i := fun h => by subst h; rw [hjl] at hL; cases hL
      refine zhA _ _ (hcl j i o oi e ei hol hoi he hei (by omega) fun ha => ?_)
      have := hc.anc hz ha hL
      rw [hjl] at this
      cases this
    have hbefore : ∀ i oi ei, i < j → ops.toList[i]? = some oi → es[i]? = some ei → listed.getD i true = false → clash (footAt ops.toList oi ei) (footAt ops.toList o e) = false := by
      intro i oi ei hij hoi hei hL
      refine hcl i j oi o ei e hoi hol hei he hij fun ha => ?_
      have := hancj i ha
      rw [hL] at this
      cases this
    have hmj : ops.size = j + (ops.size - j) := by omega
    have hF : ∀ t, t ∈ seesOf ops.toList o ∨ t ∈ o.dst.toList → runF ops.toList es (fun i => listed.getD i true) F ops.size t = runF ops.toList es (fun _ => true) F j t := by
      intro t ht
      rw [hmj, zdt (fun i oi hji hoi hL => ?_), zcH (fun i oi hij hoi hne => ?_)]
      · have hL : listed.getD i true = false := by
          cases h : listed.getD i true with
          | false => rfl
          | true => exact absurd h hne
        obtain ⟨ei, hei⟩ := hes i oi (by simpa using hoi)
        have := hbefore i oi ei hij hoi hei hL
        simp only [clash, footAt, Bool.or_eq_false_iff] at this
        intro hmem
        rcases ht with ht | ht
        · exact zaM this.1.1.1 hmem ht
        · exact zaM this.1.1.2 hmem ht
      · obtain ⟨ei, hei⟩ := hes i oi (by simpa using hoi)
        have := hafter i oi ei hji hoi hei hL
        simp only [clash, footAt, Bool.or_eq_false_iff] at this
        intro hmem
        rcases ht with ht | ht
        · exact zaM this.1.1.1 hmem ht
        · exact zaM this.1.1.2 hmem ht
    have hO : ∀ t, t ∈ e.rd ∨ t ∈ e.wr.map (·.1) → runO ops.toList es (fun i => listed.getD i true) O ops.size t = runO ops.toList es (fun _ => true) O j t := by
      intro t ht
      have hoi : ∀ i ei, es[i]? = some ei → ∃ oi, ops.toList[i]? = some oi := fun i ei hei => by
        have : i < es.length := (List.getElem?_eq_some_iff.1 hei).1
        exact ⟨_, (Array.getElem?_toList).trans (Array.getElem?_eq_getElem (by omega))⟩
      rw [hmj, zdF (fun i ei hji hei hL => ?_), zcS (fun i ei hij hei hne => ?_)]
      · have hL : listed.getD i true = false := by
          cases h : listed.getD i true with
          | false => rfl
          | true => exact absurd h hne
        obtain ⟨oi, hoi⟩ := hoi i ei hei
        have := hbefore i oi ei hij hoi hei hL
        simp only [clash, footAt, Bool.or_eq_false_iff] at this
        intro hmem
        rcases ht with ht | ht
        · exact zaM this.2.1.1 hmem ht
        · exact zaM this.2.1.2 hmem ht
      · obtain ⟨oi, hoi⟩ := hoi i ei hei
        have := hafter i oi ei hji hoi hei hL
        simp only [clash, footAt, Bool.or_eq_false_iff] at this
        intro hmem
        rcases ht with ht | ht
        · exact zaM this.2.1.1 hmem ht
        · exact zaM this.2.1.2 hmem ht
    have hdoes := hLd _ _ (fun t ht => hF t (.inl ht)) (fun k hk => hO k (.inl hk))
    refine zbJ ho hdoes hrep (fun a' w' hrep' => ?_) rd
    refine ih _ a' w' (by rw [Array.size_setIfInBounds]; exact hz) ?_ ?_ ?_
    · intro i oi hoi hL e' he' hb
      by_cases hij : j = i
      · subst hij
        rw [ho] at hoi
        cases hoi
        exact getD_set_true (hpre e' he' hb)
      · rw [getD_set_ne true hij] at hL
        exact getD_set_true (hc i oi hoi hL e' he' hb)
    · have hlt : ((List.range ops.size).countP fun i => !(listed.setIfInBounds j true).getD i true) < ((List.range ops.size).countP fun i => !listed.getD i true) := by
        refine zfa (j := j) (fun i hi => ?_) (by simp [hjl]) ?_ (by simpa using hjn)
        · by_cases hij : j = i
          · subst hij; simp [hjl]
          · rwa [getD_set_ne true hij] at hi
        · simp [Array.getD_eq_getD_getElem?, show j < listed.size by omega]
      omega
    · have hset : ∀ i, i ≠ j → (listed.setIfInBounds j true).getD i true = listed.getD i true := fun i hi => getD_set_ne true (Ne.symm hi)
      have hsetj : (listed.setIfInBounds j true).getD j true = true := by
        simp [Array.getD_eq_getD_getElem?, show j < listed.size by omega]
      have hmj1 : ops.size = j + 1 + (ops.size - (j + 1)) := by omega
      have eF : runF ops.toList es (fun i => (listed.setIfInBounds j true).getD i true) F ops.size = updF (runF ops.toList es (fun i => listed.getD i true) F ops.size) o.dst e.d := by
        funext t
        by_cases ht : t ∈ o.dst.toList
        · rw [hmj1, zdt (fun i oi hji hoi hL => ?_)]
          · rw [← hmj1]
            simp only [runF, hsetj, if_true, hol, he]
            exact zft (.inl ht)
          · simp only [hset i (by omega)] at hL
            obtain ⟨ei, hei⟩ := hes i oi (by simpa using hoi)
            have := hafter i oi ei (by omega) hoi hei hL
            simp only [clash, footAt, Bool.or_eq_false_iff] at this
            exact fun hmem => zaM this.1.1.2 hmem ht
        · rw [zcq ht]
          refine zcH fun i oi hi hoi hne => ?_
          by_cases hij : i = j
          · subst hij
            rw [hol] at hoi
            cases hoi
            exact ht
          · exact absurd (hset i hij) hne
      have eO : runO ops.toList es (fun i => (listed.setIfInBounds j true).getD i true) O ops.size = updO (runO ops.toList es (fun i => listed.getD i true) O ops.size) e.wr := by
        funext t
        by_cases ht : t ∈ e.wr.map (·.1)
        · rw [hmj1, zdF (fun i ei hji hei hL => ?_)]
          · rw [← hmj1]
            simp only [runO, hsetj, if_true, hol, he]
            exact zdz (.inl ht)
          · simp only [hset i (by omega)] at hL
            have hlt : i < es.length := (List.getElem?_eq_some_iff.1 hei).1
            have hoi : ops.toList[i]? = some (ops[i]'(by omega)) := by simp [show i < ops.size by omega]
            have := hafter i _ ei (by omega) hoi hei hL
            simp only [clash, footAt, Bool.or_eq_false_iff] at this
            exact fun hmem => zaM this.2.1.2 hmem ht
        · rw [zbL ht]
          refine zcS fun i ei hi hei hne => ?_
          by_cases hij : i = j
          · subst hij
            rw [he] at hei
            cases hei
            exact ht
          · exact absurd (hset i hij) hne
      rw [eF, eO]
      exact hrep'
theorem Rep.drew {F : Nat → D} {O : Nat → Option Own} {a : Act} {w : World} (h : Rep X n F O a w) : Rep X n F O a w.drew := by
  obtain ⟨S, r, hH, hI, hF, hd, hn, hρ⟩ := h
  have hc : Chg w w.drew S none := ⟨rfl, rfl, rfl, Nat.le_refl _, fun _ _ _ => rfl, fun _ _ _ => rfl⟩
  exact ⟨S, r, hH.chg hc (fun b hb => by cases hb) (fun _ _ h => h) (fun _ _ h => .inl h), hI.grow hc (fun _ _ h => h) (fun _ _ h => .inl h),
    fun t => (hF t).mono (w' := w.drew) (fun _ _ h => h) (fun _ _ _ => rfl) r (RhoLe.refl r), hd, hn, hρ⟩
theorem zci {id : Nat} {ops : Array Oper} {Q : Exit → Act → World → Prop} {F : Nat → D} {O : Nat → Option Own} {es : List Eff} {F' : Nat → D} {O' : Nat → Option Own} (hm : P.follows .mixedOrders = true)
    (h : Ch P X n ops.toList ops.toList F O es F' O') (hok : flowOk ops.toList (es.map fun e => (e.rd, e.wr.map (·.1))) = true) (hQ : ∀ a w, Rep X n F' O' a w → Q .normal a w)
    {a : Act} {w : World} (hr : Rep X n F O a w) : Wc P (Code.region id ops true) Q a w := fun rd => by
  refine wpIn_region_any hm ?_
  have hnone : (fun i => (Array.replicate ops.size false).getD i true) = fun i => !decide (i < ops.size) := by
    funext i
    by_cases hi : i < ops.size <;> simp [Array.getD_eq_getD_getElem?, hi]
  have e1 : ∀ k, k ≤ ops.size → runF ops.toList es (fun i => (Array.replicate ops.size false).getD i true) F k = F := by
    intro k hk
    induction k with
    | zero => rfl
    | succ k ih =>
      have hk' : ¬ ((Array.replicate ops.size false).getD k true = true) := by
        have hkk : (Array.replicate ops.size false).getD k true = !decide (k < ops.size) := congrFun hnone k
        rw [hkk]
        simp
        omega
      rw [runF, if_neg hk']
      exact ih (by omega)
  have e2 : ∀ k, k ≤ ops.size → runO ops.toList es (fun i => (Array.replicate ops.size false).getD i true) O k = O := by
    intro k hk
    induction k with
    | zero => rfl
    | succ k ih =>
      have hk' : ¬ ((Array.replicate ops.size false).getD k true = true) := by
        have hkk : (Array.replicate ops.size false).getD k true = !decide (k < ops.size) := congrFun hnone k
        rw [hkk]
        simp
        omega
      rw [runO, if_neg hk']
      exact ih (by omega)
  refine zgG rd h hok hQ ops.size _ a _ (by simp) (fun i o hi hL => ?_) (Nat.le_trans List.countP_le_length (by simp)) ?_
  · have hlt : i < ops.size := (Array.getElem?_eq_some_iff.1 hi).1
    simp [Array.getD_eq_getD_getElem?, hlt] at hL
  · rw [e1 _ (Nat.le_refl _), e2 _ (Nat.le_refl _)]
    exact hr.drew
theorem zdA {id : Nat} {ops : Array Oper} {Q : Exit → Act → World → Prop} {F : Nat → D} {O : Nat → Option Own} {es : List Eff} {F' : Nat → D} {O' : Nat → Option Own}
    (h : Ch P X n ops.toList ops.toList F O es F' O') (hQ : ∀ a w, Rep X n F' O' a w → Q .normal a w)
    {a : Act} {w : World} (hr : Rep X n F O a w) : Wc P (Code.region id ops false) Q a w := fun rd => by
  refine wpIn_region ?_
  have := zcl (k := 0) h (fun j => by simp) hQ a w hr rd
  rw [List.range_eq_range']
  simpa using this
end
end Go.Proofs.YtkkaamhocpmhkaaGreatDoor.Flow
