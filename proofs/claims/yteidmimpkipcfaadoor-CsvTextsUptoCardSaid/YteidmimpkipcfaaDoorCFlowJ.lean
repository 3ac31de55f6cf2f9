/-
  FLOW, PART J: A REGION WHOSE ORDER IS DRAWN: ONE CHAIN IN THE TEXT'S ORDER SERVES EVERY ORDER, where operations that clash are ordered by the edges.
-/
import Derived.Test.YteidmimpkipcfaaDoorCFlowI
namespace Go.Proofs.YteidmimpkipcfaaDoor.Flow

/-- What an operation did: the datum for its temporary, the objects that it read, and what it made of objects. -/
structure Eff where
  d : D
  rd : List Nat
  wr : List (Nat × Own)

def dstAt : List Oper → Nat → Option Nat
  | [], _ => none
  | o :: _, 0 => o.dst
  | _ :: r, j + 1 => dstAt r j

theorem dstAt_eq : ∀ (l : List Oper) (j : Nat), dstAt l j = (l[j]?).bind (·.dst)
  | [], _ => by simp [dstAt]
  | o :: _, 0 => by simp [dstAt]
  | _ :: r, j + 1 => by simp [dstAt, dstAt_eq r j]

def tmpsOf : List Operand → List Nat
  | [] => []
  | .tmp t :: r => t :: tmpsOf r
  | .const _ :: r => tmpsOf r
  | .global _ :: r => tmpsOf r
  | .func _ :: r => tmpsOf r

theorem mem_tmpsOf {t : Nat} {l : List Operand} (h : .tmp t ∈ l) : t ∈ tmpsOf l := by
  induction l with
  | nil => cases h
  | cons x r ih =>
    cases x with
    | tmp u =>
      rcases List.mem_cons.1 h with e | e
      · cases e; simp [tmpsOf]
      · simp [tmpsOf, ih e]
    | const v => exact ih (by simpa using h)
    | global g => exact ih (by simpa using h)
    | func f => exact ih (by simpa using h)

/-- What an operation looks at: its operands' temporaries, and its guard's. -/
def seesOf (all : List Oper) (o : Oper) : List Nat :=
  tmpsOf o.op.operands.toList ++ (match o.guard with
    | some (g, _) => (dstAt all g).toList
    | none => [])

section
variable (P : Program) (X : Ctx) (n : Nat) (all : List Oper)

/-- In this frame, with these objects, the operation (if its guard lets it) does this. -/
def Does (o : Oper) (F : Nat → D) (O : Nat → Option Own) (e : Eff) : Prop :=
  match o.guard with
  | none => StepAt P X n o F O e.d e.wr
  | some (g, want) => ∃ t, dstAt all g = some t ∧ ((F t = .b want ∧ StepAt P X n o F O e.d e.wr) ∨ ((F t = .b (!want) ∨ F t = .tu []) ∧ e.d = .tu [] ∧ e.wr = [] ∧ dstOk o.dst n))

/-- .. and it does so wherever what it looks at is the same. -/
def LDoes (o : Oper) (F : Nat → D) (O : Nat → Option Own) (e : Eff) : Prop :=
  ∀ F' O', (∀ t ∈ seesOf all o, F' t = F t) → (∀ k ∈ e.rd, O' k = O k) → Does P X n all o F' O' e

/-- The operations in the text's order. -/
inductive Ch : List Oper → (Nat → D) → (Nat → Option Own) → List Eff → (Nat → D) → (Nat → Option Own) → Prop
  | nil (F : Nat → D) (O : Nat → Option Own) : Ch [] F O [] F O
  | cons (o : Oper) (rest : List Oper) (F : Nat → D) (O : Nat → Option Own) (e : Eff) (es : List Eff) (F' : Nat → D) (O' : Nat → Option Own) (h : LDoes P X n all o F O e)
      (t : Ch rest (updF F o.dst e.d) (updO O e.wr) es F' O') : Ch (o :: rest) F O (e :: es) F' O'
end

section
variable {P : Program} {X : Ctx} {n : Nat} {all : List Oper}

/-- An operation that comes up is carried out, or passed over. -/
theorem wpOp_of_does {ops : Array Oper} {Q : Exit → Act → World → Prop} {i : Nat} {o : Oper} {F : Nat → D} {O : Nat → Option Own} {e : Eff} {a : Act} {w : World} {K : Act → World → Prop}
    (ho : ops[i]? = some o) (hd : Does P X n ops.toList o F O e) (hr : Rep X n F O a w) (hK : ∀ a' w', Rep X n (updF F o.dst e.d) (updO O e.wr) a' w' → K a' w') : wpOp P ops Q i K a w := by
  unfold wpOp
  simp only [ho]
  unfold Does at hd
  cases hg : o.guard with
  | none =>
    simp only [hg] at hd
    simp only [Region.wanted, hg, if_true]
    exact .inl (hd a w K Q hr fun v w' h => hK _ _ h)
  | some q =>
    obtain ⟨g, want⟩ := q
    simp only [hg] at hd
    obtain ⟨t, ht, hd⟩ := hd
    have hy : yielded ops a.tmps g = (a.tmps[t]?).bind fun v => match v with | .bool b => some b | _ => none := by
      rw [dstAt_eq] at ht
      unfold yielded
      rw [← Array.getElem?_toList, ht]
      simp only [Option.bind_some]
      cases a.tmps[t]? with
      | none => rfl
      | some v => cases v <;> rfl
    have hyb : ∀ c, F t = .b c → yielded ops a.tmps g = some c := fun c hF => by
      obtain ⟨S, r, _, _, hrel, _, _, _⟩ := hr
      have h1 := hrel t
      rw [hF] at h1
      rw [hy]
      cases hq : a.tmps[t]? with
      | none =>
        rw [Array.getD_eq_getD_getElem?, hq] at h1
        simp only [Option.getD_none, undef] at h1
        cases h1
      | some v =>
        rw [Array.getD_eq_getD_getElem?, hq] at h1
        simp only [Option.getD_some] at h1
        cases h1
        rfl
    have hyn : F t = .tu [] → yielded ops a.tmps g = none := fun hF => by
      obtain ⟨S, r, _, _, hrel, _, _, _⟩ := hr
      have h1 := hrel t
      rw [hF] at h1
      rw [hy]
      cases hq : a.tmps[t]? with
      | none => rfl
      | some v =>
        rw [Array.getD_eq_getD_getElem?, hq] at h1
        simp only [Option.getD_some] at h1
        cases h1
        rfl
    rcases hd with ⟨hF, hd⟩ | ⟨hF, hd1, hd2, hd3⟩
    · simp only [Region.wanted, hg, hyb want hF, beq_self_eq_true, if_true]
      exact .inl (hd a w K Q hr fun v w' h => hK _ _ h)
    · have hw : Region.wanted o (yielded ops a.tmps) = false := by
        simp only [Region.wanted, hg]
        rcases hF with hF | hF
        · rw [hyb _ hF]
          cases want <;> rfl
        · rw [hyn hF]
          rfl
      rw [hw]
      simp only [Bool.false_eq_true, if_false]
      refine hK _ _ ?_
      rw [hd1, hd2]
      obtain ⟨S, r, hH, hI, hrel, hdf, hn, hρ⟩ := hr
      exact ⟨S, r, hH, hI, rel_put hrel (hn ▸ hd3) (.tu _ [] #[] rfl (fun j hj => by simp at hj)), by rw [put_defers]; exact hdf, by rw [put_size]; exact hn, hρ⟩

/-- In the text's order. -/
theorem wpOps_of_ch {ops : Array Oper} {Q : Exit → Act → World → Prop} : ∀ {l : List Oper} {k : Nat} {F : Nat → D} {O : Nat → Option Own} {es : List Eff} {F' : Nat → D} {O' : Nat → Option Own},
    Ch P X n ops.toList l F O es F' O' → (∀ j, l[j]? = ops[k + j]?) → (∀ a w, Rep X n F' O' a w → Q .normal a w) → ∀ a w, Rep X n F O a w → wpOps P ops Q (List.range' k l.length) a w
  | _, k, _, _, _, _, _, .nil F O, _, hQ, a, w, hr => by simpa [wpOps] using hQ a w hr
  | _, k, _, _, _, _, _, .cons o rest F O e es F' O' h t, hl, hQ, a, w, hr => by
    have h0 : ops[k]? = some o := by simpa using (hl 0).symm
    rw [List.length_cons, List.range'_succ, wpOps_cons]
    refine wpOp_of_does h0 (h F O (fun _ _ => rfl) (fun _ _ => rfl)) hr fun a' w' h' => ?_
    exact wpOps_of_ch t (fun j => by have := hl (j + 1); simpa [Nat.add_assoc, Nat.add_comm 1 j] using this) hQ a' w' h'

/-! ### Every order -/

/-- The operations that surely come ahead of each one, a bit for each. -/
def ancB (acc : List Nat) (l : List Edge) : Nat :=
  match l with
  | [] => 0
  | e :: r => match Region.binds .any e with
    | true => (2 ^ e.on ||| acc.getD e.on 0) ||| ancB acc r
    | false => ancB acc r

def ancs : List Oper → List Nat → List Nat
  | [], acc => acc
  | o :: r, acc => ancs r (acc ++ [ancB acc o.after.toList])

def meets (x y : List Nat) : Bool := x.any fun a => y.contains a

theorem meets_false {x y : List Nat} (h : meets x y = false) {a : Nat} (hx : a ∈ x) : a ∉ y := by
  intro hy
  have : meets x y = true := by
    unfold meets
    rw [List.any_eq_true]
    exact ⟨a, hx, by simpa using hy⟩
  rw [h] at this
  cases this

structure Foot where
  st : List Nat
  wt : List Nat
  so : List Nat
  wo : List Nat

/-- What one writes the other looks at, or writes. -/
def clash (x y : Foot) : Bool := (meets x.wt y.st || meets x.wt y.wt || meets x.st y.wt) || (meets x.wo y.so || meets x.wo y.wo || meets x.so y.wo)

theorem clash_comm (x y : Foot) (h : clash x y = false) : clash y x = false := by
  have hm : ∀ a b : List Nat, meets a b = false → meets b a = false := fun a b h => by
    cases hb : meets b a with
    | false => rfl
    | true =>
      unfold meets at hb
      rw [List.any_eq_true] at hb
      obtain ⟨c, hc, hc'⟩ := hb
      exact absurd hc (meets_false h (by simpa using hc'))
  simp only [clash, Bool.or_eq_false_iff] at h ⊢
  obtain ⟨⟨⟨h1, h2⟩, h3⟩, ⟨h4, h5⟩, h6⟩ := h
  exact ⟨⟨⟨hm _ _ h3, hm _ _ h2⟩, hm _ _ h1⟩, ⟨hm _ _ h6, hm _ _ h5⟩, hm _ _ h4⟩

def feet (all : List Oper) : List Oper → List (List Nat × List Nat) → List Foot
  | o :: r, x :: y => ⟨seesOf all o, o.dst.toList, x.1, x.2⟩ :: feet all r y
  | o :: r, [] => ⟨seesOf all o, o.dst.toList, [], []⟩ :: feet all r []
  | [], _ => []

def pairsOk (an : Nat) (y : Foot) : Nat → List Foot → Bool
  | _, [] => true
  | i, x :: r => (an.testBit i || !clash x y) && pairsOk an y (i + 1) r

def allOk (an : List Nat) : List Foot → List Foot → Nat → Bool
  | _, [], _ => true
  | done, y :: r, j => pairsOk (an.getD j 0) y 0 done && allOk an (done ++ [y]) r (j + 1)

def backOk : List Oper → Nat → Bool
  | [], _ => true
  | o :: r, i => (o.after.toList.all fun e => Nat.blt e.on i || !Region.binds .any e) && backOk r (i + 1)

/-- EVERY ORDER THAT THE EDGES ALLOW COMES TO ONE END. -/
def flowOk (ops : List Oper) (tr : List (List Nat × List Nat)) : Bool := allOk (ancs ops []) [] (feet ops ops tr) 0 && backOk ops 0

/-- j surely comes ahead of i. -/
inductive Anc (ops : List Oper) : Nat → Nat → Prop
  | one (i j : Nat) (o : Oper) (e : Edge) (hi : ops[i]? = some o) (he : e ∈ o.after.toList) (hb : Region.binds .any e = true) (hj : e.on = j) : Anc ops i j
  | more (i j : Nat) (o : Oper) (e : Edge) (hi : ops[i]? = some o) (he : e ∈ o.after.toList) (hb : Region.binds .any e = true) (t : Anc ops e.on j) : Anc ops i j

theorem ancB_spec {ops : List Oper} {acc : List Nat} {i j : Nat} {o : Oper} (hi : ops[i]? = some o) (hacc : ∀ k, ∀ j, (acc.getD k 0).testBit j = true → Anc ops k j) :
    ∀ (l : List Edge), (∀ e ∈ l, e ∈ o.after.toList) → (ancB acc l).testBit j = true → Anc ops i j
  | [], _, h => by simp [ancB] at h
  | e :: r, hl, h => by
    simp only [ancB] at h
    cases hb : Region.binds .any e with
    | false =>
      rw [hb] at h
      exact ancB_spec hi hacc r (fun e he => hl e (by simp [he])) h
    | true =>
      rw [hb] at h
      simp only [Nat.testBit_or, Bool.or_eq_true, Nat.testBit_two_pow, decide_eq_true_eq] at h
      rcases h with (h | h) | h
      · exact .one i j o e hi (hl e (by simp)) hb h
      · exact .more i j o e hi (hl e (by simp)) hb (hacc _ _ h)
      · exact ancB_spec hi hacc r (fun e he => hl e (by simp [he])) h

theorem ancs_spec {ops : List Oper} : ∀ (l : List Oper) (acc : List Nat), (∀ j, l[j]? = ops[acc.length + j]?) → (∀ k, ∀ j, (acc.getD k 0).testBit j = true → Anc ops k j) →
    ∀ k j, ((ancs l acc).getD k 0).testBit j = true → Anc ops k j
  | [], acc, _, hacc, k, j, h => hacc k j h
  | o :: r, acc, hl, hacc, k, j, h => by
    have h0 : ops[acc.length]? = some o := by simpa using (hl 0).symm
    refine ancs_spec r (acc ++ [ancB acc o.after.toList]) (fun j => by have := hl (j + 1); simpa [Nat.add_assoc, Nat.add_comm 1 j] using this) (fun k j hk => ?_) k j h
    rcases Nat.lt_trichotomy k acc.length with hlt | he | hgt
    · refine hacc k j ?_
      simpa [List.getD_eq_getElem?_getD, List.getElem?_append_left hlt] using hk
    · subst he
      refine ancB_spec h0 hacc o.after.toList (fun _ h => h) ?_
      simpa [List.getD_eq_getElem?_getD] using hk
    · rw [List.getD_eq_getElem?_getD, List.getElem?_eq_none (by simp; omega)] at hk
      simp at hk

theorem pairsOk_spec {an : Nat} {y : Foot} : ∀ {l : List Foot} {i : Nat}, pairsOk an y i l = true → ∀ k x, l[k]? = some x → an.testBit (i + k) = true ∨ clash x y = false
  | [], _, _, k, x, h => by simp at h
  | z :: r, i, hp, k, x, h => by
    simp only [pairsOk, Bool.and_eq_true, Bool.or_eq_true, Bool.not_eq_true'] at hp
    cases k with
    | zero => simp at h; subst h; exact hp.1
    | succ k =>
      have := pairsOk_spec hp.2 k x (by simpa using h)
      rwa [show i + 1 + k = i + (k + 1) by omega] at this

theorem allOk_spec {an : List Nat} : ∀ {l done : List Foot} {j : Nat}, allOk an done l j = true → done.length = j → ∀ i k x y, (done ++ l)[i]? = some x → (done ++ l)[k]? = some y → i < k → j ≤ k →
    (an.getD k 0).testBit i = true ∨ clash x y = false
  | [], done, j, _, hj, i, k, x, y, _, hk, _, hjk => by
    rw [List.append_nil, List.getElem?_eq_none (by omega)] at hk
    cases hk
  | z :: r, done, j, h, hj, i, k, x, y, hx, hy, hik, hjk => by
    simp only [allOk, Bool.and_eq_true] at h
    rcases Nat.eq_or_lt_of_le hjk with e | e
    · subst e
      have hz : y = z := by
        rw [List.getElem?_append_right (by omega), hj, Nat.sub_self] at hy
        simpa using hy.symm
      subst hz
      have hx' : done[i]? = some x := by rwa [List.getElem?_append_left (by omega)] at hx
      have := pairsOk_spec h.1 i x hx'
      rwa [Nat.zero_add] at this
    · have := allOk_spec (done := done ++ [z]) h.2 (by simp [hj]) i k x y (by simpa using hx) (by simpa using hy) hik e
      exact this

theorem backOk_spec : ∀ {l : List Oper} {i : Nat}, backOk l i = true → ∀ k o, l[k]? = some o → ∀ e ∈ o.after.toList, Region.binds .any e = true → e.on < i + k
  | [], _, _, k, o, h => by simp at h
  | z :: r, i, hb, k, o, h => by
    simp only [backOk, Bool.and_eq_true, List.all_eq_true] at hb
    cases k with
    | zero =>
      simp at h
      subst h
      intro e he hbe
      have := hb.1 e he
      rw [hbe] at this
      simp only [Bool.not_true, Bool.or_false, Nat.blt_eq] at this
      omega
    | succ k =>
      intro e he hbe
      have := backOk_spec hb.2 k o (by simpa using h) e he hbe
      omega

end
end Go.Proofs.YteidmimpkipcfaaDoor.Flow
