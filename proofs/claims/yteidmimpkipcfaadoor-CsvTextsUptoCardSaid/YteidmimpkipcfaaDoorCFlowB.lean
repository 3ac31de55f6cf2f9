/-
  FLOW, PART B: WHAT IT MEANS THAT A WORLD AND A FRAME HOLD A STATE ('Rep'), AND THAT IT IS KEPT WHILE MEMORY GROWS.
-/
import Derived.Test.YteidmimpkipcfaaDoorCFlowA
namespace Go.Proofs.YteidmimpkipcfaaDoor.Flow

/-- Where an object lies: a block of its own; or a row's present header, and its length. -/
inductive Loc where
  | blk (b : Nat)
  | row (tv : Value) (L : Nat)

abbrev Rho := Nat → Option Loc
abbrev Cells := Nat → Nat → Prop

def Loc.block : Loc → Option Nat
  | .blk b => some b
  | .row (.slice (some a) _ _) _ => some a.block
  | .row _ _ => none

def LocLe : Loc → Loc → Prop
  | .blk b, .blk b' => b = b'
  | .row tv L, .row tv' L' => L ≤ L' ∧ (L = L' → tv' = tv)
  | _, _ => False

theorem LocLe.refl (l : Loc) : LocLe l l := by cases l <;> simp [LocLe]
theorem LocLe.trans {a b c : Loc} (h : LocLe a b) (k : LocLe b c) : LocLe a c := by
  cases a <;> cases b <;> cases c <;> simp_all [LocLe]
  · exact ⟨by omega, fun e => by
      have h1 := h.2 (by omega)
      have h2 := k.2 (by omega)
      rw [h2, h1]⟩

def RhoLe (r r' : Rho) : Prop := ∀ k l, r k = some l → ∃ l', r' k = some l' ∧ LocLe l l'
theorem RhoLe.refl (r : Rho) : RhoLe r r := fun _ l h => ⟨l, h, LocLe.refl l⟩
theorem RhoLe.trans {a b c : Rho} (h : RhoLe a b) (k : RhoLe b c) : RhoLe a c := fun i l hl =>
  let ⟨l1, h1, g1⟩ := h i l hl
  let ⟨l2, h2, g2⟩ := k i l1 h1
  ⟨l2, h2, g1.trans g2⟩

def noRho : Rho := fun _ => none

/-- A header is a row's present one (an empty one without room may have any address). -/
def Tip (v tv : Value) : Prop := v = tv ∨ (tv = .slice none 0 0 ∧ ∃ a, v = .slice a 0 0)
theorem Tip.refl (v : Value) : Tip v v := .inl rfl

/-- A value is told by a datum: 'S' are the cells that will not change any more, 'r' is where the objects lie. -/
inductive Rel (S : Cells) (w : World) : Rho → D → Value → Prop
  | any (r : Rho) (v : Value) : Rel S w r .any v
  | i (r : Rho) (k : IntKind) (n : Int) : Rel S w r (.i k n) (.int k n)
  | b (r : Rho) (x : Bool) : Rel S w r (.b x) (.bool x)
  | s (r : Rho) (l : List UInt8) : Rel S w r (.s l) (.string ⟨l.toArray⟩)
  | nilS (r : Rho) : Rel S w r .nilS (.slice none 0 0)
  | v (r : Rho) (x : Value) : Rel S w r (.v x) x
  | fn (r : Rho) (f : FuncId) (cs : List D) (vs : Array Value) (hn : vs.size = cs.length) (h : ∀ j, j < cs.length → Rel S w r (cs.getD j .any) (vs.getD j undef)) : Rel S w r (.fn f cs) (.func (.func f) #[] vs)
  | ag (r : Rho) (cs : List D) (vs : Array Value) (hn : vs.size = cs.length) (h : ∀ j, j < cs.length → Rel S w r (cs.getD j .any) (vs.getD j undef)) : Rel S w r (.ag cs) (.agg vs)
  | tu (r : Rho) (cs : List D) (vs : Array Value) (hn : vs.size = cs.length) (h : ∀ j, j < cs.length → Rel S w r (cs.getD j .any) (vs.getD j undef)) : Rel S w r (.tu cs) (.tuple vs)
  | sl (r : Rho) (esz len : Nat) (f : Nat → List D) (a : Option Addr) (cap : Nat) (c : Nat → Nat → Value) (hc : len ≤ cap) (hm : cap ≤ maxLen)
      (hl : ∀ i, i < len → (f i).length = esz ∧ (f i).all D.plain = true)
      (hcell : ∀ i j, i < len → j < esz → ∃ b o, a = some ⟨b, o, none⟩ ∧ S b (o + i * esz + j) ∧ w.cell? ⟨b, o + i * esz + j, none⟩ = some (c i j))
      (hr : ∀ i j, i < len → j < esz → Rel S w noRho ((f i).getD j .any) (c i j)) : Rel S w r (.sl esz len f) (.slice a len cap)
  | rf (r : Rho) (cs : List D) (off : Nat) (b o : Nat) (c : Nat → Value) (hp : cs.all D.plain = true)
      (hcell : ∀ j, j < cs.length → S b (o + j) ∧ w.cell? ⟨b, o + j, none⟩ = some (c j))
      (hr : ∀ j, j < cs.length → Rel S w noRho (cs.getD j .any) (c j)) : Rel S w r (.rf cs off) (.pointer (some ⟨b, o + off, none⟩))
  | pv (r : Rho) (k off b : Nat) (h : r k = some (.blk b)) : Rel S w r (.pv k off) (.pointer (some ⟨b, off, none⟩))
  | gs (r : Rho) (k esz len : Nat) (f : Nat → List D) (v tv : Value) (L : Nat) (h : Rel S w r (.sl esz len f) v) (hk : r k = some (.row tv L)) (hL : len ≤ L) (ht : len = L → Tip v tv) : Rel S w r (.gs k esz len f) v
  | ah (r : Rho) (k esz len cap : Nat) (a : Option Addr) (tv : Value) (L : Nat) (hk : r k = some (.row tv L)) (hL : len ≤ L) (ht : len = L → Tip (.slice a len cap) tv) (ha : 0 < len → ∃ g, a = some ⟨g, 0, none⟩) : Rel S w r (.ah k esz len) (.slice a len cap)
  | ap (r : Rho) (k esz len i off : Nat) (a : Addr) (tv : Value) (L : Nat) (hk : r k = some (.row tv L)) (hL : len ≤ L) (ht : len = L → ∃ g cap, tv = .slice (some ⟨g, 0, none⟩) len cap ∧ a = ⟨g, i * esz + off, none⟩)
      (ha : ∃ g o, a = ⟨g, o, none⟩) : Rel S w r (.ap k esz len i off) (.pointer (some a))
  | e0 (r : Rho) (z : Nat) (a : Option Addr) : Rel S w r (.e0 z) (.slice a 0 0)
  | rn (r : Rho) (k : IntKind) (len : Nat) (f : Nat → Int) (off b : Nat) (h : ∀ j, j < len → S b j ∧ w.cell? ⟨b, j, none⟩ = some (.int k (f j))) : Rel S w r (.rn k len f off) (.pointer (some ⟨b, off, none⟩))
  | se (r : Rho) (z : Nat) (b : Bool) (a : Option Addr) (cap : Nat) (hm : cap ≤ maxLen) (hb : a.isSome = b) : Rel S w r (.se z b) (.slice a 0 cap)

theorem Rel.mono {S S' : Cells} {w w' : World} {r : Rho} {d : D} {v : Value} (h : Rel S w r d v) (hS : ∀ b o, S b o → S' b o)
    (hw : ∀ b o, S b o → w'.cell? ⟨b, o, none⟩ = w.cell? ⟨b, o, none⟩) : ∀ r', RhoLe r r' → Rel S' w' r' d v := by
  induction h with
  | any r v => exact fun r' _ => .any r' v
  | i r k n => exact fun r' _ => .i r' k n
  | b r x => exact fun r' _ => .b r' x
  | s r l => exact fun r' _ => .s r' l
  | nilS r => exact fun r' _ => .nilS r'
  | v r x => exact fun r' _ => .v r' x
  | fn r f cs vs hn h ih => exact fun r' hr => .fn r' f cs vs hn (fun j hj => ih j hj r' hr)
  | ag r cs vs hn h ih => exact fun r' hr => .ag r' cs vs hn (fun j hj => ih j hj r' hr)
  | tu r cs vs hn h ih => exact fun r' hr => .tu r' cs vs hn (fun j hj => ih j hj r' hr)
  | sl r esz len f a cap c hc hm hl hcell hr ih =>
    refine fun r' _ => .sl r' esz len f a cap c hc hm hl (fun i j hi hj => ?_) (fun i j hi hj => ih i j hi hj noRho (RhoLe.refl _))
    obtain ⟨b, o, ha, hs, hcl⟩ := hcell i j hi hj
    exact ⟨b, o, ha, hS _ _ hs, by rw [hw _ _ hs]; exact hcl⟩
  | rf r cs off b o c hp hcell hr ih =>
    exact fun r' _ => .rf r' cs off b o c hp (fun j hj => ⟨hS _ _ (hcell j hj).1, by rw [hw _ _ (hcell j hj).1]; exact (hcell j hj).2⟩) (fun j hj => ih j hj noRho (RhoLe.refl _))
  | pv r k off b h =>
    intro r' hr
    obtain ⟨l', h1, h2⟩ := hr k _ h
    cases l' with
    | blk b' => simp only [LocLe] at h2; subst h2; exact .pv r' k off b h1
    | row => simp [LocLe] at h2
  | gs r k esz len f v tv L h hk hL ht ih =>
    intro r' hr
    obtain ⟨l', h1, h2⟩ := hr k _ hk
    cases l' with
    | blk b' => simp [LocLe] at h2
    | row tv' L' =>
      simp only [LocLe] at h2
      exact .gs r' k esz len f v tv' L' (ih r' hr) h1 (by omega) (fun e => by rw [h2.2 (by omega)]; exact ht (by omega))
  | ah r k esz len cap a tv L hk hL ht ha =>
    intro r' hr
    obtain ⟨l', h1, h2⟩ := hr k _ hk
    cases l' with
    | blk b' => simp [LocLe] at h2
    | row tv' L' =>
      simp only [LocLe] at h2
      exact .ah r' k esz len cap a tv' L' h1 (by omega) (fun e => by rw [h2.2 (by omega)]; exact ht (by omega)) ha
  | ap r k esz len i off a tv L hk hL ht ha =>
    intro r' hr
    obtain ⟨l', h1, h2⟩ := hr k _ hk
    cases l' with
    | blk b' => simp [LocLe] at h2
    | row tv' L' =>
      simp only [LocLe] at h2
      exact .ap r' k esz len i off a tv' L' h1 (by omega) (fun e => by rw [h2.2 (by omega)]; exact ht (by omega)) ha
  | e0 r z a => exact fun r' _ => .e0 r' z a
  | se r z b a cap hm hb => exact fun r' _ => .se r' z b a cap hm hb
  | rn r k len f off b h => exact fun r' _ => .rn r' k len f off b (fun j hj => ⟨hS _ _ (h j hj).1, by rw [hw _ _ (h j hj).1]; exact (h j hj).2⟩)

/-- Plain data does not hang on where objects lie. -/
theorem Rel.plain {S : Cells} {w : World} {r : Rho} {d : D} {v : Value} (h : Rel S w r d v) (hp : d.plain = true) : ∀ r', Rel S w r' d v := by
  cases h with
  | any => simp [D.plain] at hp
  | i => exact fun r' => .i r' _ _
  | b => exact fun r' => .b r' _
  | s => exact fun r' => .s r' _
  | nilS => exact fun r' => .nilS r'
  | v => exact fun r' => .v r' _
  | fn _ f cs vs hn h =>
    simp only [D.plain, List.isEmpty_iff] at hp
    subst hp
    exact fun r' => .fn r' f [] vs hn (fun j hj => absurd hj (by simp))
  | ag => simp [D.plain] at hp
  | tu => simp [D.plain] at hp
  | sl _ esz len f a cap c hc hm hl hcell hr => exact fun r' => .sl r' esz len f a cap c hc hm hl hcell hr
  | rf _ cs off b o c hpp hcell hr => exact fun r' => .rf r' cs off b o c hpp hcell hr
  | pv => simp [D.plain] at hp
  | gs => simp [D.plain] at hp
  | ah => simp [D.plain] at hp
  | ap => simp [D.plain] at hp
  | e0 => exact fun r' => .e0 r' _ _
  | se _ z b a cap hm hb => exact fun r' => .se r' z b a cap hm hb
  | rn _ k len f off b h => exact fun r' => .rn r' k len f off b h

theorem Rel.one {S : Cells} {w : World} {r : Rho} {d : D} {v : Value} (h : Rel S w r d v) (hp : d.one = true) : v.oneCell' = true := by
  cases h with
  | v => simpa [D.one] using hp
  | gs _ k esz len f _ tv L h hk hL ht => cases h with | sl => rfl
  | any => simp [D.one] at hp
  | ag => simp [D.one] at hp
  | tu => simp [D.one] at hp
  | _ => rfl

theorem D.one_of_plain {d : D} (h : d.plain = true) : d.one = true := by cases d <;> simp_all [D.plain, D.one]

theorem Rel.shut {S : Cells} {w : World} {r : Rho} {d : D} {v : Value} (h : Rel S w r d v) : Rel S w r d.shut v := by
  cases h with
  | gs _ k esz len f _ tv L h hk hL ht => exact h
  | any => exact .any _ _
  | i => exact .i _ _ _
  | b => exact .b _ _
  | s => exact .s _ _
  | nilS => exact .nilS _
  | v => exact .v _ _
  | fn _ f cs vs hn h => exact .fn _ f cs vs hn h
  | ag _ cs vs hn h => exact .ag _ cs vs hn h
  | tu _ cs vs hn h => exact .tu _ cs vs hn h
  | sl _ esz len f a cap c hc hm hl hcell hr => exact .sl _ esz len f a cap c hc hm hl hcell hr
  | rf _ cs off b o c hpp hcell hr => exact .rf _ cs off b o c hpp hcell hr
  | pv _ k off b h => exact .pv _ k off b h
  | ah _ k esz len cap a tv L hk hL ht ha => exact .ah _ k esz len cap a tv L hk hL ht ha
  | ap _ k esz len i off a tv L hk hL ht ha => exact .ap _ k esz len i off a tv L hk hL ht ha
  | e0 _ z a => exact .e0 _ z a
  | se _ z b a cap hm hb => exact .se _ z b a cap hm hb
  | rn _ k len f off b h => exact .rn _ k len f off b h

theorem Rel.shutA {S : Cells} {w : World} {r : Rho} {d : D} {v : Value} (h : Rel S w r d v) : Rel S w r d.shutA v := by
  cases d with
  | ag cs =>
    cases h with
    | ag _ _ vs hn h =>
      refine .ag _ _ vs (by simpa using hn) (fun j hj => ?_)
      have hj' : j < cs.length := by simpa using hj
      have e : (cs.map D.shut).getD j .any = (cs.getD j .any).shut := by simp [List.getD_eq_getElem?_getD, hj']
      rw [e]
      exact (h j hj').shut
  | _ => exact h.shut

/-- A datum that tells less. -/
inductive Weak : D → D → Prop
  | refl (d : D) : Weak d d
  | any (d : D) : Weak d .any
  | nil (z : Nat) (f : Nat → List D) : Weak .nilS (.sl z 0 f)
  | e0 (z : Nat) (f : Nat → List D) : Weak (.e0 z) (.sl z 0 f)
  | se (z : Nat) (b : Bool) (f : Nat → List D) : Weak (.se z b) (.sl z 0 f)
  | tu (cs cs' : List D) (hn : cs'.length = cs.length) (h : ∀ j, j < cs.length → Weak (cs.getD j .any) (cs'.getD j .any)) : Weak (.tu cs) (.tu cs')
  | sl (e len : Nat) (f g : Nat → List D) (hn : ∀ i, i < len → (g i).length = (f i).length ∧ (g i).all D.plain = true) (h : ∀ i j, i < len → j < (f i).length → Weak ((f i).getD j .any) ((g i).getD j .any)) : Weak (.sl e len f) (.sl e len g)

theorem Weak.of_eq {d d' : D} (h : d = d') : Weak d d' := h ▸ .refl d

theorem Weak.tu2 {a b a' b' : D} (h1 : Weak a a') (h2 : Weak b b') : Weak (.tu [a, b]) (.tu [a', b']) := .tu _ _ rfl fun j hj => match j, hj with
  | 0, _ => h1
  | 1, _ => h2

theorem Weak.tu3 {a b c a' b' c' : D} (h1 : Weak a a') (h2 : Weak b b') (h3 : Weak c c') : Weak (.tu [a, b, c]) (.tu [a', b', c']) := .tu _ _ rfl fun j hj => match j, hj with
  | 0, _ => h1
  | 1, _ => h2
  | 2, _ => h3

theorem Rel.weak {S : Cells} {w : World} {r : Rho} {d d' : D} {v : Value} (hw : Weak d d') : Rel S w r d v → Rel S w r d' v := by
  intro h
  induction hw generalizing v r with
  | refl => exact h
  | any => exact .any ..
  | nil z f =>
    cases h
    exact .sl _ z 0 f none 0 (fun _ _ => undef) (Nat.le_refl _) (by unfold maxLen; omega) (fun i hi => by omega) (fun i j hi => by omega) (fun i j hi => by omega)
  | e0 z f =>
    cases h
    exact .sl _ z 0 f _ 0 (fun _ _ => undef) (Nat.le_refl _) (by unfold maxLen; omega) (fun i hi => by omega) (fun i j hi => by omega) (fun i j hi => by omega)
  | se z b f =>
    cases h with
    | se _ _ _ a cap hm hb => exact .sl _ z 0 f _ cap (fun _ _ => undef) (Nat.zero_le _) hm (fun i hi => by omega) (fun i j hi => by omega) (fun i j hi => by omega)
  | tu cs cs' hn _ ih =>
    cases h with
    | tu _ _ vs hn' h => exact .tu _ _ vs (by omega) (fun j hj => ih j (by omega) (h j (by omega)))
  | sl e len f g hn _ ih =>
    cases h with
    | sl _ _ _ _ a cap c hc hm hl hcell hr =>
      exact .sl _ _ _ _ a cap c hc hm (fun i hi => ⟨(hn i hi).1.trans (hl i hi).1, (hn i hi).2⟩) hcell (fun i j hi hj => ih i j hi (by rw [(hl i hi).1]; exact hj) (hr i j hi hj))

/-- The package-level variables that are told lie as told. -/
structure GOk (S : Cells) (w : World) : Prop where
  rel : ∀ g, Rel S w noRho (glob g) (.pointer (some ⟨g, 0, none⟩))
  len : ∀ g n, globLen g = some n → S g n ∧ w.cell? ⟨g, n, none⟩ = none
  big : ∀ g, globSome g = true → ∃ m, S g 0 ∧ w.cell? ⟨g, 0, none⟩ = some (.int .i64 m)

theorem GOk.mono {S S' : Cells} {w w' : World} (h : GOk S w) (hS : ∀ b o, S b o → S' b o) (hw : ∀ b o, S b o → w'.cell? ⟨b, o, none⟩ = w.cell? ⟨b, o, none⟩) : GOk S' w' where
  rel := fun g => (h.rel g).mono hS hw noRho (RhoLe.refl _)
  len := fun g n hn => ⟨hS _ _ (h.len g n hn).1, (hw _ _ (h.len g n hn).1).trans (h.len g n hn).2⟩
  big := fun g hn => let ⟨m, h1, h2⟩ := h.big g hn; ⟨m, hS _ _ h1, (hw _ _ h1).trans h2⟩

/-- What was there when the call began, and what it may write: blocks that were lent to it ('L'), and new ones. -/
structure Ctx where
  w0 : World
  S0 : Cells
  L : Nat → Prop
  r0 : Rho := noRho
  ids : List Nat := []

structure Hist (X : Ctx) (w : World) (S : Cells) : Prop where
  os : w.os = X.w0.os
  tape : w.tape = X.w0.tape
  output : w.output = X.w0.output
  size : X.w0.heap.size ≤ w.heap.size
  block : ∀ k, k < X.w0.heap.size → ¬ X.L k → w.heap[k]? = X.w0.heap[k]?
  sub : ∀ b o, X.S0 b o → S b o
  cell : ∀ b o, X.S0 b o → w.cell? ⟨b, o, none⟩ = X.w0.cell? ⟨b, o, none⟩
  new : ∀ b o, S b o → X.S0 b o ∨ X.w0.heap.size ≤ b ∨ X.L b
  valid : ∀ b o, S b o → b < w.heap.size
  glob : GOk S w

/-- An object as it lies in memory. -/
def ObjOk (S : Cells) (w : World) (r : Rho) (k : Nat) : Own → Prop
  | .var cs => ∃ b cur e, r k = some (.blk b) ∧ w.heap[b]? = some (.cells cur e (0, 0)) ∧ cur.size = cs.length ∧
      (∀ j, j < cs.length → Rel S w r (cs.getD j .any) (cur.getD j undef) ∧ (cs.getD j .any).one = true) ∧ ∀ o, ¬ S b o
  | .row e esz len => ∃ tv, r k = some (.row tv len) ∧ ((tv = .slice none 0 0 ∧ len = 0) ∨
      ∃ g cap cur, tv = .slice (some ⟨g, 0, none⟩) len cap ∧ w.heap[g]? = some (.cells cur e (0, 0)) ∧ len ≤ cap ∧ cap ≤ maxLen ∧ cur.size = cap * esz ∧ ∀ o, len * esz ≤ o → ¬ S g o)
  | .arr e esz len f => ∃ tv, r k = some (.row tv len) ∧ ((tv = .slice none 0 0 ∧ len = 0) ∨
      ∃ g cap cur, tv = .slice (some ⟨g, 0, none⟩) len cap ∧ w.heap[g]? = some (.cells cur e (0, 0)) ∧ len ≤ cap ∧ cap ≤ maxLen ∧ cur.size = cap * esz ∧ (∀ i, i < len → (f i).length = esz ∧ (f i).all D.plain = true) ∧
        (∀ i j, i < len → j < esz → Rel S w noRho ((f i).getD j .any) (cur.getD (i * esz + j) undef)) ∧ ∀ o, ¬ S g o)
  | .ob x => ∃ b, r k = some (.blk b) ∧ w.heap[b]? = some x ∧ ∀ o, ¬ S b o
  | .bld T d => ∃ b cur e, r k = some (.blk b) ∧ w.heap[b]? = some (.cells cur e (0, 0)) ∧ cur.size = 2 ∧ ((cur.getD 0 undef = .pointer none ∧ e = T) ∨ cur.getD 0 undef = .pointer (some ⟨b, 0, none⟩)) ∧
      (Rel S w r d (cur.getD 1 undef) ∧ d.one = true) ∧ ∀ o, ¬ S b o
  | .gone => ∃ l, r k = some l ∧ ∀ b, l.block = some b → b < w.heap.size

structure Inv (X : Ctx) (w : World) (S : Cells) (r : Rho) (O : Nat → Option Own) : Prop where
  obj : ∀ k o, O k = some o → ObjOk S w r k o
  dom : ∀ k, O k = none → r k = none
  apart : ∀ k k' l l' b, k ≠ k' → r k = some l → r k' = some l' → l.block = some b → l'.block ≠ some b
  low : ∀ k l b, r k = some l → l.block = some b → X.w0.heap.size ≤ b ∨ X.L b

def updF (F : Nat → D) (dst : Option Tmp) (d : D) : Nat → D :=
  match dst with
  | some t => fun u => if u = t then d else F u
  | none => F

def updO (O : Nat → Option Own) : List (Nat × Own) → Nat → Option Own
  | [] => O
  | (k, o) :: r => updO (fun j => if j = k then some o else O j) r

def evF (F : Nat → D) : Operand → D
  | .tmp t => F t
  | .const v => ofVal v
  | .global g => glob g
  | .func f => .fn f []

def Rep (X : Ctx) (n : Nat) (F : Nat → D) (O : Nat → Option Own) (a : Act) (w : World) : Prop :=
  ∃ S r, Hist X w S ∧ Inv X w S r O ∧ (∀ t, Rel S w r (F t) (a.tmps.getD t undef)) ∧ a.defers = [] ∧ a.tmps.size = n ∧ RhoLe X.r0 r

theorem ofVal_rel (S : Cells) (w : World) (r : Rho) (v : Value) : Rel S w r (ofVal v) v := by
  have hs : ∀ s : ByteArray, Rel S w r (.s s.data.toList) (.string s) := fun s => by
    have := Rel.s (S := S) (w := w) r s.data.toList
    simpa using this
  unfold ofVal
  split
  · exact .i ..
  · exact .b ..
  · exact hs _
  · exact .nilS _
  · rename_i cs
    refine .ag _ _ _ (by simp) (fun j hj => ?_)
    have hj' : j < cs.size := by simpa using hj
    simp only [List.getD_eq_getElem?_getD, List.getElem?_map, Array.getElem?_toList, Array.getElem?_eq_getElem hj', Option.map_some, Option.getD_some, Array.getD_eq_getD_getElem?]
    generalize cs[j] = x
    split
    · exact .i ..
    · exact .b ..
    · exact hs _
    · exact .nilS _
    · exact .v ..
  · exact .any ..
  · exact .v ..

theorem evF_rel {S : Cells} {w : World} {r : Rho} {F : Nat → D} {a : Act} (hg : GOk S w) (h : ∀ t, Rel S w r (F t) (a.tmps.getD t undef)) (x : Operand) : Rel S w r (evF F x) (a.eval x) := by
  cases x with
  | tmp t => exact h t
  | const v => exact ofVal_rel S w r v
  | global g => exact (hg.rel g).mono (fun _ _ h => h) (fun _ _ _ => rfl) r (fun k l h => by simp [noRho] at h)
  | func f => exact .fn r f [] #[] rfl (fun j hj => absurd hj (by simp))

end Go.Proofs.YteidmimpkipcfaaDoor.Flow
