/- The texts FlowA, FlowB, FlowC, FlowD, FlowE, FlowF, one behind the other. -/
import Derived.Test.YtghdgjabpdfaoaaDoorProg
import Derived.WalkKit
import Derived.Deep.AppendSrc
/-
  FLOW, PART A: DATA, STATES AND THE CONDITIONS THAT A BODY MUST MEET, COMPUTED OVER DATA AND NOT OVER MEMORY.
  A temporary holds a datum (D); memory that the call owns is a list of objects under literal numbers. 'vc' reckons, operation by operation, what must hold; part B and C show that it suffices for the model's own wp.
-/
namespace Go.Proofs.YtghdgjabpdfaoaaDoor.Flow

/-- DATA: what a temporary or a cell holds, memory left out. -/
inductive D where
  | any
  | i (k : IntKind) (n : Int)
  | b (x : Bool)
  | s (l : List UInt8)
  | nilS
  | v (x : Value)
  | fn (f : FuncId) (cs : List D)
  | ag (cs : List D)
  | tu (vs : List D)
  | sl (esz len : Nat) (f : Nat → List D)
  | rf (cs : List D) (off : Nat)
  | pv (k off : Nat)
  | gs (k esz len : Nat) (f : Nat → List D)
  | ah (k esz len : Nat)
  | ap (k esz len i off : Nat)
  | e0 (esz : Nat)
  | se (esz : Nat) (b : Bool)
  | rn (k : IntKind) (len : Nat) (f : Nat → Int) (off : Nat)
  | mh (k : Nat)

instance : Inhabited D := ⟨.any⟩

/-- Objects that the call owns: a variable (its cells); a row that it appends to (so many elements, each so many cells), whose elements stay as they are; a row whose elements may change; an object that is told as it lies (an iterator, a map); a variable of two cells of which the first is nil or its own address (a builder); a map from texts, its entries in the order in which they came; bytes that a text was turned into; an object of which no more is told. -/
inductive Own where
  | var (cs : List D)
  | row (e : TypeId) (esz len : Nat)
  | arr (e : TypeId) (esz len : Nat) (f : Nat → List D)
  | ob (x : Obj)
  | bld (T : TypeId) (d : D)
  | mp (es : List (List UInt8 × D))
  | bm (e : TypeId) (len : Nat) (f : Nat → Int)
  | gone

structure St where
  fr : List (Nat × D)
  own : List (Nat × Own)
  n : Nat

def look {α : Type} (t : Nat) : List (Nat × α) → Option α
  | [] => none
  | (u, d) :: r => match Nat.beq u t with
    | true => some d
    | false => look t r

def getD' (t : Nat) : List (Nat × D) → D
  | [] => .any
  | (u, d) :: r => match Nat.beq u t with
    | true => d
    | false => getD' t r

def setO (k : Nat) (o : Own) : List (Nat × Own) → List (Nat × Own)
  | [] => [(k, o)]
  | (u, d) :: r => match Nat.beq u k with
    | true => (k, o) :: r
    | false => (u, d) :: setO k o r

def ofVal : Value → D
  | .int k n => .i k n
  | .bool b => .b b
  | .string s => .s s.data.toList
  | .slice none 0 0 => .nilS
  | .agg cs => .ag (cs.toList.map fun
      | .int k n => .i k n
      | .bool b => .b b
      | .string s => .s s.data.toList
      | .slice none 0 0 => .nilS
      | x => .v x)
  | .tuple _ => .any
  | x => .v x

/-- What package-level variables hold (of the tables none is told here). -/
def glob : Nat → D := fun _ => .any
/-- How many cells they have. -/
def globLen : Nat → Option Nat := fun _ => none
/-- Which of them hold some number (of int). -/
def globSome : Nat → Bool
  | 0 => true
  | _ => false

def ev (fr : List (Nat × D)) : Operand → D
  | .tmp t => getD' t fr
  | .const v => ofVal v
  | .global g => glob g
  | .func f => .fn f []

def D.one : D → Bool
  | .any | .ag _ | .tu _ => false
  | .v x => x.oneCell'
  | _ => true

/-- A datum that tells how many cells its value has. -/
def D.solid : D → Bool
  | .any | .tu _ => false
  | .v x => x.oneCell'
  | _ => true

def D.cells : D → List D
  | .ag cs => cs
  | d => [d]

/-- Data that stays the same whatever becomes of the objects: it may lie in memory that is read only. -/
def D.plain : D → Bool
  | .pv .. | .gs .. | .ah .. | .ap .. | .mh _ | .any | .ag _ | .tu _ => false
  | .fn _ cs => cs.isEmpty
  | .v x => x.oneCell'
  | _ => true

/-- A row's header read as a slice that is read only. -/
def D.shut : D → D
  | .gs _ e n f => .sl e n f
  | d => d

/-- The same within a struct's value. -/
def D.shutA : D → D
  | .ag cs => .ag (cs.map D.shut)
  | d => d.shut

/-! ### Types, as the program's tables tell them -/
inductive Ty where
  | int (k : IntKind) | bool | str | slice (elem size : Nat) (agg : Bool) (bytes : Nat) | struct (fs : List (Nat × Nat × Bool)) | array (n elem size : Nat) (agg : Bool) | ptr (elem : Nat) | other

/-- A type's size in cells, and whether it is a struct or an array. -/
def szOf0 (P : Program) (t : TypeId) : Option (Nat × Bool) :=
  match P.info? t, P.underlying t with
  | some i, some d => some (i.size, match d with | .struct _ | .array _ _ => true | _ => false)
  | _, _ => none

def szOf (P : Program) (t : TypeId) : Option (Nat × Bool) :=
  match Nat.blt t P.types.size with
  | true => szOf0 P t
  | false => none

def tyOf0 (P : Program) (t : TypeId) : Ty :=
  match P.underlying t with
  | some (.int k) => .int k
  | some .bool => .bool
  | some .string => .str
  | some (.slice e) => match P.info? e, szOf P e with
    | some i, some (z, g) => .slice e z g i.bytes
    | _, _ => .other
  | some (.struct fs) => .struct (fs.toList.map fun f => (f.offset, match szOf P f.type with | some (z, g) => (z, g) | none => (0, false)))
  | some (.array n e) => match szOf P e with
    | some (z, g) => .array n e z g
    | none => .other
  | some (.pointer e) => .ptr e
  | _ => .other

def tyOf (P : Program) (t : TypeId) : Ty :=
  match Nat.blt t P.types.size with
  | true => tyOf0 P t
  | false => .other

def zeroD (P : Program) (t : TypeId) : Option D :=
  match Nat.blt t P.types.size with
  | true => match P.info? t with
    | some i => match i.zero with
      | some v => some (ofVal v)
      | none => none
    | none => none
  | false => none

def nth {α : Type} (d : α) : List α → Nat → α
  | [], _ => d
  | x :: _, 0 => x
  | _ :: r, n + 1 => nth d r n

/-- Fields that are numbers, truths or texts: where they lie, and which of these they are. -/
def eqF (P : Program) : List Field → Option (List (Nat × Nat))
  | [] => some []
  | f :: r => match f.name == "_", szOf P f.type, P.underlying f.type, eqF P r with
    | false, some (1, false), some (.int _), some l => some ((f.offset, 0) :: l)
    | false, some (1, false), some .bool, some l => some ((f.offset, 1) :: l)
    | false, some (1, false), some .string, some l => some ((f.offset, 2) :: l)
    | _, _, _, _ => none

def eqOf0 (P : Program) (t : TypeId) : Option (List (Nat × Nat)) :=
  match P.underlying t with
  | some (.struct fs) => match P.stoodInHeld t with
    | false => eqF P fs.toList
    | true => none
  | _ => none

def eqOf (P : Program) (t : TypeId) : Option (List (Nat × Nat)) :=
  match Nat.blt t P.types.size with
  | true => eqOf0 P t
  | false => none

/-- A table, twelve to a row. -/
def at2 {α : Type} (d : α) (l : List (List α)) (t : Nat) : α := nth d (nth [] l (t / 12)) (t % 12)

theorem nth_ge {α : Type} (d : α) : ∀ (l : List α) (n : Nat), l.length ≤ n → nth d l n = d
  | [], _, _ => rfl
  | _ :: _, 0, h => by simp at h
  | _ :: r, n + 1, h => nth_ge d r n (by simpa using h)

theorem at2_ge {α : Type} (d : α) (l : List (List α)) (t : Nat) (h : 12 * l.length ≤ t) : at2 d l t = d := by
  unfold at2
  rw [nth_ge [] l (t / 12) (by omega)]
  rfl

theorem table_eq {α : Type} {f : Nat → α} {d : α} {l : List (List α)} {N : Nat} (hN : 12 * l.length = N) (h : (List.range N).map f = (List.range N).map (at2 d l)) (hf : ∀ t, N ≤ t → f t = d) : f = at2 d l := by
  funext t
  by_cases ht : t < N
  · have h1 : ((List.range N).map f)[t]? = ((List.range N).map (at2 d l))[t]? := by rw [h]
    simpa [ht] using h1
  · rw [hf t (by omega), at2_ge d l t (by omega)]

/-- The tables that operations look at. -/
structure Tb where
  ty : TypeId → Ty
  sz : TypeId → Option (Nat × Bool)
  zr : TypeId → Option D
  eq : TypeId → Option (List (Nat × Nat))

def tb (P : Program) : Tb := ⟨tyOf P, szOf P, zeroD P, eqOf P⟩

/-! ### One operation -/
structure Stp where
  d : D
  p : Prop
  rd : List Nat := []
  wr : List (Nat × Own) := []

def Stp.pure (d : D) (p : Prop := True) : Option Stp := some { d, p }

/-- A list's spine written out. -/
def fzL {α : Type} : List D → (List D → Option α) → Option α
  | [], K => K []
  | a :: r, K => fzL r fun r => K (a :: r)

/-- A datum written out as far as its head. -/
def fz {α : Type} (d : D) (K : D → Option α) : Option α :=
  match d with
  | .any => K .any
  | .i k n => K (.i k n)
  | .b x => K (.b x)
  | .s l => K (.s l)
  | .nilS => K .nilS
  | .v x => K (.v x)
  | .fn f cs => K (.fn f cs)
  | .ag cs => fzL cs fun cs => K (.ag cs)
  | .tu cs => K (.tu cs)
  | .sl e n f => K (.sl e n f)
  | .rf cs o => K (.rf cs o)
  | .pv k o => K (.pv k o)
  | .gs k e n f => K (.gs k e n f)
  | .ah k e n => K (.ah k e n)
  | .ap k e n i o => K (.ap k e n i o)
  | .e0 z => K (.e0 z)
  | .se z b => K (.se z b)
  | .rn k n f o => K (.rn k n f o)
  | .mh k => K (.mh k)

theorem fzL_eq {α : Type} : ∀ (l : List D) (K : List D → Option α), fzL l K = K l
  | [], _ => rfl
  | a :: r, K => fzL_eq r fun r => K (a :: r)

theorem fz_eq {α : Type} (d : D) (K : D → Option α) : fz d K = K d := by
  cases d <;> first | rfl | exact fzL_eq _ _

/-- A list of data written out, each as far as its head. -/
def fzA {α : Type} : List D → (List D → Option α) → Option α
  | [], K => K []
  | a :: r, K => fz a fun a => fzA r fun r => K (a :: r)

theorem fzA_eq {α : Type} : ∀ (l : List D) (K : List D → Option α), fzA l K = K l
  | [], _ => rfl
  | a :: r, K => (fz_eq a _).trans (fzA_eq r fun r => K (a :: r))

/-- In range of int. -/
abbrev InI (n : Int) : Prop := -9223372036854775808 ≤ n ∧ n ≤ 9223372036854775807

def addK (k : IntKind) (n : Int) : Option Stp :=
  match k with
  | .i64 => Stp.pure (.i .i64 n) (InI n)
  | k => Stp.pure (.i k (k.wrap n))

def cmpD (op : BinOp) (a b : Int) : Option Stp :=
  match op with
  | .eql => Stp.pure (.b (a == b))
  | .neq => Stp.pure (.b (a != b))
  | .lss => Stp.pure (.b (decide (a < b)))
  | .leq => Stp.pure (.b (decide (a ≤ b)))
  | .gtr => Stp.pure (.b (decide (b < a)))
  | .geq => Stp.pure (.b (decide (b ≤ a)))
  | _ => none

def intD (op : BinOp) (k : IntKind) (a b : Int) : Option Stp :=
  match op with
  | .add => addK k (a + b)
  | .sub => addK k (a - b)
  | .mul => addK k (a * b)
  | .quo => Stp.pure (.i k (a / b)) (0 ≤ a ∧ 0 < b ∧ k.wrap (a / b) = a / b)
  | .rem => Stp.pure (.i k (a % b)) (0 ≤ a ∧ 0 < b)
  | .and | .or | .xor | .andNot => Stp.pure (.i k (bits op k a b))
  | op => cmpD op a b

def strD (op : BinOp) (x y : List UInt8) : Option Stp :=
  match op with
  | .add => Stp.pure (.s (x ++ y)) (x.length + y.length ≤ 9223372036854775807)
  | .eql => Stp.pure (.b (x == y))
  | .neq => Stp.pure (.b (!(x == y)))
  | .lss => Stp.pure (.b (Op.bytesLess x y))
  | .leq => Stp.pure (.b (Op.bytesLess x y || x == y))
  | .gtr => Stp.pure (.b (!(Op.bytesLess x y || x == y)))
  | .geq => Stp.pure (.b (!(Op.bytesLess x y)))
  | _ => none

def kN : IntKind → Nat
  | .i8 => 0 | .i16 => 1 | .i32 => 2 | .i64 => 3 | .u8 => 4 | .u16 => 5 | .u32 => 6 | .u64 => 7

theorem kN_inj {a b : IntKind} (h : Nat.beq (kN a) (kN b) = true) : a = b := by cases a <;> cases b <;> first | rfl | cases h

/-- How many bits a kind has, written out. -/
def bitsK {α : Type} (k : IntKind) (K : Int → α) : α :=
  match k with
  | .i8 => K 8 | .i16 => K 16 | .i32 => K 32 | .i64 => K 64 | .u8 => K 8 | .u16 => K 16 | .u32 => K 32 | .u64 => K 64

def isSh : BinOp → Bool
  | .shl | .shr => true
  | _ => false

def shD (op : BinOp) (k : IntKind) (a b : Int) : Option Stp :=
  match op with
  | .shl => match k with
    | .i64 => Stp.pure (.i .i64 (a * 2 ^ b.toNat)) (0 ≤ b ∧ b ≤ 64 ∧ InI (a * 2 ^ b.toNat))
    | k => bitsK k fun n => Stp.pure (.i k (k.wrap (a * 2 ^ b.toNat))) (0 ≤ b ∧ b ≤ n)
  | .shr => bitsK k fun n => Stp.pure (.i k (a / 2 ^ b.toNat)) (0 ≤ b ∧ b ≤ n)
  | _ => none

def maxD (x y : D) : Option Stp :=
  match x, y with
  | .i k a, .i _ b => Stp.pure (.i k (max a b))
  | _, _ => none

def minD (x y : D) : Option Stp :=
  match x, y with
  | .i k a, .i _ b => Stp.pure (.i k (min a b))
  | _, _ => none

/-- Cells held against each other, each of the class that is told. -/
def eqC : Nat → D → D → Option Bool
  | 0, .i k a, .i k' b => match Nat.beq (kN k) (kN k') with
    | true => some (a == b)
    | false => none
  | 1, .b a, .b b => some (a == b)
  | 2, .s a, .s b => some (a == b)
  | _, _, _ => none

def eqCs (xs ys : List D) : List (Nat × Nat) → Option Bool
  | [] => some true
  | (o, c) :: r => match eqC c (xs.getD o .any) (ys.getD o .any), eqCs xs ys r with
    | some a, some b => some (a && b)
    | _, _ => none

/-- Structs of numbers, truths and texts held against each other. -/
def eqS (B : Tb) (op : BinOp) (t : TypeId) (xs ys : List D) : Option Stp :=
  match B.eq t with
  | some l => match eqCs xs ys l, op with
    | some b, .eql => Stp.pure (.b b)
    | some b, .neq => Stp.pure (.b (!b))
    | _, _ => none
  | none => none

/-- Arrays of two texts held against each other. -/
def eqA (B : Tb) (op : BinOp) (t : TypeId) (xs ys : List D) : Option Stp :=
  match xs, ys, B.ty t with
  | [.s a, .s b], [.s c, .s d], .array 2 e 1 false => match B.ty e, op with
    | .str, .eql => Stp.pure (.b ((a == c) && (b == d)))
    | .str, .neq => Stp.pure (.b (!((a == c) && (b == d))))
    | _, _ => none
  | xs, ys, .struct _ => eqS B op t xs ys
  | _, _, _ => none

/-- A slice held against nil. -/
def eqN (B : Tb) (op : BinOp) (t : TypeId) (b : Bool) (p : Prop) : Option Stp :=
  match B.ty t, op with
  | .slice .., .eql => Stp.pure (.b b) p
  | .slice .., .neq => Stp.pure (.b (!b)) p
  | _, _ => none

def binD (B : Tb) (op : BinOp) (t : TypeId) (x y : D) : Option Stp :=
  match x, y with
  | .i k a, .i k' b => match isSh op with
    | true => shD op k a b
    | false => match Nat.beq (kN k) (kN k') with
      | true => intD op k a b
      | false => none
  | .s a, .s b => strD op a b
  | .b a, .b b => match op, B.ty t with
    | .eql, .bool => Stp.pure (.b (a == b))
    | .neq, .bool => Stp.pure (.b (!(a == b)))
    | _, _ => none
  | .nilS, .nilS => eqN B op t true True
  | .se _ b, .nilS => eqN B op t (!b) True
  | .sl z n _, .nilS => eqN B op t false (0 < z ∧ 0 < n)
  | .ag xs, .ag ys => eqA B op t xs ys
  | _, _ => none

def pickD (c x y : D) : Option Stp :=
  match c with
  | .b c => match c with
    | true => fz x fun x => Stp.pure x
    | false => fz y fun y => Stp.pure y
  | _ => none

def lenD (B : Tb) (t : TypeId) (x : D) : Option Stp :=
  match x, B.ty t with
  | .s l, .str => Stp.pure (.i .i64 l.length)
  | .nilS, .slice .. => Stp.pure (.i .i64 0)
  | .sl _ n _, .slice .. => Stp.pure (.i .i64 n)
  | .gs _ _ n _, .slice .. => Stp.pure (.i .i64 n)
  | .ah _ _ n, .slice .. => Stp.pure (.i .i64 n)
  | .e0 _, .slice .. => Stp.pure (.i .i64 0)
  | .se _ _, .slice .. => Stp.pure (.i .i64 0)
  | _, _ => none

/-- Some of a value's cells as a value of a type. -/
def partD (z : Nat × Bool) (cs : List D) (off : Nat) : D :=
  match z.2 with
  | true => .ag ((cs.drop off).take z.1)
  | false => cs.getD off .any

def partP (z : Nat × Bool) (cs : List D) (off : Nat) : Prop := off + (match z.2 with | true => z.1 | false => 1) ≤ cs.length

/-- A byte of a text at a place. -/
def at' (s : List UInt8) (i : Int) : Int := ((s.getD i.toNat 0).toNat : Int)

def idxD (B : Tb) (t : TypeId) (x ix : D) : Option Stp :=
  match x, ix, B.ty t with
  | .s l, .i _ n, .str => Stp.pure (.i .u8 (at' l n)) (0 ≤ n ∧ n < l.length)
  | .ag cs, .i _ n, .array m _ z g => fz (partD (z, g) cs (n.toNat * z)) fun d => Stp.pure d (0 ≤ n ∧ n < m ∧ partP (z, g) cs (n.toNat * z))
  | _, _, _ => none

def idxAddrD (B : Tb) (t : TypeId) (x ix : D) : Option Stp :=
  match B.ty t, x, ix with
  | .slice _ z _ _, .sl e len f, .i _ n => Stp.pure (.rf (f n.toNat) 0) (0 ≤ n ∧ n < len ∧ e = z ∧ 0 < e)
  | .slice _ z _ _, .gs _ e len f, .i _ n => Stp.pure (.rf (f n.toNat) 0) (0 ≤ n ∧ n < len ∧ e = z ∧ 0 < e)
  | .slice _ z _ _, .ah k e len, .i _ n => Stp.pure (.ap k e len n.toNat 0) (0 ≤ n ∧ n < len ∧ e = z)
  | .array m _ z _, .ap k e len i off, .i _ n => Stp.pure (.ap k e len i (off + n.toNat * z)) (0 ≤ n ∧ n < m)
  | .array m _ z _, .rn k len f off, .i _ n => Stp.pure (.rn k len f (off + n.toNat * z)) (0 ≤ n ∧ n < m)
  | .array m _ z _, .rf cs off, .i _ n => Stp.pure (.rf cs (off + n.toNat * z)) (0 ≤ n ∧ n < m)
  | .array m _ z _, .pv k off, .i _ n => Stp.pure (.pv k (off + n.toNat * z)) (0 ≤ n ∧ n < m)
  | _, _, _ => none

def fieldAddrD (B : Tb) (t : TypeId) (x : D) (j : Nat) : Option Stp :=
  match B.ty t with
  | .struct fs => match fs[j]? with
    | some (off, z, _) => match z with
      | 0 => none
      | _ + 1 => match x with
        | .rf cs o => Stp.pure (.rf cs (o + off))
        | .pv k o => Stp.pure (.pv k (o + off))
        | .ap k e len i o => Stp.pure (.ap k e len i (o + off))
        | .rn k len f o => Stp.pure (.rn k len f (o + off))
        | _ => none
    | none => none
  | _ => none

def fieldD (B : Tb) (t : TypeId) (x : D) (j : Nat) : Option Stp :=
  match B.ty t with
  | .struct fs => match fs[j]?, x with
    | some (off, z), .ag cs => match z.1 with
      | 0 => none
      | _ + 1 => fz (partD z cs off) fun d => Stp.pure d (partP z cs off)
    | _, _ => none
  | _ => none

/-- A table's numbers from a place on. -/
def tabD (k : IntKind) (f : Nat → Int) (off : Nat) : Nat → List D
  | 0 => []
  | m + 1 => .i k (f off) :: tabD k f (off + 1) m

def loadD (B : Tb) (own : Nat → Option Own) (t : TypeId) (a : D) : Option Stp :=
  match B.sz t with
  | none => none
  | some z => match a with
    | .rf cs off => fz (partD z cs off) fun d => Stp.pure d (partP z cs off)
    | .pv k off => match own k with
      | some (.var cs) => fz (partD z cs off) fun d => some { d := d, p := partP z cs off, rd := [k] }
      | _ => none
    | .rn k len f off => match z.2 with
      | true => fzL (tabD k f off z.1) fun cs => Stp.pure (.ag cs) (off + z.1 ≤ len)
      | false => Stp.pure (.i k (f off)) (off < len)
    | .ap k e len i off => match own k with
      | some (.arr _ e' L f) => fz (partD z (f i) off) fun d => some { d := d, p := len = L ∧ e = e' ∧ i < L ∧ partP z (f i) off, rd := [k] }
      | _ => none
    | _ => none

def putCells (cs : List D) (off : Nat) (ds : List D) : List D := cs.take off ++ ds ++ cs.drop (off + ds.length)

def storeD (B : Tb) (own : Nat → Option Own) (t : TypeId) (a x : D) : Option Stp :=
  match B.sz t, a with
  | some z, .pv k off => match own k with
    | some (.var cs) => fz x fun x => fzA (putCells cs off x.cells) fun cs' => some { d := .any, p := x.cells.length = z.1 ∧ off + x.cells.length ≤ cs.length ∧ x.solid = true ∧ x.cells.all D.one = true, rd := [k], wr := [(k, .var cs')] }
    | _ => none
  | _, _ => none

/-- An element that is another one. -/
def putF (f : Nat → List D) (i : Nat) (cs : List D) : Nat → List D := fun j => if j = i then cs else f j

def storeA (B : Tb) (own : Nat → Option Own) (t : TypeId) (a x : D) : Option Stp :=
  match B.sz t, a with
  | some z, .ap k e len i off => match own k with
    | some (.arr el e' L f) => fz x fun x => some { d := .any, p := len = L ∧ e = e' ∧ i < L ∧ x.cells.length = z.1 ∧ off + x.cells.length ≤ e' ∧ x.solid = true ∧ x.cells.all D.plain = true, rd := [k], wr := [(k, .arr el e' L (putF f i (putCells (f i) off x.cells)))] }
    | _ => none
  | _, _ => none

/-- A new variable under the number of the temporary that is to hold its address. -/
def boxD (own : Nat → Option Own) (dst : Option Tmp) (x : D) : Option Stp :=
  match dst with
  | some k => match own k with
    | none => fzA x.cells fun cs => some { d := .pv k 0, p := x.solid = true ∧ cs.all D.one = true, rd := [k], wr := [(k, .var cs)] }
    | some _ => none
  | none => none

def fillD (place : Nat → Option (Nat × Nat)) (cells : List D) : List (Nat × D) → Option (List D)
  | [] => some cells
  | (i, x) :: rest => match place i with
    | none => none
    | some (off, size) => match Nat.beq x.cells.length size && Nat.ble (off + size) cells.length && x.solid with
      | true => fzA (putCells cells off x.cells) fun cells => fillD place cells rest
      | false => none

def buildD (B : Tb) (t : TypeId) (parts : List (Nat × D)) : Option Stp :=
  match B.zr t, B.ty t with
  | some z, .struct fs => match fs.all (fun f => !(Nat.beq f.2.1 0)) && z.solid, fillD (fun i => (fs.map fun f => (f.1, f.2.1))[i]?) z.cells parts with
    | true, some cs => fzA cs fun cs => Stp.pure (.ag cs)
    | _, _ => none
  | some z, .array _ _ size _ => match z.solid, fillD (fun i => some (i * size, size)) z.cells parts with
    | true, some cs => fzA cs fun cs => Stp.pure (.ag cs)
    | _, _ => none
  | _, _ => none

/-- A literal's cells, so many to an element. -/
def chunk (z : Nat) (cs : List D) : Nat → List D := fun i => (cs.drop (i * z)).take z

/-- A handle to a row, and the row: one whose elements may change (true), or stay. -/
def mkH (ar : Bool) (k z n : Nat) (f : Nat → List D) : D :=
  match ar with
  | true => .ah k z n
  | false => .gs k z n f
def mkO (ar : Bool) (el : TypeId) (z n : Nat) (f : Nat → List D) : Own :=
  match ar with
  | true => .arr el z n f
  | false => .row el z n

def buildSliceD (ar : Bool) (B : Tb) (own : Nat → Option Own) (dst : Option Tmp) (t : TypeId) (len : Nat) (parts : List (Nat × D)) : Option Stp :=
  match dst, B.ty t with
  | some k, .slice el z _ _ => match own k, B.zr el, fillD (fun i => some (i * z, z)) (List.replicate (len * z) .any) parts with
    | none, some _, some cs => fzA cs fun cs => some { d := mkH ar k z len (chunk z cs), p := cs.all D.plain = true ∧ 0 < z ∧ len * z ≤ 16777216, rd := [k], wr := [(k, mkO ar el z len (chunk z cs))] }
    | _, _, _ => none
  | _, _ => none

/-- What stands at place i once more elements lie behind the first len. -/
def catF (len : Nat) (f : Nat → List D) (m : Nat) (g : Nat → List D) : Nat → List D := fun i => if i < len then f i else if i < len + m then g (i - len) else f i

def elemsOf : D → Option (Nat × Nat × (Nat → List D))
  | .sl e n f | .gs _ e n f => some (e, n, f)
  | .se e _ => some (e, 0, fun _ => [])
  | _ => none

def zeroOk (B : Tb) (el z : Nat) : Bool :=
  match B.zr el with
  | some zd => Nat.beq zd.cells.length z && zd.solid
  | none => false

def bytesF (l : List UInt8) : Nat → List D := fun i => [.i .u8 ((l.getD i 0).toNat : Int)]

/-- What is appended. -/
def srcD (B : Tb) (t t2 el : TypeId) (y : D) : Option (Nat × Nat × (Nat → List D)) :=
  match y with
  | .s l => match B.ty t2, B.ty el with
    | .str, .int .u8 => some (1, l.length, bytesF l)
    | _, _ => none
  | y => match Nat.beq t t2 with
    | true => elemsOf y
    | false => none

/-- To a slice without room: a new row. -/
def appendN (ar : Bool) (own : Nat → Option Own) (dst : Option Tmp) (el z by' e2 m : Nat) (g : Nat → List D) : Option Stp :=
  match dst with
  | some k => match own k with
    | none => some { d := mkH ar k z m g, p := e2 = z ∧ 0 < z ∧ m ≤ 9223372036854775807 ∧ m * by' ≤ 140737488355328, rd := [k], wr := [(k, mkO ar el z m g)] }
    | some _ => none
  | none => none

def appendD (ar : Bool) (B : Tb) (own : Nat → Option Own) (dst : Option Tmp) (t t2 : TypeId) (x y : D) : Option Stp :=
  match B.ty t with
  | .slice el z _ by' => match zeroOk B el z, srcD B t t2 el y with
    | true, some (e2, m, g) => match x with
      | .gs k e n f => match own k with
        | some (.row el' e' L) => some { d := .gs k e (n + m) (catF n f m g), p := e = z ∧ e2 = z ∧ e' = z ∧ el' = el ∧ n = L ∧ 0 < z ∧ n + m ≤ 9223372036854775807 ∧ (n + m) * by' ≤ 140737488355328, rd := [k], wr := [(k, .row el z (L + m))] }
        | _ => none
      | .ah k e n => match own k with
        | some (.arr el' e' L f) => some { d := .ah k e (n + m), p := e = z ∧ e2 = z ∧ e' = z ∧ el' = el ∧ n = L ∧ 0 < z ∧ n + m ≤ 9223372036854775807 ∧ (n + m) * by' ≤ 140737488355328, rd := [k], wr := [(k, .arr el z (L + m) (catF L f m g))] }
        | _ => none
      | .nilS => appendN ar own dst el z by' e2 m g
      | .e0 z' => match Nat.beq z' z with
        | true => appendN ar own dst el z by' e2 m g
        | false => none
      | _ => none
    | _, _ => none
  | _ => none

/-- Elements of noughts. -/
def makeD (B : Tb) (own : Nat → Option Own) (dst : Option Tmp) (t : TypeId) (l c : D) : Option Stp :=
  match dst, B.ty t, l, c with
  | some k, .slice el z _ by', .i _ n, .i _ m => match own k, B.zr el with
    | none, some zd => fzA zd.cells fun cs => some { d := .ah k z n.toNat, p := 0 ≤ n ∧ n ≤ m ∧ m ≤ 9223372036854775807 ∧ (by' : Int) * m ≤ 281474976710656 ∧ cs.length = z ∧ zd.solid = true ∧ cs.all D.plain = true ∧ 0 < z, rd := [k], wr := [(k, .arr el z n.toNat (fun _ => cs))] }
    | _, _ => none
  | _, _, _, _ => none

/-- The byte that an element's cells tell. -/
def byteOf : List D → UInt8
  | [.i _ n] => UInt8.ofNat n.toNat
  | _ => 0

def bytesOf (len : Nat) (f : Nat → List D) : List UInt8 := (List.range len).map fun i => byteOf (f i)

def convertD (B : Tb) (src dst : TypeId) (x : D) : Option Stp :=
  match x with
  | .i _ n => match B.ty src, B.ty dst with
    | .int _, .int k => Stp.pure (.i k (k.wrap n))
    | _, _ => none
  | .s l => match B.ty src, B.ty dst with
    | .str, .str => Stp.pure (.s l)
    | .str, .slice e 1 _ _ => match B.ty e with
      | .int .u8 => Stp.pure (.sl 1 l.length (bytesF l)) (l.length < 9223372036854775807)
      | _ => none
    | _, _ => none
  | .nilS => match B.ty src, B.ty dst with
    | .slice e _ _ _, .str => match B.ty e with
      | .int .u8 => Stp.pure (.s [])
      | _ => none
    | _, _ => none
  | .sl z len f | .gs _ z len f => match B.ty src, B.ty dst with
    | .slice e _ _ _, .str => match B.ty e with
      | .int .u8 => Stp.pure (.s (bytesOf len f)) (z = 1 ∧ ∀ i, i < len → ∃ n, f i = [.i .u8 n])
      | _ => none
    | _, _ => none
  | _ => none

def extractD (x : D) (j : Nat) : Option Stp :=
  match x with
  | .tu vs => match vs[j]? with
    | some d => fz d fun d => Stp.pure d
    | none => none
  | _ => none

def nilCheckD : D → Option Stp
  | .pv k o => Stp.pure (.pv k o)
  | .rf c o => Stp.pure (.rf c o)
  | .ap k e n i o => Stp.pure (.ap k e n i o)
  | _ => none

def boundsD (len : Nat) (ev : Operand → D) (lo hi : Option Operand) : Option (Int × Int) :=
  match lo, hi with
  | none, none => some (0, len)
  | some a, none => match ev a with | .i _ n => some (n, len) | _ => none
  | none, some b => match ev b with | .i _ m => some (0, m) | _ => none
  | some a, some b => match ev a, ev b with | .i _ n, .i _ m => some (n, m) | _, _ => none

def sliceD (B : Tb) (t : TypeId) (ev : Operand → D) (x : D) (lo hi : Option Operand) : Option Stp :=
  match x, B.ty t with
  | .s l, .str => match boundsD l.length ev lo hi with
    | some (n, m) => Stp.pure (.s ((l.take m.toNat).drop n.toNat)) (0 ≤ n ∧ n ≤ m ∧ m ≤ l.length)
    | none => none
  | .sl z len f, .slice _ z' _ _ => match boundsD len ev lo hi with
    | some (n, m) => Stp.pure (.sl z (m.toNat - n.toNat) (fun i => f (n.toNat + i))) (0 ≤ n ∧ n ≤ m ∧ m ≤ len ∧ z' = z)
    | none => none
  | .gs _ z len f, .slice _ z' _ _ => match boundsD len ev lo hi with
    | some (n, m) => Stp.pure (.sl z (m.toNat - n.toNat) (fun i => f (n.toNat + i))) (0 ≤ n ∧ n ≤ m ∧ m ≤ len ∧ z' = z)
    | none => none
  | _, _ => none

/-- x[:0:0]. -/
def slice0D (B : Tb) (t : TypeId) (x lo hi mx : D) : Option Stp :=
  match B.ty t, lo, hi, mx with
  | .slice _ z' _ _, .i _ l, .i _ h, .i _ m => match x with
    | .sl z _ _ | .gs _ z _ _ => Stp.pure (.e0 z) (l = 0 ∧ h = 0 ∧ m = 0 ∧ z' = z)
    | .nilS => Stp.pure (.e0 z') (l = 0 ∧ h = 0 ∧ m = 0)
    | _ => none
  | _, _, _, _ => none

def unD (op : UnOp) (x : D) : Option Stp :=
  match op, x with
  | .not, .b c => Stp.pure (.b (!c))
  | .neg, .i k n => addK k (-n)
  | _, _ => none

def evParts (e : Operand → D) : List (Nat × Operand) → List (Nat × D)
  | [] => []
  | (i, x) :: r => (i, e x) :: evParts e r

/-- An operation that is no call of a Go function. -/
def stepK (ar : Bool) (B : Tb) (e : Operand → D) (own : Nat → Option Own) (o : Oper) : Option Stp :=
  match o.op with
  | .move x | .assign x => fz (e x) fun d => Stp.pure d
  | .pick c a b => pickD (e c) (e a) (e b)
  | .binOp op t x y _ => binD B op t (e x) (e y)
  | .unOp op _ x => unD op (e x)
  | .convert s t x => convertD B s t (e x)
  | .index t x ix => idxD B t (e x) (e ix)
  | .indexAddr t x ix => idxAddrD B t (e x) (e ix)
  | .fieldAddr t x j => fieldAddrD B t (e x) j
  | .field t x j => fieldD B t (e x) j
  | .load t a => loadD B own t (e a)
  | .store t a x => match e a with
    | .ap .. => storeA B own t (e a) (e x)
    | _ => storeD B own t (e a) (e x)
  | .alloc t => match B.zr t with
    | some d => boxD own o.dst d
    | none => none
  | .box _ x => boxD own o.dst (e x)
  | .build t parts => buildD B t (evParts e parts.toList)
  | .buildSlice t len parts => buildSliceD ar B own o.dst t len (evParts (fun x => (e x).shutA) parts.toList)
  | .extract x j => extractD (e x) j
  | .nilCheck x => nilCheckD (e x)
  | .slice t x lo hi none => sliceD B t e (e x) lo hi
  | .slice t x none (some hi) (some mx) => slice0D B t (e x) (.i .i64 0) (e hi) (e mx)
  | .slice t x (some lo) (some hi) (some mx) => slice0D B t (e x) (e lo) (e hi) (e mx)
  | .makeSlice t l c => makeD B own o.dst t (e l) (e c)
  | .makeFunc (.func f) ⟨[]⟩ ⟨cs⟩ => fzA (cs.map e) fun l => Stp.pure (.fn f l)
  | .call { callee := .builtin .len, args := ⟨[x]⟩, argTypes := ⟨[t]⟩ } => lenD B t (e x)
  | .call { callee := .builtin .append, args := ⟨[x, y]⟩, argTypes := ⟨[t, t2]⟩ } => appendD ar B own o.dst t t2 (e x) (e y)
  | .call { callee := .builtin .max, args := ⟨[x, y]⟩, .. } => maxD (e x) (e y)
  | .call { callee := .builtin .min, args := ⟨[x, y]⟩, .. } => minD (e x) (e y)
  | _ => none

abbrev step := stepK false

end Go.Proofs.YtghdgjabpdfaoaaDoor.Flow

/-
  FLOW, PART B: WHAT IT MEANS THAT A WORLD AND A FRAME HOLD A STATE ('Rep'), AND THAT IT IS KEPT WHILE MEMORY GROWS.
-/
namespace Go.Proofs.YtghdgjabpdfaoaaDoor.Flow

/-- Where an object lies: a block of its own; or a row's present header, and its length. -/
inductive Loc where
  | blk (b : Nat)
  | row (tv : Value) (L : Nat)

abbrev Rho := Nat → Option Loc
abbrev Cells := Nat → Nat → Prop

def Loc.block : Loc → Option Nat
  | .blk b => some b
  | .row (.slice (some a) _ _) _ => some a.block
  | .row _ _ => none

def LocLe : Loc → Loc → Prop
  | .blk b, .blk b' => b = b'
  | .row tv L, .row tv' L' => L ≤ L' ∧ (L = L' → tv' = tv)
  | _, _ => False

theorem LocLe.refl (l : Loc) : LocLe l l := by cases l <;> simp [LocLe]
theorem LocLe.trans {a b c : Loc} (h : LocLe a b) (k : LocLe b c) : LocLe a c := by
  cases a <;> cases b <;> cases c <;> simp_all [LocLe]
  · exact ⟨by omega, fun e => by
      have h1 := h.2 (by omega)
      have h2 := k.2 (by omega)
      rw [h2, h1]⟩

def RhoLe (r r' : Rho) : Prop := ∀ k l, r k = some l → ∃ l', r' k = some l' ∧ LocLe l l'
theorem RhoLe.refl (r : Rho) : RhoLe r r := fun _ l h => ⟨l, h, LocLe.refl l⟩
theorem RhoLe.trans {a b c : Rho} (h : RhoLe a b) (k : RhoLe b c) : RhoLe a c := fun i l hl =>
  let ⟨l1, h1, g1⟩ := h i l hl
  let ⟨l2, h2, g2⟩ := k i l1 h1
  ⟨l2, h2, g1.trans g2⟩

def noRho : Rho := fun _ => none

/-- A header is a row's present one (an empty one without room may have any address). -/
def Tip (v tv : Value) : Prop := v = tv ∨ (tv = .slice none 0 0 ∧ ∃ a, v = .slice a 0 0)
theorem Tip.refl (v : Value) : Tip v v := .inl rfl

/-- A value is told by a datum: 'S' are the cells that will not change any more, 'r' is where the objects lie. -/
inductive Rel (S : Cells) (w : World) : Rho → D → Value → Prop
  | any (r : Rho) (v : Value) : Rel S w r .any v
  | i (r : Rho) (k : IntKind) (n : Int) : Rel S w r (.i k n) (.int k n)
  | b (r : Rho) (x : Bool) : Rel S w r (.b x) (.bool x)
  | s (r : Rho) (l : List UInt8) : Rel S w r (.s l) (.string ⟨l.toArray⟩)
  | nilS (r : Rho) : Rel S w r .nilS (.slice none 0 0)
  | v (r : Rho) (x : Value) : Rel S w r (.v x) x
  | fn (r : Rho) (f : FuncId) (cs : List D) (vs : Array Value) (hn : vs.size = cs.length) (h : ∀ j, j < cs.length → Rel S w r (cs.getD j .any) (vs.getD j undef)) : Rel S w r (.fn f cs) (.func (.func f) #[] vs)
  | ag (r : Rho) (cs : List D) (vs : Array Value) (hn : vs.size = cs.length) (h : ∀ j, j < cs.length → Rel S w r (cs.getD j .any) (vs.getD j undef)) : Rel S w r (.ag cs) (.agg vs)
  | tu (r : Rho) (cs : List D) (vs : Array Value) (hn : vs.size = cs.length) (h : ∀ j, j < cs.length → Rel S w r (cs.getD j .any) (vs.getD j undef)) : Rel S w r (.tu cs) (.tuple vs)
  | sl (r : Rho) (esz len : Nat) (f : Nat → List D) (a : Option Addr) (cap : Nat) (c : Nat → Nat → Value) (hc : len ≤ cap) (hm : cap ≤ maxLen)
      (hl : ∀ i, i < len → (f i).length = esz ∧ (f i).all D.plain = true)
      (hcell : ∀ i j, i < len → j < esz → ∃ b o, a = some ⟨b, o, none⟩ ∧ S b (o + i * esz + j) ∧ w.cell? ⟨b, o + i * esz + j, none⟩ = some (c i j))
      (hr : ∀ i j, i < len → j < esz → Rel S w noRho ((f i).getD j .any) (c i j)) : Rel S w r (.sl esz len f) (.slice a len cap)
  | rf (r : Rho) (cs : List D) (off : Nat) (b o : Nat) (c : Nat → Value) (hp : cs.all D.plain = true)
      (hcell : ∀ j, j < cs.length → S b (o + j) ∧ w.cell? ⟨b, o + j, none⟩ = some (c j))
      (hr : ∀ j, j < cs.length → Rel S w noRho (cs.getD j .any) (c j)) : Rel S w r (.rf cs off) (.pointer (some ⟨b, o + off, none⟩))
  | pv (r : Rho) (k off b : Nat) (h : r k = some (.blk b)) : Rel S w r (.pv k off) (.pointer (some ⟨b, off, none⟩))
  | gs (r : Rho) (k esz len : Nat) (f : Nat → List D) (v tv : Value) (L : Nat) (h : Rel S w r (.sl esz len f) v) (hk : r k = some (.row tv L)) (hL : len ≤ L) (ht : len = L → Tip v tv) : Rel S w r (.gs k esz len f) v
  | ah (r : Rho) (k esz len cap : Nat) (a : Option Addr) (tv : Value) (L : Nat) (hk : r k = some (.row tv L)) (hL : len ≤ L) (ht : len = L → Tip (.slice a len cap) tv) (ha : 0 < len → ∃ g, a = some ⟨g, 0, none⟩) : Rel S w r (.ah k esz len) (.slice a len cap)
  | ap (r : Rho) (k esz len i off : Nat) (a : Addr) (tv : Value) (L : Nat) (hk : r k = some (.row tv L)) (hL : len ≤ L) (ht : len = L → ∃ g cap, tv = .slice (some ⟨g, 0, none⟩) len cap ∧ a = ⟨g, i * esz + off, none⟩)
      (ha : ∃ g o, a = ⟨g, o, none⟩) : Rel S w r (.ap k esz len i off) (.pointer (some a))
  | e0 (r : Rho) (z : Nat) (a : Option Addr) : Rel S w r (.e0 z) (.slice a 0 0)
  | rn (r : Rho) (k : IntKind) (len : Nat) (f : Nat → Int) (off b : Nat) (h : ∀ j, j < len → S b j ∧ w.cell? ⟨b, j, none⟩ = some (.int k (f j))) : Rel S w r (.rn k len f off) (.pointer (some ⟨b, off, none⟩))
  | mh (r : Rho) (k b : Nat) (h : r k = some (.blk b)) : Rel S w r (.mh k) (.map (some b))
  | se (r : Rho) (z : Nat) (b : Bool) (a : Option Addr) (cap : Nat) (hm : cap ≤ maxLen) (hb : a.isSome = b) : Rel S w r (.se z b) (.slice a 0 cap)

theorem Rel.mono {S S' : Cells} {w w' : World} {r : Rho} {d : D} {v : Value} (h : Rel S w r d v) (hS : ∀ b o, S b o → S' b o)
    (hw : ∀ b o, S b o → w'.cell? ⟨b, o, none⟩ = w.cell? ⟨b, o, none⟩) : ∀ r', RhoLe r r' → Rel S' w' r' d v := by
  induction h with
  | any r v => exact fun r' _ => .any r' v
  | i r k n => exact fun r' _ => .i r' k n
  | b r x => exact fun r' _ => .b r' x
  | s r l => exact fun r' _ => .s r' l
  | nilS r => exact fun r' _ => .nilS r'
  | v r x => exact fun r' _ => .v r' x
  | fn r f cs vs hn h ih => exact fun r' hr => .fn r' f cs vs hn (fun j hj => ih j hj r' hr)
  | ag r cs vs hn h ih => exact fun r' hr => .ag r' cs vs hn (fun j hj => ih j hj r' hr)
  | tu r cs vs hn h ih => exact fun r' hr => .tu r' cs vs hn (fun j hj => ih j hj r' hr)
  | sl r esz len f a cap c hc hm hl hcell hr ih =>
    refine fun r' _ => .sl r' esz len f a cap c hc hm hl (fun i j hi hj => ?_) (fun i j hi hj => ih i j hi hj noRho (RhoLe.refl _))
    obtain ⟨b, o, ha, hs, hcl⟩ := hcell i j hi hj
    exact ⟨b, o, ha, hS _ _ hs, by rw [hw _ _ hs]; exact hcl⟩
  | rf r cs off b o c hp hcell hr ih =>
    exact fun r' _ => .rf r' cs off b o c hp (fun j hj => ⟨hS _ _ (hcell j hj).1, by rw [hw _ _ (hcell j hj).1]; exact (hcell j hj).2⟩) (fun j hj => ih j hj noRho (RhoLe.refl _))
  | pv r k off b h =>
    intro r' hr
    obtain ⟨l', h1, h2⟩ := hr k _ h
    cases l' with
    | blk b' => simp only [LocLe] at h2; subst h2; exact .pv r' k off b h1
    | row => simp [LocLe] at h2
  | mh r k b h =>
    intro r' hr
    obtain ⟨l', h1, h2⟩ := hr k _ h
    cases l' with
    | blk b' => simp only [LocLe] at h2; subst h2; exact .mh r' k b h1
    | row => simp [LocLe] at h2
  | gs r k esz len f v tv L h hk hL ht ih =>
    intro r' hr
    obtain ⟨l', h1, h2⟩ := hr k _ hk
    cases l' with
    | blk b' => simp [LocLe] at h2
    | row tv' L' =>
      simp only [LocLe] at h2
      exact .gs r' k esz len f v tv' L' (ih r' hr) h1 (by omega) (fun e => by rw [h2.2 (by omega)]; exact ht (by omega))
  | ah r k esz len cap a tv L hk hL ht ha =>
    intro r' hr
    obtain ⟨l', h1, h2⟩ := hr k _ hk
    cases l' with
    | blk b' => simp [LocLe] at h2
    | row tv' L' =>
      simp only [LocLe] at h2
      exact .ah r' k esz len cap a tv' L' h1 (by omega) (fun e => by rw [h2.2 (by omega)]; exact ht (by omega)) ha
  | ap r k esz len i off a tv L hk hL ht ha =>
    intro r' hr
    obtain ⟨l', h1, h2⟩ := hr k _ hk
    cases l' with
    | blk b' => simp [LocLe] at h2
    | row tv' L' =>
      simp only [LocLe] at h2
      exact .ap r' k esz len i off a tv' L' h1 (by omega) (fun e => by rw [h2.2 (by omega)]; exact ht (by omega)) ha
  | e0 r z a => exact fun r' _ => .e0 r' z a
  | se r z b a cap hm hb => exact fun r' _ => .se r' z b a cap hm hb
  | rn r k len f off b h => exact fun r' _ => .rn r' k len f off b (fun j hj => ⟨hS _ _ (h j hj).1, by rw [hw _ _ (h j hj).1]; exact (h j hj).2⟩)

/-- Plain data does not hang on where objects lie. -/
theorem Rel.plain {S : Cells} {w : World} {r : Rho} {d : D} {v : Value} (h : Rel S w r d v) (hp : d.plain = true) : ∀ r', Rel S w r' d v := by
  cases h with
  | any => simp [D.plain] at hp
  | i => exact fun r' => .i r' _ _
  | b => exact fun r' => .b r' _
  | s => exact fun r' => .s r' _
  | nilS => exact fun r' => .nilS r'
  | v => exact fun r' => .v r' _
  | fn _ f cs vs hn h =>
    simp only [D.plain, List.isEmpty_iff] at hp
    subst hp
    exact fun r' => .fn r' f [] vs hn (fun j hj => absurd hj (by simp))
  | ag => simp [D.plain] at hp
  | tu => simp [D.plain] at hp
  | sl _ esz len f a cap c hc hm hl hcell hr => exact fun r' => .sl r' esz len f a cap c hc hm hl hcell hr
  | rf _ cs off b o c hpp hcell hr => exact fun r' => .rf r' cs off b o c hpp hcell hr
  | pv => simp [D.plain] at hp
  | mh => simp [D.plain] at hp
  | gs => simp [D.plain] at hp
  | ah => simp [D.plain] at hp
  | ap => simp [D.plain] at hp
  | e0 => exact fun r' => .e0 r' _ _
  | se _ z b a cap hm hb => exact fun r' => .se r' z b a cap hm hb
  | rn _ k len f off b h => exact fun r' => .rn r' k len f off b h

theorem Rel.one {S : Cells} {w : World} {r : Rho} {d : D} {v : Value} (h : Rel S w r d v) (hp : d.one = true) : v.oneCell' = true := by
  cases h with
  | v => simpa [D.one] using hp
  | gs _ k esz len f _ tv L h hk hL ht => cases h with | sl => rfl
  | any => simp [D.one] at hp
  | ag => simp [D.one] at hp
  | tu => simp [D.one] at hp
  | _ => rfl

theorem D.one_of_plain {d : D} (h : d.plain = true) : d.one = true := by cases d <;> simp_all [D.plain, D.one]

theorem Rel.shut {S : Cells} {w : World} {r : Rho} {d : D} {v : Value} (h : Rel S w r d v) : Rel S w r d.shut v := by
  cases h with
  | gs _ k esz len f _ tv L h hk hL ht => exact h
  | any => exact .any _ _
  | i => exact .i _ _ _
  | b => exact .b _ _
  | s => exact .s _ _
  | nilS => exact .nilS _
  | v => exact .v _ _
  | fn _ f cs vs hn h => exact .fn _ f cs vs hn h
  | ag _ cs vs hn h => exact .ag _ cs vs hn h
  | tu _ cs vs hn h => exact .tu _ cs vs hn h
  | sl _ esz len f a cap c hc hm hl hcell hr => exact .sl _ esz len f a cap c hc hm hl hcell hr
  | rf _ cs off b o c hpp hcell hr => exact .rf _ cs off b o c hpp hcell hr
  | pv _ k off b h => exact .pv _ k off b h
  | mh _ k b h => exact .mh _ k b h
  | ah _ k esz len cap a tv L hk hL ht ha => exact .ah _ k esz len cap a tv L hk hL ht ha
  | ap _ k esz len i off a tv L hk hL ht ha => exact .ap _ k esz len i off a tv L hk hL ht ha
  | e0 _ z a => exact .e0 _ z a
  | se _ z b a cap hm hb => exact .se _ z b a cap hm hb
  | rn _ k len f off b h => exact .rn _ k len f off b h

theorem Rel.shutA {S : Cells} {w : World} {r : Rho} {d : D} {v : Value} (h : Rel S w r d v) : Rel S w r d.shutA v := by
  cases d with
  | ag cs =>
    cases h with
    | ag _ _ vs hn h =>
      refine .ag _ _ vs (by simpa using hn) (fun j hj => ?_)
      have hj' : j < cs.length := by simpa using hj
      have e : (cs.map D.shut).getD j .any = (cs.getD j .any).shut := by simp [List.getD_eq_getElem?_getD, hj']
      rw [e]
      exact (h j hj').shut
  | _ => exact h.shut

/-- A datum that tells less. -/
inductive Weak : D → D → Prop
  | refl (d : D) : Weak d d
  | any (d : D) : Weak d .any
  | nil (z : Nat) (f : Nat → List D) : Weak .nilS (.sl z 0 f)
  | e0 (z : Nat) (f : Nat → List D) : Weak (.e0 z) (.sl z 0 f)
  | se (z : Nat) (b : Bool) (f : Nat → List D) : Weak (.se z b) (.sl z 0 f)
  | tu (cs cs' : List D) (hn : cs'.length = cs.length) (h : ∀ j, j < cs.length → Weak (cs.getD j .any) (cs'.getD j .any)) : Weak (.tu cs) (.tu cs')
  | ag (cs cs' : List D) (hn : cs'.length = cs.length) (h : ∀ j, j < cs.length → Weak (cs.getD j .any) (cs'.getD j .any)) : Weak (.ag cs) (.ag cs')
  | sl (e len : Nat) (f g : Nat → List D) (hn : ∀ i, i < len → (g i).length = (f i).length ∧ (g i).all D.plain = true) (h : ∀ i j, i < len → j < (f i).length → Weak ((f i).getD j .any) ((g i).getD j .any)) : Weak (.sl e len f) (.sl e len g)

theorem Weak.of_eq {d d' : D} (h : d = d') : Weak d d' := h ▸ .refl d

theorem Weak.tu2 {a b a' b' : D} (h1 : Weak a a') (h2 : Weak b b') : Weak (.tu [a, b]) (.tu [a', b']) := .tu _ _ rfl fun j hj => match j, hj with
  | 0, _ => h1
  | 1, _ => h2

theorem Rel.weak {S : Cells} {w : World} {r : Rho} {d d' : D} {v : Value} (hw : Weak d d') : Rel S w r d v → Rel S w r d' v := by
  intro h
  induction hw generalizing v r with
  | refl => exact h
  | any => exact .any ..
  | nil z f =>
    cases h
    exact .sl _ z 0 f none 0 (fun _ _ => undef) (Nat.le_refl _) (by unfold maxLen; omega) (fun i hi => by omega) (fun i j hi => by omega) (fun i j hi => by omega)
  | e0 z f =>
    cases h
    exact .sl _ z 0 f _ 0 (fun _ _ => undef) (Nat.le_refl _) (by unfold maxLen; omega) (fun i hi => by omega) (fun i j hi => by omega) (fun i j hi => by omega)
  | se z b f =>
    cases h with
    | se _ _ _ a cap hm hb => exact .sl _ z 0 f _ cap (fun _ _ => undef) (Nat.zero_le _) hm (fun i hi => by omega) (fun i j hi => by omega) (fun i j hi => by omega)
  | tu cs cs' hn _ ih =>
    cases h with
    | tu _ _ vs hn' h => exact .tu _ _ vs (by omega) (fun j hj => ih j (by omega) (h j (by omega)))
  | ag cs cs' hn _ ih =>
    cases h with
    | ag _ _ vs hn' h => exact .ag _ _ vs (by omega) (fun j hj => ih j (by omega) (h j (by omega)))
  | sl e len f g hn _ ih =>
    cases h with
    | sl _ _ _ _ a cap c hc hm hl hcell hr =>
      exact .sl _ _ _ _ a cap c hc hm (fun i hi => ⟨(hn i hi).1.trans (hl i hi).1, (hn i hi).2⟩) hcell (fun i j hi hj => ih i j hi (by rw [(hl i hi).1]; exact hj) (hr i j hi hj))

/-- The package-level variables that are told lie as told. -/
structure GOk (S : Cells) (w : World) : Prop where
  rel : ∀ g, Rel S w noRho (glob g) (.pointer (some ⟨g, 0, none⟩))
  len : ∀ g n, globLen g = some n → S g n ∧ w.cell? ⟨g, n, none⟩ = none
  big : ∀ g, globSome g = true → ∃ m, S g 0 ∧ w.cell? ⟨g, 0, none⟩ = some (.int .i64 m)

theorem GOk.mono {S S' : Cells} {w w' : World} (h : GOk S w) (hS : ∀ b o, S b o → S' b o) (hw : ∀ b o, S b o → w'.cell? ⟨b, o, none⟩ = w.cell? ⟨b, o, none⟩) : GOk S' w' where
  rel := fun g => (h.rel g).mono hS hw noRho (RhoLe.refl _)
  len := fun g n hn => ⟨hS _ _ (h.len g n hn).1, (hw _ _ (h.len g n hn).1).trans (h.len g n hn).2⟩
  big := fun g hn => let ⟨m, h1, h2⟩ := h.big g hn; ⟨m, hS _ _ h1, (hw _ _ h1).trans h2⟩

/-- What was there when the call began, and what it may write: blocks that were lent to it ('L'), and new ones. -/
structure Ctx where
  w0 : World
  S0 : Cells
  L : Nat → Prop
  r0 : Rho := noRho
  ids : List Nat := []

structure Hist (X : Ctx) (w : World) (S : Cells) : Prop where
  os : w.os = X.w0.os
  tape : w.tape = X.w0.tape
  output : w.output = X.w0.output
  size : X.w0.heap.size ≤ w.heap.size
  block : ∀ k, k < X.w0.heap.size → ¬ X.L k → w.heap[k]? = X.w0.heap[k]?
  sub : ∀ b o, X.S0 b o → S b o
  cell : ∀ b o, X.S0 b o → w.cell? ⟨b, o, none⟩ = X.w0.cell? ⟨b, o, none⟩
  new : ∀ b o, S b o → X.S0 b o ∨ X.w0.heap.size ≤ b ∨ X.L b
  valid : ∀ b o, S b o → b < w.heap.size
  glob : GOk S w

/-- An entry of a map from texts. -/
def EntOk (S : Cells) (w : World) (r : Rho) (p : List UInt8 × D) (e : MapEntry) : Prop := e.key = .string ⟨p.1.toArray⟩ ∧ Rel S w r p.2 e.val ∧ p.2.one = true

/-- The entries' times of birth. -/
def BornOk (arr : Array MapEntry) (clock : Nat) : Prop :=
  (∀ i j, i < j → j < arr.size → (arr.getD i default).born < (arr.getD j default).born) ∧ ∀ i, i < arr.size → (arr.getD i default).born < clock

/-- An object as it lies in memory. -/
def ObjOk (S : Cells) (w : World) (r : Rho) (k : Nat) : Own → Prop
  | .var cs => ∃ b cur e, r k = some (.blk b) ∧ w.heap[b]? = some (.cells cur e (0, 0)) ∧ cur.size = cs.length ∧
      (∀ j, j < cs.length → Rel S w r (cs.getD j .any) (cur.getD j undef) ∧ (cs.getD j .any).one = true) ∧ ∀ o, ¬ S b o
  | .row e esz len => ∃ tv, r k = some (.row tv len) ∧ ((tv = .slice none 0 0 ∧ len = 0) ∨
      ∃ g cap cur, tv = .slice (some ⟨g, 0, none⟩) len cap ∧ w.heap[g]? = some (.cells cur e (0, 0)) ∧ len ≤ cap ∧ cap ≤ maxLen ∧ cur.size = cap * esz ∧ ∀ o, len * esz ≤ o → ¬ S g o)
  | .arr e esz len f => ∃ tv, r k = some (.row tv len) ∧ ((tv = .slice none 0 0 ∧ len = 0) ∨
      ∃ g cap cur, tv = .slice (some ⟨g, 0, none⟩) len cap ∧ w.heap[g]? = some (.cells cur e (0, 0)) ∧ len ≤ cap ∧ cap ≤ maxLen ∧ cur.size = cap * esz ∧ (∀ i, i < len → (f i).length = esz ∧ (f i).all D.plain = true) ∧
        (∀ i j, i < len → j < esz → Rel S w noRho ((f i).getD j .any) (cur.getD (i * esz + j) undef)) ∧ ∀ o, ¬ S g o)
  | .ob x => ∃ b, r k = some (.blk b) ∧ w.heap[b]? = some x ∧ ∀ o, ¬ S b o
  | .bld T d => ∃ b cur e, r k = some (.blk b) ∧ w.heap[b]? = some (.cells cur e (0, 0)) ∧ cur.size = 2 ∧ ((cur.getD 0 undef = .pointer none ∧ e = T) ∨ cur.getD 0 undef = .pointer (some ⟨b, 0, none⟩)) ∧
      (Rel S w r d (cur.getD 1 undef) ∧ d.one = true) ∧ ∀ o, ¬ S b o
  | .mp es => ∃ b arr clock, r k = some (.blk b) ∧ w.heap[b]? = some (.map arr clock) ∧ arr.size = es.length ∧ (∀ j, j < es.length → EntOk S w r (es.getD j ([], .any)) (arr.getD j default)) ∧ BornOk arr clock ∧ ∀ o, ¬ S b o
  | .bm e len f => ∃ g cap cur, r k = some (.row (.slice (some ⟨g, 0, none⟩) len cap) len) ∧ w.heap[g]? = some (.cells cur e (cur.size, cur.size + 1)) ∧ len ≤ cap ∧ cap ≤ maxLen ∧ len ≤ cur.size ∧ (∀ i, i < len → cur.getD i undef = .int .u8 (f i)) ∧ ∀ o, ¬ S g o
  | .gone => ∃ l, r k = some l ∧ ∀ b, l.block = some b → b < w.heap.size

structure Inv (X : Ctx) (w : World) (S : Cells) (r : Rho) (O : Nat → Option Own) : Prop where
  obj : ∀ k o, O k = some o → ObjOk S w r k o
  dom : ∀ k, O k = none → r k = none
  apart : ∀ k k' l l' b, k ≠ k' → r k = some l → r k' = some l' → l.block = some b → l'.block ≠ some b
  low : ∀ k l b, r k = some l → l.block = some b → X.w0.heap.size ≤ b ∨ X.L b

def updF (F : Nat → D) (dst : Option Tmp) (d : D) : Nat → D :=
  match dst with
  | some t => fun u => if u = t then d else F u
  | none => F

def updO (O : Nat → Option Own) : List (Nat × Own) → Nat → Option Own
  | [] => O
  | (k, o) :: r => updO (fun j => if j = k then some o else O j) r

def evF (F : Nat → D) : Operand → D
  | .tmp t => F t
  | .const v => ofVal v
  | .global g => glob g
  | .func f => .fn f []

def Rep (X : Ctx) (n : Nat) (F : Nat → D) (O : Nat → Option Own) (a : Act) (w : World) : Prop :=
  ∃ S r, Hist X w S ∧ Inv X w S r O ∧ (∀ t, Rel S w r (F t) (a.tmps.getD t undef)) ∧ a.defers = [] ∧ a.tmps.size = n ∧ RhoLe X.r0 r

theorem ofVal_rel (S : Cells) (w : World) (r : Rho) (v : Value) : Rel S w r (ofVal v) v := by
  have hs : ∀ s : ByteArray, Rel S w r (.s s.data.toList) (.string s) := fun s => by
    have := Rel.s (S := S) (w := w) r s.data.toList
    simpa using this
  unfold ofVal
  split
  · exact .i ..
  · exact .b ..
  · exact hs _
  · exact .nilS _
  · rename_i cs
    refine .ag _ _ _ (by simp) (fun j hj => ?_)
    have hj' : j < cs.size := by simpa using hj
    simp only [List.getD_eq_getElem?_getD, List.getElem?_map, Array.getElem?_toList, Array.getElem?_eq_getElem hj', Option.map_some, Option.getD_some, Array.getD_eq_getD_getElem?]
    generalize cs[j] = x
    split
    · exact .i ..
    · exact .b ..
    · exact hs _
    · exact .nilS _
    · exact .v ..
  · exact .any ..
  · exact .v ..

theorem evF_rel {S : Cells} {w : World} {r : Rho} {F : Nat → D} {a : Act} (hg : GOk S w) (h : ∀ t, Rel S w r (F t) (a.tmps.getD t undef)) (x : Operand) : Rel S w r (evF F x) (a.eval x) := by
  cases x with
  | tmp t => exact h t
  | const v => exact ofVal_rel S w r v
  | global g => exact (hg.rel g).mono (fun _ _ h => h) (fun _ _ _ => rfl) r (fun k l h => by simp [noRho] at h)
  | func f => exact .fn r f [] #[] rfl (fun j hj => absurd hj (by simp))

end Go.Proofs.YtghdgjabpdfaoaaDoor.Flow

/-
  FLOW, PART C: EACH OPERATION DOES WHAT 'step' SAYS.
-/
namespace Go.Proofs.YtghdgjabpdfaoaaDoor.Flow

def dstOk (dst : Option Tmp) (n : Nat) : Prop := match dst with | some t => t < n | none => True

def StepAt (P : Program) (X : Ctx) (n : Nat) (o : Oper) (F : Nat → D) (O : Nat → Option Own) (d : D) (wr : List (Nat × Own)) : Prop :=
  ∀ (a : Act) (w : World) (K : Act → World → Prop) (Q : Exit → Act → World → Prop), Rep X n F O a w →
    (∀ v w', Rep X n (updF F o.dst d) (updO O wr) (a.put o.dst v) w' → K (a.put o.dst v) w') → o.wp P a w K Q

theorem rel_put {S : Cells} {w : World} {r : Rho} {F : Nat → D} {a : Act} {dst : Option Tmp} {d : D} {v : Value} (h : ∀ t, Rel S w r (F t) (a.tmps.getD t undef))
    (hd : dstOk dst a.tmps.size) (hv : Rel S w r d v) : ∀ t, Rel S w r (updF F dst d t) ((a.put dst v).tmps.getD t undef) := by
  intro t
  cases dst with
  | none => exact h t
  | some u =>
    simp only [dstOk] at hd
    simp only [updF, Act.put]
    by_cases e : t = u
    · subst e
      rw [if_pos rfl]
      simpa [Array.getD_eq_getD_getElem?, hd] using hv
    · rw [if_neg e]
      have := h t
      simpa [Array.getD_eq_getD_getElem?, Array.getElem?_setIfInBounds_ne (Ne.symm e)] using this

theorem put_defers (a : Act) (dst : Option Tmp) (v : Value) : (a.put dst v).defers = a.defers := by cases dst <;> rfl
theorem put_size (a : Act) (dst : Option Tmp) (v : Value) : (a.put dst v).tmps.size = a.tmps.size := by cases dst <;> simp [Act.put]

section
variable {P : Program} {X : Ctx} {n : Nat} {o : Oper} {F : Nat → D} {O : Nat → Option Own} {d : D}

end

/-! ### What 'tyOf' tells -/
section
variable {P : Program}
theorem tyOf_in {t : TypeId} {x : Ty} (h : tyOf P t = x) (hx : x ≠ .other) : tyOf0 P t = x := by
  unfold tyOf at h
  split at h
  · exact h
  · exact absurd h.symm hx

theorem tyOf_bool {t : TypeId} (h : tyOf P t = .bool) : P.underlying t = some .bool := by
  have h := tyOf_in h (by simp)
  unfold tyOf0 at h
  split at h <;> first | assumption | cases h | (split at h <;> cases h)

theorem tyOf_str {t : TypeId} (h : tyOf P t = .str) : P.underlying t = some .string := by
  have h := tyOf_in h (by simp)
  unfold tyOf0 at h
  split at h <;> first | assumption | cases h | (split at h <;> cases h)

theorem tyOf_int {t : TypeId} {k : IntKind} (h : tyOf P t = .int k) : P.underlying t = some (.int k) := by
  have h := tyOf_in h (by simp)
  unfold tyOf0 at h
  split at h <;> first | (cases h; assumption) | cases h | (split at h <;> cases h)

theorem szOf_spec {t : TypeId} {z : Nat × Bool} (h : szOf P t = some z) : ∃ i d, P.info? t = some i ∧ P.underlying t = some d ∧ i.size = z.1 ∧ (match d with | .struct _ | .array _ _ => true | _ => false) = z.2 := by
  unfold szOf at h
  split at h <;> first | (cases h; done) | skip
  unfold szOf0 at h
  split at h
  · rename_i i d h1 h2
    simp only [Option.some.injEq] at h
    subst h
    exact ⟨i, d, h1, h2, rfl, rfl⟩
  · cases h

theorem tyOf_slice {t e z b : Nat} {g : Bool} (h : tyOf P t = .slice e z g b) : P.underlying t = some (.slice e) ∧ szOf P e = some (z, g) ∧ ∃ i, P.info? e = some i ∧ i.size = z ∧ i.bytes = b := by
  have h := tyOf_in h (by simp)
  unfold tyOf0 at h
  split at h <;> first | cases h | skip
  · rename_i e' hu
    split at h
    · rename_i i z' g' hi hz
      cases h
      obtain ⟨i', d, h1, h2, h3, h4⟩ := szOf_spec hz
      rw [hi] at h1
      cases h1
      exact ⟨hu, hz, i, hi, h3, rfl⟩
    · cases h
  · split at h <;> cases h

theorem tyOf_array {t e z n : Nat} {g : Bool} (h : tyOf P t = .array n e z g) : P.underlying t = some (.array n e) ∧ szOf P e = some (z, g) := by
  have h := tyOf_in h (by simp)
  unfold tyOf0 at h
  split at h <;> first | cases h | skip
  · split at h <;> cases h
  · rename_i n' e' hu
    split at h
    · rename_i z' g' hz
      cases h
      exact ⟨hu, hz⟩
    · cases h

theorem tyOf_struct {t : Nat} {fs : List (Nat × Nat × Bool)} (h : tyOf P t = .struct fs) : ∃ gs, P.underlying t = some (.struct gs) ∧
    fs = gs.toList.map fun f => (f.offset, match szOf P f.type with | some (z, g) => (z, g) | none => (0, false)) := by
  have h := tyOf_in h (by simp)
  unfold tyOf0 at h
  split at h <;> first | cases h | skip
  · split at h <;> cases h
  · rename_i gs hu
    exact ⟨gs, hu, rfl⟩
  · split at h <;> cases h

theorem tyOf_ge {t : Nat} (h : P.types.size ≤ t) : tyOf P t = .other := by
  have : Nat.blt t P.types.size = false := by
    cases hb : Nat.blt t P.types.size with
    | false => rfl
    | true => rw [Nat.blt_eq] at hb; omega
  simp [tyOf, this]
theorem szOf_ge {t : Nat} (h : P.types.size ≤ t) : szOf P t = none := by
  have : Nat.blt t P.types.size = false := by
    cases hb : Nat.blt t P.types.size with
    | false => rfl
    | true => rw [Nat.blt_eq] at hb; omega
  simp [szOf, this]
theorem eqOf_ge {t : Nat} (h : P.types.size ≤ t) : eqOf P t = none := by
  have : Nat.blt t P.types.size = false := by
    rw [← Bool.not_eq_true, Nat.blt_eq]
    omega
  simp only [eqOf, this]

theorem zeroD_ge {t : Nat} (h : P.types.size ≤ t) : zeroD P t = none := by
  have : Nat.blt t P.types.size = false := by
    cases hb : Nat.blt t P.types.size with
    | false => rfl
    | true => rw [Nat.blt_eq] at hb; omega
  simp [zeroD, this]
end

/-! ### Values -/
section
variable {P : Program} {S : Cells} {w : World} {r : Rho}

theorem wrapI {n : Int} (h : InI n) : IntKind.i64.wrap n = n := IntWalk.i64_in n h

theorem rel_int {S : Cells} {w : World} {r : Rho} {k : IntKind} {n m : Int} (h : n = m) : Rel S w r (.i k n) (.int k m) := h ▸ .i ..
theorem rel_bool {S : Cells} {w : World} {r : Rho} {x y : Bool} (h : x = y) : Rel S w r (.b x) (.bool y) := h ▸ .b ..

theorem addK_sound {k : IntKind} {m : Int} {s : Stp} (hs : addK k m = some s) (hp : s.p) : Rel S w r s.d (.int k (k.wrap m)) ∧ s.wr = [] := by
  cases k <;> simp only [addK, Stp.pure, Option.some.injEq] at hs <;> subst hs
  case i64 => exact ⟨rel_int (wrapI hp).symm, rfl⟩
  all_goals exact ⟨.i .., rfl⟩

theorem shD_sound {op : BinOp} {k k' : IntKind} {t : TypeId} {a b : Int} {s : Stp} (hsh : isSh op = true) (hs : shD op k a b = some s) (hp : s.p) :
    ∃ v, (do pure (); binOp op t (.int k a) (.int k' b) : Sem Value).run P w = .ok v w ∧ Rel S w r s.d v ∧ s.wr = [] := by
  have main : ∀ b' : Int, 0 ≤ b → b ≤ k.bits → min b.toNat k.bits = b.toNat := fun _ h1 h2 => by omega
  cases op <;> first | (cases hsh; done) | skip
  case shl =>
    have h1 : s.wr = [] ∧ 0 ≤ b ∧ b ≤ k.bits ∧ Rel S w r s.d (.int k (k.wrap (a * 2 ^ b.toNat))) := by
      cases k <;> simp only [shD, bitsK, Stp.pure, Option.some.injEq] at hs <;> subst hs
      case i64 => exact ⟨rfl, hp.1, hp.2.1, rel_int (wrapI hp.2.2).symm⟩
      all_goals exact ⟨rfl, hp.1, hp.2, .i ..⟩
    obtain ⟨h1, h2, h3, h4⟩ := h1
    refine ⟨_, ?_, h4, h1⟩
    have hb : ¬ b < 0 := by omega
    simp [binOp, Op.shift, hb, main b h2 h3]
  case shr =>
    have h1 : s.wr = [] ∧ 0 ≤ b ∧ b ≤ k.bits ∧ Rel S w r s.d (.int k (a / 2 ^ b.toNat)) := by
      cases k <;> simp only [shD, bitsK, Stp.pure, Option.some.injEq] at hs <;> subst hs <;> exact ⟨rfl, hp.1, hp.2, .i ..⟩
    obtain ⟨h1, h2, h3, h4⟩ := h1
    refine ⟨_, ?_, h4, h1⟩
    have hb : ¬ b < 0 := by omega
    have hq : (0 : Int) ≤ 2 ^ b.toNat := Int.le_of_lt (Int.pow_pos (by omega))
    simp [binOp, Op.shift, hb, main b h2 h3, Int.fdiv_eq_ediv_of_nonneg _ hq]

theorem maxD_sound {dx dy : D} {vx vy : Value} {a : Array TypeId} {ty : TypeId} {s : Stp} (hs : maxD dx dy = some s) (hx : Rel S w r dx vx) (hy : Rel S w r dy vy) : ∃ v, (Builtin.max_ a ty #[vx, vy]).run P w = .ok v w ∧ Rel S w r s.d v ∧ s.wr = [] := by
  unfold maxD at hs
  split at hs <;> first | (cases hs; done) | skip
  cases hx
  cases hy
  cases hs
  refine ⟨_, by simp [Builtin.max_, Builtin.max2]; rfl, rel_int ?_, rfl⟩
  split <;> omega

theorem minD_sound {dx dy : D} {vx vy : Value} {a : Array TypeId} {ty : TypeId} {s : Stp} (hs : minD dx dy = some s) (hx : Rel S w r dx vx) (hy : Rel S w r dy vy) : ∃ v, (Builtin.min_ a ty #[vx, vy]).run P w = .ok v w ∧ Rel S w r s.d v ∧ s.wr = [] := by
  unfold minD at hs
  split at hs <;> first | (cases hs; done) | skip
  cases hx
  cases hy
  cases hs
  refine ⟨_, by simp [Builtin.min_, Builtin.min2]; rfl, rel_int ?_, rfl⟩
  split <;> omega

theorem run_isAgg0 {t : TypeId} {z : Nat × Bool} (h : szOf P t = some z) : (isAgg t).run P w = .ok z.2 w ∧ (sizeOf t).run P w = .ok z.1 w := by
  obtain ⟨i, d, h1, h2, h3, h4⟩ := szOf_spec h
  constructor
  · unfold isAgg
    cases d <;> simp_all [run_underlying h2]
  · simp [sizeOf, typeInfo, h1, h3]

theorem run_equalIn_nil {t e : TypeId} (d : Nat) (ht : P.underlying t = some (.slice e)) (a : Option Addr) (n c : Nat) : (Op.equalIn (d + 1) t (.slice a n c) (.slice none 0 0)).run P w = .ok a.isNone w := by
  unfold Op.equalIn
  cases a <;> simp [run_underlying ht]

theorem eqN_sound {op : BinOp} {t : TypeId} {x y : Operand} {b : Bool} {p : Prop} {s : Stp} (hs : eqN (tb P) op t b p = some s) (_hp : s.p) :
    (∀ (a : Option Addr) (n c : Nat), (b = true ∧ a = none) ∨ (b = false ∧ a.isSome = true) → (do eqGuard op t x y (.slice a n c) (.slice none 0 0); binOp op t (.slice a n c) (.slice none 0 0) : Sem Value).run P w = .ok (match op with | .neq => .bool (!b) | _ => .bool b) w) ∧
      Rel S w r s.d (match op with | .neq => .bool (!b) | _ => .bool b) ∧ s.wr = [] := by
  unfold eqN at hs
  cases hty : (tb P).ty t <;> simp only [hty] at hs <;> first | (cases hs; done) | skip
  have hu := (tyOf_slice hty).1
  have hb : ∀ a : Option Addr, (b = true ∧ a = none) ∨ (b = false ∧ a.isSome = true) → a.isNone = b := fun a h => by
    rcases h with ⟨rfl, rfl⟩ | ⟨rfl, h⟩
    · rfl
    · cases a with
      | none => cases h
      | some a => rfl
  cases op <;> first | (cases hs; done) | skip
  · cases hs
    refine ⟨fun a n c h => ?_, .b .., rfl⟩
    have e0 : (eqGuard .eql t x y (.slice a n c) (.slice none 0 0)) = pure () := rfl
    have e1 : binOp .eql t (.slice a n c) (.slice none 0 0) = (do pure (.bool (← Op.equalIn (9999 + 1) t (.slice a n c) (.slice none 0 0)))) := rfl
    rw [e0, e1]
    simp only [Sem.run_bind, Sem.run_pure, Result.andThen_ok, run_equalIn_nil 9999 hu, hb a h]
  · cases hs
    refine ⟨fun a n c h => ?_, .b .., rfl⟩
    have e0 : (eqGuard .neq t x y (.slice a n c) (.slice none 0 0)) = pure () := rfl
    have e1 : binOp .neq t (.slice a n c) (.slice none 0 0) = (do pure (.bool (!(← Op.equalIn (9999 + 1) t (.slice a n c) (.slice none 0 0))))) := rfl
    rw [e0, e1]
    simp only [Sem.run_bind, Sem.run_pure, Result.andThen_ok, run_equalIn_nil 9999 hu, hb a h]

theorem run_equalIn_arr2 {t e : TypeId} (d : Nat) (ht : P.underlying t = some (.array 2 e)) (he : P.underlying e = some .string) (hz : szOf P e = some (1, false)) (a b c f : ByteArray) :
    (Op.equalIn (d + 2) t (.agg #[.string a, .string b]) (.agg #[.string c, .string f])).run P w = .ok ((a.toList == c.toList) && (b.toList == f.toList)) w := by
  obtain ⟨h1, h2⟩ := run_isAgg0 (w := w) hz
  have h3 := fun x y => run_equalIn_string (P := P) w d e x y he
  have hp0 : ∀ (x y : ByteArray), (part e #[.string x, .string y] (0 * 1)).run P w = .ok (.string x) w := fun x y => by simp [part, h1]
  have hp1 : ∀ (x y : ByteArray), (part e #[.string x, .string y] ((0 + 1) * 1)).run P w = .ok (.string y) w := fun x y => by simp [part, h1]
  have hd : d + 2 = (d + 1) + 1 := rfl
  rw [hd]
  unfold Op.equalIn
  simp only [Sem.run_bind, run_underlying ht, Result.andThen_ok, h2]
  simp only [Std.Legacy.Range.forIn_eq_forIn_range', Std.Legacy.Range.size, Nat.sub_zero, Nat.add_sub_cancel, Nat.div_one, List.range'_succ, List.range'_zero, List.forIn_cons, List.forIn_nil, Sem.run_bind, hp0, hp1, h3, Result.andThen_ok]
  by_cases e1 : a.toList = c.toList <;> by_cases e2 : b.toList = f.toList <;> simp [e1, e2, hp0, hp1, h3]

theorem run_eqGuardIn_arr2 {t e : TypeId} (d : Nat) (ht : P.underlying t = some (.array 2 e)) (he : P.underlying e = some .string) (hz : szOf P e = some (1, false)) (a b c f : ByteArray) :
    (Op.eqGuardIn (d + 2) t (.agg #[.string a, .string b]) (.agg #[.string c, .string f])).run P w = .ok false w := by
  obtain ⟨h1, h2⟩ := run_isAgg0 (w := w) hz
  have h3 : ∀ x y : ByteArray, (Op.eqGuardIn (d + 1) e (.string x) (.string y)).run P w = .ok false w := fun x y => by
    unfold Op.eqGuardIn
    simp [run_underlying he]
  have hp0 : ∀ (x y : ByteArray), (part e #[.string x, .string y] (0 * 1)).run P w = .ok (.string x) w := fun x y => by simp [part, h1]
  have hp1 : ∀ (x y : ByteArray), (part e #[.string x, .string y] ((0 + 1) * 1)).run P w = .ok (.string y) w := fun x y => by simp [part, h1]
  have hd : d + 2 = (d + 1) + 1 := rfl
  rw [hd]
  unfold Op.eqGuardIn
  simp only [Sem.run_bind, run_underlying ht, Result.andThen_ok, h2]
  simp only [Std.Legacy.Range.forIn_eq_forIn_range', Std.Legacy.Range.size, Nat.sub_zero, Nat.add_sub_cancel, Nat.div_one, List.range'_succ, List.range'_zero, List.forIn_cons, List.forIn_nil, Sem.run_bind, hp0, hp1, h3, Result.andThen_ok]
  simp [hp0, hp1, h3]

theorem guard_arr2 {op : BinOp} {t e : TypeId} {x y : Operand} (ht : P.underlying t = some (.array 2 e)) (he : P.underlying e = some .string) (hz : szOf P e = some (1, false)) (a b c f : ByteArray) :
    (eqGuard op t x y (.agg #[.string a, .string b]) (.agg #[.string c, .string f])).run P w = .ok () w := by
  cases hg : P.eqGuardType P.depth t with
  | false => exact run_eqGuard_agg w op t x y _ _ hg
  | true =>
    have h1 := run_eqGuardIn_arr2 (w := w) 9998 ht he hz a b c f
    cases op <;> simp [eqGuard, run_program, hg, Op.maxDepth, h1]

theorem eqOf_ok {t : TypeId} {l : List (Nat × Nat)} (h : eqOf P t = some l) : ∃ fs, P.underlying t = some (.struct fs) ∧ P.stoodInHeld t = false ∧ eqF P fs.toList = some l := by
  unfold eqOf at h
  split at h
  · unfold eqOf0 at h
    split at h
    · rename_i fs hu
      split at h
      · rename_i hs
        exact ⟨fs, hu, hs, h⟩
      · cases h
    · cases h
  · cases h

theorem eqF_cons {f : Field} {r : List Field} {l : List (Nat × Nat)} (h : eqF P (f :: r) = some l) : f.name ≠ "_" ∧ szOf P f.type = some (1, false) ∧ ∃ l', eqF P r = some l' ∧
    ((∃ k, P.underlying f.type = some (.int k) ∧ l = (f.offset, 0) :: l') ∨ (P.underlying f.type = some .bool ∧ l = (f.offset, 1) :: l') ∨ (P.underlying f.type = some .string ∧ l = (f.offset, 2) :: l')) := by
  unfold eqF at h
  split at h <;> first | (cases h; done) | skip
  · rename_i h1 h2 h3 h4
    cases h
    exact ⟨by simpa using h1, h2, _, h4, .inl ⟨_, h3, rfl⟩⟩
  · rename_i h1 h2 h3 h4
    cases h
    exact ⟨by simpa using h1, h2, _, h4, .inr (.inl ⟨h3, rfl⟩)⟩
  · rename_i h1 h2 h3 h4
    cases h
    exact ⟨by simpa using h1, h2, _, h4, .inr (.inr ⟨h3, rfl⟩)⟩

theorem part_at {t : TypeId} {off : Nat} {xs : List D} {vs : Array Value} (hz : szOf P t = some (1, false)) (hn : vs.size = xs.length) (h : off < xs.length) : (part t vs off).run P w = .ok (vs.getD off undef) w := by
  obtain ⟨h1, h2⟩ := run_isAgg0 (w := w) hz
  have h3 : off < vs.size := by omega
  simp [part, h1, h3, Array.getD_eq_getD_getElem?]

theorem getD_lt_of {off : Nat} {xs : List D} (h : xs.getD off .any ≠ .any) : off < xs.length := by
  refine Nat.lt_of_not_le fun hle => h ?_
  simp [List.getD_eq_getElem?_getD, List.getElem?_eq_none hle]

theorem eqC_ok {t : TypeId} {c : Nat} {x y : D} {v u : Value} {b : Bool} (d : Nat) (hc : eqC c x y = some b) (hx : Rel S w r x v) (hy : Rel S w r y u)
    (ht : (c = 0 ∧ ∃ k, P.underlying t = some (.int k)) ∨ (c = 1 ∧ P.underlying t = some .bool) ∨ (c = 2 ∧ P.underlying t = some .string)) :
    (Op.equalIn (d + 1) t v u).run P w = .ok b w ∧ (Op.eqGuardIn (d + 1) t v u).run P w = .ok false w ∧ x ≠ .any ∧ y ≠ .any := by
  unfold eqC at hc
  split at hc
  · split at hc
    · rename_i hk
      cases hc
      cases hx
      cases hy
      have := kN_inj hk
      subst this
      rcases ht with ⟨_, k', ht⟩ | ⟨h, _⟩ | ⟨h, _⟩ <;> first | (cases h; done) | skip
      refine ⟨?_, ?_, by simp, by simp⟩
      · unfold Op.equalIn
        simp [run_underlying ht]
      · unfold Op.eqGuardIn
        simp [run_underlying ht]
    · cases hc
  · cases hc
    cases hx
    cases hy
    rcases ht with ⟨h, _⟩ | ⟨_, ht⟩ | ⟨h, _⟩ <;> first | (cases h; done) | skip
    refine ⟨?_, ?_, by simp, by simp⟩
    · unfold Op.equalIn
      simp [run_underlying ht]
    · unfold Op.eqGuardIn
      simp [run_underlying ht]
  · cases hc
    cases hx
    cases hy
    rcases ht with ⟨h, _⟩ | ⟨h, _⟩ | ⟨_, ht⟩ <;> first | (cases h; done) | skip
    refine ⟨(run_equalIn_string (P := P) w d t _ _ ht).trans ?_, ?_, by simp, by simp⟩
    · simp
    · unfold Op.eqGuardIn
      simp [run_underlying ht]
  · cases hc

theorem eqF_run (d : Nat) {xs ys : List D} {vs us : Array Value} (hn : vs.size = xs.length) (h : ∀ j, j < xs.length → Rel S w r (xs.getD j .any) (vs.getD j undef))
    (hn2 : us.size = ys.length) (h2 : ∀ j, j < ys.length → Rel S w r (ys.getD j .any) (us.getD j undef)) : ∀ (fs : List Field) (l : List (Nat × Nat)) (b : Bool), eqF P fs = some l → eqCs xs ys l = some b →
    (forIn fs ((none : Option Bool), ()) fun f _ =>
      if f.name ≠ "_" then do
        let x ← part f.type vs f.offset
        let y ← part f.type us f.offset
        let e ← Op.equalIn (d + 1) f.type x y
        if (!e) = true then pure (ForInStep.done (some false, ())) else pure (ForInStep.yield ((none : Option Bool), ()))
      else pure (ForInStep.yield ((none : Option Bool), ())) : Sem (Option Bool × Unit)).run P w = .ok (if b = true then none else some false, ()) w ∧
    (forIn fs ((none : Option Bool), ()) fun f _ =>
      if f.name ≠ "_" then do
        let x ← part f.type vs f.offset
        let y ← part f.type us f.offset
        let e ← Op.eqGuardIn (d + 1) f.type x y
        if e = true then pure (ForInStep.done (some true, ())) else pure (ForInStep.yield ((none : Option Bool), ()))
      else pure (ForInStep.yield ((none : Option Bool), ())) : Sem (Option Bool × Unit)).run P w = .ok (none, ()) w
  | [], l, b, hl, hb => by
    simp only [eqF] at hl
    cases hl
    simp only [eqCs] at hb
    cases hb
    exact ⟨rfl, rfl⟩
  | f :: fs, l, b, hl, hb => by
    obtain ⟨hname, hz, l', hl', hcase⟩ := eqF_cons hl
    rcases hcase with ⟨k, hu, rfl⟩ | ⟨hu, rfl⟩ | ⟨hu, rfl⟩
    all_goals
      simp only [eqCs] at hb
      split at hb <;> first | (cases hb; done) | skip
      rename_i b1 b2 hb1 hb2
      cases hb
      have ih := eqF_run d hn h hn2 h2 fs l' b2 hl' hb2
      have hlt : f.offset < xs.length := getD_lt_of fun e => by rw [e] at hb1; unfold eqC at hb1; split at hb1 <;> simp_all
      have hlt2 : f.offset < ys.length := getD_lt_of fun e => by rw [e] at hb1; unfold eqC at hb1; split at hb1 <;> simp_all
      have k := eqC_ok (t := f.type) d hb1 (h _ hlt) (h2 _ hlt2) (by first | exact .inl ⟨rfl, _, hu⟩ | exact .inr (.inl ⟨rfl, hu⟩) | exact .inr (.inr ⟨rfl, hu⟩))
      have p1 := part_at (w := w) hz hn hlt
      have p2 := part_at (w := w) hz hn2 hlt2
      simp only [List.forIn_cons, if_pos hname, Sem.run_bind, p1, p2, k.1, k.2.1, Result.andThen_ok]
      refine ⟨?_, ?_⟩
      · cases b1 with
        | true => simpa using ih.1
        | false => simp
      · simpa using ih.2

theorem eqS_sound {op : BinOp} {t : TypeId} {x y : Operand} {xs ys : List D} {vs us : Array Value} {s : Stp} (hs : eqS (tb P) op t xs ys = some s) (hn : vs.size = xs.length) (h : ∀ j, j < xs.length → Rel S w r (xs.getD j .any) (vs.getD j undef))
    (hn2 : us.size = ys.length) (h2 : ∀ j, j < ys.length → Rel S w r (ys.getD j .any) (us.getD j undef)) :
    ∃ v, (do eqGuard op t x y (.agg vs) (.agg us); binOp op t (.agg vs) (.agg us) : Sem Value).run P w = .ok v w ∧ Rel S w r s.d v ∧ s.wr = [] := by
  unfold eqS at hs
  split at hs
  · rename_i l hl
    obtain ⟨fs, hu, hst, hf⟩ := eqOf_ok (P := P) hl
    have key : ∀ b, eqCs xs ys l = some b → (Op.equalIn 10000 t (.agg vs) (.agg us)).run P w = .ok b w ∧ (Op.eqGuardIn 10000 t (.agg vs) (.agg us)).run P w = .ok false w := fun b hb => by
      have k := eqF_run (P := P) (w := w) (S := S) (r := r) 9998 hn h hn2 h2 fs.toList l b hf hb
      have e1 : (10000 : Nat) = 9999 + 1 := rfl
      refine ⟨?_, ?_⟩
      · rw [e1]
        unfold Op.equalIn
        have k1 := k.1
        simp only [Sem.run_bind, run_underlying hu, Result.andThen_ok, run_program, hst, ← Array.forIn_toList]
        simp only [Bool.false_eq_true, if_false, Sem.run_bind, k1, Result.andThen_ok]
        cases b <;> rfl
      · rw [e1]
        unfold Op.eqGuardIn
        have k1 := k.2
        simp only [Sem.run_bind, run_underlying hu, Result.andThen_ok, ← Array.forIn_toList, k1]
        rfl
    have guard : ∀ b, eqCs xs ys l = some b → (eqGuard op t x y (.agg vs) (.agg us)).run P w = .ok () w := fun b hb => by
      cases hg : P.eqGuardType P.depth t with
      | false => exact run_eqGuard_agg w op t x y _ _ hg
      | true =>
        have h1 := (key b hb).2
        cases op <;> simp [eqGuard, run_program, hg, Op.maxDepth, h1]
    split at hs <;> first | (cases hs; done) | skip
    · rename_i b hb
      cases hs
      refine ⟨.bool b, ?_, .b .., rfl⟩
      simp only [Sem.run_bind, guard b hb, Result.andThen_ok, run_eql_struct, (key b hb).1]
    · rename_i b hb
      cases hs
      refine ⟨.bool (!b), ?_, .b .., rfl⟩
      simp only [Sem.run_bind, guard b hb, Result.andThen_ok, run_neq_struct, (key b hb).1]
  · cases hs

theorem eqA_sound {op : BinOp} {t : TypeId} {x y : Operand} {xs ys : List D} {vs us : Array Value} {s : Stp} (hs : eqA (tb P) op t xs ys = some s) (hn : vs.size = xs.length) (h : ∀ j, j < xs.length → Rel S w r (xs.getD j .any) (vs.getD j undef))
    (hn2 : us.size = ys.length) (h2 : ∀ j, j < ys.length → Rel S w r (ys.getD j .any) (us.getD j undef)) :
    ∃ v, (do eqGuard op t x y (.agg vs) (.agg us); binOp op t (.agg vs) (.agg us) : Sem Value).run P w = .ok v w ∧ Rel S w r s.d v ∧ s.wr = [] := by
  unfold eqA at hs
  split at hs <;> first | (cases hs; done) | (exact eqS_sound hs hn h hn2 h2) | skip
  rename_i a b c d e ht
  have two : ∀ {vs : Array Value} {a b : List UInt8}, vs.size = [D.s a, D.s b].length → (∀ j, j < [D.s a, D.s b].length → Rel S w r ([D.s a, D.s b].getD j .any) (vs.getD j undef)) → vs = #[.string ⟨a.toArray⟩, .string ⟨b.toArray⟩] := by
    intro vs a b hn h
    have h0 := h 0 (by simp)
    have h1 := h 1 (by simp)
    simp only [List.length_cons, List.length_nil] at hn
    obtain ⟨l⟩ := vs
    match l, hn with
    | [u, v], _ =>
      simp only [List.getD_cons_zero, List.getD_cons_succ] at h0 h1
      have k0 : Rel S w r (.s a) u := h0
      have k1 : Rel S w r (.s b) v := h1
      cases k0
      cases k1
      rfl
  have e1 := two hn h
  have e2 := two hn2 h2
  subst e1 e2
  obtain ⟨hu, hz⟩ := tyOf_array ht
  split at hs <;> first | (cases hs; done) | skip
  · rename_i he
    cases hs
    refine ⟨.bool ((a == c) && (b == d)), ?_, .b .., rfl⟩
    have g := guard_arr2 (w := w) (op := .eql) (x := x) (y := y) hu (tyOf_str he) hz ⟨a.toArray⟩ ⟨b.toArray⟩ ⟨c.toArray⟩ ⟨d.toArray⟩
    simp only [Sem.run_bind, g, Result.andThen_ok, run_eql_struct, run_equalIn_arr2 9998 hu (tyOf_str he) hz]
    simp
  · rename_i he
    cases hs
    refine ⟨.bool (!((a == c) && (b == d))), ?_, .b .., rfl⟩
    have g := guard_arr2 (w := w) (op := .neq) (x := x) (y := y) hu (tyOf_str he) hz ⟨a.toArray⟩ ⟨b.toArray⟩ ⟨c.toArray⟩ ⟨d.toArray⟩
    simp only [Sem.run_bind, g, Result.andThen_ok, run_neq_struct, run_equalIn_arr2 9998 hu (tyOf_str he) hz]
    simp

theorem binD_sound {op : BinOp} {t : TypeId} {x y : Operand} {dx dy : D} {vx vy : Value} {s : Stp} (hs : binD (tb P) op t dx dy = some s) (hp : s.p)
    (hx : Rel S w r dx vx) (hy : Rel S w r dy vy) :
    ∃ v, (do eqGuard op t x y vx vy; binOp op t vx vy : Sem Value).run P w = .ok v w ∧ Rel S w r s.d v ∧ s.wr = [] := by
  cases hx with
  | i _ k a =>
    cases hy with
    | i _ k' b =>
      simp only [binD] at hs
      have e0 : (eqGuard op t x y (.int k a) (.int k' b)) = pure () := by cases op <;> rfl
      simp only [e0]
      cases hsh : isSh op with
      | true =>
        simp only [hsh] at hs
        exact shD_sound hsh hs hp
      | false =>
      simp only [hsh] at hs
      cases hk : Nat.beq (kN k) (kN k') with
      | false => simp only [hk] at hs; cases hs
      | true =>
        have := kN_inj hk
        subst this
        simp only [hk] at hs
        cases op <;> simp only [intD, cmpD, Stp.pure, Option.some.injEq] at hs
        case add =>
          obtain ⟨h1, h2⟩ := addK_sound (S := S) (w := w) (r := r) hs hp
          exact ⟨_, by simp [binOp_add, Op.intArith], h1, h2⟩
        case sub =>
          obtain ⟨h1, h2⟩ := addK_sound (S := S) (w := w) (r := r) hs hp
          exact ⟨_, by simp [binOp_sub, Op.intArith], h1, h2⟩
        case mul =>
          obtain ⟨h1, h2⟩ := addK_sound (S := S) (w := w) (r := r) hs hp
          exact ⟨_, by simp [binOp_mul, Op.intArith], h1, h2⟩
        case quo =>
          subst hs
          obtain ⟨h1, h2, h4⟩ := hp
          have hne : b ≠ 0 := by omega
          refine ⟨.int k (k.wrap (a.tdiv b)), by simp [binOp_quo, Op.intDiv, hne], ?_, rfl⟩
          refine rel_int ?_
          rw [Int.tdiv_eq_ediv_of_nonneg h1]
          exact h4.symm
        case rem =>
          subst hs
          obtain ⟨h1, h2⟩ := hp
          have hne : b ≠ 0 := by omega
          refine ⟨.int k (a.tmod b), by simp [binOp_rem, Op.intDiv, hne], ?_, rfl⟩
          refine rel_int ?_
          rw [Int.tmod_eq_emod_of_nonneg h1]
        case and => subst hs; exact ⟨_, by simp [binOp_and, intBits_and], .i .., rfl⟩
        case or => subst hs; exact ⟨_, by simp [binOp_or, intBits_or], .i .., rfl⟩
        case xor => subst hs; exact ⟨_, by simp [binOp_xor, intBits_xor], .i .., rfl⟩
        case andNot => subst hs; exact ⟨_, by simp [binOp_andNot, intBits_andNot], .i .., rfl⟩
        case eql => subst hs; exact ⟨_, by simp [binOp_eql], .b .., rfl⟩
        case neq => subst hs; exact ⟨_, by simp [binOp_neq], .b .., rfl⟩
        case lss => subst hs; exact ⟨_, by simp [binOp_lss], .b .., rfl⟩
        case leq => subst hs; exact ⟨_, by simp [binOp_leq], .b .., rfl⟩
        case gtr => subst hs; exact ⟨_, by simp [binOp_gtr], .b .., rfl⟩
        case geq => subst hs; exact ⟨_, by simp [binOp_geq], .b .., rfl⟩
        all_goals cases hs
    | _ => simp only [binD] at hs; cases hs
  | s _ a =>
    cases hy with
    | s _ b =>
      simp only [binD] at hs
      have e0 : (eqGuard op t x y (.string ⟨a.toArray⟩) (.string ⟨b.toArray⟩)) = pure () := by cases op <;> rfl
      simp only [e0]
      cases op <;> simp only [strD, Stp.pure, Option.some.injEq] at hs
      case add =>
        subst hs
        have hl : ¬ (((ByteArray.mk a.toArray).size + (ByteArray.mk b.toArray).size : Nat) : Int) > IntKind.i64.max := by
          have h1 : (ByteArray.mk a.toArray).size = a.length := by simp [ByteArray.size]
          have h2 : (ByteArray.mk b.toArray).size = b.length := by simp [ByteArray.size]
          have h3 : a.length + b.length ≤ maxLen := hp
          unfold maxLen at h3
          rw [h1, h2, IntKind.max_i64]
          omega
        refine ⟨.string (⟨a.toArray⟩ ++ ⟨b.toArray⟩), ?_, ?_, rfl⟩
        · simp only [Sem.run_bind, Sem.run_pure, Result.andThen_ok, binOp, Op.stringOp]
          rw [if_neg hl]
          rfl
        · have : (ByteArray.mk a.toArray ++ ByteArray.mk b.toArray) = ByteArray.mk (a ++ b).toArray := by
            apply ByteArray.ext
            simp
          rw [this]
          exact .s ..
      case eql => subst hs; exact ⟨_, by simp [binOp, Op.stringOp], .b .., rfl⟩
      case neq => subst hs; exact ⟨_, by simp [binOp, Op.stringOp], .b .., rfl⟩
      case lss => subst hs; exact ⟨_, by simp [binOp, Op.stringOp], .b .., rfl⟩
      case leq => subst hs; exact ⟨_, by simp [binOp, Op.stringOp], .b .., rfl⟩
      case gtr => subst hs; exact ⟨_, by simp [binOp, Op.stringOp], .b .., rfl⟩
      case geq => subst hs; exact ⟨_, by simp [binOp, Op.stringOp], .b .., rfl⟩
      all_goals cases hs
    | _ => simp only [binD] at hs; cases hs
  | b _ a =>
    cases hy with
    | b _ b =>
      simp only [binD] at hs
      have e0 : (eqGuard op t x y (.bool a) (.bool b)) = pure () := by cases op <;> rfl
      simp only [e0]
      cases ht : (tb P).ty t <;> simp only [ht] at hs
      case bool =>
        have hu := tyOf_bool ht
        cases op <;> simp only [Stp.pure, Option.some.injEq] at hs
        case eql =>
          subst hs
          refine ⟨.bool (a == b), ?_, .b .., rfl⟩
          simp only [Sem.run_bind, Sem.run_pure, Result.andThen_ok]
          exact run_eql_bool w t a b hu
        case neq =>
          subst hs
          refine ⟨.bool (!(a == b)), ?_, .b .., rfl⟩
          simp only [Sem.run_bind, Sem.run_pure, Result.andThen_ok]
          exact run_neq_bool w t a b hu
        all_goals cases hs
      all_goals cases op <;> cases hs
    | _ => simp only [binD] at hs; cases hs
  | nilS =>
    cases hy with
    | nilS =>
      simp only [binD] at hs
      obtain ⟨h1, h2⟩ := eqN_sound hs hp
      exact ⟨_, h1 none 0 0 (.inl ⟨rfl, rfl⟩), h2⟩
    | _ => simp only [binD] at hs; cases hs
  | se _ z b a cap hm hb =>
    cases hy with
    | nilS =>
      simp only [binD] at hs
      obtain ⟨h1, h2⟩ := eqN_sound hs hp
      refine ⟨_, h1 a 0 cap ?_, h2⟩
      subst hb
      cases a
      · exact .inl ⟨rfl, rfl⟩
      · exact .inr ⟨rfl, rfl⟩
    | _ => simp only [binD] at hs; cases hs
  | sl _ z n f a cap c hc hm hl hcell hr =>
    cases hy with
    | nilS =>
      simp only [binD] at hs
      obtain ⟨h1, h2⟩ := eqN_sound hs hp
      have h3 : 0 < z ∧ 0 < n := by
        unfold eqN at hs
        split at hs <;> first | (cases hs; done) | (cases hs; exact hp)
      obtain ⟨b, o, ha, _⟩ := hcell 0 0 h3.2 h3.1
      subst ha
      exact ⟨_, h1 (some _) n cap (.inr ⟨rfl, rfl⟩), h2⟩
    | _ => simp only [binD] at hs; cases hs
  | ag _ xs vs hn h =>
    cases hy with
    | ag _ ys us hn2 h2 =>
      simp only [binD] at hs
      exact eqA_sound hs hn h hn2 h2
    | _ => simp only [binD] at hs; cases hs
  | any => simp only [binD] at hs; cases hs
  | v => simp only [binD] at hs; cases hs
  | fn => simp only [binD] at hs; cases hs
  | tu => simp only [binD] at hs; cases hs
  | rf => simp only [binD] at hs; cases hs
  | rn => simp only [binD] at hs; cases hs
  | mh => simp only [binD] at hs; cases hs
  | pv => simp only [binD] at hs; cases hs
  | gs => simp only [binD] at hs; cases hs
  | ah => simp only [binD] at hs; cases hs
  | ap => simp only [binD] at hs; cases hs
  | e0 => simp only [binD] at hs; cases hs

end
end Go.Proofs.YtghdgjabpdfaoaaDoor.Flow

/-
  FLOW, PART D: MORE OPERATIONS: lengths, indexes, parts, addresses, loads.
-/
namespace Go.Proofs.YtghdgjabpdfaoaaDoor.Flow

section
variable {P : Program} {S : Cells} {w : World} {r : Rho}

theorem run_isAgg {t : TypeId} {z : Nat × Bool} (h : szOf P t = some z) : (isAgg t).run P w = .ok z.2 w := by
  obtain ⟨i, d, h1, h2, h3, h4⟩ := szOf_spec h
  unfold isAgg
  cases d <;> simp_all [run_underlying h2]

theorem run_sizeOf {t : TypeId} {z : Nat × Bool} (h : szOf P t = some z) : (sizeOf t).run P w = .ok z.1 w := by
  obtain ⟨i, d, h1, h2, h3, h4⟩ := szOf_spec h
  simp [sizeOf, typeInfo, h1, h3]

theorem rel_getD {cs : List D} {vs : Array Value} {j : Nat} (hn : vs.size = cs.length) (h : ∀ j, j < cs.length → Rel S w r (cs.getD j .any) (vs.getD j undef)) (hj : j < cs.length) :
    ∃ v, vs[j]? = some v ∧ Rel S w r (cs.getD j .any) v := by
  have hj' : j < vs.size := by omega
  refine ⟨vs[j], by simp [hj'], ?_⟩
  have := h j hj
  simpa [Array.getD_eq_getD_getElem?, hj'] using this

/-- Some of the cells, as a value. -/
theorem rel_part {cs : List D} {z : Nat × Bool} {off : Nat} {c : Nat → Value} (hp : partP z cs off) (h : ∀ j, j < cs.length → Rel S w r (cs.getD j .any) (c j)) :
    (z.2 = true → Rel S w r (partD z cs off) (.agg ((List.range z.1).map fun j => c (off + j)).toArray)) ∧ (z.2 = false → Rel S w r (partD z cs off) (c off)) := by
  obtain ⟨n, g⟩ := z
  constructor
  · intro hg
    simp only at hg
    subst hg
    simp only [partP, partD] at hp ⊢
    refine .ag _ _ _ (by simp; omega) (fun j hj => ?_)
    simp only [List.length_take, List.length_drop] at hj
    have h1 := h (off + j) (by omega)
    have h2 : ((cs.drop off).take n).getD j .any = cs.getD (off + j) .any := by
      simp only [List.getD_eq_getElem?_getD]
      rw [List.getElem?_take_of_lt (by omega), List.getElem?_drop]
    have h3 : (((List.range n).map fun j => c (off + j)).toArray).getD j undef = c (off + j) := by
      simp [Array.getD_eq_getD_getElem?, show j < n by omega]
    rw [h2, h3]
    exact h1
  · intro hg
    simp only at hg
    subst hg
    simp only [partP, partD] at hp ⊢
    exact h off (by omega)

/-- A load from cells whose data are known. -/
theorem run_load_part {t : TypeId} {z : Nat × Bool} {cs : List D} {off b o : Nat} {c : Nat → Value} (hz : szOf P t = some z) (hp : partP z cs off)
    (hcell : ∀ j, j < cs.length → w.cell? ⟨b, o + j, none⟩ = some (c j)) (h : ∀ j, j < cs.length → Rel S w r (cs.getD j .any) (c j)) :
    ∃ v, (Instr.loadAt t (.pointer (some ⟨b, o + off, none⟩))).run P w = .ok v w ∧ Rel S w r (partD z cs off) v := by
  obtain ⟨h1, h2⟩ := rel_part hp h
  have ha := run_isAgg (w := w) hz
  have hs := run_sizeOf (w := w) hz
  simp only [Instr.loadAt, Instr.sureAddr, loadVar, Sem.run_bind, Sem.run_pure, Result.andThen_ok, ha]
  cases hg : z.2 with
  | true =>
    simp only [partP, hg] at hp
    refine ⟨_, ?_, h1 hg⟩
    have hl := run_loadCells (P := P) w ⟨b, o + off, none⟩ z.1 (fun j => c (off + j)) (fun j hj => by
      rw [Addr.add_lit, Nat.add_assoc]
      exact hcell (off + j) (by omega))
    simp [hs, hl]
  | false =>
    simp only [partP, hg] at hp
    refine ⟨_, ?_, h2 hg⟩
    simp [run_load, hcell off (by omega)]

theorem tabD_len (k : IntKind) (f : Nat → Int) : ∀ (m off : Nat), (tabD k f off m).length = m
  | 0, _ => rfl
  | m + 1, off => by simp [tabD, tabD_len k f m (off + 1)]
theorem tabD_get (k : IntKind) (f : Nat → Int) : ∀ (m off j : Nat), j < m → (tabD k f off m).getD j .any = .i k (f (off + j))
  | m + 1, off, 0, _ => rfl
  | m + 1, off, j + 1, h => by
    have := tabD_get k f m (off + 1) j (by omega)
    simp only [tabD, List.getD_cons_succ, this]
    congr 2
    omega

/-- A load out of a table. -/
theorem run_load_tab {t : TypeId} {z : Nat × Bool} {k : IntKind} {len off b : Nat} {f : Nat → Int} (hz : szOf P t = some z) (h : ∀ j, j < len → w.cell? ⟨b, j, none⟩ = some (.int k (f j))) :
    (z.2 = true → off + z.1 ≤ len → ∃ v, (Instr.loadAt t (.pointer (some ⟨b, off, none⟩))).run P w = .ok v w ∧ Rel S w r (.ag (tabD k f off z.1)) v) ∧
    (z.2 = false → off < len → ∃ v, (Instr.loadAt t (.pointer (some ⟨b, off, none⟩))).run P w = .ok v w ∧ Rel S w r (.i k (f off)) v) := by
  have ha := run_isAgg (w := w) hz
  have hs := run_sizeOf (w := w) hz
  simp only [Instr.loadAt, Instr.sureAddr, loadVar, Sem.run_bind, Sem.run_pure, Result.andThen_ok, ha]
  constructor
  · intro hg ho
    have hl := run_loadCells (P := P) w ⟨b, off, none⟩ z.1 (fun j => .int k (f (off + j))) (fun j hj => by
      rw [Addr.add_lit]
      exact h (off + j) (by omega))
    refine ⟨.agg ((List.range z.1).map fun j => Value.int k (f (off + j))).toArray, by simp [hg, hs, hl], ?_⟩
    refine .ag _ _ _ (by simp [tabD_len]) (fun j hj => ?_)
    rw [tabD_len] at hj
    rw [tabD_get k f _ _ j hj]
    have e : (((List.range z.1).map fun j => Value.int k (f (off + j))).toArray).getD j undef = .int k (f (off + j)) := by
      simp [Array.getD_eq_getD_getElem?, hj]
    rw [e]
    exact .i ..
  · intro hg ho
    exact ⟨.int k (f off), by simp [hg, run_load, h off ho], .i ..⟩

theorem run_part {t : TypeId} {z : Nat × Bool} {cs : List D} {off : Nat} {vs : Array Value} (hz : szOf P t = some z) (hp : partP z cs off) (hn : vs.size = cs.length)
    (h : ∀ j, j < cs.length → Rel S w r (cs.getD j .any) (vs.getD j undef)) : ∃ v, (part t vs off).run P w = .ok v w ∧ Rel S w r (partD z cs off) v := by
  obtain ⟨h1, h2⟩ := rel_part (c := fun j => vs.getD j undef) hp h
  have ha := run_isAgg (w := w) hz
  have hs := run_sizeOf (w := w) hz
  simp only [part, Sem.run_bind, Result.andThen_ok, ha]
  cases hg : z.2 with
  | true =>
    simp only [partP, hg] at hp
    have e : vs.extract off (off + z.1) = ((List.range z.1).map fun j => vs.getD (off + j) undef).toArray := by
      apply Array.ext
      · simp; omega
      · intro j hj1 hj2
        simp only [Array.size_extract] at hj1
        simp [Array.getD_eq_getD_getElem?, show off + j < vs.size by omega]
    refine ⟨_, ?_, h1 hg⟩
    simp [hs, e]
  | false =>
    simp only [partP, hg] at hp
    have hlt : off < vs.size := by omega
    refine ⟨_, ?_, h2 hg⟩
    simp [hlt, Array.getD_eq_getD_getElem?]

theorem lenD_sound {t ty : TypeId} {dx : D} {vx : Value} {s : Stp} (hs : lenD (tb P) t dx = some s) (hx : Rel S w r dx vx) :
    ∃ v, (Builtin.len_ #[t] ty #[vx]).run P w = .ok v w ∧ Rel S w r s.d v ∧ s.wr = [] := by
  unfold lenD at hs
  split at hs <;> first | (cases hs; done) | skip
  · rename_i l ht
    cases hx
    cases hs
    refine ⟨_, run_len_string w t ty _ (tyOf_str ht), ?_, rfl⟩
    exact rel_int (by simp [ByteArray.size])
  · rename_i ht
    cases hx
    cases hs
    refine ⟨.int .i64 0, by simp [Builtin.len_, run_underlying (tyOf_slice ht).1, goInt], ?_, rfl⟩
    exact rel_int rfl
  · rename_i ht
    cases hx
    cases hs
    exact ⟨.int .i64 _, by simp [Builtin.len_, run_underlying (tyOf_slice ht).1, goInt], rel_int rfl, rfl⟩
  · rename_i ht
    cases hx with
    | gs _ _ _ _ _ _ _ _ hx =>
      cases hx
      cases hs
      exact ⟨.int .i64 _, by simp [Builtin.len_, run_underlying (tyOf_slice ht).1, goInt], rel_int rfl, rfl⟩
  · rename_i ht
    cases hx
    cases hs
    exact ⟨.int .i64 _, by simp [Builtin.len_, run_underlying (tyOf_slice ht).1, goInt], rel_int rfl, rfl⟩
  · rename_i ht
    cases hx
    cases hs
    exact ⟨.int .i64 0, by simp [Builtin.len_, run_underlying (tyOf_slice ht).1, goInt], rel_int rfl, rfl⟩
  · rename_i ht
    cases hx
    cases hs
    exact ⟨.int .i64 0, by simp [Builtin.len_, run_underlying (tyOf_slice ht).1, goInt], rel_int rfl, rfl⟩

theorem idxD_sound {t : TypeId} {dx di : D} {vx vi : Value} {s : Stp} (hs : idxD (tb P) t dx di = some s) (hp : s.p) (hx : Rel S w r dx vx) (hi : Rel S w r di vi) :
    ∃ v, (Instr.index t vx vi).run P w = .ok v w ∧ Rel S w r s.d v ∧ s.wr = [] := by
  unfold idxD at hs
  try simp only [fz_eq] at hs
  split at hs <;> first | (cases hs; done) | skip
  · rename_i l k n ht
    cases hx
    cases hi
    cases hs
    obtain ⟨h1, h2⟩ := hp
    have hlt : n.toNat < l.length := by omega
    refine ⟨.int .u8 ((l.getD n.toNat 0).toNat : Int), ?_, .i .., rfl⟩
    have hg : (ByteArray.mk l.toArray)[n.toNat]? = some (l.getD n.toNat 0) := by
      have hsz : n.toNat < (ByteArray.mk l.toArray).size := by simpa [ByteArray.size] using hlt
      rw [ByteArray.getElem?_lt' _ _ hsz]
      simp only [Option.some.injEq]
      show (l.toArray)[n.toNat]'(by simpa using hlt) = _
      simp [List.getD_eq_getElem?_getD, hlt]
    simp [Instr.index, asIntOf, run_underlying (tyOf_str ht), h1, hg]
  · rename_i cs k n m e z g ht
    cases hi
    cases hs
    obtain ⟨h1, h2, h3⟩ := hp
    obtain ⟨hu, hz⟩ := tyOf_array ht
    cases hx with
    | ag _ _ vs hn h =>
      obtain ⟨v, hv, hr⟩ := run_part (P := P) (t := e) hz h3 hn h
      refine ⟨v, ?_, hr, rfl⟩
      simp [Instr.index, asIntOf, run_underlying hu, h1, h2, run_sizeOf (w := w) hz, hv]

theorem rf_add (S : Cells) (w : World) (r : Rho) {cs : List D} {off : Nat} {v : Value} (h : Rel S w r (.rf cs off) v) (m : Nat) :
    ∃ a, v = .pointer (some a) ∧ Rel S w r (.rf cs (off + m)) (.pointer (some (a.add m))) := by
  cases h with
  | rf _ _ _ b o c hp hcell hr =>
    refine ⟨_, rfl, ?_⟩
    rw [Addr.add_lit, Nat.add_assoc]
    exact .rf _ cs (off + m) b o c hp hcell hr

theorem pv_add (S : Cells) (w : World) (r : Rho) {k off : Nat} {v : Value} (h : Rel S w r (.pv k off) v) (m : Nat) :
    ∃ a, v = .pointer (some a) ∧ Rel S w r (.pv k (off + m)) (.pointer (some (a.add m))) := by
  cases h with
  | pv _ _ _ b h =>
    refine ⟨_, rfl, ?_⟩
    rw [Addr.add_lit]
    exact .pv _ k (off + m) b h

theorem ap_add (S : Cells) (w : World) (r : Rho) {k e len i off : Nat} {v : Value} (h : Rel S w r (.ap k e len i off) v) (m : Nat) :
    ∃ a, v = .pointer (some a) ∧ Rel S w r (.ap k e len i (off + m)) (.pointer (some (a.add m))) := by
  cases h with
  | ap _ _ _ _ _ _ a tv L hk hL ht ha =>
    obtain ⟨g, o, rfl⟩ := ha
    refine ⟨_, rfl, ?_⟩
    rw [Addr.add_lit]
    refine .ap _ k e len i (off + m) _ tv L hk hL (fun h => ?_) ⟨g, _, rfl⟩
    obtain ⟨g', cap, h1, h2⟩ := ht h
    simp only [Addr.mk.injEq, and_true] at h2
    exact ⟨g', cap, h1, by rw [h2.1, h2.2, Nat.add_assoc]⟩

theorem rn_add (S : Cells) (w : World) (r : Rho) {k : IntKind} {len off : Nat} {f : Nat → Int} {v : Value} (h : Rel S w r (.rn k len f off) v) (m : Nat) :
    ∃ a, v = .pointer (some a) ∧ Rel S w r (.rn k len f (off + m)) (.pointer (some (a.add m))) := by
  cases h with
  | rn _ _ _ _ _ b h =>
    refine ⟨_, rfl, ?_⟩
    rw [Addr.add_lit]
    exact .rn _ k len f (off + m) b h

theorem sl_at {esz len : Nat} {f : Nat → List D} {v : Value} (h : Rel S w r (.sl esz len f) v) {i : Nat} (hi : i < len) :
    ∃ a cap, v = .slice a len cap ∧ (0 < esz → ∃ ad, a = some ad ∧ Rel S w r (.rf (f i) 0) (.pointer (some (ad.add (i * esz))))) := by
  cases h with
  | sl _ _ _ _ a cap c hc hm hl hcell hr =>
    refine ⟨a, cap, rfl, fun hz => ?_⟩
    obtain ⟨b, o, ha, _, _⟩ := hcell i 0 hi hz
    obtain ⟨hl1, hl2⟩ := hl i hi
    refine ⟨_, ha, ?_⟩
    rw [Addr.add_lit]
    have := Rel.rf (S := S) (w := w) r (f i) 0 b (o + i * esz) (fun j => c i j) hl2 (fun j hj => ?_) (fun j hj => hr i j hi (by omega))
    · simpa using this
    · obtain ⟨b', o', ha', hs', hc'⟩ := hcell i j hi (by omega)
      rw [ha] at ha'
      cases ha'
      exact ⟨hs', hc'⟩

theorem idxAddrD_sound {t : TypeId} {dx di : D} {vx vi : Value} {s : Stp} (hs : idxAddrD (tb P) t dx di = some s) (hp : s.p) (hx : Rel S w r dx vx) (hi : Rel S w r di vi) :
    ∃ v, (Instr.indexAt t vx vi).run P w = .ok v w ∧ Rel S w r s.d v ∧ s.wr = [] := by
  unfold idxAddrD at hs
  split at hs <;> first | (cases hs; done) | skip
  · rename_i e z g b e' len f k n ht
    cases hi
    cases hs
    obtain ⟨h1, h2, rfl, h4⟩ := hp
    obtain ⟨hu, hz, _⟩ := tyOf_slice ht
    obtain ⟨a, cap, rfl, hr⟩ := sl_at hx (i := n.toNat) (by omega)
    obtain ⟨ad, rfl, hr2⟩ := hr h4
    clear hr
    exact ⟨.pointer (some (ad.add (n.toNat * e'))), by simp [Instr.indexAt, asIntOf, run_underlying hu, h1, h2, run_sizeOf (w := w) hz], hr2, rfl⟩
  · rename_i e z g b k' e' len f k n ht
    cases hi
    cases hs
    obtain ⟨h1, h2, rfl, h4⟩ := hp
    obtain ⟨hu, hz, _⟩ := tyOf_slice ht
    obtain ⟨a, cap, rfl, hr⟩ := sl_at hx.shut (i := n.toNat) (by omega)
    obtain ⟨ad, rfl, hr2⟩ := hr h4
    clear hr
    exact ⟨.pointer (some (ad.add (n.toNat * e'))), by simp [Instr.indexAt, asIntOf, run_underlying hu, h1, h2, run_sizeOf (w := w) hz], hr2, rfl⟩
  · rename_i e z g b k' e' len k n ht
    cases hi
    cases hs
    obtain ⟨h1, h2, rfl⟩ := hp
    obtain ⟨hu, hz, _⟩ := tyOf_slice ht
    cases hx with
    | ah _ _ _ _ cap a tv L hk hL hta ha =>
      obtain ⟨g, rfl⟩ := ha (by omega)
      refine ⟨.pointer (some ((⟨g, 0, none⟩ : Addr).add (n.toNat * e'))), by simp [Instr.indexAt, asIntOf, run_underlying hu, h1, h2, run_sizeOf (w := w) hz], ?_, rfl⟩
      rw [Addr.add_lit, Nat.zero_add]
      refine .ap _ k' e' len n.toNat 0 _ tv L hk hL (fun h => ?_) ⟨g, _, rfl⟩
      rcases hta h with h | ⟨_, a2, h⟩
      · exact ⟨g, cap, h.symm, by rw [Nat.add_zero]⟩
      · cases h; omega
  · rename_i m e z g k' e' len i off k n ht
    cases hi
    cases hs
    obtain ⟨h1, h2⟩ := hp
    obtain ⟨hu, hz⟩ := tyOf_array ht
    obtain ⟨a, rfl, hr⟩ := ap_add S w r hx (n.toNat * z)
    exact ⟨_, by simp [Instr.indexAt, asIntOf, Instr.sureAddr, run_underlying hu, h1, h2, run_sizeOf (w := w) hz], hr, rfl⟩
  · rename_i m e z g k' len f off k n ht
    cases hi
    cases hs
    obtain ⟨h1, h2⟩ := hp
    obtain ⟨hu, hz⟩ := tyOf_array ht
    obtain ⟨a, rfl, hr⟩ := rn_add S w r hx (n.toNat * z)
    exact ⟨_, by simp [Instr.indexAt, asIntOf, Instr.sureAddr, run_underlying hu, h1, h2, run_sizeOf (w := w) hz], hr, rfl⟩
  · rename_i m e z g cs off k n ht
    cases hi
    cases hs
    obtain ⟨h1, h2⟩ := hp
    obtain ⟨hu, hz⟩ := tyOf_array ht
    obtain ⟨a, rfl, hr⟩ := rf_add S w r hx (n.toNat * z)
    exact ⟨_, by simp [Instr.indexAt, asIntOf, Instr.sureAddr, run_underlying hu, h1, h2, run_sizeOf (w := w) hz], hr, rfl⟩
  · rename_i m e z g k' off k n ht
    cases hi
    cases hs
    obtain ⟨h1, h2⟩ := hp
    obtain ⟨hu, hz⟩ := tyOf_array ht
    obtain ⟨a, rfl, hr⟩ := pv_add S w r hx (n.toNat * z)
    exact ⟨_, by simp [Instr.indexAt, asIntOf, Instr.sureAddr, run_underlying hu, h1, h2, run_sizeOf (w := w) hz], hr, rfl⟩

/-- A field of a struct type, as the tables have it. -/
theorem field_at {t : TypeId} {fs : List (Nat × Nat × Bool)} {j off : Nat} {z : Nat × Bool} (ht : tyOf P t = .struct fs) (hj : fs[j]? = some (off, z)) (hz : z.1 ≠ 0) :
    ∃ gs f, P.underlying t = some (.struct gs) ∧ gs[j]? = some f ∧ f.offset = off ∧ szOf P f.type = some z := by
  obtain ⟨gs, hu, he⟩ := tyOf_struct ht
  subst he
  simp only [List.getElem?_map, Option.map_eq_some_iff, Array.getElem?_toList] at hj
  obtain ⟨f, hf, he⟩ := hj
  simp only [Prod.mk.injEq] at he
  obtain ⟨rfl, he⟩ := he
  refine ⟨gs, f, hu, hf, rfl, ?_⟩
  cases hs : szOf P f.type with
  | none => rw [hs] at he; subst he; exact absurd rfl hz
  | some y => rw [hs] at he; simp only at he; rw [← he]

theorem run_fieldPlace {f : Field} {z : Nat × Bool} {a : Addr} (hz : szOf P f.type = some z) (h0 : z.1 ≠ 0) : (fieldPlace a f).run P w = .ok (a.add f.offset) w := by
  simp [fieldPlace, run_sizeOf (w := w) hz, h0]

theorem fieldAddrD_sound {t : TypeId} {j : Nat} {dx : D} {vx : Value} {s : Stp} (hs : fieldAddrD (tb P) t dx j = some s) (hx : Rel S w r dx vx) :
    ∃ v, (Instr.fieldAt t vx j).run P w = .ok v w ∧ Rel S w r s.d v ∧ s.wr = [] := by
  unfold fieldAddrD at hs
  split at hs <;> first | (cases hs; done) | skip
  rename_i fs ht
  split at hs <;> first | (cases hs; done) | skip
  rename_i off z g hj
  split at hs <;> first | (cases hs; done) | skip
  rename_i z
  obtain ⟨gs, f, hu, hf, ho, hz⟩ := field_at ht hj (by simp)
  split at hs <;> first | (cases hs; done) | skip
  · cases hs
    obtain ⟨a, rfl, hr⟩ := rf_add S w r hx off
    refine ⟨_, ?_, hr, rfl⟩
    simp [Instr.fieldAt, run_underlying hu, hf, Instr.sureAddr, run_fieldPlace (w := w) (a := a) hz (by simp), ho]
  · cases hs
    obtain ⟨a, rfl, hr⟩ := pv_add S w r hx off
    refine ⟨_, ?_, hr, rfl⟩
    simp [Instr.fieldAt, run_underlying hu, hf, Instr.sureAddr, run_fieldPlace (w := w) (a := a) hz (by simp), ho]
  · cases hs
    obtain ⟨a, rfl, hr⟩ := ap_add S w r hx off
    refine ⟨_, ?_, hr, rfl⟩
    simp [Instr.fieldAt, run_underlying hu, hf, Instr.sureAddr, run_fieldPlace (w := w) (a := a) hz (by simp), ho]
  · cases hs
    obtain ⟨a, rfl, hr⟩ := rn_add S w r hx off
    refine ⟨_, ?_, hr, rfl⟩
    simp [Instr.fieldAt, run_underlying hu, hf, Instr.sureAddr, run_fieldPlace (w := w) (a := a) hz (by simp), ho]

theorem fieldD_sound {t : TypeId} {j : Nat} {dx : D} {vx : Value} {s : Stp} (hs : fieldD (tb P) t dx j = some s) (hp : s.p) (hx : Rel S w r dx vx) :
    ∃ v, (Instr.field t vx j).run P w = .ok v w ∧ Rel S w r s.d v ∧ s.wr = [] := by
  unfold fieldD at hs
  try simp only [fz_eq] at hs
  split at hs <;> first | (cases hs; done) | skip
  rename_i fs ht
  split at hs <;> first | (cases hs; done) | skip
  rename_i off z cs hj
  split at hs <;> first | (cases hs; done) | skip
  rename_i h0
  obtain ⟨gs, f, hu, hf, ho, hz⟩ := field_at ht hj (by omega)
  cases hs
  cases hx with
  | ag _ _ vs hn h =>
    obtain ⟨v, hv, hr⟩ := run_part (P := P) (t := f.type) hz hp hn h
    refine ⟨v, ?_, hr, rfl⟩
    simp [Instr.field, run_underlying hu, hf, asAgg, ho, hv]

end
end Go.Proofs.YtghdgjabpdfaoaaDoor.Flow

/-
  FLOW, PART E: OPERATIONS THAT MAKE OR WRITE MEMORY OF THE CALL'S OWN.
-/
namespace Go.Proofs.YtghdgjabpdfaoaaDoor.Flow

/-- From w to w' at most block g was written (cells in S were not), and blocks were made. -/
structure Chg (w w' : World) (S : Cells) (g : Option Nat) : Prop where
  os : w'.os = w.os
  tape : w'.tape = w.tape
  output : w'.output = w.output
  size : w.heap.size ≤ w'.heap.size
  block : ∀ k, k < w.heap.size → some k ≠ g → w'.heap[k]? = w.heap[k]?
  cell : ∀ b o, S b o → w'.cell? ⟨b, o, none⟩ = w.cell? ⟨b, o, none⟩

section
variable {X : Ctx} {w w' : World} {S S' : Cells} {r r' : Rho} {O : Nat → Option Own} {g : Option Nat}

theorem Hist.chg (h : Hist X w S) (c : Chg w w' S g) (hg : ∀ b, g = some b → X.w0.heap.size ≤ b ∨ X.L b) (hS : ∀ b o, S b o → S' b o)
    (hn : ∀ b o, S' b o → S b o ∨ ((X.w0.heap.size ≤ b ∨ X.L b) ∧ b < w'.heap.size)) : Hist X w' S' where
  os := c.os.trans h.os
  tape := c.tape.trans h.tape
  output := c.output.trans h.output
  size := Nat.le_trans h.size c.size
  block := fun k hk hl => (c.block k (Nat.lt_of_lt_of_le hk h.size) (fun e => by
    rcases hg k e.symm with h1 | h1
    · omega
    · exact hl h1)).trans (h.block k hk hl)
  sub := fun b o hb => hS _ _ (h.sub b o hb)
  cell := fun b o hb => (c.cell b o (h.sub b o hb)).trans (h.cell b o hb)
  new := fun b o hb => by
    rcases hn b o hb with h1 | ⟨h1 | h1, _⟩
    · exact h.new b o h1
    · exact .inr (.inl h1)
    · exact .inr (.inr h1)
  valid := fun b o hb => by
    rcases hn b o hb with h1 | h1
    · exact Nat.lt_of_lt_of_le (h.valid b o h1) c.size
    · exact h1.2
  glob := h.glob.mono hS c.cell

theorem ObjOk.blockLt {k : Nat} {o : Own} (h : ObjOk S w r k o) {l : Loc} {b : Nat} (hl : r k = some l) (hb : l.block = some b) : b < w.heap.size := by
  cases o with
  | var cs =>
    obtain ⟨b', cur, e, h1, h2, _⟩ := h
    rw [h1] at hl
    cases hl
    simp only [Loc.block, Option.some.injEq] at hb
    subst hb
    exact (Array.getElem?_eq_some_iff.1 h2).1
  | row e esz len =>
    obtain ⟨tv, h1, h2⟩ := h
    rw [h1] at hl
    cases hl
    rcases h2 with ⟨rfl, _⟩ | ⟨g, cap, cur, rfl, hg, _⟩
    · simp [Loc.block] at hb
    · simp only [Loc.block, Option.some.injEq] at hb
      subst hb
      exact (Array.getElem?_eq_some_iff.1 hg).1
  | arr e esz len f =>
    obtain ⟨tv, h1, h2⟩ := h
    rw [h1] at hl
    cases hl
    rcases h2 with ⟨rfl, _⟩ | ⟨g, cap, cur, rfl, hg, _⟩
    · simp [Loc.block] at hb
    · simp only [Loc.block, Option.some.injEq] at hb
      subst hb
      exact (Array.getElem?_eq_some_iff.1 hg).1
  | ob x =>
    obtain ⟨b', h1, h2, _⟩ := h
    rw [h1] at hl
    cases hl
    simp only [Loc.block, Option.some.injEq] at hb
    subst hb
    exact (Array.getElem?_eq_some_iff.1 h2).1
  | bld T d =>
    obtain ⟨b', cur, e, h1, h2, _⟩ := h
    rw [h1] at hl
    cases hl
    simp only [Loc.block, Option.some.injEq] at hb
    subst hb
    exact (Array.getElem?_eq_some_iff.1 h2).1
  | mp es =>
    obtain ⟨b', arr, clock, h1, h2, _⟩ := h
    rw [h1] at hl
    cases hl
    simp only [Loc.block, Option.some.injEq] at hb
    subst hb
    exact (Array.getElem?_eq_some_iff.1 h2).1
  | bm e len f =>
    obtain ⟨g, cap, cur, h1, h2, _⟩ := h
    rw [h1] at hl
    cases hl
    simp only [Loc.block, Option.some.injEq] at hb
    subst hb
    exact (Array.getElem?_eq_some_iff.1 h2).1
  | gone =>
    obtain ⟨l', h1, h2⟩ := h
    rw [h1] at hl
    cases hl
    exact h2 b hb

theorem ObjOk.loc {k : Nat} {o : Own} (h : ObjOk S w r k o) : ∃ l, r k = some l := by
  cases o with
  | var cs => obtain ⟨b', cur, e, h1, _⟩ := h; exact ⟨_, h1⟩
  | row e esz len => obtain ⟨tv, h1, _⟩ := h; exact ⟨_, h1⟩
  | arr e esz len f => obtain ⟨tv, h1, _⟩ := h; exact ⟨_, h1⟩
  | ob x => obtain ⟨b', h1, _⟩ := h; exact ⟨_, h1⟩
  | bld T d => obtain ⟨b', cur, e, h1, _⟩ := h; exact ⟨_, h1⟩
  | mp es => obtain ⟨b', arr, clock, h1, _⟩ := h; exact ⟨_, h1⟩
  | bm e len f => obtain ⟨g, cap, cur, h1, _⟩ := h; exact ⟨_, h1⟩
  | gone => obtain ⟨l', h1, _⟩ := h; exact ⟨_, h1⟩

/-- No more is told. -/
theorem ObjOk.toGone {k : Nat} {o : Own} (h : ObjOk S w r k o) : ObjOk S w r k .gone :=
  let ⟨l, hl⟩ := h.loc
  ⟨l, hl, fun _ hb => h.blockLt hl hb⟩

theorem ObjOk.keep {k : Nat} {o : Own} (h : ObjOk S w r k o) (c : Chg w w' S g) (hS : ∀ b o, S b o → S' b o) (hr : RhoLe r r') (hk : r' k = r k)
    (hg : ∀ l b, r k = some l → l.block = some b → g ≠ some b) (hn : ∀ b o, S' b o → S b o ∨ ∀ l, r k = some l → l.block ≠ some b) : ObjOk S' w' r' k o := by
  have hmono : ∀ d v, Rel S w r d v → Rel S' w' r' d v := fun d v hd => hd.mono hS (fun b o hb => c.cell b o hb) r' hr
  have hlt := fun l b (hl : r k = some l) (hb : l.block = some b) => h.blockLt hl hb
  cases o with
  | var cs =>
    obtain ⟨b, cur, e, h1, h2, h3, h4, h5⟩ := h
    have hb : (Loc.blk b).block = some b := rfl
    refine ⟨b, cur, e, hk.trans h1, ?_, h3, fun j hj => ⟨hmono _ _ (h4 j hj).1, (h4 j hj).2⟩, fun o ho => ?_⟩
    · rw [c.block b (hlt _ _ h1 hb) (fun e => hg _ _ h1 hb e.symm)]; exact h2
    · rcases hn b o ho with h6 | h6
      · exact h5 o h6
      · exact h6 _ h1 hb
  | row e esz len =>
    obtain ⟨tv, h1, h2⟩ := h
    refine ⟨tv, hk.trans h1, ?_⟩
    rcases h2 with h2 | ⟨g', cap, cur, rfl, h3, h4, h5, h6, h7⟩
    · exact .inl h2
    · have hb : (Loc.row (.slice (some ⟨g', 0, none⟩) len cap) len).block = some g' := rfl
      refine .inr ⟨g', cap, cur, rfl, ?_, h4, h5, h6, fun o ho hs => ?_⟩
      · rw [c.block g' (hlt _ _ h1 hb) (fun e => hg _ _ h1 hb e.symm)]; exact h3
      · rcases hn g' o hs with h8 | h8
        · exact h7 o ho h8
        · exact h8 _ h1 hb
  | arr e esz len f =>
    obtain ⟨tv, h1, h2⟩ := h
    refine ⟨tv, hk.trans h1, ?_⟩
    rcases h2 with h2 | ⟨g', cap, cur, rfl, h3, h4, h5, h6, h7, h8, h9⟩
    · exact .inl h2
    · have hb : (Loc.row (.slice (some ⟨g', 0, none⟩) len cap) len).block = some g' := rfl
      refine .inr ⟨g', cap, cur, rfl, ?_, h4, h5, h6, h7, fun i j hi hj => (h8 i j hi hj).mono hS (fun b o hb => c.cell b o hb) noRho (RhoLe.refl _), fun o hs => ?_⟩
      · rw [c.block g' (hlt _ _ h1 hb) (fun e => hg _ _ h1 hb e.symm)]; exact h3
      · rcases hn g' o hs with h10 | h10
        · exact h9 o h10
        · exact h10 _ h1 hb
  | ob x =>
    obtain ⟨b, h1, h2, h5⟩ := h
    have hb : (Loc.blk b).block = some b := rfl
    refine ⟨b, hk.trans h1, ?_, fun o ho => ?_⟩
    · rw [c.block b (hlt _ _ h1 hb) (fun e => hg _ _ h1 hb e.symm)]; exact h2
    · rcases hn b o ho with h6 | h6
      · exact h5 o h6
      · exact h6 _ h1 hb
  | bld T d =>
    obtain ⟨b, cur, e, h1, h2, h3, h4, h7, h5⟩ := h
    have hb : (Loc.blk b).block = some b := rfl
    refine ⟨b, cur, e, hk.trans h1, ?_, h3, h4, ⟨hmono _ _ h7.1, h7.2⟩, fun o ho => ?_⟩
    · rw [c.block b (hlt _ _ h1 hb) (fun e => hg _ _ h1 hb e.symm)]; exact h2
    · rcases hn b o ho with h6 | h6
      · exact h5 o h6
      · exact h6 _ h1 hb
  | mp es =>
    obtain ⟨b, arr, clock, h1, h2, h3, h4, h7, h5⟩ := h
    have hb : (Loc.blk b).block = some b := rfl
    refine ⟨b, arr, clock, hk.trans h1, ?_, h3, fun j hj => ⟨(h4 j hj).1, hmono _ _ (h4 j hj).2.1, (h4 j hj).2.2⟩, h7, fun o ho => ?_⟩
    · rw [c.block b (hlt _ _ h1 hb) (fun e => hg _ _ h1 hb e.symm)]; exact h2
    · rcases hn b o ho with h6 | h6
      · exact h5 o h6
      · exact h6 _ h1 hb
  | bm e len f =>
    obtain ⟨b, cap, cur, h1, h2, h3, h4, h7, h8, h5⟩ := h
    have hb : (Loc.row (.slice (some ⟨b, 0, none⟩) len cap) len).block = some b := rfl
    refine ⟨b, cap, cur, hk.trans h1, ?_, h3, h4, h7, h8, fun o ho => ?_⟩
    · rw [c.block b (hlt _ _ h1 hb) (fun e => hg _ _ h1 hb e.symm)]; exact h2
    · rcases hn b o ho with h6 | h6
      · exact h5 o h6
      · exact h6 _ h1 hb
  | gone =>
    obtain ⟨l, h1, h2⟩ := h
    exact ⟨l, hk.trans h1, fun b hb => Nat.lt_of_lt_of_le (h2 b hb) c.size⟩

/-- One object is new, or has changed; its block is new, or the one that it had. -/
theorem Inv.put (h : Inv X w S r O) (c : Chg w w' S g) (hS : ∀ b o, S b o → S' b o) (hr : RhoLe r r') (k0 : Nat) (o0 : Own) (l0 : Loc) (h0 : ObjOk S' w' r' k0 o0)
    (hl0 : r' k0 = some l0) (hoth : ∀ k, k ≠ k0 → r' k = r k)
    (hb0 : ∀ b, l0.block = some b → (w.heap.size ≤ b ∧ (X.w0.heap.size ≤ b ∨ X.L b)) ∨ ∃ l, r k0 = some l ∧ l.block = some b)
    (hg : ∀ b, g = some b → ∃ l, r k0 = some l ∧ l.block = some b)
    (hn : ∀ b o, S' b o → S b o ∨ l0.block = some b ∨ w.heap.size ≤ b) : Inv X w' S' r' (fun j => if j = k0 then some o0 else O j) := by
  have hlt : ∀ k l b, r k = some l → l.block = some b → b < w.heap.size := fun k l b hl hb => by
    cases ho : O k with
    | none => rw [h.dom k ho] at hl; cases hl
    | some o => exact (h.obj k o ho).blockLt hl hb
  have hne : ∀ k l b, k ≠ k0 → r k = some l → l.block = some b → l0.block ≠ some b := fun k l b hk hl hb e => by
    rcases hb0 b e with ⟨h1, _⟩ | ⟨l', h1, h2⟩
    · have := hlt k l b hl hb; omega
    · exact h.apart k k0 l l' b hk hl h1 hb h2
  constructor
  · intro k o hk
    by_cases e : k = k0
    · subst e
      simp only [if_true] at hk
      cases hk
      exact h0
    · simp only [if_neg e] at hk
      refine (h.obj k o hk).keep c hS hr (hoth k e) (fun l b hl hb eg => ?_) (fun b o hs => ?_)
      · obtain ⟨l', h1, h2⟩ := hg b eg
        exact h.apart k k0 l l' b e hl h1 hb h2
      · rcases hn b o hs with h1 | h1 | h1
        · exact .inl h1
        · exact .inr fun l hl hb => hne k l b e hl hb h1
        · exact .inr fun l hl hb => by have := hlt k l b hl hb; omega
  · intro k hk
    by_cases e : k = k0
    · subst e; simp at hk
    · simp only [if_neg e] at hk
      rw [hoth k e]
      exact h.dom k hk
  · intro k k' l l' b hkk hl hl' hb hb'
    by_cases e : k = k0
    · subst e
      have e' : k' ≠ k := fun e => hkk e.symm
      rw [hl0] at hl
      cases hl
      rw [hoth k' e'] at hl'
      exact hne k' l' b e' hl' hb' hb
    · rw [hoth k e] at hl
      by_cases e' : k' = k0
      · subst e'
        rw [hl0] at hl'
        cases hl'
        exact hne k l b e hl hb hb'
      · rw [hoth k' e'] at hl'
        exact h.apart k k' l l' b hkk hl hl' hb hb'
  · intro k l b hl hb
    by_cases e : k = k0
    · subst e
      rw [hl0] at hl
      cases hl
      rcases hb0 b hb with ⟨_, h1⟩ | ⟨l', h1, h2⟩
      · exact h1
      · exact h.low k l' b h1 h2
    · rw [hoth k e] at hl
      exact h.low k l b hl hb

/-- A new object's place. -/
def updR (r : Rho) (k : Nat) (l : Loc) : Rho := fun j => if j = k then some l else r j

theorem RhoLe.new {k : Nat} {l : Loc} (h : r k = none) : RhoLe r (updR r k l) := fun j l' hj => by
  have : j ≠ k := fun e => by subst e; rw [h] at hj; cases hj
  exact ⟨l', by simp [updR, this, hj], LocLe.refl _⟩

theorem RhoLe.upd {k : Nat} {l l0 : Loc} (h : r k = some l0) (hl : LocLe l0 l) : RhoLe r (updR r k l) := fun j l' hj => by
  by_cases e : j = k
  · subst e
    rw [h] at hj
    cases hj
    exact ⟨l, by simp [updR], hl⟩
  · exact ⟨l', by simp [updR, e, hj], LocLe.refl _⟩

theorem Chg.alloc (w : World) (S : Cells) (hv : ∀ b o, S b o → b < w.heap.size) (ob : Obj) : Chg w (w.alloc ob) S none where
  os := rfl
  tape := rfl
  output := rfl
  size := by simp
  block := fun k hk _ => RowKit.Below.heap_alloc w ob k hk
  cell := fun b o hb => World.cell?_of_block (w := w) (RowKit.Below.heap_alloc w ob b (hv b o hb))

theorem Chg.drewAlloc (w : World) (S : Cells) (hv : ∀ b o, S b o → b < w.heap.size) (ob : Obj) (g : Option Nat) : Chg w (w.drew.alloc ob) S g where
  os := rfl
  tape := rfl
  output := rfl
  size := by simp
  block := fun k hk _ => RowKit.Below.heap_alloc w.drew ob k hk
  cell := fun b o hb => World.cell?_of_block (w := w) (RowKit.Below.heap_alloc w.drew ob b (hv b o hb))

theorem Chg.setRow (w : World) (S : Cells) (g : Nat) (old cs : Array Value) (t : TypeId) (fr : Nat × Nat) (hg : w.heap[g]? = some (.cells old t fr)) (hc : ∀ o, S g o → cs[o]? = old[o]?) :
    Chg w (w.setRow g cs) S (some g) where
  os := rfl
  tape := rfl
  output := rfl
  size := by simp
  block := fun k _ hne => setRow_other w g k cs (fun e => hne (by rw [e]))
  cell := fun b o hb => by
    by_cases e : b = g
    · subst e
      rw [cell_setRow_same w b o old cs t fr hg, hc o hb, cell_of_row w b o old t fr hg]
    · exact cell_setRow_other w g cs ⟨b, o, none⟩ e

end

/-! ### Values of known cells -/
section
variable {P : Program} {S : Cells} {w : World} {r : Rho}

theorem rel_cells {d : D} {v : Value} (h : Rel S w r d v) (hs : d.solid = true) : v.cells.size = d.cells.length ∧ ∀ j, j < d.cells.length → Rel S w r (d.cells.getD j .any) (v.cells.getD j undef) := by
  have one : ∀ (d : D) (v : Value), d.cells = [d] → v.cells = #[v] → Rel S w r d v → v.cells.size = d.cells.length ∧ ∀ j, j < d.cells.length → Rel S w r (d.cells.getD j .any) (v.cells.getD j undef) := by
    intro d v h1 h2 h3
    rw [h1, h2]
    refine ⟨rfl, fun j hj => ?_⟩
    have : j = 0 := by simpa using hj
    subst this
    exact h3
  cases h with
  | any => simp [D.solid] at hs
  | tu => simp [D.solid] at hs
  | ag _ cs vs hn h => exact ⟨hn, h⟩
  | v =>
    have hv : v.cells = #[v] := by cases v <;> first | rfl | (simp [D.solid, Value.oneCell'] at hs)
    exact one _ _ rfl hv (.v ..)
  | i => exact one _ _ rfl rfl (.i ..)
  | b => exact one _ _ rfl rfl (.b ..)
  | s => exact one _ _ rfl rfl (.s ..)
  | nilS => exact one _ _ rfl rfl (.nilS ..)
  | fn _ f cs vs hn h => exact one _ _ rfl rfl (.fn _ f cs vs hn h)
  | sl _ esz len f a cap c hc hm hl hcell hr => exact one _ _ rfl rfl (.sl _ esz len f a cap c hc hm hl hcell hr)
  | rf _ cs off b o c hp hcell hr => exact one _ _ rfl rfl (.rf _ cs off b o c hp hcell hr)
  | pv _ k off b h => exact one _ _ rfl rfl (.pv _ k off b h)
  | mh _ k b h => exact one _ _ rfl rfl (.mh _ k b h)
  | ah _ k esz len cap a tv L hk hL ht ha => exact one _ _ rfl rfl (.ah _ k esz len cap a tv L hk hL ht ha)
  | ap _ k esz len i off a tv L hk hL ht ha => exact one _ _ rfl rfl (.ap _ k esz len i off a tv L hk hL ht ha)
  | e0 _ z a => exact one _ _ rfl rfl (.e0 _ z a)
  | se _ z b a cap hm hb => exact one _ _ rfl rfl (.se _ z b a cap hm hb)
  | rn _ k len f off b h => exact one _ _ rfl rfl (.rn _ k len f off b h)
  | gs _ k esz len f _ tv L h hk hL ht =>
    have hv : v.cells = #[v] := by cases h; rfl
    exact one _ _ rfl hv (.gs _ k esz len f v tv L h hk hL ht)

theorem getD_put {α : Type} (cs ds : List α) (off j : Nat) (x : α) (h : off + ds.length ≤ cs.length) :
    (cs.take off ++ ds ++ cs.drop (off + ds.length)).getD j x = if off ≤ j ∧ j < off + ds.length then ds.getD (j - off) x else cs.getD j x := by
  simp only [List.getD_eq_getElem?_getD]
  by_cases h1 : j < off
  · rw [if_neg (by omega), List.append_assoc, List.getElem?_append_left (by simp; omega), List.getElem?_take_of_lt h1]
  · by_cases h2 : j < off + ds.length
    · rw [if_pos (by omega), List.getElem?_append_left (by simp; omega), List.getElem?_append_right (by simp; omega)]
      congr 2
      simp; omega
    · rw [if_neg (by omega), List.getElem?_append_right (by simp; omega), List.getElem?_drop]
      congr 2
      simp; omega

theorem length_put {α : Type} (cs ds : List α) (off : Nat) (h : off + ds.length ≤ cs.length) : (cs.take off ++ ds ++ cs.drop (off + ds.length)).length = cs.length := by
  simp; omega
end

/-! ### The operations -/
section
variable {P : Program} {X : Ctx} {n : Nat} {o : Oper} {F : Nat → D} {O : Nat → Option Own}

/-- What an operation may do: hand back a value told by d, in a world in which one object is new or changed. -/
theorem stepAt_of (hd : dstOk o.dst n) {d : D} {wr : List (Nat × Own)}
    (h : ∀ (a : Act) (w : World) (S : Cells) (r : Rho), Hist X w S → Inv X w S r O → (∀ x, Rel S w r (evF F x) (a.eval x)) →
      ∃ v w' S' r', ((execOp a.eval o).run P w = .ok (.value v) w' ∨ ((execOp a.eval o).run P w = .ok .skip w' ∧ v = undef)) ∧ Rel S' w' r' d v ∧ Hist X w' S' ∧ Inv X w' S' r' (updO O wr) ∧
        (∀ b o, S b o → S' b o) ∧ (∀ b o, S b o → w'.cell? ⟨b, o, none⟩ = w.cell? ⟨b, o, none⟩) ∧ RhoLe r r') :
    StepAt P X n o F O d wr := by
  intro a w K Q ⟨S, r, hH, hI, hF, hdf, hn, hρ⟩ hK
  obtain ⟨v, w', S', r', hrun, hv, hH', hI', hS, hc, hr⟩ := h a w S r hH hI (fun x => evF_rel hH.glob hF x)
  have hrep : Rep X n (updF F o.dst d) (updO O wr) (a.put o.dst v) w' :=
    ⟨S', r', hH', hI', rel_put (fun t => (hF t).mono hS hc r' hr) (hn ▸ hd) hv, by rw [put_defers]; exact hdf, by rw [put_size]; exact hn, hρ.trans hr⟩
  unfold Oper.wp
  rcases hrun with hrun | ⟨hrun, rfl⟩
  · rw [hrun]; exact hK v w' hrep
  · rw [hrun]; exact hK undef w' hrep

/-- A new variable. -/
theorem box_ok {w : World} {S : Cells} {r : Rho} {d : D} {v : Value} (e : TypeId) (hH : Hist X w S) (hI : Inv X w S r O) (hv : Rel S w r d v) (hs : d.solid = true) (h1 : d.cells.all D.one = true)
    {k : Nat} (hk : O k = none) :
    ∃ S' r', Rel S' (w.alloc (.cells v.cells e)) r' (.pv k 0) (.pointer (some ⟨w.heap.size, 0, none⟩)) ∧ Hist X (w.alloc (.cells v.cells e)) S' ∧
      Inv X (w.alloc (.cells v.cells e)) S' r' (updO O [(k, .var d.cells)]) ∧ (∀ b o, S b o → S' b o) ∧
      (∀ b o, S b o → (w.alloc (.cells v.cells e)).cell? ⟨b, o, none⟩ = w.cell? ⟨b, o, none⟩) ∧ RhoLe r r' := by
  have hc := Chg.alloc w S hH.valid (.cells v.cells e)
  have hr : RhoLe r (updR r k (.blk w.heap.size)) := RhoLe.new (hI.dom k hk)
  obtain ⟨hz, hcell⟩ := rel_cells hv hs
  have hk0 : updR r k (.blk w.heap.size) k = some (.blk w.heap.size) := by simp [updR]
  refine ⟨S, updR r k (.blk w.heap.size), .pv _ k 0 _ hk0, ?_, ?_, fun _ _ h => h, hc.cell, hr⟩
  · exact hH.chg hc (fun b hb => by cases hb) (fun _ _ h => h) (fun b o h => .inl h)
  · refine hI.put hc (fun _ _ h => h) hr k _ (.blk w.heap.size) ?_ hk0 (fun j hj => by simp [updR, hj]) (fun b hb => ?_) (fun b hb => by cases hb) (fun b o h => .inl h)
    · refine ⟨w.heap.size, v.cells, e, hk0, heap_alloc_new w _, hz, fun j hj => ⟨(hcell j hj).mono (fun _ _ h => h) hc.cell _ hr, ?_⟩, fun o ho => ?_⟩
      · rw [List.all_eq_true] at h1
        refine h1 _ ?_
        simp only [List.getD_eq_getElem?_getD, List.getElem?_eq_getElem hj, Option.getD_some]
        exact List.getElem_mem hj
      · have := hH.valid _ _ ho; omega
    · simp only [Loc.block, Option.some.injEq] at hb
      subst hb
      exact .inl ⟨Nat.le_refl _, .inl hH.size⟩

end
end Go.Proofs.YtghdgjabpdfaoaaDoor.Flow

/-
  FLOW, PART F: STORES, LITERALS, APPEND.
-/
namespace Go.Proofs.YtghdgjabpdfaoaaDoor.Flow

/-! ### Rows as lists of cells -/
def flat (z m : Nat) (c : Nat → Nat → Value) : List Value := (List.range (m * z)).map fun p => c (p / z) (p % z)

theorem flat_length (z m : Nat) (c : Nat → Nat → Value) : (flat z m c).length = m * z := by simp [flat]

theorem flat_at {z m i j : Nat} (c : Nat → Nat → Value) (hi : i < m) (hj : j < z) : (flat z m c)[i * z + j]? = some (c i j) := by
  have h1 : i * z + j < m * z := by
    have : (i + 1) * z ≤ m * z := Nat.mul_le_mul_right z hi
    rw [Nat.add_mul] at this
    omega
  have h2 : (i * z + j) / z = i := by
    rw [Nat.mul_comm, Nat.mul_add_div (by omega), Nat.div_eq_of_lt hj, Nat.add_zero]
  have h3 : (i * z + j) % z = j := by
    rw [Nat.mul_comm, Nat.mul_add_mod, Nat.mod_eq_of_lt hj]
  simp [flat, h1, h2, h3]

theorem flat_split {z m p : Nat} (h : p < m * z) : ∃ i j, p = i * z + j ∧ i < m ∧ j < z := by
  have hz : 0 < z := by
    rcases Nat.eq_zero_or_pos z with e | e
    · subst e; simp at h
    · exact e
  refine ⟨p / z, p % z, ?_, (Nat.div_lt_iff_lt_mul hz).2 h, Nat.mod_lt _ hz⟩
  rw [Nat.mul_comm]
  exact (Nat.div_add_mod p z).symm

theorem flat_oneCell {S : Cells} {w : World} {z m : Nat} {f : Nat → List D} {c : Nat → Nat → Value} (hl : ∀ i, i < m → (f i).length = z ∧ (f i).all D.plain = true)
    (hr : ∀ i j, i < m → j < z → Rel S w noRho ((f i).getD j .any) (c i j)) : ∀ u ∈ flat z m c, u.oneCell' = true := by
  intro u hu
  simp only [flat, List.mem_map, List.mem_range] at hu
  obtain ⟨p, hp, rfl⟩ := hu
  obtain ⟨i, j, he, hi, hj⟩ := flat_split hp
  have hz : 0 < z := by omega
  have h2 : p / z = i := by subst he; rw [Nat.mul_comm, Nat.mul_add_div (by omega), Nat.div_eq_of_lt hj, Nat.add_zero]
  have h3 : p % z = j := by subst he; rw [Nat.mul_comm, Nat.mul_add_mod, Nat.mod_eq_of_lt hj]
  rw [h2, h3]
  refine (hr i j hi hj).one (D.one_of_plain ?_)
  have := (hl i hi).2
  rw [List.all_eq_true] at this
  have hj' : j < (f i).length := by rw [(hl i hi).1]; exact hj
  refine this _ ?_
  simp only [List.getD_eq_getElem?_getD, List.getElem?_eq_getElem hj', Option.getD_some]
  exact List.getElem_mem hj'

section
variable {P : Program} {S : Cells} {w : World} {r : Rho}

/-- A slice over a row that lies in a block from its head on. -/
theorem rel_row {z N : Nat} {f : Nat → List D} {c : Nat → Nat → Value} {g cap : Nat} {cur : Array Value} {e : TypeId} {fr : Nat × Nat} (hg : w.heap[g]? = some (.cells cur e fr)) (hc : N ≤ cap) (hm : cap ≤ maxLen)
    (hcur : ∀ i j, i < N → j < z → cur[i * z + j]? = some (c i j)) (hS : ∀ i j, i < N → j < z → S g (i * z + j))
    (hl : ∀ i, i < N → (f i).length = z ∧ (f i).all D.plain = true) (hr : ∀ i j, i < N → j < z → Rel S w noRho ((f i).getD j .any) (c i j)) :
    Rel S w r (.sl z N f) (.slice (some ⟨g, 0, none⟩) N cap) :=
  .sl _ z N f _ cap c hc hm hl (fun i j hi hj => ⟨g, 0, rfl, by rw [Nat.zero_add]; exact hS i j hi hj, by rw [Nat.zero_add, cell_of_row w g _ cur e fr hg]; exact hcur i j hi hj⟩) hr

end

theorem getD_arr {α : Type} (l : List α) (j : Nat) (x : α) : l.toArray.getD j x = l.getD j x := by simp [Array.getD_eq_getD_getElem?, List.getD_eq_getElem?_getD]

/-! ### Filling -/
theorem foldl_put (off : Nat) : ∀ (l : List Value) (k : Nat) (cs : Array Value), off + k + l.length ≤ cs.size →
    (l.zipIdx k).foldl (fun cs (x : Value × Nat) => cs.setIfInBounds (off + x.2) x.1) cs = (cs.toList.take (off + k) ++ l ++ cs.toList.drop (off + k + l.length)).toArray
  | [], k, cs, _ => by simp
  | x :: l, k, cs, h => by
    simp only [List.zipIdx_cons, List.foldl_cons]
    rw [foldl_put off l (k + 1) _ (by simp at h ⊢; omega)]
    have e := list_seg_step cs.toList (off + k) x l (by simp at h ⊢; omega)
    congr 1
    simpa [Array.toList_setIfInBounds, Nat.add_assoc] using e

section
variable {P : Program} {S : Cells} {w : World} {r : Rho}

/-- Parts of a literal, told one by one. -/
inductive Parts (S : Cells) (w : World) (r : Rho) : List (Nat × D) → List (Nat × Value) → Prop
  | nil : Parts S w r [] []
  | cons (i : Nat) (d : D) (v : Value) (ds : List (Nat × D)) (vs : List (Nat × Value)) (h : Rel S w r d v) (t : Parts S w r ds vs) : Parts S w r ((i, d) :: ds) ((i, v) :: vs)

theorem parts_of {e : Operand → D} {ρ : Operand → Value} : ∀ (l : List (Nat × Operand)), (∀ i x, (i, x) ∈ l → Rel S w r (e x) (ρ x)) → Parts S w r (evParts e l) (l.map fun (i, x) => (i, ρ x))
  | [], _ => .nil
  | (i, x) :: l, h => .cons i _ _ _ _ (h i x (by simp)) (parts_of l (fun j y hy => h j y (by simp [hy])))

theorem fill_sound {place : Nat → Option (Nat × Nat)} : ∀ {ds : List (Nat × D)} {vs : List (Nat × Value)} {cs cs' : List D} {cells : Array Value}, Parts S w r ds vs → fillD place cs ds = some cs' →
    cells.size = cs.length → (∀ j, j < cs.length → Rel S w r (cs.getD j .any) (cells.getD j undef)) →
    ∃ cells', Instr.fill place cells vs = some cells' ∧ cells'.size = cs'.length ∧ cs'.length = cs.length ∧ ∀ j, j < cs'.length → Rel S w r (cs'.getD j .any) (cells'.getD j undef)
  | _, _, cs, cs', cells, .nil, h, hn, hr => by
    simp only [fillD, Option.some.injEq] at h
    subst h
    exact ⟨cells, rfl, hn, rfl, hr⟩
  | _, _, cs, cs', cells, .cons i d v ds vs hd t, h, hn, hr => by
    simp only [fillD, fzA_eq] at h
    cases hp : place i with
    | none => simp only [hp] at h; cases h
    | some q =>
      obtain ⟨off, size⟩ := q
      simp only [hp] at h
      cases hb : (Nat.beq d.cells.length size && Nat.ble (off + size) cs.length && d.solid) with
      | false => simp only [hb] at h; cases h
      | true =>
        simp only [hb] at h
        simp only [Bool.and_eq_true, Nat.ble_eq] at hb
        obtain ⟨⟨h1', h2⟩, h3⟩ := hb
        have h1 := Nat.eq_of_beq_eq_true h1'
        obtain ⟨hv, hvr⟩ := rel_cells hd h3
        have hfit : off + d.cells.length ≤ cs.length := by omega
        have hlen := length_put cs d.cells off hfit
        have e : (v.cells.zipIdx.foldl (fun cs (x : Value × Nat) => cs.setIfInBounds (off + x.2) x.1) cells) = (cells.toList.take off ++ v.cells.toList ++ cells.toList.drop (off + v.cells.toList.length)).toArray := by
          rw [← Array.foldl_toList, Array.toList_zipIdx]
          have := foldl_put off v.cells.toList 0 cells (by simp; omega)
          simpa using this
        have hvl : v.cells.toList.length = d.cells.length := by simpa using hv
        have hfit' : off + v.cells.toList.length ≤ cells.toList.length := by simp; omega
        have hlen' := length_put cells.toList v.cells.toList off hfit'
        obtain ⟨cells', g1, g2, g3, g4⟩ := fill_sound (cells := (cells.toList.take off ++ v.cells.toList ++ cells.toList.drop (off + v.cells.toList.length)).toArray) t h
          (by
            unfold putCells
            rw [hlen, List.size_toArray, hlen']
            simpa using hn)
          (fun j hj => by
            unfold putCells at hj ⊢
            rw [hlen] at hj
            rw [getD_put _ _ _ _ _ hfit, getD_arr, getD_put _ _ _ _ _ hfit', hvl]
            by_cases hc : off ≤ j ∧ j < off + d.cells.length
            · rw [if_pos hc, if_pos hc]
              have := hvr (j - off) (by omega)
              simpa [Array.getD_eq_getD_getElem?, List.getD_eq_getElem?_getD] using this
            · rw [if_neg hc, if_neg hc]
              have := hr j hj
              simpa [Array.getD_eq_getD_getElem?, List.getD_eq_getElem?_getD] using this)
        refine ⟨cells', ?_, g2, ?_, g4⟩
        · simp only [Instr.fill, hp]
          rw [if_neg (by simp; omega)]
          have e' : (v.cells.zipIdx.foldl (fun cs (c, j) => cs.setIfInBounds (off + j) c) cells) = (cells.toList.take off ++ v.cells.toList ++ cells.toList.drop (off + v.cells.toList.length)).toArray := e
          rw [e']
          exact g1
        · rw [g3]
          unfold putCells
          exact hlen
end
end Go.Proofs.YtghdgjabpdfaoaaDoor.Flow
