/-
  FLOW, PART A: DATA, STATES AND THE CONDITIONS THAT A BODY MUST MEET, COMPUTED OVER DATA AND NOT OVER MEMORY.
  A temporary holds a datum (D); memory that the call owns is a list of objects under literal numbers. 'vc' reckons, operation by operation, what must hold; part B and C show that it suffices for the model's own wp.
-/
import Derived.Test.YteidmimpkipcfaaDoorProg
import Derived.WalkKit
namespace Go.Proofs.YteidmimpkipcfaaDoor.Flow

/-- DATA: what a temporary or a cell holds, memory left out. -/
inductive D where
  | any
  | i (k : IntKind) (n : Int)
  | b (x : Bool)
  | s (l : List UInt8)
  | nilS
  | v (x : Value)
  | fn (f : FuncId) (cs : List D)
  | ag (cs : List D)
  | tu (vs : List D)
  | sl (esz len : Nat) (f : Nat → List D)
  | rf (cs : List D) (off : Nat)
  | pv (k off : Nat)
  | gs (k esz len : Nat) (f : Nat → List D)
  | ah (k esz len : Nat)
  | ap (k esz len i off : Nat)
  | e0 (esz : Nat)
  | se (esz : Nat) (b : Bool)
  | rn (k : IntKind) (len : Nat) (f : Nat → Int) (off : Nat)

instance : Inhabited D := ⟨.any⟩

/-- Objects that the call owns: a variable (its cells); a row that it appends to (so many elements, each so many cells), whose elements stay as they are; a row whose elements may change; an object that is told as it lies (an iterator, a map); a variable of two cells of which the first is nil or its own address (a builder); an object of which no more is told. -/
inductive Own where
  | var (cs : List D)
  | row (e : TypeId) (esz len : Nat)
  | arr (e : TypeId) (esz len : Nat) (f : Nat → List D)
  | ob (x : Obj)
  | bld (T : TypeId) (d : D)
  | gone

structure St where
  fr : List (Nat × D)
  own : List (Nat × Own)
  n : Nat

def look {α : Type} (t : Nat) : List (Nat × α) → Option α
  | [] => none
  | (u, d) :: r => match Nat.beq u t with
    | true => some d
    | false => look t r

def getD' (t : Nat) : List (Nat × D) → D
  | [] => .any
  | (u, d) :: r => match Nat.beq u t with
    | true => d
    | false => getD' t r

def setO (k : Nat) (o : Own) : List (Nat × Own) → List (Nat × Own)
  | [] => [(k, o)]
  | (u, d) :: r => match Nat.beq u k with
    | true => (k, o) :: r
    | false => (u, d) :: setO k o r

def ofVal : Value → D
  | .int k n => .i k n
  | .bool b => .b b
  | .string s => .s s.data.toList
  | .slice none 0 0 => .nilS
  | .agg cs => .ag (cs.toList.map fun
      | .int k n => .i k n
      | .bool b => .b b
      | .string s => .s s.data.toList
      | .slice none 0 0 => .nilS
      | x => .v x)
  | .tuple _ => .any
  | x => .v x

/-- What a first byte tells: how many bytes, and which range the second is in. -/
def firstZ (c : Nat) : Int :=
  if c < 128 then 240 else if c < 194 then 241 else if c < 224 then 2 else if c = 224 then 19 else if c < 237 then 3 else if c = 237 then 35 else if c < 240 then 3 else if c = 240 then 52 else if c < 244 then 4 else if c = 244 then 68 else 241

/-- The ranges: the least and the greatest, one behind the other. -/
def accZ (j : Nat) : Int :=
  match j with
  | 0 => 128 | 1 => 191 | 2 => 160 | 3 => 191 | 4 => 128 | 5 => 159 | 6 => 144 | 7 => 191 | 8 => 128 | 9 => 143 | _ => 0

/-- What package-level variables hold, as far as it is told. -/
def glob : Nat → D
  | 0 => .rn .u8 256 firstZ 0
  | 1 => .rn .u8 32 accZ 0
  | _ => .any

/-- How many cells they have, as far as it is told. -/
def globLen : Nat → Option Nat
  | 0 => some 256
  | 1 => some 32
  | _ => none

/-- Which of them hold some number (of int). -/
def globSome : Nat → Bool
  | 3 => true
  | _ => false

def ev (fr : List (Nat × D)) : Operand → D
  | .tmp t => getD' t fr
  | .const v => ofVal v
  | .global g => glob g
  | .func f => .fn f []

def D.one : D → Bool
  | .any | .ag _ | .tu _ => false
  | .v x => x.oneCell'
  | _ => true

/-- A datum that tells how many cells its value has. -/
def D.solid : D → Bool
  | .any | .tu _ => false
  | .v x => x.oneCell'
  | _ => true

def D.cells : D → List D
  | .ag cs => cs
  | d => [d]

/-- Data that stays the same whatever becomes of the objects: it may lie in memory that is read only. -/
def D.plain : D → Bool
  | .pv .. | .gs .. | .ah .. | .ap .. | .any | .ag _ | .tu _ => false
  | .fn _ cs => cs.isEmpty
  | .v x => x.oneCell'
  | _ => true

/-- A row's header read as a slice that is read only. -/
def D.shut : D → D
  | .gs _ e n f => .sl e n f
  | d => d

/-- The same within a struct's value. -/
def D.shutA : D → D
  | .ag cs => .ag (cs.map D.shut)
  | d => d.shut

/-! ### Types, as the program's tables tell them -/
inductive Ty where
  | int (k : IntKind) | bool | str | slice (elem size : Nat) (agg : Bool) (bytes : Nat) | struct (fs : List (Nat × Nat × Bool)) | array (n elem size : Nat) (agg : Bool) | ptr (elem : Nat) | other

/-- A type's size in cells, and whether it is a struct or an array. -/
def szOf0 (P : Program) (t : TypeId) : Option (Nat × Bool) :=
  match P.info? t, P.underlying t with
  | some i, some d => some (i.size, match d with | .struct _ | .array _ _ => true | _ => false)
  | _, _ => none

def szOf (P : Program) (t : TypeId) : Option (Nat × Bool) :=
  match Nat.blt t P.types.size with
  | true => szOf0 P t
  | false => none

def tyOf0 (P : Program) (t : TypeId) : Ty :=
  match P.underlying t with
  | some (.int k) => .int k
  | some .bool => .bool
  | some .string => .str
  | some (.slice e) => match P.info? e, szOf P e with
    | some i, some (z, g) => .slice e z g i.bytes
    | _, _ => .other
  | some (.struct fs) => .struct (fs.toList.map fun f => (f.offset, match szOf P f.type with | some (z, g) => (z, g) | none => (0, false)))
  | some (.array n e) => match szOf P e with
    | some (z, g) => .array n e z g
    | none => .other
  | some (.pointer e) => .ptr e
  | _ => .other

def tyOf (P : Program) (t : TypeId) : Ty :=
  match Nat.blt t P.types.size with
  | true => tyOf0 P t
  | false => .other

def zeroD (P : Program) (t : TypeId) : Option D :=
  match Nat.blt t P.types.size with
  | true => match P.info? t with
    | some i => match i.zero with
      | some v => some (ofVal v)
      | none => none
    | none => none
  | false => none

def nth {α : Type} (d : α) : List α → Nat → α
  | [], _ => d
  | x :: _, 0 => x
  | _ :: r, n + 1 => nth d r n

/-- Fields that are numbers, truths or texts: where they lie, and which of these they are. -/
def eqF (P : Program) : List Field → Option (List (Nat × Nat))
  | [] => some []
  | f :: r => match f.name == "_", szOf P f.type, P.underlying f.type, eqF P r with
    | false, some (1, false), some (.int _), some l => some ((f.offset, 0) :: l)
    | false, some (1, false), some .bool, some l => some ((f.offset, 1) :: l)
    | false, some (1, false), some .string, some l => some ((f.offset, 2) :: l)
    | _, _, _, _ => none

def eqOf0 (P : Program) (t : TypeId) : Option (List (Nat × Nat)) :=
  match P.underlying t with
  | some (.struct fs) => match P.stoodInHeld t with
    | false => eqF P fs.toList
    | true => none
  | _ => none

def eqOf (P : Program) (t : TypeId) : Option (List (Nat × Nat)) :=
  match Nat.blt t P.types.size with
  | true => eqOf0 P t
  | false => none

/-- A table, twelve to a row. -/
def at2 {α : Type} (d : α) (l : List (List α)) (t : Nat) : α := nth d (nth [] l (t / 12)) (t % 12)

theorem nth_ge {α : Type} (d : α) : ∀ (l : List α) (n : Nat), l.length ≤ n → nth d l n = d
  | [], _, _ => rfl
  | _ :: _, 0, h => by simp at h
  | _ :: r, n + 1, h => nth_ge d r n (by simpa using h)

theorem at2_ge {α : Type} (d : α) (l : List (List α)) (t : Nat) (h : 12 * l.length ≤ t) : at2 d l t = d := by
  unfold at2
  rw [nth_ge [] l (t / 12) (by omega)]
  rfl

theorem table_eq {α : Type} {f : Nat → α} {d : α} {l : List (List α)} {N : Nat} (hN : 12 * l.length = N) (h : (List.range N).map f = (List.range N).map (at2 d l)) (hf : ∀ t, N ≤ t → f t = d) : f = at2 d l := by
  funext t
  by_cases ht : t < N
  · have h1 : ((List.range N).map f)[t]? = ((List.range N).map (at2 d l))[t]? := by rw [h]
    simpa [ht] using h1
  · rw [hf t (by omega), at2_ge d l t (by omega)]

/-- The tables that operations look at. -/
structure Tb where
  ty : TypeId → Ty
  sz : TypeId → Option (Nat × Bool)
  zr : TypeId → Option D
  eq : TypeId → Option (List (Nat × Nat))

def tb (P : Program) : Tb := ⟨tyOf P, szOf P, zeroD P, eqOf P⟩

/-! ### One operation -/
structure Stp where
  d : D
  p : Prop
  rd : List Nat := []
  wr : List (Nat × Own) := []

def Stp.pure (d : D) (p : Prop := True) : Option Stp := some { d, p }

/-- A list's spine written out. -/
def fzL {α : Type} : List D → (List D → Option α) → Option α
  | [], K => K []
  | a :: r, K => fzL r fun r => K (a :: r)

/-- A datum written out as far as its head. -/
def fz {α : Type} (d : D) (K : D → Option α) : Option α :=
  match d with
  | .any => K .any
  | .i k n => K (.i k n)
  | .b x => K (.b x)
  | .s l => K (.s l)
  | .nilS => K .nilS
  | .v x => K (.v x)
  | .fn f cs => K (.fn f cs)
  | .ag cs => fzL cs fun cs => K (.ag cs)
  | .tu cs => K (.tu cs)
  | .sl e n f => K (.sl e n f)
  | .rf cs o => K (.rf cs o)
  | .pv k o => K (.pv k o)
  | .gs k e n f => K (.gs k e n f)
  | .ah k e n => K (.ah k e n)
  | .ap k e n i o => K (.ap k e n i o)
  | .e0 z => K (.e0 z)
  | .se z b => K (.se z b)
  | .rn k n f o => K (.rn k n f o)

theorem fzL_eq {α : Type} : ∀ (l : List D) (K : List D → Option α), fzL l K = K l
  | [], _ => rfl
  | a :: r, K => fzL_eq r fun r => K (a :: r)

theorem fz_eq {α : Type} (d : D) (K : D → Option α) : fz d K = K d := by
  cases d <;> first | rfl | exact fzL_eq _ _

/-- A list of data written out, each as far as its head. -/
def fzA {α : Type} : List D → (List D → Option α) → Option α
  | [], K => K []
  | a :: r, K => fz a fun a => fzA r fun r => K (a :: r)

theorem fzA_eq {α : Type} : ∀ (l : List D) (K : List D → Option α), fzA l K = K l
  | [], _ => rfl
  | a :: r, K => (fz_eq a _).trans (fzA_eq r fun r => K (a :: r))

/-- In range of int. -/
abbrev InI (n : Int) : Prop := -9223372036854775808 ≤ n ∧ n ≤ 9223372036854775807

def addK (k : IntKind) (n : Int) : Option Stp :=
  match k with
  | .i64 => Stp.pure (.i .i64 n) (InI n)
  | k => Stp.pure (.i k (k.wrap n))

def cmpD (op : BinOp) (a b : Int) : Option Stp :=
  match op with
  | .eql => Stp.pure (.b (a == b))
  | .neq => Stp.pure (.b (a != b))
  | .lss => Stp.pure (.b (decide (a < b)))
  | .leq => Stp.pure (.b (decide (a ≤ b)))
  | .gtr => Stp.pure (.b (decide (b < a)))
  | .geq => Stp.pure (.b (decide (b ≤ a)))
  | _ => none

def intD (op : BinOp) (k : IntKind) (a b : Int) : Option Stp :=
  match op with
  | .add => addK k (a + b)
  | .sub => addK k (a - b)
  | .mul => addK k (a * b)
  | .quo => Stp.pure (.i k (a / b)) (0 ≤ a ∧ 0 < b ∧ k.wrap (a / b) = a / b)
  | .rem => Stp.pure (.i k (a % b)) (0 ≤ a ∧ 0 < b)
  | .and | .or | .xor | .andNot => Stp.pure (.i k (bits op k a b))
  | op => cmpD op a b

def strD (op : BinOp) (x y : List UInt8) : Option Stp :=
  match op with
  | .add => Stp.pure (.s (x ++ y)) (x.length + y.length ≤ 9223372036854775807)
  | .eql => Stp.pure (.b (x == y))
  | .neq => Stp.pure (.b (!(x == y)))
  | .lss => Stp.pure (.b (Op.bytesLess x y))
  | .leq => Stp.pure (.b (Op.bytesLess x y || x == y))
  | .gtr => Stp.pure (.b (!(Op.bytesLess x y || x == y)))
  | .geq => Stp.pure (.b (!(Op.bytesLess x y)))
  | _ => none

def kN : IntKind → Nat
  | .i8 => 0 | .i16 => 1 | .i32 => 2 | .i64 => 3 | .u8 => 4 | .u16 => 5 | .u32 => 6 | .u64 => 7

theorem kN_inj {a b : IntKind} (h : Nat.beq (kN a) (kN b) = true) : a = b := by cases a <;> cases b <;> first | rfl | cases h

/-- How many bits a kind has, written out. -/
def bitsK {α : Type} (k : IntKind) (K : Int → α) : α :=
  match k with
  | .i8 => K 8 | .i16 => K 16 | .i32 => K 32 | .i64 => K 64 | .u8 => K 8 | .u16 => K 16 | .u32 => K 32 | .u64 => K 64

theorem bitsK_eq {α : Type} (k : IntKind) (K : Int → α) : bitsK k K = K (k.bits : Int) := by cases k <;> rfl

def isSh : BinOp → Bool
  | .shl | .shr => true
  | _ => false

def shD (op : BinOp) (k : IntKind) (a b : Int) : Option Stp :=
  match op with
  | .shl => match k with
    | .i64 => Stp.pure (.i .i64 (a * 2 ^ b.toNat)) (0 ≤ b ∧ b ≤ 64 ∧ InI (a * 2 ^ b.toNat))
    | k => bitsK k fun n => Stp.pure (.i k (k.wrap (a * 2 ^ b.toNat))) (0 ≤ b ∧ b ≤ n)
  | .shr => bitsK k fun n => Stp.pure (.i k (a / 2 ^ b.toNat)) (0 ≤ b ∧ b ≤ n)
  | _ => none

def maxD (x y : D) : Option Stp :=
  match x, y with
  | .i k a, .i _ b => Stp.pure (.i k (max a b))
  | _, _ => none

def minD (x y : D) : Option Stp :=
  match x, y with
  | .i k a, .i _ b => Stp.pure (.i k (min a b))
  | _, _ => none

/-- Cells held against each other, each of the class that is told. -/
def eqC : Nat → D → D → Option Bool
  | 0, .i k a, .i k' b => match Nat.beq (kN k) (kN k') with
    | true => some (a == b)
    | false => none
  | 1, .b a, .b b => some (a == b)
  | 2, .s a, .s b => some (a == b)
  | _, _, _ => none

def eqCs (xs ys : List D) : List (Nat × Nat) → Option Bool
  | [] => some true
  | (o, c) :: r => match eqC c (xs.getD o .any) (ys.getD o .any), eqCs xs ys r with
    | some a, some b => some (a && b)
    | _, _ => none

/-- Structs of numbers, truths and texts held against each other. -/
def eqS (B : Tb) (op : BinOp) (t : TypeId) (xs ys : List D) : Option Stp :=
  match B.eq t with
  | some l => match eqCs xs ys l, op with
    | some b, .eql => Stp.pure (.b b)
    | some b, .neq => Stp.pure (.b (!b))
    | _, _ => none
  | none => none

/-- Arrays of two texts held against each other. -/
def eqA (B : Tb) (op : BinOp) (t : TypeId) (xs ys : List D) : Option Stp :=
  match xs, ys, B.ty t with
  | [.s a, .s b], [.s c, .s d], .array 2 e 1 false => match B.ty e, op with
    | .str, .eql => Stp.pure (.b ((a == c) && (b == d)))
    | .str, .neq => Stp.pure (.b (!((a == c) && (b == d))))
    | _, _ => none
  | xs, ys, .struct _ => eqS B op t xs ys
  | _, _, _ => none

/-- A slice held against nil. -/
def eqN (B : Tb) (op : BinOp) (t : TypeId) (b : Bool) (p : Prop) : Option Stp :=
  match B.ty t, op with
  | .slice .., .eql => Stp.pure (.b b) p
  | .slice .., .neq => Stp.pure (.b (!b)) p
  | _, _ => none

def binD (B : Tb) (op : BinOp) (t : TypeId) (x y : D) : Option Stp :=
  match x, y with
  | .i k a, .i k' b => match isSh op with
    | true => shD op k a b
    | false => match Nat.beq (kN k) (kN k') with
      | true => intD op k a b
      | false => none
  | .s a, .s b => strD op a b
  | .b a, .b b => match op, B.ty t with
    | .eql, .bool => Stp.pure (.b (a == b))
    | .neq, .bool => Stp.pure (.b (!(a == b)))
    | _, _ => none
  | .nilS, .nilS => eqN B op t true True
  | .se _ b, .nilS => eqN B op t (!b) True
  | .sl z n _, .nilS => eqN B op t false (0 < z ∧ 0 < n)
  | .ag xs, .ag ys => eqA B op t xs ys
  | _, _ => none

def pickD (c x y : D) : Option Stp :=
  match c with
  | .b c => match c with
    | true => fz x fun x => Stp.pure x
    | false => fz y fun y => Stp.pure y
  | _ => none

def lenD (B : Tb) (t : TypeId) (x : D) : Option Stp :=
  match x, B.ty t with
  | .s l, .str => Stp.pure (.i .i64 l.length)
  | .nilS, .slice .. => Stp.pure (.i .i64 0)
  | .sl _ n _, .slice .. => Stp.pure (.i .i64 n)
  | .gs _ _ n _, .slice .. => Stp.pure (.i .i64 n)
  | .ah _ _ n, .slice .. => Stp.pure (.i .i64 n)
  | .e0 _, .slice .. => Stp.pure (.i .i64 0)
  | .se _ _, .slice .. => Stp.pure (.i .i64 0)
  | _, _ => none

/-- Some of a value's cells as a value of a type. -/
def partD (z : Nat × Bool) (cs : List D) (off : Nat) : D :=
  match z.2 with
  | true => .ag ((cs.drop off).take z.1)
  | false => cs.getD off .any

def partP (z : Nat × Bool) (cs : List D) (off : Nat) : Prop := off + (match z.2 with | true => z.1 | false => 1) ≤ cs.length

/-- A byte of a text at a place. -/
def at' (s : List UInt8) (i : Int) : Int := ((s.getD i.toNat 0).toNat : Int)

def idxD (B : Tb) (t : TypeId) (x ix : D) : Option Stp :=
  match x, ix, B.ty t with
  | .s l, .i _ n, .str => Stp.pure (.i .u8 (at' l n)) (0 ≤ n ∧ n < l.length)
  | .ag cs, .i _ n, .array m _ z g => fz (partD (z, g) cs (n.toNat * z)) fun d => Stp.pure d (0 ≤ n ∧ n < m ∧ partP (z, g) cs (n.toNat * z))
  | _, _, _ => none

def idxAddrD (B : Tb) (t : TypeId) (x ix : D) : Option Stp :=
  match B.ty t, x, ix with
  | .slice _ z _ _, .sl e len f, .i _ n => Stp.pure (.rf (f n.toNat) 0) (0 ≤ n ∧ n < len ∧ e = z ∧ 0 < e)
  | .slice _ z _ _, .gs _ e len f, .i _ n => Stp.pure (.rf (f n.toNat) 0) (0 ≤ n ∧ n < len ∧ e = z ∧ 0 < e)
  | .slice _ z _ _, .ah k e len, .i _ n => Stp.pure (.ap k e len n.toNat 0) (0 ≤ n ∧ n < len ∧ e = z)
  | .array m _ z _, .ap k e len i off, .i _ n => Stp.pure (.ap k e len i (off + n.toNat * z)) (0 ≤ n ∧ n < m)
  | .array m _ z _, .rn k len f off, .i _ n => Stp.pure (.rn k len f (off + n.toNat * z)) (0 ≤ n ∧ n < m)
  | .array m _ z _, .rf cs off, .i _ n => Stp.pure (.rf cs (off + n.toNat * z)) (0 ≤ n ∧ n < m)
  | .array m _ z _, .pv k off, .i _ n => Stp.pure (.pv k (off + n.toNat * z)) (0 ≤ n ∧ n < m)
  | _, _, _ => none

def fieldAddrD (B : Tb) (t : TypeId) (x : D) (j : Nat) : Option Stp :=
  match B.ty t with
  | .struct fs => match fs[j]? with
    | some (off, z, _) => match z with
      | 0 => none
      | _ + 1 => match x with
        | .rf cs o => Stp.pure (.rf cs (o + off))
        | .pv k o => Stp.pure (.pv k (o + off))
        | .ap k e len i o => Stp.pure (.ap k e len i (o + off))
        | .rn k len f o => Stp.pure (.rn k len f (o + off))
        | _ => none
    | none => none
  | _ => none

def fieldD (B : Tb) (t : TypeId) (x : D) (j : Nat) : Option Stp :=
  match B.ty t with
  | .struct fs => match fs[j]?, x with
    | some (off, z), .ag cs => match z.1 with
      | 0 => none
      | _ + 1 => fz (partD z cs off) fun d => Stp.pure d (partP z cs off)
    | _, _ => none
  | _ => none

/-- A table's numbers from a place on. -/
def tabD (k : IntKind) (f : Nat → Int) (off : Nat) : Nat → List D
  | 0 => []
  | m + 1 => .i k (f off) :: tabD k f (off + 1) m

def loadD (B : Tb) (own : Nat → Option Own) (t : TypeId) (a : D) : Option Stp :=
  match B.sz t with
  | none => none
  | some z => match a with
    | .rf cs off => fz (partD z cs off) fun d => Stp.pure d (partP z cs off)
    | .pv k off => match own k with
      | some (.var cs) => fz (partD z cs off) fun d => some { d := d, p := partP z cs off, rd := [k] }
      | _ => none
    | .rn k len f off => match z.2 with
      | true => fzL (tabD k f off z.1) fun cs => Stp.pure (.ag cs) (off + z.1 ≤ len)
      | false => Stp.pure (.i k (f off)) (off < len)
    | .ap k e len i off => match own k with
      | some (.arr _ e' L f) => fz (partD z (f i) off) fun d => some { d := d, p := len = L ∧ e = e' ∧ i < L ∧ partP z (f i) off, rd := [k] }
      | _ => none
    | _ => none

def putCells (cs : List D) (off : Nat) (ds : List D) : List D := cs.take off ++ ds ++ cs.drop (off + ds.length)

def storeD (B : Tb) (own : Nat → Option Own) (t : TypeId) (a x : D) : Option Stp :=
  match B.sz t, a with
  | some z, .pv k off => match own k with
    | some (.var cs) => fz x fun x => fzA (putCells cs off x.cells) fun cs' => some { d := .any, p := x.cells.length = z.1 ∧ off + x.cells.length ≤ cs.length ∧ x.solid = true ∧ x.cells.all D.one = true, rd := [k], wr := [(k, .var cs')] }
    | _ => none
  | _, _ => none

/-- An element that is another one. -/
def putF (f : Nat → List D) (i : Nat) (cs : List D) : Nat → List D := fun j => if j = i then cs else f j

def storeA (B : Tb) (own : Nat → Option Own) (t : TypeId) (a x : D) : Option Stp :=
  match B.sz t, a with
  | some z, .ap k e len i off => match own k with
    | some (.arr el e' L f) => fz x fun x => some { d := .any, p := len = L ∧ e = e' ∧ i < L ∧ x.cells.length = z.1 ∧ off + x.cells.length ≤ e' ∧ x.solid = true ∧ x.cells.all D.plain = true, rd := [k], wr := [(k, .arr el e' L (putF f i (putCells (f i) off x.cells)))] }
    | _ => none
  | _, _ => none

/-- A new variable under the number of the temporary that is to hold its address. -/
def boxD (own : Nat → Option Own) (dst : Option Tmp) (x : D) : Option Stp :=
  match dst with
  | some k => match own k with
    | none => fzA x.cells fun cs => some { d := .pv k 0, p := x.solid = true ∧ cs.all D.one = true, rd := [k], wr := [(k, .var cs)] }
    | some _ => none
  | none => none

def fillD (place : Nat → Option (Nat × Nat)) (cells : List D) : List (Nat × D) → Option (List D)
  | [] => some cells
  | (i, x) :: rest => match place i with
    | none => none
    | some (off, size) => match Nat.beq x.cells.length size && Nat.ble (off + size) cells.length && x.solid with
      | true => fillD place (putCells cells off x.cells) rest
      | false => none

def buildD (B : Tb) (t : TypeId) (parts : List (Nat × D)) : Option Stp :=
  match B.zr t, B.ty t with
  | some z, .struct fs => match fs.all (fun f => !(Nat.beq f.2.1 0)) && z.solid, fillD (fun i => (fs.map fun f => (f.1, f.2.1))[i]?) z.cells parts with
    | true, some cs => fzA cs fun cs => Stp.pure (.ag cs)
    | _, _ => none
  | some z, .array _ _ size _ => match z.solid, fillD (fun i => some (i * size, size)) z.cells parts with
    | true, some cs => fzA cs fun cs => Stp.pure (.ag cs)
    | _, _ => none
  | _, _ => none

/-- A literal's cells, so many to an element. -/
def chunk (z : Nat) (cs : List D) : Nat → List D := fun i => (cs.drop (i * z)).take z

/-- A handle to a row, and the row: one whose elements may change (true), or stay. -/
def mkH (ar : Bool) (k z n : Nat) (f : Nat → List D) : D :=
  match ar with
  | true => .ah k z n
  | false => .gs k z n f
def mkO (ar : Bool) (el : TypeId) (z n : Nat) (f : Nat → List D) : Own :=
  match ar with
  | true => .arr el z n f
  | false => .row el z n

def buildSliceD (ar : Bool) (B : Tb) (own : Nat → Option Own) (dst : Option Tmp) (t : TypeId) (len : Nat) (parts : List (Nat × D)) : Option Stp :=
  match dst, B.ty t with
  | some k, .slice el z _ _ => match own k, B.zr el, fillD (fun i => some (i * z, z)) (List.replicate (len * z) .any) parts with
    | none, some _, some cs => fzA cs fun cs => some { d := mkH ar k z len (chunk z cs), p := cs.all D.plain = true ∧ 0 < z ∧ len * z ≤ 16777216, rd := [k], wr := [(k, mkO ar el z len (chunk z cs))] }
    | _, _, _ => none
  | _, _ => none

/-- What stands at place i once more elements lie behind the first len. -/
def catF (len : Nat) (f : Nat → List D) (m : Nat) (g : Nat → List D) : Nat → List D := fun i => if i < len then f i else if i < len + m then g (i - len) else f i

def elemsOf : D → Option (Nat × Nat × (Nat → List D))
  | .sl e n f | .gs _ e n f => some (e, n, f)
  | .se e _ => some (e, 0, fun _ => [])
  | _ => none

def zeroOk (B : Tb) (el z : Nat) : Bool :=
  match B.zr el with
  | some zd => Nat.beq zd.cells.length z && zd.solid
  | none => false

def bytesF (l : List UInt8) : Nat → List D := fun i => [.i .u8 ((l.getD i 0).toNat : Int)]

/-- What is appended. -/
def srcD (B : Tb) (t t2 el : TypeId) (y : D) : Option (Nat × Nat × (Nat → List D)) :=
  match y with
  | .s l => match B.ty t2, B.ty el with
    | .str, .int .u8 => some (1, l.length, bytesF l)
    | _, _ => none
  | y => match Nat.beq t t2 with
    | true => elemsOf y
    | false => none

/-- To a slice without room: a new row. -/
def appendN (ar : Bool) (own : Nat → Option Own) (dst : Option Tmp) (el z by' e2 m : Nat) (g : Nat → List D) : Option Stp :=
  match dst with
  | some k => match own k with
    | none => some { d := mkH ar k z m g, p := e2 = z ∧ 0 < z ∧ m ≤ 9223372036854775807 ∧ m * by' ≤ 140737488355328, rd := [k], wr := [(k, mkO ar el z m g)] }
    | some _ => none
  | none => none

def appendD (ar : Bool) (B : Tb) (own : Nat → Option Own) (dst : Option Tmp) (t t2 : TypeId) (x y : D) : Option Stp :=
  match B.ty t with
  | .slice el z _ by' => match zeroOk B el z, srcD B t t2 el y with
    | true, some (e2, m, g) => match x with
      | .gs k e n f => match own k with
        | some (.row el' e' L) => some { d := .gs k e (n + m) (catF n f m g), p := e = z ∧ e2 = z ∧ e' = z ∧ el' = el ∧ n = L ∧ 0 < z ∧ n + m ≤ 9223372036854775807 ∧ (n + m) * by' ≤ 140737488355328, rd := [k], wr := [(k, .row el z (L + m))] }
        | _ => none
      | .ah k e n => match own k with
        | some (.arr el' e' L f) => some { d := .ah k e (n + m), p := e = z ∧ e2 = z ∧ e' = z ∧ el' = el ∧ n = L ∧ 0 < z ∧ n + m ≤ 9223372036854775807 ∧ (n + m) * by' ≤ 140737488355328, rd := [k], wr := [(k, .arr el z (L + m) (catF L f m g))] }
        | _ => none
      | .nilS => appendN ar own dst el z by' e2 m g
      | .e0 z' => match Nat.beq z' z with
        | true => appendN ar own dst el z by' e2 m g
        | false => none
      | _ => none
    | _, _ => none
  | _ => none

/-- Elements of noughts. -/
def makeD (B : Tb) (own : Nat → Option Own) (dst : Option Tmp) (t : TypeId) (l c : D) : Option Stp :=
  match dst, B.ty t, l, c with
  | some k, .slice el z _ by', .i _ n, .i _ m => match own k, B.zr el with
    | none, some zd => fzA zd.cells fun cs => some { d := .ah k z n.toNat, p := 0 ≤ n ∧ n ≤ m ∧ m ≤ 9223372036854775807 ∧ (by' : Int) * m ≤ 281474976710656 ∧ cs.length = z ∧ zd.solid = true ∧ cs.all D.plain = true ∧ 0 < z, rd := [k], wr := [(k, .arr el z n.toNat (fun _ => cs))] }
    | _, _ => none
  | _, _, _, _ => none

/-- The byte that an element's cells tell. -/
def byteOf : List D → UInt8
  | [.i _ n] => UInt8.ofNat n.toNat
  | _ => 0

def bytesOf (len : Nat) (f : Nat → List D) : List UInt8 := (List.range len).map fun i => byteOf (f i)

def convertD (B : Tb) (src dst : TypeId) (x : D) : Option Stp :=
  match x with
  | .i _ n => match B.ty src, B.ty dst with
    | .int _, .int k => Stp.pure (.i k (k.wrap n))
    | _, _ => none
  | .s l => match B.ty src, B.ty dst with
    | .str, .str => Stp.pure (.s l)
    | .str, .slice e 1 _ _ => match B.ty e with
      | .int .u8 => Stp.pure (.sl 1 l.length (bytesF l)) (l.length < 9223372036854775807)
      | _ => none
    | _, _ => none
  | .nilS => match B.ty src, B.ty dst with
    | .slice e _ _ _, .str => match B.ty e with
      | .int .u8 => Stp.pure (.s [])
      | _ => none
    | _, _ => none
  | .sl z len f | .gs _ z len f => match B.ty src, B.ty dst with
    | .slice e _ _ _, .str => match B.ty e with
      | .int .u8 => Stp.pure (.s (bytesOf len f)) (z = 1 ∧ ∀ i, i < len → ∃ n, f i = [.i .u8 n])
      | _ => none
    | _, _ => none
  | _ => none

def extractD (x : D) (j : Nat) : Option Stp :=
  match x with
  | .tu vs => match vs[j]? with
    | some d => fz d fun d => Stp.pure d
    | none => none
  | _ => none

def nilCheckD : D → Option Stp
  | .pv k o => Stp.pure (.pv k o)
  | .rf c o => Stp.pure (.rf c o)
  | .ap k e n i o => Stp.pure (.ap k e n i o)
  | _ => none

def boundsD (len : Nat) (ev : Operand → D) (lo hi : Option Operand) : Option (Int × Int) :=
  match lo, hi with
  | none, none => some (0, len)
  | some a, none => match ev a with | .i _ n => some (n, len) | _ => none
  | none, some b => match ev b with | .i _ m => some (0, m) | _ => none
  | some a, some b => match ev a, ev b with | .i _ n, .i _ m => some (n, m) | _, _ => none

def sliceD (B : Tb) (t : TypeId) (ev : Operand → D) (x : D) (lo hi : Option Operand) : Option Stp :=
  match x, B.ty t with
  | .s l, .str => match boundsD l.length ev lo hi with
    | some (n, m) => Stp.pure (.s ((l.take m.toNat).drop n.toNat)) (0 ≤ n ∧ n ≤ m ∧ m ≤ l.length)
    | none => none
  | .sl z len f, .slice _ z' _ _ => match boundsD len ev lo hi with
    | some (n, m) => Stp.pure (.sl z (m.toNat - n.toNat) (fun i => f (n.toNat + i))) (0 ≤ n ∧ n ≤ m ∧ m ≤ len ∧ z' = z)
    | none => none
  | .gs _ z len f, .slice _ z' _ _ => match boundsD len ev lo hi with
    | some (n, m) => Stp.pure (.sl z (m.toNat - n.toNat) (fun i => f (n.toNat + i))) (0 ≤ n ∧ n ≤ m ∧ m ≤ len ∧ z' = z)
    | none => none
  | _, _ => none

/-- x[:0:0]. -/
def slice0D (B : Tb) (t : TypeId) (x lo hi mx : D) : Option Stp :=
  match B.ty t, lo, hi, mx with
  | .slice _ z' _ _, .i _ l, .i _ h, .i _ m => match x with
    | .sl z _ _ | .gs _ z _ _ => Stp.pure (.e0 z) (l = 0 ∧ h = 0 ∧ m = 0 ∧ z' = z)
    | .nilS => Stp.pure (.e0 z') (l = 0 ∧ h = 0 ∧ m = 0)
    | _ => none
  | _, _, _, _ => none

def unD (op : UnOp) (x : D) : Option Stp :=
  match op, x with
  | .not, .b c => Stp.pure (.b (!c))
  | .neg, .i k n => addK k (-n)
  | _, _ => none

def evParts (e : Operand → D) : List (Nat × Operand) → List (Nat × D)
  | [] => []
  | (i, x) :: r => (i, e x) :: evParts e r

/-- An operation that is no call of a Go function. -/
def stepK (ar : Bool) (B : Tb) (e : Operand → D) (own : Nat → Option Own) (o : Oper) : Option Stp :=
  match o.op with
  | .move x | .assign x => fz (e x) fun d => Stp.pure d
  | .pick c a b => pickD (e c) (e a) (e b)
  | .binOp op t x y _ => binD B op t (e x) (e y)
  | .unOp op _ x => unD op (e x)
  | .convert s t x => convertD B s t (e x)
  | .index t x ix => idxD B t (e x) (e ix)
  | .indexAddr t x ix => idxAddrD B t (e x) (e ix)
  | .fieldAddr t x j => fieldAddrD B t (e x) j
  | .field t x j => fieldD B t (e x) j
  | .load t a => loadD B own t (e a)
  | .store t a x => match e a with
    | .ap .. => storeA B own t (e a) (e x)
    | _ => storeD B own t (e a) (e x)
  | .alloc t => match B.zr t with
    | some d => boxD own o.dst d
    | none => none
  | .box _ x => boxD own o.dst (e x)
  | .build t parts => buildD B t (evParts e parts.toList)
  | .buildSlice t len parts => buildSliceD ar B own o.dst t len (evParts (fun x => (e x).shutA) parts.toList)
  | .extract x j => extractD (e x) j
  | .nilCheck x => nilCheckD (e x)
  | .slice t x lo hi none => sliceD B t e (e x) lo hi
  | .slice t x none (some hi) (some mx) => slice0D B t (e x) (.i .i64 0) (e hi) (e mx)
  | .slice t x (some lo) (some hi) (some mx) => slice0D B t (e x) (e lo) (e hi) (e mx)
  | .makeSlice t l c => makeD B own o.dst t (e l) (e c)
  | .makeFunc (.func f) ⟨[]⟩ ⟨cs⟩ => fzA (cs.map e) fun l => Stp.pure (.fn f l)
  | .call { callee := .builtin .len, args := ⟨[x]⟩, argTypes := ⟨[t]⟩ } => lenD B t (e x)
  | .call { callee := .builtin .append, args := ⟨[x, y]⟩, argTypes := ⟨[t, t2]⟩ } => appendD ar B own o.dst t t2 (e x) (e y)
  | .call { callee := .builtin .max, args := ⟨[x, y]⟩, .. } => maxD (e x) (e y)
  | .call { callee := .builtin .min, args := ⟨[x, y]⟩, .. } => minD (e x) (e y)
  | _ => none

abbrev step := stepK false

end Go.Proofs.YteidmimpkipcfaaDoor.Flow
