/- The texts FlowA, FlowB, one behind the other. -/
import Derived.Test.YtkkaamhocpmhkaaGreatDoorProg
import Derived.WalkKit
namespace Go.Proofs.YtkkaamhocpmhkaaGreatDoor.Flow
theorem le_ {a b : Nat} (h : Nat.ble a b = true) : a ≤ b := Nat.le_of_ble_eq_true h
theorem tf_ {p : Prop} (h : true = false) : p := Bool.noConfusion h
theorem ft_ {p : Prop} (h : false = true) : p := Bool.noConfusion h
end Go.Proofs.YtkkaamhocpmhkaaGreatDoor.Flow

namespace Go.Proofs.YtkkaamhocpmhkaaGreatDoor.Flow
inductive D where
  | any
  | i (k : IntKind) (n : Int)
  | b (x : Bool)
  | s (l : List UInt8)
  | nilS
  | v (x : Value)
  | fn (f : FuncId) (cs : List D)
  | ag (cs : List D)
  | tu (vs : List D)
  | sl (esz len : Nat) (f : Nat → List D)
  | rf (cs : List D) (off : Nat)
  | pv (k off : Nat)
  | gs (k esz len : Nat) (f : Nat → List D)
  | ah (k esz len : Nat)
  | ap (k esz len i off : Nat)
  | e0 (esz : Nat)
  | se (esz : Nat) (b : Bool)
  | rn (k : IntKind) (len : Nat) (f : Nat → Int) (off : Nat)
  | mh (k : Nat)
instance : Inhabited D := ⟨.any⟩
inductive Own where
  | var (cs : List D)
  | row (e : TypeId) (esz len : Nat)
  | arr (e : TypeId) (esz len : Nat) (f : Nat → List D)
  | ob (x : Obj)
  | bld (T : TypeId) (d : D)
  | mp (es : List (List UInt8 × D))
  | bm (e : TypeId) (len : Nat) (f : Nat → Int)
  | gone
structure St where
  fr : List (Nat × D)
  own : List (Nat × Own)
  n : Nat
def look {α : Type} (t : Nat) : List (Nat × α) → Option α
  | [] => none
  | (u, d) :: r => match Nat.beq u t with
    | true => some d
    | false => look t r
def getD' (t : Nat) : List (Nat × D) → D
  | [] => .any
  | (u, d) :: r => match Nat.beq u t with
    | true => d
    | false => getD' t r
def ofVal : Value → D
  | .int k n => .i k n
  | .bool b => .b b
  | .string s => .s s.data.toList
  | .slice none 0 0 => .nilS
  | .agg cs => .ag (cs.toList.map fun
      | .int k n => .i k n
      | .bool b => .b b
      | .string s => .s s.data.toList
      | .slice none 0 0 => .nilS
      | x => .v x)
  | .tuple _ => .any
  | x => .v x
def firstZ (c : Nat) : Int :=
  if c < 128 then 240 else if c < 194 then 241 else if c < 224 then 2 else if c = 224 then 19 else if c < 237 then 3 else if c = 237 then 35 else if c < 240 then 3 else if c = 240 then 52 else if c < 244 then 4 else if c = 244 then 68 else 241
def accZ (j : Nat) : Int :=
  match j with
  | 0 => 128 | 1 => 191 | 2 => 160 | 3 => 191 | 4 => 128 | 5 => 159 | 6 => 144 | 7 => 191 | 8 => 128 | 9 => 143 | _ => 0
def powZ (j : Nat) : Int := ((10 ^ j : Nat) : Int)
def glob : Nat → D
  | 0 => .rn .u8 256 firstZ 0
  | 1 => .rn .u8 32 accZ 0
  | 2 => .rn .u64 20 powZ 0
  | _ => .any
def globLen : Nat → Option Nat
  | 0 => some 256
  | 1 => some 32
  | 2 => some 20
  | _ => none
def globSome : Nat → Bool
  | 3 => true
  | _ => false
def ev (fr : List (Nat × D)) : Operand → D
  | .tmp t => getD' t fr
  | .const v => ofVal v
  | .global g => glob g
  | .func f => .fn f []
def D.one : D → Bool
  | .any | .ag _ | .tu _ => false
  | .v x => x.oneCell'
  | _ => true
def D.solid : D → Bool
  | .any | .tu _ => false
  | .v x => x.oneCell'
  | _ => true
def D.cells : D → List D
  | .ag cs => cs
  | d => [d]
def D.plain : D → Bool
  | .pv .. | .gs .. | .ah .. | .ap .. | .mh _ | .any | .ag _ | .tu _ => false
  | .fn _ cs => cs.isEmpty
  | .v x => x.oneCell'
  | _ => true
def D.shut : D → D
  | .gs _ e n f => .sl e n f
  | d => d
def D.shutA : D → D
  | .ag cs => .ag (cs.map D.shut)
  | d => d.shut
inductive Ty where
  | int (k : IntKind) | bool | str | slice (elem size : Nat) (agg : Bool) (bytes : Nat) | struct (fs : List (Nat × Nat × Bool)) | array (n elem size : Nat) (agg : Bool) | ptr (elem : Nat) | other
def szOf0 (P : Program) (t : TypeId) : Option (Nat × Bool) :=
  match P.info? t, P.underlying t with
  | some i, some d => some (i.size, match d with | .struct _ | .array _ _ => true | _ => false)
  | _, _ => none
def szOf (P : Program) (t : TypeId) : Option (Nat × Bool) :=
  match Nat.blt t P.types.size with
  | true => szOf0 P t
  | false => none
def tyOf0 (P : Program) (t : TypeId) : Ty :=
  match P.underlying t with
  | some (.int k) => .int k
  | some .bool => .bool
  | some .string => .str
  | some (.slice e) => match P.info? e, szOf P e with
    | some i, some (z, g) => .slice e z g i.bytes
    | _, _ => .other
  | some (.struct fs) => .struct (fs.toList.map fun f => (f.offset, match szOf P f.type with | some (z, g) => (z, g) | none => (0, false)))
  | some (.array n e) => match szOf P e with
    | some (z, g) => .array n e z g
    | none => .other
  | some (.pointer e) => .ptr e
  | _ => .other
def tyOf (P : Program) (t : TypeId) : Ty :=
  match Nat.blt t P.types.size with
  | true => tyOf0 P t
  | false => .other
def zeroD (P : Program) (t : TypeId) : Option D :=
  match Nat.blt t P.types.size with
  | true => match P.info? t with
    | some i => match i.zero with
      | some v => some (ofVal v)
      | none => none
    | none => none
  | false => none
def nth {α : Type} (d : α) : List α → Nat → α
  | [], _ => d
  | x :: _, 0 => x
  | _ :: r, n + 1 => nth d r n
def eqF (P : Program) : List Field → Option (List (Nat × Nat))
  | [] => some []
  | f :: r => match f.name == "_", szOf P f.type, P.underlying f.type, eqF P r with
    | false, some (1, false), some (.int _), some l => some ((f.offset, 0) :: l)
    | false, some (1, false), some .bool, some l => some ((f.offset, 1) :: l)
    | false, some (1, false), some .string, some l => some ((f.offset, 2) :: l)
    | _, _, _, _ => none
def eqOf0 (P : Program) (t : TypeId) : Option (List (Nat × Nat)) :=
  match P.underlying t with
  | some (.struct fs) => match P.stoodInHeld t with
    | false => eqF P fs.toList
    | true => none
  | _ => none
def eqOf (P : Program) (t : TypeId) : Option (List (Nat × Nat)) :=
  match Nat.blt t P.types.size with
  | true => eqOf0 P t
  | false => none
def at2 {α : Type} (d : α) (l : List (List α)) (t : Nat) : α := nth d (nth [] l (t / 12)) (t % 12)
theorem zlq {α : Type} (d : α) : ∀ (l : List α) (n : Nat), l.length ≤ n → nth d l n = d
  | [], _, _ => rfl
  | _ :: _, 0, h => by simp at h
  | _ :: r, n + 1, h => zlq d r n (by simpa using h)
theorem zmH {α : Type} (d : α) (l : List (List α)) (t : Nat) (h : 12 * l.length ≤ t) : at2 d l t = d := by
  unfold at2
  rw [zlq [] l (t / 12) (by omega)]
  rfl
theorem zdb {α : Type} {f : Nat → α} {d : α} {l : List (List α)} {N : Nat} (hN : 12 * l.length = N) (h : (List.range N).map f = (List.range N).map (at2 d l)) (hf : ∀ t, N ≤ t → f t = d) : f = at2 d l := by
  funext t
  by_cases ht : t < N
  · have h1 : ((List.range N).map f)[t]? = ((List.range N).map (at2 d l))[t]? := by rw [h]
    simpa [ht] using h1
  · rw [hf t (by omega), zmH d l t (by omega)]
structure Tb where
  ty : TypeId → Ty
  sz : TypeId → Option (Nat × Bool)
  zr : TypeId → Option D
  eq : TypeId → Option (List (Nat × Nat))
def tb (P : Program) : Tb := ⟨tyOf P, szOf P, zeroD P, eqOf P⟩
structure Stp where
  d : D
  p : Prop
  rd : List Nat := []
  wr : List (Nat × Own) := []
def Stp.pure (d : D) (p : Prop := True) : Option Stp := some { d, p }
def fzL {α : Type} : List D → (List D → Option α) → Option α
  | [], K => K []
  | a :: r, K => fzL r fun r => K (a :: r)
def fz {α : Type} (d : D) (K : D → Option α) : Option α :=
  match d with
  | .any => K .any
  | .i k n => K (.i k n)
  | .b x => K (.b x)
  | .s l => K (.s l)
  | .nilS => K .nilS
  | .v x => K (.v x)
  | .fn f cs => K (.fn f cs)
  | .ag cs => fzL cs fun cs => K (.ag cs)
  | .tu cs => K (.tu cs)
  | .sl e n f => K (.sl e n f)
  | .rf cs o => K (.rf cs o)
  | .pv k o => K (.pv k o)
  | .gs k e n f => K (.gs k e n f)
  | .ah k e n => K (.ah k e n)
  | .ap k e n i o => K (.ap k e n i o)
  | .e0 z => K (.e0 z)
  | .se z b => K (.se z b)
  | .rn k n f o => K (.rn k n f o)
  | .mh k => K (.mh k)
theorem ziT {α : Type} : ∀ (l : List D) (K : List D → Option α), fzL l K = K l
  | [], _ => rfl
  | a :: r, K => ziT r fun r => K (a :: r)
theorem zbs {α : Type} (d : D) (K : D → Option α) : fz d K = K d := by
  cases d <;> first | rfl | exact ziT _ _
def fzA {α : Type} : List D → (List D → Option α) → Option α
  | [], K => K []
  | a :: r, K => fz a fun a => fzA r fun r => K (a :: r)
theorem zbx {α : Type} : ∀ (l : List D) (K : List D → Option α), fzA l K = K l
  | [], _ => rfl
  | a :: r, K => (zbs a _).trans (zbx r fun r => K (a :: r))
abbrev InI (n : Int) : Prop := -9223372036854775808 ≤ n ∧ n ≤ 9223372036854775807
def addK (k : IntKind) (n : Int) : Option Stp :=
  match k with
  | .i64 => Stp.pure (.i .i64 n) (InI n)
  | k => Stp.pure (.i k (k.wrap n))
def cmpD (op : BinOp) (a b : Int) : Option Stp :=
  match op with
  | .eql => Stp.pure (.b (a == b))
  | .neq => Stp.pure (.b (a != b))
  | .lss => Stp.pure (.b (decide (a < b)))
  | .leq => Stp.pure (.b (decide (a ≤ b)))
  | .gtr => Stp.pure (.b (decide (b < a)))
  | .geq => Stp.pure (.b (decide (b ≤ a)))
  | _ => none
def intD (op : BinOp) (k : IntKind) (a b : Int) : Option Stp :=
  match op with
  | .add => addK k (a + b)
  | .sub => addK k (a - b)
  | .mul => addK k (a * b)
  | .quo => Stp.pure (.i k (a / b)) (0 ≤ a ∧ 0 < b ∧ k.wrap (a / b) = a / b)
  | .rem => Stp.pure (.i k (a % b)) (0 ≤ a ∧ 0 < b)
  | .and | .or | .xor | .andNot => Stp.pure (.i k (bits op k a b))
  | op => cmpD op a b
def strD (op : BinOp) (x y : List UInt8) : Option Stp :=
  match op with
  | .add => Stp.pure (.s (x ++ y)) (x.length + y.length ≤ 9223372036854775807)
  | .eql => Stp.pure (.b (x == y))
  | .neq => Stp.pure (.b (!(x == y)))
  | .lss => Stp.pure (.b (Op.bytesLess x y))
  | .leq => Stp.pure (.b (Op.bytesLess x y || x == y))
  | .gtr => Stp.pure (.b (!(Op.bytesLess x y || x == y)))
  | .geq => Stp.pure (.b (!(Op.bytesLess x y)))
  | _ => none
def kN : IntKind → Nat
  | .i8 => 0 | .i16 => 1 | .i32 => 2 | .i64 => 3 | .u8 => 4 | .u16 => 5 | .u32 => 6 | .u64 => 7
theorem zlx {a b : IntKind} (h : Nat.beq (kN a) (kN b) = true) : a = b := by cases a <;> cases b <;> first | rfl | cases h
def bitsK {α : Type} (k : IntKind) (K : Int → α) : α :=
  match k with
  | .i8 => K 8 | .i16 => K 16 | .i32 => K 32 | .i64 => K 64 | .u8 => K 8 | .u16 => K 16 | .u32 => K 32 | .u64 => K 64
def isSh : BinOp → Bool
  | .shl | .shr => true
  | _ => false
def shD (op : BinOp) (k : IntKind) (a b : Int) : Option Stp :=
  match op with
  | .shl => match k with
    | .i64 => Stp.pure (.i .i64 (a * 2 ^ b.toNat)) (0 ≤ b ∧ b ≤ 64 ∧ InI (a * 2 ^ b.toNat))
    | k => bitsK k fun n => Stp.pure (.i k (k.wrap (a * 2 ^ b.toNat))) (0 ≤ b ∧ b ≤ n)
  | .shr => bitsK k fun n => Stp.pure (.i k (a / 2 ^ b.toNat)) (0 ≤ b ∧ b ≤ n)
  | _ => none
def maxD (x y : D) : Option Stp :=
  match x, y with
  | .i k a, .i _ b => Stp.pure (.i k (max a b))
  | _, _ => none
def minD (x y : D) : Option Stp :=
  match x, y with
  | .i k a, .i _ b => Stp.pure (.i k (min a b))
  | _, _ => none
def eqC : Nat → D → D → Option Bool
  | 0, .i k a, .i k' b => match Nat.beq (kN k) (kN k') with
    | true => some (a == b)
    | false => none
  | 1, .b a, .b b => some (a == b)
  | 2, .s a, .s b => some (a == b)
  | _, _, _ => none
def eqCs (xs ys : List D) : List (Nat × Nat) → Option Bool
  | [] => some true
  | (o, c) :: r => match eqC c (xs.getD o .any) (ys.getD o .any), eqCs xs ys r with
    | some a, some b => some (a && b)
    | _, _ => none
def eqS (B : Tb) (op : BinOp) (t : TypeId) (xs ys : List D) : Option Stp :=
  match B.eq t with
  | some l => match eqCs xs ys l, op with
    | some b, .eql => Stp.pure (.b b)
    | some b, .neq => Stp.pure (.b (!b))
    | _, _ => none
  | none => none
def eqA (B : Tb) (op : BinOp) (t : TypeId) (xs ys : List D) : Option Stp :=
  match xs, ys, B.ty t with
  | [.s a, .s b], [.s c, .s d], .array 2 e 1 false => match B.ty e, op with
    | .str, .eql => Stp.pure (.b ((a == c) && (b == d)))
    | .str, .neq => Stp.pure (.b (!((a == c) && (b == d))))
    | _, _ => none
  | xs, ys, .struct _ => eqS B op t xs ys
  | _, _, _ => none
def eqN (B : Tb) (op : BinOp) (t : TypeId) (b : Bool) (p : Prop) : Option Stp :=
  match B.ty t, op with
  | .slice .., .eql => Stp.pure (.b b) p
  | .slice .., .neq => Stp.pure (.b (!b)) p
  | _, _ => none
def binD (B : Tb) (op : BinOp) (t : TypeId) (x y : D) : Option Stp :=
  match x, y with
  | .i k a, .i k' b => match isSh op with
    | true => shD op k a b
    | false => match Nat.beq (kN k) (kN k') with
      | true => intD op k a b
      | false => none
  | .s a, .s b => strD op a b
  | .b a, .b b => match op, B.ty t with
    | .eql, .bool => Stp.pure (.b (a == b))
    | .neq, .bool => Stp.pure (.b (!(a == b)))
    | _, _ => none
  | .nilS, .nilS => eqN B op t true True
  | .se _ b, .nilS => eqN B op t (!b) True
  | .sl z n _, .nilS => eqN B op t false (0 < z ∧ 0 < n)
  | .ag xs, .ag ys => eqA B op t xs ys
  | _, _ => none
def pickD (c x y : D) : Option Stp :=
  match c with
  | .b c => match c with
    | true => fz x fun x => Stp.pure x
    | false => fz y fun y => Stp.pure y
  | _ => none
def lenD (B : Tb) (t : TypeId) (x : D) : Option Stp :=
  match x, B.ty t with
  | .s l, .str => Stp.pure (.i .i64 l.length)
  | .nilS, .slice .. => Stp.pure (.i .i64 0)
  | .sl _ n _, .slice .. => Stp.pure (.i .i64 n)
  | .gs _ _ n _, .slice .. => Stp.pure (.i .i64 n)
  | .ah _ _ n, .slice .. => Stp.pure (.i .i64 n)
  | .e0 _, .slice .. => Stp.pure (.i .i64 0)
  | .se _ _, .slice .. => Stp.pure (.i .i64 0)
  | _, _ => none
def partD (z : Nat × Bool) (cs : List D) (off : Nat) : D :=
  match z.2 with
  | true => .ag ((cs.drop off).take z.1)
  | false => cs.getD off .any
def partP (z : Nat × Bool) (cs : List D) (off : Nat) : Prop := off + (match z.2 with | true => z.1 | false => 1) ≤ cs.length
def at' (s : List UInt8) (i : Int) : Int := ((s.getD i.toNat 0).toNat : Int)
def idxD (B : Tb) (t : TypeId) (x ix : D) : Option Stp :=
  match x, ix, B.ty t with
  | .s l, .i _ n, .str => Stp.pure (.i .u8 (at' l n)) (0 ≤ n ∧ n < l.length)
  | .ag cs, .i _ n, .array m _ z g => fz (partD (z, g) cs (n.toNat * z)) fun d => Stp.pure d (0 ≤ n ∧ n < m ∧ partP (z, g) cs (n.toNat * z))
  | _, _, _ => none
def idxAddrD (B : Tb) (t : TypeId) (x ix : D) : Option Stp :=
  match B.ty t, x, ix with
  | .slice _ z _ _, .sl e len f, .i _ n => Stp.pure (.rf (f n.toNat) 0) (0 ≤ n ∧ n < len ∧ e = z ∧ 0 < e)
  | .slice _ z _ _, .gs _ e len f, .i _ n => Stp.pure (.rf (f n.toNat) 0) (0 ≤ n ∧ n < len ∧ e = z ∧ 0 < e)
  | .slice _ z _ _, .ah k e len, .i _ n => Stp.pure (.ap k e len n.toNat 0) (0 ≤ n ∧ n < len ∧ e = z)
  | .array m _ z _, .ap k e len i off, .i _ n => Stp.pure (.ap k e len i (off + n.toNat * z)) (0 ≤ n ∧ n < m)
  | .array m _ z _, .rn k len f off, .i _ n => Stp.pure (.rn k len f (off + n.toNat * z)) (0 ≤ n ∧ n < m)
  | .array m _ z _, .rf cs off, .i _ n => Stp.pure (.rf cs (off + n.toNat * z)) (0 ≤ n ∧ n < m)
  | .array m _ z _, .pv k off, .i _ n => Stp.pure (.pv k (off + n.toNat * z)) (0 ≤ n ∧ n < m)
  | _, _, _ => none
def fieldAddrD (B : Tb) (t : TypeId) (x : D) (j : Nat) : Option Stp :=
  match B.ty t with
  | .struct fs => match fs[j]? with
    | some (off, z, _) => match z with
      | 0 => none
      | _ + 1 => match x with
        | .rf cs o => Stp.pure (.rf cs (o + off))
        | .pv k o => Stp.pure (.pv k (o + off))
        | .ap k e len i o => Stp.pure (.ap k e len i (o + off))
        | .rn k len f o => Stp.pure (.rn k len f (o + off))
        | _ => none
    | none => none
  | _ => none
def fieldD (B : Tb) (t : TypeId) (x : D) (j : Nat) : Option Stp :=
  match B.ty t with
  | .struct fs => match fs[j]?, x with
    | some (off, z), .ag cs => match z.1 with
      | 0 => none
      | _ + 1 => fz (partD z cs off) fun d => Stp.pure d (partP z cs off)
    | _, _ => none
  | _ => none
def tabD (k : IntKind) (f : Nat → Int) (off : Nat) : Nat → List D
  | 0 => []
  | m + 1 => .i k (f off) :: tabD k f (off + 1) m
def loadD (B : Tb) (own : Nat → Option Own) (t : TypeId) (a : D) : Option Stp :=
  match B.sz t with
  | none => none
  | some z => match a with
    | .rf cs off => fz (partD z cs off) fun d => Stp.pure d (partP z cs off)
    | .pv k off => match own k with
      | some (.var cs) => fz (partD z cs off) fun d => some { d := d, p := partP z cs off, rd := [k] }
      | _ => none
    | .rn k len f off => match z.2 with
      | true => fzL (tabD k f off z.1) fun cs => Stp.pure (.ag cs) (off + z.1 ≤ len)
      | false => Stp.pure (.i k (f off)) (off < len)
    | .ap k e len i off => match own k with
      | some (.arr _ e' L f) => fz (partD z (f i) off) fun d => some { d := d, p := len = L ∧ e = e' ∧ i < L ∧ partP z (f i) off, rd := [k] }
      | _ => none
    | _ => none
def putCells (cs : List D) (off : Nat) (ds : List D) : List D := cs.take off ++ ds ++ cs.drop (off + ds.length)
def storeD (B : Tb) (own : Nat → Option Own) (t : TypeId) (a x : D) : Option Stp :=
  match B.sz t, a with
  | some z, .pv k off => match own k with
    | some (.var cs) => fz x fun x => fzA (putCells cs off x.cells) fun cs' => some { d := .any, p := x.cells.length = z.1 ∧ off + x.cells.length ≤ cs.length ∧ x.solid = true ∧ x.cells.all D.one = true, rd := [k], wr := [(k, .var cs')] }
    | _ => none
  | _, _ => none
def putF (f : Nat → List D) (i : Nat) (cs : List D) : Nat → List D := fun j => if j = i then cs else f j
def storeA (B : Tb) (own : Nat → Option Own) (t : TypeId) (a x : D) : Option Stp :=
  match B.sz t, a with
  | some z, .ap k e len i off => match own k with
    | some (.arr el e' L f) => fz x fun x => some { d := .any, p := len = L ∧ e = e' ∧ i < L ∧ x.cells.length = z.1 ∧ off + x.cells.length ≤ e' ∧ x.solid = true ∧ x.cells.all D.plain = true, rd := [k], wr := [(k, .arr el e' L (putF f i (putCells (f i) off x.cells)))] }
    | _ => none
  | _, _ => none
def boxD (own : Nat → Option Own) (dst : Option Tmp) (x : D) : Option Stp :=
  match dst with
  | some k => match own k with
    | none => fzA x.cells fun cs => some { d := .pv k 0, p := x.solid = true ∧ cs.all D.one = true, rd := [k], wr := [(k, .var cs)] }
    | some _ => none
  | none => none
def fillD (place : Nat → Option (Nat × Nat)) (cells : List D) : List (Nat × D) → Option (List D)
  | [] => some cells
  | (i, x) :: rest => match place i with
    | none => none
    | some (off, size) => match Nat.beq x.cells.length size && Nat.ble (off + size) cells.length && x.solid with
      | true => fzA (putCells cells off x.cells) fun cells => fillD place cells rest
      | false => none
def buildD (B : Tb) (t : TypeId) (parts : List (Nat × D)) : Option Stp :=
  match B.zr t, B.ty t with
  | some z, .struct fs => match fs.all (fun f => !(Nat.beq f.2.1 0)) && z.solid, fillD (fun i => (fs.map fun f => (f.1, f.2.1))[i]?) z.cells parts with
    | true, some cs => fzA cs fun cs => Stp.pure (.ag cs)
    | _, _ => none
  | some z, .array _ _ size _ => match z.solid, fillD (fun i => some (i * size, size)) z.cells parts with
    | true, some cs => fzA cs fun cs => Stp.pure (.ag cs)
    | _, _ => none
  | _, _ => none
def chunk (z : Nat) (cs : List D) : Nat → List D := fun i => (cs.drop (i * z)).take z
def mkH (ar : Bool) (k z n : Nat) (f : Nat → List D) : D :=
  match ar with
  | true => .ah k z n
  | false => .gs k z n f
def mkO (ar : Bool) (el : TypeId) (z n : Nat) (f : Nat → List D) : Own :=
  match ar with
  | true => .arr el z n f
  | false => .row el z n
def buildSliceD (ar : Bool) (B : Tb) (own : Nat → Option Own) (dst : Option Tmp) (t : TypeId) (len : Nat) (parts : List (Nat × D)) : Option Stp :=
  match dst, B.ty t with
  | some k, .slice el z _ _ => match own k, B.zr el, fillD (fun i => some (i * z, z)) (List.replicate (len * z) .any) parts with
    | none, some _, some cs => fzA cs fun cs => some { d := mkH ar k z len (chunk z cs), p := cs.all D.plain = true ∧ 0 < z ∧ len * z ≤ 16777216, rd := [k], wr := [(k, mkO ar el z len (chunk z cs))] }
    | _, _, _ => none
  | _, _ => none
def catF (len : Nat) (f : Nat → List D) (m : Nat) (g : Nat → List D) : Nat → List D := fun i => if i < len then f i else if i < len + m then g (i - len) else f i
def elemsOf : D → Option (Nat × Nat × (Nat → List D))
  | .sl e n f | .gs _ e n f => some (e, n, f)
  | .se e _ => some (e, 0, fun _ => [])
  | _ => none
def zeroOk (B : Tb) (el z : Nat) : Bool :=
  match B.zr el with
  | some zd => Nat.beq zd.cells.length z && zd.solid
  | none => false
def bytesF (l : List UInt8) : Nat → List D := fun i => [.i .u8 ((l.getD i 0).toNat : Int)]
def srcD (B : Tb) (t t2 el : TypeId) (y : D) : Option (Nat × Nat × (Nat → List D)) :=
  match y with
  | .s l => match B.ty t2, B.ty el with
    | .str, .int .u8 => some (1, l.length, bytesF l)
    | _, _ => none
  | y => match Nat.beq t t2 with
    | true => elemsOf y
    | false => none
def appendN (ar : Bool) (own : Nat → Option Own) (dst : Option Tmp) (el z by' e2 m : Nat) (g : Nat → List D) : Option Stp :=
  match dst with
  | some k => match own k with
    | none => some { d := mkH ar k z m g, p := e2 = z ∧ 0 < z ∧ m ≤ 9223372036854775807 ∧ m * by' ≤ 140737488355328, rd := [k], wr := [(k, mkO ar el z m g)] }
    | some _ => none
  | none => none
def appendD (ar : Bool) (B : Tb) (own : Nat → Option Own) (dst : Option Tmp) (t t2 : TypeId) (x y : D) : Option Stp :=
  match B.ty t with
  | .slice el z _ by' => match zeroOk B el z, srcD B t t2 el y with
    | true, some (e2, m, g) => match x with
      | .gs k e n f => match own k with
        | some (.row el' e' L) => some { d := .gs k e (n + m) (catF n f m g), p := e = z ∧ e2 = z ∧ e' = z ∧ el' = el ∧ n = L ∧ 0 < z ∧ n + m ≤ 9223372036854775807 ∧ (n + m) * by' ≤ 140737488355328, rd := [k], wr := [(k, .row el z (L + m))] }
        | _ => none
      | .ah k e n => match own k with
        | some (.arr el' e' L f) => some { d := .ah k e (n + m), p := e = z ∧ e2 = z ∧ e' = z ∧ el' = el ∧ n = L ∧ 0 < z ∧ n + m ≤ 9223372036854775807 ∧ (n + m) * by' ≤ 140737488355328, rd := [k], wr := [(k, .arr el z (L + m) (catF L f m g))] }
        | _ => none
      | .nilS => appendN ar own dst el z by' e2 m g
      | .e0 z' => match Nat.beq z' z with
        | true => appendN ar own dst el z by' e2 m g
        | false => none
      | _ => none
    | _, _ => none
  | _ => none
def makeD (B : Tb) (own : Nat → Option Own) (dst : Option Tmp) (t : TypeId) (l c : D) : Option Stp :=
  match dst, B.ty t, l, c with
  | some k, .slice el z _ by', .i _ n, .i _ m => match own k, B.zr el with
    | none, some zd => fzA zd.cells fun cs => some { d := .ah k z n.toNat, p := 0 ≤ n ∧ n ≤ m ∧ m ≤ 9223372036854775807 ∧ (by' : Int) * m ≤ 281474976710656 ∧ cs.length = z ∧ zd.solid = true ∧ cs.all D.plain = true ∧ 0 < z, rd := [k], wr := [(k, .arr el z n.toNat (fun _ => cs))] }
    | _, _ => none
  | _, _, _, _ => none
def byteOf : List D → UInt8
  | [.i _ n] => UInt8.ofNat n.toNat
  | _ => 0
def bytesOf (len : Nat) (f : Nat → List D) : List UInt8 := (List.range len).map fun i => byteOf (f i)
def convertD (B : Tb) (src dst : TypeId) (x : D) : Option Stp :=
  match x with
  | .i _ n => match B.ty src, B.ty dst with
    | .int _, .int k => Stp.pure (.i k (k.wrap n))
    | _, _ => none
  | .s l => match B.ty src, B.ty dst with
    | .str, .str => Stp.pure (.s l)
    | .str, .slice e 1 _ _ => match B.ty e with
      | .int .u8 => Stp.pure (.sl 1 l.length (bytesF l)) (l.length < 9223372036854775807)
      | _ => none
    | _, _ => none
  | .nilS => match B.ty src, B.ty dst with
    | .slice e _ _ _, .str => match B.ty e with
      | .int .u8 => Stp.pure (.s [])
      | _ => none
    | _, _ => none
  | .sl z len f | .gs _ z len f => match B.ty src, B.ty dst with
    | .slice e _ _ _, .str => match B.ty e with
      | .int .u8 => Stp.pure (.s (bytesOf len f)) (z = 1 ∧ ∀ i, i < len → ∃ n, f i = [.i .u8 n])
      | _ => none
    | _, _ => none
  | _ => none
def extractD (x : D) (j : Nat) : Option Stp :=
  match x with
  | .tu vs => match vs[j]? with
    | some d => fz d fun d => Stp.pure d
    | none => none
  | _ => none
def nilCheckD : D → Option Stp
  | .pv k o => Stp.pure (.pv k o)
  | .rf c o => Stp.pure (.rf c o)
  | .ap k e n i o => Stp.pure (.ap k e n i o)
  | _ => none
def boundsD (len : Nat) (ev : Operand → D) (lo hi : Option Operand) : Option (Int × Int) :=
  match lo, hi with
  | none, none => some (0, len)
  | some a, none => match ev a with | .i _ n => some (n, len) | _ => none
  | none, some b => match ev b with | .i _ m => some (0, m) | _ => none
  | some a, some b => match ev a, ev b with | .i _ n, .i _ m => some (n, m) | _, _ => none
def sliceD (B : Tb) (t : TypeId) (ev : Operand → D) (x : D) (lo hi : Option Operand) : Option Stp :=
  match x, B.ty t with
  | .s l, .str => match boundsD l.length ev lo hi with
    | some (n, m) => Stp.pure (.s ((l.take m.toNat).drop n.toNat)) (0 ≤ n ∧ n ≤ m ∧ m ≤ l.length)
    | none => none
  | .sl z len f, .slice _ z' _ _ => match boundsD len ev lo hi with
    | some (n, m) => Stp.pure (.sl z (m.toNat - n.toNat) (fun i => f (n.toNat + i))) (0 ≤ n ∧ n ≤ m ∧ m ≤ len ∧ z' = z)
    | none => none
  | .gs _ z len f, .slice _ z' _ _ => match boundsD len ev lo hi with
    | some (n, m) => Stp.pure (.sl z (m.toNat - n.toNat) (fun i => f (n.toNat + i))) (0 ≤ n ∧ n ≤ m ∧ m ≤ len ∧ z' = z)
    | none => none
  | _, _ => none
def slice0D (B : Tb) (t : TypeId) (x lo hi mx : D) : Option Stp :=
  match B.ty t, lo, hi, mx with
  | .slice _ z' _ _, .i _ l, .i _ h, .i _ m => match x with
    | .sl z _ _ | .gs _ z _ _ => Stp.pure (.e0 z) (l = 0 ∧ h = 0 ∧ m = 0 ∧ z' = z)
    | .nilS => Stp.pure (.e0 z') (l = 0 ∧ h = 0 ∧ m = 0)
    | _ => none
  | _, _, _, _ => none
def unD (op : UnOp) (x : D) : Option Stp :=
  match op, x with
  | .not, .b c => Stp.pure (.b (!c))
  | .neg, .i k n => addK k (-n)
  | _, _ => none
def evParts (e : Operand → D) : List (Nat × Operand) → List (Nat × D)
  | [] => []
  | (i, x) :: r => (i, e x) :: evParts e r
def stepK (ar : Bool) (B : Tb) (e : Operand → D) (own : Nat → Option Own) (o : Oper) : Option Stp :=
  match o.op with
  | .move x | .assign x => fz (e x) fun d => Stp.pure d
  | .pick c a b => pickD (e c) (e a) (e b)
  | .binOp op t x y _ => binD B op t (e x) (e y)
  | .unOp op _ x => unD op (e x)
  | .convert s t x => convertD B s t (e x)
  | .index t x ix => idxD B t (e x) (e ix)
  | .indexAddr t x ix => idxAddrD B t (e x) (e ix)
  | .fieldAddr t x j => fieldAddrD B t (e x) j
  | .field t x j => fieldD B t (e x) j
  | .load t a => loadD B own t (e a)
  | .store t a x => match e a with
    | .ap .. => storeA B own t (e a) (e x)
    | _ => storeD B own t (e a) (e x)
  | .alloc t => match B.zr t with
    | some d => boxD own o.dst d
    | none => none
  | .box _ x => boxD own o.dst (e x)
  | .build t parts => buildD B t (evParts e parts.toList)
  | .buildSlice t len parts => buildSliceD ar B own o.dst t len (evParts (fun x => (e x).shutA) parts.toList)
  | .extract x j => extractD (e x) j
  | .nilCheck x => nilCheckD (e x)
  | .slice t x lo hi none => sliceD B t e (e x) lo hi
  | .slice t x none (some hi) (some mx) => slice0D B t (e x) (.i .i64 0) (e hi) (e mx)
  | .slice t x (some lo) (some hi) (some mx) => slice0D B t (e x) (e lo) (e hi) (e mx)
  | .makeSlice t l c => makeD B own o.dst t (e l) (e c)
  | .makeFunc (.func f) ⟨[]⟩ ⟨cs⟩ => fzA (cs.map e) fun l => Stp.pure (.fn f l)
  | .call { callee := .builtin .len, args := ⟨[x]⟩, argTypes := ⟨[t]⟩ } => lenD B t (e x)
  | .call { callee := .builtin .append, args := ⟨[x, y]⟩, argTypes := ⟨[t, t2]⟩ } => appendD ar B own o.dst t t2 (e x) (e y)
  | .call { callee := .builtin .max, args := ⟨[x, y]⟩, .. } => maxD (e x) (e y)
  | .call { callee := .builtin .min, args := ⟨[x, y]⟩, .. } => minD (e x) (e y)
  | _ => none
abbrev step := stepK false
end Go.Proofs.YtkkaamhocpmhkaaGreatDoor.Flow

namespace Go.Proofs.YtkkaamhocpmhkaaGreatDoor.Flow
inductive Loc where
  | blk (b : Nat)
  | row (tv : Value) (L : Nat)
abbrev Rho := Nat → Option Loc
abbrev Cells := Nat → Nat → Prop
def Loc.block : Loc → Option Nat
  | .blk b => some b
  | .row (.slice (some a) _ _) _ => some a.block
  | .row _ _ => none
def LocLe : Loc → Loc → Prop
  | .blk b, .blk b' => b = b'
  | .row tv L, .row tv' L' => L ≤ L' ∧ (L = L' → tv' = tv)
  | _, _ => False
theorem LocLe.refl (l : Loc) : LocLe l l := by cases l <;> simp [LocLe]
theorem LocLe.trans {a b c : Loc} (h : LocLe a b) (k : LocLe b c) : LocLe a c := by
  cases a <;> cases b <;> cases c <;> simp_all [LocLe]
  · exact ⟨by omega, fun e => by
      have h1 := h.2 (by omega)
      have h2 := k.2 (by omega)
      rw [h2, h1]⟩
def RhoLe (r r' : Rho) : Prop := ∀ k l, r k = some l → ∃ l', r' k = some l' ∧ LocLe l l'
theorem RhoLe.refl (r : Rho) : RhoLe r r := fun _ l h => ⟨l, h, LocLe.refl l⟩
theorem RhoLe.trans {a b c : Rho} (h : RhoLe a b) (k : RhoLe b c) : RhoLe a c := fun i l hl =>
  let ⟨l1, h1, g1⟩ := h i l hl
  let ⟨l2, h2, g2⟩ := k i l1 h1
  ⟨l2, h2, g1.trans g2⟩
def noRho : Rho := fun _ => none
def Tip (v tv : Value) : Prop := v = tv ∨ (tv = .slice none 0 0 ∧ ∃ a, v = .slice a 0 0)
theorem Tip.refl (v : Value) : Tip v v := .inl rfl
inductive Rel (S : Cells) (w : World) : Rho → D → Value → Prop
  | any (r : Rho) (v : Value) : Rel S w r .any v
  | i (r : Rho) (k : IntKind) (n : Int) : Rel S w r (.i k n) (.int k n)
  | b (r : Rho) (x : Bool) : Rel S w r (.b x) (.bool x)
  | s (r : Rho) (l : List UInt8) : Rel S w r (.s l) (.string ⟨l.toArray⟩)
  | nilS (r : Rho) : Rel S w r .nilS (.slice none 0 0)
  | v (r : Rho) (x : Value) : Rel S w r (.v x) x
  | fn (r : Rho) (f : FuncId) (cs : List D) (vs : Array Value) (hn : vs.size = cs.length) (h : ∀ j, j < cs.length → Rel S w r (cs.getD j .any) (vs.getD j undef)) : Rel S w r (.fn f cs) (.func (.func f) #[] vs)
  | ag (r : Rho) (cs : List D) (vs : Array Value) (hn : vs.size = cs.length) (h : ∀ j, j < cs.length → Rel S w r (cs.getD j .any) (vs.getD j undef)) : Rel S w r (.ag cs) (.agg vs)
  | tu (r : Rho) (cs : List D) (vs : Array Value) (hn : vs.size = cs.length) (h : ∀ j, j < cs.length → Rel S w r (cs.getD j .any) (vs.getD j undef)) : Rel S w r (.tu cs) (.tuple vs)
  | sl (r : Rho) (esz len : Nat) (f : Nat → List D) (a : Option Addr) (cap : Nat) (c : Nat → Nat → Value) (hc : len ≤ cap) (hm : cap ≤ maxLen)
      (hl : ∀ i, i < len → (f i).length = esz ∧ (f i).all D.plain = true)
      (hcell : ∀ i j, i < len → j < esz → ∃ b o, a = some ⟨b, o, none⟩ ∧ S b (o + i * esz + j) ∧ w.cell? ⟨b, o + i * esz + j, none⟩ = some (c i j))
      (hr : ∀ i j, i < len → j < esz → Rel S w noRho ((f i).getD j .any) (c i j)) : Rel S w r (.sl esz len f) (.slice a len cap)
  | rf (r : Rho) (cs : List D) (off : Nat) (b o : Nat) (c : Nat → Value) (hp : cs.all D.plain = true)
      (hcell : ∀ j, j < cs.length → S b (o + j) ∧ w.cell? ⟨b, o + j, none⟩ = some (c j))
      (hr : ∀ j, j < cs.length → Rel S w noRho (cs.getD j .any) (c j)) : Rel S w r (.rf cs off) (.pointer (some ⟨b, o + off, none⟩))
  | pv (r : Rho) (k off b : Nat) (h : r k = some (.blk b)) : Rel S w r (.pv k off) (.pointer (some ⟨b, off, none⟩))
  | gs (r : Rho) (k esz len : Nat) (f : Nat → List D) (v tv : Value) (L : Nat) (h : Rel S w r (.sl esz len f) v) (hk : r k = some (.row tv L)) (hL : len ≤ L) (ht : len = L → Tip v tv) : Rel S w r (.gs k esz len f) v
  | ah (r : Rho) (k esz len cap : Nat) (a : Option Addr) (tv : Value) (L : Nat) (hk : r k = some (.row tv L)) (hL : len ≤ L) (ht : len = L → Tip (.slice a len cap) tv) (ha : 0 < len → ∃ g, a = some ⟨g, 0, none⟩) : Rel S w r (.ah k esz len) (.slice a len cap)
  | ap (r : Rho) (k esz len i off : Nat) (a : Addr) (tv : Value) (L : Nat) (hk : r k = some (.row tv L)) (hL : len ≤ L) (ht : len = L → ∃ g cap, tv = .slice (some ⟨g, 0, none⟩) len cap ∧ a = ⟨g, i * esz + off, none⟩)
      (ha : ∃ g o, a = ⟨g, o, none⟩) : Rel S w r (.ap k esz len i off) (.pointer (some a))
  | e0 (r : Rho) (z : Nat) (a : Option Addr) : Rel S w r (.e0 z) (.slice a 0 0)
  | rn (r : Rho) (k : IntKind) (len : Nat) (f : Nat → Int) (off b : Nat) (h : ∀ j, j < len → S b j ∧ w.cell? ⟨b, j, none⟩ = some (.int k (f j))) : Rel S w r (.rn k len f off) (.pointer (some ⟨b, off, none⟩))
  | mh (r : Rho) (k b : Nat) (h : r k = some (.blk b)) : Rel S w r (.mh k) (.map (some b))
  | se (r : Rho) (z : Nat) (b : Bool) (a : Option Addr) (cap : Nat) (hm : cap ≤ maxLen) (hb : a.isSome = b) : Rel S w r (.se z b) (.slice a 0 cap)
theorem Rel.mono {S S' : Cells} {w w' : World} {r : Rho} {d : D} {v : Value} (h : Rel S w r d v) (hS : ∀ b o, S b o → S' b o)
    (hw : ∀ b o, S b o → w'.cell? ⟨b, o, none⟩ = w.cell? ⟨b, o, none⟩) : ∀ r', RhoLe r r' → Rel S' w' r' d v := by
  induction h with
  | any r v => exact fun r' _ => .any r' v
  | i r k n => exact fun r' _ => .i r' k n
  | b r x => exact fun r' _ => .b r' x
  | s r l => exact fun r' _ => .s r' l
  | nilS r => exact fun r' _ => .nilS r'
  | v r x => exact fun r' _ => .v r' x
  | fn r f cs vs hn h ih => exact fun r' hr => .fn r' f cs vs hn (fun j hj => ih j hj r' hr)
  | ag r cs vs hn h ih => exact fun r' hr => .ag r' cs vs hn (fun j hj => ih j hj r' hr)
  | tu r cs vs hn h ih => exact fun r' hr => .tu r' cs vs hn (fun j hj => ih j hj r' hr)
  | sl r esz len f a cap c hc hm hl hcell hr ih =>
    refine fun r' _ => .sl r' esz len f a cap c hc hm hl (fun i j hi hj => ?_) (fun i j hi hj => ih i j hi hj noRho (RhoLe.refl _))
    obtain ⟨b, o, ha, hs, hcl⟩ := hcell i j hi hj
    exact ⟨b, o, ha, hS _ _ hs, by rw [hw _ _ hs]; exact hcl⟩
  | rf r cs off b o c hp hcell hr ih =>
    exact fun r' _ => .rf r' cs off b o c hp (fun j hj => ⟨hS _ _ (hcell j hj).1, by rw [hw _ _ (hcell j hj).1]; exact (hcell j hj).2⟩) (fun j hj => ih j hj noRho (RhoLe.refl _))
  | pv r k off b h =>
    intro r' hr
    obtain ⟨l', h1, h2⟩ := hr k _ h
    cases l' with
    | blk b' => simp only [LocLe] at h2; subst h2; exact .pv r' k off b h1
    | row => simp [LocLe] at h2
  | mh r k b h =>
    intro r' hr
    obtain ⟨l', h1, h2⟩ := hr k _ h
    cases l' with
    | blk b' => simp only [LocLe] at h2; subst h2; exact .mh r' k b h1
    | row => simp [LocLe] at h2
  | gs r k esz len f v tv L h hk hL ht ih =>
    intro r' hr
    obtain ⟨l', h1, h2⟩ := hr k _ hk
    cases l' with
    | blk b' => simp [LocLe] at h2
    | row tv' L' =>
      simp only [LocLe] at h2
      exact .gs r' k esz len f v tv' L' (ih r' hr) h1 (by omega) (fun e => by rw [h2.2 (by omega)]; exact ht (by omega))
  | ah r k esz len cap a tv L hk hL ht ha =>
    intro r' hr
    obtain ⟨l', h1, h2⟩ := hr k _ hk
    cases l' with
    | blk b' => simp [LocLe] at h2
    | row tv' L' =>
      simp only [LocLe] at h2
      exact .ah r' k esz len cap a tv' L' h1 (by omega) (fun e => by rw [h2.2 (by omega)]; exact ht (by omega)) ha
  | ap r k esz len i off a tv L hk hL ht ha =>
    intro r' hr
    obtain ⟨l', h1, h2⟩ := hr k _ hk
    cases l' with
    | blk b' => simp [LocLe] at h2
    | row tv' L' =>
      simp only [LocLe] at h2
      exact .ap r' k esz len i off a tv' L' h1 (by omega) (fun e => by rw [h2.2 (by omega)]; exact ht (by omega)) ha
  | e0 r z a => exact fun r' _ => .e0 r' z a
  | se r z b a cap hm hb => exact fun r' _ => .se r' z b a cap hm hb
  | rn r k len f off b h => exact fun r' _ => .rn r' k len f off b (fun j hj => ⟨hS _ _ (h j hj).1, by rw [hw _ _ (h j hj).1]; exact (h j hj).2⟩)
theorem Rel.plain {S : Cells} {w : World} {r : Rho} {d : D} {v : Value} (h : Rel S w r d v) (hp : d.plain = true) : ∀ r', Rel S w r' d v := by
  cases h with
  | any => simp [D.plain] at hp
  | i => exact fun r' => .i r' _ _
  | b => exact fun r' => .b r' _
  | s => exact fun r' => .s r' _
  | nilS => exact fun r' => .nilS r'
  | v => exact fun r' => .v r' _
  | fn _ f cs vs hn h =>
    simp only [D.plain, List.isEmpty_iff] at hp
    subst hp
    exact fun r' => .fn r' f [] vs hn (fun j hj => absurd hj (by simp))
  | ag => simp [D.plain] at hp
  | tu => simp [D.plain] at hp
  | sl _ esz len f a cap c hc hm hl hcell hr => exact fun r' => .sl r' esz len f a cap c hc hm hl hcell hr
  | rf _ cs off b o c hpp hcell hr => exact fun r' => .rf r' cs off b o c hpp hcell hr
  | pv => simp [D.plain] at hp
  | mh => simp [D.plain] at hp
  | gs => simp [D.plain] at hp
  | ah => simp [D.plain] at hp
  | ap => simp [D.plain] at hp
  | e0 => exact fun r' => .e0 r' _ _
  | se _ z b a cap hm hb => exact fun r' => .se r' z b a cap hm hb
  | rn _ k len f off b h => exact fun r' => .rn r' k len f off b h
theorem Rel.one {S : Cells} {w : World} {r : Rho} {d : D} {v : Value} (h : Rel S w r d v) (hp : d.one = true) : v.oneCell' = true := by
  cases h with
  | v => simpa [D.one] using hp
  | gs _ k esz len f _ tv L h hk hL ht => cases h with | sl => rfl
  | any => simp [D.one] at hp
  | ag => simp [D.one] at hp
  | tu => simp [D.one] at hp
  | _ => rfl
theorem D.one_of_plain {d : D} (h : d.plain = true) : d.one = true := by cases d <;> simp_all [D.plain, D.one]
theorem Rel.shut {S : Cells} {w : World} {r : Rho} {d : D} {v : Value} (h : Rel S w r d v) : Rel S w r d.shut v := by
  cases h with
  | gs _ k esz len f _ tv L h hk hL ht => exact h
  | any => exact .any _ _
  | i => exact .i _ _ _
  | b => exact .b _ _
  | s => exact .s _ _
  | nilS => exact .nilS _
  | v => exact .v _ _
  | fn _ f cs vs hn h => exact .fn _ f cs vs hn h
  | ag _ cs vs hn h => exact .ag _ cs vs hn h
  | tu _ cs vs hn h => exact .tu _ cs vs hn h
  | sl _ esz len f a cap c hc hm hl hcell hr => exact .sl _ esz len f a cap c hc hm hl hcell hr
  | rf _ cs off b o c hpp hcell hr => exact .rf _ cs off b o c hpp hcell hr
  | pv _ k off b h => exact .pv _ k off b h
  | mh _ k b h => exact .mh _ k b h
  | ah _ k esz len cap a tv L hk hL ht ha => exact .ah _ k esz len cap a tv L hk hL ht ha
  | ap _ k esz len i off a tv L hk hL ht ha => exact .ap _ k esz len i off a tv L hk hL ht ha
  | e0 _ z a => exact .e0 _ z a
  | se _ z b a cap hm hb => exact .se _ z b a cap hm hb
  | rn _ k len f off b h => exact .rn _ k len f off b h
theorem Rel.shutA {S : Cells} {w : World} {r : Rho} {d : D} {v : Value} (h : Rel S w r d v) : Rel S w r d.shutA v := by
  cases d with
  | ag cs =>
    cases h with
    | ag _ _ vs hn h =>
      refine .ag _ _ vs (by simpa using hn) (fun j hj => ?_)
      have hj' : j < cs.length := by simpa using hj
      have e : (cs.map D.shut).getD j .any = (cs.getD j .any).shut := by simp [List.getD_eq_getElem?_getD, hj']
      rw [e]
      exact (h j hj').shut
  | _ => exact h.shut
inductive Weak : D → D → Prop
  | refl (d : D) : Weak d d
  | any (d : D) : Weak d .any
  | nil (z : Nat) (f : Nat → List D) : Weak .nilS (.sl z 0 f)
  | e0 (z : Nat) (f : Nat → List D) : Weak (.e0 z) (.sl z 0 f)
  | se (z : Nat) (b : Bool) (f : Nat → List D) : Weak (.se z b) (.sl z 0 f)
  | tu (cs cs' : List D) (hn : cs'.length = cs.length) (h : ∀ j, j < cs.length → Weak (cs.getD j .any) (cs'.getD j .any)) : Weak (.tu cs) (.tu cs')
  | ag (cs cs' : List D) (hn : cs'.length = cs.length) (h : ∀ j, j < cs.length → Weak (cs.getD j .any) (cs'.getD j .any)) : Weak (.ag cs) (.ag cs')
  | sl (e len : Nat) (f g : Nat → List D) (hn : ∀ i, i < len → (g i).length = (f i).length ∧ (g i).all D.plain = true) (h : ∀ i j, i < len → j < (f i).length → Weak ((f i).getD j .any) ((g i).getD j .any)) : Weak (.sl e len f) (.sl e len g)
theorem Weak.of_eq {d d' : D} (h : d = d') : Weak d d' := h ▸ .refl d
theorem Rel.weak {S : Cells} {w : World} {r : Rho} {d d' : D} {v : Value} (hw : Weak d d') : Rel S w r d v → Rel S w r d' v := by
  intro h
  induction hw generalizing v r with
  | refl => exact h
  | any => exact .any ..
  | nil z f =>
    cases h
    exact .sl _ z 0 f none 0 (fun _ _ => undef) (Nat.le_refl _) (by unfold maxLen; omega) (fun i hi => by omega) (fun i j hi => by omega) (fun i j hi => by omega)
  | e0 z f =>
    cases h
    exact .sl _ z 0 f _ 0 (fun _ _ => undef) (Nat.le_refl _) (by unfold maxLen; omega) (fun i hi => by omega) (fun i j hi => by omega) (fun i j hi => by omega)
  | se z b f =>
    cases h with
    | se _ _ _ a cap hm hb => exact .sl _ z 0 f _ cap (fun _ _ => undef) (Nat.zero_le _) hm (fun i hi => by omega) (fun i j hi => by omega) (fun i j hi => by omega)
  | tu cs cs' hn _ ih =>
    cases h with
    | tu _ _ vs hn' h => exact .tu _ _ vs (by omega) (fun j hj => ih j (by omega) (h j (by omega)))
  | ag cs cs' hn _ ih =>
    cases h with
    | ag _ _ vs hn' h => exact .ag _ _ vs (by omega) (fun j hj => ih j (by omega) (h j (by omega)))
  | sl e len f g hn _ ih =>
    cases h with
    | sl _ _ _ _ a cap c hc hm hl hcell hr =>
      exact .sl _ _ _ _ a cap c hc hm (fun i hi => ⟨(hn i hi).1.trans (hl i hi).1, (hn i hi).2⟩) hcell (fun i j hi hj => ih i j hi (by rw [(hl i hi).1]; exact hj) (hr i j hi hj))
structure GOk (S : Cells) (w : World) : Prop where
  rel : ∀ g, Rel S w noRho (glob g) (.pointer (some ⟨g, 0, none⟩))
  len : ∀ g n, globLen g = some n → S g n ∧ w.cell? ⟨g, n, none⟩ = none
  big : ∀ g, globSome g = true → ∃ m, S g 0 ∧ w.cell? ⟨g, 0, none⟩ = some (.int .i64 m)
theorem GOk.mono {S S' : Cells} {w w' : World} (h : GOk S w) (hS : ∀ b o, S b o → S' b o) (hw : ∀ b o, S b o → w'.cell? ⟨b, o, none⟩ = w.cell? ⟨b, o, none⟩) : GOk S' w' where
  rel := fun g => (h.rel g).mono hS hw noRho (RhoLe.refl _)
  len := fun g n hn => ⟨hS _ _ (h.len g n hn).1, (hw _ _ (h.len g n hn).1).trans (h.len g n hn).2⟩
  big := fun g hn => let ⟨m, h1, h2⟩ := h.big g hn; ⟨m, hS _ _ h1, (hw _ _ h1).trans h2⟩
structure Ctx where
  w0 : World
  S0 : Cells
  L : Nat → Prop
  r0 : Rho := noRho
  ids : List Nat := []
  dfs : List Deferred := []
structure Hist (X : Ctx) (w : World) (S : Cells) : Prop where
  os : w.os = X.w0.os
  tape : w.tape = X.w0.tape
  output : w.output = X.w0.output
  size : X.w0.heap.size ≤ w.heap.size
  block : ∀ k, k < X.w0.heap.size → ¬ X.L k → w.heap[k]? = X.w0.heap[k]?
  sub : ∀ b o, X.S0 b o → S b o
  cell : ∀ b o, X.S0 b o → w.cell? ⟨b, o, none⟩ = X.w0.cell? ⟨b, o, none⟩
  new : ∀ b o, S b o → X.S0 b o ∨ X.w0.heap.size ≤ b ∨ X.L b
  valid : ∀ b o, S b o → b < w.heap.size
  glob : GOk S w
def EntOk (S : Cells) (w : World) (r : Rho) (p : List UInt8 × D) (e : MapEntry) : Prop := e.key = .string ⟨p.1.toArray⟩ ∧ Rel S w r p.2 e.val ∧ p.2.one = true
def BornOk (arr : Array MapEntry) (clock : Nat) : Prop :=
  (∀ i j, i < j → j < arr.size → (arr.getD i default).born < (arr.getD j default).born) ∧ ∀ i, i < arr.size → (arr.getD i default).born < clock
def ObjOk (S : Cells) (w : World) (r : Rho) (k : Nat) : Own → Prop
  | .var cs => ∃ b cur e, r k = some (.blk b) ∧ w.heap[b]? = some (.cells cur e (0, 0)) ∧ cur.size = cs.length ∧
      (∀ j, j < cs.length → Rel S w r (cs.getD j .any) (cur.getD j undef) ∧ (cs.getD j .any).one = true) ∧ ∀ o, ¬ S b o
  | .row e esz len => ∃ tv, r k = some (.row tv len) ∧ ((tv = .slice none 0 0 ∧ len = 0) ∨
      ∃ g cap cur, tv = .slice (some ⟨g, 0, none⟩) len cap ∧ w.heap[g]? = some (.cells cur e (0, 0)) ∧ len ≤ cap ∧ cap ≤ maxLen ∧ cur.size = cap * esz ∧ ∀ o, len * esz ≤ o → ¬ S g o)
  | .arr e esz len f => ∃ tv, r k = some (.row tv len) ∧ ((tv = .slice none 0 0 ∧ len = 0) ∨
      ∃ g cap cur, tv = .slice (some ⟨g, 0, none⟩) len cap ∧ w.heap[g]? = some (.cells cur e (0, 0)) ∧ len ≤ cap ∧ cap ≤ maxLen ∧ cur.size = cap * esz ∧ (∀ i, i < len → (f i).length = esz ∧ (f i).all D.plain = true) ∧
        (∀ i j, i < len → j < esz → Rel S w noRho ((f i).getD j .any) (cur.getD (i * esz + j) undef)) ∧ ∀ o, ¬ S g o)
  | .ob x => ∃ b, r k = some (.blk b) ∧ w.heap[b]? = some x ∧ ∀ o, ¬ S b o
  | .bld T d => ∃ b cur e, r k = some (.blk b) ∧ w.heap[b]? = some (.cells cur e (0, 0)) ∧ cur.size = 2 ∧ ((cur.getD 0 undef = .pointer none ∧ e = T) ∨ cur.getD 0 undef = .pointer (some ⟨b, 0, none⟩)) ∧
      (Rel S w r d (cur.getD 1 undef) ∧ d.one = true) ∧ ∀ o, ¬ S b o
  | .mp es => ∃ b arr clock, r k = some (.blk b) ∧ w.heap[b]? = some (.map arr clock) ∧ arr.size = es.length ∧ (∀ j, j < es.length → EntOk S w r (es.getD j ([], .any)) (arr.getD j default)) ∧ BornOk arr clock ∧ ∀ o, ¬ S b o
  | .bm e len f => ∃ g cap cur fz, r k = some (.row (.slice (some ⟨g, 0, none⟩) len cap) len) ∧ w.heap[g]? = some (.cells cur e fz) ∧ (fz = (0, 0) ∨ fz.1 = cur.size) ∧ len ≤ cap ∧ cap ≤ maxLen ∧ cur.size = cap ∧ (∀ i, i < len → cur.getD i undef = .int .u8 (f i)) ∧ ∀ o, ¬ S g o
  | .gone => ∃ l, r k = some l ∧ ∀ b, l.block = some b → b < w.heap.size
structure Inv (X : Ctx) (w : World) (S : Cells) (r : Rho) (O : Nat → Option Own) : Prop where
  obj : ∀ k o, O k = some o → ObjOk S w r k o
  dom : ∀ k, O k = none → r k = none
  apart : ∀ k k' l l' b, k ≠ k' → r k = some l → r k' = some l' → l.block = some b → l'.block ≠ some b
  low : ∀ k l b, r k = some l → l.block = some b → X.w0.heap.size ≤ b ∨ X.L b
def updF (F : Nat → D) (dst : Option Tmp) (d : D) : Nat → D :=
  match dst with
  | some t => fun u => if u = t then d else F u
  | none => F
def updO (O : Nat → Option Own) : List (Nat × Own) → Nat → Option Own
  | [] => O
  | (k, o) :: r => updO (fun j => if j = k then some o else O j) r
def evF (F : Nat → D) : Operand → D
  | .tmp t => F t
  | .const v => ofVal v
  | .global g => glob g
  | .func f => .fn f []
def Rep (X : Ctx) (n : Nat) (F : Nat → D) (O : Nat → Option Own) (a : Act) (w : World) : Prop :=
  ∃ S r, Hist X w S ∧ Inv X w S r O ∧ (∀ t, Rel S w r (F t) (a.tmps.getD t undef)) ∧ a.defers = X.dfs ∧ a.tmps.size = n ∧ RhoLe X.r0 r
theorem zbf (S : Cells) (w : World) (r : Rho) (v : Value) : Rel S w r (ofVal v) v := by
  have hs : ∀ s : ByteArray, Rel S w r (.s s.data.toList) (.string s) := fun s => by
    have := Rel.s (S := S) (w := w) r s.data.toList
    simpa using this
  unfold ofVal
  split
  · exact .i ..
  · exact .b ..
  · exact hs _
  · exact .nilS _
  · rename_i cs
    refine .ag _ _ _ (by simp) (fun j hj => ?_)
    have hj' : j < cs.size := by simpa using hj
    simp only [List.getD_eq_getElem?_getD, List.getElem?_map, Array.getElem?_toList, Array.getElem?_eq_getElem hj', Option.map_some, Option.getD_some, Array.getD_eq_getD_getElem?]
    generalize cs[j] = x
    split
    · exact .i ..
    · exact .b ..
    · exact hs _
    · exact .nilS _
    · exact .v ..
  · exact .any ..
  · exact .v ..
theorem zbK {S : Cells} {w : World} {r : Rho} {F : Nat → D} {a : Act} (hg : GOk S w) (h : ∀ t, Rel S w r (F t) (a.tmps.getD t undef)) (x : Operand) : Rel S w r (evF F x) (a.eval x) := by
  cases x with
  | tmp t => exact h t
  | const v => exact zbf S w r v
  | global g => exact (hg.rel g).mono (fun _ _ h => h) (fun _ _ _ => rfl) r (fun k l h => by simp [noRho] at h)
  | func f => exact .fn r f [] #[] rfl (fun j hj => absurd hj (by simp))
end Go.Proofs.YtkkaamhocpmhkaaGreatDoor.Flow
