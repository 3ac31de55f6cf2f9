/- The texts FlowC, FlowD, one behind the other. -/
import Derived.Test.YtkkaamhocpmhkaaGreatDoorSA1
import Derived.OrdersIn
import Derived.Sort.LoopGhostIn
import Derived.RangeFuncCalls
namespace Go.Proofs.YtkkaamhocpmhkaaGreatDoor.Flow
def dstOk (dst : Option Tmp) (n : Nat) : Prop := match dst with | some t => t < n | none => True
abbrev fR (rd : Option Nat) : Fence := { Fence.wide with round := rd }
def OW (P : Program) (o : Oper) (a : Act) (w : World) (K : Act → World → Prop) (Q : Exit → Act → World → Prop) : Prop := o.wp P a w K Q ∧ ∀ rd, o.wpIn (fR rd) 0 P a w K Q
def Wc (P : Program) (c : Code) (Q : Exit → Act → World → Prop) (a : Act) (w : World) : Prop := ∀ rd, c.wpIn (fR rd) 0 P Q a w
section
variable {P : Program} {o : Oper} {a : Act} {w w' : World} {K : Act → World → Prop} {Q : Exit → Act → World → Prop}
theorem zkj {ρ : Operand → Value} {c : Call} (ho : o.op = .defer c) {x : Next} (h : (execOp ρ o).run P w = .ok x w') : ∃ d, x = .defer d := by
  simp only [execOp, ho, Sem.run_bind] at h
  cases hr : (resolve ρ c o.type).run P w with
  | ok d w1 =>
    rw [hr] at h
    simp only [Result.andThen] at h
    cases h
    exact ⟨_, rfl⟩
  | halt y w1 =>
    rw [hr] at h
    cases h
theorem OW.of {x : Next} (hrun : (execOp a.eval o).run P w = .ok x w') (hx : ∀ d, x ≠ .defer d) (h1 : o.upon P a K Q (.ok x w')) (h2 : ∀ rd, o.uponIn (fR rd) 0 P a K Q (.ok x w')) : OW P o a w K Q := by
  refine ⟨by unfold Oper.wp; rw [hrun]; exact h1, fun rd => ⟨fun _ _ => trivial, ?_⟩⟩
  rw [Oper.semAt_eq rd a.eval o (fun c hc => by
    obtain ⟨d, hd⟩ := zkj hc hrun
    exact hx d hd), hrun]
  exact h2 rd
theorem OW.value {v : Value} (hrun : (execOp a.eval o).run P w = .ok (.value v) w') (h : K (a.put o.dst v) w') : OW P o a w K Q := OW.of hrun (fun _ e => by cases e) h fun _ => h
theorem OW.skip (hrun : (execOp a.eval o).run P w = .ok .skip w') (h : K (a.put o.dst undef) w') : OW P o a w K Q := OW.of hrun (fun _ e => by cases e) h fun _ => h
theorem OW.enter {f : FuncId} {vs : Array Value} (hrun : (execOp a.eval o).run P w = .ok (.enter f vs) w') (h : Calls P f vs w' fun
      | .returned v, w'' => K (a.put o.dst v) w''
      | .panicked chain, w'' => Q (.panic chain) a w''
      | .outgrown, _ => LetsOut Q) : OW P o a w K Q := OW.of hrun (fun _ e => by cases e) h fun _ => ⟨fun e => (by cases e), callsIn_wide.2 h⟩
theorem OW.panic {v : Value} (hnd : ∀ c, o.op ≠ .defer c) (hrun : (execOp a.eval o).run P w = .halt (.panic v) w') (h : Q (.panic [{ v, recovered := false }]) a w') : OW P o a w K Q := by
  refine ⟨by unfold Oper.wp; rw [hrun]; exact h, fun rd => ⟨fun _ _ => trivial, ?_⟩⟩
  rw [Oper.semAt_eq rd a.eval o hnd, hrun]
  exact h
theorem OW.left (h : OW P o a w K Q) : o.wp P a w K Q := h.1
variable {c x y : Code}
theorem Wc.wide (h : Wc P c Q a w) : c.wp P Q a w := wpIn_wide.1 (h none)
theorem Wc.mono {Q' : Exit → Act → World → Prop} (h : Wc P c Q a w) (hq : ∀ e a w, Q e a w → Q' e a w) : Wc P c Q' a w := fun rd => wpIn_mono (h rd) hq
theorem Wc.skip (h : Q .normal a w) : Wc P .skip Q a w := fun _ => wpIn_skip h
theorem Wc.ret (h : Q .ret a w) : Wc P .ret Q a w := fun _ => wpIn_ret h
theorem Wc.exit {id : Nat} (h : Q (.exit id) a w) : Wc P (.exit id) Q a w := fun _ => wpIn_exit h
theorem Wc.seq (h : Wc P x (Exit.then (fun a w => Wc P y Q a w) Q) a w) : Wc P (.seq x y) Q a w := fun rd => wpIn_seq (wpIn_mono (h rd) fun e _ _ hq => by
  cases e with
  | normal => exact hq rd
  | _ => exact hq)
theorem Wc.cond_split {c : Operand} {t : Bool} (hc : a.eval c = .bool t) (ht : t = true → Wc P x Q a w) (hf : t = false → Wc P y Q a w) : Wc P (.cond c x y) Q a w := fun rd => wpIn_cond_split hc (fun h => ht h rd) (fun h => hf h rd)
theorem Wc.block {id : Nat} (h : Wc P c (Exit.inBlock id Q) a w) : Wc P (.block id c) Q a w := fun rd => wpIn_block (h rd)
theorem Wc.loop_ghost (I : Nat → Act → World → Prop) (n₀ : Nat) (h₀ : I n₀ a w)
    (round : ∀ n a w, I n a w → Wc P c (Exit.then (fun a' w' => ∃ n', n' < n ∧ I n' a' w') Q) a w) : Wc P (.loop c) Q a w := fun rd => wpIn_loop_ghost I n₀ h₀ fun n a w hI => round n a w hI rd
end
def StepAt (P : Program) (X : Ctx) (n : Nat) (o : Oper) (F : Nat → D) (O : Nat → Option Own) (d : D) (wr : List (Nat × Own)) : Prop :=
  ∀ (a : Act) (w : World) (K : Act → World → Prop) (Q : Exit → Act → World → Prop), Rep X n F O a w →
    (∀ v w', Rep X n (updF F o.dst d) (updO O wr) (a.put o.dst v) w' → K (a.put o.dst v) w') → OW P o a w K Q
theorem zbO {S : Cells} {w : World} {r : Rho} {F : Nat → D} {a : Act} {dst : Option Tmp} {d : D} {v : Value} (h : ∀ t, Rel S w r (F t) (a.tmps.getD t undef))
    (hd : dstOk dst a.tmps.size) (hv : Rel S w r d v) : ∀ t, Rel S w r (updF F dst d t) ((a.put dst v).tmps.getD t undef) := by
  intro t
  cases dst with
  | none => exact h t
  | some u =>
    simp only [dstOk] at hd
    simp only [updF, Act.put]
    by_cases e : t = u
    · subst e
      rw [if_pos rfl]
      simpa [Array.getD_eq_getD_getElem?, hd] using hv
    · rw [if_neg e]
      have := h t
      simpa [Array.getD_eq_getD_getElem?, Array.getElem?_setIfInBounds_ne (Ne.symm e)] using this
theorem zbd (a : Act) (dst : Option Tmp) (v : Value) : (a.put dst v).defers = a.defers := by cases dst <;> rfl
theorem zbD (a : Act) (dst : Option Tmp) (v : Value) : (a.put dst v).tmps.size = a.tmps.size := by cases dst <;> simp [Act.put]
section
variable {P : Program} {X : Ctx} {n : Nat} {o : Oper} {F : Nat → D} {O : Nat → Option Own} {d : D}
end
section
variable {P : Program}
theorem zcM {t : TypeId} {x : Ty} (h : tyOf P t = x) (hx : x ≠ .other) : tyOf0 P t = x := by
  unfold tyOf at h
  split at h
  · exact h
  · exact absurd h.symm hx
theorem zjV {t : TypeId} (h : tyOf P t = .bool) : P.underlying t = some .bool := by
  have h := zcM h (by simp)
  unfold tyOf0 at h
  split at h <;> first | assumption | cases h | (split at h <;> cases h)
theorem zaQ {t : TypeId} (h : tyOf P t = .str) : P.underlying t = some .string := by
  have h := zcM h (by simp)
  unfold tyOf0 at h
  split at h <;> first | assumption | cases h | (split at h <;> cases h)
theorem zcb {t : TypeId} {k : IntKind} (h : tyOf P t = .int k) : P.underlying t = some (.int k) := by
  have h := zcM h (by simp)
  unfold tyOf0 at h
  split at h <;> first | (cases h; assumption) | cases h | (split at h <;> cases h)
theorem zbt {t : TypeId} {z : Nat × Bool} (h : szOf P t = some z) : ∃ i d, P.info? t = some i ∧ P.underlying t = some d ∧ i.size = z.1 ∧ (match d with | .struct _ | .array _ _ => true | _ => false) = z.2 := by
  unfold szOf at h
  split at h <;> first | (cases h; done) | skip
  unfold szOf0 at h
  split at h
  · rename_i i d h1 h2
    simp only [Option.some.injEq] at h
    subst h
    exact ⟨i, d, h1, h2, rfl, rfl⟩
  · cases h
theorem zav {t e z b : Nat} {g : Bool} (h : tyOf P t = .slice e z g b) : P.underlying t = some (.slice e) ∧ szOf P e = some (z, g) ∧ ∃ i, P.info? e = some i ∧ i.size = z ∧ i.bytes = b := by
  have h := zcM h (by simp)
  unfold tyOf0 at h
  split at h <;> first | cases h | skip
  · rename_i e' hu
    split at h
    · rename_i i z' g' hi hz
      cases h
      obtain ⟨i', d, h1, h2, h3, h4⟩ := zbt hz
      rw [hi] at h1
      cases h1
      exact ⟨hu, hz, i, hi, h3, rfl⟩
    · cases h
  · split at h <;> cases h
theorem zaX {t e z n : Nat} {g : Bool} (h : tyOf P t = .array n e z g) : P.underlying t = some (.array n e) ∧ szOf P e = some (z, g) := by
  have h := zcM h (by simp)
  unfold tyOf0 at h
  split at h <;> first | cases h | skip
  · split at h <;> cases h
  · rename_i n' e' hu
    split at h
    · rename_i z' g' hz
      cases h
      exact ⟨hu, hz⟩
    · cases h
theorem zdl {t : Nat} {fs : List (Nat × Nat × Bool)} (h : tyOf P t = .struct fs) : ∃ gs, P.underlying t = some (.struct gs) ∧
    fs = gs.toList.map fun f => (f.offset, match szOf P f.type with | some (z, g) => (z, g) | none => (0, false)) := by
  have h := zcM h (by simp)
  unfold tyOf0 at h
  split at h <;> first | cases h | skip
  · split at h <;> cases h
  · rename_i gs hu
    exact ⟨gs, hu, rfl⟩
  · split at h <;> cases h
theorem zmu {t : Nat} (h : P.types.size ≤ t) : tyOf P t = .other := by
  have : Nat.blt t P.types.size = false := by
    cases hb : Nat.blt t P.types.size with
    | false => rfl
    | true => rw [Nat.blt_eq] at hb; omega
  simp [tyOf, this]
theorem zlL {t : Nat} (h : P.types.size ≤ t) : szOf P t = none := by
  have : Nat.blt t P.types.size = false := by
    cases hb : Nat.blt t P.types.size with
    | false => rfl
    | true => rw [Nat.blt_eq] at hb; omega
  simp [szOf, this]
theorem zmc {t : Nat} (h : P.types.size ≤ t) : eqOf P t = none := by
  have : Nat.blt t P.types.size = false := by
    rw [← Bool.not_eq_true, Nat.blt_eq]
    omega
  simp only [eqOf, this]
theorem zkD {t : Nat} (h : P.types.size ≤ t) : zeroD P t = none := by
  have : Nat.blt t P.types.size = false := by
    cases hb : Nat.blt t P.types.size with
    | false => rfl
    | true => rw [Nat.blt_eq] at hb; omega
  simp [zeroD, this]
end
section
variable {P : Program} {S : Cells} {w : World} {r : Rho}
theorem wrapI {n : Int} (h : InI n) : IntKind.i64.wrap n = n := IntWalk.i64_in n h
theorem zbb {S : Cells} {w : World} {r : Rho} {k : IntKind} {n m : Int} (h : n = m) : Rel S w r (.i k n) (.int k m) := h ▸ .i ..
theorem zcc {k : IntKind} {m : Int} {s : Stp} (hs : addK k m = some s) (hp : s.p) : Rel S w r s.d (.int k (k.wrap m)) ∧ s.wr = [] := by
  cases k <;> simp only [addK, Stp.pure, Option.some.injEq] at hs <;> subst hs
  case i64 => exact ⟨zbb (wrapI hp).symm, rfl⟩
  all_goals exact ⟨.i .., rfl⟩
theorem ziW {op : BinOp} {k k' : IntKind} {t : TypeId} {a b : Int} {s : Stp} (hsh : isSh op = true) (hs : shD op k a b = some s) (hp : s.p) :
    ∃ v, (do pure (); binOp op t (.int k a) (.int k' b) : Sem Value).run P w = .ok v w ∧ Rel S w r s.d v ∧ s.wr = [] := by
  have main : ∀ b' : Int, 0 ≤ b → b ≤ k.bits → min b.toNat k.bits = b.toNat := fun _ h1 h2 => by omega
  cases op <;> first | (cases hsh; done) | skip
  case shl =>
    have h1 : s.wr = [] ∧ 0 ≤ b ∧ b ≤ k.bits ∧ Rel S w r s.d (.int k (k.wrap (a * 2 ^ b.toNat))) := by
      cases k <;> simp only [shD, bitsK, Stp.pure, Option.some.injEq] at hs <;> subst hs
      case i64 => exact ⟨rfl, hp.1, hp.2.1, zbb (wrapI hp.2.2).symm⟩
      all_goals exact ⟨rfl, hp.1, hp.2, .i ..⟩
    obtain ⟨h1, h2, h3, h4⟩ := h1
    refine ⟨_, ?_, h4, h1⟩
    have hb : ¬ b < 0 := by omega
    simp [binOp, Op.shift, hb, main b h2 h3]
  case shr =>
    have h1 : s.wr = [] ∧ 0 ≤ b ∧ b ≤ k.bits ∧ Rel S w r s.d (.int k (a / 2 ^ b.toNat)) := by
      cases k <;> simp only [shD, bitsK, Stp.pure, Option.some.injEq] at hs <;> subst hs <;> exact ⟨rfl, hp.1, hp.2, .i ..⟩
    obtain ⟨h1, h2, h3, h4⟩ := h1
    refine ⟨_, ?_, h4, h1⟩
    have hb : ¬ b < 0 := by omega
    have hq : (0 : Int) ≤ 2 ^ b.toNat := Int.le_of_lt (Int.pow_pos (by omega))
    simp [binOp, Op.shift, hb, main b h2 h3, Int.fdiv_eq_ediv_of_nonneg _ hq]
theorem zhD {dx dy : D} {vx vy : Value} {a : Array TypeId} {ty : TypeId} {s : Stp} (hs : maxD dx dy = some s) (hx : Rel S w r dx vx) (hy : Rel S w r dy vy) : ∃ v, (Builtin.max_ a ty #[vx, vy]).run P w = .ok v w ∧ Rel S w r s.d v ∧ s.wr = [] := by
  unfold maxD at hs
  split at hs <;> first | (cases hs; done) | skip
  cases hx
  cases hy
  cases hs
  refine ⟨_, by simp [Builtin.max_, Builtin.max2]; rfl, zbb ?_, rfl⟩
  split <;> omega
theorem zih {dx dy : D} {vx vy : Value} {a : Array TypeId} {ty : TypeId} {s : Stp} (hs : minD dx dy = some s) (hx : Rel S w r dx vx) (hy : Rel S w r dy vy) : ∃ v, (Builtin.min_ a ty #[vx, vy]).run P w = .ok v w ∧ Rel S w r s.d v ∧ s.wr = [] := by
  unfold minD at hs
  split at hs <;> first | (cases hs; done) | skip
  cases hx
  cases hy
  cases hs
  refine ⟨_, by simp [Builtin.min_, Builtin.min2]; rfl, zbb ?_, rfl⟩
  split <;> omega
theorem zcT {t : TypeId} {z : Nat × Bool} (h : szOf P t = some z) : (isAgg t).run P w = .ok z.2 w ∧ (sizeOf t).run P w = .ok z.1 w := by
  obtain ⟨i, d, h1, h2, h3, h4⟩ := zbt h
  constructor
  · unfold isAgg
    cases d <;> simp_all [run_underlying h2]
  · simp [sizeOf, typeInfo, h1, h3]
theorem zbP {t e : TypeId} (d : Nat) (ht : P.underlying t = some (.slice e)) (a : Option Addr) (n c : Nat) : (Op.equalIn (d + 1) t (.slice a n c) (.slice none 0 0)).run P w = .ok a.isNone w := by
  unfold Op.equalIn
  cases a <;> simp [run_underlying ht]
theorem zdM {op : BinOp} {t : TypeId} {x y : Operand} {b : Bool} {p : Prop} {s : Stp} (hs : eqN (tb P) op t b p = some s) (_hp : s.p) :
    (∀ (a : Option Addr) (n c : Nat), (b = true ∧ a = none) ∨ (b = false ∧ a.isSome = true) → (do eqGuard op t x y (.slice a n c) (.slice none 0 0); binOp op t (.slice a n c) (.slice none 0 0) : Sem Value).run P w = .ok (match op with | .neq => .bool (!b) | _ => .bool b) w) ∧
      Rel S w r s.d (match op with | .neq => .bool (!b) | _ => .bool b) ∧ s.wr = [] := by
  unfold eqN at hs
  cases hty : (tb P).ty t <;> simp only [hty] at hs <;> first | (cases hs; done) | skip
  have hu := (zav hty).1
  have hb : ∀ a : Option Addr, (b = true ∧ a = none) ∨ (b = false ∧ a.isSome = true) → a.isNone = b := fun a h => by
    rcases h with ⟨rfl, rfl⟩ | ⟨rfl, h⟩
    · rfl
    · cases a with
      | none => cases h
      | some a => rfl
  cases op <;> first | (cases hs; done) | skip
  · cases hs
    refine ⟨fun a n c h => ?_, .b .., rfl⟩
    have e0 : (eqGuard .eql t x y (.slice a n c) (.slice none 0 0)) = pure () := rfl
    have e1 : binOp .eql t (.slice a n c) (.slice none 0 0) = (do pure (.bool (← Op.equalIn (9999 + 1) t (.slice a n c) (.slice none 0 0)))) := rfl
    rw [e0, e1]
    simp only [Sem.run_bind, Sem.run_pure, Result.andThen_ok, zbP 9999 hu, hb a h]
  · cases hs
    refine ⟨fun a n c h => ?_, .b .., rfl⟩
    have e0 : (eqGuard .neq t x y (.slice a n c) (.slice none 0 0)) = pure () := rfl
    have e1 : binOp .neq t (.slice a n c) (.slice none 0 0) = (do pure (.bool (!(← Op.equalIn (9999 + 1) t (.slice a n c) (.slice none 0 0))))) := rfl
    rw [e0, e1]
    simp only [Sem.run_bind, Sem.run_pure, Result.andThen_ok, zbP 9999 hu, hb a h]
theorem zbH {t e : TypeId} (d : Nat) (ht : P.underlying t = some (.array 2 e)) (he : P.underlying e = some .string) (hz : szOf P e = some (1, false)) (a b c f : ByteArray) :
    (Op.equalIn (d + 2) t (.agg #[.string a, .string b]) (.agg #[.string c, .string f])).run P w = .ok ((a.toList == c.toList) && (b.toList == f.toList)) w := by
  obtain ⟨h1, h2⟩ := zcT (w := w) hz
  have h3 := fun x y => run_equalIn_string (P := P) w d e x y he
  have hp0 : ∀ (x y : ByteArray), (part e #[.string x, .string y] (0 * 1)).run P w = .ok (.string x) w := fun x y => by simp [part, h1]
  have hp1 : ∀ (x y : ByteArray), (part e #[.string x, .string y] ((0 + 1) * 1)).run P w = .ok (.string y) w := fun x y => by simp [part, h1]
  have hd : d + 2 = (d + 1) + 1 := rfl
  rw [hd]
  unfold Op.equalIn
  simp only [Sem.run_bind, run_underlying ht, Result.andThen_ok, h2]
  simp only [Std.Legacy.Range.forIn_eq_forIn_range', Std.Legacy.Range.size, Nat.sub_zero, Nat.add_sub_cancel, Nat.div_one, List.range'_succ, List.range'_zero, List.forIn_cons, List.forIn_nil, Sem.run_bind, hp0, h3, Result.andThen_ok]
  by_cases e1 : a.toList = c.toList <;> by_cases e2 : b.toList = f.toList <;> simp [e1, e2, hp1, h3]
theorem zct {t e : TypeId} (d : Nat) (ht : P.underlying t = some (.array 2 e)) (he : P.underlying e = some .string) (hz : szOf P e = some (1, false)) (a b c f : ByteArray) :
    (Op.eqGuardIn (d + 2) t (.agg #[.string a, .string b]) (.agg #[.string c, .string f])).run P w = .ok false w := by
  obtain ⟨h1, h2⟩ := zcT (w := w) hz
  have h3 : ∀ x y : ByteArray, (Op.eqGuardIn (d + 1) e (.string x) (.string y)).run P w = .ok false w := fun x y => by
    unfold Op.eqGuardIn
    simp [run_underlying he]
  have hp0 : ∀ (x y : ByteArray), (part e #[.string x, .string y] (0 * 1)).run P w = .ok (.string x) w := fun x y => by simp [part, h1]
  have hp1 : ∀ (x y : ByteArray), (part e #[.string x, .string y] ((0 + 1) * 1)).run P w = .ok (.string y) w := fun x y => by simp [part, h1]
  have hd : d + 2 = (d + 1) + 1 := rfl
  rw [hd]
  unfold Op.eqGuardIn
  simp only [Sem.run_bind, run_underlying ht, Result.andThen_ok, h2]
  simp only [Std.Legacy.Range.forIn_eq_forIn_range', Std.Legacy.Range.size, Nat.sub_zero, Nat.add_sub_cancel, Nat.div_one, List.range'_succ, List.range'_zero, List.forIn_cons, List.forIn_nil, Sem.run_bind, hp0, h3, Result.andThen_ok]
  simp [hp1, h3]
theorem zeu {op : BinOp} {t e : TypeId} {x y : Operand} (ht : P.underlying t = some (.array 2 e)) (he : P.underlying e = some .string) (hz : szOf P e = some (1, false)) (a b c f : ByteArray) :
    (eqGuard op t x y (.agg #[.string a, .string b]) (.agg #[.string c, .string f])).run P w = .ok () w := by
  cases hg : P.eqGuardType P.depth t with
  | false => exact run_eqGuard_agg w op t x y _ _ hg
  | true =>
    have h1 := zct (w := w) 9998 ht he hz a b c f
    cases op <;> simp [eqGuard, run_program, hg, Op.maxDepth, h1]
theorem zlU {t : TypeId} {l : List (Nat × Nat)} (h : eqOf P t = some l) : ∃ fs, P.underlying t = some (.struct fs) ∧ P.stoodInHeld t = false ∧ eqF P fs.toList = some l := by
  unfold eqOf at h
  split at h
  · unfold eqOf0 at h
    split at h
    · rename_i fs hu
      split at h
      · rename_i hs
        exact ⟨fs, hu, hs, h⟩
      · cases h
    · cases h
  · cases h
theorem zkW {f : Field} {r : List Field} {l : List (Nat × Nat)} (h : eqF P (f :: r) = some l) : f.name ≠ "_" ∧ szOf P f.type = some (1, false) ∧ ∃ l', eqF P r = some l' ∧
    ((∃ k, P.underlying f.type = some (.int k) ∧ l = (f.offset, 0) :: l') ∨ (P.underlying f.type = some .bool ∧ l = (f.offset, 1) :: l') ∨ (P.underlying f.type = some .string ∧ l = (f.offset, 2) :: l')) := by
  unfold eqF at h
  split at h <;> first | (cases h; done) | skip
  · rename_i h1 h2 h3 h4
    cases h
    exact ⟨by simpa using h1, h2, _, h4, .inl ⟨_, h3, rfl⟩⟩
  · rename_i h1 h2 h3 h4
    cases h
    exact ⟨by simpa using h1, h2, _, h4, .inr (.inl ⟨h3, rfl⟩)⟩
  · rename_i h1 h2 h3 h4
    cases h
    exact ⟨by simpa using h1, h2, _, h4, .inr (.inr ⟨h3, rfl⟩)⟩
theorem zjS {t : TypeId} {off : Nat} {xs : List D} {vs : Array Value} (hz : szOf P t = some (1, false)) (hn : vs.size = xs.length) (h : off < xs.length) : (part t vs off).run P w = .ok (vs.getD off undef) w := by
  obtain ⟨h1, h2⟩ := zcT (w := w) hz
  have h3 : off < vs.size := by omega
  simp [part, h1, h3, Array.getD_eq_getD_getElem?]
theorem zdX {off : Nat} {xs : List D} (h : xs.getD off .any ≠ .any) : off < xs.length := by
  refine Nat.lt_of_not_le fun hle => h ?_
  simp [List.getD_eq_getElem?_getD, List.getElem?_eq_none hle]
theorem zmU {t : TypeId} {c : Nat} {x y : D} {v u : Value} {b : Bool} (d : Nat) (hc : eqC c x y = some b) (hx : Rel S w r x v) (hy : Rel S w r y u)
    (ht : (c = 0 ∧ ∃ k, P.underlying t = some (.int k)) ∨ (c = 1 ∧ P.underlying t = some .bool) ∨ (c = 2 ∧ P.underlying t = some .string)) :
    (Op.equalIn (d + 1) t v u).run P w = .ok b w ∧ (Op.eqGuardIn (d + 1) t v u).run P w = .ok false w ∧ x ≠ .any ∧ y ≠ .any := by
  unfold eqC at hc
  split at hc
  · split at hc
    · rename_i hk
      cases hc
      cases hx
      cases hy
      have := zlx hk
      subst this
      rcases ht with ⟨_, k', ht⟩ | ⟨h, _⟩ | ⟨h, _⟩ <;> first | (cases h; done) | skip
      refine ⟨?_, ?_, by simp, by simp⟩
      · unfold Op.equalIn
        simp [run_underlying ht]
      · unfold Op.eqGuardIn
        simp [run_underlying ht]
    · cases hc
  · cases hc
    cases hx
    cases hy
    rcases ht with ⟨h, _⟩ | ⟨_, ht⟩ | ⟨h, _⟩ <;> first | (cases h; done) | skip
    refine ⟨?_, ?_, by simp, by simp⟩
    · unfold Op.equalIn
      simp [run_underlying ht]
    · unfold Op.eqGuardIn
      simp [run_underlying ht]
  · cases hc
    cases hx
    cases hy
    rcases ht with ⟨h, _⟩ | ⟨h, _⟩ | ⟨_, ht⟩ <;> first | (cases h; done) | skip
    refine ⟨(run_equalIn_string (P := P) w d t _ _ ht).trans ?_, ?_, by simp, by simp⟩
    · simp
    · unfold Op.eqGuardIn
      simp [run_underlying ht]
  · cases hc
theorem ziM (d : Nat) {xs ys : List D} {vs us : Array Value} (hn : vs.size = xs.length) (h : ∀ j, j < xs.length → Rel S w r (xs.getD j .any) (vs.getD j undef))
    (hn2 : us.size = ys.length) (h2 : ∀ j, j < ys.length → Rel S w r (ys.getD j .any) (us.getD j undef)) : ∀ (fs : List Field) (l : List (Nat × Nat)) (b : Bool), eqF P fs = some l → eqCs xs ys l = some b →
    (forIn fs ((none : Option Bool), ()) fun f _ =>
      if f.name ≠ "_" then do
        let x ← part f.type vs f.offset
        let y ← part f.type us f.offset
        let e ← Op.equalIn (d + 1) f.type x y
        if (!e) = true then pure (ForInStep.done (some false, ())) else pure (ForInStep.yield ((none : Option Bool), ()))
      else pure (ForInStep.yield ((none : Option Bool), ())) : Sem (Option Bool × Unit)).run P w = .ok (if b = true then none else some false, ()) w ∧
    (forIn fs ((none : Option Bool), ()) fun f _ =>
      if f.name ≠ "_" then do
        let x ← part f.type vs f.offset
        let y ← part f.type us f.offset
        let e ← Op.eqGuardIn (d + 1) f.type x y
        if e = true then pure (ForInStep.done (some true, ())) else pure (ForInStep.yield ((none : Option Bool), ()))
      else pure (ForInStep.yield ((none : Option Bool), ())) : Sem (Option Bool × Unit)).run P w = .ok (none, ()) w
  | [], l, b, hl, hb => by
    simp only [eqF] at hl
    cases hl
    simp only [eqCs] at hb
    cases hb
    exact ⟨rfl, rfl⟩
  | f :: fs, l, b, hl, hb => by
    obtain ⟨hname, hz, l', hl', hcase⟩ := zkW hl
    rcases hcase with ⟨k, hu, rfl⟩ | ⟨hu, rfl⟩ | ⟨hu, rfl⟩
    all_goals
      simp only [eqCs] at hb
      split at hb <;> first | (cases hb; done) | skip
      rename_i b1 b2 hb1 hb2
      cases hb
      have ih := ziM d hn h hn2 h2 fs l' b2 hl' hb2
      have hlt : f.offset < xs.length := zdX fun e => by rw [e] at hb1; unfold eqC at hb1; split at hb1 <;> simp_all
      have hlt2 : f.offset < ys.length := zdX fun e => by rw [e] at hb1; unfold eqC at hb1; split at hb1 <;> simp_all
      have k := zmU (t := f.type) d hb1 (h _ hlt) (h2 _ hlt2) (by first | exact .inl ⟨rfl, _, hu⟩ | exact .inr (.inl ⟨rfl, hu⟩) | exact .inr (.inr ⟨rfl, hu⟩))
      have p1 := zjS (w := w) hz hn hlt
      have p2 := zjS (w := w) hz hn2 hlt2
      simp only [List.forIn_cons, if_pos hname, Sem.run_bind, p1, p2, k.1, k.2.1, Result.andThen_ok]
      refine ⟨?_, ?_⟩
      · cases b1 with
        | true => simpa using ih.1
        | false => simp
      · simpa using ih.2
theorem zkd {op : BinOp} {t : TypeId} {x y : Operand} {xs ys : List D} {vs us : Array Value} {s : Stp} (hs : eqS (tb P) op t xs ys = some s) (hn : vs.size = xs.length) (h : ∀ j, j < xs.length → Rel S w r (xs.getD j .any) (vs.getD j undef))
    (hn2 : us.size = ys.length) (h2 : ∀ j, j < ys.length → Rel S w r (ys.getD j .any) (us.getD j undef)) :
    ∃ v, (do eqGuard op t x y (.agg vs) (.agg us); binOp op t (.agg vs) (.agg us) : Sem Value).run P w = .ok v w ∧ Rel S w r s.d v ∧ s.wr = [] := by
  unfold eqS at hs
  split at hs
  · rename_i l hl
    obtain ⟨fs, hu, hst, hf⟩ := zlU (P := P) hl
    have key : ∀ b, eqCs xs ys l = some b → (Op.equalIn 10000 t (.agg vs) (.agg us)).run P w = .ok b w ∧ (Op.eqGuardIn 10000 t (.agg vs) (.agg us)).run P w = .ok false w := fun b hb => by
      have k := ziM (P := P) (w := w) (S := S) (r := r) 9998 hn h hn2 h2 fs.toList l b hf hb
      have e1 : (10000 : Nat) = 9999 + 1 := rfl
      refine ⟨?_, ?_⟩
      · rw [e1]
        unfold Op.equalIn
        have k1 := k.1
        simp only [Sem.run_bind, run_underlying hu, Result.andThen_ok, run_program, hst, ← Array.forIn_toList]
        simp only [Bool.false_eq_true, if_false, Sem.run_bind, k1, Result.andThen_ok]
        cases b <;> rfl
      · rw [e1]
        unfold Op.eqGuardIn
        have k1 := k.2
        simp only [Sem.run_bind, run_underlying hu, Result.andThen_ok, ← Array.forIn_toList, k1]
        rfl
    have guard : ∀ b, eqCs xs ys l = some b → (eqGuard op t x y (.agg vs) (.agg us)).run P w = .ok () w := fun b hb => by
      cases hg : P.eqGuardType P.depth t with
      | false => exact run_eqGuard_agg w op t x y _ _ hg
      | true =>
        have h1 := (key b hb).2
        cases op <;> simp [eqGuard, run_program, hg, Op.maxDepth, h1]
    split at hs <;> first | (cases hs; done) | skip
    · rename_i b hb
      cases hs
      refine ⟨.bool b, ?_, .b .., rfl⟩
      simp only [Sem.run_bind, guard b hb, Result.andThen_ok, run_eql_struct, (key b hb).1]
    · rename_i b hb
      cases hs
      refine ⟨.bool (!b), ?_, .b .., rfl⟩
      simp only [Sem.run_bind, guard b hb, Result.andThen_ok, run_neq_struct, (key b hb).1]
  · cases hs
theorem zju {op : BinOp} {t : TypeId} {x y : Operand} {xs ys : List D} {vs us : Array Value} {s : Stp} (hs : eqA (tb P) op t xs ys = some s) (hn : vs.size = xs.length) (h : ∀ j, j < xs.length → Rel S w r (xs.getD j .any) (vs.getD j undef))
    (hn2 : us.size = ys.length) (h2 : ∀ j, j < ys.length → Rel S w r (ys.getD j .any) (us.getD j undef)) :
    ∃ v, (do eqGuard op t x y (.agg vs) (.agg us); binOp op t (.agg vs) (.agg us) : Sem Value).run P w = .ok v w ∧ Rel S w r s.d v ∧ s.wr = [] := by
  unfold eqA at hs
  split at hs <;> first | (cases hs; done) | (exact zkd hs hn h hn2 h2) | skip
  rename_i a b c d e ht
  have two : ∀ {vs : Array Value} {a b : List UInt8}, vs.size = [D.s a, D.s b].length → (∀ j, j < [D.s a, D.s b].length → Rel S w r ([D.s a, D.s b].getD j .any) (vs.getD j undef)) → vs = #[.string ⟨a.toArray⟩, .string ⟨b.toArray⟩] := by
    intro vs a b hn h
    have h0 := h 0 (by simp)
    have h1 := h 1 (by simp)
    simp only [List.length_cons, List.length_nil] at hn
    obtain ⟨l⟩ := vs
    match l, hn with
    | [u, v], _ =>
      simp only [List.getD_cons_zero, List.getD_cons_succ] at h0 h1
      have k0 : Rel S w r (.s a) u := h0
      have k1 : Rel S w r (.s b) v := h1
      cases k0
      cases k1
      rfl
  have e1 := two hn h
  have e2 := two hn2 h2
  subst e1 e2
  obtain ⟨hu, hz⟩ := zaX ht
  split at hs <;> first | (cases hs; done) | skip
  · rename_i he
    cases hs
    refine ⟨.bool ((a == c) && (b == d)), ?_, .b .., rfl⟩
    have g := zeu (w := w) (op := .eql) (x := x) (y := y) hu (zaQ he) hz ⟨a.toArray⟩ ⟨b.toArray⟩ ⟨c.toArray⟩ ⟨d.toArray⟩
    simp only [Sem.run_bind, g, Result.andThen_ok, run_eql_struct, zbH 9998 hu (zaQ he) hz]
    simp
  · rename_i he
    cases hs
    refine ⟨.bool (!((a == c) && (b == d))), ?_, .b .., rfl⟩
    have g := zeu (w := w) (op := .neq) (x := x) (y := y) hu (zaQ he) hz ⟨a.toArray⟩ ⟨b.toArray⟩ ⟨c.toArray⟩ ⟨d.toArray⟩
    simp only [Sem.run_bind, g, Result.andThen_ok, run_neq_struct, zbH 9998 hu (zaQ he) hz]
    simp
theorem zhT {op : BinOp} {t : TypeId} {x y : Operand} {dx dy : D} {vx vy : Value} {s : Stp} (hs : binD (tb P) op t dx dy = some s) (hp : s.p)
    (hx : Rel S w r dx vx) (hy : Rel S w r dy vy) :
    ∃ v, (do eqGuard op t x y vx vy; binOp op t vx vy : Sem Value).run P w = .ok v w ∧ Rel S w r s.d v ∧ s.wr = [] := by
  cases hx with
  | i _ k a =>
    cases hy with
    | i _ k' b =>
      simp only [binD] at hs
      have e0 : (eqGuard op t x y (.int k a) (.int k' b)) = pure () := by cases op <;> rfl
      simp only [e0]
      cases hsh : isSh op with
      | true =>
        simp only [hsh] at hs
        exact ziW hsh hs hp
      | false =>
      simp only [hsh] at hs
      cases hk : Nat.beq (kN k) (kN k') with
      | false => simp only [hk] at hs; cases hs
      | true =>
        have := zlx hk
        subst this
        simp only [hk] at hs
        cases op <;> simp only [intD, cmpD, Stp.pure, Option.some.injEq] at hs
        case add =>
          obtain ⟨h1, h2⟩ := zcc (S := S) (w := w) (r := r) hs hp
          exact ⟨_, by simp [binOp_add, Op.intArith], h1, h2⟩
        case sub =>
          obtain ⟨h1, h2⟩ := zcc (S := S) (w := w) (r := r) hs hp
          exact ⟨_, by simp [binOp_sub, Op.intArith], h1, h2⟩
        case mul =>
          obtain ⟨h1, h2⟩ := zcc (S := S) (w := w) (r := r) hs hp
          exact ⟨_, by simp [binOp_mul, Op.intArith], h1, h2⟩
        case quo =>
          subst hs
          obtain ⟨h1, h2, h4⟩ := hp
          have hne : b ≠ 0 := by omega
          refine ⟨.int k (k.wrap (a.tdiv b)), by simp [binOp_quo, Op.intDiv, hne], ?_, rfl⟩
          refine zbb ?_
          rw [Int.tdiv_eq_ediv_of_nonneg h1]
          exact h4.symm
        case rem =>
          subst hs
          obtain ⟨h1, h2⟩ := hp
          have hne : b ≠ 0 := by omega
          refine ⟨.int k (a.tmod b), by simp [binOp_rem, Op.intDiv, hne], ?_, rfl⟩
          refine zbb ?_
          rw [Int.tmod_eq_emod_of_nonneg h1]
        case and => subst hs; exact ⟨_, by simp [binOp_and, intBits_and], .i .., rfl⟩
        case or => subst hs; exact ⟨_, by simp [binOp_or, intBits_or], .i .., rfl⟩
        case xor => subst hs; exact ⟨_, by simp [binOp_xor, intBits_xor], .i .., rfl⟩
        case andNot => subst hs; exact ⟨_, by simp [binOp_andNot, intBits_andNot], .i .., rfl⟩
        case eql => subst hs; exact ⟨_, by simp [binOp_eql], .b .., rfl⟩
        case neq => subst hs; exact ⟨_, by simp [binOp_neq], .b .., rfl⟩
        case lss => subst hs; exact ⟨_, by simp [binOp_lss], .b .., rfl⟩
        case leq => subst hs; exact ⟨_, by simp [binOp_leq], .b .., rfl⟩
        case gtr => subst hs; exact ⟨_, by simp [binOp_gtr], .b .., rfl⟩
        case geq => subst hs; exact ⟨_, by simp [binOp_geq], .b .., rfl⟩
        all_goals cases hs
    | _ => simp only [binD] at hs; cases hs
  | s _ a =>
    cases hy with
    | s _ b =>
      simp only [binD] at hs
      have e0 : (eqGuard op t x y (.string ⟨a.toArray⟩) (.string ⟨b.toArray⟩)) = pure () := by cases op <;> rfl
      simp only [e0]
      cases op <;> simp only [strD, Stp.pure, Option.some.injEq] at hs
      case add =>
        subst hs
        have hl : ¬ (((ByteArray.mk a.toArray).size + (ByteArray.mk b.toArray).size : Nat) : Int) > IntKind.i64.max := by
          have h1 : (ByteArray.mk a.toArray).size = a.length := by simp [ByteArray.size]
          have h2 : (ByteArray.mk b.toArray).size = b.length := by simp [ByteArray.size]
          have h3 : a.length + b.length ≤ maxLen := hp
          unfold maxLen at h3
          rw [h1, h2, IntKind.max_i64]
          omega
        refine ⟨.string (⟨a.toArray⟩ ++ ⟨b.toArray⟩), ?_, ?_, rfl⟩
        · simp only [Sem.run_bind, Sem.run_pure, Result.andThen_ok, binOp, Op.stringOp]
          rw [if_neg hl]
          rfl
        · have : (ByteArray.mk a.toArray ++ ByteArray.mk b.toArray) = ByteArray.mk (a ++ b).toArray := by
            apply ByteArray.ext
            simp
          rw [this]
          exact .s ..
      case eql => subst hs; exact ⟨_, by simp [binOp, Op.stringOp], .b .., rfl⟩
      case neq => subst hs; exact ⟨_, by simp [binOp, Op.stringOp], .b .., rfl⟩
      case lss => subst hs; exact ⟨_, by simp [binOp, Op.stringOp], .b .., rfl⟩
      case leq => subst hs; exact ⟨_, by simp [binOp, Op.stringOp], .b .., rfl⟩
      case gtr => subst hs; exact ⟨_, by simp [binOp, Op.stringOp], .b .., rfl⟩
      case geq => subst hs; exact ⟨_, by simp [binOp, Op.stringOp], .b .., rfl⟩
      all_goals cases hs
    | _ => simp only [binD] at hs; cases hs
  | b _ a =>
    cases hy with
    | b _ b =>
      simp only [binD] at hs
      have e0 : (eqGuard op t x y (.bool a) (.bool b)) = pure () := by cases op <;> rfl
      simp only [e0]
      cases ht : (tb P).ty t <;> simp only [ht] at hs
      case bool =>
        have hu := zjV ht
        cases op <;> simp only [Stp.pure, Option.some.injEq] at hs
        case eql =>
          subst hs
          refine ⟨.bool (a == b), ?_, .b .., rfl⟩
          simp only [Sem.run_bind, Sem.run_pure, Result.andThen_ok]
          exact run_eql_bool w t a b hu
        case neq =>
          subst hs
          refine ⟨.bool (!(a == b)), ?_, .b .., rfl⟩
          simp only [Sem.run_bind, Sem.run_pure, Result.andThen_ok]
          exact run_neq_bool w t a b hu
        all_goals cases hs
      all_goals cases op <;> cases hs
    | _ => simp only [binD] at hs; cases hs
  | nilS =>
    cases hy with
    | nilS =>
      simp only [binD] at hs
      obtain ⟨h1, h2⟩ := zdM hs hp
      exact ⟨_, h1 none 0 0 (.inl ⟨rfl, rfl⟩), h2⟩
    | _ => simp only [binD] at hs; cases hs
  | se _ z b a cap hm hb =>
    cases hy with
    | nilS =>
      simp only [binD] at hs
      obtain ⟨h1, h2⟩ := zdM hs hp
      refine ⟨_, h1 a 0 cap ?_, h2⟩
      subst hb
      cases a
      · exact .inl ⟨rfl, rfl⟩
      · exact .inr ⟨rfl, rfl⟩
    | _ => simp only [binD] at hs; cases hs
  | sl _ z n f a cap c hc hm hl hcell hr =>
    cases hy with
    | nilS =>
      simp only [binD] at hs
      obtain ⟨h1, h2⟩ := zdM hs hp
      have h3 : 0 < z ∧ 0 < n := by
        unfold eqN at hs
        split at hs <;> first | (cases hs; done) | (cases hs; exact hp)
      obtain ⟨b, o, ha, _⟩ := hcell 0 0 h3.2 h3.1
      subst ha
      exact ⟨_, h1 (some _) n cap (.inr ⟨rfl, rfl⟩), h2⟩
    | _ => simp only [binD] at hs; cases hs
  | ag _ xs vs hn h =>
    cases hy with
    | ag _ ys us hn2 h2 =>
      simp only [binD] at hs
      exact zju hs hn h hn2 h2
    | _ => simp only [binD] at hs; cases hs
  | any => simp only [binD] at hs; cases hs
  | v => simp only [binD] at hs; cases hs
  | fn => simp only [binD] at hs; cases hs
  | tu => simp only [binD] at hs; cases hs
  | rf => simp only [binD] at hs; cases hs
  | rn => simp only [binD] at hs; cases hs
  | mh => simp only [binD] at hs; cases hs
  | pv => simp only [binD] at hs; cases hs
  | gs => simp only [binD] at hs; cases hs
  | ah => simp only [binD] at hs; cases hs
  | ap => simp only [binD] at hs; cases hs
  | e0 => simp only [binD] at hs; cases hs
end
end Go.Proofs.YtkkaamhocpmhkaaGreatDoor.Flow

namespace Go.Proofs.YtkkaamhocpmhkaaGreatDoor.Flow
section
variable {P : Program} {S : Cells} {w : World} {r : Rho}
theorem zdL {t : TypeId} {z : Nat × Bool} (h : szOf P t = some z) : (isAgg t).run P w = .ok z.2 w := by
  obtain ⟨i, d, h1, h2, h3, h4⟩ := zbt h
  unfold isAgg
  cases d <;> simp_all [run_underlying h2]
theorem zaz {t : TypeId} {z : Nat × Bool} (h : szOf P t = some z) : (sizeOf t).run P w = .ok z.1 w := by
  obtain ⟨i, d, h1, h2, h3, h4⟩ := zbt h
  simp [sizeOf, typeInfo, h1, h3]
theorem zkI {cs : List D} {vs : Array Value} {j : Nat} (hn : vs.size = cs.length) (h : ∀ j, j < cs.length → Rel S w r (cs.getD j .any) (vs.getD j undef)) (hj : j < cs.length) :
    ∃ v, vs[j]? = some v ∧ Rel S w r (cs.getD j .any) v := by
  have hj' : j < vs.size := by omega
  refine ⟨vs[j], by simp [hj'], ?_⟩
  have := h j hj
  simpa [Array.getD_eq_getD_getElem?, hj'] using this
theorem zhe {cs : List D} {z : Nat × Bool} {off : Nat} {c : Nat → Value} (hp : partP z cs off) (h : ∀ j, j < cs.length → Rel S w r (cs.getD j .any) (c j)) :
    (z.2 = true → Rel S w r (partD z cs off) (.agg ((List.range z.1).map fun j => c (off + j)).toArray)) ∧ (z.2 = false → Rel S w r (partD z cs off) (c off)) := by
  obtain ⟨n, g⟩ := z
  constructor
  · intro hg
    simp only at hg
    subst hg
    simp only [partP, partD] at hp ⊢
    refine .ag _ _ _ (by simp; omega) (fun j hj => ?_)
    simp only [List.length_take, List.length_drop] at hj
    have h1 := h (off + j) (by omega)
    have h2 : ((cs.drop off).take n).getD j .any = cs.getD (off + j) .any := by
      simp only [List.getD_eq_getElem?_getD]
      rw [List.getElem?_take_of_lt (by omega), List.getElem?_drop]
    have h3 : (((List.range n).map fun j => c (off + j)).toArray).getD j undef = c (off + j) := by
      simp [Array.getD_eq_getD_getElem?, show j < n by omega]
    rw [h2, h3]
    exact h1
  · intro hg
    simp only at hg
    subst hg
    simp only [partP, partD] at hp ⊢
    exact h off (by omega)
theorem zaR {t : TypeId} {z : Nat × Bool} {cs : List D} {off b o : Nat} {c : Nat → Value} (hz : szOf P t = some z) (hp : partP z cs off)
    (hcell : ∀ j, j < cs.length → w.cell? ⟨b, o + j, none⟩ = some (c j)) (h : ∀ j, j < cs.length → Rel S w r (cs.getD j .any) (c j)) :
    ∃ v, (Instr.loadAt t (.pointer (some ⟨b, o + off, none⟩))).run P w = .ok v w ∧ Rel S w r (partD z cs off) v := by
  obtain ⟨h1, h2⟩ := zhe hp h
  have ha := zdL (w := w) hz
  have hs := zaz (w := w) hz
  simp only [Instr.loadAt, Instr.sureAddr, loadVar, Sem.run_bind, Sem.run_pure, Result.andThen_ok, ha]
  cases hg : z.2 with
  | true =>
    simp only [partP, hg] at hp
    refine ⟨_, ?_, h1 hg⟩
    have hl := run_loadCells (P := P) w ⟨b, o + off, none⟩ z.1 (fun j => c (off + j)) (fun j hj => by
      rw [Addr.add_lit, Nat.add_assoc]
      exact hcell (off + j) (by omega))
    simp [hs, hl]
  | false =>
    simp only [partP, hg] at hp
    refine ⟨_, ?_, h2 hg⟩
    simp [run_load, hcell off (by omega)]
theorem zex (k : IntKind) (f : Nat → Int) : ∀ (m off : Nat), (tabD k f off m).length = m
  | 0, _ => rfl
  | m + 1, off => by simp [tabD, zex k f m (off + 1)]
theorem zgL (k : IntKind) (f : Nat → Int) : ∀ (m off j : Nat), j < m → (tabD k f off m).getD j .any = .i k (f (off + j))
  | m + 1, off, 0, _ => rfl
  | m + 1, off, j + 1, h => by
    have := zgL k f m (off + 1) j (by omega)
    simp only [tabD, List.getD_cons_succ, this]
    congr 2
    omega
theorem zfk {t : TypeId} {z : Nat × Bool} {k : IntKind} {len off b : Nat} {f : Nat → Int} (hz : szOf P t = some z) (h : ∀ j, j < len → w.cell? ⟨b, j, none⟩ = some (.int k (f j))) :
    (z.2 = true → off + z.1 ≤ len → ∃ v, (Instr.loadAt t (.pointer (some ⟨b, off, none⟩))).run P w = .ok v w ∧ Rel S w r (.ag (tabD k f off z.1)) v) ∧
    (z.2 = false → off < len → ∃ v, (Instr.loadAt t (.pointer (some ⟨b, off, none⟩))).run P w = .ok v w ∧ Rel S w r (.i k (f off)) v) := by
  have ha := zdL (w := w) hz
  have hs := zaz (w := w) hz
  simp only [Instr.loadAt, Instr.sureAddr, loadVar, Sem.run_bind, Sem.run_pure, Result.andThen_ok, ha]
  constructor
  · intro hg ho
    have hl := run_loadCells (P := P) w ⟨b, off, none⟩ z.1 (fun j => .int k (f (off + j))) (fun j hj => by
      rw [Addr.add_lit]
      exact h (off + j) (by omega))
    refine ⟨.agg ((List.range z.1).map fun j => Value.int k (f (off + j))).toArray, by simp [hg, hs, hl], ?_⟩
    refine .ag _ _ _ (by simp [zex]) (fun j hj => ?_)
    rw [zex] at hj
    rw [zgL k f _ _ j hj]
    have e : (((List.range z.1).map fun j => Value.int k (f (off + j))).toArray).getD j undef = .int k (f (off + j)) := by
      simp [Array.getD_eq_getD_getElem?, hj]
    rw [e]
    exact .i ..
  · intro hg ho
    exact ⟨.int k (f off), by simp [hg, run_load, h off ho], .i ..⟩
theorem zhk {t : TypeId} {z : Nat × Bool} {cs : List D} {off : Nat} {vs : Array Value} (hz : szOf P t = some z) (hp : partP z cs off) (hn : vs.size = cs.length)
    (h : ∀ j, j < cs.length → Rel S w r (cs.getD j .any) (vs.getD j undef)) : ∃ v, (part t vs off).run P w = .ok v w ∧ Rel S w r (partD z cs off) v := by
  obtain ⟨h1, h2⟩ := zhe (c := fun j => vs.getD j undef) hp h
  have ha := zdL (w := w) hz
  have hs := zaz (w := w) hz
  simp only [part, Sem.run_bind, Result.andThen_ok, ha]
  cases hg : z.2 with
  | true =>
    simp only [partP, hg] at hp
    have e : vs.extract off (off + z.1) = ((List.range z.1).map fun j => vs.getD (off + j) undef).toArray := by
      apply Array.ext
      · simp; omega
      · intro j hj1 hj2
        simp only [Array.size_extract] at hj1
        simp [Array.getD_eq_getD_getElem?, show off + j < vs.size by omega]
    refine ⟨_, ?_, h1 hg⟩
    simp [hs, e]
  | false =>
    simp only [partP, hg] at hp
    have hlt : off < vs.size := by omega
    refine ⟨_, ?_, h2 hg⟩
    simp [hlt, Array.getD_eq_getD_getElem?]
theorem zhs {t ty : TypeId} {dx : D} {vx : Value} {s : Stp} (hs : lenD (tb P) t dx = some s) (hx : Rel S w r dx vx) :
    ∃ v, (Builtin.len_ #[t] ty #[vx]).run P w = .ok v w ∧ Rel S w r s.d v ∧ s.wr = [] := by
  unfold lenD at hs
  split at hs <;> first | (cases hs; done) | skip
  · rename_i l ht
    cases hx
    cases hs
    refine ⟨_, run_len_string w t ty _ (zaQ ht), ?_, rfl⟩
    exact zbb (by simp [ByteArray.size])
  · rename_i ht
    cases hx
    cases hs
    refine ⟨.int .i64 0, by simp [Builtin.len_, run_underlying (zav ht).1, goInt], ?_, rfl⟩
    exact zbb rfl
  · rename_i ht
    cases hx
    cases hs
    exact ⟨.int .i64 _, by simp [Builtin.len_, run_underlying (zav ht).1, goInt], zbb rfl, rfl⟩
  · rename_i ht
    cases hx with
    | gs _ _ _ _ _ _ _ _ hx =>
      cases hx
      cases hs
      exact ⟨.int .i64 _, by simp [Builtin.len_, run_underlying (zav ht).1, goInt], zbb rfl, rfl⟩
  · rename_i ht
    cases hx
    cases hs
    exact ⟨.int .i64 _, by simp [Builtin.len_, run_underlying (zav ht).1, goInt], zbb rfl, rfl⟩
  · rename_i ht
    cases hx
    cases hs
    exact ⟨.int .i64 0, by simp [Builtin.len_, run_underlying (zav ht).1, goInt], zbb rfl, rfl⟩
  · rename_i ht
    cases hx
    cases hs
    exact ⟨.int .i64 0, by simp [Builtin.len_, run_underlying (zav ht).1, goInt], zbb rfl, rfl⟩
theorem zhP {t : TypeId} {dx di : D} {vx vi : Value} {s : Stp} (hs : idxD (tb P) t dx di = some s) (hp : s.p) (hx : Rel S w r dx vx) (hi : Rel S w r di vi) :
    ∃ v, (Instr.index t vx vi).run P w = .ok v w ∧ Rel S w r s.d v ∧ s.wr = [] := by
  unfold idxD at hs
  try simp only [zbs] at hs
  split at hs <;> first | (cases hs; done) | skip
  · rename_i l k n ht
    cases hx
    cases hi
    cases hs
    obtain ⟨h1, h2⟩ := hp
    have hlt : n.toNat < l.length := by omega
    refine ⟨.int .u8 ((l.getD n.toNat 0).toNat : Int), ?_, .i .., rfl⟩
    have hg : (ByteArray.mk l.toArray)[n.toNat]? = some (l.getD n.toNat 0) := by
      have hsz : n.toNat < (ByteArray.mk l.toArray).size := by simpa [ByteArray.size] using hlt
      rw [ByteArray.getElem?_lt' _ _ hsz]
      simp only [Option.some.injEq]
      show (l.toArray)[n.toNat]'(by simpa using hlt) = _
      simp [List.getD_eq_getElem?_getD, hlt]
    simp [Instr.index, asIntOf, run_underlying (zaQ ht), h1, hg]
  · rename_i cs k n m e z g ht
    cases hi
    cases hs
    obtain ⟨h1, h2, h3⟩ := hp
    obtain ⟨hu, hz⟩ := zaX ht
    cases hx with
    | ag _ _ vs hn h =>
      obtain ⟨v, hv, hr⟩ := zhk (P := P) (t := e) hz h3 hn h
      refine ⟨v, ?_, hr, rfl⟩
      simp [Instr.index, asIntOf, run_underlying hu, h1, h2, zaz (w := w) hz, hv]
theorem zlA (S : Cells) (w : World) (r : Rho) {cs : List D} {off : Nat} {v : Value} (h : Rel S w r (.rf cs off) v) (m : Nat) :
    ∃ a, v = .pointer (some a) ∧ Rel S w r (.rf cs (off + m)) (.pointer (some (a.add m))) := by
  cases h with
  | rf _ _ _ b o c hp hcell hr =>
    refine ⟨_, rfl, ?_⟩
    rw [Addr.add_lit, Nat.add_assoc]
    exact .rf _ cs (off + m) b o c hp hcell hr
theorem zlz (S : Cells) (w : World) (r : Rho) {k off : Nat} {v : Value} (h : Rel S w r (.pv k off) v) (m : Nat) :
    ∃ a, v = .pointer (some a) ∧ Rel S w r (.pv k (off + m)) (.pointer (some (a.add m))) := by
  cases h with
  | pv _ _ _ b h =>
    refine ⟨_, rfl, ?_⟩
    rw [Addr.add_lit]
    exact .pv _ k (off + m) b h
theorem zly (S : Cells) (w : World) (r : Rho) {k e len i off : Nat} {v : Value} (h : Rel S w r (.ap k e len i off) v) (m : Nat) :
    ∃ a, v = .pointer (some a) ∧ Rel S w r (.ap k e len i (off + m)) (.pointer (some (a.add m))) := by
  cases h with
  | ap _ _ _ _ _ _ a tv L hk hL ht ha =>
    obtain ⟨g, o, rfl⟩ := ha
    refine ⟨_, rfl, ?_⟩
    rw [Addr.add_lit]
    refine .ap _ k e len i (off + m) _ tv L hk hL (fun h => ?_) ⟨g, _, rfl⟩
    obtain ⟨g', cap, h1, h2⟩ := ht h
    simp only [Addr.mk.injEq, and_true] at h2
    exact ⟨g', cap, h1, by rw [h2.1, h2.2, Nat.add_assoc]⟩
theorem zlt (S : Cells) (w : World) (r : Rho) {k : IntKind} {len off : Nat} {f : Nat → Int} {v : Value} (h : Rel S w r (.rn k len f off) v) (m : Nat) :
    ∃ a, v = .pointer (some a) ∧ Rel S w r (.rn k len f (off + m)) (.pointer (some (a.add m))) := by
  cases h with
  | rn _ _ _ _ _ b h =>
    refine ⟨_, rfl, ?_⟩
    rw [Addr.add_lit]
    exact .rn _ k len f (off + m) b h
theorem zmR {esz len : Nat} {f : Nat → List D} {v : Value} (h : Rel S w r (.sl esz len f) v) {i : Nat} (hi : i < len) :
    ∃ a cap, v = .slice a len cap ∧ (0 < esz → ∃ ad, a = some ad ∧ Rel S w r (.rf (f i) 0) (.pointer (some (ad.add (i * esz))))) := by
  cases h with
  | sl _ _ _ _ a cap c hc hm hl hcell hr =>
    refine ⟨a, cap, rfl, fun hz => ?_⟩
    obtain ⟨b, o, ha, _, _⟩ := hcell i 0 hi hz
    obtain ⟨hl1, hl2⟩ := hl i hi
    refine ⟨_, ha, ?_⟩
    rw [Addr.add_lit]
    have := Rel.rf (S := S) (w := w) r (f i) 0 b (o + i * esz) (fun j => c i j) hl2 (fun j hj => ?_) (fun j hj => hr i j hi (by omega))
    · simpa using this
    · obtain ⟨b', o', ha', hs', hc'⟩ := hcell i j hi (by omega)
      rw [ha] at ha'
      cases ha'
      exact ⟨hs', hc'⟩
theorem zdT {t : TypeId} {dx di : D} {vx vi : Value} {s : Stp} (hs : idxAddrD (tb P) t dx di = some s) (hp : s.p) (hx : Rel S w r dx vx) (hi : Rel S w r di vi) :
    ∃ v, (Instr.indexAt t vx vi).run P w = .ok v w ∧ Rel S w r s.d v ∧ s.wr = [] := by
  unfold idxAddrD at hs
  split at hs <;> first | (cases hs; done) | skip
  · rename_i e z g b e' len f k n ht
    cases hi
    cases hs
    obtain ⟨h1, h2, rfl, h4⟩ := hp
    obtain ⟨hu, hz, _⟩ := zav ht
    obtain ⟨a, cap, rfl, hr⟩ := zmR hx (i := n.toNat) (by omega)
    obtain ⟨ad, rfl, hr2⟩ := hr h4
    clear hr
    exact ⟨.pointer (some (ad.add (n.toNat * e'))), by simp [Instr.indexAt, asIntOf, run_underlying hu, h1, h2, zaz (w := w) hz], hr2, rfl⟩
  · rename_i e z g b k' e' len f k n ht
    cases hi
    cases hs
    obtain ⟨h1, h2, rfl, h4⟩ := hp
    obtain ⟨hu, hz, _⟩ := zav ht
    obtain ⟨a, cap, rfl, hr⟩ := zmR hx.shut (i := n.toNat) (by omega)
    obtain ⟨ad, rfl, hr2⟩ := hr h4
    clear hr
    exact ⟨.pointer (some (ad.add (n.toNat * e'))), by simp [Instr.indexAt, asIntOf, run_underlying hu, h1, h2, zaz (w := w) hz], hr2, rfl⟩
  · rename_i e z g b k' e' len k n ht
    cases hi
    cases hs
    obtain ⟨h1, h2, rfl⟩ := hp
    obtain ⟨hu, hz, _⟩ := zav ht
    cases hx with
    | ah _ _ _ _ cap a tv L hk hL hta ha =>
      obtain ⟨g, rfl⟩ := ha (by omega)
      refine ⟨.pointer (some ((⟨g, 0, none⟩ : Addr).add (n.toNat * e'))), by simp [Instr.indexAt, asIntOf, run_underlying hu, h1, h2, zaz (w := w) hz], ?_, rfl⟩
      rw [Addr.add_lit, Nat.zero_add]
      refine .ap _ k' e' len n.toNat 0 _ tv L hk hL (fun h => ?_) ⟨g, _, rfl⟩
      rcases hta h with h | ⟨_, a2, h⟩
      · exact ⟨g, cap, h.symm, by rw [Nat.add_zero]⟩
      · cases h; omega
  · rename_i m e z g k' e' len i off k n ht
    cases hi
    cases hs
    obtain ⟨h1, h2⟩ := hp
    obtain ⟨hu, hz⟩ := zaX ht
    obtain ⟨a, rfl, hr⟩ := zly S w r hx (n.toNat * z)
    exact ⟨_, by simp [Instr.indexAt, asIntOf, Instr.sureAddr, run_underlying hu, h1, h2, zaz (w := w) hz], hr, rfl⟩
  · rename_i m e z g k' len f off k n ht
    cases hi
    cases hs
    obtain ⟨h1, h2⟩ := hp
    obtain ⟨hu, hz⟩ := zaX ht
    obtain ⟨a, rfl, hr⟩ := zlt S w r hx (n.toNat * z)
    exact ⟨_, by simp [Instr.indexAt, asIntOf, Instr.sureAddr, run_underlying hu, h1, h2, zaz (w := w) hz], hr, rfl⟩
  · rename_i m e z g cs off k n ht
    cases hi
    cases hs
    obtain ⟨h1, h2⟩ := hp
    obtain ⟨hu, hz⟩ := zaX ht
    obtain ⟨a, rfl, hr⟩ := zlA S w r hx (n.toNat * z)
    exact ⟨_, by simp [Instr.indexAt, asIntOf, Instr.sureAddr, run_underlying hu, h1, h2, zaz (w := w) hz], hr, rfl⟩
  · rename_i m e z g k' off k n ht
    cases hi
    cases hs
    obtain ⟨h1, h2⟩ := hp
    obtain ⟨hu, hz⟩ := zaX ht
    obtain ⟨a, rfl, hr⟩ := zlz S w r hx (n.toNat * z)
    exact ⟨_, by simp [Instr.indexAt, asIntOf, Instr.sureAddr, run_underlying hu, h1, h2, zaz (w := w) hz], hr, rfl⟩
theorem zhb {t : TypeId} {fs : List (Nat × Nat × Bool)} {j off : Nat} {z : Nat × Bool} (ht : tyOf P t = .struct fs) (hj : fs[j]? = some (off, z)) (hz : z.1 ≠ 0) :
    ∃ gs f, P.underlying t = some (.struct gs) ∧ gs[j]? = some f ∧ f.offset = off ∧ szOf P f.type = some z := by
  obtain ⟨gs, hu, he⟩ := zdl ht
  subst he
  simp only [List.getElem?_map, Option.map_eq_some_iff, Array.getElem?_toList] at hj
  obtain ⟨f, hf, he⟩ := hj
  simp only [Prod.mk.injEq] at he
  obtain ⟨rfl, he⟩ := he
  refine ⟨gs, f, hu, hf, rfl, ?_⟩
  cases hs : szOf P f.type with
  | none => rw [hs] at he; subst he; exact absurd rfl hz
  | some y => rw [hs] at he; simp only at he; rw [← he]
theorem zbe {f : Field} {z : Nat × Bool} {a : Addr} (hz : szOf P f.type = some z) (h0 : z.1 ≠ 0) : (fieldPlace a f).run P w = .ok (a.add f.offset) w := by
  simp [fieldPlace, zaz (w := w) hz, h0]
theorem zcY {t : TypeId} {j : Nat} {dx : D} {vx : Value} {s : Stp} (hs : fieldAddrD (tb P) t dx j = some s) (hx : Rel S w r dx vx) :
    ∃ v, (Instr.fieldAt t vx j).run P w = .ok v w ∧ Rel S w r s.d v ∧ s.wr = [] := by
  unfold fieldAddrD at hs
  split at hs <;> first | (cases hs; done) | skip
  rename_i fs ht
  split at hs <;> first | (cases hs; done) | skip
  rename_i off z g hj
  split at hs <;> first | (cases hs; done) | skip
  rename_i z
  obtain ⟨gs, f, hu, hf, ho, hz⟩ := zhb ht hj (by simp)
  split at hs <;> first | (cases hs; done) | skip
  · cases hs
    obtain ⟨a, rfl, hr⟩ := zlA S w r hx off
    refine ⟨_, ?_, hr, rfl⟩
    simp [Instr.fieldAt, run_underlying hu, hf, Instr.sureAddr, zbe (w := w) (a := a) hz (by simp), ho]
  · cases hs
    obtain ⟨a, rfl, hr⟩ := zlz S w r hx off
    refine ⟨_, ?_, hr, rfl⟩
    simp [Instr.fieldAt, run_underlying hu, hf, Instr.sureAddr, zbe (w := w) (a := a) hz (by simp), ho]
  · cases hs
    obtain ⟨a, rfl, hr⟩ := zly S w r hx off
    refine ⟨_, ?_, hr, rfl⟩
    simp [Instr.fieldAt, run_underlying hu, hf, Instr.sureAddr, zbe (w := w) (a := a) hz (by simp), ho]
  · cases hs
    obtain ⟨a, rfl, hr⟩ := zlt S w r hx off
    refine ⟨_, ?_, hr, rfl⟩
    simp [Instr.fieldAt, run_underlying hu, hf, Instr.sureAddr, zbe (w := w) (a := a) hz (by simp), ho]
theorem zfB {t : TypeId} {j : Nat} {dx : D} {vx : Value} {s : Stp} (hs : fieldD (tb P) t dx j = some s) (hp : s.p) (hx : Rel S w r dx vx) :
    ∃ v, (Instr.field t vx j).run P w = .ok v w ∧ Rel S w r s.d v ∧ s.wr = [] := by
  unfold fieldD at hs
  try simp only [zbs] at hs
  split at hs <;> first | (cases hs; done) | skip
  rename_i fs ht
  split at hs <;> first | (cases hs; done) | skip
  rename_i off z cs hj
  split at hs <;> first | (cases hs; done) | skip
  rename_i h0
  obtain ⟨gs, f, hu, hf, ho, hz⟩ := zhb ht hj (by omega)
  cases hs
  cases hx with
  | ag _ _ vs hn h =>
    obtain ⟨v, hv, hr⟩ := zhk (P := P) (t := f.type) hz hp hn h
    refine ⟨v, ?_, hr, rfl⟩
    simp [Instr.field, run_underlying hu, hf, asAgg, ho, hv]
end
end Go.Proofs.YtkkaamhocpmhkaaGreatDoor.Flow
