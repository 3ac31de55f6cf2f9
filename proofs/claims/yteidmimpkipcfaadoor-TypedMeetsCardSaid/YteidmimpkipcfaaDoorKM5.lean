/- The texts FlowN, FlowO, FlowP, U0, F1, F2, F3, one behind the other. -/
import Derived.Test.YteidmimpkipcfaaDoorKM4
import Derived.Laws.BitsLemmas
/-
  FLOW, PART N: THE RULES AT THIS SEAT's PROGRAM AND TABLES.
-/
namespace Go.Proofs.YteidmimpkipcfaaDoor.Flow

section
variable {X : Ctx} {n : Nat} {all rest : List Oper} {fr : Fr} {ow : Ow} {tr : List (List Nat × List Nat)} {K : Fr → Ow → List (List Nat × List Nat) → Prop} {Q : Exit → Fr → Ow → Prop}
variable {t : Nat} {op : Op} {ty : TypeId} {pos : String} {af : Array Edge} {d : D} {p : Prop} {rd : List Nat} {k : Nat} {ob : Own} {g u : Nat} {want : Bool}

theorem r_val (hs : step B (ev fr) (fun k => look k ow) ⟨some t, op, ty, pos, af, none⟩ = some ⟨d, p, rd, []⟩) (hn : Nat.blt t n = true) (hp : p) (h : CT Tryd.prog X n all rest ((t, d) :: fr) ow (tr ++ [(rd, [])]) K) :
    CT Tryd.prog X n all (⟨some t, op, ty, pos, af, none⟩ :: rest) fr ow tr K := CT.val (by rw [tb_eq]; exact hs) (by simpa using hn) hp h
theorem r_obj (hs : step B (ev fr) (fun k => look k ow) ⟨some t, op, ty, pos, af, none⟩ = some ⟨d, p, rd, [(k, ob)]⟩) (hn : Nat.blt t n = true) (hp : p) (h : CT Tryd.prog X n all rest ((t, d) :: fr) ((k, ob) :: ow) (tr ++ [(rd, [k])]) K) :
    CT Tryd.prog X n all (⟨some t, op, ty, pos, af, none⟩ :: rest) fr ow tr K := CT.obj (by rw [tb_eq]; exact hs) (by simpa using hn) hp h
theorem r_arr (hs : stepK true B (ev fr) (fun k => look k ow) ⟨some t, op, ty, pos, af, none⟩ = some ⟨d, p, rd, [(k, ob)]⟩) (hn : Nat.blt t n = true) (hp : p) (h : CT Tryd.prog X n all rest ((t, d) :: fr) ((k, ob) :: ow) (tr ++ [(rd, [k])]) K) :
    CT Tryd.prog X n all (⟨some t, op, ty, pos, af, none⟩ :: rest) fr ow tr K := CT.arr (by rw [tb_eq]; exact hs) (by simpa using hn) hp h
theorem r_garr (hu : dstAt all g = some u) (hc : getD' u fr = .b want) (hs : stepK true B (ev fr) (fun k => look k ow) ⟨some t, op, ty, pos, af, some (g, want)⟩ = some ⟨d, p, rd, [(k, ob)]⟩) (hn : Nat.blt t n = true) (hp : p)
    (h : CT Tryd.prog X n all rest ((t, d) :: fr) ((k, ob) :: ow) (tr ++ [(rd, [k])]) K) : CT Tryd.prog X n all (⟨some t, op, ty, pos, af, some (g, want)⟩ :: rest) fr ow tr K := CT.garr hu hc (by rw [tb_eq]; exact hs) (by simpa using hn) hp h
theorem r_callS {f : FuncId} {args : List D} (hc : callOf fr op = some (f, args)) (hn : Nat.blt t n = true) (hP : ∀ vs w, (callFunc f vs).run Tryd.prog w = .ok (.enter f vs) w) (hp : okOs (fun k => look k ow) args) (hf : (args.map (D.shutO fun k => look k ow)).all D.free = true)
    (hC : Ctr Tryd.prog f (args.map (D.shutO fun k => look k ow)) d) (hs : d.scal = true)
    (h : CT Tryd.prog X n all rest ((t, d) :: fr) ow (tr ++ [(keysO args, [])]) K) : CT Tryd.prog X n all (⟨some t, op, ty, pos, af, none⟩ :: rest) fr ow tr K := CT.callS hc (by simpa using hn) hP hp hf hC hs h
theorem r_gcallS {f : FuncId} {args : List D} (hu : dstAt all g = some u) (hg : getD' u fr = .b want) (hc : callOf fr op = some (f, args)) (hn : Nat.blt t n = true) (hP : ∀ vs w, (callFunc f vs).run Tryd.prog w = .ok (.enter f vs) w) (hp : okOs (fun k => look k ow) args) (hf : (args.map (D.shutO fun k => look k ow)).all D.free = true)
    (hC : Ctr Tryd.prog f (args.map (D.shutO fun k => look k ow)) d) (hs : d.scal = true)
    (h : CT Tryd.prog X n all rest ((t, d) :: fr) ow (tr ++ [(keysO args, [])]) K) : CT Tryd.prog X n all (⟨some t, op, ty, pos, af, some (g, want)⟩ :: rest) fr ow tr K := CT.gcallS hu hg hc (by simpa using hn) hP hp hf hC hs h
theorem r_callN {f : FuncId} {args : List D} {k z L : Nat} {e : TypeId} {h0 : Nat → List D} (hc : callOf fr op = some (f, args)) (hn : Nat.blt t n = true) (hP : ∀ vs w, (callFunc f vs).run Tryd.prog w = .ok (.enter f vs) w) (hf : (args.map D.shut).all D.free = true)
    (hC : CtrO Tryd.prog f (args.map D.shut) [] (.ah k z L) [(k, .arr e z L h0)]) (ht : look t ow = none)
    (h : CT Tryd.prog X n all rest ((t, .ah t z L) :: fr) ((t, .arr e z L h0) :: ow) (tr ++ [([t], [t])]) K) : CT Tryd.prog X n all (⟨some t, op, ty, pos, af, none⟩ :: rest) fr ow tr K := CT.callN hc (by simpa using hn) hP hf hC ht h
theorem r_sto (hs : step B (ev fr) (fun k => look k ow) ⟨none, op, ty, pos, af, none⟩ = some ⟨d, p, rd, [(k, ob)]⟩) (hp : p) (h : CT Tryd.prog X n all rest fr ((k, ob) :: ow) (tr ++ [(rd, [k])]) K) :
    CT Tryd.prog X n all (⟨none, op, ty, pos, af, none⟩ :: rest) fr ow tr K := CT.sto (by rw [tb_eq]; exact hs) hp h
theorem r_gval (hu : dstAt all g = some u) (hc : getD' u fr = .b want) (hs : step B (ev fr) (fun k => look k ow) ⟨some t, op, ty, pos, af, some (g, want)⟩ = some ⟨d, p, rd, []⟩) (hn : Nat.blt t n = true) (hp : p)
    (h : CT Tryd.prog X n all rest ((t, d) :: fr) ow (tr ++ [(rd, [])]) K) : CT Tryd.prog X n all (⟨some t, op, ty, pos, af, some (g, want)⟩ :: rest) fr ow tr K := CT.gval hu hc (by rw [tb_eq]; exact hs) (by simpa using hn) hp h
theorem r_gobj (hu : dstAt all g = some u) (hc : getD' u fr = .b want) (hs : step B (ev fr) (fun k => look k ow) ⟨some t, op, ty, pos, af, some (g, want)⟩ = some ⟨d, p, rd, [(k, ob)]⟩) (hn : Nat.blt t n = true) (hp : p)
    (h : CT Tryd.prog X n all rest ((t, d) :: fr) ((k, ob) :: ow) (tr ++ [(rd, [k])]) K) : CT Tryd.prog X n all (⟨some t, op, ty, pos, af, some (g, want)⟩ :: rest) fr ow tr K := CT.gobj hu hc (by rw [tb_eq]; exact hs) (by simpa using hn) hp h
theorem r_gskip (hu : dstAt all g = some u) (hc : getD' u fr = .b (!want)) (hn : Nat.blt t n = true) (h : CT Tryd.prog X n all rest ((t, .tu []) :: fr) ow (tr ++ [([], [])]) K) :
    CT Tryd.prog X n all (⟨some t, op, ty, pos, af, some (g, want)⟩ :: rest) fr ow tr K := CT.gskip hu (.inl hc) (by simpa using hn) h
theorem r_gskip2 (hu : dstAt all g = some u) (hc : getD' u fr = .tu []) (hn : Nat.blt t n = true) (h : CT Tryd.prog X n all rest ((t, .tu []) :: fr) ow (tr ++ [([], [])]) K) :
    CT Tryd.prog X n all (⟨some t, op, ty, pos, af, some (g, want)⟩ :: rest) fr ow tr K := CT.gskip hu (.inr hc) (by simpa using hn) h

theorem r_call {f : FuncId} {args : List D} (hc : callOf fr op = some (f, args)) (hn : Nat.blt t n = true) (hP : ∀ vs w, (callFunc f vs).run Tryd.prog w = .ok (.enter f vs) w) (hf : (args.map D.shut).all D.free = true) (hC : Ctr Tryd.prog f (args.map D.shut) d)
    (h : CT Tryd.prog X n all rest ((t, d) :: fr) ow (tr ++ [([], [])]) K) : CT Tryd.prog X n all (⟨some t, op, ty, pos, af, none⟩ :: rest) fr ow tr K := CT.call hc (by simpa using hn) hP hf hC h
theorem r_gcall {f : FuncId} {args : List D} (hu : dstAt all g = some u) (hg : getD' u fr = .b want) (hc : callOf fr op = some (f, args)) (hn : Nat.blt t n = true) (hP : ∀ vs w, (callFunc f vs).run Tryd.prog w = .ok (.enter f vs) w)
    (hf : (args.map D.shut).all D.free = true) (hC : Ctr Tryd.prog f (args.map D.shut) d)
    (h : CT Tryd.prog X n all rest ((t, d) :: fr) ow (tr ++ [([], [])]) K) : CT Tryd.prog X n all (⟨some t, op, ty, pos, af, some (g, want)⟩ :: rest) fr ow tr K := CT.gcall hu hg hc (by simpa using hn) hP hf hC h

/-- The state at an exit, in the walk's words. -/
def Nrm (Q : Exit → Fr → Ow → Prop) (fr : Fr) (ow : Ow) : Prop := Q .normal fr ow
def Rtn (Q : Exit → Fr → Ow → Prop) (fr : Fr) (ow : Ow) : Prop := Q .ret fr ow
def Exi (id : Nat) (Q : Exit → Fr → Ow → Prop) (fr : Fr) (ow : Ow) : Prop := Q (.exit id) fr ow

theorem n_then {K : Fr → Ow → Prop} (h : K fr ow) : Nrm (thenQ K Q) fr ow := h
theorem n_block {id : Nat} (h : Nrm Q fr ow) : Nrm (blockQ id Q) fr ow := h
theorem e_then {K : Fr → Ow → Prop} {id : Nat} (h : Exi id Q fr ow) : Exi id (thenQ K Q) fr ow := h
theorem e_hit {j id : Nat} (hb : Nat.beq j id = true) (h : Nrm Q fr ow) : Exi j (blockQ id Q) fr ow := by
  show blockQ id Q (.exit j) fr ow
  simp only [blockQ, hb]
  exact h
theorem e_miss {j id : Nat} (hb : Nat.beq j id = false) (h : Exi j Q fr ow) : Exi j (blockQ id Q) fr ow := by
  show blockQ id Q (.exit j) fr ow
  simp only [blockQ, hb]
  exact h
theorem x_then {K : Fr → Ow → Prop} (h : Rtn Q fr ow) : Rtn (thenQ K Q) fr ow := h
theorem x_block {id : Nat} (h : Rtn Q fr ow) : Rtn (blockQ id Q) fr ow := h

theorem t_seq {x y : Code} (h : T Tryd.prog X n x fr ow (thenQ (fun fr ow => T Tryd.prog X n y fr ow Q) Q)) : T Tryd.prog X n (.seq x y) fr ow Q := T.seq h
theorem t_skip (h : Nrm Q fr ow) : T Tryd.prog X n .skip fr ow Q := T.skip h
theorem t_ret (h : Rtn Q fr ow) : T Tryd.prog X n .ret fr ow Q := T.ret h
theorem t_exit {id : Nat} (h : Exi id Q fr ow) : T Tryd.prog X n (.exit id) fr ow Q := T.exit h
theorem t_block {id : Nat} {c : Code} (h : T Tryd.prog X n c fr ow (blockQ id Q)) : T Tryd.prog X n (.block id c) fr ow Q := T.block h
theorem t_true {c : Operand} {x y : Code} (hc : ev fr c = .b true) (h : T Tryd.prog X n x fr ow Q) : T Tryd.prog X n (.cond c x y) fr ow Q := T.cond hc (fun _ => h) (fun e => nomatch e)
theorem t_false {c : Operand} {x y : Code} (hc : ev fr c = .b false) (h : T Tryd.prog X n y fr ow Q) : T Tryd.prog X n (.cond c x y) fr ow Q := T.cond hc (fun e => nomatch e) (fun _ => h)
theorem t_cond {c : Operand} {x y : Code} {b : Bool} (hc : ev fr c = .b b) (h1 : b = true → T Tryd.prog X n x fr ow Q) (h2 : b = false → T Tryd.prog X n y fr ow Q) : T Tryd.prog X n (.cond c x y) fr ow Q := T.cond hc h1 h2
theorem t_region {id : Nat} {ops : List Oper} (h : CT Tryd.prog X n ops ops fr ow [] (fun fr ow _ => Nrm Q fr ow)) : T Tryd.prog X n (.region id ⟨ops⟩ false) fr ow Q := T.region h
theorem t_draw {id : Nat} {ops : List Oper} (h : CT Tryd.prog X n ops ops fr ow [] (fun fr ow tr => flowOk ops tr = true ∧ Nrm Q fr ow)) : T Tryd.prog X n (.region id ⟨ops⟩ true) fr ow Q := T.draw mixed h
theorem c_nil {K : Fr → Ow → List (List Nat × List Nat) → Prop} (h : K fr ow tr) : CT Tryd.prog X n all [] fr ow tr K := CT.nil h
theorem c_split {dst : Option Tmp} {c : Bool} (hu : dstAt all g = some u) (hc : getD' u fr = .b c)
    (h1 : c = true → CT Tryd.prog X n all (⟨dst, op, ty, pos, af, some (g, want)⟩ :: rest) ((u, .b true) :: fr) ow tr K)
    (h2 : c = false → CT Tryd.prog X n all (⟨dst, op, ty, pos, af, some (g, want)⟩ :: rest) ((u, .b false) :: fr) ow tr K) :
    CT Tryd.prog X n all (⟨dst, op, ty, pos, af, some (g, want)⟩ :: rest) fr ow tr K := CT.split hu hc h1 h2

/-- A guard that is decided (for the walk: not to part on it again). -/
theorem c_lit {dst : Option Tmp} {c : Bool} (c' : Bool) (hu : dstAt all g = some u) (hc : getD' u fr = .b c) (_ : c = c') (h : CT Tryd.prog X n all (⟨dst, op, ty, pos, af, some (g, want)⟩ :: rest) fr ow tr K) : CT Tryd.prog X n all (⟨dst, op, ty, pos, af, some (g, want)⟩ :: rest) fr ow tr K := h

theorem c_grd {dst : Option Tmp} (h : CT Tryd.prog X n all (⟨dst, op, ty, pos, af, some (g, want)⟩ :: rest) fr ow tr K) : CT Tryd.prog X n all (⟨dst, op, ty, pos, af, some (g, want)⟩ :: rest) fr ow tr K := h

theorem c_split_d {dst : Option Tmp} {q : Prop} [Decidable q] (hu : dstAt all g = some u) (hc : getD' u fr = .b (decide q))
    (h1 : q → CT Tryd.prog X n all (⟨dst, op, ty, pos, af, some (g, want)⟩ :: rest) ((u, .b true) :: fr) ow tr K)
    (h2 : ¬ q → CT Tryd.prog X n all (⟨dst, op, ty, pos, af, some (g, want)⟩ :: rest) ((u, .b false) :: fr) ow tr K) :
    CT Tryd.prog X n all (⟨dst, op, ty, pos, af, some (g, want)⟩ :: rest) fr ow tr K := CT.split hu hc (fun h => h1 (of_decide_eq_true h)) (fun h => h2 (of_decide_eq_false h))
theorem c_split_i {dst : Option Tmp} {a b : Int} (hu : dstAt all g = some u) (hc : getD' u fr = .b (a == b))
    (h1 : a = b → CT Tryd.prog X n all (⟨dst, op, ty, pos, af, some (g, want)⟩ :: rest) ((u, .b true) :: fr) ow tr K)
    (h2 : ¬ a = b → CT Tryd.prog X n all (⟨dst, op, ty, pos, af, some (g, want)⟩ :: rest) ((u, .b false) :: fr) ow tr K) :
    CT Tryd.prog X n all (⟨dst, op, ty, pos, af, some (g, want)⟩ :: rest) fr ow tr K := CT.split hu hc (fun h => h1 (by simpa using h)) (fun h => h2 (by simpa using h))
theorem c_split_j {dst : Option Tmp} {a b : Int} (hu : dstAt all g = some u) (hc : getD' u fr = .b (a != b))
    (h1 : ¬ a = b → CT Tryd.prog X n all (⟨dst, op, ty, pos, af, some (g, want)⟩ :: rest) ((u, .b true) :: fr) ow tr K)
    (h2 : a = b → CT Tryd.prog X n all (⟨dst, op, ty, pos, af, some (g, want)⟩ :: rest) ((u, .b false) :: fr) ow tr K) :
    CT Tryd.prog X n all (⟨dst, op, ty, pos, af, some (g, want)⟩ :: rest) fr ow tr K := CT.split hu hc (fun h => h1 (by simpa using h)) (fun h => h2 (by simpa using h))
theorem c_split_s {dst : Option Tmp} {a b : List UInt8} (hu : dstAt all g = some u) (hc : getD' u fr = .b (a == b))
    (h1 : a = b → CT Tryd.prog X n all (⟨dst, op, ty, pos, af, some (g, want)⟩ :: rest) ((u, .b true) :: fr) ow tr K)
    (h2 : ¬ a = b → CT Tryd.prog X n all (⟨dst, op, ty, pos, af, some (g, want)⟩ :: rest) ((u, .b false) :: fr) ow tr K) :
    CT Tryd.prog X n all (⟨dst, op, ty, pos, af, some (g, want)⟩ :: rest) fr ow tr K := CT.split hu hc (fun h => h1 (by simpa using h)) (fun h => h2 (by simpa using h))
theorem c_split_n {dst : Option Tmp} {c : Bool} (hu : dstAt all g = some u) (hc : getD' u fr = .b (!c))
    (h1 : c = false → CT Tryd.prog X n all (⟨dst, op, ty, pos, af, some (g, want)⟩ :: rest) ((u, .b true) :: fr) ow tr K)
    (h2 : c = true → CT Tryd.prog X n all (⟨dst, op, ty, pos, af, some (g, want)⟩ :: rest) ((u, .b false) :: fr) ow tr K) :
    CT Tryd.prog X n all (⟨dst, op, ty, pos, af, some (g, want)⟩ :: rest) fr ow tr K := CT.split hu hc (fun h => h1 (by simpa using h)) (fun h => h2 (by simpa using h))

theorem t_cond_d {c : Operand} {x y : Code} {q : Prop} [Decidable q] (hc : ev fr c = .b (decide q)) (h1 : q → T Tryd.prog X n x fr ow Q) (h2 : ¬ q → T Tryd.prog X n y fr ow Q) : T Tryd.prog X n (.cond c x y) fr ow Q :=
  T.cond hc (fun h => h1 (of_decide_eq_true h)) (fun h => h2 (of_decide_eq_false h))
theorem t_cond_i {c : Operand} {x y : Code} {a b : Int} (hc : ev fr c = .b (a == b)) (h1 : a = b → T Tryd.prog X n x fr ow Q) (h2 : ¬ a = b → T Tryd.prog X n y fr ow Q) : T Tryd.prog X n (.cond c x y) fr ow Q :=
  T.cond hc (fun h => h1 (by simpa using h)) (fun h => h2 (by simpa using h))
theorem t_cond_j {c : Operand} {x y : Code} {a b : Int} (hc : ev fr c = .b (a != b)) (h1 : ¬ a = b → T Tryd.prog X n x fr ow Q) (h2 : a = b → T Tryd.prog X n y fr ow Q) : T Tryd.prog X n (.cond c x y) fr ow Q :=
  T.cond hc (fun h => h1 (by simpa using h)) (fun h => h2 (by simpa using h))
theorem t_cond_s {c : Operand} {x y : Code} {a b : List UInt8} (hc : ev fr c = .b (a == b)) (h1 : a = b → T Tryd.prog X n x fr ow Q) (h2 : ¬ a = b → T Tryd.prog X n y fr ow Q) : T Tryd.prog X n (.cond c x y) fr ow Q :=
  T.cond hc (fun h => h1 (by simpa using h)) (fun h => h2 (by simpa using h))
theorem t_cond_n {c : Operand} {x y : Code} {b : Bool} (hc : ev fr c = .b (!b)) (h1 : b = false → T Tryd.prog X n x fr ow Q) (h2 : b = true → T Tryd.prog X n y fr ow Q) : T Tryd.prog X n (.cond c x y) fr ow Q :=
  T.cond hc (fun h => h1 (by simpa using h)) (fun h => h2 (by simpa using h))

theorem T.mono {c : Code} {Q' : Exit → Fr → Ow → Prop} (h : T Tryd.prog X n c fr ow Q) (hq : ∀ e fr ow, Q e fr ow → Q' e fr ow) : T Tryd.prog X n c fr ow Q' := fun a w hr =>
  wp_mono (h a w hr) fun _ _ _ ⟨fr', ow', h1, h2⟩ => ⟨fr', ow', hq _ _ _ h1, h2⟩

/-- Paths that meet: behind a piece of code the state is of one form. -/
theorem T.mid {ι : Type} {c s : Code} {Q' : Exit → Fr → Ow → Prop} (hL : Lent X) (mkF : ι → Fr) (mkO : ι → Ow) (I : ι → Prop) (hK : ∀ z, I z → T Tryd.prog X n s (mkF z) (mkO z) Q')
    (h : T Tryd.prog X n c fr ow (thenQ (fun fr ow => ∃ z, I z ∧ Le X fr ow (mkF z) (mkO z)) Q)) : T Tryd.prog X n c fr ow (thenQ (fun fr ow => T Tryd.prog X n s fr ow Q') Q) :=
  h.mono fun e fr ow hq => by
    cases e with
    | normal =>
      obtain ⟨z, hz, hle⟩ := (show ∃ z, I z ∧ Le X fr ow (mkF z) (mkO z) from hq)
      exact show T Tryd.prog X n s fr ow Q' from fun a w hr => hK z hz a w (hr.le hle hL)
    | _ => exact hq

/-- .. behind the piece that begins with a region of this number (the paths first, then what follows). -/
theorem r_mid {ι : Type} (id : Nat) {ops : Array Oper} {dr : Bool} {c s : Code} {Q' : Exit → Fr → Ow → Prop} (hL : Lent X) (mkF : ι → Fr) (mkO : ι → Ow) (I : ι → Prop)
    (h : T Tryd.prog X n (.seq (.region id ops dr) c) fr ow (thenQ (fun fr ow => ∃ z, I z ∧ Le X fr ow (mkF z) (mkO z)) Q)) (hK : ∀ z, I z → T Tryd.prog X n s (mkF z) (mkO z) Q') :
    T Tryd.prog X n (.seq (.region id ops dr) c) fr ow (thenQ (fun fr ow => T Tryd.prog X n s fr ow Q') Q) := T.mid hL mkF mkO I hK h

theorem okIn_of_free {d : D} (h : d.free = true) (ks : List Nat) : d.okIn ks = true := by
  cases d with
  | fn f cs =>
    have h : cs.all D.free1 = true := h
    show cs.all (D.okI1 ks) = true
    rw [List.all_eq_true] at h ⊢
    intro c hc
    have := h c hc
    cases c <;> first | exact this | rfl | (simp [D.free1, D.plain] at this)
  | _ => first | exact h | (simp [D.free] at h)

theorem T.monoF {c : Code} {Q' : Exit → Fr → Ow → Prop} (h : T Tryd.prog X n c fr ow Q) (hq : ∀ e fr ow, Q e fr ow → ∃ fr' ow', Frz fr ow fr' ow' ∧ Q' e fr' ow') : T Tryd.prog X n c fr ow Q' := fun a w hr =>
  wp_mono (h a w hr) fun e _ _ ⟨fr', ow', h1, h2⟩ => by
    obtain ⟨fr2, ow2, h3, h4⟩ := hq e fr' ow' h1
    exact ⟨fr2, ow2, h4, h2.frz h3⟩

/-- What must hold where a function ends: its results tell d. -/
def Ends (rs : List ResultVar) (d : D) (e : Exit) (fr : Fr) (ow : Ow) : Prop :=
  match e with
  | .ret | .normal => ∃ fr' ow' d2, Frz fr ow fr' ow' ∧ resD B fr' ow' rs = some d2 ∧ Weak d2 d
  | _ => False

theorem x_end {rs : List ResultVar} {d d2 : D} (h : resD B fr ow rs = some d2) (he : d2 = d) : Rtn (Ends rs d) fr ow := ⟨fr, ow, d2, .refl .., h, .of_eq he⟩
theorem n_end {rs : List ResultVar} {d d2 : D} (h : resD B fr ow rs = some d2) (he : d2 = d) : Nrm (Ends rs d) fr ow := ⟨fr, ow, d2, .refl .., h, .of_eq he⟩
theorem x_endw {rs : List ResultVar} {d d2 : D} (h : resD B fr ow rs = some d2) (he : Weak d2 d) : Rtn (Ends rs d) fr ow := ⟨fr, ow, d2, .refl .., h, he⟩
theorem n_endw {rs : List ResultVar} {d d2 : D} (h : resD B fr ow rs = some d2) (he : Weak d2 d) : Nrm (Ends rs d) fr ow := ⟨fr, ow, d2, .refl .., h, he⟩
theorem x_endF {rs : List ResultVar} {d d2 : D} {e z L : Nat} {f : Nat → List D} (ts : List Nat) (k : Nat) (hk : look k ow = some (.arr e z L f)) (ht : allAh fr k z L ts) (h : resD B (setAll ts (.gs k z L f) fr) ((k, .row e z L) :: ow) rs = some d2) (he : Weak d2 d) : Rtn (Ends rs d) fr ow :=
  ⟨_, _, d2, .freeze _ _ _ _ ts k e z L f hk ht (.refl ..), h, he⟩
theorem n_endF {rs : List ResultVar} {d d2 : D} {e z L : Nat} {f : Nat → List D} (ts : List Nat) (k : Nat) (hk : look k ow = some (.arr e z L f)) (ht : allAh fr k z L ts) (h : resD B (setAll ts (.gs k z L f) fr) ((k, .row e z L) :: ow) rs = some d2) (he : Weak d2 d) : Nrm (Ends rs d) fr ow :=
  ⟨_, _, d2, .freeze _ _ _ _ ts k e z L f hk ht (.refl ..), h, he⟩

/-- FROM A BODY TO A CONTRACT. -/
theorem r_fun {f : FuncId} {fn : Func} {c : Code} {N : Nat} {rs : List ResultVar} {args : List D} {d : D} (hf : Tryd.prog.funcs[f]? = some fn) (hb : fn.body = some c) (hN : fn.ntmps = N) (hrs : fn.results = ⟨rs⟩) (hlen : Nat.ble args.length N = true) (hd : d.free = true)
    (h : ∀ X : Ctx, Lent X → X.ids = [] → T Tryd.prog X N c (slots 0 args) [] (Ends rs d)) : Ctr Tryd.prog f args d := by
  refine Ctr.of (ow' := []) (CtrO.of_T hf hb hN hrs (by simpa using hlen) fun X hL hi => (h X hL hi).monoF fun e fr2 ow2 hq => ?_) hd
  have key : ∀ fr3 ow3 d2, resD B fr3 ow3 rs = some d2 → Weak d2 d → ∃ d2, resD (tb Tryd.prog) fr3 ow3 rs = some d2 ∧ Weak d2 d ∧ d.okIn (([] : Ow).map (·.1)) = true ∧ Le X fr3 ow3 [] [] := by
    intro fr3 ow3 d2 h1 h2
    refine ⟨d2, by rw [tb_eq]; exact h1, h2, okIn_of_free hd _, trivial, trivial, rfl, fun k hk => ?_⟩
    rw [hi] at hk
    cases hk
  cases e with
  | ret => obtain ⟨fr3, ow3, d2, h0, h1, h2⟩ := hq; exact ⟨fr3, ow3, h0, .inl rfl, key _ _ d2 h1 h2⟩
  | normal => obtain ⟨fr3, ow3, d2, h0, h1, h2⟩ := hq; exact ⟨fr3, ow3, h0, .inr rfl, key _ _ d2 h1 h2⟩
  | _ => exact hq.elim

/-- What must hold where a function ends that hands back a new row. -/
def EndsN (rs : List ResultVar) (k : Nat) (el : TypeId) (z L : Nat) (g : Nat → List D) (e : Exit) (fr : Fr) (ow : Ow) : Prop :=
  match e with
  | .ret | .normal => ∃ fr' ow' L2 g2, Frz fr ow fr' ow' ∧ resD B fr' ow' rs = some (.ah k z L2) ∧ look k ow' = some (.arr el z L2 g2) ∧ L2 = L ∧ ∀ i, i < L → g2 i = g i
  | _ => False

/-- FROM A BODY TO A CONTRACT THAT HANDS BACK A NEW ROW. -/
theorem r_new {f : FuncId} {fn : Func} {c : Code} {N : Nat} {rs : List ResultVar} {args : List D} {z L : Nat} {el : TypeId} {g : Nat → List D} (k : Nat) (hf : Tryd.prog.funcs[f]? = some fn) (hb : fn.body = some c) (hN : fn.ntmps = N) (hrs : fn.results = ⟨rs⟩) (hlen : Nat.ble args.length N = true)
    (h : ∀ X : Ctx, Lent X → X.ids = [] → T Tryd.prog X N c (slots 0 args) [] (EndsN rs k el z L g)) : CtrO Tryd.prog f args [] (.ah k z L) [(k, .arr el z L g)] := by
  refine CtrO.of_T hf hb hN hrs (by simpa using hlen) fun X hL hi => (h X hL hi).monoF fun e fr2 ow2 hq => ?_
  have key : ∀ fr3 ow3 L2 g2, resD B fr3 ow3 rs = some (.ah k z L2) → look k ow3 = some (.arr el z L2 g2) → L2 = L → (∀ i, i < L → g2 i = g i) →
      ∃ d2, resD (tb Tryd.prog) fr3 ow3 rs = some d2 ∧ Weak d2 (.ah k z L) ∧ (D.ah k z L).okIn (([(k, .arr el z L g)] : Ow).map (·.1)) = true ∧ Le X fr3 ow3 [] [(k, .arr el z L g)] := by
    intro fr3 ow3 L2 g2 h1 h2 h3 h4
    subst h3
    exact ⟨_, by rw [tb_eq]; exact h1, .refl _, by simp [D.okIn, memB], trivial, ⟨⟨_, _, h2, rfl, fun i hi => .inl (h4 i hi)⟩, trivial⟩, rfl, fun j hj => by rw [hi] at hj; cases hj⟩
  cases e with
  | ret => obtain ⟨fr3, ow3, L2, g2, h0, h1, h2, h3, h4⟩ := hq; exact ⟨fr3, ow3, h0, .inl rfl, key _ _ L2 g2 h1 h2 h3 h4⟩
  | normal => obtain ⟨fr3, ow3, L2, g2, h0, h1, h2, h3, h4⟩ := hq; exact ⟨fr3, ow3, h0, .inr rfl, key _ _ L2 g2 h1 h2 h3 h4⟩
  | _ => exact hq.elim
end

attribute [irreducible] Nrm Rtn Exi

end Go.Proofs.YteidmimpkipcfaaDoor.Flow

/-
  FLOW, PART O: A CALL TO WHICH A VARIABLE IS LENT (a method with a pointer receiver).
-/
namespace Go.Proofs.YteidmimpkipcfaaDoor.Flow

/-- An argument in the callee's own numbers: the lent variable is its number 0. -/
def unsub (k : Nat) : D → D
  | .pv j o => match Nat.beq j k with
    | true => .pv 0 o
    | false => .pv (j + 1) o
  | d => d.shut

def okA : D → Bool
  | .pv 0 _ => true
  | d => d.free

section
variable {P : Program} {X : Ctx} {n : Nat} {fr : Fr} {ow : Ow} {d : D}

theorem lend_step {o : Oper} {f : FuncId} {args : List D} {k : Nat} {cs cs' : List D} (hP : ∀ vs w, (callFunc f vs).run P w = .ok (.enter f vs) w) (hc : callOf fr o.op = some (f, args)) (hk : look k ow = some (.var cs))
    (hok : (args.map (unsub k)).all okA = true) (hf1 : cs.all D.free = true) (hf2 : cs'.all D.free = true) (hf3 : d.free = true)
    (hC : CtrO P f (args.map (unsub k)) [(0, .var cs)] d [(0, .var cs')]) (hd : dstOk o.dst n) :
    ∀ F' O', (∀ x ∈ o.op.operands.toList, evF F' x = evF (fF fr) x) → (∀ j ∈ [k], O' j = fO ow j) → StepAt P X n o F' O' d [(k, .var cs')] := by
  intro F' O' he hO a w K' Q' ⟨S, r, hH, hI, hF, hdf, hn, hρ⟩ hK
  obtain ⟨vs, hrun, hsz, hrel⟩ := call_enter hP hc he (fun x => evF_rel hH.glob hF x)
  have hOk : O' k = some (.var cs) := (hO k (by simp)).trans hk
  have hobj := hI.obj k _ hOk
  obtain ⟨b, cur, e0, hb, hheap, hsz0, hcells, hfree⟩ := hobj
  have getFree : ∀ (l : List D), l.all D.free = true → ∀ j, j < l.length → (l.getD j .any).free = true := fun l hl j hj => by
    rw [List.all_eq_true] at hl
    refine hl _ ?_
    simp only [List.getD_eq_getElem?_getD, List.getElem?_eq_getElem hj, Option.getD_some]
    exact List.getElem_mem hj
  have hblt : b < w.heap.size := (Array.getElem?_eq_some_iff.1 hheap).1
  let X' : Ctx := { w0 := w, S0 := S, L := fun b' => b' = b, r0 := fun j => if j = 0 then some (.blk b) else none, ids := [0] }
  have hH' : Hist X' w S := ⟨rfl, rfl, rfl, Nat.le_refl _, fun _ _ _ => rfl, fun _ _ h => h, fun _ _ _ => rfl, fun _ _ h => .inl h, hH.valid, hH.glob⟩
  have hI' : Inv X' w S X'.r0 (fO [(0, .var cs)]) := by
    refine ⟨fun j ob hj => ?_, fun j hj => ?_, fun i j l l' b' hij hl hl' hb' => ?_, fun j l b' hl hb' => ?_⟩
    · have hj0 : j = 0 ∧ ob = .var cs := by
        rw [fO_cons] at hj
        have hj : (if j = 0 then some (Own.var cs) else fO [] j) = some ob := hj
        by_cases e : j = 0
        · rw [if_pos e] at hj
          exact ⟨e, (Option.some.inj hj).symm⟩
        · rw [if_neg e] at hj
          cases hj
      obtain ⟨rfl, rfl⟩ := hj0
      exact ⟨b, cur, e0, rfl, hheap, hsz0, fun j hj => ⟨(hcells j hj).1.free (getFree cs hf1 j hj) _, (hcells j hj).2⟩, hfree⟩
    · show (if j = 0 then some (Loc.blk b) else none) = none
      rw [if_neg]
      intro e
      subst e
      cases hj
    · have hl : (if i = 0 then some (Loc.blk b) else none) = some l := hl
      have hl' : (if j = 0 then some (Loc.blk b) else none) = some l' := hl'
      by_cases e : i = 0
      · by_cases e' : j = 0
        · omega
        · rw [if_neg e'] at hl'; cases hl'
      · rw [if_neg e] at hl; cases hl
    · have hl : (if j = 0 then some (Loc.blk b) else none) = some l := hl
      by_cases e : j = 0
      · rw [if_pos e] at hl
        cases hl
        exact .inr (Option.some.inj hb').symm
      · rw [if_neg e] at hl; cases hl
  have hrel' : ∀ j, j < (args.map (unsub k)).length → Rel S w X'.r0 ((args.map (unsub k)).getD j .any) (vs.getD j undef) := by
    intro j hj
    have hj' : j < args.length := by simpa using hj
    have e : (args.map (unsub k)).getD j .any = unsub k (args.getD j .any) := by simp [List.getD_eq_getElem?_getD, hj']
    have hokj : okA (unsub k (args.getD j .any)) = true := by
      rw [← e]
      rw [List.all_eq_true] at hok
      refine hok _ ?_
      simp only [List.getD_eq_getElem?_getD, List.getElem?_eq_getElem hj, Option.getD_some]
      exact List.getElem_mem hj
    rw [e]
    have hr := hrel j hj'
    generalize args.getD j .any = dj at hr hokj
    generalize vs.getD j undef = vj at hr
    by_cases hpv : ∃ i off, dj = .pv i off
    · obtain ⟨i, off, rfl⟩ := hpv
      simp only [unsub] at hokj ⊢
      cases hbq : Nat.beq i k with
      | true =>
        have := Nat.eq_of_beq_eq_true hbq
        subst this
        cases hr with
        | pv _ _ _ b2 hb2 =>
          rw [hb] at hb2
          cases hb2
          exact .pv _ 0 off b rfl
      | false =>
        rw [hbq] at hokj
        simp [okA, D.free] at hokj
    · have hu : unsub k dj = dj.shut := by
        cases dj <;> first | rfl | exact absurd ⟨_, _, rfl⟩ hpv
      rw [hu] at hokj ⊢
      refine hr.shut.free ?_ _
      cases dj <;> first | exact hokj | exact absurd ⟨_, _, rfl⟩ hpv
  unfold Oper.wp
  rw [hrun]
  refine (hC X' vs rfl hH' hI' (by simpa using hsz) hrel').mono ?_
  rintro e w' ⟨v, S', r', rfl, g1, g2, g3, g4⟩
  obtain ⟨l', hl', hle'⟩ := g4 0 (.blk b) rfl
  obtain ⟨b2, cur', e', q1, q2, q3, q4, q5⟩ := g3.obj 0 (.var cs') rfl
  have hb2 : b2 = b := by
    rw [q1] at hl'
    cases hl'
    exact hle'.symm
  subst hb2
  have hch : Chg w w' S (some b2) := ⟨g2.os, g2.tape, g2.output, g2.size, fun j hj hne => g2.block j hj (fun (h : j = b2) => hne (by rw [h])), g2.cell⟩
  have hnew : ∀ b' o, S' b' o → S b' o ∨ w.heap.size ≤ b' := fun b' o hb' => by
    rcases g2.new b' o hb' with h | h | h
    · exact .inl h
    · exact .inr h
    · have h : b' = b2 := h
      subst h
      exact absurd hb' (q5 o)
  refine hK v w' ⟨S', r, ?_, ?_, rel_put (fun t => (hF t).mono g2.sub g2.cell r (RhoLe.refl r)) (hn ▸ hd) (g1.free hf3 r), by rw [put_defers]; exact hdf, by rw [put_size]; exact hn, hρ⟩
  · refine hH.chg hch (fun b' hb' => by cases hb'; exact hI.low k _ b2 hb rfl) g2.sub (fun b' o hb' => ?_)
    rcases hnew b' o hb' with h | h
    · exact .inl h
    · exact .inr ⟨.inl (Nat.le_trans hH.size h), g2.valid b' o hb'⟩
  · refine hI.put hch g2.sub (RhoLe.refl r) k (.var cs') (.blk b2) ?_ hb (fun _ _ => rfl) (fun b' hb' => .inr ⟨_, hb, hb'⟩) (fun b' hb' => ⟨_, hb, by cases hb'; rfl⟩) (fun b' o h => ?_)
    · exact ⟨b2, cur', e', hb, q2, q3, fun j hj => ⟨(q4 j hj).1.free (getFree cs' hf2 j hj) r, (q4 j hj).2⟩, q5⟩
    · rcases hnew b' o h with h | h
      · exact .inl h
      · exact .inr (.inr h)
end

section
variable {X : Ctx} {n : Nat} {all rest : List Oper} {fr : Fr} {ow : Ow} {tr : List (List Nat × List Nat)} {K : Fr → Ow → List (List Nat × List Nat) → Prop} {Q : Exit → Fr → Ow → Prop}
variable {t : Nat} {op : Op} {ty : TypeId} {pos : String} {af : Array Edge} {d : D} {g u : Nat} {want : Bool} {k : Nat} {cs cs' : List D} {f : FuncId} {args : List D}

/-- What must hold where a method ends: its results tell d, the lent variable (number 0) holds cs. -/
def EndsO (rs : List ResultVar) (d : D) (cs : List D) (e : Exit) (fr : Fr) (ow : Ow) : Prop :=
  match e with
  | .ret | .normal => ∃ d2 cs2, resD B fr ow rs = some d2 ∧ look 0 ow = some (.var cs2) ∧ Weak d2 d ∧ cs2 = cs
  | _ => False

/-- FROM A METHOD's BODY TO ITS CONTRACT. -/
theorem r_meth {fn : Func} {c : Code} {N : Nat} {rs : List ResultVar} (hf : Tryd.prog.funcs[f]? = some fn) (hb : fn.body = some c) (hN : fn.ntmps = N) (hrs : fn.results = ⟨rs⟩) (hlen : Nat.ble args.length N = true) (hd : d.free = true) (hcs : cs'.all D.free = true)
    (h : ∀ X : Ctx, Lent X → X.ids = [0] → T Tryd.prog X N c (slots 0 args) [(0, .var cs)] (EndsO rs d cs')) : CtrO Tryd.prog f args [(0, .var cs)] d [(0, .var cs')] := by
  refine CtrO.of_T hf hb hN hrs (by simpa using hlen) fun X hL hi => (h X hL hi).mono fun e fr2 ow2 hq => ?_
  have key : ∀ d2 cs2, resD B fr2 ow2 rs = some d2 → look 0 ow2 = some (.var cs2) → Weak d2 d → cs2 = cs' →
      ∃ d2, resD (tb Tryd.prog) fr2 ow2 rs = some d2 ∧ Weak d2 d ∧ d.okIn (([(0, .var cs')] : Ow).map (·.1)) = true ∧ Le X fr2 ow2 [] [(0, .var cs')] := by
    intro d2 cs2 h1 h2 h3 h4
    subst h4
    refine ⟨d2, by rw [tb_eq]; exact h1, h3, okIn_of_free hd _, trivial, ⟨h2, trivial⟩, ?_, fun k hk => ?_⟩
    · simp only [okAll, List.all_nil, List.all_cons, Own.okIn, Bool.true_and, Bool.and_true]
      rw [List.all_eq_true] at hcs ⊢
      exact fun x hx => okIn_of_free (hcs x hx) _
    · rw [hi] at hk
      simpa using hk
  cases e with
  | ret => obtain ⟨d2, cs2, h1, h2, h3, h4⟩ := hq; exact ⟨.inl rfl, key d2 cs2 h1 h2 h3 h4⟩
  | normal => obtain ⟨d2, cs2, h1, h2, h3, h4⟩ := hq; exact ⟨.inr rfl, key d2 cs2 h1 h2 h3 h4⟩
  | _ => exact hq.elim
end
end Go.Proofs.YteidmimpkipcfaaDoor.Flow

/-
  FLOW, PART P: A CALL TO WHICH SEVERAL OBJECTS ARE LENT (a variable, and a row that its cells hold), UNDER THE CALLER's OWN NUMBERS.
-/
namespace Go.Proofs.YteidmimpkipcfaaDoor.Flow

/-- An argument as the callee sees it: a row that isn't lent is a slice that is read only. -/
def lendA (ids : List Nat) : D → D
  | .gs k e n f => match memB k ids with
    | true => .gs k e n f
    | false => .sl e n f
  | d => d

def hasAll (own : Nat → Option Own) : Ow → Prop
  | [] => True
  | (k, o) :: r => own k = some o ∧ hasAll own r

theorem hasAll_get {own : Nat → Option Own} : ∀ {lo : Ow}, hasAll own lo → ∀ k o, look k lo = some o → own k = some o
  | [], _, k, o, h => by simp [look] at h
  | (u, e) :: r, h, k, o, hk => by
    simp only [look] at hk
    cases hb : Nat.beq u k with
    | true =>
      have := Nat.eq_of_beq_eq_true hb
      subst this
      rw [hb] at hk
      cases hk
      exact h.1
    | false =>
      rw [hb] at hk
      exact hasAll_get h.2 k o hk

theorem mem_of_look {α : Type} {k : Nat} {o : α} : ∀ {l : List (Nat × α)}, look k l = some o → (k, o) ∈ l
  | [], h => by simp [look] at h
  | (u, e) :: r, h => by
    simp only [look] at h
    cases hb : Nat.beq u k with
    | true =>
      have := Nat.eq_of_beq_eq_true hb
      subst this
      rw [hb] at h
      cases h
      simp
    | false =>
      rw [hb] at h
      exact List.mem_cons_of_mem _ (mem_of_look h)

theorem updO_look {O : Nat → Option Own} : ∀ {l : Ow}, (l.map (·.1)).Nodup → ∀ k, updO O l k = match look k l with
    | some o => some o
    | none => O k
  | [], _, k => rfl
  | (u, e) :: r, hn, k => by
    simp only [List.map_cons, List.nodup_cons] at hn
    simp only [updO, look]
    rw [updO_look hn.2 k]
    cases hb : Nat.beq u k with
    | true =>
      have := Nat.eq_of_beq_eq_true hb
      subst this
      rw [look_none hn.1]
      simp
    | false =>
      have hne : k ≠ u := fun e => by subst e; rw [Nat.beq_refl] at hb; cases hb
      cases look k r with
      | some o => rfl
      | none => simp [hne]

/-- An object whose block nobody has written to. -/
theorem ObjOk.keepL {S S' : Cells} {w w' : World} {r r' : Rho} {k : Nat} {o : Own} (h : ObjOk S w r k o) (hS : ∀ b o, S b o → S' b o) (hc : ∀ b o, S b o → w'.cell? ⟨b, o, none⟩ = w.cell? ⟨b, o, none⟩) (hr : RhoLe r r') (hk : r' k = r k)
    (hg : ∀ l b, r k = some l → l.block = some b → w'.heap[b]? = w.heap[b]?) (hn : ∀ b o, S' b o → S b o ∨ ∀ l, r k = some l → l.block ≠ some b) : ObjOk S' w' r' k o := by
  have hmono : ∀ d v, Rel S w r d v → Rel S' w' r' d v := fun d v hd => hd.mono hS hc r' hr
  cases o with
  | var cs =>
    obtain ⟨b, cur, e, h1, h2, h3, h4, h5⟩ := h
    have hb : (Loc.blk b).block = some b := rfl
    refine ⟨b, cur, e, hk.trans h1, ?_, h3, fun j hj => ⟨hmono _ _ (h4 j hj).1, (h4 j hj).2⟩, fun o ho => ?_⟩
    · rw [hg _ _ h1 hb]; exact h2
    · rcases hn b o ho with h6 | h6
      · exact h5 o h6
      · exact h6 _ h1 hb
  | row e esz len =>
    obtain ⟨tv, h1, h2⟩ := h
    refine ⟨tv, hk.trans h1, ?_⟩
    rcases h2 with h2 | ⟨g', cap, cur, rfl, h3, h4, h5, h6, h7⟩
    · exact .inl h2
    · have hb : (Loc.row (.slice (some ⟨g', 0, none⟩) len cap) len).block = some g' := rfl
      refine .inr ⟨g', cap, cur, rfl, ?_, h4, h5, h6, fun o ho hs => ?_⟩
      · rw [hg _ _ h1 hb]; exact h3
      · rcases hn g' o hs with h8 | h8
        · exact h7 o ho h8
        · exact h8 _ h1 hb
  | arr e esz len f =>
    obtain ⟨tv, h1, h2⟩ := h
    refine ⟨tv, hk.trans h1, ?_⟩
    rcases h2 with h2 | ⟨g', cap, cur, rfl, h3, h4, h5, h6, h7, h8, h9⟩
    · exact .inl h2
    · have hb : (Loc.row (.slice (some ⟨g', 0, none⟩) len cap) len).block = some g' := rfl
      refine .inr ⟨g', cap, cur, rfl, ?_, h4, h5, h6, h7, fun i j hi hj => (h8 i j hi hj).mono hS hc noRho (RhoLe.refl _), fun o hs => ?_⟩
      · rw [hg _ _ h1 hb]; exact h3
      · rcases hn g' o hs with h10 | h10
        · exact h9 o h10
        · exact h10 _ h1 hb
  | ob x =>
    obtain ⟨b, h1, h2, h5⟩ := h
    have hb : (Loc.blk b).block = some b := rfl
    refine ⟨b, hk.trans h1, ?_, fun o ho => ?_⟩
    · rw [hg _ _ h1 hb]; exact h2
    · rcases hn b o ho with h6 | h6
      · exact h5 o h6
      · exact h6 _ h1 hb
  | bld T d =>
    obtain ⟨b, cur, e, h1, h2, h3, h4, h7, h5⟩ := h
    have hb : (Loc.blk b).block = some b := rfl
    refine ⟨b, cur, e, hk.trans h1, ?_, h3, h4, ⟨hmono _ _ h7.1, h7.2⟩, fun o ho => ?_⟩
    · rw [hg _ _ h1 hb]; exact h2
    · rcases hn b o ho with h6 | h6
      · exact h5 o h6
      · exact h6 _ h1 hb
  | gone =>
    obtain ⟨l, h1, h2⟩ := h
    refine ⟨l, hk.trans h1, fun b hb => ?_⟩
    have h3 := hg l b h1 hb
    rw [Array.getElem?_eq_getElem (h2 b hb)] at h3
    exact (Array.getElem?_eq_some_iff.1 h3).1

/-- An object whose data name only certain objects. -/
theorem ObjOk.okIn {S : Cells} {w : World} {r r' : Rho} {k : Nat} {o : Own} {ks : List Nat} (h : ObjOk S w r k o) (hok : o.okIn ks = true) (hr : RhoLe (keepR r ks) r') (hk : r' k = r k) : ObjOk S w r' k o := by
  cases o with
  | var cs =>
    obtain ⟨b, cur, e, h1, h2, h3, h4, h5⟩ := h
    refine ⟨b, cur, e, hk.trans h1, h2, h3, fun j hj => ⟨((h4 j hj).1.okIn (ks := ks) ?_).mono (fun _ _ h => h) (fun _ _ _ => rfl) r' hr, (h4 j hj).2⟩, h5⟩
    simp only [Own.okIn, List.all_eq_true] at hok
    refine hok _ ?_
    simp only [List.getD_eq_getElem?_getD, List.getElem?_eq_getElem hj, Option.getD_some]
    exact List.getElem_mem hj
  | row e esz len =>
    obtain ⟨tv, h1, h2⟩ := h
    exact ⟨tv, hk.trans h1, h2⟩
  | arr e esz len f =>
    obtain ⟨tv, h1, h2⟩ := h
    exact ⟨tv, hk.trans h1, h2⟩
  | ob x =>
    obtain ⟨b, h1, h2⟩ := h
    exact ⟨b, hk.trans h1, h2⟩
  | bld T d =>
    obtain ⟨b, cur, e, h1, h2, h3, h4, h7, h5⟩ := h
    exact ⟨b, cur, e, hk.trans h1, h2, h3, h4, ⟨(h7.1.okIn (ks := ks) hok).mono (fun _ _ h => h) (fun _ _ _ => rfl) r' hr, h7.2⟩, h5⟩
  | gone =>
    obtain ⟨l, h1, h2⟩ := h
    exact ⟨l, hk.trans h1, h2⟩

section
variable {P : Program} {X : Ctx} {n : Nat} {fr : Fr} {ow : Ow} {d : D}

theorem lendM_step {o : Oper} {f : FuncId} {args : List D} {lo lo' : Ow} {ids : List Nat} (hP : ∀ vs w, (callFunc f vs).run P w = .ok (.enter f vs) w) (hc : callOf fr o.op = some (f, args)) (hk : hasAll (fun k => look k ow) lo)
    (hi1 : lo.map (·.1) = ids) (hi2 : lo'.map (·.1) = ids) (hnd : ids.Nodup)
    (hok : (args.map (lendA ids)).all (D.okIn ids) = true) (hf1 : lo.all (fun x => x.2.okIn ids) = true) (hf2 : lo'.all (fun x => x.2.okIn ids) = true) (hf3 : d.okIn ids = true)
    (hC : CtrO P f (args.map (lendA ids)) lo d lo') (hd : dstOk o.dst n) :
    ∀ F' O', (∀ x ∈ o.op.operands.toList, evF F' x = evF (fF fr) x) → (∀ j ∈ ids, O' j = fO ow j) → StepAt P X n o F' O' d lo' := by
  intro F' O' he hO a w K' Q' ⟨S, r, hH, hI, hF, hdf, hn, hρ⟩ hK
  obtain ⟨vs, hrun, hsz, hrel⟩ := call_enter hP hc he (fun x => evF_rel hH.glob hF x)
  have hOk : ∀ k o, look k lo = some o → O' k = some o := fun k o h => by
    have hm : k ∈ ids := by rw [← hi1]; exact List.mem_map.2 ⟨(k, o), mem_of_look h, rfl⟩
    exact (hO k hm).trans (hasAll_get hk k o h)
  have hmem : ∀ k, k ∈ ids → ∃ o, look k lo = some o := fun k h => look_some (by rw [hi1]; exact h)
  have hmem' : ∀ k, k ∈ ids → ∃ o, look k lo' = some o := fun k h => look_some (by rw [hi2]; exact h)
  have hin : ∀ k o, look k lo = some o → k ∈ ids ∧ o.okIn ids = true := fun k o h => by
    have h1 := mem_of_look h
    rw [List.all_eq_true] at hf1
    exact ⟨by rw [← hi1]; exact List.mem_map.2 ⟨(k, o), h1, rfl⟩, hf1 _ h1⟩
  have hin' : ∀ k o, look k lo' = some o → k ∈ ids ∧ o.okIn ids = true := fun k o h => by
    have h1 := mem_of_look h
    rw [List.all_eq_true] at hf2
    exact ⟨by rw [← hi2]; exact List.mem_map.2 ⟨(k, o), h1, rfl⟩, hf2 _ h1⟩
  have hblt : ∀ k l b, r k = some l → l.block = some b → b < w.heap.size := fun k l b hl hb => by
    cases ho : O' k with
    | none => rw [hI.dom k ho] at hl; cases hl
    | some o => exact (hI.obj k o ho).blockLt hl hb
  let X' : Ctx := { w0 := w, S0 := S, L := fun b => ∃ k ∈ ids, ∃ l, r k = some l ∧ l.block = some b, r0 := keepR r ids, ids := ids }
  have hH' : Hist X' w S := ⟨rfl, rfl, rfl, Nat.le_refl _, fun _ _ _ => rfl, fun _ _ h => h, fun _ _ _ => rfl, fun _ _ h => .inl h, hH.valid, hH.glob⟩
  have hI' : Inv X' w S X'.r0 (fO lo) := by
    refine ⟨fun k o hk' => ?_, fun k hk' => ?_, fun i j l l' b' hij hl hl' hb' => ?_, fun k l b' hl hb' => ?_⟩
    · obtain ⟨h1, h2⟩ := hin k o hk'
      exact (hI.obj k o (hOk k o hk')).okIn h2 (RhoLe.refl _) (if_pos h1)
    · refine if_neg fun hm => ?_
      obtain ⟨o, ho⟩ := hmem k hm
      rw [show fO lo k = look k lo from rfl, ho] at hk'
      cases hk'
    · have hl : keepR r ids i = some l := hl
      have hl' : keepR r ids j = some l' := hl'
      simp only [keepR] at hl hl'
      split at hl <;> first | (cases hl; done) | skip
      split at hl' <;> first | (cases hl'; done) | skip
      exact hI.apart i j l l' b' hij hl hl' hb'
    · have hl : keepR r ids k = some l := hl
      simp only [keepR] at hl
      split at hl <;> first | (cases hl; done) | skip
      rename_i hm
      exact .inr ⟨k, hm, l, hl, hb'⟩
  have hrel' : ∀ j, j < (args.map (lendA ids)).length → Rel S w X'.r0 ((args.map (lendA ids)).getD j .any) (vs.getD j undef) := by
    intro j hj
    have hj' : j < args.length := by simpa using hj
    have e : (args.map (lendA ids)).getD j .any = lendA ids (args.getD j .any) := by simp [List.getD_eq_getElem?_getD, hj']
    have hokj : (lendA ids (args.getD j .any)).okIn ids = true := by
      rw [← e]
      rw [List.all_eq_true] at hok
      refine hok _ ?_
      simp only [List.getD_eq_getElem?_getD, List.getElem?_eq_getElem hj, Option.getD_some]
      exact List.getElem_mem hj
    rw [e]
    have hr := hrel j hj'
    generalize args.getD j .any = dj at hr hokj
    generalize vs.getD j undef = vj at hr
    refine Rel.okIn (r := r) ?_ hokj
    cases dj with
    | gs k z m g =>
      simp only [lendA]
      split
      · exact hr
      · exact hr.shut
    | _ => exact hr
  unfold Oper.wp
  rw [hrun]
  refine (hC X' vs hi1.symm hH' hI' (by simpa using hsz) hrel').mono ?_
  rintro e w' ⟨v, S', r', rfl, g1, g2, g3, g4⟩
  let r2 : Rho := fun k => if k ∈ ids then r' k else r k
  have hr2 : RhoLe r r2 := fun k l hl => by
    by_cases hm : k ∈ ids
    · obtain ⟨l', h1, h2⟩ := g4 k l (by show keepR r ids k = some l; rw [keepR, if_pos hm]; exact hl)
      exact ⟨l', by show (if k ∈ ids then r' k else r k) = some l'; rw [if_pos hm]; exact h1, h2⟩
    · exact ⟨l, by show (if k ∈ ids then r' k else r k) = some l; rw [if_neg hm]; exact hl, LocLe.refl l⟩
  have hr3 : RhoLe (keepR r' ids) r2 := fun k l hl => by
    simp only [keepR] at hl
    split at hl <;> first | (cases hl; done) | skip
    rename_i hm
    exact ⟨l, by show (if k ∈ ids then r' k else r k) = some l; rw [if_pos hm]; exact hl, LocLe.refl l⟩
  have hXL : ∀ b, X'.L b → X.w0.heap.size ≤ b ∨ X.L b := fun b ⟨k, _, l, hl, hb⟩ => hI.low k l b hl hb
  have hother : ∀ k l b, k ∉ ids → r k = some l → l.block = some b → ¬ X'.L b := fun k l b hm hl hb ⟨k', hm', l', hl', hb'⟩ =>
    hI.apart k k' l l' b (fun e => hm (e ▸ hm')) hl hl' hb hb'
  refine hK v w' ⟨S', r2, ?_, ?_, rel_put (fun t => (hF t).mono g2.sub g2.cell r2 hr2) (hn ▸ hd) ((g1.okIn hf3).mono (fun _ _ h => h) (fun _ _ _ => rfl) r2 hr3), by rw [put_defers]; exact hdf, by rw [put_size]; exact hn, hρ.trans hr2⟩
  · refine ⟨g2.os.trans hH.os, g2.tape.trans hH.tape, g2.output.trans hH.output, Nat.le_trans hH.size g2.size, fun k hk' hl => ?_, fun b o hb => g2.sub b o (hH.sub b o hb), fun b o hb => (g2.cell b o (hH.sub b o hb)).trans (hH.cell b o hb), fun b o hb => ?_, g2.valid, g2.glob⟩
    · refine (g2.block k (Nat.lt_of_lt_of_le hk' hH.size) fun hx => ?_).trans (hH.block k hk' hl)
      rcases hXL k hx with h | h
      · omega
      · exact hl h
    · rcases g2.new b o hb with h | h | h
      · exact hH.new b o h
      · exact .inr (.inl (Nat.le_trans hH.size h))
      · rcases hXL b h with h | h
        · exact .inr (.inl h)
        · exact .inr (.inr h)
  · have hnd' : (lo'.map (·.1)).Nodup := by rw [hi2]; exact hnd
    have hup : ∀ k, k ∉ ids → updO O' lo' k = O' k := fun k hm => by
      rw [updO_look hnd', look_none (by rw [hi2]; exact hm)]
    refine ⟨fun k o hk' => ?_, fun k hk' => ?_, fun i j l l' b hij hl hl' hb => ?_, fun k l b hl hb => ?_⟩
    · by_cases hm : k ∈ ids
      · obtain ⟨o', ho'⟩ := hmem' k hm
        rw [updO_look hnd', ho'] at hk'
        obtain rfl : o' = o := Option.some.inj hk'
        exact (g3.obj k o' ho').okIn (hin' k o' ho').2 hr3 (if_pos hm)
      · rw [hup k hm] at hk'
        refine (hI.obj k o hk').keepL g2.sub g2.cell hr2 (if_neg hm) (fun l b hl hb => g2.block b (hblt k l b hl hb) (hother k l b hm hl hb)) (fun b o hs => ?_)
        rcases g2.new b o hs with h | h | h
        · exact .inl h
        · refine .inr fun l hl hb => ?_
          have := hblt k l b hl hb
          have h : w.heap.size ≤ b := h
          omega
        · exact .inr fun l hl hb => hother k l b hm hl hb h
    · by_cases hm : k ∈ ids
      · obtain ⟨o', ho'⟩ := hmem' k hm
        rw [updO_look hnd', ho'] at hk'
        cases hk'
      · rw [hup k hm] at hk'
        exact (if_neg hm).trans (hI.dom k hk')
    · have hl : (if i ∈ ids then r' i else r i) = some l := hl
      have hl' : (if j ∈ ids then r' j else r j) = some l' := hl'
      by_cases h1 : i ∈ ids
      · rw [if_pos h1] at hl
        by_cases h2 : j ∈ ids
        · rw [if_pos h2] at hl'
          exact g3.apart i j l l' b hij hl hl' hb
        · rw [if_neg h2] at hl'
          intro hb'
          rcases g3.low i l b hl hb with h | h
          · have := hblt j l' b hl' hb'
            have h : w.heap.size ≤ b := h
            omega
          · exact hother j l' b h2 hl' hb' h
      · rw [if_neg h1] at hl
        by_cases h2 : j ∈ ids
        · rw [if_pos h2] at hl'
          intro hb'
          rcases g3.low j l' b hl' hb' with h | h
          · have := hblt i l b hl hb
            have h : w.heap.size ≤ b := h
            omega
          · exact hother i l b h1 hl hb h
        · rw [if_neg h2] at hl'
          exact hI.apart i j l l' b hij hl hl' hb
    · have hl : (if k ∈ ids then r' k else r k) = some l := hl
      by_cases h1 : k ∈ ids
      · rw [if_pos h1] at hl
        rcases g3.low k l b hl hb with h | h
        · exact .inl (Nat.le_trans hH.size h)
        · exact hXL b h
      · rw [if_neg h1] at hl
        exact hI.low k l b hl hb

/-- What is handed back; a single result as it stands. -/
def resU (B : Tb) (fr : Fr) (ow : Ow) (rs : List ResultVar) : Option D :=
  match rs with
  | [.tmp t] => fz (getD' t fr) some
  | rs => resD B fr ow rs

theorem results_okU {ow : Ow} {fr : Fr} {fn : Func} {a : Act} {w : World} {S : Cells} {r : Rho} {d : D} {rs : List ResultVar} (hrs : fn.results = ⟨rs⟩) (hI : Inv X w S r (fO ow)) (hF : ∀ t, Rel S w r (fF fr t) (a.tmps.getD t undef)) (h : resU (tb P) fr ow rs = some d) :
    ∃ v, (results fn a.tmps).run P w = .ok v w ∧ Rel S w r d v := by
  unfold resU at h
  split at h
  · rename_i t
    rw [fz_eq] at h
    cases h
    refine ⟨a.tmps.getD t undef, ?_, hF t⟩
    have hm : (fn.results.mapM (resF a.tmps)).run P w = .ok #[a.tmps.getD t undef] w := by
      rw [hrs, Array.mapM_eq_mapM_toList]
      have h1 : ([ResultVar.tmp t].mapM (resF a.tmps)).run P w = .ok [a.tmps.getD t undef] w := by
        have h0 : (resF a.tmps (.tmp t)).run P w = .ok (a.tmps.getD t undef) w := rfl
        rw [List.mapM_cons]
        simp only [Sem.run_bind, h0, List.mapM_nil, Result.andThen_ok, Sem.run_pure]
      simp only [Sem.run_map, h1, Result.andThen_ok]
    simp only [results_eq, Sem.run_bind, hm, Result.andThen_ok, Sem.run_pure]
    rfl
  · exact results_ok hrs hI hF h

variable {ow' : Ow}
/-- FROM A BODY TO A CONTRACT (a single result may be a row that goes on growing). -/
theorem CtrO.of_TU {f : FuncId} {fn : Func} {c : Code} {N : Nat} {rs : List ResultVar} {args : List D} {d : D} (hf : P.funcs[f]? = some fn) (hb : fn.body = some c) (hN : fn.ntmps = N) (hrs : fn.results = ⟨rs⟩) (hlen : args.length ≤ N)
    (h : ∀ X : Ctx, Lent X → X.ids = ow.map (·.1) → T P X N c (slots 0 args) ow (fun e fr2 ow2 => (e = .ret ∨ e = .normal) ∧ ∃ d2, resU (tb P) fr2 ow2 rs = some d2 ∧ Weak d2 d ∧ d.okIn (ow'.map (·.1)) = true ∧ Le X fr2 ow2 [] ow')) :
    CtrO P f args ow d ow' := by
  intro X vs hids hH hI hsz hrel
  have hL : Lent X := fun k hk => by
    rw [hids]
    cases hmem : look k ow with
    | none => exact absurd (hI.dom k hmem) hk
    | some o =>
      by_cases hm : k ∈ ow.map (·.1)
      · exact hm
      · rw [look_none hm] at hmem; cases hmem
  refine calls_of_wp hf hb ?_
  have hrep : Rep X N (fF (slots 0 args)) (fO ow) { tmps := vs ++ Array.replicate (fn.ntmps - vs.size) undef, defers := [] } X.w0 := by
    refine ⟨X.S0, X.r0, hH, hI, fun t => ?_, rfl, by simp; omega, RhoLe.refl _⟩
    show Rel _ _ _ (getD' t (slots 0 args)) _
    rw [slots_get]
    simp only [Nat.zero_le, if_true, Nat.sub_zero]
    by_cases ht : t < args.length
    · have := hrel t ht
      rw [Array.getD_eq_getD_getElem?, Array.getElem?_append_left (by omega), ← Array.getD_eq_getD_getElem?]
      exact this
    · rw [List.getD_eq_getElem?_getD, List.getElem?_eq_none (by omega)]
      exact .any ..
  refine wp_mono (h X hL hids _ _ hrep) fun e a w ⟨fr2, ow2, ⟨he, d2, h1, h2, h3, h4⟩, hrep2⟩ => ?_
  obtain ⟨S, r, hH2, hI2, hF2, hd2, _, hρ2⟩ := hrep2
  obtain ⟨v, hv, hvr⟩ := results_okU (P := P) hrs hI2 hF2 h1
  have hok := h4.ok
  simp only [okAll, Bool.and_eq_true] at hok
  have hfin : ∃ v' S' r', Ending.returned v = .returned v' ∧ Rel S' w r' d v' ∧ Hist X w S' ∧ Inv X w S' r' (fO ow') ∧ RhoLe X.r0 r' := by
    refine ⟨v, S, keepR r (ow'.map (·.1)), rfl, ?_, hH2, hI2.keep h4.ow hok.2, fun k l hk => ?_⟩
    · exact (hvr.weak h2).okIn h3
    · obtain ⟨l', g1, g2⟩ := hρ2 k l hk
      have : k ∈ ow'.map (·.1) := h4.ids k (hL k (by rw [hk]; simp))
      exact ⟨l', by simp only [keepR]; rw [if_pos this]; exact g1, g2⟩
  rcases he with rfl | rfl
  · exact ⟨hd2, v, hv, hfin⟩
  · exact ⟨hd2, v, hv, hfin⟩

/-- A nil slice in a variable's cell is taken for an empty row of the call's own. -/
theorem T.adoptV {c : Code} {Q : Exit → Fr → Ow → Prop} (v j k e z : Nat) (cs : List D) (f : Nat → List D) (hv : look v ow = some (.var cs)) (hj : cs.getD j .any = .nilS) (hk : look k ow = none)
    (h : T P X n c fr ((v, .var (cs.set j (.gs k z 0 f))) :: (k, .row e z 0) :: ow) Q) : T P X n c fr ow Q := fun a w hr => by
  refine h a w ?_
  obtain ⟨S, r, hH, hI, hF, hd, hn, hρ⟩ := hr
  have hle : RhoLe r (updR r k (.row (.slice none 0 0) 0)) := RhoLe.new (hI.dom k hk)
  have hk0 : updR r k (.row (.slice none 0 0) 0) k = some (.row (.slice none 0 0) 0) := by simp [updR]
  have hc : Chg w w S none := ⟨rfl, rfl, rfl, Nat.le_refl _, fun _ _ _ => rfl, fun _ _ _ => rfl⟩
  have hI2 : Inv X w S (updR r k (.row (.slice none 0 0) 0)) (fO ((k, .row e z 0) :: ow)) := by
    rw [fO_cons]
    exact hI.put hc (fun _ _ h => h) hle k _ (.row (.slice none 0 0) 0) ⟨_, hk0, .inl ⟨rfl, rfl⟩⟩ hk0 (fun j hj => by simp [updR, hj]) (fun b hb => by simp [Loc.block] at hb) (fun b hb => by cases hb) (fun _ _ h => .inl h)
  have hvk : v ≠ k := fun e => by subst e; rw [hv] at hk; cases hk
  have hv2 : fO ((k, .row e z 0) :: ow) v = some (.var cs) := by
    rw [fO_cons]
    show (if v = k then _ else fO ow v) = _
    rw [if_neg hvk]
    exact hv
  have hobj := hI2.obj v _ hv2
  obtain ⟨b, cur, e0, h1, h2, h3, h4, h5⟩ := hobj
  refine ⟨S, updR r k (.row (.slice none 0 0) 0), hH, ?_, fun u => (hF u).mono (fun _ _ h => h) (fun _ _ _ => rfl) _ hle, hd, hn, hρ.trans hle⟩
  rw [fO_cons]
  refine hI2.put hc (fun _ _ h => h) (RhoLe.refl _) v _ (.blk b) ⟨b, cur, e0, h1, h2, by simpa using h3, fun i hi => ?_, h5⟩ h1 (fun _ _ => rfl) (fun b' hb' => .inr ⟨_, h1, hb'⟩) (fun b hb => by cases hb) (fun _ _ h => .inl h)
  have hi' : i < cs.length := by simpa using hi
  by_cases e : j = i
  · subst e
    have e1 : (cs.set j (D.gs k z 0 f)).getD j .any = .gs k z 0 f := by simp [List.getD_eq_getElem?_getD, hi']
    rw [e1]
    have h6 := (h4 j hi').1
    rw [hj] at h6
    generalize cur.getD j undef = vj at h6 ⊢
    cases h6
    refine ⟨.gs _ k z 0 f _ _ 0 (.sl _ _ _ _ none 0 (fun _ _ => undef) (Nat.le_refl _) (by unfold maxLen; omega) (fun i hi => by omega) (fun i j hi => by omega) (fun i j hi => by omega)) hk0 (Nat.le_refl _) (fun _ => .inl rfl), rfl⟩
  · have e1 : (cs.set j (D.gs k z 0 f)).getD i .any = cs.getD i .any := by simp [List.getD_eq_getElem?_getD, List.getElem?_set, e]
    rw [e1]
    exact h4 i hi'
end

section
variable {X : Ctx} {n : Nat} {all rest : List Oper} {fr : Fr} {ow : Ow} {tr : List (List Nat × List Nat)} {K : Fr → Ow → List (List Nat × List Nat) → Prop} {Q : Exit → Fr → Ow → Prop}
variable {t : Nat} {op : Op} {ty : TypeId} {pos : String} {af : Array Edge} {d : D} {g u : Nat} {want : Bool} {k k2 : Nat} {o1 o2 o1' o2' : Own} {f : FuncId} {args : List D}

theorem fO_cons2 (ow : Ow) (k1 k2 : Nat) (o1 o2 : Own) (hne : k1 ≠ k2) : fO ((k1, o1) :: (k2, o2) :: ow) = updO (fO ow) [(k1, o1), (k2, o2)] := by
  funext u
  rw [fO_cons, fO_cons]
  simp only [updO]
  by_cases h1 : u = k1
  · subst h1
    simp [hne]
  · by_cases h2 : u = k2
    · subst h2
      rw [if_neg h1]
      simp [h1]
    · simp [h1, h2]

/-- .. or two: a variable, and the row that its cells hold. -/
theorem r_lend2 (k k2 : Nat) (hc : callOf fr op = some (f, args)) (hn : Nat.blt t n = true) (hP : ∀ vs w, (callFunc f vs).run Tryd.prog w = .ok (.enter f vs) w) (hk : look k ow = some o1) (hk2 : look k2 ow = some o2) (hne : Nat.beq k k2 = false)
    (hok : (args.map (lendA [k, k2])).all (D.okIn [k, k2]) = true) (hf1 : o1.okIn [k, k2] = true) (hf2 : o2.okIn [k, k2] = true) (hg1 : o1'.okIn [k, k2] = true) (hg2 : o2'.okIn [k, k2] = true) (hf3 : d.okIn [k, k2] = true)
    (hC : CtrO Tryd.prog f (args.map (lendA [k, k2])) [(k, o1), (k2, o2)] d [(k, o1'), (k2, o2')])
    (h : CT Tryd.prog X n all rest ((t, d) :: fr) ((k, o1') :: (k2, o2') :: ow) (tr ++ [([k, k2], [k, k2])]) K) : CT Tryd.prog X n all (⟨some t, op, ty, pos, af, none⟩ :: rest) fr ow tr K :=
  have hne' : k ≠ k2 := fun e => by subst e; rw [Nat.beq_refl] at hne; cases hne
  CT.cons (e := ⟨d, [k, k2], [(k, o1'), (k2, o2')]⟩) (.plain rfl (lendM_step (o := ⟨some t, op, ty, pos, af, none⟩) (ow := ow) (lo := [(k, o1), (k2, o2)]) hP hc ⟨hk, hk2, trivial⟩ rfl rfl (by simp [hne']) hok (by simp [hf1, hf2]) (by simp [hg1, hg2]) hf3 hC (show t < n by simpa using hn))) (fF_cons ..) (fO_cons2 _ _ _ _ _ hne') h

theorem fO_cons3 (ow : Ow) (k1 k2 k3 : Nat) (o1 o2 o3 : Own) (h12 : k1 ≠ k2) (h13 : k1 ≠ k3) (h23 : k2 ≠ k3) : fO ((k1, o1) :: (k2, o2) :: (k3, o3) :: ow) = updO (fO ow) [(k1, o1), (k2, o2), (k3, o3)] := by
  funext u
  rw [fO_cons, fO_cons, fO_cons]
  simp only [updO]
  by_cases h1 : u = k1
  · subst h1
    simp [h12, h13]
  · by_cases h2 : u = k2
    · subst h2
      simp [h1, h23]
    · by_cases h3 : u = k3
      · subst h3
        simp [h1, h2]
      · simp [h1, h2, h3]

/-- .. or three. -/
theorem r_lend3 {o3 o3' : Own} (k k2 k3 : Nat) (hc : callOf fr op = some (f, args)) (hn : Nat.blt t n = true) (hP : ∀ vs w, (callFunc f vs).run Tryd.prog w = .ok (.enter f vs) w) (hk : look k ow = some o1) (hk2 : look k2 ow = some o2) (hk3 : look k3 ow = some o3)
    (hne : (!Nat.beq k k2 && !Nat.beq k k3 && !Nat.beq k2 k3) = true)
    (hok : (args.map (lendA [k, k2, k3])).all (D.okIn [k, k2, k3]) = true) (f1 : o1.okIn [k, k2, k3] = true) (f2 : o2.okIn [k, k2, k3] = true) (f3 : o3.okIn [k, k2, k3] = true) (g1 : o1'.okIn [k, k2, k3] = true) (g2 : o2'.okIn [k, k2, k3] = true) (g3 : o3'.okIn [k, k2, k3] = true) (hf3 : d.okIn [k, k2, k3] = true)
    (hC : CtrO Tryd.prog f (args.map (lendA [k, k2, k3])) [(k, o1), (k2, o2), (k3, o3)] d [(k, o1'), (k2, o2'), (k3, o3')])
    (h : CT Tryd.prog X n all rest ((t, d) :: fr) ((k, o1') :: (k2, o2') :: (k3, o3') :: ow) (tr ++ [([k, k2, k3], [k, k2, k3])]) K) : CT Tryd.prog X n all (⟨some t, op, ty, pos, af, none⟩ :: rest) fr ow tr K := by
  simp only [Bool.and_eq_true, Bool.not_eq_true'] at hne
  have h12 : k ≠ k2 := fun e => by subst e; simp [Nat.beq_refl] at hne
  have h13 : k ≠ k3 := fun e => by subst e; simp [Nat.beq_refl] at hne
  have h23 : k2 ≠ k3 := fun e => by subst e; simp [Nat.beq_refl] at hne
  exact CT.cons (e := ⟨d, [k, k2, k3], [(k, o1'), (k2, o2'), (k3, o3')]⟩) (.plain rfl (lendM_step (o := ⟨some t, op, ty, pos, af, none⟩) (ow := ow) (lo := [(k, o1), (k2, o2), (k3, o3)]) hP hc ⟨hk, hk2, hk3, trivial⟩ rfl rfl (by simp [h12, h13, h23]) hok (by simp [f1, f2, f3]) (by simp [g1, g2, g3]) hf3 hC (show t < n by simpa using hn))) (fF_cons ..) (fO_cons3 _ _ _ _ _ _ _ h12 h13 h23) h

/-- A goal that the walk leaves alone. -/
structure Stay (p : Prop) : Prop where
  out : p

/-- What must hold where a function ends to which objects were lent. -/
def EndsM (rs : List ResultVar) (d : D) (lo : Ow) (e : Exit) (fr : Fr) (ow : Ow) : Prop :=
  match e with
  | .ret | .normal => ∃ d2, resU B fr ow rs = some d2 ∧ Weak d2 d ∧ leOw ow lo
  | _ => False

theorem x_endM {rs : List ResultVar} {d d2 : D} {lo : Ow} (h : resU B fr ow rs = some d2) (he : d2 = d) (hlo : Stay (leOw ow lo)) : Rtn (EndsM rs d lo) fr ow := by
  unfold Rtn
  exact ⟨d2, h, .of_eq he, hlo.out⟩
theorem n_endM {rs : List ResultVar} {d d2 : D} {lo : Ow} (h : resU B fr ow rs = some d2) (he : d2 = d) (hlo : Stay (leOw ow lo)) : Nrm (EndsM rs d lo) fr ow := by
  unfold Nrm
  exact ⟨d2, h, .of_eq he, hlo.out⟩

/-- FROM A BODY TO A CONTRACT WITH OBJECTS LENT. -/
theorem r_methM {fn : Func} {c : Code} {N : Nat} {rs : List ResultVar} {lo lo' : Ow} {ids : List Nat} (hf : Tryd.prog.funcs[f]? = some fn) (hb : fn.body = some c) (hN : fn.ntmps = N) (hrs : fn.results = ⟨rs⟩) (hlen : Nat.ble args.length N = true)
    (hi1 : lo.map (·.1) = ids) (hi2 : lo'.map (·.1) = ids) (hd : d.okIn ids = true) (hcs : lo'.all (fun x => x.2.okIn ids) = true)
    (h : ∀ X : Ctx, Lent X → X.ids = ids → T Tryd.prog X N c (slots 0 args) lo (EndsM rs d lo')) : CtrO Tryd.prog f args lo d lo' := by
  refine CtrO.of_TU hf hb hN hrs (by simpa using hlen) fun X hL hi => (h X hL (hi.trans hi1)).mono fun e fr2 ow2 hq => ?_
  have key : ∀ d2, resU B fr2 ow2 rs = some d2 → Weak d2 d → leOw ow2 lo' →
      ∃ d2, resU (tb Tryd.prog) fr2 ow2 rs = some d2 ∧ Weak d2 d ∧ d.okIn (lo'.map (·.1)) = true ∧ Le X fr2 ow2 [] lo' := by
    intro d2 h1 h2 h3
    refine ⟨d2, by rw [tb_eq]; exact h1, h2, by rw [hi2]; exact hd, trivial, h3, ?_, fun k hk => ?_⟩
    · rw [hi2]
      simp only [okAll, List.all_nil, Bool.true_and]
      exact hcs
    · rw [hi, hi1] at hk
      rw [hi2]
      exact hk
  cases e with
  | ret => obtain ⟨d2, h1, h2, h3⟩ := hq; exact ⟨.inl rfl, key d2 h1 h2 h3⟩
  | normal => obtain ⟨d2, h1, h2, h3⟩ := hq; exact ⟨.inr rfl, key d2 h1 h2 h3⟩
  | _ => exact hq.elim
end
end Go.Proofs.YteidmimpkipcfaaDoor.Flow

/- BYTES: rows of bytes, and what bit operations do to small numbers. -/
namespace Go.Proofs.YteidmimpkipcfaaDoor.Flow
open Go

/-- A temporary is told by less. -/
theorem T.weakF {P : Program} {X : Ctx} {n : Nat} {fr : Fr} {ow : Ow} {Q : Exit → Fr → Ow → Prop} {c : Code} (t : Nat) (d : D) (hw : Weak (getD' t fr) d) (h : T P X n c ((t, d) :: fr) ow Q) : T P X n c fr ow Q := fun a w hr => h a w (by
  obtain ⟨S, r, hH, hI, hF, hd, hn, hρ⟩ := hr
  refine ⟨S, r, hH, hI, fun u => ?_, hd, hn, hρ⟩
  rw [fF_cons]
  show Rel _ _ _ (if u = t then _ else fF fr u) _
  by_cases e : u = t
  · subst e
    rw [if_pos rfl]
    exact (hF u).weak hw
  · rw [if_neg e]
    exact hF u)

/-- A row in a temporary is told as a slice that is read only. -/
theorem T.shutF {P : Program} {X : Ctx} {n : Nat} {fr : Fr} {ow : Ow} {Q : Exit → Fr → Ow → Prop} {c : Code} (t : Nat) (d : D) (hd : (getD' t fr).shut = d) (h : T P X n c ((t, d) :: fr) ow Q) : T P X n c fr ow Q := fun a w hr => h a w (by
  obtain ⟨S, r, hH, hI, hF, hdf, hn, hρ⟩ := hr
  refine ⟨S, r, hH, hI, fun u => ?_, hdf, hn, hρ⟩
  rw [fF_cons]
  show Rel _ _ _ (if u = t then _ else fF fr u) _
  by_cases e : u = t
  · subst e
    rw [if_pos rfl, ← hd]
    exact (hF u).shut
  · rw [if_neg e]
    exact hF u)

theorem byte_eq (x : UInt8) (n : Nat) (h : n < 256) : (x.toNat : Int) = n ↔ x = UInt8.ofNat n := by
  constructor
  · intro h1
    have h2 : x.toNat = n := by exact_mod_cast h1
    apply UInt8.toNat.inj
    simp [h2]; omega
  · intro h1
    subst h1
    simp; omega

theorem at_eq (s : List UInt8) (i : Int) (n : Nat) (h : n < 256) : at' s i = n ↔ s.getD i.toNat 0 = UInt8.ofNat n := byte_eq _ n h
theorem at_range (s : List UInt8) (i : Int) : 0 ≤ at' s i ∧ at' s i < 256 := by
  have := (s.getD i.toNat 0).toNat_lt
  unfold at'
  omega

theorem bytesF_one (l : List UInt8) : ∀ i, i < l.length → ∃ n, bytesF l i = [.i .u8 n] := fun i _ => ⟨_, rfl⟩

/-- A number as a byte. -/
def by8 (n : Int) : UInt8 := UInt8.ofNat n.toNat
theorem by8_nat (n : Int) (h : 0 ≤ n) (h2 : n < 256) : ((by8 n).toNat : Int) = n := by
  unfold by8
  have : n.toNat < 256 := by omega
  simp
  omega
theorem by8_at (s : List UInt8) (i : Int) : by8 (at' s i) = s.getD i.toNat 0 := by
  unfold by8 at'
  simp

theorem wrap_u8 (n : Int) : IntKind.u8.wrap n = n % 256 := by simp [IntKind.wrap, IntKind.bits, IntKind.signed]
theorem wrap_i32 (n : Int) (h : -2147483648 ≤ n) (h2 : n < 2147483648) : IntKind.i32.wrap n = n := by
  simp [IntKind.wrap, IntKind.bits, IntKind.signed]
  omega
theorem wrap_u64' (n : Int) : IntKind.u64.wrap n = n % 18446744073709551616 := by simp [IntKind.wrap, IntKind.bits, IntKind.signed]
theorem wrap_u32' (n : Int) : IntKind.u32.wrap n = n % 4294967296 := by simp [IntKind.wrap, IntKind.bits, IntKind.signed]
theorem wrap_u32 (n : Int) (h : 0 ≤ n) (h2 : n < 4294967296) : IntKind.u32.wrap n = n := by
  simp [IntKind.wrap, IntKind.bits, IntKind.signed]
  omega

end Go.Proofs.YteidmimpkipcfaaDoor.Flow

/- FLOAT: numbers as lists of words, the lowest first. -/
namespace Go.Proofs.YteidmimpkipcfaaDoor.Flow

/-- A list of words as a number. -/
def val (B : Nat) : List Nat → Nat
  | [] => 0
  | w :: r => w + B * val B r

def wsm (B : Nat) (l : List Nat) : Prop := ∀ w ∈ l, w < B

/-- The last word is not 0. -/
def nrm : List Nat → Prop
  | [] => True
  | [w] => 0 < w
  | _ :: b :: r => nrm (b :: r)

/-- Times m, and c more. -/
def mulG (B m : Nat) : Nat → List Nat → List Nat
  | c, [] => if 0 < c then [c] else []
  | c, w :: r => (c + w * m) % B :: mulG B m ((c + w * m) / B) r

theorem val_mulG (B m : Nat) : ∀ (l : List Nat) (c : Nat), val B (mulG B m c l) = val B l * m + c
  | [], c => by
    unfold mulG
    split <;> simp [val] <;> omega
  | w :: r, c => by
    have ih := val_mulG B m r ((c + w * m) / B)
    have hd := Nat.mod_add_div (c + w * m) B
    unfold mulG val
    rw [ih]
    grind

theorem carry_lt {B m c w : Nat} (hm : m ≤ B) (hc : c < B) (hw : w < B) : (c + w * m) / B < B := by
  rw [Nat.div_lt_iff_lt_mul (by omega)]
  have h1 : w * m ≤ (B - 1) * B := Nat.mul_le_mul (by omega) hm
  have h2 : (B - 1) * B + B = B * B := by
    obtain ⟨k, rfl⟩ : ∃ k, B = k + 1 := ⟨B - 1, by omega⟩
    simp
    grind
  omega

theorem wsm_nil (B : Nat) : wsm B [] := fun w h => by simp at h
theorem wsm_cons {B w : Nat} {l : List Nat} : wsm B (w :: l) ↔ w < B ∧ wsm B l := by simp [wsm]
theorem wsm_append {B : Nat} {a b : List Nat} : wsm B (a ++ b) ↔ wsm B a ∧ wsm B b := by
  simp only [wsm, List.mem_append]
  exact ⟨fun h => ⟨fun w hw => h w (.inl hw), fun w hw => h w (.inr hw)⟩, fun h w hw => hw.elim (h.1 w) (h.2 w)⟩

theorem wsm_mulG {B m : Nat} (hm : m ≤ B) : ∀ (l : List Nat) (c : Nat), c < B → wsm B l → wsm B (mulG B m c l)
  | [], c, hc, _ => by
    unfold mulG
    split
    · exact wsm_cons.2 ⟨hc, wsm_nil B⟩
    · exact wsm_nil B
  | w :: r, c, hc, hl => by
    obtain ⟨h1, h2⟩ := wsm_cons.1 hl
    exact wsm_cons.2 ⟨Nat.mod_lt _ (by omega), wsm_mulG hm r _ (carry_lt hm hc h1) h2⟩

theorem mulG_ne {B m c w : Nat} {r : List Nat} : ∃ x l, mulG B m c (w :: r) = x :: l := ⟨_, _, rfl⟩

theorem nrm_mulG {B m : Nat} (hB : 0 < B) (hm : 0 < m) : ∀ (l : List Nat) (c : Nat), nrm l → nrm (mulG B m c l)
  | [], c, _ => by
    unfold mulG
    split
    · assumption
    · trivial
  | [w], c, h => by
    have h : 0 < w := h
    have h1 : 0 < w * m := Nat.mul_pos h hm
    show nrm ((c + w * m) % B :: (if 0 < (c + w * m) / B then [(c + w * m) / B] else []))
    have hd := Nat.mod_add_div (c + w * m) B
    split
    · assumption
    · rename_i hz
      have h0 : (c + w * m) / B = 0 := Nat.eq_zero_of_not_pos hz
      rw [h0, Nat.mul_zero] at hd
      show 0 < (c + w * m) % B
      omega
  | w :: b :: r, c, h => by
    have ih := nrm_mulG hB hm (b :: r) ((c + w * m) / B) h
    rw [mulG]
    obtain ⟨x, l, e⟩ := @mulG_ne B m ((c + w * m) / B) b r
    rw [e] at ih ⊢
    exact ih

theorem len_mulG (B m : Nat) : ∀ (l : List Nat) (c : Nat), (mulG B m c l).length ≤ l.length + 1
  | [], c => by unfold mulG; split <;> simp
  | w :: r, c => by
    have := len_mulG B m r ((c + w * m) / B)
    simp only [mulG, List.length_cons]
    omega

theorem val_append (B : Nat) : ∀ (a b : List Nat), val B (a ++ b) = val B a + B ^ a.length * val B b
  | [], b => by simp [val]
  | x :: a, b => by
    have ih := val_append B a b
    simp only [List.cons_append, val, ih, List.length_cons, Nat.pow_succ]
    grind

theorem val_lt {B : Nat} : ∀ {l : List Nat}, wsm B l → val B l < B ^ l.length
  | [], _ => by simp [val]
  | w :: r, h => by
    obtain ⟨h1, h2⟩ := wsm_cons.1 h
    have ih := val_lt h2
    simp only [val, List.length_cons, Nat.pow_succ]
    have h3 : B * (val B r + 1) ≤ B * B ^ r.length := Nat.mul_le_mul_left B ih
    have h4 : B * (val B r + 1) = B * val B r + B := by grind
    have h5 : B ^ r.length * B = B * B ^ r.length := Nat.mul_comm _ _
    omega

theorem val_ge {B : Nat} (hB : 0 < B) : ∀ {l : List Nat}, nrm l → l ≠ [] → B ^ (l.length - 1) ≤ val B l
  | [], _, h => absurd rfl h
  | [w], h, _ => by
    have h : 0 < w := h
    simp [val]
    omega
  | w :: b :: r, h, _ => by
    have ih := val_ge hB (show nrm (b :: r) from h) (by simp)
    have e : (w :: b :: r).length - 1 = (b :: r).length - 1 + 1 := by simp
    rw [e, Nat.pow_succ]
    have := Nat.mul_le_mul_left B ih
    rw [val]
    have h5 : B ^ ((b :: r).length - 1) * B = B * B ^ ((b :: r).length - 1) := Nat.mul_comm _ _
    omega

/-- Which of two numbers is greater. -/
def cmpV (x y : Nat) : Int := if x < y then -1 else if y < x then 1 else 0

theorem cmpV_lt {x y : Nat} (h : x < y) : cmpV x y = -1 := if_pos h
theorem cmpV_gt {x y : Nat} (h : y < x) : cmpV x y = 1 := by unfold cmpV; rw [if_neg (by omega), if_pos h]
theorem cmpV_eq {x y : Nat} (h : x = y) : cmpV x y = 0 := by unfold cmpV; rw [if_neg (by omega), if_neg (by omega)]

theorem val_len_lt {B : Nat} (hB : 0 < B) {a b : List Nat} (ha : wsm B a) (hb : nrm b) (h : a.length < b.length) : val B a < val B b := by
  have h1 := val_lt ha
  have h2 := val_ge hB hb (fun e => by rw [e] at h; simp at h)
  exact Nat.lt_of_lt_of_le (Nat.lt_of_lt_of_le h1 (Nat.pow_le_pow_right hB (by omega))) h2

theorem val_top {B : Nat} {p q t : List Nat} {x y : Nat} (hl : p.length = q.length) (hp : wsm B p) (h : x < y) : val B (p ++ x :: t) < val B (q ++ y :: t) := by
  rw [val_append, val_append, hl]
  have h1 := val_lt hp
  rw [hl] at h1
  simp only [val]
  have h2 : B ^ q.length * (x + B * val B t + 1) ≤ B ^ q.length * (y + B * val B t) := Nat.mul_le_mul_left _ (by omega)
  have h3 : B ^ q.length * (x + B * val B t + 1) = B ^ q.length * (x + B * val B t) + B ^ q.length := by grind
  omega

theorem val_zeros (B : Nat) : ∀ (k : Nat) (l : List Nat), val B (List.replicate k 0 ++ l) = B ^ k * val B l
  | 0, l => by simp
  | k + 1, l => by
    simp only [List.replicate_succ, List.cons_append, val, val_zeros B k l, Nat.pow_succ]
    grind

theorem wsm_zeros {B : Nat} (hB : 0 < B) (k : Nat) : wsm B (List.replicate k 0) := fun w h => by
  have := List.eq_of_mem_replicate h
  omega

theorem nrm_zeros : ∀ (k : Nat) (l : List Nat), nrm l → l ≠ [] → nrm (List.replicate k 0 ++ l)
  | 0, l, h, _ => by simpa using h
  | k + 1, l, h, hn => by
    have ih := nrm_zeros k l h hn
    simp only [List.replicate_succ, List.cons_append]
    cases e : List.replicate k 0 ++ l with
    | nil =>
      rw [List.append_eq_nil_iff] at e
      exact absurd e.2 hn
    | cons x r =>
      rw [e] at ih
      exact ih

/-- The sum of two, and c more. -/
def addG (B : Nat) : Nat → List Nat → List Nat → List Nat
  | c, [], [] => if 0 < c then [c] else []
  | c, x :: a, [] => (c + x) % B :: addG B ((c + x) / B) a []
  | c, [], y :: b => (c + y) % B :: addG B ((c + y) / B) [] b
  | c, x :: a, y :: b => (c + x + y) % B :: addG B ((c + x + y) / B) a b

theorem val_addG (B : Nat) : ∀ (a b : List Nat) (c : Nat), val B (addG B c a b) = val B a + val B b + c
  | [], [], c => by
    unfold addG
    split <;> simp [val] <;> omega
  | x :: a, [], c => by
    have ih := val_addG B a [] ((c + x) / B)
    have hd := Nat.mod_add_div (c + x) B
    simp only [addG, val, ih]
    grind
  | [], y :: b, c => by
    have ih := val_addG B [] b ((c + y) / B)
    have hd := Nat.mod_add_div (c + y) B
    simp only [addG, val, ih]
    grind
  | x :: a, y :: b, c => by
    have ih := val_addG B a b ((c + x + y) / B)
    have hd := Nat.mod_add_div (c + x + y) B
    simp only [addG, val, ih]
    grind

/-- Without words 0 above. -/
def trimG (l : List Nat) : List Nat := (l.reverse.dropWhile (· == 0)).reverse

theorem trimG_snoc0 (l : List Nat) : trimG (l ++ [0]) = trimG l := by simp [trimG]
theorem trimG_snoc (l : List Nat) (w : Nat) (h : w ≠ 0) : trimG (l ++ [w]) = l ++ [w] := by simp [trimG, h]
theorem trimG_nil : trimG [] = [] := rfl

theorem snoc_cases (l : List Nat) : l = [] ∨ ∃ r w, l = r ++ [w] := by
  rcases List.eq_nil_or_concat l with h | ⟨r, w, h⟩
  · exact .inl h
  · exact .inr ⟨r, w, by simpa using h⟩

theorem nrm_snoc : ∀ (l : List Nat) (w : Nat), 0 < w → nrm (l ++ [w])
  | [], w, h => h
  | [x], w, h => h
  | x :: y :: r, w, h => nrm_snoc (y :: r) w h

theorem val_trimG (B : Nat) : ∀ (n : Nat) (l : List Nat), l.length = n → val B (trimG l) = val B l ∧ nrm (trimG l) ∧ (wsm B l → wsm B (trimG l)) ∧ (trimG l).length ≤ n
  | 0, l, h => by
    have : l = [] := List.length_eq_zero_iff.1 h
    subst this
    exact ⟨rfl, trivial, fun h => h, Nat.le_refl _⟩
  | n + 1, l, h => by
    rcases snoc_cases l with rfl | ⟨r, w, rfl⟩
    · simp at h
    · by_cases hw : w = 0
      · subst hw
        have ih := val_trimG B n r (by simpa using h)
        rw [trimG_snoc0, val_append]
        refine ⟨by rw [ih.1]; simp [val], ih.2.1, fun h => ih.2.2.1 (wsm_append.1 h).1, by omega⟩
      · rw [trimG_snoc r w hw]
        exact ⟨rfl, nrm_snoc r w (by omega), fun h => h, by omega⟩

/-- A fraction, and m times 2 to so much. -/
def cmpQ (N D m : Nat) (e : Int) : Int := if 0 ≤ e then cmpV N (D * m * 2 ^ e.toNat) else cmpV (N * 2 ^ (-e).toNat) (D * m)

theorem cmpV_mul (x y k : Nat) (h : 0 < k) : cmpV (x * k) (y * k) = cmpV x y := by
  unfold cmpV
  simp only [Nat.mul_lt_mul_right h]

theorem cmpQ_scale (N D m : Nat) (e : Int) (s : Nat) (h : 0 ≤ e + s) : cmpQ N D m e = cmpV (N * 2 ^ s) (D * (m * 2 ^ (e + s).toNat)) := by
  unfold cmpQ
  split
  · rename_i h0
    have e1 : (e + s).toNat = e.toNat + s := by omega
    rw [e1, Nat.pow_add, ← cmpV_mul N _ (2 ^ s) (Nat.two_pow_pos s)]
    congr 1
    grind
  · have e1 : s = (-e).toNat + (e + s).toNat := by omega
    rw [← cmpV_mul (N * 2 ^ (-e).toNat) _ (2 ^ (e + s).toNat) (Nat.two_pow_pos _)]
    have e2 : N * 2 ^ s = N * 2 ^ (-e).toNat * 2 ^ (e + s).toNat := by
      rw [Nat.mul_assoc, ← Nat.pow_add, ← e1]
    rw [e2]
    congr 1
    grind

end Go.Proofs.YteidmimpkipcfaaDoor.Flow

/- FLOAT: the nearest number of 64 bits. -/
namespace Go.Proofs.YteidmimpkipcfaaDoor.Flow

/-- 2 to so much. -/
def tw (n : Nat) : Nat := 2 ^ n
theorem tw_pos (n : Nat) : 0 < tw n := Nat.two_pow_pos n

theorem cmpQ_tw (N D m : Nat) (e : Int) (s : Nat) (h : 0 ≤ e + s) : cmpQ N D m e = cmpV (N * tw s) (D * (m * tw (e + s).toNat)) := cmpQ_scale N D m e s h

def xB (b : Nat) : Nat := b / 4503599627370496
def mB (b : Nat) : Nat := if xB b = 0 then b % 4503599627370496 else b % 4503599627370496 + 4503599627370496
def eB (b : Nat) : Int := if xB b = 0 then -1074 else (xB b : Int) - 1075
/-- The step from one number to the next, and a number, both times 2 to 1075. -/
def uB (b : Nat) : Nat := tw (max (xB b) 1)
def hB (b : Nat) : Nat := tw (max (xB b) 1 - 1)
def wB (b : Nat) : Nat := mB b * uB b

theorem u_h (b : Nat) : uB b = 2 * hB b := by
  unfold uB hB
  obtain ⟨k, hk⟩ : ∃ k, max (xB b) 1 = k + 1 := ⟨max (xB b) 1 - 1, by omega⟩
  rw [hk]
  simp only [Nat.add_sub_cancel, tw, Nat.pow_succ]
  omega

theorem e_u (b : Nat) : tw (eB b + (1075 : Nat)).toNat = uB b := by
  unfold eB uB
  split
  · rename_i h
    rw [h]
    rfl
  · rename_i h
    congr 1
    omega

theorem e_h (b : Nat) : tw (eB b - 1 + (1075 : Nat)).toNat = hB b := by
  unfold eB hB
  split
  · rename_i h
    rw [h]
    rfl
  · rename_i h
    congr 1
    omega

theorem w_zero : wB 0 = 0 := by simp [wB, mB, xB]

/-- Bits, from high to low, as long as p holds. -/
def floorG (p : Nat → Bool) : Nat → Nat → Nat
  | 0, b => b
  | k + 1, b => floorG p k (if p (b + 2 ^ k) = true then b + 2 ^ k else b)

theorem floorG_ok {p : Nat → Bool} : ∀ (k b : Nat), p b = true → p (b + 2 ^ k) = false → p (floorG p k b) = true ∧ p (floorG p k b + 1) = false ∧ b ≤ floorG p k b ∧ floorG p k b < b + 2 ^ k
  | 0, b, h, h2 => ⟨h, h2, Nat.le_refl _, by simp [floorG]⟩
  | k + 1, b, h, h2 => by
    have e : 2 ^ (k + 1) = 2 ^ k + 2 ^ k := by rw [Nat.pow_succ]; omega
    unfold floorG
    split
    · rename_i h3
      have ih := floorG_ok k (b + 2 ^ k) h3 (by rw [Nat.add_assoc, ← e]; exact h2)
      exact ⟨ih.1, ih.2.1, by omega, by omega⟩
    · rename_i h3
      have ih := floorG_ok k b h (by simpa using h3)
      exact ⟨ih.1, ih.2.1, by omega, by omega⟩

/-- Is a number of these bits, and is it no greater than N by D? -/
def pB (N D : Nat) (b : Nat) : Bool := decide (xB b < 2047) && decide (0 ≤ cmpQ N D (mB b) (eB b))

def flB (N D : Nat) : Nat := floorG (pB N D) 63 0
def upB (N D b : Nat) : Bool := decide (0 < cmpQ N D (2 * mB b + 1) (eB b - 1)) || (decide (cmpQ N D (2 * mB b + 1) (eB b - 1) = 0) && decide (mB b % 2 = 1))
def roB (N D : Nat) : Nat := if upB N D (flB N D) = true then flB N D + 1 else flB N D

theorem e_ge (b : Nat) : -1074 ≤ eB b := by unfold eB; split <;> omega

theorem cmp_w (N D b : Nat) : cmpQ N D (mB b) (eB b) = cmpV (N * tw 1075) (D * wB b) := by
  rw [cmpQ_tw N D _ _ 1075 (by have := e_ge b; omega), e_u]
  rfl

theorem cmp_h (N D b : Nat) : cmpQ N D (2 * mB b + 1) (eB b - 1) = cmpV (N * tw 1075) (D * (wB b + hB b)) := by
  rw [cmpQ_tw N D _ _ 1075 (by have := e_ge b; omega), e_h]
  congr 2
  unfold wB
  rw [u_h]
  grind

theorem cmpV_ge {x y : Nat} : 0 ≤ cmpV x y ↔ y ≤ x := by unfold cmpV; split <;> (try split) <;> omega
theorem cmpV_pos {x y : Nat} : 0 < cmpV x y ↔ y < x := by unfold cmpV; split <;> (try split) <;> omega
theorem cmpV_zero {x y : Nat} : cmpV x y = 0 ↔ x = y := by unfold cmpV; split <;> (try split) <;> omega

theorem pB_iff {N D b : Nat} : pB N D b = true ↔ xB b < 2047 ∧ D * wB b ≤ N * tw 1075 := by
  unfold pB
  rw [cmp_w]
  simp [cmpV_ge]

theorem flB_ok (N D : Nat) : xB (flB N D) < 2047 ∧ D * wB (flB N D) ≤ N * tw 1075 ∧ (xB (flB N D + 1) < 2047 → N * tw 1075 < D * wB (flB N D + 1)) ∧ flB N D < 2 ^ 63 := by
  have h := floorG_ok (p := pB N D) 63 0 (pB_iff.2 ⟨by decide, by rw [w_zero]; simp⟩) (by
    cases e : pB N D (0 + 2 ^ 63) with
    | false => rfl
    | true => exact absurd (pB_iff.1 e).1 (by decide))
  change pB N D (flB N D) = true ∧ pB N D (flB N D + 1) = false ∧ 0 ≤ flB N D ∧ flB N D < 0 + 2 ^ 63 at h
  obtain ⟨h1, h2, _, h4⟩ := h
  obtain ⟨h5, h6⟩ := pB_iff.1 h1
  refine ⟨h5, h6, fun h7 => ?_, by omega⟩
  by_cases h8 : D * wB (flB N D + 1) ≤ N * tw 1075
  · rw [pB_iff.2 ⟨h7, h8⟩] at h2
    cases h2
  · omega

theorem up_iff {N D b : Nat} : upB N D b = true ↔ D * (wB b + hB b) < N * tw 1075 ∨ N * tw 1075 = D * (wB b + hB b) ∧ mB b % 2 = 1 := by
  unfold upB
  rw [cmp_h]
  simp [cmpV_pos, cmpV_zero]

/-- The greatest number's bits. -/
theorem top_bits {b : Nat} (h : xB b < 2047) (h2 : ¬ xB (b + 1) < 2047) : b = 9218868437227405311 := by
  unfold xB at h h2
  omega

/-- What lies in no number's reach. -/
def overB (N D : Nat) : Prop := 0 ≤ cmpQ N D 18014398509481983 970

theorem over_iff {N D : Nat} : overB N D ↔ D * (18014398509481983 * tw 2045) ≤ N * tw 1075 := by
  unfold overB
  rw [cmpQ_tw N D _ _ 1075 (by omega), cmpV_ge, show ((970 : Int) + (1075 : Nat)).toNat = 2045 by decide]

theorem xtop : xB 9218868437227405311 = 2046 := by decide
theorem mtop : mB 9218868437227405311 = 9007199254740991 := by decide

theorem top_wh : wB 9218868437227405311 + hB 9218868437227405311 = 18014398509481983 * tw 2045 := by
  have h1 : hB 9218868437227405311 = tw 2045 := congrArg tw (show max (xB 9218868437227405311) 1 - 1 = 2045 by rw [xtop]; decide)
  generalize tw 2045 = t at h1 ⊢
  have h2 : wB 9218868437227405311 = 9007199254740991 * (2 * hB 9218868437227405311) := by rw [← u_h, ← mtop]; rfl
  rw [h2, h1]
  omega

theorem ro_fin {N D : Nat} (h : ¬ overB N D) : xB (roB N D) < 2047 := by
  obtain ⟨h1, h2, h3, h4⟩ := flB_ok N D
  unfold roB
  split
  · rename_i hu
    by_cases h5 : xB (flB N D + 1) < 2047
    · exact h5
    · exfalso
      have hb := top_bits h1 h5
      rw [hb, up_iff, top_wh] at hu
      rw [over_iff] at h
      rcases hu with hu | hu
      · omega
      · omega
  · exact h1

/-- As the reference asks it. -/
def nearB (N D b : Nat) : Bool :=
  if 0 < cmpQ N D (2 * mB b + 1) (eB b - 1) ∨ (cmpQ N D (2 * mB b + 1) (eB b - 1) = 0 ∧ ¬ mB b % 2 = 0) then false
  else if mB b = 0 then true
  else if mB b = 4503599627370496 ∧ -1074 < eB b then
    decide (0 < cmpQ N D (4 * mB b - 1) (eB b - 2)) || (decide (cmpQ N D (4 * mB b - 1) (eB b - 2) = 0) && decide (mB b % 2 = 0))
  else
    decide (0 < cmpQ N D (2 * mB b - 1) (eB b - 1)) || (decide (cmpQ N D (2 * mB b - 1) (eB b - 1) = 0) && decide (mB b % 2 = 0))

end Go.Proofs.YteidmimpkipcfaaDoor.Flow

/- FLOAT: the program's numbers: times a word. -/
namespace Go.Proofs.YteidmimpkipcfaaDoor.Flow
open Go

/-- Words as a slice's elements. -/
def wF (k : IntKind) (l : List Nat) : Nat → List D := fun i => [.i k ((l.getD i 0 : Nat) : Int)]
abbrev slW (k : IntKind) (l : List Nat) : D := .sl 1 l.length (wF k l)

theorem catF_w (k : IntKind) (l xs : List Nat) (g : Nat → List D) (hg : ∀ i, i < xs.length → g i = wF k xs i) : catF l.length (wF k l) xs.length g = wF k (l ++ xs) := by
  funext j
  unfold catF
  by_cases h : j < l.length
  · rw [if_pos h]
    simp [wF, List.getD_eq_getElem?_getD, h, List.getElem?_append_left]
  · rw [if_neg h]
    by_cases h2 : j < l.length + xs.length
    · rw [if_pos h2, hg _ (by omega)]
      simp [wF, List.getD_eq_getElem?_getD, List.getElem?_append_right (show l.length ≤ j by omega)]
    · rw [if_neg h2]
      simp [wF, List.getD_eq_getElem?_getD, List.getElem?_append_right (show l.length ≤ j by omega)]
      rw [List.getElem?_eq_none (show l.length ≤ j by omega), List.getElem?_eq_none (show xs.length ≤ j - l.length by omega)]

theorem catF_w1 (k : IntKind) (l : List Nat) (n x : Nat) (g : Nat → List D) (hn : n = l.length) (hg : g 0 = [.i k (x : Int)]) : catF n (wF k l) 1 g = wF k (l ++ [x]) := by
  subst hn
  exact catF_w k l [x] g fun i hi => by
    have : i = 0 := by simpa using hi
    subst this
    exact hg

theorem slW_snoc (k : IntKind) (l : List Nat) (n x : Nat) (g : Nat → List D) (hn : n = l.length) (hg : g 0 = [.i k (x : Int)]) : D.sl 1 (n + 1) (catF n (wF k l) 1 g) = slW k (l ++ [x]) := by
  rw [catF_w1 k l n x g hn hg]
  subst hn
  simp [slW]

theorem WL.rfl' (a : List D) : WL a a := .inl rfl
theorem WL.of_eq {a b : List D} (h : a = b) : WL a b := .inl h


theorem getD_lt {B : Nat} {l : List Nat} (h : wsm B l) (hB : 0 < B) (i : Nat) : l.getD i 0 < B := by
  by_cases hi : i < l.length
  · simp only [List.getD_eq_getElem?_getD, List.getElem?_eq_getElem hi, Option.getD_some]
    exact h _ (List.getElem_mem hi)
  · simp only [List.getD_eq_getElem?_getD, List.getElem?_eq_none (show l.length ≤ i by omega), Option.getD_none]
    exact hB

theorem drop_getD {l : List Nat} {i : Nat} (h : i < l.length) : l.drop i = l.getD i 0 :: l.drop (i + 1) := by
  rw [List.getD_eq_getElem?_getD, List.getElem?_eq_getElem h, Option.getD_some, List.drop_eq_getElem_cons h]

theorem mulAdd_ctr (l : List Nat) (m c : Nat) (hl : wsm 4294967296 l) (hm : m < 4294967296) (hc : c < 4294967296) (hlen : l.length ≤ 1048576) :
    Ctr Tryd.prog 85 [slW .u32 l, .i .u32 m, .i .u32 c] (slW .u32 (mulG 4294967296 m c l)) := by
  refine r_fun Tryd.func85 rfl Tryd.ntmps85 Tryd.results85 rfl rfl fun X hL hX => ?_
  repeat' (first
    | with_reducible refine t_seq ?_ | with_reducible refine t_region ?_ | with_reducible refine c_nil ?_ | with_reducible refine n_then ?_
    | with_reducible refine t_ret ?_ | with_reducible refine t_skip ?_ | with_reducible refine t_exit ?_ | with_reducible refine t_block ?_
    | with_reducible refine n_block ?_ | with_reducible refine e_then ?_ | with_reducible refine x_then ?_ | with_reducible refine x_block ?_ | with_reducible refine t_draw ?_
    | refine r_val rfl rfl True.intro ?_ | refine r_gskip rfl rfl rfl ?_ | refine r_gskip2 rfl rfl rfl ?_ | refine r_gval rfl rfl rfl rfl True.intro ?_
    | refine t_true rfl ?_ | refine t_false rfl ?_
    | ((first | refine t_cond_d rfl (fun _ => ?_) (fun _ => ?_) | refine t_cond_i rfl (fun _ => ?_) (fun _ => ?_) | refine t_cond_j rfl (fun _ => ?_) (fun _ => ?_) | refine t_cond_s rfl (fun _ => ?_) (fun _ => ?_) | refine t_cond_n rfl (fun _ => ?_) (fun _ => ?_) | refine t_cond rfl (fun _ => ?_) (fun _ => ?_) | refine c_split_d rfl rfl (fun _ => ?_) (fun _ => ?_) | refine c_split_i rfl rfl (fun _ => ?_) (fun _ => ?_) | refine c_split_j rfl rfl (fun _ => ?_) (fun _ => ?_) | refine c_split_s rfl rfl (fun _ => ?_) (fun _ => ?_) | refine c_split_n rfl rfl (fun _ => ?_) (fun _ => ?_)) <;> try (first | contradiction | (exfalso; omega)))
    | refine r_val rfl rfl (by (first | omega | exact Nat.le_of_ble_eq_true rfl | (simp only [wrap_u8, IntKind.wrap_i64, IntKind.wrap_i32, wrap_u32', wrap_u64', InI]; (repeat' refine And.intro ?_ ?_) <;> omega) | ((repeat' refine And.intro ?_ ?_) <;> first | omega | rfl | exact Nat.le_refl _ | exact Nat.le_of_ble_eq_true rfl | exact bytesF_one _) | (simp_all; done) | (simp_all; omega))) ?_ | refine r_gval rfl rfl rfl rfl (by (first | omega | exact Nat.le_of_ble_eq_true rfl | (simp only [wrap_u8, IntKind.wrap_i64, IntKind.wrap_i32, wrap_u32', wrap_u64', InI]; (repeat' refine And.intro ?_ ?_) <;> omega) | ((repeat' refine And.intro ?_ ?_) <;> first | omega | rfl | exact Nat.le_refl _ | exact Nat.le_of_ble_eq_true rfl | exact bytesF_one _) | (simp_all; done) | (simp_all; omega))) ?_
    | refine r_obj rfl rfl (by (first | omega | exact Nat.le_of_ble_eq_true rfl | (simp only [wrap_u8, IntKind.wrap_i64, IntKind.wrap_i32, wrap_u32', wrap_u64', InI]; (repeat' refine And.intro ?_ ?_) <;> omega) | ((repeat' refine And.intro ?_ ?_) <;> first | omega | rfl | exact Nat.le_refl _ | exact Nat.le_of_ble_eq_true rfl | exact bytesF_one _) | (simp_all; done) | (simp_all; omega))) ?_ | refine r_sto rfl (by (first | omega | exact Nat.le_of_ble_eq_true rfl | (simp only [wrap_u8, IntKind.wrap_i64, IntKind.wrap_i32, wrap_u32', wrap_u64', InI]; (repeat' refine And.intro ?_ ?_) <;> omega) | ((repeat' refine And.intro ?_ ?_) <;> first | omega | rfl | exact Nat.le_refl _ | exact Nat.le_of_ble_eq_true rfl | exact bytesF_one _) | (simp_all; done) | (simp_all; omega))) ?_ | refine r_gobj rfl rfl rfl rfl (by (first | omega | exact Nat.le_of_ble_eq_true rfl | (simp only [wrap_u8, IntKind.wrap_i64, IntKind.wrap_i32, wrap_u32', wrap_u64', InI]; (repeat' refine And.intro ?_ ?_) <;> omega) | ((repeat' refine And.intro ?_ ?_) <;> first | omega | rfl | exact Nat.le_refl _ | exact Nat.le_of_ble_eq_true rfl | exact bytesF_one _) | (simp_all; done) | (simp_all; omega))) ?_
    | refine e_hit rfl ?_ | refine e_miss rfl ?_
    | refine ⟨by kernel_rfl, ?_⟩ | ((with_reducible refine c_grd ?_); (fail_if_success (refine c_lit true rfl rfl rfl ?_)); (fail_if_success (refine c_lit false rfl rfl rfl ?_)); refine c_split rfl rfl (fun _ => ?_) (fun _ => ?_)))
  refine T.loop hL (fun x : Nat × Nat × List Nat => [(1, .i .u32 m), (7, .ah 14 1 x.1), (8, .i .u64 x.2.1), (17, slW .u32 l), (18, .i .i64 l.length), (19, .i .i64 x.1)]) (fun x => [(14, .arr 113 1 x.1 (wF .u32 x.2.2))])
    (fun x => x.1 ≤ l.length ∧ x.2.1 < 4294967296 ∧ x.2.2.length = x.1 ∧ mulG 4294967296 m c l = x.2.2 ++ mulG 4294967296 m x.2.1 (l.drop x.1)) (fun x => l.length - x.1) (0, c, []) ⟨Nat.zero_le _, hc, rfl, rfl⟩
    ⟨⟨rfl, rfl, ?_, rfl, rfl, rfl, trivial⟩, ⟨⟨_, _, rfl, rfl, fun i hi => absurd hi (Nat.not_lt_zero _)⟩, trivial⟩, rfl, by rw [hX]; intro k hk; cases hk⟩ ?_
  · show D.i .u64 (IntKind.u64.wrap (c : Int)) = .i .u64 (c : Int)
    rw [wrap_u64']
    congr 1
    omega
  rintro ⟨i, cy, out⟩ ⟨g1, g2, g3, g4⟩
  dsimp only at g1 g2 g3 g4 ⊢
  have hw := getD_lt hl (by omega) i
  generalize hwe : l.getD i 0 = w at hw
  have hmul : w * m ≤ 18446744065119617025 := Nat.mul_le_mul (show w ≤ 4294967295 by omega) (show m ≤ 4294967295 by omega)
  have hs : IntKind.u64.wrap ((cy : Int) + IntKind.u64.wrap (IntKind.u64.wrap (l.getD (i : Int).toNat 0 : Nat) * IntKind.u64.wrap (m : Int))) = ((cy + w * m : Nat) : Int) := by
    rw [Int.toNat_natCast, hwe]
    simp only [wrap_u64']
    rw [show ((w : Nat) : Int) % 18446744073709551616 = w by omega, show ((m : Nat) : Int) % 18446744073709551616 = m by omega, ← Int.natCast_mul]
    omega
  have e32 : (2 : Int) ^ Int.toNat 32 = 4294967296 := by decide
  repeat' (first
    | with_reducible refine t_seq ?_ | with_reducible refine t_region ?_ | with_reducible refine c_nil ?_ | with_reducible refine n_then ?_
    | with_reducible refine t_ret ?_ | with_reducible refine t_skip ?_ | with_reducible refine t_exit ?_ | with_reducible refine t_block ?_
    | with_reducible refine n_block ?_ | with_reducible refine e_then ?_ | with_reducible refine x_then ?_ | with_reducible refine x_block ?_ | with_reducible refine t_draw ?_
    | refine r_val rfl rfl True.intro ?_ | refine r_gskip rfl rfl rfl ?_ | refine r_gskip2 rfl rfl rfl ?_ | refine r_gval rfl rfl rfl rfl True.intro ?_
    | refine t_true rfl ?_ | refine t_false rfl ?_
    | ((first | refine t_cond_d rfl (fun _ => ?_) (fun _ => ?_) | refine t_cond_i rfl (fun _ => ?_) (fun _ => ?_) | refine t_cond_j rfl (fun _ => ?_) (fun _ => ?_) | refine t_cond_s rfl (fun _ => ?_) (fun _ => ?_) | refine t_cond_n rfl (fun _ => ?_) (fun _ => ?_) | refine t_cond rfl (fun _ => ?_) (fun _ => ?_) | refine c_split_d rfl rfl (fun _ => ?_) (fun _ => ?_) | refine c_split_i rfl rfl (fun _ => ?_) (fun _ => ?_) | refine c_split_j rfl rfl (fun _ => ?_) (fun _ => ?_) | refine c_split_s rfl rfl (fun _ => ?_) (fun _ => ?_) | refine c_split_n rfl rfl (fun _ => ?_) (fun _ => ?_)) <;> try (first | contradiction | (exfalso; omega)))
    | refine r_val rfl rfl (by (first | omega | exact Nat.le_of_ble_eq_true rfl | (simp only [wrap_u8, IntKind.wrap_i64, IntKind.wrap_i32, wrap_u32', wrap_u64', InI]; (repeat' refine And.intro ?_ ?_) <;> omega) | ((repeat' refine And.intro ?_ ?_) <;> first | omega | rfl | exact Nat.le_refl _ | exact Nat.le_of_ble_eq_true rfl | exact bytesF_one _) | (simp_all; done) | (simp_all; omega))) ?_ | refine r_gval rfl rfl rfl rfl (by (first | omega | exact Nat.le_of_ble_eq_true rfl | (simp only [wrap_u8, IntKind.wrap_i64, IntKind.wrap_i32, wrap_u32', wrap_u64', InI]; (repeat' refine And.intro ?_ ?_) <;> omega) | ((repeat' refine And.intro ?_ ?_) <;> first | omega | rfl | exact Nat.le_refl _ | exact Nat.le_of_ble_eq_true rfl | exact bytesF_one _) | (simp_all; done) | (simp_all; omega))) ?_
    | refine r_obj rfl rfl (by (first | omega | exact Nat.le_of_ble_eq_true rfl | (simp only [wrap_u8, IntKind.wrap_i64, IntKind.wrap_i32, wrap_u32', wrap_u64', InI]; (repeat' refine And.intro ?_ ?_) <;> omega) | ((repeat' refine And.intro ?_ ?_) <;> first | omega | rfl | exact Nat.le_refl _ | exact Nat.le_of_ble_eq_true rfl | exact bytesF_one _) | (simp_all; done) | (simp_all; omega))) ?_ | refine r_sto rfl (by (first | omega | exact Nat.le_of_ble_eq_true rfl | (simp only [wrap_u8, IntKind.wrap_i64, IntKind.wrap_i32, wrap_u32', wrap_u64', InI]; (repeat' refine And.intro ?_ ?_) <;> omega) | ((repeat' refine And.intro ?_ ?_) <;> first | omega | rfl | exact Nat.le_refl _ | exact Nat.le_of_ble_eq_true rfl | exact bytesF_one _) | (simp_all; done) | (simp_all; omega))) ?_ | refine r_gobj rfl rfl rfl rfl (by (first | omega | exact Nat.le_of_ble_eq_true rfl | (simp only [wrap_u8, IntKind.wrap_i64, IntKind.wrap_i32, wrap_u32', wrap_u64', InI]; (repeat' refine And.intro ?_ ?_) <;> omega) | ((repeat' refine And.intro ?_ ?_) <;> first | omega | rfl | exact Nat.le_refl _ | exact Nat.le_of_ble_eq_true rfl | exact bytesF_one _) | (simp_all; done) | (simp_all; omega))) ?_
    | refine e_hit rfl ?_ | refine e_miss rfl ?_
    | refine ⟨by kernel_rfl, ?_⟩ | refine x_endF [6] 14 rfl ⟨rfl, trivial⟩ rfl ?_ | ((with_reducible refine c_grd ?_); (fail_if_success (refine c_lit true rfl rfl rfl ?_)); (fail_if_success (refine c_lit false rfl rfl rfl ?_)); refine c_split rfl rfl (fun _ => ?_) (fun _ => ?_)))
  · have hi : i < l.length := by omega
    refine ⟨(i + 1, (cy + w * m) / 4294967296, out ++ [(cy + w * m) % 4294967296]), ⟨by dsimp only; omega, carry_lt (by omega) g2 hw, by simp [g3], ?_⟩, by dsimp only; omega,
      ⟨rfl, rfl, by rw [hs, e32]; rfl, rfl, rfl, rfl, trivial⟩, ⟨⟨_, _, rfl, rfl, fun j _ => ?_⟩, trivial⟩, rfl, by rw [hX]; intro k hk; cases hk⟩
    · rw [g4, drop_getD hi, hwe, mulG]
      simp
    · refine WL.of_eq (congrFun (catF_w1 .u32 out i _ _ g3.symm ?_) j)
      show [D.i .u32 (IntKind.u32.wrap _)] = _
      rw [hs, wrap_u32']
      rfl
  · rename_i h1 h2
    refine Weak.of_eq ?_
    have e : mulG 4294967296 m c l = out ++ [cy] := by
      rw [g4, List.drop_eq_nil_of_le (by omega), mulG, if_pos (by omega)]
    rw [e]
    refine slW_snoc .u32 out i cy _ g3.symm ?_
    show [D.i .u32 (IntKind.u32.wrap _)] = _
    rw [wrap_u32 _ (by omega) (by omega)]
  · rename_i h1 h2
    refine Weak.of_eq ?_
    have e : mulG 4294967296 m c l = out := by
      rw [g4, List.drop_eq_nil_of_le (by omega), mulG, if_neg (by omega), List.append_nil]
    rw [e, ← g3]

end Go.Proofs.YteidmimpkipcfaaDoor.Flow
