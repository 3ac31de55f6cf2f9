/- The texts FlowN, FlowO, M1, one behind the other. -/
import Derived.Test.YtcajofhafpkbdaaGreatDoorCF7
namespace Go.Proofs.YtcajofhafpkbdaaGreatDoor.Flow

section
variable {X : Ctx} {n : Nat} {all rest : List Oper} {fr : Fr} {ow : Ow} {tr : List (List Nat × List Nat)} {K : Fr → Ow → List (List Nat × List Nat) → Prop} {Q : Exit → Fr → Ow → Prop}
variable {t : Nat} {op : Op} {ty : TypeId} {pos : String} {af : Array Edge} {d : D} {p : Prop} {rd : List Nat} {k : Nat} {ob : Own} {g u : Nat} {want : Bool}

theorem zaw (hs : step B (ev fr) (fun k => look k ow) ⟨some t, op, ty, pos, af, none⟩ = some ⟨d, p, rd, []⟩) (hn : Nat.blt t n = true) (hp : p) (h : CT Tryz.prog X n all rest ((t, d) :: fr) ow (tr ++ [(rd, [])]) K) :
    CT Tryz.prog X n all (⟨some t, op, ty, pos, af, none⟩ :: rest) fr ow tr K := CT.val (by rw [zch]; exact hs) (by simpa using hn) hp h
theorem zaM (hs : step B (ev fr) (fun k => look k ow) ⟨some t, op, ty, pos, af, none⟩ = some ⟨d, p, rd, [(k, ob)]⟩) (hn : Nat.blt t n = true) (hp : p) (h : CT Tryz.prog X n all rest ((t, d) :: fr) ((k, ob) :: ow) (tr ++ [(rd, [k])]) K) :
    CT Tryz.prog X n all (⟨some t, op, ty, pos, af, none⟩ :: rest) fr ow tr K := CT.obj (by rw [zch]; exact hs) (by simpa using hn) hp h
theorem r_arr (hs : stepK true B (ev fr) (fun k => look k ow) ⟨some t, op, ty, pos, af, none⟩ = some ⟨d, p, rd, [(k, ob)]⟩) (hn : Nat.blt t n = true) (hp : p) (h : CT Tryz.prog X n all rest ((t, d) :: fr) ((k, ob) :: ow) (tr ++ [(rd, [k])]) K) :
    CT Tryz.prog X n all (⟨some t, op, ty, pos, af, none⟩ :: rest) fr ow tr K := CT.arr (by rw [zch]; exact hs) (by simpa using hn) hp h
theorem r_garr (hu : dstAt all g = some u) (hc : getD' u fr = .b want) (hs : stepK true B (ev fr) (fun k => look k ow) ⟨some t, op, ty, pos, af, some (g, want)⟩ = some ⟨d, p, rd, [(k, ob)]⟩) (hn : Nat.blt t n = true) (hp : p)
    (h : CT Tryz.prog X n all rest ((t, d) :: fr) ((k, ob) :: ow) (tr ++ [(rd, [k])]) K) : CT Tryz.prog X n all (⟨some t, op, ty, pos, af, some (g, want)⟩ :: rest) fr ow tr K := CT.garr hu hc (by rw [zch]; exact hs) (by simpa using hn) hp h
theorem zml {f : FuncId} {args : List D} (hc : callOf fr op = some (f, args)) (hn : Nat.blt t n = true) (hP : ∀ vs w, (callFunc f vs).run Tryz.prog w = .ok (.enter f vs) w) (hp : okOs (fun k => look k ow) args) (hf : (args.map (D.shutO fun k => look k ow)).all D.free = true)
    (hC : Ctr Tryz.prog f (args.map (D.shutO fun k => look k ow)) d) (hs : d.scal = true)
    (h : CT Tryz.prog X n all rest ((t, d) :: fr) ow (tr ++ [(keysO args, [])]) K) : CT Tryz.prog X n all (⟨some t, op, ty, pos, af, none⟩ :: rest) fr ow tr K := CT.callS hc (by simpa using hn) hP hp hf hC hs h
theorem r_gcallS {f : FuncId} {args : List D} (hu : dstAt all g = some u) (hg : getD' u fr = .b want) (hc : callOf fr op = some (f, args)) (hn : Nat.blt t n = true) (hP : ∀ vs w, (callFunc f vs).run Tryz.prog w = .ok (.enter f vs) w) (hp : okOs (fun k => look k ow) args) (hf : (args.map (D.shutO fun k => look k ow)).all D.free = true)
    (hC : Ctr Tryz.prog f (args.map (D.shutO fun k => look k ow)) d) (hs : d.scal = true)
    (h : CT Tryz.prog X n all rest ((t, d) :: fr) ow (tr ++ [(keysO args, [])]) K) : CT Tryz.prog X n all (⟨some t, op, ty, pos, af, some (g, want)⟩ :: rest) fr ow tr K := CT.gcallS hu hg hc (by simpa using hn) hP hp hf hC hs h
theorem r_callN {f : FuncId} {args : List D} {k z L : Nat} {e : TypeId} {h0 : Nat → List D} (hc : callOf fr op = some (f, args)) (hn : Nat.blt t n = true) (hP : ∀ vs w, (callFunc f vs).run Tryz.prog w = .ok (.enter f vs) w) (hf : (args.map D.shut).all D.free = true)
    (hC : CtrO Tryz.prog f (args.map D.shut) [] (.ah k z L) [(k, .arr e z L h0)]) (ht : look t ow = none)
    (h : CT Tryz.prog X n all rest ((t, .ah t z L) :: fr) ((t, .arr e z L h0) :: ow) (tr ++ [([t], [t])]) K) : CT Tryz.prog X n all (⟨some t, op, ty, pos, af, none⟩ :: rest) fr ow tr K := CT.callN hc (by simpa using hn) hP hf hC ht h
theorem zaJ (hs : step B (ev fr) (fun k => look k ow) ⟨none, op, ty, pos, af, none⟩ = some ⟨d, p, rd, [(k, ob)]⟩) (hp : p) (h : CT Tryz.prog X n all rest fr ((k, ob) :: ow) (tr ++ [(rd, [k])]) K) :
    CT Tryz.prog X n all (⟨none, op, ty, pos, af, none⟩ :: rest) fr ow tr K := CT.sto (by rw [zch]; exact hs) hp h
theorem zag (hu : dstAt all g = some u) (hc : getD' u fr = .b want) (hs : step B (ev fr) (fun k => look k ow) ⟨some t, op, ty, pos, af, some (g, want)⟩ = some ⟨d, p, rd, []⟩) (hn : Nat.blt t n = true) (hp : p)
    (h : CT Tryz.prog X n all rest ((t, d) :: fr) ow (tr ++ [(rd, [])]) K) : CT Tryz.prog X n all (⟨some t, op, ty, pos, af, some (g, want)⟩ :: rest) fr ow tr K := CT.gval hu hc (by rw [zch]; exact hs) (by simpa using hn) hp h
theorem zaG (hu : dstAt all g = some u) (hc : getD' u fr = .b want) (hs : step B (ev fr) (fun k => look k ow) ⟨some t, op, ty, pos, af, some (g, want)⟩ = some ⟨d, p, rd, [(k, ob)]⟩) (hn : Nat.blt t n = true) (hp : p)
    (h : CT Tryz.prog X n all rest ((t, d) :: fr) ((k, ob) :: ow) (tr ++ [(rd, [k])]) K) : CT Tryz.prog X n all (⟨some t, op, ty, pos, af, some (g, want)⟩ :: rest) fr ow tr K := CT.gobj hu hc (by rw [zch]; exact hs) (by simpa using hn) hp h
theorem zau (hu : dstAt all g = some u) (hc : getD' u fr = .b (!want)) (hn : Nat.blt t n = true) (h : CT Tryz.prog X n all rest ((t, .tu []) :: fr) ow (tr ++ [([], [])]) K) :
    CT Tryz.prog X n all (⟨some t, op, ty, pos, af, some (g, want)⟩ :: rest) fr ow tr K := CT.gskip hu (.inl hc) (by simpa using hn) h
theorem zao (hu : dstAt all g = some u) (hc : getD' u fr = .tu []) (hn : Nat.blt t n = true) (h : CT Tryz.prog X n all rest ((t, .tu []) :: fr) ow (tr ++ [([], [])]) K) :
    CT Tryz.prog X n all (⟨some t, op, ty, pos, af, some (g, want)⟩ :: rest) fr ow tr K := CT.gskip hu (.inr hc) (by simpa using hn) h

theorem zaR {f : FuncId} {args : List D} (hc : callOf fr op = some (f, args)) (hn : Nat.blt t n = true) (hP : ∀ vs w, (callFunc f vs).run Tryz.prog w = .ok (.enter f vs) w) (hf : (args.map D.shut).all D.free = true) (hC : Ctr Tryz.prog f (args.map D.shut) d)
    (h : CT Tryz.prog X n all rest ((t, d) :: fr) ow (tr ++ [([], [])]) K) : CT Tryz.prog X n all (⟨some t, op, ty, pos, af, none⟩ :: rest) fr ow tr K := CT.call hc (by simpa using hn) hP hf hC h
theorem zaY {f : FuncId} {args : List D} (hu : dstAt all g = some u) (hg : getD' u fr = .b want) (hc : callOf fr op = some (f, args)) (hn : Nat.blt t n = true) (hP : ∀ vs w, (callFunc f vs).run Tryz.prog w = .ok (.enter f vs) w)
    (hf : (args.map D.shut).all D.free = true) (hC : Ctr Tryz.prog f (args.map D.shut) d)
    (h : CT Tryz.prog X n all rest ((t, d) :: fr) ow (tr ++ [([], [])]) K) : CT Tryz.prog X n all (⟨some t, op, ty, pos, af, some (g, want)⟩ :: rest) fr ow tr K := CT.gcall hu hg hc (by simpa using hn) hP hf hC h

def Nrm (Q : Exit → Fr → Ow → Prop) (fr : Fr) (ow : Ow) : Prop := Q .normal fr ow
def Rtn (Q : Exit → Fr → Ow → Prop) (fr : Fr) (ow : Ow) : Prop := Q .ret fr ow
def Exi (id : Nat) (Q : Exit → Fr → Ow → Prop) (fr : Fr) (ow : Ow) : Prop := Q (.exit id) fr ow

theorem zaB {K : Fr → Ow → Prop} (h : K fr ow) : Nrm (thenQ K Q) fr ow := h
theorem zaq {id : Nat} (h : Nrm Q fr ow) : Nrm (blockQ id Q) fr ow := h
theorem zaI {K : Fr → Ow → Prop} {id : Nat} (h : Exi id Q fr ow) : Exi id (thenQ K Q) fr ow := h
theorem zaP {j id : Nat} (hb : Nat.beq j id = true) (h : Nrm Q fr ow) : Exi j (blockQ id Q) fr ow := by
  show blockQ id Q (.exit j) fr ow
  simp only [blockQ, hb]
  exact h
theorem zaz {j id : Nat} (hb : Nat.beq j id = false) (h : Exi j Q fr ow) : Exi j (blockQ id Q) fr ow := by
  show blockQ id Q (.exit j) fr ow
  simp only [blockQ, hb]
  exact h
theorem zaE {K : Fr → Ow → Prop} (h : Rtn Q fr ow) : Rtn (thenQ K Q) fr ow := h
theorem zas {id : Nat} (h : Rtn Q fr ow) : Rtn (blockQ id Q) fr ow := h

theorem zaK {x y : Code} (h : T Tryz.prog X n x fr ow (thenQ (fun fr ow => T Tryz.prog X n y fr ow Q) Q)) : T Tryz.prog X n (.seq x y) fr ow Q := T.seq h
theorem zaD (h : Nrm Q fr ow) : T Tryz.prog X n .skip fr ow Q := T.skip h
theorem zaO (h : Rtn Q fr ow) : T Tryz.prog X n .ret fr ow Q := T.ret h
theorem zaC {id : Nat} (h : Exi id Q fr ow) : T Tryz.prog X n (.exit id) fr ow Q := T.exit h
theorem zar {id : Nat} {c : Code} (h : T Tryz.prog X n c fr ow (blockQ id Q)) : T Tryz.prog X n (.block id c) fr ow Q := T.block h
theorem zaF {c : Operand} {x y : Code} (hc : ev fr c = .b true) (h : T Tryz.prog X n x fr ow Q) : T Tryz.prog X n (.cond c x y) fr ow Q := T.cond hc (fun _ => h) (fun e => nomatch e)
theorem zat {c : Operand} {x y : Code} (hc : ev fr c = .b false) (h : T Tryz.prog X n y fr ow Q) : T Tryz.prog X n (.cond c x y) fr ow Q := T.cond hc (fun e => nomatch e) (fun _ => h)
theorem zaA {c : Operand} {x y : Code} {b : Bool} (hc : ev fr c = .b b) (h1 : b = true → T Tryz.prog X n x fr ow Q) (h2 : b = false → T Tryz.prog X n y fr ow Q) : T Tryz.prog X n (.cond c x y) fr ow Q := T.cond hc h1 h2
theorem zaj {id : Nat} {ops : List Oper} (h : CT Tryz.prog X n ops ops fr ow [] (fun fr ow _ => Nrm Q fr ow)) : T Tryz.prog X n (.region id ⟨ops⟩ false) fr ow Q := T.region h
theorem zaH {id : Nat} {ops : List Oper} (h : CT Tryz.prog X n ops ops fr ow [] (fun fr ow tr => flowOk ops tr = true ∧ Nrm Q fr ow)) : T Tryz.prog X n (.region id ⟨ops⟩ true) fr ow Q := T.draw mixed h
theorem zaL {K : Fr → Ow → List (List Nat × List Nat) → Prop} (h : K fr ow tr) : CT Tryz.prog X n all [] fr ow tr K := CT.nil h
theorem zav {dst : Option Tmp} {c : Bool} (hu : dstAt all g = some u) (hc : getD' u fr = .b c)
    (h1 : c = true → CT Tryz.prog X n all (⟨dst, op, ty, pos, af, some (g, want)⟩ :: rest) ((u, .b true) :: fr) ow tr K)
    (h2 : c = false → CT Tryz.prog X n all (⟨dst, op, ty, pos, af, some (g, want)⟩ :: rest) ((u, .b false) :: fr) ow tr K) :
    CT Tryz.prog X n all (⟨dst, op, ty, pos, af, some (g, want)⟩ :: rest) fr ow tr K := CT.split hu hc h1 h2

theorem zax {dst : Option Tmp} {c : Bool} (c' : Bool) (_hu : dstAt all g = some u) (_hc : getD' u fr = .b c) (_ : c = c') (h : CT Tryz.prog X n all (⟨dst, op, ty, pos, af, some (g, want)⟩ :: rest) fr ow tr K) : CT Tryz.prog X n all (⟨dst, op, ty, pos, af, some (g, want)⟩ :: rest) fr ow tr K := h

theorem zaN {dst : Option Tmp} (h : CT Tryz.prog X n all (⟨dst, op, ty, pos, af, some (g, want)⟩ :: rest) fr ow tr K) : CT Tryz.prog X n all (⟨dst, op, ty, pos, af, some (g, want)⟩ :: rest) fr ow tr K := h

theorem zad {dst : Option Tmp} {q : Prop} [Decidable q] (hu : dstAt all g = some u) (hc : getD' u fr = .b (decide q))
    (h1 : q → CT Tryz.prog X n all (⟨dst, op, ty, pos, af, some (g, want)⟩ :: rest) ((u, .b true) :: fr) ow tr K)
    (h2 : ¬ q → CT Tryz.prog X n all (⟨dst, op, ty, pos, af, some (g, want)⟩ :: rest) ((u, .b false) :: fr) ow tr K) :
    CT Tryz.prog X n all (⟨dst, op, ty, pos, af, some (g, want)⟩ :: rest) fr ow tr K := CT.split hu hc (fun h => h1 (of_decide_eq_true h)) (fun h => h2 (of_decide_eq_false h))
theorem zae {dst : Option Tmp} {a b : Int} (hu : dstAt all g = some u) (hc : getD' u fr = .b (a == b))
    (h1 : a = b → CT Tryz.prog X n all (⟨dst, op, ty, pos, af, some (g, want)⟩ :: rest) ((u, .b true) :: fr) ow tr K)
    (h2 : ¬ a = b → CT Tryz.prog X n all (⟨dst, op, ty, pos, af, some (g, want)⟩ :: rest) ((u, .b false) :: fr) ow tr K) :
    CT Tryz.prog X n all (⟨dst, op, ty, pos, af, some (g, want)⟩ :: rest) fr ow tr K := CT.split hu hc (fun h => h1 (by simpa using h)) (fun h => h2 (by simpa using h))
theorem zaf {dst : Option Tmp} {a b : Int} (hu : dstAt all g = some u) (hc : getD' u fr = .b (a != b))
    (h1 : ¬ a = b → CT Tryz.prog X n all (⟨dst, op, ty, pos, af, some (g, want)⟩ :: rest) ((u, .b true) :: fr) ow tr K)
    (h2 : a = b → CT Tryz.prog X n all (⟨dst, op, ty, pos, af, some (g, want)⟩ :: rest) ((u, .b false) :: fr) ow tr K) :
    CT Tryz.prog X n all (⟨dst, op, ty, pos, af, some (g, want)⟩ :: rest) fr ow tr K := CT.split hu hc (fun h => h1 (by simpa using h)) (fun h => h2 (by simpa using h))
theorem zac {dst : Option Tmp} {a b : List UInt8} (hu : dstAt all g = some u) (hc : getD' u fr = .b (a == b))
    (h1 : a = b → CT Tryz.prog X n all (⟨dst, op, ty, pos, af, some (g, want)⟩ :: rest) ((u, .b true) :: fr) ow tr K)
    (h2 : ¬ a = b → CT Tryz.prog X n all (⟨dst, op, ty, pos, af, some (g, want)⟩ :: rest) ((u, .b false) :: fr) ow tr K) :
    CT Tryz.prog X n all (⟨dst, op, ty, pos, af, some (g, want)⟩ :: rest) fr ow tr K := CT.split hu hc (fun h => h1 (by simpa using h)) (fun h => h2 (by simpa using h))
theorem zab {dst : Option Tmp} {c : Bool} (hu : dstAt all g = some u) (hc : getD' u fr = .b (!c))
    (h1 : c = false → CT Tryz.prog X n all (⟨dst, op, ty, pos, af, some (g, want)⟩ :: rest) ((u, .b true) :: fr) ow tr K)
    (h2 : c = true → CT Tryz.prog X n all (⟨dst, op, ty, pos, af, some (g, want)⟩ :: rest) ((u, .b false) :: fr) ow tr K) :
    CT Tryz.prog X n all (⟨dst, op, ty, pos, af, some (g, want)⟩ :: rest) fr ow tr K := CT.split hu hc (fun h => h1 (by simpa using h)) (fun h => h2 (by simpa using h))

theorem zal {c : Operand} {x y : Code} {q : Prop} [Decidable q] (hc : ev fr c = .b (decide q)) (h1 : q → T Tryz.prog X n x fr ow Q) (h2 : ¬ q → T Tryz.prog X n y fr ow Q) : T Tryz.prog X n (.cond c x y) fr ow Q :=
  T.cond hc (fun h => h1 (of_decide_eq_true h)) (fun h => h2 (of_decide_eq_false h))
theorem zan {c : Operand} {x y : Code} {a b : Int} (hc : ev fr c = .b (a == b)) (h1 : a = b → T Tryz.prog X n x fr ow Q) (h2 : ¬ a = b → T Tryz.prog X n y fr ow Q) : T Tryz.prog X n (.cond c x y) fr ow Q :=
  T.cond hc (fun h => h1 (by simpa using h)) (fun h => h2 (by simpa using h))
theorem zak {c : Operand} {x y : Code} {a b : Int} (hc : ev fr c = .b (a != b)) (h1 : ¬ a = b → T Tryz.prog X n x fr ow Q) (h2 : a = b → T Tryz.prog X n y fr ow Q) : T Tryz.prog X n (.cond c x y) fr ow Q :=
  T.cond hc (fun h => h1 (by simpa using h)) (fun h => h2 (by simpa using h))
theorem zam {c : Operand} {x y : Code} {a b : List UInt8} (hc : ev fr c = .b (a == b)) (h1 : a = b → T Tryz.prog X n x fr ow Q) (h2 : ¬ a = b → T Tryz.prog X n y fr ow Q) : T Tryz.prog X n (.cond c x y) fr ow Q :=
  T.cond hc (fun h => h1 (by simpa using h)) (fun h => h2 (by simpa using h))
theorem zap {c : Operand} {x y : Code} {b : Bool} (hc : ev fr c = .b (!b)) (h1 : b = false → T Tryz.prog X n x fr ow Q) (h2 : b = true → T Tryz.prog X n y fr ow Q) : T Tryz.prog X n (.cond c x y) fr ow Q :=
  T.cond hc (fun h => h1 (by simpa using h)) (fun h => h2 (by simpa using h))

theorem T.mono {c : Code} {Q' : Exit → Fr → Ow → Prop} (h : T Tryz.prog X n c fr ow Q) (hq : ∀ e fr ow, Q e fr ow → Q' e fr ow) : T Tryz.prog X n c fr ow Q' := fun a w hr =>
  (h a w hr).mono fun _ _ _ ⟨fr', ow', h1, h2⟩ => ⟨fr', ow', hq _ _ _ h1, h2⟩

theorem T.mid {ι : Type} {c s : Code} {Q' : Exit → Fr → Ow → Prop} (hL : Lent X) (mkF : ι → Fr) (mkO : ι → Ow) (I : ι → Prop) (hK : ∀ z, I z → T Tryz.prog X n s (mkF z) (mkO z) Q')
    (h : T Tryz.prog X n c fr ow (thenQ (fun fr ow => ∃ z, I z ∧ Le X fr ow (mkF z) (mkO z)) Q)) : T Tryz.prog X n c fr ow (thenQ (fun fr ow => T Tryz.prog X n s fr ow Q') Q) :=
  h.mono fun e fr ow hq => by
    cases e with
    | normal =>
      obtain ⟨z, hz, hle⟩ := (show ∃ z, I z ∧ Le X fr ow (mkF z) (mkO z) from hq)
      exact show T Tryz.prog X n s fr ow Q' from fun a w hr => hK z hz a w (hr.le hle hL)
    | _ => exact hq

theorem zly {ι : Type} (id : Nat) {ops : Array Oper} {dr : Bool} {c s : Code} {Q' : Exit → Fr → Ow → Prop} (hL : Lent X) (mkF : ι → Fr) (mkO : ι → Ow) (I : ι → Prop)
    (h : T Tryz.prog X n (.seq (.region id ops dr) c) fr ow (thenQ (fun fr ow => ∃ z, I z ∧ Le X fr ow (mkF z) (mkO z)) Q)) (hK : ∀ z, I z → T Tryz.prog X n s (mkF z) (mkO z) Q') :
    T Tryz.prog X n (.seq (.region id ops dr) c) fr ow (thenQ (fun fr ow => T Tryz.prog X n s fr ow Q') Q) := T.mid hL mkF mkO I hK h

theorem zcQ {d : D} (h : d.free = true) (ks : List Nat) : d.okIn ks = true := by
  cases d with
  | fn f cs =>
    have h : cs.all D.free1 = true := h
    show cs.all (D.okI1 ks) = true
    rw [List.all_eq_true] at h ⊢
    intro c hc
    have := h c hc
    cases c <;> first | exact this | rfl | (simp [D.free1, D.plain] at this)
  | _ => first | exact h | (simp [D.free] at h)

theorem T.monoF {c : Code} {Q' : Exit → Fr → Ow → Prop} (h : T Tryz.prog X n c fr ow Q) (hq : ∀ e fr ow, Q e fr ow → ∃ fr' ow', Frz fr ow fr' ow' ∧ Q' e fr' ow') : T Tryz.prog X n c fr ow Q' := fun a w hr =>
  (h a w hr).mono fun e _ _ ⟨fr', ow', h1, h2⟩ => by
    obtain ⟨fr2, ow2, h3, h4⟩ := hq e fr' ow' h1
    exact ⟨fr2, ow2, h4, h2.frz h3⟩

def Ends (rs : List ResultVar) (d : D) (e : Exit) (fr : Fr) (ow : Ow) : Prop :=
  match e with
  | .ret | .normal => ∃ fr' ow' d2, Frz fr ow fr' ow' ∧ resD B fr' ow' rs = some d2 ∧ Weak d2 d
  | _ => False

theorem zaQ {rs : List ResultVar} {d d2 : D} (h : resD B fr ow rs = some d2) (he : d2 = d) : Rtn (Ends rs d) fr ow := ⟨fr, ow, d2, .refl .., h, .of_eq he⟩
theorem zaT {rs : List ResultVar} {d d2 : D} (h : resD B fr ow rs = some d2) (he : d2 = d) : Nrm (Ends rs d) fr ow := ⟨fr, ow, d2, .refl .., h, .of_eq he⟩
theorem zcV {rs : List ResultVar} {d d2 : D} (h : resD B fr ow rs = some d2) (he : Weak d2 d) : Rtn (Ends rs d) fr ow := ⟨fr, ow, d2, .refl .., h, he⟩
theorem zdl {rs : List ResultVar} {d d2 : D} (h : resD B fr ow rs = some d2) (he : Weak d2 d) : Nrm (Ends rs d) fr ow := ⟨fr, ow, d2, .refl .., h, he⟩
theorem x_endF {rs : List ResultVar} {d d2 : D} {e z L : Nat} {f : Nat → List D} (ts : List Nat) (k : Nat) (hk : look k ow = some (.arr e z L f)) (ht : allAh fr k z L ts) (h : resD B (setAll ts (.gs k z L f) fr) ((k, .row e z L) :: ow) rs = some d2) (he : Weak d2 d) : Rtn (Ends rs d) fr ow :=
  ⟨_, _, d2, .freeze _ _ _ _ ts k e z L f hk ht (.refl ..), h, he⟩
theorem n_endF {rs : List ResultVar} {d d2 : D} {e z L : Nat} {f : Nat → List D} (ts : List Nat) (k : Nat) (hk : look k ow = some (.arr e z L f)) (ht : allAh fr k z L ts) (h : resD B (setAll ts (.gs k z L f) fr) ((k, .row e z L) :: ow) rs = some d2) (he : Weak d2 d) : Nrm (Ends rs d) fr ow :=
  ⟨_, _, d2, .freeze _ _ _ _ ts k e z L f hk ht (.refl ..), h, he⟩

theorem zbe {f : FuncId} {fn : Func} {c : Code} {N : Nat} {rs : List ResultVar} {args : List D} {d : D} (hf : Tryz.prog.funcs[f]? = some fn) (hb : fn.body = some c) (hN : fn.ntmps = N) (hrs : fn.results = ⟨rs⟩) (hlen : Nat.ble args.length N = true) (hd : d.free = true)
    (h : ∀ X : Ctx, Lent X → X.ids = [] → T Tryz.prog X N c (slots 0 args) [] (Ends rs d)) : Ctr Tryz.prog f args d := by
  refine Ctr.of (ow' := []) (CtrO.of_T hf hb hN hrs (by simpa using hlen) fun X hL hi => (h X hL hi).monoF fun e fr2 ow2 hq => ?_) hd
  have key : ∀ fr3 ow3 d2, resD B fr3 ow3 rs = some d2 → Weak d2 d → ∃ d2, resD (tb Tryz.prog) fr3 ow3 rs = some d2 ∧ Weak d2 d ∧ d.okIn (([] : Ow).map (·.1)) = true ∧ Le X fr3 ow3 [] [] := by
    intro fr3 ow3 d2 h1 h2
    refine ⟨d2, by rw [zch]; exact h1, h2, zcQ hd _, trivial, trivial, rfl, fun k hk => ?_⟩
    rw [hi] at hk
    cases hk
  cases e with
  | ret => obtain ⟨fr3, ow3, d2, h0, h1, h2⟩ := hq; exact ⟨fr3, ow3, h0, .inl rfl, key _ _ d2 h1 h2⟩
  | normal => obtain ⟨fr3, ow3, d2, h0, h1, h2⟩ := hq; exact ⟨fr3, ow3, h0, .inr rfl, key _ _ d2 h1 h2⟩
  | _ => exact hq.elim

def EndsN (rs : List ResultVar) (k : Nat) (el : TypeId) (z L : Nat) (g : Nat → List D) (e : Exit) (fr : Fr) (ow : Ow) : Prop :=
  match e with
  | .ret | .normal => ∃ fr' ow' L2 g2, Frz fr ow fr' ow' ∧ resD B fr' ow' rs = some (.ah k z L2) ∧ look k ow' = some (.arr el z L2 g2) ∧ L2 = L ∧ ∀ i, i < L → g2 i = g i
  | _ => False

theorem r_new {f : FuncId} {fn : Func} {c : Code} {N : Nat} {rs : List ResultVar} {args : List D} {z L : Nat} {el : TypeId} {g : Nat → List D} (k : Nat) (hf : Tryz.prog.funcs[f]? = some fn) (hb : fn.body = some c) (hN : fn.ntmps = N) (hrs : fn.results = ⟨rs⟩) (hlen : Nat.ble args.length N = true)
    (h : ∀ X : Ctx, Lent X → X.ids = [] → T Tryz.prog X N c (slots 0 args) [] (EndsN rs k el z L g)) : CtrO Tryz.prog f args [] (.ah k z L) [(k, .arr el z L g)] := by
  refine CtrO.of_T hf hb hN hrs (by simpa using hlen) fun X hL hi => (h X hL hi).monoF fun e fr2 ow2 hq => ?_
  have key : ∀ fr3 ow3 L2 g2, resD B fr3 ow3 rs = some (.ah k z L2) → look k ow3 = some (.arr el z L2 g2) → L2 = L → (∀ i, i < L → g2 i = g i) →
      ∃ d2, resD (tb Tryz.prog) fr3 ow3 rs = some d2 ∧ Weak d2 (.ah k z L) ∧ (D.ah k z L).okIn (([(k, .arr el z L g)] : Ow).map (·.1)) = true ∧ Le X fr3 ow3 [] [(k, .arr el z L g)] := by
    intro fr3 ow3 L2 g2 h1 h2 h3 h4
    subst h3
    exact ⟨_, by rw [zch]; exact h1, .refl _, by simp [D.okIn, memB], trivial, ⟨⟨_, _, h2, rfl, fun i hi => .inl (h4 i hi)⟩, trivial⟩, rfl, fun j hj => by rw [hi] at hj; cases hj⟩
  cases e with
  | ret => obtain ⟨fr3, ow3, L2, g2, h0, h1, h2, h3, h4⟩ := hq; exact ⟨fr3, ow3, h0, .inl rfl, key _ _ L2 g2 h1 h2 h3 h4⟩
  | normal => obtain ⟨fr3, ow3, L2, g2, h0, h1, h2, h3, h4⟩ := hq; exact ⟨fr3, ow3, h0, .inr rfl, key _ _ L2 g2 h1 h2 h3 h4⟩
  | _ => exact hq.elim
end

attribute [irreducible] Nrm Rtn Exi

end Go.Proofs.YtcajofhafpkbdaaGreatDoor.Flow

namespace Go.Proofs.YtcajofhafpkbdaaGreatDoor.Flow

def unsub (k : Nat) : D → D
  | .pv j o => match Nat.beq j k with
    | true => .pv 0 o
    | false => .pv (j + 1) o
  | d => d.shut

def okA : D → Bool
  | .pv 0 _ => true
  | d => d.free

section
variable {P : Program} {X : Ctx} {n : Nat} {fr : Fr} {ow : Ow} {d : D}

theorem zpl {o : Oper} {f : FuncId} {args : List D} {k : Nat} {cs cs' : List D} (hP : ∀ vs w, (callFunc f vs).run P w = .ok (.enter f vs) w) (hc : callOf fr o.op = some (f, args)) (hk : look k ow = some (.var cs))
    (hok : (args.map (unsub k)).all okA = true) (hf1 : cs.all D.free = true) (hf2 : cs'.all D.free = true) (hf3 : d.free = true)
    (hC : CtrO P f (args.map (unsub k)) [(0, .var cs)] d [(0, .var cs')]) (hd : dstOk o.dst n) :
    ∀ F' O', (∀ x ∈ o.op.operands.toList, evF F' x = evF (fF fr) x) → (∀ j ∈ [k], O' j = fO ow j) → StepAt P X n o F' O' d [(k, .var cs')] := by
  intro F' O' he hO a w K' Q' ⟨S, r, hH, hI, hF, hdf, hn, hρ⟩ hK
  obtain ⟨vs, hrun, hsz, hrel⟩ := zbB hP hc he (fun x => zbK hH.glob hF x)
  have hOk : O' k = some (.var cs) := (hO k (by simp)).trans hk
  have hobj := hI.obj k _ hOk
  obtain ⟨b, cur, e0, hb, hheap, hsz0, hcells, hfree⟩ := hobj
  have getFree : ∀ (l : List D), l.all D.free = true → ∀ j, j < l.length → (l.getD j .any).free = true := fun l hl j hj => by
    rw [List.all_eq_true] at hl
    refine hl _ ?_
    simp only [List.getD_eq_getElem?_getD, List.getElem?_eq_getElem hj, Option.getD_some]
    exact List.getElem_mem hj
  have hblt : b < w.heap.size := (Array.getElem?_eq_some_iff.1 hheap).1
  let X' : Ctx := { w0 := w, S0 := S, L := fun b' => b' = b, r0 := fun j => if j = 0 then some (.blk b) else none, ids := [0] }
  have hH' : Hist X' w S := ⟨rfl, rfl, rfl, Nat.le_refl _, fun _ _ _ => rfl, fun _ _ h => h, fun _ _ _ => rfl, fun _ _ h => .inl h, hH.valid, hH.glob⟩
  have hI' : Inv X' w S X'.r0 (fO [(0, .var cs)]) := by
    refine ⟨fun j ob hj => ?_, fun j hj => ?_, fun i j l l' b' hij hl hl' hb' => ?_, fun j l b' hl hb' => ?_⟩
    · have hj0 : j = 0 ∧ ob = .var cs := by
        rw [zaW] at hj
        have hj : (if j = 0 then some (Own.var cs) else fO [] j) = some ob := hj
        by_cases e : j = 0
        · rw [if_pos e] at hj
          exact ⟨e, (Option.some.inj hj).symm⟩
        · rw [if_neg e] at hj
          cases hj
      obtain ⟨rfl, rfl⟩ := hj0
      exact ⟨b, cur, e0, rfl, hheap, hsz0, fun j hj => ⟨(hcells j hj).1.free (getFree cs hf1 j hj) _, (hcells j hj).2⟩, hfree⟩
    · show (if j = 0 then some (Loc.blk b) else none) = none
      rw [if_neg]
      intro e
      subst e
      cases hj
    · have hl : (if i = 0 then some (Loc.blk b) else none) = some l := hl
      have hl' : (if j = 0 then some (Loc.blk b) else none) = some l' := hl'
      by_cases e : i = 0
      · by_cases e' : j = 0
        · omega
        · rw [if_neg e'] at hl'; cases hl'
      · rw [if_neg e] at hl; cases hl
    · have hl : (if j = 0 then some (Loc.blk b) else none) = some l := hl
      by_cases e : j = 0
      · rw [if_pos e] at hl
        cases hl
        exact .inr (Option.some.inj hb').symm
      · rw [if_neg e] at hl; cases hl
  have hrel' : ∀ j, j < (args.map (unsub k)).length → Rel S w X'.r0 ((args.map (unsub k)).getD j .any) (vs.getD j undef) := by
    intro j hj
    have hj' : j < args.length := by simpa using hj
    have e : (args.map (unsub k)).getD j .any = unsub k (args.getD j .any) := by simp [List.getD_eq_getElem?_getD, hj']
    have hokj : okA (unsub k (args.getD j .any)) = true := by
      rw [← e]
      rw [List.all_eq_true] at hok
      refine hok _ ?_
      simp only [List.getD_eq_getElem?_getD, List.getElem?_eq_getElem hj, Option.getD_some]
      exact List.getElem_mem hj
    rw [e]
    have hr := hrel j hj'
    generalize args.getD j .any = dj at hr hokj
    generalize vs.getD j undef = vj at hr
    by_cases hpv : ∃ i off, dj = .pv i off
    · obtain ⟨i, off, rfl⟩ := hpv
      simp only [unsub] at hokj ⊢
      cases hbq : Nat.beq i k with
      | true =>
        have := Nat.eq_of_beq_eq_true hbq
        subst this
        cases hr with
        | pv _ _ _ b2 hb2 =>
          rw [hb] at hb2
          cases hb2
          exact .pv _ 0 off b rfl
      | false =>
        rw [hbq] at hokj
        simp [okA, D.free] at hokj
    · have hu : unsub k dj = dj.shut := by
        cases dj <;> first | rfl | exact absurd ⟨_, _, rfl⟩ hpv
      rw [hu] at hokj ⊢
      refine hr.shut.free ?_ _
      cases dj <;> first | exact hokj | exact absurd ⟨_, _, rfl⟩ hpv
  refine OW.enter hrun ((hC X' vs rfl hH' hI' (by simpa using hsz) hrel').mono ?_)
  rintro e w' ⟨v, S', r', rfl, g1, g2, g3, g4⟩
  obtain ⟨l', hl', hle'⟩ := g4 0 (.blk b) rfl
  obtain ⟨b2, cur', e', q1, q2, q3, q4, q5⟩ := g3.obj 0 (.var cs') rfl
  have hb2 : b2 = b := by
    rw [q1] at hl'
    cases hl'
    exact hle'.symm
  subst hb2
  have hch : Chg w w' S (some b2) := ⟨g2.os, g2.tape, g2.output, g2.size, fun j hj hne => g2.block j hj (fun (h : j = b2) => hne (by rw [h])), g2.cell⟩
  have hnew : ∀ b' o, S' b' o → S b' o ∨ w.heap.size ≤ b' := fun b' o hb' => by
    rcases g2.new b' o hb' with h | h | h
    · exact .inl h
    · exact .inr h
    · have h : b' = b2 := h
      subst h
      exact absurd hb' (q5 o)
  refine hK v w' ⟨S', r, ?_, ?_, zbW (fun t => (hF t).mono g2.sub g2.cell r (RhoLe.refl r)) (hn ▸ hd) (g1.free hf3 r), by rw [zbo]; exact hdf, by rw [zbF]; exact hn, hρ⟩
  · refine hH.chg hch (fun b' hb' => by cases hb'; exact hI.low k _ b2 hb rfl) g2.sub (fun b' o hb' => ?_)
    rcases hnew b' o hb' with h | h
    · exact .inl h
    · exact .inr ⟨.inl (Nat.le_trans hH.size h), g2.valid b' o hb'⟩
  · refine hI.put hch g2.sub (RhoLe.refl r) k (.var cs') (.blk b2) ?_ hb (fun _ _ => rfl) (fun b' hb' => .inr ⟨_, hb, hb'⟩) (fun b' hb' => ⟨_, hb, by cases hb'; rfl⟩) (fun b' o h => ?_)
    · exact ⟨b2, cur', e', hb, q2, q3, fun j hj => ⟨(q4 j hj).1.free (getFree cs' hf2 j hj) r, (q4 j hj).2⟩, q5⟩
    · rcases hnew b' o h with h | h
      · exact .inl h
      · exact .inr (.inr h)
end

section
variable {X : Ctx} {n : Nat} {all rest : List Oper} {fr : Fr} {ow : Ow} {tr : List (List Nat × List Nat)} {K : Fr → Ow → List (List Nat × List Nat) → Prop} {Q : Exit → Fr → Ow → Prop}
variable {t : Nat} {op : Op} {ty : TypeId} {pos : String} {af : Array Edge} {d : D} {g u : Nat} {want : Bool} {k : Nat} {cs cs' : List D} {f : FuncId} {args : List D}

def EndsO (rs : List ResultVar) (d : D) (cs : List D) (e : Exit) (fr : Fr) (ow : Ow) : Prop :=
  match e with
  | .ret | .normal => ∃ d2 cs2, resD B fr ow rs = some d2 ∧ look 0 ow = some (.var cs2) ∧ Weak d2 d ∧ cs2 = cs
  | _ => False

theorem r_meth {fn : Func} {c : Code} {N : Nat} {rs : List ResultVar} (hf : Tryz.prog.funcs[f]? = some fn) (hb : fn.body = some c) (hN : fn.ntmps = N) (hrs : fn.results = ⟨rs⟩) (hlen : Nat.ble args.length N = true) (hd : d.free = true) (hcs : cs'.all D.free = true)
    (h : ∀ X : Ctx, Lent X → X.ids = [0] → T Tryz.prog X N c (slots 0 args) [(0, .var cs)] (EndsO rs d cs')) : CtrO Tryz.prog f args [(0, .var cs)] d [(0, .var cs')] := by
  refine CtrO.of_T hf hb hN hrs (by simpa using hlen) fun X hL hi => (h X hL hi).mono fun e fr2 ow2 hq => ?_
  have key : ∀ d2 cs2, resD B fr2 ow2 rs = some d2 → look 0 ow2 = some (.var cs2) → Weak d2 d → cs2 = cs' →
      ∃ d2, resD (tb Tryz.prog) fr2 ow2 rs = some d2 ∧ Weak d2 d ∧ d.okIn (([(0, .var cs')] : Ow).map (·.1)) = true ∧ Le X fr2 ow2 [] [(0, .var cs')] := by
    intro d2 cs2 h1 h2 h3 h4
    subst h4
    refine ⟨d2, by rw [zch]; exact h1, h3, zcQ hd _, trivial, ⟨h2, trivial⟩, ?_, fun k hk => ?_⟩
    · simp only [okAll, List.all_nil, List.all_cons, Own.okIn, Bool.true_and, Bool.and_true]
      rw [List.all_eq_true] at hcs ⊢
      exact fun x hx => zcQ (hcs x hx) _
    · rw [hi] at hk
      simpa using hk
  cases e with
  | ret => obtain ⟨d2, cs2, h1, h2, h3, h4⟩ := hq; exact ⟨.inl rfl, key d2 cs2 h1 h2 h3 h4⟩
  | normal => obtain ⟨d2, cs2, h1, h2, h3, h4⟩ := hq; exact ⟨.inr rfl, key d2 cs2 h1 h2 h3 h4⟩
  | _ => exact hq.elim
end
end Go.Proofs.YtcajofhafpkbdaaGreatDoor.Flow

namespace Go.Proofs.YtcajofhafpkbdaaGreatDoor.Flow
open Go

def scanO (step : Nat → Int → Option Int) (len B : Nat) (i : Nat) (n : Int) : Option Int :=
  if _h : i < len ∧ i < B then match step i n with
    | none => none
    | some m => scanO step len B (i + 1) m
  else some n
termination_by B - i
decreasing_by omega

theorem zcY {step : Nat → Int → Option Int} {len B i : Nat} {n m : Int} (h : i < len) (h2 : i < B) (h3 : step i n = some m) : scanO step len B i n = scanO step len B (i + 1) m := by
  conv => lhs; unfold scanO
  rw [dif_pos ⟨h, h2⟩, h3]
theorem zfM {step : Nat → Int → Option Int} {len B i : Nat} {n : Int} (h : i < len) (h2 : i < B) (h3 : step i n = none) : scanO step len B i n = none := by
  conv => lhs; unfold scanO
  rw [dif_pos ⟨h, h2⟩, h3]
theorem zdM {step : Nat → Int → Option Int} {len B i : Nat} {n : Int} (h : i < len → ¬ i < B) : scanO step len B i n = some n := by
  unfold scanO
  rw [dif_neg (fun x => h x.1 x.2)]

def idxI (n : List UInt8) : List (List UInt8) → Int
  | [] => -1
  | a :: r => if a = n then 0 else if idxI n r < 0 then -1 else idxI n r + 1

abbrev Txt := List UInt8
abbrev Fld := Txt × Txt
abbrev Vec := Txt × List Fld

def fldF (l : List Fld) : Nat → List D := fun i => [.s (l.getD i ([], [])).1, .s (l.getD i ([], [])).2]
def vecF (a : List Vec) : Nat → List D := fun i => [.s (a.getD i ([], [])).1, .sl 2 (a.getD i ([], [])).2.length (fldF (a.getD i ([], [])).2)]

def smallF (l : List Fld) : Prop := l.length ≤ 1048576 ∧ ∀ i, (l.getD i ([], [])).1.length ≤ 1048576 ∧ (l.getD i ([], [])).2.length ≤ 1048576
def smallV (a : List Vec) : Prop := a.length ≤ 1048576 ∧ ∀ i, (a.getD i ([], [])).1.length ≤ 1048576 ∧ smallF (a.getD i ([], [])).2

def fldW (l : List Fld) (k : Nat) (n : Int) : Option Int := some (n + 1 + ((l.getD k ([], [])).1.length : Int) + ((l.getD k ([], [])).2.length : Int))
def muchV1 (a : List Vec) (i : Nat) (n : Int) : Option Int :=
  match scanO (fldW (a.getD i ([], [])).2) (a.getD i ([], [])).2.length 30 0 n with
  | none => none
  | some m => if m > 1000 ∨ (a.getD i ([], [])).2.length > 25 then none else some m
def muchV (a : List Vec) : Bool :=
  match scanO (muchV1 a) a.length 30 0 0 with
  | none => true
  | some _ => decide (a.length > 25)

end Go.Proofs.YtcajofhafpkbdaaGreatDoor.Flow
