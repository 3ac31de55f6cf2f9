/- The texts FlowPe, FlowPf, FlowRo, FlowRp, FlowRq, FlowXb, FlowRr, FlowXd, FlowXe, G12, one behind the other. -/
import Derived.Test.YtcajofhafpkbdaaGreatDoorCT11
import Derived.Test.YtcajofhafpkbdaaGreatDoorCT14
import Derived.Test.YtcajofhafpkbdaaGreatDoorCT15
import Derived.Test.YtcajofhafpkbdaaGreatDoorCT16
import Derived.RangeFuncRecord
import Derived.RangeFuncIn
import Derived.RangeFuncLeaves
import Derived.RangeFuncSeq
import Derived.Shelf.Spec.SlicesGrow
namespace Go.Proofs.YtcajofhafpkbdaaGreatDoor.Flow
section
variable {P : Program} {X : Ctx} {n : Nat} {o : Oper} {fr : Fr} {ow : Ow} {T xT : TypeId} {x : Operand} {k1 k2 : IntKind} {a b : Int} {fs : Array Field} {zd : D}
theorem ziz (hT : P.underlying T = some (.struct fs)) (ho : o.op = .typeAssert x xT T true) (hx : ev fr x = .v (.iface T (.agg #[.int k1 a, .int k2 b]))) (hd : dstOk o.dst n) :
    ∀ F' O', (∀ y ∈ o.op.operands.toList, evF F' y = evF (fF fr) y) → (∀ j ∈ ([] : List Nat), O' j = fO ow j) → StepAt P X n o F' O' (.tu [.ag [.i k1 a, .i k2 b], .b true]) [] := by
  intro F' O' he _
  refine zas hd fun ac w S r hH hI hr => ?_
  have hx' := hr x
  rw [he x (by simp [ho, Op.operands]), zaT, hx] at hx'
  refine ⟨.tuple #[.agg #[.int k1 a, .int k2 b], .bool true], w, S, r, .inl ?_, .tu _ _ _ rfl fun j hj => ?_, hH, hI, fun _ _ h => h, fun _ _ _ => rfl, RhoLe.refl r⟩
  · generalize hv : ac.eval x = v at hx'
    cases hx'
    simp [execOp, ho, hv, Instr.typeAssert, run_underlying hT, Result.andThen]
  · match j, hj with
    | 0, _ => exact .ag _ _ _ rfl fun j hj => match j, hj with
      | 0, _ => .i ..
      | 1, _ => .i ..
    | 1, _ => exact .b ..
theorem zjx (hT : P.underlying T = some (.struct fs)) (hz : zeroD P T = some zd) (ho : o.op = .typeAssert x xT T true) (hx : ev fr x = .v .nilIface) (hd : dstOk o.dst n) :
    ∀ F' O', (∀ y ∈ o.op.operands.toList, evF F' y = evF (fF fr) y) → (∀ j ∈ ([] : List Nat), O' j = fO ow j) → StepAt P X n o F' O' (.tu [zd, .b false]) [] := by
  intro F' O' he _
  refine zas hd fun ac w S r hH hI hr => ?_
  have hx' := hr x
  rw [he x (by simp [ho, Op.operands]), zaT, hx] at hx'
  obtain ⟨i, zv, q1, q2, q3⟩ := zbg hz
  refine ⟨.tuple #[zv, .bool false], w, S, r, .inl ?_, .tu _ _ _ rfl fun j hj => ?_, hH, hI, fun _ _ h => h, fun _ _ _ => rfl, RhoLe.refl r⟩
  · generalize hv : ac.eval x = v at hx'
    cases hx'
    simp [execOp, ho, hv, Instr.typeAssert, run_underlying hT, Result.andThen, zeroValue, typeInfo, q1, q2]
  · match j, hj with
    | 0, _ =>
      have := zbq S w r zv
      rw [← q3] at this
      exact this
    | 1, _ => exact .b ..
end
section
variable {X : Ctx} {n : Nat} {all rest : List Oper} {fr : Fr} {ow : Ow} {tr : List (List Nat × List Nat)} {K : Fr → Ow → List (List Nat × List Nat) → Prop}
variable {t : Nat} {ty T xT : TypeId} {ps : String} {af : Array Edge} {x : Operand} {k1 k2 : IntKind} {a b : Int} {fs : Array Field} {zd : D}
set_option maxRecDepth 100000 in
theorem zor (hT : Tryz.prog.underlying T = some (.struct fs)) (hx : ev fr x = .v (.iface T (.agg #[.int k1 a, .int k2 b]))) (hn : Nat.blt t n = true)
    (h : CT Tryz.prog X n all rest ((t, .tu [.ag [.i k1 a, .i k2 b], .b true]) :: fr) ow (tr ++ [([], [])]) K) : CT Tryz.prog X n all (⟨some t, .typeAssert x xT T true, ty, ps, af, none⟩ :: rest) fr ow tr K :=
  CT.cons (e := ⟨.tu [.ag [.i k1 a, .i k2 b], .b true], [], []⟩) (.plain rfl (ziz (P := Tryz.prog) (X := X) (o := ⟨some t, .typeAssert x xT T true, ty, ps, af, none⟩) hT rfl hx (show t < n from Nat.le_of_ble_eq_true hn))) (zaF ..) rfl h
set_option maxRecDepth 100000 in
theorem zok (hT : Tryz.prog.underlying T = some (.struct fs)) (hz : B.zr T = some zd) (hx : ev fr x = .v .nilIface) (hn : Nat.blt t n = true)
    (h : CT Tryz.prog X n all rest ((t, .tu [zd, .b false]) :: fr) ow (tr ++ [([], [])]) K) : CT Tryz.prog X n all (⟨some t, .typeAssert x xT T true, ty, ps, af, none⟩ :: rest) fr ow tr K := by
  have hz' : zeroD Tryz.prog T = some zd := by
    have : (tb Tryz.prog).zr T = some zd := by rw [zct]; exact hz
    exact this
  exact CT.cons (e := ⟨.tu [zd, .b false], [], []⟩) (.plain rfl (zjx (P := Tryz.prog) (X := X) (o := ⟨some t, .typeAssert x xT T true, ty, ps, af, none⟩) hT hz' rfl hx (show t < n from Nat.le_of_ble_eq_true hn))) (zaF ..) rfl h
end
section
variable {X : Ctx} {n : Nat} {fr : Fr} {ow : Ow} {Q : Exit → Fr → Ow → Prop} {R : Exit → Act → World → Prop}
end
end Go.Proofs.YtcajofhafpkbdaaGreatDoor.Flow

namespace Go.Proofs.YtcajofhafpkbdaaGreatDoor.Flow
section
variable {X : Ctx} {n : Nat} {fr : Fr} {ow : Ow}
def Fin (X : Ctx) (d : D) (e : Ending) (w' : World) : Prop := ∃ v S', e = .returned v ∧ Rel S' w' noRho d v ∧ Hist X w' S'
def Raw (X : Ctx) (n : Nat) (R : Exit → Act → World → Prop) (e : Exit) (fr : Fr) (ow : Ow) : Prop := ∀ a w, Rep X n (fF fr) (fO ow) a w → R e a w
theorem ztr {R : Exit → Act → World → Prop} (h : Stay (∀ a w, Rep X n (fF fr) (fO ow) a w → R .normal a w)) : Nrm (Raw X n R) fr ow := by
  unfold Nrm
  exact h.out
theorem zts {R : Exit → Act → World → Prop} (h : Stay (∀ a w, Rep X n (fF fr) (fO ow) a w → R .ret a w)) : Rtn (Raw X n R) fr ow := by
  unfold Rtn
  exact h.out
theorem ztV {pv : Value} {R : Exit → Act → World → Prop} (h : Stay (∀ a w, Rep X n (fF fr) (fO ow) a w → R (.panic (pchain pv)) a w)) : Pnc pv (Raw X n R) fr ow := by
  unfold Pnc
  exact h.out
theorem zcK {x y : Code} {R : Exit → Act → World → Prop} (h : T Tryz.prog X n x fr ow (thenQ (fun fr ow => TD Tryz.prog X n y fr ow R) (Raw X n R))) : TD Tryz.prog X n (.seq x y) fr ow R := TD.seq h
theorem zkL {c : Code} {R : Exit → Act → World → Prop} (h : T Tryz.prog X n c fr ow (Raw X n R)) : TD Tryz.prog X n c fr ow R := TD.last h
theorem zhL {id t : Nat} {f : FuncId} (ks : List Nat) {xs : List Operand} {ty1 ty2 : TypeId} {p1 p2 : String} {af1 af2 : Array Edge} {rest : Code} {R : Exit → Act → World → Prop}
    (hdf : X.dfs = []) (hr0 : X.r0 = noRho) (ht : Nat.blt t n = true) (hxs : xs.map (ev fr) = ks.map fun k => D.pv k 0)
    (h : ∀ X1 vs, Put X X1 f ks vs → TD Tryz.prog X1 n rest ((t, .fn f (ks.map fun k => .pv k 0)) :: fr) ow R) :
    TD Tryz.prog X n (.seq (.region id ⟨[⟨some t, .makeFunc (.func f) #[] ⟨xs⟩, ty1, p1, af1, none⟩, ⟨none, .defer ⟨.value (.tmp t), #[], #[]⟩, ty2, p2, af2, none⟩]⟩ false) rest) fr ow R :=
  TD.defer hdf hr0 (Nat.le_of_ble_eq_true ht) hxs h
theorem znD {fn : Func} {rs : List ResultVar} {d d2 : D} {a : Act} {w : World} (hdf : X.dfs = []) (hrep : Rep X n (fF fr) (fO ow) a w) (hrs : fn.results = ⟨rs⟩) (hres : resD B fr ow rs = some d2) (hw : Weak d2 d) (hd : d.free = true) :
    Leaves Tryz.prog fn a.tmps (Fin X d) a.defers .returning w := by
  obtain ⟨S, r, hH, hI, hF, hdfs, hn, hρ⟩ := hrep
  rw [hdfs, hdf]
  obtain ⟨v, hv, hvr⟩ := zdN (P := Tryz.prog) (fn := fn) (a := a) hrs hI hF (by rw [zct]; exact hres)
  exact ⟨v, hv, v, S, rfl, (hvr.weak hw).free hd noRho, hH⟩
theorem zte {f : FuncId} {fn : Func} {c : Code} {N : Nat} {args : List D} {d : D} (hf : Tryz.prog.funcs[f]? = some fn) (hb : fn.body = some c) (hN : fn.ntmps = N) (hlen : Nat.ble args.length N = true)
    (h : ∀ X : Ctx, Lent X → X.ids = [] → X.dfs = [] → X.r0 = noRho → TD Tryz.prog X N c (slots 0 args) [] (bodyPostD Tryz.prog fn (Fin X d))) : Ctr Tryz.prog f args d := by
  intro w S vs hv hgl hn hr
  let X : Ctx := { w0 := w, S0 := S, L := fun _ => False }
  have hrep : Rep X N (fF (slots 0 args)) (fO []) { tmps := vs ++ Array.replicate (fn.ntmps - vs.size) undef, defers := [] } w := by
    have hlen' : args.length ≤ N := by simpa using hlen
    refine ⟨S, noRho, zhr w S _ hv hgl, zhw _ _ _, fun t => ?_, rfl, by simp; omega, RhoLe.refl _⟩
    show Rel _ _ _ (getD' t (slots 0 args)) _
    rw [zbN]
    simp only [Nat.zero_le, if_true, Nat.sub_zero]
    by_cases ht : t < args.length
    · have := hr t ht
      rw [Array.getD_eq_getD_getElem?, Array.getElem?_append_left (by omega), ← Array.getD_eq_getD_getElem?]
      exact this
    · rw [List.getD_eq_getElem?_getD, List.getElem?_eq_none (by omega)]
      exact .any ..
  exact calls_of_wp_defers hf hb ((h X (fun k hk => absurd rfl hk) rfl rfl rfl).out _ w hrep)
theorem zkj {X1 : Ctx} {f : FuncId} {fn : Func} {ks : List Nat} {vs : Array Value} {lo lo' : Ow} {u u' : FrameMode} {rs : List ResultVar} {d d2 : D} {a : Act} {w : World} (hput : Put X X1 f ks vs)
    (hP : ∀ vs w, (callFunc f vs).run Tryz.prog w = .ok (.enter f vs) w) (hC : CtrD Tryz.prog f (ks.map fun k => .pv k 0) lo u lo' u') (hrun : u ≠ .run) (hset : settle u' = .returning)
    (hk : hasAll (fun k => look k ow) lo) (hi1 : lo.map (·.1) = ks) (hi2 : lo'.map (·.1) = ks) (hnd : ks.Nodup) (hf1 : lo.all (fun x => x.2.okIn ks) = true) (hf2 : lo'.all (fun x => x.2.okIn ks) = true)
    (hrep : Rep X1 n (fF fr) (fO ow) a w) (hrs : fn.results = ⟨rs⟩) (ow2 : Ow) (how : fO ow2 = updO (fO ow) lo') (hres : resD B fr ow2 rs = some d2) (hw : Weak d2 d) (hd : d.free = true) :
    Leaves Tryz.prog fn a.tmps (Fin X d) a.defers u w :=
  zpn hput hP hC hrun hset hk hi1 hi2 hnd hf1 hf2 hrep hrs how (by rw [zct]; exact hres) hw hd
theorem zgM {id : Nat} {t : Nat} {ty : TypeId} {pos : String} {af : Array Edge} {rest : List Oper} {y : Code} {cs : List Frame} (cs' : List Frame) (v : Value) {R : Exit → Act → List Frame → World → Prop}
    (hn : Nat.blt t n = true) (hc : match recoverD cs with | some (v', cs2) => v' = v ∧ cs2 = cs' | none => v = .nilIface ∧ cs' = cs) (hg : rest.all (fun o => o.guard.isNone) = true)
    (h : CT Tryz.prog X n (⟨some t, .call ⟨.builtin .recover, #[], #[]⟩, ty, pos, af, none⟩ :: rest) rest ((t, .v v) :: fr) ow [] fun fr ow _ => TD Tryz.prog X n y fr ow fun e a w => R e a cs' w) :
    TS Tryz.prog X n (.seq (.region id ⟨⟨some t, .call ⟨.builtin .recover, #[], #[]⟩, ty, pos, af, none⟩ :: rest⟩ false) y) fr ow cs R := by
  refine TS.seq (TS.recover (v := v) (cs' := cs') (Nat.le_of_ble_eq_true hn) hc hg ?_)
  obtain ⟨es, fr', ow', hch, hK⟩ := h
  exact ⟨es, fr', ow', hch, fun a w hr => wpS_of_wp (hK.out a w hr)⟩
end
end Go.Proofs.YtcajofhafpkbdaaGreatDoor.Flow

namespace Go.Proofs.YtcajofhafpkbdaaGreatDoor.Flow
open Go
section
variable {P : Program} {X : Ctx} {n : Nat} {fr : Fr} {ow : Ow} {d : D}
structure Stab (Hx : Cells → World → Rho → Prop) (ids : List Nat) : Prop where
  mono : ∀ {S S' : Cells} {w w' : World} {r r' : Rho}, Hx S w r → (∀ b o, S b o → S' b o) → (∀ b o, S b o → w'.cell? ⟨b, o, none⟩ = w.cell? ⟨b, o, none⟩) → RhoLe r r' → Hx S' w' r'
  keep : ∀ {S : Cells} {w : World} {r : Rho}, Hx S w r → Hx S w (keepR r ids)
def CtrH (P : Program) (f : FuncId) (Hx : Cells → World → Rho → Prop) (args : List D) (ow : Ow) (d : D) (ow' : Ow) : Prop :=
  ∀ (X : Ctx) (vs : Array Value), X.dfs = [] → X.ids = ow.map (·.1) → Hx X.S0 X.w0 X.r0 → Hist X X.w0 X.S0 → Inv X X.w0 X.S0 X.r0 (fO ow) → vs.size = args.length → (∀ j, j < args.length → Rel X.S0 X.w0 X.r0 (args.getD j .any) (vs.getD j undef)) →
    Calls P f vs X.w0 fun e w' => ∃ v S' r', e = .returned v ∧ Rel S' w' r' d v ∧ Hist X w' S' ∧ Inv X w' S' r' (fO ow') ∧ RhoLe X.r0 r'
end

section
variable {P : Program} {X : Ctx} {n : Nat} {fr : Fr} {ow ow' : Ow} {d : D}
theorem CtrH.of_TU {Hx : Cells → World → Rho → Prop} {f : FuncId} {fn : Func} {c : Code} {N : Nat} {rs : List ResultVar} {args : List D} {d : D} (hf : P.funcs[f]? = some fn) (hb : fn.body = some c) (hN : fn.ntmps = N) (hrs : fn.results = ⟨rs⟩) (hlen : args.length ≤ N)
    (h : ∀ X : Ctx, Lent X → X.ids = ow.map (·.1) → X.dfs = [] → Hx X.S0 X.w0 X.r0 → T P X N c (slots 0 args) ow (fun e fr2 ow2 => (e = .ret ∨ e = .normal) ∧ ∃ d2, resU (tb P) fr2 ow2 rs = some d2 ∧ Weak d2 d ∧ d.okIn (ow'.map (·.1)) = true ∧ Le X fr2 ow2 [] ow')) :
    CtrH P f Hx args ow d ow' := by
  intro X vs hdf0 hids hx hH hI hsz hrel
  have hL : Lent X := fun k hk => by
    rw [hids]
    cases hmem : look k ow with
    | none => exact absurd (hI.dom k hmem) hk
    | some o =>
      by_cases hm : k ∈ ow.map (·.1)
      · exact hm
      · rw [zaY hm] at hmem; cases hmem
  refine calls_of_wp hf hb ?_
  have hrep : Rep X N (fF (slots 0 args)) (fO ow) { tmps := vs ++ Array.replicate (fn.ntmps - vs.size) undef, defers := [] } X.w0 := by
    refine ⟨X.S0, X.r0, hH, hI, fun t => ?_, hdf0.symm, by simp; omega, RhoLe.refl _⟩
    show Rel _ _ _ (getD' t (slots 0 args)) _
    rw [zbN]
    simp only [Nat.zero_le, if_true, Nat.sub_zero]
    by_cases ht : t < args.length
    · have := hrel t ht
      rw [Array.getD_eq_getD_getElem?, Array.getElem?_append_left (by omega), ← Array.getD_eq_getD_getElem?]
      exact this
    · rw [List.getD_eq_getElem?_getD, List.getElem?_eq_none (by omega)]
      exact .any ..
  refine wp_mono (h X hL hids hdf0 hx _ _ hrep).wide fun e a w ⟨fr2, ow2, ⟨he, d2, h1, h2, h3, h4⟩, hrep2⟩ => ?_
  obtain ⟨S, r, hH2, hI2, hF2, hd2, _, hρ2⟩ := hrep2
  obtain ⟨v, hv, hvr⟩ := zea (P := P) hrs hI2 hF2 h1
  have hok := h4.ok
  simp only [okAll, Bool.and_eq_true] at hok
  have hfin : ∃ v' S' r', Ending.returned v = .returned v' ∧ Rel S' w r' d v' ∧ Hist X w S' ∧ Inv X w S' r' (fO ow') ∧ RhoLe X.r0 r' := by
    refine ⟨v, S, keepR r (ow'.map (·.1)), rfl, ?_, hH2, hI2.keep h4.ow hok.2, fun k l hk => ?_⟩
    · exact (hvr.weak h2).okIn h3
    · obtain ⟨l', g1, g2⟩ := hρ2 k l hk
      have : k ∈ ow'.map (·.1) := h4.ids k (hL k (by rw [hk]; simp))
      exact ⟨l', by simp only [keepR]; rw [if_pos this]; exact g1, g2⟩
  rcases he with rfl | rfl
  · exact ⟨hd2.trans hdf0, v, hv, hfin⟩
  · exact ⟨hd2.trans hdf0, v, hv, hfin⟩
end

structure Mark (X X1 : Ctx) (kD D : Nat) : Prop where
  w0 : X1.w0 = X.w0
  S0 : X1.S0 = X.S0
  L : X1.L = X.L
  ids : X1.ids = kD :: X.ids
  dfs : X1.dfs = [{ target := .collected D, args := #[] }]
  blk : X1.r0 kD = some (.blk D)
  lent : Lent X1
section
variable {P : Program} {X : Ctx} {n : Nat} {fr : Fr} {ow : Ow}
end
section
variable {X : Ctx} {n : Nat} {fr : Fr} {ow : Ow}
end

theorem zme {P : Program} {X : Ctx} {n : Nat} {o : Oper} {fr : Fr} {ow : Ow} {ty : TypeId} {x : Operand} {k : Nat} {d : D} (ho : o.op = .box ty x) (hx : ev fr x = d) (hs : d.solid = true) (h1 : d.cells.all D.one = true) (hk : look k ow = none) (hd : dstOk o.dst n) :
    ∀ F' O', (∀ y ∈ o.op.operands.toList, evF F' y = evF (fF fr) y) → (∀ j ∈ [k], O' j = fO ow j) → StepAt P X n o F' O' (.pv k 0) [(k, .var d.cells)] := by
  intro F' O' he hO
  refine zas hd fun a w S r hH hI hr => ?_
  have hx' := hr x
  rw [he x (by simp [ho, Op.operands]), zaT, hx] at hx'
  have hk' : O' k = none := (hO k (by simp)).trans hk
  obtain ⟨S', r', g1, g2, g3, g4, g5, g6⟩ := zlE ty hH hI hx' hs h1 hk'
  refine ⟨_, _, S', r', .inl ?_, g1, g2, g3, g4, g5, g6⟩
  simp [execOp, ho, Instr.box, newVar, newRow]
section
variable {X : Ctx} {n : Nat} {all rest : List Oper} {fr : Fr} {ow : Ow} {tr : List (List Nat × List Nat)} {K : Fr → Ow → List (List Nat × List Nat) → Prop}
variable {t : Nat} {ty ty' : TypeId} {ps : String} {af : Array Edge} {d : D} {x : Operand}
theorem zcQ (k : Nat) (hx : ev fr x = d) (hs : d.solid = true) (h1 : d.cells.all D.one = true) (hk : look k ow = none) (hn : Nat.blt t n = true)
    (h : CT Tryz.prog X n all rest ((t, .pv k 0) :: fr) ((k, .var d.cells) :: ow) (tr ++ [([k], [k])]) K) : CT Tryz.prog X n all (⟨some t, .box ty x, ty', ps, af, none⟩ :: rest) fr ow tr K :=
  CT.cons (e := ⟨.pv k 0, [k], [(k, .var d.cells)]⟩) (.plain rfl (zme (o := ⟨some t, .box ty x, ty', ps, af, none⟩) rfl hx hs h1 hk (show t < n by simpa using hn))) (zaF ..) (zaJ ..) h
end

section
variable {P : Program} {X : Ctx} {n : Nat} {fr : Fr} {ow : Ow}
theorem Rep.adoptV {a : Act} {w : World} (v j k e z : Nat) (cs : List D) (f : Nat → List D) (hv : look v ow = some (.var cs)) (hj : cs.getD j .any = .nilS) (hk : look k ow = none) (hr : Rep X n (fF fr) (fO ow) a w) :
    Rep X n (fF fr) (fO ((v, .var (cs.set j (.gs k z 0 f))) :: (k, .row e z 0) :: ow)) a w := by
  obtain ⟨S, r, hH, hI, hF, hd, hn, hρ⟩ := hr
  have hle : RhoLe r (updR r k (.row (.slice none 0 0) 0)) := RhoLe.new (hI.dom k hk)
  have hk0 : updR r k (.row (.slice none 0 0) 0) k = some (.row (.slice none 0 0) 0) := by simp [updR]
  have hc : Chg w w S none := ⟨rfl, rfl, rfl, Nat.le_refl _, fun _ _ _ => rfl, fun _ _ _ => rfl⟩
  have hI2 : Inv X w S (updR r k (.row (.slice none 0 0) 0)) (fO ((k, .row e z 0) :: ow)) := by
    rw [zaJ]
    exact hI.put hc (fun _ _ h => h) hle k _ (.row (.slice none 0 0) 0) ⟨_, hk0, .inl ⟨rfl, rfl⟩⟩ hk0 (fun j hj => by simp [updR, hj]) (fun b hb => by simp [Loc.block] at hb) (fun b hb => by cases hb) (fun _ _ h => .inl h)
  have hvk : v ≠ k := fun e => by subst e; rw [hv] at hk; cases hk
  have hv2 : fO ((k, .row e z 0) :: ow) v = some (.var cs) := by
    rw [zaJ]
    show (if v = k then _ else fO ow v) = _
    rw [if_neg hvk]
    exact hv
  have hobj := hI2.obj v _ hv2
  obtain ⟨b, cur, e0, h1, h2, h3, h4, h5⟩ := hobj
  refine ⟨S, updR r k (.row (.slice none 0 0) 0), hH, ?_, fun u => (hF u).mono (fun _ _ h => h) (fun _ _ _ => rfl) _ hle, hd, hn, hρ.trans hle⟩
  rw [zaJ]
  refine hI2.put hc (fun _ _ h => h) (RhoLe.refl _) v _ (.blk b) ⟨b, cur, e0, h1, h2, by simpa using h3, fun i hi => ?_, h5⟩ h1 (fun _ _ => rfl) (fun b' hb' => .inr ⟨_, h1, hb'⟩) (fun b hb => by cases hb) (fun _ _ h => .inl h)
  have hi' : i < cs.length := by simpa using hi
  by_cases e : j = i
  · subst e
    have e1 : (cs.set j (D.gs k z 0 f)).getD j .any = .gs k z 0 f := by simp [List.getD_eq_getElem?_getD, hi']
    rw [e1]
    have h6 := (h4 j hi').1
    rw [hj] at h6
    generalize cur.getD j undef = vj at h6 ⊢
    cases h6
    refine ⟨.gs _ k z 0 f _ _ 0 (.sl _ _ _ _ none 0 (fun _ _ => undef) (Nat.le_refl _) (by unfold maxLen; omega) (fun i hi => by omega) (fun i j hi => by omega) (fun i j hi => by omega)) hk0 (Nat.le_refl _) (fun _ => .inl rfl), rfl⟩
  · have e1 : (cs.set j (D.gs k z 0 f)).getD i .any = cs.getD i .any := by simp [List.getD_eq_getElem?_getD, e]
    rw [e1]
    exact h4 i hi'
theorem TD.adoptV {c : Code} {R : Exit → Act → World → Prop} (v j k e z : Nat) (cs : List D) (f : Nat → List D) (hv : look v ow = some (.var cs)) (hj : cs.getD j .any = .nilS) (hk : look k ow = none)
    (h : TD P X n c fr ((v, .var (cs.set j (.gs k z 0 f))) :: (k, .row e z 0) :: ow) R) : TD P X n c fr ow R := TD.into fun a w hr => h.out a w (hr.adoptV v j k e z cs f hv hj hk)
end
section
variable {X : Ctx} {n : Nat} {all post : List Oper} {fr : Fr} {ow : Ow}
theorem zqU {f : FuncId} {args : List D} {d : D} {fn : Func} {c : Code} {N : Nat} {rs : List ResultVar} {lo lo' : Ow} {ids ids2 : List Nat} (hf : Tryz.prog.funcs[f]? = some fn) (hb : fn.body = some c) (hN : fn.ntmps = N) (hrs : fn.results = ⟨rs⟩) (hlen : Nat.ble args.length N = true)
    (hi1 : lo.map (·.1) = ids) (hi2 : lo'.map (·.1) = ids2) (hsub : ∀ k ∈ ids, k ∈ ids2) (hd : d.okIn ids2 = true) (hcs : lo'.all (fun x => x.2.okIn ids2) = true)
    (h : ∀ X : Ctx, Lent X → X.ids = ids → T Tryz.prog X N c (slots 0 args) lo (EndsM rs d lo')) : CtrO Tryz.prog f args lo d lo' := by
  refine CtrO.of_TU hf hb hN hrs (by simpa using hlen) fun X hL hi => (h X hL (hi.trans hi1)).mono fun e fr2 ow2 hq => ?_
  have key : ∀ d2, resU B fr2 ow2 rs = some d2 → Weak d2 d → leOw ow2 lo' →
      ∃ d2, resU (tb Tryz.prog) fr2 ow2 rs = some d2 ∧ Weak d2 d ∧ d.okIn (lo'.map (·.1)) = true ∧ Le X fr2 ow2 [] lo' := by
    intro d2 h1 h2 h3
    refine ⟨d2, by rw [zct]; exact h1, h2, by rw [hi2]; exact hd, trivial, h3, ?_, fun k hk => ?_⟩
    · rw [hi2]
      simp only [okAll, List.all_nil, Bool.true_and]
      exact hcs
    · rw [hi, hi1] at hk
      rw [hi2]
      exact hsub k hk
  cases e with
  | ret => obtain ⟨d2, h1, h2, h3⟩ := hq; exact ⟨.inl rfl, key d2 h1 h2 h3⟩
  | normal => obtain ⟨d2, h1, h2, h3⟩ := hq; exact ⟨.inr rfl, key d2 h1 h2 h3⟩
  | _ => exact hq.elim
end

def D.okS (ks : List Nat) : D → Bool
  | .ag cs => cs.all (D.okIn ks)
  | d => d.okIn ks
def lendS (ids : List Nat) : D → D
  | .ag cs => .ag (cs.map (lendA ids))
  | d => lendA ids d
theorem Rel.lendA {S : Cells} {w : World} {r : Rho} {d : D} {v : Value} (ids : List Nat) (h : Rel S w r d v) : Rel S w r (lendA ids d) v := by
  cases d with
  | gs k z m g =>
    simp only [Flow.lendA]
    split
    · exact h
    · exact h.shut
  | _ => exact h
theorem Rel.lendS {S : Cells} {w : World} {r : Rho} {d : D} {v : Value} (ids : List Nat) (h : Rel S w r d v) : Rel S w r (lendS ids d) v := by
  cases d with
  | ag cs =>
    cases h with
    | ag _ _ vs hn h =>
      refine .ag _ _ vs (by simpa using hn) fun j hj => ?_
      have hj' : j < cs.length := by simpa using hj
      have e : (cs.map (Flow.lendA ids)).getD j .any = Flow.lendA ids (cs.getD j .any) := by simp [List.getD_eq_getElem?_getD, hj']
      rw [e]
      exact (h j hj').lendA ids
  | _ => exact h.lendA ids
theorem Rel.okS {S : Cells} {w : World} {r : Rho} {d : D} {v : Value} (h : Rel S w r d v) {ks : List Nat} (hk : d.okS ks = true) : Rel S w (keepR r ks) d v := by
  cases d with
  | ag cs =>
    cases h with
    | ag _ _ vs hn h =>
      refine .ag _ _ vs hn fun j hj => (h j hj).okIn ?_
      have hk' : cs.all (D.okIn ks) = true := hk
      rw [List.all_eq_true] at hk'
      refine hk' _ ?_
      simp only [List.getD_eq_getElem?_getD, List.getElem?_eq_getElem hj, Option.getD_some]
      exact List.getElem_mem hj
  | _ => exact h.okIn hk
section
variable {P : Program} {X : Ctx} {n : Nat} {fr : Fr} {ow ow' : Ow} {d : D}
theorem zmy {o : Oper} {f : FuncId} {args : List D} {lo lo' : Ow} {ids ids2 : List Nat} (hP : ∀ vs w, (callFunc f vs).run P w = .ok (.enter f vs) w) (hc : callOf fr o.op = some (f, args)) (hk : hasAll (fun k => look k ow) lo)
    (hi1 : lo.map (·.1) = ids) (hi2 : lo'.map (·.1) = ids2) (hnd : ids2.Nodup) (hsub : ∀ k ∈ ids, k ∈ ids2) (hnew : ∀ k ∈ ids2, k ∉ ids → look k ow = none)
    (hok : (args.map (lendS ids)).all (D.okS ids) = true) (hf1 : lo.all (fun x => x.2.okIn ids) = true) (hf2 : lo'.all (fun x => x.2.okIn ids2) = true) (hf3 : d.okS ids2 = true)
    (hC : CtrO P f (args.map (lendS ids)) lo d lo') (hd : dstOk o.dst n) :
    ∀ F' O', (∀ x ∈ o.op.operands.toList, evF F' x = evF (fF fr) x) → (∀ j ∈ ids2, O' j = fO ow j) → StepAt P X n o F' O' d lo' := by
  intro F' O' he hO a w K' Q' ⟨S, r, hH, hI, hF, hdf, hn, hρ⟩ hK
  obtain ⟨vs, hrun, hsz, hrel⟩ := zbX hP hc he (fun x => zce hH.glob hF x)
  have hOk : ∀ k o, look k lo = some o → O' k = some o := fun k o h => by
    have hm : k ∈ ids := by rw [← hi1]; exact List.mem_map.2 ⟨(k, o), zaL h, rfl⟩
    exact (hO k (hsub k hm)).trans (zbD hk k o h)
  have hmem : ∀ k, k ∈ ids → ∃ o, look k lo = some o := fun k h => zba (by rw [hi1]; exact h)
  have hmem' : ∀ k, k ∈ ids2 → ∃ o, look k lo' = some o := fun k h => zba (by rw [hi2]; exact h)
  have hin : ∀ k o, look k lo = some o → k ∈ ids ∧ o.okIn ids = true := fun k o h => by
    have h1 := zaL h
    rw [List.all_eq_true] at hf1
    exact ⟨by rw [← hi1]; exact List.mem_map.2 ⟨(k, o), h1, rfl⟩, hf1 _ h1⟩
  have hin' : ∀ k o, look k lo' = some o → k ∈ ids2 ∧ o.okIn ids2 = true := fun k o h => by
    have h1 := zaL h
    rw [List.all_eq_true] at hf2
    exact ⟨by rw [← hi2]; exact List.mem_map.2 ⟨(k, o), h1, rfl⟩, hf2 _ h1⟩
  have hblt : ∀ k l b, r k = some l → l.block = some b → b < w.heap.size := fun k l b hl hb => by
    cases ho : O' k with
    | none => rw [hI.dom k ho] at hl; cases hl
    | some o => exact (hI.obj k o ho).blockLt hl hb
  let X' : Ctx := { w0 := w, S0 := S, L := fun b => ∃ k ∈ ids, ∃ l, r k = some l ∧ l.block = some b, r0 := keepR r ids, ids := ids }
  have hH' : Hist X' w S := ⟨rfl, rfl, rfl, Nat.le_refl _, fun _ _ _ => rfl, fun _ _ h => h, fun _ _ _ => rfl, fun _ _ h => .inl h, hH.valid, hH.glob⟩
  have hI' : Inv X' w S X'.r0 (fO lo) := by
    refine ⟨fun k o hk' => ?_, fun k hk' => ?_, fun i j l l' b' hij hl hl' hb' => ?_, fun k l b' hl hb' => ?_⟩
    · obtain ⟨h1, h2⟩ := hin k o hk'
      exact (hI.obj k o (hOk k o hk')).okIn h2 (RhoLe.refl _) (if_pos h1)
    · refine if_neg fun hm => ?_
      obtain ⟨o, ho⟩ := hmem k hm
      rw [show fO lo k = look k lo from rfl, ho] at hk'
      cases hk'
    · have hl : keepR r ids i = some l := hl
      have hl' : keepR r ids j = some l' := hl'
      simp only [keepR] at hl hl'
      split at hl <;> first | (cases hl; done) | skip
      split at hl' <;> first | (cases hl'; done) | skip
      exact hI.apart i j l l' b' hij hl hl' hb'
    · have hl : keepR r ids k = some l := hl
      simp only [keepR] at hl
      split at hl <;> first | (cases hl; done) | skip
      rename_i hm
      exact .inr ⟨k, hm, l, hl, hb'⟩
  have hrel' : ∀ j, j < (args.map (lendS ids)).length → Rel S w X'.r0 ((args.map (lendS ids)).getD j .any) (vs.getD j undef) := by
    intro j hj
    have hj' : j < args.length := by simpa using hj
    have e : (args.map (lendS ids)).getD j .any = lendS ids (args.getD j .any) := by simp [List.getD_eq_getElem?_getD, hj']
    have hokj : (lendS ids (args.getD j .any)).okS ids = true := by
      rw [← e]
      rw [List.all_eq_true] at hok
      refine hok _ ?_
      simp only [List.getD_eq_getElem?_getD, List.getElem?_eq_getElem hj, Option.getD_some]
      exact List.getElem_mem hj
    rw [e]
    exact ((hrel j hj').lendS ids).okS hokj
  refine OW.enter hrun ((hC X' vs hi1.symm hH' hI' (by simpa using hsz) hrel').mono ?_)
  rintro e w' ⟨v, S', r', rfl, g1, g2, g3, g4⟩
  let r2 : Rho := fun k => if k ∈ ids2 then r' k else r k
  have hr2 : RhoLe r r2 := fun k l hl => by
    by_cases hm : k ∈ ids2
    · have hm0 : k ∈ ids := by
        rcases Classical.em (k ∈ ids) with h | h
        · exact h
        · have h0 : O' k = none := (hO k hm).trans (hnew k hm h)
          rw [hI.dom k h0] at hl
          cases hl
      obtain ⟨l', h1, h2⟩ := g4 k l (by show keepR r ids k = some l; rw [keepR, if_pos hm0]; exact hl)
      exact ⟨l', by show (if k ∈ ids2 then r' k else r k) = some l'; rw [if_pos hm]; exact h1, h2⟩
    · exact ⟨l, by show (if k ∈ ids2 then r' k else r k) = some l; rw [if_neg hm]; exact hl, LocLe.refl l⟩
  have hr3 : RhoLe (keepR r' ids2) r2 := fun k l hl => by
    simp only [keepR] at hl
    split at hl <;> first | (cases hl; done) | skip
    rename_i hm
    exact ⟨l, by show (if k ∈ ids2 then r' k else r k) = some l; rw [if_pos hm]; exact hl, LocLe.refl l⟩
  have hXL : ∀ b, X'.L b → X.w0.heap.size ≤ b ∨ X.L b := fun b ⟨k, _, l, hl, hb⟩ => hI.low k l b hl hb
  have hother : ∀ k l b, k ∉ ids2 → r k = some l → l.block = some b → ¬ X'.L b := fun k l b hm hl hb ⟨k', hm', l', hl', hb'⟩ =>
    hI.apart k k' l l' b (fun e => hm (e ▸ hsub k' hm')) hl hl' hb hb'
  refine hK v w' ⟨S', r2, ?_, ?_, zco (fun t => (hF t).mono g2.sub g2.cell r2 hr2) (hn ▸ hd) ((g1.okS hf3).mono (fun _ _ h => h) (fun _ _ _ => rfl) r2 hr3), by rw [zbi]; exact hdf, by rw [zbK]; exact hn, hρ.trans hr2⟩
  · refine ⟨g2.os.trans hH.os, g2.tape.trans hH.tape, g2.output.trans hH.output, Nat.le_trans hH.size g2.size, fun k hk' hl => ?_, fun b o hb => g2.sub b o (hH.sub b o hb), fun b o hb => (g2.cell b o (hH.sub b o hb)).trans (hH.cell b o hb), fun b o hb => ?_, g2.valid, g2.glob⟩
    · refine (g2.block k (Nat.lt_of_lt_of_le hk' hH.size) fun hx => ?_).trans (hH.block k hk' hl)
      rcases hXL k hx with h | h
      · omega
      · exact hl h
    · rcases g2.new b o hb with h | h | h
      · exact hH.new b o h
      · exact .inr (.inl (Nat.le_trans hH.size h))
      · rcases hXL b h with h | h
        · exact .inr (.inl h)
        · exact .inr (.inr h)
  · have hnd' : (lo'.map (·.1)).Nodup := by rw [hi2]; exact hnd
    have hup : ∀ k, k ∉ ids2 → updO O' lo' k = O' k := fun k hm => by
      rw [zaQ hnd', zaY (by rw [hi2]; exact hm)]
    refine ⟨fun k o hk' => ?_, fun k hk' => ?_, fun i j l l' b hij hl hl' hb => ?_, fun k l b hl hb => ?_⟩
    · by_cases hm : k ∈ ids2
      · obtain ⟨o', ho'⟩ := hmem' k hm
        rw [zaQ hnd', ho'] at hk'
        obtain rfl : o' = o := Option.some.inj hk'
        exact (g3.obj k o' ho').okIn (hin' k o' ho').2 hr3 (if_pos hm)
      · rw [hup k hm] at hk'
        refine (hI.obj k o hk').keepL g2.sub g2.cell hr2 (if_neg hm) (fun l b hl hb => g2.block b (hblt k l b hl hb) (hother k l b hm hl hb)) (fun b o hs => ?_)
        rcases g2.new b o hs with h | h | h
        · exact .inl h
        · refine .inr fun l hl hb => ?_
          have := hblt k l b hl hb
          have h : w.heap.size ≤ b := h
          omega
        · exact .inr fun l hl hb => hother k l b hm hl hb h
    · by_cases hm : k ∈ ids2
      · obtain ⟨o', ho'⟩ := hmem' k hm
        rw [zaQ hnd', ho'] at hk'
        cases hk'
      · rw [hup k hm] at hk'
        exact (if_neg hm).trans (hI.dom k hk')
    · have hl : (if i ∈ ids2 then r' i else r i) = some l := hl
      have hl' : (if j ∈ ids2 then r' j else r j) = some l' := hl'
      by_cases h1 : i ∈ ids2
      · rw [if_pos h1] at hl
        by_cases h2 : j ∈ ids2
        · rw [if_pos h2] at hl'
          exact g3.apart i j l l' b hij hl hl' hb
        · rw [if_neg h2] at hl'
          intro hb'
          rcases g3.low i l b hl hb with h | h
          · have := hblt j l' b hl' hb'
            have h : w.heap.size ≤ b := h
            omega
          · exact hother j l' b h2 hl' hb' h
      · rw [if_neg h1] at hl
        by_cases h2 : j ∈ ids2
        · rw [if_pos h2] at hl'
          intro hb'
          rcases g3.low j l' b hl' hb' with h | h
          · have := hblt i l b hl hb
            have h : w.heap.size ≤ b := h
            omega
          · exact hother i l b h1 hl hb h
        · rw [if_neg h2] at hl'
          exact hI.apart i j l l' b hij hl hl' hb
    · have hl : (if k ∈ ids2 then r' k else r k) = some l := hl
      by_cases h1 : k ∈ ids2
      · rw [if_pos h1] at hl
        rcases g3.low k l b hl hb with h | h
        · exact .inl (Nat.le_trans hH.size h)
        · exact hXL b h
      · rw [if_neg h1] at hl
        exact hI.low k l b hl hb
def resS (B : Tb) (fr : Fr) (ow : Ow) (rs : List ResultVar) : Option D :=
  match rs with
  | [.cell a t] => match getD' a fr with
    | .pv k off => match look k ow, B.sz t with
      | some (.var cs), some z => match z.2 with
        | true => match Nat.beq off 0 && Nat.beq z.1 cs.length with
          | true => fz (.ag cs) some
          | false => none
        | false => none
      | _, _ => none
    | _ => none
  | rs => resU B fr ow rs
theorem zjZ {fn : Func} {a : Act} {w : World} {S : Cells} {r : Rho} {d : D} {rs : List ResultVar} (hrs : fn.results = ⟨rs⟩) (hI : Inv X w S r (fO ow)) (hF : ∀ t, Rel S w r (fF fr t) (a.tmps.getD t undef)) (h : resS (tb P) fr ow rs = some d) :
    ∃ v, (results fn a.tmps).run P w = .ok v w ∧ Rel S w r d v := by
  unfold resS at h
  split at h
  · rename_i x t
    simp only [zeG] at h
    split at h <;> first | (cases h; done) | skip
    rename_i k off hx
    split at h <;> first | (cases h; done) | skip
    rename_i cs z hk hz
    have hv := hF x
    rw [show fF fr x = .pv k off from hx] at hv
    generalize hav : a.tmps.getD x undef = av at hv
    cases hv with
    | pv _ _ _ b hb =>
      obtain ⟨b', cur, e', g1, g2, g3, g4, g5⟩ := hI.obj k _ hk
      rw [hb] at g1
      cases g1
      have hcell : ∀ j, j < cs.length → w.cell? ⟨b, 0 + j, none⟩ = some (cur.getD j undef) := fun j hj => by
        rw [Nat.zero_add, cell_of_row w b j cur e' (0, 0) g2]
        have : j < cur.size := by omega
        simp [Array.getD_eq_getD_getElem?, this]
      split at h <;> first | (cases h; done) | skip
      rename_i hz2
      split at h <;> first | (cases h; done) | skip
      rename_i hb2
      cases h
      simp only [Bool.and_eq_true] at hb2
      have e0 := Nat.eq_of_beq_eq_true hb2.1
      have e1 := Nat.eq_of_beq_eq_true hb2.2
      subst e0
      obtain ⟨u, q1, q2⟩ := zbd (P := P) (o := 0) (b := b) (off := 0) hz (by simp only [partP, hz2]; omega) hcell (fun j hj => (g4 j hj).1)
      have e3 : partD z cs 0 = .ag cs := by
        simp only [partD, hz2]
        rw [e1]
        simp
      rw [e3] at q2
      refine ⟨u, ?_, q2⟩
      have hu : (Instr.loadAt t (.pointer (some ⟨b, 0, none⟩))).run P w = .ok u w := by simpa using q1
      simp only [Instr.loadAt, Instr.sureAddr, Sem.run_bind, Sem.run_pure, Result.andThen_ok] at hu
      have h0 : (resF a.tmps (.cell x t)).run P w = .ok u w := by
        simp only [resF, hav, asAddr, Sem.run_bind, Sem.run_pure, Result.andThen_ok]
        exact hu
      have hm : (fn.results.mapM (resF a.tmps)).run P w = .ok #[u] w := by
        rw [hrs, Array.mapM_eq_mapM_toList]
        have h1 : ([ResultVar.cell x t].mapM (resF a.tmps)).run P w = .ok [u] w := by
          rw [List.mapM_cons]
          simp only [Sem.run_bind, h0, List.mapM_nil, Result.andThen_ok, Sem.run_pure]
        simp only [Sem.run_map, h1, Result.andThen_ok]
      simp only [zbY, Sem.run_bind, hm, Result.andThen_ok, Sem.run_pure]
      rfl
  · exact zea hrs hI hF h
theorem CtrO.of_TS {f : FuncId} {fn : Func} {c : Code} {N : Nat} {rs : List ResultVar} {args : List D} {d : D} (hf : P.funcs[f]? = some fn) (hb : fn.body = some c) (hN : fn.ntmps = N) (hrs : fn.results = ⟨rs⟩) (hlen : args.length ≤ N)
    (h : ∀ X : Ctx, Lent X → X.ids = ow.map (·.1) → T P X N c (slots 0 args) ow (fun e fr2 ow2 => (e = .ret ∨ e = .normal) ∧ ∃ d2, resS (tb P) fr2 ow2 rs = some d2 ∧ Weak d2 d ∧ d.okS (ow'.map (·.1)) = true ∧ Le X fr2 ow2 [] ow')) :
    CtrO P f args ow d ow' := by
  refine CtrO.of0 fun X vs hdf0 hids hH hI hsz hrel => ?_
  have hL : Lent X := fun k hk => by
    rw [hids]
    cases hmem : look k ow with
    | none => exact absurd (hI.dom k hmem) hk
    | some o =>
      by_cases hm : k ∈ ow.map (·.1)
      · exact hm
      · rw [zaY hm] at hmem; cases hmem
  refine calls_of_wp hf hb ?_
  have hrep : Rep X N (fF (slots 0 args)) (fO ow) { tmps := vs ++ Array.replicate (fn.ntmps - vs.size) undef, defers := [] } X.w0 := by
    refine ⟨X.S0, X.r0, hH, hI, fun t => ?_, hdf0.symm, by simp; omega, RhoLe.refl _⟩
    show Rel _ _ _ (getD' t (slots 0 args)) _
    rw [zbN]
    simp only [Nat.zero_le, if_true, Nat.sub_zero]
    by_cases ht : t < args.length
    · have := hrel t ht
      rw [Array.getD_eq_getD_getElem?, Array.getElem?_append_left (by omega), ← Array.getD_eq_getD_getElem?]
      exact this
    · rw [List.getD_eq_getElem?_getD, List.getElem?_eq_none (by omega)]
      exact .any ..
  refine wp_mono (h X hL hids _ _ hrep).wide fun e a w ⟨fr2, ow2, ⟨he, d2, h1, h2, h3, h4⟩, hrep2⟩ => ?_
  obtain ⟨S, r, hH2, hI2, hF2, hd2, _, hρ2⟩ := hrep2
  obtain ⟨v, hv, hvr⟩ := zjZ (P := P) hrs hI2 hF2 h1
  have hok := h4.ok
  simp only [okAll, Bool.and_eq_true] at hok
  have hfin : ∃ v' S' r', Ending.returned v = .returned v' ∧ Rel S' w r' d v' ∧ Hist X w S' ∧ Inv X w S' r' (fO ow') ∧ RhoLe X.r0 r' := by
    refine ⟨v, S, keepR r (ow'.map (·.1)), rfl, ?_, hH2, hI2.keep h4.ow hok.2, fun k l hk => ?_⟩
    · exact (hvr.weak h2).okS h3
    · obtain ⟨l', g1, g2⟩ := hρ2 k l hk
      have : k ∈ ow'.map (·.1) := h4.ids k (hL k (by rw [hk]; simp))
      exact ⟨l', by simp only [keepR]; rw [if_pos this]; exact g1, g2⟩
  rcases he with rfl | rfl
  · exact ⟨hd2.trans hdf0, v, hv, hfin⟩
  · exact ⟨hd2.trans hdf0, v, hv, hfin⟩
end
section
variable {X : Ctx} {n : Nat} {all rest : List Oper} {fr : Fr} {ow : Ow} {tr : List (List Nat × List Nat)} {K : Fr → Ow → List (List Nat × List Nat) → Prop}
variable {t k k' : Nat} {op : Op} {ty ty2 ty' : TypeId} {ps : String} {af : Array Edge} {x y : Operand} {cs cs' : List D} {d : D} {f : FuncId} {args : List D} {g u : Nat} {want : Bool}
theorem zbx (lo lo' : Ow) (ids ids2 : List Nat) (hi1 : lo.map (·.1) = ids) (hi2 : lo'.map (·.1) = ids2) (hnd : ids2.Nodup) (hsub : ∀ k ∈ ids, k ∈ ids2) (hnew : ∀ k ∈ ids2, k ∉ ids → look k ow = none)
    (hc : callOf fr op = some (f, args)) (hn : Nat.blt t n = true) (hP : ∀ vs w, (callFunc f vs).run Tryz.prog w = .ok (.enter f vs) w) (hk : hasAll (fun k => look k ow) lo)
    (hok : (args.map (lendS ids)).all (D.okS ids) = true) (hf1 : lo.all (fun x => x.2.okIn ids) = true) (hf2 : lo'.all (fun x => x.2.okIn ids2) = true) (hf3 : d.okS ids2 = true)
    (hC : CtrO Tryz.prog f (args.map (lendS ids)) lo d lo')
    (h : CT Tryz.prog X n all rest ((t, d) :: fr) (lo' ++ ow) (tr ++ [(ids2, lo'.map (·.1))]) K) : CT Tryz.prog X n all (⟨some t, op, ty, ps, af, none⟩ :: rest) fr ow tr K :=
  CT.cons (e := ⟨d, ids2, lo'⟩) (.plain rfl (zmy (o := ⟨some t, op, ty, ps, af, none⟩) (ow := ow) hP hc hk hi1 hi2 hnd hsub hnew hok hf1 hf2 hf3 hC (show t < n by simpa using hn))) (zaF ..) (zop (by rw [hi2]; exact hnd)) h
def EndsS (rs : List ResultVar) (d : D) (lo : Ow) (e : Exit) (fr : Fr) (ow : Ow) : Prop :=
  match e with
  | .ret | .normal => ∃ d2, resS B fr ow rs = some d2 ∧ Weak d2 d ∧ leOw ow lo
  | _ => False
theorem zfg {rs : List ResultVar} {d d2 : D} {lo : Ow} (h : resS B fr ow rs = some d2) (he : Weak d2 d) (hlo : Stay (leOw ow lo)) : Rtn (EndsS rs d lo) fr ow := by
  unfold Rtn
  exact ⟨d2, h, he, hlo.out⟩
theorem zcU {f : FuncId} {args : List D} {d : D} {fn : Func} {c : Code} {N : Nat} {rs : List ResultVar} {lo lo' : Ow} {ids ids2 : List Nat} (hf : Tryz.prog.funcs[f]? = some fn) (hb : fn.body = some c) (hN : fn.ntmps = N) (hrs : fn.results = ⟨rs⟩) (hlen : Nat.ble args.length N = true)
    (hi1 : lo.map (·.1) = ids) (hi2 : lo'.map (·.1) = ids2) (hsub : ∀ k ∈ ids, k ∈ ids2) (hd : d.okS ids2 = true) (hcs : lo'.all (fun x => x.2.okIn ids2) = true)
    (h : ∀ X : Ctx, Lent X → X.ids = ids → T Tryz.prog X N c (slots 0 args) lo (EndsS rs d lo')) : CtrO Tryz.prog f args lo d lo' := by
  refine CtrO.of_TS hf hb hN hrs (by simpa using hlen) fun X hL hi => (h X hL (hi.trans hi1)).mono fun e fr2 ow2 hq => ?_
  have key : ∀ d2, resS B fr2 ow2 rs = some d2 → Weak d2 d → leOw ow2 lo' →
      ∃ d2, resS (tb Tryz.prog) fr2 ow2 rs = some d2 ∧ Weak d2 d ∧ d.okS (lo'.map (·.1)) = true ∧ Le X fr2 ow2 [] lo' := by
    intro d2 h1 h2 h3
    refine ⟨d2, by rw [zct]; exact h1, h2, by rw [hi2]; exact hd, trivial, h3, ?_, fun k hk => ?_⟩
    · rw [hi2]
      simp only [okAll, List.all_nil, Bool.true_and]
      exact hcs
    · rw [hi, hi1] at hk
      rw [hi2]
      exact hsub k hk
  cases e with
  | ret => obtain ⟨d2, h1, h2, h3⟩ := hq; exact ⟨.inl rfl, key d2 h1 h2 h3⟩
  | normal => obtain ⟨d2, h1, h2, h3⟩ := hq; exact ⟨.inr rfl, key d2 h1 h2 h3⟩
  | _ => exact hq.elim
end

section
variable {P : Program} {X : Ctx} {n : Nat} {fr : Fr} {ow : Ow}
theorem Rep.frzV {a : Act} {w : World} (t k off : Nat) (cs : List D) (hk : look k ow = some (.var cs)) (ht : getD' t fr = .pv k off) (hp : cs.all D.plain = true) (hr : Rep X n (fF fr) (fO ow) a w) :
    Rep X n (fF ((t, .rf cs off) :: fr)) (fO ((k, .gone) :: ow)) a w := by
  obtain ⟨S, r, hH, hI, hF, hd, hn, hρ⟩ := hr
  obtain ⟨b, cur, e, g1, g2, g3, g4, g5⟩ := hI.obj k _ hk
  have hbl : b < w.heap.size := (Array.getElem?_eq_some_iff.1 g2).1
  let S2 : Cells := fun b' o => S b' o ∨ (b' = b ∧ o < cs.length)
  have hc : Chg w w S none := ⟨rfl, rfl, rfl, Nat.le_refl _, fun _ _ _ => rfl, fun _ _ _ => rfl⟩
  have hS2 : ∀ b o, S b o → S2 b o := fun _ _ h => .inl h
  have hgone : ObjOk S w r k .gone := ⟨.blk b, g1, fun b' hb' => by
    have : b = b' := Option.some.inj hb'
    omega⟩
  refine ⟨S2, r, ?_, ?_, fun u => ?_, hd, hn, hρ⟩
  · refine hH.chg hc (fun b hb => by cases hb) hS2 (fun b' o h => ?_)
    rcases h with h | ⟨rfl, _⟩
    · exact .inl h
    · exact .inr ⟨hI.low k _ b' g1 rfl, hbl⟩
  · rw [zaJ]
    refine hI.put hc hS2 (RhoLe.refl r) k _ (.blk b) ⟨.blk b, g1, fun b' hb' => ?_⟩ g1 (fun _ _ => rfl) (fun b hb => .inr ⟨_, g1, hb⟩) (fun b hb => by cases hb) (fun b' o h => ?_)
    · have : b = b' := Option.some.inj hb'
      omega
    · rcases h with h | ⟨rfl, _⟩
      · exact .inl h
      · exact .inr (.inl rfl)
  · rw [zaF]
    simp only [updF]
    split
    · rename_i e1
      have h1 := hF u
      rw [show fF fr u = .pv k off by rw [e1]; exact ht] at h1
      generalize a.tmps.getD u undef = v at h1
      cases h1 with
      | pv _ _ _ b' hb' =>
        rw [hb'] at g1
        cases g1
        have hrf : Rel S2 w r (.rf cs off) (.pointer (some ⟨b, 0 + off, none⟩)) := by
          refine .rf r cs off b 0 (fun j => cur.getD j undef) hp (fun j hj => ⟨.inr ⟨rfl, by omega⟩, ?_⟩) (fun j hj => ?_)
          · rw [Nat.zero_add, cell_of_row w b j cur e (0, 0) g2]
            have : j < cur.size := by omega
            simp [Array.getD_eq_getD_getElem?, this]
          · have h2 := (g4 j hj).1
            have hpj : (cs.getD j .any).plain = true := by
              rw [List.all_eq_true] at hp
              refine hp _ ?_
              simp only [List.getD_eq_getElem?_getD, List.getElem?_eq_getElem hj, Option.getD_some]
              exact List.getElem_mem hj
            exact (h2.plain hpj noRho).mono hS2 (fun _ _ _ => rfl) noRho (RhoLe.refl _)
        rw [Nat.zero_add] at hrf
        exact hrf
    · exact (hF u).mono hS2 (fun _ _ _ => rfl) r (RhoLe.refl r)
theorem T.frzV {c : Code} {Q : Exit → Fr → Ow → Prop} (t k off : Nat) (cs : List D) (hk : look k ow = some (.var cs)) (ht : getD' t fr = .pv k off) (hp : cs.all D.plain = true) (h : T P X n c ((t, .rf cs off) :: fr) ((k, .gone) :: ow) Q) : T P X n c fr ow Q := fun a w hr => h a w (hr.frzV t k off cs hk ht hp)
end
theorem CtrO.weakArgs {P : Program} {f : FuncId} {args args' : List D} {ow ow' : Ow} {d : D} (h : CtrO P f args' ow d ow') (hn : args'.length = args.length) (hw : ∀ j, j < args.length → Weak (args.getD j .any) (args'.getD j .any)) : CtrO P f args ow d ow' :=
  fun X vs hids hH hI hsz hr => h X vs hids hH hI (hsz.trans hn.symm) fun j hj => (hr j (by omega)).weak (hw j (by omega))
theorem CtrO.weakOne {P : Program} {f : FuncId} {a a' : D} {ow ow' : Ow} {d : D} (h : CtrO P f [a'] ow d ow') (hw : Weak a a') : CtrO P f [a] ow d ow' := h.weakArgs rfl fun j hj => match j, hj with
  | 0, _ => hw

def growRen : Go.Shelf.Ren := ⟨fun | 4 => 127 | n => n, fun | 22 => 41 | 25 => 9 | n => n, fun | n => n⟩
theorem growLays : Go.Proofs.Lays8.n4 Tryz.prog growRen := {
  mixed := by kernel_rfl
  f4 := ⟨"slices.Grow[[]string,string]", rfl, Tryz.func127.trans (congrArg some (by kernel_rfl))⟩
  t0 := Tryz.underlying0
  a0 := Tryz.isAgg0
  z0 := Tryz.sizeOf0
  v0 := Tryz.zeroValue0
  t3 := Tryz.underlying3
  a3 := Tryz.isAgg3
  z3 := Tryz.sizeOf3
  v3 := Tryz.zeroValue3
  t4 := Tryz.underlying4
  a4 := Tryz.isAgg4
  z4 := Tryz.sizeOf4
  v4 := Tryz.zeroValue4
  t9 := Tryz.underlying9
  a9 := Tryz.isAgg9
  z9 := Tryz.sizeOf9
  v9 := Tryz.zeroValue9
  t20 := Tryz.underlying20
  a20 := Tryz.isAgg20
  z20 := Tryz.sizeOf20
  v20 := Tryz.zeroValue20
  t22 := Tryz.underlying41
  a22 := Tryz.isAgg41
  z22 := Tryz.sizeOf41
  v22 := Tryz.zeroValue41 }
theorem growInfo : (Tryz.prog.info? 9).map (fun i => (i.zero, i.size, i.bytes)) = some (some (Value.string ⟨#[]⟩), 1, 16) := by kernel_rfl
theorem zpW (n : Nat) (h0 : 0 < n) (hn : n ≤ 100000000) (f : Nat → List D) : CtrO Tryz.prog 127 [.nilS, .i .i64 n] [] (.gs 105 1 0 f) [(105, .row 9 1 0)] := by
  intro X vs hids hH hI hsz hr
  have q0 := hr 0 (by simp)
  have q1 := hr 1 (by simp)
  rw [zhn hsz]
  generalize vs.getD 0 undef = v0 at *
  generalize vs.getD 1 undef = v1 at *
  cases q0
  cases q1
  obtain ⟨i0, hi0, hz0, hs0, hb0⟩ : ∃ i0 : TypeInfo, Tryz.prog.info? (growRen.t 25) = some i0 ∧ i0.zero = some (Value.string ⟨#[]⟩) ∧ i0.size = 1 ∧ i0.bytes = 16 := by
    have h := growInfo
    show ∃ i0 : TypeInfo, Tryz.prog.info? 9 = some i0 ∧ _
    cases hq : Tryz.prog.info? 9 with
    | none => rw [hq] at h; cases h
    | some i0 =>
      rw [hq] at h
      simp only [Option.map_some, Option.some.injEq, Prod.mk.injEq] at h
      exact ⟨i0, rfl, h.1, h.2.1, h.2.2⟩
  refine (Any8.slices_Grow_grow growLays i0 _ hi0 hz0 (by omega) none 0 0 n [] X.w0 (Nat.le_refl _) (by omega) (by rw [hb0]; omega) (by omega) (by simp) (fun _ => rfl) (fun a h => by cases h)).mono ?_
  rintro e w' ⟨rfl, rfl⟩
  have hG := grownCap_le_maxLen X.w0 (0 + n) 0 (growRen.t 25) (by unfold maxLen; omega)
  have hG2 : 0 + n ≤ grownCap X.w0 (0 + n) 0 (growRen.t 25) := grownCap_ge X.w0 _ _ _
  generalize grownCap X.w0 (0 + n) 0 (growRen.t 25) = G at hG hG2 ⊢
  obtain ⟨S', r', g1, g2, g3, g4, g5, g6⟩ := ziK false (g := none) (k := 105) (cur := ([] : List Value).toArray ++ Builtin.zeroCells (Value.string ⟨#[]⟩).cells (0 + n - 0) ++ Builtin.zeroCells (Value.string ⟨#[]⟩).cells (G - (0 + n))) (el := 9) (z := 1) (N := 0) (cap := G) (f := f) (c := fun _ _ => undef) hH hI (Chg.drewAlloc X.w0 X.S0 hH.valid _ none) (fun b hb => by cases hb) (.inl ⟨Nat.le_refl _, by simp, Nat.le_refl _⟩) (RhoLe.new (hI.dom 105 rfl))
    (heap_alloc_new X.w0.drew _) (Nat.zero_le _) hG (by
      have hz : (Value.string ⟨#[]⟩).cells.size = 1 := rfl
      simp only [Builtin.zeroCells, Array.size_append, Array.size_map, Array.size_range, hz, List.size_toArray, List.length_nil]
      omega) (fun i j hi hj => by omega) (fun o _ hs => by have := hH.valid _ _ hs; omega) (fun i hi => by omega) (fun i j hi hj => by omega)
  refine ⟨_, S', r', rfl, g1, g2, ?_, g6⟩
  rw [zaJ]
  exact g3
def txLF (ls : List (List Txt)) : Nat → List D := fun i => [.sl 1 (ls.getD i []).length (txF (ls.getD i []))]
theorem zly {ls : List (List Txt)} {i : Nat} (h : i < ls.length) : (ls.take (i + 1)).flatten = (ls.take i).flatten ++ ls.getD i [] := by
  rw [List.take_add_one, List.flatten_append]
  simp [List.getD_eq_getElem?_getD, h]
theorem zfs (ls : List (List Txt)) (i : Nat) : (ls.take i).flatten.length ≤ ls.flatten.length := by
  have e : ls.flatten.length = (ls.take i).flatten.length + (ls.drop i).flatten.length := by
    rw [← List.length_append, ← List.flatten_append, List.take_append_drop]
  omega
theorem zlA (a b : List Txt) (g : Nat → List D) (hg : ∀ i, i < b.length → g i = txF b i) : catF a.length (txF a) b.length g = txF (a ++ b) := by
  funext j
  unfold catF
  by_cases h : j < a.length
  · rw [if_pos h]
    simp [txF, List.getD_eq_getElem?_getD, List.getElem?_append_left h]
  · rw [if_neg h]
    by_cases h2 : j < a.length + b.length
    · rw [if_pos h2, hg _ (by omega)]
      simp [txF, List.getD_eq_getElem?_getD, List.getElem?_append_right (show a.length ≤ j by omega)]
    · rw [if_neg h2]
      simp only [txF, List.getD_eq_getElem?_getD]
      rw [List.getElem?_eq_none (show a.length ≤ j by omega), List.getElem?_eq_none (show (a ++ b).length ≤ j by rw [List.length_append]; omega)]
theorem zqe (a b : List Txt) : catF a.length (txF a) b.length (txF b) = txF (a ++ b) := zlA a b _ fun _ _ => rfl
set_option maxRecDepth 100000 in
set_option maxHeartbeats 4000000 in
theorem znd (ls : List (List Txt)) (hl : ls.length ≤ 100) (h0 : 0 < ls.flatten.length) (hn : ls.flatten.length ≤ 4194304) :
    CtrO Tryz.prog 103 [.sl 1 ls.length (txLF ls)] [] (.gs 105 1 ls.flatten.length (txF ls.flatten)) [(105, .row 9 1 ls.flatten.length)] := by
  refine zqU (ids := []) (ids2 := [105]) Tryz.func103 rfl Tryz.ntmps103 Tryz.results103 rfl rfl rfl (fun _ h => by cases h) rfl rfl fun X hL hX => ?_
  repeat' (first |with_reducible (first |refine zag ?_|refine zaa ?_|refine zaf ?_|refine zad ?_|refine zae ?_)|refine zab rfl rfl True.intro ?_|fail)
  refine T.loop hL (fun i : Nat => [(0, .sl 1 ls.length (txLF ls)), (3, .i .i64 (ls.take i).flatten.length), (9, .sl 1 ls.length (txLF ls)), (10, .i .i64 ls.length), (11, .i .i64 i)]) (fun _ => [])
    (fun i => i ≤ ls.length) (fun i => ls.length - i) 0 (Nat.zero_le _)
    ⟨⟨rfl, rfl, rfl, rfl, rfl, trivial⟩, trivial, rfl, by rw [hX]; simp⟩ ?_
  rintro i g1
  try dsimp only at g1 ⊢
  have hle := zfs ls i
  have hnat : (i : Int).toNat = i := Int.toNat_natCast i
  by_cases hil : i < ls.length
  · have hil' : (i : Int) < ls.length := by omega
    have hle2 := zfs ls (i + 1)
    have e : ((ls.take (i + 1)).flatten.length : Int) = (ls.take i).flatten.length + ((ls.getD (i : Int).toNat []).length : Int) := by
      rw [zly hil, List.length_append, hnat]
      omega
    have hpos : ¬ ((ls.take i).flatten.length : Int) + ((ls.getD (i : Int).toNat []).length : Int) < 0 := by omega
    have hsz : (ls.getD (i : Int).toNat []).length ≤ 4194304 := by omega
    repeat' (first |with_reducible (first |refine zag ?_|refine zaa ?_|refine zaf ?_|refine zad ?_|refine zah ?_|refine zae ?_|refine zap ?_)|refine zab rfl rfl True.intro ?_|refine zal rfl ?_|((first |refine zac rfl ?_ ?_)<;>intro<;>try (first |contradiction))|((first |refine zab rfl rfl ?_ ?_);focus (first |omega|exact le_ rfl|((repeat' refine And.intro ?_ ?_)<;>omega)))|fail)
    all_goals exact ⟨i + 1, by omega, by omega, ⟨rfl, congrArg (D.i .i64) e.symm, rfl, rfl, rfl, trivial⟩, trivial, rfl, by rw [hX]; simp⟩
  have hil' : ¬ (i : Int) < ls.length := by omega
  have ea : ls.take i = ls := List.take_of_length_le (by omega)
  rw [ea]
  have cG := zpW ls.flatten.length h0 (by omega) (txF [])
  repeat' (first |refine zoL (f := 127) [] [(105, .row 9 1 0)] [] [105] rfl rfl (by decide) (fun _ h => by cases h) (fun k h _ => by rw [List.mem_singleton.1 h];rfl) rfl rfl Tryz.call127 trivial rfl rfl rfl rfl cG ?_|with_reducible (first |refine zag ?_|refine zaa ?_|refine zaf ?_|refine zad ?_|refine zaA ?_|refine zae ?_|refine zaz ?_)|refine zab rfl rfl True.intro ?_|((first |refine zac rfl ?_ ?_)<;>intro<;>try (first |contradiction))|refine zaO rfl ?_|fail)
  refine T.loop hL (fun i : Nat => [(6, .gs 105 1 (ls.take i).flatten.length (txF (ls.take i).flatten)), (25, .sl 1 ls.length (txLF ls)), (26, .i .i64 ls.length), (27, .i .i64 i)]) (fun i => [(105, .row 9 1 (ls.take i).flatten.length)])
    (fun i => i ≤ ls.length) (fun i => ls.length - i) 0 (Nat.zero_le _)
    ⟨⟨by rfl, rfl, rfl, rfl, trivial⟩, ⟨by rfl, trivial⟩, rfl, by rw [hX]; simp⟩ ?_
  clear cG ea hil hil' hle hnat
  rintro q g1
  try dsimp only at g1 ⊢
  have hle := zfs ls q
  have hnat : (q : Int).toNat = q := Int.toNat_natCast q
  by_cases hil : q < ls.length
  · have hil' : (q : Int) < ls.length := by omega
    have hle2 := zfs ls (q + 1)
    have e := zly hil
    have e2 := zqe (ls.take q).flatten (ls.getD (q : Int).toNat [])
    rw [hnat] at e2
    have el : (ls.take (q + 1)).flatten.length = (ls.take q).flatten.length + (ls.getD q []).length := by rw [e, List.length_append]
    have hsz : (ls.getD (q : Int).toNat []).length ≤ 4194304 := by rw [hnat]; omega
    have hb1 : ((ls.take q).flatten.length + (ls.getD (q : Int).toNat []).length) * 16 ≤ 140737488355328 := by rw [hnat]; omega
    repeat' (first |with_reducible (first |refine zag ?_|refine zaa ?_|refine zaf ?_|refine zad ?_|refine zah ?_|refine zae ?_|refine zap ?_)|refine zab rfl rfl True.intro ?_|((first |refine zac rfl ?_ ?_)<;>intro<;>try (first |contradiction))|((first |refine zab rfl rfl ?_ ?_|refine zao rfl rfl ?_ ?_);focus (first |omega|exact le_ rfl|((repeat' refine And.intro ?_ ?_)<;>omega)|((repeat' refine And.intro ?_ ?_)<;>first |omega|rfl)))|fail)
    all_goals exact ⟨q + 1, by omega, by omega, ⟨by rw [e, ← e2, List.length_append]; rfl, rfl, rfl, rfl, trivial⟩, ⟨by rw [e, List.length_append]; rfl, trivial⟩, rfl, by rw [hX]; simp⟩
  have hil' : ¬ (q : Int) < ls.length := by omega
  have ea : ls.take q = ls := List.take_of_length_le (by omega)
  rw [ea]
  repeat' (first |with_reducible (first |refine zag ?_|refine zaa ?_|refine zaf ?_|refine zad ?_|refine zaj ?_|refine zaA ?_|refine zaz ?_)|refine zab rfl rfl True.intro ?_|((first |refine zac rfl ?_ ?_)<;>intro<;>try (first |contradiction))|refine zaO rfl ?_|refine zbb rfl rfl ?_|fail)
  all_goals exact ⟨⟨rfl, trivial⟩⟩
end Go.Proofs.YtcajofhafpkbdaaGreatDoor.Flow
