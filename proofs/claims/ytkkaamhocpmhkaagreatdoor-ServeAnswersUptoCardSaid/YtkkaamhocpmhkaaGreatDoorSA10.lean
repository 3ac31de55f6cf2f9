/- The texts K28, FlowPa, FlowPb, FlowPc, FlowPd, FlowPe, FlowPf, FlowRo, FlowRp, one behind the other. -/
import Derived.Test.YtkkaamhocpmhkaaGreatDoorSA9
import Derived.Recover
import Derived.RangeFuncRecord
import Derived.RangeFuncIn
import Derived.RangeFuncLeaves
import Derived.RangeFuncSeq
namespace Go.Proofs.YtkkaamhocpmhkaaGreatDoor.Flow
open Go
def hdF (l : List (List UInt8 × List UInt8)) : Nat → List D := fun i => [.s (l.getD i ([], [])).1, .s (l.getD i ([], [])).2]
structure RspR where
  st : Int
  hs : List (List UInt8 × List UInt8)
  body : List UInt8
def rspP (x : RspR) : List D := [.i .i64 x.st, .sl 2 x.hs.length (hdF x.hs), .sl 1 x.body.length (bytesF x.body)]
set_option maxRecDepth 100000 in
set_option maxHeartbeats 4000000 in
theorem zhF (x : RspR) (h1 : x.hs.length ≤ 1000000) (h2 : x.body.length ≤ 1000000) : Ctr Tryz.prog 24 [.ag (rspP x), .ag (rspP x)] (.b true) := by
  obtain ⟨st, hs, body⟩ := x
  dsimp only at h1 h2
  refine zaE Tryz.func24 rfl Tryz.ntmps24 Tryz.results24 rfl rfl fun X hL hX => ?_
  unfold rspP
  dsimp only
  repeat' (first |with_reducible (first |refine zag ?_|refine zaa ?_|refine zaf ?_|refine zac ?_|refine zar ?_|refine zah ?_|refine zae ?_|refine zaB ?_)|refine zab rfl rfl True.intro ?_|refine zam rfl rfl rfl rfl True.intro ?_|((first |refine zbT rfl ?_ ?_|refine zdN rfl rfl ?_ ?_)<;>intro<;>try (first |(exfalso;omega)))|((first |refine zab rfl rfl ?_ ?_|refine zam rfl rfl rfl rfl ?_ ?_|refine zaw rfl rfl ?_ ?_);focus (first |exact le_ rfl|((repeat' refine And.intro ?_ ?_)<;>omega)|((repeat' refine And.intro ?_ ?_)<;>first |omega|rfl|exact zbj _)))|refine zau rfl ?_|fail)
  all_goals try (exfalso; omega)
  all_goals try (exfalso; rename_i q; rw [beq_self_eq_true] at q; cases q; done)
  refine T.loop hL (fun i : Nat => [(2, .pv 2 0), (3, .pv 3 0), (5, .i .i64 i)]) (fun i => [(2, .var (rspP ⟨st, hs, body⟩)), (3, .var (rspP ⟨st, hs, body⟩))])
    (fun i => i ≤ hs.length) (fun i => hs.length - i) 0 (Nat.zero_le _)
    ⟨⟨rfl, rfl, rfl, trivial⟩, ⟨rfl, rfl, trivial⟩, rfl, by rw [hX]; simp⟩ ?_
  intro i g1
  try dsimp only at g1 ⊢
  unfold rspP
  dsimp only
  have hnat : (i : Int).toNat = i := Int.toNat_natCast i
  by_cases hi : i < hs.length
  · have hi' : (i : Int) < (hs.length : Int) := by omega
    repeat' (first |with_reducible (first |refine zag ?_|refine zaa ?_|refine zaf ?_|refine zac ?_|refine zar ?_|refine zah ?_|refine zae ?_|refine zai ?_|refine zaB ?_|refine zaO ?_|refine zaH ?_)|refine zab rfl rfl True.intro ?_|((first |refine zad rfl ?_ ?_|refine zbT rfl ?_ ?_)<;>intro<;>try (first |(exfalso;omega)))|((first |refine zab rfl rfl ?_ ?_);focus (first |omega|exact le_ rfl|((repeat' refine And.intro ?_ ?_)<;>omega)))|with_reducible refine ⟨by kernel_rfl, ?_⟩|refine zau rfl ?_|fail)
    all_goals first
      | exact ⟨i + 1, by omega, by omega, ⟨rfl, rfl, rfl, trivial⟩, ⟨rfl, rfl, trivial⟩, rfl, by rw [hX]; simp⟩
      | (exfalso; omega)
      | (exfalso; rename_i q; rw [beq_self_eq_true, beq_self_eq_true] at q; cases q; done)
      | trace_state
  · have hi' : ¬ (i : Int) < (hs.length : Int) := by omega
    repeat' (first |with_reducible (first |refine zag ?_|refine zaa ?_|refine zaf ?_|refine zac ?_|refine zar ?_|refine zan ?_|refine zao ?_)|refine zab rfl rfl True.intro ?_|((first |refine zad rfl ?_ ?_)<;>intro<;>try (first |(exfalso;omega)))|((first |refine zab rfl rfl ?_ ?_);focus (first |exact le_ rfl|((repeat' refine And.intro ?_ ?_)<;>omega)))|refine zat rfl ?_|refine zau rfl ?_|fail)
    all_goals first
      | rfl
      | (exfalso; omega)
      | trace_state
end Go.Proofs.YtkkaamhocpmhkaaGreatDoor.Flow

namespace Go.Proofs.YtkkaamhocpmhkaaGreatDoor.Flow
def pchain (pv : Value) : List PanicEntry := [{ v := pv, recovered := false }]
def CtrP (P : Program) (f : FuncId) (args : List D) (ow : Ow) (pv : Value) (ow' : Ow) : Prop :=
  ∀ (X : Ctx) (vs : Array Value), X.ids = ow.map (·.1) → Hist X X.w0 X.S0 → Inv X X.w0 X.S0 X.r0 (fO ow) → vs.size = args.length → (∀ j, j < args.length → Rel X.S0 X.w0 X.r0 (args.getD j .any) (vs.getD j undef)) →
    Calls P f vs X.w0 fun e w' => ∃ S' r', e = .panicked (pchain pv) ∧ Hist X w' S' ∧ Inv X w' S' r' (fO ow') ∧ RhoLe X.r0 r'
section
variable {P : Program} {X : Ctx} {n : Nat} {fr : Fr} {ow : Ow} {d : D} {Q : Exit → Fr → Ow → Prop}
theorem zdO {ops : Array Oper} {Q : Exit → Act → World → Prop} (m : Nat) : ∀ {l : List Oper} {k : Nat} {F : Nat → D} {O : Nat → Option Own} {es : List Eff} {F' : Nat → D} {O' : Nat → Option Own},
    Ch P X n ops.toList l F O es F' O' → (∀ j, j < l.length → l[j]? = ops[k + j]?) → (∀ a w, Rep X n F' O' a w → ∀ rd, wpOpsIn (fR rd) 0 P ops Q (List.range' (k + l.length) m) a w) → ∀ a w, Rep X n F O a w → ∀ rd, wpOpsIn (fR rd) 0 P ops Q (List.range' k (l.length + m)) a w
  | _, k, _, _, _, _, _, .nil F O, _, hQ, a, w, hr => fun rd => by simpa using hQ a w hr rd
  | _, k, _, _, _, _, _, .cons o rest F O e es F' O' h t, hl, hQ, a, w, hr => fun rd => by
    have h0 : ops[k]? = some o := by simpa using (hl 0 (by simp)).symm
    rw [List.length_cons, Nat.add_right_comm, List.range'_succ, wpOpsIn_cons]
    refine zbJ h0 (h F O (fun _ _ => rfl) (fun _ _ => rfl)) hr (fun a' w' h' => ?_) rd
    refine zdO m t (fun j hj => by have := hl (j + 1) (by simpa using hj); simpa [Nat.add_assoc, Nat.add_comm 1 j] using this) (fun a w hr rd => ?_) a' w' h' rd
    have := hQ a w hr rd
    rwa [List.length_cons, show k + (rest.length + 1) = k + 1 + rest.length by omega] at this
theorem CtrP.of0 {f : FuncId} {args : List D} {ow ow' : Ow} {pv : Value}
    (h : ∀ (X : Ctx) (vs : Array Value), X.dfs = [] → X.ids = ow.map (·.1) → Hist X X.w0 X.S0 → Inv X X.w0 X.S0 X.r0 (fO ow) → vs.size = args.length → (∀ j, j < args.length → Rel X.S0 X.w0 X.r0 (args.getD j .any) (vs.getD j undef)) →
      Calls P f vs X.w0 fun e w' => ∃ S' r', e = .panicked (pchain pv) ∧ Hist X w' S' ∧ Inv X w' S' r' (fO ow') ∧ RhoLe X.r0 r') : CtrP P f args ow pv ow' := fun X vs hids hH hI hn hr =>
  (h { X with dfs := [] } vs rfl hids (hH.re []) (hI.re []) hn hr).mono fun _ _ ⟨S', r', h1, h3, h4, h5⟩ => ⟨S', r', h1, h3.un, h4.un, h5⟩
theorem CtrP.of_T {f : FuncId} {fn : Func} {c : Code} {N : Nat} {args : List D} {pv : Value} {lo lo' : Ow} (hf : P.funcs[f]? = some fn) (hb : fn.body = some c) (hN : fn.ntmps = N) (hlen : args.length ≤ N) (hok : lo'.all (fun x => x.2.okIn (lo'.map (·.1))) = true) (hids : lo'.map (·.1) = lo.map (·.1))
    (h : ∀ X : Ctx, Lent X → X.ids = lo.map (·.1) → T P X N c (slots 0 args) lo (fun e _fr2 ow2 => e = .panic (pchain pv) ∧ leOw ow2 lo')) : CtrP P f args lo pv lo' := by
  refine CtrP.of0 fun X vs hdf0 hid hH hI hsz hrel => ?_
  have hL : Lent X := fun k hk => by
    rw [hid]
    cases hmem : look k lo with
    | none => exact absurd (hI.dom k hmem) hk
    | some o =>
      by_cases hm : k ∈ lo.map (·.1)
      · exact hm
      · rw [zaK hm] at hmem; cases hmem
  refine calls_of_wp hf hb ?_
  have hrep : Rep X N (fF (slots 0 args)) (fO lo) { tmps := vs ++ Array.replicate (fn.ntmps - vs.size) undef, defers := [] } X.w0 := by
    refine ⟨X.S0, X.r0, hH, hI, fun t => ?_, hdf0.symm, by simp; omega, RhoLe.refl _⟩
    show Rel _ _ _ (getD' t (slots 0 args)) _
    rw [zaZ]
    simp only [Nat.zero_le, if_true, Nat.sub_zero]
    by_cases ht : t < args.length
    · have := hrel t ht
      rw [Array.getD_eq_getD_getElem?, Array.getElem?_append_left (by omega), ← Array.getD_eq_getD_getElem?]
      exact this
    · rw [List.getD_eq_getElem?_getD, List.getElem?_eq_none (by omega)]
      exact .any ..
  refine wp_mono (h X hL hid _ _ hrep).wide fun e a w ⟨fr2, ow2, ⟨he, hlo⟩, hrep2⟩ => ?_
  obtain ⟨S, r, hH2, hI2, hF2, hd2, _, hρ2⟩ := hrep2
  subst he
  refine ⟨hd2.trans hdf0, S, keepR r (lo'.map (·.1)), rfl, hH2, hI2.keep hlo hok, fun k l hk => ?_⟩
  obtain ⟨l', g1, g2⟩ := hρ2 k l hk
  have : k ∈ lo'.map (·.1) := by
    rw [hids, ← hid]
    exact hL k (by rw [hk]; simp)
  exact ⟨l', by simp only [keepR]; rw [if_pos this]; exact g1, g2⟩
end
section
variable {X : Ctx} {n : Nat} {all rest : List Oper} {fr : Fr} {ow : Ow} {Q : Exit → Fr → Ow → Prop}
variable {t : Nat} {op : Op} {ty : TypeId} {pos : String} {af : Array Edge} {d : D} {f : FuncId} {args : List D} {pv : Value} {dst : Option Tmp}
def Pnc (pv : Value) (Q : Exit → Fr → Ow → Prop) (fr : Fr) (ow : Ow) : Prop := Q (.panic (pchain pv)) fr ow
end
attribute [irreducible] Pnc
end Go.Proofs.YtkkaamhocpmhkaaGreatDoor.Flow

namespace Go.Proofs.YtkkaamhocpmhkaaGreatDoor.Flow
section
variable {P : Program} {X : Ctx} {n : Nat}
def splitOp3 : Nat → List Oper → (List Oper → Oper → List Oper → Prop) → Prop
  | 0, o :: r, K => K [] o r
  | k + 1, a :: r, K => splitOp3 k r fun pre o post => K (a :: pre) o post
  | _, [], _ => False
theorem zco : ∀ {k : Nat} {ops : List Oper} {K : List Oper → Oper → List Oper → Prop}, splitOp3 k ops K → ∃ pre o post, ops = pre ++ o :: post ∧ pre.length = k ∧ K pre o post
  | 0, o :: r, _, h => ⟨[], o, r, rfl, rfl, h⟩
  | k + 1, a :: r, _, h => by
    obtain ⟨pre, o, post, h1, h2, h3⟩ := zco (k := k) (ops := r) h
    exact ⟨a :: pre, o, post, by rw [h1]; rfl, by simp [h2], h3⟩
  | 0, [], _, h => h.elim
  | k + 1, [], _, h => h.elim
variable {fr : Fr} {ow : Ow} {Q : Exit → Fr → Ow → Prop}
end
section
variable {X : Ctx} {n : Nat} {all post : List Oper} {fr : Fr} {ow ow0 : Ow} {Q : Exit → Fr → Ow → Prop} {tr : List (List Nat × List Nat)}
variable {t p : Nat} {op : Op} {ty : TypeId} {pos : String} {af : Array Edge} {f : FuncId} {args : List D} {pv : Value}
end
end Go.Proofs.YtkkaamhocpmhkaaGreatDoor.Flow

namespace Go.Proofs.YtkkaamhocpmhkaaGreatDoor.Flow
section
variable {P : Program} {X : Ctx} {n : Nat} {o : Oper} {fr : Fr} {ow : Ow} {T : TypeId} {x : Operand} {k1 k2 : IntKind} {a b : Int} {fs : Array Field}
end
section
variable {X : Ctx} {n : Nat} {all rest : List Oper} {fr : Fr} {ow : Ow} {tr : List (List Nat × List Nat)} {K : Fr → Ow → List (List Nat × List Nat) → Prop} {Q : Exit → Fr → Ow → Prop}
variable {t : Nat} {ty T : TypeId} {ps : String} {af : Array Edge} {x : Operand} {k1 k2 : IntKind} {a b : Int} {fs : Array Field} {pv : Value} {tt : TypeId}
end
section
variable {n : Nat} {fr : Fr} {ow : Ow} {pv : Value} {f : FuncId} {args : List D}
end
end Go.Proofs.YtkkaamhocpmhkaaGreatDoor.Flow

namespace Go.Proofs.YtkkaamhocpmhkaaGreatDoor.Flow
section
variable {P : Program} {X : Ctx} {n : Nat}
end
def CtrD (P : Program) (f : FuncId) (args : List D) (ow : Ow) (u : FrameMode) (ow' : Ow) (u' : FrameMode) : Prop :=
  ∀ (X : Ctx) (vs : Array Value), X.dfs = [] → X.ids = ow.map (·.1) → Hist X X.w0 X.S0 → Inv X X.w0 X.S0 X.r0 (fO ow) → vs.size = args.length → (∀ j, j < args.length → Rel X.S0 X.w0 X.r0 (args.getD j .any) (vs.getD j undef)) →
    CallsD P f vs u X.w0 fun e u1 w' => (∃ v, e = .returned v) ∧ u1 = u' ∧ ∃ S' r', Hist X w' S' ∧ Inv X w' S' r' (fO ow') ∧ RhoLe X.r0 r'
def TD (P : Program) (X : Ctx) (n : Nat) (c : Code) (fr : Fr) (ow : Ow) (R : Exit → Act → World → Prop) : Prop := ∀ a w, Rep X n (fF fr) (fO ow) a w → c.wp P R a w
def TS (P : Program) (X : Ctx) (n : Nat) (c : Code) (fr : Fr) (ow : Ow) (cs : List Frame) (R : Exit → Act → List Frame → World → Prop) : Prop := ∀ a w, Rep X n (fF fr) (fO ow) a w → c.wpS P R a cs w
section
variable {P : Program} {X : Ctx} {n : Nat} {fr : Fr} {ow : Ow}
theorem TD.out {c : Code} {R : Exit → Act → World → Prop} (h : TD P X n c fr ow R) : ∀ a w, Rep X n (fF fr) (fO ow) a w → c.wp P R a w := h
theorem TD.into {c : Code} {R : Exit → Act → World → Prop} (h : ∀ a w, Rep X n (fF fr) (fO ow) a w → c.wp P R a w) : TD P X n c fr ow R := h
theorem TD.seqR {x y : Code} {R : Exit → Act → World → Prop} (h : TD P X n x fr ow (Exit.then (fun a w => y.wp P R a w) R)) : TD P X n (.seq x y) fr ow R := fun a w hr => wp_seq (h a w hr)
theorem TD.blockR {id : Nat} {c : Code} {R : Exit → Act → World → Prop} (h : TD P X n c fr ow (Exit.inBlock id R)) : TD P X n (.block id c) fr ow R := fun a w hr => wp_block (h a w hr)
theorem TD.seq {x y : Code} {R : Exit → Act → World → Prop} (h : T P X n x fr ow (thenQ (fun fr ow => TD P X n y fr ow R) (fun e fr ow => ∀ a w, Rep X n (fF fr) (fO ow) a w → R e a w))) : TD P X n (.seq x y) fr ow R := fun a w hr => by
  refine wp_seq (wp_mono (h a w hr).wide fun e a' w' hq => ?_)
  obtain ⟨fr', ow', h1, h2⟩ := hq
  cases e with
  | normal => exact h1 a' w' h2
  | _ => exact h1 a' w' h2
theorem TD.last {c : Code} {R : Exit → Act → World → Prop} (h : T P X n c fr ow (fun e fr ow => ∀ a w, Rep X n (fF fr) (fO ow) a w → R e a w)) : TD P X n c fr ow R := fun a w hr =>
  wp_mono (h a w hr).wide fun _ a' w' ⟨_, _, h1, h2⟩ => h1 a' w' h2
theorem TS.seq {x y : Code} {cs : List Frame} {R : Exit → Act → List Frame → World → Prop} (h : TS P X n x fr ow cs (Exit.thenS (fun a cs w => y.wpS P R a cs w) R)) : TS P X n (.seq x y) fr ow cs R := fun a w hr => wpS_seq (h a w hr)
theorem CtrD.of_TS {f : FuncId} {fn : Func} {c : Code} {N : Nat} {args : List D} {lo lo' : Ow} {u u' : FrameMode} {ids : List Nat} (hf : P.funcs[f]? = some fn) (hb : fn.body = some c) (hN : fn.ntmps = N) (hrs : fn.results = #[]) (hlen : args.length ≤ N)
    (hi1 : lo.map (·.1) = ids) (hi2 : lo'.map (·.1) = ids) (hcs : lo'.all (fun x => x.2.okIn ids) = true)
    (h : ∀ (X : Ctx) (c₀ : Frame) (cs : List Frame), Lent X → X.ids = ids → X.dfs = [] → c₀.mode = u → TS P X N c (slots 0 args) lo (c₀ :: cs) fun e a cs2 w => (e = .normal ∨ e = .ret) ∧ cs2 = { c₀ with mode := u' } :: cs ∧ ∃ fr2 ow2, Rep X N (fF fr2) (fO ow2) a w ∧ leOw ow2 lo') : CtrD P f args lo u lo' u' := by
  intro X vs hdf0 hid hH hI hsz hrel
  have hL : Lent X := fun k hk => by
    rw [hid]
    cases hmem : look k lo with
    | none => exact absurd (hI.dom k hmem) hk
    | some o =>
      by_cases hm : k ∈ lo.map (·.1)
      · exact hm
      · rw [zaK hm] at hmem; cases hmem
  refine callsD_of_wpS hf hb fun c₀ cs hu => ?_
  have hrep : Rep X N (fF (slots 0 args)) (fO lo) { tmps := vs ++ Array.replicate (fn.ntmps - vs.size) undef, defers := [] } X.w0 := by
    refine ⟨X.S0, X.r0, hH, hI, fun t => ?_, hdf0.symm, by simp; omega, RhoLe.refl _⟩
    show Rel _ _ _ (getD' t (slots 0 args)) _
    rw [zaZ]
    simp only [Nat.zero_le, if_true, Nat.sub_zero]
    by_cases ht : t < args.length
    · have := hrel t ht
      rw [Array.getD_eq_getD_getElem?, Array.getElem?_append_left (by omega), ← Array.getD_eq_getD_getElem?]
      exact this
    · rw [List.getD_eq_getElem?_getD, List.getElem?_eq_none (by omega)]
      exact .any ..
  have key := h X c₀ cs hL (hid.trans hi1) hdf0 hu _ _ hrep
  have hres : ∀ (tmps : Array Value) (w : World), (results fn tmps).run P w = .ok (.tuple #[]) w := fun tmps w => by
    simp [zbc, hrs]
  intro b k hk hr
  obtain ⟨e, a', cs2, w', ⟨he, hcs2, fr2, ow2, hrep2, hlo⟩, harr⟩ := key b k hk hr
  refine ⟨e, a', cs2, w', ?_, harr⟩
  obtain ⟨S, r, hH2, hI2, hF2, hd2, _, hρ2⟩ := hrep2
  have hfin : ∃ S' r', Hist X w' S' ∧ Inv X w' S' r' (fO lo') ∧ RhoLe X.r0 r' := by
    refine ⟨S, keepR r (lo'.map (·.1)), hH2, hI2.keep hlo (by rw [hi2]; exact hcs), fun k l hk => ?_⟩
    obtain ⟨l', g1, g2⟩ := hρ2 k l hk
    have : k ∈ lo'.map (·.1) := by
      rw [hi2, ← hi1, ← hid]
      exact hL k (by rw [hk]; simp)
    exact ⟨l', by simp only [keepR]; rw [if_pos this]; exact g1, g2⟩
  rcases he with rfl | rfl
  · exact ⟨hd2.trans hdf0, u', hcs2, .tuple #[], hres _ _, ⟨_, rfl⟩, rfl, hfin⟩
  · exact ⟨hd2.trans hdf0, u', hcs2, .tuple #[], hres _ _, ⟨_, rfl⟩, rfl, hfin⟩
structure Put (X X1 : Ctx) (f : FuncId) (ks : List Nat) (vs : Array Value) : Prop where
  w0 : X1.w0 = X.w0
  S0 : X1.S0 = X.S0
  L : X1.L = X.L
  ids : X1.ids = ks
  dfs : X1.dfs = [⟨.fn (.func f) vs, #[]⟩]
  size : vs.size = ks.length
  at' : ∀ j, j < ks.length → ∃ b, X1.r0 (ks.getD j 0) = some (.blk b) ∧ vs.getD j undef = .pointer (some ⟨b, 0, none⟩)
  lent : Lent X1
theorem TD.defer {id t : Nat} {f : FuncId} {ks : List Nat} {xs : List Operand} {ty1 ty2 : TypeId} {p1 p2 : String} {af1 af2 : Array Edge} {rest : Code} {R : Exit → Act → World → Prop}
    (hdf : X.dfs = []) (_hr0 : X.r0 = noRho) (ht : t < n) (hxs : xs.map (ev fr) = ks.map fun k => D.pv k 0)
    (h : ∀ X1 vs, Put X X1 f ks vs → TD P X1 n rest ((t, .fn f (ks.map fun k => .pv k 0)) :: fr) ow R) :
    TD P X n (.seq (.region id ⟨[⟨some t, .makeFunc (.func f) #[] ⟨xs⟩, ty1, p1, af1, none⟩, ⟨none, .defer ⟨.value (.tmp t), #[], #[]⟩, ty2, p2, af2, none⟩]⟩ false) rest) fr ow R := fun a w hr => by
  generalize ho1 : (⟨some t, .makeFunc (.func f) #[] ⟨xs⟩, ty1, p1, af1, none⟩ : Oper) = o1
  generalize ho2 : (⟨none, .defer ⟨.value (.tmp t), #[], #[]⟩, ty2, p2, af2, none⟩ : Oper) = o2
  refine wp_seq (wp_region ?_)
  have hs : step (tb P) (ev fr) (fun k => look k ow) o1 = some ⟨.fn f (ks.map fun k => .pv k 0), True, [], []⟩ := by
    rw [← ho1]
    show fzA (xs.map (ev fr)) (fun l => Stp.pure (.fn f l)) = _
    rw [zbx, hxs]
    rfl
  have hst := zbu (P := P) (X := X) (n := n) hs True.intro (by rw [← ho1]; exact ht) (fF fr) (fO ow) (fun x _ => zaP fr x) (fun _ _ => rfl)
  have hr2 : List.range (⟨[o1, o2]⟩ : Array Oper).size = [0, 1] := rfl
  have h01 : (⟨[o1, o2]⟩ : Array Oper)[0]? = some o1 := rfl
  have h02 : (⟨[o1, o2]⟩ : Array Oper)[1]? = some o2 := rfl
  have hg1 : o1.guard = none := by rw [← ho1]
  have hg2 : o2.guard = none := by rw [← ho2]
  rw [hr2]
  simp only [wpOps, h01, h02, Region.wanted, hg1, hg2, if_true]
  refine .inl (OW.left (hst a w _ _ hr fun v w1 hrep => ?_))
  left
  have hd1 : o1.dst = some t := by rw [← ho1]
  rw [hd1] at hrep ⊢
  obtain ⟨S, r, hH, hI, hF, hdfs, hn, hρ⟩ := hrep
  generalize a.put (some t) v = a1 at *
  have hft := hF t
  rw [show updF (fF fr) (some t) (.fn f (ks.map fun k => .pv k 0)) t = .fn f (ks.map fun k => .pv k 0) by simp [updF]] at hft
  generalize hu : a1.tmps.getD t undef = u at hft
  cases hft with
  | fn _ _ _ vs hvn hvr =>
    have hev : a1.eval (.tmp t) = .func (.func f) #[] vs := hu
    have hrun : (execOp a1.eval o2).run P w1 = .ok (.defer ⟨.fn (.func f) vs, #[]⟩) w1 := by
      rw [← ho2]
      simp [execOp, resolve, hev, Deferred.ofValue]
    unfold Oper.wp
    rw [hrun]
    have hd2 : o2.dst = none := by rw [← ho2]
    show Exit.then (fun a w => rest.wp P R a w) R .normal ({ a1 with defers := ⟨.fn (.func f) vs, #[]⟩ :: a1.defers }.put o2.dst undef) w1
    rw [hd2]
    let X1 : Ctx := { w0 := X.w0, S0 := X.S0, L := X.L, r0 := keepR r ks, ids := ks, dfs := [⟨.fn (.func f) vs, #[]⟩] }
    have hvs : vs.size = ks.length := by simpa using hvn
    have hput : Put X X1 f ks vs := by
      refine ⟨rfl, rfl, rfl, rfl, rfl, hvs, fun j hj => ?_, fun k hk => ?_⟩
      · have h1 := hvr j (by simpa using hj)
        rw [show (ks.map fun k => D.pv k 0).getD j .any = .pv (ks.getD j 0) 0 by simp [List.getD_eq_getElem?_getD, hj]] at h1
        generalize vs.getD j undef = x at h1 ⊢
        cases h1 with
        | pv _ _ _ b hb =>
          refine ⟨b, ?_, rfl⟩
          show keepR r ks (ks.getD j 0) = some (.blk b)
          rw [keepR, if_pos]
          · exact hb
          · rw [List.getD_eq_getElem?_getD, List.getElem?_eq_getElem hj, Option.getD_some]
            exact List.getElem_mem hj
      · have hk : keepR r ks k ≠ none := hk
        show k ∈ ks
        rw [keepR] at hk
        by_cases hm : k ∈ ks
        · exact hm
        · rw [if_neg hm] at hk
          exact absurd rfl hk
    refine h X1 vs hput _ w1 ?_
    refine ⟨S, r, ⟨hH.os, hH.tape, hH.output, hH.size, hH.block, hH.sub, hH.cell, hH.new, hH.valid, hH.glob⟩, ⟨hI.obj, hI.dom, hI.apart, hI.low⟩, fun z => ?_, ?_, hn, fun k l hk => ?_⟩
    · rw [zaD]
      exact hF z
    · show ⟨.fn (.func f) vs, #[]⟩ :: a1.defers = [⟨.fn (.func f) vs, #[]⟩]
      rw [hdfs, hdf]
    · have hk : keepR r ks k = some l := hk
      rw [keepR] at hk
      by_cases hm : k ∈ ks
      · rw [if_pos hm] at hk
        exact ⟨l, hk, LocLe.refl l⟩
      · rw [if_neg hm] at hk
        cases hk
end
attribute [irreducible] TD
end Go.Proofs.YtkkaamhocpmhkaaGreatDoor.Flow

namespace Go.Proofs.YtkkaamhocpmhkaaGreatDoor.Flow
section
variable {P : Program} {X : Ctx} {n : Nat} {o : Oper} {fr : Fr} {ow : Ow} {T xT : TypeId} {x : Operand} {k1 k2 : IntKind} {a b : Int} {fs : Array Field} {zd : D}
end
section
variable {X : Ctx} {n : Nat} {all rest : List Oper} {fr : Fr} {ow : Ow} {tr : List (List Nat × List Nat)} {K : Fr → Ow → List (List Nat × List Nat) → Prop}
variable {t : Nat} {ty T xT : TypeId} {ps : String} {af : Array Edge} {x : Operand} {k1 k2 : IntKind} {a b : Int} {fs : Array Field} {zd : D}
end
section
variable {X : Ctx} {n : Nat} {fr : Fr} {ow : Ow} {Q : Exit → Fr → Ow → Prop} {R : Exit → Act → World → Prop}
end
end Go.Proofs.YtkkaamhocpmhkaaGreatDoor.Flow

namespace Go.Proofs.YtkkaamhocpmhkaaGreatDoor.Flow
section
variable {X : Ctx} {n : Nat} {fr : Fr} {ow : Ow}
def Raw (X : Ctx) (n : Nat) (R : Exit → Act → World → Prop) (e : Exit) (fr : Fr) (ow : Ow) : Prop := ∀ a w, Rep X n (fF fr) (fO ow) a w → R e a w
theorem n_raw {R : Exit → Act → World → Prop} (h : Stay (∀ a w, Rep X n (fF fr) (fO ow) a w → R .normal a w)) : Nrm (Raw X n R) fr ow := by
  unfold Nrm
  exact h.out
theorem x_raw {R : Exit → Act → World → Prop} (h : Stay (∀ a w, Rep X n (fF fr) (fO ow) a w → R .ret a w)) : Rtn (Raw X n R) fr ow := by
  unfold Rtn
  exact h.out
theorem zgp {x y : Code} {R : Exit → Act → World → Prop} (h : T Tryz.prog X n x fr ow (thenQ (fun fr ow => TD Tryz.prog X n y fr ow R) (Raw X n R))) : TD Tryz.prog X n (.seq x y) fr ow R := TD.seq h
theorem ziq {c : Code} {R : Exit → Act → World → Prop} (h : T Tryz.prog X n c fr ow (Raw X n R)) : TD Tryz.prog X n c fr ow R := TD.last h
end
end Go.Proofs.YtkkaamhocpmhkaaGreatDoor.Flow

namespace Go.Proofs.YtkkaamhocpmhkaaGreatDoor.Flow
open Go
section
variable {P : Program} {X : Ctx} {n : Nat} {fr : Fr} {ow : Ow} {d : D}
theorem zfl {w : World} {S : Cells} {r : Rho} {O' : Nat → Option Own} {args : List D} {vs : Array Value} {lo lo' : Ow} {ids : List Nat} (hH : Hist X w S) (hI : Inv X w S r O') (hOk : ∀ k o, look k lo = some o → O' k = some o)
    (hi1 : lo.map (·.1) = ids) (hi2 : lo'.map (·.1) = ids) (hnd : ids.Nodup)
    (hok : (args.map (lendA ids)).all (D.okIn ids) = true) (hf1 : lo.all (fun x => x.2.okIn ids) = true) (hf2 : lo'.all (fun x => x.2.okIn ids) = true) (hf3 : d.okIn ids = true)
    (hrel : ∀ j, j < args.length → Rel S w r (args.getD j .any) (vs.getD j undef))
    {Run : (Ending → World → Prop) → Prop} (hmono : ∀ R R' : Ending → World → Prop, (∀ e w, R e w → R' e w) → Run R → Run R')
    (hC : ∀ L : Nat → Prop, Hist ⟨w, S, L, keepR r ids, ids, []⟩ w S → Inv ⟨w, S, L, keepR r ids, ids, []⟩ w S (keepR r ids) (fO lo) →
      (∀ j, j < (args.map (lendA ids)).length → Rel S w (keepR r ids) ((args.map (lendA ids)).getD j .any) (vs.getD j undef)) →
      Run fun e w' => ∃ v S' r', e = .returned v ∧ Rel S' w' r' d v ∧ Hist ⟨w, S, L, keepR r ids, ids, []⟩ w' S' ∧ Inv ⟨w, S, L, keepR r ids, ids, []⟩ w' S' r' (fO lo') ∧ RhoLe (keepR r ids) r') :
    Run fun e w' => ∃ v S' r2, e = .returned v ∧ Rel S' w' r2 d v ∧ Hist X w' S' ∧ Inv X w' S' r2 (updO O' lo') ∧ (∀ b o, S b o → S' b o) ∧ (∀ b o, S b o → w'.cell? ⟨b, o, none⟩ = w.cell? ⟨b, o, none⟩) ∧ RhoLe r r2 := by
  have hmem : ∀ k, k ∈ ids → ∃ o, look k lo = some o := fun k h => zaT (by rw [hi1]; exact h)
  have hmem' : ∀ k, k ∈ ids → ∃ o, look k lo' = some o := fun k h => zaT (by rw [hi2]; exact h)
  have hin : ∀ k o, look k lo = some o → k ∈ ids ∧ o.okIn ids = true := fun k o h => by
    have h1 := zaL h
    rw [List.all_eq_true] at hf1
    exact ⟨by rw [← hi1]; exact List.mem_map.2 ⟨(k, o), h1, rfl⟩, hf1 _ h1⟩
  have hin' : ∀ k o, look k lo' = some o → k ∈ ids ∧ o.okIn ids = true := fun k o h => by
    have h1 := zaL h
    rw [List.all_eq_true] at hf2
    exact ⟨by rw [← hi2]; exact List.mem_map.2 ⟨(k, o), h1, rfl⟩, hf2 _ h1⟩
  have hblt : ∀ k l b, r k = some l → l.block = some b → b < w.heap.size := fun k l b hl hb => by
    cases ho : O' k with
    | none => rw [hI.dom k ho] at hl; cases hl
    | some o => exact (hI.obj k o ho).blockLt hl hb
  let X' : Ctx := ⟨w, S, fun b => ∃ k ∈ ids, ∃ l, r k = some l ∧ l.block = some b, keepR r ids, ids, []⟩
  have hH' : Hist X' w S := ⟨rfl, rfl, rfl, Nat.le_refl _, fun _ _ _ => rfl, fun _ _ h => h, fun _ _ _ => rfl, fun _ _ h => .inl h, hH.valid, hH.glob⟩
  have hI' : Inv X' w S X'.r0 (fO lo) := by
    refine ⟨fun k o hk' => ?_, fun k hk' => ?_, fun i j l l' b' hij hl hl' hb' => ?_, fun k l b' hl hb' => ?_⟩
    · obtain ⟨h1, h2⟩ := hin k o hk'
      exact (hI.obj k o (hOk k o hk')).okIn h2 (RhoLe.refl _) (if_pos h1)
    · refine if_neg fun hm => ?_
      obtain ⟨o, ho⟩ := hmem k hm
      rw [show fO lo k = look k lo from rfl, ho] at hk'
      cases hk'
    · have hl : keepR r ids i = some l := hl
      have hl' : keepR r ids j = some l' := hl'
      simp only [keepR] at hl hl'
      split at hl <;> first | (cases hl; done) | skip
      split at hl' <;> first | (cases hl'; done) | skip
      exact hI.apart i j l l' b' hij hl hl' hb'
    · have hl : keepR r ids k = some l := hl
      simp only [keepR] at hl
      split at hl <;> first | (cases hl; done) | skip
      rename_i hm
      exact .inr ⟨k, hm, l, hl, hb'⟩
  have hrel' : ∀ j, j < (args.map (lendA ids)).length → Rel S w X'.r0 ((args.map (lendA ids)).getD j .any) (vs.getD j undef) := by
    intro j hj
    have hj' : j < args.length := by simpa using hj
    have e : (args.map (lendA ids)).getD j .any = lendA ids (args.getD j .any) := by simp [List.getD_eq_getElem?_getD, hj']
    have hokj : (lendA ids (args.getD j .any)).okIn ids = true := by
      rw [← e]
      rw [List.all_eq_true] at hok
      refine hok _ ?_
      simp only [List.getD_eq_getElem?_getD, List.getElem?_eq_getElem hj, Option.getD_some]
      exact List.getElem_mem hj
    rw [e]
    have hr := hrel j hj'
    generalize args.getD j .any = dj at hr hokj
    generalize vs.getD j undef = vj at hr
    refine Rel.okIn (r := r) ?_ hokj
    cases dj with
    | gs k z m g =>
      simp only [lendA]
      split
      · exact hr
      · exact hr.shut
    | _ => exact hr
  refine hmono _ _ ?_ (hC X'.L hH' hI' hrel')
  rintro e w' ⟨v, S', r', rfl, g1, g2, g3, g4⟩
  let r2 : Rho := fun k => if k ∈ ids then r' k else r k
  have hr2 : RhoLe r r2 := fun k l hl => by
    by_cases hm : k ∈ ids
    · obtain ⟨l', h1, h2⟩ := g4 k l (by show keepR r ids k = some l; rw [keepR, if_pos hm]; exact hl)
      exact ⟨l', by show (if k ∈ ids then r' k else r k) = some l'; rw [if_pos hm]; exact h1, h2⟩
    · exact ⟨l, by show (if k ∈ ids then r' k else r k) = some l; rw [if_neg hm]; exact hl, LocLe.refl l⟩
  have hr3 : RhoLe (keepR r' ids) r2 := fun k l hl => by
    simp only [keepR] at hl
    split at hl <;> first | (cases hl; done) | skip
    rename_i hm
    exact ⟨l, by show (if k ∈ ids then r' k else r k) = some l; rw [if_pos hm]; exact hl, LocLe.refl l⟩
  have hXL : ∀ b, X'.L b → X.w0.heap.size ≤ b ∨ X.L b := fun b ⟨k, _, l, hl, hb⟩ => hI.low k l b hl hb
  have hother : ∀ k l b, k ∉ ids → r k = some l → l.block = some b → ¬ X'.L b := fun k l b hm hl hb ⟨k', hm', l', hl', hb'⟩ =>
    hI.apart k k' l l' b (fun e => hm (e ▸ hm')) hl hl' hb hb'
  refine ⟨v, S', r2, rfl, (g1.okIn hf3).mono (fun _ _ h => h) (fun _ _ _ => rfl) r2 hr3, ?_, ?_, g2.sub, g2.cell, hr2⟩
  · refine ⟨g2.os.trans hH.os, g2.tape.trans hH.tape, g2.output.trans hH.output, Nat.le_trans hH.size g2.size, fun k hk' hl => ?_, fun b o hb => g2.sub b o (hH.sub b o hb), fun b o hb => (g2.cell b o (hH.sub b o hb)).trans (hH.cell b o hb), fun b o hb => ?_, g2.valid, g2.glob⟩
    · refine (g2.block k (Nat.lt_of_lt_of_le hk' hH.size) fun hx => ?_).trans (hH.block k hk' hl)
      rcases hXL k hx with h | h
      · omega
      · exact hl h
    · rcases g2.new b o hb with h | h | h
      · exact hH.new b o h
      · exact .inr (.inl (Nat.le_trans hH.size h))
      · rcases hXL b h with h | h
        · exact .inr (.inl h)
        · exact .inr (.inr h)
  · have hnd' : (lo'.map (·.1)).Nodup := by rw [hi2]; exact hnd
    have hup : ∀ k, k ∉ ids → updO O' lo' k = O' k := fun k hm => by
      rw [zaN hnd', zaK (by rw [hi2]; exact hm)]
    refine ⟨fun k o hk' => ?_, fun k hk' => ?_, fun i j l l' b hij hl hl' hb => ?_, fun k l b hl hb => ?_⟩
    · by_cases hm : k ∈ ids
      · obtain ⟨o', ho'⟩ := hmem' k hm
        rw [zaN hnd', ho'] at hk'
        obtain rfl : o' = o := Option.some.inj hk'
        exact (g3.obj k o' ho').okIn (hin' k o' ho').2 hr3 (if_pos hm)
      · rw [hup k hm] at hk'
        refine (hI.obj k o hk').keepL g2.sub g2.cell hr2 (if_neg hm) (fun l b hl hb => g2.block b (hblt k l b hl hb) (hother k l b hm hl hb)) (fun b o hs => ?_)
        rcases g2.new b o hs with h | h | h
        · exact .inl h
        · refine .inr fun l hl hb => ?_
          have := hblt k l b hl hb
          have h : w.heap.size ≤ b := h
          omega
        · exact .inr fun l hl hb => hother k l b hm hl hb h
    · by_cases hm : k ∈ ids
      · obtain ⟨o', ho'⟩ := hmem' k hm
        rw [zaN hnd', ho'] at hk'
        cases hk'
      · rw [hup k hm] at hk'
        exact (if_neg hm).trans (hI.dom k hk')
    · have hl : (if i ∈ ids then r' i else r i) = some l := hl
      have hl' : (if j ∈ ids then r' j else r j) = some l' := hl'
      by_cases h1 : i ∈ ids
      · rw [if_pos h1] at hl
        by_cases h2 : j ∈ ids
        · rw [if_pos h2] at hl'
          exact g3.apart i j l l' b hij hl hl' hb
        · rw [if_neg h2] at hl'
          intro hb'
          rcases g3.low i l b hl hb with h | h
          · have := hblt j l' b hl' hb'
            have h : w.heap.size ≤ b := h
            omega
          · exact hother j l' b h2 hl' hb' h
      · rw [if_neg h1] at hl
        by_cases h2 : j ∈ ids
        · rw [if_pos h2] at hl'
          intro hb'
          rcases g3.low j l' b hl' hb' with h | h
          · have := hblt i l b hl hb
            have h : w.heap.size ≤ b := h
            omega
          · exact hother i l b h1 hl hb h
        · rw [if_neg h2] at hl'
          exact hI.apart i j l l' b hij hl hl' hb
    · have hl : (if k ∈ ids then r' k else r k) = some l := hl
      by_cases h1 : k ∈ ids
      · rw [if_pos h1] at hl
        rcases g3.low k l b hl hb with h | h
        · exact .inl (Nat.le_trans hH.size h)
        · exact hXL b h
      · rw [if_neg h1] at hl
        exact hI.low k l b hl hb
structure Stab (Hx : Cells → World → Rho → Prop) (ids : List Nat) : Prop where
  mono : ∀ {S S' : Cells} {w w' : World} {r r' : Rho}, Hx S w r → (∀ b o, S b o → S' b o) → (∀ b o, S b o → w'.cell? ⟨b, o, none⟩ = w.cell? ⟨b, o, none⟩) → RhoLe r r' → Hx S' w' r'
  keep : ∀ {S : Cells} {w : World} {r : Rho}, Hx S w r → Hx S w (keepR r ids)
def CtrH (P : Program) (f : FuncId) (Hx : Cells → World → Rho → Prop) (args : List D) (ow : Ow) (d : D) (ow' : Ow) : Prop :=
  ∀ (X : Ctx) (vs : Array Value), X.dfs = [] → X.ids = ow.map (·.1) → Hx X.S0 X.w0 X.r0 → Hist X X.w0 X.S0 → Inv X X.w0 X.S0 X.r0 (fO ow) → vs.size = args.length → (∀ j, j < args.length → Rel X.S0 X.w0 X.r0 (args.getD j .any) (vs.getD j undef)) →
    Calls P f vs X.w0 fun e w' => ∃ v S' r', e = .returned v ∧ Rel S' w' r' d v ∧ Hist X w' S' ∧ Inv X w' S' r' (fO ow') ∧ RhoLe X.r0 r'
def YC (P : Program) (l : Nat) (Hx : Cells → World → Rho → Prop) (args : List D) (ow : Ow) (out : Bool) (ow' : Ow) : Prop :=
  ∀ (X : Ctx) (vs : Array Value), X.dfs = [] → X.ids = ow.map (·.1) → Hx X.S0 X.w0 X.r0 → Hist X X.w0 X.S0 → Inv X X.w0 X.S0 X.r0 (fO ow) → vs.size = args.length → (∀ j, j < args.length → Rel X.S0 X.w0 X.r0 (args.getD j .any) (vs.getD j undef)) →
    YieldAt Fence.wide 0 P l vs X.w0 fun e w' => ∃ v S' r', e = .returned v ∧ Rel S' w' r' (.b out) v ∧ Hist X w' S' ∧ Inv X w' S' r' (fO ow') ∧ RhoLe X.r0 r'
theorem zfr {F : Fence} {m : Nat} {l : Nat} {vs : Array Value} {W : World} {R R' : Ending → World → Prop} (h : YieldAt F m P l vs W R) (hr : ∀ e w, R e w → R' e w) : YieldAt F m P l vs W R' :=
  let ⟨fn, tmps, assign, body, h1, h2⟩ := h
  ⟨fn, tmps, assign, body, h1, h2.mono hr⟩
def yieldOf (fr : Fr) : Op → Option (Nat × List D)
  | .call { callee := .value g, args := ⟨xs⟩, .. } => match ev fr g with
    | .v (.func (.yield l) ⟨[]⟩ ⟨[]⟩) => fzA (evs fr xs) fun a => some (l, a)
    | _ => none
  | _ => none
theorem zgC {o : Oper} {l : Nat} {args : List D} (hc : yieldOf fr o.op = some (l, args)) {S : Cells} {w : World} {r : Rho} {a : Act} (hr : ∀ x, Rel S w r (ev fr x) (a.eval x)) :
    ∃ vs : Array Value, (∀ y, (Instr.yield l vs).run P w = .ok y w → (execOp a.eval o).run P w = .ok y w) ∧ (∀ c, o.op ≠ .defer c) ∧ vs.size = args.length ∧ ∀ j, j < args.length → Rel S w r (args.getD j .any) (vs.getD j undef) := by
  unfold yieldOf at hc
  split at hc <;> first | (cases hc; done) | skip
  rename_i gg xs ts ho
  split at hc <;> first | (cases hc; done) | skip
  rename_i l' hg
  rw [zbx] at hc
  cases hc
  have h1 := hr gg
  rw [hg] at h1
  generalize hgv : a.eval gg = gv at h1
  cases h1 with
  | v =>
    refine ⟨(xs.map a.eval).toArray, fun y hy => ?_, fun c e => (by rw [ho] at e; cases e), by simp [zbM], fun j hj => zfZ (fun x _ => hr x) j (by rw [zbM] at hj; exact hj)⟩
    simp only [execOp, ho, Sem.run_bind, resolve, hgv, Deferred.ofValue, Sem.run_pure, Result.andThen_ok, invoke]
    simpa using hy
def YGoal (P : Program) (X : Ctx) (n : Nat) (Hx : Cells → World → Rho → Prop) (ops : List Oper) (Q : Exit → Fr → Ow → Prop) (o : Oper) (post : List Oper) (fr : Fr) (ow : Ow) : Prop :=
  o.guard = none ∧ ∃ t l args out lo lo' ids, o.dst = some t ∧ t < n ∧ yieldOf fr o.op = some (l, args) ∧ hasAll (fun k => look k ow) lo ∧ lo.map (·.1) = ids ∧ lo'.map (·.1) = ids ∧ ids.Nodup ∧ Stab Hx ids ∧
    (args.map (lendA ids)).all (D.okIn ids) = true ∧ lo.all (fun x => x.2.okIn ids) = true ∧ lo'.all (fun x => x.2.okIn ids) = true ∧ YC P l Hx (args.map (lendA ids)) lo out lo' ∧
    CT P X n ops post ((t, .b out) :: fr) (lo' ++ ow) [] fun fr ow _ => Q .normal fr ow
theorem T.regionY {Hx : Cells → World → Rho → Prop} {ids0 : List Nat} {id : Nat} {ops : List Oper} {Q : Exit → Fr → Ow → Prop} (hx : Hx X.S0 X.w0 X.r0) (hst : Stab Hx ids0) (k : Nat)
    (h : splitOp3 k ops fun pre o post => CT P X n ops pre fr ow [] fun fr1 ow1 _ => YGoal P X n Hx ops Q o post fr1 ow1) : T P X n (.region id ⟨ops⟩ false) fr ow Q := fun a w hr rd => by
  obtain ⟨pre, o, post, hs, _, es, fr1, ow1, hc, hg, t, l, args, out, lo, lo', ids, hd, ht, hy, hk, hi1, hi2, hnd, hst2, hok, hf1, hf2, hC, es2, fr2, ow2, hc2, hq⟩ := zco h
  refine wpIn_region ?_
  have hlen : (⟨ops⟩ : Array Oper).size = pre.length + (post.length + 1) := by
    show ops.length = _
    rw [hs]
    simp
  rw [List.range_eq_range', hlen]
  refine zdO (post.length + 1) (l := pre) (k := 0) hc (fun j hj => ?_) (fun a1 w1 hr1 rd => ?_) a w hr rd
  · show pre[j]? = ops.toArray[0 + j]?
    rw [Nat.zero_add, List.getElem?_toArray, hs, List.getElem?_append_left hj]
  · rw [Nat.zero_add, List.range'_succ, wpOpsIn_cons]
    have h0 : (⟨ops⟩ : Array Oper)[pre.length]? = some o := by
      show ops.toArray[pre.length]? = _
      rw [List.getElem?_toArray, hs]
      simp
    unfold wpOpIn
    simp only [h0, Region.wanted, hg, if_true]
    obtain ⟨S, r, hH, hI, hF, hdf, hn, hρ⟩ := hr1
    have hev : ∀ x, Rel S w1 r (ev fr1 x) (a1.eval x) := fun x => by
      have := zbK hH.glob hF x
      rwa [zaP] at this
    obtain ⟨vs, hrun, hnd2, hsz, hrel⟩ := zgC (P := P) hy hev
    have hx1 : Hx S w1 r := hst.mono hx hH.sub hH.cell hρ
    have core := zfl (d := .b out) (O' := fO ow1) hH hI (fun k o h => zbw hk k o h) hi1 hi2 hnd hok hf1 hf2 rfl hrel (Run := YieldAt Fence.wide 0 P l vs w1) (fun R R' hm hR => zfr hR hm)
      (fun L q1 q2 q3 => hC ⟨w1, S, L, keepR r ids, ids, []⟩ vs rfl hi1.symm (hst2.keep hx1) q1 q2 (by simpa using hsz) q3)
    obtain ⟨fn, tmps, assign, body, hyr, hround⟩ := core
    refine ⟨fun _ _ => trivial, ?_⟩
    rw [Oper.semAt_eq rd a1.eval o hnd2, hrun _ hyr]
    refine ⟨fun e => (by cases e), hround.mono ?_⟩
    rintro e w' ⟨v, S', r2, rfl, g1, g2, g3, g4, g5, g6⟩
    have hrep : Rep X n (fF ((t, .b out) :: fr1)) (fO (lo' ++ ow1)) (a1.put o.dst v) w' := by
      rw [hd, zaD, ziB (by rw [hi2]; exact hnd)]
      have htn : t < a1.tmps.size := hn.symm ▸ ht
      exact ⟨S', r2, g2, g3, zbO (dst := some t) (fun t => (hF t).mono g4 g5 r2 g6) htn g1, by rw [zbd]; exact hdf, by rw [zbD]; exact hn, hρ.trans g6⟩
    refine zcl (ops := ⟨ops⟩) (k := pre.length + 1) hc2 (fun j => ?_) (fun a' w' h' => ⟨fr2, ow2, hq, h'⟩) _ _ hrep rd
    · show post[j]? = ops.toArray[pre.length + 1 + j]?
      rw [List.getElem?_toArray, hs, List.getElem?_append_right (by omega), show pre.length + 1 + j - pre.length = j + 1 by omega, List.getElem?_cons_succ]
end

section
variable {P : Program} {X : Ctx} {n : Nat} {fr : Fr} {ow ow' : Ow} {d : D}
theorem CtrH.of_TU {Hx : Cells → World → Rho → Prop} {f : FuncId} {fn : Func} {c : Code} {N : Nat} {rs : List ResultVar} {args : List D} {d : D} (hf : P.funcs[f]? = some fn) (hb : fn.body = some c) (hN : fn.ntmps = N) (hrs : fn.results = ⟨rs⟩) (hlen : args.length ≤ N)
    (h : ∀ X : Ctx, Lent X → X.ids = ow.map (·.1) → X.dfs = [] → Hx X.S0 X.w0 X.r0 → T P X N c (slots 0 args) ow (fun e fr2 ow2 => (e = .ret ∨ e = .normal) ∧ ∃ d2, resU (tb P) fr2 ow2 rs = some d2 ∧ Weak d2 d ∧ d.okIn (ow'.map (·.1)) = true ∧ Le X fr2 ow2 [] ow')) :
    CtrH P f Hx args ow d ow' := by
  intro X vs hdf0 hids hx hH hI hsz hrel
  have hL : Lent X := fun k hk => by
    rw [hids]
    cases hmem : look k ow with
    | none => exact absurd (hI.dom k hmem) hk
    | some o =>
      by_cases hm : k ∈ ow.map (·.1)
      · exact hm
      · rw [zaK hm] at hmem; cases hmem
  refine calls_of_wp hf hb ?_
  have hrep : Rep X N (fF (slots 0 args)) (fO ow) { tmps := vs ++ Array.replicate (fn.ntmps - vs.size) undef, defers := [] } X.w0 := by
    refine ⟨X.S0, X.r0, hH, hI, fun t => ?_, hdf0.symm, by simp; omega, RhoLe.refl _⟩
    show Rel _ _ _ (getD' t (slots 0 args)) _
    rw [zaZ]
    simp only [Nat.zero_le, if_true, Nat.sub_zero]
    by_cases ht : t < args.length
    · have := hrel t ht
      rw [Array.getD_eq_getD_getElem?, Array.getElem?_append_left (by omega), ← Array.getD_eq_getD_getElem?]
      exact this
    · rw [List.getD_eq_getElem?_getD, List.getElem?_eq_none (by omega)]
      exact .any ..
  refine wp_mono (h X hL hids hdf0 hx _ _ hrep).wide fun e a w ⟨fr2, ow2, ⟨he, d2, h1, h2, h3, h4⟩, hrep2⟩ => ?_
  obtain ⟨S, r, hH2, hI2, hF2, hd2, _, hρ2⟩ := hrep2
  obtain ⟨v, hv, hvr⟩ := zcj (P := P) hrs hI2 hF2 h1
  have hok := h4.ok
  simp only [okAll, Bool.and_eq_true] at hok
  have hfin : ∃ v' S' r', Ending.returned v = .returned v' ∧ Rel S' w r' d v' ∧ Hist X w S' ∧ Inv X w S' r' (fO ow') ∧ RhoLe X.r0 r' := by
    refine ⟨v, S, keepR r (ow'.map (·.1)), rfl, ?_, hH2, hI2.keep h4.ow hok.2, fun k l hk => ?_⟩
    · exact (hvr.weak h2).okIn h3
    · obtain ⟨l', g1, g2⟩ := hρ2 k l hk
      have : k ∈ ow'.map (·.1) := h4.ids k (hL k (by rw [hk]; simp))
      exact ⟨l', by simp only [keepR]; rw [if_pos this]; exact g1, g2⟩
  rcases he with rfl | rfl
  · exact ⟨hd2.trans hdf0, v, hv, hfin⟩
  · exact ⟨hd2.trans hdf0, v, hv, hfin⟩
theorem zbQ {r r' : Rho} {k l : Nat} (h : r k = some (.blk l)) (hr : RhoLe r r') : r' k = some (.blk l) := by
  obtain ⟨l', h1, h2⟩ := hr k _ h
  cases l' with
  | row => simp [LocLe] at h2
  | blk b =>
    simp only [LocLe] at h2
    rw [h1, h2]
theorem zdC {ks : List Nat} : ∀ {fr : Fr}, fr.all (fun x => x.2.okIn ks) = true → ∀ t, (getD' t fr).okIn ks = true
  | [], _, t => rfl
  | (u, e) :: r, h, t => by
    rw [List.all_cons, Bool.and_eq_true] at h
    have ih := zdC h.2 t
    have e1 : fF ((u, e) :: r) t = updF (fF r) (some u) e t := by rw [zaD]
    show (fF ((u, e) :: r) t).okIn ks = true
    rw [e1]
    simp only [updF]
    split
    · exact h.1
    · exact ih
def Hl (kR l : Nat) (fr1 : Fr) (tmps : Array Value) : Cells → World → Rho → Prop := fun S w r => r kR = some (.blk l) ∧ ∀ t, Rel S w r (fF fr1 t) (tmps.getD t undef)
theorem Hl.stab {kR l : Nat} {fr1 : Fr} {tmps : Array Value} {ids : List Nat} (hk : kR ∈ ids) (hf : fr1.all (fun x => x.2.okIn ids) = true) : Stab (Hl kR l fr1 tmps) ids where
  mono := fun h hS hc hr => ⟨zbQ h.1 hr, fun t => (h.2 t).mono hS hc _ hr⟩
  keep := fun h => ⟨by simp only [keepR]; rw [if_pos hk]; exact h.1, fun t => (h.2 t).okIn (zdC hf t)⟩
def setFr : List Tmp → List D → Fr → Fr
  | p :: ps, d :: ds, fr => setFr ps ds ((p, d) :: fr)
  | _, _, fr => fr
theorem zjo {S : Cells} {w : World} {r : Rho} : ∀ {ps : List Tmp} {ds : List D} {vs : List Value} {fr : Fr} {tmps : Array Value}, ps.length = ds.length → vs.length = ds.length → (∀ p ∈ ps, p < tmps.size) →
    (∀ j, j < ds.length → Rel S w r (ds.getD j .any) (vs.getD j undef)) → (∀ t, Rel S w r (fF fr t) (tmps.getD t undef)) →
    (∀ t, Rel S w r (fF (setFr ps ds fr) t) (((ps.zip vs).foldl (fun tmps (x : Tmp × Value) => tmps.setIfInBounds x.1 x.2) tmps).getD t undef)) ∧ ((ps.zip vs).foldl (fun tmps (x : Tmp × Value) => tmps.setIfInBounds x.1 x.2) tmps).size = tmps.size
  | [], [], [], _, _, _, _, _, _, hf => ⟨hf, rfl⟩
  | p :: ps, d :: ds, v :: vs, fr, tmps, h1, h2, hp, hd, hf => by
    have h0 : Rel S w r d v := hd 0 (by simp)
    have hb : ∀ t, Rel S w r (fF ((p, d) :: fr) t) ((tmps.setIfInBounds p v).getD t undef) := fun t => by
      have := zbO (a := { tmps := tmps, defers := [] }) (dst := some p) hf (hp p (by simp)) h0 t
      rw [zaD]
      exact this
    have ih := zjo (ps := ps) (ds := ds) (vs := vs) (fr := (p, d) :: fr) (tmps := tmps.setIfInBounds p v) (by simpa using h1) (by simpa using h2) (fun q hq => by rw [Array.size_setIfInBounds]; exact hp q (by simp [hq])) (fun j hj => by
      have := hd (j + 1) (by simpa using hj)
      simpa using this) hb
    exact ⟨ih.1, ih.2.trans Array.size_setIfInBounds⟩
def EndsY (kR : Nat) (rec : Loop) (jump : Option Code) (lo' : Ow) (e : Exit) (_ : Fr) (ow : Ow) : Prop :=
  (match jump, e with
   | none, .normal => True
   | some .ret, .ret => True
   | some (.exit i), .exit j => i = j
   | _, _ => False) ∧ look kR ow = some (.ob (.loop { rec with state := .busy })) ∧
  leOw ((kR, .ob (.loop { rec with state := if jump.isNone then .ready else .done, pending := jump })) :: ow) lo'
theorem YC.of_T {l kR N : Nat} {rec : Loop} {fr1 : Fr} {args : List D} {lo lo' : Ow} {ids : List Nat} (jump : Option Code) (ps : List Tmp) (hps : rec.params = ⟨ps⟩) (hpl : ps.length = args.length) (hpn : ∀ p ∈ ps, p < N) (hN : rec.tmps.size = N)
    (hk : look kR lo = some (.ob (.loop rec))) (hst : rec.state = .ready) (hi1 : lo.map (·.1) = ids) (hi2 : lo'.map (·.1) = ids) (hcs : lo'.all (fun x => x.2.okIn ids) = true)
    (h : ∀ X : Ctx, Lent X → X.ids = ids → X.dfs = [] → T P X N rec.assign (setFr ps args fr1) lo
      (thenQ (fun fr ow => look kR ow = some (.ob (.loop rec)) ∧ T P X N rec.body fr ((kR, .ob (.loop { rec with state := .busy })) :: ow) (EndsY kR rec jump lo')) (fun _ _ _ => False))) :
    YC P l (Hl kR l fr1 rec.tmps) args lo jump.isNone lo' := by
  intro X vs hdf hids hx hH hI hsz hrel
  have hL : Lent X := fun k hk => by
    rw [hids]
    cases hmem : look k lo with
    | none => exact absurd (hI.dom k hmem) hk
    | some o =>
      by_cases hm : k ∈ lo.map (·.1)
      · exact hm
      · rw [zaK hm] at hmem; cases hmem
  have lies : ∀ {w : World} {S : Cells} {r : Rho} {O : Nat → Option Own} {x : Obj}, Inv X w S r O → RhoLe X.r0 r → O kR = some (.ob x) → w.heap[l]? = some x ∧ r kR = some (.blk l) := fun hI hr hO => by
    obtain ⟨b, h1, h2, _⟩ := hI.obj kR _ hO
    have h3 := zbQ hx.1 hr
    rw [h3] at h1
    cases h1
    exact ⟨h2, h3⟩
  obtain ⟨hheap, _⟩ := lies hI (RhoLe.refl _) hk
  have hvl : vs.toList.length = args.length := by simpa using hsz
  have hz : (rec.params.zip vs).foldl (fun tmps (t, a) => tmps.setIfInBounds t a) rec.tmps = (ps.zip vs.toList).foldl (fun tmps (x : Tmp × Value) => tmps.setIfInBounds x.1 x.2) rec.tmps := by
    rw [hps]
    obtain ⟨vl⟩ := vs
    simp
  have hset := zjo (S := X.S0) (w := X.w0) (r := X.r0) (ps := ps) (ds := args) (vs := vs.toList) (fr := fr1) (tmps := rec.tmps) hpl hvl (fun p hp => by rw [hN]; exact hpn p hp) (fun j hj => by
    have := hrel j hj
    simpa [Array.getD_eq_getD_getElem?, List.getD_eq_getElem?_getD] using this) hx.2
  refine ⟨rec.fn, _, rec.assign, rec.body, run_yield hheap (by rw [hps]; simp [hsz, hpl]), ?_⟩
  rw [hz]
  refine roundIn_of_wpIn trivial ?_
  have hrep : Rep X N (fF (setFr ps args fr1)) (fO lo) { tmps := (ps.zip vs.toList).foldl (fun tmps (x : Tmp × Value) => tmps.setIfInBounds x.1 x.2) rec.tmps, defers := [] } X.w0 :=
    ⟨X.S0, X.r0, hH, hI, hset.1, hdf.symm, hset.2.trans hN, RhoLe.refl _⟩
  refine wpIn_mono (h X hL (hids.trans hi1) hdf _ _ hrep (some l)) fun e a1 w1 ⟨fr2, ow2, hq, hrep2⟩ => ?_
  cases e with
  | normal =>
    obtain ⟨hk2, hbody⟩ := hq
    obtain ⟨S, r, hH1, hI1, hF1, hdf1, hn1, hρ1⟩ := hrep2
    obtain ⟨hh1, hb1⟩ := lies hI1 hρ1 hk2
    obtain ⟨s1, s2, s3⟩ := zcZ (.loop { rec with state := .busy }) hH1 hI1 hk2 hb1
    refine ⟨_, run_beginRound hh1 hst, ?_⟩
    have hrep3 : Rep X N (fF fr2) (fO ((kR, .ob (.loop { rec with state := .busy })) :: ow2)) a1 (w1.putObj l (.loop { rec with state := .busy })) := by
      rw [zaA]
      exact ⟨S, r, s1, s2, fun t => (hF1 t).mono (fun _ _ h => h) s3 r (RhoLe.refl _), hdf1, hn1, hρ1⟩
    refine wpIn_mono (hbody a1 _ hrep3 (some l)) fun e a3 w3 ⟨fr4, ow4, ⟨he, hk4, hle⟩, hrep4⟩ => ?_
    obtain ⟨S4, r4, hH4, hI4, hF4, _, _, hρ4⟩ := hrep4
    obtain ⟨hh4, hb4⟩ := lies hI4 hρ4 hk4
    have fin : ∃ v w', (Instr.endRound l jump).run P w3 = .ok v w' ∧ ∃ v' S' r', Ending.returned v = .returned v' ∧ Rel S' w' r' (.b jump.isNone) v' ∧ Hist X w' S' ∧ Inv X w' S' r' (fO lo') ∧ RhoLe X.r0 r' := by
      obtain ⟨q1, q2, q3⟩ := zcZ (.loop { rec with state := if jump.isNone then .ready else .done, pending := jump }) hH4 hI4 hk4 hb4
      rw [← zaA] at q2
      have hrun : (Instr.endRound l jump).run P w3 = .ok (.bool jump.isNone) (w3.putObj l (.loop { rec with state := if jump.isNone then .ready else .done, pending := jump })) := run_endRound (r := { rec with state := .busy }) jump hh4
      have q1' : Hist X (w3.putObj l (.loop { rec with state := if jump.isNone then .ready else .done, pending := jump })) S4 := q1
      have q2' := q2.keep hle (by rw [hi2]; exact hcs)
      have q3' : Inv X (w3.putObj l (.loop { rec with state := if jump.isNone then .ready else .done, pending := jump })) S4 (keepR r4 (lo'.map (·.1))) (fO lo') := q2'
      refine ⟨_, _, hrun, _, S4, keepR r4 (lo'.map (·.1)), rfl, .b .., q1', q3', fun k l' hk' => ?_⟩
      obtain ⟨l2, g1, g2⟩ := hρ4 k l' hk'
      have : k ∈ lo'.map (·.1) := by
        rw [hi2, ← hi1, ← hids]
        exact hL k (by rw [hk']; simp)
      exact ⟨l2, by simp only [keepR]; rw [if_pos this]; exact g1, g2⟩
    cases jump with
    | none => cases e <;> first | exact fin | exact he.elim
    | some c =>
      cases c with
      | ret => cases e <;> first | exact fin | exact he.elim
      | exit i => cases e with
        | exit j =>
          obtain rfl : i = j := he
          exact fin
        | _ => exact he.elim
      | _ => cases e <;> exact he.elim
  | _ => exact hq.elim
end
theorem zkc {Hx : Cells → World → Rho → Prop} {f : FuncId} {args : List D} {d : D} {fn : Func} {c : Code} {N : Nat} {rs : List ResultVar} {lo lo' : Ow} {ids : List Nat} (hf : Tryz.prog.funcs[f]? = some fn) (hb : fn.body = some c) (hN : fn.ntmps = N) (hrs : fn.results = ⟨rs⟩) (hlen : Nat.ble args.length N = true)
    (hi1 : lo.map (·.1) = ids) (hi2 : lo'.map (·.1) = ids) (hd : d.okIn ids = true) (hcs : lo'.all (fun x => x.2.okIn ids) = true)
    (h : ∀ X : Ctx, Lent X → X.ids = ids → X.dfs = [] → Hx X.S0 X.w0 X.r0 → T Tryz.prog X N c (slots 0 args) lo (EndsM rs d lo')) : CtrH Tryz.prog f Hx args lo d lo' := by
  refine CtrH.of_TU hf hb hN hrs (by simpa using hlen) fun X hL hi hdf hx => (h X hL (hi.trans hi1) hdf hx).mono fun e fr2 ow2 hq => ?_
  have key : ∀ d2, resU B fr2 ow2 rs = some d2 → Weak d2 d → leOw ow2 lo' →
      ∃ d2, resU (tb Tryz.prog) fr2 ow2 rs = some d2 ∧ Weak d2 d ∧ d.okIn (lo'.map (·.1)) = true ∧ Le X fr2 ow2 [] lo' := by
    intro d2 h1 h2 h3
    refine ⟨d2, by rw [zcO]; exact h1, h2, by rw [hi2]; exact hd, trivial, h3, ?_, fun k hk => ?_⟩
    · rw [hi2]
      simp only [okAll, List.all_nil, Bool.true_and]
      exact hcs
    · rw [hi, hi1] at hk
      rw [hi2]
      exact hk
  cases e with
  | ret => obtain ⟨d2, h1, h2, h3⟩ := hq; exact ⟨.inl rfl, key d2 h1 h2 h3⟩
  | normal => obtain ⟨d2, h1, h2, h3⟩ := hq; exact ⟨.inr rfl, key d2 h1 h2 h3⟩
  | _ => exact hq.elim
end Go.Proofs.YtkkaamhocpmhkaaGreatDoor.Flow
