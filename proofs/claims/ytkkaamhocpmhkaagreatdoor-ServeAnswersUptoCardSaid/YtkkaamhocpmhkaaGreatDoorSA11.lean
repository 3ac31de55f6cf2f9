/- The texts FlowRq, FlowXb, FlowRr, FlowXd, FlowXc, FlowXe, one behind the other. -/
import Derived.Test.YtkkaamhocpmhkaaGreatDoorSA9
import Derived.Test.YtkkaamhocpmhkaaGreatDoorSA10
namespace Go.Proofs.YtkkaamhocpmhkaaGreatDoor.Flow
open Go
theorem zjc {lo lo' : Ow} {ids : List Nat} (h1 : lo.map (·.1) = ids) (h2 : lo'.map (·.1) = ids) (hnd : ids.Nodup) : updO (fO lo) lo' = fO lo' := by
  funext k
  rw [zaN (by rw [h2]; exact hnd)]
  show _ = look k lo'
  cases h : look k lo' with
  | some o => rfl
  | none =>
    show look k lo = none
    refine zaK fun hm => ?_
    rw [h1, ← h2] at hm
    obtain ⟨o, ho⟩ := zaT hm
    rw [ho] at h
    cases h
structure Mark (X X1 : Ctx) (kD D : Nat) : Prop where
  w0 : X1.w0 = X.w0
  S0 : X1.S0 = X.S0
  L : X1.L = X.L
  ids : X1.ids = kD :: X.ids
  dfs : X1.dfs = [{ target := .collected D, args := #[] }]
  blk : X1.r0 kD = some (.blk D)
  lent : Lent X1
  le : RhoLe X.r0 X1.r0
def recOf (fn : FuncId) (tmps : Array Value) (ps : List Tmp) (assign body : Code) (D : Nat) (jump : Option Code) : Loop :=
  { state := if jump.isNone then .ready else .done, pending := jump, fn := fn, tmps := tmps, params := ⟨ps⟩, assign := assign, body := body, defers := D }
def loopOw (kR kD : Nat) (rec : Loop) (ow : Ow) : Ow := (kR, .ob (.loop rec)) :: (kD, .ob (.deferred (some []))) :: ow
section
variable {P : Program} {X : Ctx} {n : Nat} {fr : Fr} {ow : Ow}
def AfterLoop (P : Program) (X : Ctx) (n : Nat) (fr : Fr) (ow : Ow) (R : Exit → Act → World → Prop) : Option Code → Prop
  | none => ∀ a w, Rep X n (fF fr) (fO ow) a w → R .normal a w
  | some c => TD P X n c fr ow R
theorem TD.rangeFunc {x : Operand} {ps : List Tmp} {assign body : Code} {R : Exit → Act → World → Prop} (hL : Lent X) (hdf : X.dfs = []) (fr1 : Fr) (ow1 lo' : Ow) (ids : List Nat) (hle : Le X fr ow fr1 ow1) (hi1 : ow1.map (·.1) = ids) (hi2 : lo'.map (·.1) = ids)
    (kR kD : Nat) (hnd : (kR :: kD :: ids).Nodup) {g : FuncId} {caps : List D} (hf : ev fr1 x = .fn g caps) (hP : ∀ vs w, (callFunc g vs).run P w = .ok (.enter g vs) w)
    (hcaps : (caps.map (lendA (kR :: kD :: ids))).all (D.okIn (kR :: kD :: ids)) = true) (hok1 : ow1.all (fun x => x.2.okIn (kR :: kD :: ids)) = true) (hok2 : lo'.all (fun x => x.2.okIn (kR :: kD :: ids)) = true) (hfr : fr1.all (fun x => x.2.okIn (kR :: kD :: ids)) = true)
    (jump : Option Code)
    (hIt : ∀ (fn : FuncId) (tmps : Array Value) (D l : Nat), tmps.size = n → CtrH P g (Hl kR l fr1 tmps) (.v (.func (.yield l) #[] #[]) :: caps.map (lendA (kR :: kD :: ids))) (loopOw kR kD (recOf fn tmps ps assign body D none) ow1) (.tu []) (loopOw kR kD (recOf fn tmps ps assign body D jump) lo'))
    (hK : ∀ (X1 : Ctx) (D : Nat) (rec rec2 : Loop), Mark X X1 kD D → AfterLoop P X1 n fr1 ((kR, .ob (.loop rec)) :: loopOw kR kD rec2 lo') R jump) :
    TD P X n (.rangeFunc x ⟨ps⟩ assign body) fr ow R := by
  refine TD.into fun a w hrep => wpIn_wide.1 (wpIn_rangeFunc (n := 0) fun fn _ => ?_)
  obtain ⟨S, r, hH, hI, hF, hdfs, hn, hρ⟩ := hrep.le hle hL
  have hnd0 := List.nodup_cons.1 hnd
  have hnd1 := List.nodup_cons.1 hnd0.2
  have hkD : look kD ow1 = none := zaK (by rw [hi1]; exact hnd1.1)
  have hkR : look kR ow1 = none := zaK (by rw [hi1]; exact fun h => hnd0.1 (List.mem_cons_of_mem _ h))
  have hne : kR ≠ kD := fun h => hnd0.1 (by rw [h]; exact List.mem_cons_self)
  obtain ⟨r1, p1, hH1, hI1, hc1, hr1⟩ := zgM (.deferred (some [])) hH hI (k := kD) hkD
  rw [← zaA] at hI1
  have hkR1 : fO ((kD, .ob (.deferred (some []))) :: ow1) kR = none := by
    rw [zaA]
    simp only [updO]
    rw [if_neg hne]
    exact hkR
  obtain ⟨r2, p2, hH2, hI2, hc2, hr2⟩ := zgM (.loop (recOf fn a.tmps ps assign body w.heap.size none)) hH1 hI1 (k := kR) hkR1
  rw [← zaA] at hI2
  have hbD : r1 kD = some (.blk w.heap.size) := by
    cases p1 with
    | pv _ _ _ b hb => exact hb
  have hbR : r2 kR = some (.blk (w.heap.size + 1)) := by
    have hs : (w.alloc (.deferred (some []))).heap.size = w.heap.size + 1 := by simp
    rw [hs] at p2
    cases p2 with
    | pv _ _ _ b hb => exact hb
  have hev := zbK hH.glob hF x
  rw [zaP, hf] at hev
  generalize hgv : a.eval x = gv at hev
  cases hev with
  | fn _ _ _ us hun hus =>
    refine ⟨w.heap.size + 1, [{ target := .collected w.heap.size, args := #[] }], (w.alloc (.deferred (some []))).alloc (.loop (recOf fn a.tmps ps assign body w.heap.size none)), ⟨.fn (.func g) us, #[.func (.yield (w.heap.size + 1)) #[] #[]]⟩, (w.alloc (.deferred (some []))).alloc (.loop (recOf fn a.tmps ps assign body w.heap.size none)), g, #[Value.func (.yield (w.heap.size + 1)) #[] #[]] ++ us, (w.alloc (.deferred (some []))).alloc (.loop (recOf fn a.tmps ps assign body w.heap.size none)), run_enterLoop_outer (P := P) (w := w) fn a.tmps ⟨ps⟩ assign body, ?_, fun _ _ => trivial, ?_, fun e => (by cases e), ?_⟩
    · have hc : a.eval (.const (.func (.yield (w.heap.size + 1)) #[] #[])) = .func (.yield (w.heap.size + 1)) #[] #[] := rfl
      simp only [resolve, hgv, Deferred.ofValue, Sem.run_pure, List.map_toArray, List.map_cons, List.map_nil, hc]
      simp only [Array.empty_append]
    · simp only [invoke, hP]
    · have hrel : ∀ j, j < (D.v (.func (.yield (w.heap.size + 1)) #[] #[]) :: caps).length → Rel S ((w.alloc (.deferred (some []))).alloc (.loop (recOf fn a.tmps ps assign body w.heap.size none))) r2 ((D.v (.func (.yield (w.heap.size + 1)) #[] #[]) :: caps).getD j .any) ((#[Value.func (.yield (w.heap.size + 1)) #[] #[]] ++ us).getD j undef) := fun j hj => by
        match j, hj with
        | 0, _ =>
          have e1 : (#[Value.func (.yield (w.heap.size + 1)) #[] #[]] ++ us).getD 0 undef = .func (.yield (w.heap.size + 1)) #[] #[] := by
            rw [Array.getD_eq_getD_getElem?, Array.getElem?_append_left (by simp)]
            simp
          rw [e1]
          exact .v ..
        | j + 1, hj =>
          have hj' : j < caps.length := by simpa using hj
          have e1 : (#[Value.func (.yield (w.heap.size + 1)) #[] #[]] ++ us).getD (j + 1) undef = us.getD j undef := by
            rw [Array.getD_eq_getD_getElem?, Array.getD_eq_getD_getElem?, Array.getElem?_append_right (by simp)]
            simp
          rw [e1]
          exact ((hus j hj').mono (fun _ _ h => h) hc1 r1 hr1).mono (fun _ _ h => h) hc2 r2 hr2
      have core := zfl (X := X) (d := .tu []) (O' := fO (loopOw kR kD (recOf fn a.tmps ps assign body w.heap.size none) ow1)) (lo := loopOw kR kD (recOf fn a.tmps ps assign body w.heap.size none) ow1) (lo' := loopOw kR kD (recOf fn a.tmps ps assign body w.heap.size jump) lo')
        hH2 hI2 (fun k o h => h) (ids := kR :: kD :: ids) (by simp [loopOw, hi1]) (by simp [loopOw, hi2]) hnd
        (args := D.v (.func (.yield (w.heap.size + 1)) #[] #[]) :: caps) (by rw [List.map_cons, List.all_cons, hcaps]; rfl) (by simp only [loopOw, List.all_cons, hok1]; rfl) (by simp only [loopOw, List.all_cons, hok2]; rfl) rfl hrel
        (Run := Calls P g (#[Value.func (.yield (w.heap.size + 1)) #[] #[]] ++ us) ((w.alloc (.deferred (some []))).alloc (.loop (recOf fn a.tmps ps assign body w.heap.size none)))) (fun R R' hm hR => hR.mono hm)
        (fun L q1 q2 q3 => hIt fn a.tmps w.heap.size (w.heap.size + 1) hn ⟨_, S, L, keepR r2 (kR :: kD :: ids), kR :: kD :: ids, []⟩ _ rfl (by simp [loopOw, hi1])
          ⟨by simp only [keepR]; rw [if_pos List.mem_cons_self]; exact hbR, fun t => (((hF t).mono (fun _ _ h => h) hc1 r1 hr1).mono (fun _ _ h => h) hc2 r2 hr2).okIn (zdC hfr t)⟩ q1 q2 (by simp [hun]; omega) q3)
      refine callsIn_wide.2 (core.mono ?_)
      rintro e w3 ⟨v, S', r3, rfl, g1, g2, g3, g4, g5, g6⟩
      rw [zjc (ids := kR :: kD :: ids) (by simp [loopOw, hi1]) (by simp [loopOw, hi2]) hnd] at g3
      have hbR3 := zbQ hbR g6
      have hlk : fO (loopOw kR kD (recOf fn a.tmps ps assign body w.heap.size jump) lo') kR = some (.ob (.loop (recOf fn a.tmps ps assign body w.heap.size jump))) := by
        unfold loopOw
        rw [zaA]
        simp [updO]
      obtain ⟨b, h1, h2, _⟩ := g3.obj kR _ hlk
      rw [hbR3] at h1
      cases h1
      obtain ⟨s1, s2, s3⟩ := zcZ (.loop { recOf fn a.tmps ps assign body w.heap.size jump with state := .exhausted }) g2 g3 hlk hbR3
      rw [← zaA] at s2
      have hnb : (recOf fn a.tmps ps assign body w.heap.size jump).state ≠ .busy := by
        show (if jump.isNone then LoopState.ready else .done) ≠ .busy
        cases jump.isNone <;> simp
      refine ⟨jump, _, run_endLoop h2 hnb, ?_⟩
      let X1 : Ctx := ⟨X.w0, X.S0, X.L, fun k => if k = kD then some (.blk w.heap.size) else X.r0 k, kD :: X.ids, [{ target := .collected w.heap.size, args := #[] }]⟩
      have hM : Mark X X1 kD w.heap.size := ⟨rfl, rfl, rfl, rfl, rfl, if_pos rfl, fun k hk => by
        have hk : (if k = kD then some (Loc.blk w.heap.size) else X.r0 k) ≠ none := hk
        show k ∈ kD :: X.ids
        by_cases e : k = kD
        · rw [e]; exact List.mem_cons_self
        · rw [if_neg e] at hk
          exact List.mem_cons_of_mem _ (hL k hk), fun k l hk => by
        show ∃ l', (if k = kD then some (Loc.blk w.heap.size) else X.r0 k) = some l' ∧ LocLe l l'
        by_cases e : k = kD
        · exfalso
          have h1 := hL k (by rw [hk]; simp)
          have h2 := hle.ids k h1
          rw [hi1, e] at h2
          exact hnd1.1 h2
        · rw [if_neg e]
          exact ⟨l, hk, LocLe.refl _⟩⟩
      have hbD3 := zbQ hbD (hr2.trans g6)
      have hrep' : Rep X1 n (fF fr1) (fO ((kR, .ob (.loop { recOf fn a.tmps ps assign body w.heap.size jump with state := .exhausted })) :: loopOw kR kD (recOf fn a.tmps ps assign body w.heap.size jump) lo')) { a with defers := [{ target := .collected w.heap.size, args := #[] }] ++ a.defers }
          (w3.putObj (w.heap.size + 1) (.loop { recOf fn a.tmps ps assign body w.heap.size jump with state := .exhausted })) := by
        refine ⟨S', r3, ⟨s1.os, s1.tape, s1.output, s1.size, s1.block, s1.sub, s1.cell, s1.new, s1.valid, s1.glob⟩, ⟨s2.obj, s2.dom, s2.apart, s2.low⟩, fun t => ?_, ?_, hn, fun k l hk => ?_⟩
        · exact ((((hF t).mono (fun _ _ h => h) hc1 r1 hr1).mono (fun _ _ h => h) hc2 r2 hr2).mono g4 g5 r3 g6).mono (fun _ _ h => h) s3 r3 (RhoLe.refl _)
        · show [_] ++ a.defers = [_]
          rw [hdfs, hdf]
          rfl
        · have hk : (if k = kD then some (Loc.blk w.heap.size) else X.r0 k) = some l := hk
          by_cases e : k = kD
          · rw [if_pos e] at hk
            cases hk
            exact ⟨_, by rw [e]; exact hbD3, LocLe.refl _⟩
          · rw [if_neg e] at hk
            exact (((hρ.trans hr1).trans hr2).trans g6) k l hk
      have hk1 := hK X1 w.heap.size { recOf fn a.tmps ps assign body w.heap.size jump with state := .exhausted } (recOf fn a.tmps ps assign body w.heap.size jump) hM
      cases jump with
      | none => exact hk1 _ _ hrep'
      | some c => exact wpIn_wide.2 (TD.out hk1 _ _ hrep')
end
section
variable {X : Ctx} {n : Nat} {fr : Fr} {ow : Ow}
end

theorem zhE {P : Program} {X : Ctx} {n : Nat} {o : Oper} {fr : Fr} {ow : Ow} {ty : TypeId} {x : Operand} {k : Nat} {d : D} (ho : o.op = .box ty x) (hx : ev fr x = d) (hs : d.solid = true) (h1 : d.cells.all D.one = true) (hk : look k ow = none) (hd : dstOk o.dst n) :
    ∀ F' O', (∀ y ∈ o.op.operands.toList, evF F' y = evF (fF fr) y) → (∀ j ∈ [k], O' j = fO ow j) → StepAt P X n o F' O' (.pv k 0) [(k, .var d.cells)] := by
  intro F' O' he hO
  refine zap hd fun a w S r hH hI hr => ?_
  have hx' := hr x
  rw [he x (by simp [ho, Op.operands]), zaP, hx] at hx'
  have hk' : O' k = none := (hO k (by simp)).trans hk
  obtain ⟨S', r', g1, g2, g3, g4, g5, g6⟩ := zfg ty hH hI hx' hs h1 hk'
  refine ⟨_, _, S', r', .inl ?_, g1, g2, g3, g4, g5, g6⟩
  simp [execOp, ho, Instr.box, newVar, newRow]
section
variable {X : Ctx} {n : Nat} {all rest : List Oper} {fr : Fr} {ow : Ow} {tr : List (List Nat × List Nat)} {K : Fr → Ow → List (List Nat × List Nat) → Prop}
variable {t : Nat} {ty ty' : TypeId} {ps : String} {af : Array Edge} {d : D} {x : Operand}
theorem zeB (k : Nat) (hx : ev fr x = d) (hs : d.solid = true) (h1 : d.cells.all D.one = true) (hk : look k ow = none) (hn : Nat.blt t n = true)
    (h : CT Tryz.prog X n all rest ((t, .pv k 0) :: fr) ((k, .var d.cells) :: ow) (tr ++ [([k], [k])]) K) : CT Tryz.prog X n all (⟨some t, .box ty x, ty', ps, af, none⟩ :: rest) fr ow tr K :=
  CT.cons (e := ⟨.pv k 0, [k], [(k, .var d.cells)]⟩) (.plain rfl (zhE (o := ⟨some t, .box ty x, ty', ps, af, none⟩) rfl hx hs h1 hk (show t < n by simpa using hn))) (zaD ..) (zaA ..) h
end

section
variable {P : Program} {X : Ctx} {n : Nat} {fr : Fr} {ow : Ow}
theorem Rep.adoptV {a : Act} {w : World} (v j k e z : Nat) (cs : List D) (f : Nat → List D) (hv : look v ow = some (.var cs)) (hj : cs.getD j .any = .nilS) (hk : look k ow = none) (hr : Rep X n (fF fr) (fO ow) a w) :
    Rep X n (fF fr) (fO ((v, .var (cs.set j (.gs k z 0 f))) :: (k, .row e z 0) :: ow)) a w := by
  obtain ⟨S, r, hH, hI, hF, hd, hn, hρ⟩ := hr
  have hle : RhoLe r (updR r k (.row (.slice none 0 0) 0)) := RhoLe.new (hI.dom k hk)
  have hk0 : updR r k (.row (.slice none 0 0) 0) k = some (.row (.slice none 0 0) 0) := by simp [updR]
  have hc : Chg w w S none := ⟨rfl, rfl, rfl, Nat.le_refl _, fun _ _ _ => rfl, fun _ _ _ => rfl⟩
  have hI2 : Inv X w S (updR r k (.row (.slice none 0 0) 0)) (fO ((k, .row e z 0) :: ow)) := by
    rw [zaA]
    exact hI.put hc (fun _ _ h => h) hle k _ (.row (.slice none 0 0) 0) ⟨_, hk0, .inl ⟨rfl, rfl⟩⟩ hk0 (fun j hj => by simp [updR, hj]) (fun b hb => by simp [Loc.block] at hb) (fun b hb => by cases hb) (fun _ _ h => .inl h)
  have hvk : v ≠ k := fun e => by subst e; rw [hv] at hk; cases hk
  have hv2 : fO ((k, .row e z 0) :: ow) v = some (.var cs) := by
    rw [zaA]
    show (if v = k then _ else fO ow v) = _
    rw [if_neg hvk]
    exact hv
  have hobj := hI2.obj v _ hv2
  obtain ⟨b, cur, e0, h1, h2, h3, h4, h5⟩ := hobj
  refine ⟨S, updR r k (.row (.slice none 0 0) 0), hH, ?_, fun u => (hF u).mono (fun _ _ h => h) (fun _ _ _ => rfl) _ hle, hd, hn, hρ.trans hle⟩
  rw [zaA]
  refine hI2.put hc (fun _ _ h => h) (RhoLe.refl _) v _ (.blk b) ⟨b, cur, e0, h1, h2, by simpa using h3, fun i hi => ?_, h5⟩ h1 (fun _ _ => rfl) (fun b' hb' => .inr ⟨_, h1, hb'⟩) (fun b hb => by cases hb) (fun _ _ h => .inl h)
  have hi' : i < cs.length := by simpa using hi
  by_cases e : j = i
  · subst e
    have e1 : (cs.set j (D.gs k z 0 f)).getD j .any = .gs k z 0 f := by simp [List.getD_eq_getElem?_getD, hi']
    rw [e1]
    have h6 := (h4 j hi').1
    rw [hj] at h6
    generalize cur.getD j undef = vj at h6 ⊢
    cases h6
    refine ⟨.gs _ k z 0 f _ _ 0 (.sl _ _ _ _ none 0 (fun _ _ => undef) (Nat.le_refl _) (by unfold maxLen; omega) (fun i hi => by omega) (fun i j hi => by omega) (fun i j hi => by omega)) hk0 (Nat.le_refl _) (fun _ => .inl rfl), rfl⟩
  · have e1 : (cs.set j (D.gs k z 0 f)).getD i .any = cs.getD i .any := by simp [List.getD_eq_getElem?_getD, e]
    rw [e1]
    exact h4 i hi'
theorem TD.adoptV {c : Code} {R : Exit → Act → World → Prop} (v j k e z : Nat) (cs : List D) (f : Nat → List D) (hv : look v ow = some (.var cs)) (hj : cs.getD j .any = .nilS) (hk : look k ow = none)
    (h : TD P X n c fr ((v, .var (cs.set j (.gs k z 0 f))) :: (k, .row e z 0) :: ow) R) : TD P X n c fr ow R := TD.into fun a w hr => h.out a w (hr.adoptV v j k e z cs f hv hj hk)
theorem zet {y : Code} {id : Nat} {R : Exit → Act → World → Prop} (h : TD P X n y fr ow R) : AfterLoop P X n fr ow (Exit.inBlock id (Exit.then (fun a w => y.wp P R a w) R)) none := fun a w hr => h.out a w hr
theorem zjX {kR : Nat} {rec : Loop} {lo' : Ow} (h1 : look kR ow = some (.ob (.loop { rec with state := .busy }))) (h2 : Stay (leOw ((kR, .ob (.loop { rec with state := .ready, pending := none })) :: ow) lo')) : Nrm (EndsY kR rec none lo') fr ow := by
  unfold Nrm
  exact ⟨trivial, h1, h2.out⟩
theorem YC.of_T2 {l kR N : Nat} {rec : Loop} {tmps : Array Value} {fr1 : Fr} {args : List D} {lo lo' : Ow} {ids : List Nat} {out : Bool} (jump : Option Code) (ps : List Tmp) (hk : look kR lo = some (.ob (.loop rec))) (htm : rec.tmps = tmps) (hout : jump.isNone = out) (hps : rec.params = ⟨ps⟩) (hpl : ps.length = args.length) (hpn : ∀ p ∈ ps, p < N) (hN : tmps.size = N)
    (hst : rec.state = .ready) (hi1 : lo.map (·.1) = ids) (hi2 : lo'.map (·.1) = ids) (hcs : lo'.all (fun x => x.2.okIn ids) = true)
    (h : ∀ X : Ctx, Lent X → X.ids = ids → X.dfs = [] → T P X N rec.assign (setFr ps args fr1) lo
      (thenQ (fun fr ow => look kR ow = some (.ob (.loop rec)) ∧ T P X N rec.body fr ((kR, .ob (.loop { rec with state := .busy })) :: ow) (EndsY kR rec jump lo')) (fun _ _ _ => False))) :
    YC P l (Hl kR l fr1 tmps) args lo out lo' := by
  subst htm hout
  exact YC.of_T jump ps hps hpl hpn hN hk hst hi1 hi2 hcs h
end
section
variable {X : Ctx} {n : Nat} {all post : List Oper} {fr : Fr} {ow : Ow}
theorem zgs {Hx : Cells → World → Rho → Prop} {Q : Exit → Fr → Ow → Prop} {t l : Nat} {op : Op} {ty : TypeId} {ps : String} {af : Array Edge} {args : List D} (lo lo' : Ow) (ids : List Nat) (out : Bool) (hy : yieldOf fr op = some (l, args)) (hn : Nat.blt t n = true)
    (hk : hasAll (fun k => look k ow) lo) (hi1 : lo.map (·.1) = ids) (hi2 : lo'.map (·.1) = ids) (hnd : ids.Nodup) (hst : Stab Hx ids) (hok : (args.map (lendA ids)).all (D.okIn ids) = true) (hf1 : lo.all (fun x => x.2.okIn ids) = true) (hf2 : lo'.all (fun x => x.2.okIn ids) = true)
    (hC : YC Tryz.prog l Hx (args.map (lendA ids)) lo out lo') (h : CT Tryz.prog X n all post ((t, .b out) :: fr) (lo' ++ ow) [] fun fr ow _ => Nrm Q fr ow) : YGoal Tryz.prog X n Hx all Q ⟨some t, op, ty, ps, af, none⟩ post fr ow := by
  unfold Nrm at h
  exact ⟨rfl, t, l, args, out, lo, lo', ids, rfl, by simpa using hn, hy, hk, hi1, hi2, hnd, hst, hok, hf1, hf2, hC, h⟩
theorem zbG {f : FuncId} {args : List D} {d : D} {fn : Func} {c : Code} {N : Nat} {rs : List ResultVar} {lo lo' : Ow} {ids ids2 : List Nat} (hf : Tryz.prog.funcs[f]? = some fn) (hb : fn.body = some c) (hN : fn.ntmps = N) (hrs : fn.results = ⟨rs⟩) (hlen : Nat.ble args.length N = true)
    (hi1 : lo.map (·.1) = ids) (hi2 : lo'.map (·.1) = ids2) (hsub : ∀ k ∈ ids, k ∈ ids2) (hd : d.okIn ids2 = true) (hcs : lo'.all (fun x => x.2.okIn ids2) = true)
    (h : ∀ X : Ctx, Lent X → X.ids = ids → T Tryz.prog X N c (slots 0 args) lo (EndsM rs d lo')) : CtrO Tryz.prog f args lo d lo' := by
  refine CtrO.of_TU hf hb hN hrs (by simpa using hlen) fun X hL hi => (h X hL (hi.trans hi1)).mono fun e fr2 ow2 hq => ?_
  have key : ∀ d2, resU B fr2 ow2 rs = some d2 → Weak d2 d → leOw ow2 lo' →
      ∃ d2, resU (tb Tryz.prog) fr2 ow2 rs = some d2 ∧ Weak d2 d ∧ d.okIn (lo'.map (·.1)) = true ∧ Le X fr2 ow2 [] lo' := by
    intro d2 h1 h2 h3
    refine ⟨d2, by rw [zcO]; exact h1, h2, by rw [hi2]; exact hd, trivial, h3, ?_, fun k hk => ?_⟩
    · rw [hi2]
      simp only [okAll, List.all_nil, Bool.true_and]
      exact hcs
    · rw [hi, hi1] at hk
      rw [hi2]
      exact hsub k hk
  cases e with
  | ret => obtain ⟨d2, h1, h2, h3⟩ := hq; exact ⟨.inl rfl, key d2 h1 h2 h3⟩
  | normal => obtain ⟨d2, h1, h2, h3⟩ := hq; exact ⟨.inr rfl, key d2 h1 h2 h3⟩
  | _ => exact hq.elim
end

def D.okS (ks : List Nat) : D → Bool
  | .ag cs => cs.all (D.okIn ks)
  | .tu cs => cs.all (D.okIn ks)
  | d => d.okIn ks
def lendS (ids : List Nat) : D → D
  | .ag cs => .ag (cs.map (lendA ids))
  | d => lendA ids d
theorem Rel.lendA {S : Cells} {w : World} {r : Rho} {d : D} {v : Value} (ids : List Nat) (h : Rel S w r d v) : Rel S w r (lendA ids d) v := by
  cases d with
  | gs k z m g =>
    simp only [Flow.lendA]
    split
    · exact h
    · exact h.shut
  | _ => exact h
theorem Rel.lendS {S : Cells} {w : World} {r : Rho} {d : D} {v : Value} (ids : List Nat) (h : Rel S w r d v) : Rel S w r (lendS ids d) v := by
  cases d with
  | ag cs =>
    cases h with
    | ag _ _ vs hn h =>
      refine .ag _ _ vs (by simpa using hn) fun j hj => ?_
      have hj' : j < cs.length := by simpa using hj
      have e : (cs.map (Flow.lendA ids)).getD j .any = Flow.lendA ids (cs.getD j .any) := by simp [List.getD_eq_getElem?_getD, hj']
      rw [e]
      exact (h j hj').lendA ids
  | _ => exact h.lendA ids
theorem Rel.okS {S : Cells} {w : World} {r : Rho} {d : D} {v : Value} (h : Rel S w r d v) {ks : List Nat} (hk : d.okS ks = true) : Rel S w (keepR r ks) d v := by
  cases d with
  | ag cs =>
    cases h with
    | ag _ _ vs hn h =>
      refine .ag _ _ vs hn fun j hj => (h j hj).okIn ?_
      have hk' : cs.all (D.okIn ks) = true := hk
      rw [List.all_eq_true] at hk'
      refine hk' _ ?_
      simp only [List.getD_eq_getElem?_getD, List.getElem?_eq_getElem hj, Option.getD_some]
      exact List.getElem_mem hj
  | tu cs =>
    cases h with
    | tu _ _ vs hn h =>
      refine .tu _ _ vs hn fun j hj => (h j hj).okIn ?_
      have hk' : cs.all (D.okIn ks) = true := hk
      rw [List.all_eq_true] at hk'
      refine hk' _ ?_
      simp only [List.getD_eq_getElem?_getD, List.getElem?_eq_getElem hj, Option.getD_some]
      exact List.getElem_mem hj
  | _ => exact h.okIn hk
section
variable {P : Program} {X : Ctx} {n : Nat} {fr : Fr} {ow ow' : Ow} {d : D}
theorem zhq {o : Oper} {f : FuncId} {args : List D} {lo lo' : Ow} {ids ids2 : List Nat} (hP : ∀ vs w, (callFunc f vs).run P w = .ok (.enter f vs) w) (hc : callOf fr o.op = some (f, args)) (hk : hasAll (fun k => look k ow) lo)
    (hi1 : lo.map (·.1) = ids) (hi2 : lo'.map (·.1) = ids2) (hnd : ids2.Nodup) (hsub : ∀ k ∈ ids, k ∈ ids2) (hnew : ∀ k ∈ ids2, k ∉ ids → look k ow = none)
    (hok : (args.map (lendS ids)).all (D.okS ids) = true) (hf1 : lo.all (fun x => x.2.okIn ids) = true) (hf2 : lo'.all (fun x => x.2.okIn ids2) = true) (hf3 : d.okS ids2 = true)
    (hC : CtrO P f (args.map (lendS ids)) lo d lo') (hd : dstOk o.dst n) :
    ∀ F' O', (∀ x ∈ o.op.operands.toList, evF F' x = evF (fF fr) x) → (∀ j ∈ ids2, O' j = fO ow j) → StepAt P X n o F' O' d lo' := by
  intro F' O' he hO a w K' Q' ⟨S, r, hH, hI, hF, hdf, hn, hρ⟩ hK
  obtain ⟨vs, hrun, hsz, hrel⟩ := zcd hP hc he (fun x => zbK hH.glob hF x)
  have hOk : ∀ k o, look k lo = some o → O' k = some o := fun k o h => by
    have hm : k ∈ ids := by rw [← hi1]; exact List.mem_map.2 ⟨(k, o), zaL h, rfl⟩
    exact (hO k (hsub k hm)).trans (zbw hk k o h)
  have hmem : ∀ k, k ∈ ids → ∃ o, look k lo = some o := fun k h => zaT (by rw [hi1]; exact h)
  have hmem' : ∀ k, k ∈ ids2 → ∃ o, look k lo' = some o := fun k h => zaT (by rw [hi2]; exact h)
  have hin : ∀ k o, look k lo = some o → k ∈ ids ∧ o.okIn ids = true := fun k o h => by
    have h1 := zaL h
    rw [List.all_eq_true] at hf1
    exact ⟨by rw [← hi1]; exact List.mem_map.2 ⟨(k, o), h1, rfl⟩, hf1 _ h1⟩
  have hin' : ∀ k o, look k lo' = some o → k ∈ ids2 ∧ o.okIn ids2 = true := fun k o h => by
    have h1 := zaL h
    rw [List.all_eq_true] at hf2
    exact ⟨by rw [← hi2]; exact List.mem_map.2 ⟨(k, o), h1, rfl⟩, hf2 _ h1⟩
  have hblt : ∀ k l b, r k = some l → l.block = some b → b < w.heap.size := fun k l b hl hb => by
    cases ho : O' k with
    | none => rw [hI.dom k ho] at hl; cases hl
    | some o => exact (hI.obj k o ho).blockLt hl hb
  let X' : Ctx := { w0 := w, S0 := S, L := fun b => ∃ k ∈ ids, ∃ l, r k = some l ∧ l.block = some b, r0 := keepR r ids, ids := ids }
  have hH' : Hist X' w S := ⟨rfl, rfl, rfl, Nat.le_refl _, fun _ _ _ => rfl, fun _ _ h => h, fun _ _ _ => rfl, fun _ _ h => .inl h, hH.valid, hH.glob⟩
  have hI' : Inv X' w S X'.r0 (fO lo) := by
    refine ⟨fun k o hk' => ?_, fun k hk' => ?_, fun i j l l' b' hij hl hl' hb' => ?_, fun k l b' hl hb' => ?_⟩
    · obtain ⟨h1, h2⟩ := hin k o hk'
      exact (hI.obj k o (hOk k o hk')).okIn h2 (RhoLe.refl _) (if_pos h1)
    · refine if_neg fun hm => ?_
      obtain ⟨o, ho⟩ := hmem k hm
      rw [show fO lo k = look k lo from rfl, ho] at hk'
      cases hk'
    · have hl : keepR r ids i = some l := hl
      have hl' : keepR r ids j = some l' := hl'
      simp only [keepR] at hl hl'
      split at hl <;> first | (cases hl; done) | skip
      split at hl' <;> first | (cases hl'; done) | skip
      exact hI.apart i j l l' b' hij hl hl' hb'
    · have hl : keepR r ids k = some l := hl
      simp only [keepR] at hl
      split at hl <;> first | (cases hl; done) | skip
      rename_i hm
      exact .inr ⟨k, hm, l, hl, hb'⟩
  have hrel' : ∀ j, j < (args.map (lendS ids)).length → Rel S w X'.r0 ((args.map (lendS ids)).getD j .any) (vs.getD j undef) := by
    intro j hj
    have hj' : j < args.length := by simpa using hj
    have e : (args.map (lendS ids)).getD j .any = lendS ids (args.getD j .any) := by simp [List.getD_eq_getElem?_getD, hj']
    have hokj : (lendS ids (args.getD j .any)).okS ids = true := by
      rw [← e]
      rw [List.all_eq_true] at hok
      refine hok _ ?_
      simp only [List.getD_eq_getElem?_getD, List.getElem?_eq_getElem hj, Option.getD_some]
      exact List.getElem_mem hj
    rw [e]
    exact ((hrel j hj').lendS ids).okS hokj
  refine OW.enter hrun ((hC X' vs hi1.symm hH' hI' (by simpa using hsz) hrel').mono ?_)
  rintro e w' ⟨v, S', r', rfl, g1, g2, g3, g4⟩
  let r2 : Rho := fun k => if k ∈ ids2 then r' k else r k
  have hr2 : RhoLe r r2 := fun k l hl => by
    by_cases hm : k ∈ ids2
    · have hm0 : k ∈ ids := by
        rcases Classical.em (k ∈ ids) with h | h
        · exact h
        · have h0 : O' k = none := (hO k hm).trans (hnew k hm h)
          rw [hI.dom k h0] at hl
          cases hl
      obtain ⟨l', h1, h2⟩ := g4 k l (by show keepR r ids k = some l; rw [keepR, if_pos hm0]; exact hl)
      exact ⟨l', by show (if k ∈ ids2 then r' k else r k) = some l'; rw [if_pos hm]; exact h1, h2⟩
    · exact ⟨l, by show (if k ∈ ids2 then r' k else r k) = some l; rw [if_neg hm]; exact hl, LocLe.refl l⟩
  have hr3 : RhoLe (keepR r' ids2) r2 := fun k l hl => by
    simp only [keepR] at hl
    split at hl <;> first | (cases hl; done) | skip
    rename_i hm
    exact ⟨l, by show (if k ∈ ids2 then r' k else r k) = some l; rw [if_pos hm]; exact hl, LocLe.refl l⟩
  have hXL : ∀ b, X'.L b → X.w0.heap.size ≤ b ∨ X.L b := fun b ⟨k, _, l, hl, hb⟩ => hI.low k l b hl hb
  have hother : ∀ k l b, k ∉ ids2 → r k = some l → l.block = some b → ¬ X'.L b := fun k l b hm hl hb ⟨k', hm', l', hl', hb'⟩ =>
    hI.apart k k' l l' b (fun e => hm (e ▸ hsub k' hm')) hl hl' hb hb'
  refine hK v w' ⟨S', r2, ?_, ?_, zbO (fun t => (hF t).mono g2.sub g2.cell r2 hr2) (hn ▸ hd) ((g1.okS hf3).mono (fun _ _ h => h) (fun _ _ _ => rfl) r2 hr3), by rw [zbd]; exact hdf, by rw [zbD]; exact hn, hρ.trans hr2⟩
  · refine ⟨g2.os.trans hH.os, g2.tape.trans hH.tape, g2.output.trans hH.output, Nat.le_trans hH.size g2.size, fun k hk' hl => ?_, fun b o hb => g2.sub b o (hH.sub b o hb), fun b o hb => (g2.cell b o (hH.sub b o hb)).trans (hH.cell b o hb), fun b o hb => ?_, g2.valid, g2.glob⟩
    · refine (g2.block k (Nat.lt_of_lt_of_le hk' hH.size) fun hx => ?_).trans (hH.block k hk' hl)
      rcases hXL k hx with h | h
      · omega
      · exact hl h
    · rcases g2.new b o hb with h | h | h
      · exact hH.new b o h
      · exact .inr (.inl (Nat.le_trans hH.size h))
      · rcases hXL b h with h | h
        · exact .inr (.inl h)
        · exact .inr (.inr h)
  · have hnd' : (lo'.map (·.1)).Nodup := by rw [hi2]; exact hnd
    have hup : ∀ k, k ∉ ids2 → updO O' lo' k = O' k := fun k hm => by
      rw [zaN hnd', zaK (by rw [hi2]; exact hm)]
    refine ⟨fun k o hk' => ?_, fun k hk' => ?_, fun i j l l' b hij hl hl' hb => ?_, fun k l b hl hb => ?_⟩
    · by_cases hm : k ∈ ids2
      · obtain ⟨o', ho'⟩ := hmem' k hm
        rw [zaN hnd', ho'] at hk'
        obtain rfl : o' = o := Option.some.inj hk'
        exact (g3.obj k o' ho').okIn (hin' k o' ho').2 hr3 (if_pos hm)
      · rw [hup k hm] at hk'
        refine (hI.obj k o hk').keepL g2.sub g2.cell hr2 (if_neg hm) (fun l b hl hb => g2.block b (hblt k l b hl hb) (hother k l b hm hl hb)) (fun b o hs => ?_)
        rcases g2.new b o hs with h | h | h
        · exact .inl h
        · refine .inr fun l hl hb => ?_
          have := hblt k l b hl hb
          have h : w.heap.size ≤ b := h
          omega
        · exact .inr fun l hl hb => hother k l b hm hl hb h
    · by_cases hm : k ∈ ids2
      · obtain ⟨o', ho'⟩ := hmem' k hm
        rw [zaN hnd', ho'] at hk'
        cases hk'
      · rw [hup k hm] at hk'
        exact (if_neg hm).trans (hI.dom k hk')
    · have hl : (if i ∈ ids2 then r' i else r i) = some l := hl
      have hl' : (if j ∈ ids2 then r' j else r j) = some l' := hl'
      by_cases h1 : i ∈ ids2
      · rw [if_pos h1] at hl
        by_cases h2 : j ∈ ids2
        · rw [if_pos h2] at hl'
          exact g3.apart i j l l' b hij hl hl' hb
        · rw [if_neg h2] at hl'
          intro hb'
          rcases g3.low i l b hl hb with h | h
          · have := hblt j l' b hl' hb'
            have h : w.heap.size ≤ b := h
            omega
          · exact hother j l' b h2 hl' hb' h
      · rw [if_neg h1] at hl
        by_cases h2 : j ∈ ids2
        · rw [if_pos h2] at hl'
          intro hb'
          rcases g3.low j l' b hl' hb' with h | h
          · have := hblt i l b hl hb
            have h : w.heap.size ≤ b := h
            omega
          · exact hother i l b h1 hl hb h
        · rw [if_neg h2] at hl'
          exact hI.apart i j l l' b hij hl hl' hb
    · have hl : (if k ∈ ids2 then r' k else r k) = some l := hl
      by_cases h1 : k ∈ ids2
      · rw [if_pos h1] at hl
        rcases g3.low k l b hl hb with h | h
        · exact .inl (Nat.le_trans hH.size h)
        · exact hXL b h
      · rw [if_neg h1] at hl
        exact hI.low k l b hl hb
def resS (B : Tb) (fr : Fr) (ow : Ow) (rs : List ResultVar) : Option D :=
  match rs with
  | [.cell a t] => match getD' a fr with
    | .pv k off => match look k ow, B.sz t with
      | some (.var cs), some z => match z.2 with
        | true => match Nat.beq off 0 && Nat.beq z.1 cs.length with
          | true => fz (.ag cs) some
          | false => none
        | false => none
      | _, _ => none
    | _ => none
  | rs => resU B fr ow rs
theorem zdB {fn : Func} {a : Act} {w : World} {S : Cells} {r : Rho} {d : D} {rs : List ResultVar} (hrs : fn.results = ⟨rs⟩) (hI : Inv X w S r (fO ow)) (hF : ∀ t, Rel S w r (fF fr t) (a.tmps.getD t undef)) (h : resS (tb P) fr ow rs = some d) :
    ∃ v, (results fn a.tmps).run P w = .ok v w ∧ Rel S w r d v := by
  unfold resS at h
  split at h
  · rename_i x t
    simp only [zbs] at h
    split at h <;> first | (cases h; done) | skip
    rename_i k off hx
    split at h <;> first | (cases h; done) | skip
    rename_i cs z hk hz
    have hv := hF x
    rw [show fF fr x = .pv k off from hx] at hv
    generalize hav : a.tmps.getD x undef = av at hv
    cases hv with
    | pv _ _ _ b hb =>
      obtain ⟨b', cur, e', g1, g2, g3, g4, g5⟩ := hI.obj k _ hk
      rw [hb] at g1
      cases g1
      have hcell : ∀ j, j < cs.length → w.cell? ⟨b, 0 + j, none⟩ = some (cur.getD j undef) := fun j hj => by
        rw [Nat.zero_add, cell_of_row w b j cur e' (0, 0) g2]
        have : j < cur.size := by omega
        simp [Array.getD_eq_getD_getElem?, this]
      split at h <;> first | (cases h; done) | skip
      rename_i hz2
      split at h <;> first | (cases h; done) | skip
      rename_i hb2
      cases h
      simp only [Bool.and_eq_true] at hb2
      have e0 := Nat.eq_of_beq_eq_true hb2.1
      have e1 := Nat.eq_of_beq_eq_true hb2.2
      subst e0
      obtain ⟨u, q1, q2⟩ := zaR (P := P) (o := 0) (b := b) (off := 0) hz (by simp only [partP, hz2]; omega) hcell (fun j hj => (g4 j hj).1)
      have e3 : partD z cs 0 = .ag cs := by
        simp only [partD, hz2]
        rw [e1]
        simp
      rw [e3] at q2
      refine ⟨u, ?_, q2⟩
      have hu : (Instr.loadAt t (.pointer (some ⟨b, 0, none⟩))).run P w = .ok u w := by simpa using q1
      simp only [Instr.loadAt, Instr.sureAddr, Sem.run_bind, Sem.run_pure, Result.andThen_ok] at hu
      have h0 : (resF a.tmps (.cell x t)).run P w = .ok u w := by
        simp only [resF, hav, asAddr, Sem.run_bind, Sem.run_pure, Result.andThen_ok]
        exact hu
      have hm : (fn.results.mapM (resF a.tmps)).run P w = .ok #[u] w := by
        rw [hrs, Array.mapM_eq_mapM_toList]
        have h1 : ([ResultVar.cell x t].mapM (resF a.tmps)).run P w = .ok [u] w := by
          rw [List.mapM_cons]
          simp only [Sem.run_bind, h0, List.mapM_nil, Result.andThen_ok, Sem.run_pure]
        simp only [Sem.run_map, h1, Result.andThen_ok]
      simp only [zbc, Sem.run_bind, hm, Result.andThen_ok, Sem.run_pure]
      rfl
  · exact zcj hrs hI hF h
theorem CtrO.of_TS {f : FuncId} {fn : Func} {c : Code} {N : Nat} {rs : List ResultVar} {args : List D} {d : D} (hf : P.funcs[f]? = some fn) (hb : fn.body = some c) (hN : fn.ntmps = N) (hrs : fn.results = ⟨rs⟩) (hlen : args.length ≤ N)
    (h : ∀ X : Ctx, Lent X → X.ids = ow.map (·.1) → T P X N c (slots 0 args) ow (fun e fr2 ow2 => (e = .ret ∨ e = .normal) ∧ ∃ d2, resS (tb P) fr2 ow2 rs = some d2 ∧ Weak d2 d ∧ d.okS (ow'.map (·.1)) = true ∧ Le X fr2 ow2 [] ow')) :
    CtrO P f args ow d ow' := by
  refine CtrO.of0 fun X vs hdf0 hids hH hI hsz hrel => ?_
  have hL : Lent X := fun k hk => by
    rw [hids]
    cases hmem : look k ow with
    | none => exact absurd (hI.dom k hmem) hk
    | some o =>
      by_cases hm : k ∈ ow.map (·.1)
      · exact hm
      · rw [zaK hm] at hmem; cases hmem
  refine calls_of_wp hf hb ?_
  have hrep : Rep X N (fF (slots 0 args)) (fO ow) { tmps := vs ++ Array.replicate (fn.ntmps - vs.size) undef, defers := [] } X.w0 := by
    refine ⟨X.S0, X.r0, hH, hI, fun t => ?_, hdf0.symm, by simp; omega, RhoLe.refl _⟩
    show Rel _ _ _ (getD' t (slots 0 args)) _
    rw [zaZ]
    simp only [Nat.zero_le, if_true, Nat.sub_zero]
    by_cases ht : t < args.length
    · have := hrel t ht
      rw [Array.getD_eq_getD_getElem?, Array.getElem?_append_left (by omega), ← Array.getD_eq_getD_getElem?]
      exact this
    · rw [List.getD_eq_getElem?_getD, List.getElem?_eq_none (by omega)]
      exact .any ..
  refine wp_mono (h X hL hids _ _ hrep).wide fun e a w ⟨fr2, ow2, ⟨he, d2, h1, h2, h3, h4⟩, hrep2⟩ => ?_
  obtain ⟨S, r, hH2, hI2, hF2, hd2, _, hρ2⟩ := hrep2
  obtain ⟨v, hv, hvr⟩ := zdB (P := P) hrs hI2 hF2 h1
  have hok := h4.ok
  simp only [okAll, Bool.and_eq_true] at hok
  have hfin : ∃ v' S' r', Ending.returned v = .returned v' ∧ Rel S' w r' d v' ∧ Hist X w S' ∧ Inv X w S' r' (fO ow') ∧ RhoLe X.r0 r' := by
    refine ⟨v, S, keepR r (ow'.map (·.1)), rfl, ?_, hH2, hI2.keep h4.ow hok.2, fun k l hk => ?_⟩
    · exact (hvr.weak h2).okS h3
    · obtain ⟨l', g1, g2⟩ := hρ2 k l hk
      have : k ∈ ow'.map (·.1) := h4.ids k (hL k (by rw [hk]; simp))
      exact ⟨l', by simp only [keepR]; rw [if_pos this]; exact g1, g2⟩
  rcases he with rfl | rfl
  · exact ⟨hd2.trans hdf0, v, hv, hfin⟩
  · exact ⟨hd2.trans hdf0, v, hv, hfin⟩
end
section
variable {X : Ctx} {n : Nat} {all rest : List Oper} {fr : Fr} {ow : Ow} {tr : List (List Nat × List Nat)} {K : Fr → Ow → List (List Nat × List Nat) → Prop}
variable {t k k' : Nat} {op : Op} {ty ty2 ty' : TypeId} {ps : String} {af : Array Edge} {x y : Operand} {cs cs' : List D} {d : D} {f : FuncId} {args : List D} {g u : Nat} {want : Bool}
theorem zaS (lo lo' : Ow) (ids ids2 : List Nat) (hi1 : lo.map (·.1) = ids) (hi2 : lo'.map (·.1) = ids2) (hnd : ids2.Nodup) (hsub : ∀ k ∈ ids, k ∈ ids2) (hnew : ∀ k ∈ ids2, k ∉ ids → look k ow = none)
    (hc : callOf fr op = some (f, args)) (hn : Nat.blt t n = true) (hP : ∀ vs w, (callFunc f vs).run Tryz.prog w = .ok (.enter f vs) w) (hk : hasAll (fun k => look k ow) lo)
    (hok : (args.map (lendS ids)).all (D.okS ids) = true) (hf1 : lo.all (fun x => x.2.okIn ids) = true) (hf2 : lo'.all (fun x => x.2.okIn ids2) = true) (hf3 : d.okS ids2 = true)
    (hC : CtrO Tryz.prog f (args.map (lendS ids)) lo d lo')
    (h : CT Tryz.prog X n all rest ((t, d) :: fr) (lo' ++ ow) (tr ++ [(ids2, lo'.map (·.1))]) K) : CT Tryz.prog X n all (⟨some t, op, ty, ps, af, none⟩ :: rest) fr ow tr K :=
  CT.cons (e := ⟨d, ids2, lo'⟩) (.plain rfl (zhq (o := ⟨some t, op, ty, ps, af, none⟩) (ow := ow) hP hc hk hi1 hi2 hnd hsub hnew hok hf1 hf2 hf3 hC (show t < n by simpa using hn))) (zaD ..) (ziB (by rw [hi2]; exact hnd)) h
def EndsS (rs : List ResultVar) (d : D) (lo : Ow) (e : Exit) (fr : Fr) (ow : Ow) : Prop :=
  match e with
  | .ret | .normal => ∃ d2, resS B fr ow rs = some d2 ∧ Weak d2 d ∧ leOw ow lo
  | _ => False
theorem zbm {rs : List ResultVar} {d d2 : D} {lo : Ow} (h : resS B fr ow rs = some d2) (he : Weak d2 d) (hlo : Stay (leOw ow lo)) : Rtn (EndsS rs d lo) fr ow := by
  unfold Rtn
  exact ⟨d2, h, he, hlo.out⟩
theorem zlr {rs : List ResultVar} {d d2 : D} {lo : Ow} (h : resS B fr ow rs = some d2) (he : Weak d2 d) (hlo : Stay (leOw ow lo)) : Nrm (EndsS rs d lo) fr ow := by
  unfold Nrm
  exact ⟨d2, h, he, hlo.out⟩
theorem zbF {f : FuncId} {args : List D} {d : D} {fn : Func} {c : Code} {N : Nat} {rs : List ResultVar} {lo lo' : Ow} {ids ids2 : List Nat} (hf : Tryz.prog.funcs[f]? = some fn) (hb : fn.body = some c) (hN : fn.ntmps = N) (hrs : fn.results = ⟨rs⟩) (hlen : Nat.ble args.length N = true)
    (hi1 : lo.map (·.1) = ids) (hi2 : lo'.map (·.1) = ids2) (hsub : ∀ k ∈ ids, k ∈ ids2) (hd : d.okS ids2 = true) (hcs : lo'.all (fun x => x.2.okIn ids2) = true)
    (h : ∀ X : Ctx, Lent X → X.ids = ids → T Tryz.prog X N c (slots 0 args) lo (EndsS rs d lo')) : CtrO Tryz.prog f args lo d lo' := by
  refine CtrO.of_TS hf hb hN hrs (by simpa using hlen) fun X hL hi => (h X hL (hi.trans hi1)).mono fun e fr2 ow2 hq => ?_
  have key : ∀ d2, resS B fr2 ow2 rs = some d2 → Weak d2 d → leOw ow2 lo' →
      ∃ d2, resS (tb Tryz.prog) fr2 ow2 rs = some d2 ∧ Weak d2 d ∧ d.okS (lo'.map (·.1)) = true ∧ Le X fr2 ow2 [] lo' := by
    intro d2 h1 h2 h3
    refine ⟨d2, by rw [zcO]; exact h1, h2, by rw [hi2]; exact hd, trivial, h3, ?_, fun k hk => ?_⟩
    · rw [hi2]
      simp only [okAll, List.all_nil, Bool.true_and]
      exact hcs
    · rw [hi, hi1] at hk
      rw [hi2]
      exact hsub k hk
  cases e with
  | ret => obtain ⟨d2, h1, h2, h3⟩ := hq; exact ⟨.inl rfl, key d2 h1 h2 h3⟩
  | normal => obtain ⟨d2, h1, h2, h3⟩ := hq; exact ⟨.inr rfl, key d2 h1 h2 h3⟩
  | _ => exact hq.elim
end

section
variable {P : Program} {X : Ctx} {n : Nat} {o : Oper} {fr : Fr} {ow : Ow} {ty : TypeId} {x : Operand}
end
section
variable {X : Ctx} {n : Nat} {all rest : List Oper} {fr : Fr} {ow : Ow} {tr : List (List Nat × List Nat)} {K : Fr → Ow → List (List Nat × List Nat) → Prop}
variable {t : Nat} {ty ty' : TypeId} {ps : String} {af : Array Edge} {x : Operand}
end

section
variable {P : Program} {X : Ctx} {n : Nat} {fr : Fr} {ow : Ow}
theorem Rep.frzV {a : Act} {w : World} (t k off : Nat) (cs : List D) (hk : look k ow = some (.var cs)) (ht : getD' t fr = .pv k off) (hp : cs.all D.plain = true) (hr : Rep X n (fF fr) (fO ow) a w) :
    Rep X n (fF ((t, .rf cs off) :: fr)) (fO ((k, .gone) :: ow)) a w := by
  obtain ⟨S, r, hH, hI, hF, hd, hn, hρ⟩ := hr
  obtain ⟨b, cur, e, g1, g2, g3, g4, g5⟩ := hI.obj k _ hk
  have hbl : b < w.heap.size := (Array.getElem?_eq_some_iff.1 g2).1
  let S2 : Cells := fun b' o => S b' o ∨ (b' = b ∧ o < cs.length)
  have hc : Chg w w S none := ⟨rfl, rfl, rfl, Nat.le_refl _, fun _ _ _ => rfl, fun _ _ _ => rfl⟩
  have hS2 : ∀ b o, S b o → S2 b o := fun _ _ h => .inl h
  have hgone : ObjOk S w r k .gone := ⟨.blk b, g1, fun b' hb' => by
    have : b = b' := Option.some.inj hb'
    omega⟩
  refine ⟨S2, r, ?_, ?_, fun u => ?_, hd, hn, hρ⟩
  · refine hH.chg hc (fun b hb => by cases hb) hS2 (fun b' o h => ?_)
    rcases h with h | ⟨rfl, _⟩
    · exact .inl h
    · exact .inr ⟨hI.low k _ b' g1 rfl, hbl⟩
  · rw [zaA]
    refine hI.put hc hS2 (RhoLe.refl r) k _ (.blk b) ⟨.blk b, g1, fun b' hb' => ?_⟩ g1 (fun _ _ => rfl) (fun b hb => .inr ⟨_, g1, hb⟩) (fun b hb => by cases hb) (fun b' o h => ?_)
    · have : b = b' := Option.some.inj hb'
      omega
    · rcases h with h | ⟨rfl, _⟩
      · exact .inl h
      · exact .inr (.inl rfl)
  · rw [zaD]
    simp only [updF]
    split
    · rename_i e1
      have h1 := hF u
      rw [show fF fr u = .pv k off by rw [e1]; exact ht] at h1
      generalize a.tmps.getD u undef = v at h1
      cases h1 with
      | pv _ _ _ b' hb' =>
        rw [hb'] at g1
        cases g1
        have hrf : Rel S2 w r (.rf cs off) (.pointer (some ⟨b, 0 + off, none⟩)) := by
          refine .rf r cs off b 0 (fun j => cur.getD j undef) hp (fun j hj => ⟨.inr ⟨rfl, by omega⟩, ?_⟩) (fun j hj => ?_)
          · rw [Nat.zero_add, cell_of_row w b j cur e (0, 0) g2]
            have : j < cur.size := by omega
            simp [Array.getD_eq_getD_getElem?, this]
          · have h2 := (g4 j hj).1
            have hpj : (cs.getD j .any).plain = true := by
              rw [List.all_eq_true] at hp
              refine hp _ ?_
              simp only [List.getD_eq_getElem?_getD, List.getElem?_eq_getElem hj, Option.getD_some]
              exact List.getElem_mem hj
            exact (h2.plain hpj noRho).mono hS2 (fun _ _ _ => rfl) noRho (RhoLe.refl _)
        rw [Nat.zero_add] at hrf
        exact hrf
    · exact (hF u).mono hS2 (fun _ _ _ => rfl) r (RhoLe.refl r)
theorem T.frzV {c : Code} {Q : Exit → Fr → Ow → Prop} (t k off : Nat) (cs : List D) (hk : look k ow = some (.var cs)) (ht : getD' t fr = .pv k off) (hp : cs.all D.plain = true) (h : T P X n c ((t, .rf cs off) :: fr) ((k, .gone) :: ow) Q) : T P X n c fr ow Q := fun a w hr => h a w (hr.frzV t k off cs hk ht hp)
end
theorem CtrO.weakArgs {P : Program} {f : FuncId} {args args' : List D} {ow ow' : Ow} {d : D} (h : CtrO P f args' ow d ow') (hn : args'.length = args.length) (hw : ∀ j, j < args.length → Weak (args.getD j .any) (args'.getD j .any)) : CtrO P f args ow d ow' :=
  fun X vs hids hH hI hsz hr => h X vs hids hH hI (hsz.trans hn.symm) fun j hj => (hr j (by omega)).weak (hw j (by omega))
theorem CtrO.weakOne {P : Program} {f : FuncId} {a a' : D} {ow ow' : Ow} {d : D} (h : CtrO P f [a'] ow d ow') (hw : Weak a a') : CtrO P f [a] ow d ow' := h.weakArgs rfl fun j hj => match j, hj with
  | 0, _ => hw
end Go.Proofs.YtkkaamhocpmhkaaGreatDoor.Flow
