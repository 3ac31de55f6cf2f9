/- The texts RFlowRr, RM1, RM2, RN2, one behind the other. -/
import Derived.Test.YtbegohehjkjnmaaDoorMR8
import Derived.Test.YtbegohehjkjnmaaDoorMR20
import Derived.Test.YtbegohehjkjnmaaDoorMR21
import Derived.Test.YtbegohehjkjnmaaDoorMR22
namespace Go.Proofs.YtbegohehjkjnmaaDoor.Flow
open Go

section
variable {P : Program} {X : Ctx} {n : Nat} {fr : Fr} {ow : Ow}
theorem Rep.adoptV {a : Act} {w : World} (v j k e z : Nat) (cs : List D) (f : Nat → List D) (hv : look v ow = some (.var cs)) (hj : cs.getD j .any = .nilS) (hk : look k ow = none) (hr : Rep X n (fF fr) (fO ow) a w) :
    Rep X n (fF fr) (fO ((v, .var (cs.set j (.gs k z 0 f))) :: (k, .row e z 0) :: ow)) a w := by
  obtain ⟨S, r, hH, hI, hF, hd, hn, hρ⟩ := hr
  have hle : RhoLe r (updR r k (.row (.slice none 0 0) 0)) := RhoLe.new (hI.dom k hk)
  have hk0 : updR r k (.row (.slice none 0 0) 0) k = some (.row (.slice none 0 0) 0) := by simp [updR]
  have hc : Chg w w S none := ⟨rfl, rfl, rfl, Nat.le_refl _, fun _ _ _ => rfl, fun _ _ _ => rfl⟩
  have hI2 : Inv X w S (updR r k (.row (.slice none 0 0) 0)) (fO ((k, .row e z 0) :: ow)) := by
    rw [fO_cons]
    exact hI.put hc (fun _ _ h => h) hle k _ (.row (.slice none 0 0) 0) ⟨_, hk0, .inl ⟨rfl, rfl⟩⟩ hk0 (fun j hj => by simp [updR, hj]) (fun b hb => by simp [Loc.block] at hb) (fun b hb => by cases hb) (fun _ _ h => .inl h)
  have hvk : v ≠ k := fun e => by subst e; rw [hv] at hk; cases hk
  have hv2 : fO ((k, .row e z 0) :: ow) v = some (.var cs) := by
    rw [fO_cons]
    show (if v = k then _ else fO ow v) = _
    rw [if_neg hvk]
    exact hv
  have hobj := hI2.obj v _ hv2
  obtain ⟨b, cur, e0, h1, h2, h3, h4, h5⟩ := hobj
  refine ⟨S, updR r k (.row (.slice none 0 0) 0), hH, ?_, fun u => (hF u).mono (fun _ _ h => h) (fun _ _ _ => rfl) _ hle, hd, hn, hρ.trans hle⟩
  rw [fO_cons]
  refine hI2.put hc (fun _ _ h => h) (RhoLe.refl _) v _ (.blk b) ⟨b, cur, e0, h1, h2, by simpa using h3, fun i hi => ?_, h5⟩ h1 (fun _ _ => rfl) (fun b' hb' => .inr ⟨_, h1, hb'⟩) (fun b hb => by cases hb) (fun _ _ h => .inl h)
  have hi' : i < cs.length := by simpa using hi
  by_cases e : j = i
  · subst e
    have e1 : (cs.set j (D.gs k z 0 f)).getD j .any = .gs k z 0 f := by simp [List.getD_eq_getElem?_getD, hi']
    rw [e1]
    have h6 := (h4 j hi').1
    rw [hj] at h6
    generalize cur.getD j undef = vj at h6 ⊢
    cases h6
    refine ⟨.gs _ k z 0 f _ _ 0 (.sl _ _ _ _ none 0 (fun _ _ => undef) (Nat.le_refl _) (by unfold maxLen; omega) (fun i hi => by omega) (fun i j hi => by omega) (fun i j hi => by omega)) hk0 (Nat.le_refl _) (fun _ => .inl rfl), rfl⟩
  · have e1 : (cs.set j (D.gs k z 0 f)).getD i .any = cs.getD i .any := by simp [List.getD_eq_getElem?_getD, e]
    rw [e1]
    exact h4 i hi'
theorem TD.adoptV {c : Code} {R : Exit → Act → World → Prop} (v j k e z : Nat) (cs : List D) (f : Nat → List D) (hv : look v ow = some (.var cs)) (hj : cs.getD j .any = .nilS) (hk : look k ow = none)
    (h : TD P X n c fr ((v, .var (cs.set j (.gs k z 0 f))) :: (k, .row e z 0) :: ow) R) : TD P X n c fr ow R := TD.into fun a w hr => h.out a w (hr.adoptV v j k e z cs f hv hj hk)

theorem after_none {y : Code} {id : Nat} {R : Exit → Act → World → Prop} (h : TD P X n y fr ow R) : AfterLoop P X n fr ow (Exit.inBlock id (Exit.then (fun a w => y.wp P R a w) R)) none := fun a w hr => h.out a w hr
theorem after_ret {k : Act → World → Prop} {id : Nat} {R : Exit → Act → World → Prop} (h : ∀ a w, Rep X n (fF fr) (fO ow) a w → R .ret a w) : AfterLoop P X n fr ow (Exit.inBlock id (Exit.then k R)) (some .ret) := TD.last (T.ret fun a w hr => h a w hr)

theorem n_endY {kR : Nat} {rec : Loop} {lo' : Ow} (h1 : look kR ow = some (.ob (.loop { rec with state := .busy }))) (h2 : Stay (leOw ((kR, .ob (.loop { rec with state := .ready, pending := none })) :: ow) lo')) : Nrm (EndsY kR rec none lo') fr ow := by
  unfold Nrm
  exact ⟨trivial, h1, h2.out⟩
theorem x_endY {kR : Nat} {rec : Loop} {lo' : Ow} (h1 : look kR ow = some (.ob (.loop { rec with state := .busy }))) (h2 : Stay (leOw ((kR, .ob (.loop { rec with state := .done, pending := some .ret })) :: ow) lo')) : Rtn (EndsY kR rec (some .ret) lo') fr ow := by
  unfold Rtn
  exact ⟨trivial, h1, h2.out⟩
theorem YC.of_T2 {l kR N : Nat} {rec : Loop} {tmps : Array Value} {fr1 : Fr} {args : List D} {lo lo' : Ow} {ids : List Nat} {out : Bool} (jump : Option Code) (ps : List Tmp) (hk : look kR lo = some (.ob (.loop rec))) (htm : rec.tmps = tmps) (hout : jump.isNone = out) (hps : rec.params = ⟨ps⟩) (hpl : ps.length = args.length) (hpn : ∀ p ∈ ps, p < N) (hN : tmps.size = N)
    (hst : rec.state = .ready) (hi1 : lo.map (·.1) = ids) (hi2 : lo'.map (·.1) = ids) (hcs : lo'.all (fun x => x.2.okIn ids) = true)
    (h : ∀ X : Ctx, Lent X → X.ids = ids → X.dfs = [] → T P X N rec.assign (setFr ps args fr1) lo
      (thenQ (fun fr ow => look kR ow = some (.ob (.loop rec)) ∧ T P X N rec.body fr ((kR, .ob (.loop { rec with state := .busy })) :: ow) (EndsY kR rec jump lo')) (fun _ _ _ => False))) :
    YC P l (Hl kR l fr1 tmps) args lo out lo' := by
  subst htm hout
  exact YC.of_T jump ps hps hpl hpn hN hk hst hi1 hi2 hcs h
end

section
variable {X : Ctx} {n : Nat} {all post : List Oper} {fr : Fr} {ow : Ow}
theorem r_yield {Hx : Cells → World → Rho → Prop} {Q : Exit → Fr → Ow → Prop} {t l : Nat} {op : Op} {ty : TypeId} {ps : String} {af : Array Edge} {args : List D} (lo lo' : Ow) (ids : List Nat) (out : Bool) (hy : yieldOf fr op = some (l, args)) (hn : Nat.blt t n = true)
    (hk : hasAll (fun k => look k ow) lo) (hi1 : lo.map (·.1) = ids) (hi2 : lo'.map (·.1) = ids) (hnd : ids.Nodup) (hst : Stab Hx ids) (hok : (args.map (lendA ids)).all (D.okIn ids) = true) (hf1 : lo.all (fun x => x.2.okIn ids) = true) (hf2 : lo'.all (fun x => x.2.okIn ids) = true)
    (hC : YC Tryd.prog l Hx (args.map (lendA ids)) lo out lo') (h : CT Tryd.prog X n all post ((t, .b out) :: fr) (lo' ++ ow) [] fun fr ow _ => Nrm Q fr ow) : YGoal Tryd.prog X n Hx all Q ⟨some t, op, ty, ps, af, none⟩ post fr ow := by
  unfold Nrm at h
  exact ⟨rfl, t, l, args, out, lo, lo', ids, rfl, by simpa using hn, hy, hk, hi1, hi2, hnd, hst, hok, hf1, hf2, hC, h⟩

theorem r_methNw {f : FuncId} {args : List D} {d : D} {fn : Func} {c : Code} {N : Nat} {rs : List ResultVar} {lo lo' : Ow} {ids ids2 : List Nat} (hf : Tryd.prog.funcs[f]? = some fn) (hb : fn.body = some c) (hN : fn.ntmps = N) (hrs : fn.results = ⟨rs⟩) (hlen : Nat.ble args.length N = true)
    (hi1 : lo.map (·.1) = ids) (hi2 : lo'.map (·.1) = ids2) (hsub : ∀ k ∈ ids, k ∈ ids2) (hd : d.okIn ids2 = true) (hcs : lo'.all (fun x => x.2.okIn ids2) = true)
    (h : ∀ X : Ctx, Lent X → X.ids = ids → T Tryd.prog X N c (slots 0 args) lo (EndsM rs d lo')) : CtrO Tryd.prog f args lo d lo' := by
  refine CtrO.of_TU hf hb hN hrs (by simpa using hlen) fun X hL hi => (h X hL (hi.trans hi1)).mono fun e fr2 ow2 hq => ?_
  have key : ∀ d2, resU B fr2 ow2 rs = some d2 → Weak d2 d → leOw ow2 lo' →
      ∃ d2, resU (tb Tryd.prog) fr2 ow2 rs = some d2 ∧ Weak d2 d ∧ d.okIn (lo'.map (·.1)) = true ∧ Le X fr2 ow2 [] lo' := by
    intro d2 h1 h2 h3
    refine ⟨d2, by rw [tb_eq]; exact h1, h2, by rw [hi2]; exact hd, trivial, h3, ?_, fun k hk => ?_⟩
    · rw [hi2]
      simp only [okAll, List.all_nil, Bool.true_and]
      exact hcs
    · rw [hi, hi1] at hk
      rw [hi2]
      exact hsub k hk
  cases e with
  | ret => obtain ⟨d2, h1, h2, h3⟩ := hq; exact ⟨.inl rfl, key d2 h1 h2 h3⟩
  | normal => obtain ⟨d2, h1, h2, h3⟩ := hq; exact ⟨.inr rfl, key d2 h1 h2 h3⟩
  | _ => exact hq.elim
end

def scanO (step : Nat → Int → Option Int) (len B : Nat) (i : Nat) (n : Int) : Option Int :=
  if _h : i < len ∧ i < B then match step i n with
    | none => none
    | some m => scanO step len B (i + 1) m
  else some n
termination_by B - i
decreasing_by omega

def idxI (n : List UInt8) : List (List UInt8) → Int
  | [] => -1
  | a :: r => if a = n then 0 else if idxI n r < 0 then -1 else idxI n r + 1

theorem idxI_hit {n : List UInt8} : ∀ {l : List (List UInt8)} {i : Nat}, (∀ j, j < i → ¬ l.getD j [] = n) → i < l.length → l.getD i [] = n → idxI n l = i
  | [], _, _, h, _ => by simp at h
  | a :: r, 0, _, _, h => by simp only [List.getD_cons_zero] at h; simp [idxI, h]
  | a :: r, i + 1, h1, h2, h3 => by
    have h0 := h1 0 (by omega)
    simp only [List.getD_cons_zero] at h0
    have ih := idxI_hit (n := n) (l := r) (i := i) (fun j hj => by have := h1 (j + 1) (by omega); simpa using this) (by simpa using h2) (by simpa using h3)
    simp only [idxI, if_neg h0, ih]
    rw [if_neg (by omega)]
    omega

theorem idxI_miss {n : List UInt8} : ∀ {l : List (List UInt8)}, (∀ j, j < l.length → ¬ l.getD j [] = n) → idxI n l = -1
  | [], _ => rfl
  | a :: r, h1 => by
    have h0 := h1 0 (by simp)
    simp only [List.getD_cons_zero] at h0
    have ih := idxI_miss (n := n) (l := r) (fun j hj => by have := h1 (j + 1) (by simpa using hj); simpa using this)
    simp only [idxI, if_neg h0, ih]
    rw [if_pos (by omega)]

theorem idxI_lt (n : List UInt8) : ∀ l : List (List UInt8), -1 ≤ idxI n l ∧ idxI n l < l.length
  | [] => by simp [idxI]
  | a :: r => by
    have ih := idxI_lt n r
    simp only [idxI, List.length_cons]
    split
    · omega
    · split <;> omega

theorem map_at {α β : Type} (f : α → β) (l : List α) (a : α) (i : Nat) : (l.map f).getD i (f a) = f (l.getD i a) := by
  simp only [List.getD_eq_getElem?_getD, List.getElem?_map]
  cases l[i]? <;> rfl

abbrev Txt := List UInt8
abbrev Fld := Txt × Txt
abbrev Vec := Txt × List Fld

def fldF (l : List Fld) : Nat → List D := fun i => [.s (l.getD i ([], [])).1, .s (l.getD i ([], [])).2]
def vecF (a : List Vec) : Nat → List D := fun i => [.s (a.getD i ([], [])).1, .sl 2 (a.getD i ([], [])).2.length (fldF (a.getD i ([], [])).2)]

def smallF (l : List Fld) : Prop := l.length ≤ 1048576 ∧ ∀ i, (l.getD i ([], [])).1.length ≤ 1048576 ∧ (l.getD i ([], [])).2.length ≤ 1048576
def smallV (a : List Vec) : Prop := a.length ≤ 1048576 ∧ ∀ i, (a.getD i ([], [])).1.length ≤ 1048576 ∧ smallF (a.getD i ([], [])).2

def fldW (l : List Fld) (k : Nat) (n : Int) : Option Int := some (n + 1 + ((l.getD k ([], [])).1.length : Int) + ((l.getD k ([], [])).2.length : Int))
def muchV1 (a : List Vec) (i : Nat) (n : Int) : Option Int :=
  match scanO (fldW (a.getD i ([], [])).2) (a.getD i ([], [])).2.length 30 0 n with
  | none => none
  | some m => if m > 1000 ∨ (a.getD i ([], [])).2.length > 25 then none else some m
def muchV (a : List Vec) : Bool :=
  match scanO (muchV1 a) a.length 30 0 0 with
  | none => true
  | some _ => decide (a.length > 25)

theorem id_at (a : List Vec) (i : Nat) : (a.map (·.1)).getD i [] = (a.getD i ([], [])).1 := map_at (·.1) a ([], []) i
theorem nm_at (l : List Fld) (i : Nat) : (l.map (·.1)).getD i [] = (l.getD i ([], [])).1 := map_at (·.1) l ([], []) i

set_option maxHeartbeats 4000000 in
theorem place_ctr (a : List Vec) (id : Txt) (ha : a.length ≤ 1099511627776) : Ctr Tryd.prog 59 [.sl 2 a.length (vecF a), .s id] (.i .i64 (idxI id (a.map (·.1)))) := by
  refine r_fun Tryd.func59 rfl Tryd.ntmps59 Tryd.results59 rfl rfl fun X hL hX => ?_
  repeat' (first |with_reducible (first |refine t_seq ?_|refine t_region ?_|refine c_nil ?_|refine n_then ?_|refine t_ret ?_|refine t_skip ?_|refine t_exit ?_|refine t_block ?_|refine n_block ?_|refine e_then ?_|refine x_then ?_|refine x_block ?_|refine t_draw ?_)|refine r_val rfl rfl True.intro ?_|refine r_gskip rfl rfl rfl ?_|refine r_gskip2 rfl rfl rfl ?_|refine r_gval rfl rfl rfl rfl True.intro ?_|refine t_true rfl ?_|refine t_false rfl ?_|((first |refine t_cond_d rfl ?_ ?_|refine t_cond_i rfl ?_ ?_|refine t_cond_j rfl ?_ ?_|refine t_cond_s rfl ?_ ?_|refine t_cond_n rfl ?_ ?_|refine t_cond rfl ?_ ?_|refine c_split_d rfl rfl ?_ ?_|refine c_split_i rfl rfl ?_ ?_|refine c_split_j rfl rfl ?_ ?_|refine c_split_s rfl rfl ?_ ?_|refine c_split_n rfl rfl ?_ ?_)<;>intro<;>try (first |contradiction|(exfalso;omega)))|((first |refine r_val rfl rfl ?_ ?_|refine r_gval rfl rfl rfl rfl ?_ ?_|refine r_obj rfl rfl ?_ ?_|refine r_sto rfl ?_ ?_|refine r_gobj rfl rfl rfl rfl ?_ ?_);focus (first |omega|exact le_ rfl|(simp_all;done)|(simp_all;omega)|((repeat' refine And.intro ?_ ?_)<;>first |omega|rfl|exact Nat.le_refl _|exact le_ rfl|exact bytesF_one _|(simp_all;done)|(simp_all;omega))))|refine e_hit rfl ?_|refine e_miss rfl ?_|with_reducible refine ⟨by kernel_rfl, ?_⟩|refine x_end rfl ?_|refine n_end rfl ?_|((with_reducible refine c_grd ?_);(fail_if_success (refine c_lit true rfl rfl rfl ?_));(fail_if_success (refine c_lit false rfl rfl rfl ?_));refine c_split rfl rfl (fun _ => ?_) (fun _ => ?_)))
  refine T.loop hL (fun i : Nat => [(0, .sl 2 a.length (vecF a)), (1, .s id), (5, .i .i64 i)]) (fun _ => [])
    (fun i => i ≤ a.length ∧ ∀ j, j < i → ¬ (a.map (·.1)).getD j [] = id) (fun i => a.length - i) 0 ⟨by omega, by simp⟩
    ⟨⟨rfl, rfl, rfl, trivial⟩, trivial, rfl, by rw [hX]; simp⟩ ?_
  rintro i ⟨h1, h2⟩
  try dsimp only at h1 h2 ⊢
  have hm := id_at a i
  repeat' (first |with_reducible (first |refine t_seq ?_|refine t_region ?_|refine c_nil ?_|refine n_then ?_|refine t_ret ?_|refine t_skip ?_|refine t_exit ?_|refine t_block ?_|refine n_block ?_|refine e_then ?_|refine x_then ?_|refine x_block ?_|refine t_draw ?_)|refine r_val rfl rfl True.intro ?_|refine r_gskip rfl rfl rfl ?_|refine r_gskip2 rfl rfl rfl ?_|refine r_gval rfl rfl rfl rfl True.intro ?_|refine t_true rfl ?_|refine t_false rfl ?_|((first |refine t_cond_d rfl ?_ ?_|refine t_cond_i rfl ?_ ?_|refine t_cond_j rfl ?_ ?_|refine t_cond_s rfl ?_ ?_|refine t_cond_n rfl ?_ ?_|refine t_cond rfl ?_ ?_|refine c_split_d rfl rfl ?_ ?_|refine c_split_i rfl rfl ?_ ?_|refine c_split_j rfl rfl ?_ ?_|refine c_split_s rfl rfl ?_ ?_|refine c_split_n rfl rfl ?_ ?_)<;>intro<;>try (first |contradiction|(exfalso;omega)))|((first |refine r_val rfl rfl ?_ ?_|refine r_gval rfl rfl rfl rfl ?_ ?_|refine r_obj rfl rfl ?_ ?_|refine r_sto rfl ?_ ?_|refine r_gobj rfl rfl rfl rfl ?_ ?_);focus (first |omega|exact le_ rfl|(simp only [Int.toNat_natCast] at *;(repeat' refine And.intro ?_ ?_)<;>first |omega|rfl)))|refine e_hit rfl ?_|refine e_miss rfl ?_|with_reducible refine ⟨by kernel_rfl, ?_⟩|refine x_end rfl ?_|refine n_end rfl ?_|((with_reducible refine c_grd ?_);(fail_if_success (refine c_lit true rfl rfl rfl ?_));(fail_if_success (refine c_lit false rfl rfl rfl ?_));refine c_split rfl rfl (fun _ => ?_) (fun _ => ?_)))
  · rename_i hi he
    try simp only [Int.toNat_natCast] at *
    exact congrArg (D.i .i64) (idxI_hit h2 (by rw [List.length_map]; omega) (hm.trans he)).symm
  · rename_i hi he
    try simp only [Int.toNat_natCast] at *
    exact ⟨i + 1, ⟨by omega, fun j hj => by
      by_cases e : j = i
      · subst e; rw [hm]; exact he
      · exact h2 j (by omega)⟩, by omega, ⟨rfl, rfl, rfl, trivial⟩, trivial, rfl, by rw [hX]; simp⟩
  · exact congrArg (D.i .i64) (idxI_miss (fun j hj => h2 j (by rw [List.length_map] at hj; omega))).symm

set_option maxHeartbeats 4000000 in
theorem find1_ctr (x id : Txt) (n : Nat) (f : Nat → List D) : Ctr Tryd.prog 74 [.ag [.s x, .sl 2 n f], .rf [.s id] 0] (.b (x == id)) := by
  refine r_fun Tryd.func74 rfl Tryd.ntmps74 Tryd.results74 rfl rfl fun X hL hX => ?_
  repeat' (first |with_reducible (first |refine t_seq ?_|refine t_region ?_|refine c_nil ?_|refine n_then ?_|refine t_ret ?_|refine t_skip ?_|refine t_exit ?_|refine t_block ?_|refine n_block ?_|refine e_then ?_|refine x_then ?_|refine x_block ?_|refine t_draw ?_)|refine r_val rfl rfl True.intro ?_|refine r_gskip rfl rfl rfl ?_|refine r_gskip2 rfl rfl rfl ?_|refine r_gval rfl rfl rfl rfl True.intro ?_|refine t_true rfl ?_|refine t_false rfl ?_|((first |refine t_cond_d rfl ?_ ?_|refine t_cond_i rfl ?_ ?_|refine t_cond_j rfl ?_ ?_|refine t_cond_s rfl ?_ ?_|refine t_cond_n rfl ?_ ?_|refine t_cond rfl ?_ ?_|refine c_split_d rfl rfl ?_ ?_|refine c_split_i rfl rfl ?_ ?_|refine c_split_j rfl rfl ?_ ?_|refine c_split_s rfl rfl ?_ ?_|refine c_split_n rfl rfl ?_ ?_)<;>intro<;>try (first |contradiction|(exfalso;omega)))|((first |refine r_val rfl rfl ?_ ?_|refine r_gval rfl rfl rfl rfl ?_ ?_|refine r_obj rfl rfl ?_ ?_|refine r_sto rfl ?_ ?_|refine r_gobj rfl rfl rfl rfl ?_ ?_);focus (first |omega|exact le_ rfl|(simp_all;done)|(simp_all;omega)|((repeat' refine And.intro ?_ ?_)<;>first |omega|rfl|exact Nat.le_refl _|exact le_ rfl|exact bytesF_one _|(simp_all;done)|(simp_all;omega))))|refine e_hit rfl ?_|refine e_miss rfl ?_|with_reducible refine ⟨by kernel_rfl, ?_⟩|refine x_end rfl ?_|refine n_end rfl ?_|((with_reducible refine c_grd ?_);(fail_if_success (refine c_lit true rfl rfl rfl ?_));(fail_if_success (refine c_lit false rfl rfl rfl ?_));refine c_split rfl rfl (fun _ => ?_) (fun _ => ?_)))
  rfl

set_option maxHeartbeats 4000000 in
theorem indexV_ctr (a : List Vec) (id : Txt) (ha : a.length ≤ 1099511627776) : Ctr Tryd.prog 73 [.sl 2 a.length (vecF a), .fn 74 [.rf [.s id] 0]] (.i .i64 (idxI id (a.map (·.1)))) := by
  refine r_fun Tryd.func73 rfl Tryd.ntmps73 Tryd.results73 rfl rfl fun X hL hX => ?_
  repeat' (first |with_reducible (first |refine t_seq ?_|refine t_region ?_|refine c_nil ?_|refine n_then ?_|refine t_ret ?_|refine t_skip ?_|refine t_exit ?_|refine t_block ?_|refine n_block ?_|refine e_then ?_|refine x_then ?_|refine x_block ?_|refine t_draw ?_)|refine r_val rfl rfl True.intro ?_|refine r_gskip rfl rfl rfl ?_|refine r_gskip2 rfl rfl rfl ?_|refine r_gval rfl rfl rfl rfl True.intro ?_|refine t_true rfl ?_|refine t_false rfl ?_|((first |refine t_cond_d rfl ?_ ?_|refine t_cond_i rfl ?_ ?_|refine t_cond_j rfl ?_ ?_|refine t_cond_s rfl ?_ ?_|refine t_cond_n rfl ?_ ?_|refine t_cond rfl ?_ ?_|refine c_split_d rfl rfl ?_ ?_|refine c_split_i rfl rfl ?_ ?_|refine c_split_j rfl rfl ?_ ?_|refine c_split_s rfl rfl ?_ ?_|refine c_split_n rfl rfl ?_ ?_)<;>intro<;>try (first |contradiction|(exfalso;omega)))|((first |refine r_val rfl rfl ?_ ?_|refine r_gval rfl rfl rfl rfl ?_ ?_|refine r_obj rfl rfl ?_ ?_|refine r_sto rfl ?_ ?_|refine r_gobj rfl rfl rfl rfl ?_ ?_);focus (first |omega|exact le_ rfl|(simp_all;done)|(simp_all;omega)|((repeat' refine And.intro ?_ ?_)<;>first |omega|rfl|exact Nat.le_refl _|exact le_ rfl|exact bytesF_one _|(simp_all;done)|(simp_all;omega))))|refine e_hit rfl ?_|refine e_miss rfl ?_|with_reducible refine ⟨by kernel_rfl, ?_⟩|refine x_end rfl ?_|refine n_end rfl ?_|((with_reducible refine c_grd ?_);(fail_if_success (refine c_lit true rfl rfl rfl ?_));(fail_if_success (refine c_lit false rfl rfl rfl ?_));refine c_split rfl rfl (fun _ => ?_) (fun _ => ?_)))
  refine T.loop hL (fun i : Nat => [(0, .sl 2 a.length (vecF a)), (1, .fn 74 [.rf [.s id] 0]), (7, .i .i64 a.length), (8, .i .i64 i)]) (fun _ => [])
    (fun i => i ≤ a.length ∧ ∀ j, j < i → ¬ (a.map (·.1)).getD j [] = id) (fun i => a.length - i) 0 ⟨by omega, by simp⟩
    ⟨⟨rfl, rfl, rfl, rfl, trivial⟩, trivial, rfl, by rw [hX]; simp⟩ ?_
  rintro i ⟨h1, h2⟩
  try dsimp only at h1 h2 ⊢
  have hm := id_at a i
  have hf := find1_ctr (a.getD i ([], [])).1 id (a.getD i ([], [])).2.length (fldF (a.getD i ([], [])).2)
  repeat' (first |with_reducible (first |refine t_seq ?_|refine t_region ?_|refine c_nil ?_|refine n_then ?_|refine t_ret ?_|refine t_skip ?_|refine t_exit ?_|refine t_block ?_|refine n_block ?_|refine e_then ?_|refine x_then ?_|refine x_block ?_|refine t_draw ?_)|refine r_val rfl rfl True.intro ?_|refine r_gskip rfl rfl rfl ?_|refine r_gskip2 rfl rfl rfl ?_|refine r_gval rfl rfl rfl rfl True.intro ?_|refine t_true rfl ?_|refine t_false rfl ?_|((first |refine t_cond_d rfl ?_ ?_|refine t_cond_i rfl ?_ ?_|refine t_cond_j rfl ?_ ?_|refine t_cond_s rfl ?_ ?_|refine t_cond_n rfl ?_ ?_|refine t_cond rfl ?_ ?_|refine c_split_d rfl rfl ?_ ?_|refine c_split_i rfl rfl ?_ ?_|refine c_split_j rfl rfl ?_ ?_|refine c_split_s rfl rfl ?_ ?_|refine c_split_n rfl rfl ?_ ?_)<;>intro<;>try (first |contradiction|(exfalso;omega)))|((first |refine r_val rfl rfl ?_ ?_|refine r_gval rfl rfl rfl rfl ?_ ?_|refine r_obj rfl rfl ?_ ?_|refine r_sto rfl ?_ ?_|refine r_gobj rfl rfl rfl rfl ?_ ?_);focus (first |omega|exact le_ rfl|(simp only [Int.toNat_natCast] at *;(repeat' refine And.intro ?_ ?_)<;>first |omega|rfl)))|refine e_hit rfl ?_|refine e_miss rfl ?_|with_reducible refine ⟨by kernel_rfl, ?_⟩|refine x_end rfl ?_|refine n_end rfl ?_|refine r_call (f := 74) rfl rfl Tryd.call74 rfl hf ?_|((with_reducible refine c_grd ?_);(fail_if_success (refine c_lit true rfl rfl rfl ?_));(fail_if_success (refine c_lit false rfl rfl rfl ?_));refine c_split rfl rfl (fun _ => ?_) (fun _ => ?_)))
  · rename_i hi he
    try simp only [Int.toNat_natCast] at *
    exact congrArg (D.i .i64) (idxI_hit h2 (by rw [List.length_map]; omega) (hm.trans he)).symm
  · rename_i hi he
    try simp only [Int.toNat_natCast] at *
    exact ⟨i + 1, ⟨by omega, fun j hj => by
      by_cases e : j = i
      · subst e; rw [hm]; exact he
      · exact h2 j (by omega)⟩, by omega, ⟨rfl, rfl, rfl, rfl, trivial⟩, trivial, rfl, by rw [hX]; simp⟩
  · exact congrArg (D.i .i64) (idxI_miss (fun j hj => h2 j (by rw [List.length_map] at hj; omega))).symm

set_option maxHeartbeats 4000000 in
theorem find_ctr (a : List Vec) (id : Txt) (ha : a.length ≤ 1099511627776) : Ctr Tryd.prog 58 [.sl 2 a.length (vecF a), .s id] (.i .i64 (idxI id (a.map (·.1)))) := by
  refine r_fun Tryd.func58 rfl Tryd.ntmps58 Tryd.results58 rfl rfl fun X hL hX => ?_
  have hi := indexV_ctr a id ha
  repeat' (first |with_reducible (first |refine t_seq ?_|refine t_region ?_|refine c_nil ?_|refine n_then ?_|refine t_ret ?_|refine t_skip ?_|refine t_exit ?_|refine t_block ?_|refine n_block ?_|refine e_then ?_|refine x_then ?_|refine x_block ?_|refine t_draw ?_)|refine r_val rfl rfl True.intro ?_|refine r_gskip rfl rfl rfl ?_|refine r_gskip2 rfl rfl rfl ?_|refine r_gval rfl rfl rfl rfl True.intro ?_|refine t_true rfl ?_|refine t_false rfl ?_|((first |refine t_cond_d rfl ?_ ?_|refine t_cond_i rfl ?_ ?_|refine t_cond_j rfl ?_ ?_|refine t_cond_s rfl ?_ ?_|refine t_cond_n rfl ?_ ?_|refine t_cond rfl ?_ ?_|refine c_split_d rfl rfl ?_ ?_|refine c_split_i rfl rfl ?_ ?_|refine c_split_j rfl rfl ?_ ?_|refine c_split_s rfl rfl ?_ ?_|refine c_split_n rfl rfl ?_ ?_)<;>intro<;>try (first |contradiction|(exfalso;omega)))|((first |refine r_val rfl rfl ?_ ?_|refine r_gval rfl rfl rfl rfl ?_ ?_|refine r_obj rfl rfl ?_ ?_|refine r_sto rfl ?_ ?_|refine r_gobj rfl rfl rfl rfl ?_ ?_);focus (first |omega|exact le_ rfl|(simp_all;done)|(simp_all;omega)|((repeat' refine And.intro ?_ ?_)<;>first |omega|rfl|exact Nat.le_refl _|exact le_ rfl|exact bytesF_one _|(simp_all;done)|(simp_all;omega))))|refine e_hit rfl ?_|refine e_miss rfl ?_|with_reducible refine ⟨by kernel_rfl, ?_⟩|refine x_end rfl ?_|refine n_end rfl ?_|refine r_callS (f := 73) rfl rfl Tryd.call73 ⟨trivial, ⟨rfl, trivial⟩, trivial⟩ rfl hi rfl ?_|((with_reducible refine c_grd ?_);(fail_if_success (refine c_lit true rfl rfl rfl ?_));(fail_if_success (refine c_lit false rfl rfl rfl ?_));refine c_split rfl rfl (fun _ => ?_) (fun _ => ?_)))
  rfl

set_option maxHeartbeats 4000000 in
theorem field1_ctr (x y key : Txt) : Ctr Tryd.prog 56 [.ag [.s x, .s y], .rf [.s key] 0] (.b (x == key)) := by
  refine r_fun Tryd.func56 rfl Tryd.ntmps56 Tryd.results56 rfl rfl fun X hL hX => ?_
  repeat' (first |with_reducible (first |refine t_seq ?_|refine t_region ?_|refine c_nil ?_|refine n_then ?_|refine t_ret ?_|refine t_skip ?_|refine t_exit ?_|refine t_block ?_|refine n_block ?_|refine e_then ?_|refine x_then ?_|refine x_block ?_|refine t_draw ?_)|refine r_val rfl rfl True.intro ?_|refine r_gskip rfl rfl rfl ?_|refine r_gskip2 rfl rfl rfl ?_|refine r_gval rfl rfl rfl rfl True.intro ?_|refine t_true rfl ?_|refine t_false rfl ?_|((first |refine t_cond_d rfl ?_ ?_|refine t_cond_i rfl ?_ ?_|refine t_cond_j rfl ?_ ?_|refine t_cond_s rfl ?_ ?_|refine t_cond_n rfl ?_ ?_|refine t_cond rfl ?_ ?_|refine c_split_d rfl rfl ?_ ?_|refine c_split_i rfl rfl ?_ ?_|refine c_split_j rfl rfl ?_ ?_|refine c_split_s rfl rfl ?_ ?_|refine c_split_n rfl rfl ?_ ?_)<;>intro<;>try (first |contradiction|(exfalso;omega)))|((first |refine r_val rfl rfl ?_ ?_|refine r_gval rfl rfl rfl rfl ?_ ?_|refine r_obj rfl rfl ?_ ?_|refine r_sto rfl ?_ ?_|refine r_gobj rfl rfl rfl rfl ?_ ?_);focus (first |omega|exact le_ rfl|(simp_all;done)|(simp_all;omega)|((repeat' refine And.intro ?_ ?_)<;>first |omega|rfl|exact Nat.le_refl _|exact le_ rfl|exact bytesF_one _|(simp_all;done)|(simp_all;omega))))|refine e_hit rfl ?_|refine e_miss rfl ?_|with_reducible refine ⟨by kernel_rfl, ?_⟩|refine x_end rfl ?_|refine n_end rfl ?_|((with_reducible refine c_grd ?_);(fail_if_success (refine c_lit true rfl rfl rfl ?_));(fail_if_success (refine c_lit false rfl rfl rfl ?_));refine c_split rfl rfl (fun _ => ?_) (fun _ => ?_)))
  rfl

set_option maxHeartbeats 4000000 in
theorem indexF_ctr (g : FuncId) (l : List Fld) (key : Txt) (hg : ∀ x y : Txt, Ctr Tryd.prog g [.ag [.s x, .s y], .rf [.s key] 0] (.b (x == key))) (hP : ∀ vs w, (callFunc g vs).run Tryd.prog w = .ok (.enter g vs) w) (ha : l.length ≤ 1099511627776) :
    Ctr Tryd.prog 55 [.sl 2 l.length (fldF l), .fn g [.rf [.s key] 0]] (.i .i64 (idxI key (l.map (·.1)))) := by
  refine r_fun Tryd.func55 rfl Tryd.ntmps55 Tryd.results55 rfl rfl fun X hL hX => ?_
  repeat' (first |with_reducible (first |refine t_seq ?_|refine t_region ?_|refine c_nil ?_|refine n_then ?_|refine t_ret ?_|refine t_skip ?_|refine t_exit ?_|refine t_block ?_|refine n_block ?_|refine e_then ?_|refine x_then ?_|refine x_block ?_|refine t_draw ?_)|refine r_val rfl rfl True.intro ?_|refine r_gskip rfl rfl rfl ?_|refine r_gskip2 rfl rfl rfl ?_|refine r_gval rfl rfl rfl rfl True.intro ?_|refine t_true rfl ?_|refine t_false rfl ?_|((first |refine t_cond_d rfl ?_ ?_|refine t_cond_i rfl ?_ ?_|refine t_cond_j rfl ?_ ?_|refine t_cond_s rfl ?_ ?_|refine t_cond_n rfl ?_ ?_|refine t_cond rfl ?_ ?_|refine c_split_d rfl rfl ?_ ?_|refine c_split_i rfl rfl ?_ ?_|refine c_split_j rfl rfl ?_ ?_|refine c_split_s rfl rfl ?_ ?_|refine c_split_n rfl rfl ?_ ?_)<;>intro<;>try (first |contradiction|(exfalso;omega)))|((first |refine r_val rfl rfl ?_ ?_|refine r_gval rfl rfl rfl rfl ?_ ?_|refine r_obj rfl rfl ?_ ?_|refine r_sto rfl ?_ ?_|refine r_gobj rfl rfl rfl rfl ?_ ?_);focus (first |omega|exact le_ rfl|(simp_all;done)|(simp_all;omega)|((repeat' refine And.intro ?_ ?_)<;>first |omega|rfl|exact Nat.le_refl _|exact le_ rfl|exact bytesF_one _|(simp_all;done)|(simp_all;omega))))|refine e_hit rfl ?_|refine e_miss rfl ?_|with_reducible refine ⟨by kernel_rfl, ?_⟩|refine x_end rfl ?_|refine n_end rfl ?_|((with_reducible refine c_grd ?_);(fail_if_success (refine c_lit true rfl rfl rfl ?_));(fail_if_success (refine c_lit false rfl rfl rfl ?_));refine c_split rfl rfl (fun _ => ?_) (fun _ => ?_)))
  refine T.loop hL (fun i : Nat => [(0, .sl 2 l.length (fldF l)), (1, .fn g [.rf [.s key] 0]), (7, .i .i64 l.length), (8, .i .i64 i)]) (fun _ => [])
    (fun i => i ≤ l.length ∧ ∀ j, j < i → ¬ (l.map (·.1)).getD j [] = key) (fun i => l.length - i) 0 ⟨by omega, by simp⟩
    ⟨⟨rfl, rfl, rfl, rfl, trivial⟩, trivial, rfl, by rw [hX]; simp⟩ ?_
  rintro i ⟨h1, h2⟩
  try dsimp only at h1 h2 ⊢
  have hm := nm_at l i
  have hf := hg (l.getD i ([], [])).1 (l.getD i ([], [])).2
  repeat' (first |with_reducible (first |refine t_seq ?_|refine t_region ?_|refine c_nil ?_|refine n_then ?_|refine t_ret ?_|refine t_skip ?_|refine t_exit ?_|refine t_block ?_|refine n_block ?_|refine e_then ?_|refine x_then ?_|refine x_block ?_|refine t_draw ?_)|refine r_val rfl rfl True.intro ?_|refine r_gskip rfl rfl rfl ?_|refine r_gskip2 rfl rfl rfl ?_|refine r_gval rfl rfl rfl rfl True.intro ?_|refine t_true rfl ?_|refine t_false rfl ?_|((first |refine t_cond_d rfl ?_ ?_|refine t_cond_i rfl ?_ ?_|refine t_cond_j rfl ?_ ?_|refine t_cond_s rfl ?_ ?_|refine t_cond_n rfl ?_ ?_|refine t_cond rfl ?_ ?_|refine c_split_d rfl rfl ?_ ?_|refine c_split_i rfl rfl ?_ ?_|refine c_split_j rfl rfl ?_ ?_|refine c_split_s rfl rfl ?_ ?_|refine c_split_n rfl rfl ?_ ?_)<;>intro<;>try (first |contradiction|(exfalso;omega)))|((first |refine r_val rfl rfl ?_ ?_|refine r_gval rfl rfl rfl rfl ?_ ?_|refine r_obj rfl rfl ?_ ?_|refine r_sto rfl ?_ ?_|refine r_gobj rfl rfl rfl rfl ?_ ?_);focus (first |omega|exact le_ rfl|(simp only [Int.toNat_natCast] at *;(repeat' refine And.intro ?_ ?_)<;>first |omega|rfl)))|refine e_hit rfl ?_|refine e_miss rfl ?_|with_reducible refine ⟨by kernel_rfl, ?_⟩|refine x_end rfl ?_|refine n_end rfl ?_|refine r_call rfl rfl hP rfl hf ?_|((with_reducible refine c_grd ?_);(fail_if_success (refine c_lit true rfl rfl rfl ?_));(fail_if_success (refine c_lit false rfl rfl rfl ?_));refine c_split rfl rfl (fun _ => ?_) (fun _ => ?_)))
  · rename_i hi he
    try simp only [Int.toNat_natCast] at *
    exact congrArg (D.i .i64) (idxI_hit h2 (by rw [List.length_map]; omega) (hm.trans he)).symm
  · rename_i hi he
    try simp only [Int.toNat_natCast] at *
    exact ⟨i + 1, ⟨by omega, fun j hj => by
      by_cases e : j = i
      · subst e; rw [hm]; exact he
      · exact h2 j (by omega)⟩, by omega, ⟨rfl, rfl, rfl, rfl, trivial⟩, trivial, rfl, by rw [hX]; simp⟩
  · exact congrArg (D.i .i64) (idxI_miss (fun j hj => h2 j (by rw [List.length_map] at hj; omega))).symm

def infoD (a : List Vec) (c : Txt) : D := .ag [.sl 2 a.length (vecF a), .s c]

def hasV (a : List Vec) (id key : Txt) : Bool × Bool :=
  if idxI id (a.map (·.1)) < 0 then (false, false) else (true, decide (0 ≤ idxI key ((a.getD (idxI id (a.map (·.1))).toNat ([], [])).2.map (·.1))))

theorem catF_fld (l : List Fld) (x : Fld) (gf : Nat → List D) (hg : gf 0 = [.s x.1, .s x.2]) : catF l.length (fldF l) 1 gf = fldF (l ++ [x]) := by
  funext j
  unfold catF fldF
  by_cases h : j < l.length
  · rw [if_pos h]
    simp [List.getD_eq_getElem?_getD, List.getElem?_append_left h]
  · rw [if_neg h]
    by_cases h2 : j < l.length + 1
    · obtain rfl : j = l.length := by omega
      rw [if_pos h2, Nat.sub_self, hg]
      simp [List.getD_eq_getElem?_getD]
    · rw [if_neg h2]
      simp [List.getD_eq_getElem?_getD, List.getElem?_append_right (show l.length ≤ j by omega)]
      rw [List.getElem?_eq_none (show l.length ≤ j by omega), List.getElem?_eq_none (show [x].length ≤ j - l.length by simp; omega)]
      exact ⟨rfl, rfl⟩

def preF (ks : List Txt) (l : List J) (n : Nat) : List Fld := (List.range n).map fun i => (ks.getD i [], (l.getD i j0).text)
theorem preF_len (ks : List Txt) (l : List J) (n : Nat) : (preF ks l n).length = n := by
  unfold preF
  simp
theorem preF_succ (ks : List Txt) (l : List J) (n : Nat) : preF ks l (n + 1) = preF ks l n ++ [(ks.getD n [], (l.getD n j0).text)] := by
  unfold preF
  rw [List.range_succ, List.map_append]
  rfl

abbrev ids57 : List Nat := [50, 51, 2, 3, 6, 100, 60]
abbrev own57 (y : J) (rec : Loop) (o : List Fld) : Ow := [(50, .ob (.loop rec)), (51, .ob (.deferred (some []))), (2, .var [.nilS]), (3, .var [.b false]), (6, .var [.gs 100 2 o.length (fldF o)]), (100, .row 71 2 o.length), (60, .var (jQ y))]

theorem parts_ctr (x : J) : CtrO Tryd.prog 72 [.ag (jQ x)] [] (.fn 90 [.pv 60 0]) [(60, .var (jQ x))] := by
  refine r_methNw (ids := []) (ids2 := [60]) Tryd.func72 rfl Tryd.ntmps72 Tryd.results72 rfl rfl rfl (fun _ h => by cases h) rfl rfl fun X hL hX => ?_
  repeat' (first |refine r_boxAt 60 rfl rfl rfl rfl rfl ?_|with_reducible (first |refine t_seq ?_|refine t_region ?_|refine c_nil ?_|refine n_then ?_|refine t_ret ?_|refine t_skip ?_|refine t_exit ?_|refine t_block ?_|refine n_block ?_|refine e_then ?_|refine x_then ?_|refine x_block ?_|refine t_draw ?_)|refine r_val rfl rfl True.intro ?_|refine r_gskip rfl rfl rfl ?_|refine r_gskip2 rfl rfl rfl ?_|refine r_gval rfl rfl rfl rfl True.intro ?_|refine t_true rfl ?_|refine t_false rfl ?_|((first |refine t_cond_d rfl ?_ ?_|refine t_cond_i rfl ?_ ?_|refine t_cond_j rfl ?_ ?_|refine t_cond_s rfl ?_ ?_|refine t_cond_n rfl ?_ ?_|refine t_cond rfl ?_ ?_|refine c_split_d rfl rfl ?_ ?_|refine c_split_i rfl rfl ?_ ?_|refine c_split_j rfl rfl ?_ ?_|refine c_split_s rfl rfl ?_ ?_|refine c_split_n rfl rfl ?_ ?_)<;>intro<;>try (first |(rename_i hz;first |exact tf_ hz|exact ft_ hz)|(exfalso;omega)))|((first |refine r_val rfl rfl ?_ ?_|refine r_gval rfl rfl rfl rfl ?_ ?_|refine r_obj rfl rfl ?_ ?_|refine r_sto rfl ?_ ?_|refine r_gobj rfl rfl rfl rfl ?_ ?_);focus (first |omega|exact le_ rfl|((repeat first |rw [wrap_u8]|rw [IntKind.wrap_i64]|rw [IntKind.wrap_i32]|rw [wrap_u32']|rw [wrap_u64']);(repeat' refine And.intro ?_ ?_)<;>omega)|((repeat' refine And.intro ?_ ?_)<;>first |omega|rfl|exact Nat.le_refl _|exact le_ rfl|exact bytesF_one _)|(simp_all;done)|(simp_all;omega)))|refine e_hit rfl ?_|refine e_miss rfl ?_|with_reducible refine ⟨by kernel_rfl, ?_⟩|refine x_endM rfl rfl ⟨rfl, trivial⟩|((with_reducible refine c_grd ?_);(fail_if_success (refine c_lit true rfl rfl rfl ?_));(fail_if_success (refine c_lit false rfl rfl rfl ?_));refine c_split rfl rfl (fun _ => ?_) (fun _ => ?_)))

section
variable {l : Nat} {Hx : Cells → World → Rho → Prop}
set_option maxHeartbeats 4000000 in
theorem iter_all (y : J) (hk : y.keys.length = y.list.length) (hw : y.list.length ≤ 4194304) (hst : Stab Hx ids57) (rec : Loop)
    (hY : ∀ i, i < y.list.length → YC Tryd.prog l Hx [.s (y.keys.getD i []), .ag (jP (y.list.getD i j0))] (own57 y rec (preF y.keys y.list i)) true (own57 y rec (preF y.keys y.list (i + 1)))) :
    CtrH Tryd.prog 90 Hx [.v (.func (.yield l) #[] #[]), .pv 60 0] (own57 y rec (preF y.keys y.list 0)) (.tu []) (own57 y rec (preF y.keys y.list y.list.length)) := by
  refine r_methH (ids := ids57) Tryd.func90 rfl Tryd.ntmps90 Tryd.results90 rfl rfl rfl rfl rfl fun X hL hX hdf hx => ?_
  repeat' (first |with_reducible (first |refine t_seq ?_|refine t_region ?_|refine c_nil ?_|refine n_then ?_|refine t_ret ?_|refine t_skip ?_|refine t_exit ?_|refine t_block ?_|refine n_block ?_|refine e_then ?_|refine x_then ?_|refine x_block ?_|refine t_draw ?_)|refine r_val rfl rfl True.intro ?_|refine r_gskip rfl rfl rfl ?_|refine r_gskip2 rfl rfl rfl ?_|refine r_gval rfl rfl rfl rfl True.intro ?_|refine t_true rfl ?_|refine t_false rfl ?_|((first |refine t_cond_d rfl ?_ ?_|refine t_cond_i rfl ?_ ?_|refine t_cond_j rfl ?_ ?_|refine t_cond_s rfl ?_ ?_|refine t_cond_n rfl ?_ ?_|refine t_cond rfl ?_ ?_|refine c_split_d rfl rfl ?_ ?_|refine c_split_i rfl rfl ?_ ?_|refine c_split_j rfl rfl ?_ ?_|refine c_split_s rfl rfl ?_ ?_|refine c_split_n rfl rfl ?_ ?_)<;>intro<;>try (first |(rename_i hz;first |exact tf_ hz|exact ft_ hz)|(exfalso;omega)))|((first |refine r_val rfl rfl ?_ ?_|refine r_gval rfl rfl rfl rfl ?_ ?_|refine r_obj rfl rfl ?_ ?_|refine r_sto rfl ?_ ?_|refine r_gobj rfl rfl rfl rfl ?_ ?_);focus (first |omega|exact le_ rfl|((repeat first |rw [wrap_u8]|rw [IntKind.wrap_i64]|rw [IntKind.wrap_i32]|rw [wrap_u32']|rw [wrap_u64']);(repeat' refine And.intro ?_ ?_)<;>omega)|((repeat' refine And.intro ?_ ?_)<;>first |omega|rfl|exact Nat.le_refl _|exact le_ rfl|exact bytesF_one _)|(simp_all;done)|(simp_all;omega)))|refine e_hit rfl ?_|refine e_miss rfl ?_|with_reducible refine ⟨by kernel_rfl, ?_⟩|refine x_endM rfl rfl ⟨rfl, trivial⟩|((with_reducible refine c_grd ?_);(fail_if_success (refine c_lit true rfl rfl rfl ?_));(fail_if_success (refine c_lit false rfl rfl rfl ?_));refine c_split rfl rfl (fun _ => ?_) (fun _ => ?_)))
  refine T.loop hL (fun i : Nat => [(0, .v (.func (.yield l) #[] #[])), (1, .pv 60 0), (6, .sl 1 y.keys.length (txF y.keys)), (7, .i .i64 y.keys.length), (8, .i .i64 i)]) (fun i => own57 y rec (preF y.keys y.list i))
    (fun i => i ≤ y.list.length) (fun i => y.list.length - i) 0 (Nat.zero_le _)
    ⟨⟨rfl, rfl, rfl, rfl, rfl, trivial⟩, ⟨rfl, rfl, rfl, rfl, rfl, rfl, rfl, trivial⟩, rfl, fun q hq => by rw [hX] at hq; exact hq⟩ ?_
  rintro i hi
  try dsimp only at hi ⊢
  have hYi := hY i
  clear hY
  by_cases hlt : i < y.list.length
  · replace hYi := hYi hlt
    generalize hn : y.list.length = N at *
    repeat' (first |(refine T.regionY (id := 3) hx hst 7 ?_;dsimp only [splitOp3])|refine r_yield (own57 y rec (preF y.keys y.list i)) (own57 y rec (preF y.keys y.list (i + 1))) ids57 true rfl rfl ⟨rfl, rfl, rfl, rfl, rfl, rfl, rfl, trivial⟩ rfl rfl (by decide) hst rfl rfl rfl hYi ?_|with_reducible (first |refine t_seq ?_|refine t_region ?_|refine c_nil ?_|refine n_then ?_|refine t_ret ?_|refine t_skip ?_|refine t_exit ?_|refine t_block ?_|refine n_block ?_|refine e_then ?_|refine x_then ?_|refine x_block ?_|refine t_draw ?_)|refine r_val rfl rfl True.intro ?_|refine r_gskip rfl rfl rfl ?_|refine r_gskip2 rfl rfl rfl ?_|refine r_gval rfl rfl rfl rfl True.intro ?_|refine t_true rfl ?_|refine t_false rfl ?_|((first |refine t_cond_d rfl ?_ ?_|refine t_cond_i rfl ?_ ?_|refine t_cond_j rfl ?_ ?_|refine t_cond_s rfl ?_ ?_|refine t_cond_n rfl ?_ ?_|refine t_cond rfl ?_ ?_|refine c_split_d rfl rfl ?_ ?_|refine c_split_i rfl rfl ?_ ?_|refine c_split_j rfl rfl ?_ ?_|refine c_split_s rfl rfl ?_ ?_|refine c_split_n rfl rfl ?_ ?_)<;>intro<;>try (first |(rename_i hz;first |exact tf_ hz|exact ft_ hz)|(exfalso;omega)))|((first |refine r_val rfl rfl ?_ ?_|refine r_gval rfl rfl rfl rfl ?_ ?_|refine r_obj rfl rfl ?_ ?_|refine r_sto rfl ?_ ?_|refine r_gobj rfl rfl rfl rfl ?_ ?_);focus (first |omega|exact le_ rfl|((repeat first |rw [wrap_u8]|rw [IntKind.wrap_i64]|rw [IntKind.wrap_i32]|rw [wrap_u32']|rw [wrap_u64']);(repeat' refine And.intro ?_ ?_)<;>omega)|((repeat' refine And.intro ?_ ?_)<;>first |omega|rfl|exact Nat.le_refl _|exact le_ rfl|exact bytesF_one _)|(simp_all;done)|(simp_all;omega)))|refine e_hit rfl ?_|refine e_miss rfl ?_|with_reducible refine ⟨by kernel_rfl, ?_⟩|((with_reducible refine c_grd ?_);(fail_if_success (refine c_lit true rfl rfl rfl ?_));(fail_if_success (refine c_lit false rfl rfl rfl ?_));refine c_split rfl rfl (fun _ => ?_) (fun _ => ?_)))
    all_goals exact ⟨i + 1, by omega, by omega, ⟨rfl, rfl, rfl, rfl, rfl, trivial⟩, ⟨rfl, rfl, rfl, rfl, rfl, rfl, rfl, trivial⟩, rfl, fun q hq => by rw [hX] at hq; exact hq⟩
  · clear hYi
    obtain rfl : i = y.list.length := by omega
    repeat' (first |with_reducible (first |refine t_seq ?_|refine t_region ?_|refine c_nil ?_|refine n_then ?_|refine t_ret ?_|refine t_skip ?_|refine t_exit ?_|refine t_block ?_|refine n_block ?_|refine e_then ?_|refine x_then ?_|refine x_block ?_|refine t_draw ?_)|refine r_val rfl rfl True.intro ?_|refine r_gskip rfl rfl rfl ?_|refine r_gskip2 rfl rfl rfl ?_|refine r_gval rfl rfl rfl rfl True.intro ?_|refine t_true rfl ?_|refine t_false rfl ?_|((first |refine t_cond_d rfl ?_ ?_|refine t_cond_i rfl ?_ ?_|refine t_cond_j rfl ?_ ?_|refine t_cond_s rfl ?_ ?_|refine t_cond_n rfl ?_ ?_|refine t_cond rfl ?_ ?_|refine c_split_d rfl rfl ?_ ?_|refine c_split_i rfl rfl ?_ ?_|refine c_split_j rfl rfl ?_ ?_|refine c_split_s rfl rfl ?_ ?_|refine c_split_n rfl rfl ?_ ?_)<;>intro<;>try (first |(rename_i hz;first |exact tf_ hz|exact ft_ hz)|(exfalso;omega)))|((first |refine r_val rfl rfl ?_ ?_|refine r_gval rfl rfl rfl rfl ?_ ?_|refine r_obj rfl rfl ?_ ?_|refine r_sto rfl ?_ ?_|refine r_gobj rfl rfl rfl rfl ?_ ?_);focus (first |omega|exact le_ rfl|((repeat first |rw [wrap_u8]|rw [IntKind.wrap_i64]|rw [IntKind.wrap_i32]|rw [wrap_u32']|rw [wrap_u64']);(repeat' refine And.intro ?_ ?_)<;>omega)|((repeat' refine And.intro ?_ ?_)<;>first |omega|rfl|exact Nat.le_refl _|exact le_ rfl|exact bytesF_one _)|(simp_all;done)|(simp_all;omega)))|refine e_hit rfl ?_|refine e_miss rfl ?_|with_reducible refine ⟨by kernel_rfl, ?_⟩|refine x_endM rfl rfl ⟨rfl, rfl, rfl, rfl, rfl, rfl, rfl, trivial⟩|refine n_endM rfl rfl ⟨rfl, rfl, rfl, rfl, rfl, rfl, rfl, trivial⟩|((with_reducible refine c_grd ?_);(fail_if_success (refine c_lit true rfl rfl rfl ?_));(fail_if_success (refine c_lit false rfl rfl rfl ?_));refine c_split rfl rfl (fun _ => ?_) (fun _ => ?_)))
set_option maxHeartbeats 4000000 in
theorem iter_stop (y : J) (hk : y.keys.length = y.list.length) (hw : y.list.length ≤ 4194304) (hst : Stab Hx ids57) (rec rec' : Loop) (m : Nat) (hm : m < y.list.length)
    (hY : ∀ i, i < m → YC Tryd.prog l Hx [.s (y.keys.getD i []), .ag (jP (y.list.getD i j0))] (own57 y rec (preF y.keys y.list i)) true (own57 y rec (preF y.keys y.list (i + 1))))
    (hF : YC Tryd.prog l Hx [.s (y.keys.getD m []), .ag (jP (y.list.getD m j0))] (own57 y rec (preF y.keys y.list m)) false (own57 y rec' (preF y.keys y.list m))) :
    CtrH Tryd.prog 90 Hx [.v (.func (.yield l) #[] #[]), .pv 60 0] (own57 y rec (preF y.keys y.list 0)) (.tu []) (own57 y rec' (preF y.keys y.list m)) := by
  refine r_methH (ids := ids57) Tryd.func90 rfl Tryd.ntmps90 Tryd.results90 rfl rfl rfl rfl rfl fun X hL hX hdf hx => ?_
  repeat' (first |with_reducible (first |refine t_seq ?_|refine t_region ?_|refine c_nil ?_|refine n_then ?_|refine t_ret ?_|refine t_skip ?_|refine t_exit ?_|refine t_block ?_|refine n_block ?_|refine e_then ?_|refine x_then ?_|refine x_block ?_|refine t_draw ?_)|refine r_val rfl rfl True.intro ?_|refine r_gskip rfl rfl rfl ?_|refine r_gskip2 rfl rfl rfl ?_|refine r_gval rfl rfl rfl rfl True.intro ?_|refine t_true rfl ?_|refine t_false rfl ?_|((first |refine t_cond_d rfl ?_ ?_|refine t_cond_i rfl ?_ ?_|refine t_cond_j rfl ?_ ?_|refine t_cond_s rfl ?_ ?_|refine t_cond_n rfl ?_ ?_|refine t_cond rfl ?_ ?_|refine c_split_d rfl rfl ?_ ?_|refine c_split_i rfl rfl ?_ ?_|refine c_split_j rfl rfl ?_ ?_|refine c_split_s rfl rfl ?_ ?_|refine c_split_n rfl rfl ?_ ?_)<;>intro<;>try (first |(rename_i hz;first |exact tf_ hz|exact ft_ hz)|(exfalso;omega)))|((first |refine r_val rfl rfl ?_ ?_|refine r_gval rfl rfl rfl rfl ?_ ?_|refine r_obj rfl rfl ?_ ?_|refine r_sto rfl ?_ ?_|refine r_gobj rfl rfl rfl rfl ?_ ?_);focus (first |omega|exact le_ rfl|((repeat first |rw [wrap_u8]|rw [IntKind.wrap_i64]|rw [IntKind.wrap_i32]|rw [wrap_u32']|rw [wrap_u64']);(repeat' refine And.intro ?_ ?_)<;>omega)|((repeat' refine And.intro ?_ ?_)<;>first |omega|rfl|exact Nat.le_refl _|exact le_ rfl|exact bytesF_one _)|(simp_all;done)|(simp_all;omega)))|refine e_hit rfl ?_|refine e_miss rfl ?_|with_reducible refine ⟨by kernel_rfl, ?_⟩|refine x_endM rfl rfl ⟨rfl, trivial⟩|((with_reducible refine c_grd ?_);(fail_if_success (refine c_lit true rfl rfl rfl ?_));(fail_if_success (refine c_lit false rfl rfl rfl ?_));refine c_split rfl rfl (fun _ => ?_) (fun _ => ?_)))
  refine T.loop hL (fun i : Nat => [(0, .v (.func (.yield l) #[] #[])), (1, .pv 60 0), (6, .sl 1 y.keys.length (txF y.keys)), (7, .i .i64 y.keys.length), (8, .i .i64 i)]) (fun i => own57 y rec (preF y.keys y.list i))
    (fun i => i ≤ m) (fun i => m - i) 0 (Nat.zero_le _)
    ⟨⟨rfl, rfl, rfl, rfl, rfl, trivial⟩, ⟨rfl, rfl, rfl, rfl, rfl, rfl, rfl, trivial⟩, rfl, fun q hq => by rw [hX] at hq; exact hq⟩ ?_
  rintro i hi
  try dsimp only at hi ⊢
  have hYi := hY i
  clear hY
  generalize hn : y.list.length = N at *
  by_cases hlt : i < m
  · replace hYi := hYi hlt
    clear hF
    repeat' (first |(refine T.regionY (id := 3) hx hst 7 ?_;dsimp only [splitOp3])|refine r_yield (own57 y rec (preF y.keys y.list i)) (own57 y rec (preF y.keys y.list (i + 1))) ids57 true rfl rfl ⟨rfl, rfl, rfl, rfl, rfl, rfl, rfl, trivial⟩ rfl rfl (by decide) hst rfl rfl rfl hYi ?_|with_reducible (first |refine t_seq ?_|refine t_region ?_|refine c_nil ?_|refine n_then ?_|refine t_ret ?_|refine t_skip ?_|refine t_exit ?_|refine t_block ?_|refine n_block ?_|refine e_then ?_|refine x_then ?_|refine x_block ?_|refine t_draw ?_)|refine r_val rfl rfl True.intro ?_|refine r_gskip rfl rfl rfl ?_|refine r_gskip2 rfl rfl rfl ?_|refine r_gval rfl rfl rfl rfl True.intro ?_|refine t_true rfl ?_|refine t_false rfl ?_|((first |refine t_cond_d rfl ?_ ?_|refine t_cond_i rfl ?_ ?_|refine t_cond_j rfl ?_ ?_|refine t_cond_s rfl ?_ ?_|refine t_cond_n rfl ?_ ?_|refine t_cond rfl ?_ ?_|refine c_split_d rfl rfl ?_ ?_|refine c_split_i rfl rfl ?_ ?_|refine c_split_j rfl rfl ?_ ?_|refine c_split_s rfl rfl ?_ ?_|refine c_split_n rfl rfl ?_ ?_)<;>intro<;>try (first |(rename_i hz;first |exact tf_ hz|exact ft_ hz)|(exfalso;omega)))|((first |refine r_val rfl rfl ?_ ?_|refine r_gval rfl rfl rfl rfl ?_ ?_|refine r_obj rfl rfl ?_ ?_|refine r_sto rfl ?_ ?_|refine r_gobj rfl rfl rfl rfl ?_ ?_);focus (first |omega|exact le_ rfl|((repeat first |rw [wrap_u8]|rw [IntKind.wrap_i64]|rw [IntKind.wrap_i32]|rw [wrap_u32']|rw [wrap_u64']);(repeat' refine And.intro ?_ ?_)<;>omega)|((repeat' refine And.intro ?_ ?_)<;>first |omega|rfl|exact Nat.le_refl _|exact le_ rfl|exact bytesF_one _)|(simp_all;done)|(simp_all;omega)))|refine e_hit rfl ?_|refine e_miss rfl ?_|with_reducible refine ⟨by kernel_rfl, ?_⟩|((with_reducible refine c_grd ?_);(fail_if_success (refine c_lit true rfl rfl rfl ?_));(fail_if_success (refine c_lit false rfl rfl rfl ?_));refine c_split rfl rfl (fun _ => ?_) (fun _ => ?_)))
    all_goals exact ⟨i + 1, by omega, by omega, ⟨rfl, rfl, rfl, rfl, rfl, trivial⟩, ⟨rfl, rfl, rfl, rfl, rfl, rfl, rfl, trivial⟩, rfl, fun q hq => by rw [hX] at hq; exact hq⟩
  · obtain rfl : i = m := by omega
    clear hYi
    repeat' (first |(refine T.regionY (id := 3) hx hst 7 ?_;dsimp only [splitOp3])|refine r_yield (own57 y rec (preF y.keys y.list i)) (own57 y rec' (preF y.keys y.list i)) ids57 false rfl rfl ⟨rfl, rfl, rfl, rfl, rfl, rfl, rfl, trivial⟩ rfl rfl (by decide) hst rfl rfl rfl hF ?_|with_reducible (first |refine t_seq ?_|refine t_region ?_|refine c_nil ?_|refine n_then ?_|refine t_ret ?_|refine t_skip ?_|refine t_exit ?_|refine t_block ?_|refine n_block ?_|refine e_then ?_|refine x_then ?_|refine x_block ?_|refine t_draw ?_)|refine r_val rfl rfl True.intro ?_|refine r_gskip rfl rfl rfl ?_|refine r_gskip2 rfl rfl rfl ?_|refine r_gval rfl rfl rfl rfl True.intro ?_|refine t_true rfl ?_|refine t_false rfl ?_|((first |refine t_cond_d rfl ?_ ?_|refine t_cond_i rfl ?_ ?_|refine t_cond_j rfl ?_ ?_|refine t_cond_s rfl ?_ ?_|refine t_cond_n rfl ?_ ?_|refine t_cond rfl ?_ ?_|refine c_split_d rfl rfl ?_ ?_|refine c_split_i rfl rfl ?_ ?_|refine c_split_j rfl rfl ?_ ?_|refine c_split_s rfl rfl ?_ ?_|refine c_split_n rfl rfl ?_ ?_)<;>intro<;>try (first |(rename_i hz;first |exact tf_ hz|exact ft_ hz)|(exfalso;omega)))|((first |refine r_val rfl rfl ?_ ?_|refine r_gval rfl rfl rfl rfl ?_ ?_|refine r_obj rfl rfl ?_ ?_|refine r_sto rfl ?_ ?_|refine r_gobj rfl rfl rfl rfl ?_ ?_);focus (first |omega|exact le_ rfl|((repeat first |rw [wrap_u8]|rw [IntKind.wrap_i64]|rw [IntKind.wrap_i32]|rw [wrap_u32']|rw [wrap_u64']);(repeat' refine And.intro ?_ ?_)<;>omega)|((repeat' refine And.intro ?_ ?_)<;>first |omega|rfl|exact Nat.le_refl _|exact le_ rfl|exact bytesF_one _)|(simp_all;done)|(simp_all;omega)))|refine e_hit rfl ?_|refine e_miss rfl ?_|with_reducible refine ⟨by kernel_rfl, ?_⟩|refine x_endM rfl rfl ⟨rfl, rfl, rfl, rfl, rfl, rfl, rfl, trivial⟩|refine n_endM rfl rfl ⟨rfl, rfl, rfl, rfl, rfl, rfl, rfl, trivial⟩|((with_reducible refine c_grd ?_);(fail_if_success (refine c_lit true rfl rfl rfl ?_));(fail_if_success (refine c_lit false rfl rfl rfl ?_));refine c_split rfl rfl (fun _ => ?_) (fun _ => ?_)))
end

end Go.Proofs.YtbegohehjkjnmaaDoor.Flow
