/- The texts L6, L7, L8, L9, L10, LB, L11, L12, one behind the other. -/
import Derived.Test.YtghhohckonbkkaaP3
import Derived.Test.YtghhohckonbkkaaP5
/- LRU: the cache beside objects of the call's own; Keys and the other methods. -/
namespace Go.Proofs.Ytghhohckonbkkaa.Flow
open Go

/-- Objects of the call's own, and the cache's. -/
class Canon (ow : Ow) (own : outParam Ow) (g : outParam Rg) : Prop where
  eq : ow = own ++ objs g

instance canon_nil {g : Rg} : Canon (objs g) [] g := ⟨rfl⟩
instance canon_app {own : Ow} {g : Rg} : Canon (own ++ objs g) own g := ⟨rfl⟩
instance canon_cons {k : Nat} {o : Own} {r own : Ow} {g : Rg} [h : Canon r own g] : Canon ((k, o) :: r) ((k, o) :: own) g := ⟨by rw [h.eq]; rfl⟩

theorem look_nodeC {ow own : Ow} {g : Rg} [h : Canon ow own g] (ho : lits own = true) {i : Nat} (hi : 0 < i ∧ i ≤ g.n) : look (lab i) ow = some (.var (nodeC g i)) := by
  rw [h.eq, look_own (lits_not ho (mem_ids hi))]
  exact look_node hi
theorem look_cacheC {ow own : Ow} {g : Rg} [h : Canon ow own g] (ho : lits own = true) : look 9000 ow = some (.var (cacheC g)) := by
  rw [h.eq, look_own (lits_not (n := 0) ho (by simp [idsG]))]
  exact look_cache g
theorem look_mapC {ow own : Ow} {g : Rg} [h : Canon ow own g] (ho : lits own = true) : look 9001 ow = some (.mp (mapE g.es)) := by
  rw [h.eq, look_own (lits_not (n := 0) ho (by simp [idsG]))]
  exact look_map g
theorem look_low {g : Rg} {k : Nat} (hk : Nat.blt k 9000 = true) : look k (objs g) = none := look_objs_none fun h => by
  simp at hk
  unfold idsG at h
  rcases List.mem_cons.1 h with h | h
  · omega
  rcases List.mem_cons.1 h with h | h
  · omega
  obtain ⟨i, _, hi⟩ := List.mem_map.1 h
  have := lab_ge (i + 1)
  omega
theorem look_lowC {ow own : Ow} {g : Rg} [h : Canon ow own g] {k : Nat} (hk : Nat.blt k 9000 = true) : look k ow = look k own := by
  rw [h.eq, look_app]
  cases hl : look k own with
  | some o => rfl
  | none => exact look_low hk

section
variable {X : Ctx} {n : Nat} {all rest : List Oper} {fr : Fr} {ow own : Ow} {tr : List (List Nat × List Nat)} {K : Fr → Ow → List (List Nat × List Nat) → Prop}
variable {t gd u k i j : Nat} {op : Op} {ty ty' ty2 : TypeId} {ps : String} {af : Array Edge} {d : D} {p : Prop} {rd : List Nat} {ob : Own} {f : FuncId} {args : List D} {g g' : Rg} {want : Bool} {x y : Operand}

theorem agreeC [h : Canon ow own g] (hrd : rd.all (fun k => Nat.blt k 9000) = true) : ∀ k ∈ rd, look k ow = look k own := fun k hk => by
  rw [List.all_eq_true] at hrd
  exact look_lowC (hrd k hk)

theorem r_objL [Canon ow own g] (hs : step B (ev fr) (fun k => look k own) ⟨some t, op, ty, ps, af, none⟩ = some ⟨d, p, rd, [(k, ob)]⟩) (hrd : rd.all (fun k => Nat.blt k 9000) = true) (hn : Nat.blt t n = true) (hp : p)
    (h : CT Try.prog X n all rest ((t, d) :: fr) ((k, ob) :: ow) (tr ++ [(rd, [k])]) K) : CT Try.prog X n all (⟨some t, op, ty, ps, af, none⟩ :: rest) fr ow tr K :=
  CT.cons (e := ⟨d, rd, [(k, ob)]⟩) (.plain rfl (fun F' O' he hO => step_sound (n := n) (o := ⟨some t, op, ty, ps, af, none⟩) (own := fun k => look k own) (by rw [tb_eq]; exact hs) hp (show t < n by simpa using hn) he (fun k hk => (hO k hk).trans (agreeC hrd k hk)))) (fF_cons ..) (fO_cons ..) h

theorem r_gobjL [Canon ow own g] (hu : dstAt all gd = some u) (hg : getD' u fr = .b want) (hs : step B (ev fr) (fun k => look k own) ⟨some t, op, ty, ps, af, some (gd, want)⟩ = some ⟨d, p, rd, [(k, ob)]⟩) (hrd : rd.all (fun k => Nat.blt k 9000) = true) (hn : Nat.blt t n = true) (hp : p)
    (h : CT Try.prog X n all rest ((t, d) :: fr) ((k, ob) :: ow) (tr ++ [(rd, [k])]) K) : CT Try.prog X n all (⟨some t, op, ty, ps, af, some (gd, want)⟩ :: rest) fr ow tr K :=
  CT.cons (e := ⟨d, rd, [(k, ob)]⟩) (.guarded rfl hu hg (fun F' O' he hO => step_sound (n := n) (o := ⟨some t, op, ty, ps, af, some (gd, want)⟩) (own := fun k => look k own) (by rw [tb_eq]; exact hs) hp (show t < n by simpa using hn) he (fun k hk => (hO k hk).trans (agreeC hrd k hk)))) (fF_cons ..) (fO_cons ..) h

/-- The cache lent, by its place among the call's own objects. -/
theorem r_lendC [hc0 : Canon ow own g] (ho : lits own = true) (hle : g.n ≤ g'.n) (hw : Wf0 g) (hw' : Wf0 g') (hc : callOf fr op = some (f, args)) (hn : Nat.blt t n = true) (hP : ∀ vs w, (callFunc f vs).run Try.prog w = .ok (.enter f vs) w)
    (hok : (args.map (lendA (idsG g.n))).all (D.okIn (idsG g.n)) = true) (hd : d.okIn (idsG g'.n) = true) (hC : CtrO Try.prog f (args.map (lendA (idsG g.n))) (objs g) d (objs g'))
    (h : CT Try.prog X n all rest ((t, d) :: fr) (own ++ objs g') (tr ++ [(idsG g'.n, (objs g').map (·.1))]) K) : CT Try.prog X n all (⟨some t, op, ty, ps, af, none⟩ :: rest) fr ow tr K := by
  rw [hc0.eq]
  exact r_lendG own ho hle hw hw' hc hn hP hok hd hC h
theorem r_glendC [hc0 : Canon ow own g] (ho : lits own = true) (hle : g.n ≤ g'.n) (hw : Wf0 g) (hw' : Wf0 g') (hu : dstAt all gd = some u) (hg : getD' u fr = .b want) (hc : callOf fr op = some (f, args)) (hn : Nat.blt t n = true) (hP : ∀ vs w, (callFunc f vs).run Try.prog w = .ok (.enter f vs) w)
    (hok : (args.map (lendA (idsG g.n))).all (D.okIn (idsG g.n)) = true) (hd : d.okIn (idsG g'.n) = true) (hC : CtrO Try.prog f (args.map (lendA (idsG g.n))) (objs g) d (objs g'))
    (h : CT Try.prog X n all rest ((t, d) :: fr) (own ++ objs g') (tr ++ [(idsG g'.n, (objs g').map (·.1))]) K) : CT Try.prog X n all (⟨some t, op, ty, ps, af, some (gd, want)⟩ :: rest) fr ow tr K := by
  rw [hc0.eq]
  exact r_glendG own ho hle hw hw' hu hg hc hn hP hok hd hC h
theorem r_lendCR [hc0 : Canon ow own g] (ho : lits own = true) (hw : Wf0 g) (hc : callOf fr op = some (f, args)) (hn : Nat.blt t n = true) (hP : ∀ vs w, (callFunc f vs).run Try.prog w = .ok (.enter f vs) w)
    (hok : (args.map (lendA (idsG g.n))).all (D.okIn (idsG g.n)) = true) (hd : d.okIn (idsG g.n) = true) (hC : CtrO Try.prog f (args.map (lendA (idsG g.n))) (objs g) d (objs g))
    (h : CT Try.prog X n all rest ((t, d) :: fr) ow (tr ++ [(idsG g.n, [])]) K) : CT Try.prog X n all (⟨some t, op, ty, ps, af, none⟩ :: rest) fr ow tr K := by
  have e := hc0.eq
  subst e
  exact r_lendGR own ho hw hc hn hP hok hd hC h
theorem r_glendCR [hc0 : Canon ow own g] (ho : lits own = true) (hw : Wf0 g) (hu : dstAt all gd = some u) (hg : getD' u fr = .b want) (hc : callOf fr op = some (f, args)) (hn : Nat.blt t n = true) (hP : ∀ vs w, (callFunc f vs).run Try.prog w = .ok (.enter f vs) w)
    (hok : (args.map (lendA (idsG g.n))).all (D.okIn (idsG g.n)) = true) (hd : d.okIn (idsG g.n) = true) (hC : CtrO Try.prog f (args.map (lendA (idsG g.n))) (objs g) d (objs g))
    (h : CT Try.prog X n all rest ((t, d) :: fr) ow (tr ++ [(idsG g.n, [])]) K) : CT Try.prog X n all (⟨some t, op, ty, ps, af, some (gd, want)⟩ :: rest) fr ow tr K := by
  have e := hc0.eq
  subst e
  exact r_glendGR own ho hw hu hg hc hn hP hok hd hC h

set_option maxRecDepth 100000 in
theorem r_pneqT {te : TypeId} {jt : TypeInfo} {cs cs' : List D} (hne : i ≠ j) (hp : Try.prog.underlying ty = some (.pointer te)) (hte : Try.prog.info? te = some jt) (hsz : jt.size ≠ 0) (hx : ev fr x = .pv (lab i) 0) (hy : ev fr y = .pv (lab j) 0) (hk : look (lab i) ow = some (.var cs)) (hk' : look (lab j) ow = some (.var cs')) (hn : Nat.blt t n = true)
    (h : CT Try.prog X n all rest ((t, .b true) :: fr) ow (tr ++ [([lab i, lab j], [])]) K) : CT Try.prog X n all (⟨some t, .binOp .neq ty x y ty2, ty', ps, af, none⟩ :: rest) fr ow tr K := by
  have e : (!decide (lab i = lab j)) = true := by simp [lab_inj, hne]
  refine CT.cons (e := ⟨.b true, [lab i, lab j], []⟩) (.plain rfl ?_) (fF_cons ..) rfl h
  have := peq_step (P := Try.prog) (X := X) (n := n) (neg := true) (o := ⟨some t, .binOp .neq ty x y ty2, ty', ps, af, none⟩) hp hte hsz rfl hx hy hk hk' (show t < n by simpa using hn)
  simp only [if_true, e] at this
  exact this
set_option maxRecDepth 100000 in
theorem r_pneqF {te : TypeId} {jt : TypeInfo} {cs cs' : List D} (he : i = j) (hp : Try.prog.underlying ty = some (.pointer te)) (hte : Try.prog.info? te = some jt) (hsz : jt.size ≠ 0) (hx : ev fr x = .pv (lab i) 0) (hy : ev fr y = .pv (lab j) 0) (hk : look (lab i) ow = some (.var cs)) (hk' : look (lab j) ow = some (.var cs')) (hn : Nat.blt t n = true)
    (h : CT Try.prog X n all rest ((t, .b false) :: fr) ow (tr ++ [([lab i, lab j], [])]) K) : CT Try.prog X n all (⟨some t, .binOp .neq ty x y ty2, ty', ps, af, none⟩ :: rest) fr ow tr K := by
  have e : (!decide (lab i = lab j)) = false := by simp [he]
  refine CT.cons (e := ⟨.b false, [lab i, lab j], []⟩) (.plain rfl ?_) (fF_cons ..) rfl h
  have := peq_step (P := Try.prog) (X := X) (n := n) (neg := true) (o := ⟨some t, .binOp .neq ty x y ty2, ty', ps, af, none⟩) hp hte hsz rfl hx hy hk hk' (show t < n by simpa using hn)
  simp only [if_true, e] at this
  exact this

theorem nn_run {P : Program} {w : World} {tp te : TypeId} (hp : P.underlying tp = some (.pointer te)) (d : Nat) : (Op.equalIn (d + 1) tp (.pointer none) (.pointer none)).run P w = .ok true w := by
  simp [Op.equalIn, run_underlying hp]

set_option maxRecDepth 100000 in
theorem nn_step {P : Program} {o : Oper} {te : TypeId} (hp : P.underlying ty = some (.pointer te)) (ho : o.op = .binOp .eql ty x y ty2) (hx : ev fr x = .v (.pointer none)) (hy : ev fr y = .v (.pointer none)) (hd : dstOk o.dst n) :
    ∀ F' O', (∀ y ∈ o.op.operands.toList, evF F' y = evF (fF fr) y) → (∀ j ∈ ([] : List Nat), O' j = fO ow j) → StepAt P X n o F' O' (.b true) [] := by
  intro F' O' he hO
  refine stepAt_of hd fun a w S r hH hI hr => ?_
  have hx' := hr x
  rw [he x (by simp [ho, Op.operands]), evF_fF, hx] at hx'
  have hy' := hr y
  rw [he y (by simp [ho, Op.operands]), evF_fF, hy] at hy'
  generalize hvx : a.eval x = vx at hx'
  generalize hvy : a.eval y = vy at hy'
  cases hx'
  cases hy'
  have hrun := nn_run (P := P) (w := w) hp 9999
  refine fin_value hH hI rfl ?_ (show Rel S w r (.b true) (.bool _) from .b ..)
  have e1 : binOp .eql ty (.pointer none) (.pointer none) = (do pure (.bool (← Op.equalIn (9999 + 1) ty (.pointer none) (.pointer none)))) := rfl
  simp [execOp, ho, hvx, hvy, eqGuard, e1, hrun, Result.andThen]

set_option maxRecDepth 100000 in
/-- nil is nil. -/
theorem r_pnn {te : TypeId} (hp : Try.prog.underlying ty = some (.pointer te)) (hx : ev fr x = .v (.pointer none)) (hy : ev fr y = .v (.pointer none)) (hn : Nat.blt t n = true)
    (h : CT Try.prog X n all rest ((t, .b true) :: fr) ow (tr ++ [([], [])]) K) : CT Try.prog X n all (⟨some t, .binOp .eql ty x y ty2, ty', ps, af, none⟩ :: rest) fr ow tr K :=
  CT.cons (e := ⟨.b true, [], []⟩) (.plain rfl (nn_step (o := ⟨some t, .binOp .eql ty x y ty2, ty', ps, af, none⟩) hp rfl hx hy (show t < n by simpa using hn))) (fF_cons ..) rfl h
end

/-! ### The small methods -/
theorem und_ent : Try.prog.underlying 52 = some (.pointer 54) := by kernel_rfl

theorem len_ctr (g : Rg) (hw : Wf0 g) : CtrO Try.prog 11 [.pv 9000 0] (objs g) (.i .i64 g.es.length) (objs g) := by
  refine r_methM Try.func11 rfl Try.ntmps11 Try.results11 rfl (objs_ids g) (objs_ids g) rfl (objs_okIn hw) fun X hL hX => ?_
  repeat' (first
    | refine r_pnil und_ptr rfl rfl rfl ?_ | refine r_ldC2 (g := g) rfl rfl rfl (look_cache _) ?_ | refine r_nlen (g := g) und_map rfl (look_map _) rfl ?_
    | with_reducible refine t_seq ?_ | with_reducible refine t_region ?_ | with_reducible refine c_nil ?_ | with_reducible refine n_then ?_
    | with_reducible refine t_ret ?_ | with_reducible refine t_skip ?_ | with_reducible refine t_exit ?_ | with_reducible refine t_block ?_
    | with_reducible refine n_block ?_ | with_reducible refine e_then ?_ | with_reducible refine x_then ?_ | with_reducible refine x_block ?_ | with_reducible refine t_draw ?_
    | refine r_val rfl rfl True.intro ?_ | refine r_gskip rfl rfl rfl ?_ | refine r_gskip2 rfl rfl rfl ?_ | refine r_gval rfl rfl rfl rfl True.intro ?_
    | refine t_true rfl ?_ | refine t_false rfl ?_
    | ((first | refine t_cond_d rfl (fun _ => ?_) (fun _ => ?_) | refine t_cond_i rfl (fun _ => ?_) (fun _ => ?_) | refine t_cond_j rfl (fun _ => ?_) (fun _ => ?_) | refine t_cond_s rfl (fun _ => ?_) (fun _ => ?_) | refine t_cond_n rfl (fun _ => ?_) (fun _ => ?_) | refine t_cond rfl (fun _ => ?_) (fun _ => ?_) | refine c_split_d rfl rfl (fun _ => ?_) (fun _ => ?_) | refine c_split_i rfl rfl (fun _ => ?_) (fun _ => ?_) | refine c_split_j rfl rfl (fun _ => ?_) (fun _ => ?_) | refine c_split_s rfl rfl (fun _ => ?_) (fun _ => ?_) | refine c_split_n rfl rfl (fun _ => ?_) (fun _ => ?_)) <;> try (first | contradiction | (exfalso; omega)))
    | refine r_val rfl rfl (by (first | omega | exact Nat.le_of_ble_eq_true rfl | (simp_all; done) | (simp_all; omega) | ((repeat' refine And.intro ?_ ?_) <;> first | omega | rfl | exact Nat.le_refl _ | exact Nat.le_of_ble_eq_true rfl | exact bytesF_one _ | (simp_all; done) | (simp_all; omega)))) ?_ | refine r_gval rfl rfl rfl rfl (by (first | omega | exact Nat.le_of_ble_eq_true rfl | (simp_all; done) | (simp_all; omega) | ((repeat' refine And.intro ?_ ?_) <;> first | omega | rfl | exact Nat.le_refl _ | exact Nat.le_of_ble_eq_true rfl | exact bytesF_one _ | (simp_all; done) | (simp_all; omega)))) ?_
    | refine r_obj rfl rfl (by (first | omega | exact Nat.le_of_ble_eq_true rfl | (simp_all; done) | (simp_all; omega) | ((repeat' refine And.intro ?_ ?_) <;> first | omega | rfl | exact Nat.le_refl _ | exact Nat.le_of_ble_eq_true rfl | exact bytesF_one _ | (simp_all; done) | (simp_all; omega)))) ?_ | refine r_sto rfl (by (first | omega | exact Nat.le_of_ble_eq_true rfl | (simp_all; done) | (simp_all; omega) | ((repeat' refine And.intro ?_ ?_) <;> first | omega | rfl | exact Nat.le_refl _ | exact Nat.le_of_ble_eq_true rfl | exact bytesF_one _ | (simp_all; done) | (simp_all; omega)))) ?_ | refine r_gobj rfl rfl rfl rfl (by (first | omega | exact Nat.le_of_ble_eq_true rfl | (simp_all; done) | (simp_all; omega) | ((repeat' refine And.intro ?_ ?_) <;> first | omega | rfl | exact Nat.le_refl _ | exact Nat.le_of_ble_eq_true rfl | exact bytesF_one _ | (simp_all; done) | (simp_all; omega)))) ?_
    | refine e_hit rfl ?_ | refine e_miss rfl ?_
    | refine ⟨by kernel_rfl, ?_⟩ | refine n_endM rfl rfl ⟨leOw_self _⟩ | refine x_endM rfl rfl ⟨leOw_self _⟩ | ((with_reducible refine c_grd ?_); (fail_if_success (refine c_lit true rfl rfl rfl ?_)); (fail_if_success (refine c_lit false rfl rfl rfl ?_)); refine c_split rfl rfl (fun _ => ?_) (fun _ => ?_)))

theorem size_ctr (g : Rg) (hw : Wf0 g) : CtrO Try.prog 12 [.pv 9000 0] (objs g) (.i .i64 g.sz) (objs g) := by
  refine r_methM Try.func12 rfl Try.ntmps12 Try.results12 rfl (objs_ids g) (objs_ids g) rfl (objs_okIn hw) fun X hL hX => ?_
  repeat' (first
    | refine r_pnil und_ptr rfl rfl rfl ?_ | refine r_ldC4 (g := g) rfl rfl rfl (look_cache _) ?_
    | with_reducible refine t_seq ?_ | with_reducible refine t_region ?_ | with_reducible refine c_nil ?_ | with_reducible refine n_then ?_
    | with_reducible refine t_ret ?_ | with_reducible refine t_skip ?_ | with_reducible refine t_exit ?_ | with_reducible refine t_block ?_
    | with_reducible refine n_block ?_ | with_reducible refine e_then ?_ | with_reducible refine x_then ?_ | with_reducible refine x_block ?_ | with_reducible refine t_draw ?_
    | refine r_val rfl rfl True.intro ?_ | refine r_gskip rfl rfl rfl ?_ | refine r_gskip2 rfl rfl rfl ?_ | refine r_gval rfl rfl rfl rfl True.intro ?_
    | refine t_true rfl ?_ | refine t_false rfl ?_
    | ((first | refine t_cond_d rfl (fun _ => ?_) (fun _ => ?_) | refine t_cond_i rfl (fun _ => ?_) (fun _ => ?_) | refine t_cond_j rfl (fun _ => ?_) (fun _ => ?_) | refine t_cond_s rfl (fun _ => ?_) (fun _ => ?_) | refine t_cond_n rfl (fun _ => ?_) (fun _ => ?_) | refine t_cond rfl (fun _ => ?_) (fun _ => ?_) | refine c_split_d rfl rfl (fun _ => ?_) (fun _ => ?_) | refine c_split_i rfl rfl (fun _ => ?_) (fun _ => ?_) | refine c_split_j rfl rfl (fun _ => ?_) (fun _ => ?_) | refine c_split_s rfl rfl (fun _ => ?_) (fun _ => ?_) | refine c_split_n rfl rfl (fun _ => ?_) (fun _ => ?_)) <;> try (first | contradiction | (exfalso; omega)))
    | refine r_val rfl rfl (by (first | omega | exact Nat.le_of_ble_eq_true rfl | (simp_all; done) | (simp_all; omega) | ((repeat' refine And.intro ?_ ?_) <;> first | omega | rfl | exact Nat.le_refl _ | exact Nat.le_of_ble_eq_true rfl | exact bytesF_one _ | (simp_all; done) | (simp_all; omega)))) ?_ | refine r_gval rfl rfl rfl rfl (by (first | omega | exact Nat.le_of_ble_eq_true rfl | (simp_all; done) | (simp_all; omega) | ((repeat' refine And.intro ?_ ?_) <;> first | omega | rfl | exact Nat.le_refl _ | exact Nat.le_of_ble_eq_true rfl | exact bytesF_one _ | (simp_all; done) | (simp_all; omega)))) ?_
    | refine r_obj rfl rfl (by (first | omega | exact Nat.le_of_ble_eq_true rfl | (simp_all; done) | (simp_all; omega) | ((repeat' refine And.intro ?_ ?_) <;> first | omega | rfl | exact Nat.le_refl _ | exact Nat.le_of_ble_eq_true rfl | exact bytesF_one _ | (simp_all; done) | (simp_all; omega)))) ?_ | refine r_sto rfl (by (first | omega | exact Nat.le_of_ble_eq_true rfl | (simp_all; done) | (simp_all; omega) | ((repeat' refine And.intro ?_ ?_) <;> first | omega | rfl | exact Nat.le_refl _ | exact Nat.le_of_ble_eq_true rfl | exact bytesF_one _ | (simp_all; done) | (simp_all; omega)))) ?_ | refine r_gobj rfl rfl rfl rfl (by (first | omega | exact Nat.le_of_ble_eq_true rfl | (simp_all; done) | (simp_all; omega) | ((repeat' refine And.intro ?_ ?_) <;> first | omega | rfl | exact Nat.le_refl _ | exact Nat.le_of_ble_eq_true rfl | exact bytesF_one _ | (simp_all; done) | (simp_all; omega)))) ?_
    | refine e_hit rfl ?_ | refine e_miss rfl ?_
    | refine ⟨by kernel_rfl, ?_⟩ | refine n_endM rfl rfl ⟨leOw_self _⟩ | refine x_endM rfl rfl ⟨leOw_self _⟩ | ((with_reducible refine c_grd ?_); (fail_if_success (refine c_lit true rfl rfl rfl ?_)); (fail_if_success (refine c_lit false rfl rfl rfl ?_)); refine c_split rfl rfl (fun _ => ?_) (fun _ => ?_)))

theorem counts_ctr (g : Rg) (hw : Wf0 g) : CtrO Try.prog 17 [.pv 9000 0] (objs g) (.tu [.i .i64 g.h, .i .i64 g.m]) (objs g) := by
  refine r_methM Try.func17 rfl Try.ntmps17 Try.results17 rfl (objs_ids g) (objs_ids g) rfl (objs_okIn hw) fun X hL hX => ?_
  repeat' (first
    | refine r_pnil und_ptr rfl rfl rfl ?_ | refine r_ldC5 (g := g) (x := .tmp 8) rfl rfl rfl (look_cache _) ?_ | refine r_ldC6 (g := g) rfl rfl rfl (look_cache _) ?_ | refine ⟨flowOk_col (by kernel_rfl), ?_⟩
    | with_reducible refine t_seq ?_ | with_reducible refine t_region ?_ | with_reducible refine c_nil ?_ | with_reducible refine n_then ?_
    | with_reducible refine t_ret ?_ | with_reducible refine t_skip ?_ | with_reducible refine t_exit ?_ | with_reducible refine t_block ?_
    | with_reducible refine n_block ?_ | with_reducible refine e_then ?_ | with_reducible refine x_then ?_ | with_reducible refine x_block ?_ | with_reducible refine t_draw ?_
    | refine r_val rfl rfl True.intro ?_ | refine r_gskip rfl rfl rfl ?_ | refine r_gskip2 rfl rfl rfl ?_ | refine r_gval rfl rfl rfl rfl True.intro ?_
    | refine t_true rfl ?_ | refine t_false rfl ?_
    | ((first | refine t_cond_d rfl (fun _ => ?_) (fun _ => ?_) | refine t_cond_i rfl (fun _ => ?_) (fun _ => ?_) | refine t_cond_j rfl (fun _ => ?_) (fun _ => ?_) | refine t_cond_s rfl (fun _ => ?_) (fun _ => ?_) | refine t_cond_n rfl (fun _ => ?_) (fun _ => ?_) | refine t_cond rfl (fun _ => ?_) (fun _ => ?_) | refine c_split_d rfl rfl (fun _ => ?_) (fun _ => ?_) | refine c_split_i rfl rfl (fun _ => ?_) (fun _ => ?_) | refine c_split_j rfl rfl (fun _ => ?_) (fun _ => ?_) | refine c_split_s rfl rfl (fun _ => ?_) (fun _ => ?_) | refine c_split_n rfl rfl (fun _ => ?_) (fun _ => ?_)) <;> try (first | contradiction | (exfalso; omega)))
    | refine r_val rfl rfl (by (first | omega | exact Nat.le_of_ble_eq_true rfl | (simp_all; done) | (simp_all; omega) | ((repeat' refine And.intro ?_ ?_) <;> first | omega | rfl | exact Nat.le_refl _ | exact Nat.le_of_ble_eq_true rfl | exact bytesF_one _ | (simp_all; done) | (simp_all; omega)))) ?_ | refine r_gval rfl rfl rfl rfl (by (first | omega | exact Nat.le_of_ble_eq_true rfl | (simp_all; done) | (simp_all; omega) | ((repeat' refine And.intro ?_ ?_) <;> first | omega | rfl | exact Nat.le_refl _ | exact Nat.le_of_ble_eq_true rfl | exact bytesF_one _ | (simp_all; done) | (simp_all; omega)))) ?_
    | refine r_obj rfl rfl (by (first | omega | exact Nat.le_of_ble_eq_true rfl | (simp_all; done) | (simp_all; omega) | ((repeat' refine And.intro ?_ ?_) <;> first | omega | rfl | exact Nat.le_refl _ | exact Nat.le_of_ble_eq_true rfl | exact bytesF_one _ | (simp_all; done) | (simp_all; omega)))) ?_ | refine r_sto rfl (by (first | omega | exact Nat.le_of_ble_eq_true rfl | (simp_all; done) | (simp_all; omega) | ((repeat' refine And.intro ?_ ?_) <;> first | omega | rfl | exact Nat.le_refl _ | exact Nat.le_of_ble_eq_true rfl | exact bytesF_one _ | (simp_all; done) | (simp_all; omega)))) ?_ | refine r_gobj rfl rfl rfl rfl (by (first | omega | exact Nat.le_of_ble_eq_true rfl | (simp_all; done) | (simp_all; omega) | ((repeat' refine And.intro ?_ ?_) <;> first | omega | rfl | exact Nat.le_refl _ | exact Nat.le_of_ble_eq_true rfl | exact bytesF_one _ | (simp_all; done) | (simp_all; omega)))) ?_
    | refine e_hit rfl ?_ | refine e_miss rfl ?_
    | refine ⟨by kernel_rfl, ?_⟩ | refine n_endM rfl rfl ⟨leOw_self _⟩ | refine x_endM rfl rfl ⟨leOw_self _⟩ | ((with_reducible refine c_grd ?_); (fail_if_success (refine c_lit true rfl rfl rfl ?_)); (fail_if_success (refine c_lit false rfl rfl rfl ?_)); refine c_split rfl rfl (fun _ => ?_) (fun _ => ?_)))

def clearG (g : Rg) : Rg := { g with es := [], nw := upd g.nw 1 1, ls := upd g.ls 1 1, sz := 0 }
theorem wf_clear {g : Rg} (h : Wf0 g) : Wf0 (clearG g) := by
  refine ⟨h.pos, fun i h0 h1 => ?_, fun p hp => (by cases hp)⟩
  obtain ⟨a1, a2, a3⟩ := h.nd i h0 h1
  have hp : 1 ≤ g.n := h.pos
  refine ⟨?_, ?_, a3⟩
  · show upd g.nw 1 1 i ≤ g.n
    unfold upd
    split <;> assumption
  · show upd g.ls 1 1 i ≤ g.n
    unfold upd
    split <;> assumption
theorem ring_clear {g : Rg} (h : Wf0 g) : Ring (clearG g) [] ∧ Size (clearG g) [] :=
  ⟨⟨wf_clear h, fun i hi => (by simp at hi), List.nodup_nil, ⟨(show upd g.ls 1 1 1 = 1 from upd_same ..), (show upd g.nw 1 1 1 = 1 from upd_same ..), trivial⟩, List.Perm.refl _, fun p hp => (by cases hp), List.nodup_nil, fun i hi => (by simp at hi)⟩, ⟨rfl, by simp [ents, sumL]⟩⟩

set_option maxRecDepth 100000 in
theorem clear_ctr (g : Rg) (hw : Wf0 g) : CtrO Try.prog 16 [.pv 9000 0] (objs g) (.tu []) (objs (clearG g)) := by
  have h1 : 0 < 1 ∧ 1 ≤ g.n := ⟨by omega, hw.pos⟩
  refine r_methM Try.func16 rfl Try.ntmps16 Try.results16 rfl (objs_ids g) (objs_ids (clearG g)) rfl (objs_okIn (wf_clear hw)) fun X hL hX => ?_
  repeat' (first
    | refine r_pnil und_ptr rfl rfl rfl ?_ | refine r_ldC2 rfl rfl rfl (look_cache _) ?_ | refine r_nclr und_map rfl ?_ | refine r_ldC3 rfl rfl rfl (look_cache _) ?_ | refine r_stW (i := 1) (j := 1) rfl rfl rfl h1 h1.1 ?_ | refine r_stL (i := 1) (j := 1) rfl rfl rfl h1 h1.1 ?_ | refine r_stSz rfl rfl rfl ?_ | refine ⟨flowOk_col (by kernel_rfl), ?_⟩
    | with_reducible refine t_seq ?_ | with_reducible refine t_region ?_ | with_reducible refine c_nil ?_ | with_reducible refine n_then ?_
    | with_reducible refine t_ret ?_ | with_reducible refine t_skip ?_ | with_reducible refine t_exit ?_ | with_reducible refine t_block ?_
    | with_reducible refine n_block ?_ | with_reducible refine e_then ?_ | with_reducible refine x_then ?_ | with_reducible refine x_block ?_ | with_reducible refine t_draw ?_
    | refine r_val rfl rfl True.intro ?_ | refine r_gskip rfl rfl rfl ?_ | refine r_gskip2 rfl rfl rfl ?_ | refine r_gval rfl rfl rfl rfl True.intro ?_
    | refine t_true rfl ?_ | refine t_false rfl ?_
    | ((first | refine t_cond_d rfl (fun _ => ?_) (fun _ => ?_) | refine t_cond_i rfl (fun _ => ?_) (fun _ => ?_) | refine t_cond_j rfl (fun _ => ?_) (fun _ => ?_) | refine t_cond_s rfl (fun _ => ?_) (fun _ => ?_) | refine t_cond_n rfl (fun _ => ?_) (fun _ => ?_) | refine t_cond rfl (fun _ => ?_) (fun _ => ?_) | refine c_split_d rfl rfl (fun _ => ?_) (fun _ => ?_) | refine c_split_i rfl rfl (fun _ => ?_) (fun _ => ?_) | refine c_split_j rfl rfl (fun _ => ?_) (fun _ => ?_) | refine c_split_s rfl rfl (fun _ => ?_) (fun _ => ?_) | refine c_split_n rfl rfl (fun _ => ?_) (fun _ => ?_)) <;> try (first | contradiction | (exfalso; omega)))
    | refine r_val rfl rfl (by (first | omega | exact Nat.le_of_ble_eq_true rfl | (simp_all; done) | (simp_all; omega) | ((repeat' refine And.intro ?_ ?_) <;> first | omega | rfl | exact Nat.le_refl _ | exact Nat.le_of_ble_eq_true rfl | exact bytesF_one _ | (simp_all; done) | (simp_all; omega)))) ?_ | refine r_gval rfl rfl rfl rfl (by (first | omega | exact Nat.le_of_ble_eq_true rfl | (simp_all; done) | (simp_all; omega) | ((repeat' refine And.intro ?_ ?_) <;> first | omega | rfl | exact Nat.le_refl _ | exact Nat.le_of_ble_eq_true rfl | exact bytesF_one _ | (simp_all; done) | (simp_all; omega)))) ?_
    | refine r_obj rfl rfl (by (first | omega | exact Nat.le_of_ble_eq_true rfl | (simp_all; done) | (simp_all; omega) | ((repeat' refine And.intro ?_ ?_) <;> first | omega | rfl | exact Nat.le_refl _ | exact Nat.le_of_ble_eq_true rfl | exact bytesF_one _ | (simp_all; done) | (simp_all; omega)))) ?_ | refine r_sto rfl (by (first | omega | exact Nat.le_of_ble_eq_true rfl | (simp_all; done) | (simp_all; omega) | ((repeat' refine And.intro ?_ ?_) <;> first | omega | rfl | exact Nat.le_refl _ | exact Nat.le_of_ble_eq_true rfl | exact bytesF_one _ | (simp_all; done) | (simp_all; omega)))) ?_ | refine r_gobj rfl rfl rfl rfl (by (first | omega | exact Nat.le_of_ble_eq_true rfl | (simp_all; done) | (simp_all; omega) | ((repeat' refine And.intro ?_ ?_) <;> first | omega | rfl | exact Nat.le_refl _ | exact Nat.le_of_ble_eq_true rfl | exact bytesF_one _ | (simp_all; done) | (simp_all; omega)))) ?_
    | refine e_hit rfl ?_ | refine e_miss rfl ?_
    | refine ⟨by kernel_rfl, ?_⟩ | refine n_endM rfl rfl ⟨leOw_self _⟩ | refine x_endM rfl rfl ⟨leOw_self _⟩ | ((with_reducible refine c_grd ?_); (fail_if_success (refine c_lit true rfl rfl rfl ?_)); (fail_if_success (refine c_lit false rfl rfl rfl ?_)); refine c_split rfl rfl (fun _ => ?_) (fun _ => ?_)))

/-! ### New -/
def emptyG (E M : Int) : Rg := { n := 1, E := E, M := M, sz := 0, h := 0, m := 0, es := [], key := fun _ => [], val := fun _ => .nilS, nw := fun _ => 1, ls := fun _ => 1 }
theorem ring_empty (E M : Int) : Ring (emptyG E M) [] ∧ Size (emptyG E M) [] :=
  ⟨⟨⟨Nat.lt_succ_self 0, fun i _ _ => ⟨Nat.le_refl _, Nat.le_refl _, rfl⟩, fun p hp => (by cases hp)⟩, fun i hi => (by simp at hi), List.nodup_nil, ⟨rfl, rfl, trivial⟩, List.Perm.refl _, fun p hp => (by cases hp), List.nodup_nil, fun i hi => (by simp at hi)⟩, ⟨rfl, by simp [ents, sumL]⟩⟩

theorem objs_empty (E M : Int) : objs (emptyG E M) = [(9000, .var [.i .i64 E, .i .i64 M, .mh 9001, .pv (lab 1) 0, .i .i64 0, .i .i64 0, .i .i64 0]), (9001, .mp []), (lab 1, .var [.s [], .nilS, .pv (lab 1) 0, .pv (lab 1) 0])] := by
  unfold objs
  rfl

set_option maxRecDepth 100000 in
theorem new_ctr (E M : Int) : CtrO Try.prog 8 [.i .i64 E, .i .i64 M] [] (.pv 9000 0) (objs (emptyG (max E 0) (max M 0))) := by
  refine r_methN Try.func8 rfl Try.ntmps8 Try.results8 rfl rfl (objs_ids _) (fun _ h => by simp at h) rfl (objs_okIn (ring_empty _ _).1.wf) fun X hL hX => ?_
  repeat' (first
    | refine r_boxAt (lab 1) (d := .ag [.s [], .nilS, .v (.pointer none), .v (.pointer none)]) rfl rfl rfl rfl rfl ?_ | refine r_storP (k := lab 1) (d := .pv (lab 1) 0) rfl rfl rfl look_hit rfl (Nat.le_of_ble_eq_true rfl) rfl rfl ?_ | refine r_mnewAt 9001 (by simp only [look_beq (lab_ne1 1)]; rfl) rfl ?_ | refine r_boxAt 9000 rfl rfl rfl (by rw [look_beq (by omega)]; simp only [look_beq (lab_ne0 1)]; rfl) rfl ?_
    | with_reducible refine t_seq ?_ | with_reducible refine t_region ?_ | with_reducible refine c_nil ?_ | with_reducible refine n_then ?_
    | with_reducible refine t_ret ?_ | with_reducible refine t_skip ?_ | with_reducible refine t_exit ?_ | with_reducible refine t_block ?_
    | with_reducible refine n_block ?_ | with_reducible refine e_then ?_ | with_reducible refine x_then ?_ | with_reducible refine x_block ?_ | with_reducible refine t_draw ?_
    | refine r_val rfl rfl True.intro ?_ | refine r_gskip rfl rfl rfl ?_ | refine r_gskip2 rfl rfl rfl ?_ | refine r_gval rfl rfl rfl rfl True.intro ?_
    | refine t_true rfl ?_ | refine t_false rfl ?_
    | ((first | refine t_cond_d rfl (fun _ => ?_) (fun _ => ?_) | refine t_cond_i rfl (fun _ => ?_) (fun _ => ?_) | refine t_cond_j rfl (fun _ => ?_) (fun _ => ?_) | refine t_cond_s rfl (fun _ => ?_) (fun _ => ?_) | refine t_cond_n rfl (fun _ => ?_) (fun _ => ?_) | refine t_cond rfl (fun _ => ?_) (fun _ => ?_) | refine c_split_d rfl rfl (fun _ => ?_) (fun _ => ?_) | refine c_split_i rfl rfl (fun _ => ?_) (fun _ => ?_) | refine c_split_j rfl rfl (fun _ => ?_) (fun _ => ?_) | refine c_split_s rfl rfl (fun _ => ?_) (fun _ => ?_) | refine c_split_n rfl rfl (fun _ => ?_) (fun _ => ?_)) <;> try (first | contradiction | (exfalso; omega)))
    | refine r_val rfl rfl (by (first | omega | exact Nat.le_of_ble_eq_true rfl | (simp_all; done) | (simp_all; omega) | ((repeat' refine And.intro ?_ ?_) <;> first | omega | rfl | exact Nat.le_refl _ | exact Nat.le_of_ble_eq_true rfl | exact bytesF_one _ | (simp_all; done) | (simp_all; omega)))) ?_ | refine r_gval rfl rfl rfl rfl (by (first | omega | exact Nat.le_of_ble_eq_true rfl | (simp_all; done) | (simp_all; omega) | ((repeat' refine And.intro ?_ ?_) <;> first | omega | rfl | exact Nat.le_refl _ | exact Nat.le_of_ble_eq_true rfl | exact bytesF_one _ | (simp_all; done) | (simp_all; omega)))) ?_
    | refine r_obj rfl rfl (by (first | omega | exact Nat.le_of_ble_eq_true rfl | (simp_all; done) | (simp_all; omega) | ((repeat' refine And.intro ?_ ?_) <;> first | omega | rfl | exact Nat.le_refl _ | exact Nat.le_of_ble_eq_true rfl | exact bytesF_one _ | (simp_all; done) | (simp_all; omega)))) ?_ | refine r_sto rfl (by (first | omega | exact Nat.le_of_ble_eq_true rfl | (simp_all; done) | (simp_all; omega) | ((repeat' refine And.intro ?_ ?_) <;> first | omega | rfl | exact Nat.le_refl _ | exact Nat.le_of_ble_eq_true rfl | exact bytesF_one _ | (simp_all; done) | (simp_all; omega)))) ?_ | refine r_gobj rfl rfl rfl rfl (by (first | omega | exact Nat.le_of_ble_eq_true rfl | (simp_all; done) | (simp_all; omega) | ((repeat' refine And.intro ?_ ?_) <;> first | omega | rfl | exact Nat.le_refl _ | exact Nat.le_of_ble_eq_true rfl | exact bytesF_one _ | (simp_all; done) | (simp_all; omega)))) ?_
    | refine e_hit rfl ?_ | refine e_miss rfl ?_
    | refine ⟨by kernel_rfl, ?_⟩ | refine n_endM rfl rfl ⟨?_⟩ | refine x_endM rfl rfl ⟨?_⟩ | ((with_reducible refine c_grd ?_); (fail_if_success (refine c_lit true rfl rfl rfl ?_)); (fail_if_success (refine c_lit false rfl rfl rfl ?_)); refine c_split rfl rfl (fun _ => ?_) (fun _ => ?_)))
  all_goals
    rw [objs_empty]
    refine ⟨look_hit, ?_, ?_, trivial⟩
    · rfl
    · show look (lab 1) ((9000, _) :: (9001, _) :: (lab 1, _) :: _) = _
      rw [look_beq (lab_ne0 1).symm, look_beq (lab_ne1 1).symm]
      exact look_hit

/-! ### Keys -/
def kyF (l : List (List UInt8)) : Nat → List D := fun i => [.s (l.getD i [])]
theorem kyF_snoc (l : List (List UInt8)) (x : List UInt8) (g : Nat → List D) (hg : g 0 = [.s x]) : catF l.length (kyF l) 1 g = kyF (l ++ [x]) := by
  funext j
  unfold catF kyF
  by_cases h : j < l.length
  · rw [if_pos h]
    simp [List.getD_eq_getElem?_getD, h, List.getElem?_append_left]
  · rw [if_neg h]
    by_cases h2 : j < l.length + 1
    · rw [if_pos h2, show j - l.length = 0 by omega, hg]
      simp [List.getD_eq_getElem?_getD, List.getElem?_append_right (show l.length ≤ j by omega), show j - l.length = 0 by omega]
    · rw [if_neg h2]
      simp [List.getD_eq_getElem?_getD, List.getElem?_append_right (show l.length ≤ j by omega)]
      rw [List.getElem?_eq_none (show l.length ≤ j by omega), List.getElem?_eq_none (by simp; omega)]

theorem ky_snoc (k n : Nat) (l l2 : List (List UInt8)) (x : List UInt8) (g : Nat → List D) (hn : n = l.length) (hg : g 0 = [.s x]) (h2 : l2 = l ++ [x]) : D.gs k 1 (n + 1) (catF n (kyF l) 1 g) = D.gs k 1 l2.length (kyF l2) := by
  subst h2
  subst hn
  rw [kyF_snoc l x g hg, List.length_append]
  rfl

theorem wk_ky {n : Nat} {f : Nat → List D} (l : List (List UInt8)) (hn : n = l.length) (hf : f = kyF l) : Weak (.sl 1 n f) (.sl 1 l.length (kyF l)) := by
  subst hn
  subst hf
  exact .refl _

theorem chn_at {g : Rg} {L a b : List Nat} {i : Nat} (h : Ring g L) (e : L = a ++ i :: b) : g.ls i = b.headD 1 := by
  subst e
  have hc := h.ch
  rw [show 1 :: (a ++ i :: b ++ [1]) = (1 :: a) ++ i :: (b ++ [1]) by simp, chn_app] at hc
  have := hc.2
  cases b with
  | nil => exact this.1
  | cons q r => exact this.1

theorem chn_0 {g : Rg} {L : List Nat} (h : Ring g L) : g.ls 1 = L.headD 1 := by
  have hc := h.ch
  cases L with
  | nil => exact hc.1
  | cons q r => exact hc.1

end Go.Proofs.Ytghhohckonbkkaa.Flow

/- LRU: Keys, the methods on nil, SameTexts, the law's example. -/
namespace Go.Proofs.Ytghhohckonbkkaa.Flow
open Go

theorem okIn_mono {ks ks' : List Nat} (h : ∀ k, memB k ks = true → memB k ks' = true) {d : D} (hd : d.okIn ks = true) : d.okIn ks' = true := by
  cases d with
  | pv k o => exact h k hd
  | gs k _ _ _ => exact h k hd
  | ah k _ _ => exact h k hd
  | ap k _ _ _ _ => exact h k hd
  | mh k => exact h k hd
  | fn f cs =>
    have hd : cs.all (D.okI1 ks) = true := hd
    show cs.all (D.okI1 ks') = true
    rw [List.all_eq_true] at hd ⊢
    intro c hc
    have := hd c hc
    cases c <;> first | exact this | exact h _ this
  | _ => exact hd

theorem ownOkIn_mono {ks ks' : List Nat} (h : ∀ k, memB k ks = true → memB k ks' = true) {o : Own} (ho : o.okIn ks = true) : o.okIn ks' = true := by
  cases o with
  | var cs =>
    have ho : cs.all (D.okIn ks) = true := ho
    show cs.all (D.okIn ks') = true
    rw [List.all_eq_true] at ho ⊢
    exact fun c hc => okIn_mono h (ho c hc)
  | bld T d => exact okIn_mono h ho
  | mp es =>
    have ho : (es.all fun p => p.2.okIn ks) = true := ho
    show (es.all fun p => p.2.okIn ks') = true
    rw [List.all_eq_true] at ho ⊢
    exact fun c hc => okIn_mono h (ho c hc)
  | _ => rfl

/-- The call's own objects and temporaries name none of the cache's but the cache itself and some entries. -/
theorem okAll_C {own : Ow} {fr : Fr} {g : Rg} {ks : List Nat} (hw : Wf0 g) (hk : ∀ k, memB k ks = true → k ∈ own.map (·.1) ∨ k ∈ idsG g.n) (h : okAll ks fr own = true) : okAll ((own ++ objs g).map (·.1)) fr (own ++ objs g) = true := by
  unfold okAll at h ⊢
  rw [Bool.and_eq_true, List.all_eq_true, List.all_eq_true] at h
  have hm : ∀ k, memB k ks = true → memB k ((own ++ objs g).map (·.1)) = true := fun k hk' => memB_of (by
    rw [List.map_append, objs_ids]
    exact List.mem_append.2 (hk k hk'))
  have hm2 : ∀ k, memB k (idsG g.n) = true → memB k ((own ++ objs g).map (·.1)) = true := fun k hk' => memB_of (by
    rw [List.map_append, objs_ids]
    exact List.mem_append.2 (.inr (memB_spec hk')))
  rw [Bool.and_eq_true, List.all_eq_true, List.all_eq_true]
  refine ⟨fun x hx => okIn_mono hm (h.1 x hx), fun x hx => ?_⟩
  rcases List.mem_append.1 hx with hx | hx
  · exact ownOkIn_mono hm (h.2 x hx)
  · have := objs_okIn hw
    rw [List.all_eq_true] at this
    exact ownOkIn_mono hm2 (this x hx)

theorem leOw_app {ow lo lo2 : Ow} : leOw ow (lo ++ lo2) ↔ leOw ow lo ∧ leOw ow lo2 := by
  induction lo with
  | nil => simp [leOw]
  | cons p r ih =>
    obtain ⟨k, o⟩ := p
    show (_ ∧ leOw ow (r ++ lo2)) ↔ (_ ∧ leOw ow r) ∧ leOw ow lo2
    rw [ih, and_assoc]

theorem leOw_C {ow own own2 : Ow} {g : Rg} [h : Canon ow own g] (ho : lits own = true) (hl : leOw ow own2) : leOw ow (own2 ++ objs g) :=
  leOw_app.2 ⟨hl, by rw [h.eq]; exact leOw_objs ho g⟩

theorem CtrO.weak {P : Program} {f : FuncId} {args args' : List D} {ow ow' : Ow} {d : D} (hC : CtrO P f args' ow d ow') (hn : args'.length = args.length) (h : ∀ j, j < args.length → Weak (args.getD j .any) (args'.getD j .any)) : CtrO P f args ow d ow' := by
  intro X vs hid hH hI hsz hr
  exact hC X vs hid hH hI (by rw [hsz, hn]) fun j hj => (hr j (by omega)).weak (h j (by omega))

theorem CtrO.weak3 {P : Program} {f : FuncId} {a b c c' : D} {ow ow' : Ow} {d : D} (hC : CtrO P f [a, b, c'] ow d ow') (h : Weak c c') : CtrO P f [a, b, c] ow d ow' := hC.weak rfl fun j hj => match j, hj with
  | 0, _ => .refl _
  | 1, _ => .refl _
  | 2, _ => h

section
variable {X : Ctx} {n : Nat} {all rest : List Oper} {fr : Fr} {ow own : Ow} {tr : List (List Nat × List Nat)} {K : Fr → Ow → List (List Nat × List Nat) → Prop}
variable {t : Nat} {op : Op} {ty : TypeId} {ps : String} {af : Array Edge} {d : D} {f : FuncId} {args : List D} {g' : Rg}

/-- A cell that is known by a law. -/
theorem r_ldrx {ty' : TypeId} {x : Operand} {cs : List D} (d : D) (hx : ev fr x = .rf cs 0) (hz : B.sz ty = some (1, false)) (hcs : cs = [d]) (hn : Nat.blt t n = true)
    (h : CT Try.prog X n all rest ((t, d) :: fr) ow (tr ++ [([], [])]) K) : CT Try.prog X n all (⟨some t, .load ty x, ty', ps, af, none⟩ :: rest) fr ow tr K := by
  refine r_val (d := d) (p := partP (1, false) cs 0) (rd := []) ?_ hn ?_ h
  · show loadD B _ ty (ev fr x) = _
    rw [hx, hcs]
    unfold loadD
    rw [hz]
    exact fz_eq _ _
  · subst hcs
    exact Nat.le_refl 1

/-- A new cache. -/
theorem r_newC (ho : lits own = true) (hw' : Wf0 g') (hc : callOf fr op = some (f, args)) (hn : Nat.blt t n = true) (hP : ∀ vs w, (callFunc f vs).run Try.prog w = .ok (.enter f vs) w)
    (hok : (args.map (lendA [])).all (D.okIn []) = true) (hd : d.okIn (idsG g'.n) = true) (hC : CtrO Try.prog f (args.map (lendA [])) [] d (objs g'))
    (h : CT Try.prog X n all rest ((t, d) :: fr) (own ++ objs g') (tr ++ [(idsG g'.n, (objs g').map (·.1))]) K) : CT Try.prog X n all (⟨some t, op, ty, ps, af, none⟩ :: rest) fr own tr K :=
  CT.cons (e := ⟨d, idsG g'.n, objs g'⟩) (.plain rfl (lendN_step (o := ⟨some t, op, ty, ps, af, none⟩) (ow := own) (lo := []) (ids := []) hP hc trivial rfl (objs_ids g') (ids_nodup _) (fun _ h => by simp at h)
    (fun k hk _ => look_none (lits_not ho hk)) hok rfl (objs_okIn hw') hd hC (show t < n by simpa using hn))) (fF_cons ..) (by
      funext k
      rw [updO_look (by rw [objs_ids]; exact ids_nodup _)]
      show look k (own ++ objs g') = match look k (objs g') with
        | some o => some o
        | none => look k own
      by_cases hk : k ∈ idsG g'.n
      · rw [look_own (lits_not ho hk)]
        cases h : look k (objs g') with
        | some o => rfl
        | none =>
          obtain ⟨o, ho'⟩ := look_some (ow := objs g') (k := k) (by rw [objs_ids]; exact hk)
          rw [h] at ho'
          cases ho'
      · rw [look_app, look_objs_none hk]
        cases look k own <;> rfl) h
end

/-! ### Keys -/
theorem ents_keys (g : Rg) (L : List Nat) : (ents g L).map (·.1) = L.map g.key := by simp [ents, Function.comp_def]

theorem info_ent : Try.prog.info? 54 = some ((Try.prog.info? 54).getD default) := by kernel_rfl
theorem info_sz : ((Try.prog.info? 54).getD default).size ≠ 0 := by
  have : ((Try.prog.info? 54).getD default).size = 4 := by kernel_rfl
  rw [this]
  decide

set_option maxRecDepth 100000 in
theorem keys_ctr (g : Rg) (L : List Nat) (h : Ring g L) (hl : L.length ≤ 1000000) : CtrO Try.prog 19 [.pv 9000 0] (objs g) (.sl 1 (L.map g.key).length (kyF (L.map g.key))) (objs g) := by
  have hw := h.wf
  have h1 : 0 < 1 ∧ 1 ≤ g.n := ⟨by omega, hw.pos⟩
  have hd0 : ∀ a b : List Nat, L = a ++ b → 0 < b.headD 1 ∧ b.headD 1 ≤ g.n := fun a b e => by
    cases b with
    | nil => exact h1
    | cons q r =>
      have := h.ent q (by rw [e]; simp)
      exact ⟨by show 0 < q; omega, this.2⟩
  have hd1 := hd0 [] L rfl
  refine r_methD Try.func19 rfl Try.ntmps19 Try.results19 rfl (objs_ids g) (objs_ids g) rfl (objs_okIn hw) fun X hL hX => ?_
  repeat' (first
    | refine r_pnil und_ptr rfl rfl rfl ?_ | refine r_ldC3 (g := g) rfl rfl rfl (look_cache _) ?_ | refine r_ldL (i := 1) (j := L.headD 1) (g := g) rfl rfl rfl (look_node h1) (chn_0 h) hd1.1 ?_
    | with_reducible refine t_seq ?_ | with_reducible refine t_region ?_ | with_reducible refine c_nil ?_ | with_reducible refine n_then ?_
    | with_reducible refine t_ret ?_ | with_reducible refine t_skip ?_ | with_reducible refine t_exit ?_ | with_reducible refine t_block ?_
    | with_reducible refine n_block ?_ | with_reducible refine e_then ?_ | with_reducible refine x_then ?_ | with_reducible refine x_block ?_ | with_reducible refine t_draw ?_
    | refine r_val rfl rfl True.intro ?_ | refine r_gskip rfl rfl rfl ?_ | refine r_gskip2 rfl rfl rfl ?_ | refine r_gval rfl rfl rfl rfl True.intro ?_
    | refine t_true rfl ?_ | refine t_false rfl ?_
    | ((first | refine t_cond_d rfl (fun _ => ?_) (fun _ => ?_) | refine t_cond_i rfl (fun _ => ?_) (fun _ => ?_) | refine t_cond_j rfl (fun _ => ?_) (fun _ => ?_) | refine t_cond_s rfl (fun _ => ?_) (fun _ => ?_) | refine t_cond_n rfl (fun _ => ?_) (fun _ => ?_) | refine t_cond rfl (fun _ => ?_) (fun _ => ?_) | refine c_split_d rfl rfl (fun _ => ?_) (fun _ => ?_) | refine c_split_i rfl rfl (fun _ => ?_) (fun _ => ?_) | refine c_split_j rfl rfl (fun _ => ?_) (fun _ => ?_) | refine c_split_s rfl rfl (fun _ => ?_) (fun _ => ?_) | refine c_split_n rfl rfl (fun _ => ?_) (fun _ => ?_)) <;> try (first | contradiction | (exfalso; omega)))
    | refine r_val rfl rfl (by (first | omega | exact Nat.le_of_ble_eq_true rfl | (simp_all; done) | (simp_all; omega) | ((repeat' refine And.intro ?_ ?_) <;> first | omega | rfl | exact Nat.le_refl _ | exact Nat.le_of_ble_eq_true rfl | exact bytesF_one _ | (simp_all; done) | (simp_all; omega)))) ?_ | refine r_gval rfl rfl rfl rfl (by (first | omega | exact Nat.le_of_ble_eq_true rfl | (simp_all; done) | (simp_all; omega) | ((repeat' refine And.intro ?_ ?_) <;> first | omega | rfl | exact Nat.le_refl _ | exact Nat.le_of_ble_eq_true rfl | exact bytesF_one _ | (simp_all; done) | (simp_all; omega)))) ?_
    | refine r_obj rfl rfl (by (first | omega | exact Nat.le_of_ble_eq_true rfl | (simp_all; done) | (simp_all; omega) | ((repeat' refine And.intro ?_ ?_) <;> first | omega | rfl | exact Nat.le_refl _ | exact Nat.le_of_ble_eq_true rfl | exact bytesF_one _ | (simp_all; done) | (simp_all; omega)))) ?_ | refine r_sto rfl (by (first | omega | exact Nat.le_of_ble_eq_true rfl | (simp_all; done) | (simp_all; omega) | ((repeat' refine And.intro ?_ ?_) <;> first | omega | rfl | exact Nat.le_refl _ | exact Nat.le_of_ble_eq_true rfl | exact bytesF_one _ | (simp_all; done) | (simp_all; omega)))) ?_ | refine r_gobj rfl rfl rfl rfl (by (first | omega | exact Nat.le_of_ble_eq_true rfl | (simp_all; done) | (simp_all; omega) | ((repeat' refine And.intro ?_ ?_) <;> first | omega | rfl | exact Nat.le_refl _ | exact Nat.le_of_ble_eq_true rfl | exact bytesF_one _ | (simp_all; done) | (simp_all; omega)))) ?_
    | refine e_hit rfl ?_ | refine e_miss rfl ?_
    | refine ⟨by kernel_rfl, ?_⟩ | ((with_reducible refine c_grd ?_); (fail_if_success (refine c_lit true rfl rfl rfl ?_)); (fail_if_success (refine c_lit false rfl rfl rfl ?_)); refine c_split rfl rfl (fun _ => ?_) (fun _ => ?_)))
  refine T.adopt 3 3 9 1 (kyF []) rfl (look_low rfl) ?_
  refine T.loop hL (fun x : List Nat × List Nat => [(0, .pv 9000 0), (4, .pv (lab (x.2.headD 1)) 0), (3, .gs 3 1 (x.1.map g.key).length (kyF (x.1.map g.key)))]) (fun x => [(3, .row 9 1 (x.1.map g.key).length)] ++ objs g)
    (fun x => L = x.1 ++ x.2) (fun x => x.2.length) ([], L) rfl ⟨⟨rfl, rfl, rfl, trivial⟩, leOw_C (own2 := [_]) rfl ⟨rfl, trivial⟩, okAll_C (ks := [lab (L.headD 1), 9000, 3]) hw (fun k hk => ?_) ?_, fun k hk => ?_⟩ ?_
  · have := memB_spec hk
    simp only [List.mem_cons, List.not_mem_nil, or_false] at this
    rcases this with rfl | rfl | rfl
    · exact .inr (mem_ids hd1)
    · exact .inr (by simp [idsG])
    · exact .inl (by simp)
  · simp [okAll, D.okIn, Own.okIn, memB_of]
  · rw [hX] at hk
    rw [List.map_append, objs_ids]
    exact List.mem_append.2 (.inr hk)
  rintro ⟨a, b⟩ hab
  dsimp only at hab ⊢
  have hdb := hd0 a b hab
  cases b with
  | nil =>
    have e : L = a := by rw [hab, List.append_nil]
    repeat' (first
      | refine r_ldC3 (g := g) rfl rfl rfl (look_cacheC rfl) ?_ | refine r_pneqF (i := [].headD 1) (j := 1) rfl und_ent info_ent info_sz rfl rfl (look_nodeC rfl h1) (look_nodeC rfl h1) rfl ?_
      | with_reducible refine t_seq ?_ | with_reducible refine t_region ?_ | with_reducible refine c_nil ?_ | with_reducible refine n_then ?_
      | with_reducible refine t_ret ?_ | with_reducible refine t_skip ?_ | with_reducible refine t_exit ?_ | with_reducible refine t_block ?_
      | with_reducible refine n_block ?_ | with_reducible refine e_then ?_ | with_reducible refine x_then ?_ | with_reducible refine x_block ?_ | with_reducible refine t_draw ?_
      | refine r_val rfl rfl True.intro ?_ | refine r_gskip rfl rfl rfl ?_ | refine r_gskip2 rfl rfl rfl ?_ | refine r_gval rfl rfl rfl rfl True.intro ?_
      | refine t_true rfl ?_ | refine t_false rfl ?_
      | ((first | refine t_cond_d rfl (fun _ => ?_) (fun _ => ?_) | refine t_cond_i rfl (fun _ => ?_) (fun _ => ?_) | refine t_cond_j rfl (fun _ => ?_) (fun _ => ?_) | refine t_cond_s rfl (fun _ => ?_) (fun _ => ?_) | refine t_cond_n rfl (fun _ => ?_) (fun _ => ?_) | refine t_cond rfl (fun _ => ?_) (fun _ => ?_) | refine c_split_d rfl rfl (fun _ => ?_) (fun _ => ?_) | refine c_split_i rfl rfl (fun _ => ?_) (fun _ => ?_) | refine c_split_j rfl rfl (fun _ => ?_) (fun _ => ?_) | refine c_split_s rfl rfl (fun _ => ?_) (fun _ => ?_) | refine c_split_n rfl rfl (fun _ => ?_) (fun _ => ?_)) <;> try (first | contradiction | (exfalso; omega)))
      | refine r_val rfl rfl (by (first | omega | exact Nat.le_of_ble_eq_true rfl | (simp_all; done) | (simp_all; omega) | ((repeat' refine And.intro ?_ ?_) <;> first | omega | rfl | exact Nat.le_refl _ | exact Nat.le_of_ble_eq_true rfl | exact bytesF_one _ | (simp_all; done) | (simp_all; omega)))) ?_ | refine r_gval rfl rfl rfl rfl (by (first | omega | exact Nat.le_of_ble_eq_true rfl | (simp_all; done) | (simp_all; omega) | ((repeat' refine And.intro ?_ ?_) <;> first | omega | rfl | exact Nat.le_refl _ | exact Nat.le_of_ble_eq_true rfl | exact bytesF_one _ | (simp_all; done) | (simp_all; omega)))) ?_
      | refine r_obj rfl rfl (by (first | omega | exact Nat.le_of_ble_eq_true rfl | (simp_all; done) | (simp_all; omega) | ((repeat' refine And.intro ?_ ?_) <;> first | omega | rfl | exact Nat.le_refl _ | exact Nat.le_of_ble_eq_true rfl | exact bytesF_one _ | (simp_all; done) | (simp_all; omega)))) ?_ | refine r_sto rfl (by (first | omega | exact Nat.le_of_ble_eq_true rfl | (simp_all; done) | (simp_all; omega) | ((repeat' refine And.intro ?_ ?_) <;> first | omega | rfl | exact Nat.le_refl _ | exact Nat.le_of_ble_eq_true rfl | exact bytesF_one _ | (simp_all; done) | (simp_all; omega)))) ?_ | refine r_gobj rfl rfl rfl rfl (by (first | omega | exact Nat.le_of_ble_eq_true rfl | (simp_all; done) | (simp_all; omega) | ((repeat' refine And.intro ?_ ?_) <;> first | omega | rfl | exact Nat.le_refl _ | exact Nat.le_of_ble_eq_true rfl | exact bytesF_one _ | (simp_all; done) | (simp_all; omega)))) ?_
      | refine e_hit rfl ?_ | refine e_miss rfl ?_
      | refine ⟨by kernel_rfl, ?_⟩ | refine x_endD rfl (wk_ky _ (by rw [e]) (by rw [e])) ⟨leOw_objs (own := [_]) rfl g⟩ | refine n_endD rfl (wk_ky _ (by rw [e]) (by rw [e])) ⟨leOw_objs (own := [_]) rfl g⟩ | ((with_reducible refine c_grd ?_); (fail_if_success (refine c_lit true rfl rfl rfl ?_)); (fail_if_success (refine c_lit false rfl rfl rfl ?_)); refine c_split rfl rfl (fun _ => ?_) (fun _ => ?_)))
  | cons q r =>
    have hq := h.ent q (by rw [hab]; simp)
    have hq0 : 0 < q ∧ q ≤ g.n := ⟨by omega, hq.2⟩
    have hlen : a.length + r.length + 1 = L.length := by rw [hab]; simp; omega
    have hnx := chn_at h hab
    have hab2 : L = (a ++ [q]) ++ r := by rw [hab]; simp
    have hr1 := hd0 (a ++ [q]) r hab2
    have hml : (a.map g.key).length = a.length := by simp
    repeat' (first
      | refine r_ldC3 (g := g) rfl rfl rfl (look_cacheC rfl) ?_ | refine r_pneqT (i := q) (j := 1) (by omega) und_ent info_ent info_sz rfl rfl (look_nodeC rfl hq0) (look_nodeC rfl h1) rfl ?_ | refine r_ldK (i := q) (g := g) rfl rfl rfl (look_nodeC rfl hq0) ?_ | refine r_ldL (i := q) (j := r.headD 1) (g := g) rfl rfl rfl (look_nodeC rfl hq0) hnx hr1.1 ?_ | refine r_objL rfl rfl rfl (by (first | omega | exact Nat.le_of_ble_eq_true rfl | (simp_all; done) | (simp_all; omega) | ((repeat' refine And.intro ?_ ?_) <;> first | omega | rfl | exact Nat.le_refl _ | exact Nat.le_of_ble_eq_true rfl | exact bytesF_one _ | (simp_all; done) | (simp_all; omega)))) ?_
      | with_reducible refine t_seq ?_ | with_reducible refine t_region ?_ | with_reducible refine c_nil ?_ | with_reducible refine n_then ?_
      | with_reducible refine t_ret ?_ | with_reducible refine t_skip ?_ | with_reducible refine t_exit ?_ | with_reducible refine t_block ?_
      | with_reducible refine n_block ?_ | with_reducible refine e_then ?_ | with_reducible refine x_then ?_ | with_reducible refine x_block ?_ | with_reducible refine t_draw ?_
      | refine r_val rfl rfl True.intro ?_ | refine r_gskip rfl rfl rfl ?_ | refine r_gskip2 rfl rfl rfl ?_ | refine r_gval rfl rfl rfl rfl True.intro ?_
      | refine t_true rfl ?_ | refine t_false rfl ?_
      | ((first | refine t_cond_d rfl (fun _ => ?_) (fun _ => ?_) | refine t_cond_i rfl (fun _ => ?_) (fun _ => ?_) | refine t_cond_j rfl (fun _ => ?_) (fun _ => ?_) | refine t_cond_s rfl (fun _ => ?_) (fun _ => ?_) | refine t_cond_n rfl (fun _ => ?_) (fun _ => ?_) | refine t_cond rfl (fun _ => ?_) (fun _ => ?_) | refine c_split_d rfl rfl (fun _ => ?_) (fun _ => ?_) | refine c_split_i rfl rfl (fun _ => ?_) (fun _ => ?_) | refine c_split_j rfl rfl (fun _ => ?_) (fun _ => ?_) | refine c_split_s rfl rfl (fun _ => ?_) (fun _ => ?_) | refine c_split_n rfl rfl (fun _ => ?_) (fun _ => ?_)) <;> try (first | contradiction | (exfalso; omega)))
      | refine r_val rfl rfl (by (first | omega | exact Nat.le_of_ble_eq_true rfl | (simp_all; done) | (simp_all; omega) | ((repeat' refine And.intro ?_ ?_) <;> first | omega | rfl | exact Nat.le_refl _ | exact Nat.le_of_ble_eq_true rfl | exact bytesF_one _ | (simp_all; done) | (simp_all; omega)))) ?_ | refine r_gval rfl rfl rfl rfl (by (first | omega | exact Nat.le_of_ble_eq_true rfl | (simp_all; done) | (simp_all; omega) | ((repeat' refine And.intro ?_ ?_) <;> first | omega | rfl | exact Nat.le_refl _ | exact Nat.le_of_ble_eq_true rfl | exact bytesF_one _ | (simp_all; done) | (simp_all; omega)))) ?_
      | refine r_obj rfl rfl (by (first | omega | exact Nat.le_of_ble_eq_true rfl | (simp_all; done) | (simp_all; omega) | ((repeat' refine And.intro ?_ ?_) <;> first | omega | rfl | exact Nat.le_refl _ | exact Nat.le_of_ble_eq_true rfl | exact bytesF_one _ | (simp_all; done) | (simp_all; omega)))) ?_ | refine r_sto rfl (by (first | omega | exact Nat.le_of_ble_eq_true rfl | (simp_all; done) | (simp_all; omega) | ((repeat' refine And.intro ?_ ?_) <;> first | omega | rfl | exact Nat.le_refl _ | exact Nat.le_of_ble_eq_true rfl | exact bytesF_one _ | (simp_all; done) | (simp_all; omega)))) ?_ | refine r_gobj rfl rfl rfl rfl (by (first | omega | exact Nat.le_of_ble_eq_true rfl | (simp_all; done) | (simp_all; omega) | ((repeat' refine And.intro ?_ ?_) <;> first | omega | rfl | exact Nat.le_refl _ | exact Nat.le_of_ble_eq_true rfl | exact bytesF_one _ | (simp_all; done) | (simp_all; omega)))) ?_
      | refine e_hit rfl ?_ | refine e_miss rfl ?_
      | refine ⟨by kernel_rfl, ?_⟩ | ((with_reducible refine c_grd ?_); (fail_if_success (refine c_lit true rfl rfl rfl ?_)); (fail_if_success (refine c_lit false rfl rfl rfl ?_)); refine c_split rfl rfl (fun _ => ?_) (fun _ => ?_)))
    refine ⟨(a ++ [q], r), hab2, by simp, ⟨rfl, rfl, ky_snoc 3 _ (a.map g.key) _ (g.key q) _ rfl rfl (by simp), trivial⟩, leOw_C (own2 := [_]) rfl ⟨?_, trivial⟩, okAll_C (ks := [lab (r.headD 1), 9000, 3]) hw (fun k hk => ?_) ?_, fun k hk => ?_⟩
    · simp [look_hit]
    · have := memB_spec hk
      simp only [List.mem_cons, List.not_mem_nil, or_false] at this
      rcases this with rfl | rfl | rfl
      · exact .inr (mem_ids hr1)
      · exact .inr (by simp [idsG])
      · exact .inl (by simp)
    · simp [okAll, D.okIn, Own.okIn, memB_of]
    · rw [hX] at hk
      rw [List.map_append, objs_ids]
      exact List.mem_append.2 (.inr hk)

end Go.Proofs.Ytghhohckonbkkaa.Flow

/- LRU: the methods on nil, SameTexts, what a call of Put and of Get comes to, the law's example. -/
namespace Go.Proofs.Ytghhohckonbkkaa.Flow
open Go

abbrev nilP : D := .v (.pointer none)

/-! ### SameTexts -/
theorem list_eq_of {a b : List (List UInt8)} (hl : a.length = b.length) (h : ∀ j, j < a.length → a.getD j [] = b.getD j []) : a = b := by
  refine List.ext_getElem hl fun i h1 h2 => ?_
  have := h i h1
  simpa [List.getD_eq_getElem?_getD, h1, h2] using this

theorem same_ctr (a b : List (List UInt8)) (n m : Nat) (fa fb : Nat → List D) (hn : n = a.length) (hm : m = b.length) (ha : ∀ i, i < a.length → fa i = [.s (a.getD i [])]) (hb : ∀ i, i < b.length → fb i = [.s (b.getD i [])]) (hl : a.length ≤ 1000000) (hl2 : b.length ≤ 1000000) :
    Ctr Try.prog 18 [.sl 1 n fa, .sl 1 m fb] (.b (decide (a = b))) := by
  subst hn
  subst hm
  refine r_fun Try.func18 rfl Try.ntmps18 Try.results18 rfl rfl fun X hL hX => ?_
  repeat' (first
    | with_reducible refine t_seq ?_ | with_reducible refine t_region ?_ | with_reducible refine c_nil ?_ | with_reducible refine n_then ?_
    | with_reducible refine t_ret ?_ | with_reducible refine t_skip ?_ | with_reducible refine t_exit ?_ | with_reducible refine t_block ?_
    | with_reducible refine n_block ?_ | with_reducible refine e_then ?_ | with_reducible refine x_then ?_ | with_reducible refine x_block ?_ | with_reducible refine t_draw ?_
    | refine r_val rfl rfl True.intro ?_ | refine r_gskip rfl rfl rfl ?_ | refine r_gskip2 rfl rfl rfl ?_ | refine r_gval rfl rfl rfl rfl True.intro ?_
    | refine t_true rfl ?_ | refine t_false rfl ?_
    | ((first | refine t_cond_d rfl (fun _ => ?_) (fun _ => ?_) | refine t_cond_i rfl (fun _ => ?_) (fun _ => ?_) | refine t_cond_j rfl (fun _ => ?_) (fun _ => ?_) | refine t_cond_s rfl (fun _ => ?_) (fun _ => ?_) | refine t_cond_n rfl (fun _ => ?_) (fun _ => ?_) | refine t_cond rfl (fun _ => ?_) (fun _ => ?_) | refine c_split_d rfl rfl (fun _ => ?_) (fun _ => ?_) | refine c_split_i rfl rfl (fun _ => ?_) (fun _ => ?_) | refine c_split_j rfl rfl (fun _ => ?_) (fun _ => ?_) | refine c_split_s rfl rfl (fun _ => ?_) (fun _ => ?_) | refine c_split_n rfl rfl (fun _ => ?_) (fun _ => ?_)) <;> try (first | contradiction | (exfalso; omega)))
    | refine r_val rfl rfl (by (first | omega | exact Nat.le_of_ble_eq_true rfl | (simp_all; done) | (simp_all; omega) | ((repeat' refine And.intro ?_ ?_) <;> first | omega | rfl | exact Nat.le_refl _ | exact Nat.le_of_ble_eq_true rfl | exact bytesF_one _ | (simp_all; done) | (simp_all; omega)))) ?_ | refine r_gval rfl rfl rfl rfl (by (first | omega | exact Nat.le_of_ble_eq_true rfl | (simp_all; done) | (simp_all; omega) | ((repeat' refine And.intro ?_ ?_) <;> first | omega | rfl | exact Nat.le_refl _ | exact Nat.le_of_ble_eq_true rfl | exact bytesF_one _ | (simp_all; done) | (simp_all; omega)))) ?_
    | refine r_obj rfl rfl (by (first | omega | exact Nat.le_of_ble_eq_true rfl | (simp_all; done) | (simp_all; omega) | ((repeat' refine And.intro ?_ ?_) <;> first | omega | rfl | exact Nat.le_refl _ | exact Nat.le_of_ble_eq_true rfl | exact bytesF_one _ | (simp_all; done) | (simp_all; omega)))) ?_ | refine r_sto rfl (by (first | omega | exact Nat.le_of_ble_eq_true rfl | (simp_all; done) | (simp_all; omega) | ((repeat' refine And.intro ?_ ?_) <;> first | omega | rfl | exact Nat.le_refl _ | exact Nat.le_of_ble_eq_true rfl | exact bytesF_one _ | (simp_all; done) | (simp_all; omega)))) ?_ | refine r_gobj rfl rfl rfl rfl (by (first | omega | exact Nat.le_of_ble_eq_true rfl | (simp_all; done) | (simp_all; omega) | ((repeat' refine And.intro ?_ ?_) <;> first | omega | rfl | exact Nat.le_refl _ | exact Nat.le_of_ble_eq_true rfl | exact bytesF_one _ | (simp_all; done) | (simp_all; omega)))) ?_
    | refine e_hit rfl ?_ | refine e_miss rfl ?_
    | refine ⟨by kernel_rfl, ?_⟩ | refine x_end rfl ?_ | refine n_end rfl ?_ | ((with_reducible refine c_grd ?_); (fail_if_success (refine c_lit true rfl rfl rfl ?_)); (fail_if_success (refine c_lit false rfl rfl rfl ?_)); refine c_split rfl rfl (fun _ => ?_) (fun _ => ?_)))
  · have : ¬ a = b := fun e => by subst e; omega
    simp [this]
  have hab : a.length = b.length := by omega
  refine T.loop hL (fun i : Nat => [(0, .sl 1 a.length fa), (1, .sl 1 b.length fb), (5, .i .i64 i)]) (fun _ => []) (fun i => i ≤ a.length ∧ ∀ j, j < i → a.getD j [] = b.getD j []) (fun i => a.length - i) 0 ⟨by omega, fun j hj => by omega⟩
    ⟨⟨rfl, rfl, rfl, trivial⟩, trivial, rfl, fun k hk => by rw [hX] at hk; simp at hk⟩ ?_
  rintro i ⟨h1, h2⟩
  by_cases hi : i < a.length
  · have hfa : fa (i : Int).toNat = [.s (a.getD i [])] := by rw [Int.toNat_natCast]; exact ha i hi
    have hfb : fb (i : Int).toNat = [.s (b.getD i [])] := by rw [Int.toNat_natCast]; exact hb i (by omega)
    by_cases he : a.getD i [] = b.getD i []
    · rw [he] at hfa
      repeat' (first
        | refine r_ldrx _ rfl rfl hfa rfl ?_ | refine r_ldrx _ rfl rfl hfb rfl ?_
        | with_reducible refine t_seq ?_ | with_reducible refine t_region ?_ | with_reducible refine c_nil ?_ | with_reducible refine n_then ?_
        | with_reducible refine t_ret ?_ | with_reducible refine t_skip ?_ | with_reducible refine t_exit ?_ | with_reducible refine t_block ?_
        | with_reducible refine n_block ?_ | with_reducible refine e_then ?_ | with_reducible refine x_then ?_ | with_reducible refine x_block ?_ | with_reducible refine t_draw ?_
        | refine r_val rfl rfl True.intro ?_ | refine r_gskip rfl rfl rfl ?_ | refine r_gskip2 rfl rfl rfl ?_ | refine r_gval rfl rfl rfl rfl True.intro ?_
        | refine t_true rfl ?_ | refine t_false rfl ?_
        | ((first | refine t_cond_d rfl (fun _ => ?_) (fun _ => ?_) | refine t_cond_i rfl (fun _ => ?_) (fun _ => ?_) | refine t_cond_j rfl (fun _ => ?_) (fun _ => ?_) | refine t_cond_s rfl (fun _ => ?_) (fun _ => ?_) | refine t_cond_n rfl (fun _ => ?_) (fun _ => ?_) | refine t_cond rfl (fun _ => ?_) (fun _ => ?_) | refine c_split_d rfl rfl (fun _ => ?_) (fun _ => ?_) | refine c_split_i rfl rfl (fun _ => ?_) (fun _ => ?_) | refine c_split_j rfl rfl (fun _ => ?_) (fun _ => ?_) | refine c_split_s rfl rfl (fun _ => ?_) (fun _ => ?_) | refine c_split_n rfl rfl (fun _ => ?_) (fun _ => ?_)) <;> try (first | contradiction | (exfalso; omega)))
        | refine r_val rfl rfl (by (first | omega | exact Nat.le_of_ble_eq_true rfl | (simp_all; done) | (simp_all; omega) | ((repeat' refine And.intro ?_ ?_) <;> first | omega | rfl | exact Nat.le_refl _ | exact Nat.le_of_ble_eq_true rfl | exact bytesF_one _ | (simp_all; done) | (simp_all; omega)))) ?_ | refine r_gval rfl rfl rfl rfl (by (first | omega | exact Nat.le_of_ble_eq_true rfl | (simp_all; done) | (simp_all; omega) | ((repeat' refine And.intro ?_ ?_) <;> first | omega | rfl | exact Nat.le_refl _ | exact Nat.le_of_ble_eq_true rfl | exact bytesF_one _ | (simp_all; done) | (simp_all; omega)))) ?_
        | refine r_obj rfl rfl (by (first | omega | exact Nat.le_of_ble_eq_true rfl | (simp_all; done) | (simp_all; omega) | ((repeat' refine And.intro ?_ ?_) <;> first | omega | rfl | exact Nat.le_refl _ | exact Nat.le_of_ble_eq_true rfl | exact bytesF_one _ | (simp_all; done) | (simp_all; omega)))) ?_ | refine r_sto rfl (by (first | omega | exact Nat.le_of_ble_eq_true rfl | (simp_all; done) | (simp_all; omega) | ((repeat' refine And.intro ?_ ?_) <;> first | omega | rfl | exact Nat.le_refl _ | exact Nat.le_of_ble_eq_true rfl | exact bytesF_one _ | (simp_all; done) | (simp_all; omega)))) ?_ | refine r_gobj rfl rfl rfl rfl (by (first | omega | exact Nat.le_of_ble_eq_true rfl | (simp_all; done) | (simp_all; omega) | ((repeat' refine And.intro ?_ ?_) <;> first | omega | rfl | exact Nat.le_refl _ | exact Nat.le_of_ble_eq_true rfl | exact bytesF_one _ | (simp_all; done) | (simp_all; omega)))) ?_
        | refine e_hit rfl ?_ | refine e_miss rfl ?_
        | refine ⟨by kernel_rfl, ?_⟩ | refine x_end rfl ?_ | refine n_end rfl ?_ | ((with_reducible refine c_grd ?_); (fail_if_success (refine c_lit true rfl rfl rfl ?_)); (fail_if_success (refine c_lit false rfl rfl rfl ?_)); refine c_split rfl rfl (fun _ => ?_) (fun _ => ?_)))
      · exfalso
        rename_i hz
        simp at hz
      · exact ⟨i + 1, ⟨by omega, fun j hj => by
          rcases Nat.lt_succ_iff_lt_or_eq.1 hj with hj | rfl
          · exact h2 j hj
          · exact he⟩, by omega, ⟨rfl, rfl, rfl, trivial⟩, trivial, rfl, fun k hk => by rw [hX] at hk; simp at hk⟩
    · skip
      repeat' (first
        | refine r_ldrx _ rfl rfl hfa rfl ?_ | refine r_ldrx _ rfl rfl hfb rfl ?_
        | with_reducible refine t_seq ?_ | with_reducible refine t_region ?_ | with_reducible refine c_nil ?_ | with_reducible refine n_then ?_
        | with_reducible refine t_ret ?_ | with_reducible refine t_skip ?_ | with_reducible refine t_exit ?_ | with_reducible refine t_block ?_
        | with_reducible refine n_block ?_ | with_reducible refine e_then ?_ | with_reducible refine x_then ?_ | with_reducible refine x_block ?_ | with_reducible refine t_draw ?_
        | refine r_val rfl rfl True.intro ?_ | refine r_gskip rfl rfl rfl ?_ | refine r_gskip2 rfl rfl rfl ?_ | refine r_gval rfl rfl rfl rfl True.intro ?_
        | refine t_true rfl ?_ | refine t_false rfl ?_
        | ((first | refine t_cond_d rfl (fun _ => ?_) (fun _ => ?_) | refine t_cond_i rfl (fun _ => ?_) (fun _ => ?_) | refine t_cond_j rfl (fun _ => ?_) (fun _ => ?_) | refine t_cond_s rfl (fun _ => ?_) (fun _ => ?_) | refine t_cond_n rfl (fun _ => ?_) (fun _ => ?_) | refine t_cond rfl (fun _ => ?_) (fun _ => ?_) | refine c_split_d rfl rfl (fun _ => ?_) (fun _ => ?_) | refine c_split_i rfl rfl (fun _ => ?_) (fun _ => ?_) | refine c_split_j rfl rfl (fun _ => ?_) (fun _ => ?_) | refine c_split_s rfl rfl (fun _ => ?_) (fun _ => ?_) | refine c_split_n rfl rfl (fun _ => ?_) (fun _ => ?_)) <;> try (first | contradiction | (exfalso; omega)))
        | refine r_val rfl rfl (by (first | omega | exact Nat.le_of_ble_eq_true rfl | (simp_all; done) | (simp_all; omega) | ((repeat' refine And.intro ?_ ?_) <;> first | omega | rfl | exact Nat.le_refl _ | exact Nat.le_of_ble_eq_true rfl | exact bytesF_one _ | (simp_all; done) | (simp_all; omega)))) ?_ | refine r_gval rfl rfl rfl rfl (by (first | omega | exact Nat.le_of_ble_eq_true rfl | (simp_all; done) | (simp_all; omega) | ((repeat' refine And.intro ?_ ?_) <;> first | omega | rfl | exact Nat.le_refl _ | exact Nat.le_of_ble_eq_true rfl | exact bytesF_one _ | (simp_all; done) | (simp_all; omega)))) ?_
        | refine r_obj rfl rfl (by (first | omega | exact Nat.le_of_ble_eq_true rfl | (simp_all; done) | (simp_all; omega) | ((repeat' refine And.intro ?_ ?_) <;> first | omega | rfl | exact Nat.le_refl _ | exact Nat.le_of_ble_eq_true rfl | exact bytesF_one _ | (simp_all; done) | (simp_all; omega)))) ?_ | refine r_sto rfl (by (first | omega | exact Nat.le_of_ble_eq_true rfl | (simp_all; done) | (simp_all; omega) | ((repeat' refine And.intro ?_ ?_) <;> first | omega | rfl | exact Nat.le_refl _ | exact Nat.le_of_ble_eq_true rfl | exact bytesF_one _ | (simp_all; done) | (simp_all; omega)))) ?_ | refine r_gobj rfl rfl rfl rfl (by (first | omega | exact Nat.le_of_ble_eq_true rfl | (simp_all; done) | (simp_all; omega) | ((repeat' refine And.intro ?_ ?_) <;> first | omega | rfl | exact Nat.le_refl _ | exact Nat.le_of_ble_eq_true rfl | exact bytesF_one _ | (simp_all; done) | (simp_all; omega)))) ?_
        | refine e_hit rfl ?_ | refine e_miss rfl ?_
        | refine ⟨by kernel_rfl, ?_⟩ | refine x_end rfl ?_ | refine n_end rfl ?_ | ((with_reducible refine c_grd ?_); (fail_if_success (refine c_lit true rfl rfl rfl ?_)); (fail_if_success (refine c_lit false rfl rfl rfl ?_)); refine c_split rfl rfl (fun _ => ?_) (fun _ => ?_)))
      · have : ¬ a = b := fun e => he (by rw [e])
        simp [this]
      · exfalso
        rename_i hz
        exact he (by simpa using hz)
  · have hfin : a = b := list_eq_of hab fun j hj => h2 j (by omega)
    repeat' (first
      | with_reducible refine t_seq ?_ | with_reducible refine t_region ?_ | with_reducible refine c_nil ?_ | with_reducible refine n_then ?_
      | with_reducible refine t_ret ?_ | with_reducible refine t_skip ?_ | with_reducible refine t_exit ?_ | with_reducible refine t_block ?_
      | with_reducible refine n_block ?_ | with_reducible refine e_then ?_ | with_reducible refine x_then ?_ | with_reducible refine x_block ?_ | with_reducible refine t_draw ?_
      | refine r_val rfl rfl True.intro ?_ | refine r_gskip rfl rfl rfl ?_ | refine r_gskip2 rfl rfl rfl ?_ | refine r_gval rfl rfl rfl rfl True.intro ?_
      | refine t_true rfl ?_ | refine t_false rfl ?_
      | ((first | refine t_cond_d rfl (fun _ => ?_) (fun _ => ?_) | refine t_cond_i rfl (fun _ => ?_) (fun _ => ?_) | refine t_cond_j rfl (fun _ => ?_) (fun _ => ?_) | refine t_cond_s rfl (fun _ => ?_) (fun _ => ?_) | refine t_cond_n rfl (fun _ => ?_) (fun _ => ?_) | refine t_cond rfl (fun _ => ?_) (fun _ => ?_) | refine c_split_d rfl rfl (fun _ => ?_) (fun _ => ?_) | refine c_split_i rfl rfl (fun _ => ?_) (fun _ => ?_) | refine c_split_j rfl rfl (fun _ => ?_) (fun _ => ?_) | refine c_split_s rfl rfl (fun _ => ?_) (fun _ => ?_) | refine c_split_n rfl rfl (fun _ => ?_) (fun _ => ?_)) <;> try (first | contradiction | (exfalso; omega)))
      | refine r_val rfl rfl (by (first | omega | exact Nat.le_of_ble_eq_true rfl | (simp_all; done) | (simp_all; omega) | ((repeat' refine And.intro ?_ ?_) <;> first | omega | rfl | exact Nat.le_refl _ | exact Nat.le_of_ble_eq_true rfl | exact bytesF_one _ | (simp_all; done) | (simp_all; omega)))) ?_ | refine r_gval rfl rfl rfl rfl (by (first | omega | exact Nat.le_of_ble_eq_true rfl | (simp_all; done) | (simp_all; omega) | ((repeat' refine And.intro ?_ ?_) <;> first | omega | rfl | exact Nat.le_refl _ | exact Nat.le_of_ble_eq_true rfl | exact bytesF_one _ | (simp_all; done) | (simp_all; omega)))) ?_
      | refine r_obj rfl rfl (by (first | omega | exact Nat.le_of_ble_eq_true rfl | (simp_all; done) | (simp_all; omega) | ((repeat' refine And.intro ?_ ?_) <;> first | omega | rfl | exact Nat.le_refl _ | exact Nat.le_of_ble_eq_true rfl | exact bytesF_one _ | (simp_all; done) | (simp_all; omega)))) ?_ | refine r_sto rfl (by (first | omega | exact Nat.le_of_ble_eq_true rfl | (simp_all; done) | (simp_all; omega) | ((repeat' refine And.intro ?_ ?_) <;> first | omega | rfl | exact Nat.le_refl _ | exact Nat.le_of_ble_eq_true rfl | exact bytesF_one _ | (simp_all; done) | (simp_all; omega)))) ?_ | refine r_gobj rfl rfl rfl rfl (by (first | omega | exact Nat.le_of_ble_eq_true rfl | (simp_all; done) | (simp_all; omega) | ((repeat' refine And.intro ?_ ?_) <;> first | omega | rfl | exact Nat.le_refl _ | exact Nat.le_of_ble_eq_true rfl | exact bytesF_one _ | (simp_all; done) | (simp_all; omega)))) ?_
      | refine e_hit rfl ?_ | refine e_miss rfl ?_
      | refine ⟨by kernel_rfl, ?_⟩ | refine x_end rfl ?_ | refine n_end rfl ?_ | ((with_reducible refine c_grd ?_); (fail_if_success (refine c_lit true rfl rfl rfl ?_)); (fail_if_success (refine c_lit false rfl rfl rfl ?_)); refine c_split rfl rfl (fun _ => ?_) (fun _ => ?_)))
    · simp [hfin]

/-! ### What a call comes to, told by the list of entries -/
def putB (E M : Int) (k : List UInt8) (d : D) : Bool := !(decide (E = 0) || decide (M < (k.length : Int) + (lenOf d : Int)))
def putR (E M : Int) (l : List Ent) (k : List UInt8) (d : D) : List Ent := match putB E M k d with
  | true => putL E M l k d
  | false => l
def getL (l : List Ent) (k : List UInt8) : Option D := match l.find? (fun p => p.1 == k) with
  | some p => some p.2
  | none => none
def getR (l : List Ent) (k : List UInt8) : List Ent := match getL l k with
  | some d => (k, d) :: woL l k
  | none => l
def gotL (l : List Ent) (k : List UInt8) : D := match getL l k with
  | some d => .tu [d, .b true]
  | none => .tu [.nilS, .b false]

/-- The cache's state: the ring is the list, the entries are these. -/
structure Holds (g : Rg) (l : List Ent) (E M h m : Int) : Prop where
  ex : ∃ L, Ring g L ∧ Size g L ∧ ents g L = l
  hE : g.E = E
  hM : g.M = M
  hh : g.h = h
  hm : g.m = m

theorem Holds.wf {g : Rg} {l : List Ent} {E M h m : Int} (H : Holds g l E M h m) : Wf0 g := by
  obtain ⟨L, h1, _⟩ := H.ex
  exact h1.wf
theorem Holds.len {g : Rg} {l : List Ent} {E M h m : Int} (H : Holds g l E M h m) : g.es.length = l.length := by
  obtain ⟨L, h1, _, rfl⟩ := H.ex
  rw [es_len h1]
  simp [ents]
theorem Holds.sz {g : Rg} {l : List Ent} {E M h m : Int} (H : Holds g l E M h m) : g.sz = sumL l := by
  obtain ⟨L, _, h2, rfl⟩ := H.ex
  exact h2.sz
theorem Holds.isB {g : Rg} {l : List Ent} {E M h m : Int} (H : Holds g l E M h m) : ∀ p ∈ l, isB p.2 := by
  obtain ⟨L, h1, _, rfl⟩ := H.ex
  intro p hp
  obtain ⟨i, hi, rfl⟩ := List.mem_map.1 hp
  exact h1.vals i hi

theorem put_all {g : Rg} {l : List Ent} {E M h m : Int} (H : Holds g l E M h m) (k : List UInt8) (d : D) (hd : isB d) (hb : sumL l + (k.length + lenOf d) ≤ 1000000) (hE : 0 ≤ E) (hM : 0 ≤ M) :
    ∃ g', CtrO Try.prog 9 [.pv 9000 0, .s k, d] (objs g) (.b (putB E M k d)) (objs g') ∧ Holds g' (putR E M l k d) E M h m ∧ g.n ≤ g'.n := by
  obtain ⟨⟨L, h1, h2, rfl⟩, rfl, rfl, rfl, rfl⟩ := H
  by_cases hc : g.E = 0 ∨ g.M < (k.length : Int) + (lenOf d : Int)
  · have hp : putB g.E g.M k d = false := by
      unfold putB
      rcases hc with hc | hc <;> simp [hc]
    refine ⟨g, ?_, ?_, Nat.le_refl _⟩
    · rw [hp]
      have := put_no g k (lenOf d) (funOf d) h1.wf hc (by omega)
      rwa [← hd.1] at this
    · unfold putR
      rw [hp]
      exact ⟨⟨L, h1, h2, rfl⟩, rfl, rfl, rfl, rfl⟩
  · have hp : putB g.E g.M k d = true := by
      unfold putB
      simp only [not_or] at hc
      simp [hc.1, hc.2]
    have hd' := hd
    rw [hd.1] at hd'
    have hb' : sumL (ents g L) + (k.length + lenOf (.sl 1 (lenOf d) (funOf d))) ≤ 1000000 := hb
    obtain ⟨L', r1, r2, r3, r4, r5, r6, r7, r8⟩ := put_ring h1 h2 hd' hb' hE hM
    have := put_yes g L k (lenOf d) (funOf d) h1 h2 hd.2 hc hb hE hM
    rw [← hd.1] at this r1 r2 r3 r4 r5 r6 r7 r8
    refine ⟨_, by rw [hp]; exact this, ?_, by omega⟩
    unfold putR
    rw [hp]
    exact ⟨⟨L', r1, r2, r3⟩, r5, r6, r7, r8⟩

theorem get_all {g : Rg} {l : List Ent} {E M h m : Int} (H : Holds g l E M h m) (k : List UInt8) (hh : 0 ≤ h ∧ h ≤ 1000000) (hm : 0 ≤ m ∧ m ≤ 1000000) :
    ∃ g', CtrO Try.prog 10 [.pv 9000 0, .s k] (objs g) (gotL l k) (objs g') ∧ Holds g' (getR l k) E M (match getL l k with | some _ => h + 1 | none => h) (match getL l k with | some _ => m | none => m + 1) ∧ g.n ≤ g'.n ∧ (gotL l k).okIn (idsG g'.n) = true := by
  obtain ⟨⟨L, h1, h2, rfl⟩, rfl, rfl, rfl, rfl⟩ := H
  have hc := get_ctr g L k h1 h2 hh hm
  cases hg : nget k g.es with
  | none =>
    have hn := ring_none h1 hg
    have e1 : getL (ents g L) k = none := by
      unfold getL
      have : (ents g L).find? (fun p => p.1 == k) = none := by
        rw [List.find?_eq_none]
        intro p hp
        obtain ⟨j, hj, rfl⟩ := List.mem_map.1 hp
        simpa using hn j hj
      rw [this]
    rw [(getG_none hg).1, (getG_none hg).2] at hc
    unfold getR gotL
    rw [e1]
    exact ⟨_, hc, ⟨⟨L, ring_cong h1 rfl rfl rfl rfl rfl rfl, ⟨h2.sz, h2.big⟩, rfl⟩, rfl, rfl, rfl, rfl⟩, Nat.le_refl _, rfl⟩
  | some i =>
    obtain ⟨hiL, hik⟩ := ring_get h1 hg
    obtain ⟨a, b, rfl⟩ := List.append_of_mem hiL
    have e1 : getL (ents g (a ++ i :: b)) k = some (g.val i) := by
      unfold getL
      have : (ents g (a ++ i :: b)).find? (fun p => p.1 == k) = some (g.key i, g.val i) := by
        unfold ents
        rw [List.map_append, List.find?_append]
        have : (a.map fun i => (g.key i, g.val i)).find? (fun p => p.1 == k) = none := by
          rw [List.find?_eq_none]
          intro p hp
          obtain ⟨j, hj, rfl⟩ := List.mem_map.1 hp
          have hnd := h1.nd
          rw [List.nodup_append] at hnd
          have hne : g.key j ≠ k := fun e => hnd.2.2 j hj i (by simp) (ring_key h1 (by simp [hj]) hiL (by rw [e, hik]))
          simpa using hne
        rw [this]
        simp [hik]
      rw [this]
    rw [(getG_some hg).1, (getG_some hg).2] at hc
    have h' : Ring { g with h := g.h + 1 } (a ++ i :: b) := ring_cong h1 rfl rfl rfl rfl rfl rfl
    obtain ⟨m1, m2⟩ := ring_move h'
    have hw := ents_wo h1
    rw [hik] at hw
    have e2 : ents (useG (cutG { g with h := g.h + 1 } i) i) (i :: (a ++ b)) = (k, g.val i) :: woL (ents g (a ++ i :: b)) k := by
      rw [hw, ← hik]
      rfl
    have hs : sumL ((k, g.val i) :: woL (ents g (a ++ i :: b)) k) = sumL (ents g (a ++ i :: b)) := by
      rw [hw, ← hik]
      simp only [ents, List.map_append, List.map_cons, sumL_app, sumL]
      omega
    unfold getR gotL
    rw [e1]
    refine ⟨_, hc, ⟨⟨_, m1, ⟨?_, ?_⟩, e2⟩, rfl, rfl, rfl, rfl⟩, Nat.le_refl _, ?_⟩
    · rw [e2, hs]
      exact h2.sz
    · rw [e2, hs]
      exact h2.big
    · have := (h1.vals i hiL).1
      show (D.tu [g.val i, .b true]).okIn _ = true
      rw [this]
      rfl

theorem keys_all {g : Rg} {l : List Ent} {E M h m : Int} (H : Holds g l E M h m) (hl : l.length ≤ 1000000) : CtrO Try.prog 19 [.pv 9000 0] (objs g) (.sl 1 (l.map (·.1)).length (kyF (l.map (·.1)))) (objs g) := by
  obtain ⟨L, h1, h2, rfl⟩ := H.ex
  rw [ents_keys]
  exact keys_ctr g L h1 (by simpa [ents] using hl)

theorem len_all {g : Rg} {l : List Ent} {E M h m : Int} (H : Holds g l E M h m) : CtrO Try.prog 11 [.pv 9000 0] (objs g) (.i .i64 l.length) (objs g) := by
  rw [← H.len]
  exact len_ctr g H.wf
theorem size_all {g : Rg} {l : List Ent} {E M h m : Int} (H : Holds g l E M h m) : CtrO Try.prog 12 [.pv 9000 0] (objs g) (.i .i64 (sumL l)) (objs g) := by
  rw [← H.sz]
  exact size_ctr g H.wf
theorem counts_all {g : Rg} {l : List Ent} {E M h m : Int} (H : Holds g l E M h m) : CtrO Try.prog 17 [.pv 9000 0] (objs g) (.tu [.i .i64 h, .i .i64 m]) (objs g) := by
  rw [← H.hh, ← H.hm]
  exact counts_ctr g H.wf
theorem clear_all {g : Rg} {l : List Ent} {E M h m : Int} (H : Holds g l E M h m) : ∃ g', CtrO Try.prog 16 [.pv 9000 0] (objs g) (.tu []) (objs g') ∧ Holds g' [] E M h m ∧ g.n ≤ g'.n := by
  obtain ⟨r1, r2⟩ := ring_clear H.wf
  exact ⟨_, clear_ctr g H.wf, ⟨⟨[], r1, r2, rfl⟩, H.hE, H.hM, H.hh, H.hm⟩, Nat.le_refl _⟩
theorem new_all (E M : Int) : ∃ g, CtrO Try.prog 8 [.i .i64 E, .i .i64 M] [] (.pv 9000 0) (objs g) ∧ Holds g [] (max E 0) (max M 0) 0 0 := by
  obtain ⟨r1, r2⟩ := ring_empty (max E 0) (max M 0)
  exact ⟨_, new_ctr E M, ⟨[], r1, r2, rfl⟩, rfl, rfl, rfl, rfl⟩

def d0 : D := .sl 1 0 fun _ => []
theorem isB_d0 : isB d0 := ⟨rfl, fun j hj => absurd hj (Nat.not_lt_zero j)⟩

set_option maxRecDepth 100000 in
theorem live_ctr : Ctr Try.prog 7 [] (.b true) := by
  obtain ⟨g0, c0, H0⟩ := new_all 2 100
  obtain ⟨g1, c1, H1, n1⟩ := put_all H0 [97] d0 isB_d0 (by decide) (by decide) (by decide)
  obtain ⟨g2, c2, H2, n2⟩ := put_all H1 [98] d0 isB_d0 (by decide) (by decide) (by decide)
  obtain ⟨g3, c3, H3, n3, o3⟩ := get_all H2 [97] (by decide) (by decide)
  obtain ⟨g4, c4, H4, n4⟩ := put_all H3 [99] d0 isB_d0 (by decide) (by decide) (by decide)
  have c5 := keys_all H4 (by decide)
  have w0 := H0.wf
  have w1 := H1.wf
  have w2 := H2.wf
  have w3 := H3.wf
  have w4 := H4.wf
  have hs := same_ctr [[99], [97]] [[99], [97]] 2 2 (kyF [[99], [97]]) (chunk 1 [.s [99], .s [97]]) rfl rfl (fun i hi => rfl) (fun i hi => match i, hi with
    | 0, _ => rfl
    | 1, _ => rfl) (by decide) (by decide)
  rw [decide_eq_true rfl] at hs
  refine r_fun Try.func7 rfl Try.ntmps7 Try.results7 rfl rfl fun X hL hX => ?_
  repeat' (first
    | refine r_newC (own := []) (g' := g0) rfl w0 rfl rfl Try.call8 rfl rfl c0 ?_ | refine r_lendC (f := 9) (g' := g1) rfl n1 w0 w1 rfl rfl Try.call9 rfl rfl (c1.weak3 (.nil ..)) ?_ | refine r_lendC (f := 9) (g' := g2) rfl n2 w1 w2 rfl rfl Try.call9 rfl rfl (c2.weak3 (.nil ..)) ?_ | refine r_lendC (f := 10) (g' := g3) rfl n3 w2 w3 rfl rfl Try.call10 rfl o3 c3 ?_ | refine r_lendC (f := 9) (g' := g4) rfl n4 w3 w4 rfl rfl Try.call9 rfl rfl (c4.weak3 (.nil ..)) ?_ | refine r_glendCR (f := 19) (g := g4) rfl w4 rfl rfl rfl rfl Try.call19 rfl rfl c5 ?_ | refine r_gobjL rfl rfl rfl rfl rfl (by (first | omega | exact Nat.le_of_ble_eq_true rfl | (simp_all; done) | (simp_all; omega) | ((repeat' refine And.intro ?_ ?_) <;> first | omega | rfl | exact Nat.le_refl _ | exact Nat.le_of_ble_eq_true rfl | exact bytesF_one _ | (simp_all; done) | (simp_all; omega)))) ?_ | refine r_gcall (f := 18) rfl rfl rfl rfl Try.call18 rfl hs ?_
    | with_reducible refine t_seq ?_ | with_reducible refine t_region ?_ | with_reducible refine c_nil ?_ | with_reducible refine n_then ?_
    | with_reducible refine t_ret ?_ | with_reducible refine t_skip ?_ | with_reducible refine t_exit ?_ | with_reducible refine t_block ?_
    | with_reducible refine n_block ?_ | with_reducible refine e_then ?_ | with_reducible refine x_then ?_ | with_reducible refine x_block ?_ | with_reducible refine t_draw ?_
    | refine r_val rfl rfl True.intro ?_ | refine r_gskip rfl rfl rfl ?_ | refine r_gskip2 rfl rfl rfl ?_ | refine r_gval rfl rfl rfl rfl True.intro ?_
    | refine t_true rfl ?_ | refine t_false rfl ?_
    | ((first | refine t_cond_d rfl (fun _ => ?_) (fun _ => ?_) | refine t_cond_i rfl (fun _ => ?_) (fun _ => ?_) | refine t_cond_j rfl (fun _ => ?_) (fun _ => ?_) | refine t_cond_s rfl (fun _ => ?_) (fun _ => ?_) | refine t_cond_n rfl (fun _ => ?_) (fun _ => ?_) | refine t_cond rfl (fun _ => ?_) (fun _ => ?_) | refine c_split_d rfl rfl (fun _ => ?_) (fun _ => ?_) | refine c_split_i rfl rfl (fun _ => ?_) (fun _ => ?_) | refine c_split_j rfl rfl (fun _ => ?_) (fun _ => ?_) | refine c_split_s rfl rfl (fun _ => ?_) (fun _ => ?_) | refine c_split_n rfl rfl (fun _ => ?_) (fun _ => ?_)) <;> try (first | contradiction | (exfalso; omega)))
    | refine r_val rfl rfl (by (first | omega | exact Nat.le_of_ble_eq_true rfl | (simp_all; done) | (simp_all; omega) | ((repeat' refine And.intro ?_ ?_) <;> first | omega | rfl | exact Nat.le_refl _ | exact Nat.le_of_ble_eq_true rfl | exact bytesF_one _ | (simp_all; done) | (simp_all; omega)))) ?_ | refine r_gval rfl rfl rfl rfl (by (first | omega | exact Nat.le_of_ble_eq_true rfl | (simp_all; done) | (simp_all; omega) | ((repeat' refine And.intro ?_ ?_) <;> first | omega | rfl | exact Nat.le_refl _ | exact Nat.le_of_ble_eq_true rfl | exact bytesF_one _ | (simp_all; done) | (simp_all; omega)))) ?_
    | refine r_obj rfl rfl (by (first | omega | exact Nat.le_of_ble_eq_true rfl | (simp_all; done) | (simp_all; omega) | ((repeat' refine And.intro ?_ ?_) <;> first | omega | rfl | exact Nat.le_refl _ | exact Nat.le_of_ble_eq_true rfl | exact bytesF_one _ | (simp_all; done) | (simp_all; omega)))) ?_ | refine r_sto rfl (by (first | omega | exact Nat.le_of_ble_eq_true rfl | (simp_all; done) | (simp_all; omega) | ((repeat' refine And.intro ?_ ?_) <;> first | omega | rfl | exact Nat.le_refl _ | exact Nat.le_of_ble_eq_true rfl | exact bytesF_one _ | (simp_all; done) | (simp_all; omega)))) ?_ | refine r_gobj rfl rfl rfl rfl (by (first | omega | exact Nat.le_of_ble_eq_true rfl | (simp_all; done) | (simp_all; omega) | ((repeat' refine And.intro ?_ ?_) <;> first | omega | rfl | exact Nat.le_refl _ | exact Nat.le_of_ble_eq_true rfl | exact bytesF_one _ | (simp_all; done) | (simp_all; omega)))) ?_
    | refine e_hit rfl ?_ | refine e_miss rfl ?_
    | refine ⟨by kernel_rfl, ?_⟩ | refine x_end rfl rfl | refine n_end rfl rfl | ((with_reducible refine c_grd ?_); (fail_if_success (refine c_lit true rfl rfl rfl ?_)); (fail_if_success (refine c_lit false rfl rfl rfl ?_)); refine c_split rfl rfl (fun _ => ?_) (fun _ => ?_)))

end Go.Proofs.Ytghhohckonbkkaa.Flow

/- LRU: calls as data; the law of nil caches. -/
namespace Go.Proofs.Ytghhohckonbkkaa.Flow
open Go

/-- A call: Do, Key, B. -/
structure ActV where
  dd : Int
  key : List UInt8
  len : Nat
  f : Nat → List D

def ActV.b (a : ActV) : D := .sl 1 a.len a.f
def ActV.sz (a : ActV) : Nat := a.key.length + a.len
def actC (a : ActV) : List D := [.i .i64 a.dd, .s a.key, .sl 1 a.len a.f]
structure ActV.Ok (a : ActV) : Prop where
  by' : ∀ j, j < a.len → ∃ n, a.f j = [.i .u8 n]
  k : a.key.length ≤ 1048576
  l : a.len ≤ 1048576
theorem ActV.Ok.isB {a : ActV} (h : a.Ok) : isB a.b := ⟨rfl, h.by'⟩

def dAct : ActV := ⟨0, [], 0, fun _ => [.i .u8 0]⟩
def actF (l : List ActV) : Nat → List D := fun i => actC (l.getD i dAct)

section
variable {H : Type} {enc : TypeId × Value → H} {W : World}
def lkid (d : DataW H) (i : Nat) : DataW H := (kids d).getD i .nil
def actOf (d : DataW H) : ActV := ⟨intOf (lkid d 0), strOf (lkid d 1), (kids (lkid d 2)).length, fun i => [.i .u8 (intOf ((kids (lkid d 2)).getD i .nil))]⟩
def actsOf (d : DataW H) : List ActV := (kids d).map actOf

def lgS (d : DataW H) : List D := [.s (strOf d)]
def lgI (d : DataW H) : List D := [.i .i64 (intOf d)]
def lgY (d : DataW H) : List D := [.i .u8 (intOf d)]
def lgB (d : DataW H) : List D := [.sl 1 (kids d).length (fun i => lgY ((kids d).getD i .nil))]
def lgA (d : DataW H) : List D := catG [lgI, lgS, lgB] (kids d)

theorem ldrop_at (l : List (DataW H)) (n i : Nat) : (l.drop n).getD i .nil = l.getD (n + i) .nil := by
  simp [List.getD_eq_getElem?_getD]

theorem lgA_eq (d : DataW H) : lgA d = actC (actOf d) := by
  show [D.i .i64 (intOf ((kids d).getD 0 .nil))] ++ ([D.s (strOf (((kids d).drop 1).getD 0 .nil))] ++ (lgB ((((kids d).drop 1).drop 1).getD 0 .nil) ++ [])) = _
  rw [ldrop_at, List.drop_drop, ldrop_at]
  rfl

theorem tells_act : Tells enc W 30 3 (lgA (H := H)) :=
  tells_struct Try.underlying30 rfl (by kernel_rfl)
    (.cons _ _ 0 1 3 _ _ rfl (by kernel_rfl) (tells_int Try.underlying3)
      (.cons _ _ 1 1 3 _ _ rfl (by kernel_rfl) (tells_str Try.underlying9)
        (.cons _ _ 2 1 3 _ _ rfl (by kernel_rfl) (tells_slice Try.underlying28 (by kernel_rfl) (by omega) (tells_int Try.underlying5)) (.nil 3))))

theorem lbk (d : DataW H) (i : Nat) : Rows.uptoBulk (lkid d i) ≤ Rows.uptoBulk d := by
  unfold lkid
  by_cases h : i < (kids d).length
  · rw [List.getD_eq_getElem?_getD, List.getElem?_eq_getElem h, Option.getD_some]
    have := bulk_mem (List.getElem_mem h)
    have := bulk_kids d
    omega
  · rw [List.getD_eq_getElem?_getD, List.getElem?_eq_none (by omega), Option.getD_none]
    exact bulk_one d
theorem lbkl (d : DataW H) : (kids d).length ≤ Rows.uptoBulk d := by
  have := bulk_len (kids d)
  have := bulk_kids d
  omega

theorem act_ok {d : DataW H} (h : Rows.uptoBulk d ≤ 1048576) : (actOf d).Ok := by
  have h1 := lbk d 1
  have h2 := lbk d 2
  have h3 := bulk_str (lkid d 1)
  have h4 := lbkl (lkid d 2)
  exact ⟨fun j hj => ⟨_, rfl⟩, by show (strOf (lkid d 1)).length ≤ _; omega, by show (kids (lkid d 2)).length ≤ _; omega⟩

theorem acts_eq (d : DataW H) : D.sl 3 (kids d).length (fun i => lgA ((kids d).getD i .nil)) = .sl 3 (actsOf d).length (actF (actsOf d)) := by
  have h1 : (actsOf d).length = (kids d).length := by simp [actsOf]
  have h2 : (fun i => lgA ((kids d).getD i .nil)) = actF (actsOf d) := by
    funext i
    unfold actF
    rw [lgA_eq]
    by_cases hi : i < (kids d).length
    · simp [actsOf, List.getD_eq_getElem?_getD, hi]
    · have e1 : (kids d).getD i .nil = .nil := by simp [List.getD_eq_getElem?_getD, List.getElem?_eq_none (Nat.le_of_not_lt hi)]
      have e2 : (actsOf d).getD i dAct = dAct := by simp [actsOf, List.getD_eq_getElem?_getD, List.getElem?_eq_none (Nat.le_of_not_lt hi)]
      rw [e1, e2]
      rfl
  rw [h1, h2]

end

end Go.Proofs.Ytghhohckonbkkaa.Flow

/- LRU: how much is asked. -/
namespace Go.Proofs.Ytghhohckonbkkaa.Flow
open Go

def sumA : List ActV → Nat
  | [] => 0
  | a :: r => a.sz + sumA r

theorem sumA_take {l : List ActV} : ∀ {i : Nat}, i < l.length → sumA (l.take (i + 1)) = sumA (l.take i) + (l.getD i dAct).sz := by
  induction l with
  | nil => intro i h; simp at h
  | cons a r ih =>
    intro i h
    cases i with
    | zero => simp [sumA]
    | succ i =>
      have := ih (i := i) (by simpa using h)
      simp only [List.take_succ_cons, sumA, List.getD_cons_succ] at this ⊢
      omega

theorem sumA_le (l : List ActV) : ∀ i, sumA (l.take i) ≤ sumA l := by
  induction l with
  | nil => intro i; simp [sumA]
  | cons a r ih =>
    intro i
    cases i with
    | zero => simp [sumA]
    | succ i =>
      have := ih i
      simp only [List.take_succ_cons, sumA]
      omega

/-- All calls. -/
structure ActsOk (l : List ActV) : Prop where
  len : l.length ≤ 1048576
  ok : ∀ i, (l.getD i dAct).Ok

theorem acts_ok {H : Type} {d : DataW H} (h : Rows.uptoBulk d ≤ 1048576) : ActsOk (actsOf d) := by
  refine ⟨by have := lbkl d; simp only [actsOf, List.length_map]; omega, fun i => ?_⟩
  have e : (actsOf d).getD i dAct = actOf (lkid d i) := map_getD actOf (kids d) .nil i
  rw [e]
  exact act_ok (Nat.le_trans (lbk d i) h)

def muchB (l : List ActV) : Bool := decide (60 < l.length ∨ 2000 < sumA l)

set_option maxRecDepth 100000 in
theorem much_ctr (l : List ActV) (hl : ActsOk l) : Ctr Try.prog 6 [.sl 3 l.length (actF l)] (.b (muchB l)) := by
  have hlen := hl.len
  refine r_fun Try.func6 rfl Try.ntmps6 Try.results6 rfl rfl fun X hL hX => ?_
  repeat' (first
    | with_reducible refine t_seq ?_ | with_reducible refine t_region ?_ | with_reducible refine c_nil ?_ | with_reducible refine n_then ?_
    | with_reducible refine t_ret ?_ | with_reducible refine t_skip ?_ | with_reducible refine t_exit ?_ | with_reducible refine t_block ?_
    | with_reducible refine n_block ?_ | with_reducible refine e_then ?_ | with_reducible refine x_then ?_ | with_reducible refine x_block ?_ | with_reducible refine t_draw ?_
    | refine r_val rfl rfl True.intro ?_ | refine r_gskip rfl rfl rfl ?_ | refine r_gskip2 rfl rfl rfl ?_ | refine r_gval rfl rfl rfl rfl True.intro ?_
    | refine t_true rfl ?_ | refine t_false rfl ?_
    | ((first | refine t_cond_d rfl (fun _ => ?_) (fun _ => ?_) | refine t_cond_i rfl (fun _ => ?_) (fun _ => ?_) | refine t_cond_j rfl (fun _ => ?_) (fun _ => ?_) | refine t_cond_s rfl (fun _ => ?_) (fun _ => ?_) | refine t_cond_n rfl (fun _ => ?_) (fun _ => ?_) | refine t_cond rfl (fun _ => ?_) (fun _ => ?_) | refine c_split_d rfl rfl (fun _ => ?_) (fun _ => ?_) | refine c_split_i rfl rfl (fun _ => ?_) (fun _ => ?_) | refine c_split_j rfl rfl (fun _ => ?_) (fun _ => ?_) | refine c_split_s rfl rfl (fun _ => ?_) (fun _ => ?_) | refine c_split_n rfl rfl (fun _ => ?_) (fun _ => ?_)) <;> try (first | contradiction | (exfalso; omega)))
    | refine r_val rfl rfl (by (first | omega | exact Nat.le_of_ble_eq_true rfl | (simp_all; done) | (simp_all; omega) | ((repeat' refine And.intro ?_ ?_) <;> first | omega | rfl | exact Nat.le_refl _ | exact Nat.le_of_ble_eq_true rfl | exact bytesF_one _ | (simp_all; done) | (simp_all; omega)))) ?_ | refine r_gval rfl rfl rfl rfl (by (first | omega | exact Nat.le_of_ble_eq_true rfl | (simp_all; done) | (simp_all; omega) | ((repeat' refine And.intro ?_ ?_) <;> first | omega | rfl | exact Nat.le_refl _ | exact Nat.le_of_ble_eq_true rfl | exact bytesF_one _ | (simp_all; done) | (simp_all; omega)))) ?_
    | refine r_obj rfl rfl (by (first | omega | exact Nat.le_of_ble_eq_true rfl | (simp_all; done) | (simp_all; omega) | ((repeat' refine And.intro ?_ ?_) <;> first | omega | rfl | exact Nat.le_refl _ | exact Nat.le_of_ble_eq_true rfl | exact bytesF_one _ | (simp_all; done) | (simp_all; omega)))) ?_ | refine r_sto rfl (by (first | omega | exact Nat.le_of_ble_eq_true rfl | (simp_all; done) | (simp_all; omega) | ((repeat' refine And.intro ?_ ?_) <;> first | omega | rfl | exact Nat.le_refl _ | exact Nat.le_of_ble_eq_true rfl | exact bytesF_one _ | (simp_all; done) | (simp_all; omega)))) ?_ | refine r_gobj rfl rfl rfl rfl (by (first | omega | exact Nat.le_of_ble_eq_true rfl | (simp_all; done) | (simp_all; omega) | ((repeat' refine And.intro ?_ ?_) <;> first | omega | rfl | exact Nat.le_refl _ | exact Nat.le_of_ble_eq_true rfl | exact bytesF_one _ | (simp_all; done) | (simp_all; omega)))) ?_
    | refine e_hit rfl ?_ | refine e_miss rfl ?_
    | refine ⟨by kernel_rfl, ?_⟩ | ((with_reducible refine c_grd ?_); (fail_if_success (refine c_lit true rfl rfl rfl ?_)); (fail_if_success (refine c_lit false rfl rfl rfl ?_)); refine c_split rfl rfl (fun _ => ?_) (fun _ => ?_)))
  refine T.loop hL (fun i : Nat => [(0, .sl 3 l.length (actF l)), (3, .i .i64 (sumA (l.take i) : Nat)), (4, .i .i64 i)]) (fun _ => []) (fun i => i ≤ l.length ∧ i ≤ 80 ∧ sumA (l.take i) ≤ 2000) (fun i => l.length - i) 0 ⟨by omega, by omega, by simp [sumA]⟩
    ⟨⟨rfl, rfl, rfl, trivial⟩, trivial, rfl, fun k hk => by rw [hX] at hk; simp at hk⟩ ?_
  rintro i ⟨h1, h2, h3⟩
  by_cases hi : i < l.length ∧ i < 80
  · have hok := hl.ok (i : Int).toNat
    have hk := hok.k
    have hb := hok.l
    have hs := sumA_take hi.1
    have hle := sumA_le l (i + 1)
    have hsz : (l.getD i dAct).sz = (l.getD (i : Int).toNat dAct).key.length + (l.getD (i : Int).toNat dAct).len := by rw [Int.toNat_natCast]; rfl
    repeat' (first
      | with_reducible refine t_seq ?_ | with_reducible refine t_region ?_ | with_reducible refine c_nil ?_ | with_reducible refine n_then ?_
      | with_reducible refine t_ret ?_ | with_reducible refine t_skip ?_ | with_reducible refine t_exit ?_ | with_reducible refine t_block ?_
      | with_reducible refine n_block ?_ | with_reducible refine e_then ?_ | with_reducible refine x_then ?_ | with_reducible refine x_block ?_ | with_reducible refine t_draw ?_
      | refine r_val rfl rfl True.intro ?_ | refine r_gskip rfl rfl rfl ?_ | refine r_gskip2 rfl rfl rfl ?_ | refine r_gval rfl rfl rfl rfl True.intro ?_
      | refine t_true rfl ?_ | refine t_false rfl ?_
      | ((first | refine t_cond_d rfl (fun _ => ?_) (fun _ => ?_) | refine t_cond_i rfl (fun _ => ?_) (fun _ => ?_) | refine t_cond_j rfl (fun _ => ?_) (fun _ => ?_) | refine t_cond_s rfl (fun _ => ?_) (fun _ => ?_) | refine t_cond_n rfl (fun _ => ?_) (fun _ => ?_) | refine t_cond rfl (fun _ => ?_) (fun _ => ?_) | refine c_split_d rfl rfl (fun _ => ?_) (fun _ => ?_) | refine c_split_i rfl rfl (fun _ => ?_) (fun _ => ?_) | refine c_split_j rfl rfl (fun _ => ?_) (fun _ => ?_) | refine c_split_s rfl rfl (fun _ => ?_) (fun _ => ?_) | refine c_split_n rfl rfl (fun _ => ?_) (fun _ => ?_)) <;> try (first | contradiction | (exfalso; omega)))
      | refine r_val rfl rfl (by (first | omega | exact Nat.le_of_ble_eq_true rfl | (simp_all; done) | (simp_all; omega) | ((repeat' refine And.intro ?_ ?_) <;> first | omega | rfl | exact Nat.le_refl _ | exact Nat.le_of_ble_eq_true rfl | exact bytesF_one _ | (simp_all; done) | (simp_all; omega)))) ?_ | refine r_gval rfl rfl rfl rfl (by (first | omega | exact Nat.le_of_ble_eq_true rfl | (simp_all; done) | (simp_all; omega) | ((repeat' refine And.intro ?_ ?_) <;> first | omega | rfl | exact Nat.le_refl _ | exact Nat.le_of_ble_eq_true rfl | exact bytesF_one _ | (simp_all; done) | (simp_all; omega)))) ?_
      | refine r_obj rfl rfl (by (first | omega | exact Nat.le_of_ble_eq_true rfl | (simp_all; done) | (simp_all; omega) | ((repeat' refine And.intro ?_ ?_) <;> first | omega | rfl | exact Nat.le_refl _ | exact Nat.le_of_ble_eq_true rfl | exact bytesF_one _ | (simp_all; done) | (simp_all; omega)))) ?_ | refine r_sto rfl (by (first | omega | exact Nat.le_of_ble_eq_true rfl | (simp_all; done) | (simp_all; omega) | ((repeat' refine And.intro ?_ ?_) <;> first | omega | rfl | exact Nat.le_refl _ | exact Nat.le_of_ble_eq_true rfl | exact bytesF_one _ | (simp_all; done) | (simp_all; omega)))) ?_ | refine r_gobj rfl rfl rfl rfl (by (first | omega | exact Nat.le_of_ble_eq_true rfl | (simp_all; done) | (simp_all; omega) | ((repeat' refine And.intro ?_ ?_) <;> first | omega | rfl | exact Nat.le_refl _ | exact Nat.le_of_ble_eq_true rfl | exact bytesF_one _ | (simp_all; done) | (simp_all; omega)))) ?_
      | refine e_hit rfl ?_ | refine e_miss rfl ?_
      | refine ⟨by kernel_rfl, ?_⟩ | refine x_end rfl ?_ | refine n_end rfl ?_ | ((with_reducible refine c_grd ?_); (fail_if_success (refine c_lit true rfl rfl rfl ?_)); (fail_if_success (refine c_lit false rfl rfl rfl ?_)); refine c_split rfl rfl (fun _ => ?_) (fun _ => ?_)))
    · have : muchB l = true := by
        unfold muchB
        rw [decide_eq_true_eq]
        omega
      rw [this]
    · exact ⟨i + 1, ⟨by omega, by omega, by omega⟩, by omega, ⟨rfl, congrArg (D.i .i64) (by omega), congrArg (D.i .i64) (by omega), trivial⟩, trivial, rfl, fun k hk => by rw [hX] at hk; simp at hk⟩
  · have hfin : l.length ≤ 60 → sumA l ≤ 2000 := fun h => by
      have : i = l.length := by omega
      subst this
      rwa [List.take_length] at h3
    have hres : muchB l = decide ((60 : Int) < (l.length : Int)) := by
      unfold muchB
      rw [Bool.eq_iff_iff, decide_eq_true_eq, decide_eq_true_eq]
      constructor
      · rintro (h | h)
        · omega
        · rcases Nat.lt_or_ge 60 l.length with h4 | h4
          · omega
          · have := hfin h4; omega
      · intro h
        omega
    repeat' (first
      | with_reducible refine t_seq ?_ | with_reducible refine t_region ?_ | with_reducible refine c_nil ?_ | with_reducible refine n_then ?_
      | with_reducible refine t_ret ?_ | with_reducible refine t_skip ?_ | with_reducible refine t_exit ?_ | with_reducible refine t_block ?_
      | with_reducible refine n_block ?_ | with_reducible refine e_then ?_ | with_reducible refine x_then ?_ | with_reducible refine x_block ?_ | with_reducible refine t_draw ?_
      | refine r_val rfl rfl True.intro ?_ | refine r_gskip rfl rfl rfl ?_ | refine r_gskip2 rfl rfl rfl ?_ | refine r_gval rfl rfl rfl rfl True.intro ?_
      | refine t_true rfl ?_ | refine t_false rfl ?_
      | ((first | refine t_cond_d rfl (fun _ => ?_) (fun _ => ?_) | refine t_cond_i rfl (fun _ => ?_) (fun _ => ?_) | refine t_cond_j rfl (fun _ => ?_) (fun _ => ?_) | refine t_cond_s rfl (fun _ => ?_) (fun _ => ?_) | refine t_cond_n rfl (fun _ => ?_) (fun _ => ?_) | refine t_cond rfl (fun _ => ?_) (fun _ => ?_) | refine c_split_d rfl rfl (fun _ => ?_) (fun _ => ?_) | refine c_split_i rfl rfl (fun _ => ?_) (fun _ => ?_) | refine c_split_j rfl rfl (fun _ => ?_) (fun _ => ?_) | refine c_split_s rfl rfl (fun _ => ?_) (fun _ => ?_) | refine c_split_n rfl rfl (fun _ => ?_) (fun _ => ?_)) <;> try (first | contradiction | (exfalso; omega)))
      | refine r_val rfl rfl (by (first | omega | exact Nat.le_of_ble_eq_true rfl | (simp_all; done) | (simp_all; omega) | ((repeat' refine And.intro ?_ ?_) <;> first | omega | rfl | exact Nat.le_refl _ | exact Nat.le_of_ble_eq_true rfl | exact bytesF_one _ | (simp_all; done) | (simp_all; omega)))) ?_ | refine r_gval rfl rfl rfl rfl (by (first | omega | exact Nat.le_of_ble_eq_true rfl | (simp_all; done) | (simp_all; omega) | ((repeat' refine And.intro ?_ ?_) <;> first | omega | rfl | exact Nat.le_refl _ | exact Nat.le_of_ble_eq_true rfl | exact bytesF_one _ | (simp_all; done) | (simp_all; omega)))) ?_
      | refine r_obj rfl rfl (by (first | omega | exact Nat.le_of_ble_eq_true rfl | (simp_all; done) | (simp_all; omega) | ((repeat' refine And.intro ?_ ?_) <;> first | omega | rfl | exact Nat.le_refl _ | exact Nat.le_of_ble_eq_true rfl | exact bytesF_one _ | (simp_all; done) | (simp_all; omega)))) ?_ | refine r_sto rfl (by (first | omega | exact Nat.le_of_ble_eq_true rfl | (simp_all; done) | (simp_all; omega) | ((repeat' refine And.intro ?_ ?_) <;> first | omega | rfl | exact Nat.le_refl _ | exact Nat.le_of_ble_eq_true rfl | exact bytesF_one _ | (simp_all; done) | (simp_all; omega)))) ?_ | refine r_gobj rfl rfl rfl rfl (by (first | omega | exact Nat.le_of_ble_eq_true rfl | (simp_all; done) | (simp_all; omega) | ((repeat' refine And.intro ?_ ?_) <;> first | omega | rfl | exact Nat.le_refl _ | exact Nat.le_of_ble_eq_true rfl | exact bytesF_one _ | (simp_all; done) | (simp_all; omega)))) ?_
      | refine e_hit rfl ?_ | refine e_miss rfl ?_
      | refine ⟨by kernel_rfl, ?_⟩ | refine x_end rfl ?_ | refine n_end rfl ?_ | ((with_reducible refine c_grd ?_); (fail_if_success (refine c_lit true rfl rfl rfl ?_)); (fail_if_success (refine c_lit false rfl rfl rfl ?_)); refine c_split rfl rfl (fun _ => ?_) (fun _ => ?_)))
    all_goals first | (rw [hres]; done) | (rw [hres]; rfl) | skip

end Go.Proofs.Ytghhohckonbkkaa.Flow

/- LRU: bounds, and what was put last (the plain law). -/
namespace Go.Proofs.Ytghhohckonbkkaa.Flow
open Go

theorem evL_prefix (E M : Int) : ∀ (f : Nat) (l : List Ent), ∃ r, l = evL f E M l ++ r
  | 0, l => ⟨[], by simp [evL]⟩
  | f + 1, l => by
    unfold evL
    split
    · obtain ⟨r, hr⟩ := evL_prefix E M f l.dropLast
      rcases List.eq_nil_or_concat l with rfl | ⟨a, p, rfl⟩
      · exact ⟨r, by simpa using hr⟩
      · rw [List.concat_eq_append, List.dropLast_concat] at *
        exact ⟨r ++ [p], by rw [← List.append_assoc, ← hr]⟩
    · exact ⟨[], by simp⟩

theorem wo_sum (l : List Ent) (k : List UInt8) : sumL (woL l k) ≤ sumL l ∧ (woL l k).length ≤ l.length := by
  induction l with
  | nil => simp [woL]
  | cons p r ih =>
    unfold woL at ih ⊢
    rw [List.filter_cons]
    split <;> simp only [sumL, List.length_cons] <;> omega

theorem getL_mem {l : List Ent} {k : List UInt8} {v : D} (h : getL l k = some v) : (k, v) ∈ l := by
  unfold getL at h
  split at h
  · rename_i p hp
    have h1 := List.mem_of_find?_eq_some hp
    have h2 := List.find?_some hp
    cases h
    have : p.1 = k := by simpa using h2
    rw [← this]
    exact h1
  · cases h

theorem wo_some {l : List Ent} {k : List UInt8} {v : D} : getL l k = some v → sumL (woL l k) + (k.length + lenOf v) ≤ sumL l ∧ (woL l k).length + 1 ≤ l.length := by
  induction l with
  | nil => intro h; simp [getL] at h
  | cons p r ih =>
    intro h
    unfold getL at h
    rw [List.find?_cons] at h
    have hw := wo_sum r k
    unfold woL at hw ih ⊢
    rw [List.filter_cons]
    by_cases hp : p.1 = k
    · have e : (p.1 == k) = true := by simp [hp]
      rw [e] at h
      simp only [e, Bool.not_true, Bool.false_eq_true, if_false, sumL, List.length_cons, esz]
      cases h
      rw [hp]
      omega
    · have e : (p.1 == k) = false := by simp [hp]
      rw [e] at h
      have := ih h
      simp only [e, Bool.not_false, if_true, sumL, List.length_cons]
      omega

theorem getR_fit {E M : Int} {l : List Ent} (k : List UInt8) (h : (l.length : Int) ≤ E ∧ (sumL l : Int) ≤ M) : ((getR l k).length : Int) ≤ E ∧ (sumL (getR l k) : Int) ≤ M := by
  unfold getR
  cases hg : getL l k with
  | none => exact h
  | some v =>
    have := wo_some hg
    simp only [sumL, List.length_cons, esz]
    omega
theorem getR_sum (l : List Ent) (k : List UInt8) : sumL (getR l k) ≤ sumL l := by
  unfold getR
  cases hg : getL l k with
  | none => exact Nat.le_refl _
  | some v =>
    have := wo_some hg
    simp only [sumL, esz]
    omega
theorem getR_mem {l : List Ent} {k : List UInt8} {p : Ent} (h : p ∈ getR l k) : p ∈ l := by
  unfold getR at h
  cases hg : getL l k with
  | none => rw [hg] at h; exact h
  | some v =>
    rw [hg] at h
    rcases List.mem_cons.1 h with rfl | h
    · exact getL_mem hg
    · unfold woL at h
      rw [List.mem_filter] at h
      exact h.1

/-! ### What was put last -/
abbrev Prs := List (List UInt8 × List UInt8)
def txtD (d : D) : List UInt8 := bytesOf (lenOf d) (funOf d)
def lastV (P : Prs) (k : List UInt8) : Option (List UInt8) := P.foldl (fun acc p => if p.1 = k then some p.2 else acc) none
theorem lastV_snoc (P : Prs) (p : List UInt8 × List UInt8) (k : List UInt8) : lastV (P ++ [p]) k = if p.1 = k then some p.2 else lastV P k := by simp [lastV, List.foldl_append]

def LastOk (P : Prs) (l : List Ent) : Prop := ∀ p ∈ l, lastV P p.1 = some (txtD p.2)

def flatP : Prs → List (List UInt8)
  | [] => []
  | p :: r => p.1 :: p.2 :: flatP r
theorem flatP_len : ∀ P : Prs, (flatP P).length = 2 * P.length
  | [] => rfl
  | p :: r => by
    have := flatP_len r
    simp only [flatP, List.length_cons]
    omega
theorem flatP_app : ∀ (P Q : Prs), flatP (P ++ Q) = flatP P ++ flatP Q
  | [], _ => rfl
  | p :: r, Q => by simp [flatP, flatP_app r Q]
theorem flatP_at : ∀ (P : Prs) (j : Nat), j < P.length → (flatP P).getD (2 * j) [] = (P.getD j ([], [])).1 ∧ (flatP P).getD (2 * j + 1) [] = (P.getD j ([], [])).2
  | [], j, h => by simp at h
  | p :: r, 0, _ => ⟨rfl, rfl⟩
  | p :: r, j + 1, h => by
    have := flatP_at r j (by simpa using h)
    rw [show 2 * (j + 1) = 2 * j + 1 + 1 by omega]
    simpa [flatP] using this

end Go.Proofs.Ytghhohckonbkkaa.Flow

/- LRU: the law of the bounds. -/
namespace Go.Proofs.Ytghhohckonbkkaa.Flow
open Go

/-- What holds ahead of a round of the law's loop. -/
structure BndI (l : List ActV) (E0 S0 : Int) (i : Nat) (g : Rg) (la : List Ent) (h m : Int) (P : Prs) : Prop where
  H : Holds g la (max E0 0) (max S0 0) h m
  il : i ≤ l.length
  hh : 0 ≤ h ∧ h ≤ i
  hm : 0 ≤ m ∧ m ≤ i
  sum : sumL la ≤ sumA (l.take i)
  fit : (la.length : Int) ≤ max E0 0 ∧ (sumL la : Int) ≤ max S0 0
  last : LastOk P la
  pl : P.length ≤ i

abbrev lastO (P : Prs) : Nat × Own := (20, .arr 9 1 (flatP P).length (kyF (flatP P)))
abbrev bndF (l : List ActV) (E0 S0 : Int) (i : Nat) (P : Prs) : Fr := [(0, .i .i64 E0), (1, .i .i64 S0), (2, .sl 3 l.length (actF l)), (7, .pv 9000 0), (8, .ah 20 1 (flatP P).length), (9, .i .i64 i)]

theorem okAll_b {own : Ow} {fr : Fr} {g : Rg} {ks : List Nat} (hw : Wf0 g) (hk : ∀ k, memB k ks = true → memB k (9000 :: own.map (·.1)) = true) (h : okAll ks fr own = true) : okAll ((own ++ objs g).map (·.1)) fr (own ++ objs g) = true :=
  okAll_C hw (fun k hk' => by
    have := memB_spec (hk k hk')
    rcases List.mem_cons.1 this with rfl | h
    · exact .inr (by simp [idsG])
    · exact .inl h) h

theorem get_some {g : Rg} {l : List Ent} {E M h m : Int} {v : D} {k : List UInt8} (H : Holds g l E M h m) (hg : getL l k = some v) (hh : 0 ≤ h ∧ h ≤ 1000000) (hm : 0 ≤ m ∧ m ≤ 1000000) :
    ∃ g', CtrO Try.prog 10 [.pv 9000 0, .s k] (objs g) (.tu [v, .b true]) (objs g') ∧ Holds g' (getR l k) E M (h + 1) m ∧ g.n ≤ g'.n ∧ (D.tu [v, .b true]).okIn (idsG g'.n) = true := by
  obtain ⟨g', c, H', n, o⟩ := get_all H k hh hm
  have e : gotL l k = .tu [v, .b true] := by unfold gotL; rw [hg]
  rw [e] at c o
  rw [hg] at H'
  exact ⟨g', c, H', n, o⟩
theorem get_none {g : Rg} {l : List Ent} {E M h m : Int} {k : List UInt8} (H : Holds g l E M h m) (hg : getL l k = none) (hh : 0 ≤ h ∧ h ≤ 1000000) (hm : 0 ≤ m ∧ m ≤ 1000000) :
    ∃ g', CtrO Try.prog 10 [.pv 9000 0, .s k] (objs g) (.tu [.nilS, .b false]) (objs g') ∧ Holds g' (getR l k) E M h (m + 1) ∧ g.n ≤ g'.n := by
  obtain ⟨g', c, H', n, o⟩ := get_all H k hh hm
  have e : gotL l k = .tu [.nilS, .b false] := by unfold gotL; rw [hg]
  rw [e] at c
  rw [hg] at H'
  exact ⟨g', c, H', n⟩
theorem put_t {g : Rg} {l : List Ent} {E M h m : Int} (H : Holds g l E M h m) (k : List UInt8) (d : D) (hd : isB d) (hb : sumL l + (k.length + lenOf d) ≤ 1000000) (hE : 0 ≤ E) (hM : 0 ≤ M) (hp : putB E M k d = true) :
    ∃ g', CtrO Try.prog 9 [.pv 9000 0, .s k, d] (objs g) (.b true) (objs g') ∧ Holds g' (putL E M l k d) E M h m ∧ g.n ≤ g'.n := by
  obtain ⟨g', c, H', n⟩ := put_all H k d hd hb hE hM
  have e : putR E M l k d = putL E M l k d := by unfold putR; rw [hp]
  rw [hp] at c
  rw [e] at H'
  exact ⟨g', c, H', n⟩
theorem put_f {g : Rg} {l : List Ent} {E M h m : Int} (H : Holds g l E M h m) (k : List UInt8) (d : D) (hd : isB d) (hb : sumL l + (k.length + lenOf d) ≤ 1000000) (hE : 0 ≤ E) (hM : 0 ≤ M) (hp : putB E M k d = false) :
    ∃ g', CtrO Try.prog 9 [.pv 9000 0, .s k, d] (objs g) (.b false) (objs g') ∧ Holds g' l E M h m ∧ g.n ≤ g'.n := by
  obtain ⟨g', c, H', n⟩ := put_all H k d hd hb hE hM
  have e : putR E M l k d = l := by unfold putR; rw [hp]
  rw [hp] at c
  rw [e] at H'
  exact ⟨g', c, H', n⟩
theorem putL_sum (E M : Int) (l : List Ent) (k : List UInt8) (d : D) : sumL (putL E M l k d) ≤ sumL l + (k.length + lenOf d) := by
  have h1 := evL_len E M ((k, d) :: woL l k).length ((k, d) :: woL l k)
  have h2 := (wo_sum l k).1
  have h3 : sumL ((k, d) :: woL l k) = k.length + lenOf d + sumL (woL l k) := by simp [sumL, esz]
  unfold putL
  omega

end Go.Proofs.Ytghhohckonbkkaa.Flow

/- LRU: the document's side. -/
namespace Go.Proofs.Ytghhohckonbkkaa.Flow
open Go

/-- A variable's cells told by less. -/
theorem T.telV {P : Program} {X : Ctx} {n : Nat} {fr : Fr} {ow : Ow} {Q : Exit → Fr → Ow → Prop} {c : Code} (v : Nat) (cs cs' : List D) (hv : look v ow = some (.var cs)) (hl : cs'.length = cs.length) (hw : ∀ j, j < cs.length → Weak (cs.getD j .any).shut (cs'.getD j .any) ∧ (cs'.getD j .any).one = true)
    (h : T P X n c fr ((v, .var cs') :: ow) Q) : T P X n c fr ow Q := fun a w hr => by
  refine h a w ?_
  obtain ⟨S, r, hH, hI, hF, hd, hn, hρ⟩ := hr
  have hc : Chg w w S none := ⟨rfl, rfl, rfl, Nat.le_refl _, fun _ _ _ => rfl, fun _ _ _ => rfl⟩
  obtain ⟨b, cur, e0, g1, g2, g3, g4, g5⟩ := hI.obj v _ hv
  refine ⟨S, r, hH, ?_, hF, hd, hn, hρ⟩
  rw [fO_cons]
  exact hI.put hc (fun _ _ h => h) (RhoLe.refl _) v _ (.blk b) ⟨b, cur, e0, g1, g2, by rw [g3, hl], fun j hj => ⟨((g4 j (by omega)).1.shut).weak (hw j (by omega)).1, (hw j (by omega)).2⟩, g5⟩ g1 (fun _ _ => rfl) (fun b' hb' => .inr ⟨_, g1, hb'⟩) (fun b hb => by cases hb) (fun _ _ h => .inl h)

theorem T.telL {P : Program} {X : Ctx} {n : Nat} {fr : Fr} {ow : Ow} {Q : Exit → Fr → Ow → Prop} {c : Code} (v : Nat) {d d' : D} {a1 a2 a3 a4 : Int} (hv : look v ow = some (.var [d, .i .i64 a1, .i .i64 a2, .i .i64 a3, .i .i64 a4])) (hw : Weak d.shut d') (h1 : d'.one = true)
    (h : T P X n c fr ((v, .var [d', .i .i64 a1, .i .i64 a2, .i .i64 a3, .i .i64 a4]) :: ow) Q) : T P X n c fr ow Q :=
  T.telV v _ [d', .i .i64 a1, .i .i64 a2, .i .i64 a3, .i .i64 a4] hv rfl (fun j hj => match j, hj with
    | 0, _ => ⟨hw, h1⟩
    | 1, _ => ⟨.refl _, rfl⟩
    | 2, _ => ⟨.refl _, rfl⟩
    | 3, _ => ⟨.refl _, rfl⟩
    | 4, _ => ⟨.refl _, rfl⟩) h

/-! ### Entries in a row -/
def dE : Ent := ([], .sl 1 0 fun _ => [])
def nrm (d : D) : D := .sl 1 (lenOf d) (funOf d)
theorem nrm_eq {d : D} (h : isB d) : nrm d = d := h.1.symm
def entC (p : Ent) : List D := [.s p.1, .sl 1 (lenOf p.2) (funOf p.2)]
def entF (l : List Ent) : Nat → List D := fun i => entC (l.getD i dE)
def refC (d : D) (E M h m : Int) : List D := [d, .i .i64 E, .i .i64 M, .i .i64 h, .i .i64 m]
def rowE (l : List Ent) : D := .sl 2 l.length (entF l)

theorem ent_snoc (k n : Nat) (l l2 : List Ent) (x : Ent) (g : Nat → List D) (hn : n = l.length) (hg : g 0 = entC x) (h2 : l2 = l ++ [x]) : D.gs k 2 (n + 1) (catF n (entF l) 1 g) = D.gs k 2 l2.length (entF l2) := by
  subst h2
  subst hn
  have : catF l.length (entF l) 1 g = entF (l ++ [x]) := by
    funext j
    unfold catF entF
    by_cases h : j < l.length
    · rw [if_pos h]
      simp [List.getD_eq_getElem?_getD, h, List.getElem?_append_left]
    · rw [if_neg h]
      by_cases h2 : j < l.length + 1
      · rw [if_pos h2, show j - l.length = 0 by omega, hg]
        simp [List.getD_eq_getElem?_getD, List.getElem?_append_right (show l.length ≤ j by omega), show j - l.length = 0 by omega]
      · rw [if_neg h2]
        simp [List.getD_eq_getElem?_getD, List.getElem?_append_right (show l.length ≤ j by omega)]
        rw [List.getElem?_eq_none (show l.length ≤ j by omega), List.getElem?_eq_none (by simp; omega)]
  rw [this, List.length_append]
  rfl

theorem wk_row {n : Nat} {f : Nat → List D} {l : List Ent} (hn : n = l.length) (hf : ∀ i, i < l.length → f i = entF l i) : Weak (.sl 2 n f) (rowE l) := by
  subst hn
  exact .sl _ _ _ _ (fun i hi => ⟨by rw [hf i hi], rfl⟩) (fun i j hi hj => .of_eq (by rw [hf i hi]))

theorem wk_cache {d d' : D} {E M h m E' M' h' m' : Int} (hd : Weak d d') (e1 : E = E') (e2 : M = M') (e3 : h = h') (e4 : m = m') : Weak (.ag [d, .i .i64 E, .i .i64 M, .i .i64 h, .i .i64 m]) (.ag (refC d' E' M' h' m')) := by
  subst e1
  subst e2
  subst e3
  subst e4
  exact .ag _ _ rfl fun j hj => match j, hj with
    | 0, _ => hd
    | 1, _ => .refl _
    | 2, _ => .refl _
    | 3, _ => .refl _
    | 4, _ => .refl _

theorem wo_take {l : List Ent} {k : List UInt8} {i : Nat} (h : i < l.length) : woL (l.take (i + 1)) k = woL (l.take i) k ++ if (l.getD i dE).1 = k then [] else [l.getD i dE] := by
  rw [List.take_add_one]
  unfold woL
  rw [List.filter_append]
  congr 1
  have : l[i]? = some (l.getD i dE) := by simp [List.getD_eq_getElem?_getD, h]
  rw [this]
  by_cases hk : (l.getD i dE).1 = k
  · rw [if_pos hk]
    simp only [Option.toList, List.filter_cons, List.filter_nil]
    rw [if_neg (by simpa using hk)]
  · rw [if_neg hk]
    simp only [Option.toList, List.filter_cons, List.filter_nil]
    rw [if_pos (by simpa using hk)]

set_option maxRecDepth 100000 in
theorem without_ctr (l : List Ent) (k : List UInt8) (hl : l.length ≤ 1000000) : Ctr Try.prog 26 [rowE l, .s k] (rowE (woL l k)) := by
  unfold rowE
  refine r_fun Try.func26 rfl Try.ntmps26 Try.results26 rfl rfl fun X hL hX => ?_
  repeat' (first
    | with_reducible refine t_seq ?_ | with_reducible refine t_region ?_ | with_reducible refine c_nil ?_ | with_reducible refine n_then ?_
    | with_reducible refine t_ret ?_ | with_reducible refine t_skip ?_ | with_reducible refine t_exit ?_ | with_reducible refine t_block ?_
    | with_reducible refine n_block ?_ | with_reducible refine e_then ?_ | with_reducible refine x_then ?_ | with_reducible refine x_block ?_ | with_reducible refine t_draw ?_
    | refine r_val rfl rfl True.intro ?_ | refine r_gskip rfl rfl rfl ?_ | refine r_gskip2 rfl rfl rfl ?_ | refine r_gval rfl rfl rfl rfl True.intro ?_
    | refine t_true rfl ?_ | refine t_false rfl ?_
    | ((first | refine t_cond_d rfl (fun _ => ?_) (fun _ => ?_) | refine t_cond_i rfl (fun _ => ?_) (fun _ => ?_) | refine t_cond_j rfl (fun _ => ?_) (fun _ => ?_) | refine t_cond_s rfl (fun _ => ?_) (fun _ => ?_) | refine t_cond_n rfl (fun _ => ?_) (fun _ => ?_) | refine t_cond rfl (fun _ => ?_) (fun _ => ?_) | refine c_split_d rfl rfl (fun _ => ?_) (fun _ => ?_) | refine c_split_i rfl rfl (fun _ => ?_) (fun _ => ?_) | refine c_split_j rfl rfl (fun _ => ?_) (fun _ => ?_) | refine c_split_s rfl rfl (fun _ => ?_) (fun _ => ?_) | refine c_split_n rfl rfl (fun _ => ?_) (fun _ => ?_)) <;> try (first | contradiction | (exfalso; omega)))
    | refine r_val rfl rfl (by (first | omega | exact Nat.le_of_ble_eq_true rfl | (simp_all; done) | (simp_all; omega) | ((repeat' refine And.intro ?_ ?_) <;> first | omega | rfl | exact Nat.le_refl _ | exact Nat.le_of_ble_eq_true rfl | exact bytesF_one _ | (simp_all; done) | (simp_all; omega)))) ?_ | refine r_gval rfl rfl rfl rfl (by (first | omega | exact Nat.le_of_ble_eq_true rfl | (simp_all; done) | (simp_all; omega) | ((repeat' refine And.intro ?_ ?_) <;> first | omega | rfl | exact Nat.le_refl _ | exact Nat.le_of_ble_eq_true rfl | exact bytesF_one _ | (simp_all; done) | (simp_all; omega)))) ?_
    | refine r_obj rfl rfl (by (first | omega | exact Nat.le_of_ble_eq_true rfl | (simp_all; done) | (simp_all; omega) | ((repeat' refine And.intro ?_ ?_) <;> first | omega | rfl | exact Nat.le_refl _ | exact Nat.le_of_ble_eq_true rfl | exact bytesF_one _ | (simp_all; done) | (simp_all; omega)))) ?_ | refine r_sto rfl (by (first | omega | exact Nat.le_of_ble_eq_true rfl | (simp_all; done) | (simp_all; omega) | ((repeat' refine And.intro ?_ ?_) <;> first | omega | rfl | exact Nat.le_refl _ | exact Nat.le_of_ble_eq_true rfl | exact bytesF_one _ | (simp_all; done) | (simp_all; omega)))) ?_ | refine r_gobj rfl rfl rfl rfl (by (first | omega | exact Nat.le_of_ble_eq_true rfl | (simp_all; done) | (simp_all; omega) | ((repeat' refine And.intro ?_ ?_) <;> first | omega | rfl | exact Nat.le_refl _ | exact Nat.le_of_ble_eq_true rfl | exact bytesF_one _ | (simp_all; done) | (simp_all; omega)))) ?_
    | refine e_hit rfl ?_ | refine e_miss rfl ?_
    | refine ⟨by kernel_rfl, ?_⟩ | ((with_reducible refine c_grd ?_); (fail_if_success (refine c_lit true rfl rfl rfl ?_)); (fail_if_success (refine c_lit false rfl rfl rfl ?_)); refine c_split rfl rfl (fun _ => ?_) (fun _ => ?_)))
  refine T.adopt 5 5 45 2 (entF []) rfl rfl ?_
  refine T.loop hL (fun i : Nat => [(0, .sl 2 l.length (entF l)), (1, .s k), (5, .gs 5 2 (woL (l.take i) k).length (entF (woL (l.take i) k))), (6, .i .i64 i)]) (fun i => [(5, .row 45 2 (woL (l.take i) k).length)]) (fun i => i ≤ l.length) (fun i => l.length - i) 0 (Nat.zero_le _)
    ⟨⟨rfl, rfl, by simp only [List.take_zero]; rfl, rfl, trivial⟩, ⟨by simp only [List.take_zero]; rfl, trivial⟩, rfl, fun q hq => by rw [hX] at hq; simp at hq⟩ ?_
  intro i hi
  have hwl := (wo_sum (l.take i) k).2
  rw [List.length_take] at hwl
  by_cases hil : i < l.length
  · have hnat : (i : Int).toNat = i := Int.toNat_natCast i
    have hst := wo_take (k := k) hil
    by_cases hk : (l.getD (i : Int).toNat dE).1 = k
    · rw [hnat] at hk
      rw [if_pos hk, List.append_nil] at hst
      rw [← hnat] at hk
      repeat' (first
        | with_reducible refine t_seq ?_ | with_reducible refine t_region ?_ | with_reducible refine c_nil ?_ | with_reducible refine n_then ?_
        | with_reducible refine t_ret ?_ | with_reducible refine t_skip ?_ | with_reducible refine t_exit ?_ | with_reducible refine t_block ?_
        | with_reducible refine n_block ?_ | with_reducible refine e_then ?_ | with_reducible refine x_then ?_ | with_reducible refine x_block ?_ | with_reducible refine t_draw ?_
        | refine r_val rfl rfl True.intro ?_ | refine r_gskip rfl rfl rfl ?_ | refine r_gskip2 rfl rfl rfl ?_ | refine r_gval rfl rfl rfl rfl True.intro ?_
        | refine t_true rfl ?_ | refine t_false rfl ?_
        | ((first | refine t_cond_d rfl (fun _ => ?_) (fun _ => ?_) | refine t_cond_i rfl (fun _ => ?_) (fun _ => ?_) | refine t_cond_j rfl (fun _ => ?_) (fun _ => ?_) | refine t_cond_s rfl (fun _ => ?_) (fun _ => ?_) | refine t_cond_n rfl (fun _ => ?_) (fun _ => ?_) | refine t_cond rfl (fun _ => ?_) (fun _ => ?_) | refine c_split_d rfl rfl (fun _ => ?_) (fun _ => ?_) | refine c_split_i rfl rfl (fun _ => ?_) (fun _ => ?_) | refine c_split_j rfl rfl (fun _ => ?_) (fun _ => ?_) | refine c_split_s rfl rfl (fun _ => ?_) (fun _ => ?_) | refine c_split_n rfl rfl (fun _ => ?_) (fun _ => ?_)) <;> try (first | contradiction | (exfalso; omega)))
        | refine r_val rfl rfl (by (first | omega | exact Nat.le_of_ble_eq_true rfl | (simp_all; done) | (simp_all; omega) | ((repeat' refine And.intro ?_ ?_) <;> first | omega | rfl | exact Nat.le_refl _ | exact Nat.le_of_ble_eq_true rfl | exact bytesF_one _ | (simp_all; done) | (simp_all; omega)))) ?_ | refine r_gval rfl rfl rfl rfl (by (first | omega | exact Nat.le_of_ble_eq_true rfl | (simp_all; done) | (simp_all; omega) | ((repeat' refine And.intro ?_ ?_) <;> first | omega | rfl | exact Nat.le_refl _ | exact Nat.le_of_ble_eq_true rfl | exact bytesF_one _ | (simp_all; done) | (simp_all; omega)))) ?_
        | refine r_obj rfl rfl (by (first | omega | exact Nat.le_of_ble_eq_true rfl | (simp_all; done) | (simp_all; omega) | ((repeat' refine And.intro ?_ ?_) <;> first | omega | rfl | exact Nat.le_refl _ | exact Nat.le_of_ble_eq_true rfl | exact bytesF_one _ | (simp_all; done) | (simp_all; omega)))) ?_ | refine r_sto rfl (by (first | omega | exact Nat.le_of_ble_eq_true rfl | (simp_all; done) | (simp_all; omega) | ((repeat' refine And.intro ?_ ?_) <;> first | omega | rfl | exact Nat.le_refl _ | exact Nat.le_of_ble_eq_true rfl | exact bytesF_one _ | (simp_all; done) | (simp_all; omega)))) ?_ | refine r_gobj rfl rfl rfl rfl (by (first | omega | exact Nat.le_of_ble_eq_true rfl | (simp_all; done) | (simp_all; omega) | ((repeat' refine And.intro ?_ ?_) <;> first | omega | rfl | exact Nat.le_refl _ | exact Nat.le_of_ble_eq_true rfl | exact bytesF_one _ | (simp_all; done) | (simp_all; omega)))) ?_
        | refine e_hit rfl ?_ | refine e_miss rfl ?_
        | refine ⟨by kernel_rfl, ?_⟩ | ((with_reducible refine c_grd ?_); (fail_if_success (refine c_lit true rfl rfl rfl ?_)); (fail_if_success (refine c_lit false rfl rfl rfl ?_)); refine c_split rfl rfl (fun _ => ?_) (fun _ => ?_)))
      · exfalso
        rename_i hz
        rw [hk] at hz
        simp at hz
      · exact ⟨i + 1, by omega, by omega, ⟨rfl, rfl, by rw [hst]; rfl, rfl, trivial⟩, ⟨by rw [hst]; rfl, trivial⟩, rfl, fun q hq => by rw [hX] at hq; simp at hq⟩
    · rw [hnat] at hk
      rw [if_neg hk] at hst
      rw [← hnat] at hk
      have hln : (woL (l.take (i + 1)) k).length = (woL (l.take i) k).length + 1 := by rw [hst]; simp
      repeat' (first
        | with_reducible refine t_seq ?_ | with_reducible refine t_region ?_ | with_reducible refine c_nil ?_ | with_reducible refine n_then ?_
        | with_reducible refine t_ret ?_ | with_reducible refine t_skip ?_ | with_reducible refine t_exit ?_ | with_reducible refine t_block ?_
        | with_reducible refine n_block ?_ | with_reducible refine e_then ?_ | with_reducible refine x_then ?_ | with_reducible refine x_block ?_ | with_reducible refine t_draw ?_
        | refine r_val rfl rfl True.intro ?_ | refine r_gskip rfl rfl rfl ?_ | refine r_gskip2 rfl rfl rfl ?_ | refine r_gval rfl rfl rfl rfl True.intro ?_
        | refine t_true rfl ?_ | refine t_false rfl ?_
        | ((first | refine t_cond_d rfl (fun _ => ?_) (fun _ => ?_) | refine t_cond_i rfl (fun _ => ?_) (fun _ => ?_) | refine t_cond_j rfl (fun _ => ?_) (fun _ => ?_) | refine t_cond_s rfl (fun _ => ?_) (fun _ => ?_) | refine t_cond_n rfl (fun _ => ?_) (fun _ => ?_) | refine t_cond rfl (fun _ => ?_) (fun _ => ?_) | refine c_split_d rfl rfl (fun _ => ?_) (fun _ => ?_) | refine c_split_i rfl rfl (fun _ => ?_) (fun _ => ?_) | refine c_split_j rfl rfl (fun _ => ?_) (fun _ => ?_) | refine c_split_s rfl rfl (fun _ => ?_) (fun _ => ?_) | refine c_split_n rfl rfl (fun _ => ?_) (fun _ => ?_)) <;> try (first | contradiction | (exfalso; omega)))
        | refine r_val rfl rfl (by (first | omega | exact Nat.le_of_ble_eq_true rfl | (simp_all; done) | (simp_all; omega) | ((repeat' refine And.intro ?_ ?_) <;> first | omega | rfl | exact Nat.le_refl _ | exact Nat.le_of_ble_eq_true rfl | exact bytesF_one _ | (simp_all; done) | (simp_all; omega)))) ?_ | refine r_gval rfl rfl rfl rfl (by (first | omega | exact Nat.le_of_ble_eq_true rfl | (simp_all; done) | (simp_all; omega) | ((repeat' refine And.intro ?_ ?_) <;> first | omega | rfl | exact Nat.le_refl _ | exact Nat.le_of_ble_eq_true rfl | exact bytesF_one _ | (simp_all; done) | (simp_all; omega)))) ?_
        | refine r_obj rfl rfl (by (first | omega | exact Nat.le_of_ble_eq_true rfl | (simp_all; done) | (simp_all; omega) | ((repeat' refine And.intro ?_ ?_) <;> first | omega | rfl | exact Nat.le_refl _ | exact Nat.le_of_ble_eq_true rfl | exact bytesF_one _ | (simp_all; done) | (simp_all; omega)))) ?_ | refine r_sto rfl (by (first | omega | exact Nat.le_of_ble_eq_true rfl | (simp_all; done) | (simp_all; omega) | ((repeat' refine And.intro ?_ ?_) <;> first | omega | rfl | exact Nat.le_refl _ | exact Nat.le_of_ble_eq_true rfl | exact bytesF_one _ | (simp_all; done) | (simp_all; omega)))) ?_ | refine r_gobj rfl rfl rfl rfl (by (first | omega | exact Nat.le_of_ble_eq_true rfl | (simp_all; done) | (simp_all; omega) | ((repeat' refine And.intro ?_ ?_) <;> first | omega | rfl | exact Nat.le_refl _ | exact Nat.le_of_ble_eq_true rfl | exact bytesF_one _ | (simp_all; done) | (simp_all; omega)))) ?_
        | refine e_hit rfl ?_ | refine e_miss rfl ?_
        | refine ⟨by kernel_rfl, ?_⟩ | ((with_reducible refine c_grd ?_); (fail_if_success (refine c_lit true rfl rfl rfl ?_)); (fail_if_success (refine c_lit false rfl rfl rfl ?_)); refine c_split rfl rfl (fun _ => ?_) (fun _ => ?_)))
      · exact ⟨i + 1, by omega, by omega, ⟨rfl, rfl, ent_snoc 5 _ _ _ (l.getD i dE) _ rfl (by rw [hnat]; rfl) hst, rfl, trivial⟩, ⟨by rw [hln]; rfl, trivial⟩, rfl, fun q hq => by rw [hX] at hq; simp at hq⟩
      · exfalso
        rename_i hz
        exact hk (by simpa using hz)
  · have : i = l.length := by omega
    subst this
    repeat' (first
      | with_reducible refine t_seq ?_ | with_reducible refine t_region ?_ | with_reducible refine c_nil ?_ | with_reducible refine n_then ?_
      | with_reducible refine t_ret ?_ | with_reducible refine t_skip ?_ | with_reducible refine t_exit ?_ | with_reducible refine t_block ?_
      | with_reducible refine n_block ?_ | with_reducible refine e_then ?_ | with_reducible refine x_then ?_ | with_reducible refine x_block ?_ | with_reducible refine t_draw ?_
      | refine r_val rfl rfl True.intro ?_ | refine r_gskip rfl rfl rfl ?_ | refine r_gskip2 rfl rfl rfl ?_ | refine r_gval rfl rfl rfl rfl True.intro ?_
      | refine t_true rfl ?_ | refine t_false rfl ?_
      | ((first | refine t_cond_d rfl (fun _ => ?_) (fun _ => ?_) | refine t_cond_i rfl (fun _ => ?_) (fun _ => ?_) | refine t_cond_j rfl (fun _ => ?_) (fun _ => ?_) | refine t_cond_s rfl (fun _ => ?_) (fun _ => ?_) | refine t_cond_n rfl (fun _ => ?_) (fun _ => ?_) | refine t_cond rfl (fun _ => ?_) (fun _ => ?_) | refine c_split_d rfl rfl (fun _ => ?_) (fun _ => ?_) | refine c_split_i rfl rfl (fun _ => ?_) (fun _ => ?_) | refine c_split_j rfl rfl (fun _ => ?_) (fun _ => ?_) | refine c_split_s rfl rfl (fun _ => ?_) (fun _ => ?_) | refine c_split_n rfl rfl (fun _ => ?_) (fun _ => ?_)) <;> try (first | contradiction | (exfalso; omega)))
      | refine r_val rfl rfl (by (first | omega | exact Nat.le_of_ble_eq_true rfl | (simp_all; done) | (simp_all; omega) | ((repeat' refine And.intro ?_ ?_) <;> first | omega | rfl | exact Nat.le_refl _ | exact Nat.le_of_ble_eq_true rfl | exact bytesF_one _ | (simp_all; done) | (simp_all; omega)))) ?_ | refine r_gval rfl rfl rfl rfl (by (first | omega | exact Nat.le_of_ble_eq_true rfl | (simp_all; done) | (simp_all; omega) | ((repeat' refine And.intro ?_ ?_) <;> first | omega | rfl | exact Nat.le_refl _ | exact Nat.le_of_ble_eq_true rfl | exact bytesF_one _ | (simp_all; done) | (simp_all; omega)))) ?_
      | refine r_obj rfl rfl (by (first | omega | exact Nat.le_of_ble_eq_true rfl | (simp_all; done) | (simp_all; omega) | ((repeat' refine And.intro ?_ ?_) <;> first | omega | rfl | exact Nat.le_refl _ | exact Nat.le_of_ble_eq_true rfl | exact bytesF_one _ | (simp_all; done) | (simp_all; omega)))) ?_ | refine r_sto rfl (by (first | omega | exact Nat.le_of_ble_eq_true rfl | (simp_all; done) | (simp_all; omega) | ((repeat' refine And.intro ?_ ?_) <;> first | omega | rfl | exact Nat.le_refl _ | exact Nat.le_of_ble_eq_true rfl | exact bytesF_one _ | (simp_all; done) | (simp_all; omega)))) ?_ | refine r_gobj rfl rfl rfl rfl (by (first | omega | exact Nat.le_of_ble_eq_true rfl | (simp_all; done) | (simp_all; omega) | ((repeat' refine And.intro ?_ ?_) <;> first | omega | rfl | exact Nat.le_refl _ | exact Nat.le_of_ble_eq_true rfl | exact bytesF_one _ | (simp_all; done) | (simp_all; omega)))) ?_
      | refine e_hit rfl ?_ | refine e_miss rfl ?_
      | refine ⟨by kernel_rfl, ?_⟩ | refine x_endw rfl (wk_row (by rw [List.take_length]) (fun _ _ => by rw [List.take_length])) | refine n_endw rfl (wk_row (by rw [List.take_length]) (fun _ _ => by rw [List.take_length])) | ((with_reducible refine c_grd ?_); (fail_if_success (refine c_lit true rfl rfl rfl ?_)); (fail_if_success (refine c_lit false rfl rfl rfl ?_)); refine c_split rfl rfl (fun _ => ?_) (fun _ => ?_)))

theorem sum_take {l : List Ent} {i : Nat} (h : i < l.length) : sumL (l.take (i + 1)) = sumL (l.take i) + esz (l.getD i dE) := by
  rw [List.take_add_one, sumL_app]
  have : l[i]? = some (l.getD i dE) := by simp [List.getD_eq_getElem?_getD, h]
  rw [this]
  simp [sumL]

theorem sum_take_le (l : List Ent) (i : Nat) : sumL (l.take i) ≤ sumL l := by
  have := sumL_app (l.take i) (l.drop i)
  rw [List.take_append_drop] at this
  omega

set_option maxRecDepth 100000 in
theorem rsize_ctr (l : List Ent) (E M h m : Int) (hl : l.length ≤ 1000000) (hs : sumL l ≤ 1000000) : Ctr Try.prog 20 [.ag (refC (rowE l) E M h m)] (.i .i64 (sumL l)) := by
  unfold rowE
  refine r_fun Try.func20 rfl Try.ntmps20 Try.results20 rfl rfl fun X hL hX => ?_
  repeat' (first
    | with_reducible refine t_seq ?_ | with_reducible refine t_region ?_ | with_reducible refine c_nil ?_ | with_reducible refine n_then ?_
    | with_reducible refine t_ret ?_ | with_reducible refine t_skip ?_ | with_reducible refine t_exit ?_ | with_reducible refine t_block ?_
    | with_reducible refine n_block ?_ | with_reducible refine e_then ?_ | with_reducible refine x_then ?_ | with_reducible refine x_block ?_ | with_reducible refine t_draw ?_
    | refine r_val rfl rfl True.intro ?_ | refine r_gskip rfl rfl rfl ?_ | refine r_gskip2 rfl rfl rfl ?_ | refine r_gval rfl rfl rfl rfl True.intro ?_
    | refine t_true rfl ?_ | refine t_false rfl ?_
    | ((first | refine t_cond_d rfl (fun _ => ?_) (fun _ => ?_) | refine t_cond_i rfl (fun _ => ?_) (fun _ => ?_) | refine t_cond_j rfl (fun _ => ?_) (fun _ => ?_) | refine t_cond_s rfl (fun _ => ?_) (fun _ => ?_) | refine t_cond_n rfl (fun _ => ?_) (fun _ => ?_) | refine t_cond rfl (fun _ => ?_) (fun _ => ?_) | refine c_split_d rfl rfl (fun _ => ?_) (fun _ => ?_) | refine c_split_i rfl rfl (fun _ => ?_) (fun _ => ?_) | refine c_split_j rfl rfl (fun _ => ?_) (fun _ => ?_) | refine c_split_s rfl rfl (fun _ => ?_) (fun _ => ?_) | refine c_split_n rfl rfl (fun _ => ?_) (fun _ => ?_)) <;> try (first | contradiction | (exfalso; omega)))
    | refine r_val rfl rfl (by (first | omega | exact Nat.le_of_ble_eq_true rfl | (simp_all; done) | (simp_all; omega) | ((repeat' refine And.intro ?_ ?_) <;> first | omega | rfl | exact Nat.le_refl _ | exact Nat.le_of_ble_eq_true rfl | exact bytesF_one _ | (simp_all; done) | (simp_all; omega)))) ?_ | refine r_gval rfl rfl rfl rfl (by (first | omega | exact Nat.le_of_ble_eq_true rfl | (simp_all; done) | (simp_all; omega) | ((repeat' refine And.intro ?_ ?_) <;> first | omega | rfl | exact Nat.le_refl _ | exact Nat.le_of_ble_eq_true rfl | exact bytesF_one _ | (simp_all; done) | (simp_all; omega)))) ?_
    | refine r_obj rfl rfl (by (first | omega | exact Nat.le_of_ble_eq_true rfl | (simp_all; done) | (simp_all; omega) | ((repeat' refine And.intro ?_ ?_) <;> first | omega | rfl | exact Nat.le_refl _ | exact Nat.le_of_ble_eq_true rfl | exact bytesF_one _ | (simp_all; done) | (simp_all; omega)))) ?_ | refine r_sto rfl (by (first | omega | exact Nat.le_of_ble_eq_true rfl | (simp_all; done) | (simp_all; omega) | ((repeat' refine And.intro ?_ ?_) <;> first | omega | rfl | exact Nat.le_refl _ | exact Nat.le_of_ble_eq_true rfl | exact bytesF_one _ | (simp_all; done) | (simp_all; omega)))) ?_ | refine r_gobj rfl rfl rfl rfl (by (first | omega | exact Nat.le_of_ble_eq_true rfl | (simp_all; done) | (simp_all; omega) | ((repeat' refine And.intro ?_ ?_) <;> first | omega | rfl | exact Nat.le_refl _ | exact Nat.le_of_ble_eq_true rfl | exact bytesF_one _ | (simp_all; done) | (simp_all; omega)))) ?_
    | refine e_hit rfl ?_ | refine e_miss rfl ?_
    | refine ⟨by kernel_rfl, ?_⟩ | ((with_reducible refine c_grd ?_); (fail_if_success (refine c_lit true rfl rfl rfl ?_)); (fail_if_success (refine c_lit false rfl rfl rfl ?_)); refine c_split rfl rfl (fun _ => ?_) (fun _ => ?_)))
  refine T.loop hL (fun i : Nat => [(1, .pv 1 0), (3, .i .i64 (sumL (l.take i) : Nat)), (4, .i .i64 i)]) (fun i => [(1, .var (refC (.sl 2 l.length (entF l)) E M h m))]) (fun i => i ≤ l.length) (fun i => l.length - i) 0 (Nat.zero_le _)
    ⟨⟨rfl, rfl, rfl, trivial⟩, ⟨rfl, trivial⟩, rfl, fun q hq => by rw [hX] at hq; simp at hq⟩ ?_
  intro i hi
  have hle := sum_take_le l (i + 1)
  by_cases hil : i < l.length
  · have hst := sum_take hil
    have hez : esz (l.getD i dE) = (l.getD (i : Int).toNat dE).1.length + lenOf (l.getD (i : Int).toNat dE).2 := by rw [Int.toNat_natCast]; rfl
    repeat' (first
      | with_reducible refine t_seq ?_ | with_reducible refine t_region ?_ | with_reducible refine c_nil ?_ | with_reducible refine n_then ?_
      | with_reducible refine t_ret ?_ | with_reducible refine t_skip ?_ | with_reducible refine t_exit ?_ | with_reducible refine t_block ?_
      | with_reducible refine n_block ?_ | with_reducible refine e_then ?_ | with_reducible refine x_then ?_ | with_reducible refine x_block ?_ | with_reducible refine t_draw ?_
      | refine r_val rfl rfl True.intro ?_ | refine r_gskip rfl rfl rfl ?_ | refine r_gskip2 rfl rfl rfl ?_ | refine r_gval rfl rfl rfl rfl True.intro ?_
      | refine t_true rfl ?_ | refine t_false rfl ?_
      | ((first | refine t_cond_d rfl (fun _ => ?_) (fun _ => ?_) | refine t_cond_i rfl (fun _ => ?_) (fun _ => ?_) | refine t_cond_j rfl (fun _ => ?_) (fun _ => ?_) | refine t_cond_s rfl (fun _ => ?_) (fun _ => ?_) | refine t_cond_n rfl (fun _ => ?_) (fun _ => ?_) | refine t_cond rfl (fun _ => ?_) (fun _ => ?_) | refine c_split_d rfl rfl (fun _ => ?_) (fun _ => ?_) | refine c_split_i rfl rfl (fun _ => ?_) (fun _ => ?_) | refine c_split_j rfl rfl (fun _ => ?_) (fun _ => ?_) | refine c_split_s rfl rfl (fun _ => ?_) (fun _ => ?_) | refine c_split_n rfl rfl (fun _ => ?_) (fun _ => ?_)) <;> try (first | contradiction | (exfalso; omega)))
      | refine r_val rfl rfl (by (first | omega | exact Nat.le_of_ble_eq_true rfl | (simp_all; done) | (simp_all; omega) | ((repeat' refine And.intro ?_ ?_) <;> first | omega | rfl | exact Nat.le_refl _ | exact Nat.le_of_ble_eq_true rfl | exact bytesF_one _ | (simp_all; done) | (simp_all; omega)))) ?_ | refine r_gval rfl rfl rfl rfl (by (first | omega | exact Nat.le_of_ble_eq_true rfl | (simp_all; done) | (simp_all; omega) | ((repeat' refine And.intro ?_ ?_) <;> first | omega | rfl | exact Nat.le_refl _ | exact Nat.le_of_ble_eq_true rfl | exact bytesF_one _ | (simp_all; done) | (simp_all; omega)))) ?_
      | refine r_obj rfl rfl (by (first | omega | exact Nat.le_of_ble_eq_true rfl | (simp_all; done) | (simp_all; omega) | ((repeat' refine And.intro ?_ ?_) <;> first | omega | rfl | exact Nat.le_refl _ | exact Nat.le_of_ble_eq_true rfl | exact bytesF_one _ | (simp_all; done) | (simp_all; omega)))) ?_ | refine r_sto rfl (by (first | omega | exact Nat.le_of_ble_eq_true rfl | (simp_all; done) | (simp_all; omega) | ((repeat' refine And.intro ?_ ?_) <;> first | omega | rfl | exact Nat.le_refl _ | exact Nat.le_of_ble_eq_true rfl | exact bytesF_one _ | (simp_all; done) | (simp_all; omega)))) ?_ | refine r_gobj rfl rfl rfl rfl (by (first | omega | exact Nat.le_of_ble_eq_true rfl | (simp_all; done) | (simp_all; omega) | ((repeat' refine And.intro ?_ ?_) <;> first | omega | rfl | exact Nat.le_refl _ | exact Nat.le_of_ble_eq_true rfl | exact bytesF_one _ | (simp_all; done) | (simp_all; omega)))) ?_
      | refine e_hit rfl ?_ | refine e_miss rfl ?_
      | refine ⟨by kernel_rfl, ?_⟩ | ((with_reducible refine c_grd ?_); (fail_if_success (refine c_lit true rfl rfl rfl ?_)); (fail_if_success (refine c_lit false rfl rfl rfl ?_)); refine c_split rfl rfl (fun _ => ?_) (fun _ => ?_)))
    all_goals exact ⟨i + 1, by omega, by omega, ⟨rfl, congrArg (D.i .i64) (by omega), congrArg (D.i .i64) (by omega), trivial⟩, ⟨rfl, trivial⟩, rfl, fun q hq => by rw [hX] at hq; simp at hq⟩
  · have : i = l.length := by omega
    subst this
    repeat' (first
      | with_reducible refine t_seq ?_ | with_reducible refine t_region ?_ | with_reducible refine c_nil ?_ | with_reducible refine n_then ?_
      | with_reducible refine t_ret ?_ | with_reducible refine t_skip ?_ | with_reducible refine t_exit ?_ | with_reducible refine t_block ?_
      | with_reducible refine n_block ?_ | with_reducible refine e_then ?_ | with_reducible refine x_then ?_ | with_reducible refine x_block ?_ | with_reducible refine t_draw ?_
      | refine r_val rfl rfl True.intro ?_ | refine r_gskip rfl rfl rfl ?_ | refine r_gskip2 rfl rfl rfl ?_ | refine r_gval rfl rfl rfl rfl True.intro ?_
      | refine t_true rfl ?_ | refine t_false rfl ?_
      | ((first | refine t_cond_d rfl (fun _ => ?_) (fun _ => ?_) | refine t_cond_i rfl (fun _ => ?_) (fun _ => ?_) | refine t_cond_j rfl (fun _ => ?_) (fun _ => ?_) | refine t_cond_s rfl (fun _ => ?_) (fun _ => ?_) | refine t_cond_n rfl (fun _ => ?_) (fun _ => ?_) | refine t_cond rfl (fun _ => ?_) (fun _ => ?_) | refine c_split_d rfl rfl (fun _ => ?_) (fun _ => ?_) | refine c_split_i rfl rfl (fun _ => ?_) (fun _ => ?_) | refine c_split_j rfl rfl (fun _ => ?_) (fun _ => ?_) | refine c_split_s rfl rfl (fun _ => ?_) (fun _ => ?_) | refine c_split_n rfl rfl (fun _ => ?_) (fun _ => ?_)) <;> try (first | contradiction | (exfalso; omega)))
      | refine r_val rfl rfl (by (first | omega | exact Nat.le_of_ble_eq_true rfl | (simp_all; done) | (simp_all; omega) | ((repeat' refine And.intro ?_ ?_) <;> first | omega | rfl | exact Nat.le_refl _ | exact Nat.le_of_ble_eq_true rfl | exact bytesF_one _ | (simp_all; done) | (simp_all; omega)))) ?_ | refine r_gval rfl rfl rfl rfl (by (first | omega | exact Nat.le_of_ble_eq_true rfl | (simp_all; done) | (simp_all; omega) | ((repeat' refine And.intro ?_ ?_) <;> first | omega | rfl | exact Nat.le_refl _ | exact Nat.le_of_ble_eq_true rfl | exact bytesF_one _ | (simp_all; done) | (simp_all; omega)))) ?_
      | refine r_obj rfl rfl (by (first | omega | exact Nat.le_of_ble_eq_true rfl | (simp_all; done) | (simp_all; omega) | ((repeat' refine And.intro ?_ ?_) <;> first | omega | rfl | exact Nat.le_refl _ | exact Nat.le_of_ble_eq_true rfl | exact bytesF_one _ | (simp_all; done) | (simp_all; omega)))) ?_ | refine r_sto rfl (by (first | omega | exact Nat.le_of_ble_eq_true rfl | (simp_all; done) | (simp_all; omega) | ((repeat' refine And.intro ?_ ?_) <;> first | omega | rfl | exact Nat.le_refl _ | exact Nat.le_of_ble_eq_true rfl | exact bytesF_one _ | (simp_all; done) | (simp_all; omega)))) ?_ | refine r_gobj rfl rfl rfl rfl (by (first | omega | exact Nat.le_of_ble_eq_true rfl | (simp_all; done) | (simp_all; omega) | ((repeat' refine And.intro ?_ ?_) <;> first | omega | rfl | exact Nat.le_refl _ | exact Nat.le_of_ble_eq_true rfl | exact bytesF_one _ | (simp_all; done) | (simp_all; omega)))) ?_
      | refine e_hit rfl ?_ | refine e_miss rfl ?_
      | refine ⟨by kernel_rfl, ?_⟩ | refine x_end rfl ?_ | refine n_end rfl ?_ | ((with_reducible refine c_grd ?_); (fail_if_success (refine c_lit true rfl rfl rfl ?_)); (fail_if_success (refine c_lit false rfl rfl rfl ?_)); refine c_split rfl rfl (fun _ => ?_) (fun _ => ?_)))
    all_goals rw [List.take_length]

end Go.Proofs.Ytghhohckonbkkaa.Flow
