/- The texts L2, L3, L4, L5, one behind the other. -/
import Derived.Test.YtghhohckonbkkaaP4
/- LRU: cut, use and drop, whatever the ring. -/
namespace Go.Proofs.Ytghhohckonbkkaa.Flow
open Go

def cutG (g : Rg) (i : Nat) : Rg := { g with ls := upd g.ls (g.nw i) (g.ls i), nw := upd g.nw (g.ls i) (g.nw i) }
def useG (g : Rg) (i : Nat) : Rg := { g with nw := upd (upd g.nw i 1) (g.ls 1) i, ls := upd (upd g.ls i (g.ls 1)) 1 i }

theorem wf_cut {g : Rg} {i : Nat} (h : Wf0 g) (hi : 0 < i ∧ i ≤ g.n) : Wf0 (cutG g i) := by
  refine ⟨h.pos, fun j h0 h1 => ?_, h.mp⟩
  obtain ⟨a1, a2, a3⟩ := h.nd j h0 h1
  obtain ⟨b1, b2, b3⟩ := h.nd i hi.1 hi.2
  refine ⟨?_, ?_, a3⟩
  · show upd g.nw (g.ls i) (g.nw i) j ≤ g.n
    unfold upd
    split <;> assumption
  · show upd g.ls (g.nw i) (g.ls i) j ≤ g.n
    unfold upd
    split <;> assumption

theorem wf_use {g : Rg} {i : Nat} (h : Wf0 g) (hi : 0 < i ∧ i ≤ g.n) : Wf0 (useG g i) := by
  refine ⟨h.pos, fun j h0 h1 => ?_, h.mp⟩
  obtain ⟨a1, a2, a3⟩ := h.nd j h0 h1
  obtain ⟨b1, b2, b3⟩ := h.nd 1 (by omega) h.pos
  have hp : 1 ≤ g.n := h.pos
  refine ⟨?_, ?_, a3⟩
  · show upd (upd g.nw i 1) (g.ls 1) i j ≤ g.n
    unfold upd
    split
    · exact hi.2
    · split <;> assumption
  · show upd (upd g.ls i (g.ls 1)) 1 i j ≤ g.n
    unfold upd
    split
    · exact hi.2
    · split <;> assumption

set_option maxRecDepth 100000 in
theorem cut_ctr (g : Rg) (i : Nat) (hw : Wf0 g) (hi : 0 < i ∧ i ≤ g.n) (h1 : 0 < g.nw i) (h2 : 0 < g.ls i) : CtrO Try.prog 25 [.pv 9000 0, .pv (lab i) 0] (objs g) (.tu []) (objs (cutG g i)) := by
  have w1 : 0 < g.nw i ∧ g.nw i ≤ g.n := ⟨h1, (hw.nd i hi.1 hi.2).1⟩
  have w2 : 0 < g.ls i ∧ g.ls i ≤ g.n := ⟨h2, (hw.nd i hi.1 hi.2).2.1⟩
  refine r_methM Try.func25 rfl Try.ntmps25 Try.results25 rfl (objs_ids g) (objs_ids (cutG g i)) rfl (objs_okIn (wf_cut hw hi)) fun X hL hX => ?_
  repeat' (first
    | ((refine r_ldW (g := g) rfl rfl rfl ?_ rfl ?_ ?_); (exact look_node hi); (exact h1)) | ((refine r_ldL (g := g) rfl rfl rfl ?_ rfl ?_ ?_); (exact look_node hi); (exact h2)) | refine r_stL rfl rfl rfl w1 h2 ?_ | refine r_stW rfl rfl rfl w2 h1 ?_ | refine ⟨flowOk_col (by kernel_rfl), ?_⟩
    | with_reducible refine t_seq ?_ | with_reducible refine t_region ?_ | with_reducible refine c_nil ?_ | with_reducible refine n_then ?_
    | with_reducible refine t_ret ?_ | with_reducible refine t_skip ?_ | with_reducible refine t_exit ?_ | with_reducible refine t_block ?_
    | with_reducible refine n_block ?_ | with_reducible refine e_then ?_ | with_reducible refine x_then ?_ | with_reducible refine x_block ?_ | with_reducible refine t_draw ?_
    | refine r_val rfl rfl True.intro ?_ | refine r_gskip rfl rfl rfl ?_ | refine r_gskip2 rfl rfl rfl ?_ | refine r_gval rfl rfl rfl rfl True.intro ?_
    | refine t_true rfl ?_ | refine t_false rfl ?_
    | ((first | refine t_cond_d rfl (fun _ => ?_) (fun _ => ?_) | refine t_cond_i rfl (fun _ => ?_) (fun _ => ?_) | refine t_cond_j rfl (fun _ => ?_) (fun _ => ?_) | refine t_cond_s rfl (fun _ => ?_) (fun _ => ?_) | refine t_cond_n rfl (fun _ => ?_) (fun _ => ?_) | refine t_cond rfl (fun _ => ?_) (fun _ => ?_) | refine c_split_d rfl rfl (fun _ => ?_) (fun _ => ?_) | refine c_split_i rfl rfl (fun _ => ?_) (fun _ => ?_) | refine c_split_j rfl rfl (fun _ => ?_) (fun _ => ?_) | refine c_split_s rfl rfl (fun _ => ?_) (fun _ => ?_) | refine c_split_n rfl rfl (fun _ => ?_) (fun _ => ?_)) <;> try (first | contradiction | (exfalso; omega)))
    | refine r_val rfl rfl (by (first | omega | exact Nat.le_of_ble_eq_true rfl | (simp_all; done) | (simp_all; omega) | ((repeat' refine And.intro ?_ ?_) <;> first | omega | rfl | exact Nat.le_refl _ | exact Nat.le_of_ble_eq_true rfl | exact bytesF_one _ | (simp_all; done) | (simp_all; omega)))) ?_ | refine r_gval rfl rfl rfl rfl (by (first | omega | exact Nat.le_of_ble_eq_true rfl | (simp_all; done) | (simp_all; omega) | ((repeat' refine And.intro ?_ ?_) <;> first | omega | rfl | exact Nat.le_refl _ | exact Nat.le_of_ble_eq_true rfl | exact bytesF_one _ | (simp_all; done) | (simp_all; omega)))) ?_
    | refine r_obj rfl rfl (by (first | omega | exact Nat.le_of_ble_eq_true rfl | (simp_all; done) | (simp_all; omega) | ((repeat' refine And.intro ?_ ?_) <;> first | omega | rfl | exact Nat.le_refl _ | exact Nat.le_of_ble_eq_true rfl | exact bytesF_one _ | (simp_all; done) | (simp_all; omega)))) ?_ | refine r_sto rfl (by (first | omega | exact Nat.le_of_ble_eq_true rfl | (simp_all; done) | (simp_all; omega) | ((repeat' refine And.intro ?_ ?_) <;> first | omega | rfl | exact Nat.le_refl _ | exact Nat.le_of_ble_eq_true rfl | exact bytesF_one _ | (simp_all; done) | (simp_all; omega)))) ?_ | refine r_gobj rfl rfl rfl rfl (by (first | omega | exact Nat.le_of_ble_eq_true rfl | (simp_all; done) | (simp_all; omega) | ((repeat' refine And.intro ?_ ?_) <;> first | omega | rfl | exact Nat.le_refl _ | exact Nat.le_of_ble_eq_true rfl | exact bytesF_one _ | (simp_all; done) | (simp_all; omega)))) ?_
    | refine e_hit rfl ?_ | refine e_miss rfl ?_
    | refine ⟨by kernel_rfl, ?_⟩ | refine n_endM rfl rfl ⟨leOw_self _⟩ | refine x_endM rfl rfl ⟨leOw_self _⟩ | ((with_reducible refine c_grd ?_); (fail_if_success (refine c_lit true rfl rfl rfl ?_)); (fail_if_success (refine c_lit false rfl rfl rfl ?_)); refine c_split rfl rfl (fun _ => ?_) (fun _ => ?_)))

set_option maxRecDepth 100000 in
theorem use_ctr (g : Rg) (i : Nat) (hw : Wf0 g) (hi : 0 < i ∧ i ≤ g.n) (h1 : 0 < g.ls 1) : CtrO Try.prog 23 [.pv 9000 0, .pv (lab i) 0] (objs g) (.tu []) (objs (useG g i)) := by
  have w0 : 0 < 1 ∧ 1 ≤ g.n := ⟨by omega, hw.pos⟩
  have w1 : 0 < g.ls 1 ∧ g.ls 1 ≤ g.n := ⟨h1, (hw.nd 1 (by omega) hw.pos).2.1⟩
  refine r_methM Try.func23 rfl Try.ntmps23 Try.results23 rfl (objs_ids g) (objs_ids (useG g i)) rfl (objs_okIn (wf_use hw hi)) fun X hL hX => ?_
  repeat' (first
    | refine r_ldC3 (g := g) rfl rfl rfl (look_cache g) ?_ | ((refine r_ldL (g := g) (i := 1) rfl rfl rfl ?_ rfl ?_ ?_); (exact look_node w0); (exact h1)) | refine r_ldW (i := i) (j := 1) rfl rfl rfl (look_node hi) (upd_same _ _ _) w0.1 ?_ | refine r_ldL (i := i) (j := g.ls 1) rfl rfl rfl (look_node hi) (upd_same _ _ _) h1 ?_ | refine r_stL (i := i) rfl rfl rfl hi h1 ?_ | refine r_stW (i := i) rfl rfl rfl hi w0.1 ?_ | refine r_stL (i := 1) rfl rfl rfl w0 hi.1 ?_ | refine r_stW (i := g.ls 1) rfl rfl rfl w1 hi.1 ?_ | refine ⟨flowOk_col (by kernel_rfl), ?_⟩
    | with_reducible refine t_seq ?_ | with_reducible refine t_region ?_ | with_reducible refine c_nil ?_ | with_reducible refine n_then ?_
    | with_reducible refine t_ret ?_ | with_reducible refine t_skip ?_ | with_reducible refine t_exit ?_ | with_reducible refine t_block ?_
    | with_reducible refine n_block ?_ | with_reducible refine e_then ?_ | with_reducible refine x_then ?_ | with_reducible refine x_block ?_ | with_reducible refine t_draw ?_
    | refine r_val rfl rfl True.intro ?_ | refine r_gskip rfl rfl rfl ?_ | refine r_gskip2 rfl rfl rfl ?_ | refine r_gval rfl rfl rfl rfl True.intro ?_
    | refine t_true rfl ?_ | refine t_false rfl ?_
    | ((first | refine t_cond_d rfl (fun _ => ?_) (fun _ => ?_) | refine t_cond_i rfl (fun _ => ?_) (fun _ => ?_) | refine t_cond_j rfl (fun _ => ?_) (fun _ => ?_) | refine t_cond_s rfl (fun _ => ?_) (fun _ => ?_) | refine t_cond_n rfl (fun _ => ?_) (fun _ => ?_) | refine t_cond rfl (fun _ => ?_) (fun _ => ?_) | refine c_split_d rfl rfl (fun _ => ?_) (fun _ => ?_) | refine c_split_i rfl rfl (fun _ => ?_) (fun _ => ?_) | refine c_split_j rfl rfl (fun _ => ?_) (fun _ => ?_) | refine c_split_s rfl rfl (fun _ => ?_) (fun _ => ?_) | refine c_split_n rfl rfl (fun _ => ?_) (fun _ => ?_)) <;> try (first | contradiction | (exfalso; omega)))
    | refine r_val rfl rfl (by (first | omega | exact Nat.le_of_ble_eq_true rfl | (simp_all; done) | (simp_all; omega) | ((repeat' refine And.intro ?_ ?_) <;> first | omega | rfl | exact Nat.le_refl _ | exact Nat.le_of_ble_eq_true rfl | exact bytesF_one _ | (simp_all; done) | (simp_all; omega)))) ?_ | refine r_gval rfl rfl rfl rfl (by (first | omega | exact Nat.le_of_ble_eq_true rfl | (simp_all; done) | (simp_all; omega) | ((repeat' refine And.intro ?_ ?_) <;> first | omega | rfl | exact Nat.le_refl _ | exact Nat.le_of_ble_eq_true rfl | exact bytesF_one _ | (simp_all; done) | (simp_all; omega)))) ?_
    | refine r_obj rfl rfl (by (first | omega | exact Nat.le_of_ble_eq_true rfl | (simp_all; done) | (simp_all; omega) | ((repeat' refine And.intro ?_ ?_) <;> first | omega | rfl | exact Nat.le_refl _ | exact Nat.le_of_ble_eq_true rfl | exact bytesF_one _ | (simp_all; done) | (simp_all; omega)))) ?_ | refine r_sto rfl (by (first | omega | exact Nat.le_of_ble_eq_true rfl | (simp_all; done) | (simp_all; omega) | ((repeat' refine And.intro ?_ ?_) <;> first | omega | rfl | exact Nat.le_refl _ | exact Nat.le_of_ble_eq_true rfl | exact bytesF_one _ | (simp_all; done) | (simp_all; omega)))) ?_ | refine r_gobj rfl rfl rfl rfl (by (first | omega | exact Nat.le_of_ble_eq_true rfl | (simp_all; done) | (simp_all; omega) | ((repeat' refine And.intro ?_ ?_) <;> first | omega | rfl | exact Nat.le_refl _ | exact Nat.le_of_ble_eq_true rfl | exact bytesF_one _ | (simp_all; done) | (simp_all; omega)))) ?_
    | refine e_hit rfl ?_ | refine e_miss rfl ?_
    | refine ⟨by kernel_rfl, ?_⟩ | refine n_endM rfl rfl ⟨leOw_self _⟩ | refine x_endM rfl rfl ⟨leOw_self _⟩ | ((with_reducible refine c_grd ?_); (fail_if_success (refine c_lit true rfl rfl rfl ?_)); (fail_if_success (refine c_lit false rfl rfl rfl ?_)); refine c_split rfl rfl (fun _ => ?_) (fun _ => ?_)))

set_option maxRecDepth 100000 in
theorem esize_ctr (g : Rg) (i L : Nat) (f : Nat → List D) (hw : Wf0 g) (hi : 0 < i ∧ i ≤ g.n) (hv : g.val i = .sl 1 L f) (hb : (g.key i).length + L ≤ 1000000) : CtrO Try.prog 24 [.pv (lab i) 0] (objs g) (.i .i64 ((g.key i).length + L)) (objs g) := by
  refine r_methM Try.func24 rfl Try.ntmps24 Try.results24 rfl (objs_ids g) (objs_ids g) rfl (objs_okIn hw) fun X hL hX => ?_
  repeat' (first
    | ((refine r_ldK (g := g) rfl rfl rfl ?_ ?_); (exact look_node hi)) | ((refine r_ldV (g := g) rfl rfl rfl ?_ hv ?_); (exact look_node hi)) | refine ⟨flowOk_col (by kernel_rfl), ?_⟩
    | with_reducible refine t_seq ?_ | with_reducible refine t_region ?_ | with_reducible refine c_nil ?_ | with_reducible refine n_then ?_
    | with_reducible refine t_ret ?_ | with_reducible refine t_skip ?_ | with_reducible refine t_exit ?_ | with_reducible refine t_block ?_
    | with_reducible refine n_block ?_ | with_reducible refine e_then ?_ | with_reducible refine x_then ?_ | with_reducible refine x_block ?_ | with_reducible refine t_draw ?_
    | refine r_val rfl rfl True.intro ?_ | refine r_gskip rfl rfl rfl ?_ | refine r_gskip2 rfl rfl rfl ?_ | refine r_gval rfl rfl rfl rfl True.intro ?_
    | refine t_true rfl ?_ | refine t_false rfl ?_
    | ((first | refine t_cond_d rfl (fun _ => ?_) (fun _ => ?_) | refine t_cond_i rfl (fun _ => ?_) (fun _ => ?_) | refine t_cond_j rfl (fun _ => ?_) (fun _ => ?_) | refine t_cond_s rfl (fun _ => ?_) (fun _ => ?_) | refine t_cond_n rfl (fun _ => ?_) (fun _ => ?_) | refine t_cond rfl (fun _ => ?_) (fun _ => ?_) | refine c_split_d rfl rfl (fun _ => ?_) (fun _ => ?_) | refine c_split_i rfl rfl (fun _ => ?_) (fun _ => ?_) | refine c_split_j rfl rfl (fun _ => ?_) (fun _ => ?_) | refine c_split_s rfl rfl (fun _ => ?_) (fun _ => ?_) | refine c_split_n rfl rfl (fun _ => ?_) (fun _ => ?_)) <;> try (first | contradiction | (exfalso; omega)))
    | refine r_val rfl rfl (by (first | omega | exact Nat.le_of_ble_eq_true rfl | (simp_all; done) | (simp_all; omega) | ((repeat' refine And.intro ?_ ?_) <;> first | omega | rfl | exact Nat.le_refl _ | exact Nat.le_of_ble_eq_true rfl | exact bytesF_one _ | (simp_all; done) | (simp_all; omega)))) ?_ | refine r_gval rfl rfl rfl rfl (by (first | omega | exact Nat.le_of_ble_eq_true rfl | (simp_all; done) | (simp_all; omega) | ((repeat' refine And.intro ?_ ?_) <;> first | omega | rfl | exact Nat.le_refl _ | exact Nat.le_of_ble_eq_true rfl | exact bytesF_one _ | (simp_all; done) | (simp_all; omega)))) ?_
    | refine r_obj rfl rfl (by (first | omega | exact Nat.le_of_ble_eq_true rfl | (simp_all; done) | (simp_all; omega) | ((repeat' refine And.intro ?_ ?_) <;> first | omega | rfl | exact Nat.le_refl _ | exact Nat.le_of_ble_eq_true rfl | exact bytesF_one _ | (simp_all; done) | (simp_all; omega)))) ?_ | refine r_sto rfl (by (first | omega | exact Nat.le_of_ble_eq_true rfl | (simp_all; done) | (simp_all; omega) | ((repeat' refine And.intro ?_ ?_) <;> first | omega | rfl | exact Nat.le_refl _ | exact Nat.le_of_ble_eq_true rfl | exact bytesF_one _ | (simp_all; done) | (simp_all; omega)))) ?_ | refine r_gobj rfl rfl rfl rfl (by (first | omega | exact Nat.le_of_ble_eq_true rfl | (simp_all; done) | (simp_all; omega) | ((repeat' refine And.intro ?_ ?_) <;> first | omega | rfl | exact Nat.le_refl _ | exact Nat.le_of_ble_eq_true rfl | exact bytesF_one _ | (simp_all; done) | (simp_all; omega)))) ?_
    | refine e_hit rfl ?_ | refine e_miss rfl ?_
    | refine ⟨by kernel_rfl, ?_⟩ | refine n_endM rfl rfl ⟨leOw_self _⟩ | refine x_endM rfl rfl ⟨leOw_self _⟩ | ((with_reducible refine c_grd ?_); (fail_if_success (refine c_lit true rfl rfl rfl ?_)); (fail_if_success (refine c_lit false rfl rfl rfl ?_)); refine c_split rfl rfl (fun _ => ?_) (fun _ => ?_)))

section
variable {X : Ctx} {n : Nat} {all rest : List Oper} {fr : Fr} {ow : Ow} {tr : List (List Nat × List Nat)} {K : Fr → Ow → List (List Nat × List Nat) → Prop}
variable {t gd u : Nat} {op : Op} {ty : TypeId} {ps : String} {af : Array Edge} {d : D} {f : FuncId} {args : List D} {g g' : Rg} {want : Bool}

theorem fO_lend {own : Ow} (ho : lits own = true) (hle : g.n ≤ g'.n) : fO (own ++ objs g') = updO (fO (own ++ objs g)) (objs g') := by
  funext k
  rw [updO_look (by rw [objs_ids]; exact ids_nodup _)]
  show look k (own ++ objs g') = match look k (objs g') with
    | some o => some o
    | none => look k (own ++ objs g)
  by_cases hk : k ∈ idsG g'.n
  · rw [look_own (lits_not ho hk)]
    cases h : look k (objs g') with
    | some o => rfl
    | none =>
      obtain ⟨o, ho'⟩ := look_some (ow := objs g') (k := k) (by rw [objs_ids]; exact hk)
      rw [h] at ho'
      cases ho'
  · have hk2 : k ∉ idsG g.n := fun h => hk (by
      unfold idsG at h ⊢
      rcases List.mem_cons.1 h with h | h
      · exact List.mem_cons.2 (.inl h)
      rcases List.mem_cons.1 h with h | h
      · exact List.mem_cons_of_mem _ (List.mem_cons.2 (.inl h))
      obtain ⟨i, hi, rfl⟩ := List.mem_map.1 h
      exact List.mem_cons_of_mem _ (List.mem_cons_of_mem _ (List.mem_map.2 ⟨i, by simp at hi ⊢; omega, rfl⟩)))
    rw [look_app, look_app, look_objs_none hk, look_objs_none hk2]

theorem ids_sub {a b : Nat} (h : a ≤ b) : ∀ k ∈ idsG a, k ∈ idsG b := fun k hk => by
  unfold idsG at hk ⊢
  rcases List.mem_cons.1 hk with h | h
  · exact List.mem_cons.2 (.inl h)
  rcases List.mem_cons.1 h with h | h
  · exact List.mem_cons_of_mem _ (List.mem_cons.2 (.inl h))
  obtain ⟨i, hi, rfl⟩ := List.mem_map.1 h
  exact List.mem_cons_of_mem _ (List.mem_cons_of_mem _ (List.mem_map.2 ⟨i, by simp at hi ⊢; omega, rfl⟩))

/-- The cache lent. -/
theorem r_lendG (own : Ow) (ho : lits own = true) (hle : g.n ≤ g'.n) (hw : Wf0 g) (hw' : Wf0 g') (hc : callOf fr op = some (f, args)) (hn : Nat.blt t n = true) (hP : ∀ vs w, (callFunc f vs).run Try.prog w = .ok (.enter f vs) w)
    (hok : (args.map (lendA (idsG g.n))).all (D.okIn (idsG g.n)) = true) (hd : d.okIn (idsG g'.n) = true) (hC : CtrO Try.prog f (args.map (lendA (idsG g.n))) (objs g) d (objs g'))
    (h : CT Try.prog X n all rest ((t, d) :: fr) (own ++ objs g') (tr ++ [(idsG g'.n, (objs g').map (·.1))]) K) : CT Try.prog X n all (⟨some t, op, ty, ps, af, none⟩ :: rest) fr (own ++ objs g) tr K :=
  CT.cons (e := ⟨d, idsG g'.n, objs g'⟩) (.plain rfl (lendN_step (o := ⟨some t, op, ty, ps, af, none⟩) (ow := own ++ objs g) hP hc (hasAll_objs ho g) (objs_ids g) (objs_ids g') (ids_nodup _) (ids_sub hle)
    (fun k hk hk2 => by rw [look_own (lits_not ho hk)]; exact look_objs_none hk2) hok (objs_okIn hw) (objs_okIn hw') hd hC (show t < n by simpa using hn))) (fF_cons ..) (fO_lend ho hle) h

theorem r_glendG (own : Ow) (ho : lits own = true) (hle : g.n ≤ g'.n) (hw : Wf0 g) (hw' : Wf0 g') (hu : dstAt all gd = some u) (hg : getD' u fr = .b want) (hc : callOf fr op = some (f, args)) (hn : Nat.blt t n = true) (hP : ∀ vs w, (callFunc f vs).run Try.prog w = .ok (.enter f vs) w)
    (hok : (args.map (lendA (idsG g.n))).all (D.okIn (idsG g.n)) = true) (hd : d.okIn (idsG g'.n) = true) (hC : CtrO Try.prog f (args.map (lendA (idsG g.n))) (objs g) d (objs g'))
    (h : CT Try.prog X n all rest ((t, d) :: fr) (own ++ objs g') (tr ++ [(idsG g'.n, (objs g').map (·.1))]) K) : CT Try.prog X n all (⟨some t, op, ty, ps, af, some (gd, want)⟩ :: rest) fr (own ++ objs g) tr K :=
  CT.cons (e := ⟨d, idsG g'.n, objs g'⟩) (.guarded rfl hu hg (lendN_step (o := ⟨some t, op, ty, ps, af, some (gd, want)⟩) (ow := own ++ objs g) hP hc (hasAll_objs ho g) (objs_ids g) (objs_ids g') (ids_nodup _) (ids_sub hle)
    (fun k hk hk2 => by rw [look_own (lits_not ho hk)]; exact look_objs_none hk2) hok (objs_okIn hw) (objs_okIn hw') hd hC (show t < n by simpa using hn))) (fF_cons ..) (fO_lend ho hle) h

/-- .. to a callee that leaves it as it is. -/
theorem r_lendGR (own : Ow) (ho : lits own = true) (hw : Wf0 g) (hc : callOf fr op = some (f, args)) (hn : Nat.blt t n = true) (hP : ∀ vs w, (callFunc f vs).run Try.prog w = .ok (.enter f vs) w)
    (hok : (args.map (lendA (idsG g.n))).all (D.okIn (idsG g.n)) = true) (hd : d.okIn (idsG g.n) = true) (hC : CtrO Try.prog f (args.map (lendA (idsG g.n))) (objs g) d (objs g))
    (h : CT Try.prog X n all rest ((t, d) :: fr) (own ++ objs g) (tr ++ [(idsG g.n, [])]) K) : CT Try.prog X n all (⟨some t, op, ty, ps, af, none⟩ :: rest) fr (own ++ objs g) tr K :=
  r_lendR (objs g) (idsG g.n) (objs_ids g) (ids_nodup _) hc hn hP (hasAll_objs ho g) hok (objs_okIn hw) hd hC h

theorem r_glendGR (own : Ow) (ho : lits own = true) (hw : Wf0 g) (hu : dstAt all gd = some u) (hg : getD' u fr = .b want) (hc : callOf fr op = some (f, args)) (hn : Nat.blt t n = true) (hP : ∀ vs w, (callFunc f vs).run Try.prog w = .ok (.enter f vs) w)
    (hok : (args.map (lendA (idsG g.n))).all (D.okIn (idsG g.n)) = true) (hd : d.okIn (idsG g.n) = true) (hC : CtrO Try.prog f (args.map (lendA (idsG g.n))) (objs g) d (objs g))
    (h : CT Try.prog X n all rest ((t, d) :: fr) (own ++ objs g) (tr ++ [(idsG g.n, [])]) K) : CT Try.prog X n all (⟨some t, op, ty, ps, af, some (gd, want)⟩ :: rest) fr (own ++ objs g) tr K :=
  r_glendR (objs g) (idsG g.n) (objs_ids g) (ids_nodup _) hu hg hc hn hP (hasAll_objs ho g) hok (objs_okIn hw) hd hC h
end

/-! ### The map's entries -/
def nget (k : List UInt8) : List (List UInt8 × Nat) → Option Nat
  | [] => none
  | p :: r => if p.1 = k then some p.2 else nget k r
def nput (k : List UInt8) (i : Nat) : List (List UInt8 × Nat) → List (List UInt8 × Nat)
  | [] => [(k, i)]
  | p :: r => if p.1 = k then (k, i) :: r else p :: nput k i r
def ndel (k : List UInt8) : List (List UInt8 × Nat) → List (List UInt8 × Nat)
  | [] => []
  | p :: r => if p.1 = k then r else p :: ndel k r

theorem mget_mapE (k : List UInt8) : ∀ es, mget k (mapE es) = (nget k es).map fun i => D.pv (lab i) 0
  | [] => rfl
  | p :: r => by
    have ih := mget_mapE k r
    simp only [mapE] at ih
    simp only [mapE, List.map_cons, mget, nget]
    split
    · rfl
    · exact ih
theorem mput_mapE (k : List UInt8) (i : Nat) : ∀ es, mput k (.pv (lab i) 0) (mapE es) = mapE (nput k i es)
  | [] => rfl
  | p :: r => by
    have ih := mput_mapE k i r
    simp only [mapE] at ih
    simp only [mapE, List.map_cons, mput, nput]
    split
    · rfl
    · rw [ih]; rfl
theorem mdel_mapE (k : List UInt8) : ∀ es, mdel k (mapE es) = mapE (ndel k es)
  | [] => rfl
  | p :: r => by
    have ih := mdel_mapE k r
    simp only [mapE] at ih
    simp only [mapE, List.map_cons, mdel, ndel]
    split
    · rfl
    · rw [ih]; rfl

theorem ndel_sub (k : List UInt8) : ∀ (es : List (List UInt8 × Nat)) (p : List UInt8 × Nat), p ∈ ndel k es → p ∈ es
  | [], _, h => h
  | q :: r, p, h => by
    unfold ndel at h
    split at h
    · exact List.mem_cons_of_mem _ h
    · rcases List.mem_cons.1 h with rfl | h
      · exact List.mem_cons.2 (.inl rfl)
      · exact List.mem_cons_of_mem _ (ndel_sub k r p h)

section
variable {X : Ctx} {n : Nat} {all rest : List Oper} {fr : Fr} {tr : List (List Nat × List Nat)} {K : Fr → Ow → List (List Nat × List Nat) → Prop}
variable {ty ty' t2 kt et : TypeId} {ps : String} {af : Array Edge} {x y z : Operand} {g : Rg} {k : List UInt8} {i : Nat}

theorem r_ndel (hm : Try.prog.underlying ty = some (.map kt et)) (hkt : Try.prog.underlying kt = some .string) (hx : ev fr x = .mh 9001) (hy : ev fr y = .s k)
    (h : CT Try.prog X n all rest fr (objs { g with es := ndel k g.es }) (tr ++ [([9001], [9001])]) K) : CT Try.prog X n all (⟨none, .call ⟨.builtin .delete, #[x, y], #[ty, t2]⟩, ty', ps, af, none⟩ :: rest) fr (objs g) tr K := by
  refine r_mdelN hm hkt hx hy (look_map g) ?_
  obtain ⟨es, fr2, ow2, hc, hK⟩ := h
  refine ⟨es, fr2, ow2, ?_, hK⟩
  rw [fO_mapE (g := g) (g' := { g with es := ndel k g.es }) (mdel_mapE k g.es).symm rfl rfl (fun _ => rfl)]
  exact hc
theorem r_nput (hm : Try.prog.underlying ty = some (.map kt et)) (hkt : Try.prog.underlying kt = some .string) (hx : ev fr x = .mh 9001) (hy : ev fr y = .s k) (hz : ev fr z = .pv (lab i) 0)
    (h : CT Try.prog X n all rest fr (objs { g with es := nput k i g.es }) (tr ++ [([9001], [9001])]) K) : CT Try.prog X n all (⟨none, .mapUpdate ty x y z, ty', ps, af, none⟩ :: rest) fr (objs g) tr K := by
  refine r_mput hm hkt hx hy hz rfl (look_map g) ?_
  obtain ⟨es, fr2, ow2, hc, hK⟩ := h
  refine ⟨es, fr2, ow2, ?_, hK⟩
  rw [fO_mapE (g := g) (g' := { g with es := nput k i g.es }) (mput_mapE k i g.es).symm rfl rfl (fun _ => rfl)]
  exact hc
theorem r_nclr (hm : Try.prog.underlying ty = some (.map kt et)) (hx : ev fr x = .mh 9001)
    (h : CT Try.prog X n all rest fr (objs { g with es := [] }) (tr ++ [([9001], [9001])]) K) : CT Try.prog X n all (⟨none, .call ⟨.builtin .clear, #[x], #[ty]⟩, ty', ps, af, none⟩ :: rest) fr (objs g) tr K := by
  refine CT.cons (e := ⟨.tu [], [9001], [(9001, .mp [])]⟩) (fr1 := fr) (ow1 := objs { g with es := [] }) (.plain rfl (mclr_step (o := ⟨none, .call ⟨.builtin .clear, #[x], #[ty]⟩, ty', ps, af, none⟩) hm rfl hx (look_map g) trivial)) rfl ?_ h
  rw [← fO_cons]
  exact (fO_mapE (g := g) (g' := { g with es := [] }) rfl rfl rfl (fun _ => rfl)).symm
end

def dropG (g : Rg) (i L : Nat) : Rg := { cutG g i with es := ndel (g.key i) g.es, sz := g.sz - ((g.key i).length + L) }

theorem wf_drop {g : Rg} {i : Nat} (L : Nat) (h : Wf0 g) (hi : 0 < i ∧ i ≤ g.n) : Wf0 (dropG g i L) :=
  ⟨h.pos, (wf_cut h hi).nd, fun p hp => h.mp p (ndel_sub _ _ _ hp)⟩

theorem und_map : Try.prog.underlying 55 = some (.map 9 52) := by kernel_rfl

set_option maxRecDepth 100000 in
theorem drop_ctr (g : Rg) (i L : Nat) (f : Nat → List D) (hw : Wf0 g) (hi : 0 < i ∧ i ≤ g.n) (h1 : 0 < g.nw i) (h2 : 0 < g.ls i) (hv : g.val i = .sl 1 L f) (hb : (g.key i).length + L ≤ 1000000) (hs : -1000000000 ≤ g.sz ∧ g.sz ≤ 1000000000) :
    CtrO Try.prog 21 [.pv 9000 0, .pv (lab i) 0] (objs g) (.tu []) (objs (dropG g i L)) := by
  have hok : ([D.pv 9000 0, D.pv (lab i) 0].map (lendA (idsG g.n))).all (D.okIn (idsG g.n)) = true := by simp [lendA, D.okIn, memB_lab hi, memB_c]
  have hok1 : ([D.pv (lab i) 0].map (lendA (idsG g.n))).all (D.okIn (idsG g.n)) = true := by simp [lendA, D.okIn, memB_lab hi]
  have e1 : (cutG g i).sz = g.sz := rfl
  have e2 : ((cutG g i).key i).length = (g.key i).length := rfl
  have hw2 : Wf0 { cutG g i with es := ndel (g.key i) g.es } := ⟨hw.pos, (wf_cut hw hi).nd, fun p hp => hw.mp p (ndel_sub _ _ _ hp)⟩
  refine r_methM Try.func21 rfl Try.ntmps21 Try.results21 rfl (objs_ids g) (objs_ids (dropG g i L)) rfl (objs_okIn (wf_drop L hw hi)) fun X hL hX => ?_
  repeat' (first
    | refine r_lendG (f := 25) (g := g) (g' := cutG g i) [] rfl (Nat.le_refl _) hw (wf_cut hw hi) rfl rfl Try.call25 hok rfl (cut_ctr g i hw hi h1 h2) ?_ | refine r_ldC2 (g := cutG g i) rfl rfl rfl (look_cache _) ?_ | ((refine r_ldK (g := cutG g i) rfl rfl rfl ?_ ?_); (exact look_node hi)) | refine r_ndel (g := cutG g i) und_map Try.underlying9 rfl rfl ?_ | refine r_ldC4 rfl rfl rfl (look_cache _) ?_ | refine r_lendGR (f := 24) (g := { cutG g i with es := ndel (g.key i) g.es }) [] rfl hw2 rfl rfl Try.call24 hok1 rfl (esize_ctr _ i L f hw2 hi hv hb) ?_ | refine r_stSz rfl rfl rfl ?_ | refine ⟨flowOk_col (by kernel_rfl), ?_⟩
    | with_reducible refine t_seq ?_ | with_reducible refine t_region ?_ | with_reducible refine c_nil ?_ | with_reducible refine n_then ?_
    | with_reducible refine t_ret ?_ | with_reducible refine t_skip ?_ | with_reducible refine t_exit ?_ | with_reducible refine t_block ?_
    | with_reducible refine n_block ?_ | with_reducible refine e_then ?_ | with_reducible refine x_then ?_ | with_reducible refine x_block ?_ | with_reducible refine t_draw ?_
    | refine r_val rfl rfl True.intro ?_ | refine r_gskip rfl rfl rfl ?_ | refine r_gskip2 rfl rfl rfl ?_ | refine r_gval rfl rfl rfl rfl True.intro ?_
    | refine t_true rfl ?_ | refine t_false rfl ?_
    | ((first | refine t_cond_d rfl (fun _ => ?_) (fun _ => ?_) | refine t_cond_i rfl (fun _ => ?_) (fun _ => ?_) | refine t_cond_j rfl (fun _ => ?_) (fun _ => ?_) | refine t_cond_s rfl (fun _ => ?_) (fun _ => ?_) | refine t_cond_n rfl (fun _ => ?_) (fun _ => ?_) | refine t_cond rfl (fun _ => ?_) (fun _ => ?_) | refine c_split_d rfl rfl (fun _ => ?_) (fun _ => ?_) | refine c_split_i rfl rfl (fun _ => ?_) (fun _ => ?_) | refine c_split_j rfl rfl (fun _ => ?_) (fun _ => ?_) | refine c_split_s rfl rfl (fun _ => ?_) (fun _ => ?_) | refine c_split_n rfl rfl (fun _ => ?_) (fun _ => ?_)) <;> try (first | contradiction | (exfalso; omega)))
    | refine r_val rfl rfl (by (first | omega | exact Nat.le_of_ble_eq_true rfl | (simp_all; done) | (simp_all; omega) | ((repeat' refine And.intro ?_ ?_) <;> first | omega | rfl | exact Nat.le_refl _ | exact Nat.le_of_ble_eq_true rfl | exact bytesF_one _ | (simp_all; done) | (simp_all; omega)))) ?_ | refine r_gval rfl rfl rfl rfl (by (first | omega | exact Nat.le_of_ble_eq_true rfl | (simp_all; done) | (simp_all; omega) | ((repeat' refine And.intro ?_ ?_) <;> first | omega | rfl | exact Nat.le_refl _ | exact Nat.le_of_ble_eq_true rfl | exact bytesF_one _ | (simp_all; done) | (simp_all; omega)))) ?_
    | refine r_obj rfl rfl (by (first | omega | exact Nat.le_of_ble_eq_true rfl | (simp_all; done) | (simp_all; omega) | ((repeat' refine And.intro ?_ ?_) <;> first | omega | rfl | exact Nat.le_refl _ | exact Nat.le_of_ble_eq_true rfl | exact bytesF_one _ | (simp_all; done) | (simp_all; omega)))) ?_ | refine r_sto rfl (by (first | omega | exact Nat.le_of_ble_eq_true rfl | (simp_all; done) | (simp_all; omega) | ((repeat' refine And.intro ?_ ?_) <;> first | omega | rfl | exact Nat.le_refl _ | exact Nat.le_of_ble_eq_true rfl | exact bytesF_one _ | (simp_all; done) | (simp_all; omega)))) ?_ | refine r_gobj rfl rfl rfl rfl (by (first | omega | exact Nat.le_of_ble_eq_true rfl | (simp_all; done) | (simp_all; omega) | ((repeat' refine And.intro ?_ ?_) <;> first | omega | rfl | exact Nat.le_refl _ | exact Nat.le_of_ble_eq_true rfl | exact bytesF_one _ | (simp_all; done) | (simp_all; omega)))) ?_
    | refine e_hit rfl ?_ | refine e_miss rfl ?_
    | refine ⟨by kernel_rfl, ?_⟩ | refine n_endM rfl rfl ⟨leOw_self _⟩ | refine x_endM rfl rfl ⟨leOw_self _⟩ | ((with_reducible refine c_grd ?_); (fail_if_success (refine c_lit true rfl rfl rfl ?_)); (fail_if_success (refine c_lit false rfl rfl rfl ?_)); refine c_split rfl rfl (fun _ => ?_) (fun _ => ?_)))

end Go.Proofs.Ytghhohckonbkkaa.Flow

/- LRU: the ring, as a list (the plain law). -/
namespace Go.Proofs.Ytghhohckonbkkaa.Flow
open Go

def lenOf : D → Nat
  | .sl _ n _ => n
  | _ => 0
def funOf : D → Nat → List D
  | .sl _ _ f => f
  | _ => fun _ => []
/-- Some bytes. -/
def isB (d : D) : Prop := d = .sl 1 (lenOf d) (funOf d) ∧ ∀ j, j < lenOf d → ∃ n, funOf d j = [.i .u8 n]

abbrev Ent := List UInt8 × D
def esz (p : Ent) : Nat := p.1.length + lenOf p.2
def sumL : List Ent → Nat
  | [] => 0
  | p :: r => esz p + sumL r
def woL (l : List Ent) (k : List UInt8) : List Ent := l.filter fun p => !(p.1 == k)
def evL : Nat → Int → Int → List Ent → List Ent
  | 0, _, _, l => l
  | f + 1, E, M, l => if E < l.length ∨ M < sumL l then evL f E M l.dropLast else l

theorem sumL_app (a b : List Ent) : sumL (a ++ b) = sumL a + sumL b := by
  induction a with
  | nil => simp [sumL]
  | cons p r ih => simp [sumL, ih]; omega
theorem sumL_mem {p : Ent} : ∀ {l : List Ent}, p ∈ l → esz p ≤ sumL l
  | q :: r, h => by
    simp only [sumL]
    rcases List.mem_cons.1 h with rfl | h
    · omega
    · have := sumL_mem h
      omega

def Chn (g : Rg) : List Nat → Prop
  | x :: y :: r => g.ls x = y ∧ g.nw y = x ∧ Chn g (y :: r)
  | _ => True

theorem chn_app {g : Rg} {x : Nat} {b : List Nat} : ∀ {a : List Nat}, Chn g (a ++ x :: b) ↔ Chn g (a ++ [x]) ∧ Chn g (x :: b)
  | [] => by simp [Chn]
  | [y] => by simp [Chn, and_assoc]
  | y :: z :: a => by
    have := chn_app (g := g) (x := x) (b := b) (a := z :: a)
    simp only [List.cons_append, Chn] at this ⊢
    rw [this]
    simp [and_assoc]

theorem chn_congr {g g' : Rg} : ∀ {l : List Nat}, Chn g l → (∀ x ∈ l.dropLast, g'.ls x = g.ls x) → (∀ y ∈ l.tail, g'.nw y = g.nw y) → Chn g' l
  | [], _, _, _ => trivial
  | [_], _, _, _ => trivial
  | x :: y :: r, h, h1, h2 => by
    refine ⟨(h1 x (by simp)).trans h.1, (h2 y (by simp)).trans h.2.1, chn_congr h.2.2 (fun z hz => h1 z ?_) (fun z hz => h2 z ?_)⟩
    · simp only [List.dropLast_cons_cons, List.mem_cons] at hz ⊢
      exact .inr hz
    · simp only [List.tail_cons] at hz ⊢
      exact List.mem_cons_of_mem _ hz

/-- The ring is the list L, the entry used last first. -/
structure Ring (g : Rg) (L : List Nat) : Prop where
  wf : Wf0 g
  ent : ∀ i ∈ L, 1 < i ∧ i ≤ g.n
  nd : L.Nodup
  ch : Chn g (1 :: (L ++ [1]))
  mpP : (g.es.map (·.2)).Perm L
  mpK : ∀ p ∈ g.es, g.key p.2 = p.1
  mpN : (g.es.map (·.1)).Nodup
  vals : ∀ i ∈ L, isB (g.val i)

def ents (g : Rg) (L : List Nat) : List Ent := L.map fun i => (g.key i, g.val i)

structure Size (g : Rg) (L : List Nat) : Prop where
  sz : g.sz = sumL (ents g L)
  big : sumL (ents g L) ≤ 1000000

theorem concat_of (x : Nat) (a : List Nat) : ∃ a' p, x :: a = a' ++ [p] ∧ (p = x ∨ p ∈ a) ∧ (∀ y ∈ a'.tail ++ [p], a' ≠ [] → y ∈ a) := by
  induction a generalizing x with
  | nil => exact ⟨[], x, rfl, .inl rfl, fun y _ h => absurd rfl h⟩
  | cons z r ih =>
    obtain ⟨a', p, h1, h2, h3⟩ := ih z
    refine ⟨x :: a', p, by rw [h1]; rfl, .inr (by rcases h2 with rfl | h2 <;> simp [*]), fun y hy _ => ?_⟩
    rw [h1]
    exact hy

theorem ring_links {g : Rg} {a b : List Nat} {i : Nat} (h : Ring g (a ++ i :: b)) : 0 < g.nw i ∧ 0 < g.ls i ∧ 0 < i ∧ i ≤ g.n := by
  have hc := h.ch
  rw [show 1 :: (a ++ i :: b ++ [1]) = (1 :: a) ++ i :: (b ++ [1]) by simp] at hc
  rw [chn_app] at hc
  obtain ⟨a', p, h1, h2, h3⟩ := concat_of 1 a
  rw [h1, List.append_assoc, List.singleton_append, chn_app] at hc
  have hp : 0 < p := by
    rcases h2 with rfl | h2
    · omega
    · have := h.ent p (by simp [h2]); omega
  have hq : ∀ q r, b ++ [1] = q :: r → 0 < q := fun q r e => by
    have hm : q ∈ b ++ [1] := by rw [e]; simp
    rcases List.mem_append.1 hm with hm | hm
    · have := h.ent q (by simp [hm]); omega
    · have := List.mem_singleton.1 hm; omega
  have hi := h.ent i (by simp)
  refine ⟨by rw [hc.1.2.2.1]; exact hp, ?_, by omega, hi.2⟩
  cases hb : b ++ [1] with
  | nil => simp at hb
  | cons q r =>
    have h4 := hc.2
    rw [hb] at h4
    rw [h4.1]
    exact hq q r hb

theorem ring_cut {g : Rg} {a b : List Nat} {i : Nat} (h : Ring g (a ++ i :: b)) : Chn (cutG g i) (1 :: (a ++ b ++ [1])) := by
  have hc := h.ch
  rw [show 1 :: (a ++ i :: b ++ [1]) = (1 :: a) ++ i :: (b ++ [1]) by simp] at hc
  rw [chn_app] at hc
  have hnd := h.nd
  rw [List.nodup_append] at hnd
  obtain ⟨n1, n2, n3⟩ := hnd
  obtain ⟨n4, n5⟩ := List.nodup_cons.1 n2
  have h1n : ∀ x ∈ a ++ i :: b, x ≠ 1 := fun x hx => by have := h.ent x hx; omega
  obtain ⟨a', p, h1, h2, h3⟩ := concat_of 1 a
  obtain ⟨q, r, hq⟩ : ∃ q r, b ++ [1] = q :: r := by
    cases hb : b ++ [1] with
    | nil => simp at hb
    | cons q r => exact ⟨q, r, rfl⟩
  have hc1 := hc.1
  rw [h1, List.append_assoc, List.singleton_append, chn_app] at hc1
  have hc2 := hc.2
  rw [hq] at hc2
  have ep : g.nw i = p := hc1.2.2.1
  have eq' : g.ls i = q := hc2.1
  have nda : (a' ++ [p]).Nodup := by
    rw [← h1]
    exact List.nodup_cons.2 ⟨fun hm => h1n 1 (by simp [hm]) rfl, n1⟩
  have ndb : (q :: r).Nodup := by
    rw [← hq, List.nodup_append]
    exact ⟨n5, by simp, fun x hx y hy => by
      have := List.mem_singleton.1 hy
      subst this
      exact h1n x (by simp [hx])⟩
  have hqm : q = 1 ∨ q ∈ b := by
    have : q ∈ b ++ [1] := by rw [hq]; simp
    rcases List.mem_append.1 this with h | h
    · exact .inr h
    · exact .inl (List.mem_singleton.1 h)
  rw [show 1 :: (a ++ b ++ [1]) = (1 :: a) ++ (b ++ [1]) by simp, h1, hq, List.append_assoc, List.singleton_append, chn_app]
  refine ⟨chn_congr hc1.1 (fun x hx => ?_) (fun y hy => ?_), ?_, ?_, chn_congr hc2.2.2 (fun x hx => ?_) (fun y hy => ?_)⟩
  · rw [List.dropLast_concat] at hx
    refine upd_ne fun e => ?_
    rw [ep] at e
    subst e
    rw [List.nodup_append] at nda
    exact nda.2.2 x hx x (by simp) rfl
  · have hya : y ∈ a := by
      cases a' with
      | nil => simp at hy
      | cons z a' =>
        refine h3 y ?_ (by simp)
        simpa using hy
    refine upd_ne fun e => ?_
    rw [eq'] at e
    subst e
    rcases hqm with e | e
    · exact h1n y (by simp [hya]) e
    · exact n3 y hya y (by simp [e]) rfl
  · show upd g.ls (g.nw i) (g.ls i) p = q
    rw [ep, upd_same, eq']
  · show upd g.nw (g.ls i) (g.nw i) q = p
    rw [eq', upd_same, ep]
  · refine upd_ne fun e => ?_
    rw [ep] at e
    subst e
    have hxb : x ∈ b := by
      rw [← hq, List.dropLast_concat] at hx
      exact hx
    rcases h2 with e | e
    · exact h1n x (by simp [hxb]) e
    · exact n3 x e x (by simp [hxb]) rfl
  · refine upd_ne fun e => ?_
    rw [eq'] at e
    subst e
    exact (List.nodup_cons.1 ndb).1 hy

/-! ### The map -/
theorem nget_mem {k : List UInt8} {i : Nat} : ∀ {es : List (List UInt8 × Nat)}, nget k es = some i → (k, i) ∈ es
  | [], h => by cases h
  | p :: r, h => by
    unfold nget at h
    split at h
    · rename_i e
      cases h
      subst e
      exact List.mem_cons.2 (.inl rfl)
    · exact List.mem_cons_of_mem _ (nget_mem h)

theorem nget_none {k : List UInt8} : ∀ {es : List (List UInt8 × Nat)}, nget k es = none → k ∉ es.map (·.1)
  | [], _ => by simp
  | p :: r, h => by
    unfold nget at h
    split at h
    · cases h
    · rename_i e
      simp only [List.map_cons, List.mem_cons, not_or]
      exact ⟨Ne.symm e, nget_none h⟩

theorem nput_new {k : List UInt8} (i : Nat) : ∀ {es : List (List UInt8 × Nat)}, k ∉ es.map (·.1) → nput k i es = es ++ [(k, i)]
  | [], _ => rfl
  | p :: r, h => by
    simp only [List.map_cons, List.mem_cons, not_or] at h
    unfold nput
    rw [if_neg (Ne.symm h.1), nput_new i h.2]
    rfl

theorem ndel_perm {p : List UInt8 × Nat} : ∀ {es : List (List UInt8 × Nat)}, (es.map (·.1)).Nodup → p ∈ es → es.Perm (p :: ndel p.1 es)
  | q :: r, hn, h => by
    simp only [List.map_cons, List.nodup_cons] at hn
    unfold ndel
    rcases List.mem_cons.1 h with rfl | h
    · rw [if_pos rfl]
    · have hne : ¬ q.1 = p.1 := fun e => hn.1 (by rw [e]; exact List.mem_map.2 ⟨p, h, rfl⟩)
      rw [if_neg hne]
      exact ((ndel_perm hn.2 h).cons q).trans (List.Perm.swap ..)

theorem ndel_sublist (k : List UInt8) : ∀ (es : List (List UInt8 × Nat)), (ndel k es).Sublist es
  | [] => List.Sublist.refl _
  | q :: r => by
    unfold ndel
    split
    · exact List.sublist_cons_self ..
    · exact (ndel_sublist k r).cons_cons q

theorem ring_get {g : Rg} {L : List Nat} {k : List UInt8} {i : Nat} (h : Ring g L) (hg : nget k g.es = some i) : i ∈ L ∧ g.key i = k := by
  have hm := nget_mem hg
  exact ⟨h.mpP.mem_iff.1 (List.mem_map.2 ⟨_, hm, rfl⟩), h.mpK _ hm⟩

theorem ring_none {g : Rg} {L : List Nat} {k : List UInt8} (h : Ring g L) (hg : nget k g.es = none) : ∀ i ∈ L, g.key i ≠ k := fun i hi e => by
  obtain ⟨p, hp, he⟩ := List.mem_map.1 (h.mpP.mem_iff.2 hi)
  have := h.mpK p hp
  refine nget_none hg (List.mem_map.2 ⟨p, hp, ?_⟩)
  rw [← this, he]
  exact e

theorem inj_fst {es : List (List UInt8 × Nat)} (hn : (es.map (·.1)).Nodup) {p q : List UInt8 × Nat} (hp : p ∈ es) (hq : q ∈ es) (e : p.1 = q.1) : p = q := by
  induction es with
  | nil => simp at hp
  | cons x r ih =>
    simp only [List.map_cons, List.nodup_cons] at hn
    rcases List.mem_cons.1 hp with hp1 | hp1
    · rcases List.mem_cons.1 hq with hq1 | hq1
      · rw [hp1, hq1]
      · exact absurd (List.mem_map.2 ⟨q, hq1, by rw [← e, hp1]⟩) hn.1
    · rcases List.mem_cons.1 hq with hq1 | hq1
      · exact absurd (List.mem_map.2 ⟨p, hp1, by rw [e, hq1]⟩) hn.1
      · exact ih hn.2 hp1 hq1

/-- No two entries have one key. -/
theorem ring_key {g : Rg} {L : List Nat} (h : Ring g L) {i j : Nat} (hi : i ∈ L) (hj : j ∈ L) (e : g.key i = g.key j) : i = j := by
  obtain ⟨p, hp, he⟩ := List.mem_map.1 (h.mpP.mem_iff.2 hi)
  obtain ⟨q, hq, he'⟩ := List.mem_map.1 (h.mpP.mem_iff.2 hj)
  have h1 := h.mpK p hp
  have h2 := h.mpK q hq
  have := inj_fst h.mpN hp hq (by rw [← h1, ← h2, he, he']; exact e)
  rw [← he, ← he', this]

theorem ents_wo {g : Rg} {a b : List Nat} {i : Nat} (h : Ring g (a ++ i :: b)) : woL (ents g (a ++ i :: b)) (g.key i) = ents g (a ++ b) := by
  have hnd := h.nd
  rw [List.nodup_append] at hnd
  obtain ⟨n1, n2, n3⟩ := hnd
  obtain ⟨n4, n5⟩ := List.nodup_cons.1 n2
  have key : ∀ c : List Nat, (∀ j ∈ c, j ∈ a ++ i :: b ∧ j ≠ i) → woL (ents g c) (g.key i) = ents g c := fun c hc => by
    unfold woL ents
    rw [List.filter_eq_self]
    intro p hp
    obtain ⟨j, hj, rfl⟩ := List.mem_map.1 hp
    obtain ⟨h1, h2⟩ := hc j hj
    have : g.key j ≠ g.key i := fun e => h2 (ring_key h h1 (by simp) e)
    simp [this]
  have h1 : ents g (a ++ i :: b) = ents g a ++ (g.key i, g.val i) :: ents g b := by simp [ents]
  have h2 : ents g (a ++ b) = ents g a ++ ents g b := by simp [ents]
  have ka := key a fun j hj => ⟨by simp [hj], fun e => n3 j hj i (by simp) e⟩
  have kb := key b fun j hj => ⟨by simp [hj], fun e => n4 (e ▸ hj)⟩
  rw [h1, h2]
  unfold woL at *
  rw [List.filter_append, List.filter_cons, ka, kb]
  simp

theorem ents_wo_none {g : Rg} {L : List Nat} {k : List UInt8} (h : ∀ i ∈ L, g.key i ≠ k) : woL (ents g L) k = ents g L := by
  unfold woL ents
  rw [List.filter_eq_self]
  intro p hp
  obtain ⟨j, hj, rfl⟩ := List.mem_map.1 hp
  simp [h j hj]

/-! ### drop -/
theorem ring_drop {g : Rg} {a b : List Nat} {i : Nat} (h : Ring g (a ++ i :: b)) (L0 : Nat) : Ring (dropG g i L0) (a ++ b) := by
  have hi := ring_links h
  have hnd := h.nd
  rw [List.nodup_append] at hnd
  obtain ⟨n1, n2, n3⟩ := hnd
  obtain ⟨n4, n5⟩ := List.nodup_cons.1 n2
  obtain ⟨p, hp, he⟩ := List.mem_map.1 (h.mpP.mem_iff.2 (show i ∈ a ++ i :: b by simp))
  have hk : g.key i = p.1 := by rw [← he]; exact h.mpK p hp
  refine ⟨wf_drop _ h.wf ⟨hi.2.2.1, hi.2.2.2⟩, fun j hj => h.ent j ?_, ?_, chn_congr (ring_cut h) (fun _ _ => rfl) (fun _ _ => rfl), ?_, fun q hq => h.mpK q (ndel_sub _ _ _ hq), ?_, fun j hj => h.vals j ?_⟩
  · rcases List.mem_append.1 hj with h | h <;> simp [h]
  · rw [List.nodup_append]
    exact ⟨n1, n5, fun x hx y hy => n3 x hx y (by simp [hy])⟩
  · show ((ndel (g.key i) g.es).map (·.2)).Perm (a ++ b)
    rw [hk]
    have h1 := (ndel_perm h.mpN hp).map (·.2)
    have h2 : (i :: ((ndel p.1 g.es).map (·.2))).Perm (i :: (a ++ b)) := by
      rw [← he]
      refine (h1.symm.trans ?_)
      rw [he]
      exact h.mpP.trans List.perm_middle
    exact h2.cons_inv
  · exact List.Nodup.sublist ((ndel_sublist _ _).map _) h.mpN
  · rcases List.mem_append.1 hj with h | h <;> simp [h]

theorem size_drop {g : Rg} {a b : List Nat} {i : Nat} (h : Size g (a ++ i :: b)) : Size (dropG g i (lenOf (g.val i))) (a ++ b) := by
  have h1 : sumL (ents g (a ++ i :: b)) = sumL (ents g (a ++ b)) + ((g.key i).length + lenOf (g.val i)) := by
    have e1 : ents g (a ++ i :: b) = ents g a ++ (g.key i, g.val i) :: ents g b := by simp [ents]
    have e2 : ents g (a ++ b) = ents g a ++ ents g b := by simp [ents]
    rw [e1, e2, sumL_app, sumL_app]
    simp only [sumL, esz]
    omega
  have h2 := h.sz
  have h3 := h.big
  refine ⟨?_, ?_⟩
  · show g.sz - (((g.key i).length : Int) + (lenOf (g.val i) : Int)) = (sumL (ents g (a ++ b)) : Int)
    omega
  · show sumL (ents g (a ++ b)) ≤ 1000000
    omega

/-! ### use -/
theorem ring_use {g : Rg} {L : List Nat} {i : Nat} (hw : Wf0 g) (hi : 1 < i ∧ i ≤ g.n) (hn : i ∉ L) (hent : ∀ i ∈ L, 1 < i ∧ i ≤ g.n) (hnd : L.Nodup) (hc : Chn g (1 :: (L ++ [1]))) : Chn (useG g i) (1 :: (i :: L ++ [1])) ∧ 0 < g.ls 1 := by
  obtain ⟨q, r, hq⟩ : ∃ q r, L ++ [1] = q :: r := by
    cases hb : L ++ [1] with
    | nil => simp at hb
    | cons q r => exact ⟨q, r, rfl⟩
  rw [hq] at hc
  have eq' : g.ls 1 = q := hc.1
  have hqm : q = 1 ∨ q ∈ L := by
    have : q ∈ L ++ [1] := by rw [hq]; simp
    rcases List.mem_append.1 this with h | h
    · exact .inr h
    · exact .inl (List.mem_singleton.1 h)
  have hq0 : 0 < q := by
    rcases hqm with e | e
    · omega
    · have := hent q e; omega
  have hqi : i ≠ q := fun e => by
    rcases hqm with e' | e'
    · omega
    · exact hn (e ▸ e')
  have ndb : (q :: r).Nodup := by
    rw [← hq, List.nodup_append]
    exact ⟨hnd, by simp, fun x hx y hy => by
      have := List.mem_singleton.1 hy
      subst this
      have := hent x hx
      omega⟩
  refine ⟨?_, by rw [eq']; exact hq0⟩
  rw [List.cons_append, hq]
  refine ⟨?_, ?_, ?_, ?_, chn_congr hc.2.2 (fun x hx => ?_) (fun y hy => ?_)⟩
  · show upd (upd g.ls i (g.ls 1)) 1 i 1 = i
    exact upd_same ..
  · show upd (upd g.nw i 1) (g.ls 1) i i = 1
    rw [eq', upd_ne hqi, upd_same]
  · show upd (upd g.ls i (g.ls 1)) 1 i i = q
    rw [upd_ne (by omega), upd_same, eq']
  · show upd (upd g.nw i 1) (g.ls 1) i q = i
    rw [eq', upd_same]
  · have hxL : x ∈ L := by
      rw [← hq, List.dropLast_concat] at hx
      exact hx
    have := hent x hxL
    show upd (upd g.ls i (g.ls 1)) 1 i x = g.ls x
    rw [upd_ne (by omega), upd_ne (fun e => hn (by rw [← e]; exact hxL))]
  · have hy' : y ∈ r := hy
    show upd (upd g.nw i 1) (g.ls 1) i y = g.nw y
    rw [eq', upd_ne (fun e => (List.nodup_cons.1 ndb).1 (by rw [← e]; exact hy')), upd_ne]
    intro e
    have : y ∈ L ++ [1] := by rw [hq]; simp [hy']
    rcases List.mem_append.1 this with h | h
    · exact hn (by rw [← e]; exact h)
    · have := List.mem_singleton.1 h; omega

/-- Cut and used: the entry is the first. -/
theorem ring_move {g : Rg} {a b : List Nat} {i : Nat} (h : Ring g (a ++ i :: b)) : Ring (useG (cutG g i) i) (i :: (a ++ b)) ∧ 0 < (cutG g i).ls 1 := by
  have hi := ring_links h
  have hi1 := h.ent i (by simp)
  have hnd := h.nd
  rw [List.nodup_append] at hnd
  obtain ⟨n1, n2, n3⟩ := hnd
  obtain ⟨n4, n5⟩ := List.nodup_cons.1 n2
  have hmem : ∀ j ∈ a ++ b, j ∈ a ++ i :: b := fun j hj => by
    rcases List.mem_append.1 hj with h | h <;> simp [h]
  have nd2 : (a ++ b).Nodup := by
    rw [List.nodup_append]
    exact ⟨n1, n5, fun x hx y hy => n3 x hx y (by simp [hy])⟩
  have hni : i ∉ a ++ b := fun hm => by
    rcases List.mem_append.1 hm with h | h
    · exact n3 i h i (by simp) rfl
    · exact n4 h
  have hw := wf_cut h.wf ⟨hi.2.2.1, hi.2.2.2⟩
  obtain ⟨h1, h2⟩ := ring_use (g := cutG g i) hw hi1 hni (fun j hj => h.ent j (hmem j hj)) nd2 (ring_cut h)
  refine ⟨⟨wf_use hw ⟨by omega, hi1.2⟩, fun j hj => ?_, List.nodup_cons.2 ⟨hni, nd2⟩, h1, h.mpP.trans List.perm_middle, h.mpK, h.mpN, fun j hj => ?_⟩, h2⟩
  · rcases List.mem_cons.1 hj with rfl | hj
    · exact hi1
    · exact h.ent j (hmem j hj)
  · rcases List.mem_cons.1 hj with rfl | hj
    · exact h.vals j (by simp)
    · exact h.vals j (hmem j hj)

/-! ### A new entry -/
def newG (g : Rg) (k : List UInt8) (d : D) : Rg := { g with n := g.n + 1, key := upd g.key (g.n + 1) k, val := upd g.val (g.n + 1) d, nw := upd g.nw (g.n + 1) 0, ls := upd g.ls (g.n + 1) 0 }
def addG (g : Rg) (k : List UInt8) (d : D) : Rg := useG { newG g k d with es := nput k (g.n + 1) g.es } (g.n + 1)

theorem wf_new {g : Rg} {k : List UInt8} {d : D} (h : Wf0 g) (hd : d.free = true) : Wf0 (newG g k d) := by
  refine ⟨Nat.succ_pos _, fun i h0 h1 => ?_, fun p hp => ?_⟩
  · have h1 : i ≤ g.n + 1 := h1
    show upd g.nw (g.n + 1) 0 i ≤ g.n + 1 ∧ upd g.ls (g.n + 1) 0 i ≤ g.n + 1 ∧ (upd g.val (g.n + 1) d i).free = true
    by_cases e : i = g.n + 1
    · subst e
      rw [upd_same, upd_same, upd_same]
      exact ⟨by omega, by omega, hd⟩
    · rw [upd_ne e, upd_ne e, upd_ne e]
      obtain ⟨a1, a2, a3⟩ := h.nd i h0 (by omega)
      exact ⟨by omega, by omega, a3⟩
  · obtain ⟨h1, h2⟩ := h.mp p hp
    exact ⟨h1, Nat.le_succ_of_le h2⟩

theorem nput_mem {k : List UInt8} {i : Nat} {p : List UInt8 × Nat} : ∀ {es : List (List UInt8 × Nat)}, p ∈ nput k i es → p ∈ es ∨ p = (k, i)
  | [], h => .inr (List.mem_singleton.1 h)
  | q :: r, h => by
    unfold nput at h
    split at h
    · rcases List.mem_cons.1 h with h | h
      · exact .inr h
      · exact .inl (List.mem_cons_of_mem _ h)
    · rcases List.mem_cons.1 h with h | h
      · exact .inl (List.mem_cons.2 (.inl h))
      · rcases nput_mem h with h | h
        · exact .inl (List.mem_cons_of_mem _ h)
        · exact .inr h

theorem wf_newput {g : Rg} {k : List UInt8} {d : D} (h : Wf0 g) (hd : d.free = true) : Wf0 { newG g k d with es := nput k (g.n + 1) g.es } := by
  have h1 := wf_new (k := k) h hd
  refine ⟨h1.pos, h1.nd, fun p hp => ?_⟩
  have hp : p ∈ nput k (g.n + 1) g.es := hp
  rcases nput_mem hp with hp | hp
  · exact h1.mp p hp
  · subst hp
    exact ⟨Nat.succ_pos _, Nat.le_refl _⟩

theorem ring_new {g : Rg} {L : List Nat} {k : List UInt8} {d : D} (h : Ring g L) (hk : ∀ i ∈ L, g.key i ≠ k) (hd : isB d) : Ring (addG g k d) ((g.n + 1) :: L) ∧ 0 < (newG g k d).ls 1 ∧ ents (addG g k d) ((g.n + 1) :: L) = (k, d) :: ents g L := by
  have hfree : d.free = true := by rw [hd.1]; rfl
  have hle : ∀ j ∈ L, j ≠ g.n + 1 := fun j hj => by have := h.ent j hj; omega
  have h1 : 1 ≤ g.n := h.wf.pos
  have hc : Chn { newG g k d with es := nput k (g.n + 1) g.es } (1 :: (L ++ [1])) := by
    have hm : ∀ j ∈ 1 :: (L ++ [1]), j ≠ g.n + 1 := fun j hj => by
      rcases List.mem_cons.1 hj with rfl | hj
      · omega
      · rcases List.mem_append.1 hj with hj | hj
        · exact hle j hj
        · have := List.mem_singleton.1 hj; omega
    exact chn_congr h.ch (fun x hx => upd_ne (hm x ((List.dropLast_sublist _).subset hx))) (fun y hy => upd_ne (hm y (List.mem_of_mem_tail hy)))
  have hkn : k ∉ g.es.map (·.1) := fun hm => by
    obtain ⟨p, hp, rfl⟩ := List.mem_map.1 hm
    exact hk p.2 (h.mpP.mem_iff.1 (List.mem_map.2 ⟨p, hp, rfl⟩)) (h.mpK p hp)
  have hw2 := wf_newput (k := k) h.wf hfree
  obtain ⟨u1, u2⟩ := ring_use (g := { newG g k d with es := nput k (g.n + 1) g.es }) (i := g.n + 1) hw2 ⟨by omega, Nat.le_refl _⟩ (fun hm => hle _ hm rfl) (fun j hj => ⟨(h.ent j hj).1, Nat.le_succ_of_le (h.ent j hj).2⟩) h.nd hc
  refine ⟨⟨wf_use hw2 ⟨by omega, Nat.le_refl _⟩, fun j hj => ?_, List.nodup_cons.2 ⟨fun hm => hle _ hm rfl, h.nd⟩, u1, ?_, fun p hp => ?_, ?_, fun j hj => ?_⟩, u2, ?_⟩
  · rcases List.mem_cons.1 hj with rfl | hj
    · exact ⟨by omega, Nat.le_refl _⟩
    · exact ⟨(h.ent j hj).1, Nat.le_succ_of_le (h.ent j hj).2⟩
  · show ((nput k (g.n + 1) g.es).map (·.2)).Perm ((g.n + 1) :: L)
    rw [nput_new _ hkn, List.map_append]
    exact List.perm_append_comm.trans (h.mpP.cons _)
  · have hp : p ∈ nput k (g.n + 1) g.es := hp
    show upd g.key (g.n + 1) k p.2 = p.1
    rcases nput_mem hp with hp | rfl
    · rw [upd_ne (hle _ (h.mpP.mem_iff.1 (List.mem_map.2 ⟨p, hp, rfl⟩)))]
      exact h.mpK p hp
    · exact upd_same ..
  · show ((nput k (g.n + 1) g.es).map (·.1)).Nodup
    rw [nput_new _ hkn, List.map_append, List.nodup_append]
    exact ⟨h.mpN, by simp, fun x hx y hy e => by
      have : y = k := by simpa using hy
      exact hkn (by rw [← this, ← e]; exact hx)⟩
  · show isB (upd g.val (g.n + 1) d j)
    rcases List.mem_cons.1 hj with rfl | hj
    · rw [upd_same]
      exact hd
    · rw [upd_ne (hle j hj)]
      exact h.vals j hj
  · show (upd g.key (g.n + 1) k (g.n + 1), upd g.val (g.n + 1) d (g.n + 1)) :: L.map (fun i => (upd g.key (g.n + 1) k i, upd g.val (g.n + 1) d i)) = (k, d) :: ents g L
    rw [upd_same, upd_same]
    unfold ents
    congr 1
    exact List.map_congr_left fun j hj => by rw [upd_ne (hle j hj), upd_ne (hle j hj)]

/-! ### Room is made -/
def evG : Nat → Rg → Rg
  | 0, g => g
  | f + 1, g => if g.E < g.es.length ∨ g.M < g.sz then evG f (dropG g (g.nw 1) (lenOf (g.val (g.nw 1)))) else g

theorem ring_last {g : Rg} {a : List Nat} {i : Nat} (h : Ring g (a ++ [i])) : g.nw 1 = i := by
  have hc := h.ch
  rw [show 1 :: (a ++ [i] ++ [1]) = (1 :: a) ++ i :: [1] by simp, chn_app] at hc
  exact hc.2.2.1

theorem es_len {g : Rg} {L : List Nat} (h : Ring g L) : g.es.length = L.length := by
  have := h.mpP.length_eq
  simpa using this

theorem ev_ring : ∀ (f : Nat) (g : Rg) (L : List Nat), Ring g L → Size g L → 0 ≤ g.E → 0 ≤ g.M → ∃ L', Ring (evG f g) L' ∧ Size (evG f g) L' ∧ ents (evG f g) L' = evL f g.E g.M (ents g L) ∧ (evG f g).E = g.E ∧ (evG f g).M = g.M ∧ (evG f g).n = g.n ∧ (evG f g).h = g.h ∧ (evG f g).m = g.m
  | 0, g, L, h, hs, _, _ => ⟨L, h, hs, rfl, rfl, rfl, rfl, rfl, rfl⟩
  | f + 1, g, L, h, hs, hE, hM => by
    have hl : (ents g L).length = L.length := by simp [ents]
    unfold evG evL
    by_cases hc : g.E < g.es.length ∨ g.M < g.sz
    · rw [if_pos hc, if_pos (by rw [hl, ← es_len h, ← hs.sz]; exact hc)]
      rcases List.eq_nil_or_concat L with rfl | ⟨a, i, rfl⟩
      · have e : g.es = [] := by simpa using es_len h
        have hz := hs.sz
        simp only [ents, sumL, List.map_nil] at hz
        rw [e, hz] at hc
        simp at hc
        omega
      · rw [List.concat_eq_append] at h hs ⊢
        rw [ring_last h]
        have h2 := ring_drop h (lenOf (g.val i))
        have hs2 := size_drop hs
        rw [List.append_nil] at h2 hs2
        obtain ⟨L', r1, r2, r3, r4⟩ := ev_ring f _ _ h2 hs2 hE hM
        refine ⟨L', r1, r2, ?_, r4⟩
        rw [r3]
        have e1 : (ents g (a ++ [i])).dropLast = ents g a := by simp [ents]
        rw [e1]
        rfl
    · rw [if_neg hc, if_neg (by rw [hl, ← es_len h, ← hs.sz]; exact hc)]
      exact ⟨L, h, hs, rfl, rfl, rfl, rfl, rfl, rfl⟩

end Go.Proofs.Ytghhohckonbkkaa.Flow

/- LRU: New, Get and the small methods. -/
namespace Go.Proofs.Ytghhohckonbkkaa.Flow
open Go

section
variable {P : Program} {X : Ctx} {n : Nat} {o : Oper} {fr : Fr} {ow : Ow} {k : Nat} {ty : TypeId} {x : Operand} {d : D}

theorem box_step (ho : o.op = .box ty x) (hx : ev fr x = d) (hs : d.solid = true) (h1 : d.cells.all D.one = true) (hk : look k ow = none) (hd : dstOk o.dst n) :
    ∀ F' O', (∀ y ∈ o.op.operands.toList, evF F' y = evF (fF fr) y) → (∀ j ∈ [k], O' j = fO ow j) → StepAt P X n o F' O' (.pv k 0) [(k, .var d.cells)] := by
  intro F' O' he hO
  refine stepAt_of hd fun a w S r hH hI hr => ?_
  have hk' : O' k = none := (hO k (by simp)).trans hk
  have hv := hr x
  rw [he x (by simp [ho, Op.operands]), evF_fF, hx] at hv
  obtain ⟨S', r', g1, g2, g3, g4, g5, g6⟩ := box_ok ty hH hI hv hs h1 hk'
  refine ⟨_, _, S', r', .inl ?_, g1, g2, g3, g4, g5, g6⟩
  simp [execOp, ho, Instr.box, newVar, newRow]

theorem mnew_stepAt (ho : o.op = .makeMap ty none) (hk : look k ow = none) (hd : dstOk o.dst n) :
    ∀ F' O', (∀ y ∈ o.op.operands.toList, evF F' y = evF (fF fr) y) → (∀ j ∈ [k], O' j = fO ow j) → StepAt P X n o F' O' (.mh k) [(k, .mp [])] := by
  exact mnew_step ho hk hd
end

section
variable {X : Ctx} {n : Nat} {all rest : List Oper} {fr : Fr} {ow : Ow} {tr : List (List Nat × List Nat)} {K : Fr → Ow → List (List Nat × List Nat) → Prop}
variable {t k i j gd u : Nat} {ty ty' ty2 kt et : TypeId} {ps : String} {af : Array Edge} {x y : Operand} {g : Rg} {d : D} {want : Bool} {off : Nat}

/-- A new variable that holds a value, under a name of one's own. -/
theorem r_boxAt (k : Nat) (hx : ev fr x = d) (hs : d.solid = true) (h1 : d.cells.all D.one = true) (hk : look k ow = none) (hn : Nat.blt t n = true)
    (h : CT Try.prog X n all rest ((t, .pv k 0) :: fr) ((k, .var d.cells) :: ow) (tr ++ [([k], [k])]) K) : CT Try.prog X n all (⟨some t, .box ty x, ty', ps, af, none⟩ :: rest) fr ow tr K :=
  CT.cons (e := ⟨.pv k 0, [k], [(k, .var d.cells)]⟩) (.plain rfl (box_step (o := ⟨some t, .box ty x, ty', ps, af, none⟩) rfl hx hs h1 hk (show t < n by simpa using hn))) (fF_cons ..) (fO_cons ..) h

/-- A new map under a name of one's own. -/
theorem r_mnewAt (k : Nat) (hk : look k ow = none) (hn : Nat.blt t n = true) (h : CT Try.prog X n all rest ((t, .mh k) :: fr) ((k, .mp []) :: ow) (tr ++ [([k], [k])]) K) :
    CT Try.prog X n all (⟨some t, .makeMap ty none, ty', ps, af, none⟩ :: rest) fr ow tr K :=
  CT.cons (e := ⟨.mh k, [k], [(k, .mp [])]⟩) (.plain rfl (mnew_stepAt (o := ⟨some t, .makeMap ty none, ty', ps, af, none⟩) rfl hk (show t < n by simpa using hn))) (fF_cons ..) (fO_cons ..) h

theorem mapE_len (es : List (List UInt8 × Nat)) : (mapE es).length = es.length := by simp [mapE]

theorem r_nlen (hm : Try.prog.underlying ty = some (.map kt et)) (hx : ev fr x = .mh 9001) (hk : look 9001 ow = some (.mp (mapE g.es))) (hn : Nat.blt t n = true)
    (h : CT Try.prog X n all rest ((t, .i .i64 g.es.length) :: fr) ow (tr ++ [([9001], [])]) K) : CT Try.prog X n all (⟨some t, .call ⟨.builtin .len, #[x], #[ty]⟩, ty', ps, af, none⟩ :: rest) fr ow tr K :=
  r_mlen hm hx hk hn (by rw [mapE_len]; exact h)

theorem r_nhit (hm : Try.prog.underlying ty = some (.map kt et)) (hkt : Try.prog.underlying kt = some .string) {key : List UInt8} (hx : ev fr x = .mh 9001) (hy : ev fr y = .s key) (hk : look 9001 ow = some (.mp (mapE g.es))) (hg : nget key g.es = some i) (hn : Nat.blt t n = true)
    (h : CT Try.prog X n all rest ((t, .tu [.pv (lab i) 0, .b true]) :: fr) ow (tr ++ [([9001], [])]) K) : CT Try.prog X n all (⟨some t, .lookup ty x y true, ty', ps, af, none⟩ :: rest) fr ow tr K :=
  r_mhit hm hkt hx hy hk (by rw [mget_mapE, hg]; rfl) hn h
theorem r_nmiss (hm : Try.prog.underlying ty = some (.map kt et)) (hkt : Try.prog.underlying kt = some .string) {key : List UInt8} (hz : B.zr et = some d) (hx : ev fr x = .mh 9001) (hy : ev fr y = .s key) (hk : look 9001 ow = some (.mp (mapE g.es))) (hg : nget key g.es = none) (hn : Nat.blt t n = true)
    (h : CT Try.prog X n all rest ((t, gotD false d true) :: fr) ow (tr ++ [([9001], [])]) K) : CT Try.prog X n all (⟨some t, .lookup ty x y true, ty', ps, af, none⟩ :: rest) fr ow tr K :=
  r_mmiss hm hkt hz hx hy hk (by rw [mget_mapE, hg]; rfl) hn h

/-! ### Guarded loads of the cache's cells -/
theorem r_gldC (hu : dstAt all gd = some u) (hg : getD' u fr = .b want) (hx : ev fr x = .pv 9000 off) (hz : B.sz ty = some (1, false)) (hn : Nat.blt t n = true) (hk : look 9000 ow = some (.var (cacheC g))) (ho : off < 7) (hd : (cacheC g).getD off .any = d)
    (h : CT Try.prog X n all rest ((t, d) :: fr) ow (tr ++ [([9000], [])]) K) : CT Try.prog X n all (⟨some t, .load ty x, ty', ps, af, some (gd, want)⟩ :: rest) fr ow tr K := by
  refine r_gval (d := d) (p := partP (1, false) (cacheC g) off) (rd := [9000]) hu hg ?_ hn (show off + 1 ≤ 7 by omega) h
  show loadD B (fun k => look k ow) ty (ev fr x) = _
  rw [hx]
  unfold loadD
  rw [hz]
  dsimp only
  rw [hk]
  dsimp only
  rw [fz_eq, ← hd]
  rfl
theorem r_gldC0 (hu : dstAt all gd = some u) (hg : getD' u fr = .b want) (hx : ev fr x = .pv 9000 0) (hz : B.sz ty = some (1, false)) (hn : Nat.blt t n = true) (hk : look 9000 ow = some (.var (cacheC g)))
    (h : CT Try.prog X n all rest ((t, .i .i64 g.E) :: fr) ow (tr ++ [([9000], [])]) K) : CT Try.prog X n all (⟨some t, .load ty x, ty', ps, af, some (gd, want)⟩ :: rest) fr ow tr K := r_gldC hu hg hx hz hn hk (by omega) rfl h
theorem r_gldC1 (hu : dstAt all gd = some u) (hg : getD' u fr = .b want) (hx : ev fr x = .pv 9000 1) (hz : B.sz ty = some (1, false)) (hn : Nat.blt t n = true) (hk : look 9000 ow = some (.var (cacheC g)))
    (h : CT Try.prog X n all rest ((t, .i .i64 g.M) :: fr) ow (tr ++ [([9000], [])]) K) : CT Try.prog X n all (⟨some t, .load ty x, ty', ps, af, some (gd, want)⟩ :: rest) fr ow tr K := r_gldC hu hg hx hz hn hk (by omega) rfl h
theorem r_gldC4 (hu : dstAt all gd = some u) (hg : getD' u fr = .b want) (hx : ev fr x = .pv 9000 4) (hz : B.sz ty = some (1, false)) (hn : Nat.blt t n = true) (hk : look 9000 ow = some (.var (cacheC g)))
    (h : CT Try.prog X n all rest ((t, .i .i64 g.sz) :: fr) ow (tr ++ [([9000], [])]) K) : CT Try.prog X n all (⟨some t, .load ty x, ty', ps, af, some (gd, want)⟩ :: rest) fr ow tr K := r_gldC hu hg hx hz hn hk (by omega) rfl h
end

/-! ### A new entry boxed -/
theorem fO_new {g : Rg} {k : List UInt8} {d : D} : fO ((lab (g.n + 1), .var [.s k, d, .v (.pointer none), .v (.pointer none)]) :: objs g) = fO (objs (newG g k d)) := by
  refine fO_node (g' := newG g k d) ⟨Nat.succ_pos _, Nat.le_refl _⟩ ?_ (fun q => ?_) rfl rfl (fun j hj h0 h1 => ?_)
  · show [D.s (upd g.key (g.n + 1) k (g.n + 1)), upd g.val (g.n + 1) d (g.n + 1), pD (upd g.nw (g.n + 1) 0 (g.n + 1)), pD (upd g.ls (g.n + 1) 0 (g.n + 1))] = _
    rw [upd_same, upd_same, upd_same, upd_same]
    rfl
  · constructor
    · intro h
      have h : q ∈ idsG (g.n + 1) := h
      unfold idsG at h
      rcases List.mem_cons.1 h with rfl | h
      · exact .inl (by simp [idsG])
      rcases List.mem_cons.1 h with rfl | h
      · exact .inl (by simp [idsG])
      obtain ⟨i, hi, rfl⟩ := List.mem_map.1 h
      have hi : i < g.n + 1 := by simpa using hi
      by_cases e : i = g.n
      · exact .inr (by rw [e])
      · exact .inl (mem_ids ⟨by omega, by omega⟩)
    · rintro (h | rfl)
      · exact ids_sub (Nat.le_succ _) q h
      · exact mem_ids ⟨Nat.succ_pos _, Nat.le_refl _⟩
  · have h1 : j ≤ g.n + 1 := h1
    refine ⟨by omega, ?_⟩
    show [D.s (upd g.key (g.n + 1) k j), upd g.val (g.n + 1) d j, pD (upd g.nw (g.n + 1) 0 j), pD (upd g.ls (g.n + 1) 0 j)] = _
    rw [upd_ne hj, upd_ne hj, upd_ne hj, upd_ne hj]
    rfl

theorem lab_new (g : Rg) : look (lab (g.n + 1)) (objs g) = none := look_objs_none fun h => by
  unfold idsG at h
  rcases List.mem_cons.1 h with h | h
  · exact lab_ne0 _ h
  rcases List.mem_cons.1 h with h | h
  · exact lab_ne1 _ h
  obtain ⟨i, hi, he⟩ := List.mem_map.1 h
  have hi : i < g.n := by simpa using hi
  have := lab_inj.1 he
  omega

section
variable {X : Ctx} {n : Nat} {all rest : List Oper} {fr : Fr} {tr : List (List Nat × List Nat)} {K : Fr → Ow → List (List Nat × List Nat) → Prop}
variable {t : Nat} {ty ty' : TypeId} {ps : String} {af : Array Edge} {x : Operand} {g : Rg} {k : List UInt8} {d : D}
theorem r_boxG (hx : ev fr x = .ag [.s k, d, .v (.pointer none), .v (.pointer none)]) (h1 : d.one = true) (hn : Nat.blt t n = true)
    (h : CT Try.prog X n all rest ((t, .pv (lab (g.n + 1)) 0) :: fr) (objs (newG g k d)) (tr ++ [([lab (g.n + 1)], [lab (g.n + 1)])]) K) : CT Try.prog X n all (⟨some t, .box ty x, ty', ps, af, none⟩ :: rest) fr (objs g) tr K := by
  refine r_boxAt (lab (g.n + 1)) hx rfl (by show (true && (d.one && (true && (true && true)))) = true; rw [h1]; rfl) (lab_new g) hn ?_
  obtain ⟨es, fr2, ow2, hc, hK⟩ := h
  refine ⟨es, fr2, ow2, ?_, hK⟩
  rw [show (D.ag [.s k, d, .v (.pointer none), .v (.pointer none)]).cells = [.s k, d, .v (.pointer none), .v (.pointer none)] from rfl, fO_new]
  exact hc
end

/-! ### Clone -/
theorem und_ptr : Try.prog.underlying 25 = some (.pointer 57) := by kernel_rfl

theorem wk_clone {len : Nat} {f c : Nat → List D} (h : ∀ j, j < len → ∃ n, f j = [.i .u8 n]) : Weak (.sl 1 (0 + len) (catF 0 c len f)) (.sl 1 len f) := by
  have e : ∀ i, i < 0 + len → catF 0 c len f i = f i := fun i hi => by
    unfold catF
    rw [if_neg (by omega), if_pos (by omega), Nat.sub_zero]
  rw [Nat.zero_add] at e ⊢
  refine .sl _ _ _ _ (fun i hi => ?_) (fun i j hi hj => .of_eq (by rw [e i hi]))
  rw [e i hi]
  refine ⟨rfl, ?_⟩
  obtain ⟨v, hv⟩ := h i hi
  rw [hv]
  rfl

theorem wk_0 {len m : Nat} {f c : Nat → List D} (h0 : len = 0) (hm : m = 0) : Weak (.sl 1 m c) (.sl 1 len f) := by
  subst hm
  subst h0
  exact .sl _ _ _ _ (fun i hi => by omega) (fun i j hi hj => by omega)

theorem wk_nil {len : Nat} {f : Nat → List D} (h0 : len = 0) : Weak .nilS (.sl 1 len f) := by
  subst h0
  exact .nil ..

theorem clone1_ctr (len : Nat) (f : Nat → List D) (hf : ∀ j, j < len → ∃ n, f j = [.i .u8 n]) (hl : len ≤ 1000000) : Ctr Try.prog 22 [.sl 1 len f] (.sl 1 len f) := by
  refine r_fun Try.func22 rfl Try.ntmps22 Try.results22 rfl rfl fun X hL hX => ?_
  rcases Nat.eq_zero_or_pos len with h0 | h0
  · refine T.slcase 0 1 f (by rw [h0]; rfl) ?_ ?_
    · skip
      repeat' (first
        | with_reducible refine t_seq ?_ | with_reducible refine t_region ?_ | with_reducible refine c_nil ?_ | with_reducible refine n_then ?_
        | with_reducible refine t_ret ?_ | with_reducible refine t_skip ?_ | with_reducible refine t_exit ?_ | with_reducible refine t_block ?_
        | with_reducible refine n_block ?_ | with_reducible refine e_then ?_ | with_reducible refine x_then ?_ | with_reducible refine x_block ?_ | with_reducible refine t_draw ?_
        | refine r_val rfl rfl True.intro ?_ | refine r_gskip rfl rfl rfl ?_ | refine r_gskip2 rfl rfl rfl ?_ | refine r_gval rfl rfl rfl rfl True.intro ?_
        | refine t_true rfl ?_ | refine t_false rfl ?_
        | ((first | refine t_cond_d rfl (fun _ => ?_) (fun _ => ?_) | refine t_cond_i rfl (fun _ => ?_) (fun _ => ?_) | refine t_cond_j rfl (fun _ => ?_) (fun _ => ?_) | refine t_cond_s rfl (fun _ => ?_) (fun _ => ?_) | refine t_cond_n rfl (fun _ => ?_) (fun _ => ?_) | refine t_cond rfl (fun _ => ?_) (fun _ => ?_) | refine c_split_d rfl rfl (fun _ => ?_) (fun _ => ?_) | refine c_split_i rfl rfl (fun _ => ?_) (fun _ => ?_) | refine c_split_j rfl rfl (fun _ => ?_) (fun _ => ?_) | refine c_split_s rfl rfl (fun _ => ?_) (fun _ => ?_) | refine c_split_n rfl rfl (fun _ => ?_) (fun _ => ?_)) <;> try (first | contradiction | (exfalso; omega)))
        | refine r_val rfl rfl (by (first | omega | exact Nat.le_of_ble_eq_true rfl | (simp_all; done) | (simp_all; omega) | ((repeat' refine And.intro ?_ ?_) <;> first | omega | rfl | exact Nat.le_refl _ | exact Nat.le_of_ble_eq_true rfl | exact bytesF_one _ | (simp_all; done) | (simp_all; omega)))) ?_ | refine r_gval rfl rfl rfl rfl (by (first | omega | exact Nat.le_of_ble_eq_true rfl | (simp_all; done) | (simp_all; omega) | ((repeat' refine And.intro ?_ ?_) <;> first | omega | rfl | exact Nat.le_refl _ | exact Nat.le_of_ble_eq_true rfl | exact bytesF_one _ | (simp_all; done) | (simp_all; omega)))) ?_
        | refine r_obj rfl rfl (by (first | omega | exact Nat.le_of_ble_eq_true rfl | (simp_all; done) | (simp_all; omega) | ((repeat' refine And.intro ?_ ?_) <;> first | omega | rfl | exact Nat.le_refl _ | exact Nat.le_of_ble_eq_true rfl | exact bytesF_one _ | (simp_all; done) | (simp_all; omega)))) ?_ | refine r_sto rfl (by (first | omega | exact Nat.le_of_ble_eq_true rfl | (simp_all; done) | (simp_all; omega) | ((repeat' refine And.intro ?_ ?_) <;> first | omega | rfl | exact Nat.le_refl _ | exact Nat.le_of_ble_eq_true rfl | exact bytesF_one _ | (simp_all; done) | (simp_all; omega)))) ?_ | refine r_gobj rfl rfl rfl rfl (by (first | omega | exact Nat.le_of_ble_eq_true rfl | (simp_all; done) | (simp_all; omega) | ((repeat' refine And.intro ?_ ?_) <;> first | omega | rfl | exact Nat.le_refl _ | exact Nat.le_of_ble_eq_true rfl | exact bytesF_one _ | (simp_all; done) | (simp_all; omega)))) ?_
        | refine e_hit rfl ?_ | refine e_miss rfl ?_
        | refine ⟨by kernel_rfl, ?_⟩ | refine x_endw rfl (wk_clone hf) | refine n_endw rfl (wk_clone hf) | refine x_endw rfl (wk_nil h0) | refine n_endw rfl (wk_nil h0) | refine x_endw rfl (wk_0 h0 rfl) | refine n_endw rfl (wk_0 h0 rfl) | ((with_reducible refine c_grd ?_); (fail_if_success (refine c_lit true rfl rfl rfl ?_)); (fail_if_success (refine c_lit false rfl rfl rfl ?_)); refine c_split rfl rfl (fun _ => ?_) (fun _ => ?_)))
    · skip
      repeat' (first
        | with_reducible refine t_seq ?_ | with_reducible refine t_region ?_ | with_reducible refine c_nil ?_ | with_reducible refine n_then ?_
        | with_reducible refine t_ret ?_ | with_reducible refine t_skip ?_ | with_reducible refine t_exit ?_ | with_reducible refine t_block ?_
        | with_reducible refine n_block ?_ | with_reducible refine e_then ?_ | with_reducible refine x_then ?_ | with_reducible refine x_block ?_ | with_reducible refine t_draw ?_
        | refine r_val rfl rfl True.intro ?_ | refine r_gskip rfl rfl rfl ?_ | refine r_gskip2 rfl rfl rfl ?_ | refine r_gval rfl rfl rfl rfl True.intro ?_
        | refine t_true rfl ?_ | refine t_false rfl ?_
        | ((first | refine t_cond_d rfl (fun _ => ?_) (fun _ => ?_) | refine t_cond_i rfl (fun _ => ?_) (fun _ => ?_) | refine t_cond_j rfl (fun _ => ?_) (fun _ => ?_) | refine t_cond_s rfl (fun _ => ?_) (fun _ => ?_) | refine t_cond_n rfl (fun _ => ?_) (fun _ => ?_) | refine t_cond rfl (fun _ => ?_) (fun _ => ?_) | refine c_split_d rfl rfl (fun _ => ?_) (fun _ => ?_) | refine c_split_i rfl rfl (fun _ => ?_) (fun _ => ?_) | refine c_split_j rfl rfl (fun _ => ?_) (fun _ => ?_) | refine c_split_s rfl rfl (fun _ => ?_) (fun _ => ?_) | refine c_split_n rfl rfl (fun _ => ?_) (fun _ => ?_)) <;> try (first | contradiction | (exfalso; omega)))
        | refine r_val rfl rfl (by (first | omega | exact Nat.le_of_ble_eq_true rfl | (simp_all; done) | (simp_all; omega) | ((repeat' refine And.intro ?_ ?_) <;> first | omega | rfl | exact Nat.le_refl _ | exact Nat.le_of_ble_eq_true rfl | exact bytesF_one _ | (simp_all; done) | (simp_all; omega)))) ?_ | refine r_gval rfl rfl rfl rfl (by (first | omega | exact Nat.le_of_ble_eq_true rfl | (simp_all; done) | (simp_all; omega) | ((repeat' refine And.intro ?_ ?_) <;> first | omega | rfl | exact Nat.le_refl _ | exact Nat.le_of_ble_eq_true rfl | exact bytesF_one _ | (simp_all; done) | (simp_all; omega)))) ?_
        | refine r_obj rfl rfl (by (first | omega | exact Nat.le_of_ble_eq_true rfl | (simp_all; done) | (simp_all; omega) | ((repeat' refine And.intro ?_ ?_) <;> first | omega | rfl | exact Nat.le_refl _ | exact Nat.le_of_ble_eq_true rfl | exact bytesF_one _ | (simp_all; done) | (simp_all; omega)))) ?_ | refine r_sto rfl (by (first | omega | exact Nat.le_of_ble_eq_true rfl | (simp_all; done) | (simp_all; omega) | ((repeat' refine And.intro ?_ ?_) <;> first | omega | rfl | exact Nat.le_refl _ | exact Nat.le_of_ble_eq_true rfl | exact bytesF_one _ | (simp_all; done) | (simp_all; omega)))) ?_ | refine r_gobj rfl rfl rfl rfl (by (first | omega | exact Nat.le_of_ble_eq_true rfl | (simp_all; done) | (simp_all; omega) | ((repeat' refine And.intro ?_ ?_) <;> first | omega | rfl | exact Nat.le_refl _ | exact Nat.le_of_ble_eq_true rfl | exact bytesF_one _ | (simp_all; done) | (simp_all; omega)))) ?_
        | refine e_hit rfl ?_ | refine e_miss rfl ?_
        | refine ⟨by kernel_rfl, ?_⟩ | refine x_endw rfl (wk_clone hf) | refine n_endw rfl (wk_clone hf) | refine x_endw rfl (wk_nil h0) | refine n_endw rfl (wk_nil h0) | refine x_endw rfl (wk_0 h0 rfl) | refine n_endw rfl (wk_0 h0 rfl) | ((with_reducible refine c_grd ?_); (fail_if_success (refine c_lit true rfl rfl rfl ?_)); (fail_if_success (refine c_lit false rfl rfl rfl ?_)); refine c_split rfl rfl (fun _ => ?_) (fun _ => ?_)))
  · skip
    repeat' (first
      | with_reducible refine t_seq ?_ | with_reducible refine t_region ?_ | with_reducible refine c_nil ?_ | with_reducible refine n_then ?_
      | with_reducible refine t_ret ?_ | with_reducible refine t_skip ?_ | with_reducible refine t_exit ?_ | with_reducible refine t_block ?_
      | with_reducible refine n_block ?_ | with_reducible refine e_then ?_ | with_reducible refine x_then ?_ | with_reducible refine x_block ?_ | with_reducible refine t_draw ?_
      | refine r_val rfl rfl True.intro ?_ | refine r_gskip rfl rfl rfl ?_ | refine r_gskip2 rfl rfl rfl ?_ | refine r_gval rfl rfl rfl rfl True.intro ?_
      | refine t_true rfl ?_ | refine t_false rfl ?_
      | ((first | refine t_cond_d rfl (fun _ => ?_) (fun _ => ?_) | refine t_cond_i rfl (fun _ => ?_) (fun _ => ?_) | refine t_cond_j rfl (fun _ => ?_) (fun _ => ?_) | refine t_cond_s rfl (fun _ => ?_) (fun _ => ?_) | refine t_cond_n rfl (fun _ => ?_) (fun _ => ?_) | refine t_cond rfl (fun _ => ?_) (fun _ => ?_) | refine c_split_d rfl rfl (fun _ => ?_) (fun _ => ?_) | refine c_split_i rfl rfl (fun _ => ?_) (fun _ => ?_) | refine c_split_j rfl rfl (fun _ => ?_) (fun _ => ?_) | refine c_split_s rfl rfl (fun _ => ?_) (fun _ => ?_) | refine c_split_n rfl rfl (fun _ => ?_) (fun _ => ?_)) <;> try (first | contradiction | (exfalso; omega)))
      | refine r_val rfl rfl (by (first | omega | exact Nat.le_of_ble_eq_true rfl | (simp_all; done) | (simp_all; omega) | ((repeat' refine And.intro ?_ ?_) <;> first | omega | rfl | exact Nat.le_refl _ | exact Nat.le_of_ble_eq_true rfl | exact bytesF_one _ | (simp_all; done) | (simp_all; omega)))) ?_ | refine r_gval rfl rfl rfl rfl (by (first | omega | exact Nat.le_of_ble_eq_true rfl | (simp_all; done) | (simp_all; omega) | ((repeat' refine And.intro ?_ ?_) <;> first | omega | rfl | exact Nat.le_refl _ | exact Nat.le_of_ble_eq_true rfl | exact bytesF_one _ | (simp_all; done) | (simp_all; omega)))) ?_
      | refine r_obj rfl rfl (by (first | omega | exact Nat.le_of_ble_eq_true rfl | (simp_all; done) | (simp_all; omega) | ((repeat' refine And.intro ?_ ?_) <;> first | omega | rfl | exact Nat.le_refl _ | exact Nat.le_of_ble_eq_true rfl | exact bytesF_one _ | (simp_all; done) | (simp_all; omega)))) ?_ | refine r_sto rfl (by (first | omega | exact Nat.le_of_ble_eq_true rfl | (simp_all; done) | (simp_all; omega) | ((repeat' refine And.intro ?_ ?_) <;> first | omega | rfl | exact Nat.le_refl _ | exact Nat.le_of_ble_eq_true rfl | exact bytesF_one _ | (simp_all; done) | (simp_all; omega)))) ?_ | refine r_gobj rfl rfl rfl rfl (by (first | omega | exact Nat.le_of_ble_eq_true rfl | (simp_all; done) | (simp_all; omega) | ((repeat' refine And.intro ?_ ?_) <;> first | omega | rfl | exact Nat.le_refl _ | exact Nat.le_of_ble_eq_true rfl | exact bytesF_one _ | (simp_all; done) | (simp_all; omega)))) ?_
      | refine e_hit rfl ?_ | refine e_miss rfl ?_
      | refine ⟨by kernel_rfl, ?_⟩ | refine x_endw rfl (wk_clone hf) | refine n_endw rfl (wk_clone hf) | refine x_endw rfl (wk_nil h0) | refine n_endw rfl (wk_nil h0) | refine x_endw rfl (wk_0 h0 rfl) | refine n_endw rfl (wk_0 h0 rfl) | ((with_reducible refine c_grd ?_); (fail_if_success (refine c_lit true rfl rfl rfl ?_)); (fail_if_success (refine c_lit false rfl rfl rfl ?_)); refine c_split rfl rfl (fun _ => ?_) (fun _ => ?_)))

/-! ### Get -/
theorem ring_cong {g g' : Rg} {L : List Nat} (h : Ring g L) (h1 : g'.n = g.n) (h2 : g'.es = g.es) (h3 : g'.key = g.key) (h4 : g'.val = g.val) (h5 : g'.nw = g.nw) (h6 : g'.ls = g.ls) : Ring g' L :=
  ⟨⟨by rw [h1]; exact h.wf.pos, fun i a b => by rw [h1, h4, h5, h6]; exact h.wf.nd i a (by omega), fun p hp => by rw [h1]; exact h.wf.mp p (by rw [← h2]; exact hp)⟩, fun i hi => by rw [h1]; exact h.ent i hi, h.nd,
    chn_congr h.ch (fun _ _ => by rw [h6]) (fun _ _ => by rw [h5]), by rw [h2]; exact h.mpP, fun p hp => by rw [h3]; exact h.mpK p (by rw [← h2]; exact hp), by rw [h2]; exact h.mpN, fun i hi => by rw [h4]; exact h.vals i hi⟩

def getG (g : Rg) (k : List UInt8) : Rg := match nget k g.es with
  | some i => useG (cutG { g with h := g.h + 1 } i) i
  | none => { g with m := g.m + 1 }
def gotV (g : Rg) (k : List UInt8) : D := match nget k g.es with
  | some i => .tu [g.val i, .b true]
  | none => .tu [.nilS, .b false]

theorem getG_some {g : Rg} {k : List UInt8} {i : Nat} (h : nget k g.es = some i) : getG g k = useG (cutG { g with h := g.h + 1 } i) i ∧ gotV g k = .tu [g.val i, .b true] := by
  unfold getG gotV
  rw [h]
  exact ⟨rfl, rfl⟩
theorem getG_none {g : Rg} {k : List UInt8} (h : nget k g.es = none) : getG g k = { g with m := g.m + 1 } ∧ gotV g k = .tu [.nilS, .b false] := by
  unfold getG gotV
  rw [h]
  exact ⟨rfl, rfl⟩

set_option maxRecDepth 100000 in
theorem get_ctr (g : Rg) (L : List Nat) (k : List UInt8) (h : Ring g L) (hs : Size g L) (hh : 0 ≤ g.h ∧ g.h ≤ 1000000) (hm : 0 ≤ g.m ∧ g.m ≤ 1000000) : CtrO Try.prog 10 [.pv 9000 0, .s k] (objs g) (gotV g k) (objs (getG g k)) := by
  cases hg : nget k g.es with
  | none =>
    rw [(getG_none hg).1, (getG_none hg).2]
    have hw2 : Wf0 { g with m := g.m + 1 } := ⟨h.wf.pos, h.wf.nd, h.wf.mp⟩
    refine r_methM Try.func10 rfl Try.ntmps10 Try.results10 rfl (objs_ids g) (objs_ids { g with m := g.m + 1 }) rfl (objs_okIn hw2) fun X hL hX => ?_
    repeat' (first
      | refine r_pnil und_ptr rfl rfl rfl ?_ | refine r_ldC2 (g := g) rfl rfl rfl (look_cache _) ?_ | refine r_nmiss (g := g) und_map Try.underlying9 rfl rfl rfl (look_map g) hg rfl ?_ | refine r_ldC6 rfl rfl rfl (look_cache _) ?_ | refine r_stMs rfl rfl rfl ?_ | refine ⟨flowOk_col (by kernel_rfl), ?_⟩
      | with_reducible refine t_seq ?_ | with_reducible refine t_region ?_ | with_reducible refine c_nil ?_ | with_reducible refine n_then ?_
      | with_reducible refine t_ret ?_ | with_reducible refine t_skip ?_ | with_reducible refine t_exit ?_ | with_reducible refine t_block ?_
      | with_reducible refine n_block ?_ | with_reducible refine e_then ?_ | with_reducible refine x_then ?_ | with_reducible refine x_block ?_ | with_reducible refine t_draw ?_
      | refine r_val rfl rfl True.intro ?_ | refine r_gskip rfl rfl rfl ?_ | refine r_gskip2 rfl rfl rfl ?_ | refine r_gval rfl rfl rfl rfl True.intro ?_
      | refine t_true rfl ?_ | refine t_false rfl ?_
      | ((first | refine t_cond_d rfl (fun _ => ?_) (fun _ => ?_) | refine t_cond_i rfl (fun _ => ?_) (fun _ => ?_) | refine t_cond_j rfl (fun _ => ?_) (fun _ => ?_) | refine t_cond_s rfl (fun _ => ?_) (fun _ => ?_) | refine t_cond_n rfl (fun _ => ?_) (fun _ => ?_) | refine t_cond rfl (fun _ => ?_) (fun _ => ?_) | refine c_split_d rfl rfl (fun _ => ?_) (fun _ => ?_) | refine c_split_i rfl rfl (fun _ => ?_) (fun _ => ?_) | refine c_split_j rfl rfl (fun _ => ?_) (fun _ => ?_) | refine c_split_s rfl rfl (fun _ => ?_) (fun _ => ?_) | refine c_split_n rfl rfl (fun _ => ?_) (fun _ => ?_)) <;> try (first | contradiction | (exfalso; omega)))
      | refine r_val rfl rfl (by (first | omega | exact Nat.le_of_ble_eq_true rfl | (simp_all; done) | (simp_all; omega) | ((repeat' refine And.intro ?_ ?_) <;> first | omega | rfl | exact Nat.le_refl _ | exact Nat.le_of_ble_eq_true rfl | exact bytesF_one _ | (simp_all; done) | (simp_all; omega)))) ?_ | refine r_gval rfl rfl rfl rfl (by (first | omega | exact Nat.le_of_ble_eq_true rfl | (simp_all; done) | (simp_all; omega) | ((repeat' refine And.intro ?_ ?_) <;> first | omega | rfl | exact Nat.le_refl _ | exact Nat.le_of_ble_eq_true rfl | exact bytesF_one _ | (simp_all; done) | (simp_all; omega)))) ?_
      | refine r_obj rfl rfl (by (first | omega | exact Nat.le_of_ble_eq_true rfl | (simp_all; done) | (simp_all; omega) | ((repeat' refine And.intro ?_ ?_) <;> first | omega | rfl | exact Nat.le_refl _ | exact Nat.le_of_ble_eq_true rfl | exact bytesF_one _ | (simp_all; done) | (simp_all; omega)))) ?_ | refine r_sto rfl (by (first | omega | exact Nat.le_of_ble_eq_true rfl | (simp_all; done) | (simp_all; omega) | ((repeat' refine And.intro ?_ ?_) <;> first | omega | rfl | exact Nat.le_refl _ | exact Nat.le_of_ble_eq_true rfl | exact bytesF_one _ | (simp_all; done) | (simp_all; omega)))) ?_ | refine r_gobj rfl rfl rfl rfl (by (first | omega | exact Nat.le_of_ble_eq_true rfl | (simp_all; done) | (simp_all; omega) | ((repeat' refine And.intro ?_ ?_) <;> first | omega | rfl | exact Nat.le_refl _ | exact Nat.le_of_ble_eq_true rfl | exact bytesF_one _ | (simp_all; done) | (simp_all; omega)))) ?_
      | refine e_hit rfl ?_ | refine e_miss rfl ?_
      | refine ⟨by kernel_rfl, ?_⟩ | refine n_endM rfl rfl ⟨leOw_self _⟩ | refine x_endM rfl rfl ⟨leOw_self _⟩ | ((with_reducible refine c_grd ?_); (fail_if_success (refine c_lit true rfl rfl rfl ?_)); (fail_if_success (refine c_lit false rfl rfl rfl ?_)); refine c_split rfl rfl (fun _ => ?_) (fun _ => ?_)))
  | some i =>
    rw [(getG_some hg).1, (getG_some hg).2]
    obtain ⟨hiL, hik⟩ := ring_get h hg
    obtain ⟨a, b, rfl⟩ := List.append_of_mem hiL
    have h' : Ring { g with h := g.h + 1 } (a ++ i :: b) := ring_cong h rfl rfl rfl rfl rfl rfl
    obtain ⟨l1, l2, l3, l4⟩ := ring_links h'
    obtain ⟨m1, m2⟩ := ring_move h'
    have hb := h.vals i hiL
    have hvl : lenOf (g.val i) ≤ 1000000 := by
      have := hs.big
      have := sumL_mem (show (g.key i, g.val i) ∈ ents g (a ++ i :: b) from List.mem_map.2 ⟨i, hiL, rfl⟩)
      simp only [esz] at this
      omega
    have hfree : (g.val i).free = true := by rw [hb.1]; rfl
    have hdv : (D.tu [g.val i, .b true]).okIn (idsG g.n) = true := by
      rw [hb.1]
      rfl
    have hi2 : 0 < i ∧ i ≤ g.n := ⟨l3, l4⟩
    have he : D.tu [.sl 1 (lenOf (g.val i)) (funOf (g.val i)), .b true] = .tu [g.val i, .b true] := congrArg (fun v => D.tu [v, .b true]) hb.1.symm
    have hok : ([D.pv 9000 0, D.pv (lab i) 0].map (lendA (idsG g.n))).all (D.okIn (idsG g.n)) = true := by simp [lendA, D.okIn, memB_lab hi2, memB_c]
    have hwc : Wf0 (cutG { g with h := g.h + 1 } i) := wf_cut h'.wf hi2
    refine r_methM Try.func10 rfl Try.ntmps10 Try.results10 rfl (objs_ids g) (objs_ids (useG (cutG { g with h := g.h + 1 } i) i)) hdv (objs_okIn m1.wf) fun X hL hX => ?_
    repeat' (first
      | refine r_pnil und_ptr rfl rfl rfl ?_ | refine r_ldC2 (g := g) rfl rfl rfl (look_cache _) ?_ | refine r_nhit (g := g) und_map Try.underlying9 rfl rfl (look_map g) hg rfl ?_ | refine r_ldC5 rfl rfl rfl (look_cache _) ?_ | refine r_stHt rfl rfl rfl ?_ | refine r_lendG (f := 25) (g := { g with h := g.h + 1 }) (g' := cutG { g with h := g.h + 1 } i) [] rfl (Nat.le_refl _) h'.wf hwc rfl rfl Try.call25 hok rfl (cut_ctr { g with h := g.h + 1 } i h'.wf hi2 l1 l2) ?_ | refine r_lendG (f := 23) (g := cutG { g with h := g.h + 1 } i) (g' := useG (cutG { g with h := g.h + 1 } i) i) [] rfl (Nat.le_refl _) hwc m1.wf rfl rfl Try.call23 hok rfl (use_ctr (cutG { g with h := g.h + 1 } i) i hwc hi2 m2) ?_ | refine r_ldV (i := i) rfl rfl rfl (look_node hi2) hb.1 ?_ | refine r_call (f := 22) rfl rfl Try.call22 rfl (clone1_ctr (lenOf (g.val i)) (funOf (g.val i)) hb.2 hvl) ?_ | refine ⟨flowOk_col (by kernel_rfl), ?_⟩
      | with_reducible refine t_seq ?_ | with_reducible refine t_region ?_ | with_reducible refine c_nil ?_ | with_reducible refine n_then ?_
      | with_reducible refine t_ret ?_ | with_reducible refine t_skip ?_ | with_reducible refine t_exit ?_ | with_reducible refine t_block ?_
      | with_reducible refine n_block ?_ | with_reducible refine e_then ?_ | with_reducible refine x_then ?_ | with_reducible refine x_block ?_ | with_reducible refine t_draw ?_
      | refine r_val rfl rfl True.intro ?_ | refine r_gskip rfl rfl rfl ?_ | refine r_gskip2 rfl rfl rfl ?_ | refine r_gval rfl rfl rfl rfl True.intro ?_
      | refine t_true rfl ?_ | refine t_false rfl ?_
      | ((first | refine t_cond_d rfl (fun _ => ?_) (fun _ => ?_) | refine t_cond_i rfl (fun _ => ?_) (fun _ => ?_) | refine t_cond_j rfl (fun _ => ?_) (fun _ => ?_) | refine t_cond_s rfl (fun _ => ?_) (fun _ => ?_) | refine t_cond_n rfl (fun _ => ?_) (fun _ => ?_) | refine t_cond rfl (fun _ => ?_) (fun _ => ?_) | refine c_split_d rfl rfl (fun _ => ?_) (fun _ => ?_) | refine c_split_i rfl rfl (fun _ => ?_) (fun _ => ?_) | refine c_split_j rfl rfl (fun _ => ?_) (fun _ => ?_) | refine c_split_s rfl rfl (fun _ => ?_) (fun _ => ?_) | refine c_split_n rfl rfl (fun _ => ?_) (fun _ => ?_)) <;> try (first | contradiction | (exfalso; omega)))
      | refine r_val rfl rfl (by (first | omega | exact Nat.le_of_ble_eq_true rfl | (simp_all; done) | (simp_all; omega) | ((repeat' refine And.intro ?_ ?_) <;> first | omega | rfl | exact Nat.le_refl _ | exact Nat.le_of_ble_eq_true rfl | exact bytesF_one _ | (simp_all; done) | (simp_all; omega)))) ?_ | refine r_gval rfl rfl rfl rfl (by (first | omega | exact Nat.le_of_ble_eq_true rfl | (simp_all; done) | (simp_all; omega) | ((repeat' refine And.intro ?_ ?_) <;> first | omega | rfl | exact Nat.le_refl _ | exact Nat.le_of_ble_eq_true rfl | exact bytesF_one _ | (simp_all; done) | (simp_all; omega)))) ?_
      | refine r_obj rfl rfl (by (first | omega | exact Nat.le_of_ble_eq_true rfl | (simp_all; done) | (simp_all; omega) | ((repeat' refine And.intro ?_ ?_) <;> first | omega | rfl | exact Nat.le_refl _ | exact Nat.le_of_ble_eq_true rfl | exact bytesF_one _ | (simp_all; done) | (simp_all; omega)))) ?_ | refine r_sto rfl (by (first | omega | exact Nat.le_of_ble_eq_true rfl | (simp_all; done) | (simp_all; omega) | ((repeat' refine And.intro ?_ ?_) <;> first | omega | rfl | exact Nat.le_refl _ | exact Nat.le_of_ble_eq_true rfl | exact bytesF_one _ | (simp_all; done) | (simp_all; omega)))) ?_ | refine r_gobj rfl rfl rfl rfl (by (first | omega | exact Nat.le_of_ble_eq_true rfl | (simp_all; done) | (simp_all; omega) | ((repeat' refine And.intro ?_ ?_) <;> first | omega | rfl | exact Nat.le_refl _ | exact Nat.le_of_ble_eq_true rfl | exact bytesF_one _ | (simp_all; done) | (simp_all; omega)))) ?_
      | refine e_hit rfl ?_ | refine e_miss rfl ?_
      | refine ⟨by kernel_rfl, ?_⟩ | refine n_endM rfl he ⟨leOw_self _⟩ | refine x_endM rfl he ⟨leOw_self _⟩ | ((with_reducible refine c_grd ?_); (fail_if_success (refine c_lit true rfl rfl rfl ?_)); (fail_if_success (refine c_lit false rfl rfl rfl ?_)); refine c_split rfl rfl (fun _ => ?_) (fun _ => ?_)))

end Go.Proofs.Ytghhohckonbkkaa.Flow

/- LRU: Put. -/
namespace Go.Proofs.Ytghhohckonbkkaa.Flow
open Go

/-- FROM A BODY TO A CONTRACT WITH OBJECTS LENT, new ones handed back beside them. -/
theorem r_methN {f : FuncId} {args : List D} {d : D} {fn : Func} {c : Code} {N : Nat} {rs : List ResultVar} {lo lo' : Ow} {ids ids2 : List Nat} (hf : Try.prog.funcs[f]? = some fn) (hb : fn.body = some c) (hN : fn.ntmps = N) (hrs : fn.results = ⟨rs⟩) (hlen : Nat.ble args.length N = true)
    (hi1 : lo.map (·.1) = ids) (hi2 : lo'.map (·.1) = ids2) (hsub : ∀ k ∈ ids, k ∈ ids2) (hd : d.okIn ids2 = true) (hcs : lo'.all (fun x => x.2.okIn ids2) = true)
    (h : ∀ X : Ctx, Lent X → X.ids = ids → T Try.prog X N c (slots 0 args) lo (EndsM rs d lo')) : CtrO Try.prog f args lo d lo' := by
  refine CtrO.of_TU hf hb hN hrs (by simpa using hlen) fun X hL hi => (h X hL (hi.trans hi1)).mono fun e fr2 ow2 hq => ?_
  have key : ∀ d2, resU B fr2 ow2 rs = some d2 → Weak d2 d → leOw ow2 lo' →
      ∃ d2, resU (tb Try.prog) fr2 ow2 rs = some d2 ∧ Weak d2 d ∧ d.okIn (lo'.map (·.1)) = true ∧ Le X fr2 ow2 [] lo' := by
    intro d2 h1 h2 h3
    refine ⟨d2, by rw [tb_eq]; exact h1, h2, by rw [hi2]; exact hd, trivial, h3, ?_, fun k hk => ?_⟩
    · rw [hi2]
      simp only [okAll, List.all_nil, Bool.true_and]
      exact hcs
    · rw [hi, hi1] at hk
      rw [hi2]
      exact hsub k hk
  cases e with
  | ret => obtain ⟨d2, h1, h2, h3⟩ := hq; exact ⟨.inl rfl, key d2 h1 h2 h3⟩
  | normal => obtain ⟨d2, h1, h2, h3⟩ := hq; exact ⟨.inr rfl, key d2 h1 h2 h3⟩
  | _ => exact hq.elim

/-- What must hold where a function ends to which objects were lent, its result read as a slice that stays. -/
def EndsD (rs : List ResultVar) (d : D) (lo : Ow) (e : Exit) (fr : Fr) (ow : Ow) : Prop :=
  match e with
  | .ret | .normal => ∃ d2, resD B fr ow rs = some d2 ∧ Weak d2 d ∧ leOw ow lo
  | _ => False

theorem x_endD {fr : Fr} {ow : Ow} {rs : List ResultVar} {d d2 : D} {lo : Ow} (h : resD B fr ow rs = some d2) (he : Weak d2 d) (hlo : Stay (leOw ow lo)) : Rtn (EndsD rs d lo) fr ow := by
  unfold Rtn
  exact ⟨d2, h, he, hlo.out⟩
theorem n_endD {fr : Fr} {ow : Ow} {rs : List ResultVar} {d d2 : D} {lo : Ow} (h : resD B fr ow rs = some d2) (he : Weak d2 d) (hlo : Stay (leOw ow lo)) : Nrm (EndsD rs d lo) fr ow := by
  unfold Nrm
  exact ⟨d2, h, he, hlo.out⟩

theorem r_methD {f : FuncId} {args : List D} {d : D} {fn : Func} {c : Code} {N : Nat} {rs : List ResultVar} {lo lo' : Ow} {ids : List Nat} (hf : Try.prog.funcs[f]? = some fn) (hb : fn.body = some c) (hN : fn.ntmps = N) (hrs : fn.results = ⟨rs⟩) (hlen : Nat.ble args.length N = true)
    (hi1 : lo.map (·.1) = ids) (hi2 : lo'.map (·.1) = ids) (hd : d.okIn ids = true) (hcs : lo'.all (fun x => x.2.okIn ids) = true)
    (h : ∀ X : Ctx, Lent X → X.ids = ids → T Try.prog X N c (slots 0 args) lo (EndsD rs d lo')) : CtrO Try.prog f args lo d lo' := by
  refine CtrO.of_T hf hb hN hrs (by simpa using hlen) fun X hL hi => (h X hL (hi.trans hi1)).mono fun e fr2 ow2 hq => ?_
  have key : ∀ d2, resD B fr2 ow2 rs = some d2 → Weak d2 d → leOw ow2 lo' →
      ∃ d2, resD (tb Try.prog) fr2 ow2 rs = some d2 ∧ Weak d2 d ∧ d.okIn (lo'.map (·.1)) = true ∧ Le X fr2 ow2 [] lo' := by
    intro d2 h1 h2 h3
    refine ⟨d2, by rw [tb_eq]; exact h1, h2, by rw [hi2]; exact hd, trivial, h3, ?_, fun k hk => ?_⟩
    · rw [hi2]
      simp only [okAll, List.all_nil, Bool.true_and]
      exact hcs
    · rw [hi, hi1] at hk
      rw [hi2]
      exact hk
  cases e with
  | ret => obtain ⟨d2, h1, h2, h3⟩ := hq; exact ⟨.inl rfl, key d2 h1 h2 h3⟩
  | normal => obtain ⟨d2, h1, h2, h3⟩ := hq; exact ⟨.inr rfl, key d2 h1 h2 h3⟩
  | _ => exact hq.elim

theorem okAll_objs {g : Rg} (h : Wf0 g) : okAll ((objs g).map (·.1)) [(0, .pv 9000 0)] (objs g) = true := by
  unfold okAll
  rw [objs_ids, objs_okIn h]
  rfl

/-! ### Put -/
def p1G (g : Rg) (k : List UInt8) : Rg := match nget k g.es with
  | some i => dropG g i (lenOf (g.val i))
  | none => g
def p5G (g1 : Rg) (k : List UInt8) (d : D) : Rg := { addG g1 k d with sz := g1.sz + (k.length + lenOf d) }
def putG (g : Rg) (k : List UInt8) (d : D) : Rg := evG (p5G (p1G g k) k d).es.length (p5G (p1G g k) k d)

def putL (E M : Int) (l : List Ent) (k : List UInt8) (d : D) : List Ent := evL ((k, d) :: woL l k).length E M ((k, d) :: woL l k)

theorem p1_ring {g : Rg} {L : List Nat} (k : List UInt8) (h : Ring g L) (hs : Size g L) : ∃ L1, Ring (p1G g k) L1 ∧ Size (p1G g k) L1 ∧ (∀ i ∈ L1, (p1G g k).key i ≠ k) ∧ ents (p1G g k) L1 = woL (ents g L) k ∧ (p1G g k).n = g.n ∧ (p1G g k).E = g.E ∧ (p1G g k).M = g.M ∧ (p1G g k).h = g.h ∧ (p1G g k).m = g.m := by
  unfold p1G
  cases hg : nget k g.es with
  | none => exact ⟨L, h, hs, ring_none h hg, (ents_wo_none (ring_none h hg)).symm, rfl, rfl, rfl, rfl, rfl⟩
  | some i =>
    obtain ⟨hiL, hik⟩ := ring_get h hg
    obtain ⟨a, b, rfl⟩ := List.append_of_mem hiL
    have h2 := ring_drop h (lenOf (g.val i))
    refine ⟨a ++ b, h2, size_drop hs, fun j hj e => ?_, ?_, rfl, rfl, rfl, rfl, rfl⟩
    · have hj2 : j ∈ a ++ i :: b := by rcases List.mem_append.1 hj with h | h <;> simp [h]
      have e : g.key j = k := e
      have : j = i := ring_key h hj2 hiL (by rw [e, hik])
      subst this
      have hnd := h.nd
      rw [List.nodup_append] at hnd
      obtain ⟨n1, n2, n3⟩ := hnd
      rcases List.mem_append.1 hj with h | h
      · exact n3 j h j (by simp) rfl
      · exact (List.nodup_cons.1 n2).1 h
    · rw [← hik, ents_wo h]
      rfl

theorem p5_ring {g1 : Rg} {L1 : List Nat} {k : List UInt8} {d : D} (h : Ring g1 L1) (hs : Size g1 L1) (hk : ∀ i ∈ L1, g1.key i ≠ k) (hd : isB d) (hb : sumL (ents g1 L1) + (k.length + lenOf d) ≤ 1000000) :
    Ring (p5G g1 k d) ((g1.n + 1) :: L1) ∧ Size (p5G g1 k d) ((g1.n + 1) :: L1) ∧ ents (p5G g1 k d) ((g1.n + 1) :: L1) = (k, d) :: ents g1 L1 := by
  obtain ⟨r1, r2, r3⟩ := ring_new h hk hd
  have r3 : ents (p5G g1 k d) ((g1.n + 1) :: L1) = (k, d) :: ents g1 L1 := r3
  refine ⟨ring_cong r1 rfl rfl rfl rfl rfl rfl, ⟨?_, ?_⟩, r3⟩
  · rw [r3]
    have := hs.sz
    show g1.sz + ((k.length : Int) + (lenOf d : Int)) = ((esz (k, d) + sumL (ents g1 L1) : Nat) : Int)
    simp only [esz]
    omega
  · rw [r3]
    simp only [sumL, esz]
    omega

theorem evL_len (E M : Int) : ∀ (f : Nat) (l : List Ent), sumL (evL f E M l) ≤ sumL l
  | 0, _ => Nat.le_refl _
  | f + 1, l => by
    unfold evL
    split
    · refine Nat.le_trans (evL_len E M f _) ?_
      rcases List.eq_nil_or_concat l with rfl | ⟨a, p, rfl⟩
      · exact Nat.le_refl _
      · rw [List.concat_eq_append, List.dropLast_concat, sumL_app]
        omega
    · exact Nat.le_refl _

theorem put_ring {g : Rg} {L : List Nat} {k : List UInt8} {d : D} (h : Ring g L) (hs : Size g L) (hd : isB d) (hb : sumL (ents g L) + (k.length + lenOf d) ≤ 1000000) (hE : 0 ≤ g.E) (hM : 0 ≤ g.M) :
    ∃ L', Ring (putG g k d) L' ∧ Size (putG g k d) L' ∧ ents (putG g k d) L' = putL g.E g.M (ents g L) k d ∧ (putG g k d).n = g.n + 1 ∧ (putG g k d).E = g.E ∧ (putG g k d).M = g.M ∧ (putG g k d).h = g.h ∧ (putG g k d).m = g.m := by
  obtain ⟨L1, a1, a2, a3, a4, a5, a6, a7, a8, a9⟩ := p1_ring k h hs
  have hle : sumL (ents (p1G g k) L1) ≤ sumL (ents g L) := by
    rw [a4]
    generalize ents g L = l
    induction l with
    | nil => exact Nat.le_refl _
    | cons p r ih =>
      unfold woL at ih ⊢
      rw [List.filter_cons]
      split <;> simp only [sumL] <;> omega
  obtain ⟨b1, b2, b3⟩ := p5_ring a1 a2 a3 hd (by omega)
  obtain ⟨L', c1, c2, c3, c4, c5, c6, c7, c8⟩ := ev_ring (p5G (p1G g k) k d).es.length _ _ b1 b2 (by show 0 ≤ (p1G g k).E; rw [a6]; exact hE) (by show 0 ≤ (p1G g k).M; rw [a7]; exact hM)
  refine ⟨L', c1, c2, ?_, c6.trans (by show (p1G g k).n + 1 = _; rw [a5]), c4.trans a6, c5.trans a7, c7.trans a8, c8.trans a9⟩
  refine c3.trans ?_
  rw [es_len b1, b3, a4]
  show evL (L1.length + 1) (p1G g k).E (p1G g k).M _ = _
  rw [a6, a7]
  unfold putL
  have : L1.length = (woL (ents g L) k).length := by rw [← a4]; simp [ents]
  rw [this]
  rfl

set_option maxRecDepth 100000 in
theorem put_no (g : Rg) (k : List UInt8) (len : Nat) (f : Nat → List D) (hw : Wf0 g) (hc : g.E = 0 ∨ g.M < k.length + len) (hb : k.length + len ≤ 1000000) : CtrO Try.prog 9 [.pv 9000 0, .s k, .sl 1 len f] (objs g) (.b false) (objs g) := by
  refine r_methN Try.func9 rfl Try.ntmps9 Try.results9 rfl (objs_ids g) (objs_ids g) (fun _ h => h) rfl (objs_okIn hw) fun X hL hX => ?_
  repeat' (first
    | refine r_pnil und_ptr rfl rfl rfl ?_ | refine r_gldC0 (g := g) rfl rfl rfl rfl rfl (look_cache _) ?_ | refine r_gldC1 (g := g) rfl rfl rfl rfl rfl (look_cache _) ?_ | refine ⟨flowOk_col (by kernel_rfl), ?_⟩
    | with_reducible refine t_seq ?_ | with_reducible refine t_region ?_ | with_reducible refine c_nil ?_ | with_reducible refine n_then ?_
    | with_reducible refine t_ret ?_ | with_reducible refine t_skip ?_ | with_reducible refine t_exit ?_ | with_reducible refine t_block ?_
    | with_reducible refine n_block ?_ | with_reducible refine e_then ?_ | with_reducible refine x_then ?_ | with_reducible refine x_block ?_ | with_reducible refine t_draw ?_
    | refine r_val rfl rfl True.intro ?_ | refine r_gskip rfl rfl rfl ?_ | refine r_gskip2 rfl rfl rfl ?_ | refine r_gval rfl rfl rfl rfl True.intro ?_
    | refine t_true rfl ?_ | refine t_false rfl ?_
    | ((first | refine t_cond_d rfl (fun _ => ?_) (fun _ => ?_) | refine t_cond_i rfl (fun _ => ?_) (fun _ => ?_) | refine t_cond_j rfl (fun _ => ?_) (fun _ => ?_) | refine t_cond_s rfl (fun _ => ?_) (fun _ => ?_) | refine t_cond_n rfl (fun _ => ?_) (fun _ => ?_) | refine t_cond rfl (fun _ => ?_) (fun _ => ?_) | refine c_split_d rfl rfl (fun _ => ?_) (fun _ => ?_) | refine c_split_i rfl rfl (fun _ => ?_) (fun _ => ?_) | refine c_split_j rfl rfl (fun _ => ?_) (fun _ => ?_) | refine c_split_s rfl rfl (fun _ => ?_) (fun _ => ?_) | refine c_split_n rfl rfl (fun _ => ?_) (fun _ => ?_)) <;> try (first | contradiction | (exfalso; omega)))
    | refine r_val rfl rfl (by (first | omega | exact Nat.le_of_ble_eq_true rfl | (simp_all; done) | (simp_all; omega) | ((repeat' refine And.intro ?_ ?_) <;> first | omega | rfl | exact Nat.le_refl _ | exact Nat.le_of_ble_eq_true rfl | exact bytesF_one _ | (simp_all; done) | (simp_all; omega)))) ?_ | refine r_gval rfl rfl rfl rfl (by (first | omega | exact Nat.le_of_ble_eq_true rfl | (simp_all; done) | (simp_all; omega) | ((repeat' refine And.intro ?_ ?_) <;> first | omega | rfl | exact Nat.le_refl _ | exact Nat.le_of_ble_eq_true rfl | exact bytesF_one _ | (simp_all; done) | (simp_all; omega)))) ?_
    | refine r_obj rfl rfl (by (first | omega | exact Nat.le_of_ble_eq_true rfl | (simp_all; done) | (simp_all; omega) | ((repeat' refine And.intro ?_ ?_) <;> first | omega | rfl | exact Nat.le_refl _ | exact Nat.le_of_ble_eq_true rfl | exact bytesF_one _ | (simp_all; done) | (simp_all; omega)))) ?_ | refine r_sto rfl (by (first | omega | exact Nat.le_of_ble_eq_true rfl | (simp_all; done) | (simp_all; omega) | ((repeat' refine And.intro ?_ ?_) <;> first | omega | rfl | exact Nat.le_refl _ | exact Nat.le_of_ble_eq_true rfl | exact bytesF_one _ | (simp_all; done) | (simp_all; omega)))) ?_ | refine r_gobj rfl rfl rfl rfl (by (first | omega | exact Nat.le_of_ble_eq_true rfl | (simp_all; done) | (simp_all; omega) | ((repeat' refine And.intro ?_ ?_) <;> first | omega | rfl | exact Nat.le_refl _ | exact Nat.le_of_ble_eq_true rfl | exact bytesF_one _ | (simp_all; done) | (simp_all; omega)))) ?_
    | refine e_hit rfl ?_ | refine e_miss rfl ?_
    | refine ⟨by kernel_rfl, ?_⟩ | refine n_endM rfl rfl ⟨leOw_self _⟩ | refine x_endM rfl rfl ⟨leOw_self _⟩ | ((with_reducible refine c_grd ?_); (fail_if_success (refine c_lit true rfl rfl rfl ?_)); (fail_if_success (refine c_lit false rfl rfl rfl ?_)); refine c_split rfl rfl (fun _ => ?_) (fun _ => ?_)))

theorem evG_step {x : Rg} {a : List Nat} {i : Nat} (hR : Ring x (a ++ [i])) (hc : x.E < x.es.length ∨ x.M < x.sz) : evG x.es.length x = evG (dropG x i (lenOf (x.val i))).es.length (dropG x i (lenOf (x.val i))) ∧ (dropG x i (lenOf (x.val i))).es.length < x.es.length := by
  have h2 := ring_drop hR (lenOf (x.val i))
  rw [List.append_nil] at h2
  have e1 := es_len hR
  have e2 := es_len h2
  simp only [List.length_append, List.length_cons, List.length_nil] at e1
  rw [e2, e1]
  refine ⟨?_, by omega⟩
  show evG (a.length + 1) x = _
  conv => lhs; unfold evG
  rw [if_pos hc, ring_last hR]

theorem evG_stop {x : Rg} (hc : ¬ (x.E < x.es.length ∨ x.M < x.sz)) : ∀ f, evG f x = x
  | 0 => rfl
  | f + 1 => if_neg hc

set_option maxRecDepth 100000 in
set_option maxHeartbeats 4000000 in
theorem put_yes (g : Rg) (L : List Nat) (k : List UInt8) (len : Nat) (f : Nat → List D) (h : Ring g L) (hs : Size g L) (hf : ∀ j, j < len → ∃ n, f j = [.i .u8 n]) (hc : ¬ (g.E = 0 ∨ g.M < k.length + len)) (hb : sumL (ents g L) + (k.length + len) ≤ 1000000) (hE : 0 ≤ g.E) (hM : 0 ≤ g.M) :
    CtrO Try.prog 9 [.pv 9000 0, .s k, .sl 1 len f] (objs g) (.b true) (objs (putG g k (.sl 1 len f))) := by
  have hd : isB (.sl 1 len f) := ⟨rfl, hf⟩
  obtain ⟨L1, a1, a2, a3, a4, a5, a6, a7, a8, a9⟩ := p1_ring k h hs
  have hle : sumL (ents (p1G g k) L1) ≤ sumL (ents g L) := by
    rw [a4]
    generalize ents g L = l
    induction l with
    | nil => exact Nat.le_refl _
    | cons p r ih =>
      unfold woL at ih ⊢
      rw [List.filter_cons]
      split <;> simp only [sumL] <;> omega
  have hsz1 := a2.sz
  have hb1 : sumL (ents (p1G g k) L1) + (k.length + len) ≤ 1000000 := by omega
  obtain ⟨b1, b2, b3⟩ := p5_ring a1 a2 a3 hd hb1
  obtain ⟨L', c1, c2, c3, c4, c5, c6, c7⟩ := put_ring h hs hd hb hE hM
  have hE1 : 0 ≤ (p5G (p1G g k) k (.sl 1 len f)).E := by show 0 ≤ (p1G g k).E; omega
  have hM1 : 0 ≤ (p5G (p1G g k) k (.sl 1 len f)).M := by show 0 ≤ (p1G g k).M; omega
  have hn1 : (p5G (p1G g k) k (.sl 1 len f)).n = g.n + 1 := by show (p1G g k).n + 1 = _; omega
  have hfin : putG g k (.sl 1 len f) = evG (p5G (p1G g k) k (.sl 1 len f)).es.length (p5G (p1G g k) k (.sl 1 len f)) := rfl
  generalize hfg : putG g k (.sl 1 len f) = fin at *
  have hnew := ring_new a1 a3 hd
  have hwn : Wf0 { newG (p1G g k) k (.sl 1 len f) with es := nput k ((p1G g k).n + 1) (p1G g k).es } := wf_newput a1.wf rfl
  have hin : 0 < (p1G g k).n + 1 ∧ (p1G g k).n + 1 ≤ (p1G g k).n + 1 := ⟨Nat.succ_pos _, Nat.le_refl _⟩
  have huse := use_ctr { newG (p1G g k) k (.sl 1 len f) with es := nput k ((p1G g k).n + 1) (p1G g k).es } ((p1G g k).n + 1) hwn hin hnew.2.1
  have hwu : Wf0 (addG (p1G g k) k (.sl 1 len f)) := hnew.1.wf
  have hkey : (addG (p1G g k) k (.sl 1 len f)).key ((p1G g k).n + 1) = k := upd_same ..
  have hesz := esize_ctr (addG (p1G g k) k (.sl 1 len f)) ((p1G g k).n + 1) len f hwu hin (upd_same ..) (by rw [hkey]; omega)
  rw [hkey] at hesz
  have hok : ([D.pv 9000 0, D.pv (lab ((p1G g k).n + 1)) 0].map (lendA (idsG ((p1G g k).n + 1)))).all (D.okIn (idsG ((p1G g k).n + 1))) = true := by simp [lendA, D.okIn, memB_lab hin, memB_c]
  have hok1 : ([D.pv (lab ((p1G g k).n + 1)) 0].map (lendA (idsG ((p1G g k).n + 1)))).all (D.okIn (idsG ((p1G g k).n + 1))) = true := by simp [lendA, D.okIn, memB_lab hin]
  have hcl := clone1_ctr len f hf (by omega)
  have hsz5 : (addG (p1G g k) k (.sl 1 len f)).sz = (p1G g k).sz := rfl
  refine r_methN Try.func9 rfl Try.ntmps9 Try.results9 rfl (objs_ids g) (objs_ids _) (by rw [c4]; exact ids_sub (Nat.le_succ _)) rfl (objs_okIn c1.wf) fun X hL hX => ?_
  cases hg : nget k g.es with
  | none =>
    have e1 : p1G g k = g := by unfold p1G; rw [hg]
    rw [e1] at a1 a2 a3 b1 b2 hE1 hM1 hn1 hfin hnew hwn hin huse hwu hesz hok hok1 hsz1 hsz5
    repeat' (first
      | refine r_pnil und_ptr rfl rfl rfl ?_ | refine r_gldC0 (g := g) rfl rfl rfl rfl rfl (look_cache _) ?_ | refine r_gldC1 (g := g) rfl rfl rfl rfl rfl (look_cache _) ?_ | refine r_ldC2 rfl rfl rfl (look_cache _) ?_ | refine r_nmiss (g := g) und_map Try.underlying9 rfl rfl rfl (look_map g) hg rfl ?_ | refine r_call (f := 22) rfl rfl Try.call22 rfl hcl ?_ | refine r_boxG rfl rfl rfl ?_ | refine r_nput und_map Try.underlying9 rfl rfl rfl ?_ | refine r_lendG (f := 23) (g' := addG g k (.sl 1 len f)) [] rfl (Nat.le_refl _) hwn hwu rfl rfl Try.call23 hok rfl huse ?_ | refine r_ldC4 rfl rfl rfl (look_cache _) ?_ | refine r_lendGR (f := 24) (g := addG g k (.sl 1 len f)) [] rfl hwu rfl rfl Try.call24 hok1 rfl hesz ?_ | refine r_stSz rfl rfl rfl ?_ | refine ⟨flowOk_col (by kernel_rfl), ?_⟩
      | with_reducible refine t_seq ?_ | with_reducible refine t_region ?_ | with_reducible refine c_nil ?_ | with_reducible refine n_then ?_
      | with_reducible refine t_ret ?_ | with_reducible refine t_skip ?_ | with_reducible refine t_exit ?_ | with_reducible refine t_block ?_
      | with_reducible refine n_block ?_ | with_reducible refine e_then ?_ | with_reducible refine x_then ?_ | with_reducible refine x_block ?_ | with_reducible refine t_draw ?_
      | refine r_val rfl rfl True.intro ?_ | refine r_gskip rfl rfl rfl ?_ | refine r_gskip2 rfl rfl rfl ?_ | refine r_gval rfl rfl rfl rfl True.intro ?_
      | refine t_true rfl ?_ | refine t_false rfl ?_
      | ((first | refine t_cond_d rfl (fun _ => ?_) (fun _ => ?_) | refine t_cond_i rfl (fun _ => ?_) (fun _ => ?_) | refine t_cond_j rfl (fun _ => ?_) (fun _ => ?_) | refine t_cond_s rfl (fun _ => ?_) (fun _ => ?_) | refine t_cond_n rfl (fun _ => ?_) (fun _ => ?_) | refine t_cond rfl (fun _ => ?_) (fun _ => ?_) | refine c_split_d rfl rfl (fun _ => ?_) (fun _ => ?_) | refine c_split_i rfl rfl (fun _ => ?_) (fun _ => ?_) | refine c_split_j rfl rfl (fun _ => ?_) (fun _ => ?_) | refine c_split_s rfl rfl (fun _ => ?_) (fun _ => ?_) | refine c_split_n rfl rfl (fun _ => ?_) (fun _ => ?_)) <;> try (first | contradiction | (exfalso; omega)))
      | refine r_val rfl rfl (by (first | omega | exact Nat.le_of_ble_eq_true rfl | (simp_all; done) | (simp_all; omega) | ((repeat' refine And.intro ?_ ?_) <;> first | omega | rfl | exact Nat.le_refl _ | exact Nat.le_of_ble_eq_true rfl | exact bytesF_one _ | (simp_all; done) | (simp_all; omega)))) ?_ | refine r_gval rfl rfl rfl rfl (by (first | omega | exact Nat.le_of_ble_eq_true rfl | (simp_all; done) | (simp_all; omega) | ((repeat' refine And.intro ?_ ?_) <;> first | omega | rfl | exact Nat.le_refl _ | exact Nat.le_of_ble_eq_true rfl | exact bytesF_one _ | (simp_all; done) | (simp_all; omega)))) ?_
      | refine r_obj rfl rfl (by (first | omega | exact Nat.le_of_ble_eq_true rfl | (simp_all; done) | (simp_all; omega) | ((repeat' refine And.intro ?_ ?_) <;> first | omega | rfl | exact Nat.le_refl _ | exact Nat.le_of_ble_eq_true rfl | exact bytesF_one _ | (simp_all; done) | (simp_all; omega)))) ?_ | refine r_sto rfl (by (first | omega | exact Nat.le_of_ble_eq_true rfl | (simp_all; done) | (simp_all; omega) | ((repeat' refine And.intro ?_ ?_) <;> first | omega | rfl | exact Nat.le_refl _ | exact Nat.le_of_ble_eq_true rfl | exact bytesF_one _ | (simp_all; done) | (simp_all; omega)))) ?_ | refine r_gobj rfl rfl rfl rfl (by (first | omega | exact Nat.le_of_ble_eq_true rfl | (simp_all; done) | (simp_all; omega) | ((repeat' refine And.intro ?_ ?_) <;> first | omega | rfl | exact Nat.le_refl _ | exact Nat.le_of_ble_eq_true rfl | exact bytesF_one _ | (simp_all; done) | (simp_all; omega)))) ?_
      | refine e_hit rfl ?_ | refine e_miss rfl ?_
      | refine ⟨by kernel_rfl, ?_⟩ | ((with_reducible refine c_grd ?_); (fail_if_success (refine c_lit true rfl rfl rfl ?_)); (fail_if_success (refine c_lit false rfl rfl rfl ?_)); refine c_split rfl rfl (fun _ => ?_) (fun _ => ?_)))
    refine T.loop hL (fun _ : Rg => [(0, .pv 9000 0)]) (fun x => objs x) (fun x => ∃ L, Ring x L ∧ Size x L ∧ 0 ≤ x.E ∧ 0 ≤ x.M ∧ x.n = g.n + 1 ∧ fin = evG x.es.length x) (fun x => x.es.length) (p5G g k (.sl 1 len f))
      ⟨_, b1, b2, hE1, hM1, hn1, hfin⟩ ⟨⟨rfl, trivial⟩, leOw_self _, okAll_objs b1.wf, by rw [hX, objs_ids, hn1]; exact ids_sub (Nat.le_succ _)⟩ ?_
    rintro x ⟨L2, r1, r2, r3, r4, r5, r6⟩
    try dsimp only
    have hl2 := es_len r1
    by_cases hcc : x.E < x.es.length ∨ x.M < x.sz
    · rcases List.eq_nil_or_concat L2 with rfl | ⟨a, j, rfl⟩
      · exfalso
        have hz := r2.sz
        simp only [ents, sumL, List.map_nil] at hz
        simp at hl2
        rw [hl2, hz] at hcc
        simp at hcc
        omega
      · rw [List.concat_eq_append] at *
        obtain ⟨s1, s2⟩ := evG_step r1 hcc
        have s3 := ring_drop r1 (lenOf (x.val j))
        have s4 := size_drop r2
        have hjm : j ∈ a ++ [j] := by simp
        obtain ⟨q1, q2, q3, q4⟩ := ring_links r1
        have hq2 : 0 < j ∧ j ≤ x.n := ⟨q3, q4⟩
        have hbj := r1.vals j hjm
        have hmj := sumL_mem (show (x.key j, x.val j) ∈ ents x (a ++ [j]) from List.mem_map.2 ⟨j, hjm, rfl⟩)
        simp only [esz] at hmj
        have hsb2 := r2.big
        have hss2 := r2.sz
        have hdropj := drop_ctr x j (lenOf (x.val j)) (funOf (x.val j)) r1.wf hq2 q1 q2 hbj.1 (by omega) (by omega)
        have hokj : ([D.pv 9000 0, D.pv (lab j) 0].map (lendA (idsG x.n))).all (D.okIn (idsG x.n)) = true := by simp [lendA, D.okIn, memB_lab hq2, memB_c]
        have hlast := ring_last r1
        have hone : 0 < 1 ∧ 1 ≤ x.n := ⟨by omega, r1.wf.pos⟩
        repeat' (first
          | refine r_ldC2 (g := x) rfl rfl rfl (look_cache _) ?_ | refine r_nlen (g := x) und_map rfl (look_map _) rfl ?_ | refine r_ldC0 (g := x) rfl rfl rfl (look_cache _) ?_ | refine r_gldC4 (g := x) rfl rfl rfl rfl rfl (look_cache _) ?_ | refine r_gldC1 (g := x) rfl rfl rfl rfl rfl (look_cache _) ?_ | refine r_ldC3 (g := x) rfl rfl rfl (look_cache _) ?_ | refine r_ldW (i := 1) (j := j) (g := x) rfl rfl rfl (look_node hone) hlast q3 ?_ | refine r_lendG (f := 21) (g := x) (g' := dropG x j (lenOf (x.val j))) [] rfl (Nat.le_refl _) r1.wf s3.wf rfl rfl Try.call21 hokj rfl hdropj ?_ | refine ⟨flowOk_col (by kernel_rfl), ?_⟩
          | with_reducible refine t_seq ?_ | with_reducible refine t_region ?_ | with_reducible refine c_nil ?_ | with_reducible refine n_then ?_
          | with_reducible refine t_ret ?_ | with_reducible refine t_skip ?_ | with_reducible refine t_exit ?_ | with_reducible refine t_block ?_
          | with_reducible refine n_block ?_ | with_reducible refine e_then ?_ | with_reducible refine x_then ?_ | with_reducible refine x_block ?_ | with_reducible refine t_draw ?_
          | refine r_val rfl rfl True.intro ?_ | refine r_gskip rfl rfl rfl ?_ | refine r_gskip2 rfl rfl rfl ?_ | refine r_gval rfl rfl rfl rfl True.intro ?_
          | refine t_true rfl ?_ | refine t_false rfl ?_
          | ((first | refine t_cond_d rfl (fun _ => ?_) (fun _ => ?_) | refine t_cond_i rfl (fun _ => ?_) (fun _ => ?_) | refine t_cond_j rfl (fun _ => ?_) (fun _ => ?_) | refine t_cond_s rfl (fun _ => ?_) (fun _ => ?_) | refine t_cond_n rfl (fun _ => ?_) (fun _ => ?_) | refine t_cond rfl (fun _ => ?_) (fun _ => ?_) | refine c_split_d rfl rfl (fun _ => ?_) (fun _ => ?_) | refine c_split_i rfl rfl (fun _ => ?_) (fun _ => ?_) | refine c_split_j rfl rfl (fun _ => ?_) (fun _ => ?_) | refine c_split_s rfl rfl (fun _ => ?_) (fun _ => ?_) | refine c_split_n rfl rfl (fun _ => ?_) (fun _ => ?_)) <;> try (first | contradiction | (exfalso; omega)))
          | refine r_val rfl rfl (by (first | omega | exact Nat.le_of_ble_eq_true rfl | (simp_all; done) | (simp_all; omega) | ((repeat' refine And.intro ?_ ?_) <;> first | omega | rfl | exact Nat.le_refl _ | exact Nat.le_of_ble_eq_true rfl | exact bytesF_one _ | (simp_all; done) | (simp_all; omega)))) ?_ | refine r_gval rfl rfl rfl rfl (by (first | omega | exact Nat.le_of_ble_eq_true rfl | (simp_all; done) | (simp_all; omega) | ((repeat' refine And.intro ?_ ?_) <;> first | omega | rfl | exact Nat.le_refl _ | exact Nat.le_of_ble_eq_true rfl | exact bytesF_one _ | (simp_all; done) | (simp_all; omega)))) ?_
          | refine r_obj rfl rfl (by (first | omega | exact Nat.le_of_ble_eq_true rfl | (simp_all; done) | (simp_all; omega) | ((repeat' refine And.intro ?_ ?_) <;> first | omega | rfl | exact Nat.le_refl _ | exact Nat.le_of_ble_eq_true rfl | exact bytesF_one _ | (simp_all; done) | (simp_all; omega)))) ?_ | refine r_sto rfl (by (first | omega | exact Nat.le_of_ble_eq_true rfl | (simp_all; done) | (simp_all; omega) | ((repeat' refine And.intro ?_ ?_) <;> first | omega | rfl | exact Nat.le_refl _ | exact Nat.le_of_ble_eq_true rfl | exact bytesF_one _ | (simp_all; done) | (simp_all; omega)))) ?_ | refine r_gobj rfl rfl rfl rfl (by (first | omega | exact Nat.le_of_ble_eq_true rfl | (simp_all; done) | (simp_all; omega) | ((repeat' refine And.intro ?_ ?_) <;> first | omega | rfl | exact Nat.le_refl _ | exact Nat.le_of_ble_eq_true rfl | exact bytesF_one _ | (simp_all; done) | (simp_all; omega)))) ?_
          | refine e_hit rfl ?_ | refine e_miss rfl ?_
          | refine ⟨by kernel_rfl, ?_⟩ | ((with_reducible refine c_grd ?_); (fail_if_success (refine c_lit true rfl rfl rfl ?_)); (fail_if_success (refine c_lit false rfl rfl rfl ?_)); refine c_split rfl rfl (fun _ => ?_) (fun _ => ?_)))
        all_goals exact ⟨dropG x j (lenOf (x.val j)), ⟨_, s3, s4, r3, r4, r5, r6.trans s1⟩, s2, ⟨rfl, trivial⟩, leOw_self _, okAll_objs s3.wf, by rw [hX, objs_ids]; exact ids_sub (by show g.n ≤ x.n; omega)⟩
    · have hst : fin = x := r6.trans (evG_stop hcc _)
      repeat' (first
        | refine r_ldC2 (g := x) rfl rfl rfl (look_cache _) ?_ | refine r_nlen (g := x) und_map rfl (look_map _) rfl ?_ | refine r_ldC0 (g := x) rfl rfl rfl (look_cache _) ?_ | refine r_gldC4 (g := x) rfl rfl rfl rfl rfl (look_cache _) ?_ | refine r_gldC1 (g := x) rfl rfl rfl rfl rfl (look_cache _) ?_ | refine ⟨flowOk_col (by kernel_rfl), ?_⟩
        | with_reducible refine t_seq ?_ | with_reducible refine t_region ?_ | with_reducible refine c_nil ?_ | with_reducible refine n_then ?_
        | with_reducible refine t_ret ?_ | with_reducible refine t_skip ?_ | with_reducible refine t_exit ?_ | with_reducible refine t_block ?_
        | with_reducible refine n_block ?_ | with_reducible refine e_then ?_ | with_reducible refine x_then ?_ | with_reducible refine x_block ?_ | with_reducible refine t_draw ?_
        | refine r_val rfl rfl True.intro ?_ | refine r_gskip rfl rfl rfl ?_ | refine r_gskip2 rfl rfl rfl ?_ | refine r_gval rfl rfl rfl rfl True.intro ?_
        | refine t_true rfl ?_ | refine t_false rfl ?_
        | ((first | refine t_cond_d rfl (fun _ => ?_) (fun _ => ?_) | refine t_cond_i rfl (fun _ => ?_) (fun _ => ?_) | refine t_cond_j rfl (fun _ => ?_) (fun _ => ?_) | refine t_cond_s rfl (fun _ => ?_) (fun _ => ?_) | refine t_cond_n rfl (fun _ => ?_) (fun _ => ?_) | refine t_cond rfl (fun _ => ?_) (fun _ => ?_) | refine c_split_d rfl rfl (fun _ => ?_) (fun _ => ?_) | refine c_split_i rfl rfl (fun _ => ?_) (fun _ => ?_) | refine c_split_j rfl rfl (fun _ => ?_) (fun _ => ?_) | refine c_split_s rfl rfl (fun _ => ?_) (fun _ => ?_) | refine c_split_n rfl rfl (fun _ => ?_) (fun _ => ?_)) <;> try (first | contradiction | (exfalso; omega)))
        | refine r_val rfl rfl (by (first | omega | exact Nat.le_of_ble_eq_true rfl | (simp_all; done) | (simp_all; omega) | ((repeat' refine And.intro ?_ ?_) <;> first | omega | rfl | exact Nat.le_refl _ | exact Nat.le_of_ble_eq_true rfl | exact bytesF_one _ | (simp_all; done) | (simp_all; omega)))) ?_ | refine r_gval rfl rfl rfl rfl (by (first | omega | exact Nat.le_of_ble_eq_true rfl | (simp_all; done) | (simp_all; omega) | ((repeat' refine And.intro ?_ ?_) <;> first | omega | rfl | exact Nat.le_refl _ | exact Nat.le_of_ble_eq_true rfl | exact bytesF_one _ | (simp_all; done) | (simp_all; omega)))) ?_
        | refine r_obj rfl rfl (by (first | omega | exact Nat.le_of_ble_eq_true rfl | (simp_all; done) | (simp_all; omega) | ((repeat' refine And.intro ?_ ?_) <;> first | omega | rfl | exact Nat.le_refl _ | exact Nat.le_of_ble_eq_true rfl | exact bytesF_one _ | (simp_all; done) | (simp_all; omega)))) ?_ | refine r_sto rfl (by (first | omega | exact Nat.le_of_ble_eq_true rfl | (simp_all; done) | (simp_all; omega) | ((repeat' refine And.intro ?_ ?_) <;> first | omega | rfl | exact Nat.le_refl _ | exact Nat.le_of_ble_eq_true rfl | exact bytesF_one _ | (simp_all; done) | (simp_all; omega)))) ?_ | refine r_gobj rfl rfl rfl rfl (by (first | omega | exact Nat.le_of_ble_eq_true rfl | (simp_all; done) | (simp_all; omega) | ((repeat' refine And.intro ?_ ?_) <;> first | omega | rfl | exact Nat.le_refl _ | exact Nat.le_of_ble_eq_true rfl | exact bytesF_one _ | (simp_all; done) | (simp_all; omega)))) ?_
        | refine e_hit rfl ?_ | refine e_miss rfl ?_
        | refine ⟨by kernel_rfl, ?_⟩ | refine n_endM rfl rfl ⟨hst ▸ leOw_self _⟩ | refine x_endM rfl rfl ⟨hst ▸ leOw_self _⟩ | ((with_reducible refine c_grd ?_); (fail_if_success (refine c_lit true rfl rfl rfl ?_)); (fail_if_success (refine c_lit false rfl rfl rfl ?_)); refine c_split rfl rfl (fun _ => ?_) (fun _ => ?_)))
  | some i =>
    have e1 : p1G g k = dropG g i (lenOf (g.val i)) := by unfold p1G; rw [hg]
    rw [e1] at a1 a2 a3 b1 b2 hE1 hM1 hn1 hfin hnew hwn hin huse hwu hesz hok hok1 hsz1 hsz5
    obtain ⟨hiL, hik⟩ := ring_get h hg
    have hbi := h.vals i hiL
    have hml := sumL_mem (show (g.key i, g.val i) ∈ ents g L from List.mem_map.2 ⟨i, hiL, rfl⟩)
    simp only [esz] at hml
    have hsb := hs.big
    have hss := hs.sz
    obtain ⟨l1, l2, l3, l4⟩ : 0 < g.nw i ∧ 0 < g.ls i ∧ 0 < i ∧ i ≤ g.n := by
      obtain ⟨a, b, rfl⟩ := List.append_of_mem hiL
      exact ring_links h
    have hi2 : 0 < i ∧ i ≤ g.n := ⟨l3, l4⟩
    have hdrop := drop_ctr g i (lenOf (g.val i)) (funOf (g.val i)) h.wf hi2 l1 l2 hbi.1 (by omega) (by omega)
    have hokd : ([D.pv 9000 0, D.pv (lab i) 0].map (lendA (idsG g.n))).all (D.okIn (idsG g.n)) = true := by simp [lendA, D.okIn, memB_lab hi2, memB_c]
    repeat' (first
      | refine r_pnil und_ptr rfl rfl rfl ?_ | refine r_gldC0 (g := g) rfl rfl rfl rfl rfl (look_cache _) ?_ | refine r_gldC1 (g := g) rfl rfl rfl rfl rfl (look_cache _) ?_ | refine r_ldC2 rfl rfl rfl (look_cache _) ?_ | refine r_nhit (g := g) und_map Try.underlying9 rfl rfl (look_map g) hg rfl ?_ | refine r_lendG (f := 21) (g := g) (g' := dropG g i (lenOf (g.val i))) [] rfl (Nat.le_refl _) h.wf a1.wf rfl rfl Try.call21 hokd rfl hdrop ?_ | refine r_call (f := 22) rfl rfl Try.call22 rfl hcl ?_ | refine r_boxG rfl rfl rfl ?_ | refine r_nput und_map Try.underlying9 rfl rfl rfl ?_ | refine r_lendG (f := 23) (g' := addG (dropG g i (lenOf (g.val i))) k (.sl 1 len f)) [] rfl (Nat.le_refl _) hwn hwu rfl rfl Try.call23 hok rfl huse ?_ | refine r_ldC4 rfl rfl rfl (look_cache _) ?_ | refine r_lendGR (f := 24) (g := addG (dropG g i (lenOf (g.val i))) k (.sl 1 len f)) [] rfl hwu rfl rfl Try.call24 hok1 rfl hesz ?_ | refine r_stSz rfl rfl rfl ?_ | refine ⟨flowOk_col (by kernel_rfl), ?_⟩
      | with_reducible refine t_seq ?_ | with_reducible refine t_region ?_ | with_reducible refine c_nil ?_ | with_reducible refine n_then ?_
      | with_reducible refine t_ret ?_ | with_reducible refine t_skip ?_ | with_reducible refine t_exit ?_ | with_reducible refine t_block ?_
      | with_reducible refine n_block ?_ | with_reducible refine e_then ?_ | with_reducible refine x_then ?_ | with_reducible refine x_block ?_ | with_reducible refine t_draw ?_
      | refine r_val rfl rfl True.intro ?_ | refine r_gskip rfl rfl rfl ?_ | refine r_gskip2 rfl rfl rfl ?_ | refine r_gval rfl rfl rfl rfl True.intro ?_
      | refine t_true rfl ?_ | refine t_false rfl ?_
      | ((first | refine t_cond_d rfl (fun _ => ?_) (fun _ => ?_) | refine t_cond_i rfl (fun _ => ?_) (fun _ => ?_) | refine t_cond_j rfl (fun _ => ?_) (fun _ => ?_) | refine t_cond_s rfl (fun _ => ?_) (fun _ => ?_) | refine t_cond_n rfl (fun _ => ?_) (fun _ => ?_) | refine t_cond rfl (fun _ => ?_) (fun _ => ?_) | refine c_split_d rfl rfl (fun _ => ?_) (fun _ => ?_) | refine c_split_i rfl rfl (fun _ => ?_) (fun _ => ?_) | refine c_split_j rfl rfl (fun _ => ?_) (fun _ => ?_) | refine c_split_s rfl rfl (fun _ => ?_) (fun _ => ?_) | refine c_split_n rfl rfl (fun _ => ?_) (fun _ => ?_)) <;> try (first | contradiction | (exfalso; omega)))
      | refine r_val rfl rfl (by (first | omega | exact Nat.le_of_ble_eq_true rfl | (simp_all; done) | (simp_all; omega) | ((repeat' refine And.intro ?_ ?_) <;> first | omega | rfl | exact Nat.le_refl _ | exact Nat.le_of_ble_eq_true rfl | exact bytesF_one _ | (simp_all; done) | (simp_all; omega)))) ?_ | refine r_gval rfl rfl rfl rfl (by (first | omega | exact Nat.le_of_ble_eq_true rfl | (simp_all; done) | (simp_all; omega) | ((repeat' refine And.intro ?_ ?_) <;> first | omega | rfl | exact Nat.le_refl _ | exact Nat.le_of_ble_eq_true rfl | exact bytesF_one _ | (simp_all; done) | (simp_all; omega)))) ?_
      | refine r_obj rfl rfl (by (first | omega | exact Nat.le_of_ble_eq_true rfl | (simp_all; done) | (simp_all; omega) | ((repeat' refine And.intro ?_ ?_) <;> first | omega | rfl | exact Nat.le_refl _ | exact Nat.le_of_ble_eq_true rfl | exact bytesF_one _ | (simp_all; done) | (simp_all; omega)))) ?_ | refine r_sto rfl (by (first | omega | exact Nat.le_of_ble_eq_true rfl | (simp_all; done) | (simp_all; omega) | ((repeat' refine And.intro ?_ ?_) <;> first | omega | rfl | exact Nat.le_refl _ | exact Nat.le_of_ble_eq_true rfl | exact bytesF_one _ | (simp_all; done) | (simp_all; omega)))) ?_ | refine r_gobj rfl rfl rfl rfl (by (first | omega | exact Nat.le_of_ble_eq_true rfl | (simp_all; done) | (simp_all; omega) | ((repeat' refine And.intro ?_ ?_) <;> first | omega | rfl | exact Nat.le_refl _ | exact Nat.le_of_ble_eq_true rfl | exact bytesF_one _ | (simp_all; done) | (simp_all; omega)))) ?_
      | refine e_hit rfl ?_ | refine e_miss rfl ?_
      | refine ⟨by kernel_rfl, ?_⟩ | ((with_reducible refine c_grd ?_); (fail_if_success (refine c_lit true rfl rfl rfl ?_)); (fail_if_success (refine c_lit false rfl rfl rfl ?_)); refine c_split rfl rfl (fun _ => ?_) (fun _ => ?_)))
    refine T.loop hL (fun _ : Rg => [(0, .pv 9000 0)]) (fun x => objs x) (fun x => ∃ L, Ring x L ∧ Size x L ∧ 0 ≤ x.E ∧ 0 ≤ x.M ∧ x.n = g.n + 1 ∧ fin = evG x.es.length x) (fun x => x.es.length) (p5G (dropG g i (lenOf (g.val i))) k (.sl 1 len f))
      ⟨_, b1, b2, hE1, hM1, hn1, hfin⟩ ⟨⟨rfl, trivial⟩, leOw_self _, okAll_objs b1.wf, by rw [hX, objs_ids, hn1]; exact ids_sub (Nat.le_succ _)⟩ ?_
    rintro x ⟨L2, r1, r2, r3, r4, r5, r6⟩
    try dsimp only
    have hl2 := es_len r1
    by_cases hcc : x.E < x.es.length ∨ x.M < x.sz
    · rcases List.eq_nil_or_concat L2 with rfl | ⟨a, j, rfl⟩
      · exfalso
        have hz := r2.sz
        simp only [ents, sumL, List.map_nil] at hz
        simp at hl2
        rw [hl2, hz] at hcc
        simp at hcc
        omega
      · rw [List.concat_eq_append] at *
        obtain ⟨s1, s2⟩ := evG_step r1 hcc
        have s3 := ring_drop r1 (lenOf (x.val j))
        have s4 := size_drop r2
        have hjm : j ∈ a ++ [j] := by simp
        obtain ⟨q1, q2, q3, q4⟩ := ring_links r1
        have hq2 : 0 < j ∧ j ≤ x.n := ⟨q3, q4⟩
        have hbj := r1.vals j hjm
        have hmj := sumL_mem (show (x.key j, x.val j) ∈ ents x (a ++ [j]) from List.mem_map.2 ⟨j, hjm, rfl⟩)
        simp only [esz] at hmj
        have hsb2 := r2.big
        have hss2 := r2.sz
        have hdropj := drop_ctr x j (lenOf (x.val j)) (funOf (x.val j)) r1.wf hq2 q1 q2 hbj.1 (by omega) (by omega)
        have hokj : ([D.pv 9000 0, D.pv (lab j) 0].map (lendA (idsG x.n))).all (D.okIn (idsG x.n)) = true := by simp [lendA, D.okIn, memB_lab hq2, memB_c]
        have hlast := ring_last r1
        have hone : 0 < 1 ∧ 1 ≤ x.n := ⟨by omega, r1.wf.pos⟩
        repeat' (first
          | refine r_ldC2 (g := x) rfl rfl rfl (look_cache _) ?_ | refine r_nlen (g := x) und_map rfl (look_map _) rfl ?_ | refine r_ldC0 (g := x) rfl rfl rfl (look_cache _) ?_ | refine r_gldC4 (g := x) rfl rfl rfl rfl rfl (look_cache _) ?_ | refine r_gldC1 (g := x) rfl rfl rfl rfl rfl (look_cache _) ?_ | refine r_ldC3 (g := x) rfl rfl rfl (look_cache _) ?_ | refine r_ldW (i := 1) (j := j) (g := x) rfl rfl rfl (look_node hone) hlast q3 ?_ | refine r_lendG (f := 21) (g := x) (g' := dropG x j (lenOf (x.val j))) [] rfl (Nat.le_refl _) r1.wf s3.wf rfl rfl Try.call21 hokj rfl hdropj ?_ | refine ⟨flowOk_col (by kernel_rfl), ?_⟩
          | with_reducible refine t_seq ?_ | with_reducible refine t_region ?_ | with_reducible refine c_nil ?_ | with_reducible refine n_then ?_
          | with_reducible refine t_ret ?_ | with_reducible refine t_skip ?_ | with_reducible refine t_exit ?_ | with_reducible refine t_block ?_
          | with_reducible refine n_block ?_ | with_reducible refine e_then ?_ | with_reducible refine x_then ?_ | with_reducible refine x_block ?_ | with_reducible refine t_draw ?_
          | refine r_val rfl rfl True.intro ?_ | refine r_gskip rfl rfl rfl ?_ | refine r_gskip2 rfl rfl rfl ?_ | refine r_gval rfl rfl rfl rfl True.intro ?_
          | refine t_true rfl ?_ | refine t_false rfl ?_
          | ((first | refine t_cond_d rfl (fun _ => ?_) (fun _ => ?_) | refine t_cond_i rfl (fun _ => ?_) (fun _ => ?_) | refine t_cond_j rfl (fun _ => ?_) (fun _ => ?_) | refine t_cond_s rfl (fun _ => ?_) (fun _ => ?_) | refine t_cond_n rfl (fun _ => ?_) (fun _ => ?_) | refine t_cond rfl (fun _ => ?_) (fun _ => ?_) | refine c_split_d rfl rfl (fun _ => ?_) (fun _ => ?_) | refine c_split_i rfl rfl (fun _ => ?_) (fun _ => ?_) | refine c_split_j rfl rfl (fun _ => ?_) (fun _ => ?_) | refine c_split_s rfl rfl (fun _ => ?_) (fun _ => ?_) | refine c_split_n rfl rfl (fun _ => ?_) (fun _ => ?_)) <;> try (first | contradiction | (exfalso; omega)))
          | refine r_val rfl rfl (by (first | omega | exact Nat.le_of_ble_eq_true rfl | (simp_all; done) | (simp_all; omega) | ((repeat' refine And.intro ?_ ?_) <;> first | omega | rfl | exact Nat.le_refl _ | exact Nat.le_of_ble_eq_true rfl | exact bytesF_one _ | (simp_all; done) | (simp_all; omega)))) ?_ | refine r_gval rfl rfl rfl rfl (by (first | omega | exact Nat.le_of_ble_eq_true rfl | (simp_all; done) | (simp_all; omega) | ((repeat' refine And.intro ?_ ?_) <;> first | omega | rfl | exact Nat.le_refl _ | exact Nat.le_of_ble_eq_true rfl | exact bytesF_one _ | (simp_all; done) | (simp_all; omega)))) ?_
          | refine r_obj rfl rfl (by (first | omega | exact Nat.le_of_ble_eq_true rfl | (simp_all; done) | (simp_all; omega) | ((repeat' refine And.intro ?_ ?_) <;> first | omega | rfl | exact Nat.le_refl _ | exact Nat.le_of_ble_eq_true rfl | exact bytesF_one _ | (simp_all; done) | (simp_all; omega)))) ?_ | refine r_sto rfl (by (first | omega | exact Nat.le_of_ble_eq_true rfl | (simp_all; done) | (simp_all; omega) | ((repeat' refine And.intro ?_ ?_) <;> first | omega | rfl | exact Nat.le_refl _ | exact Nat.le_of_ble_eq_true rfl | exact bytesF_one _ | (simp_all; done) | (simp_all; omega)))) ?_ | refine r_gobj rfl rfl rfl rfl (by (first | omega | exact Nat.le_of_ble_eq_true rfl | (simp_all; done) | (simp_all; omega) | ((repeat' refine And.intro ?_ ?_) <;> first | omega | rfl | exact Nat.le_refl _ | exact Nat.le_of_ble_eq_true rfl | exact bytesF_one _ | (simp_all; done) | (simp_all; omega)))) ?_
          | refine e_hit rfl ?_ | refine e_miss rfl ?_
          | refine ⟨by kernel_rfl, ?_⟩ | ((with_reducible refine c_grd ?_); (fail_if_success (refine c_lit true rfl rfl rfl ?_)); (fail_if_success (refine c_lit false rfl rfl rfl ?_)); refine c_split rfl rfl (fun _ => ?_) (fun _ => ?_)))
        all_goals exact ⟨dropG x j (lenOf (x.val j)), ⟨_, s3, s4, r3, r4, r5, r6.trans s1⟩, s2, ⟨rfl, trivial⟩, leOw_self _, okAll_objs s3.wf, by rw [hX, objs_ids]; exact ids_sub (by show g.n ≤ x.n; omega)⟩
    · have hst : fin = x := r6.trans (evG_stop hcc _)
      repeat' (first
        | refine r_ldC2 (g := x) rfl rfl rfl (look_cache _) ?_ | refine r_nlen (g := x) und_map rfl (look_map _) rfl ?_ | refine r_ldC0 (g := x) rfl rfl rfl (look_cache _) ?_ | refine r_gldC4 (g := x) rfl rfl rfl rfl rfl (look_cache _) ?_ | refine r_gldC1 (g := x) rfl rfl rfl rfl rfl (look_cache _) ?_ | refine ⟨flowOk_col (by kernel_rfl), ?_⟩
        | with_reducible refine t_seq ?_ | with_reducible refine t_region ?_ | with_reducible refine c_nil ?_ | with_reducible refine n_then ?_
        | with_reducible refine t_ret ?_ | with_reducible refine t_skip ?_ | with_reducible refine t_exit ?_ | with_reducible refine t_block ?_
        | with_reducible refine n_block ?_ | with_reducible refine e_then ?_ | with_reducible refine x_then ?_ | with_reducible refine x_block ?_ | with_reducible refine t_draw ?_
        | refine r_val rfl rfl True.intro ?_ | refine r_gskip rfl rfl rfl ?_ | refine r_gskip2 rfl rfl rfl ?_ | refine r_gval rfl rfl rfl rfl True.intro ?_
        | refine t_true rfl ?_ | refine t_false rfl ?_
        | ((first | refine t_cond_d rfl (fun _ => ?_) (fun _ => ?_) | refine t_cond_i rfl (fun _ => ?_) (fun _ => ?_) | refine t_cond_j rfl (fun _ => ?_) (fun _ => ?_) | refine t_cond_s rfl (fun _ => ?_) (fun _ => ?_) | refine t_cond_n rfl (fun _ => ?_) (fun _ => ?_) | refine t_cond rfl (fun _ => ?_) (fun _ => ?_) | refine c_split_d rfl rfl (fun _ => ?_) (fun _ => ?_) | refine c_split_i rfl rfl (fun _ => ?_) (fun _ => ?_) | refine c_split_j rfl rfl (fun _ => ?_) (fun _ => ?_) | refine c_split_s rfl rfl (fun _ => ?_) (fun _ => ?_) | refine c_split_n rfl rfl (fun _ => ?_) (fun _ => ?_)) <;> try (first | contradiction | (exfalso; omega)))
        | refine r_val rfl rfl (by (first | omega | exact Nat.le_of_ble_eq_true rfl | (simp_all; done) | (simp_all; omega) | ((repeat' refine And.intro ?_ ?_) <;> first | omega | rfl | exact Nat.le_refl _ | exact Nat.le_of_ble_eq_true rfl | exact bytesF_one _ | (simp_all; done) | (simp_all; omega)))) ?_ | refine r_gval rfl rfl rfl rfl (by (first | omega | exact Nat.le_of_ble_eq_true rfl | (simp_all; done) | (simp_all; omega) | ((repeat' refine And.intro ?_ ?_) <;> first | omega | rfl | exact Nat.le_refl _ | exact Nat.le_of_ble_eq_true rfl | exact bytesF_one _ | (simp_all; done) | (simp_all; omega)))) ?_
        | refine r_obj rfl rfl (by (first | omega | exact Nat.le_of_ble_eq_true rfl | (simp_all; done) | (simp_all; omega) | ((repeat' refine And.intro ?_ ?_) <;> first | omega | rfl | exact Nat.le_refl _ | exact Nat.le_of_ble_eq_true rfl | exact bytesF_one _ | (simp_all; done) | (simp_all; omega)))) ?_ | refine r_sto rfl (by (first | omega | exact Nat.le_of_ble_eq_true rfl | (simp_all; done) | (simp_all; omega) | ((repeat' refine And.intro ?_ ?_) <;> first | omega | rfl | exact Nat.le_refl _ | exact Nat.le_of_ble_eq_true rfl | exact bytesF_one _ | (simp_all; done) | (simp_all; omega)))) ?_ | refine r_gobj rfl rfl rfl rfl (by (first | omega | exact Nat.le_of_ble_eq_true rfl | (simp_all; done) | (simp_all; omega) | ((repeat' refine And.intro ?_ ?_) <;> first | omega | rfl | exact Nat.le_refl _ | exact Nat.le_of_ble_eq_true rfl | exact bytesF_one _ | (simp_all; done) | (simp_all; omega)))) ?_
        | refine e_hit rfl ?_ | refine e_miss rfl ?_
        | refine ⟨by kernel_rfl, ?_⟩ | refine n_endM rfl rfl ⟨hst ▸ leOw_self _⟩ | refine x_endM rfl rfl ⟨hst ▸ leOw_self _⟩ | ((with_reducible refine c_grd ?_); (fail_if_success (refine c_lit true rfl rfl rfl ?_)); (fail_if_success (refine c_lit false rfl rfl rfl ?_)); refine c_split rfl rfl (fun _ => ?_) (fun _ => ?_)))

end Go.Proofs.Ytghhohckonbkkaa.Flow
