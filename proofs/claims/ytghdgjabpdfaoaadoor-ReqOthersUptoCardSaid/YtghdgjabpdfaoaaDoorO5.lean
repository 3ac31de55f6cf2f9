/- The texts Y2, W1, W2, W3, one behind the other. -/
import Derived.Test.YtghdgjabpdfaoaaDoorO4
import Derived.Scope
import Derived.Shelf.Strings.IndexAnyAll
/- REQ: does a text hold an end of a line? (strings.ContainsAny, at texts of any bytes.) -/
namespace Go.Proofs.YtghdgjabpdfaoaaDoor.Flow
open Go

/-! ### Letters of any bytes -/
abbrev dc (s : List UInt8) (p : Nat) : Nat × Nat := Utf8.decode ⟨s.toArray⟩ p
theorem get_at (s : List UInt8) (i : Nat) : (ByteArray.get! ⟨s.toArray⟩ i).toNat = (s.getD i 0).toNat := by
  show (s.toArray[i]!).toNat = _
  simp [List.getD_eq_getElem?_getD]
  rfl

theorem dc_high {s : List UInt8} {p : Nat} (hp : p < s.length) (h : 128 ≤ (s.getD p 0).toNat) :
    Utf8.valid (dc s p).1 = true ∧ 128 ≤ (dc s p).1 ∧ 1 ≤ (dc s p).2 ∧ p + (dc s p).2 ≤ s.length ∧ ∀ j, p ≤ j → j < p + (dc s p).2 → 128 ≤ (s.getD j 0).toNat := by
  have hsz : (ByteArray.mk s.toArray).size = s.length := by simp [ByteArray.size]
  have one : ∀ j, p ≤ j → j < p + 1 → 128 ≤ (s.getD j 0).toNat := fun j h1 h2 => by
    obtain rfl : j = p := by omega
    exact h
  have err : Utf8.valid (Utf8.runeError : Nat) = true ∧ 128 ≤ Utf8.runeError := by decide
  unfold dc Utf8.decode
  simp only [Nat.add_zero, get_at, hsz, Bool.and_eq_true, beq_iff_eq, decide_eq_true_eq]
  rw [if_neg (by omega)]
  split
  · rename_i h1
    split
    · rename_i h2
      refine ⟨?_, h2, by omega, by omega, fun j g1 g2 => ?_⟩
      · simp only [Utf8.valid, Bool.or_eq_true, Bool.and_eq_true, decide_eq_true_eq]
        omega
      · have : j = p ∨ j = p + 1 := by omega
        rcases this with rfl | rfl <;> omega
    · exact ⟨err.1, err.2, by omega, by omega, one⟩
  · split
    · rename_i h1
      split
      · rename_i h2
        refine ⟨h2.2, by omega, by omega, by omega, fun j g1 g2 => ?_⟩
        have : j = p ∨ j = p + 1 ∨ j = p + 2 := by omega
        rcases this with rfl | rfl | rfl <;> omega
      · exact ⟨err.1, err.2, by omega, by omega, one⟩
    · split
      · rename_i h1
        split
        · rename_i h2
          refine ⟨h2.2, by omega, by omega, by omega, fun j g1 g2 => ?_⟩
          have : j = p ∨ j = p + 1 ∨ j = p + 2 ∨ j = p + 3 := by omega
          rcases this with rfl | rfl | rfl | rfl <;> omega
        · exact ⟨err.1, err.2, by omega, by omega, one⟩
      · exact ⟨err.1, err.2, by omega, by omega, one⟩

/-- A letter of more than one byte: its bytes. -/
theorem enc_high {c : Int} (hv : Utf8.valid c = true) (h : 128 ≤ c) : ∃ l : List UInt8, Utf8.encode c = ⟨l.toArray⟩ ∧ ((∃ x y, l = [x, y] ∧ 128 ≤ y.toNat) ∨ (∃ x y z, l = [x, y, z] ∧ 128 ≤ z.toNat) ∨ (∃ x y z u, l = [x, y, z, u] ∧ 128 ≤ u.toNat)) := by
  have hb : ∀ n, n < 64 → 128 ≤ (UInt8.ofNat (128 + n)).toNat := fun n hn => by
    rw [UInt8.toNat_ofNat']
    omega
  unfold Utf8.encode
  rw [if_pos hv]
  dsimp only
  rw [if_neg (by omega)]
  split
  · exact ⟨[_, _], rfl, .inl ⟨_, _, rfl, hb _ (by omega)⟩⟩
  · split
    · exact ⟨[_, _, _], rfl, .inr (.inl ⟨_, _, _, rfl, hb _ (by omega)⟩)⟩
    · exact ⟨[_, _, _, _], rfl, .inr (.inr ⟨_, _, _, _, rfl, hb _ (by omega)⟩)⟩

section
variable {P : Program} {X : Ctx} {n : Nat} {o : Oper} {fr : Fr} {ow : Ow} {t k pos : Nat} {ty src dst : TypeId} {x : Operand} {l : List UInt8}

set_option maxRecDepth 100000 in
theorem nextU_step (ho : o.op = .next x true) (hx : ev fr x = .pv k 0) (hk : look k ow = some (.ob (.stringIter ⟨l.toArray⟩ pos))) (hp : pos < l.length) (hd : dstOk o.dst n) :
    ∀ F' O', (∀ y ∈ o.op.operands.toList, evF F' y = evF (fF fr) y) → (∀ j ∈ [k], O' j = fO ow j) →
      StepAt P X n o F' O' (.tu [.b true, .i .i64 pos, .i .i32 ((dc l pos).1 : Nat)]) [(k, .ob (.stringIter ⟨l.toArray⟩ (pos + (dc l pos).2)))] := by
  intro F' O' he hO
  refine stepAt_of hd fun a w S r hH hI hr => ?_
  have hx' := hr x
  rw [he x (by simp [ho, Op.operands]), evF_fF, hx] at hx'
  have hk' : O' k = some (.ob (.stringIter ⟨l.toArray⟩ pos)) := (hO k (by simp)).trans hk
  obtain ⟨b, h1, h2, h3⟩ := hI.obj k _ hk'
  obtain ⟨g1, g2, g3⟩ := setOb_ok (.stringIter ⟨l.toArray⟩ (pos + (dc l pos).2)) hH hI hk' h1
  have hlt : pos < (⟨l.toArray⟩ : ByteArray).size := by simpa [ByteArray.size] using hp
  refine ⟨.tuple #[.bool true, .int .i64 pos, .int .i32 (dc l pos).1], _, S, r, .inl ?_, .tu _ _ _ rfl fun j hj => ?_, g1, g2, fun _ _ h => h, g3, RhoLe.refl r⟩
  · generalize hv : a.eval x = v at hx'
    cases hx' with
    | pv _ _ _ b' h4 =>
      rw [h1] at h4
      cases h4
      have hrun := Lib.run_next_any_at (P := P) w b ⟨l.toArray⟩ pos o.type h2 hlt
      unfold World.iterAt at hrun
      simp only [execOp, ho, hv]
      simp [hrun]
  · match j, hj with
    | 0, _ => exact .b ..
    | 1, _ => exact .i ..
    | 2, _ => exact .i ..

set_option maxRecDepth 100000 in
theorem rune_step {c : Int} (hs : P.underlying src = some (.int .i32)) (hd2 : P.underlying dst = some .string) (ho : o.op = .convert src dst x) (hx : ev fr x = .i .i32 c) (hl : Utf8.encode c = ⟨l.toArray⟩) (hd : dstOk o.dst n) :
    ∀ F' O', (∀ y ∈ o.op.operands.toList, evF F' y = evF (fF fr) y) → (∀ j ∈ ([] : List Nat), O' j = fO ow j) → StepAt P X n o F' O' (.s l) [] := by
  intro F' O' he _
  refine stepAt_of hd fun a w S r hH hI hr => ?_
  have hx' := hr x
  rw [he x (by simp [ho, Op.operands]), evF_fF, hx] at hx'
  refine ⟨.string ⟨l.toArray⟩, w, S, r, .inl ?_, .s .., hH, hI, fun _ _ h => h, fun _ _ _ => rfl, RhoLe.refl r⟩
  generalize hv : a.eval x = v at hx'
  cases hx'
  simp [execOp, ho, hv, convert, run_underlying hs, run_underlying hd2, Conv.intToString, hl, Result.andThen]
end

section
variable {X : Ctx} {n : Nat} {all rest : List Oper} {fr : Fr} {ow : Ow} {tr : List (List Nat × List Nat)} {K : Fr → Ow → List (List Nat × List Nat) → Prop}
variable {t k pos : Nat} {ty' src dst : TypeId} {ps : String} {af : Array Edge} {x : Operand} {l : List UInt8}

/-- The next letter, of any bytes. -/
theorem r_nextU (hx : ev fr x = .pv k 0) (hk : look k ow = some (.ob (.stringIter ⟨l.toArray⟩ pos))) (hp : pos < l.length) (hn : Nat.blt t n = true)
    (h : CT Tryd.prog X n all rest ((t, .tu [.b true, .i .i64 pos, .i .i32 ((dc l pos).1 : Nat)]) :: fr) ((k, .ob (.stringIter ⟨l.toArray⟩ (pos + (dc l pos).2))) :: ow) (tr ++ [([k], [k])]) K) :
    CT Tryd.prog X n all (⟨some t, .next x true, ty', ps, af, none⟩ :: rest) fr ow tr K :=
  CT.cons (e := ⟨.tu [.b true, .i .i64 pos, .i .i32 ((dc l pos).1 : Nat)], [k], [(k, .ob (.stringIter ⟨l.toArray⟩ (pos + (dc l pos).2)))]⟩) (.plain rfl (nextU_step (P := Tryd.prog) (X := X) (o := ⟨some t, .next x true, ty', ps, af, none⟩) rfl hx hk hp (Nat.le_of_ble_eq_true hn))) (fF_cons ..) (fO_cons ..) h

/-- A letter as a text. -/
theorem r_rune {c : Int} (hs : Tryd.prog.underlying src = some (.int .i32)) (hd2 : Tryd.prog.underlying dst = some .string) (hx : ev fr x = .i .i32 c) (hl : Utf8.encode c = ⟨l.toArray⟩) (hn : Nat.blt t n = true)
    (h : CT Tryd.prog X n all rest ((t, .s l) :: fr) ow (tr ++ [([], [])]) K) : CT Tryd.prog X n all (⟨some t, .convert src dst x, ty', ps, af, none⟩ :: rest) fr ow tr K := by
  generalize ho : (⟨some t, .convert src dst x, ty', ps, af, none⟩ : Oper) = o
  have h1 := rune_step (P := Tryd.prog) (X := X) (n := n) (o := o) (fr := fr) (ow := ow) hs hd2 (by rw [← ho]) hx hl (by rw [← ho]; exact Nat.le_of_ble_eq_true hn)
  refine CT.cons (e := ⟨.s l, [], []⟩) (.plain (by rw [← ho]) h1) ?_ rfl h
  rw [← ho]
  exact fF_cons ..
end

/-- A piece of code with labels, out of which nothing jumps. -/
theorem t_scope {X : Ctx} {n : Nat} {fr : Fr} {ow : Ow} {Q : Exit → Fr → Ow → Prop} {c : Code} (hQ : ∀ l fr ow, Q (.goto l) fr ow → False) (h : T Tryd.prog X n c fr ow Q) : T Tryd.prog X n (.scope c) fr ow Q := fun a w hr => by
  refine wp_scope_straight (wp_mono (h a w hr) fun e a' w' hq => ?_)
  cases e with
  | goto l => obtain ⟨fr', ow', h1, _⟩ := hq; exact (hQ l fr' ow' h1).elim
  | _ => exact hq

/-! ### The library's -/
theorem validRune_ctr (c : Int) (hv : Utf8.valid c = true) : Ctr Tryd.prog 120 [.i .i32 c] (.b true) := by
  simp only [Utf8.valid, Bool.or_eq_true, Bool.and_eq_true, decide_eq_true_eq] at hv
  refine r_fun Tryd.func120 rfl Tryd.ntmps120 Tryd.results120 rfl rfl fun X hL hX => ?_
  repeat' (first
    | with_reducible (first | refine t_seq ?_ | refine t_region ?_ | refine c_nil ?_ | refine n_then ?_ | refine t_ret ?_ | refine t_skip ?_ | refine t_exit ?_ | refine t_block ?_ | refine n_block ?_ | refine e_then ?_ | refine x_then ?_ | refine x_block ?_ | refine t_draw ?_)
    | refine r_val rfl rfl True.intro ?_ | refine r_gskip rfl rfl rfl ?_ | refine r_gskip2 rfl rfl rfl ?_ | refine r_gval rfl rfl rfl rfl True.intro ?_
    | refine t_true rfl ?_ | refine t_false rfl ?_
    | ((first | refine t_cond_d rfl ?_ ?_ | refine t_cond_i rfl ?_ ?_ | refine t_cond_j rfl ?_ ?_ | refine t_cond_s rfl ?_ ?_ | refine t_cond_n rfl ?_ ?_ | refine t_cond rfl ?_ ?_ | refine c_split_d rfl rfl ?_ ?_ | refine c_split_i rfl rfl ?_ ?_ | refine c_split_j rfl rfl ?_ ?_ | refine c_split_s rfl rfl ?_ ?_ | refine c_split_n rfl rfl ?_ ?_) <;> intro <;> try (first | contradiction | (exfalso; omega)))
    | ((first | refine r_val rfl rfl ?_ ?_ | refine r_gval rfl rfl rfl rfl ?_ ?_ | refine r_obj rfl rfl ?_ ?_ | refine r_sto rfl ?_ ?_ | refine r_gobj rfl rfl rfl rfl ?_ ?_); focus (first | omega | exact Nat.le_of_ble_eq_true rfl | (simp_all; done) | (simp_all; omega) | ((repeat' refine And.intro ?_ ?_) <;> first | omega | rfl | exact Nat.le_refl _ | exact Nat.le_of_ble_eq_true rfl | exact bytesF_one _ | (simp_all; done) | (simp_all; omega))))
    | refine e_hit rfl ?_ | refine e_miss rfl ?_
    | with_reducible refine ⟨by kernel_rfl, ?_⟩ | refine x_end rfl ?_ | refine n_end rfl ?_ | ((with_reducible refine c_grd ?_); (fail_if_success (refine c_lit true rfl rfl rfl ?_)); (fail_if_success (refine c_lit false rfl rfl rfl ?_)); refine c_split rfl rfl (fun _ => ?_) (fun _ => ?_)))
  all_goals rfl

def irV (c : Int) : Int := if c = 13 then 0 else if c = 10 then 1 else -1
theorem ir_low : ∀ n : Fin 128, Lib.indexByte [13, 10] (n.1 : Int).toNat.toUInt8 = irV (n.1 : Int) := by decide

set_option maxRecDepth 100000 in
set_option maxHeartbeats 2000000 in
theorem indexRune_ctr (c : Int) (hv : Utf8.valid c = true) : Ctr Tryd.prog 106 [.s [13, 10], .i .i32 c] (.i .i64 (irV c)) := by
  have hvc : 0 ≤ c ∧ c ≤ 1114111 := by
    simp only [Utf8.valid, Bool.or_eq_true, Bool.and_eq_true, decide_eq_true_eq] at hv
    omega
  have c2 := validRune_ctr c hv
  refine r_fun Tryd.func106 rfl Tryd.ntmps106 Tryd.results106 rfl rfl fun X hL hX => ?_
  by_cases h1 : c < 128
  · have hlow := ir_low ⟨c.toNat, by omega⟩
    rw [show ((c.toNat : Nat) : Int) = c by omega] at hlow
    have hw : IntKind.u8.wrap c = c := by rw [wrap_u8]; omega
    have c1 := w_indexByte [13, 10] c
    rw [← hw] at c1
    repeat' (first
      | refine r_call (f := 38) rfl rfl Tryd.call38 rfl c1 ?_
      | with_reducible (first | refine t_seq ?_ | refine t_region ?_ | refine c_nil ?_ | refine n_then ?_ | refine t_ret ?_ | refine t_skip ?_ | refine t_exit ?_ | refine t_block ?_ | refine n_block ?_ | refine e_then ?_ | refine x_then ?_ | refine x_block ?_ | refine t_draw ?_)
      | refine r_val rfl rfl True.intro ?_ | refine r_gskip rfl rfl rfl ?_ | refine r_gskip2 rfl rfl rfl ?_ | refine r_gval rfl rfl rfl rfl True.intro ?_
      | refine t_true rfl ?_ | refine t_false rfl ?_
      | ((first | refine t_cond_d rfl ?_ ?_ | refine t_cond_i rfl ?_ ?_ | refine t_cond_j rfl ?_ ?_ | refine t_cond_s rfl ?_ ?_ | refine t_cond_n rfl ?_ ?_ | refine t_cond rfl ?_ ?_ | refine c_split_d rfl rfl ?_ ?_ | refine c_split_i rfl rfl ?_ ?_ | refine c_split_j rfl rfl ?_ ?_ | refine c_split_s rfl rfl ?_ ?_ | refine c_split_n rfl rfl ?_ ?_) <;> intro <;> try (first | contradiction | (exfalso; omega)))
      | ((first | refine r_val rfl rfl ?_ ?_ | refine r_gval rfl rfl rfl rfl ?_ ?_ | refine r_obj rfl rfl ?_ ?_ | refine r_sto rfl ?_ ?_ | refine r_gobj rfl rfl rfl rfl ?_ ?_); focus (first | omega | exact Nat.le_of_ble_eq_true rfl | (simp_all; done) | (simp_all; omega) | ((repeat' refine And.intro ?_ ?_) <;> first | omega | rfl | exact Nat.le_refl _ | exact Nat.le_of_ble_eq_true rfl | exact bytesF_one _ | (simp_all; done) | (simp_all; omega))))
      | refine e_hit rfl ?_ | refine e_miss rfl ?_
      | with_reducible refine ⟨by kernel_rfl, ?_⟩ | refine x_end rfl ?_ | refine n_end rfl ?_ | ((with_reducible refine c_grd ?_); (fail_if_success (refine c_lit true rfl rfl rfl ?_)); (fail_if_success (refine c_lit false rfl rfl rfl ?_)); refine c_split rfl rfl (fun _ => ?_) (fun _ => ?_)))
    all_goals rw [hw, hlow]
  · have hir : irV c = -1 := by unfold irV; rw [if_neg (by omega), if_neg (by omega)]
    rw [hir]
    by_cases h2 : c = 65533
    · subst h2
      repeat' (first
        | refine r_range rfl rfl rfl rfl ?_
        | with_reducible (first | refine t_seq ?_ | refine t_region ?_ | refine c_nil ?_ | refine n_then ?_ | refine t_ret ?_ | refine t_skip ?_ | refine t_exit ?_ | refine t_block ?_ | refine n_block ?_ | refine e_then ?_ | refine x_then ?_ | refine x_block ?_ | refine t_draw ?_)
        | refine r_val rfl rfl True.intro ?_ | refine r_gskip rfl rfl rfl ?_ | refine r_gskip2 rfl rfl rfl ?_ | refine r_gval rfl rfl rfl rfl True.intro ?_
        | refine t_true rfl ?_ | refine t_false rfl ?_
        | ((first | refine t_cond_d rfl ?_ ?_ | refine t_cond_i rfl ?_ ?_ | refine t_cond_j rfl ?_ ?_ | refine t_cond_s rfl ?_ ?_ | refine t_cond_n rfl ?_ ?_ | refine t_cond rfl ?_ ?_ | refine c_split_d rfl rfl ?_ ?_ | refine c_split_i rfl rfl ?_ ?_ | refine c_split_j rfl rfl ?_ ?_ | refine c_split_s rfl rfl ?_ ?_ | refine c_split_n rfl rfl ?_ ?_) <;> intro <;> try (first | contradiction | (exfalso; omega)))
        | ((first | refine r_val rfl rfl ?_ ?_ | refine r_gval rfl rfl rfl rfl ?_ ?_ | refine r_obj rfl rfl ?_ ?_ | refine r_sto rfl ?_ ?_ | refine r_gobj rfl rfl rfl rfl ?_ ?_); focus (first | omega | exact Nat.le_of_ble_eq_true rfl | (simp_all; done) | (simp_all; omega) | ((repeat' refine And.intro ?_ ?_) <;> first | omega | rfl | exact Nat.le_refl _ | exact Nat.le_of_ble_eq_true rfl | exact bytesF_one _ | (simp_all; done) | (simp_all; omega))))
        | refine e_hit rfl ?_ | refine e_miss rfl ?_
        | with_reducible refine ⟨by kernel_rfl, ?_⟩ | refine x_end rfl ?_ | refine n_end rfl ?_ | ((with_reducible refine c_grd ?_); (fail_if_success (refine c_lit true rfl rfl rfl ?_)); (fail_if_success (refine c_lit false rfl rfl rfl ?_)); refine c_split rfl rfl (fun _ => ?_) (fun _ => ?_)))
      refine T.loop hL (fun _ : Nat => [(175, .pv 175 0)]) (fun p => [(175, .ob (.stringIter ⟨([13, 10] : List UInt8).toArray⟩ p))]) (fun p => p ≤ 2) (fun p => 2 - p) 0 (by omega)
        ⟨⟨rfl, trivial⟩, ⟨rfl, trivial⟩, rfl, fun q hq => by rw [hX] at hq; simp at hq⟩ ?_
      intro p hp
      have hc : p = 0 ∨ p = 1 ∨ p = 2 := by omega
      rcases hc with rfl | rfl | rfl
      · skip
        repeat' (first
          | refine r_next (l := [13, 10]) rfl rfl rfl (by decide) (by decide) ?_
          | with_reducible (first | refine t_seq ?_ | refine t_region ?_ | refine c_nil ?_ | refine n_then ?_ | refine t_ret ?_ | refine t_skip ?_ | refine t_exit ?_ | refine t_block ?_ | refine n_block ?_ | refine e_then ?_ | refine x_then ?_ | refine x_block ?_ | refine t_draw ?_)
          | refine r_val rfl rfl True.intro ?_ | refine r_gskip rfl rfl rfl ?_ | refine r_gskip2 rfl rfl rfl ?_ | refine r_gval rfl rfl rfl rfl True.intro ?_
          | refine t_true rfl ?_ | refine t_false rfl ?_
          | ((first | refine t_cond_d rfl ?_ ?_ | refine t_cond_i rfl ?_ ?_ | refine t_cond_j rfl ?_ ?_ | refine t_cond_s rfl ?_ ?_ | refine t_cond_n rfl ?_ ?_ | refine t_cond rfl ?_ ?_ | refine c_split_d rfl rfl ?_ ?_ | refine c_split_i rfl rfl ?_ ?_ | refine c_split_j rfl rfl ?_ ?_ | refine c_split_s rfl rfl ?_ ?_ | refine c_split_n rfl rfl ?_ ?_) <;> intro <;> try (first | contradiction | (exfalso; omega)))
          | ((first | refine r_val rfl rfl ?_ ?_ | refine r_gval rfl rfl rfl rfl ?_ ?_ | refine r_obj rfl rfl ?_ ?_ | refine r_sto rfl ?_ ?_ | refine r_gobj rfl rfl rfl rfl ?_ ?_); focus (first | omega | exact Nat.le_of_ble_eq_true rfl | (simp_all; done) | (simp_all; omega) | ((repeat' refine And.intro ?_ ?_) <;> first | omega | rfl | exact Nat.le_refl _ | exact Nat.le_of_ble_eq_true rfl | exact bytesF_one _ | (simp_all; done) | (simp_all; omega))))
          | refine e_hit rfl ?_ | refine e_miss rfl ?_
          | with_reducible refine ⟨by kernel_rfl, ?_⟩ | refine x_end rfl ?_ | refine n_end rfl ?_ | ((with_reducible refine c_grd ?_); (fail_if_success (refine c_lit true rfl rfl rfl ?_)); (fail_if_success (refine c_lit false rfl rfl rfl ?_)); refine c_split rfl rfl (fun _ => ?_) (fun _ => ?_)))
        all_goals exact ⟨1, by omega, by omega, ⟨rfl, trivial⟩, ⟨rfl, trivial⟩, rfl, fun q hq => by rw [hX] at hq; simp at hq⟩
      · skip
        repeat' (first
          | refine r_next (l := [13, 10]) rfl rfl rfl (by decide) (by decide) ?_
          | with_reducible (first | refine t_seq ?_ | refine t_region ?_ | refine c_nil ?_ | refine n_then ?_ | refine t_ret ?_ | refine t_skip ?_ | refine t_exit ?_ | refine t_block ?_ | refine n_block ?_ | refine e_then ?_ | refine x_then ?_ | refine x_block ?_ | refine t_draw ?_)
          | refine r_val rfl rfl True.intro ?_ | refine r_gskip rfl rfl rfl ?_ | refine r_gskip2 rfl rfl rfl ?_ | refine r_gval rfl rfl rfl rfl True.intro ?_
          | refine t_true rfl ?_ | refine t_false rfl ?_
          | ((first | refine t_cond_d rfl ?_ ?_ | refine t_cond_i rfl ?_ ?_ | refine t_cond_j rfl ?_ ?_ | refine t_cond_s rfl ?_ ?_ | refine t_cond_n rfl ?_ ?_ | refine t_cond rfl ?_ ?_ | refine c_split_d rfl rfl ?_ ?_ | refine c_split_i rfl rfl ?_ ?_ | refine c_split_j rfl rfl ?_ ?_ | refine c_split_s rfl rfl ?_ ?_ | refine c_split_n rfl rfl ?_ ?_) <;> intro <;> try (first | contradiction | (exfalso; omega)))
          | ((first | refine r_val rfl rfl ?_ ?_ | refine r_gval rfl rfl rfl rfl ?_ ?_ | refine r_obj rfl rfl ?_ ?_ | refine r_sto rfl ?_ ?_ | refine r_gobj rfl rfl rfl rfl ?_ ?_); focus (first | omega | exact Nat.le_of_ble_eq_true rfl | (simp_all; done) | (simp_all; omega) | ((repeat' refine And.intro ?_ ?_) <;> first | omega | rfl | exact Nat.le_refl _ | exact Nat.le_of_ble_eq_true rfl | exact bytesF_one _ | (simp_all; done) | (simp_all; omega))))
          | refine e_hit rfl ?_ | refine e_miss rfl ?_
          | with_reducible refine ⟨by kernel_rfl, ?_⟩ | refine x_end rfl ?_ | refine n_end rfl ?_ | ((with_reducible refine c_grd ?_); (fail_if_success (refine c_lit true rfl rfl rfl ?_)); (fail_if_success (refine c_lit false rfl rfl rfl ?_)); refine c_split rfl rfl (fun _ => ?_) (fun _ => ?_)))
        all_goals exact ⟨2, by omega, by omega, ⟨rfl, trivial⟩, ⟨rfl, trivial⟩, rfl, fun q hq => by rw [hX] at hq; simp at hq⟩
      · skip
        repeat' (first
          | refine r_over (l := [13, 10]) rfl rfl rfl (by decide) ?_
          | with_reducible (first | refine t_seq ?_ | refine t_region ?_ | refine c_nil ?_ | refine n_then ?_ | refine t_ret ?_ | refine t_skip ?_ | refine t_exit ?_ | refine t_block ?_ | refine n_block ?_ | refine e_then ?_ | refine x_then ?_ | refine x_block ?_ | refine t_draw ?_)
          | refine r_val rfl rfl True.intro ?_ | refine r_gskip rfl rfl rfl ?_ | refine r_gskip2 rfl rfl rfl ?_ | refine r_gval rfl rfl rfl rfl True.intro ?_
          | refine t_true rfl ?_ | refine t_false rfl ?_
          | ((first | refine t_cond_d rfl ?_ ?_ | refine t_cond_i rfl ?_ ?_ | refine t_cond_j rfl ?_ ?_ | refine t_cond_s rfl ?_ ?_ | refine t_cond_n rfl ?_ ?_ | refine t_cond rfl ?_ ?_ | refine c_split_d rfl rfl ?_ ?_ | refine c_split_i rfl rfl ?_ ?_ | refine c_split_j rfl rfl ?_ ?_ | refine c_split_s rfl rfl ?_ ?_ | refine c_split_n rfl rfl ?_ ?_) <;> intro <;> try (first | contradiction | (exfalso; omega)))
          | ((first | refine r_val rfl rfl ?_ ?_ | refine r_gval rfl rfl rfl rfl ?_ ?_ | refine r_obj rfl rfl ?_ ?_ | refine r_sto rfl ?_ ?_ | refine r_gobj rfl rfl rfl rfl ?_ ?_); focus (first | omega | exact Nat.le_of_ble_eq_true rfl | (simp_all; done) | (simp_all; omega) | ((repeat' refine And.intro ?_ ?_) <;> first | omega | rfl | exact Nat.le_refl _ | exact Nat.le_of_ble_eq_true rfl | exact bytesF_one _ | (simp_all; done) | (simp_all; omega))))
          | refine e_hit rfl ?_ | refine e_miss rfl ?_
          | with_reducible refine ⟨by kernel_rfl, ?_⟩ | refine x_end rfl ?_ | refine n_end rfl ?_ | ((with_reducible refine c_grd ?_); (fail_if_success (refine c_lit true rfl rfl rfl ?_)); (fail_if_success (refine c_lit false rfl rfl rfl ?_)); refine c_split rfl rfl (fun _ => ?_) (fun _ => ?_)))
        all_goals rfl
    · obtain ⟨l, hl, hc⟩ := enc_high hv (by omega)
      rcases hc with ⟨x, y, rfl, hy⟩ | ⟨x, y, z, rfl, hy⟩ | ⟨x, y, z, u, rfl, hy⟩
      · have ha : 128 ≤ at' [x, y] 1 := by
          show (128 : Int) ≤ ((y.toNat : Nat) : Int)
          omega
        have hne : ¬ at' [13, 10] 1 = at' [x, y] 1 := fun e => by
          rw [← e] at ha
          exact absurd ha (by decide)
        have c3 := w_indexByte [] (at' [x, y] 1)
        repeat' (first
          | refine t_scope (fun _ _ _ h => h) ?_ | refine r_rune (l := [x, y]) Tryd.underlying21 Tryd.underlying9 rfl hl rfl ?_ | refine r_call (f := 120) rfl rfl Tryd.call120 rfl c2 ?_
          | with_reducible (first | refine t_seq ?_ | refine t_region ?_ | refine c_nil ?_ | refine n_then ?_ | refine t_ret ?_ | refine t_skip ?_ | refine t_exit ?_ | refine t_block ?_ | refine n_block ?_ | refine e_then ?_ | refine x_then ?_ | refine x_block ?_ | refine t_draw ?_)
          | refine r_val rfl rfl True.intro ?_ | refine r_gskip rfl rfl rfl ?_ | refine r_gskip2 rfl rfl rfl ?_ | refine r_gval rfl rfl rfl rfl True.intro ?_
          | refine t_true rfl ?_ | refine t_false rfl ?_
          | ((first | refine t_cond_d rfl ?_ ?_ | refine t_cond_i rfl ?_ ?_ | refine t_cond_j rfl ?_ ?_ | refine t_cond_s rfl ?_ ?_ | refine t_cond_n rfl ?_ ?_ | refine t_cond rfl ?_ ?_ | refine c_split_d rfl rfl ?_ ?_ | refine c_split_i rfl rfl ?_ ?_ | refine c_split_j rfl rfl ?_ ?_ | refine c_split_s rfl rfl ?_ ?_ | refine c_split_n rfl rfl ?_ ?_) <;> intro <;> try (first | contradiction | (exfalso; omega)))
          | ((first | refine r_val rfl rfl ?_ ?_ | refine r_gval rfl rfl rfl rfl ?_ ?_ | refine r_obj rfl rfl ?_ ?_ | refine r_sto rfl ?_ ?_ | refine r_gobj rfl rfl rfl rfl ?_ ?_); focus (first | omega | exact Nat.le_of_ble_eq_true rfl | (simp_all; done) | (simp_all; omega) | ((repeat' refine And.intro ?_ ?_) <;> first | omega | rfl | exact Nat.le_refl _ | exact Nat.le_of_ble_eq_true rfl | exact bytesF_one _ | (simp_all; done) | (simp_all; omega))))
          | refine e_hit rfl ?_ | refine e_miss rfl ?_
          | with_reducible refine ⟨by kernel_rfl, ?_⟩ | refine x_end rfl ?_ | refine n_end rfl ?_ | ((with_reducible refine c_grd ?_); (fail_if_success (refine c_lit true rfl rfl rfl ?_)); (fail_if_success (refine c_lit false rfl rfl rfl ?_)); refine c_split rfl rfl (fun _ => ?_) (fun _ => ?_)))
        refine T.loop hL (fun _ : Nat => [(0, .s [13, 10]), (7, .s [x, y]), (8, .i .i64 1), (9, .i .i64 1)]) (fun _ => []) (fun _ => True) (fun _ => 0) 0 trivial
          ⟨⟨rfl, rfl, rfl, rfl, trivial⟩, trivial, rfl, fun q hq => by rw [hX] at hq; simp at hq⟩ ?_
        intro p hp
        repeat' (first
          | refine t_scope (fun _ _ _ h => h) ?_ | refine r_call (f := 38) rfl rfl Tryd.call38 rfl c3 ?_
          | with_reducible (first | refine t_seq ?_ | refine t_region ?_ | refine c_nil ?_ | refine n_then ?_ | refine t_ret ?_ | refine t_skip ?_ | refine t_exit ?_ | refine t_block ?_ | refine n_block ?_ | refine e_then ?_ | refine x_then ?_ | refine x_block ?_ | refine t_draw ?_)
          | refine r_val rfl rfl True.intro ?_ | refine r_gskip rfl rfl rfl ?_ | refine r_gskip2 rfl rfl rfl ?_ | refine r_gval rfl rfl rfl rfl True.intro ?_
          | refine t_true rfl ?_ | refine t_false rfl ?_
          | ((first | refine t_cond_d rfl ?_ ?_ | refine t_cond_i rfl ?_ ?_ | refine t_cond_j rfl ?_ ?_ | refine t_cond_s rfl ?_ ?_ | refine t_cond_n rfl ?_ ?_ | refine t_cond rfl ?_ ?_ | refine c_split_d rfl rfl ?_ ?_ | refine c_split_i rfl rfl ?_ ?_ | refine c_split_j rfl rfl ?_ ?_ | refine c_split_s rfl rfl ?_ ?_ | refine c_split_n rfl rfl ?_ ?_) <;> intro <;> try (first | contradiction | (exfalso; omega)))
          | ((first | refine r_val rfl rfl ?_ ?_ | refine r_gval rfl rfl rfl rfl ?_ ?_ | refine r_obj rfl rfl ?_ ?_ | refine r_sto rfl ?_ ?_ | refine r_gobj rfl rfl rfl rfl ?_ ?_); focus (first | omega | exact Nat.le_of_ble_eq_true rfl | (simp_all; done) | (simp_all; omega) | ((repeat' refine And.intro ?_ ?_) <;> first | omega | rfl | exact Nat.le_refl _ | exact Nat.le_of_ble_eq_true rfl | exact bytesF_one _ | (simp_all; done) | (simp_all; omega))))
          | refine e_hit rfl ?_ | refine e_miss rfl ?_
          | with_reducible refine ⟨by kernel_rfl, ?_⟩ | refine x_end rfl ?_ | refine n_end rfl ?_ | ((with_reducible refine c_grd ?_); (fail_if_success (refine c_lit true rfl rfl rfl ?_)); (fail_if_success (refine c_lit false rfl rfl rfl ?_)); refine c_split rfl rfl (fun _ => ?_) (fun _ => ?_)))
        all_goals rfl
      · have ha : 128 ≤ at' [x, y, z] 2 := by
          show (128 : Int) ≤ ((z.toNat : Nat) : Int)
          omega
        have hne : ¬ at' [13, 10] 1 = at' [x, y, z] 2 := fun e => by
          rw [← e] at ha
          exact absurd ha (by decide)
        have c3 := w_indexByte [] (at' [x, y, z] 2)
        repeat' (first
          | refine t_scope (fun _ _ _ h => h) ?_ | refine r_rune (l := [x, y, z]) Tryd.underlying21 Tryd.underlying9 rfl hl rfl ?_ | refine r_call (f := 120) rfl rfl Tryd.call120 rfl c2 ?_
          | with_reducible (first | refine t_seq ?_ | refine t_region ?_ | refine c_nil ?_ | refine n_then ?_ | refine t_ret ?_ | refine t_skip ?_ | refine t_exit ?_ | refine t_block ?_ | refine n_block ?_ | refine e_then ?_ | refine x_then ?_ | refine x_block ?_ | refine t_draw ?_)
          | refine r_val rfl rfl True.intro ?_ | refine r_gskip rfl rfl rfl ?_ | refine r_gskip2 rfl rfl rfl ?_ | refine r_gval rfl rfl rfl rfl True.intro ?_
          | refine t_true rfl ?_ | refine t_false rfl ?_
          | ((first | refine t_cond_d rfl ?_ ?_ | refine t_cond_i rfl ?_ ?_ | refine t_cond_j rfl ?_ ?_ | refine t_cond_s rfl ?_ ?_ | refine t_cond_n rfl ?_ ?_ | refine t_cond rfl ?_ ?_ | refine c_split_d rfl rfl ?_ ?_ | refine c_split_i rfl rfl ?_ ?_ | refine c_split_j rfl rfl ?_ ?_ | refine c_split_s rfl rfl ?_ ?_ | refine c_split_n rfl rfl ?_ ?_) <;> intro <;> try (first | contradiction | (exfalso; omega)))
          | ((first | refine r_val rfl rfl ?_ ?_ | refine r_gval rfl rfl rfl rfl ?_ ?_ | refine r_obj rfl rfl ?_ ?_ | refine r_sto rfl ?_ ?_ | refine r_gobj rfl rfl rfl rfl ?_ ?_); focus (first | omega | exact Nat.le_of_ble_eq_true rfl | (simp_all; done) | (simp_all; omega) | ((repeat' refine And.intro ?_ ?_) <;> first | omega | rfl | exact Nat.le_refl _ | exact Nat.le_of_ble_eq_true rfl | exact bytesF_one _ | (simp_all; done) | (simp_all; omega))))
          | refine e_hit rfl ?_ | refine e_miss rfl ?_
          | with_reducible refine ⟨by kernel_rfl, ?_⟩ | refine x_end rfl ?_ | refine n_end rfl ?_ | ((with_reducible refine c_grd ?_); (fail_if_success (refine c_lit true rfl rfl rfl ?_)); (fail_if_success (refine c_lit false rfl rfl rfl ?_)); refine c_split rfl rfl (fun _ => ?_) (fun _ => ?_)))
        refine T.loop hL (fun _ : Nat => [(0, .s [13, 10]), (7, .s [x, y, z]), (8, .i .i64 2), (9, .i .i64 2)]) (fun _ => []) (fun _ => True) (fun _ => 0) 0 trivial
          ⟨⟨rfl, rfl, rfl, rfl, trivial⟩, trivial, rfl, fun q hq => by rw [hX] at hq; simp at hq⟩ ?_
        intro p hp
        repeat' (first
          | refine t_scope (fun _ _ _ h => h) ?_ | refine r_call (f := 38) rfl rfl Tryd.call38 rfl c3 ?_
          | with_reducible (first | refine t_seq ?_ | refine t_region ?_ | refine c_nil ?_ | refine n_then ?_ | refine t_ret ?_ | refine t_skip ?_ | refine t_exit ?_ | refine t_block ?_ | refine n_block ?_ | refine e_then ?_ | refine x_then ?_ | refine x_block ?_ | refine t_draw ?_)
          | refine r_val rfl rfl True.intro ?_ | refine r_gskip rfl rfl rfl ?_ | refine r_gskip2 rfl rfl rfl ?_ | refine r_gval rfl rfl rfl rfl True.intro ?_
          | refine t_true rfl ?_ | refine t_false rfl ?_
          | ((first | refine t_cond_d rfl ?_ ?_ | refine t_cond_i rfl ?_ ?_ | refine t_cond_j rfl ?_ ?_ | refine t_cond_s rfl ?_ ?_ | refine t_cond_n rfl ?_ ?_ | refine t_cond rfl ?_ ?_ | refine c_split_d rfl rfl ?_ ?_ | refine c_split_i rfl rfl ?_ ?_ | refine c_split_j rfl rfl ?_ ?_ | refine c_split_s rfl rfl ?_ ?_ | refine c_split_n rfl rfl ?_ ?_) <;> intro <;> try (first | contradiction | (exfalso; omega)))
          | ((first | refine r_val rfl rfl ?_ ?_ | refine r_gval rfl rfl rfl rfl ?_ ?_ | refine r_obj rfl rfl ?_ ?_ | refine r_sto rfl ?_ ?_ | refine r_gobj rfl rfl rfl rfl ?_ ?_); focus (first | omega | exact Nat.le_of_ble_eq_true rfl | (simp_all; done) | (simp_all; omega) | ((repeat' refine And.intro ?_ ?_) <;> first | omega | rfl | exact Nat.le_refl _ | exact Nat.le_of_ble_eq_true rfl | exact bytesF_one _ | (simp_all; done) | (simp_all; omega))))
          | refine e_hit rfl ?_ | refine e_miss rfl ?_
          | with_reducible refine ⟨by kernel_rfl, ?_⟩ | refine x_end rfl ?_ | refine n_end rfl ?_ | ((with_reducible refine c_grd ?_); (fail_if_success (refine c_lit true rfl rfl rfl ?_)); (fail_if_success (refine c_lit false rfl rfl rfl ?_)); refine c_split rfl rfl (fun _ => ?_) (fun _ => ?_)))
        all_goals rfl
      · have ha : 128 ≤ at' [x, y, z, u] 3 := by
          show (128 : Int) ≤ ((u.toNat : Nat) : Int)
          omega
        have hne : ¬ at' [13, 10] 1 = at' [x, y, z, u] 3 := fun e => by
          rw [← e] at ha
          exact absurd ha (by decide)
        have c3 := w_indexByte [] (at' [x, y, z, u] 3)
        repeat' (first
          | refine t_scope (fun _ _ _ h => h) ?_ | refine r_rune (l := [x, y, z, u]) Tryd.underlying21 Tryd.underlying9 rfl hl rfl ?_ | refine r_call (f := 120) rfl rfl Tryd.call120 rfl c2 ?_
          | with_reducible (first | refine t_seq ?_ | refine t_region ?_ | refine c_nil ?_ | refine n_then ?_ | refine t_ret ?_ | refine t_skip ?_ | refine t_exit ?_ | refine t_block ?_ | refine n_block ?_ | refine e_then ?_ | refine x_then ?_ | refine x_block ?_ | refine t_draw ?_)
          | refine r_val rfl rfl True.intro ?_ | refine r_gskip rfl rfl rfl ?_ | refine r_gskip2 rfl rfl rfl ?_ | refine r_gval rfl rfl rfl rfl True.intro ?_
          | refine t_true rfl ?_ | refine t_false rfl ?_
          | ((first | refine t_cond_d rfl ?_ ?_ | refine t_cond_i rfl ?_ ?_ | refine t_cond_j rfl ?_ ?_ | refine t_cond_s rfl ?_ ?_ | refine t_cond_n rfl ?_ ?_ | refine t_cond rfl ?_ ?_ | refine c_split_d rfl rfl ?_ ?_ | refine c_split_i rfl rfl ?_ ?_ | refine c_split_j rfl rfl ?_ ?_ | refine c_split_s rfl rfl ?_ ?_ | refine c_split_n rfl rfl ?_ ?_) <;> intro <;> try (first | contradiction | (exfalso; omega)))
          | ((first | refine r_val rfl rfl ?_ ?_ | refine r_gval rfl rfl rfl rfl ?_ ?_ | refine r_obj rfl rfl ?_ ?_ | refine r_sto rfl ?_ ?_ | refine r_gobj rfl rfl rfl rfl ?_ ?_); focus (first | omega | exact Nat.le_of_ble_eq_true rfl | (simp_all; done) | (simp_all; omega) | ((repeat' refine And.intro ?_ ?_) <;> first | omega | rfl | exact Nat.le_refl _ | exact Nat.le_of_ble_eq_true rfl | exact bytesF_one _ | (simp_all; done) | (simp_all; omega))))
          | refine e_hit rfl ?_ | refine e_miss rfl ?_
          | with_reducible refine ⟨by kernel_rfl, ?_⟩ | refine x_end rfl ?_ | refine n_end rfl ?_ | ((with_reducible refine c_grd ?_); (fail_if_success (refine c_lit true rfl rfl rfl ?_)); (fail_if_success (refine c_lit false rfl rfl rfl ?_)); refine c_split rfl rfl (fun _ => ?_) (fun _ => ?_)))
        refine T.loop hL (fun _ : Nat => [(0, .s [13, 10]), (7, .s [x, y, z, u]), (8, .i .i64 3), (9, .i .i64 3)]) (fun _ => []) (fun _ => True) (fun _ => 0) 0 trivial
          ⟨⟨rfl, rfl, rfl, rfl, trivial⟩, trivial, rfl, fun q hq => by rw [hX] at hq; simp at hq⟩ ?_
        intro p hp
        repeat' (first
          | refine t_scope (fun _ _ _ h => h) ?_ | refine r_call (f := 38) rfl rfl Tryd.call38 rfl c3 ?_
          | with_reducible (first | refine t_seq ?_ | refine t_region ?_ | refine c_nil ?_ | refine n_then ?_ | refine t_ret ?_ | refine t_skip ?_ | refine t_exit ?_ | refine t_block ?_ | refine n_block ?_ | refine e_then ?_ | refine x_then ?_ | refine x_block ?_ | refine t_draw ?_)
          | refine r_val rfl rfl True.intro ?_ | refine r_gskip rfl rfl rfl ?_ | refine r_gskip2 rfl rfl rfl ?_ | refine r_gval rfl rfl rfl rfl True.intro ?_
          | refine t_true rfl ?_ | refine t_false rfl ?_
          | ((first | refine t_cond_d rfl ?_ ?_ | refine t_cond_i rfl ?_ ?_ | refine t_cond_j rfl ?_ ?_ | refine t_cond_s rfl ?_ ?_ | refine t_cond_n rfl ?_ ?_ | refine t_cond rfl ?_ ?_ | refine c_split_d rfl rfl ?_ ?_ | refine c_split_i rfl rfl ?_ ?_ | refine c_split_j rfl rfl ?_ ?_ | refine c_split_s rfl rfl ?_ ?_ | refine c_split_n rfl rfl ?_ ?_) <;> intro <;> try (first | contradiction | (exfalso; omega)))
          | ((first | refine r_val rfl rfl ?_ ?_ | refine r_gval rfl rfl rfl rfl ?_ ?_ | refine r_obj rfl rfl ?_ ?_ | refine r_sto rfl ?_ ?_ | refine r_gobj rfl rfl rfl rfl ?_ ?_); focus (first | omega | exact Nat.le_of_ble_eq_true rfl | (simp_all; done) | (simp_all; omega) | ((repeat' refine And.intro ?_ ?_) <;> first | omega | rfl | exact Nat.le_refl _ | exact Nat.le_of_ble_eq_true rfl | exact bytesF_one _ | (simp_all; done) | (simp_all; omega))))
          | refine e_hit rfl ?_ | refine e_miss rfl ?_
          | with_reducible refine ⟨by kernel_rfl, ?_⟩ | refine x_end rfl ?_ | refine n_end rfl ?_ | ((with_reducible refine c_grd ?_); (fail_if_success (refine c_lit true rfl rfl rfl ?_)); (fail_if_success (refine c_lit false rfl rfl rfl ?_)); refine c_split rfl rfl (fun _ => ?_) (fun _ => ?_)))
        all_goals rfl

theorem asciiSet_ctr (n : Int) : Ctr Tryd.prog 107 [.i .i64 n] (.b (decide (8 < n))) := by
  refine r_fun Tryd.func107 rfl Tryd.ntmps107 Tryd.results107 rfl rfl fun X hL hX => ?_
  repeat' (first
    | with_reducible (first | refine t_seq ?_ | refine t_region ?_ | refine c_nil ?_ | refine n_then ?_ | refine t_ret ?_ | refine t_skip ?_ | refine t_exit ?_ | refine t_block ?_ | refine n_block ?_ | refine e_then ?_ | refine x_then ?_ | refine x_block ?_ | refine t_draw ?_)
    | refine r_val rfl rfl True.intro ?_ | refine r_gskip rfl rfl rfl ?_ | refine r_gskip2 rfl rfl rfl ?_ | refine r_gval rfl rfl rfl rfl True.intro ?_
    | refine t_true rfl ?_ | refine t_false rfl ?_
    | ((first | refine t_cond_d rfl ?_ ?_ | refine t_cond_i rfl ?_ ?_ | refine t_cond_j rfl ?_ ?_ | refine t_cond_s rfl ?_ ?_ | refine t_cond_n rfl ?_ ?_ | refine t_cond rfl ?_ ?_ | refine c_split_d rfl rfl ?_ ?_ | refine c_split_i rfl rfl ?_ ?_ | refine c_split_j rfl rfl ?_ ?_ | refine c_split_s rfl rfl ?_ ?_ | refine c_split_n rfl rfl ?_ ?_) <;> intro <;> try (first | contradiction | (exfalso; omega)))
    | ((first | refine r_val rfl rfl ?_ ?_ | refine r_gval rfl rfl rfl rfl ?_ ?_ | refine r_obj rfl rfl ?_ ?_ | refine r_sto rfl ?_ ?_ | refine r_gobj rfl rfl rfl rfl ?_ ?_); focus (first | omega | exact Nat.le_of_ble_eq_true rfl | (simp_all; done) | (simp_all; omega) | ((repeat' refine And.intro ?_ ?_) <;> first | omega | rfl | exact Nat.le_refl _ | exact Nat.le_of_ble_eq_true rfl | exact bytesF_one _ | (simp_all; done) | (simp_all; omega))))
    | refine e_hit rfl ?_ | refine e_miss rfl ?_
    | with_reducible refine ⟨by kernel_rfl, ?_⟩ | refine x_end rfl ?_ | refine n_end rfl ?_ | ((with_reducible refine c_grd ?_); (fail_if_success (refine c_lit true rfl rfl rfl ?_)); (fail_if_success (refine c_lit false rfl rfl rfl ?_)); refine c_split rfl rfl (fun _ => ?_) (fun _ => ?_)))
  all_goals rfl

theorem eol_low {c : UInt8} : (0 ≤ irV c.toNat) = (([13, 10] : List UInt8).contains c = true) := by
  have : ∀ n : Fin 256, decide (0 ≤ irV (n.1 : Int)) = ([13, 10] : List UInt8).contains (UInt8.ofNat n.1) := by decide +kernel
  have h := this ⟨c.toNat, c.toNat_lt⟩
  rw [show UInt8.ofNat c.toNat = c by simp] at h
  rw [← h, decide_eq_true_eq]
theorem eol_at {s : List UInt8} {p : Nat} (hp : p < s.length) : s[p]? = some (s.getD p 0) := by simp [List.getD_eq_getElem?_getD, hp]
theorem eol_high {c : UInt8} (h : 128 ≤ c.toNat) : ([13, 10] : List UInt8).contains c = false := by
  cases e : ([13, 10] : List UInt8).contains c with
  | false => rfl
  | true =>
    simp at e
    rcases e with rfl | rfl <;> exact absurd h (by decide)

set_option maxRecDepth 100000 in
set_option maxHeartbeats 2000000 in
theorem indexAny_ctr (s : List UInt8) (hs : s.length ≤ 4194304) : Ctr Tryd.prog 86 [.s s, .s [13, 10]] (.i .i64 (Lib.indexAny s [13, 10])) := by
  by_cases h8 : 8 < s.length
  · intro w S vs hv hg hn hr
    have h0 := hr 0 (by simp)
    have h1 := hr 1 (by simp)
    rw [w_two hn]
    generalize vs.getD 0 undef = v0 at *
    generalize vs.getD 1 undef = v1 at *
    cases h0
    cases h1
    have hz := zero_of_info (P := Tryd.prog) (t := Tryd.lays153_ren.t 116) (v := .agg (Array.replicate 256 (.bool false))) (n := 256) (by kernel_rfl)
    refine (Any.strings_IndexAny_long Tryd.lays153 hz.1 hz.2 ⟨s.toArray⟩ ⟨#[13, 10]⟩ w (by decide) (by simpa [ByteArray.size] using h8) (by simp [ByteArray.size]; omega) (by decide) (fun j b hb => ?_)).mono ?_
    · have hb : ([13, 10] : List UInt8)[j]? = some b := by simpa using hb
      have hb := List.mem_of_getElem? hb
      simp at hb
      rcases hb with rfl | rfl <;> decide
    · rintro e w' ⟨rfl, rfl⟩
      exact ⟨_, S, rfl, .i .., w_below hv hg (((RowKit.Below.refl _ _).alloc (Nat.le_refl _) _).alloc (by simp) _)⟩
  · have c1 := asciiSet_ctr s.length
    rw [decide_eq_false (by omega)] at c1
    refine r_fun Tryd.func86 rfl Tryd.ntmps86 Tryd.results86 rfl rfl fun X hL hX => ?_
    repeat' (first
      | refine r_range rfl rfl rfl rfl ?_ | refine r_call (f := 107) rfl rfl Tryd.call107 rfl c1 ?_
      | with_reducible (first | refine t_seq ?_ | refine t_region ?_ | refine c_nil ?_ | refine n_then ?_ | refine t_ret ?_ | refine t_skip ?_ | refine t_exit ?_ | refine t_block ?_ | refine n_block ?_ | refine e_then ?_ | refine x_then ?_ | refine x_block ?_ | refine t_draw ?_)
      | refine r_val rfl rfl True.intro ?_ | refine r_gskip rfl rfl rfl ?_ | refine r_gskip2 rfl rfl rfl ?_ | refine r_gval rfl rfl rfl rfl True.intro ?_
      | refine t_true rfl ?_ | refine t_false rfl ?_
      | ((first | refine t_cond_d rfl ?_ ?_ | refine t_cond_i rfl ?_ ?_ | refine t_cond_j rfl ?_ ?_ | refine t_cond_s rfl ?_ ?_ | refine t_cond_n rfl ?_ ?_ | refine t_cond rfl ?_ ?_ | refine c_split_d rfl rfl ?_ ?_ | refine c_split_i rfl rfl ?_ ?_ | refine c_split_j rfl rfl ?_ ?_ | refine c_split_s rfl rfl ?_ ?_ | refine c_split_n rfl rfl ?_ ?_) <;> intro <;> try (first | (rename_i hz; exact Bool.noConfusion (show true = false from hz)) | (rename_i hz; exact Bool.noConfusion (show false = true from hz)) | (exfalso; omega)))
      | ((first | refine r_val rfl rfl ?_ ?_ | refine r_gval rfl rfl rfl rfl ?_ ?_ | refine r_obj rfl rfl ?_ ?_ | refine r_sto rfl ?_ ?_ | refine r_gobj rfl rfl rfl rfl ?_ ?_); focus (first | omega | exact Nat.le_of_ble_eq_true rfl | (simp only [wrap_u8, IntKind.wrap_i64, IntKind.wrap_i32, wrap_u32', wrap_u64', InI]; (repeat' refine And.intro ?_ ?_) <;> omega) | ((repeat' refine And.intro ?_ ?_) <;> first | omega | rfl | exact Nat.le_refl _ | exact Nat.le_of_ble_eq_true rfl | exact bytesF_one _) | (simp_all; done) | (simp_all; omega)))
      | refine e_hit rfl ?_ | refine e_miss rfl ?_
      | with_reducible refine ⟨by kernel_rfl, ?_⟩ | refine x_end rfl ?_ | refine n_end rfl ?_ | ((with_reducible refine c_grd ?_); (fail_if_success (refine c_lit true rfl rfl rfl ?_)); (fail_if_success (refine c_lit false rfl rfl rfl ?_)); refine c_split rfl rfl (fun _ => ?_) (fun _ => ?_)))
    refine T.loop hL (fun _ : Nat => [(0, .s s), (1, .s [13, 10]), (45, .pv 45 0)]) (fun p => [(45, .ob (.stringIter ⟨s.toArray⟩ p))]) (fun p => p ≤ s.length ∧ Lib.NoAny s [13, 10] p) (fun p => s.length - p) 0 ⟨Nat.zero_le _, .zero _ _⟩
      ⟨⟨rfl, rfl, rfl, trivial⟩, ⟨rfl, trivial⟩, rfl, fun q hq => by rw [hX] at hq; simp at hq⟩ ?_
    rintro p ⟨hp, hno⟩
    by_cases hpl : p < s.length
    · have hx := eol_at hpl
      by_cases hlow : (s.getD p 0).toNat < 128
      · have ha : at' s p < 128 := by rw [show at' s p = ((s.getD p 0).toNat : Int) by simp [at']]; omega
        have hv : Utf8.valid (at' s p) = true := by
          have := at_range s p
          simp only [Utf8.valid, Bool.or_eq_true, Bool.and_eq_true, decide_eq_true_eq]
          omega
        have c2 := indexRune_ctr (at' s p) hv
        have he := eol_low (c := s.getD p 0)
        rw [show ((s.getD p 0).toNat : Int) = at' s p by simp [at']] at he
        cases hc : ([13, 10] : List UInt8).contains (s.getD p 0) with
        | true =>
          rw [hc] at he
          have hge : 0 ≤ irV (at' s p) := he.symm ▸ rfl
          have hhit := Lib.indexAny_hit hno hx hc
          rw [hhit]
          repeat' (first
            | refine r_next rfl rfl rfl hpl ha ?_ | refine r_call (f := 106) rfl rfl Tryd.call106 rfl c2 ?_
            | with_reducible (first | refine t_seq ?_ | refine t_region ?_ | refine c_nil ?_ | refine n_then ?_ | refine t_ret ?_ | refine t_skip ?_ | refine t_exit ?_ | refine t_block ?_ | refine n_block ?_ | refine e_then ?_ | refine x_then ?_ | refine x_block ?_ | refine t_draw ?_)
            | refine r_val rfl rfl True.intro ?_ | refine r_gskip rfl rfl rfl ?_ | refine r_gskip2 rfl rfl rfl ?_ | refine r_gval rfl rfl rfl rfl True.intro ?_
            | refine t_true rfl ?_ | refine t_false rfl ?_
            | ((first | refine t_cond_d rfl ?_ ?_ | refine t_cond_i rfl ?_ ?_ | refine t_cond_j rfl ?_ ?_ | refine t_cond_s rfl ?_ ?_ | refine t_cond_n rfl ?_ ?_ | refine t_cond rfl ?_ ?_ | refine c_split_d rfl rfl ?_ ?_ | refine c_split_i rfl rfl ?_ ?_ | refine c_split_j rfl rfl ?_ ?_ | refine c_split_s rfl rfl ?_ ?_ | refine c_split_n rfl rfl ?_ ?_) <;> intro <;> try (first | (rename_i hz; exact Bool.noConfusion (show true = false from hz)) | (rename_i hz; exact Bool.noConfusion (show false = true from hz)) | (exfalso; omega)))
            | ((first | refine r_val rfl rfl ?_ ?_ | refine r_gval rfl rfl rfl rfl ?_ ?_ | refine r_obj rfl rfl ?_ ?_ | refine r_sto rfl ?_ ?_ | refine r_gobj rfl rfl rfl rfl ?_ ?_); focus (first | omega | exact Nat.le_of_ble_eq_true rfl | (simp only [wrap_u8, IntKind.wrap_i64, IntKind.wrap_i32, wrap_u32', wrap_u64', InI]; (repeat' refine And.intro ?_ ?_) <;> omega) | ((repeat' refine And.intro ?_ ?_) <;> first | omega | rfl | exact Nat.le_refl _ | exact Nat.le_of_ble_eq_true rfl | exact bytesF_one _) | (simp_all; done) | (simp_all; omega)))
            | refine e_hit rfl ?_ | refine e_miss rfl ?_
            | with_reducible refine ⟨by kernel_rfl, ?_⟩ | refine x_end rfl ?_ | refine n_end rfl ?_ | ((with_reducible refine c_grd ?_); (fail_if_success (refine c_lit true rfl rfl rfl ?_)); (fail_if_success (refine c_lit false rfl rfl rfl ?_)); refine c_split rfl rfl (fun _ => ?_) (fun _ => ?_)))
          all_goals rfl
        | false =>
          rw [hc] at he
          have hge : ¬ 0 ≤ irV (at' s p) := fun q => by
            rw [he] at q
            cases q
          have hs2 := hno.succ hx hc
          repeat' (first
            | refine r_next rfl rfl rfl hpl ha ?_ | refine r_call (f := 106) rfl rfl Tryd.call106 rfl c2 ?_
            | with_reducible (first | refine t_seq ?_ | refine t_region ?_ | refine c_nil ?_ | refine n_then ?_ | refine t_ret ?_ | refine t_skip ?_ | refine t_exit ?_ | refine t_block ?_ | refine n_block ?_ | refine e_then ?_ | refine x_then ?_ | refine x_block ?_ | refine t_draw ?_)
            | refine r_val rfl rfl True.intro ?_ | refine r_gskip rfl rfl rfl ?_ | refine r_gskip2 rfl rfl rfl ?_ | refine r_gval rfl rfl rfl rfl True.intro ?_
            | refine t_true rfl ?_ | refine t_false rfl ?_
            | ((first | refine t_cond_d rfl ?_ ?_ | refine t_cond_i rfl ?_ ?_ | refine t_cond_j rfl ?_ ?_ | refine t_cond_s rfl ?_ ?_ | refine t_cond_n rfl ?_ ?_ | refine t_cond rfl ?_ ?_ | refine c_split_d rfl rfl ?_ ?_ | refine c_split_i rfl rfl ?_ ?_ | refine c_split_j rfl rfl ?_ ?_ | refine c_split_s rfl rfl ?_ ?_ | refine c_split_n rfl rfl ?_ ?_) <;> intro <;> try (first | (rename_i hz; exact Bool.noConfusion (show true = false from hz)) | (rename_i hz; exact Bool.noConfusion (show false = true from hz)) | (exfalso; omega)))
            | ((first | refine r_val rfl rfl ?_ ?_ | refine r_gval rfl rfl rfl rfl ?_ ?_ | refine r_obj rfl rfl ?_ ?_ | refine r_sto rfl ?_ ?_ | refine r_gobj rfl rfl rfl rfl ?_ ?_); focus (first | omega | exact Nat.le_of_ble_eq_true rfl | (simp only [wrap_u8, IntKind.wrap_i64, IntKind.wrap_i32, wrap_u32', wrap_u64', InI]; (repeat' refine And.intro ?_ ?_) <;> omega) | ((repeat' refine And.intro ?_ ?_) <;> first | omega | rfl | exact Nat.le_refl _ | exact Nat.le_of_ble_eq_true rfl | exact bytesF_one _) | (simp_all; done) | (simp_all; omega)))
            | refine e_hit rfl ?_ | refine e_miss rfl ?_
            | with_reducible refine ⟨by kernel_rfl, ?_⟩ | refine x_end rfl ?_ | refine n_end rfl ?_ | ((with_reducible refine c_grd ?_); (fail_if_success (refine c_lit true rfl rfl rfl ?_)); (fail_if_success (refine c_lit false rfl rfl rfl ?_)); refine c_split rfl rfl (fun _ => ?_) (fun _ => ?_)))
          all_goals exact ⟨p + 1, ⟨by omega, hs2⟩, by omega, ⟨rfl, rfl, rfl, trivial⟩, ⟨rfl, trivial⟩, rfl, fun q hq => by rw [hX] at hq; simp at hq⟩
      · obtain ⟨g1, g2, g3, g4, g5⟩ := dc_high hpl (by omega)
        have c2 := indexRune_ctr ((dc s p).1 : Nat) g1
        have hge : irV ((dc s p).1 : Nat) = -1 := by unfold irV; rw [if_neg (by omega), if_neg (by omega)]
        rw [hge] at c2
        have hs2 : Lib.NoAny s [13, 10] (p + (dc s p).2) := fun j b hj hb => by
          by_cases e : j < p
          · exact hno j b e hb
          · have := g5 j (by omega) hj
            rw [eol_at (by omega)] at hb
            cases hb
            exact eol_high this
        repeat' (first
          | refine r_nextU rfl rfl hpl rfl ?_ | refine r_call (f := 106) rfl rfl Tryd.call106 rfl c2 ?_
          | with_reducible (first | refine t_seq ?_ | refine t_region ?_ | refine c_nil ?_ | refine n_then ?_ | refine t_ret ?_ | refine t_skip ?_ | refine t_exit ?_ | refine t_block ?_ | refine n_block ?_ | refine e_then ?_ | refine x_then ?_ | refine x_block ?_ | refine t_draw ?_)
          | refine r_val rfl rfl True.intro ?_ | refine r_gskip rfl rfl rfl ?_ | refine r_gskip2 rfl rfl rfl ?_ | refine r_gval rfl rfl rfl rfl True.intro ?_
          | refine t_true rfl ?_ | refine t_false rfl ?_
          | ((first | refine t_cond_d rfl ?_ ?_ | refine t_cond_i rfl ?_ ?_ | refine t_cond_j rfl ?_ ?_ | refine t_cond_s rfl ?_ ?_ | refine t_cond_n rfl ?_ ?_ | refine t_cond rfl ?_ ?_ | refine c_split_d rfl rfl ?_ ?_ | refine c_split_i rfl rfl ?_ ?_ | refine c_split_j rfl rfl ?_ ?_ | refine c_split_s rfl rfl ?_ ?_ | refine c_split_n rfl rfl ?_ ?_) <;> intro <;> try (first | (rename_i hz; exact Bool.noConfusion (show true = false from hz)) | (rename_i hz; exact Bool.noConfusion (show false = true from hz)) | (exfalso; omega)))
          | ((first | refine r_val rfl rfl ?_ ?_ | refine r_gval rfl rfl rfl rfl ?_ ?_ | refine r_obj rfl rfl ?_ ?_ | refine r_sto rfl ?_ ?_ | refine r_gobj rfl rfl rfl rfl ?_ ?_); focus (first | omega | exact Nat.le_of_ble_eq_true rfl | (simp only [wrap_u8, IntKind.wrap_i64, IntKind.wrap_i32, wrap_u32', wrap_u64', InI]; (repeat' refine And.intro ?_ ?_) <;> omega) | ((repeat' refine And.intro ?_ ?_) <;> first | omega | rfl | exact Nat.le_refl _ | exact Nat.le_of_ble_eq_true rfl | exact bytesF_one _) | (simp_all; done) | (simp_all; omega)))
          | refine e_hit rfl ?_ | refine e_miss rfl ?_
          | with_reducible refine ⟨by kernel_rfl, ?_⟩ | refine x_end rfl ?_ | refine n_end rfl ?_ | ((with_reducible refine c_grd ?_); (fail_if_success (refine c_lit true rfl rfl rfl ?_)); (fail_if_success (refine c_lit false rfl rfl rfl ?_)); refine c_split rfl rfl (fun _ => ?_) (fun _ => ?_)))
        all_goals exact ⟨p + (dc s p).2, ⟨g4, hs2⟩, by omega, ⟨rfl, rfl, rfl, trivial⟩, ⟨rfl, trivial⟩, rfl, fun q hq => by rw [hX] at hq; simp at hq⟩
    · have : p = s.length := by omega
      subst this
      rw [Lib.indexAny_none hno]
      repeat' (first
        | refine r_over rfl rfl rfl (Nat.le_refl _) ?_
        | with_reducible (first | refine t_seq ?_ | refine t_region ?_ | refine c_nil ?_ | refine n_then ?_ | refine t_ret ?_ | refine t_skip ?_ | refine t_exit ?_ | refine t_block ?_ | refine n_block ?_ | refine e_then ?_ | refine x_then ?_ | refine x_block ?_ | refine t_draw ?_)
        | refine r_val rfl rfl True.intro ?_ | refine r_gskip rfl rfl rfl ?_ | refine r_gskip2 rfl rfl rfl ?_ | refine r_gval rfl rfl rfl rfl True.intro ?_
        | refine t_true rfl ?_ | refine t_false rfl ?_
        | ((first | refine t_cond_d rfl ?_ ?_ | refine t_cond_i rfl ?_ ?_ | refine t_cond_j rfl ?_ ?_ | refine t_cond_s rfl ?_ ?_ | refine t_cond_n rfl ?_ ?_ | refine t_cond rfl ?_ ?_ | refine c_split_d rfl rfl ?_ ?_ | refine c_split_i rfl rfl ?_ ?_ | refine c_split_j rfl rfl ?_ ?_ | refine c_split_s rfl rfl ?_ ?_ | refine c_split_n rfl rfl ?_ ?_) <;> intro <;> try (first | (rename_i hz; exact Bool.noConfusion (show true = false from hz)) | (rename_i hz; exact Bool.noConfusion (show false = true from hz)) | (exfalso; omega)))
        | ((first | refine r_val rfl rfl ?_ ?_ | refine r_gval rfl rfl rfl rfl ?_ ?_ | refine r_obj rfl rfl ?_ ?_ | refine r_sto rfl ?_ ?_ | refine r_gobj rfl rfl rfl rfl ?_ ?_); focus (first | omega | exact Nat.le_of_ble_eq_true rfl | (simp only [wrap_u8, IntKind.wrap_i64, IntKind.wrap_i32, wrap_u32', wrap_u64', InI]; (repeat' refine And.intro ?_ ?_) <;> omega) | ((repeat' refine And.intro ?_ ?_) <;> first | omega | rfl | exact Nat.le_refl _ | exact Nat.le_of_ble_eq_true rfl | exact bytesF_one _) | (simp_all; done) | (simp_all; omega)))
        | refine e_hit rfl ?_ | refine e_miss rfl ?_
        | with_reducible refine ⟨by kernel_rfl, ?_⟩ | refine x_end rfl ?_ | refine n_end rfl ?_ | ((with_reducible refine c_grd ?_); (fail_if_success (refine c_lit true rfl rfl rfl ?_)); (fail_if_success (refine c_lit false rfl rfl rfl ?_)); refine c_split rfl rfl (fun _ => ?_) (fun _ => ?_)))
      all_goals rfl

theorem containsAny_ctr (s : List UInt8) (hs : s.length ≤ 4194304) : Ctr Tryd.prog 65 [.s s, .s [13, 10]] (.b (Lib.containsAny s [13, 10])) := by
  have c1 := indexAny_ctr s hs
  refine r_fun Tryd.func65 rfl Tryd.ntmps65 Tryd.results65 rfl rfl fun X hL hX => ?_
  repeat' (first
    | refine r_call (f := 86) rfl rfl Tryd.call86 rfl c1 ?_
    | with_reducible (first | refine t_seq ?_ | refine t_region ?_ | refine c_nil ?_ | refine n_then ?_ | refine t_ret ?_ | refine t_skip ?_ | refine t_exit ?_ | refine t_block ?_ | refine n_block ?_ | refine e_then ?_ | refine x_then ?_ | refine x_block ?_ | refine t_draw ?_)
    | refine r_val rfl rfl True.intro ?_ | refine r_gskip rfl rfl rfl ?_ | refine r_gskip2 rfl rfl rfl ?_ | refine r_gval rfl rfl rfl rfl True.intro ?_
    | refine t_true rfl ?_ | refine t_false rfl ?_
    | ((first | refine t_cond_d rfl ?_ ?_ | refine t_cond_i rfl ?_ ?_ | refine t_cond_j rfl ?_ ?_ | refine t_cond_s rfl ?_ ?_ | refine t_cond_n rfl ?_ ?_ | refine t_cond rfl ?_ ?_ | refine c_split_d rfl rfl ?_ ?_ | refine c_split_i rfl rfl ?_ ?_ | refine c_split_j rfl rfl ?_ ?_ | refine c_split_s rfl rfl ?_ ?_ | refine c_split_n rfl rfl ?_ ?_) <;> intro <;> try (first | (rename_i hz; exact Bool.noConfusion (show true = false from hz)) | (rename_i hz; exact Bool.noConfusion (show false = true from hz)) | (exfalso; omega)))
    | ((first | refine r_val rfl rfl ?_ ?_ | refine r_gval rfl rfl rfl rfl ?_ ?_ | refine r_obj rfl rfl ?_ ?_ | refine r_sto rfl ?_ ?_ | refine r_gobj rfl rfl rfl rfl ?_ ?_); focus (first | omega | exact Nat.le_of_ble_eq_true rfl | (simp only [wrap_u8, IntKind.wrap_i64, IntKind.wrap_i32, wrap_u32', wrap_u64', InI]; (repeat' refine And.intro ?_ ?_) <;> omega) | ((repeat' refine And.intro ?_ ?_) <;> first | omega | rfl | exact Nat.le_refl _ | exact Nat.le_of_ble_eq_true rfl | exact bytesF_one _) | (simp_all; done) | (simp_all; omega)))
    | refine e_hit rfl ?_ | refine e_miss rfl ?_
    | with_reducible refine ⟨by kernel_rfl, ?_⟩ | refine x_end rfl ?_ | refine n_end rfl ?_ | ((with_reducible refine c_grd ?_); (fail_if_success (refine c_lit true rfl rfl rfl ?_)); (fail_if_success (refine c_lit false rfl rfl rfl ?_)); refine c_split rfl rfl (fun _ => ?_) (fun _ => ?_)))
  all_goals rfl

end Go.Proofs.YtghdgjabpdfaoaaDoor.Flow

/- REQ: tokens, by both. -/
namespace Go.Proofs.YtghdgjabpdfaoaaDoor.Flow
open Go

def letB (c : Int) : Bool := (decide (97 ≤ c) && decide (c ≤ 122)) || (decide (65 ≤ c) && decide (c ≤ 90)) || (decide (48 ≤ c) && decide (c ≤ 57))

theorem letter_ctr (c : Int) : Ctr Tryd.prog 37 [.i .u8 c] (.b (letB c)) := by
  refine r_fun Tryd.func37 rfl Tryd.ntmps37 Tryd.results37 rfl rfl fun X hL hX => ?_
  repeat' (first
    | with_reducible (first | refine t_seq ?_ | refine t_region ?_ | refine c_nil ?_ | refine n_then ?_ | refine t_ret ?_ | refine t_skip ?_ | refine t_exit ?_ | refine t_block ?_ | refine n_block ?_ | refine e_then ?_ | refine x_then ?_ | refine x_block ?_ | refine t_draw ?_)
    | refine r_val rfl rfl True.intro ?_ | refine r_gskip rfl rfl rfl ?_ | refine r_gskip2 rfl rfl rfl ?_ | refine r_gval rfl rfl rfl rfl True.intro ?_
    | refine t_true rfl ?_ | refine t_false rfl ?_
    | ((first | refine t_cond_d rfl ?_ ?_ | refine t_cond_i rfl ?_ ?_ | refine t_cond_j rfl ?_ ?_ | refine t_cond_s rfl ?_ ?_ | refine t_cond_n rfl ?_ ?_ | refine t_cond rfl ?_ ?_ | refine c_split_d rfl rfl ?_ ?_ | refine c_split_i rfl rfl ?_ ?_ | refine c_split_j rfl rfl ?_ ?_ | refine c_split_s rfl rfl ?_ ?_ | refine c_split_n rfl rfl ?_ ?_) <;> intro <;> try (first | contradiction | (exfalso; omega)))
    | ((first | refine r_val rfl rfl ?_ ?_ | refine r_gval rfl rfl rfl rfl ?_ ?_ | refine r_obj rfl rfl ?_ ?_ | refine r_sto rfl ?_ ?_ | refine r_gobj rfl rfl rfl rfl ?_ ?_); focus (first | omega | exact Nat.le_of_ble_eq_true rfl | (simp_all; done) | (simp_all; omega) | ((repeat' refine And.intro ?_ ?_) <;> first | omega | rfl | exact Nat.le_refl _ | exact Nat.le_of_ble_eq_true rfl | exact bytesF_one _ | (simp_all; done) | (simp_all; omega))))
    | refine e_hit rfl ?_ | refine e_miss rfl ?_
    | with_reducible refine ⟨by kernel_rfl, ?_⟩ | refine x_end rfl ?_ | refine n_end rfl ?_ | ((with_reducible refine c_grd ?_); (fail_if_success (refine c_lit true rfl rfl rfl ?_)); (fail_if_success (refine c_lit false rfl rfl rfl ?_)); refine c_split rfl rfl (fun _ => ?_) (fun _ => ?_)))
  all_goals
    refine congrArg D.b ?_
    rw [Bool.eq_iff_iff]
    simp only [letB, Bool.or_eq_true, Bool.and_eq_true, decide_eq_true_eq, Bool.false_eq_true, true_iff, false_iff]
    omega

theorem alnum_ctr (c : Int) : Ctr Tryd.prog 39 [.i .u8 c] (.b (letB c)) := by
  refine r_fun Tryd.func39 rfl Tryd.ntmps39 Tryd.results39 rfl rfl fun X hL hX => ?_
  repeat' (first
    | with_reducible (first | refine t_seq ?_ | refine t_region ?_ | refine c_nil ?_ | refine n_then ?_ | refine t_ret ?_ | refine t_skip ?_ | refine t_exit ?_ | refine t_block ?_ | refine n_block ?_ | refine e_then ?_ | refine x_then ?_ | refine x_block ?_ | refine t_draw ?_)
    | refine r_val rfl rfl True.intro ?_ | refine r_gskip rfl rfl rfl ?_ | refine r_gskip2 rfl rfl rfl ?_ | refine r_gval rfl rfl rfl rfl True.intro ?_
    | refine t_true rfl ?_ | refine t_false rfl ?_
    | ((first | refine t_cond_d rfl ?_ ?_ | refine t_cond_i rfl ?_ ?_ | refine t_cond_j rfl ?_ ?_ | refine t_cond_s rfl ?_ ?_ | refine t_cond_n rfl ?_ ?_ | refine t_cond rfl ?_ ?_ | refine c_split_d rfl rfl ?_ ?_ | refine c_split_i rfl rfl ?_ ?_ | refine c_split_j rfl rfl ?_ ?_ | refine c_split_s rfl rfl ?_ ?_ | refine c_split_n rfl rfl ?_ ?_) <;> intro <;> try (first | contradiction | (exfalso; omega)))
    | ((first | refine r_val rfl rfl ?_ ?_ | refine r_gval rfl rfl rfl rfl ?_ ?_ | refine r_obj rfl rfl ?_ ?_ | refine r_sto rfl ?_ ?_ | refine r_gobj rfl rfl rfl rfl ?_ ?_); focus (first | omega | exact Nat.le_of_ble_eq_true rfl | (simp_all; done) | (simp_all; omega) | ((repeat' refine And.intro ?_ ?_) <;> first | omega | rfl | exact Nat.le_refl _ | exact Nat.le_of_ble_eq_true rfl | exact bytesF_one _ | (simp_all; done) | (simp_all; omega))))
    | refine e_hit rfl ?_ | refine e_miss rfl ?_
    | with_reducible refine ⟨by kernel_rfl, ?_⟩ | refine x_end rfl ?_ | refine n_end rfl ?_ | ((with_reducible refine c_grd ?_); (fail_if_success (refine c_lit true rfl rfl rfl ?_)); (fail_if_success (refine c_lit false rfl rfl rfl ?_)); refine c_split rfl rfl (fun _ => ?_) (fun _ => ?_)))
  all_goals
    refine congrArg D.b ?_
    rw [Bool.eq_iff_iff]
    simp only [letB, Bool.or_eq_true, Bool.and_eq_true, decide_eq_true_eq, Bool.false_eq_true, true_iff, false_iff]
    omega

def marksL : List UInt8 := [33, 35, 36, 37, 38, 39, 42, 43, 45, 46, 94, 95, 124, 126, 96]
/-- Is a byte one of the first k marks? -/
def inM (c : Int) (k : Nat) : Bool := (marksL.take k).any fun x => ((x.toNat : Int) == c)
def tokC (c : Int) : Bool := letB c || inM c 15
def tokB (s : List UInt8) : Bool := !s.isEmpty && s.all fun x => tokC x.toNat

theorem index_marks : ∀ n : Nat, n < 256 → decide (Lib.indexByte marksL n.toUInt8 < 0) = !inM (n : Int) 15 := by decide +kernel

theorem index_mark {c : Int} (h : 0 ≤ c ∧ c < 256) : decide (Lib.indexByte marksL c.toNat.toUInt8 < 0) = !inM c 15 := by
  have := index_marks c.toNat (by omega)
  rwa [Int.toNat_of_nonneg h.1] at this

theorem tok_at {s : List UInt8} {i : Nat} (h : i < s.length) : (s.take (i + 1)).all (fun x => tokC x.toNat) = ((s.take i).all (fun x => tokC x.toNat) && tokC (at' s i)) := by
  rw [List.take_add_one, List.all_append]
  congr 1
  have : s[i]? = some (s.getD i 0) := by simp [List.getD_eq_getElem?_getD, h]
  rw [this]
  simp [at']

theorem tok_bad {s : List UInt8} {i : Nat} (h : i < s.length) (hc : tokC (at' s i) = false) : tokB s = false := by
  unfold tokB
  have : s.all (fun x => tokC x.toNat) = false := by
    rw [List.all_eq_false]
    refine ⟨s.getD i 0, ?_, ?_⟩
    · rw [List.getD_eq_getElem?_getD, List.getElem?_eq_getElem h, Option.getD_some]
      exact List.getElem_mem h
    · have e : at' s i = ((s.getD i 0).toNat : Int) := by simp [at']
      rw [← e, hc]
      simp
  rw [this, Bool.and_false]

set_option maxRecDepth 100000 in
theorem token_ctr (s : List UInt8) (hs : s.length ≤ 1000000) : Ctr Tryd.prog 17 [.s s] (.b (tokB s)) := by
  refine r_fun Tryd.func17 rfl Tryd.ntmps17 Tryd.results17 rfl rfl fun X hL hX => ?_
  repeat' (first
    | with_reducible (first | refine t_seq ?_ | refine t_region ?_ | refine c_nil ?_ | refine n_then ?_ | refine t_ret ?_ | refine t_skip ?_ | refine t_exit ?_ | refine t_block ?_ | refine n_block ?_ | refine e_then ?_ | refine x_then ?_ | refine x_block ?_ | refine t_draw ?_)
    | refine r_val rfl rfl True.intro ?_ | refine r_gskip rfl rfl rfl ?_ | refine r_gskip2 rfl rfl rfl ?_ | refine r_gval rfl rfl rfl rfl True.intro ?_
    | refine t_true rfl ?_ | refine t_false rfl ?_
    | ((first | refine t_cond_d rfl ?_ ?_ | refine t_cond_i rfl ?_ ?_ | refine t_cond_j rfl ?_ ?_ | refine t_cond_s rfl ?_ ?_ | refine t_cond_n rfl ?_ ?_ | refine t_cond rfl ?_ ?_ | refine c_split_d rfl rfl ?_ ?_ | refine c_split_i rfl rfl ?_ ?_ | refine c_split_j rfl rfl ?_ ?_ | refine c_split_s rfl rfl ?_ ?_ | refine c_split_n rfl rfl ?_ ?_) <;> intro <;> try (first | contradiction | (exfalso; omega)))
    | ((first | refine r_val rfl rfl ?_ ?_ | refine r_gval rfl rfl rfl rfl ?_ ?_ | refine r_obj rfl rfl ?_ ?_ | refine r_sto rfl ?_ ?_ | refine r_gobj rfl rfl rfl rfl ?_ ?_); focus (first | omega | exact Nat.le_of_ble_eq_true rfl | (simp_all; done) | (simp_all; omega) | ((repeat' refine And.intro ?_ ?_) <;> first | omega | rfl | exact Nat.le_refl _ | exact Nat.le_of_ble_eq_true rfl | exact bytesF_one _ | (simp_all; done) | (simp_all; omega))))
    | refine e_hit rfl ?_ | refine e_miss rfl ?_
    | with_reducible refine ⟨by kernel_rfl, ?_⟩ | ((with_reducible refine c_grd ?_); (fail_if_success (refine c_lit true rfl rfl rfl ?_)); (fail_if_success (refine c_lit false rfl rfl rfl ?_)); refine c_split rfl rfl (fun _ => ?_) (fun _ => ?_)))
  refine T.loop hL (fun i : Nat => [(0, .s s), (5, .i .i64 s.length), (6, .i .i64 i)]) (fun _ => []) (fun i => i ≤ s.length ∧ (s.take i).all (fun x => tokC x.toNat) = true) (fun i => s.length - i) 0 ⟨Nat.zero_le _, by simp⟩
    ⟨⟨rfl, rfl, rfl, trivial⟩, trivial, rfl, fun q hq => by rw [hX] at hq; simp at hq⟩ ?_
  rintro i ⟨hi, hall⟩
  by_cases hil : i < s.length
  · have hr := at_range s i
    have hst := tok_at hil
    have him := index_mark hr
    cases hlb : letB (at' s i) with
    | true =>
      have htc : tokC (at' s i) = true := by unfold tokC; rw [hlb]; rfl
      have hl := letter_ctr (at' s i)
      rw [hlb] at hl
      repeat' (first
        | refine r_call (f := 37) rfl rfl Tryd.call37 rfl hl ?_
        | with_reducible (first | refine t_seq ?_ | refine t_region ?_ | refine c_nil ?_ | refine n_then ?_ | refine t_ret ?_ | refine t_skip ?_ | refine t_exit ?_ | refine t_block ?_ | refine n_block ?_ | refine e_then ?_ | refine x_then ?_ | refine x_block ?_ | refine t_draw ?_)
        | refine r_val rfl rfl True.intro ?_ | refine r_gskip rfl rfl rfl ?_ | refine r_gskip2 rfl rfl rfl ?_ | refine r_gval rfl rfl rfl rfl True.intro ?_
        | refine t_true rfl ?_ | refine t_false rfl ?_
        | ((first | refine t_cond_d rfl ?_ ?_ | refine t_cond_i rfl ?_ ?_ | refine t_cond_j rfl ?_ ?_ | refine t_cond_s rfl ?_ ?_ | refine t_cond_n rfl ?_ ?_ | refine t_cond rfl ?_ ?_ | refine c_split_d rfl rfl ?_ ?_ | refine c_split_i rfl rfl ?_ ?_ | refine c_split_j rfl rfl ?_ ?_ | refine c_split_s rfl rfl ?_ ?_ | refine c_split_n rfl rfl ?_ ?_) <;> intro <;> try (first | contradiction | (exfalso; omega)))
        | ((first | refine r_val rfl rfl ?_ ?_ | refine r_gval rfl rfl rfl rfl ?_ ?_ | refine r_obj rfl rfl ?_ ?_ | refine r_sto rfl ?_ ?_ | refine r_gobj rfl rfl rfl rfl ?_ ?_); focus (first | omega | exact Nat.le_of_ble_eq_true rfl | (simp_all; done) | (simp_all; omega) | ((repeat' refine And.intro ?_ ?_) <;> first | omega | rfl | exact Nat.le_refl _ | exact Nat.le_of_ble_eq_true rfl | exact bytesF_one _ | (simp_all; done) | (simp_all; omega))))
        | refine e_hit rfl ?_ | refine e_miss rfl ?_
        | with_reducible refine ⟨by kernel_rfl, ?_⟩ | refine x_end rfl ?_ | refine n_end rfl ?_ | ((with_reducible refine c_grd ?_); (fail_if_success (refine c_lit true rfl rfl rfl ?_)); (fail_if_success (refine c_lit false rfl rfl rfl ?_)); refine c_split rfl rfl (fun _ => ?_) (fun _ => ?_)))
      all_goals exact ⟨i + 1, ⟨by omega, by rw [hst, hall, htc]; rfl⟩, by omega, ⟨rfl, rfl, congrArg (D.i .i64) (by omega), trivial⟩, trivial, rfl, fun q hq => by rw [hX] at hq; simp at hq⟩
    | false =>
      have hl := letter_ctr (at' s i)
      rw [hlb] at hl
      have hx := w_indexByte marksL (at' s i)
      repeat' (first
        | refine r_call (f := 37) rfl rfl Tryd.call37 rfl hl ?_ | refine r_gcall (f := 38) rfl rfl rfl rfl Tryd.call38 rfl hx ?_
        | with_reducible (first | refine t_seq ?_ | refine t_region ?_ | refine c_nil ?_ | refine n_then ?_ | refine t_ret ?_ | refine t_skip ?_ | refine t_exit ?_ | refine t_block ?_ | refine n_block ?_ | refine e_then ?_ | refine x_then ?_ | refine x_block ?_ | refine t_draw ?_)
        | refine r_val rfl rfl True.intro ?_ | refine r_gskip rfl rfl rfl ?_ | refine r_gskip2 rfl rfl rfl ?_ | refine r_gval rfl rfl rfl rfl True.intro ?_
        | refine t_true rfl ?_ | refine t_false rfl ?_
        | ((first | refine t_cond_d rfl ?_ ?_ | refine t_cond_i rfl ?_ ?_ | refine t_cond_j rfl ?_ ?_ | refine t_cond_s rfl ?_ ?_ | refine t_cond_n rfl ?_ ?_ | refine t_cond rfl ?_ ?_ | refine c_split_d rfl rfl ?_ ?_ | refine c_split_i rfl rfl ?_ ?_ | refine c_split_j rfl rfl ?_ ?_ | refine c_split_s rfl rfl ?_ ?_ | refine c_split_n rfl rfl ?_ ?_) <;> intro <;> try (first | contradiction | (exfalso; omega)))
        | ((first | refine r_val rfl rfl ?_ ?_ | refine r_gval rfl rfl rfl rfl ?_ ?_ | refine r_obj rfl rfl ?_ ?_ | refine r_sto rfl ?_ ?_ | refine r_gobj rfl rfl rfl rfl ?_ ?_); focus (first | omega | exact Nat.le_of_ble_eq_true rfl | (simp_all; done) | (simp_all; omega) | ((repeat' refine And.intro ?_ ?_) <;> first | omega | rfl | exact Nat.le_refl _ | exact Nat.le_of_ble_eq_true rfl | exact bytesF_one _ | (simp_all; done) | (simp_all; omega))))
        | refine e_hit rfl ?_ | refine e_miss rfl ?_
        | with_reducible refine ⟨by kernel_rfl, ?_⟩ | refine x_end rfl ?_ | refine n_end rfl ?_ | ((with_reducible refine c_grd ?_); (fail_if_success (refine c_lit true rfl rfl rfl ?_)); (fail_if_success (refine c_lit false rfl rfl rfl ?_)); refine c_split rfl rfl (fun _ => ?_) (fun _ => ?_)))
      · rename_i hz
        rw [decide_eq_true hz] at him
        have : inM (at' s i) 15 = false := by simpa using him.symm
        rw [tok_bad hil (by unfold tokC; rw [hlb, this]; rfl)]
      · rename_i hz
        rw [decide_eq_false hz] at him
        have : inM (at' s i) 15 = true := by simpa using him.symm
        have htc : tokC (at' s i) = true := by unfold tokC; rw [hlb, this]; rfl
        exact ⟨i + 1, ⟨by omega, by rw [hst, hall, htc]; rfl⟩, by omega, ⟨rfl, rfl, congrArg (D.i .i64) (by omega), trivial⟩, trivial, rfl, fun q hq => by rw [hX] at hq; simp at hq⟩
  · have : i = s.length := by omega
    subst this
    rw [List.take_length] at hall
    have hb : tokB s = !(s == []) := by
      unfold tokB
      rw [hall, Bool.and_true]
      cases s <;> rfl
    rw [hb]
    repeat' (first
      | with_reducible (first | refine t_seq ?_ | refine t_region ?_ | refine c_nil ?_ | refine n_then ?_ | refine t_ret ?_ | refine t_skip ?_ | refine t_exit ?_ | refine t_block ?_ | refine n_block ?_ | refine e_then ?_ | refine x_then ?_ | refine x_block ?_ | refine t_draw ?_)
      | refine r_val rfl rfl True.intro ?_ | refine r_gskip rfl rfl rfl ?_ | refine r_gskip2 rfl rfl rfl ?_ | refine r_gval rfl rfl rfl rfl True.intro ?_
      | refine t_true rfl ?_ | refine t_false rfl ?_
      | ((first | refine t_cond_d rfl ?_ ?_ | refine t_cond_i rfl ?_ ?_ | refine t_cond_j rfl ?_ ?_ | refine t_cond_s rfl ?_ ?_ | refine t_cond_n rfl ?_ ?_ | refine t_cond rfl ?_ ?_ | refine c_split_d rfl rfl ?_ ?_ | refine c_split_i rfl rfl ?_ ?_ | refine c_split_j rfl rfl ?_ ?_ | refine c_split_s rfl rfl ?_ ?_ | refine c_split_n rfl rfl ?_ ?_) <;> intro <;> try (first | contradiction | (exfalso; omega)))
      | ((first | refine r_val rfl rfl ?_ ?_ | refine r_gval rfl rfl rfl rfl ?_ ?_ | refine r_obj rfl rfl ?_ ?_ | refine r_sto rfl ?_ ?_ | refine r_gobj rfl rfl rfl rfl ?_ ?_); focus (first | omega | exact Nat.le_of_ble_eq_true rfl | (simp_all; done) | (simp_all; omega) | ((repeat' refine And.intro ?_ ?_) <;> first | omega | rfl | exact Nat.le_refl _ | exact Nat.le_of_ble_eq_true rfl | exact bytesF_one _ | (simp_all; done) | (simp_all; omega))))
      | refine e_hit rfl ?_ | refine e_miss rfl ?_
      | with_reducible refine ⟨by kernel_rfl, ?_⟩ | refine x_end rfl ?_ | refine n_end rfl ?_ | ((with_reducible refine c_grd ?_); (fail_if_success (refine c_lit true rfl rfl rfl ?_)); (fail_if_success (refine c_lit false rfl rfl rfl ?_)); refine c_split rfl rfl (fun _ => ?_) (fun _ => ?_)))
    all_goals rfl

theorem inM_at {c : Int} {k : Nat} (hk : k < 15) : inM c (k + 1) = (inM c k || (at' marksL k == c)) := by
  unfold inM
  rw [List.take_add_one, List.any_append]
  congr 1
  have hl : k < marksL.length := hk
  have : marksL[k]? = some (marksL.getD k 0) := by simp [List.getD_eq_getElem?_getD, hl]
  rw [this]
  simp [at']

set_option maxRecDepth 100000 in
theorem rtoken_ctr (s : List UInt8) (hs : s.length ≤ 1000000) : Ctr Tryd.prog 18 [.s s] (.b (tokB s)) := by
  refine r_fun Tryd.func18 rfl Tryd.ntmps18 Tryd.results18 rfl rfl fun X hL hX => ?_
  repeat' (first
    | with_reducible (first | refine t_seq ?_ | refine t_region ?_ | refine c_nil ?_ | refine n_then ?_ | refine t_ret ?_ | refine t_skip ?_ | refine t_exit ?_ | refine t_block ?_ | refine n_block ?_ | refine e_then ?_ | refine x_then ?_ | refine x_block ?_ | refine t_draw ?_)
    | refine r_val rfl rfl True.intro ?_ | refine r_gskip rfl rfl rfl ?_ | refine r_gskip2 rfl rfl rfl ?_ | refine r_gval rfl rfl rfl rfl True.intro ?_
    | refine t_true rfl ?_ | refine t_false rfl ?_
    | ((first | refine t_cond_d rfl ?_ ?_ | refine t_cond_i rfl ?_ ?_ | refine t_cond_j rfl ?_ ?_ | refine t_cond_s rfl ?_ ?_ | refine t_cond_n rfl ?_ ?_ | refine t_cond rfl ?_ ?_ | refine c_split_d rfl rfl ?_ ?_ | refine c_split_i rfl rfl ?_ ?_ | refine c_split_j rfl rfl ?_ ?_ | refine c_split_s rfl rfl ?_ ?_ | refine c_split_n rfl rfl ?_ ?_) <;> intro <;> try (first | contradiction | (exfalso; omega)))
    | ((first | refine r_val rfl rfl ?_ ?_ | refine r_gval rfl rfl rfl rfl ?_ ?_ | refine r_obj rfl rfl ?_ ?_ | refine r_sto rfl ?_ ?_ | refine r_gobj rfl rfl rfl rfl ?_ ?_); focus (first | omega | exact Nat.le_of_ble_eq_true rfl | (simp_all; done) | (simp_all; omega) | ((repeat' refine And.intro ?_ ?_) <;> first | omega | rfl | exact Nat.le_refl _ | exact Nat.le_of_ble_eq_true rfl | exact bytesF_one _ | (simp_all; done) | (simp_all; omega))))
    | refine e_hit rfl ?_ | refine e_miss rfl ?_
    | with_reducible refine ⟨by kernel_rfl, ?_⟩ | ((with_reducible refine c_grd ?_); (fail_if_success (refine c_lit true rfl rfl rfl ?_)); (fail_if_success (refine c_lit false rfl rfl rfl ?_)); refine c_split rfl rfl (fun _ => ?_) (fun _ => ?_)))
  refine T.loop hL (fun i : Nat => [(0, .s s), (3, .s marksL), (4, .i .i64 i)]) (fun _ => []) (fun i => i ≤ s.length ∧ (s.take i).all (fun x => tokC x.toNat) = true) (fun i => s.length - i) 0 ⟨Nat.zero_le _, by simp⟩
    ⟨⟨rfl, rfl, rfl, trivial⟩, trivial, rfl, fun q hq => by rw [hX] at hq; simp at hq⟩ ?_
  rintro i ⟨hi, hall⟩
  by_cases hil : i < s.length
  · have hst := tok_at hil
    have hl := alnum_ctr (at' s i)
    repeat' (first
      | refine r_call (f := 39) rfl rfl Tryd.call39 rfl hl ?_
      | with_reducible (first | refine t_seq ?_ | refine t_region ?_ | refine c_nil ?_ | refine n_then ?_ | refine t_ret ?_ | refine t_skip ?_ | refine t_exit ?_ | refine t_block ?_ | refine n_block ?_ | refine e_then ?_ | refine x_then ?_ | refine x_block ?_ | refine t_draw ?_)
      | refine r_val rfl rfl True.intro ?_ | refine r_gskip rfl rfl rfl ?_ | refine r_gskip2 rfl rfl rfl ?_ | refine r_gval rfl rfl rfl rfl True.intro ?_
      | refine t_true rfl ?_ | refine t_false rfl ?_
      | ((first | refine t_cond_d rfl ?_ ?_ | refine t_cond_i rfl ?_ ?_ | refine t_cond_j rfl ?_ ?_ | refine t_cond_s rfl ?_ ?_ | refine t_cond_n rfl ?_ ?_ | refine t_cond rfl ?_ ?_ | refine c_split_d rfl rfl ?_ ?_ | refine c_split_i rfl rfl ?_ ?_ | refine c_split_j rfl rfl ?_ ?_ | refine c_split_s rfl rfl ?_ ?_ | refine c_split_n rfl rfl ?_ ?_) <;> intro <;> try (first | contradiction | (exfalso; omega)))
      | ((first | refine r_val rfl rfl ?_ ?_ | refine r_gval rfl rfl rfl rfl ?_ ?_ | refine r_obj rfl rfl ?_ ?_ | refine r_sto rfl ?_ ?_ | refine r_gobj rfl rfl rfl rfl ?_ ?_); focus (first | omega | exact Nat.le_of_ble_eq_true rfl | (simp_all; done) | (simp_all; omega) | ((repeat' refine And.intro ?_ ?_) <;> first | omega | rfl | exact Nat.le_refl _ | exact Nat.le_of_ble_eq_true rfl | exact bytesF_one _ | (simp_all; done) | (simp_all; omega))))
      | refine e_hit rfl ?_ | refine e_miss rfl ?_
      | with_reducible refine ⟨by kernel_rfl, ?_⟩ | ((with_reducible refine c_grd ?_); (fail_if_success (refine c_lit true rfl rfl rfl ?_)); (fail_if_success (refine c_lit false rfl rfl rfl ?_)); refine c_split rfl rfl (fun _ => ?_) (fun _ => ?_)))
    refine T.loop hL (fun k : Nat => [(0, .s s), (3, .s marksL), (4, .i .i64 i), (5, .b (letB (at' s i) || inM (at' s i) k)), (6, .i .i64 k)]) (fun _ => []) (fun k => k ≤ 15) (fun k => 15 - k) 0 (by omega)
      ⟨⟨rfl, rfl, rfl, by show D.b (letB (at' s i)) = D.b (letB (at' s i) || inM (at' s i) 0); rw [show inM (at' s i) 0 = false from rfl, Bool.or_false], rfl, trivial⟩, trivial, rfl, fun q hq => by rw [hX] at hq; simp at hq⟩ ?_
    intro k hk
    have hml : marksL.length = 15 := rfl
    by_cases hk15 : k < 15
    · have hin := inM_at (c := at' s i) hk15
      cases ho : (letB (at' s i) || inM (at' s i) k) with
      | true =>
        have hn : (letB (at' s i) || inM (at' s i) (k + 1)) = true := by rw [hin, ← Bool.or_assoc, ho]; rfl
        repeat' (first
          | with_reducible (first | refine t_seq ?_ | refine t_region ?_ | refine c_nil ?_ | refine n_then ?_ | refine t_ret ?_ | refine t_skip ?_ | refine t_exit ?_ | refine t_block ?_ | refine n_block ?_ | refine e_then ?_ | refine x_then ?_ | refine x_block ?_ | refine t_draw ?_)
          | refine r_val rfl rfl True.intro ?_ | refine r_gskip rfl rfl rfl ?_ | refine r_gskip2 rfl rfl rfl ?_ | refine r_gval rfl rfl rfl rfl True.intro ?_
          | refine t_true rfl ?_ | refine t_false rfl ?_
          | ((first | refine t_cond_d rfl ?_ ?_ | refine t_cond_i rfl ?_ ?_ | refine t_cond_j rfl ?_ ?_ | refine t_cond_s rfl ?_ ?_ | refine t_cond_n rfl ?_ ?_ | refine t_cond rfl ?_ ?_ | refine c_split_d rfl rfl ?_ ?_ | refine c_split_i rfl rfl ?_ ?_ | refine c_split_j rfl rfl ?_ ?_ | refine c_split_s rfl rfl ?_ ?_ | refine c_split_n rfl rfl ?_ ?_) <;> intro <;> try (first | contradiction | (exfalso; omega)))
          | ((first | refine r_val rfl rfl ?_ ?_ | refine r_gval rfl rfl rfl rfl ?_ ?_ | refine r_obj rfl rfl ?_ ?_ | refine r_sto rfl ?_ ?_ | refine r_gobj rfl rfl rfl rfl ?_ ?_); focus (first | omega | exact Nat.le_of_ble_eq_true rfl | (simp_all; done) | (simp_all; omega) | ((repeat' refine And.intro ?_ ?_) <;> first | omega | rfl | exact Nat.le_refl _ | exact Nat.le_of_ble_eq_true rfl | exact bytesF_one _ | (simp_all; done) | (simp_all; omega))))
          | refine e_hit rfl ?_ | refine e_miss rfl ?_
          | with_reducible refine ⟨by kernel_rfl, ?_⟩ | ((with_reducible refine c_grd ?_); (fail_if_success (refine c_lit true rfl rfl rfl ?_)); (fail_if_success (refine c_lit false rfl rfl rfl ?_)); refine c_split rfl rfl (fun _ => ?_) (fun _ => ?_)))
        all_goals exact ⟨k + 1, by omega, by omega, ⟨rfl, rfl, rfl, by rw [hn]; rfl, congrArg (D.i .i64) (by omega), trivial⟩, trivial, rfl, fun q hq => by rw [hX] at hq; simp at hq⟩
      | false =>
        have hn : (letB (at' s i) || inM (at' s i) (k + 1)) = (at' marksL k == at' s i) := by rw [hin, ← Bool.or_assoc, ho]; rfl
        repeat' (first
          | with_reducible (first | refine t_seq ?_ | refine t_region ?_ | refine c_nil ?_ | refine n_then ?_ | refine t_ret ?_ | refine t_skip ?_ | refine t_exit ?_ | refine t_block ?_ | refine n_block ?_ | refine e_then ?_ | refine x_then ?_ | refine x_block ?_ | refine t_draw ?_)
          | refine r_val rfl rfl True.intro ?_ | refine r_gskip rfl rfl rfl ?_ | refine r_gskip2 rfl rfl rfl ?_ | refine r_gval rfl rfl rfl rfl True.intro ?_
          | refine t_true rfl ?_ | refine t_false rfl ?_
          | ((first | refine t_cond_d rfl ?_ ?_ | refine t_cond_i rfl ?_ ?_ | refine t_cond_j rfl ?_ ?_ | refine t_cond_s rfl ?_ ?_ | refine t_cond_n rfl ?_ ?_ | refine t_cond rfl ?_ ?_ | refine c_split_d rfl rfl ?_ ?_ | refine c_split_i rfl rfl ?_ ?_ | refine c_split_j rfl rfl ?_ ?_ | refine c_split_s rfl rfl ?_ ?_ | refine c_split_n rfl rfl ?_ ?_) <;> intro <;> try (first | contradiction | (exfalso; omega)))
          | ((first | refine r_val rfl rfl ?_ ?_ | refine r_gval rfl rfl rfl rfl ?_ ?_ | refine r_obj rfl rfl ?_ ?_ | refine r_sto rfl ?_ ?_ | refine r_gobj rfl rfl rfl rfl ?_ ?_); focus (first | omega | exact Nat.le_of_ble_eq_true rfl | (simp_all; done) | (simp_all; omega) | ((repeat' refine And.intro ?_ ?_) <;> first | omega | rfl | exact Nat.le_refl _ | exact Nat.le_of_ble_eq_true rfl | exact bytesF_one _ | (simp_all; done) | (simp_all; omega))))
          | refine e_hit rfl ?_ | refine e_miss rfl ?_
          | with_reducible refine ⟨by kernel_rfl, ?_⟩ | ((with_reducible refine c_grd ?_); (fail_if_success (refine c_lit true rfl rfl rfl ?_)); (fail_if_success (refine c_lit false rfl rfl rfl ?_)); refine c_split rfl rfl (fun _ => ?_) (fun _ => ?_)))
        all_goals exact ⟨k + 1, by omega, by omega, ⟨rfl, rfl, rfl, by rw [hn]; rfl, congrArg (D.i .i64) (by omega), trivial⟩, trivial, rfl, fun q hq => by rw [hX] at hq; simp at hq⟩
    · have : k = 15 := by omega
      subst this
      cases ho : tokC (at' s i) with
      | true =>
        rw [show (letB (at' s i) || inM (at' s i) 15) = true from ho]
        repeat' (first
          | with_reducible (first | refine t_seq ?_ | refine t_region ?_ | refine c_nil ?_ | refine n_then ?_ | refine t_ret ?_ | refine t_skip ?_ | refine t_exit ?_ | refine t_block ?_ | refine n_block ?_ | refine e_then ?_ | refine x_then ?_ | refine x_block ?_ | refine t_draw ?_)
          | refine r_val rfl rfl True.intro ?_ | refine r_gskip rfl rfl rfl ?_ | refine r_gskip2 rfl rfl rfl ?_ | refine r_gval rfl rfl rfl rfl True.intro ?_
          | refine t_true rfl ?_ | refine t_false rfl ?_
          | ((first | refine t_cond_d rfl ?_ ?_ | refine t_cond_i rfl ?_ ?_ | refine t_cond_j rfl ?_ ?_ | refine t_cond_s rfl ?_ ?_ | refine t_cond_n rfl ?_ ?_ | refine t_cond rfl ?_ ?_ | refine c_split_d rfl rfl ?_ ?_ | refine c_split_i rfl rfl ?_ ?_ | refine c_split_j rfl rfl ?_ ?_ | refine c_split_s rfl rfl ?_ ?_ | refine c_split_n rfl rfl ?_ ?_) <;> intro <;> try (first | contradiction | (exfalso; omega)))
          | ((first | refine r_val rfl rfl ?_ ?_ | refine r_gval rfl rfl rfl rfl ?_ ?_ | refine r_obj rfl rfl ?_ ?_ | refine r_sto rfl ?_ ?_ | refine r_gobj rfl rfl rfl rfl ?_ ?_); focus (first | omega | exact Nat.le_of_ble_eq_true rfl | (simp_all; done) | (simp_all; omega) | ((repeat' refine And.intro ?_ ?_) <;> first | omega | rfl | exact Nat.le_refl _ | exact Nat.le_of_ble_eq_true rfl | exact bytesF_one _ | (simp_all; done) | (simp_all; omega))))
          | refine e_hit rfl ?_ | refine e_miss rfl ?_
          | with_reducible refine ⟨by kernel_rfl, ?_⟩ | refine x_end rfl ?_ | refine n_end rfl ?_ | ((with_reducible refine c_grd ?_); (fail_if_success (refine c_lit true rfl rfl rfl ?_)); (fail_if_success (refine c_lit false rfl rfl rfl ?_)); refine c_split rfl rfl (fun _ => ?_) (fun _ => ?_)))
        all_goals exact ⟨i + 1, ⟨by omega, by rw [hst, hall, ho]; rfl⟩, by omega, ⟨rfl, rfl, congrArg (D.i .i64) (by omega), trivial⟩, trivial, rfl, fun q hq => by rw [hX] at hq; simp at hq⟩
      | false =>
        rw [show (letB (at' s i) || inM (at' s i) 15) = false from ho]
        repeat' (first
          | with_reducible (first | refine t_seq ?_ | refine t_region ?_ | refine c_nil ?_ | refine n_then ?_ | refine t_ret ?_ | refine t_skip ?_ | refine t_exit ?_ | refine t_block ?_ | refine n_block ?_ | refine e_then ?_ | refine x_then ?_ | refine x_block ?_ | refine t_draw ?_)
          | refine r_val rfl rfl True.intro ?_ | refine r_gskip rfl rfl rfl ?_ | refine r_gskip2 rfl rfl rfl ?_ | refine r_gval rfl rfl rfl rfl True.intro ?_
          | refine t_true rfl ?_ | refine t_false rfl ?_
          | ((first | refine t_cond_d rfl ?_ ?_ | refine t_cond_i rfl ?_ ?_ | refine t_cond_j rfl ?_ ?_ | refine t_cond_s rfl ?_ ?_ | refine t_cond_n rfl ?_ ?_ | refine t_cond rfl ?_ ?_ | refine c_split_d rfl rfl ?_ ?_ | refine c_split_i rfl rfl ?_ ?_ | refine c_split_j rfl rfl ?_ ?_ | refine c_split_s rfl rfl ?_ ?_ | refine c_split_n rfl rfl ?_ ?_) <;> intro <;> try (first | contradiction | (exfalso; omega)))
          | ((first | refine r_val rfl rfl ?_ ?_ | refine r_gval rfl rfl rfl rfl ?_ ?_ | refine r_obj rfl rfl ?_ ?_ | refine r_sto rfl ?_ ?_ | refine r_gobj rfl rfl rfl rfl ?_ ?_); focus (first | omega | exact Nat.le_of_ble_eq_true rfl | (simp_all; done) | (simp_all; omega) | ((repeat' refine And.intro ?_ ?_) <;> first | omega | rfl | exact Nat.le_refl _ | exact Nat.le_of_ble_eq_true rfl | exact bytesF_one _ | (simp_all; done) | (simp_all; omega))))
          | refine e_hit rfl ?_ | refine e_miss rfl ?_
          | with_reducible refine ⟨by kernel_rfl, ?_⟩ | refine x_end rfl ?_ | refine n_end rfl ?_ | ((with_reducible refine c_grd ?_); (fail_if_success (refine c_lit true rfl rfl rfl ?_)); (fail_if_success (refine c_lit false rfl rfl rfl ?_)); refine c_split rfl rfl (fun _ => ?_) (fun _ => ?_)))
        all_goals rw [tok_bad hil ho]
  · have : i = s.length := by omega
    subst this
    rw [List.take_length] at hall
    have hb : tokB s = decide ((0 : Int) < (s.length : Int)) := by
      unfold tokB
      rw [hall, Bool.and_true]
      cases s with
      | nil => rfl
      | cons a r =>
        rw [Bool.eq_iff_iff, decide_eq_true_eq]
        simp only [List.isEmpty_cons, Bool.not_false, List.length_cons, true_iff]
        omega
    rw [hb]
    repeat' (first
      | with_reducible (first | refine t_seq ?_ | refine t_region ?_ | refine c_nil ?_ | refine n_then ?_ | refine t_ret ?_ | refine t_skip ?_ | refine t_exit ?_ | refine t_block ?_ | refine n_block ?_ | refine e_then ?_ | refine x_then ?_ | refine x_block ?_ | refine t_draw ?_)
      | refine r_val rfl rfl True.intro ?_ | refine r_gskip rfl rfl rfl ?_ | refine r_gskip2 rfl rfl rfl ?_ | refine r_gval rfl rfl rfl rfl True.intro ?_
      | refine t_true rfl ?_ | refine t_false rfl ?_
      | ((first | refine t_cond_d rfl ?_ ?_ | refine t_cond_i rfl ?_ ?_ | refine t_cond_j rfl ?_ ?_ | refine t_cond_s rfl ?_ ?_ | refine t_cond_n rfl ?_ ?_ | refine t_cond rfl ?_ ?_ | refine c_split_d rfl rfl ?_ ?_ | refine c_split_i rfl rfl ?_ ?_ | refine c_split_j rfl rfl ?_ ?_ | refine c_split_s rfl rfl ?_ ?_ | refine c_split_n rfl rfl ?_ ?_) <;> intro <;> try (first | contradiction | (exfalso; omega)))
      | ((first | refine r_val rfl rfl ?_ ?_ | refine r_gval rfl rfl rfl rfl ?_ ?_ | refine r_obj rfl rfl ?_ ?_ | refine r_sto rfl ?_ ?_ | refine r_gobj rfl rfl rfl rfl ?_ ?_); focus (first | omega | exact Nat.le_of_ble_eq_true rfl | (simp_all; done) | (simp_all; omega) | ((repeat' refine And.intro ?_ ?_) <;> first | omega | rfl | exact Nat.le_refl _ | exact Nat.le_of_ble_eq_true rfl | exact bytesF_one _ | (simp_all; done) | (simp_all; omega))))
      | refine e_hit rfl ?_ | refine e_miss rfl ?_
      | with_reducible refine ⟨by kernel_rfl, ?_⟩ | refine x_end rfl ?_ | refine n_end rfl ?_ | ((with_reducible refine c_grd ?_); (fail_if_success (refine c_lit true rfl rfl rfl ?_)); (fail_if_success (refine c_lit false rfl rfl rfl ?_)); refine c_split rfl rfl (fun _ => ?_) (fun _ => ?_)))
    all_goals rfl

end Go.Proofs.YtghdgjabpdfaoaaDoor.Flow

/- REQ: qualities, by both. -/
namespace Go.Proofs.YtghdgjabpdfaoaaDoor.Flow
open Go

def goQ (u n : Int) : List UInt8 → Option Int
  | [] => some n
  | c :: r => if 48 ≤ (c.toNat : Int) ∧ (c.toNat : Int) ≤ 57 then goQ (u / 10) (n + u * ((c.toNat : Int) - 48)) r else none

theorem goQ_at {s : List UInt8} {u n : Int} {i : Nat} (h : i < s.length) : goQ u n (s.drop i) = if 48 ≤ at' s i ∧ at' s i ≤ 57 then goQ (u / 10) (n + u * (at' s i - 48)) (s.drop (i + 1)) else none := by
  have e : at' s i = (s[i].toNat : Int) := by simp [at', List.getD_eq_getElem?_getD, h]
  rw [List.drop_eq_getElem_cons h, e]
  rfl
theorem goQ_end {s : List UInt8} {u n : Int} {i : Nat} (h : s.length ≤ i) : goQ u n (s.drop i) = some n := by
  rw [List.drop_eq_nil_of_le h]
  rfl
theorem goQ_add : ∀ (l : List UInt8) (u n k : Int), goQ u (n + k) l = (goQ u n l).map (· + k)
  | [], _, _, _ => rfl
  | c :: r, u, n, k => by
    unfold goQ
    split
    · rw [← goQ_add r (u / 10) (n + u * ((c.toNat : Int) - 48)) k]
      congr 1
      omega
    · rfl
theorem goQ_le {l : List UInt8} {m : Int} (hl : l.length ≤ 3) (h : goQ 100 0 l = some m) : 0 ≤ m ∧ m ≤ 999 := by
  match l, hl with
  | [], _ =>
    cases h
    omega
  | [a], _ =>
    simp only [goQ] at h
    split at h
    · cases h; omega
    · cases h
  | [a, b], _ =>
    simp only [goQ] at h
    split at h
    · split at h
      · cases h
        omega
      · cases h
    · cases h
  | [a, b, c], _ =>
    simp only [goQ] at h
    split at h
    · split at h
      · split at h
        · cases h
          omega
        · cases h
      · cases h
    · cases h
  | _ :: _ :: _ :: _ :: _, h => simp at h

def qualV (s : List UInt8) : Int × Bool :=
  if s.length = 0 ∨ (¬ at' s 0 = 48 ∧ ¬ at' s 0 = 49) ∨ 5 < s.length ∨ (1 < s.length ∧ ¬ at' s 1 = 46) then (0, false)
  else match goQ 100 0 (s.drop 2) with
    | none => (0, false)
    | some n => if at' s 0 = 48 then (n, true) else if 0 < n then (0, false) else (1000, true)

def qualD (s : List UInt8) : D := .tu [.i .i64 (qualV s).1, .b (qualV s).2]

theorem qual_bad {s : List UInt8} (h : s.length = 0 ∨ (¬ at' s 0 = 48 ∧ ¬ at' s 0 = 49) ∨ 5 < s.length ∨ (1 < s.length ∧ ¬ at' s 1 = 46)) : qualD s = .tu [.i .i64 0, .b false] := by
  unfold qualD qualV
  rw [if_pos h]
theorem qual_none {s : List UInt8} (h : goQ 100 0 (s.drop 2) = none) : qualD s = .tu [.i .i64 0, .b false] := by
  unfold qualD qualV
  split
  · rfl
  · rw [h]
theorem qual_some {s : List UInt8} {m : Int} (hb : ¬ (s.length = 0 ∨ (¬ at' s 0 = 48 ∧ ¬ at' s 0 = 49) ∨ 5 < s.length ∨ (1 < s.length ∧ ¬ at' s 1 = 46))) (h : goQ 100 0 (s.drop 2) = some m) :
    qualD s = if at' s 0 = 48 then .tu [.i .i64 m, .b true] else if 0 < m then .tu [.i .i64 0, .b false] else .tu [.i .i64 1000, .b true] := by
  unfold qualD qualV
  rw [if_neg hb, h]
  dsimp only
  split
  · rfl
  · split <;> rfl

def uF : Nat → Int
  | 2 => 100
  | 3 => 10
  | 4 => 1
  | _ => 0

structure QInv (s : List UInt8) (k : Int) (x : Nat × Int) : Prop where
  out : goQ (uF x.1) x.2 (s.drop x.1) = goQ 100 k (s.drop 2)

set_option maxRecDepth 100000 in
set_option maxHeartbeats 1000000 in
theorem quality_ctr (s : List UInt8) (hs : s.length ≤ 1000000) : Ctr Tryd.prog 15 [.s s] (qualD s) := by
  refine r_fun Tryd.func15 rfl Tryd.ntmps15 Tryd.results15 rfl rfl fun X hL hX => ?_
  cases s with
  | nil =>
    repeat' (first
      | with_reducible (first | refine t_seq ?_ | refine t_region ?_ | refine c_nil ?_ | refine n_then ?_ | refine t_ret ?_ | refine t_skip ?_ | refine t_exit ?_ | refine t_block ?_ | refine n_block ?_ | refine e_then ?_ | refine x_then ?_ | refine x_block ?_ | refine t_draw ?_)
      | refine r_val rfl rfl True.intro ?_ | refine r_gskip rfl rfl rfl ?_ | refine r_gskip2 rfl rfl rfl ?_ | refine r_gval rfl rfl rfl rfl True.intro ?_
      | refine t_true rfl ?_ | refine t_false rfl ?_
      | ((first | refine t_cond_d rfl ?_ ?_ | refine t_cond_i rfl ?_ ?_ | refine t_cond_j rfl ?_ ?_ | refine t_cond_s rfl ?_ ?_ | refine t_cond_n rfl ?_ ?_ | refine t_cond rfl ?_ ?_ | refine c_split_d rfl rfl ?_ ?_ | refine c_split_i rfl rfl ?_ ?_ | refine c_split_j rfl rfl ?_ ?_ | refine c_split_s rfl rfl ?_ ?_ | refine c_split_n rfl rfl ?_ ?_) <;> intro <;> try (first | contradiction | (exfalso; omega)))
      | ((first | refine r_val rfl rfl ?_ ?_ | refine r_gval rfl rfl rfl rfl ?_ ?_ | refine r_obj rfl rfl ?_ ?_ | refine r_sto rfl ?_ ?_ | refine r_gobj rfl rfl rfl rfl ?_ ?_); focus (first | omega | exact Nat.le_of_ble_eq_true rfl | (simp_all; done) | (simp_all; omega) | ((repeat' refine And.intro ?_ ?_) <;> first | omega | rfl | exact Nat.le_refl _ | exact Nat.le_of_ble_eq_true rfl | exact bytesF_one _ | (simp_all; done) | (simp_all; omega))))
      | refine e_hit rfl ?_ | refine e_miss rfl ?_
      | with_reducible refine ⟨by kernel_rfl, ?_⟩ | refine x_end rfl ?_ | refine n_end rfl ?_ | ((with_reducible refine c_grd ?_); (fail_if_success (refine c_lit true rfl rfl rfl ?_)); (fail_if_success (refine c_lit false rfl rfl rfl ?_)); refine c_split rfl rfl (fun _ => ?_) (fun _ => ?_)))
    all_goals exact (qual_bad (.inl rfl)).symm
  | cons c r =>
    have hlen : (c :: r).length = r.length + 1 := rfl
    by_cases hb : (c :: r).length = 0 ∨ (¬ at' (c :: r) 0 = 48 ∧ ¬ at' (c :: r) 0 = 49) ∨ 5 < (c :: r).length ∨ (1 < (c :: r).length ∧ ¬ at' (c :: r) 1 = 46)
    · rw [qual_bad hb]
      repeat' (first
        | with_reducible (first | refine t_seq ?_ | refine t_region ?_ | refine c_nil ?_ | refine n_then ?_ | refine t_ret ?_ | refine t_skip ?_ | refine t_exit ?_ | refine t_block ?_ | refine n_block ?_ | refine e_then ?_ | refine x_then ?_ | refine x_block ?_ | refine t_draw ?_)
        | refine r_val rfl rfl True.intro ?_ | refine r_gskip rfl rfl rfl ?_ | refine r_gskip2 rfl rfl rfl ?_ | refine r_gval rfl rfl rfl rfl True.intro ?_
        | refine t_true rfl ?_ | refine t_false rfl ?_
        | ((first | refine t_cond_d rfl ?_ ?_ | refine t_cond_i rfl ?_ ?_ | refine t_cond_j rfl ?_ ?_ | refine t_cond_s rfl ?_ ?_ | refine t_cond_n rfl ?_ ?_ | refine t_cond rfl ?_ ?_ | refine c_split_d rfl rfl ?_ ?_ | refine c_split_i rfl rfl ?_ ?_ | refine c_split_j rfl rfl ?_ ?_ | refine c_split_s rfl rfl ?_ ?_ | refine c_split_n rfl rfl ?_ ?_) <;> intro <;> try (first | contradiction | (exfalso; omega)))
        | ((first | refine r_val rfl rfl ?_ ?_ | refine r_gval rfl rfl rfl rfl ?_ ?_ | refine r_obj rfl rfl ?_ ?_ | refine r_sto rfl ?_ ?_ | refine r_gobj rfl rfl rfl rfl ?_ ?_); focus (first | omega | exact Nat.le_of_ble_eq_true rfl | (simp_all; done) | (simp_all; omega) | ((repeat' refine And.intro ?_ ?_) <;> first | omega | rfl | exact Nat.le_refl _ | exact Nat.le_of_ble_eq_true rfl | exact bytesF_one _ | (simp_all; done) | (simp_all; omega))))
        | refine e_hit rfl ?_ | refine e_miss rfl ?_
        | with_reducible refine ⟨by kernel_rfl, ?_⟩ | refine x_end rfl ?_ | refine n_end rfl ?_ | ((with_reducible refine c_grd ?_); (fail_if_success (refine c_lit true rfl rfl rfl ?_)); (fail_if_success (refine c_lit false rfl rfl rfl ?_)); refine c_split rfl rfl (fun _ => ?_) (fun _ => ?_)))
      all_goals first | rfl | (exfalso; omega)
    · have r0 := at_range (c :: r) 0
      repeat' (first
        | with_reducible (first | refine t_seq ?_ | refine t_region ?_ | refine c_nil ?_ | refine n_then ?_ | refine t_ret ?_ | refine t_skip ?_ | refine t_exit ?_ | refine t_block ?_ | refine n_block ?_ | refine e_then ?_ | refine x_then ?_ | refine x_block ?_ | refine t_draw ?_)
        | refine r_val rfl rfl True.intro ?_ | refine r_gskip rfl rfl rfl ?_ | refine r_gskip2 rfl rfl rfl ?_ | refine r_gval rfl rfl rfl rfl True.intro ?_
        | refine t_true rfl ?_ | refine t_false rfl ?_
        | ((first | refine t_cond_d rfl ?_ ?_ | refine t_cond_i rfl ?_ ?_ | refine t_cond_j rfl ?_ ?_ | refine t_cond_s rfl ?_ ?_ | refine t_cond_n rfl ?_ ?_ | refine t_cond rfl ?_ ?_ | refine c_split_d rfl rfl ?_ ?_ | refine c_split_i rfl rfl ?_ ?_ | refine c_split_j rfl rfl ?_ ?_ | refine c_split_s rfl rfl ?_ ?_ | refine c_split_n rfl rfl ?_ ?_) <;> intro <;> try (first | contradiction | (exfalso; omega)))
        | ((first | refine r_val rfl rfl ?_ ?_ | refine r_gval rfl rfl rfl rfl ?_ ?_ | refine r_obj rfl rfl ?_ ?_ | refine r_sto rfl ?_ ?_ | refine r_gobj rfl rfl rfl rfl ?_ ?_); focus (first | omega | exact Nat.le_of_ble_eq_true rfl | (simp_all; done) | (simp_all; omega) | ((repeat' refine And.intro ?_ ?_) <;> first | omega | rfl | exact Nat.le_refl _ | exact Nat.le_of_ble_eq_true rfl | exact bytesF_one _ | (simp_all; done) | (simp_all; omega))))
        | refine e_hit rfl ?_ | refine e_miss rfl ?_
        | with_reducible refine ⟨by kernel_rfl, ?_⟩ | ((with_reducible refine c_grd ?_); (fail_if_success (refine c_lit true rfl rfl rfl ?_)); (fail_if_success (refine c_lit false rfl rfl rfl ?_)); refine c_split rfl rfl (fun _ => ?_) (fun _ => ?_)))
      all_goals refine T.loop hL (fun x : Nat × Int => [(0, .s (c :: r)), (4, .i .i64 x.2), (5, .i .i64 (uF x.1)), (6, .i .i64 x.1)]) (fun _ => []) (fun x => 2 ≤ x.1 ∧ x.1 ≤ 6 ∧ 0 ≤ x.2 ∧ x.2 ≤ 1000000 * x.1 ∧ QInv (c :: r) 0 x) (fun x => 6 - x.1) (2, 0) ⟨by omega, by omega, by omega, by omega, ⟨rfl⟩⟩ ⟨⟨rfl, rfl, rfl, rfl, trivial⟩, trivial, rfl, fun q hq => by rw [hX] at hq; simp at hq⟩ ?_
      all_goals
        rintro ⟨i, n⟩ ⟨h1, h2, h3, h4, ⟨h5⟩⟩
        dsimp only at h1 h2 h3 h4 h5 ⊢
        by_cases hi : i < (c :: r).length
        · obtain rfl | rfl | rfl : i = 2 ∨ i = 3 ∨ i = 4 := by omega
          · have hr := at_range (c :: r) ((2 : Nat) : Int)
            have hst := goQ_at (u := uF 2) (n := n) hi
            rw [h5] at hst
            dsimp only [uF]
            by_cases hd : 48 ≤ at' (c :: r) ((2 : Nat) : Int) ∧ at' (c :: r) ((2 : Nat) : Int) ≤ 57
            · rw [if_pos hd] at hst
              rw [show uF 2 / 10 = uF 3 from by decide, show uF 2 = 100 from rfl] at hst
              repeat' (first
                | with_reducible (first | refine t_seq ?_ | refine t_region ?_ | refine c_nil ?_ | refine n_then ?_ | refine t_ret ?_ | refine t_skip ?_ | refine t_exit ?_ | refine t_block ?_ | refine n_block ?_ | refine e_then ?_ | refine x_then ?_ | refine x_block ?_ | refine t_draw ?_)
                | refine r_val rfl rfl True.intro ?_ | refine r_gskip rfl rfl rfl ?_ | refine r_gskip2 rfl rfl rfl ?_ | refine r_gval rfl rfl rfl rfl True.intro ?_
                | refine t_true rfl ?_ | refine t_false rfl ?_
                | ((first | refine t_cond_d rfl ?_ ?_ | refine t_cond_i rfl ?_ ?_ | refine t_cond_j rfl ?_ ?_ | refine t_cond_s rfl ?_ ?_ | refine t_cond_n rfl ?_ ?_ | refine t_cond rfl ?_ ?_ | refine c_split_d rfl rfl ?_ ?_ | refine c_split_i rfl rfl ?_ ?_ | refine c_split_j rfl rfl ?_ ?_ | refine c_split_s rfl rfl ?_ ?_ | refine c_split_n rfl rfl ?_ ?_) <;> intro <;> try (first | (rename_i hz; exact Bool.noConfusion (show true = false from hz)) | (rename_i hz; exact Bool.noConfusion (show false = true from hz)) | (exfalso; omega)))
                | ((first | refine r_val rfl rfl ?_ ?_ | refine r_gval rfl rfl rfl rfl ?_ ?_ | refine r_obj rfl rfl ?_ ?_ | refine r_sto rfl ?_ ?_ | refine r_gobj rfl rfl rfl rfl ?_ ?_); focus (first | omega | exact Nat.le_of_ble_eq_true rfl | (simp only [wrap_u8, IntKind.wrap_i64, IntKind.wrap_i32, wrap_u32', wrap_u64', InI]; (repeat' refine And.intro ?_ ?_) <;> omega) | ((repeat' refine And.intro ?_ ?_) <;> first | omega | rfl | exact Nat.le_refl _ | exact Nat.le_of_ble_eq_true rfl | exact bytesF_one _) | (simp_all; done) | (simp_all; omega)))
                | refine e_hit rfl ?_ | refine e_miss rfl ?_
                | with_reducible refine ⟨by kernel_rfl, ?_⟩ | ((with_reducible refine c_grd ?_); (fail_if_success (refine c_lit true rfl rfl rfl ?_)); (fail_if_success (refine c_lit false rfl rfl rfl ?_)); refine c_split rfl rfl (fun _ => ?_) (fun _ => ?_)))
              all_goals exact ⟨(3, n + 100 * (at' (c :: r) ((2 : Nat) : Int) - 48)), ⟨by omega, by omega, by omega, by omega, ⟨hst.symm⟩⟩, by dsimp only; omega, ⟨rfl, congrArg (D.i .i64) (by simp only [wrap_u8, IntKind.wrap_i64]; omega), rfl, congrArg (D.i .i64) (by omega), trivial⟩, trivial, rfl, fun q hq => by rw [hX] at hq; simp at hq⟩
            · rw [if_neg hd] at hst
              rw [qual_none hst]
              repeat' (first
                | with_reducible (first | refine t_seq ?_ | refine t_region ?_ | refine c_nil ?_ | refine n_then ?_ | refine t_ret ?_ | refine t_skip ?_ | refine t_exit ?_ | refine t_block ?_ | refine n_block ?_ | refine e_then ?_ | refine x_then ?_ | refine x_block ?_ | refine t_draw ?_)
                | refine r_val rfl rfl True.intro ?_ | refine r_gskip rfl rfl rfl ?_ | refine r_gskip2 rfl rfl rfl ?_ | refine r_gval rfl rfl rfl rfl True.intro ?_
                | refine t_true rfl ?_ | refine t_false rfl ?_
                | ((first | refine t_cond_d rfl ?_ ?_ | refine t_cond_i rfl ?_ ?_ | refine t_cond_j rfl ?_ ?_ | refine t_cond_s rfl ?_ ?_ | refine t_cond_n rfl ?_ ?_ | refine t_cond rfl ?_ ?_ | refine c_split_d rfl rfl ?_ ?_ | refine c_split_i rfl rfl ?_ ?_ | refine c_split_j rfl rfl ?_ ?_ | refine c_split_s rfl rfl ?_ ?_ | refine c_split_n rfl rfl ?_ ?_) <;> intro <;> try (first | (rename_i hz; exact Bool.noConfusion (show true = false from hz)) | (rename_i hz; exact Bool.noConfusion (show false = true from hz)) | (exfalso; omega)))
                | ((first | refine r_val rfl rfl ?_ ?_ | refine r_gval rfl rfl rfl rfl ?_ ?_ | refine r_obj rfl rfl ?_ ?_ | refine r_sto rfl ?_ ?_ | refine r_gobj rfl rfl rfl rfl ?_ ?_); focus (first | omega | exact Nat.le_of_ble_eq_true rfl | (simp only [wrap_u8, IntKind.wrap_i64, IntKind.wrap_i32, wrap_u32', wrap_u64', InI]; (repeat' refine And.intro ?_ ?_) <;> omega) | ((repeat' refine And.intro ?_ ?_) <;> first | omega | rfl | exact Nat.le_refl _ | exact Nat.le_of_ble_eq_true rfl | exact bytesF_one _) | (simp_all; done) | (simp_all; omega)))
                | refine e_hit rfl ?_ | refine e_miss rfl ?_
                | with_reducible refine ⟨by kernel_rfl, ?_⟩ | refine x_end rfl ?_ | refine n_end rfl ?_ | ((with_reducible refine c_grd ?_); (fail_if_success (refine c_lit true rfl rfl rfl ?_)); (fail_if_success (refine c_lit false rfl rfl rfl ?_)); refine c_split rfl rfl (fun _ => ?_) (fun _ => ?_)))
              all_goals rfl
          · have hr := at_range (c :: r) ((3 : Nat) : Int)
            have hst := goQ_at (u := uF 3) (n := n) hi
            rw [h5] at hst
            dsimp only [uF]
            by_cases hd : 48 ≤ at' (c :: r) ((3 : Nat) : Int) ∧ at' (c :: r) ((3 : Nat) : Int) ≤ 57
            · rw [if_pos hd] at hst
              rw [show uF 3 / 10 = uF 4 from by decide, show uF 3 = 10 from rfl] at hst
              repeat' (first
                | with_reducible (first | refine t_seq ?_ | refine t_region ?_ | refine c_nil ?_ | refine n_then ?_ | refine t_ret ?_ | refine t_skip ?_ | refine t_exit ?_ | refine t_block ?_ | refine n_block ?_ | refine e_then ?_ | refine x_then ?_ | refine x_block ?_ | refine t_draw ?_)
                | refine r_val rfl rfl True.intro ?_ | refine r_gskip rfl rfl rfl ?_ | refine r_gskip2 rfl rfl rfl ?_ | refine r_gval rfl rfl rfl rfl True.intro ?_
                | refine t_true rfl ?_ | refine t_false rfl ?_
                | ((first | refine t_cond_d rfl ?_ ?_ | refine t_cond_i rfl ?_ ?_ | refine t_cond_j rfl ?_ ?_ | refine t_cond_s rfl ?_ ?_ | refine t_cond_n rfl ?_ ?_ | refine t_cond rfl ?_ ?_ | refine c_split_d rfl rfl ?_ ?_ | refine c_split_i rfl rfl ?_ ?_ | refine c_split_j rfl rfl ?_ ?_ | refine c_split_s rfl rfl ?_ ?_ | refine c_split_n rfl rfl ?_ ?_) <;> intro <;> try (first | (rename_i hz; exact Bool.noConfusion (show true = false from hz)) | (rename_i hz; exact Bool.noConfusion (show false = true from hz)) | (exfalso; omega)))
                | ((first | refine r_val rfl rfl ?_ ?_ | refine r_gval rfl rfl rfl rfl ?_ ?_ | refine r_obj rfl rfl ?_ ?_ | refine r_sto rfl ?_ ?_ | refine r_gobj rfl rfl rfl rfl ?_ ?_); focus (first | omega | exact Nat.le_of_ble_eq_true rfl | (simp only [wrap_u8, IntKind.wrap_i64, IntKind.wrap_i32, wrap_u32', wrap_u64', InI]; (repeat' refine And.intro ?_ ?_) <;> omega) | ((repeat' refine And.intro ?_ ?_) <;> first | omega | rfl | exact Nat.le_refl _ | exact Nat.le_of_ble_eq_true rfl | exact bytesF_one _) | (simp_all; done) | (simp_all; omega)))
                | refine e_hit rfl ?_ | refine e_miss rfl ?_
                | with_reducible refine ⟨by kernel_rfl, ?_⟩ | ((with_reducible refine c_grd ?_); (fail_if_success (refine c_lit true rfl rfl rfl ?_)); (fail_if_success (refine c_lit false rfl rfl rfl ?_)); refine c_split rfl rfl (fun _ => ?_) (fun _ => ?_)))
              all_goals exact ⟨(4, n + 10 * (at' (c :: r) ((3 : Nat) : Int) - 48)), ⟨by omega, by omega, by omega, by omega, ⟨hst.symm⟩⟩, by dsimp only; omega, ⟨rfl, congrArg (D.i .i64) (by simp only [wrap_u8, IntKind.wrap_i64]; omega), rfl, congrArg (D.i .i64) (by omega), trivial⟩, trivial, rfl, fun q hq => by rw [hX] at hq; simp at hq⟩
            · rw [if_neg hd] at hst
              rw [qual_none hst]
              repeat' (first
                | with_reducible (first | refine t_seq ?_ | refine t_region ?_ | refine c_nil ?_ | refine n_then ?_ | refine t_ret ?_ | refine t_skip ?_ | refine t_exit ?_ | refine t_block ?_ | refine n_block ?_ | refine e_then ?_ | refine x_then ?_ | refine x_block ?_ | refine t_draw ?_)
                | refine r_val rfl rfl True.intro ?_ | refine r_gskip rfl rfl rfl ?_ | refine r_gskip2 rfl rfl rfl ?_ | refine r_gval rfl rfl rfl rfl True.intro ?_
                | refine t_true rfl ?_ | refine t_false rfl ?_
                | ((first | refine t_cond_d rfl ?_ ?_ | refine t_cond_i rfl ?_ ?_ | refine t_cond_j rfl ?_ ?_ | refine t_cond_s rfl ?_ ?_ | refine t_cond_n rfl ?_ ?_ | refine t_cond rfl ?_ ?_ | refine c_split_d rfl rfl ?_ ?_ | refine c_split_i rfl rfl ?_ ?_ | refine c_split_j rfl rfl ?_ ?_ | refine c_split_s rfl rfl ?_ ?_ | refine c_split_n rfl rfl ?_ ?_) <;> intro <;> try (first | (rename_i hz; exact Bool.noConfusion (show true = false from hz)) | (rename_i hz; exact Bool.noConfusion (show false = true from hz)) | (exfalso; omega)))
                | ((first | refine r_val rfl rfl ?_ ?_ | refine r_gval rfl rfl rfl rfl ?_ ?_ | refine r_obj rfl rfl ?_ ?_ | refine r_sto rfl ?_ ?_ | refine r_gobj rfl rfl rfl rfl ?_ ?_); focus (first | omega | exact Nat.le_of_ble_eq_true rfl | (simp only [wrap_u8, IntKind.wrap_i64, IntKind.wrap_i32, wrap_u32', wrap_u64', InI]; (repeat' refine And.intro ?_ ?_) <;> omega) | ((repeat' refine And.intro ?_ ?_) <;> first | omega | rfl | exact Nat.le_refl _ | exact Nat.le_of_ble_eq_true rfl | exact bytesF_one _) | (simp_all; done) | (simp_all; omega)))
                | refine e_hit rfl ?_ | refine e_miss rfl ?_
                | with_reducible refine ⟨by kernel_rfl, ?_⟩ | refine x_end rfl ?_ | refine n_end rfl ?_ | ((with_reducible refine c_grd ?_); (fail_if_success (refine c_lit true rfl rfl rfl ?_)); (fail_if_success (refine c_lit false rfl rfl rfl ?_)); refine c_split rfl rfl (fun _ => ?_) (fun _ => ?_)))
              all_goals rfl
          · have hr := at_range (c :: r) ((4 : Nat) : Int)
            have hst := goQ_at (u := uF 4) (n := n) hi
            rw [h5] at hst
            dsimp only [uF]
            by_cases hd : 48 ≤ at' (c :: r) ((4 : Nat) : Int) ∧ at' (c :: r) ((4 : Nat) : Int) ≤ 57
            · rw [if_pos hd] at hst
              rw [show uF 4 / 10 = uF 5 from by decide, show uF 4 = 1 from rfl] at hst
              repeat' (first
                | with_reducible (first | refine t_seq ?_ | refine t_region ?_ | refine c_nil ?_ | refine n_then ?_ | refine t_ret ?_ | refine t_skip ?_ | refine t_exit ?_ | refine t_block ?_ | refine n_block ?_ | refine e_then ?_ | refine x_then ?_ | refine x_block ?_ | refine t_draw ?_)
                | refine r_val rfl rfl True.intro ?_ | refine r_gskip rfl rfl rfl ?_ | refine r_gskip2 rfl rfl rfl ?_ | refine r_gval rfl rfl rfl rfl True.intro ?_
                | refine t_true rfl ?_ | refine t_false rfl ?_
                | ((first | refine t_cond_d rfl ?_ ?_ | refine t_cond_i rfl ?_ ?_ | refine t_cond_j rfl ?_ ?_ | refine t_cond_s rfl ?_ ?_ | refine t_cond_n rfl ?_ ?_ | refine t_cond rfl ?_ ?_ | refine c_split_d rfl rfl ?_ ?_ | refine c_split_i rfl rfl ?_ ?_ | refine c_split_j rfl rfl ?_ ?_ | refine c_split_s rfl rfl ?_ ?_ | refine c_split_n rfl rfl ?_ ?_) <;> intro <;> try (first | (rename_i hz; exact Bool.noConfusion (show true = false from hz)) | (rename_i hz; exact Bool.noConfusion (show false = true from hz)) | (exfalso; omega)))
                | ((first | refine r_val rfl rfl ?_ ?_ | refine r_gval rfl rfl rfl rfl ?_ ?_ | refine r_obj rfl rfl ?_ ?_ | refine r_sto rfl ?_ ?_ | refine r_gobj rfl rfl rfl rfl ?_ ?_); focus (first | omega | exact Nat.le_of_ble_eq_true rfl | (simp only [wrap_u8, IntKind.wrap_i64, IntKind.wrap_i32, wrap_u32', wrap_u64', InI]; (repeat' refine And.intro ?_ ?_) <;> omega) | ((repeat' refine And.intro ?_ ?_) <;> first | omega | rfl | exact Nat.le_refl _ | exact Nat.le_of_ble_eq_true rfl | exact bytesF_one _) | (simp_all; done) | (simp_all; omega)))
                | refine e_hit rfl ?_ | refine e_miss rfl ?_
                | with_reducible refine ⟨by kernel_rfl, ?_⟩ | ((with_reducible refine c_grd ?_); (fail_if_success (refine c_lit true rfl rfl rfl ?_)); (fail_if_success (refine c_lit false rfl rfl rfl ?_)); refine c_split rfl rfl (fun _ => ?_) (fun _ => ?_)))
              all_goals exact ⟨(5, n + 1 * (at' (c :: r) ((4 : Nat) : Int) - 48)), ⟨by omega, by omega, by omega, by omega, ⟨hst.symm⟩⟩, by dsimp only; omega, ⟨rfl, congrArg (D.i .i64) (by simp only [wrap_u8, IntKind.wrap_i64]; omega), rfl, congrArg (D.i .i64) (by omega), trivial⟩, trivial, rfl, fun q hq => by rw [hX] at hq; simp at hq⟩
            · rw [if_neg hd] at hst
              rw [qual_none hst]
              repeat' (first
                | with_reducible (first | refine t_seq ?_ | refine t_region ?_ | refine c_nil ?_ | refine n_then ?_ | refine t_ret ?_ | refine t_skip ?_ | refine t_exit ?_ | refine t_block ?_ | refine n_block ?_ | refine e_then ?_ | refine x_then ?_ | refine x_block ?_ | refine t_draw ?_)
                | refine r_val rfl rfl True.intro ?_ | refine r_gskip rfl rfl rfl ?_ | refine r_gskip2 rfl rfl rfl ?_ | refine r_gval rfl rfl rfl rfl True.intro ?_
                | refine t_true rfl ?_ | refine t_false rfl ?_
                | ((first | refine t_cond_d rfl ?_ ?_ | refine t_cond_i rfl ?_ ?_ | refine t_cond_j rfl ?_ ?_ | refine t_cond_s rfl ?_ ?_ | refine t_cond_n rfl ?_ ?_ | refine t_cond rfl ?_ ?_ | refine c_split_d rfl rfl ?_ ?_ | refine c_split_i rfl rfl ?_ ?_ | refine c_split_j rfl rfl ?_ ?_ | refine c_split_s rfl rfl ?_ ?_ | refine c_split_n rfl rfl ?_ ?_) <;> intro <;> try (first | (rename_i hz; exact Bool.noConfusion (show true = false from hz)) | (rename_i hz; exact Bool.noConfusion (show false = true from hz)) | (exfalso; omega)))
                | ((first | refine r_val rfl rfl ?_ ?_ | refine r_gval rfl rfl rfl rfl ?_ ?_ | refine r_obj rfl rfl ?_ ?_ | refine r_sto rfl ?_ ?_ | refine r_gobj rfl rfl rfl rfl ?_ ?_); focus (first | omega | exact Nat.le_of_ble_eq_true rfl | (simp only [wrap_u8, IntKind.wrap_i64, IntKind.wrap_i32, wrap_u32', wrap_u64', InI]; (repeat' refine And.intro ?_ ?_) <;> omega) | ((repeat' refine And.intro ?_ ?_) <;> first | omega | rfl | exact Nat.le_refl _ | exact Nat.le_of_ble_eq_true rfl | exact bytesF_one _) | (simp_all; done) | (simp_all; omega)))
                | refine e_hit rfl ?_ | refine e_miss rfl ?_
                | with_reducible refine ⟨by kernel_rfl, ?_⟩ | refine x_end rfl ?_ | refine n_end rfl ?_ | ((with_reducible refine c_grd ?_); (fail_if_success (refine c_lit true rfl rfl rfl ?_)); (fail_if_success (refine c_lit false rfl rfl rfl ?_)); refine c_split rfl rfl (fun _ => ?_) (fun _ => ?_)))
              all_goals rfl
        · rw [goQ_end (by omega)] at h5
          have hq := qual_some hb h5.symm
          by_cases h48 : at' (c :: r) 0 = 48
          · rw [if_pos h48] at hq
            rw [hq]
            repeat' (first
              | with_reducible (first | refine t_seq ?_ | refine t_region ?_ | refine c_nil ?_ | refine n_then ?_ | refine t_ret ?_ | refine t_skip ?_ | refine t_exit ?_ | refine t_block ?_ | refine n_block ?_ | refine e_then ?_ | refine x_then ?_ | refine x_block ?_ | refine t_draw ?_)
              | refine r_val rfl rfl True.intro ?_ | refine r_gskip rfl rfl rfl ?_ | refine r_gskip2 rfl rfl rfl ?_ | refine r_gval rfl rfl rfl rfl True.intro ?_
              | refine t_true rfl ?_ | refine t_false rfl ?_
              | ((first | refine t_cond_d rfl ?_ ?_ | refine t_cond_i rfl ?_ ?_ | refine t_cond_j rfl ?_ ?_ | refine t_cond_s rfl ?_ ?_ | refine t_cond_n rfl ?_ ?_ | refine t_cond rfl ?_ ?_ | refine c_split_d rfl rfl ?_ ?_ | refine c_split_i rfl rfl ?_ ?_ | refine c_split_j rfl rfl ?_ ?_ | refine c_split_s rfl rfl ?_ ?_ | refine c_split_n rfl rfl ?_ ?_) <;> intro <;> try (first | (rename_i hz; exact Bool.noConfusion (show true = false from hz)) | (rename_i hz; exact Bool.noConfusion (show false = true from hz)) | (exfalso; omega)))
              | ((first | refine r_val rfl rfl ?_ ?_ | refine r_gval rfl rfl rfl rfl ?_ ?_ | refine r_obj rfl rfl ?_ ?_ | refine r_sto rfl ?_ ?_ | refine r_gobj rfl rfl rfl rfl ?_ ?_); focus (first | omega | exact Nat.le_of_ble_eq_true rfl | (simp only [wrap_u8, IntKind.wrap_i64, IntKind.wrap_i32, wrap_u32', wrap_u64', InI]; (repeat' refine And.intro ?_ ?_) <;> omega) | ((repeat' refine And.intro ?_ ?_) <;> first | omega | rfl | exact Nat.le_refl _ | exact Nat.le_of_ble_eq_true rfl | exact bytesF_one _) | (simp_all; done) | (simp_all; omega)))
              | refine e_hit rfl ?_ | refine e_miss rfl ?_
              | with_reducible refine ⟨by kernel_rfl, ?_⟩ | refine x_end rfl ?_ | refine n_end rfl ?_ | ((with_reducible refine c_grd ?_); (fail_if_success (refine c_lit true rfl rfl rfl ?_)); (fail_if_success (refine c_lit false rfl rfl rfl ?_)); refine c_split rfl rfl (fun _ => ?_) (fun _ => ?_)))
            all_goals rfl
          · rw [if_neg h48] at hq
            by_cases hn0 : 0 < n
            · rw [if_pos hn0] at hq
              rw [hq]
              repeat' (first
                | with_reducible (first | refine t_seq ?_ | refine t_region ?_ | refine c_nil ?_ | refine n_then ?_ | refine t_ret ?_ | refine t_skip ?_ | refine t_exit ?_ | refine t_block ?_ | refine n_block ?_ | refine e_then ?_ | refine x_then ?_ | refine x_block ?_ | refine t_draw ?_)
                | refine r_val rfl rfl True.intro ?_ | refine r_gskip rfl rfl rfl ?_ | refine r_gskip2 rfl rfl rfl ?_ | refine r_gval rfl rfl rfl rfl True.intro ?_
                | refine t_true rfl ?_ | refine t_false rfl ?_
                | ((first | refine t_cond_d rfl ?_ ?_ | refine t_cond_i rfl ?_ ?_ | refine t_cond_j rfl ?_ ?_ | refine t_cond_s rfl ?_ ?_ | refine t_cond_n rfl ?_ ?_ | refine t_cond rfl ?_ ?_ | refine c_split_d rfl rfl ?_ ?_ | refine c_split_i rfl rfl ?_ ?_ | refine c_split_j rfl rfl ?_ ?_ | refine c_split_s rfl rfl ?_ ?_ | refine c_split_n rfl rfl ?_ ?_) <;> intro <;> try (first | (rename_i hz; exact Bool.noConfusion (show true = false from hz)) | (rename_i hz; exact Bool.noConfusion (show false = true from hz)) | (exfalso; omega)))
                | ((first | refine r_val rfl rfl ?_ ?_ | refine r_gval rfl rfl rfl rfl ?_ ?_ | refine r_obj rfl rfl ?_ ?_ | refine r_sto rfl ?_ ?_ | refine r_gobj rfl rfl rfl rfl ?_ ?_); focus (first | omega | exact Nat.le_of_ble_eq_true rfl | (simp only [wrap_u8, IntKind.wrap_i64, IntKind.wrap_i32, wrap_u32', wrap_u64', InI]; (repeat' refine And.intro ?_ ?_) <;> omega) | ((repeat' refine And.intro ?_ ?_) <;> first | omega | rfl | exact Nat.le_refl _ | exact Nat.le_of_ble_eq_true rfl | exact bytesF_one _) | (simp_all; done) | (simp_all; omega)))
                | refine e_hit rfl ?_ | refine e_miss rfl ?_
                | with_reducible refine ⟨by kernel_rfl, ?_⟩ | refine x_end rfl ?_ | refine n_end rfl ?_ | ((with_reducible refine c_grd ?_); (fail_if_success (refine c_lit true rfl rfl rfl ?_)); (fail_if_success (refine c_lit false rfl rfl rfl ?_)); refine c_split rfl rfl (fun _ => ?_) (fun _ => ?_)))
              all_goals rfl
            · rw [if_neg hn0] at hq
              rw [hq]
              repeat' (first
                | with_reducible (first | refine t_seq ?_ | refine t_region ?_ | refine c_nil ?_ | refine n_then ?_ | refine t_ret ?_ | refine t_skip ?_ | refine t_exit ?_ | refine t_block ?_ | refine n_block ?_ | refine e_then ?_ | refine x_then ?_ | refine x_block ?_ | refine t_draw ?_)
                | refine r_val rfl rfl True.intro ?_ | refine r_gskip rfl rfl rfl ?_ | refine r_gskip2 rfl rfl rfl ?_ | refine r_gval rfl rfl rfl rfl True.intro ?_
                | refine t_true rfl ?_ | refine t_false rfl ?_
                | ((first | refine t_cond_d rfl ?_ ?_ | refine t_cond_i rfl ?_ ?_ | refine t_cond_j rfl ?_ ?_ | refine t_cond_s rfl ?_ ?_ | refine t_cond_n rfl ?_ ?_ | refine t_cond rfl ?_ ?_ | refine c_split_d rfl rfl ?_ ?_ | refine c_split_i rfl rfl ?_ ?_ | refine c_split_j rfl rfl ?_ ?_ | refine c_split_s rfl rfl ?_ ?_ | refine c_split_n rfl rfl ?_ ?_) <;> intro <;> try (first | (rename_i hz; exact Bool.noConfusion (show true = false from hz)) | (rename_i hz; exact Bool.noConfusion (show false = true from hz)) | (exfalso; omega)))
                | ((first | refine r_val rfl rfl ?_ ?_ | refine r_gval rfl rfl rfl rfl ?_ ?_ | refine r_obj rfl rfl ?_ ?_ | refine r_sto rfl ?_ ?_ | refine r_gobj rfl rfl rfl rfl ?_ ?_); focus (first | omega | exact Nat.le_of_ble_eq_true rfl | (simp only [wrap_u8, IntKind.wrap_i64, IntKind.wrap_i32, wrap_u32', wrap_u64', InI]; (repeat' refine And.intro ?_ ?_) <;> omega) | ((repeat' refine And.intro ?_ ?_) <;> first | omega | rfl | exact Nat.le_refl _ | exact Nat.le_of_ble_eq_true rfl | exact bytesF_one _) | (simp_all; done) | (simp_all; omega)))
                | refine e_hit rfl ?_ | refine e_miss rfl ?_
                | with_reducible refine ⟨by kernel_rfl, ?_⟩ | refine x_end rfl ?_ | refine n_end rfl ?_ | ((with_reducible refine c_grd ?_); (fail_if_success (refine c_lit true rfl rfl rfl ?_)); (fail_if_success (refine c_lit false rfl rfl rfl ?_)); refine c_split rfl rfl (fun _ => ?_) (fun _ => ?_)))
              all_goals rfl

end Go.Proofs.YtghdgjabpdfaoaaDoor.Flow

/- REQ: small letters, a part's name and quality. -/
namespace Go.Proofs.YtghdgjabpdfaoaaDoor.Flow
open Go

def lowI (n : Int) : Int := if 65 ≤ n ∧ n ≤ 90 then n + 32 else n
def smallL (l : List UInt8) : List UInt8 := l.map fun c => UInt8.ofNat (lowI c.toNat).toNat
def oI (l : List UInt8) (j : Nat) : Int := ((l.getD j 0).toNat : Int)
def fI (l : List UInt8) (i : Nat) : Nat → Int := fun j => if j < i then lowI (oI l j) else oI l j

theorem oI_range (l : List UInt8) (j : Nat) : 0 ≤ oI l j ∧ oI l j < 256 := by
  unfold oI
  have := (l.getD j 0).toNat_lt
  omega
theorem fI_range (l : List UInt8) (i j : Nat) : 0 ≤ fI l i j ∧ fI l i j < 256 := by
  have := oI_range l j
  unfold fI lowI
  split
  · split <;> omega
  · omega
theorem fI_0 (l : List UInt8) : fI l 0 = fun j => ((l.getD j 0).toNat : Int) := by
  funext j
  unfold fI
  rw [if_neg (Nat.not_lt_zero j)]
  rfl
theorem fI_at (l : List UInt8) (i : Nat) : fI l i (i : Int).toNat = oI l i := by
  rw [Int.toNat_natCast]
  unfold fI
  rw [if_neg (Nat.lt_irrefl i)]
theorem fI_same {l : List UInt8} {i : Nat} (h : ¬ (65 ≤ oI l i ∧ oI l i ≤ 90)) : fI l i = fI l (i + 1) := by
  funext j
  unfold fI
  by_cases h1 : j < i
  · rw [if_pos h1, if_pos (by omega)]
  · rw [if_neg h1]
    by_cases h2 : j < i + 1
    · obtain rfl : j = i := by omega
      rw [if_pos h2]
      unfold lowI
      rw [if_neg h]
    · rw [if_neg h2]
theorem fI_put {l : List UInt8} {i : Nat} {m : Int} (h : 65 ≤ oI l i ∧ oI l i ≤ 90) (hm : m = oI l i + 32) : (fun j => if j = (i : Int).toNat then m else fI l i j) = fI l (i + 1) := by
  funext j
  rw [Int.toNat_natCast]
  by_cases h0 : j = i
  · subst h0
    rw [if_pos rfl, hm]
    unfold fI lowI
    rw [if_pos (Nat.lt_succ_self j), if_pos h]
  · rw [if_neg h0]
    unfold fI
    by_cases h1 : j < i
    · rw [if_pos h1, if_pos (by omega)]
    · rw [if_neg h1, if_neg (by omega)]
theorem fI_end (l : List UInt8) : bmL l.length (fI l l.length) = smallL l := by
  unfold bmL smallL
  refine List.ext_getElem (by simp) fun i h1 h2 => ?_
  have h1 : i < l.length := by simpa using h1
  simp only [List.getElem_map, List.getElem_range]
  unfold fI oI
  rw [if_pos h1, List.getD_eq_getElem?_getD, List.getElem?_eq_getElem h1, Option.getD_some]

set_option maxRecDepth 100000 in
theorem small_ctr (l : List UInt8) (hl : l.length ≤ 1000000) : Ctr Tryd.prog 66 [.s l] (.s (smallL l)) := by
  refine r_fun Tryd.func66 rfl Tryd.ntmps66 Tryd.results66 rfl rfl fun X hL hX => ?_
  repeat' (first
    | refine r_cvB (l := l) Tryd.underlying9 Tryd.underlying22 Tryd.underlying5 rfl (by omega) rfl rfl ?_
    | with_reducible (first | refine t_seq ?_ | refine t_region ?_ | refine c_nil ?_ | refine n_then ?_ | refine t_ret ?_ | refine t_skip ?_ | refine t_exit ?_ | refine t_block ?_ | refine n_block ?_ | refine e_then ?_ | refine x_then ?_ | refine x_block ?_ | refine t_draw ?_)
    | refine r_val rfl rfl True.intro ?_ | refine r_gskip rfl rfl rfl ?_ | refine r_gskip2 rfl rfl rfl ?_ | refine r_gval rfl rfl rfl rfl True.intro ?_
    | refine t_true rfl ?_ | refine t_false rfl ?_
    | ((first | refine t_cond_d rfl ?_ ?_ | refine t_cond_i rfl ?_ ?_ | refine t_cond_j rfl ?_ ?_ | refine t_cond_s rfl ?_ ?_ | refine t_cond_n rfl ?_ ?_ | refine t_cond rfl ?_ ?_ | refine c_split_d rfl rfl ?_ ?_ | refine c_split_i rfl rfl ?_ ?_ | refine c_split_j rfl rfl ?_ ?_ | refine c_split_s rfl rfl ?_ ?_ | refine c_split_n rfl rfl ?_ ?_) <;> intro <;> try (first | contradiction | (exfalso; omega)))
    | ((first | refine r_val rfl rfl ?_ ?_ | refine r_gval rfl rfl rfl rfl ?_ ?_ | refine r_obj rfl rfl ?_ ?_ | refine r_sto rfl ?_ ?_ | refine r_gobj rfl rfl rfl rfl ?_ ?_); focus (first | omega | exact Nat.le_of_ble_eq_true rfl | (simp_all; done) | (simp_all; omega) | ((repeat' refine And.intro ?_ ?_) <;> first | omega | rfl | exact Nat.le_refl _ | exact Nat.le_of_ble_eq_true rfl | exact bytesF_one _ | (simp_all; done) | (simp_all; omega))))
    | refine e_hit rfl ?_ | refine e_miss rfl ?_
    | with_reducible refine ⟨by kernel_rfl, ?_⟩ | ((with_reducible refine c_grd ?_); (fail_if_success (refine c_lit true rfl rfl rfl ?_)); (fail_if_success (refine c_lit false rfl rfl rfl ?_)); refine c_split rfl rfl (fun _ => ?_) (fun _ => ?_)))
  refine T.loop hL (fun i : Nat => [(3, .ah 7 1 l.length), (8, .ah 7 1 l.length), (9, .i .i64 l.length), (10, .i .i64 i)]) (fun i => [(7, .bm 5 l.length (fI l i))]) (fun i => i ≤ l.length) (fun i => l.length - i) 0 (Nat.zero_le _)
    ⟨⟨rfl, rfl, rfl, rfl, trivial⟩, ⟨by rw [fI_0]; rfl, trivial⟩, rfl, fun q hq => by rw [hX] at hq; simp at hq⟩ ?_
  intro i hi
  by_cases hil : i < l.length
  · have hfa := fI_at l i
    have hr := oI_range l i
    by_cases hu : 65 ≤ oI l i ∧ oI l i ≤ 90
    · skip
      repeat' (first
        | refine r_ldB rfl rfl rfl (by omega) rfl ?_ | refine r_stB rfl rfl rfl rfl (by omega) ?_
        | with_reducible (first | refine t_seq ?_ | refine t_region ?_ | refine c_nil ?_ | refine n_then ?_ | refine t_ret ?_ | refine t_skip ?_ | refine t_exit ?_ | refine t_block ?_ | refine n_block ?_ | refine e_then ?_ | refine x_then ?_ | refine x_block ?_ | refine t_draw ?_)
        | refine r_val rfl rfl True.intro ?_ | refine r_gskip rfl rfl rfl ?_ | refine r_gskip2 rfl rfl rfl ?_ | refine r_gval rfl rfl rfl rfl True.intro ?_
        | refine t_true rfl ?_ | refine t_false rfl ?_
        | ((first | refine t_cond_d rfl ?_ ?_ | refine t_cond_i rfl ?_ ?_ | refine t_cond_j rfl ?_ ?_ | refine t_cond_s rfl ?_ ?_ | refine t_cond_n rfl ?_ ?_ | refine t_cond rfl ?_ ?_ | refine c_split_d rfl rfl ?_ ?_ | refine c_split_i rfl rfl ?_ ?_ | refine c_split_j rfl rfl ?_ ?_ | refine c_split_s rfl rfl ?_ ?_ | refine c_split_n rfl rfl ?_ ?_) <;> intro <;> try (first | contradiction | (exfalso; omega)))
        | ((first | refine r_val rfl rfl ?_ ?_ | refine r_gval rfl rfl rfl rfl ?_ ?_ | refine r_obj rfl rfl ?_ ?_ | refine r_sto rfl ?_ ?_ | refine r_gobj rfl rfl rfl rfl ?_ ?_); focus (first | omega | exact Nat.le_of_ble_eq_true rfl | (simp_all; done) | (simp_all; omega) | ((repeat' refine And.intro ?_ ?_) <;> first | omega | rfl | exact Nat.le_refl _ | exact Nat.le_of_ble_eq_true rfl | exact bytesF_one _ | (simp_all; done) | (simp_all; omega))))
        | refine e_hit rfl ?_ | refine e_miss rfl ?_
        | with_reducible refine ⟨by kernel_rfl, ?_⟩ | refine x_end rfl ?_ | refine n_end rfl ?_ | ((with_reducible refine c_grd ?_); (fail_if_success (refine c_lit true rfl rfl rfl ?_)); (fail_if_success (refine c_lit false rfl rfl rfl ?_)); refine c_split rfl rfl (fun _ => ?_) (fun _ => ?_)))
      all_goals exact ⟨i + 1, by omega, by omega, ⟨rfl, rfl, rfl, congrArg (D.i .i64) (by omega), trivial⟩, ⟨congrArg (fun f => some (Own.bm 5 l.length f)) (fI_put hu (by rw [hfa]; simp only [wrap_u8]; omega)), trivial⟩, rfl, fun q hq => by rw [hX] at hq; simp at hq⟩
    · skip
      repeat' (first
        | refine r_ldB rfl rfl rfl (by omega) rfl ?_ | refine r_stB rfl rfl rfl rfl (by omega) ?_
        | with_reducible (first | refine t_seq ?_ | refine t_region ?_ | refine c_nil ?_ | refine n_then ?_ | refine t_ret ?_ | refine t_skip ?_ | refine t_exit ?_ | refine t_block ?_ | refine n_block ?_ | refine e_then ?_ | refine x_then ?_ | refine x_block ?_ | refine t_draw ?_)
        | refine r_val rfl rfl True.intro ?_ | refine r_gskip rfl rfl rfl ?_ | refine r_gskip2 rfl rfl rfl ?_ | refine r_gval rfl rfl rfl rfl True.intro ?_
        | refine t_true rfl ?_ | refine t_false rfl ?_
        | ((first | refine t_cond_d rfl ?_ ?_ | refine t_cond_i rfl ?_ ?_ | refine t_cond_j rfl ?_ ?_ | refine t_cond_s rfl ?_ ?_ | refine t_cond_n rfl ?_ ?_ | refine t_cond rfl ?_ ?_ | refine c_split_d rfl rfl ?_ ?_ | refine c_split_i rfl rfl ?_ ?_ | refine c_split_j rfl rfl ?_ ?_ | refine c_split_s rfl rfl ?_ ?_ | refine c_split_n rfl rfl ?_ ?_) <;> intro <;> try (first | contradiction | (exfalso; omega)))
        | ((first | refine r_val rfl rfl ?_ ?_ | refine r_gval rfl rfl rfl rfl ?_ ?_ | refine r_obj rfl rfl ?_ ?_ | refine r_sto rfl ?_ ?_ | refine r_gobj rfl rfl rfl rfl ?_ ?_); focus (first | omega | exact Nat.le_of_ble_eq_true rfl | (simp_all; done) | (simp_all; omega) | ((repeat' refine And.intro ?_ ?_) <;> first | omega | rfl | exact Nat.le_refl _ | exact Nat.le_of_ble_eq_true rfl | exact bytesF_one _ | (simp_all; done) | (simp_all; omega))))
        | refine e_hit rfl ?_ | refine e_miss rfl ?_
        | with_reducible refine ⟨by kernel_rfl, ?_⟩ | refine x_end rfl ?_ | refine n_end rfl ?_ | ((with_reducible refine c_grd ?_); (fail_if_success (refine c_lit true rfl rfl rfl ?_)); (fail_if_success (refine c_lit false rfl rfl rfl ?_)); refine c_split rfl rfl (fun _ => ?_) (fun _ => ?_)))
      all_goals exact ⟨i + 1, by omega, by omega, ⟨rfl, rfl, rfl, congrArg (D.i .i64) (by omega), trivial⟩, ⟨congrArg (fun f => some (Own.bm 5 l.length f)) (fI_same hu), trivial⟩, rfl, fun q hq => by rw [hX] at hq; simp at hq⟩
  · have : i = l.length := by omega
    subst this
    repeat' (first
      | refine r_strB Tryd.underlying22 Tryd.underlying5 Tryd.underlying9 rfl rfl (fun i _ => fI_range l l.length i) rfl ?_
      | with_reducible (first | refine t_seq ?_ | refine t_region ?_ | refine c_nil ?_ | refine n_then ?_ | refine t_ret ?_ | refine t_skip ?_ | refine t_exit ?_ | refine t_block ?_ | refine n_block ?_ | refine e_then ?_ | refine x_then ?_ | refine x_block ?_ | refine t_draw ?_)
      | refine r_val rfl rfl True.intro ?_ | refine r_gskip rfl rfl rfl ?_ | refine r_gskip2 rfl rfl rfl ?_ | refine r_gval rfl rfl rfl rfl True.intro ?_
      | refine t_true rfl ?_ | refine t_false rfl ?_
      | ((first | refine t_cond_d rfl ?_ ?_ | refine t_cond_i rfl ?_ ?_ | refine t_cond_j rfl ?_ ?_ | refine t_cond_s rfl ?_ ?_ | refine t_cond_n rfl ?_ ?_ | refine t_cond rfl ?_ ?_ | refine c_split_d rfl rfl ?_ ?_ | refine c_split_i rfl rfl ?_ ?_ | refine c_split_j rfl rfl ?_ ?_ | refine c_split_s rfl rfl ?_ ?_ | refine c_split_n rfl rfl ?_ ?_) <;> intro <;> try (first | contradiction | (exfalso; omega)))
      | ((first | refine r_val rfl rfl ?_ ?_ | refine r_gval rfl rfl rfl rfl ?_ ?_ | refine r_obj rfl rfl ?_ ?_ | refine r_sto rfl ?_ ?_ | refine r_gobj rfl rfl rfl rfl ?_ ?_); focus (first | omega | exact Nat.le_of_ble_eq_true rfl | (simp_all; done) | (simp_all; omega) | ((repeat' refine And.intro ?_ ?_) <;> first | omega | rfl | exact Nat.le_refl _ | exact Nat.le_of_ble_eq_true rfl | exact bytesF_one _ | (simp_all; done) | (simp_all; omega))))
      | refine e_hit rfl ?_ | refine e_miss rfl ?_
      | with_reducible refine ⟨by kernel_rfl, ?_⟩ | refine x_end rfl (by rw [fI_end]) | refine n_end rfl (by rw [fI_end]) | ((with_reducible refine c_grd ?_); (fail_if_success (refine c_lit true rfl rfl rfl ?_)); (fail_if_success (refine c_lit false rfl rfl rfl ?_)); refine c_split rfl rfl (fun _ => ?_) (fun _ => ?_)))

/-! ### A part -/
abbrev bl : List UInt8 := [32, 9]
theorem trimL_len (l cs : List UInt8) : (Lib.trimLeftS l cs).length ≤ l.length := (List.dropWhile_sublist _).length_le
theorem trimR_len (l cs : List UInt8) : (Lib.trimRightS l cs).length ≤ l.length := by
  unfold Lib.trimRightS
  have := (List.dropWhile_sublist (l := l.reverse) (cs.contains ·)).length_le
  rw [List.length_reverse] at this ⊢
  exact this
theorem trim_len (l cs : List UInt8) : (Lib.trimS l cs).length ≤ l.length := Nat.le_trans (trimL_len _ _) (trimR_len _ _)
theorem cut_len (s sep : List UInt8) : (Lib.cut s sep).1.length ≤ s.length ∧ (Lib.cut s sep).2.1.length ≤ s.length := by
  unfold Lib.cut
  split
  · simp only [List.length_take, List.length_drop]
    omega
  · simp

def elemV (s : List UInt8) : List UInt8 × Int × Bool :=
  if (Lib.cut (Lib.trimS s bl) [59]).2.2 = false then (smallL (Lib.trimRightS (Lib.cut (Lib.trimS s bl) [59]).1 bl), 1000, true)
  else if (Lib.trimS (Lib.cut (Lib.trimS s bl) [59]).2.1 bl).length < 2 ∨ ¬ smallL ((Lib.trimS (Lib.cut (Lib.trimS s bl) [59]).2.1 bl).take 2) = [113, 61] then ([], 0, false)
  else (smallL (Lib.trimRightS (Lib.cut (Lib.trimS s bl) [59]).1 bl), qualV ((Lib.trimS (Lib.cut (Lib.trimS s bl) [59]).2.1 bl).drop 2))
def elemD (s : List UInt8) : D := .tu [.s (elemV s).1, .i .i64 (elemV s).2.1, .b (elemV s).2.2]

set_option maxRecDepth 100000 in
theorem element_ctr (s : List UInt8) (hs : s.length ≤ 100000) : Ctr Tryd.prog 62 [.s s] (elemD s) := by
  have t1 := trim_len s bl
  have t2 := cut_len (Lib.trimS s bl) [59]
  have c1 := w_trim s bl (by omega) (by decide) blanks_ascii
  have c2 := w_cut (Lib.trimS s bl) [59] (by omega)
  have hv : elemD s = elemD s := rfl
  unfold elemD elemV
  generalize Lib.cut (Lib.trimS s bl) [59] = cu at *
  obtain ⟨na, re, mo⟩ := cu
  dsimp only at t2 c2 ⊢
  have t3 := trimR_len na bl
  have t4 := trim_len re bl
  have c3 := w_trimRight na bl (by omega) (by decide) blanks_ascii
  have c4 := small_ctr (Lib.trimRightS na bl) (by omega)
  have c5 := w_trim re bl (by omega) (by decide) blanks_ascii
  generalize Lib.trimS re bl = rs at *
  have c6 := small_ctr (rs.take 2) (by rw [List.length_take]; omega)
  have e7 : (rs.take ((rs.length : Int)).toNat).drop 2 = rs.drop 2 := by simp
  have c7 := quality_ctr ((rs.take ((rs.length : Int)).toNat).drop 2) (by rw [e7, List.length_drop]; omega)
  rw [e7] at c7
  have c7' : Ctr Tryd.prog 15 [.s ((rs.take ((rs.length : Int)).toNat).drop 2)] (.tu [.i .i64 (qualV (rs.drop 2)).1, .b (qualV (rs.drop 2)).2]) := by rw [e7]; exact c7
  generalize smallL (Lib.trimRightS na bl) = nm at *
  refine r_fun Tryd.func62 rfl Tryd.ntmps62 Tryd.results62 rfl rfl fun X hL hX => ?_
  cases mo with
  | false =>
    rw [if_pos rfl]
    repeat' (first
      | refine r_call (f := 67) rfl rfl Tryd.call67 rfl c1 ?_ | refine r_call (f := 44) rfl rfl Tryd.call44 rfl c2 ?_ | refine r_call (f := 83) rfl rfl Tryd.call83 rfl c3 ?_ | refine r_call (f := 66) rfl rfl Tryd.call66 rfl c4 ?_ | refine r_call (f := 67) rfl rfl Tryd.call67 rfl c5 ?_ | refine r_gcall (f := 66) rfl rfl rfl rfl Tryd.call66 rfl c6 ?_ | refine r_call (f := 15) rfl rfl Tryd.call15 rfl c7' ?_
      | with_reducible (first | refine t_seq ?_ | refine t_region ?_ | refine c_nil ?_ | refine n_then ?_ | refine t_ret ?_ | refine t_skip ?_ | refine t_exit ?_ | refine t_block ?_ | refine n_block ?_ | refine e_then ?_ | refine x_then ?_ | refine x_block ?_ | refine t_draw ?_)
      | refine r_val rfl rfl True.intro ?_ | refine r_gskip rfl rfl rfl ?_ | refine r_gskip2 rfl rfl rfl ?_ | refine r_gval rfl rfl rfl rfl True.intro ?_
      | refine t_true rfl ?_ | refine t_false rfl ?_
      | ((first | refine t_cond_d rfl ?_ ?_ | refine t_cond_i rfl ?_ ?_ | refine t_cond_j rfl ?_ ?_ | refine t_cond_s rfl ?_ ?_ | refine t_cond_n rfl ?_ ?_ | refine t_cond rfl ?_ ?_ | refine c_split_d rfl rfl ?_ ?_ | refine c_split_i rfl rfl ?_ ?_ | refine c_split_j rfl rfl ?_ ?_ | refine c_split_s rfl rfl ?_ ?_ | refine c_split_n rfl rfl ?_ ?_) <;> intro <;> try (first | contradiction | (exfalso; omega)))
      | ((first | refine r_val rfl rfl ?_ ?_ | refine r_gval rfl rfl rfl rfl ?_ ?_ | refine r_obj rfl rfl ?_ ?_ | refine r_sto rfl ?_ ?_ | refine r_gobj rfl rfl rfl rfl ?_ ?_); focus (first | omega | exact Nat.le_of_ble_eq_true rfl | (simp_all; done) | (simp_all; omega) | ((repeat' refine And.intro ?_ ?_) <;> first | omega | rfl | exact Nat.le_refl _ | exact Nat.le_of_ble_eq_true rfl | exact bytesF_one _ | (simp_all; done) | (simp_all; omega))))
      | refine e_hit rfl ?_ | refine e_miss rfl ?_
      | with_reducible refine ⟨by kernel_rfl, ?_⟩ | refine x_end rfl ?_ | refine n_end rfl ?_ | ((with_reducible refine c_grd ?_); (fail_if_success (refine c_lit true rfl rfl rfl ?_)); (fail_if_success (refine c_lit false rfl rfl rfl ?_)); refine c_split rfl rfl (fun _ => ?_) (fun _ => ?_)))
    all_goals rfl
  | true =>
    rw [if_neg (by simp)]
    by_cases h2 : rs.length < 2
    · rw [if_pos (.inl h2)]
      repeat' (first
        | refine r_call (f := 67) rfl rfl Tryd.call67 rfl c1 ?_ | refine r_call (f := 44) rfl rfl Tryd.call44 rfl c2 ?_ | refine r_call (f := 83) rfl rfl Tryd.call83 rfl c3 ?_ | refine r_call (f := 66) rfl rfl Tryd.call66 rfl c4 ?_ | refine r_call (f := 67) rfl rfl Tryd.call67 rfl c5 ?_ | refine r_gcall (f := 66) rfl rfl rfl rfl Tryd.call66 rfl c6 ?_ | refine r_call (f := 15) rfl rfl Tryd.call15 rfl c7' ?_
        | with_reducible (first | refine t_seq ?_ | refine t_region ?_ | refine c_nil ?_ | refine n_then ?_ | refine t_ret ?_ | refine t_skip ?_ | refine t_exit ?_ | refine t_block ?_ | refine n_block ?_ | refine e_then ?_ | refine x_then ?_ | refine x_block ?_ | refine t_draw ?_)
        | refine r_val rfl rfl True.intro ?_ | refine r_gskip rfl rfl rfl ?_ | refine r_gskip2 rfl rfl rfl ?_ | refine r_gval rfl rfl rfl rfl True.intro ?_
        | refine t_true rfl ?_ | refine t_false rfl ?_
        | ((first | refine t_cond_d rfl ?_ ?_ | refine t_cond_i rfl ?_ ?_ | refine t_cond_j rfl ?_ ?_ | refine t_cond_s rfl ?_ ?_ | refine t_cond_n rfl ?_ ?_ | refine t_cond rfl ?_ ?_ | refine c_split_d rfl rfl ?_ ?_ | refine c_split_i rfl rfl ?_ ?_ | refine c_split_j rfl rfl ?_ ?_ | refine c_split_s rfl rfl ?_ ?_ | refine c_split_n rfl rfl ?_ ?_) <;> intro <;> try (first | contradiction | (exfalso; omega)))
        | ((first | refine r_val rfl rfl ?_ ?_ | refine r_gval rfl rfl rfl rfl ?_ ?_ | refine r_obj rfl rfl ?_ ?_ | refine r_sto rfl ?_ ?_ | refine r_gobj rfl rfl rfl rfl ?_ ?_); focus (first | omega | exact Nat.le_of_ble_eq_true rfl | (simp_all; done) | (simp_all; omega) | ((repeat' refine And.intro ?_ ?_) <;> first | omega | rfl | exact Nat.le_refl _ | exact Nat.le_of_ble_eq_true rfl | exact bytesF_one _ | (simp_all; done) | (simp_all; omega))))
        | refine e_hit rfl ?_ | refine e_miss rfl ?_
        | with_reducible refine ⟨by kernel_rfl, ?_⟩ | refine x_end rfl ?_ | refine n_end rfl ?_ | ((with_reducible refine c_grd ?_); (fail_if_success (refine c_lit true rfl rfl rfl ?_)); (fail_if_success (refine c_lit false rfl rfl rfl ?_)); refine c_split rfl rfl (fun _ => ?_) (fun _ => ?_)))
      all_goals first | rfl | (exfalso; omega)
    · generalize hsm : smallL (rs.take 2) = sm at *
      by_cases hq : sm = [113, 61]
      · subst hq
        rw [if_neg (by intro h; rcases h with h | h; exact h2 h; exact h rfl)]
        repeat' (first
          | refine r_call (f := 67) rfl rfl Tryd.call67 rfl c1 ?_ | refine r_call (f := 44) rfl rfl Tryd.call44 rfl c2 ?_ | refine r_call (f := 83) rfl rfl Tryd.call83 rfl c3 ?_ | refine r_call (f := 66) rfl rfl Tryd.call66 rfl c4 ?_ | refine r_call (f := 67) rfl rfl Tryd.call67 rfl c5 ?_ | refine r_gcall (f := 66) rfl rfl rfl rfl Tryd.call66 rfl c6 ?_ | refine r_call (f := 15) rfl rfl Tryd.call15 rfl c7' ?_
          | with_reducible (first | refine t_seq ?_ | refine t_region ?_ | refine c_nil ?_ | refine n_then ?_ | refine t_ret ?_ | refine t_skip ?_ | refine t_exit ?_ | refine t_block ?_ | refine n_block ?_ | refine e_then ?_ | refine x_then ?_ | refine x_block ?_ | refine t_draw ?_)
          | refine r_val rfl rfl True.intro ?_ | refine r_gskip rfl rfl rfl ?_ | refine r_gskip2 rfl rfl rfl ?_ | refine r_gval rfl rfl rfl rfl True.intro ?_
          | refine t_true rfl ?_ | refine t_false rfl ?_
          | ((first | refine t_cond_d rfl ?_ ?_ | refine t_cond_i rfl ?_ ?_ | refine t_cond_j rfl ?_ ?_ | refine t_cond_s rfl ?_ ?_ | refine t_cond_n rfl ?_ ?_ | refine t_cond rfl ?_ ?_ | refine c_split_d rfl rfl ?_ ?_ | refine c_split_i rfl rfl ?_ ?_ | refine c_split_j rfl rfl ?_ ?_ | refine c_split_s rfl rfl ?_ ?_ | refine c_split_n rfl rfl ?_ ?_) <;> intro <;> try (first | contradiction | (exfalso; omega)))
          | ((first | refine r_val rfl rfl ?_ ?_ | refine r_gval rfl rfl rfl rfl ?_ ?_ | refine r_obj rfl rfl ?_ ?_ | refine r_sto rfl ?_ ?_ | refine r_gobj rfl rfl rfl rfl ?_ ?_); focus (first | omega | exact Nat.le_of_ble_eq_true rfl | (simp_all; done) | (simp_all; omega) | ((repeat' refine And.intro ?_ ?_) <;> first | omega | rfl | exact Nat.le_refl _ | exact Nat.le_of_ble_eq_true rfl | exact bytesF_one _ | (simp_all; done) | (simp_all; omega))))
          | refine e_hit rfl ?_ | refine e_miss rfl ?_
          | with_reducible refine ⟨by kernel_rfl, ?_⟩ | refine x_end rfl ?_ | refine n_end rfl ?_ | ((with_reducible refine c_grd ?_); (fail_if_success (refine c_lit true rfl rfl rfl ?_)); (fail_if_success (refine c_lit false rfl rfl rfl ?_)); refine c_split rfl rfl (fun _ => ?_) (fun _ => ?_)))
        all_goals first | rfl | (exfalso; omega)
      · rw [if_pos (.inr hq)]
        repeat' (first
          | refine r_call (f := 67) rfl rfl Tryd.call67 rfl c1 ?_ | refine r_call (f := 44) rfl rfl Tryd.call44 rfl c2 ?_ | refine r_call (f := 83) rfl rfl Tryd.call83 rfl c3 ?_ | refine r_call (f := 66) rfl rfl Tryd.call66 rfl c4 ?_ | refine r_call (f := 67) rfl rfl Tryd.call67 rfl c5 ?_ | refine r_gcall (f := 66) rfl rfl rfl rfl Tryd.call66 rfl c6 ?_ | refine r_call (f := 15) rfl rfl Tryd.call15 rfl c7' ?_
          | with_reducible (first | refine t_seq ?_ | refine t_region ?_ | refine c_nil ?_ | refine n_then ?_ | refine t_ret ?_ | refine t_skip ?_ | refine t_exit ?_ | refine t_block ?_ | refine n_block ?_ | refine e_then ?_ | refine x_then ?_ | refine x_block ?_ | refine t_draw ?_)
          | refine r_val rfl rfl True.intro ?_ | refine r_gskip rfl rfl rfl ?_ | refine r_gskip2 rfl rfl rfl ?_ | refine r_gval rfl rfl rfl rfl True.intro ?_
          | refine t_true rfl ?_ | refine t_false rfl ?_
          | ((first | refine t_cond_d rfl ?_ ?_ | refine t_cond_i rfl ?_ ?_ | refine t_cond_j rfl ?_ ?_ | refine t_cond_s rfl ?_ ?_ | refine t_cond_n rfl ?_ ?_ | refine t_cond rfl ?_ ?_ | refine c_split_d rfl rfl ?_ ?_ | refine c_split_i rfl rfl ?_ ?_ | refine c_split_j rfl rfl ?_ ?_ | refine c_split_s rfl rfl ?_ ?_ | refine c_split_n rfl rfl ?_ ?_) <;> intro <;> try (first | contradiction | (exfalso; omega)))
          | ((first | refine r_val rfl rfl ?_ ?_ | refine r_gval rfl rfl rfl rfl ?_ ?_ | refine r_obj rfl rfl ?_ ?_ | refine r_sto rfl ?_ ?_ | refine r_gobj rfl rfl rfl rfl ?_ ?_); focus (first | omega | exact Nat.le_of_ble_eq_true rfl | (simp_all; done) | (simp_all; omega) | ((repeat' refine And.intro ?_ ?_) <;> first | omega | rfl | exact Nat.le_refl _ | exact Nat.le_of_ble_eq_true rfl | exact bytesF_one _ | (simp_all; done) | (simp_all; omega))))
          | refine e_hit rfl ?_ | refine e_miss rfl ?_
          | with_reducible refine ⟨by kernel_rfl, ?_⟩ | refine x_end rfl ?_ | refine n_end rfl ?_ | ((with_reducible refine c_grd ?_); (fail_if_success (refine c_lit true rfl rfl rfl ?_)); (fail_if_success (refine c_lit false rfl rfl rfl ?_)); refine c_split rfl rfl (fun _ => ?_) (fun _ => ?_)))
        all_goals first | rfl | (exfalso; omega) | (exfalso; rename_i hz; exact hq (by simpa using hz))

end Go.Proofs.YtghdgjabpdfaoaaDoor.Flow
