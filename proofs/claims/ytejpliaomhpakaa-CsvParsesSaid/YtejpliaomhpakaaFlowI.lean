/-
  FLOW, PART I: 'step' IS RIGHT.
-/
import Derived.Test.YtejpliaomhpakaaFlowH
namespace Go.Proofs.Ytejpliaomhpakaa.Flow

section
variable {P : Program} {X : Ctx} {n : Nat} {o : Oper} {F : Nat → D} {O own : Nat → Option Own}

theorem boundsD_sound {S : Cells} {w : World} {r : Rho} {len cap : Nat} {isSlice : Bool} {e : Operand → D} {ρ : Operand → Value} {lo hi : Option Operand} {n m : Int} (h : boundsD len e lo hi = some (n, m))
    (hl : ∀ x, lo = some x → Rel S w r (e x) (ρ x)) (hh : ∀ x, hi = some x → Rel S w r (e x) (ρ x)) (h0 : 0 ≤ n) (h1 : n ≤ m) (h2 : m ≤ len) (hc : len ≤ cap) :
    (Instr.sliceBounds isSlice len cap (lo.map ρ) (hi.map ρ) none).run P w = .ok (n.toNat, m.toNat, cap) w := by
  have h3 : m ≤ cap := by omega
  have key : ∀ x k, Rel S w r (e x) (ρ x) → (∃ k', e x = .i k' k) → ∃ k', ρ x = .int k' k := fun x k hr ⟨k', he⟩ => by
    rw [he] at hr
    generalize ρ x = u at hr
    cases hr
    exact ⟨_, rfl⟩
  unfold boundsD at h
  split at h
  · cases h
    simp [Instr.sliceBounds]
  · rename_i x
    split at h <;> first | (cases h; done) | skip
    rename_i k a he
    cases h
    obtain ⟨k', hk⟩ := key x _ (hl x rfl) ⟨_, he⟩
    simp [Instr.sliceBounds, Instr.sliceBound, hk, asIntOf, h0, h1]
  · rename_i x
    split at h <;> first | (cases h; done) | skip
    rename_i k a he
    cases h
    obtain ⟨k', hk⟩ := key x _ (hh x rfl) ⟨_, he⟩
    have h4 : 0 ≤ m := by omega
    simp [Instr.sliceBounds, Instr.sliceBound, hk, asIntOf, h4, h3]
  · rename_i x y
    split at h <;> first | (cases h; done) | skip
    rename_i k a k2 b he he2
    cases h
    obtain ⟨k', hk⟩ := key x _ (hl x rfl) ⟨_, he⟩
    obtain ⟨k'', hk2⟩ := key y _ (hh y rfl) ⟨_, he2⟩
    have h4 : 0 ≤ m := by omega
    have h5 : n ≤ (m.toNat : Int) := by omega
    simp [Instr.sliceBounds, Instr.sliceBound, hk, hk2, asIntOf, h4, h3, h0, h5]
    intro h6
    omega

theorem sub_slice {S : Cells} {w : World} {r : Rho} {z len lo hi cap : Nat} {f : Nat → List D} {a : Option Addr} (h : Rel S w r (.sl z len f) (.slice a len cap)) (h1 : lo ≤ hi) (h2 : hi ≤ len) :
    Rel S w r (.sl z (hi - lo) (fun i => f (lo + i))) (.slice (if cap = lo then a else a.map (·.add (lo * z))) (hi - lo) (cap - lo)) := by
  obtain ⟨a', cap', c, e, hc, hm, hl, hr, hcell⟩ := sl_cells h
  cases e
  refine .sl _ _ _ _ _ _ (fun i j => c (lo + i) j) (by omega) (by omega) (fun i hi' => hl _ (by omega)) (fun i j hi' hj => ?_) (fun i j hi' hj => hr _ _ (by omega) hj)
  obtain ⟨b, o, he, hs, hcl⟩ := hcell (lo + i) j (by omega) hj
  rw [if_neg (by omega)]
  refine ⟨b, o + lo * z, by rw [he]; simp [Addr.add_lit], ?_⟩
  have e : o + lo * z + i * z + j = o + (lo + i) * z + j := by rw [Nat.add_mul]; omega
  rw [e]
  exact ⟨hs, hcl⟩

/-- Two elements' worth of nothing: append of no element. -/
theorem append_zero {w : World} {S : Cells} {r : Rho} {t ty el : TypeId} {i : TypeInfo} {k L : Nat} {z : Nat} {f g : Nat → List D} {vx vy : Value} (hH : Hist X w S) (hI : Inv X w S r O)
    (ht : P.underlying t = some (.slice el)) (hi : P.info? el = some i)
    (hx : Rel S w r (.sl z L f) vx) (hy : Rel S w r (.sl z 0 g) vy)
    (hk : (O k = none ∧ L = 0 ∧ vx = .slice none 0 0) ∨ (O k = some (.row el z L) ∧ ∀ tv, r k = some (.row tv L) → vx = tv)) :
    ∃ v w', (Builtin.append_ #[t, t] ty #[vx, vy]).run P w = .ok v w' ∧ ∃ S' r', Rel S' w' r' (.gs k z (L + 0) (catF L f 0 g)) v ∧ Hist X w' S' ∧ Inv X w' S' r' (updO O [(k, .row el z (L + 0))]) ∧
      (∀ b o, S b o → S' b o) ∧ (∀ b o, S b o → w'.cell? ⟨b, o, none⟩ = w.cell? ⟨b, o, none⟩) ∧ RhoLe r r' := by
  obtain ⟨ay, capy, c2, rfl, _, _, hl2, hr2, hcell2⟩ := sl_cells hy
  obtain ⟨ax, capx, c1, rfl, hcx, hmx, hl1, hr1, hcell1⟩ := sl_cells hx
  have hrun := run_append_none (P := P) (w := w) (ty := ty) ht hi ax L capx hcx ay capy
  have hx' : Rel S w r (.sl z L (catF L f 0 g)) (.slice ax L capx) := hx.sl_congr (fun i hi' => by simp [catF, hi'])
  rcases hk with ⟨hk, rfl, hv0⟩ | ⟨hk, htip⟩
  · have hn := hI.dom k hk
    have hle : RhoLe r (updR r k (.row (.slice none 0 0) 0)) := RhoLe.new hn
    have hk0 : updR r k (.row (.slice none 0 0) 0) k = some (.row (.slice none 0 0) 0) := by simp [updR]
    have hc : Chg w w S none := ⟨rfl, rfl, rfl, Nat.le_refl _, fun _ _ _ => rfl, fun _ _ _ => rfl⟩
    refine ⟨_, _, hrun, S, updR r k (.row (.slice none 0 0) 0), .gs _ k z 0 _ _ _ 0 (hx'.mono (fun _ _ h => h) (fun _ _ _ => rfl) _ hle) hk0 (Nat.le_refl _) (fun _ => hv0), hH, ?_, fun _ _ h => h, fun _ _ _ => rfl, hle⟩
    refine hI.put hc (fun _ _ h => h) hle k _ (.row (.slice none 0 0) 0) ⟨_, hk0, .inl ⟨rfl, rfl⟩⟩ hk0 (fun j hj => by simp [updR, hj]) (fun b hb => by simp [Loc.block] at hb) (fun b hb => by cases hb) (fun _ _ h => .inl h)
  · obtain ⟨tv, htv, hrow⟩ := hI.obj k _ hk
    have := htip tv htv
    subst this
    refine ⟨_, _, hrun, S, r, .gs _ k z L _ _ _ L hx' htv (Nat.le_refl _) (fun _ => rfl), hH, ?_, fun _ _ h => h, fun _ _ _ => rfl, RhoLe.refl r⟩
    have : updO O [(k, .row el z (L + 0))] = O := by
      funext j
      show (if j = k then some (Own.row el z L) else O j) = O j
      by_cases e : j = k
      · subst e; rw [if_pos rfl, hk]
      · rw [if_neg e]
    rw [this]
    exact hI

/-- More cells that stay as they are, in blocks that are new. -/
theorem Inv.grow {w w' : World} {S S' : Cells} {r : Rho} (h : Inv X w S r O) (c : Chg w w' S none) (hS : ∀ b o, S b o → S' b o) (hn : ∀ b o, S' b o → S b o ∨ w.heap.size ≤ b) : Inv X w' S' r O where
  obj := fun k o hk => (h.obj k o hk).keep c hS (RhoLe.refl r) rfl (fun _ _ _ _ e => by cases e) (fun b o' hb => by
    rcases hn b o' hb with h1 | h1
    · exact .inl h1
    · refine .inr fun l hl e => ?_
      have := (h.obj k o hk).blockLt hl e
      omega)
  dom := h.dom
  apart := h.apart
  low := h.low

theorem bytes_of_string {w : World} {S : Cells} {r : Rho} {src dst e : TypeId} {l : List UInt8} (hH : Hist X w S) (hI : Inv X w S r O) (hs : P.underlying src = some .string) (hd : P.underlying dst = some (.slice e)) (he : P.underlying e = some (.int .u8))
    (hl : l.length < maxLen) :
    ∃ v w' S' r', (convert src dst (.string ⟨l.toArray⟩)).run P w = .ok v w' ∧ Rel S' w' r' (.sl 1 l.length (bytesF l)) v ∧ Hist X w' S' ∧ Inv X w' S' r' O ∧
        (∀ b o, S b o → S' b o) ∧ (∀ b o, S b o → w'.cell? ⟨b, o, none⟩ = w.cell? ⟨b, o, none⟩) ∧ RhoLe r r' := by
  have hrun := run_bytes_of_string (P := P) w src dst e ⟨l.toArray⟩ hs hd he
  have hsz : (ByteArray.mk l.toArray).size = l.length := by simp [ByteArray.size]
  rw [hsz] at hrun
  have hge := grownCap_ge w l.length 0 e
  have hcm := grownCap_le_maxLen w l.length 0 e (by omega)
  refine ⟨_, _, fun b o => S b o ∨ (b = w.heap.size ∧ o < l.length), r, hrun, ?_, ?_, ?_, fun _ _ h => .inl h, (Chg.drewAlloc w S hH.valid _ none).cell, RhoLe.refl r⟩
  · refine rel_row (c := fun i _ => .int .u8 ((l.getD i 0).toNat : Int)) (heap_alloc_new w.drew _) hge hcm (fun i j hi hj => ?_) (fun i j hi hj => .inr ⟨rfl, by omega⟩) (fun i hi => ⟨rfl, rfl⟩) (fun i j hi hj => ?_)
    · have : j = 0 := by omega
      subst this
      simp only [bytesRow, List.map_toArray, Nat.mul_one, Nat.add_zero]
      rw [Array.getElem?_append_left (by simpa using hi)]
      simp [hi, List.getD_eq_getElem?_getD]
    · have : j = 0 := by omega
      subst this
      exact .i ..
  · refine hH.chg (Chg.drewAlloc w S hH.valid _ none) (fun b hb => by cases hb) (fun _ _ h => .inl h) (fun b o h => ?_)
    rcases h with h | ⟨rfl, _⟩
    · exact .inl h
    · exact .inr ⟨.inl hH.size, by simp⟩
  · refine hI.grow (Chg.drewAlloc w S hH.valid _ none) (fun _ _ h => .inl h) (fun b o h => ?_)
    rcases h with h | ⟨rfl, _⟩
    · exact .inl h
    · exact .inr (Nat.le_refl _)

set_option maxHeartbeats 1000000 in
theorem step_sound {e : Operand → D} {s : Stp} (hs : step (tb P) e own o = some s) (hp : s.p) (hd : dstOk o.dst n) (he : ∀ x ∈ o.op.operands.toList, evF F x = e x) (hO : ∀ k ∈ s.rd, O k = own k) :
    StepAt P X n o F O s.d s.wr := by
  unfold step at hs
  simp only [fz_eq] at hs
  have hev : ∀ {S : Cells} {w : World} {r : Rho} {a : Act}, (∀ x, Rel S w r (evF F x) (a.eval x)) → ∀ x ∈ o.op.operands.toList, Rel S w r (e x) (a.eval x) := fun hr x hx => he x hx ▸ hr x
  split at hs
  case _ x ho =>
    refine stepAt_of hd fun a w S r hH hI hr => ?_
    have hx := hev hr x (by simp [ho, Op.operands])
    cases hs
    exact fin_value hH hI rfl (by simp [execOp, ho]) hx
  case _ x ho =>
    refine stepAt_of hd fun a w S r hH hI hr => ?_
    have hx := hev hr x (by simp [ho, Op.operands])
    cases hs
    exact fin_value hH hI rfl (by simp [execOp, ho]) hx
  case _ c x y ho =>
    refine stepAt_of hd fun a w S r hH hI hr => ?_
    obtain ⟨c', h1, h2, h3⟩ := pickD_sound hs (hev hr c (by simp [ho, Op.operands])) (hev hr x (by simp [ho, Op.operands])) (hev hr y (by simp [ho, Op.operands]))
    exact fin_value hH hI h3 (by simp [execOp, ho, h1, asBool]) h2
  case _ op t x y yt ho =>
    refine stepAt_of hd fun a w S r hH hI hr => ?_
    obtain ⟨v, h1, h2, h3⟩ := binD_sound (P := P) (x := x) (y := y) hs hp (hev hr x (by simp [ho, Op.operands])) (hev hr y (by simp [ho, Op.operands]))
    refine fin_value hH hI h3 ?_ h2
    simp only [execOp, ho, Sem.run_bind] at h1 ⊢
    rw [h1]
    rfl
  case _ op t x ho =>
    refine stepAt_of hd fun a w S r hH hI hr => ?_
    have hx := hev hr x (by simp [ho, Op.operands])
    unfold unD at hs
    split at hs <;> first | (cases hs; done) | skip
    · rename_i c hc
      cases hs
      rw [hc] at hx
      generalize hv : a.eval x = vx at hx
      cases hx
      exact fin_value hH hI rfl (by simp [execOp, ho, hv, Op.unary]) (.b ..)
    · rename_i k m hc
      rw [hc] at hx
      generalize hv : a.eval x = vx at hx
      cases hx
      obtain ⟨h1, h2⟩ := addK_sound (S := S) (w := w) (r := r) hs hp
      refine fin_value hH hI h2 ?_ h1
      simp [execOp, ho, hv, Op.unary, Op.intArith]
  case _ t1 t2 x ho =>
    have hop := he x (by simp [ho, Op.operands])
    unfold convertD at hs
    refine stepAt_of hd fun a w S r hH hI hr => ?_
    have hx := hev hr x (by simp [ho, Op.operands])
    generalize hv : a.eval x = vx at hx
    have hrun : ∀ v, (convert t1 t2 vx).run P w = .ok v w → (execOp a.eval o).run P w = .ok (.value v) w := fun v h => by simp [execOp, ho, hv, h]
    generalize e x = dx at hs hx
    split at hs
    · split at hs <;> first | (cases hs; done) | skip
      rename_i k n' k1 k2 h1 h2
      cases hs
      cases hx
      exact fin_value hH hI rfl (hrun _ (by simp [convert, run_underlying (tyOf_int h1), run_underlying (tyOf_int h2), Conv.intToInt])) (.i ..)
    · split at hs <;> first | (cases hs; done) | skip
      · rename_i l h1 h2
        cases hs
        cases hx
        exact fin_value hH hI rfl (hrun _ (by simp [convert, run_underlying (tyOf_str h1), run_underlying (tyOf_str h2)])) (.s ..)
      · rename_i l el g by' h1 h2
        split at hs <;> first | (cases hs; done) | skip
        rename_i h3
        cases hs
        cases hx
        obtain ⟨v, w', S', r', g1, g2, g3, g4, g5, g6, g7⟩ := bytes_of_string (P := P) hH hI (tyOf_str h1) (tyOf_slice h2).1 (tyOf_int h3) hp
        exact ⟨v, w', S', r', .inl (by simp [execOp, ho, hv, g1]), g2, g3, g4, g5, g6, g7⟩
    · split at hs <;> first | (cases hs; done) | skip
      rename_i h1 h2
      split at hs <;> first | (cases hs; done) | skip
      rename_i h3
      cases hs
      cases hx
      have := run_convert_bytes_string w t1 t2 _ none 0 0 (tyOf_slice h1).1 (tyOf_int h3) (tyOf_str h2)
      exact fin_value hH hI rfl (hrun (.string .empty) (by rw [this]; simp [Conv.bytesToString])) (.s ..)
    · split at hs <;> first | (cases hs; done) | skip
      rename_i h1 h2
      split at hs <;> first | (cases hs; done) | skip
      rename_i h3
      cases hs
      obtain ⟨rfl, hf⟩ := hp
      obtain ⟨v', g1, g2⟩ := bytes_string (tyOf_slice h1).1 (tyOf_int h3) (tyOf_str h2) hx hf
      exact fin_value hH hI rfl (hrun _ g1) g2
    · split at hs <;> first | (cases hs; done) | skip
      rename_i h1 h2
      split at hs <;> first | (cases hs; done) | skip
      rename_i h3
      cases hs
      obtain ⟨rfl, hf⟩ := hp
      obtain ⟨v', g1, g2⟩ := bytes_string (tyOf_slice h1).1 (tyOf_int h3) (tyOf_str h2) hx.shut hf
      exact fin_value hH hI rfl (hrun _ g1) g2
    · cases hs
  case _ t x ix ho =>
    refine stepAt_of hd fun a w S r hH hI hr => ?_
    obtain ⟨v, h1, h2, h3⟩ := idxD_sound hs hp (hev hr x (by simp [ho, Op.operands])) (hev hr ix (by simp [ho, Op.operands]))
    exact fin_value hH hI h3 (by simp [execOp, ho, h1]) h2
  case _ t x ix ho =>
    refine stepAt_of hd fun a w S r hH hI hr => ?_
    obtain ⟨v, h1, h2, h3⟩ := idxAddrD_sound hs hp (hev hr x (by simp [ho, Op.operands])) (hev hr ix (by simp [ho, Op.operands]))
    exact fin_value hH hI h3 (by simp [execOp, ho, h1]) h2
  case _ t x j ho =>
    refine stepAt_of hd fun a w S r hH hI hr => ?_
    obtain ⟨v, h1, h2, h3⟩ := fieldAddrD_sound hs (hev hr x (by simp [ho, Op.operands]))
    exact fin_value hH hI h3 (by simp [execOp, ho, h1]) h2
  case _ t x j ho =>
    refine stepAt_of hd fun a w S r hH hI hr => ?_
    obtain ⟨v, h1, h2, h3⟩ := fieldD_sound hs hp (hev hr x (by simp [ho, Op.operands]))
    exact fin_value hH hI h3 (by simp [execOp, ho, h1]) h2
  case _ t x ho =>
    refine stepAt_of hd fun a w S r hH hI hr => ?_
    have hx := hev hr x (by simp [ho, Op.operands])
    unfold loadD at hs
    try simp only [fz_eq] at hs
    split at hs <;> first | (cases hs; done) | skip
    rename_i z hz
    split at hs <;> first | (cases hs; done) | skip
    · rename_i cs off hc
      cases hs
      rw [hc] at hx
      generalize hv : a.eval x = vx at hx
      cases hx with
      | rf _ _ _ b o' c hpl hcell hrel =>
        obtain ⟨v, g1, g2⟩ := run_load_part (P := P) (r := r) hz hp (fun j hj => (hcell j hj).2) (fun j hj => (hrel j hj).plain (by
          rw [List.all_eq_true] at hpl
          refine hpl _ ?_
          simp only [List.getD_eq_getElem?_getD, List.getElem?_eq_getElem hj, Option.getD_some]
          exact List.getElem_mem hj) r)
        exact fin_value hH hI rfl (v := v) (by simp [execOp, ho, hv, g1]) g2
    · rename_i k off hc
      split at hs <;> first | (cases hs; done) | skip
      rename_i cs hcs
      cases hs
      rw [hc] at hx
      generalize hv : a.eval x = vx at hx
      cases hx with
      | pv _ _ _ b hb =>
        have hk : O k = some (.var cs) := (hO k (by simp)).trans hcs
        obtain ⟨b', cur, e', g1, g2, g3, g4, g5⟩ := hI.obj k _ hk
        rw [hb] at g1
        cases g1
        obtain ⟨v, q1, q2⟩ := run_load_part (P := P) (o := 0) (b := b) (off := off) (c := fun j => cur.getD j undef) hz hp (fun j hj => by
          rw [Nat.zero_add, cell_of_row w b j cur e' (0, 0) g2]
          have : j < cur.size := by omega
          simp [Array.getD_eq_getD_getElem?, this]) (fun j hj => (g4 j hj).1)
        rw [Nat.zero_add] at q1
        exact fin_value hH hI rfl (by simp [execOp, ho, hv, q1]) q2
  case _ t x y ho =>
    refine stepAt_of hd fun a w S r hH hI hr => ?_
    have hx := hev hr x (by simp [ho, Op.operands])
    have hy := hev hr y (by simp [ho, Op.operands])
    unfold storeD at hs
    simp only [fz_eq, fzA_eq] at hs
    split at hs <;> first | (cases hs; done) | skip
    rename_i z k off hz hc
    split at hs <;> first | (cases hs; done) | skip
    rename_i cs hcs
    cases hs
    rw [hc] at hx
    have hk : O k = some (.var cs) := (hO k (by simp)).trans hcs
    obtain ⟨h1, h2, h3, h4⟩ := hp
    obtain ⟨w', g1, g2, g3, g4⟩ := store_ok (P := P) hH hI hx hy hz hk h1 h2 h3 h4
    exact ⟨undef, w', S, r, .inr ⟨by simp [execOp, ho, g1], rfl⟩, .any .., g2, g3, fun _ _ h => h, g4, RhoLe.refl r⟩
  case _ t ho =>
    split at hs <;> first | (cases hs; done) | skip
    rename_i d hz
    obtain ⟨i, zv, h1, h2, rfl⟩ := zeroD_spec hz
    unfold boxD at hs
    simp only [fz_eq, fzA_eq] at hs
    split at hs <;> first | (cases hs; done) | skip
    rename_i k hdst
    split at hs <;> first | (cases hs; done) | skip
    rename_i hk
    cases hs
    refine stepAt_of hd fun a w S r hH hI hr => ?_
    have hk' : O k = none := (hO k (by simp)).trans hk
    obtain ⟨S', r', g1, g2, g3, g4, g5, g6⟩ := box_ok t hH hI (ofVal_rel S w r zv) hp.1 hp.2 hk'
    refine ⟨_, _, S', r', .inl ?_, g1, g2, g3, g4, g5, g6⟩
    simp [execOp, ho, Instr.alloc, zeroValue, typeInfo, h1, h2, newVar, newRow]
  case _ t x ho =>
    unfold boxD at hs
    simp only [fz_eq, fzA_eq] at hs
    split at hs <;> first | (cases hs; done) | skip
    rename_i k hdst
    split at hs <;> first | (cases hs; done) | skip
    rename_i hk
    cases hs
    refine stepAt_of hd fun a w S r hH hI hr => ?_
    have hx := hev hr x (by simp [ho, Op.operands])
    have hk' : O k = none := (hO k (by simp)).trans hk
    obtain ⟨S', r', g1, g2, g3, g4, g5, g6⟩ := box_ok t hH hI hx hp.1 hp.2 hk'
    refine ⟨_, _, S', r', .inl ?_, g1, g2, g3, g4, g5, g6⟩
    simp [execOp, ho, Instr.box, newVar, newRow]
  case _ t parts ho =>
    refine stepAt_of hd fun a w S r hH hI hr => ?_
    have hpt := parts_of (S := S) (w := w) (r := r) (e := e) (ρ := a.eval) parts.toList (fun i x hx => hev hr x (by
      simp only [ho, Op.operands, Array.toList_map, List.mem_map]
      exact ⟨(i, x), hx, rfl⟩))
    obtain ⟨v, h1, h2, h3⟩ := buildD_sound (P := P) hs hpt
    refine fin_value hH hI h3 ?_ h2
    have e' : ((parts.toList.map fun (i, x) => (i, a.eval x)).toArray : Array (Nat × Value)) = parts.map fun (i, x) => (i, a.eval x) := by
      apply Array.ext'
      simp
    rw [e'] at h1
    simp [execOp, ho, h1]
  case _ t len parts ho =>
    unfold buildSliceD at hs
    simp only [fzA_eq] at hs
    split at hs <;> first | (cases hs; done) | skip
    rename_i k el z g by' hdst ht
    split at hs <;> first | (cases hs; done) | skip
    rename_i zd cs hk hz hfill
    cases hs
    refine stepAt_of hd fun a w S r hH hI hr => ?_
    have hpt := parts_of (S := S) (w := w) (r := r) (e := fun x => (e x).shutA) (ρ := a.eval) parts.toList (fun i x hx => (hev hr x (by
      simp only [ho, Op.operands, Array.toList_map, List.mem_map]
      exact ⟨(i, x), hx, rfl⟩)).shutA)
    have hk' : O k = none := (hO k (by simp)).trans hk
    obtain ⟨v, w', g0, S', r', g1, g2, g3, g4, g5, g6⟩ := buildSlice_ok (P := P) hH hI ht hz hfill hpt hp.1 hp.2.1 hp.2.2 hk'
    refine ⟨v, w', S', r', .inl ?_, g1, g2, g3, g4, g5, g6⟩
    have e' : ((parts.toList.map fun (i, x) => (i, a.eval x)).toArray : Array (Nat × Value)) = parts.map fun (i, x) => (i, a.eval x) := by
      apply Array.ext'
      simp
    rw [e'] at g0
    simp [execOp, ho, g0]
  case _ x j ho =>
    refine stepAt_of hd fun a w S r hH hI hr => ?_
    have hx := hev hr x (by simp [ho, Op.operands])
    unfold extractD at hs
    try simp only [fz_eq] at hs
    split at hs <;> first | (cases hs; done) | skip
    rename_i vs hc
    split at hs <;> first | (cases hs; done) | skip
    rename_i d hj
    cases hs
    rw [hc] at hx
    generalize hv : a.eval x = vx at hx
    cases hx with
    | tu _ _ us hn h =>
      have hlt : j < vs.length := (List.getElem?_eq_some_iff.1 hj).1
      obtain ⟨u, hu, hru⟩ := rel_getD hn h hlt
      have : vs.getD j .any = d := by simp [List.getD_eq_getElem?_getD, hj]
      rw [this] at hru
      exact fin_value hH hI rfl (by simp [execOp, ho, hv, Instr.extract, hu]) hru
  case _ x ho =>
    refine stepAt_of hd fun a w S r hH hI hr => ?_
    have hx := hev hr x (by simp [ho, Op.operands])
    unfold nilCheckD at hs
    split at hs <;> first | (cases hs; done) | skip
    · rename_i k o' hc
      cases hs
      rw [hc] at hx
      generalize hv : a.eval x = vx at hx
      cases hx with
      | pv _ _ _ b hb => exact fin_value hH hI rfl (by simp [execOp, ho, hv]) (.pv _ _ _ b hb)
    · rename_i k o' hc
      cases hs
      rw [hc] at hx
      generalize hv : a.eval x = vx at hx
      cases hx with
      | rf _ _ _ b o2 c h1 h2 h3 => exact fin_value hH hI rfl (by simp [execOp, ho, hv]) (.rf _ _ _ b o2 c h1 h2 h3)
  case _ t x lo hi ho =>
    refine stepAt_of hd fun a w S r hH hI hr => ?_
    have hx := hev hr x (by simp [ho, Op.operands])
    have hlo : ∀ y, lo = some y → Rel S w r (e y) (a.eval y) := fun y hy => hev hr y (by simp [ho, Op.operands, hy])
    have hhi : ∀ y, hi = some y → Rel S w r (e y) (a.eval y) := fun y hy => hev hr y (by simp [ho, Op.operands, hy])
    unfold sliceD at hs
    split at hs <;> first | (cases hs; done) | skip
    · rename_i l hc ht
      split at hs <;> first | (cases hs; done) | skip
      rename_i n' m hb
      cases hs
      obtain ⟨h0, h1, h2⟩ := hp
      rw [hc] at hx
      generalize hv : a.eval x = vx at hx
      cases hx
      have hbs := boundsD_sound (P := P) (isSlice := false) (cap := l.length) hb hlo hhi h0 h1 h2 (Nat.le_refl _)
      have hsz : (ByteArray.mk l.toArray).size = l.length := by simp [ByteArray.size]
      refine fin_value hH hI rfl (v := .string ((ByteArray.mk l.toArray).extract n'.toNat m.toNat)) ?_ ?_
      · have hna : ∀ k e', TypeDesc.string ≠ .array k e' := fun _ _ => by simp
        simp [execOp, ho, hv, Instr.sliceAt, Instr.slice, run_underlying (tyOf_str ht), hsz, hbs]
      · have : (ByteArray.mk l.toArray).extract n'.toNat m.toNat = ⟨((l.take m.toNat).drop n'.toNat).toArray⟩ := by
          apply ByteArray.ext
          simp [List.drop_take]
        rw [this]
        exact .s ..
    · rename_i z len f el z' g by' hc ht
      split at hs <;> first | (cases hs; done) | skip
      rename_i n' m hb
      cases hs
      obtain ⟨h0, h1, h2, rfl⟩ := hp
      rw [hc] at hx
      obtain ⟨va, cap, c, hv, hcap, _⟩ := sl_cells hx
      rw [hv] at hx
      have hbs := boundsD_sound (P := P) (isSlice := true) (cap := cap) hb hlo hhi h0 h1 h2 hcap
      obtain ⟨hu, hz, _⟩ := tyOf_slice ht
      have hsub := sub_slice hx (lo := n'.toNat) (hi := m.toNat) (by omega) (by omega)
      refine fin_value hH hI rfl ?_ hsub
      simp [execOp, ho, hv, Instr.sliceAt, Instr.slice, run_underlying hu, hbs, run_sizeOf (w := w) hz]
    · rename_i k z len f el z' g by' hc ht
      split at hs <;> first | (cases hs; done) | skip
      rename_i n' m hb
      cases hs
      obtain ⟨h0, h1, h2, rfl⟩ := hp
      rw [hc] at hx
      have hx := hx.shut
      obtain ⟨va, cap, c, hv, hcap, _⟩ := sl_cells hx
      rw [hv] at hx
      have hbs := boundsD_sound (P := P) (isSlice := true) (cap := cap) hb hlo hhi h0 h1 h2 hcap
      obtain ⟨hu, hz, _⟩ := tyOf_slice ht
      have hsub := sub_slice hx (lo := n'.toNat) (hi := m.toNat) (by omega) (by omega)
      refine fin_value hH hI rfl ?_ hsub
      simp [execOp, ho, hv, Instr.sliceAt, Instr.slice, run_underlying hu, hbs, run_sizeOf (w := w) hz]
  case _ x t ho =>
    refine stepAt_of hd fun a w S r hH hI hr => ?_
    obtain ⟨v, h1, h2, h3⟩ := lenD_sound (P := P) (ty := o.type) hs (hev hr x (by simp [ho, Op.operands, Call.operands]))
    exact fin_value hH hI h3 (by simp [execOp, ho, resolve, invoke, builtin, h1]) h2
  case _ x y t t2 ho =>
    have hmx : x ∈ o.op.operands.toList := by simp [ho, Op.operands, Call.operands]
    have hmy : y ∈ o.op.operands.toList := by simp [ho, Op.operands, Call.operands]
    unfold appendD at hs
    split at hs <;> first | (cases hs; done) | skip
    rename_i el z g by' ht
    obtain ⟨hu, hz, it, hi1, hi2, hi3⟩ := tyOf_slice ht
    split at hs <;> first | (cases hs; done) | skip
    rename_i e2 m gf hb hel
    simp only [Bool.and_eq_true] at hb
    obtain ⟨hb, hzo⟩ := hb
    have htt := Nat.eq_of_beq_eq_true hb
    subst htt
    -- the appended elements, as a slice that is read only
    have hy : ∀ {S : Cells} {w : World} {r : Rho} {a : Act}, (∀ x, Rel S w r (evF F x) (a.eval x)) → Rel S w r (.sl e2 m gf) (a.eval y) := fun {S w r a} hr => by
      have h := hev hr y hmy
      unfold elemsOf at hel
      split at hel
      · rename_i hc
        cases hel
        rw [hc] at h
        exact h
      · rename_i hc
        cases hel
        rw [hc] at h
        exact h.shut
      · cases hel
    obtain ⟨zv, hzv, hzs⟩ : ∃ zv, it.zero = some zv ∧ zv.cells.size = z := by
      unfold zeroOk at hzo
      split at hzo
      · rename_i zd hzd
        simp only [Bool.and_eq_true] at hzo
        obtain ⟨ii, zv, hii, hzv, rfl⟩ := zeroD_spec hzd
        rw [hi1] at hii
        cases hii
        refine ⟨zv, hzv, ?_⟩
        rw [(rel_cells (ofVal_rel (fun _ _ => False) default noRho zv) hzo.2).1]
        exact Nat.eq_of_beq_eq_true hzo.1
      · cases hzo
    split at hs <;> first | (cases hs; done) | skip
    · rename_i k en nn f hx0
      split at hs <;> first | (cases hs; done) | skip
      rename_i el' e' L hk
      cases hs
      obtain ⟨h1, h2, h3, h4, h5, h6, h7, h8⟩ := hp
      subst h1 h2 h4 h5
      have hk' : O k = some (.row el' e' nn) := (hO k (by simp)).trans hk
      subst h3
      refine stepAt_of hd fun a w S r hH hI hr => ?_
      have hx := hev hr x hmx
      rw [hx0] at hx
      have hy' := hy hr
      have htip : ∀ tv, r k = some (.row tv nn) → a.eval x = tv := fun tv htv => by
        cases hx with
        | gs _ _ _ _ _ _ tv' L' h hk0 hL ht =>
          rw [htv] at hk0
          cases hk0
          exact ht rfl
      rcases Nat.eq_zero_or_pos m with rfl | hm0
      · obtain ⟨v, w', g0, S', r', g1, g2, g3, g4, g5, g6⟩ := append_zero (P := P) (ty := o.type) hH hI hu hi1 hx.shut hy' (.inr ⟨hk', htip⟩)
        exact ⟨v, w', S', r', .inl (by simp [execOp, ho, resolve, invoke, builtin, g0]), g1, g2, g3, g4, g5, g6⟩
      · obtain ⟨v, w', g0, S', r', g1, g2, g3, g4, g5, g6⟩ := append_ok (P := P) (ty := o.type) hH hI hu hi1 hi2 hzv hzs h6 hx.shut hy' hm0 h7 (by rw [hi3]; exact h8) (.inr ⟨hk', htip⟩)
        exact ⟨v, w', S', r', .inl (by simp [execOp, ho, resolve, invoke, builtin, g0]), g1, g2, g3, g4, g5, g6⟩
    · rename_i hx0
      split at hs <;> first | (cases hs; done) | skip
      rename_i k hdst
      split at hs <;> first | (cases hs; done) | skip
      rename_i hk
      cases hs
      obtain ⟨h1, h6, h7, h8⟩ := hp
      subst h1
      have hk' : O k = none := (hO k (by simp)).trans hk
      refine stepAt_of hd fun a w S r hH hI hr => ?_
      have hx := hev hr x hmx
      rw [hx0] at hx
      have hy' := hy hr
      have hv : a.eval x = .slice none 0 0 := by
        generalize a.eval x = vx at hx
        cases hx
        rfl
      have hx' : Rel S w r (.sl e2 0 gf) (a.eval x) := by
        rw [hv]
        exact .sl _ _ _ _ none 0 (fun _ _ => undef) (Nat.le_refl _) (by unfold maxLen; omega) (fun i hi => by omega) (fun i j hi => by omega) (fun i j hi => by omega)
      have hcat : ∀ {S : Cells} {w : World} {r : Rho} {v : Value}, Rel S w r (.gs k e2 (0 + m) (catF 0 gf m gf)) v → Rel S w r (.gs k e2 m gf) v := fun {S w r v} h => by
        have e0 : 0 + m = m := Nat.zero_add m
        rw [e0] at h
        cases h with
        | gs _ _ _ _ _ _ tv L h hk0 hL ht => exact .gs _ _ _ _ _ _ tv L (h.sl_congr (fun i hi => by simp [catF, hi])) hk0 hL ht
      have e0 : 0 + m = m := Nat.zero_add m
      rcases Nat.eq_zero_or_pos m with rfl | hm0
      · obtain ⟨v, w', g0, S', r', g1, g2, g3, g4, g5, g6⟩ := append_zero (P := P) (ty := o.type) hH hI hu hi1 hx' hy' (.inl ⟨hk', rfl, hv⟩)
        exact ⟨v, w', S', r', .inl (by simp [execOp, ho, resolve, invoke, builtin, g0]), hcat g1, g2, g3, g4, g5, g6⟩
      · obtain ⟨v, w', g0, S', r', g1, g2, g3, g4, g5, g6⟩ := append_ok (P := P) (ty := o.type) hH hI hu hi1 hi2 hzv hzs h6 hx' hy' hm0 (by rw [e0]; exact h7) (by rw [hi3, e0]; exact h8) (.inl ⟨hk', rfl, hv⟩)
        rw [e0] at g3
        exact ⟨v, w', S', r', .inl (by simp [execOp, ho, resolve, invoke, builtin, g0]), hcat g1, g2, g3, g4, g5, g6⟩
  case _ => cases hs

end
end Go.Proofs.Ytejpliaomhpakaa.Flow
