/-
  FLOW, PART D: MORE OPERATIONS: lengths, indexes, parts, addresses, loads.
-/
import Derived.Test.YteidmimpkipcfaaDoorCFlowC
namespace Go.Proofs.YteidmimpkipcfaaDoor.Flow

section
variable {P : Program} {S : Cells} {w : World} {r : Rho}

theorem run_isAgg {t : TypeId} {z : Nat × Bool} (h : szOf P t = some z) : (isAgg t).run P w = .ok z.2 w := by
  obtain ⟨i, d, h1, h2, h3, h4⟩ := szOf_spec h
  unfold isAgg
  cases d <;> simp_all [run_underlying h2]

theorem run_sizeOf {t : TypeId} {z : Nat × Bool} (h : szOf P t = some z) : (sizeOf t).run P w = .ok z.1 w := by
  obtain ⟨i, d, h1, h2, h3, h4⟩ := szOf_spec h
  simp [sizeOf, typeInfo, h1, h3]

theorem rel_getD {cs : List D} {vs : Array Value} {j : Nat} (hn : vs.size = cs.length) (h : ∀ j, j < cs.length → Rel S w r (cs.getD j .any) (vs.getD j undef)) (hj : j < cs.length) :
    ∃ v, vs[j]? = some v ∧ Rel S w r (cs.getD j .any) v := by
  have hj' : j < vs.size := by omega
  refine ⟨vs[j], by simp [hj'], ?_⟩
  have := h j hj
  simpa [Array.getD_eq_getD_getElem?, hj'] using this

/-- Some of the cells, as a value. -/
theorem rel_part {cs : List D} {z : Nat × Bool} {off : Nat} {c : Nat → Value} (hp : partP z cs off) (h : ∀ j, j < cs.length → Rel S w r (cs.getD j .any) (c j)) :
    (z.2 = true → Rel S w r (partD z cs off) (.agg ((List.range z.1).map fun j => c (off + j)).toArray)) ∧ (z.2 = false → Rel S w r (partD z cs off) (c off)) := by
  obtain ⟨n, g⟩ := z
  constructor
  · intro hg
    simp only at hg
    subst hg
    simp only [partP, partD] at hp ⊢
    refine .ag _ _ _ (by simp; omega) (fun j hj => ?_)
    simp only [List.length_take, List.length_drop] at hj
    have h1 := h (off + j) (by omega)
    have h2 : ((cs.drop off).take n).getD j .any = cs.getD (off + j) .any := by
      simp only [List.getD_eq_getElem?_getD]
      rw [List.getElem?_take_of_lt (by omega), List.getElem?_drop]
    have h3 : (((List.range n).map fun j => c (off + j)).toArray).getD j undef = c (off + j) := by
      simp [Array.getD_eq_getD_getElem?, show j < n by omega]
    rw [h2, h3]
    exact h1
  · intro hg
    simp only at hg
    subst hg
    simp only [partP, partD] at hp ⊢
    exact h off (by omega)

/-- A load from cells whose data are known. -/
theorem run_load_part {t : TypeId} {z : Nat × Bool} {cs : List D} {off b o : Nat} {c : Nat → Value} (hz : szOf P t = some z) (hp : partP z cs off)
    (hcell : ∀ j, j < cs.length → w.cell? ⟨b, o + j, none⟩ = some (c j)) (h : ∀ j, j < cs.length → Rel S w r (cs.getD j .any) (c j)) :
    ∃ v, (Instr.loadAt t (.pointer (some ⟨b, o + off, none⟩))).run P w = .ok v w ∧ Rel S w r (partD z cs off) v := by
  obtain ⟨h1, h2⟩ := rel_part hp h
  have ha := run_isAgg (w := w) hz
  have hs := run_sizeOf (w := w) hz
  simp only [Instr.loadAt, Instr.sureAddr, loadVar, Sem.run_bind, Sem.run_pure, Result.andThen_ok, ha]
  cases hg : z.2 with
  | true =>
    simp only [partP, hg] at hp
    refine ⟨_, ?_, h1 hg⟩
    have hl := run_loadCells (P := P) w ⟨b, o + off, none⟩ z.1 (fun j => c (off + j)) (fun j hj => by
      rw [Addr.add_lit, Nat.add_assoc]
      exact hcell (off + j) (by omega))
    simp [hs, hl]
  | false =>
    simp only [partP, hg] at hp
    refine ⟨_, ?_, h2 hg⟩
    simp [run_load, hcell off (by omega)]

theorem tabD_len (k : IntKind) (f : Nat → Int) : ∀ (m off : Nat), (tabD k f off m).length = m
  | 0, _ => rfl
  | m + 1, off => by simp [tabD, tabD_len k f m (off + 1)]
theorem tabD_get (k : IntKind) (f : Nat → Int) : ∀ (m off j : Nat), j < m → (tabD k f off m).getD j .any = .i k (f (off + j))
  | m + 1, off, 0, _ => rfl
  | m + 1, off, j + 1, h => by
    have := tabD_get k f m (off + 1) j (by omega)
    simp only [tabD, List.getD_cons_succ, this]
    congr 2
    omega

/-- A load out of a table. -/
theorem run_load_tab {t : TypeId} {z : Nat × Bool} {k : IntKind} {len off b : Nat} {f : Nat → Int} (hz : szOf P t = some z) (h : ∀ j, j < len → w.cell? ⟨b, j, none⟩ = some (.int k (f j))) :
    (z.2 = true → off + z.1 ≤ len → ∃ v, (Instr.loadAt t (.pointer (some ⟨b, off, none⟩))).run P w = .ok v w ∧ Rel S w r (.ag (tabD k f off z.1)) v) ∧
    (z.2 = false → off < len → ∃ v, (Instr.loadAt t (.pointer (some ⟨b, off, none⟩))).run P w = .ok v w ∧ Rel S w r (.i k (f off)) v) := by
  have ha := run_isAgg (w := w) hz
  have hs := run_sizeOf (w := w) hz
  simp only [Instr.loadAt, Instr.sureAddr, loadVar, Sem.run_bind, Sem.run_pure, Result.andThen_ok, ha]
  constructor
  · intro hg ho
    have hl := run_loadCells (P := P) w ⟨b, off, none⟩ z.1 (fun j => .int k (f (off + j))) (fun j hj => by
      rw [Addr.add_lit]
      exact h (off + j) (by omega))
    refine ⟨.agg ((List.range z.1).map fun j => Value.int k (f (off + j))).toArray, by simp [hg, hs, hl], ?_⟩
    refine .ag _ _ _ (by simp [tabD_len]) (fun j hj => ?_)
    rw [tabD_len] at hj
    rw [tabD_get k f _ _ j hj]
    have e : (((List.range z.1).map fun j => Value.int k (f (off + j))).toArray).getD j undef = .int k (f (off + j)) := by
      simp [Array.getD_eq_getD_getElem?, hj]
    rw [e]
    exact .i ..
  · intro hg ho
    exact ⟨.int k (f off), by simp [hg, run_load, h off ho], .i ..⟩

theorem run_part {t : TypeId} {z : Nat × Bool} {cs : List D} {off : Nat} {vs : Array Value} (hz : szOf P t = some z) (hp : partP z cs off) (hn : vs.size = cs.length)
    (h : ∀ j, j < cs.length → Rel S w r (cs.getD j .any) (vs.getD j undef)) : ∃ v, (part t vs off).run P w = .ok v w ∧ Rel S w r (partD z cs off) v := by
  obtain ⟨h1, h2⟩ := rel_part (c := fun j => vs.getD j undef) hp h
  have ha := run_isAgg (w := w) hz
  have hs := run_sizeOf (w := w) hz
  simp only [part, Sem.run_bind, Result.andThen_ok, ha]
  cases hg : z.2 with
  | true =>
    simp only [partP, hg] at hp
    have e : vs.extract off (off + z.1) = ((List.range z.1).map fun j => vs.getD (off + j) undef).toArray := by
      apply Array.ext
      · simp; omega
      · intro j hj1 hj2
        simp only [Array.size_extract] at hj1
        simp [Array.getD_eq_getD_getElem?, show off + j < vs.size by omega]
    refine ⟨_, ?_, h1 hg⟩
    simp [hs, e]
  | false =>
    simp only [partP, hg] at hp
    have hlt : off < vs.size := by omega
    refine ⟨_, ?_, h2 hg⟩
    simp [hlt, Array.getD_eq_getD_getElem?]

theorem lenD_sound {t ty : TypeId} {dx : D} {vx : Value} {s : Stp} (hs : lenD (tb P) t dx = some s) (hx : Rel S w r dx vx) :
    ∃ v, (Builtin.len_ #[t] ty #[vx]).run P w = .ok v w ∧ Rel S w r s.d v ∧ s.wr = [] := by
  unfold lenD at hs
  split at hs <;> first | (cases hs; done) | skip
  · rename_i l ht
    cases hx
    cases hs
    refine ⟨_, run_len_string w t ty _ (tyOf_str ht), ?_, rfl⟩
    exact rel_int (by simp [ByteArray.size])
  · rename_i ht
    cases hx
    cases hs
    refine ⟨.int .i64 0, by simp [Builtin.len_, run_underlying (tyOf_slice ht).1, goInt], ?_, rfl⟩
    exact rel_int rfl
  · rename_i ht
    cases hx
    cases hs
    exact ⟨.int .i64 _, by simp [Builtin.len_, run_underlying (tyOf_slice ht).1, goInt], rel_int rfl, rfl⟩
  · rename_i ht
    cases hx with
    | gs _ _ _ _ _ _ _ _ hx =>
      cases hx
      cases hs
      exact ⟨.int .i64 _, by simp [Builtin.len_, run_underlying (tyOf_slice ht).1, goInt], rel_int rfl, rfl⟩
  · rename_i ht
    cases hx
    cases hs
    exact ⟨.int .i64 _, by simp [Builtin.len_, run_underlying (tyOf_slice ht).1, goInt], rel_int rfl, rfl⟩
  · rename_i ht
    cases hx
    cases hs
    exact ⟨.int .i64 0, by simp [Builtin.len_, run_underlying (tyOf_slice ht).1, goInt], rel_int rfl, rfl⟩
  · rename_i ht
    cases hx
    cases hs
    exact ⟨.int .i64 0, by simp [Builtin.len_, run_underlying (tyOf_slice ht).1, goInt], rel_int rfl, rfl⟩

theorem idxD_sound {t : TypeId} {dx di : D} {vx vi : Value} {s : Stp} (hs : idxD (tb P) t dx di = some s) (hp : s.p) (hx : Rel S w r dx vx) (hi : Rel S w r di vi) :
    ∃ v, (Instr.index t vx vi).run P w = .ok v w ∧ Rel S w r s.d v ∧ s.wr = [] := by
  unfold idxD at hs
  try simp only [fz_eq] at hs
  split at hs <;> first | (cases hs; done) | skip
  · rename_i l k n ht
    cases hx
    cases hi
    cases hs
    obtain ⟨h1, h2⟩ := hp
    have hlt : n.toNat < l.length := by omega
    refine ⟨.int .u8 ((l.getD n.toNat 0).toNat : Int), ?_, .i .., rfl⟩
    have hg : (ByteArray.mk l.toArray)[n.toNat]? = some (l.getD n.toNat 0) := by
      have hsz : n.toNat < (ByteArray.mk l.toArray).size := by simpa [ByteArray.size] using hlt
      rw [ByteArray.getElem?_lt' _ _ hsz]
      simp only [Option.some.injEq]
      show (l.toArray)[n.toNat]'(by simpa using hlt) = _
      simp [List.getD_eq_getElem?_getD, hlt]
    simp [Instr.index, asIntOf, run_underlying (tyOf_str ht), h1, hg]
  · rename_i cs k n m e z g ht
    cases hi
    cases hs
    obtain ⟨h1, h2, h3⟩ := hp
    obtain ⟨hu, hz⟩ := tyOf_array ht
    cases hx with
    | ag _ _ vs hn h =>
      obtain ⟨v, hv, hr⟩ := run_part (P := P) (t := e) hz h3 hn h
      refine ⟨v, ?_, hr, rfl⟩
      simp [Instr.index, asIntOf, run_underlying hu, h1, h2, run_sizeOf (w := w) hz, hv]

theorem rf_add (S : Cells) (w : World) (r : Rho) {cs : List D} {off : Nat} {v : Value} (h : Rel S w r (.rf cs off) v) (m : Nat) :
    ∃ a, v = .pointer (some a) ∧ Rel S w r (.rf cs (off + m)) (.pointer (some (a.add m))) := by
  cases h with
  | rf _ _ _ b o c hp hcell hr =>
    refine ⟨_, rfl, ?_⟩
    rw [Addr.add_lit, Nat.add_assoc]
    exact .rf _ cs (off + m) b o c hp hcell hr

theorem pv_add (S : Cells) (w : World) (r : Rho) {k off : Nat} {v : Value} (h : Rel S w r (.pv k off) v) (m : Nat) :
    ∃ a, v = .pointer (some a) ∧ Rel S w r (.pv k (off + m)) (.pointer (some (a.add m))) := by
  cases h with
  | pv _ _ _ b h =>
    refine ⟨_, rfl, ?_⟩
    rw [Addr.add_lit]
    exact .pv _ k (off + m) b h

theorem ap_add (S : Cells) (w : World) (r : Rho) {k e len i off : Nat} {v : Value} (h : Rel S w r (.ap k e len i off) v) (m : Nat) :
    ∃ a, v = .pointer (some a) ∧ Rel S w r (.ap k e len i (off + m)) (.pointer (some (a.add m))) := by
  cases h with
  | ap _ _ _ _ _ _ a tv L hk hL ht ha =>
    obtain ⟨g, o, rfl⟩ := ha
    refine ⟨_, rfl, ?_⟩
    rw [Addr.add_lit]
    refine .ap _ k e len i (off + m) _ tv L hk hL (fun h => ?_) ⟨g, _, rfl⟩
    obtain ⟨g', cap, h1, h2⟩ := ht h
    simp only [Addr.mk.injEq, and_true] at h2
    exact ⟨g', cap, h1, by rw [h2.1, h2.2, Nat.add_assoc]⟩

theorem rn_add (S : Cells) (w : World) (r : Rho) {k : IntKind} {len off : Nat} {f : Nat → Int} {v : Value} (h : Rel S w r (.rn k len f off) v) (m : Nat) :
    ∃ a, v = .pointer (some a) ∧ Rel S w r (.rn k len f (off + m)) (.pointer (some (a.add m))) := by
  cases h with
  | rn _ _ _ _ _ b h =>
    refine ⟨_, rfl, ?_⟩
    rw [Addr.add_lit]
    exact .rn _ k len f (off + m) b h

theorem sl_at {esz len : Nat} {f : Nat → List D} {v : Value} (h : Rel S w r (.sl esz len f) v) {i : Nat} (hi : i < len) :
    ∃ a cap, v = .slice a len cap ∧ (0 < esz → ∃ ad, a = some ad ∧ Rel S w r (.rf (f i) 0) (.pointer (some (ad.add (i * esz))))) := by
  cases h with
  | sl _ _ _ _ a cap c hc hm hl hcell hr =>
    refine ⟨a, cap, rfl, fun hz => ?_⟩
    obtain ⟨b, o, ha, _, _⟩ := hcell i 0 hi hz
    obtain ⟨hl1, hl2⟩ := hl i hi
    refine ⟨_, ha, ?_⟩
    rw [Addr.add_lit]
    have := Rel.rf (S := S) (w := w) r (f i) 0 b (o + i * esz) (fun j => c i j) hl2 (fun j hj => ?_) (fun j hj => hr i j hi (by omega))
    · simpa using this
    · obtain ⟨b', o', ha', hs', hc'⟩ := hcell i j hi (by omega)
      rw [ha] at ha'
      cases ha'
      exact ⟨hs', hc'⟩

theorem idxAddrD_sound {t : TypeId} {dx di : D} {vx vi : Value} {s : Stp} (hs : idxAddrD (tb P) t dx di = some s) (hp : s.p) (hx : Rel S w r dx vx) (hi : Rel S w r di vi) :
    ∃ v, (Instr.indexAt t vx vi).run P w = .ok v w ∧ Rel S w r s.d v ∧ s.wr = [] := by
  unfold idxAddrD at hs
  split at hs <;> first | (cases hs; done) | skip
  · rename_i e z g b e' len f k n ht
    cases hi
    cases hs
    obtain ⟨h1, h2, rfl, h4⟩ := hp
    obtain ⟨hu, hz, _⟩ := tyOf_slice ht
    obtain ⟨a, cap, rfl, hr⟩ := sl_at hx (i := n.toNat) (by omega)
    obtain ⟨ad, rfl, hr2⟩ := hr h4
    clear hr
    exact ⟨.pointer (some (ad.add (n.toNat * e'))), by simp [Instr.indexAt, asIntOf, run_underlying hu, h1, h2, run_sizeOf (w := w) hz], hr2, rfl⟩
  · rename_i e z g b k' e' len f k n ht
    cases hi
    cases hs
    obtain ⟨h1, h2, rfl, h4⟩ := hp
    obtain ⟨hu, hz, _⟩ := tyOf_slice ht
    obtain ⟨a, cap, rfl, hr⟩ := sl_at hx.shut (i := n.toNat) (by omega)
    obtain ⟨ad, rfl, hr2⟩ := hr h4
    clear hr
    exact ⟨.pointer (some (ad.add (n.toNat * e'))), by simp [Instr.indexAt, asIntOf, run_underlying hu, h1, h2, run_sizeOf (w := w) hz], hr2, rfl⟩
  · rename_i e z g b k' e' len k n ht
    cases hi
    cases hs
    obtain ⟨h1, h2, rfl⟩ := hp
    obtain ⟨hu, hz, _⟩ := tyOf_slice ht
    cases hx with
    | ah _ _ _ _ cap a tv L hk hL hta ha =>
      obtain ⟨g, rfl⟩ := ha (by omega)
      refine ⟨.pointer (some ((⟨g, 0, none⟩ : Addr).add (n.toNat * e'))), by simp [Instr.indexAt, asIntOf, run_underlying hu, h1, h2, run_sizeOf (w := w) hz], ?_, rfl⟩
      rw [Addr.add_lit, Nat.zero_add]
      refine .ap _ k' e' len n.toNat 0 _ tv L hk hL (fun h => ?_) ⟨g, _, rfl⟩
      rcases hta h with h | ⟨_, a2, h⟩
      · exact ⟨g, cap, h.symm, by rw [Nat.add_zero]⟩
      · cases h; omega
  · rename_i m e z g k' e' len i off k n ht
    cases hi
    cases hs
    obtain ⟨h1, h2⟩ := hp
    obtain ⟨hu, hz⟩ := tyOf_array ht
    obtain ⟨a, rfl, hr⟩ := ap_add S w r hx (n.toNat * z)
    exact ⟨_, by simp [Instr.indexAt, asIntOf, Instr.sureAddr, run_underlying hu, h1, h2, run_sizeOf (w := w) hz], hr, rfl⟩
  · rename_i m e z g k' len f off k n ht
    cases hi
    cases hs
    obtain ⟨h1, h2⟩ := hp
    obtain ⟨hu, hz⟩ := tyOf_array ht
    obtain ⟨a, rfl, hr⟩ := rn_add S w r hx (n.toNat * z)
    exact ⟨_, by simp [Instr.indexAt, asIntOf, Instr.sureAddr, run_underlying hu, h1, h2, run_sizeOf (w := w) hz], hr, rfl⟩
  · rename_i m e z g cs off k n ht
    cases hi
    cases hs
    obtain ⟨h1, h2⟩ := hp
    obtain ⟨hu, hz⟩ := tyOf_array ht
    obtain ⟨a, rfl, hr⟩ := rf_add S w r hx (n.toNat * z)
    exact ⟨_, by simp [Instr.indexAt, asIntOf, Instr.sureAddr, run_underlying hu, h1, h2, run_sizeOf (w := w) hz], hr, rfl⟩
  · rename_i m e z g k' off k n ht
    cases hi
    cases hs
    obtain ⟨h1, h2⟩ := hp
    obtain ⟨hu, hz⟩ := tyOf_array ht
    obtain ⟨a, rfl, hr⟩ := pv_add S w r hx (n.toNat * z)
    exact ⟨_, by simp [Instr.indexAt, asIntOf, Instr.sureAddr, run_underlying hu, h1, h2, run_sizeOf (w := w) hz], hr, rfl⟩

/-- A field of a struct type, as the tables have it. -/
theorem field_at {t : TypeId} {fs : List (Nat × Nat × Bool)} {j off : Nat} {z : Nat × Bool} (ht : tyOf P t = .struct fs) (hj : fs[j]? = some (off, z)) (hz : z.1 ≠ 0) :
    ∃ gs f, P.underlying t = some (.struct gs) ∧ gs[j]? = some f ∧ f.offset = off ∧ szOf P f.type = some z := by
  obtain ⟨gs, hu, he⟩ := tyOf_struct ht
  subst he
  simp only [List.getElem?_map, Option.map_eq_some_iff, Array.getElem?_toList] at hj
  obtain ⟨f, hf, he⟩ := hj
  simp only [Prod.mk.injEq] at he
  obtain ⟨rfl, he⟩ := he
  refine ⟨gs, f, hu, hf, rfl, ?_⟩
  cases hs : szOf P f.type with
  | none => rw [hs] at he; subst he; exact absurd rfl hz
  | some y => rw [hs] at he; simp only at he; rw [← he]

theorem run_fieldPlace {f : Field} {z : Nat × Bool} {a : Addr} (hz : szOf P f.type = some z) (h0 : z.1 ≠ 0) : (fieldPlace a f).run P w = .ok (a.add f.offset) w := by
  simp [fieldPlace, run_sizeOf (w := w) hz, h0]

theorem fieldAddrD_sound {t : TypeId} {j : Nat} {dx : D} {vx : Value} {s : Stp} (hs : fieldAddrD (tb P) t dx j = some s) (hx : Rel S w r dx vx) :
    ∃ v, (Instr.fieldAt t vx j).run P w = .ok v w ∧ Rel S w r s.d v ∧ s.wr = [] := by
  unfold fieldAddrD at hs
  split at hs <;> first | (cases hs; done) | skip
  rename_i fs ht
  split at hs <;> first | (cases hs; done) | skip
  rename_i off z g hj
  split at hs <;> first | (cases hs; done) | skip
  rename_i z
  obtain ⟨gs, f, hu, hf, ho, hz⟩ := field_at ht hj (by simp)
  split at hs <;> first | (cases hs; done) | skip
  · cases hs
    obtain ⟨a, rfl, hr⟩ := rf_add S w r hx off
    refine ⟨_, ?_, hr, rfl⟩
    simp [Instr.fieldAt, run_underlying hu, hf, Instr.sureAddr, run_fieldPlace (w := w) (a := a) hz (by simp), ho]
  · cases hs
    obtain ⟨a, rfl, hr⟩ := pv_add S w r hx off
    refine ⟨_, ?_, hr, rfl⟩
    simp [Instr.fieldAt, run_underlying hu, hf, Instr.sureAddr, run_fieldPlace (w := w) (a := a) hz (by simp), ho]
  · cases hs
    obtain ⟨a, rfl, hr⟩ := ap_add S w r hx off
    refine ⟨_, ?_, hr, rfl⟩
    simp [Instr.fieldAt, run_underlying hu, hf, Instr.sureAddr, run_fieldPlace (w := w) (a := a) hz (by simp), ho]
  · cases hs
    obtain ⟨a, rfl, hr⟩ := rn_add S w r hx off
    refine ⟨_, ?_, hr, rfl⟩
    simp [Instr.fieldAt, run_underlying hu, hf, Instr.sureAddr, run_fieldPlace (w := w) (a := a) hz (by simp), ho]

theorem fieldD_sound {t : TypeId} {j : Nat} {dx : D} {vx : Value} {s : Stp} (hs : fieldD (tb P) t dx j = some s) (hp : s.p) (hx : Rel S w r dx vx) :
    ∃ v, (Instr.field t vx j).run P w = .ok v w ∧ Rel S w r s.d v ∧ s.wr = [] := by
  unfold fieldD at hs
  try simp only [fz_eq] at hs
  split at hs <;> first | (cases hs; done) | skip
  rename_i fs ht
  split at hs <;> first | (cases hs; done) | skip
  rename_i off z cs hj
  split at hs <;> first | (cases hs; done) | skip
  rename_i h0
  obtain ⟨gs, f, hu, hf, ho, hz⟩ := field_at ht hj (by omega)
  cases hs
  cases hx with
  | ag _ _ vs hn h =>
    obtain ⟨v, hv, hr⟩ := run_part (P := P) (t := f.type) hz hp hn h
    refine ⟨v, ?_, hr, rfl⟩
    simp [Instr.field, run_underlying hu, hf, asAgg, ho, hv]

end
end Go.Proofs.YteidmimpkipcfaaDoor.Flow
