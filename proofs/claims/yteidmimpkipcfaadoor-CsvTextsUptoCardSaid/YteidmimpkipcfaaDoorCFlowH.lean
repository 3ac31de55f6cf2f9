/-
  FLOW, PART H: EVERY OPERATION THAT 'step' KNOWS DOES WHAT IT SAYS.
-/
import Derived.Test.YteidmimpkipcfaaDoorCFlowG
namespace Go.Proofs.YteidmimpkipcfaaDoor.Flow

section
variable {P : Program} {X : Ctx} {n : Nat} {o : Oper} {F : Nat → D} {O own : Nat → Option Own}

theorem fin_value {w : World} {S : Cells} {r : Rho} {a : Act} {d : D} {wr : List (Nat × Own)} {v : Value} (hH : Hist X w S) (hI : Inv X w S r O) (hwr : wr = []) (hrun : (execOp a.eval o).run P w = .ok (.value v) w) (hv : Rel S w r d v) :
    ∃ v w' S' r', ((execOp a.eval o).run P w = .ok (.value v) w' ∨ ((execOp a.eval o).run P w = .ok .skip w' ∧ v = undef)) ∧ Rel S' w' r' d v ∧ Hist X w' S' ∧ Inv X w' S' r' (updO O wr) ∧
        (∀ b o, S b o → S' b o) ∧ (∀ b o, S b o → w'.cell? ⟨b, o, none⟩ = w.cell? ⟨b, o, none⟩) ∧ RhoLe r r' := by
  subst hwr
  exact ⟨v, w, S, r, .inl hrun, hv, hH, hI, fun _ _ h => h, fun _ _ _ => rfl, RhoLe.refl r⟩

theorem pickD_sound {S : Cells} {w : World} {r : Rho} {dc dx dy : D} {vc vx vy : Value} {s : Stp} (hs : pickD dc dx dy = some s) (hc : Rel S w r dc vc) (hx : Rel S w r dx vx) (hy : Rel S w r dy vy) :
    ∃ c, vc = .bool c ∧ Rel S w r s.d (if c then vx else vy) ∧ s.wr = [] := by
  cases hc with
  | b _ c =>
    refine ⟨c, rfl, ?_⟩
    cases c
    · simp only [pickD, fz_eq] at hs
      cases hs
      exact ⟨hy, rfl⟩
    · simp only [pickD, fz_eq] at hs
      cases hs
      exact ⟨hx, rfl⟩
  | _ => simp only [pickD] at hs; cases hs

theorem zeroD_spec {t : TypeId} {d : D} (h : zeroD P t = some d) : ∃ i v, P.info? t = some i ∧ i.zero = some v ∧ d = ofVal v := by
  unfold zeroD at h
  split at h <;> first | (cases h; done) | skip
  split at h
  · rename_i i hi
    split at h
    · rename_i v hv
      cases h
      exact ⟨i, v, hi, hv, rfl⟩
    · cases h
  · cases h

theorem places_of : ∀ (gs : List Field), (∀ f ∈ gs, ∃ z, szOf P f.type = some z) →
    gs.mapM (fun f => (P.info? f.type).map fun i => (f.offset, i.size)) = some (gs.map fun f => (f.offset, (match szOf P f.type with | some (z, g) => (z, g) | none => (0, false)).1))
  | [], _ => rfl
  | f :: gs, h => by
    obtain ⟨z, hz⟩ := h f (by simp)
    obtain ⟨i, d, h1, h2, h3, h4⟩ := szOf_spec hz
    have ih := places_of gs (fun g hg => h g (by simp [hg]))
    obtain ⟨z1, z2⟩ := z
    simp only [List.mapM_cons, h1, Option.map_some, List.map_cons, hz, ih, ← h3]
    rfl

theorem buildD_sound {S : Cells} {w : World} {r : Rho} {t : TypeId} {ds : List (Nat × D)} {vs : List (Nat × Value)} {s : Stp} (hs : buildD (tb P) t ds = some s) (hp : Parts S w r ds vs) :
    ∃ v, (Instr.build t vs.toArray).run P w = .ok v w ∧ Rel S w r s.d v ∧ s.wr = [] := by
  unfold buildD at hs
  simp only [fzA_eq] at hs
  split at hs
  · rename_i z fs hz ht
    obtain ⟨it, zv, h1, h2, rfl⟩ := zeroD_spec hz
    split at hs <;> first | (cases hs; done) | skip
    rename_i cs hall hfill
    cases hs
    simp only [Bool.and_eq_true] at hall
    obtain ⟨hall, hsol⟩ := hall
    obtain ⟨gs, hu, hfs⟩ := tyOf_struct ht
    have hex : ∀ f ∈ gs.toList, ∃ z, szOf P f.type = some z := by
      intro f hf
      rw [List.all_eq_true] at hall
      have := hall (f.offset, match szOf P f.type with | some (z, g) => (z, g) | none => (0, false)) (by rw [hfs]; exact List.mem_map.2 ⟨f, hf, rfl⟩)
      cases hq : szOf P f.type with
      | some z => exact ⟨z, rfl⟩
      | none => rw [hq] at this; simp [Nat.beq] at this
    have hpl := places_of (P := P) gs.toList hex
    obtain ⟨hzn, hzr⟩ := rel_cells (ofVal_rel S w r zv) hsol
    obtain ⟨cells', g1, g2, g3, g4⟩ := fill_sound hp hfill hzn hzr
    refine ⟨.agg cells', ?_, .ag _ _ _ g2 g4, rfl⟩
    refine run_build w t _ cells' ?_
    have e : (fun (x : Nat) => (gs.toList.map fun f => (f.offset, (match szOf P f.type with | some (z, g) => (z, g) | none => (0, false)).1)).toArray[x]?) = (fun (i : Nat) => (fs.map fun f => (f.1, f.2.1))[i]?) := by
      funext x
      subst hfs
      simp only [List.getElem?_toArray, List.map_map, Function.comp_def]
      rfl
    unfold Program.built
    simp only [h1, hu, h2, hpl]
    simp only [e]
    exact g1
  · rename_i z m el size g hz ht
    obtain ⟨it, zv, h1, h2, rfl⟩ := zeroD_spec hz
    split at hs <;> first | (cases hs; done) | skip
    rename_i cs hsol hfill
    cases hs
    obtain ⟨hu, hze⟩ := tyOf_array ht
    obtain ⟨ie, d, k1, k2, k3, k4⟩ := szOf_spec hze
    obtain ⟨hzn, hzr⟩ := rel_cells (ofVal_rel S w r zv) hsol
    obtain ⟨cells', g1, g2, g3, g4⟩ := fill_sound hp hfill hzn hzr
    refine ⟨.agg cells', ?_, .ag _ _ _ g2 g4, rfl⟩
    refine run_build w t _ cells' ?_
    unfold Program.built
    simp only [h1, hu, h2, k1, k3]
    exact g1
  · cases hs

theorem chunk_data {z len : Nat} {cs : List D} (hl : cs.length = len * z) (hp : cs.all D.plain = true) : ∀ i, i < len → (chunk z cs i).length = z ∧ (chunk z cs i).all D.plain = true := by
  intro i hi
  have : (i + 1) * z ≤ len * z := Nat.mul_le_mul_right z hi
  rw [Nat.add_mul] at this
  refine ⟨by simp [chunk]; omega, ?_⟩
  rw [List.all_eq_true] at hp ⊢
  intro x hx
  exact hp x (List.mem_of_mem_drop (List.mem_of_mem_take hx))

theorem chunk_getD {z len i j : Nat} {cs : List D} (hj : j < z) : (chunk z cs i).getD j .any = cs.getD (i * z + j) .any := by
  simp only [chunk, List.getD_eq_getElem?_getD, List.getElem?_take_of_lt hj, List.getElem?_drop]

theorem buildSlice_ok (ar : Bool) {w : World} {S : Cells} {r : Rho} {t el : TypeId} {z len by' : Nat} {g : Bool} {k : Nat} {zd : D} {cs : List D} {ds : List (Nat × D)} {vs : List (Nat × Value)} (hH : Hist X w S) (hI : Inv X w S r O)
    (ht : tyOf P t = .slice el z g by') (hz : zeroD P el = some zd) (hfill : fillD (fun i => some (i * z, z)) (List.replicate (len * z) .any) ds = some cs) (hp : Parts S w r ds vs)
    (hpl : cs.all D.plain = true) (hz0 : 0 < z) (hsz : len * z ≤ 16777216) (hk : O k = none) :
    ∃ v w', (Instr.buildSlice t len vs.toArray).run P w = .ok v w' ∧ ∃ S' r', Rel S' w' r' (mkH ar k z len (chunk z cs)) v ∧ Hist X w' S' ∧ Inv X w' S' r' (updO O [(k, mkO ar el z len (chunk z cs))]) ∧
      (∀ b o, S b o → S' b o) ∧ (∀ b o, S b o → w'.cell? ⟨b, o, none⟩ = w.cell? ⟨b, o, none⟩) ∧ RhoLe r r' := by
  obtain ⟨hu, hze, ie, hie, hisz, _⟩ := tyOf_slice ht
  obtain ⟨it, zv, h1, h2, _⟩ := zeroD_spec hz
  rw [hie] at h1
  cases h1
  have hsize := run_sizeOf (w := w) hze
  obtain ⟨z0, hz0r⟩ : ∃ z0 : Array Value, (len * z = 0 ∧ z0 = #[]) ∨ (len * z ≠ 0 ∧ z0 = zv.cells) := by
    by_cases e : len * z = 0
    · exact ⟨#[], .inl ⟨e, rfl⟩⟩
    · exact ⟨zv.cells, .inr ⟨e, rfl⟩⟩
  have hzv : (zeroValue el).run P w = .ok zv w := by simp [zeroValue, typeInfo, hie, h2]
  obtain ⟨cells', g1, g2, g3, g4⟩ := fill_sound (cells := (Array.range (len * z)).map (z0[· % z0.size]!)) hp hfill (by simp) (fun j hj => by
    have : (List.replicate (len * z) D.any).getD j .any = .any := by
      simp only [List.length_replicate] at hj
      simp [List.getD_eq_getElem?_getD, hj]
    rw [this]
    exact .any ..)
  have hcl : cs.length = len * z := by rw [g3]; simp
  have hone : ∀ i j, i < len → j < z → Rel S w noRho ((chunk z cs i).getD j .any) (cells'.getD (i * z + j) undef) := by
    intro i j hi hj
    have hlt : i * z + j < cs.length := by
      rw [hcl]
      have : (i + 1) * z ≤ len * z := Nat.mul_le_mul_right z hi
      rw [Nat.add_mul] at this
      omega
    rw [chunk_getD (len := len) hj]
    refine (g4 _ hlt).plain ?_ noRho
    rw [List.all_eq_true] at hpl
    refine hpl _ ?_
    simp only [List.getD_eq_getElem?_getD, List.getElem?_eq_getElem hlt, Option.getD_some]
    exact List.getElem_mem hlt
  refine ⟨.slice (some ⟨w.heap.size, 0, none⟩) len len, w.alloc (.cells cells' el), ?_, ?_⟩
  · simp only [Instr.buildSlice, Sem.run_bind, run_underlying hu, Result.andThen_ok, hsize]
    rw [if_neg (by omega)]
    rcases hz0r with ⟨e, rfl⟩ | ⟨e, rfl⟩
    · rw [if_pos e]
      simp only [Sem.run_bind, Sem.run_pure, Result.andThen_ok]
      rw [g1]
      simp [newRow]
    · rw [if_neg e]
      simp only [Sem.run_bind, Sem.run_pure, Result.andThen_ok, hzv]
      rw [g1]
      simp [newRow]
  · have hge : len ≤ maxLen := by
      have : len * 1 ≤ len * z := Nat.mul_le_mul_left _ hz0
      unfold maxLen
      omega
    refine row_ok ar (g := none) (c := fun i j => cells'.getD (i * z + j) undef) hH hI (Chg.alloc w S hH.valid _) (fun b hb => by cases hb) (.inl ⟨Nat.le_refl _, by simp, hH.size⟩) (RhoLe.new (hI.dom k hk))
      (heap_alloc_new w _) (Nat.le_refl _) hge (by rw [g2, hcl]) (fun i j hi hj => ?_) (fun o _ hs => ?_) (chunk_data hcl hpl) hone
    · have hlt : i * z + j < cells'.size := by
        rw [g2, hcl]
        have : (i + 1) * z ≤ len * z := Nat.mul_le_mul_right z hi
        rw [Nat.add_mul] at this
        omega
      simp [Array.getD_eq_getD_getElem?, hlt]
    · have := hH.valid _ _ hs; omega

theorem bytes_foldl : ∀ (ns : List Int) (b : ByteArray), (ns.foldl (fun r n => r.push (UInt8.ofNat n.toNat)) b) = ⟨(b.data.toList ++ ns.map fun n => UInt8.ofNat n.toNat).toArray⟩
  | [], b => by simp
  | n :: ns, b => by
    rw [List.foldl_cons, bytes_foldl ns]
    congr 1
    simp [ByteArray.push]

theorem bytes_string {S : Cells} {w : World} {r : Rho} {src dst e len : Nat} {f : Nat → List D} {v : Value} (hs : P.underlying src = some (.slice e)) (he : P.underlying e = some (.int .u8)) (hd : P.underlying dst = some .string)
    (hx : Rel S w r (.sl 1 len f) v) (hf : ∀ i, i < len → ∃ n, f i = [.i .u8 n]) :
    ∃ v', (convert src dst v).run P w = .ok v' w ∧ Rel S w r (.s (bytesOf len f)) v' := by
  obtain ⟨a, cap, c, rfl, hc, hm, hl, hr, hcell⟩ := sl_cells hx
  rw [run_convert_bytes_string w src dst e a len cap hs he hd]
  cases a with
  | none =>
    have h0 : len = 0 := by
      rcases Nat.eq_zero_or_pos len with h | h
      · exact h
      · obtain ⟨b, o, h1, _⟩ := hcell 0 0 h (by omega)
        cases h1
    subst h0
    exact ⟨.string .empty, by simp [Conv.bytesToString], .s ..⟩
  | some ad =>
    let ns : List Int := (List.range len).map fun i => match f i with | [.i _ n] => n | _ => 0
    have hload : (loadCells ad len).run P w = .ok (ns.map (Value.int .u8)).toArray w := by
      rw [run_loadCells w ad len (fun j => c j 0) (fun j hj => ?_)]
      · congr 2
        simp only [ns, List.map_map]
        refine List.map_congr_left fun i hi => ?_
        simp only [List.mem_range] at hi
        obtain ⟨n, hn⟩ := hf i hi
        have := hr i 0 hi (by omega)
        rw [hn] at this
        simp only [List.getD_cons_zero] at this
        simp only [Function.comp_apply, hn]
        have key : ∀ u, Rel S w noRho (.i .u8 n) u → Value.int .u8 n = u := fun u h => by cases h; rfl
        exact (key _ this).symm
      · obtain ⟨b, o, he, _, hcl⟩ := hcell j 0 hj (by omega)
        cases he
        rw [Addr.add_lit]
        simpa using hcl
    rw [run_bytesToString w ad len cap ns hload, bytes_foldl]
    refine ⟨_, rfl, ?_⟩
    have : (ByteArray.empty.data.toList ++ ns.map fun n => UInt8.ofNat n.toNat) = bytesOf len f := by
      simp only [ns, List.map_map, bytesOf]
      show [] ++ _ = _
      rw [List.nil_append]
      refine List.map_congr_left fun i hi => ?_
      simp only [List.mem_range] at hi
      obtain ⟨n, hn⟩ := hf i hi
      simp [hn, byteOf]
    rw [this]
    exact .s ..

end
end Go.Proofs.YteidmimpkipcfaaDoor.Flow
