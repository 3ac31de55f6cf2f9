/- The texts FlowH, FlowI, one behind the other. -/
import Derived.Test.YtkkaamhocpmhkaaGreatDoorSA3
namespace Go.Proofs.YtkkaamhocpmhkaaGreatDoor.Flow
section
variable {P : Program} {X : Ctx} {n : Nat} {o : Oper} {F : Nat → D} {O own : Nat → Option Own}
theorem zaq {w : World} {S : Cells} {r : Rho} {a : Act} {d : D} {wr : List (Nat × Own)} {v : Value} (hH : Hist X w S) (hI : Inv X w S r O) (hwr : wr = []) (hrun : (execOp a.eval o).run P w = .ok (.value v) w) (hv : Rel S w r d v) :
    ∃ v w' S' r', ((execOp a.eval o).run P w = .ok (.value v) w' ∨ ((execOp a.eval o).run P w = .ok .skip w' ∧ v = undef)) ∧ Rel S' w' r' d v ∧ Hist X w' S' ∧ Inv X w' S' r' (updO O wr) ∧
        (∀ b o, S b o → S' b o) ∧ (∀ b o, S b o → w'.cell? ⟨b, o, none⟩ = w.cell? ⟨b, o, none⟩) ∧ RhoLe r r' := by
  subst hwr
  exact ⟨v, w, S, r, .inl hrun, hv, hH, hI, fun _ _ h => h, fun _ _ _ => rfl, RhoLe.refl r⟩
theorem zgn {S : Cells} {w : World} {r : Rho} {dc dx dy : D} {vc vx vy : Value} {s : Stp} (hs : pickD dc dx dy = some s) (hc : Rel S w r dc vc) (hx : Rel S w r dx vx) (hy : Rel S w r dy vy) :
    ∃ c, vc = .bool c ∧ Rel S w r s.d (if c then vx else vy) ∧ s.wr = [] := by
  cases hc with
  | b _ c =>
    refine ⟨c, rfl, ?_⟩
    cases c
    · simp only [pickD, zbs] at hs
      cases hs
      exact ⟨hy, rfl⟩
    · simp only [pickD, zbs] at hs
      cases hs
      exact ⟨hx, rfl⟩
  | _ => simp only [pickD] at hs; cases hs
theorem zaW {t : TypeId} {d : D} (h : zeroD P t = some d) : ∃ i v, P.info? t = some i ∧ i.zero = some v ∧ d = ofVal v := by
  unfold zeroD at h
  split at h <;> first | (cases h; done) | skip
  split at h
  · rename_i i hi
    split at h
    · rename_i v hv
      cases h
      exact ⟨i, v, hi, hv, rfl⟩
    · cases h
  · cases h
theorem zfq : ∀ (gs : List Field), (∀ f ∈ gs, ∃ z, szOf P f.type = some z) →
    gs.mapM (fun f => (P.info? f.type).map fun i => (f.offset, i.size)) = some (gs.map fun f => (f.offset, (match szOf P f.type with | some (z, g) => (z, g) | none => (0, false)).1))
  | [], _ => rfl
  | f :: gs, h => by
    obtain ⟨z, hz⟩ := h f (by simp)
    obtain ⟨i, d, h1, h2, h3, h4⟩ := zbt hz
    have ih := zfq gs (fun g hg => h g (by simp [hg]))
    obtain ⟨z1, z2⟩ := z
    simp only [List.mapM_cons, h1, Option.map_some, List.map_cons, hz, ih, ← h3]
    rfl
theorem zfS {S : Cells} {w : World} {r : Rho} {t : TypeId} {ds : List (Nat × D)} {vs : List (Nat × Value)} {s : Stp} (hs : buildD (tb P) t ds = some s) (hp : Parts S w r ds vs) :
    ∃ v, (Instr.build t vs.toArray).run P w = .ok v w ∧ Rel S w r s.d v ∧ s.wr = [] := by
  unfold buildD at hs
  simp only [zbx] at hs
  split at hs
  · rename_i z fs hz ht
    obtain ⟨it, zv, h1, h2, rfl⟩ := zaW hz
    split at hs <;> first | (cases hs; done) | skip
    rename_i cs hall hfill
    cases hs
    simp only [Bool.and_eq_true] at hall
    obtain ⟨hall, hsol⟩ := hall
    obtain ⟨gs, hu, hfs⟩ := zdl ht
    have hex : ∀ f ∈ gs.toList, ∃ z, szOf P f.type = some z := by
      intro f hf
      rw [List.all_eq_true] at hall
      have := hall (f.offset, match szOf P f.type with | some (z, g) => (z, g) | none => (0, false)) (by rw [hfs]; exact List.mem_map.2 ⟨f, hf, rfl⟩)
      cases hq : szOf P f.type with
      | some z => exact ⟨z, rfl⟩
      | none => rw [hq] at this; simp [Nat.beq] at this
    have hpl := zfq (P := P) gs.toList hex
    obtain ⟨hzn, hzr⟩ := zaY (zbf S w r zv) hsol
    obtain ⟨cells', g1, g2, g3, g4⟩ := zbR hp hfill hzn hzr
    refine ⟨.agg cells', ?_, .ag _ _ _ g2 g4, rfl⟩
    refine run_build w t _ cells' ?_
    have e : (fun (x : Nat) => (gs.toList.map fun f => (f.offset, (match szOf P f.type with | some (z, g) => (z, g) | none => (0, false)).1)).toArray[x]?) = (fun (i : Nat) => (fs.map fun f => (f.1, f.2.1))[i]?) := by
      funext x
      subst hfs
      simp only [List.getElem?_toArray, List.map_map, Function.comp_def]
      rfl
    unfold Program.built
    simp only [h1, hu, h2, hpl]
    simp only [e]
    exact g1
  · rename_i z m el size g hz ht
    obtain ⟨it, zv, h1, h2, rfl⟩ := zaW hz
    split at hs <;> first | (cases hs; done) | skip
    rename_i cs hsol hfill
    cases hs
    obtain ⟨hu, hze⟩ := zaX ht
    obtain ⟨ie, d, k1, k2, k3, k4⟩ := zbt hze
    obtain ⟨hzn, hzr⟩ := zaY (zbf S w r zv) hsol
    obtain ⟨cells', g1, g2, g3, g4⟩ := zbR hp hfill hzn hzr
    refine ⟨.agg cells', ?_, .ag _ _ _ g2 g4, rfl⟩
    refine run_build w t _ cells' ?_
    unfold Program.built
    simp only [h1, hu, h2, k1, k3]
    exact g1
  · cases hs
theorem zhO {z len : Nat} {cs : List D} (hl : cs.length = len * z) (hp : cs.all D.plain = true) : ∀ i, i < len → (chunk z cs i).length = z ∧ (chunk z cs i).all D.plain = true := by
  intro i hi
  have : (i + 1) * z ≤ len * z := Nat.mul_le_mul_right z hi
  rw [Nat.add_mul] at this
  refine ⟨by simp [chunk]; omega, ?_⟩
  rw [List.all_eq_true] at hp ⊢
  intro x hx
  exact hp x (List.mem_of_mem_drop (List.mem_of_mem_take hx))
theorem zib {z i j : Nat} {cs : List D} (hj : j < z) : (chunk z cs i).getD j .any = cs.getD (i * z + j) .any := by
  simp only [chunk, List.getD_eq_getElem?_getD, List.getElem?_take_of_lt hj, List.getElem?_drop]
theorem zeN (ar : Bool) {w : World} {S : Cells} {r : Rho} {t el : TypeId} {z len by' : Nat} {g : Bool} {k : Nat} {zd : D} {cs : List D} {ds : List (Nat × D)} {vs : List (Nat × Value)} (hH : Hist X w S) (hI : Inv X w S r O)
    (ht : tyOf P t = .slice el z g by') (hz : zeroD P el = some zd) (hfill : fillD (fun i => some (i * z, z)) (List.replicate (len * z) .any) ds = some cs) (hp : Parts S w r ds vs)
    (hpl : cs.all D.plain = true) (hz0 : 0 < z) (hsz : len * z ≤ 16777216) (hk : O k = none) :
    ∃ v w', (Instr.buildSlice t len vs.toArray).run P w = .ok v w' ∧ ∃ S' r', Rel S' w' r' (mkH ar k z len (chunk z cs)) v ∧ Hist X w' S' ∧ Inv X w' S' r' (updO O [(k, mkO ar el z len (chunk z cs))]) ∧
      (∀ b o, S b o → S' b o) ∧ (∀ b o, S b o → w'.cell? ⟨b, o, none⟩ = w.cell? ⟨b, o, none⟩) ∧ RhoLe r r' := by
  obtain ⟨hu, hze, ie, hie, hisz, _⟩ := zav ht
  obtain ⟨it, zv, h1, h2, _⟩ := zaW hz
  rw [hie] at h1
  cases h1
  have hsize := zaz (w := w) hze
  obtain ⟨z0, hz0r⟩ : ∃ z0 : Array Value, (len * z = 0 ∧ z0 = #[]) ∨ (len * z ≠ 0 ∧ z0 = zv.cells) := by
    by_cases e : len * z = 0
    · exact ⟨#[], .inl ⟨e, rfl⟩⟩
    · exact ⟨zv.cells, .inr ⟨e, rfl⟩⟩
  have hzv : (zeroValue el).run P w = .ok zv w := by simp [zeroValue, typeInfo, hie, h2]
  obtain ⟨cells', g1, g2, g3, g4⟩ := zbR (cells := (Array.range (len * z)).map (z0[· % z0.size]!)) hp hfill (by simp) (fun j hj => by
    have : (List.replicate (len * z) D.any).getD j .any = .any := by
      simp only [List.length_replicate] at hj
      simp [List.getD_eq_getElem?_getD, hj]
    rw [this]
    exact .any ..)
  have hcl : cs.length = len * z := by rw [g3]; simp
  have hone : ∀ i j, i < len → j < z → Rel S w noRho ((chunk z cs i).getD j .any) (cells'.getD (i * z + j) undef) := by
    intro i j hi hj
    have hlt : i * z + j < cs.length := by
      rw [hcl]
      have : (i + 1) * z ≤ len * z := Nat.mul_le_mul_right z hi
      rw [Nat.add_mul] at this
      omega
    rw [zib hj]
    refine (g4 _ hlt).plain ?_ noRho
    rw [List.all_eq_true] at hpl
    refine hpl _ ?_
    simp only [List.getD_eq_getElem?_getD, List.getElem?_eq_getElem hlt, Option.getD_some]
    exact List.getElem_mem hlt
  refine ⟨.slice (some ⟨w.heap.size, 0, none⟩) len len, w.alloc (.cells cells' el), ?_, ?_⟩
  · simp only [Instr.buildSlice, Sem.run_bind, run_underlying hu, Result.andThen_ok, hsize]
    rw [if_neg (by omega)]
    rcases hz0r with ⟨e, rfl⟩ | ⟨e, rfl⟩
    · rw [if_pos e]
      simp only [Sem.run_bind, Sem.run_pure, Result.andThen_ok]
      rw [g1]
      simp [newRow]
    · rw [if_neg e]
      simp only [Sem.run_bind, Sem.run_pure, Result.andThen_ok, hzv]
      rw [g1]
      simp [newRow]
  · have hge : len ≤ maxLen := by
      have : len * 1 ≤ len * z := Nat.mul_le_mul_left _ hz0
      unfold maxLen
      omega
    refine zed ar (g := none) (c := fun i j => cells'.getD (i * z + j) undef) hH hI (Chg.alloc w S hH.valid _) (fun b hb => by cases hb) (.inl ⟨Nat.le_refl _, by simp, hH.size⟩) (RhoLe.new (hI.dom k hk))
      (heap_alloc_new w _) (Nat.le_refl _) hge (by rw [g2, hcl]) (fun i j hi hj => ?_) (fun o _ hs => ?_) (zhO hcl hpl) hone
    · have hlt : i * z + j < cells'.size := by
        rw [g2, hcl]
        have : (i + 1) * z ≤ len * z := Nat.mul_le_mul_right z hi
        rw [Nat.add_mul] at this
        omega
      simp [Array.getD_eq_getD_getElem?, hlt]
    · have := hH.valid _ _ hs; omega
theorem zdv : ∀ (ns : List Int) (b : ByteArray), (ns.foldl (fun r n => r.push (UInt8.ofNat n.toNat)) b) = ⟨(b.data.toList ++ ns.map fun n => UInt8.ofNat n.toNat).toArray⟩
  | [], b => by simp
  | n :: ns, b => by
    rw [List.foldl_cons, zdv ns]
    congr 1
    simp [ByteArray.push]
theorem zcW {S : Cells} {w : World} {r : Rho} {src dst e len : Nat} {f : Nat → List D} {v : Value} (hs : P.underlying src = some (.slice e)) (he : P.underlying e = some (.int .u8)) (hd : P.underlying dst = some .string)
    (hx : Rel S w r (.sl 1 len f) v) (hf : ∀ i, i < len → ∃ n, f i = [.i .u8 n]) :
    ∃ v', (convert src dst v).run P w = .ok v' w ∧ Rel S w r (.s (bytesOf len f)) v' := by
  obtain ⟨a, cap, c, rfl, hc, hm, hl, hr, hcell⟩ := zaU hx
  rw [run_convert_bytes_string w src dst e a len cap hs he hd]
  cases a with
  | none =>
    have h0 : len = 0 := by
      rcases Nat.eq_zero_or_pos len with h | h
      · exact h
      · obtain ⟨b, o, h1, _⟩ := hcell 0 0 h (by omega)
        cases h1
    subst h0
    exact ⟨.string .empty, by simp [Conv.bytesToString], .s ..⟩
  | some ad =>
    let ns : List Int := (List.range len).map fun i => match f i with | [.i _ n] => n | _ => 0
    have hload : (loadCells ad len).run P w = .ok (ns.map (Value.int .u8)).toArray w := by
      rw [run_loadCells w ad len (fun j => c j 0) (fun j hj => ?_)]
      · congr 2
        simp only [ns, List.map_map]
        refine List.map_congr_left fun i hi => ?_
        simp only [List.mem_range] at hi
        obtain ⟨n, hn⟩ := hf i hi
        have := hr i 0 hi (by omega)
        rw [hn] at this
        simp only [List.getD_cons_zero] at this
        simp only [Function.comp_apply, hn]
        have key : ∀ u, Rel S w noRho (.i .u8 n) u → Value.int .u8 n = u := fun u h => by cases h; rfl
        exact (key _ this).symm
      · obtain ⟨b, o, he, _, hcl⟩ := hcell j 0 hj (by omega)
        cases he
        rw [Addr.add_lit]
        simpa using hcl
    rw [run_bytesToString w ad len cap ns hload, zdv]
    refine ⟨_, rfl, ?_⟩
    have : (ByteArray.empty.data.toList ++ ns.map fun n => UInt8.ofNat n.toNat) = bytesOf len f := by
      simp only [ns, List.map_map, bytesOf]
      show [] ++ _ = _
      rw [List.nil_append]
      refine List.map_congr_left fun i hi => ?_
      simp only [List.mem_range] at hi
      obtain ⟨n, hn⟩ := hf i hi
      simp [hn, byteOf]
    rw [this]
    exact .s ..
end
end Go.Proofs.YtkkaamhocpmhkaaGreatDoor.Flow

namespace Go.Proofs.YtkkaamhocpmhkaaGreatDoor.Flow
section
variable {P : Program} {X : Ctx} {n : Nat} {o : Oper} {F : Nat → D} {O own : Nat → Option Own}
theorem zbC {S : Cells} {w : World} {r : Rho} {len cap : Nat} {isSlice : Bool} {e : Operand → D} {ρ : Operand → Value} {lo hi : Option Operand} {n m : Int} (h : boundsD len e lo hi = some (n, m))
    (hl : ∀ x, lo = some x → Rel S w r (e x) (ρ x)) (hh : ∀ x, hi = some x → Rel S w r (e x) (ρ x)) (h0 : 0 ≤ n) (h1 : n ≤ m) (h2 : m ≤ len) (hc : len ≤ cap) :
    (Instr.sliceBounds isSlice len cap (lo.map ρ) (hi.map ρ) none).run P w = .ok (n.toNat, m.toNat, cap) w := by
  have h3 : m ≤ cap := by omega
  have key : ∀ x k, Rel S w r (e x) (ρ x) → (∃ k', e x = .i k' k) → ∃ k', ρ x = .int k' k := fun x k hr ⟨k', he⟩ => by
    rw [he] at hr
    generalize ρ x = u at hr
    cases hr
    exact ⟨_, rfl⟩
  unfold boundsD at h
  split at h
  · cases h
    simp [Instr.sliceBounds]
  · rename_i x
    split at h <;> first | (cases h; done) | skip
    rename_i k a he
    cases h
    obtain ⟨k', hk⟩ := key x _ (hl x rfl) ⟨_, he⟩
    simp [Instr.sliceBounds, Instr.sliceBound, hk, asIntOf, h0, h1]
  · rename_i x
    split at h <;> first | (cases h; done) | skip
    rename_i k a he
    cases h
    obtain ⟨k', hk⟩ := key x _ (hh x rfl) ⟨_, he⟩
    have h4 : 0 ≤ m := by omega
    simp [Instr.sliceBounds, Instr.sliceBound, hk, asIntOf, h4, h3]
  · rename_i x y
    split at h <;> first | (cases h; done) | skip
    rename_i k a k2 b he he2
    cases h
    obtain ⟨k', hk⟩ := key x _ (hl x rfl) ⟨_, he⟩
    obtain ⟨k'', hk2⟩ := key y _ (hh y rfl) ⟨_, he2⟩
    have h4 : 0 ≤ m := by omega
    have h5 : n ≤ (m.toNat : Int) := by omega
    simp [Instr.sliceBounds, Instr.sliceBound, hk, hk2, asIntOf, h4, h3, h0]
    intro h6
    omega
theorem zfF {S : Cells} {w : World} {r : Rho} {z len lo hi cap : Nat} {f : Nat → List D} {a : Option Addr} (h : Rel S w r (.sl z len f) (.slice a len cap)) (h1 : lo ≤ hi) (h2 : hi ≤ len) :
    Rel S w r (.sl z (hi - lo) (fun i => f (lo + i))) (.slice (if cap = lo then a else a.map (·.add (lo * z))) (hi - lo) (cap - lo)) := by
  obtain ⟨a', cap', c, e, hc, hm, hl, hr, hcell⟩ := zaU h
  cases e
  refine .sl _ _ _ _ _ _ (fun i j => c (lo + i) j) (by omega) (by omega) (fun i hi' => hl _ (by omega)) (fun i j hi' hj => ?_) (fun i j hi' hj => hr _ _ (by omega) hj)
  obtain ⟨b, o, he, hs, hcl⟩ := hcell (lo + i) j (by omega) hj
  rw [if_neg (by omega)]
  refine ⟨b, o + lo * z, by rw [he]; simp [Addr.add_lit], ?_⟩
  have e : o + lo * z + i * z + j = o + (lo + i) * z + j := by rw [Nat.add_mul]; omega
  rw [e]
  exact ⟨hs, hcl⟩
theorem zbl {w : World} {t tx ty e : TypeId} {i : TypeInfo} (ht : P.underlying t = some (.slice e)) (hi : P.info? e = some i) {base : Option Addr} {n cap : Nat} (h : n ≤ cap) {x : Value} (hs : Src P i.size tx x 0 [] w) :
    (Builtin.append_ #[t, tx] ty #[.slice base n cap, x]).run P w = .ok (.slice base n cap) w := by
  have h1 := hs.len w
  have h2 := hs.cells
  have h3 : n + 0 ≤ cap := h
  rcases hs.kind with ⟨e', hk⟩ | hk <;> cases base <;> simp [Builtin.append_, run_underlying ht, run_underlying hk, sizeOf, typeInfo, hi, h1, h2, h, storeCells]
theorem zdK (ar : Bool) {w : World} {S : Cells} {r : Rho} {t tx ty el : TypeId} {i : TypeInfo} {k z : Nat} {g : Nat → List D} {ax : Option Addr} {vy : Value} (hH : Hist X w S) (hI : Inv X w S r O)
    (ht : P.underlying t = some (.slice el)) (hi : P.info? el = some i) (hs : Src P i.size tx vy 0 [] w) (hk : O k = none) :
    ∃ v w', (Builtin.append_ #[t, tx] ty #[.slice ax 0 0, vy]).run P w = .ok v w' ∧ ∃ S' r', Rel S' w' r' (mkH ar k z 0 g) v ∧ Hist X w' S' ∧ Inv X w' S' r' (updO O [(k, mkO ar el z 0 g)]) ∧
      (∀ b o, S b o → S' b o) ∧ (∀ b o, S b o → w'.cell? ⟨b, o, none⟩ = w.cell? ⟨b, o, none⟩) ∧ RhoLe r r' := by
  have hrun := zbl (P := P) (w := w) (ty := ty) (base := ax) ht hi (Nat.le_refl 0) hs
  have hle : RhoLe r (updR r k (.row (.slice none 0 0) 0)) := RhoLe.new (hI.dom k hk)
  have hk0 : updR r k (.row (.slice none 0 0) 0) k = some (.row (.slice none 0 0) 0) := by simp [updR]
  have hc : Chg w w S none := ⟨rfl, rfl, rfl, Nat.le_refl _, fun _ _ _ => rfl, fun _ _ _ => rfl⟩
  have htip : Tip (.slice ax 0 0) (.slice none 0 0) := .inr ⟨rfl, ax, rfl⟩
  refine ⟨_, _, hrun, S, updR r k (.row (.slice none 0 0) 0), ?_, hH, ?_, fun _ _ h => h, fun _ _ _ => rfl, hle⟩
  · cases ar with
    | true => exact .ah _ k z 0 0 ax _ 0 hk0 (Nat.le_refl _) (fun _ => htip) (fun h => by omega)
    | false => exact .gs _ k z 0 g _ _ 0 (.sl _ _ _ _ ax 0 (fun _ _ => undef) (Nat.le_refl _) (by unfold maxLen; omega) (fun i hi => by omega) (fun i j hi => by omega) (fun i j hi => by omega)) hk0 (Nat.le_refl _) (fun _ => htip)
  · refine hI.put hc (fun _ _ h => h) hle k _ (.row (.slice none 0 0) 0) ?_ hk0 (fun j hj => by simp [updR, hj]) (fun b hb => by simp [Loc.block] at hb) (fun b hb => by cases hb) (fun _ _ h => .inl h)
    cases ar with
    | true => exact ⟨_, hk0, .inl ⟨rfl, rfl⟩⟩
    | false => exact ⟨_, hk0, .inl ⟨rfl, rfl⟩⟩
theorem zfh (n : Nat) (f g : Nat → List D) : catF n f 0 g = f := by
  funext i
  unfold catF
  split
  · rfl
  · rw [if_neg (by omega)]
theorem zjL (f g : Nat → List D) (m : Nat) (hf : f = g) : catF 0 f m g = g := by
  funext i
  subst hf
  unfold catF
  rw [if_neg (by omega)]
  split <;> rfl
theorem zgY {k : Nat} {o : Own} (hk : O k = some o) : updO O [(k, o)] = O := by
  funext j
  show (if j = k then some o else O j) = O j
  by_cases e : j = k
  · subst e; rw [if_pos rfl, hk]
  · rw [if_neg e]
theorem zbY {w : World} {S : Cells} {r : Rho} {t t2 el : TypeId} {dy : D} {vy : Value} {e2 m : Nat} {gf : Nat → List D} (hs : srcD (tb P) t t2 el dy = some (e2, m, gf)) (ht : P.underlying t = some (.slice el)) (hy : Rel S w r dy vy) (hz : 0 < e2) :
    ∃ c2 : Nat → Nat → Value, Src P e2 t2 vy m (flat e2 m c2) w ∧ (∀ i, i < m → (gf i).length = e2 ∧ (gf i).all D.plain = true) ∧ (∀ i j, i < m → j < e2 → Rel S w noRho ((gf i).getD j .any) (c2 i j)) := by
  unfold srcD at hs
  split at hs
  · rename_i l
    split at hs <;> first | (cases hs; done) | skip
    rename_i h1 h2
    cases hs
    cases hy
    refine ⟨fun i _ => .int .u8 ((l.getD i 0).toNat : Int), ?_, fun i hi => ⟨rfl, rfl⟩, fun i j hi hj => ?_⟩
    · have hb := Src.ofString (P := P) w (zaQ h1) ⟨l.toArray⟩
      have hsz : (ByteArray.mk l.toArray).size = l.length := by simp [ByteArray.size]
      have hc : byteCells ⟨l.toArray⟩ = flat 1 l.length (fun i _ => .int .u8 ((l.getD i 0).toNat : Int)) := by
        apply List.ext_getElem?
        intro p
        by_cases hp : p < l.length
        · have h3 := zcm (z := 1) (m := l.length) (i := p) (j := 0) (fun i _ => Value.int .u8 ((l.getD i 0).toNat : Int)) hp (by omega)
          rw [Nat.mul_one, Nat.add_zero] at h3
          rw [h3]
          simp [byteCells, hp, List.getD_eq_getElem?_getD]
        · rw [List.getElem?_eq_none (by rw [byteCells_length, hsz]; omega), List.getElem?_eq_none (by rw [zaF]; omega)]
      rw [hc, hsz] at hb
      exact hb
    · have : j = 0 := by omega
      subst this
      exact .i ..
  · split at hs <;> first | (cases hs; done) | skip
    rename_i htt
    have := Nat.eq_of_beq_eq_true htt
    subst this
    have hsl : Rel S w r (.sl e2 m gf) vy := by
      unfold elemsOf at hs
      split at hs
      · cases hs; exact hy
      · cases hs; exact hy.shut
      · cases hs; exact hy.weak (.se _ _ _)
      · cases hs
    obtain ⟨a, cap, c, rfl, hc, hm, hl, hr, hcell⟩ := zaU hsl
    refine ⟨c, ?_, hl, hr⟩
    cases a with
    | none =>
      have h0 : m = 0 := by
        rcases Nat.eq_zero_or_pos m with h | h
        · exact h
        · obtain ⟨b, o, h1, _⟩ := hcell 0 0 h hz
          cases h1
      subst h0
      have hf : flat e2 0 c = [] := by simp [flat]
      rw [hf]
      exact Src.ofNil w ht cap
    | some ad => exact Src.ofSlice w ht ad m cap _ (zaF ..) (zhW hcell) (zfW hl hr)
theorem zmd {w : World} {S : Cells} {r : Rho} {t el : TypeId} {z by' k : Nat} {g : Bool} {zd : D} {kl kc : IntKind} {n m : Int} (hH : Hist X w S) (hI : Inv X w S r O) (ht : tyOf P t = .slice el z g by') (hz : zeroD P el = some zd) (hk : O k = none)
    (h1 : 0 ≤ n) (h2 : n ≤ m) (h3 : m ≤ 9223372036854775807) (h4 : (by' : Int) * m ≤ 281474976710656) (h5 : zd.cells.length = z) (h6 : zd.solid = true) (h7 : zd.cells.all D.plain = true) (_h8 : 0 < z) :
    ∃ v w', (Instr.makeSlice t (.int kl n) (.int kc m)).run P w = .ok v w' ∧ ∃ S' r', Rel S' w' r' (.ah k z n.toNat) v ∧ Hist X w' S' ∧ Inv X w' S' r' (updO O [(k, .arr el z n.toNat (fun _ => zd.cells))]) ∧
      (∀ b o, S b o → S' b o) ∧ (∀ b o, S b o → w'.cell? ⟨b, o, none⟩ = w.cell? ⟨b, o, none⟩) ∧ RhoLe r r' := by
  obtain ⟨hu, hze, ie, hie, hisz, hib⟩ := zav ht
  obtain ⟨it, zv, g1, g2, rfl⟩ := zaW hz
  rw [hie] at g1
  cases g1
  obtain ⟨hzn, hzr⟩ := zaY (zbf S w r zv) h6
  have hrun := run_make (P := P) w t el ie zv hu hie g2 kl kc n m h1 h2 (by rw [hib]; exact h4) h3
  refine ⟨_, _, hrun, ?_⟩
  refine zed true (g := none) (f := fun _ => (ofVal zv).cells) (c := fun _ j => zv.cells.getD j undef) hH hI (Chg.alloc w S hH.valid _) (fun b hb => by cases hb) (.inl ⟨Nat.le_refl _, by simp, hH.size⟩) (RhoLe.new (hI.dom k hk))
    (heap_alloc_new w _) (by omega) (by unfold maxLen; omega) (by rw [size_madeCells, hisz]) (fun i j hi hj => ?_) (fun o _ hs => ?_) (fun i hi => ⟨h5, h7⟩) (fun i j hi hj => ?_)
  · have hlt : i * z + j < m.toNat * z := by
      have : (i + 1) * z ≤ m.toNat * z := Nat.mul_le_mul_right z (by omega)
      rw [Nat.add_mul] at this
      omega
    have hzs : zv.cells.size = z := by omega
    have hmod : (i * z + j) % z = j := by
      rw [Nat.mul_comm, Nat.mul_add_mod, Nat.mod_eq_of_lt hj]
    rw [hisz]
    have hj2 : j < zv.cells.size := by omega
    have hg : zv.cells[j]! = zv.cells[j]?.getD undef := by rw [getElem!_pos zv.cells j hj2]; simp [hj2]
    simp [madeCells, hlt, hzs, hmod, Array.getD_eq_getD_getElem?, hg]
  · have := hH.valid _ _ hs; omega
  · refine (hzr j (by omega)).plain ?_ noRho
    rw [List.all_eq_true] at h7
    refine h7 _ ?_
    simp only [List.getD_eq_getElem?_getD, List.getElem?_eq_getElem (show j < (ofVal zv).cells.length by omega), Option.getD_some]
    exact List.getElem_mem _
theorem Inv.grow {w w' : World} {S S' : Cells} {r : Rho} (h : Inv X w S r O) (c : Chg w w' S none) (hS : ∀ b o, S b o → S' b o) (hn : ∀ b o, S' b o → S b o ∨ w.heap.size ≤ b) : Inv X w' S' r O where
  obj := fun k o hk => (h.obj k o hk).keep c hS (RhoLe.refl r) rfl (fun _ _ _ _ e => by cases e) (fun b o' hb => by
    rcases hn b o' hb with h1 | h1
    · exact .inl h1
    · refine .inr fun l hl e => ?_
      have := (h.obj k o hk).blockLt hl e
      omega)
  dom := h.dom
  apart := h.apart
  low := h.low
theorem zdR {w : World} {S : Cells} {r : Rho} {src dst e : TypeId} {l : List UInt8} (hH : Hist X w S) (hI : Inv X w S r O) (hs : P.underlying src = some .string) (hd : P.underlying dst = some (.slice e)) (he : P.underlying e = some (.int .u8))
    (hl : l.length < maxLen) :
    ∃ v w' S' r', (convert src dst (.string ⟨l.toArray⟩)).run P w = .ok v w' ∧ Rel S' w' r' (.sl 1 l.length (bytesF l)) v ∧ Hist X w' S' ∧ Inv X w' S' r' O ∧
        (∀ b o, S b o → S' b o) ∧ (∀ b o, S b o → w'.cell? ⟨b, o, none⟩ = w.cell? ⟨b, o, none⟩) ∧ RhoLe r r' := by
  have hrun := run_bytes_of_string (P := P) w src dst e ⟨l.toArray⟩ hs hd he
  have hsz : (ByteArray.mk l.toArray).size = l.length := by simp [ByteArray.size]
  rw [hsz] at hrun
  have hge := grownCap_ge w l.length 0 e
  have hcm := grownCap_le_maxLen w l.length 0 e (by omega)
  refine ⟨_, _, fun b o => S b o ∨ (b = w.heap.size ∧ o < l.length), r, hrun, ?_, ?_, ?_, fun _ _ h => .inl h, (Chg.drewAlloc w S hH.valid _ none).cell, RhoLe.refl r⟩
  · refine zgF (c := fun i _ => .int .u8 ((l.getD i 0).toNat : Int)) (heap_alloc_new w.drew _) hge hcm (fun i j hi hj => ?_) (fun i j hi hj => .inr ⟨rfl, by omega⟩) (fun i hi => ⟨rfl, rfl⟩) (fun i j hi hj => ?_)
    · have : j = 0 := by omega
      subst this
      simp only [bytesRow, List.map_toArray, Nat.mul_one, Nat.add_zero]
      rw [Array.getElem?_append_left (by simpa using hi)]
      simp [hi, List.getD_eq_getElem?_getD]
    · have : j = 0 := by omega
      subst this
      exact .i ..
  · refine hH.chg (Chg.drewAlloc w S hH.valid _ none) (fun b hb => by cases hb) (fun _ _ h => .inl h) (fun b o h => ?_)
    rcases h with h | ⟨rfl, _⟩
    · exact .inl h
    · exact .inr ⟨.inl hH.size, by simp⟩
  · refine hI.grow (Chg.drewAlloc w S hH.valid _ none) (fun _ _ h => .inl h) (fun b o h => ?_)
    rcases h with h | ⟨rfl, _⟩
    · exact .inl h
    · exact .inr (Nat.le_refl _)
theorem zcD {w : World} {S : Cells} {r : Rho} {t : TypeId} {dx dl dh dm : D} {vx vl vh vm : Value} {lo : Option Value} {s : Stp} (hs : slice0D (tb P) t dx dl dh dm = some s) (hp : s.p) (hx : Rel S w r dx vx)
    (hl : Rel S w r dl (lo.getD vl)) (hh : Rel S w r dh vh) (hm : Rel S w r dm vm) (_hlo : lo = none → True) :
    ∃ v, (Instr.sliceAt t vx lo (some vh) (some vm)).run P w = .ok v w ∧ Rel S w r s.d v ∧ s.wr = [] := by
  unfold slice0D at hs
  split at hs <;> first | (cases hs; done) | skip
  rename_i el z' g by' k1 l k2 h k3 m ht
  obtain ⟨hu, hz, _⟩ := zav ht
  have main : ∀ (a : Option Addr) (len cap : Nat), vx = .slice a len cap → l = 0 → h = 0 → m = 0 → ∃ a', (Instr.sliceAt t vx lo (some vh) (some vm)).run P w = .ok (.slice a' 0 0) w := by
    intro a len cap hv h1 h2 h3
    subst hv h1 h2 h3
    cases hh
    cases hm
    cases lo with
    | none => exact ⟨a, by simp [Instr.sliceAt, Instr.slice, run_underlying hu, Instr.sliceBounds, Instr.sliceBound, asIntOf, zaz (w := w) hz]⟩
    | some v =>
      simp only [Option.getD_some] at hl
      cases hl
      exact ⟨a, by simp [Instr.sliceAt, Instr.slice, run_underlying hu, Instr.sliceBounds, Instr.sliceBound, asIntOf, zaz (w := w) hz]⟩
  split at hs
  · cases hs
    obtain ⟨a, cap, c, hv, _⟩ := zaU hx
    obtain ⟨a', h1⟩ := main a _ cap hv hp.1 hp.2.1 hp.2.2.1
    exact ⟨_, h1, .e0 .., rfl⟩
  · cases hs
    obtain ⟨a, cap, c, hv, _⟩ := zaU hx.shut
    obtain ⟨a', h1⟩ := main a _ cap hv hp.1 hp.2.1 hp.2.2.1
    exact ⟨_, h1, .e0 .., rfl⟩
  · cases hs
    cases hx
    obtain ⟨a', h1⟩ := main none 0 0 rfl hp.1 hp.2.1 hp.2.2
    exact ⟨_, h1, .e0 .., rfl⟩
  · cases hs
set_option maxHeartbeats 2000000 in
theorem zdQ {ar : Bool} {e : Operand → D} {s : Stp} (hs : stepK ar (tb P) e own o = some s) (hp : s.p) (hd : dstOk o.dst n) (he : ∀ x ∈ o.op.operands.toList, evF F x = e x) (hO : ∀ k ∈ s.rd, O k = own k) :
    StepAt P X n o F O s.d s.wr := by
  unfold stepK at hs
  simp only [zbs] at hs
  have hev : ∀ {S : Cells} {w : World} {r : Rho} {a : Act}, (∀ x, Rel S w r (evF F x) (a.eval x)) → ∀ x ∈ o.op.operands.toList, Rel S w r (e x) (a.eval x) := fun hr x hx => he x hx ▸ hr x
  split at hs
  case _ x ho =>
    refine zap hd fun a w S r hH hI hr => ?_
    have hx := hev hr x (by simp [ho, Op.operands])
    cases hs
    exact zaq hH hI rfl (by simp [execOp, ho]) hx
  case _ x ho =>
    refine zap hd fun a w S r hH hI hr => ?_
    have hx := hev hr x (by simp [ho, Op.operands])
    cases hs
    exact zaq hH hI rfl (by simp [execOp, ho]) hx
  case _ c x y ho =>
    refine zap hd fun a w S r hH hI hr => ?_
    obtain ⟨c', h1, h2, h3⟩ := zgn hs (hev hr c (by simp [ho, Op.operands])) (hev hr x (by simp [ho, Op.operands])) (hev hr y (by simp [ho, Op.operands]))
    exact zaq hH hI h3 (by simp [execOp, ho, h1, asBool]) h2
  case _ op t x y yt ho =>
    refine zap hd fun a w S r hH hI hr => ?_
    obtain ⟨v, h1, h2, h3⟩ := zhT (P := P) (x := x) (y := y) hs hp (hev hr x (by simp [ho, Op.operands])) (hev hr y (by simp [ho, Op.operands]))
    refine zaq hH hI h3 ?_ h2
    simp only [execOp, ho, Sem.run_bind] at h1 ⊢
    rw [h1]
    rfl
  case _ op t x ho =>
    refine zap hd fun a w S r hH hI hr => ?_
    have hx := hev hr x (by simp [ho, Op.operands])
    unfold unD at hs
    split at hs <;> first | (cases hs; done) | skip
    · rename_i c hc
      cases hs
      rw [hc] at hx
      generalize hv : a.eval x = vx at hx
      cases hx
      exact zaq hH hI rfl (by simp [execOp, ho, hv, Op.unary]) (.b ..)
    · rename_i k m hc
      rw [hc] at hx
      generalize hv : a.eval x = vx at hx
      cases hx
      obtain ⟨h1, h2⟩ := zcc (S := S) (w := w) (r := r) hs hp
      refine zaq hH hI h2 ?_ h1
      simp [execOp, ho, hv, Op.unary, Op.intArith]
  case _ t1 t2 x ho =>
    have hop := he x (by simp [ho, Op.operands])
    unfold convertD at hs
    refine zap hd fun a w S r hH hI hr => ?_
    have hx := hev hr x (by simp [ho, Op.operands])
    generalize hv : a.eval x = vx at hx
    have hrun : ∀ v, (convert t1 t2 vx).run P w = .ok v w → (execOp a.eval o).run P w = .ok (.value v) w := fun v h => by simp [execOp, ho, hv, h]
    generalize e x = dx at hs hx
    split at hs
    · split at hs <;> first | (cases hs; done) | skip
      rename_i k n' k1 k2 h1 h2
      cases hs
      cases hx
      exact zaq hH hI rfl (hrun _ (by simp [convert, run_underlying (zcb h1), run_underlying (zcb h2), Conv.intToInt])) (.i ..)
    · split at hs <;> first | (cases hs; done) | skip
      · rename_i l h1 h2
        cases hs
        cases hx
        exact zaq hH hI rfl (hrun _ (by simp [convert, run_underlying (zaQ h1), run_underlying (zaQ h2)])) (.s ..)
      · rename_i l el g by' h1 h2
        split at hs <;> first | (cases hs; done) | skip
        rename_i h3
        cases hs
        cases hx
        obtain ⟨v, w', S', r', g1, g2, g3, g4, g5, g6, g7⟩ := zdR (P := P) hH hI (zaQ h1) (zav h2).1 (zcb h3) hp
        exact ⟨v, w', S', r', .inl (by simp [execOp, ho, hv, g1]), g2, g3, g4, g5, g6, g7⟩
    · split at hs <;> first | (cases hs; done) | skip
      rename_i h1 h2
      split at hs <;> first | (cases hs; done) | skip
      rename_i h3
      cases hs
      cases hx
      have := run_convert_bytes_string w t1 t2 _ none 0 0 (zav h1).1 (zcb h3) (zaQ h2)
      exact zaq hH hI rfl (hrun (.string .empty) (by rw [this]; simp [Conv.bytesToString])) (.s ..)
    · split at hs <;> first | (cases hs; done) | skip
      rename_i h1 h2
      split at hs <;> first | (cases hs; done) | skip
      rename_i h3
      cases hs
      obtain ⟨rfl, hf⟩ := hp
      obtain ⟨v', g1, g2⟩ := zcW (zav h1).1 (zcb h3) (zaQ h2) hx hf
      exact zaq hH hI rfl (hrun _ g1) g2
    · split at hs <;> first | (cases hs; done) | skip
      rename_i h1 h2
      split at hs <;> first | (cases hs; done) | skip
      rename_i h3
      cases hs
      obtain ⟨rfl, hf⟩ := hp
      obtain ⟨v', g1, g2⟩ := zcW (zav h1).1 (zcb h3) (zaQ h2) hx.shut hf
      exact zaq hH hI rfl (hrun _ g1) g2
    · cases hs
  case _ t x ix ho =>
    refine zap hd fun a w S r hH hI hr => ?_
    obtain ⟨v, h1, h2, h3⟩ := zhP hs hp (hev hr x (by simp [ho, Op.operands])) (hev hr ix (by simp [ho, Op.operands]))
    exact zaq hH hI h3 (by simp [execOp, ho, h1]) h2
  case _ t x ix ho =>
    refine zap hd fun a w S r hH hI hr => ?_
    obtain ⟨v, h1, h2, h3⟩ := zdT hs hp (hev hr x (by simp [ho, Op.operands])) (hev hr ix (by simp [ho, Op.operands]))
    exact zaq hH hI h3 (by simp [execOp, ho, h1]) h2
  case _ t x j ho =>
    refine zap hd fun a w S r hH hI hr => ?_
    obtain ⟨v, h1, h2, h3⟩ := zcY hs (hev hr x (by simp [ho, Op.operands]))
    exact zaq hH hI h3 (by simp [execOp, ho, h1]) h2
  case _ t x j ho =>
    refine zap hd fun a w S r hH hI hr => ?_
    obtain ⟨v, h1, h2, h3⟩ := zfB hs hp (hev hr x (by simp [ho, Op.operands]))
    exact zaq hH hI h3 (by simp [execOp, ho, h1]) h2
  case _ t x ho =>
    refine zap hd fun a w S r hH hI hr => ?_
    have hx := hev hr x (by simp [ho, Op.operands])
    unfold loadD at hs
    try simp only [zbs] at hs
    split at hs <;> first | (cases hs; done) | skip
    rename_i z hz
    split at hs <;> first | (cases hs; done) | skip
    · rename_i cs off hc
      cases hs
      rw [hc] at hx
      generalize hv : a.eval x = vx at hx
      cases hx with
      | rf _ _ _ b o' c hpl hcell hrel =>
        obtain ⟨v, g1, g2⟩ := zaR (P := P) (r := r) hz hp (fun j hj => (hcell j hj).2) (fun j hj => (hrel j hj).plain (by
          rw [List.all_eq_true] at hpl
          refine hpl _ ?_
          simp only [List.getD_eq_getElem?_getD, List.getElem?_eq_getElem hj, Option.getD_some]
          exact List.getElem_mem hj) r)
        exact zaq hH hI rfl (v := v) (by simp [execOp, ho, hv, g1]) g2
    · rename_i k off hc
      split at hs <;> first | (cases hs; done) | skip
      rename_i cs hcs
      cases hs
      rw [hc] at hx
      generalize hv : a.eval x = vx at hx
      cases hx with
      | pv _ _ _ b hb =>
        have hk : O k = some (.var cs) := (hO k (by simp)).trans hcs
        obtain ⟨b', cur, e', g1, g2, g3, g4, g5⟩ := hI.obj k _ hk
        rw [hb] at g1
        cases g1
        obtain ⟨v, q1, q2⟩ := zaR (P := P) (o := 0) (b := b) (off := off) (c := fun j => cur.getD j undef) hz hp (fun j hj => by
          rw [Nat.zero_add, cell_of_row w b j cur e' (0, 0) g2]
          have : j < cur.size := by omega
          simp [Array.getD_eq_getD_getElem?, this]) (fun j hj => (g4 j hj).1)
        rw [Nat.zero_add] at q1
        exact zaq hH hI rfl (by simp [execOp, ho, hv, q1]) q2
    · rename_i k len f off hc
      rw [hc] at hx
      generalize hv : a.eval x = vx at hx
      cases hx with
      | rn _ _ _ _ _ b hcell =>
        obtain ⟨g1, g2⟩ := zfk (P := P) (S := S) (w := w) (r := r) (off := off) (b := b) hz (fun j hj => (hcell j hj).2)
        simp only [ziT] at hs
        split at hs
        · rename_i hg
          cases hs
          obtain ⟨v, q1, q2⟩ := g1 hg hp
          exact zaq hH hI rfl (by simp [execOp, ho, hv, q1]) q2
        · rename_i hg
          cases hs
          obtain ⟨v, q1, q2⟩ := g2 hg hp
          exact zaq hH hI rfl (by simp [execOp, ho, hv, q1]) q2
    · rename_i k en len i off hc
      split at hs <;> first | (cases hs; done) | skip
      rename_i el e' L f hcs
      cases hs
      obtain ⟨h1, h2, h3, h4⟩ := hp
      subst h1 h2
      rw [hc] at hx
      generalize hv : a.eval x = vx at hx
      cases hx with
      | ap _ _ _ _ _ _ ad tv L' hk' hL hta hag =>
        have hk : O k = some (.arr el en len f) := (hO k (by simp)).trans hcs
        obtain ⟨tv', g1, g2⟩ := hI.obj k _ hk
        rw [hk'] at g1
        cases g1
        obtain ⟨g, cap, htv, rfl⟩ := hta rfl
        rcases g2 with ⟨e1, e2⟩ | ⟨g', cap', cur, e1, g2, g3, g4, g5, g6, g7, g8⟩
        · omega
        rw [htv] at e1
        cases e1
        obtain ⟨v, q1, q2⟩ := zaR (P := P) (o := i * en) (b := g) (off := off) (c := fun j => cur.getD (i * en + j) undef) (r := noRho) hz h4 (fun j hj => by
          rw [cell_of_row w g _ cur el (0, 0) g2]
          have hfl := (g6 i h3).1
          have : (i + 1) * en ≤ cap * en := Nat.mul_le_mul_right en (by omega)
          rw [Nat.add_mul] at this
          have : i * en + j < cur.size := by omega
          simp [Array.getD_eq_getD_getElem?, this]) (fun j hj => g7 i j h3 (by rw [(g6 i h3).1] at hj; exact hj))
        exact zaq hH hI rfl (by simp [execOp, ho, hv, q1]) (q2.mono (fun _ _ h => h) (fun _ _ _ => rfl) r (fun k l h => by simp [noRho] at h))
  case _ t x y ho =>
    refine zap hd fun a w S r hH hI hr => ?_
    have hx := hev hr x (by simp [ho, Op.operands])
    have hy := hev hr y (by simp [ho, Op.operands])
    split at hs
    · rename_i hq1 hq2
      unfold storeA at hs
      simp only [zbs] at hs
      split at hs <;> first | (cases hs; done) | skip
      rename_i z k en len i off hz hc
      split at hs <;> first | (cases hs; done) | skip
      rename_i el e' L f hcs
      cases hs
      obtain ⟨h1, h2, h3, h4, h5, h6, h7⟩ := hp
      subst h2
      rw [hc] at hx
      have hk : O k = some (.arr el en L f) := (hO k (by simp)).trans hcs
      obtain ⟨w', g1, g2, g3, g4⟩ := zke (P := P) hH hI hx hy hz hk h1 h3 h4 h5 h6 h7
      exact ⟨undef, w', S, r, .inr ⟨by simp [execOp, ho, g1], rfl⟩, .any .., g2, g3, fun _ _ h => h, g4, RhoLe.refl r⟩
    unfold storeD at hs
    simp only [zbs, zbx] at hs
    split at hs <;> first | (cases hs; done) | skip
    rename_i z k off hz hc
    split at hs <;> first | (cases hs; done) | skip
    rename_i cs hcs
    cases hs
    rw [hc] at hx
    have hk : O k = some (.var cs) := (hO k (by simp)).trans hcs
    obtain ⟨h1, h2, h3, h4⟩ := hp
    obtain ⟨w', g1, g2, g3, g4⟩ := zkz (P := P) hH hI hx hy hz hk h1 h2 h3 h4
    exact ⟨undef, w', S, r, .inr ⟨by simp [execOp, ho, g1], rfl⟩, .any .., g2, g3, fun _ _ h => h, g4, RhoLe.refl r⟩
  case _ t ho =>
    split at hs <;> first | (cases hs; done) | skip
    rename_i d hz
    obtain ⟨i, zv, h1, h2, rfl⟩ := zaW hz
    unfold boxD at hs
    simp only [zbx] at hs
    split at hs <;> first | (cases hs; done) | skip
    rename_i k hdst
    split at hs <;> first | (cases hs; done) | skip
    rename_i hk
    cases hs
    refine zap hd fun a w S r hH hI hr => ?_
    have hk' : O k = none := (hO k (by simp)).trans hk
    obtain ⟨S', r', g1, g2, g3, g4, g5, g6⟩ := zfg t hH hI (zbf S w r zv) hp.1 hp.2 hk'
    refine ⟨_, _, S', r', .inl ?_, g1, g2, g3, g4, g5, g6⟩
    simp [execOp, ho, Instr.alloc, zeroValue, typeInfo, h1, h2, newVar, newRow]
  case _ t x ho =>
    unfold boxD at hs
    simp only [zbx] at hs
    split at hs <;> first | (cases hs; done) | skip
    rename_i k hdst
    split at hs <;> first | (cases hs; done) | skip
    rename_i hk
    cases hs
    refine zap hd fun a w S r hH hI hr => ?_
    have hx := hev hr x (by simp [ho, Op.operands])
    have hk' : O k = none := (hO k (by simp)).trans hk
    obtain ⟨S', r', g1, g2, g3, g4, g5, g6⟩ := zfg t hH hI hx hp.1 hp.2 hk'
    refine ⟨_, _, S', r', .inl ?_, g1, g2, g3, g4, g5, g6⟩
    simp [execOp, ho, Instr.box, newVar, newRow]
  case _ t parts ho =>
    refine zap hd fun a w S r hH hI hr => ?_
    have hpt := zez (S := S) (w := w) (r := r) (e := e) (ρ := a.eval) parts.toList (fun i x hx => hev hr x (by
      simp only [ho, Op.operands, List.mem_map]
      exact ⟨(i, x), hx, rfl⟩))
    obtain ⟨v, h1, h2, h3⟩ := zfS (P := P) hs hpt
    refine zaq hH hI h3 ?_ h2
    have e' : ((parts.toList.map fun (i, x) => (i, a.eval x)).toArray : Array (Nat × Value)) = parts.map fun (i, x) => (i, a.eval x) := by
      apply Array.ext'
      simp
    rw [e'] at h1
    simp [execOp, ho, h1]
  case _ t len parts ho =>
    unfold buildSliceD at hs
    simp only [zbx] at hs
    split at hs <;> first | (cases hs; done) | skip
    rename_i k el z g by' hdst ht
    split at hs <;> first | (cases hs; done) | skip
    rename_i zd cs hk hz hfill
    cases hs
    refine zap hd fun a w S r hH hI hr => ?_
    have hpt := zez (S := S) (w := w) (r := r) (e := fun x => (e x).shutA) (ρ := a.eval) parts.toList (fun i x hx => (hev hr x (by
      simp only [ho, Op.operands, List.mem_map]
      exact ⟨(i, x), hx, rfl⟩)).shutA)
    have hk' : O k = none := (hO k (by simp)).trans hk
    obtain ⟨v, w', g0, S', r', g1, g2, g3, g4, g5, g6⟩ := zeN ar (P := P) hH hI ht hz hfill hpt hp.1 hp.2.1 hp.2.2 hk'
    refine ⟨v, w', S', r', .inl ?_, g1, g2, g3, g4, g5, g6⟩
    have e' : ((parts.toList.map fun (i, x) => (i, a.eval x)).toArray : Array (Nat × Value)) = parts.map fun (i, x) => (i, a.eval x) := by
      apply Array.ext'
      simp
    rw [e'] at g0
    simp [execOp, ho, g0]
  case _ x j ho =>
    refine zap hd fun a w S r hH hI hr => ?_
    have hx := hev hr x (by simp [ho, Op.operands])
    unfold extractD at hs
    try simp only [zbs] at hs
    split at hs <;> first | (cases hs; done) | skip
    rename_i vs hc
    split at hs <;> first | (cases hs; done) | skip
    rename_i d hj
    cases hs
    rw [hc] at hx
    generalize hv : a.eval x = vx at hx
    cases hx with
    | tu _ _ us hn h =>
      have hlt : j < vs.length := (List.getElem?_eq_some_iff.1 hj).1
      obtain ⟨u, hu, hru⟩ := zkI hn h hlt
      have : vs.getD j .any = d := by simp [List.getD_eq_getElem?_getD, hj]
      rw [this] at hru
      exact zaq hH hI rfl (by simp [execOp, ho, hv, Instr.extract, hu]) hru
  case _ x ho =>
    refine zap hd fun a w S r hH hI hr => ?_
    have hx := hev hr x (by simp [ho, Op.operands])
    unfold nilCheckD at hs
    split at hs <;> first | (cases hs; done) | skip
    · rename_i k o' hc
      cases hs
      rw [hc] at hx
      generalize hv : a.eval x = vx at hx
      cases hx with
      | pv _ _ _ b hb => exact zaq hH hI rfl (by simp [execOp, ho, hv]) (.pv _ _ _ b hb)
    · rename_i k o' hc
      cases hs
      rw [hc] at hx
      generalize hv : a.eval x = vx at hx
      cases hx with
      | rf _ _ _ b o2 c h1 h2 h3 => exact zaq hH hI rfl (by simp [execOp, ho, hv]) (.rf _ _ _ b o2 c h1 h2 h3)
    · rename_i k1 k2 k3 k4 k5 hc
      cases hs
      rw [hc] at hx
      generalize hv : a.eval x = vx at hx
      cases hx with
      | ap _ _ _ _ _ _ ad tv L' hk' hL hta hag => exact zaq hH hI rfl (by simp [execOp, ho, hv]) (.ap _ _ _ _ _ _ ad tv L' hk' hL hta hag)
  case _ t x lo hi ho =>
    refine zap hd fun a w S r hH hI hr => ?_
    have hx := hev hr x (by simp [ho, Op.operands])
    have hlo : ∀ y, lo = some y → Rel S w r (e y) (a.eval y) := fun y hy => hev hr y (by simp [ho, Op.operands, hy])
    have hhi : ∀ y, hi = some y → Rel S w r (e y) (a.eval y) := fun y hy => hev hr y (by simp [ho, Op.operands, hy])
    unfold sliceD at hs
    split at hs <;> first | (cases hs; done) | skip
    · rename_i l hc ht
      split at hs <;> first | (cases hs; done) | skip
      rename_i n' m hb
      cases hs
      obtain ⟨h0, h1, h2⟩ := hp
      rw [hc] at hx
      generalize hv : a.eval x = vx at hx
      cases hx
      have hbs := zbC (P := P) (isSlice := false) (cap := l.length) hb hlo hhi h0 h1 h2 (Nat.le_refl _)
      have hsz : (ByteArray.mk l.toArray).size = l.length := by simp [ByteArray.size]
      refine zaq hH hI rfl (v := .string ((ByteArray.mk l.toArray).extract n'.toNat m.toNat)) ?_ ?_
      · have hna : ∀ k e', TypeDesc.string ≠ .array k e' := fun _ _ => by simp
        simp [execOp, ho, hv, Instr.sliceAt, Instr.slice, run_underlying (zaQ ht), hsz, hbs]
      · have : (ByteArray.mk l.toArray).extract n'.toNat m.toNat = ⟨((l.take m.toNat).drop n'.toNat).toArray⟩ := by
          apply ByteArray.ext
          simp [List.drop_take]
        rw [this]
        exact .s ..
    · rename_i z len f el z' g by' hc ht
      split at hs <;> first | (cases hs; done) | skip
      rename_i n' m hb
      cases hs
      obtain ⟨h0, h1, h2, rfl⟩ := hp
      rw [hc] at hx
      obtain ⟨va, cap, c, hv, hcap, _⟩ := zaU hx
      rw [hv] at hx
      have hbs := zbC (P := P) (isSlice := true) (cap := cap) hb hlo hhi h0 h1 h2 hcap
      obtain ⟨hu, hz, _⟩ := zav ht
      have hsub := zfF hx (lo := n'.toNat) (hi := m.toNat) (by omega) (by omega)
      refine zaq hH hI rfl ?_ hsub
      simp [execOp, ho, hv, Instr.sliceAt, Instr.slice, run_underlying hu, hbs, zaz (w := w) hz]
    · rename_i k z len f el z' g by' hc ht
      split at hs <;> first | (cases hs; done) | skip
      rename_i n' m hb
      cases hs
      obtain ⟨h0, h1, h2, rfl⟩ := hp
      rw [hc] at hx
      have hx := hx.shut
      obtain ⟨va, cap, c, hv, hcap, _⟩ := zaU hx
      rw [hv] at hx
      have hbs := zbC (P := P) (isSlice := true) (cap := cap) hb hlo hhi h0 h1 h2 hcap
      obtain ⟨hu, hz, _⟩ := zav ht
      have hsub := zfF hx (lo := n'.toNat) (hi := m.toNat) (by omega) (by omega)
      refine zaq hH hI rfl ?_ hsub
      simp [execOp, ho, hv, Instr.sliceAt, Instr.slice, run_underlying hu, hbs, zaz (w := w) hz]
  case _ t x hi mx ho =>
    refine zap hd fun a w S r hH hI hr => ?_
    have hx := hev hr x (by simp [ho, Op.operands])
    have h1 := hev hr hi (by simp [ho, Op.operands])
    have h2 := hev hr mx (by simp [ho, Op.operands])
    obtain ⟨v, g1, g2, g3⟩ := zcD (P := P) (lo := none) (vl := .int .i64 0) hs hp hx (.i ..) h1 h2 (fun _ => trivial)
    exact zaq hH hI g3 (by simp [execOp, ho, g1]) g2
  case _ t x lo hi mx ho =>
    refine zap hd fun a w S r hH hI hr => ?_
    have hx := hev hr x (by simp [ho, Op.operands])
    have h0 := hev hr lo (by simp [ho, Op.operands])
    have h1 := hev hr hi (by simp [ho, Op.operands])
    have h2 := hev hr mx (by simp [ho, Op.operands])
    obtain ⟨v, g1, g2, g3⟩ := zcD (P := P) (lo := some (a.eval lo)) (vl := undef) hs hp hx h0 h1 h2 (fun _ => trivial)
    exact zaq hH hI g3 (by simp [execOp, ho, g1]) g2
  case _ t l c ho =>
    unfold makeD at hs
    simp only [zbx] at hs
    split at hs <;> first | (cases hs; done) | skip
    rename_i k el z gg by' k1 n1 k2 n2 hdst ht hl hc
    split at hs <;> first | (cases hs; done) | skip
    rename_i zd hk hz
    cases hs
    obtain ⟨h1, h2, h3, h4, h5, h6, h7, h8⟩ := hp
    refine zap hd fun a w S r hH hI hr => ?_
    have hrl := hev hr l (by simp [ho, Op.operands])
    have hrc := hev hr c (by simp [ho, Op.operands])
    rw [hl] at hrl
    rw [hc] at hrc
    generalize hvl : a.eval l = vl at hrl
    generalize hvc : a.eval c = vc at hrc
    cases hrl
    cases hrc
    have hk' : O k = none := (hO k (by simp)).trans hk
    obtain ⟨v, w', g0, S', r', g1, g2, g3, g4, g5, g6⟩ := zmd (P := P) (kl := k1) (kc := k2) hH hI ht hz hk' h1 h2 h3 h4 h5 h6 h7 h8
    exact ⟨v, w', S', r', .inl (by simp [execOp, ho, hvl, hvc, g0]), g1, g2, g3, g4, g5, g6⟩
  case _ f cs ho =>
    simp only [zbx] at hs
    cases hs
    refine zap hd fun a w S r hH hI hr => ?_
    refine zaq hH hI rfl (v := .func (.func f) #[] (cs.map a.eval).toArray) (by simp [execOp, ho, Instr.makeFunc]) ?_
    refine .fn _ f _ _ (by simp) (fun j hj => ?_)
    have hj' : j < cs.length := by simpa using hj
    have hx := hev hr cs[j] (by simp [ho, Op.operands])
    simpa [Array.getD_eq_getD_getElem?, List.getD_eq_getElem?_getD, hj'] using hx
  case _ x t ho =>
    refine zap hd fun a w S r hH hI hr => ?_
    obtain ⟨v, h1, h2, h3⟩ := zhs (P := P) (ty := o.type) hs (hev hr x (by simp [ho, Op.operands, Call.operands]))
    exact zaq hH hI h3 (by simp [execOp, ho, resolve, invoke, builtin, h1]) h2
  case _ x y t t2 ho =>
    have hmx : x ∈ o.op.operands.toList := by simp [ho, Op.operands, Call.operands]
    have hmy : y ∈ o.op.operands.toList := by simp [ho, Op.operands, Call.operands]
    unfold appendD at hs
    split at hs <;> first | (cases hs; done) | skip
    rename_i el z g by' ht
    obtain ⟨hu, hz, it, hi1, hi2, hi3⟩ := zav ht
    split at hs <;> first | (cases hs; done) | skip
    rename_i e2 m gf hzo hsrc
    obtain ⟨zv, hzv, hzs⟩ : ∃ zv, it.zero = some zv ∧ zv.cells.size = z := by
      unfold zeroOk at hzo
      split at hzo
      · rename_i zd hzd
        simp only [Bool.and_eq_true] at hzo
        obtain ⟨ii, zv, hii, hzv, rfl⟩ := zaW hzd
        rw [hi1] at hii
        cases hii
        refine ⟨zv, hzv, ?_⟩
        rw [(zaY (zbf (fun _ _ => False) default noRho zv) hzo.2).1]
        exact Nat.eq_of_beq_eq_true hzo.1
      · cases hzo
    have hflat0 : ∀ c : Nat → Nat → Value, flat e2 0 c = [] := fun c => by simp [flat]
    have hnew : (∀ {S : Cells} {w : World} {r : Rho} {a : Act}, (∀ x, Rel S w r (evF F x) (a.eval x)) → ∃ ax, a.eval x = .slice ax 0 0) → appendN ar own o.dst el z by' e2 m gf = some s → StepAt P X n o F O s.d s.wr := by
      intro hv hs
      unfold appendN at hs
      split at hs <;> first | (cases hs; done) | skip
      rename_i k hdst
      split at hs <;> first | (cases hs; done) | skip
      rename_i hk
      cases hs
      obtain ⟨h1, h6, h7, h8⟩ := hp
      subst h1
      have hk' : O k = none := (hO k (by simp)).trans hk
      refine zap hd fun a w S r hH hI hr => ?_
      obtain ⟨ax, hax⟩ := hv hr
      obtain ⟨c2, q1, q2, q3⟩ := zbY (P := P) hsrc hu (hev hr y hmy) h6
      rcases Nat.eq_zero_or_pos m with rfl | hm0
      · rw [hflat0] at q1
        obtain ⟨v, w', g0, S', r', g1, g2, g3, g4, g5, g6⟩ := zdK ar (P := P) (ty := o.type) (z := e2) (g := gf) (ax := ax) hH hI hu hi1 (by rw [hi2]; exact q1) hk'
        exact ⟨v, w', S', r', .inl (by simp [execOp, ho, resolve, invoke, builtin, hax, g0]), g1, g2, g3, g4, g5, g6⟩
      · obtain ⟨v, w', g0, S', r', g1, g2, g3, g4, g5, g6⟩ := zdG ar (P := P) (ty := o.type) (L := 0) (capx := 0) (ax := ax) (f := gf) (g := gf) (c1 := fun _ _ => undef) hH hI hu hi1 hi2 hzv hzs h6 (Nat.le_refl _) (fun i hi => by omega) (fun i j hi => by omega) (fun i j hi => by omega)
          q1 q2 q3 hm0 (by unfold maxLen; omega) (by rw [hi3, Nat.zero_add]; exact h8) (.inl ⟨hk', rfl, rfl⟩)
        rw [zjL gf gf m rfl, Nat.zero_add] at g1 g3
        exact ⟨v, w', S', r', .inl (by simp [execOp, ho, resolve, invoke, builtin, hax, g0]), g1, g2, g3, g4, g5, g6⟩
    split at hs
    · rename_i k en nn f hx0
      split at hs <;> first | (cases hs; done) | skip
      rename_i el' e' L hk
      cases hs
      obtain ⟨h1, h2, h3, h4, h5, h6, h7, h8⟩ := hp
      subst h1 h2 h4 h5
      have hk' : O k = some (mkO false el' e' nn f) := (hO k (by simp)).trans hk
      subst h3
      refine zap hd fun a w S r hH hI hr => ?_
      have hx := hev hr x hmx
      rw [hx0] at hx
      obtain ⟨c2, q1, q2, q3⟩ := zbY (P := P) hsrc hu (hev hr y hmy) h6
      obtain ⟨ax, capx, c1, hax, hcx, hmx', hl1, hr1, hcell1⟩ := zaU hx.shut
      have htip : ∀ tv, r k = some (.row tv nn) → Tip (.slice ax nn capx) tv := fun tv htv => by
        rw [hax] at hx
        cases hx with
        | gs _ _ _ _ _ _ tv' L' h hk0 hL ht =>
          rw [htv] at hk0
          cases hk0
          exact ht rfl
      rcases Nat.eq_zero_or_pos m with rfl | hm0
      · rw [hflat0] at q1
        have hrun := zbl (P := P) (w := w) (ty := o.type) (base := ax) hu hi1 hcx (by rw [hi2]; exact q1)
        refine ⟨.slice ax nn capx, w, S, r, .inl (by simp [execOp, ho, resolve, invoke, builtin, hax, hrun]), ?_, hH, ?_, fun _ _ h => h, fun _ _ _ => rfl, RhoLe.refl r⟩
        · rw [← hax, zfh]
          exact hx
        · have e2 := zgY hk'
          simp only [mkO] at e2
          show Inv X w S r (updO O [(k, Own.row el' e' (nn + 0))])
          rw [Nat.add_zero, e2]
          exact hI
      · obtain ⟨v, w', g0, S', r', g1, g2, g3, g4, g5, g6⟩ := zdG false (P := P) (ty := o.type) (capx := capx) (ax := ax) hH hI hu hi1 hi2 hzv hzs h6 hcx hl1 hr1 (fun i j hi hj => by
            obtain ⟨b, o', w1, _, w2⟩ := hcell1 i j hi hj
            exact ⟨b, o', w1, w2⟩) q1 q2 q3 hm0 (by unfold maxLen; omega) (by rw [hi3]; exact h8) (.inr ⟨hk', htip⟩)
        exact ⟨v, w', S', r', .inl (by simp [execOp, ho, resolve, invoke, builtin, hax, g0]), g1, g2, g3, g4, g5, g6⟩
    · rename_i k en nn hx0
      split at hs <;> first | (cases hs; done) | skip
      rename_i el' e' L f hk
      cases hs
      obtain ⟨h1, h2, h3, h4, h5, h6, h7, h8⟩ := hp
      subst h1 h2 h4 h5
      have hk' : O k = some (mkO true el' e' nn f) := (hO k (by simp)).trans hk
      subst h3
      refine zap hd fun a w S r hH hI hr => ?_
      have hx := hev hr x hmx
      rw [hx0] at hx
      obtain ⟨c2, q1, q2, q3⟩ := zbY (P := P) hsrc hu (hev hr y hmy) h6
      obtain ⟨tv0, htv0, hrow⟩ := hI.obj k _ hk'
      generalize hax : a.eval x = vx at hx
      cases hx with
      | ah _ _ _ _ capx ax tv' L' hk0 hL hta hag =>
        rw [hk0] at htv0
        cases htv0
        have htip : ∀ tv, r k = some (.row tv nn) → Tip (.slice ax nn capx) tv := fun tv htv => by
          rw [hk0] at htv
          cases htv
          exact hta rfl
        -- the elements' cells
        have hcells : nn ≤ capx ∧ ∃ c1 : Nat → Nat → Value, (∀ i, i < nn → (f i).length = e' ∧ (f i).all D.plain = true) ∧ (∀ i j, i < nn → j < e' → Rel S w noRho ((f i).getD j .any) (c1 i j)) ∧
            (∀ i j, i < nn → j < e' → ∃ b o, ax = some ⟨b, o, none⟩ ∧ w.cell? ⟨b, o + i * e' + j, none⟩ = some (c1 i j)) := by
          rcases hrow with ⟨_, rfl⟩ | ⟨g, cap, cur, rfl, w1, w2, w3, w4, w5, w6, w7⟩
          · exact ⟨Nat.zero_le _, fun _ _ => undef, fun i hi => by omega, fun i j hi => by omega, fun i j hi => by omega⟩
          · rcases hta rfl with e1 | ⟨e1, _⟩
            · cases e1
              refine ⟨w2, fun i j => cur.getD (i * e' + j) undef, w5, w6, fun i j hi hj => ⟨g, 0, rfl, ?_⟩⟩
              rw [Nat.zero_add, cell_of_row w g _ cur el' (0, 0) w1]
              have : (i + 1) * e' ≤ capx * e' := Nat.mul_le_mul_right e' (by omega)
              rw [Nat.add_mul] at this
              have : i * e' + j < cur.size := by omega
              simp [Array.getD_eq_getD_getElem?, this]
            · cases e1
        obtain ⟨hcx, c1, hl1, hr1, hcell1⟩ := hcells
        rcases Nat.eq_zero_or_pos m with rfl | hm0
        · rw [hflat0] at q1
          have hrun := zbl (P := P) (w := w) (ty := o.type) (base := ax) hu hi1 hcx (by rw [hi2]; exact q1)
          refine ⟨_, w, S, r, .inl (by simp [execOp, ho, resolve, invoke, builtin, hax, hrun]), .ah _ _ _ _ capx ax _ _ hk0 hL hta hag, hH, ?_, fun _ _ h => h, fun _ _ _ => rfl, RhoLe.refl r⟩
          have e2 := zgY hk'
          simp only [mkO] at e2
          show Inv X w S r (updO O [(k, Own.arr el' e' (nn + 0) (catF nn f 0 gf))])
          rw [Nat.add_zero, zfh, e2]
          exact hI
        · obtain ⟨v, w', g0, S', r', g1, g2, g3, g4, g5, g6⟩ := zdG true (P := P) (ty := o.type) (capx := capx) (ax := ax) hH hI hu hi1 hi2 hzv hzs h6 hcx hl1 hr1 hcell1 q1 q2 q3 hm0 (by unfold maxLen; omega) (by rw [hi3]; exact h8) (.inr ⟨hk', htip⟩)
          exact ⟨v, w', S', r', .inl (by simp [execOp, ho, resolve, invoke, builtin, hax, g0]), g1, g2, g3, g4, g5, g6⟩
    · rename_i hx0
      refine hnew (fun {S w r a} hr => ?_) hs
      have hx := hev hr x hmx
      rw [hx0] at hx
      generalize a.eval x = vx at hx
      cases hx
      exact ⟨_, rfl⟩
    · rename_i z' hx0
      split at hs <;> first | (cases hs; done) | skip
      refine hnew (fun {S w r a} hr => ?_) hs
      have hx := hev hr x hmx
      rw [hx0] at hx
      generalize a.eval x = vx at hx
      cases hx
      exact ⟨_, rfl⟩
    · cases hs
  case _ x y ts ho =>
    refine zap hd fun a w S r hH hI hr => ?_
    obtain ⟨v, h1, h2, h3⟩ := zhD (P := P) (a := ts) (ty := o.type) hs (hev hr x (by simp [ho, Op.operands, Call.operands])) (hev hr y (by simp [ho, Op.operands, Call.operands]))
    exact zaq hH hI h3 (by simp [execOp, ho, resolve, invoke, builtin, h1]) h2
  case _ x y ts ho =>
    refine zap hd fun a w S r hH hI hr => ?_
    obtain ⟨v, h1, h2, h3⟩ := zih (P := P) (a := ts) (ty := o.type) hs (hev hr x (by simp [ho, Op.operands, Call.operands])) (hev hr y (by simp [ho, Op.operands, Call.operands]))
    exact zaq hH hI h3 (by simp [execOp, ho, resolve, invoke, builtin, h1]) h2
  case _ => cases hs
theorem zhr {e : Operand → D} {s : Stp} (hs : step (tb P) e own o = some s) (hp : s.p) (hd : dstOk o.dst n) (he : ∀ x ∈ o.op.operands.toList, evF F x = e x) (hO : ∀ k ∈ s.rd, O k = own k) :
    StepAt P X n o F O s.d s.wr := zdQ hs hp hd he hO
end
end Go.Proofs.YtkkaamhocpmhkaaGreatDoor.Flow
