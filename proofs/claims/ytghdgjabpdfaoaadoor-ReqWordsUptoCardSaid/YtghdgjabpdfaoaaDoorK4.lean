/- The texts FlowZb, U0, Shelf, W0, W1, one behind the other. -/
import Derived.Test.YtghdgjabpdfaoaaDoorK3
import Derived.Lib.FrozenHead
import Derived.Laws.BitsLemmas
import Derived.Shelf.Strings.Trim
import Derived.Shelf.Small.Strs
import Derived.Shelf.Strings.Cut
import Derived.Shelf.Strings.Split
import Derived.Test.YtghdgjabpdfaoaaDoorProg
import Derived.Shelf.Strings.SlTrimAscii
import Derived.Lib.SplitLaws
/-
  FLOW, PART ZB: A TEXT TURNED INTO BYTES THAT ARE WRITTEN TO, AND BACK.
-/
namespace Go.Proofs.YtghdgjabpdfaoaaDoor.Flow
open Go

/-- Cells written ahead of a frozen range. -/
theorem run_storeCells_ahead (P : Program) (g o : Nat) (t : TypeId) (fz : Nat × Nat) (v : Value) (cur : Array Value) (w : World) (hg : w.heap[g]? = some (.cells cur t fz)) (hfz : o < fz.1) (hl : o < cur.size) (h1 : v.oneCell' = true) :
    (storeCells ⟨g, o, none⟩ [v] 0).run P w = .ok () (w.setRow g (cur.setIfInBounds o v)) := by
  have hadd : (⟨g, o, none⟩ : Addr).add 0 = ⟨g, o, none⟩ := by unfold Addr.add; split <;> simp_all
  have hcell : w.cell? ⟨g, o, none⟩ = some cur[o] := by simp [World.cell?, hg, hl]
  have hfro : w.frozen? ⟨g, o, none⟩ = false := by
    obtain ⟨lo, hi'⟩ := fz
    simp only [World.frozen?, hg, Bool.and_eq_false_iff, decide_eq_false_iff_not]
    left
    simp only at hfz
    omega
  have hst : (store ((⟨g, o, none⟩ : Addr).add 0) v).run P w = .ok () (w.setRow g (cur.setIfInBounds o v)) := by
    rw [hadd, run_store P w _ v _ h1, hcell]
    simp [hfro, setCell_eq_setRow w g o cur t fz v hg]
  simp [storeCells, Sem.run_bind, hst, Result.andThen_ok]

section
variable {P : Program} {X : Ctx} {n : Nat} {o : Oper} {fr : Fr} {ow : Ow} {t k : Nat} {ty src dst e : TypeId} {x y : Operand} {l : List UInt8} {len i : Nat} {f : Nat → Int}

theorem cvB_step (ho : o.op = .convert src dst x) (hs : P.underlying src = some .string) (hd' : P.underlying dst = some (.slice e)) (he' : P.underlying e = some (.int .u8)) (hx : ev fr x = .s l) (hl : l.length < maxLen) (hk : look k ow = none) (hd : dstOk o.dst n) :
    ∀ F' O', (∀ y ∈ o.op.operands.toList, evF F' y = evF (fF fr) y) → (∀ j ∈ [k], O' j = fO ow j) → StepAt P X n o F' O' (.ah k 1 l.length) [(k, .bm e l.length fun i => ((l.getD i 0).toNat : Int))] := by
  intro F' O' he hO
  refine stepAt_of hd fun a w S r hH hI hr => ?_
  have hk' : O' k = none := (hO k (by simp)).trans hk
  have hx' := hr x
  rw [he x (by simp [ho, Op.operands]), evF_fF, hx] at hx'
  generalize hv : a.eval x = vx at hx'
  cases hx'
  have hrun := run_bytes_of_string (P := P) w src dst e ⟨l.toArray⟩ hs hd' he'
  have hsz : (ByteArray.mk l.toArray).size = l.length := by simp [ByteArray.size]
  rw [hsz] at hrun
  have hge := grownCap_ge w l.length 0 e
  have hcm := grownCap_le_maxLen w l.length 0 e (by omega)
  generalize hcap : grownCap w l.length 0 e = cap at *
  have hc := Chg.drewAlloc w S hH.valid (.cells (bytesRow ⟨l.toArray⟩ cap) e ((bytesRow ⟨l.toArray⟩ cap).size, (bytesRow ⟨l.toArray⟩ cap).size + 1)) none
  have hle : RhoLe r (updR r k (.row (.slice (some ⟨w.heap.size, 0, none⟩) l.length cap) l.length)) := RhoLe.new (hI.dom k hk')
  have hk0 : updR r k (.row (.slice (some ⟨w.heap.size, 0, none⟩) l.length cap) l.length) k = some (.row (.slice (some ⟨w.heap.size, 0, none⟩) l.length cap) l.length) := by simp [updR]
  refine ⟨_, _, S, _, .inl (by simp [execOp, ho, hv, hrun]), .ah _ k 1 l.length cap _ _ l.length hk0 (Nat.le_refl _) (fun _ => .refl _) (fun _ => ⟨_, rfl⟩), hH.chg hc (fun b hb => by cases hb) (fun _ _ h => h) (fun _ _ h => .inl h), ?_, fun _ _ h => h, hc.cell, hle⟩
  refine hI.put hc (fun _ _ h => h) hle k _ _ ⟨w.heap.size, cap, _, hk0, heap_alloc_new w.drew _, hge, hcm, ?_, fun i hi => ?_, fun o ho => by have := hH.valid _ _ ho; omega⟩ hk0 (fun j hj => by simp [updR, hj]) (fun b hb => ?_) (fun b hb => by cases hb) (fun b o h => .inl h)
  · simp [bytesRow]
  · simp only [bytesRow, List.map_toArray, Array.getD_eq_getD_getElem?]
    rw [Array.getElem?_append_left (by simpa using hi)]
    simp [hi, List.getD_eq_getElem?_getD]
  · simp only [Loc.block, Option.some.injEq] at hb
    subst hb
    exact .inl ⟨Nat.le_refl _, .inl hH.size⟩

theorem ldB_step {B' : Tb} (hB : tb P = B') (ho : o.op = .load ty x) (hz : B'.sz ty = some (1, false)) (hx : ev fr x = .ap k 1 len i 0) (hk : look k ow = some (.bm e len f)) (hi : i < len) (hd : dstOk o.dst n) :
    ∀ F' O', (∀ y ∈ o.op.operands.toList, evF F' y = evF (fF fr) y) → (∀ j ∈ [k], O' j = fO ow j) → StepAt P X n o F' O' (.i .u8 (f i)) [] := by
  intro F' O' he hO
  have hz' : szOf P ty = some (1, false) := by subst hB; exact hz
  refine stepAt_of hd fun a w S r hH hI hr => ?_
  have hx' := hr x
  rw [he x (by simp [ho, Op.operands]), evF_fF, hx] at hx'
  obtain ⟨g, cap, cur, h1, h2, h3, h4, h5, h6, h7⟩ := hI.obj k _ ((hO k (by simp)).trans hk)
  generalize hv : a.eval x = vx at hx'
  cases hx' with
  | ap _ _ _ _ _ _ ad tv L' q1 q2 q3 q4 =>
    rw [h1] at q1
    cases q1
    obtain ⟨g', cap', q5, rfl⟩ := q3 rfl
    cases q5
    obtain ⟨v, r1, r2⟩ := run_load_part (P := P) (w := w) (S := S) (o := i * 1) (b := g) (off := 0) (cs := [.i .u8 (f i)]) (c := fun j => cur.getD (i + j) undef) (r := noRho) hz' (Nat.le_refl 1) (fun j hj => by
      obtain rfl : j = 0 := by simpa using hj
      rw [cell_of_row w g _ cur e _ h2]
      simp [Array.getD_eq_getD_getElem?, show i < cur.size by omega]) (fun j hj => by
      obtain rfl : j = 0 := by simpa using hj
      rw [Nat.add_zero, h6 i hi]
      exact .i ..)
    rw [Nat.mul_one, Nat.add_zero] at r1 hv
    exact fin_value hH hI rfl (by simp [execOp, ho, hv, r1]) (r2.mono (fun _ _ h => h) (fun _ _ _ => rfl) r (fun k l h => by simp [noRho] at h))

theorem stB_step {B' : Tb} {m : Int} (hB : tb P = B') (ho : o.op = .store ty x y) (hz : B'.sz ty = some (1, false)) (hx : ev fr x = .ap k 1 len i 0) (hy : ev fr y = .i .u8 m) (hk : look k ow = some (.bm e len f)) (hi : i < len) (hd : dstOk o.dst n) :
    ∀ F' O', (∀ y ∈ o.op.operands.toList, evF F' y = evF (fF fr) y) → (∀ j ∈ [k], O' j = fO ow j) → StepAt P X n o F' O' .any [(k, .bm e len fun j => if j = i then m else f j)] := by
  intro F' O' he hO
  have hz' : szOf P ty = some (1, false) := by subst hB; exact hz
  refine stepAt_of hd fun a w S r hH hI hr => ?_
  have hx' := hr x
  rw [he x (by simp [ho, Op.operands]), evF_fF, hx] at hx'
  have hy' := hr y
  rw [he y (by simp [ho, Op.operands]), evF_fF, hy] at hy'
  have hkO := (hO k (by simp)).trans hk
  obtain ⟨g, cap, cur, h1, h2, h3, h4, h5, h6, h7⟩ := hI.obj k _ hkO
  generalize hv : a.eval x = vx at hx'
  generalize hvy : a.eval y = vy at hy'
  cases hy'
  cases hx' with
  | ap _ _ _ _ _ _ ad tv L' q1 q2 q3 q4 =>
    rw [h1] at q1
    cases q1
    obtain ⟨g', cap', q5, rfl⟩ := q3 rfl
    cases q5
    have hs := run_sizeOf (w := w) hz'
    have hst := run_storeCells_ahead P g i e _ (.int .u8 m) cur w h2 (by show i < cur.size; omega) (by omega) rfl
    have hb0 : (Loc.row (.slice (some ⟨g, 0, none⟩) len cap) len).block = some g := rfl
    have hch := Chg.setRow w S g cur (cur.setIfInBounds i (.int .u8 m)) e _ h2 (fun o ho => absurd ho (h7 o))
    have hrun : (Instr.storeAt ty (.pointer (some ⟨g, i, none⟩)) (.int .u8 m)).run P w = .ok () (w.setRow g (cur.setIfInBounds i (.int .u8 m))) := by
      simp only [Instr.storeAt, Instr.sureAddr, storeVar, Sem.run_bind, Sem.run_pure, Result.andThen_ok, hs]
      rw [if_neg (by simp [Value.cells])]
      exact hst
    rw [Nat.mul_one, Nat.add_zero] at hv
    refine ⟨undef, w.setRow g (cur.setIfInBounds i (.int .u8 m)), S, r, .inr ⟨by simp [execOp, ho, hv, hvy, hrun], rfl⟩, .any .., ?_, ?_, fun _ _ h => h, hch.cell, RhoLe.refl r⟩
    · exact hH.chg hch (fun b' hb' => by cases hb'; exact hI.low k _ g h1 hb0) (fun _ _ h => h) (fun _ _ h => .inl h)
    · refine hI.put hch (fun _ _ h => h) (RhoLe.refl r) k _ _ ⟨g, cap, cur.setIfInBounds i (.int .u8 m), h1, ?_, h3, h4, ?_, fun j hj => ?_, h7⟩ h1 (fun _ _ => rfl) (fun b' hb' => .inr ⟨_, h1, hb'⟩) (fun b' hb' => ⟨_, h1, by cases hb'; rfl⟩) (fun _ _ h => .inl h)
      · rw [setRow_heap w g cur _ e _ h2]
        simp
      · simpa using h5
      · by_cases hji : j = i
        · subst hji
          simp [Array.getD_eq_getD_getElem?, show j < cur.size by omega]
        · show _ = Value.int .u8 (if j = i then m else f j)
          rw [if_neg hji, ← h6 j hj]
          simp [Array.getD_eq_getD_getElem?, Array.getElem?_setIfInBounds, Ne.symm hji]

/-- The bytes that the numbers are. -/
def bmL (len : Nat) (f : Nat → Int) : List UInt8 := (List.range len).map fun i => UInt8.ofNat (f i).toNat

theorem strB_step (ho : o.op = .convert src dst x) (hs : P.underlying src = some (.slice e)) (he' : P.underlying e = some (.int .u8)) (hd' : P.underlying dst = some .string) (hx : ev fr x = .ah k 1 len) (hk : look k ow = some (.bm e len f)) (hf : ∀ i, i < len → 0 ≤ f i ∧ f i < 256) (hd : dstOk o.dst n) :
    ∀ F' O', (∀ y ∈ o.op.operands.toList, evF F' y = evF (fF fr) y) → (∀ j ∈ [k], O' j = fO ow j) → StepAt P X n o F' O' (.s (bmL len f)) [] := by
  intro F' O' he hO
  refine stepAt_of hd fun a w S r hH hI hr => ?_
  have hx' := hr x
  rw [he x (by simp [ho, Op.operands]), evF_fF, hx] at hx'
  obtain ⟨g, cap, cur, h1, h2, h3, h4, h5, h6, h7⟩ := hI.obj k _ ((hO k (by simp)).trans hk)
  generalize hv : a.eval x = vx at hx'
  cases hx' with
  | ah _ _ _ _ cap' a' tv L' q1 q2 q3 q4 =>
    rw [h1] at q1
    cases q1
    rcases q3 rfl with q5 | ⟨q5, _⟩
    · cases q5
      have hlen : (bmL len f).length = len := by simp [bmL]
      have hrun := run_convert_bytes_back (P := P) w src dst e ⟨g, 0, none⟩ cap (bmL len f) hs he' hd' (fun j hj => by
        rw [hlen] at hj
        have hadd : (⟨g, 0, none⟩ : Addr).add j = ⟨g, j, none⟩ := by unfold Addr.add; split <;> simp_all
        rw [hadd, cell_of_row w g _ cur e _ h2]
        have h8 := h6 j hj
        rw [Array.getD_eq_getD_getElem?, Array.getElem?_eq_getElem (by omega), Option.getD_some] at h8
        rw [Array.getElem?_eq_getElem (by omega), h8]
        obtain ⟨f1, f2⟩ := hf j hj
        have : ((bmL len f)[j]).toNat = (f j).toNat := by
          simp only [bmL, List.getElem_map, List.getElem_range]
          rw [UInt8.toNat_ofNat']
          omega
        rw [this, Int.toNat_of_nonneg f1])
      rw [hlen] at hrun
      exact fin_value hH hI rfl (by simp [execOp, ho, hv, hrun]) (.s _ _)
    · cases q5

end

section
variable {X : Ctx} {n : Nat} {all rest : List Oper} {fr : Fr} {ow : Ow} {tr : List (List Nat × List Nat)} {K : Fr → Ow → List (List Nat × List Nat) → Prop}
variable {t k : Nat} {ty ty' src dst e : TypeId} {ps : String} {af : Array Edge} {x y : Operand} {l : List UInt8} {len i : Nat} {f : Nat → Int} {m : Int}

set_option maxRecDepth 100000 in
/-- A text turned into bytes that are written to. -/
theorem r_cvB (hs : Tryd.prog.underlying src = some .string) (hd' : Tryd.prog.underlying dst = some (.slice e)) (he' : Tryd.prog.underlying e = some (.int .u8)) (hx : ev fr x = .s l) (hl : l.length < 9223372036854775807) (hk : look t ow = none) (hn : Nat.blt t n = true)
    (h : CT Tryd.prog X n all rest ((t, .ah t 1 l.length) :: fr) ((t, .bm e l.length fun i => ((l.getD i 0).toNat : Int)) :: ow) (tr ++ [([t], [t])]) K) : CT Tryd.prog X n all (⟨some t, .convert src dst x, ty', ps, af, none⟩ :: rest) fr ow tr K :=
  CT.cons (e := ⟨.ah t 1 l.length, [t], [(t, .bm e l.length fun i => ((l.getD i 0).toNat : Int))]⟩) (.plain rfl (cvB_step (o := ⟨some t, .convert src dst x, ty', ps, af, none⟩) rfl hs hd' he' hx hl hk (show t < n by simpa using hn))) (fF_cons ..) (fO_cons ..) h

theorem r_ldB (hz : B.sz ty = some (1, false)) (hx : ev fr x = .ap k 1 len i 0) (hk : look k ow = some (.bm e len f)) (hi : i < len) (hn : Nat.blt t n = true)
    (h : CT Tryd.prog X n all rest ((t, .i .u8 (f i)) :: fr) ow (tr ++ [([k], [])]) K) : CT Tryd.prog X n all (⟨some t, .load ty x, ty', ps, af, none⟩ :: rest) fr ow tr K :=
  CT.cons (e := ⟨.i .u8 (f i), [k], []⟩) (.plain rfl (ldB_step (o := ⟨some t, .load ty x, ty', ps, af, none⟩) tb_eq rfl hz hx hk hi (show t < n by simpa using hn))) (fF_cons ..) rfl h

theorem r_stB (hz : B.sz ty = some (1, false)) (hx : ev fr x = .ap k 1 len i 0) (hy : ev fr y = .i .u8 m) (hk : look k ow = some (.bm e len f)) (hi : i < len)
    (h : CT Tryd.prog X n all rest fr ((k, .bm e len fun j => if j = i then m else f j) :: ow) (tr ++ [([k], [k])]) K) : CT Tryd.prog X n all (⟨none, .store ty x y, ty', ps, af, none⟩ :: rest) fr ow tr K :=
  CT.cons (e := ⟨.any, [k], [(k, .bm e len fun j => if j = i then m else f j)]⟩) (.plain rfl (stB_step (o := ⟨none, .store ty x y, ty', ps, af, none⟩) tb_eq rfl hz hx hy hk hi trivial)) rfl (fO_cons ..) h

set_option maxRecDepth 100000 in
theorem r_strB (hs : Tryd.prog.underlying src = some (.slice e)) (he' : Tryd.prog.underlying e = some (.int .u8)) (hd' : Tryd.prog.underlying dst = some .string) (hx : ev fr x = .ah k 1 len) (hk : look k ow = some (.bm e len f)) (hf : ∀ i, i < len → 0 ≤ f i ∧ f i < 256) (hn : Nat.blt t n = true)
    (h : CT Tryd.prog X n all rest ((t, .s (bmL len f)) :: fr) ow (tr ++ [([k], [])]) K) : CT Tryd.prog X n all (⟨some t, .convert src dst x, ty', ps, af, none⟩ :: rest) fr ow tr K :=
  CT.cons (e := ⟨.s (bmL len f), [k], []⟩) (.plain rfl (strB_step (o := ⟨some t, .convert src dst x, ty', ps, af, none⟩) rfl hs he' hd' hx hk hf (show t < n by simpa using hn))) (fF_cons ..) rfl h
end

end Go.Proofs.YtghdgjabpdfaoaaDoor.Flow

/- BYTES: rows of bytes, and what bit operations do to small numbers. -/
namespace Go.Proofs.YtghdgjabpdfaoaaDoor.Flow
open Go

theorem byte_eq (x : UInt8) (n : Nat) (h : n < 256) : (x.toNat : Int) = n ↔ x = UInt8.ofNat n := by
  constructor
  · intro h1
    have h2 : x.toNat = n := by exact_mod_cast h1
    apply UInt8.toNat.inj
    simp [h2]; omega
  · intro h1
    subst h1
    simp; omega

theorem at_eq (s : List UInt8) (i : Int) (n : Nat) (h : n < 256) : at' s i = n ↔ s.getD i.toNat 0 = UInt8.ofNat n := byte_eq _ n h
theorem at_range (s : List UInt8) (i : Int) : 0 ≤ at' s i ∧ at' s i < 256 := by
  have := (s.getD i.toNat 0).toNat_lt
  unfold at'
  omega

theorem bytesF_one (l : List UInt8) : ∀ i, i < l.length → ∃ n, bytesF l i = [.i .u8 n] := fun i _ => ⟨_, rfl⟩

/-- A number as a byte. -/
def by8 (n : Int) : UInt8 := UInt8.ofNat n.toNat
theorem by8_nat (n : Int) (h : 0 ≤ n) (h2 : n < 256) : ((by8 n).toNat : Int) = n := by
  unfold by8
  have : n.toNat < 256 := by omega
  simp
  omega
theorem by8_at (s : List UInt8) (i : Int) : by8 (at' s i) = s.getD i.toNat 0 := by
  unfold by8 at'
  simp

theorem wrap_u8 (n : Int) : IntKind.u8.wrap n = n % 256 := by simp [IntKind.wrap, IntKind.bits, IntKind.signed]
theorem wrap_i32 (n : Int) (h : -2147483648 ≤ n) (h2 : n < 2147483648) : IntKind.i32.wrap n = n := by
  simp [IntKind.wrap, IntKind.bits, IntKind.signed]
  omega
theorem wrap_u64' (n : Int) : IntKind.u64.wrap n = n % 18446744073709551616 := by simp [IntKind.wrap, IntKind.bits, IntKind.signed]
theorem wrap_u32' (n : Int) : IntKind.u32.wrap n = n % 4294967296 := by simp [IntKind.wrap, IntKind.bits, IntKind.signed]
theorem wrap_u32 (n : Int) (h : 0 ≤ n) (h2 : n < 4294967296) : IntKind.u32.wrap n = n := by
  simp [IntKind.wrap, IntKind.bits, IntKind.signed]
  omega

end Go.Proofs.YtghdgjabpdfaoaaDoor.Flow

/- The library's contracts that this seat's proofs use, laid by the kit's command over this translation, in plain words. -/
namespace Go.Proofs
open Go.Shelf
def Tryd.lays162_ren : Go.Shelf.Ren := ⟨fun | 162 => 83 | 232 => 88 | 227 => 89 | 234 => 91 | 236 => 93 | 228 => 108 | 271 => 110 | 151 => 109 | 120 => 121 | 197 => 99 | 152 => 106 | 260 => 114 | 137 => 38 | 119 => 120 | 224 => 112 | 225 => 111 | 217 => 63 | 266 => 84 | n => n, fun | 9 => 9 | 4 => 4 | 3 => 3 | 5 => 5 | 117 => 90 | 116 => 89 | 0 => 0 | 124 => 93 | 21 => 21 | 105 => 96 | 46 => 81 | 119 => 115 | 139 => 118 | 138 => 117 | n => n, fun | 3 => 2 | 4 => 3 | n => n⟩
theorem Tryd.lays162 : Go.Proofs.Lays.n162 Tryd.prog Tryd.lays162_ren := {
  mixed := by kernel_rfl
  f119 := Tryd.func120.trans (congrArg some (by kernel_rfl))
  f120 := Tryd.func121.trans (congrArg some (by kernel_rfl))
  f137 := Tryd.func38.trans (congrArg some (by kernel_rfl))
  f151 := Tryd.func109.trans (congrArg some (by kernel_rfl))
  f152 := Tryd.func106.trans (congrArg some (by kernel_rfl))
  f162 := Tryd.func83.trans (congrArg some (by kernel_rfl))
  f197 := Tryd.func99.trans (congrArg some (by kernel_rfl))
  f217 := Tryd.func63.trans (congrArg some (by kernel_rfl))
  f224 := Tryd.func112.trans (congrArg some (by kernel_rfl))
  f225 := Tryd.func111.trans (congrArg some (by kernel_rfl))
  f227 := Tryd.func89.trans (congrArg some (by kernel_rfl))
  f228 := Tryd.func108.trans (congrArg some (by kernel_rfl))
  f232 := Tryd.func88.trans (congrArg some (by kernel_rfl))
  f234 := Tryd.func91.trans (congrArg some (by kernel_rfl))
  f236 := Tryd.func93.trans (congrArg some (by kernel_rfl))
  f260 := Tryd.func114.trans (congrArg some (by kernel_rfl))
  f266 := Tryd.func84.trans (congrArg some (by kernel_rfl))
  f271 := Tryd.func110.trans (congrArg some (by kernel_rfl))
  t0 := Tryd.underlying0
  a0 := Tryd.isAgg0
  z0 := Tryd.sizeOf0
  v0 := Tryd.zeroValue0
  t3 := Tryd.underlying3
  a3 := Tryd.isAgg3
  z3 := Tryd.sizeOf3
  v3 := Tryd.zeroValue3
  t4 := Tryd.underlying4
  a4 := Tryd.isAgg4
  z4 := Tryd.sizeOf4
  v4 := Tryd.zeroValue4
  t5 := Tryd.underlying5
  a5 := Tryd.isAgg5
  z5 := Tryd.sizeOf5
  v5 := Tryd.zeroValue5
  t9 := Tryd.underlying9
  a9 := Tryd.isAgg9
  z9 := Tryd.sizeOf9
  v9 := Tryd.zeroValue9
  t21 := Tryd.underlying21
  a21 := Tryd.isAgg21
  z21 := Tryd.sizeOf21
  v21 := Tryd.zeroValue21
  t46 := Tryd.underlying81
  a46 := Tryd.isAgg81
  z46 := Tryd.sizeOf81
  v46 := Tryd.zeroValue81
  t105 := Tryd.underlying96
  a105 := Tryd.isAgg96
  z105 := Tryd.sizeOf96
  v105 := Tryd.zeroValue96
  t116 := Tryd.underlying89
  a116 := Tryd.isAgg89
  z116 := Tryd.sizeOf89
  t117 := Tryd.underlying90
  a117 := Tryd.isAgg90
  z117 := Tryd.sizeOf90
  v117 := Tryd.zeroValue90
  t119 := Tryd.underlying115
  a119 := Tryd.isAgg115
  z119 := Tryd.sizeOf115
  t124 := Tryd.underlying93
  a124 := Tryd.isAgg93
  z124 := Tryd.sizeOf93
  v124 := Tryd.zeroValue93
  t138 := Tryd.underlying117
  a138 := Tryd.isAgg117
  z138 := Tryd.sizeOf117
  v138 := Tryd.zeroValue117
  t139 := Tryd.underlying118
  a139 := Tryd.isAgg118
  z139 := Tryd.sizeOf118
  v139 := Tryd.zeroValue118
  g3 := by kernel_rfl
  g4 := by kernel_rfl }
open Go.RowKit in
/-- strings.TrimRight: "TrimRight returns a slice of the string s, with all trailing Unicode code points contained in cutset removed.": AT A cutset OF ONE ASCII BYTE. The world is as it was. (LAID: no walk: one application.) -/
theorem Tryd.strings_TrimRight_one (s : ByteArray) (c : UInt8) (hc : c.toNat < 128) (w : World) (hs : s.size ≤ 9223372036854775807) :
    Calls Tryd.prog 83 #[.string s, .string ⟨#[c]⟩] w fun e w' => e = .returned (.string ⟨(Lib.trimRightB s.data.toList c).toArray⟩) ∧ w' = w := Any.strings_TrimRight_one Tryd.lays162 s c hc w hs
def Tryd.lays160_ren : Go.Shelf.Ren := ⟨fun | 160 => 67 | 232 => 88 | 231 => 87 | 227 => 89 | 234 => 91 | 233 => 90 | 236 => 93 | 235 => 92 | 228 => 108 | 271 => 110 | 151 => 109 | 197 => 99 | 120 => 121 | 152 => 106 | 260 => 114 | 137 => 38 | 119 => 120 | 224 => 112 | 225 => 111 | 217 => 63 | 266 => 84 | n => n, fun | 9 => 9 | 4 => 4 | 3 => 3 | 5 => 5 | 117 => 90 | 116 => 89 | 0 => 0 | 124 => 93 | 21 => 21 | 105 => 96 | 46 => 81 | 119 => 115 | 139 => 118 | 138 => 117 | n => n, fun | 3 => 2 | 4 => 3 | n => n⟩
theorem Tryd.lays160 : Go.Proofs.Lays.n160 Tryd.prog Tryd.lays160_ren := {
  mixed := by kernel_rfl
  f119 := Tryd.func120.trans (congrArg some (by kernel_rfl))
  f120 := Tryd.func121.trans (congrArg some (by kernel_rfl))
  f137 := Tryd.func38.trans (congrArg some (by kernel_rfl))
  f151 := Tryd.func109.trans (congrArg some (by kernel_rfl))
  f152 := Tryd.func106.trans (congrArg some (by kernel_rfl))
  f160 := Tryd.func67.trans (congrArg some (by kernel_rfl))
  f197 := Tryd.func99.trans (congrArg some (by kernel_rfl))
  f217 := Tryd.func63.trans (congrArg some (by kernel_rfl))
  f224 := Tryd.func112.trans (congrArg some (by kernel_rfl))
  f225 := Tryd.func111.trans (congrArg some (by kernel_rfl))
  f227 := Tryd.func89.trans (congrArg some (by kernel_rfl))
  f228 := Tryd.func108.trans (congrArg some (by kernel_rfl))
  f231 := Tryd.func87.trans (congrArg some (by kernel_rfl))
  f232 := Tryd.func88.trans (congrArg some (by kernel_rfl))
  f233 := Tryd.func90.trans (congrArg some (by kernel_rfl))
  f234 := Tryd.func91.trans (congrArg some (by kernel_rfl))
  f235 := Tryd.func92.trans (congrArg some (by kernel_rfl))
  f236 := Tryd.func93.trans (congrArg some (by kernel_rfl))
  f260 := Tryd.func114.trans (congrArg some (by kernel_rfl))
  f266 := Tryd.func84.trans (congrArg some (by kernel_rfl))
  f271 := Tryd.func110.trans (congrArg some (by kernel_rfl))
  t0 := Tryd.underlying0
  a0 := Tryd.isAgg0
  z0 := Tryd.sizeOf0
  v0 := Tryd.zeroValue0
  t3 := Tryd.underlying3
  a3 := Tryd.isAgg3
  z3 := Tryd.sizeOf3
  v3 := Tryd.zeroValue3
  t4 := Tryd.underlying4
  a4 := Tryd.isAgg4
  z4 := Tryd.sizeOf4
  v4 := Tryd.zeroValue4
  t5 := Tryd.underlying5
  a5 := Tryd.isAgg5
  z5 := Tryd.sizeOf5
  v5 := Tryd.zeroValue5
  t9 := Tryd.underlying9
  a9 := Tryd.isAgg9
  z9 := Tryd.sizeOf9
  v9 := Tryd.zeroValue9
  t21 := Tryd.underlying21
  a21 := Tryd.isAgg21
  z21 := Tryd.sizeOf21
  v21 := Tryd.zeroValue21
  t46 := Tryd.underlying81
  a46 := Tryd.isAgg81
  z46 := Tryd.sizeOf81
  v46 := Tryd.zeroValue81
  t105 := Tryd.underlying96
  a105 := Tryd.isAgg96
  z105 := Tryd.sizeOf96
  v105 := Tryd.zeroValue96
  t116 := Tryd.underlying89
  a116 := Tryd.isAgg89
  z116 := Tryd.sizeOf89
  t117 := Tryd.underlying90
  a117 := Tryd.isAgg90
  z117 := Tryd.sizeOf90
  v117 := Tryd.zeroValue90
  t119 := Tryd.underlying115
  a119 := Tryd.isAgg115
  z119 := Tryd.sizeOf115
  t124 := Tryd.underlying93
  a124 := Tryd.isAgg93
  z124 := Tryd.sizeOf93
  v124 := Tryd.zeroValue93
  t138 := Tryd.underlying117
  a138 := Tryd.isAgg117
  z138 := Tryd.sizeOf117
  v138 := Tryd.zeroValue117
  t139 := Tryd.underlying118
  a139 := Tryd.isAgg118
  z139 := Tryd.sizeOf118
  v139 := Tryd.zeroValue118
  g3 := by kernel_rfl
  g4 := by kernel_rfl }
open Go.RowKit in
/-- strings.Trim: "Trim returns a slice of the string s with all leading and trailing Unicode code points contained in cutset removed.": AT A cutset OF ONE ASCII BYTE. THE WORLD BEHIND IT: as it was, or (where s is not empty) with ONE DRAW MORE off the tape: the statement 'return trimLeftByte(trimRightByte(s, c), c)' draws its order of evaluation. (LAID: no walk: one application.) -/
theorem Tryd.strings_Trim_one (s : ByteArray) (c : UInt8) (hc : c.toNat < 128) (w : World) (hs : s.size ≤ 9223372036854775807) :
    Calls Tryd.prog 67 #[.string s, .string ⟨#[c]⟩] w fun e w' => e = .returned (.string ⟨(Lib.trimB s.data.toList c).toArray⟩) ∧ (w' = w ∨ w' = w.drew) := Any.strings_Trim_one Tryd.lays160 s c hc w hs
def Tryd.lays137_ren : Go.Shelf.Ren := ⟨fun | 137 => 38 | 217 => 63 | 266 => 84 | n => n, fun | 9 => 9 | 5 => 5 | 3 => 3 | n => n, fun | n => n⟩
theorem Tryd.lays137 : Go.Proofs.Lays.n137 Tryd.prog Tryd.lays137_ren := {
  mixed := by kernel_rfl
  f137 := Tryd.func38.trans (congrArg some (by kernel_rfl))
  f217 := Tryd.func63.trans (congrArg some (by kernel_rfl))
  f266 := Tryd.func84.trans (congrArg some (by kernel_rfl))
  t3 := Tryd.underlying3
  a3 := Tryd.isAgg3
  z3 := Tryd.sizeOf3
  v3 := Tryd.zeroValue3
  t5 := Tryd.underlying5
  a5 := Tryd.isAgg5
  z5 := Tryd.sizeOf5
  v5 := Tryd.zeroValue5
  t9 := Tryd.underlying9
  a9 := Tryd.isAgg9
  z9 := Tryd.sizeOf9
  v9 := Tryd.zeroValue9 }
open Go.RowKit in
/-- strings.IndexByte: "IndexByte returns the index of the first instance of c in s, or -1 if c is not present in s.": IT RETURNS 'Lib.indexByte s c'; the world is as it was. (LAID: no walk: one application.) -/
theorem Tryd.strings_IndexByte (s : ByteArray) (c : Int) (w : World) :
    Calls Tryd.prog 38 #[.string s, .int .u8 c] w fun e w' => e = .returned (.int .i64 (Lib.indexByte s.data.toList c.toNat.toUInt8)) ∧ w' = w := Any.strings_IndexByte Tryd.lays137 s c w
def Tryd.lays145_ren : Go.Shelf.Ren := ⟨fun | 145 => 44 | 220 => 68 | 219 => 94 | 217 => 63 | 225 => 111 | 224 => 112 | 267 => 113 | 266 => 84 | 314 => 122 | n => n, fun | 9 => 9 | 4 => 4 | 59 => 55 | 3 => 3 | 5 => 5 | 46 => 81 | 146 => 113 | 51 => 47 | n => n, fun | 1 => 0 | n => n⟩
theorem Tryd.lays145 : Go.Proofs.Lays.n145 Tryd.prog Tryd.lays145_ren := {
  mixed := by kernel_rfl
  f145 := Tryd.func44.trans (congrArg some (by kernel_rfl))
  f217 := Tryd.func63.trans (congrArg some (by kernel_rfl))
  f219 := Tryd.func94.trans (congrArg some (by kernel_rfl))
  f220 := Tryd.func68.trans (congrArg some (by kernel_rfl))
  f224 := Tryd.func112.trans (congrArg some (by kernel_rfl))
  f225 := Tryd.func111.trans (congrArg some (by kernel_rfl))
  f266 := Tryd.func84.trans (congrArg some (by kernel_rfl))
  f267 := Tryd.func113.trans (congrArg some (by kernel_rfl))
  f314 := Tryd.func122.trans (congrArg some (by kernel_rfl))
  t3 := Tryd.underlying3
  a3 := Tryd.isAgg3
  z3 := Tryd.sizeOf3
  v3 := Tryd.zeroValue3
  t4 := Tryd.underlying4
  a4 := Tryd.isAgg4
  z4 := Tryd.sizeOf4
  v4 := Tryd.zeroValue4
  t5 := Tryd.underlying5
  a5 := Tryd.isAgg5
  z5 := Tryd.sizeOf5
  v5 := Tryd.zeroValue5
  t9 := Tryd.underlying9
  a9 := Tryd.isAgg9
  z9 := Tryd.sizeOf9
  v9 := Tryd.zeroValue9
  t46 := Tryd.underlying81
  a46 := Tryd.isAgg81
  z46 := Tryd.sizeOf81
  v46 := Tryd.zeroValue81
  t51 := Tryd.underlying47
  a51 := Tryd.isAgg47
  z51 := Tryd.sizeOf47
  v51 := Tryd.zeroValue47
  t59 := Tryd.underlying55
  a59 := Tryd.isAgg55
  z59 := Tryd.sizeOf55
  v59 := Tryd.zeroValue55
  t146 := Tryd.underlying113
  a146 := Tryd.isAgg113
  z146 := Tryd.sizeOf113
  v146 := Tryd.zeroValue113
  g1 := by kernel_rfl }
open Go.RowKit Go.Lib in
/-- strings.Cut: "Cut slices s around the first instance of sep, returning the text before and after sep. The found result reports whether sep appears in s. If sep does not appear in s, cut returns s, "", false.": IT RETURNS 'Lib.cut s sep'; the world is as it was but for the count of draws. (LAID: no walk: one application.) -/
theorem Tryd.strings_Cut (s sep : ByteArray) (m : Int) (w : World) (hs : s.size < 4294967281) (hm : w.cell? ⟨0, 0, none⟩ = some (.int .i64 m)) :
    Calls Tryd.prog 44 #[.string s, .string sep] w fun e w' => e = .returned (.tuple #[.string ⟨(Lib.cut s.data.toList sep.data.toList).1.toArray⟩, .string ⟨(Lib.cut s.data.toList sep.data.toList).2.1.toArray⟩, .bool (Lib.cut s.data.toList sep.data.toList).2.2]) ∧ ∃ n, w' = w.drewN n := Any.strings_Cut Tryd.lays145 s sep m w hs hm
def Tryd.lays146_ren : Go.Shelf.Ren := ⟨fun | 146 => 26 | 221 => 55 | 268 => 74 | 138 => 75 | 143 => 76 | 195 => 98 | 197 => 99 | 218 => 100 | 219 => 94 | 260 => 114 | 217 => 63 | 225 => 111 | 224 => 112 | 267 => 113 | 266 => 84 | 314 => 122 | n => n, fun | 9 => 9 | 31 => 34 | 3 => 3 | 4 => 4 | 0 => 0 | 105 => 96 | 21 => 21 | 5 => 5 | 46 => 81 | 119 => 115 | 139 => 118 | 138 => 117 | 146 => 113 | 51 => 47 | n => n, fun | 1 => 0 | 3 => 2 | 4 => 3 | n => n⟩
theorem Tryd.lays146 : Go.Proofs.Lays.n146 Tryd.prog Tryd.lays146_ren := {
  mixed := by kernel_rfl
  f138 := Tryd.func75.trans (congrArg some (by kernel_rfl))
  f143 := Tryd.func76.trans (congrArg some (by kernel_rfl))
  f146 := Tryd.func26.trans (congrArg some (by kernel_rfl))
  f195 := Tryd.func98.trans (congrArg some (by kernel_rfl))
  f197 := Tryd.func99.trans (congrArg some (by kernel_rfl))
  f217 := Tryd.func63.trans (congrArg some (by kernel_rfl))
  f218 := Tryd.func100.trans (congrArg some (by kernel_rfl))
  f219 := Tryd.func94.trans (congrArg some (by kernel_rfl))
  f221 := Tryd.func55.trans (congrArg some (by kernel_rfl))
  f224 := Tryd.func112.trans (congrArg some (by kernel_rfl))
  f225 := Tryd.func111.trans (congrArg some (by kernel_rfl))
  f260 := Tryd.func114.trans (congrArg some (by kernel_rfl))
  f266 := Tryd.func84.trans (congrArg some (by kernel_rfl))
  f267 := Tryd.func113.trans (congrArg some (by kernel_rfl))
  f268 := Tryd.func74.trans (congrArg some (by kernel_rfl))
  f314 := Tryd.func122.trans (congrArg some (by kernel_rfl))
  t0 := Tryd.underlying0
  a0 := Tryd.isAgg0
  z0 := Tryd.sizeOf0
  v0 := Tryd.zeroValue0
  t3 := Tryd.underlying3
  a3 := Tryd.isAgg3
  z3 := Tryd.sizeOf3
  v3 := Tryd.zeroValue3
  t4 := Tryd.underlying4
  a4 := Tryd.isAgg4
  z4 := Tryd.sizeOf4
  v4 := Tryd.zeroValue4
  t5 := Tryd.underlying5
  a5 := Tryd.isAgg5
  z5 := Tryd.sizeOf5
  v5 := Tryd.zeroValue5
  t9 := Tryd.underlying9
  a9 := Tryd.isAgg9
  z9 := Tryd.sizeOf9
  v9 := Tryd.zeroValue9
  t21 := Tryd.underlying21
  a21 := Tryd.isAgg21
  z21 := Tryd.sizeOf21
  v21 := Tryd.zeroValue21
  t31 := Tryd.underlying34
  a31 := Tryd.isAgg34
  z31 := Tryd.sizeOf34
  v31 := Tryd.zeroValue34
  t46 := Tryd.underlying81
  a46 := Tryd.isAgg81
  z46 := Tryd.sizeOf81
  v46 := Tryd.zeroValue81
  t51 := Tryd.underlying47
  a51 := Tryd.isAgg47
  z51 := Tryd.sizeOf47
  v51 := Tryd.zeroValue47
  t105 := Tryd.underlying96
  a105 := Tryd.isAgg96
  z105 := Tryd.sizeOf96
  v105 := Tryd.zeroValue96
  t119 := Tryd.underlying115
  a119 := Tryd.isAgg115
  z119 := Tryd.sizeOf115
  t138 := Tryd.underlying117
  a138 := Tryd.isAgg117
  z138 := Tryd.sizeOf117
  v138 := Tryd.zeroValue117
  t139 := Tryd.underlying118
  a139 := Tryd.isAgg118
  z139 := Tryd.sizeOf118
  v139 := Tryd.zeroValue118
  t146 := Tryd.underlying113
  a146 := Tryd.isAgg113
  z146 := Tryd.sizeOf113
  v146 := Tryd.zeroValue113
  g1 := by kernel_rfl
  g3 := by kernel_rfl
  g4 := by kernel_rfl }
open Go.RowKit Go.Lib in
/-- strings.Split. (LAID: no walk: one application.) -/
theorem Tryd.strings_Split (s sep : ByteArray) (m : Int) (w : World) (hs : s.size < 4294967281) (hm : w.cell? ⟨0, 0, none⟩ = some (.int .i64 m)) (h1 : 1 ≤ sep.size) :
    Calls Tryd.prog 26 #[.string s, .string sep] w fun e w' =>
      e = .returned (.slice (some ⟨w.heap.size, 0, none⟩) (Lib.countB s sep + 1) (Lib.countB s sep + 1)) ∧ w' = w.alloc (.cells ((Lib.splitB sep 0 (Lib.countB s sep) s).map Value.string).toArray 9) := Any.strings_Split Tryd.lays146 (by kernel_rfl) s sep m w hs hm h1
end Go.Proofs

/- REQ: the library's functions (the kit's contracts, laid at this seat), as Flow's. -/
namespace Go.Proofs.YtghdgjabpdfaoaaDoor.Flow
open Go

theorem w_two {vs : Array Value} (h : vs.size = 2) : vs = #[vs.getD 0 undef, vs.getD 1 undef] := by
  obtain ⟨l⟩ := vs
  match l, h with
  | [a, b], _ => rfl

theorem w_below {w w' : World} {S : Cells} (hv : ∀ b o, S b o → b < w.heap.size) (hg : GOk S w) (h : RowKit.Below w.heap.size w w') : Hist { w0 := w, S0 := S, L := fun _ => False } w' S where
  os := h.os
  tape := h.tape
  output := h.output
  size := h.size
  block := fun k hk _ => h.block k hk
  sub := fun _ _ h => h
  cell := fun b o hb => by
    have := h.block b (hv b o hb)
    simp [World.cell?, this]
  new := fun _ _ h => .inl h
  valid := fun b o hb => Nat.lt_of_lt_of_le (hv b o hb) h.size
  glob := hg.mono (fun _ _ h => h) fun b o hb => by
    have := h.block b (hv b o hb)
    simp [World.cell?, this]

theorem w_same {w : World} {S : Cells} (hv : ∀ b o, S b o → b < w.heap.size) (hg : GOk S w) : Hist { w0 := w, S0 := S, L := fun _ => False } w S := hist_start w S _ hv hg

theorem w_drewN {w : World} (n : Nat) : RowKit.Below w.heap.size w (w.drewN n) := ⟨rfl, rfl, rfl, Nat.le_refl _, fun _ _ => rfl⟩

theorem w_indexByte (s : List UInt8) (c : Int) : Ctr Tryd.prog 38 [.s s, .i .u8 c] (.i .i64 (Lib.indexByte s c.toNat.toUInt8)) := by
  intro w S vs hv hg hn hr
  have h0 := hr 0 (by simp)
  have h1 := hr 1 (by simp)
  rw [w_two hn]
  generalize vs.getD 0 undef = v0 at *
  generalize vs.getD 1 undef = v1 at *
  cases h0
  cases h1
  refine (Tryd.strings_IndexByte ⟨s.toArray⟩ c w).mono ?_
  rintro e w' ⟨rfl, rfl⟩
  exact ⟨_, S, rfl, .i _ _ _, w_same hv hg⟩

theorem w_cut (s sep : List UInt8) (hs : s.length < 4294967281) : Ctr Tryd.prog 44 [.s s, .s sep] (.tu [.s (Lib.cut s sep).1, .s (Lib.cut s sep).2.1, .b (Lib.cut s sep).2.2]) := by
  intro w S vs hv hg hn hr
  have h0 := hr 0 (by simp)
  have h1 := hr 1 (by simp)
  rw [w_two hn]
  generalize vs.getD 0 undef = v0 at *
  generalize vs.getD 1 undef = v1 at *
  cases h0
  cases h1
  obtain ⟨m, _, hm⟩ := hg.big 0 rfl
  refine (Tryd.strings_Cut ⟨s.toArray⟩ ⟨sep.toArray⟩ m w (by simpa [ByteArray.size] using hs) hm).mono ?_
  rintro e w' ⟨rfl, n, rfl⟩
  refine ⟨_, S, rfl, .tu _ _ _ rfl (fun j hj => ?_), w_below hv hg (w_drewN n)⟩
  match j, hj with
  | 0, _ => exact .s _ _
  | 1, _ => exact .s _ _
  | 2, _ => exact .b _ _

theorem w_trim (s cs : List UInt8) (hs : s.length ≤ 9223372036854775807) (hcs : cs.length < 4294967281) (ha : ∀ (j : Nat) b, cs[j]? = some b → b.toNat < 128) : Ctr Tryd.prog 67 [.s s, .s cs] (.s (Lib.trimS s cs)) := by
  intro w S vs hv hg hn hr
  have h0 := hr 0 (by simp)
  have h1 := hr 1 (by simp)
  rw [w_two hn]
  generalize vs.getD 0 undef = v0 at *
  generalize vs.getD 1 undef = v1 at *
  cases h0
  cases h1
  refine (Any.strings_Trim_laid Tryd.lays160 (by kernel_rfl) ⟨s.toArray⟩ ⟨cs.toArray⟩ w (by simpa [ByteArray.size] using hs) (by simpa [ByteArray.size] using hcs) (by simpa using ha)).mono ?_
  rintro e w' ⟨rfl, hb⟩
  exact ⟨_, S, rfl, .s _ _, w_below hv hg hb⟩

theorem w_trimRight (s cs : List UInt8) (hs : s.length ≤ 9223372036854775807) (hcs : cs.length < 4294967281) (ha : ∀ (j : Nat) b, cs[j]? = some b → b.toNat < 128) : Ctr Tryd.prog 83 [.s s, .s cs] (.s (Lib.trimRightS s cs)) := by
  intro w S vs hv hg hn hr
  have h0 := hr 0 (by simp)
  have h1 := hr 1 (by simp)
  rw [w_two hn]
  generalize vs.getD 0 undef = v0 at *
  generalize vs.getD 1 undef = v1 at *
  cases h0
  cases h1
  refine (Any.strings_TrimRight_laid Tryd.lays162 (by kernel_rfl) ⟨s.toArray⟩ ⟨cs.toArray⟩ w (by simpa [ByteArray.size] using hs) (by simpa [ByteArray.size] using hcs) (by simpa using ha)).mono ?_
  rintro e w' ⟨rfl, hb⟩
  exact ⟨_, S, rfl, .s _ _, w_below hv hg hb⟩

/-- A text split at another. -/
def splitL (s sep : List UInt8) : List (List UInt8) := (Lib.splitB ⟨sep.toArray⟩ 0 (Lib.countB ⟨s.toArray⟩ ⟨sep.toArray⟩) ⟨s.toArray⟩).map fun b => b.data.toList
def wxF (l : List (List UInt8)) : Nat → List D := fun i => [.s (l.getD i [])]

theorem splitL_len (s sep : List UInt8) (h1 : 1 ≤ sep.length) : (splitL s sep).length = Lib.countB ⟨s.toArray⟩ ⟨sep.toArray⟩ + 1 ∧ (splitL s sep).length ≤ s.length + 1 := by
  have h2 : 1 ≤ (ByteArray.mk sep.toArray).size := by simpa [ByteArray.size] using h1
  have h3 := Lib.splitB_all ⟨sep.toArray⟩ h2 0 _ ⟨s.toArray⟩ rfl
  have h4 := Lib.countB_le ⟨sep.toArray⟩ h2 (ByteArray.mk s.toArray).size ⟨s.toArray⟩ (Nat.le_refl _)
  have h5 : (ByteArray.mk s.toArray).size = s.length := by simp [ByteArray.size]
  unfold splitL
  rw [List.length_map, h3]
  omega

theorem w_split (s sep : List UInt8) (hs : s.length ≤ 4194304) (h1 : 1 ≤ sep.length) : Ctr Tryd.prog 26 [.s s, .s sep] (.sl 1 (splitL s sep).length (wxF (splitL s sep))) := by
  intro w S vs hv hg hn hr
  have h0 := hr 0 (by simp)
  have h2 := hr 1 (by simp)
  rw [w_two hn]
  generalize vs.getD 0 undef = v0 at *
  generalize vs.getD 1 undef = v1 at *
  cases h0
  cases h2
  obtain ⟨m, _, hm⟩ := hg.big 0 rfl
  obtain ⟨hl1, hl2⟩ := splitL_len s sep h1
  refine (Tryd.strings_Split ⟨s.toArray⟩ ⟨sep.toArray⟩ m w (by simp [ByteArray.size]; omega) hm (by simpa [ByteArray.size] using h1)).mono ?_
  rintro e w' ⟨rfl, rfl⟩
  rw [← hl1]
  have hc := Chg.alloc w S hv (.cells ((Lib.splitB ⟨sep.toArray⟩ 0 (Lib.countB ⟨s.toArray⟩ ⟨sep.toArray⟩) ⟨s.toArray⟩).map Value.string).toArray 9)
  refine ⟨_, fun b o => S b o ∨ (b = w.heap.size ∧ o < (splitL s sep).length), rfl, rel_row (c := fun i _ => .string ⟨((splitL s sep).getD i []).toArray⟩) (heap_alloc_new w _) (Nat.le_refl _) (by unfold maxLen; omega) (fun i j hi hj => ?_) (fun i j hi hj => .inr ⟨rfl, by omega⟩) (fun i hi => ⟨rfl, rfl⟩) (fun i j hi hj => ?_), ?_⟩
  · obtain rfl : j = 0 := by omega
    rw [Nat.mul_one, Nat.add_zero]
    unfold splitL at hi ⊢
    rw [List.length_map] at hi
    simp only [List.getElem?_toArray, List.getElem?_map, List.getD_eq_getElem?_getD, List.getElem?_eq_getElem hi, Option.map_some, Option.getD_some]
  · obtain rfl : j = 0 := by omega
    exact .s _ _
  · have := hist_start w S (fun _ => False) hv hg
    exact this.chg hc (fun b hb => by cases hb) (fun _ _ h => .inl h) (fun b o h => by
      rcases h with h | ⟨rfl, _⟩
      · exact .inl h
      · exact .inr ⟨.inl (Nat.le_refl _), by simp⟩)

theorem blanks_ascii : ∀ (j : Nat) b, ([32, 9] : List UInt8)[j]? = some b → b.toNat < 128 := fun j b h => by
  match j, h with
  | 0, h => cases h; decide
  | 1, h => cases h; decide
  | _ + 2, h => simp at h

end Go.Proofs.YtghdgjabpdfaoaaDoor.Flow

/- REQ: tokens, by both. -/
namespace Go.Proofs.YtghdgjabpdfaoaaDoor.Flow
open Go

def letB (c : Int) : Bool := (decide (97 ≤ c) && decide (c ≤ 122)) || (decide (65 ≤ c) && decide (c ≤ 90)) || (decide (48 ≤ c) && decide (c ≤ 57))

theorem letter_ctr (c : Int) : Ctr Tryd.prog 37 [.i .u8 c] (.b (letB c)) := by
  refine r_fun Tryd.func37 rfl Tryd.ntmps37 Tryd.results37 rfl rfl fun X hL hX => ?_
  repeat' (first
    | with_reducible refine t_seq ?_ | with_reducible refine t_region ?_ | with_reducible refine c_nil ?_ | with_reducible refine n_then ?_
    | with_reducible refine t_ret ?_ | with_reducible refine t_skip ?_ | with_reducible refine t_exit ?_ | with_reducible refine t_block ?_
    | with_reducible refine n_block ?_ | with_reducible refine e_then ?_ | with_reducible refine x_then ?_ | with_reducible refine x_block ?_ | with_reducible refine t_draw ?_
    | refine r_val rfl rfl True.intro ?_ | refine r_gskip rfl rfl rfl ?_ | refine r_gskip2 rfl rfl rfl ?_ | refine r_gval rfl rfl rfl rfl True.intro ?_
    | refine t_true rfl ?_ | refine t_false rfl ?_
    | ((first | refine t_cond_d rfl (fun _ => ?_) (fun _ => ?_) | refine t_cond_i rfl (fun _ => ?_) (fun _ => ?_) | refine t_cond_j rfl (fun _ => ?_) (fun _ => ?_) | refine t_cond_s rfl (fun _ => ?_) (fun _ => ?_) | refine t_cond_n rfl (fun _ => ?_) (fun _ => ?_) | refine t_cond rfl (fun _ => ?_) (fun _ => ?_) | refine c_split_d rfl rfl (fun _ => ?_) (fun _ => ?_) | refine c_split_i rfl rfl (fun _ => ?_) (fun _ => ?_) | refine c_split_j rfl rfl (fun _ => ?_) (fun _ => ?_) | refine c_split_s rfl rfl (fun _ => ?_) (fun _ => ?_) | refine c_split_n rfl rfl (fun _ => ?_) (fun _ => ?_)) <;> try (first | contradiction | (exfalso; omega)))
    | refine r_val rfl rfl (by (first | omega | exact Nat.le_of_ble_eq_true rfl | (simp_all; done) | (simp_all; omega) | ((repeat' refine And.intro ?_ ?_) <;> first | omega | rfl | exact Nat.le_refl _ | exact Nat.le_of_ble_eq_true rfl | exact bytesF_one _ | (simp_all; done) | (simp_all; omega)))) ?_ | refine r_gval rfl rfl rfl rfl (by (first | omega | exact Nat.le_of_ble_eq_true rfl | (simp_all; done) | (simp_all; omega) | ((repeat' refine And.intro ?_ ?_) <;> first | omega | rfl | exact Nat.le_refl _ | exact Nat.le_of_ble_eq_true rfl | exact bytesF_one _ | (simp_all; done) | (simp_all; omega)))) ?_
    | refine r_obj rfl rfl (by (first | omega | exact Nat.le_of_ble_eq_true rfl | (simp_all; done) | (simp_all; omega) | ((repeat' refine And.intro ?_ ?_) <;> first | omega | rfl | exact Nat.le_refl _ | exact Nat.le_of_ble_eq_true rfl | exact bytesF_one _ | (simp_all; done) | (simp_all; omega)))) ?_ | refine r_sto rfl (by (first | omega | exact Nat.le_of_ble_eq_true rfl | (simp_all; done) | (simp_all; omega) | ((repeat' refine And.intro ?_ ?_) <;> first | omega | rfl | exact Nat.le_refl _ | exact Nat.le_of_ble_eq_true rfl | exact bytesF_one _ | (simp_all; done) | (simp_all; omega)))) ?_ | refine r_gobj rfl rfl rfl rfl (by (first | omega | exact Nat.le_of_ble_eq_true rfl | (simp_all; done) | (simp_all; omega) | ((repeat' refine And.intro ?_ ?_) <;> first | omega | rfl | exact Nat.le_refl _ | exact Nat.le_of_ble_eq_true rfl | exact bytesF_one _ | (simp_all; done) | (simp_all; omega)))) ?_
    | refine e_hit rfl ?_ | refine e_miss rfl ?_
    | refine ⟨by kernel_rfl, ?_⟩ | refine x_end rfl ?_ | refine n_end rfl ?_ | ((with_reducible refine c_grd ?_); (fail_if_success (refine c_lit true rfl rfl rfl ?_)); (fail_if_success (refine c_lit false rfl rfl rfl ?_)); refine c_split rfl rfl (fun _ => ?_) (fun _ => ?_)))
  all_goals
    refine congrArg D.b ?_
    rw [Bool.eq_iff_iff]
    simp only [letB, Bool.or_eq_true, Bool.and_eq_true, decide_eq_true_eq, Bool.false_eq_true, true_iff, false_iff]
    omega

theorem alnum_ctr (c : Int) : Ctr Tryd.prog 39 [.i .u8 c] (.b (letB c)) := by
  refine r_fun Tryd.func39 rfl Tryd.ntmps39 Tryd.results39 rfl rfl fun X hL hX => ?_
  repeat' (first
    | with_reducible refine t_seq ?_ | with_reducible refine t_region ?_ | with_reducible refine c_nil ?_ | with_reducible refine n_then ?_
    | with_reducible refine t_ret ?_ | with_reducible refine t_skip ?_ | with_reducible refine t_exit ?_ | with_reducible refine t_block ?_
    | with_reducible refine n_block ?_ | with_reducible refine e_then ?_ | with_reducible refine x_then ?_ | with_reducible refine x_block ?_ | with_reducible refine t_draw ?_
    | refine r_val rfl rfl True.intro ?_ | refine r_gskip rfl rfl rfl ?_ | refine r_gskip2 rfl rfl rfl ?_ | refine r_gval rfl rfl rfl rfl True.intro ?_
    | refine t_true rfl ?_ | refine t_false rfl ?_
    | ((first | refine t_cond_d rfl (fun _ => ?_) (fun _ => ?_) | refine t_cond_i rfl (fun _ => ?_) (fun _ => ?_) | refine t_cond_j rfl (fun _ => ?_) (fun _ => ?_) | refine t_cond_s rfl (fun _ => ?_) (fun _ => ?_) | refine t_cond_n rfl (fun _ => ?_) (fun _ => ?_) | refine t_cond rfl (fun _ => ?_) (fun _ => ?_) | refine c_split_d rfl rfl (fun _ => ?_) (fun _ => ?_) | refine c_split_i rfl rfl (fun _ => ?_) (fun _ => ?_) | refine c_split_j rfl rfl (fun _ => ?_) (fun _ => ?_) | refine c_split_s rfl rfl (fun _ => ?_) (fun _ => ?_) | refine c_split_n rfl rfl (fun _ => ?_) (fun _ => ?_)) <;> try (first | contradiction | (exfalso; omega)))
    | refine r_val rfl rfl (by (first | omega | exact Nat.le_of_ble_eq_true rfl | (simp_all; done) | (simp_all; omega) | ((repeat' refine And.intro ?_ ?_) <;> first | omega | rfl | exact Nat.le_refl _ | exact Nat.le_of_ble_eq_true rfl | exact bytesF_one _ | (simp_all; done) | (simp_all; omega)))) ?_ | refine r_gval rfl rfl rfl rfl (by (first | omega | exact Nat.le_of_ble_eq_true rfl | (simp_all; done) | (simp_all; omega) | ((repeat' refine And.intro ?_ ?_) <;> first | omega | rfl | exact Nat.le_refl _ | exact Nat.le_of_ble_eq_true rfl | exact bytesF_one _ | (simp_all; done) | (simp_all; omega)))) ?_
    | refine r_obj rfl rfl (by (first | omega | exact Nat.le_of_ble_eq_true rfl | (simp_all; done) | (simp_all; omega) | ((repeat' refine And.intro ?_ ?_) <;> first | omega | rfl | exact Nat.le_refl _ | exact Nat.le_of_ble_eq_true rfl | exact bytesF_one _ | (simp_all; done) | (simp_all; omega)))) ?_ | refine r_sto rfl (by (first | omega | exact Nat.le_of_ble_eq_true rfl | (simp_all; done) | (simp_all; omega) | ((repeat' refine And.intro ?_ ?_) <;> first | omega | rfl | exact Nat.le_refl _ | exact Nat.le_of_ble_eq_true rfl | exact bytesF_one _ | (simp_all; done) | (simp_all; omega)))) ?_ | refine r_gobj rfl rfl rfl rfl (by (first | omega | exact Nat.le_of_ble_eq_true rfl | (simp_all; done) | (simp_all; omega) | ((repeat' refine And.intro ?_ ?_) <;> first | omega | rfl | exact Nat.le_refl _ | exact Nat.le_of_ble_eq_true rfl | exact bytesF_one _ | (simp_all; done) | (simp_all; omega)))) ?_
    | refine e_hit rfl ?_ | refine e_miss rfl ?_
    | refine ⟨by kernel_rfl, ?_⟩ | refine x_end rfl ?_ | refine n_end rfl ?_ | ((with_reducible refine c_grd ?_); (fail_if_success (refine c_lit true rfl rfl rfl ?_)); (fail_if_success (refine c_lit false rfl rfl rfl ?_)); refine c_split rfl rfl (fun _ => ?_) (fun _ => ?_)))
  all_goals
    refine congrArg D.b ?_
    rw [Bool.eq_iff_iff]
    simp only [letB, Bool.or_eq_true, Bool.and_eq_true, decide_eq_true_eq, Bool.false_eq_true, true_iff, false_iff]
    omega

def marksL : List UInt8 := [33, 35, 36, 37, 38, 39, 42, 43, 45, 46, 94, 95, 124, 126, 96]
/-- Is a byte one of the first k marks? -/
def inM (c : Int) (k : Nat) : Bool := (marksL.take k).any fun x => ((x.toNat : Int) == c)
def tokC (c : Int) : Bool := letB c || inM c 15
def tokB (s : List UInt8) : Bool := !s.isEmpty && s.all fun x => tokC x.toNat

theorem index_marks : ∀ n : Nat, n < 256 → decide (Lib.indexByte marksL n.toUInt8 < 0) = !inM (n : Int) 15 := by decide +kernel

theorem index_mark {c : Int} (h : 0 ≤ c ∧ c < 256) : decide (Lib.indexByte marksL c.toNat.toUInt8 < 0) = !inM c 15 := by
  have := index_marks c.toNat (by omega)
  rwa [Int.toNat_of_nonneg h.1] at this

theorem tok_at {s : List UInt8} {i : Nat} (h : i < s.length) : (s.take (i + 1)).all (fun x => tokC x.toNat) = ((s.take i).all (fun x => tokC x.toNat) && tokC (at' s i)) := by
  rw [List.take_add_one, List.all_append]
  congr 1
  have : s[i]? = some (s.getD i 0) := by simp [List.getD_eq_getElem?_getD, h]
  rw [this]
  simp [at']

theorem tok_bad {s : List UInt8} {i : Nat} (h : i < s.length) (hc : tokC (at' s i) = false) : tokB s = false := by
  unfold tokB
  have : s.all (fun x => tokC x.toNat) = false := by
    rw [List.all_eq_false]
    refine ⟨s.getD i 0, ?_, ?_⟩
    · rw [List.getD_eq_getElem?_getD, List.getElem?_eq_getElem h, Option.getD_some]
      exact List.getElem_mem h
    · have e : at' s i = ((s.getD i 0).toNat : Int) := by simp [at']
      rw [← e, hc]
      simp
  rw [this, Bool.and_false]

set_option maxRecDepth 100000 in
theorem token_ctr (s : List UInt8) (hs : s.length ≤ 1000000) : Ctr Tryd.prog 17 [.s s] (.b (tokB s)) := by
  refine r_fun Tryd.func17 rfl Tryd.ntmps17 Tryd.results17 rfl rfl fun X hL hX => ?_
  repeat' (first
    | with_reducible refine t_seq ?_ | with_reducible refine t_region ?_ | with_reducible refine c_nil ?_ | with_reducible refine n_then ?_
    | with_reducible refine t_ret ?_ | with_reducible refine t_skip ?_ | with_reducible refine t_exit ?_ | with_reducible refine t_block ?_
    | with_reducible refine n_block ?_ | with_reducible refine e_then ?_ | with_reducible refine x_then ?_ | with_reducible refine x_block ?_ | with_reducible refine t_draw ?_
    | refine r_val rfl rfl True.intro ?_ | refine r_gskip rfl rfl rfl ?_ | refine r_gskip2 rfl rfl rfl ?_ | refine r_gval rfl rfl rfl rfl True.intro ?_
    | refine t_true rfl ?_ | refine t_false rfl ?_
    | ((first | refine t_cond_d rfl (fun _ => ?_) (fun _ => ?_) | refine t_cond_i rfl (fun _ => ?_) (fun _ => ?_) | refine t_cond_j rfl (fun _ => ?_) (fun _ => ?_) | refine t_cond_s rfl (fun _ => ?_) (fun _ => ?_) | refine t_cond_n rfl (fun _ => ?_) (fun _ => ?_) | refine t_cond rfl (fun _ => ?_) (fun _ => ?_) | refine c_split_d rfl rfl (fun _ => ?_) (fun _ => ?_) | refine c_split_i rfl rfl (fun _ => ?_) (fun _ => ?_) | refine c_split_j rfl rfl (fun _ => ?_) (fun _ => ?_) | refine c_split_s rfl rfl (fun _ => ?_) (fun _ => ?_) | refine c_split_n rfl rfl (fun _ => ?_) (fun _ => ?_)) <;> try (first | contradiction | (exfalso; omega)))
    | refine r_val rfl rfl (by (first | omega | exact Nat.le_of_ble_eq_true rfl | (simp_all; done) | (simp_all; omega) | ((repeat' refine And.intro ?_ ?_) <;> first | omega | rfl | exact Nat.le_refl _ | exact Nat.le_of_ble_eq_true rfl | exact bytesF_one _ | (simp_all; done) | (simp_all; omega)))) ?_ | refine r_gval rfl rfl rfl rfl (by (first | omega | exact Nat.le_of_ble_eq_true rfl | (simp_all; done) | (simp_all; omega) | ((repeat' refine And.intro ?_ ?_) <;> first | omega | rfl | exact Nat.le_refl _ | exact Nat.le_of_ble_eq_true rfl | exact bytesF_one _ | (simp_all; done) | (simp_all; omega)))) ?_
    | refine r_obj rfl rfl (by (first | omega | exact Nat.le_of_ble_eq_true rfl | (simp_all; done) | (simp_all; omega) | ((repeat' refine And.intro ?_ ?_) <;> first | omega | rfl | exact Nat.le_refl _ | exact Nat.le_of_ble_eq_true rfl | exact bytesF_one _ | (simp_all; done) | (simp_all; omega)))) ?_ | refine r_sto rfl (by (first | omega | exact Nat.le_of_ble_eq_true rfl | (simp_all; done) | (simp_all; omega) | ((repeat' refine And.intro ?_ ?_) <;> first | omega | rfl | exact Nat.le_refl _ | exact Nat.le_of_ble_eq_true rfl | exact bytesF_one _ | (simp_all; done) | (simp_all; omega)))) ?_ | refine r_gobj rfl rfl rfl rfl (by (first | omega | exact Nat.le_of_ble_eq_true rfl | (simp_all; done) | (simp_all; omega) | ((repeat' refine And.intro ?_ ?_) <;> first | omega | rfl | exact Nat.le_refl _ | exact Nat.le_of_ble_eq_true rfl | exact bytesF_one _ | (simp_all; done) | (simp_all; omega)))) ?_
    | refine e_hit rfl ?_ | refine e_miss rfl ?_
    | refine ⟨by kernel_rfl, ?_⟩ | ((with_reducible refine c_grd ?_); (fail_if_success (refine c_lit true rfl rfl rfl ?_)); (fail_if_success (refine c_lit false rfl rfl rfl ?_)); refine c_split rfl rfl (fun _ => ?_) (fun _ => ?_)))
  refine T.loop hL (fun i : Nat => [(0, .s s), (5, .i .i64 s.length), (6, .i .i64 i)]) (fun _ => []) (fun i => i ≤ s.length ∧ (s.take i).all (fun x => tokC x.toNat) = true) (fun i => s.length - i) 0 ⟨Nat.zero_le _, by simp⟩
    ⟨⟨rfl, rfl, rfl, trivial⟩, trivial, rfl, fun q hq => by rw [hX] at hq; simp at hq⟩ ?_
  rintro i ⟨hi, hall⟩
  by_cases hil : i < s.length
  · have hr := at_range s i
    have hst := tok_at hil
    have him := index_mark hr
    cases hlb : letB (at' s i) with
    | true =>
      have htc : tokC (at' s i) = true := by unfold tokC; rw [hlb]; rfl
      have hl := letter_ctr (at' s i)
      rw [hlb] at hl
      repeat' (first
        | refine r_call (f := 37) rfl rfl Tryd.call37 rfl hl ?_
        | with_reducible refine t_seq ?_ | with_reducible refine t_region ?_ | with_reducible refine c_nil ?_ | with_reducible refine n_then ?_
        | with_reducible refine t_ret ?_ | with_reducible refine t_skip ?_ | with_reducible refine t_exit ?_ | with_reducible refine t_block ?_
        | with_reducible refine n_block ?_ | with_reducible refine e_then ?_ | with_reducible refine x_then ?_ | with_reducible refine x_block ?_ | with_reducible refine t_draw ?_
        | refine r_val rfl rfl True.intro ?_ | refine r_gskip rfl rfl rfl ?_ | refine r_gskip2 rfl rfl rfl ?_ | refine r_gval rfl rfl rfl rfl True.intro ?_
        | refine t_true rfl ?_ | refine t_false rfl ?_
        | ((first | refine t_cond_d rfl (fun _ => ?_) (fun _ => ?_) | refine t_cond_i rfl (fun _ => ?_) (fun _ => ?_) | refine t_cond_j rfl (fun _ => ?_) (fun _ => ?_) | refine t_cond_s rfl (fun _ => ?_) (fun _ => ?_) | refine t_cond_n rfl (fun _ => ?_) (fun _ => ?_) | refine t_cond rfl (fun _ => ?_) (fun _ => ?_) | refine c_split_d rfl rfl (fun _ => ?_) (fun _ => ?_) | refine c_split_i rfl rfl (fun _ => ?_) (fun _ => ?_) | refine c_split_j rfl rfl (fun _ => ?_) (fun _ => ?_) | refine c_split_s rfl rfl (fun _ => ?_) (fun _ => ?_) | refine c_split_n rfl rfl (fun _ => ?_) (fun _ => ?_)) <;> try (first | contradiction | (exfalso; omega)))
        | refine r_val rfl rfl (by (first | omega | exact Nat.le_of_ble_eq_true rfl | (simp_all; done) | (simp_all; omega) | ((repeat' refine And.intro ?_ ?_) <;> first | omega | rfl | exact Nat.le_refl _ | exact Nat.le_of_ble_eq_true rfl | exact bytesF_one _ | (simp_all; done) | (simp_all; omega)))) ?_ | refine r_gval rfl rfl rfl rfl (by (first | omega | exact Nat.le_of_ble_eq_true rfl | (simp_all; done) | (simp_all; omega) | ((repeat' refine And.intro ?_ ?_) <;> first | omega | rfl | exact Nat.le_refl _ | exact Nat.le_of_ble_eq_true rfl | exact bytesF_one _ | (simp_all; done) | (simp_all; omega)))) ?_
        | refine r_obj rfl rfl (by (first | omega | exact Nat.le_of_ble_eq_true rfl | (simp_all; done) | (simp_all; omega) | ((repeat' refine And.intro ?_ ?_) <;> first | omega | rfl | exact Nat.le_refl _ | exact Nat.le_of_ble_eq_true rfl | exact bytesF_one _ | (simp_all; done) | (simp_all; omega)))) ?_ | refine r_sto rfl (by (first | omega | exact Nat.le_of_ble_eq_true rfl | (simp_all; done) | (simp_all; omega) | ((repeat' refine And.intro ?_ ?_) <;> first | omega | rfl | exact Nat.le_refl _ | exact Nat.le_of_ble_eq_true rfl | exact bytesF_one _ | (simp_all; done) | (simp_all; omega)))) ?_ | refine r_gobj rfl rfl rfl rfl (by (first | omega | exact Nat.le_of_ble_eq_true rfl | (simp_all; done) | (simp_all; omega) | ((repeat' refine And.intro ?_ ?_) <;> first | omega | rfl | exact Nat.le_refl _ | exact Nat.le_of_ble_eq_true rfl | exact bytesF_one _ | (simp_all; done) | (simp_all; omega)))) ?_
        | refine e_hit rfl ?_ | refine e_miss rfl ?_
        | refine ⟨by kernel_rfl, ?_⟩ | refine x_end rfl ?_ | refine n_end rfl ?_ | ((with_reducible refine c_grd ?_); (fail_if_success (refine c_lit true rfl rfl rfl ?_)); (fail_if_success (refine c_lit false rfl rfl rfl ?_)); refine c_split rfl rfl (fun _ => ?_) (fun _ => ?_)))
      all_goals exact ⟨i + 1, ⟨by omega, by rw [hst, hall, htc]; rfl⟩, by omega, ⟨rfl, rfl, congrArg (D.i .i64) (by omega), trivial⟩, trivial, rfl, fun q hq => by rw [hX] at hq; simp at hq⟩
    | false =>
      have hl := letter_ctr (at' s i)
      rw [hlb] at hl
      have hx := w_indexByte marksL (at' s i)
      repeat' (first
        | refine r_call (f := 37) rfl rfl Tryd.call37 rfl hl ?_ | refine r_gcall (f := 38) rfl rfl rfl rfl Tryd.call38 rfl hx ?_
        | with_reducible refine t_seq ?_ | with_reducible refine t_region ?_ | with_reducible refine c_nil ?_ | with_reducible refine n_then ?_
        | with_reducible refine t_ret ?_ | with_reducible refine t_skip ?_ | with_reducible refine t_exit ?_ | with_reducible refine t_block ?_
        | with_reducible refine n_block ?_ | with_reducible refine e_then ?_ | with_reducible refine x_then ?_ | with_reducible refine x_block ?_ | with_reducible refine t_draw ?_
        | refine r_val rfl rfl True.intro ?_ | refine r_gskip rfl rfl rfl ?_ | refine r_gskip2 rfl rfl rfl ?_ | refine r_gval rfl rfl rfl rfl True.intro ?_
        | refine t_true rfl ?_ | refine t_false rfl ?_
        | ((first | refine t_cond_d rfl (fun _ => ?_) (fun _ => ?_) | refine t_cond_i rfl (fun _ => ?_) (fun _ => ?_) | refine t_cond_j rfl (fun _ => ?_) (fun _ => ?_) | refine t_cond_s rfl (fun _ => ?_) (fun _ => ?_) | refine t_cond_n rfl (fun _ => ?_) (fun _ => ?_) | refine t_cond rfl (fun _ => ?_) (fun _ => ?_) | refine c_split_d rfl rfl (fun _ => ?_) (fun _ => ?_) | refine c_split_i rfl rfl (fun _ => ?_) (fun _ => ?_) | refine c_split_j rfl rfl (fun _ => ?_) (fun _ => ?_) | refine c_split_s rfl rfl (fun _ => ?_) (fun _ => ?_) | refine c_split_n rfl rfl (fun _ => ?_) (fun _ => ?_)) <;> try (first | contradiction | (exfalso; omega)))
        | refine r_val rfl rfl (by (first | omega | exact Nat.le_of_ble_eq_true rfl | (simp_all; done) | (simp_all; omega) | ((repeat' refine And.intro ?_ ?_) <;> first | omega | rfl | exact Nat.le_refl _ | exact Nat.le_of_ble_eq_true rfl | exact bytesF_one _ | (simp_all; done) | (simp_all; omega)))) ?_ | refine r_gval rfl rfl rfl rfl (by (first | omega | exact Nat.le_of_ble_eq_true rfl | (simp_all; done) | (simp_all; omega) | ((repeat' refine And.intro ?_ ?_) <;> first | omega | rfl | exact Nat.le_refl _ | exact Nat.le_of_ble_eq_true rfl | exact bytesF_one _ | (simp_all; done) | (simp_all; omega)))) ?_
        | refine r_obj rfl rfl (by (first | omega | exact Nat.le_of_ble_eq_true rfl | (simp_all; done) | (simp_all; omega) | ((repeat' refine And.intro ?_ ?_) <;> first | omega | rfl | exact Nat.le_refl _ | exact Nat.le_of_ble_eq_true rfl | exact bytesF_one _ | (simp_all; done) | (simp_all; omega)))) ?_ | refine r_sto rfl (by (first | omega | exact Nat.le_of_ble_eq_true rfl | (simp_all; done) | (simp_all; omega) | ((repeat' refine And.intro ?_ ?_) <;> first | omega | rfl | exact Nat.le_refl _ | exact Nat.le_of_ble_eq_true rfl | exact bytesF_one _ | (simp_all; done) | (simp_all; omega)))) ?_ | refine r_gobj rfl rfl rfl rfl (by (first | omega | exact Nat.le_of_ble_eq_true rfl | (simp_all; done) | (simp_all; omega) | ((repeat' refine And.intro ?_ ?_) <;> first | omega | rfl | exact Nat.le_refl _ | exact Nat.le_of_ble_eq_true rfl | exact bytesF_one _ | (simp_all; done) | (simp_all; omega)))) ?_
        | refine e_hit rfl ?_ | refine e_miss rfl ?_
        | refine ⟨by kernel_rfl, ?_⟩ | refine x_end rfl ?_ | refine n_end rfl ?_ | ((with_reducible refine c_grd ?_); (fail_if_success (refine c_lit true rfl rfl rfl ?_)); (fail_if_success (refine c_lit false rfl rfl rfl ?_)); refine c_split rfl rfl (fun _ => ?_) (fun _ => ?_)))
      · rename_i hz
        rw [decide_eq_true hz] at him
        have : inM (at' s i) 15 = false := by simpa using him.symm
        rw [tok_bad hil (by unfold tokC; rw [hlb, this]; rfl)]
      · rename_i hz
        rw [decide_eq_false hz] at him
        have : inM (at' s i) 15 = true := by simpa using him.symm
        have htc : tokC (at' s i) = true := by unfold tokC; rw [hlb, this]; rfl
        exact ⟨i + 1, ⟨by omega, by rw [hst, hall, htc]; rfl⟩, by omega, ⟨rfl, rfl, congrArg (D.i .i64) (by omega), trivial⟩, trivial, rfl, fun q hq => by rw [hX] at hq; simp at hq⟩
  · have : i = s.length := by omega
    subst this
    rw [List.take_length] at hall
    have hb : tokB s = !(s == []) := by
      unfold tokB
      rw [hall, Bool.and_true]
      cases s <;> rfl
    rw [hb]
    repeat' (first
      | with_reducible refine t_seq ?_ | with_reducible refine t_region ?_ | with_reducible refine c_nil ?_ | with_reducible refine n_then ?_
      | with_reducible refine t_ret ?_ | with_reducible refine t_skip ?_ | with_reducible refine t_exit ?_ | with_reducible refine t_block ?_
      | with_reducible refine n_block ?_ | with_reducible refine e_then ?_ | with_reducible refine x_then ?_ | with_reducible refine x_block ?_ | with_reducible refine t_draw ?_
      | refine r_val rfl rfl True.intro ?_ | refine r_gskip rfl rfl rfl ?_ | refine r_gskip2 rfl rfl rfl ?_ | refine r_gval rfl rfl rfl rfl True.intro ?_
      | refine t_true rfl ?_ | refine t_false rfl ?_
      | ((first | refine t_cond_d rfl (fun _ => ?_) (fun _ => ?_) | refine t_cond_i rfl (fun _ => ?_) (fun _ => ?_) | refine t_cond_j rfl (fun _ => ?_) (fun _ => ?_) | refine t_cond_s rfl (fun _ => ?_) (fun _ => ?_) | refine t_cond_n rfl (fun _ => ?_) (fun _ => ?_) | refine t_cond rfl (fun _ => ?_) (fun _ => ?_) | refine c_split_d rfl rfl (fun _ => ?_) (fun _ => ?_) | refine c_split_i rfl rfl (fun _ => ?_) (fun _ => ?_) | refine c_split_j rfl rfl (fun _ => ?_) (fun _ => ?_) | refine c_split_s rfl rfl (fun _ => ?_) (fun _ => ?_) | refine c_split_n rfl rfl (fun _ => ?_) (fun _ => ?_)) <;> try (first | contradiction | (exfalso; omega)))
      | refine r_val rfl rfl (by (first | omega | exact Nat.le_of_ble_eq_true rfl | (simp_all; done) | (simp_all; omega) | ((repeat' refine And.intro ?_ ?_) <;> first | omega | rfl | exact Nat.le_refl _ | exact Nat.le_of_ble_eq_true rfl | exact bytesF_one _ | (simp_all; done) | (simp_all; omega)))) ?_ | refine r_gval rfl rfl rfl rfl (by (first | omega | exact Nat.le_of_ble_eq_true rfl | (simp_all; done) | (simp_all; omega) | ((repeat' refine And.intro ?_ ?_) <;> first | omega | rfl | exact Nat.le_refl _ | exact Nat.le_of_ble_eq_true rfl | exact bytesF_one _ | (simp_all; done) | (simp_all; omega)))) ?_
      | refine r_obj rfl rfl (by (first | omega | exact Nat.le_of_ble_eq_true rfl | (simp_all; done) | (simp_all; omega) | ((repeat' refine And.intro ?_ ?_) <;> first | omega | rfl | exact Nat.le_refl _ | exact Nat.le_of_ble_eq_true rfl | exact bytesF_one _ | (simp_all; done) | (simp_all; omega)))) ?_ | refine r_sto rfl (by (first | omega | exact Nat.le_of_ble_eq_true rfl | (simp_all; done) | (simp_all; omega) | ((repeat' refine And.intro ?_ ?_) <;> first | omega | rfl | exact Nat.le_refl _ | exact Nat.le_of_ble_eq_true rfl | exact bytesF_one _ | (simp_all; done) | (simp_all; omega)))) ?_ | refine r_gobj rfl rfl rfl rfl (by (first | omega | exact Nat.le_of_ble_eq_true rfl | (simp_all; done) | (simp_all; omega) | ((repeat' refine And.intro ?_ ?_) <;> first | omega | rfl | exact Nat.le_refl _ | exact Nat.le_of_ble_eq_true rfl | exact bytesF_one _ | (simp_all; done) | (simp_all; omega)))) ?_
      | refine e_hit rfl ?_ | refine e_miss rfl ?_
      | refine ⟨by kernel_rfl, ?_⟩ | refine x_end rfl ?_ | refine n_end rfl ?_ | ((with_reducible refine c_grd ?_); (fail_if_success (refine c_lit true rfl rfl rfl ?_)); (fail_if_success (refine c_lit false rfl rfl rfl ?_)); refine c_split rfl rfl (fun _ => ?_) (fun _ => ?_)))
    all_goals rfl

theorem inM_at {c : Int} {k : Nat} (hk : k < 15) : inM c (k + 1) = (inM c k || (at' marksL k == c)) := by
  unfold inM
  rw [List.take_add_one, List.any_append]
  congr 1
  have hl : k < marksL.length := hk
  have : marksL[k]? = some (marksL.getD k 0) := by simp [List.getD_eq_getElem?_getD, hl]
  rw [this]
  simp [at']

set_option maxRecDepth 100000 in
theorem rtoken_ctr (s : List UInt8) (hs : s.length ≤ 1000000) : Ctr Tryd.prog 18 [.s s] (.b (tokB s)) := by
  refine r_fun Tryd.func18 rfl Tryd.ntmps18 Tryd.results18 rfl rfl fun X hL hX => ?_
  repeat' (first
    | with_reducible refine t_seq ?_ | with_reducible refine t_region ?_ | with_reducible refine c_nil ?_ | with_reducible refine n_then ?_
    | with_reducible refine t_ret ?_ | with_reducible refine t_skip ?_ | with_reducible refine t_exit ?_ | with_reducible refine t_block ?_
    | with_reducible refine n_block ?_ | with_reducible refine e_then ?_ | with_reducible refine x_then ?_ | with_reducible refine x_block ?_ | with_reducible refine t_draw ?_
    | refine r_val rfl rfl True.intro ?_ | refine r_gskip rfl rfl rfl ?_ | refine r_gskip2 rfl rfl rfl ?_ | refine r_gval rfl rfl rfl rfl True.intro ?_
    | refine t_true rfl ?_ | refine t_false rfl ?_
    | ((first | refine t_cond_d rfl (fun _ => ?_) (fun _ => ?_) | refine t_cond_i rfl (fun _ => ?_) (fun _ => ?_) | refine t_cond_j rfl (fun _ => ?_) (fun _ => ?_) | refine t_cond_s rfl (fun _ => ?_) (fun _ => ?_) | refine t_cond_n rfl (fun _ => ?_) (fun _ => ?_) | refine t_cond rfl (fun _ => ?_) (fun _ => ?_) | refine c_split_d rfl rfl (fun _ => ?_) (fun _ => ?_) | refine c_split_i rfl rfl (fun _ => ?_) (fun _ => ?_) | refine c_split_j rfl rfl (fun _ => ?_) (fun _ => ?_) | refine c_split_s rfl rfl (fun _ => ?_) (fun _ => ?_) | refine c_split_n rfl rfl (fun _ => ?_) (fun _ => ?_)) <;> try (first | contradiction | (exfalso; omega)))
    | refine r_val rfl rfl (by (first | omega | exact Nat.le_of_ble_eq_true rfl | (simp_all; done) | (simp_all; omega) | ((repeat' refine And.intro ?_ ?_) <;> first | omega | rfl | exact Nat.le_refl _ | exact Nat.le_of_ble_eq_true rfl | exact bytesF_one _ | (simp_all; done) | (simp_all; omega)))) ?_ | refine r_gval rfl rfl rfl rfl (by (first | omega | exact Nat.le_of_ble_eq_true rfl | (simp_all; done) | (simp_all; omega) | ((repeat' refine And.intro ?_ ?_) <;> first | omega | rfl | exact Nat.le_refl _ | exact Nat.le_of_ble_eq_true rfl | exact bytesF_one _ | (simp_all; done) | (simp_all; omega)))) ?_
    | refine r_obj rfl rfl (by (first | omega | exact Nat.le_of_ble_eq_true rfl | (simp_all; done) | (simp_all; omega) | ((repeat' refine And.intro ?_ ?_) <;> first | omega | rfl | exact Nat.le_refl _ | exact Nat.le_of_ble_eq_true rfl | exact bytesF_one _ | (simp_all; done) | (simp_all; omega)))) ?_ | refine r_sto rfl (by (first | omega | exact Nat.le_of_ble_eq_true rfl | (simp_all; done) | (simp_all; omega) | ((repeat' refine And.intro ?_ ?_) <;> first | omega | rfl | exact Nat.le_refl _ | exact Nat.le_of_ble_eq_true rfl | exact bytesF_one _ | (simp_all; done) | (simp_all; omega)))) ?_ | refine r_gobj rfl rfl rfl rfl (by (first | omega | exact Nat.le_of_ble_eq_true rfl | (simp_all; done) | (simp_all; omega) | ((repeat' refine And.intro ?_ ?_) <;> first | omega | rfl | exact Nat.le_refl _ | exact Nat.le_of_ble_eq_true rfl | exact bytesF_one _ | (simp_all; done) | (simp_all; omega)))) ?_
    | refine e_hit rfl ?_ | refine e_miss rfl ?_
    | refine ⟨by kernel_rfl, ?_⟩ | ((with_reducible refine c_grd ?_); (fail_if_success (refine c_lit true rfl rfl rfl ?_)); (fail_if_success (refine c_lit false rfl rfl rfl ?_)); refine c_split rfl rfl (fun _ => ?_) (fun _ => ?_)))
  refine T.loop hL (fun i : Nat => [(0, .s s), (3, .s marksL), (4, .i .i64 i)]) (fun _ => []) (fun i => i ≤ s.length ∧ (s.take i).all (fun x => tokC x.toNat) = true) (fun i => s.length - i) 0 ⟨Nat.zero_le _, by simp⟩
    ⟨⟨rfl, rfl, rfl, trivial⟩, trivial, rfl, fun q hq => by rw [hX] at hq; simp at hq⟩ ?_
  rintro i ⟨hi, hall⟩
  by_cases hil : i < s.length
  · have hst := tok_at hil
    have hl := alnum_ctr (at' s i)
    repeat' (first
      | refine r_call (f := 39) rfl rfl Tryd.call39 rfl hl ?_
      | with_reducible refine t_seq ?_ | with_reducible refine t_region ?_ | with_reducible refine c_nil ?_ | with_reducible refine n_then ?_
      | with_reducible refine t_ret ?_ | with_reducible refine t_skip ?_ | with_reducible refine t_exit ?_ | with_reducible refine t_block ?_
      | with_reducible refine n_block ?_ | with_reducible refine e_then ?_ | with_reducible refine x_then ?_ | with_reducible refine x_block ?_ | with_reducible refine t_draw ?_
      | refine r_val rfl rfl True.intro ?_ | refine r_gskip rfl rfl rfl ?_ | refine r_gskip2 rfl rfl rfl ?_ | refine r_gval rfl rfl rfl rfl True.intro ?_
      | refine t_true rfl ?_ | refine t_false rfl ?_
      | ((first | refine t_cond_d rfl (fun _ => ?_) (fun _ => ?_) | refine t_cond_i rfl (fun _ => ?_) (fun _ => ?_) | refine t_cond_j rfl (fun _ => ?_) (fun _ => ?_) | refine t_cond_s rfl (fun _ => ?_) (fun _ => ?_) | refine t_cond_n rfl (fun _ => ?_) (fun _ => ?_) | refine t_cond rfl (fun _ => ?_) (fun _ => ?_) | refine c_split_d rfl rfl (fun _ => ?_) (fun _ => ?_) | refine c_split_i rfl rfl (fun _ => ?_) (fun _ => ?_) | refine c_split_j rfl rfl (fun _ => ?_) (fun _ => ?_) | refine c_split_s rfl rfl (fun _ => ?_) (fun _ => ?_) | refine c_split_n rfl rfl (fun _ => ?_) (fun _ => ?_)) <;> try (first | contradiction | (exfalso; omega)))
      | refine r_val rfl rfl (by (first | omega | exact Nat.le_of_ble_eq_true rfl | (simp_all; done) | (simp_all; omega) | ((repeat' refine And.intro ?_ ?_) <;> first | omega | rfl | exact Nat.le_refl _ | exact Nat.le_of_ble_eq_true rfl | exact bytesF_one _ | (simp_all; done) | (simp_all; omega)))) ?_ | refine r_gval rfl rfl rfl rfl (by (first | omega | exact Nat.le_of_ble_eq_true rfl | (simp_all; done) | (simp_all; omega) | ((repeat' refine And.intro ?_ ?_) <;> first | omega | rfl | exact Nat.le_refl _ | exact Nat.le_of_ble_eq_true rfl | exact bytesF_one _ | (simp_all; done) | (simp_all; omega)))) ?_
      | refine r_obj rfl rfl (by (first | omega | exact Nat.le_of_ble_eq_true rfl | (simp_all; done) | (simp_all; omega) | ((repeat' refine And.intro ?_ ?_) <;> first | omega | rfl | exact Nat.le_refl _ | exact Nat.le_of_ble_eq_true rfl | exact bytesF_one _ | (simp_all; done) | (simp_all; omega)))) ?_ | refine r_sto rfl (by (first | omega | exact Nat.le_of_ble_eq_true rfl | (simp_all; done) | (simp_all; omega) | ((repeat' refine And.intro ?_ ?_) <;> first | omega | rfl | exact Nat.le_refl _ | exact Nat.le_of_ble_eq_true rfl | exact bytesF_one _ | (simp_all; done) | (simp_all; omega)))) ?_ | refine r_gobj rfl rfl rfl rfl (by (first | omega | exact Nat.le_of_ble_eq_true rfl | (simp_all; done) | (simp_all; omega) | ((repeat' refine And.intro ?_ ?_) <;> first | omega | rfl | exact Nat.le_refl _ | exact Nat.le_of_ble_eq_true rfl | exact bytesF_one _ | (simp_all; done) | (simp_all; omega)))) ?_
      | refine e_hit rfl ?_ | refine e_miss rfl ?_
      | refine ⟨by kernel_rfl, ?_⟩ | ((with_reducible refine c_grd ?_); (fail_if_success (refine c_lit true rfl rfl rfl ?_)); (fail_if_success (refine c_lit false rfl rfl rfl ?_)); refine c_split rfl rfl (fun _ => ?_) (fun _ => ?_)))
    refine T.loop hL (fun k : Nat => [(0, .s s), (3, .s marksL), (4, .i .i64 i), (5, .b (letB (at' s i) || inM (at' s i) k)), (6, .i .i64 k)]) (fun _ => []) (fun k => k ≤ 15) (fun k => 15 - k) 0 (by omega)
      ⟨⟨rfl, rfl, rfl, by show D.b (letB (at' s i)) = D.b (letB (at' s i) || inM (at' s i) 0); rw [show inM (at' s i) 0 = false from rfl, Bool.or_false], rfl, trivial⟩, trivial, rfl, fun q hq => by rw [hX] at hq; simp at hq⟩ ?_
    intro k hk
    have hml : marksL.length = 15 := rfl
    by_cases hk15 : k < 15
    · have hin := inM_at (c := at' s i) hk15
      cases ho : (letB (at' s i) || inM (at' s i) k) with
      | true =>
        have hn : (letB (at' s i) || inM (at' s i) (k + 1)) = true := by rw [hin, ← Bool.or_assoc, ho]; rfl
        repeat' (first
          | with_reducible refine t_seq ?_ | with_reducible refine t_region ?_ | with_reducible refine c_nil ?_ | with_reducible refine n_then ?_
          | with_reducible refine t_ret ?_ | with_reducible refine t_skip ?_ | with_reducible refine t_exit ?_ | with_reducible refine t_block ?_
          | with_reducible refine n_block ?_ | with_reducible refine e_then ?_ | with_reducible refine x_then ?_ | with_reducible refine x_block ?_ | with_reducible refine t_draw ?_
          | refine r_val rfl rfl True.intro ?_ | refine r_gskip rfl rfl rfl ?_ | refine r_gskip2 rfl rfl rfl ?_ | refine r_gval rfl rfl rfl rfl True.intro ?_
          | refine t_true rfl ?_ | refine t_false rfl ?_
          | ((first | refine t_cond_d rfl (fun _ => ?_) (fun _ => ?_) | refine t_cond_i rfl (fun _ => ?_) (fun _ => ?_) | refine t_cond_j rfl (fun _ => ?_) (fun _ => ?_) | refine t_cond_s rfl (fun _ => ?_) (fun _ => ?_) | refine t_cond_n rfl (fun _ => ?_) (fun _ => ?_) | refine t_cond rfl (fun _ => ?_) (fun _ => ?_) | refine c_split_d rfl rfl (fun _ => ?_) (fun _ => ?_) | refine c_split_i rfl rfl (fun _ => ?_) (fun _ => ?_) | refine c_split_j rfl rfl (fun _ => ?_) (fun _ => ?_) | refine c_split_s rfl rfl (fun _ => ?_) (fun _ => ?_) | refine c_split_n rfl rfl (fun _ => ?_) (fun _ => ?_)) <;> try (first | contradiction | (exfalso; omega)))
          | refine r_val rfl rfl (by (first | omega | exact Nat.le_of_ble_eq_true rfl | (simp_all; done) | (simp_all; omega) | ((repeat' refine And.intro ?_ ?_) <;> first | omega | rfl | exact Nat.le_refl _ | exact Nat.le_of_ble_eq_true rfl | exact bytesF_one _ | (simp_all; done) | (simp_all; omega)))) ?_ | refine r_gval rfl rfl rfl rfl (by (first | omega | exact Nat.le_of_ble_eq_true rfl | (simp_all; done) | (simp_all; omega) | ((repeat' refine And.intro ?_ ?_) <;> first | omega | rfl | exact Nat.le_refl _ | exact Nat.le_of_ble_eq_true rfl | exact bytesF_one _ | (simp_all; done) | (simp_all; omega)))) ?_
          | refine r_obj rfl rfl (by (first | omega | exact Nat.le_of_ble_eq_true rfl | (simp_all; done) | (simp_all; omega) | ((repeat' refine And.intro ?_ ?_) <;> first | omega | rfl | exact Nat.le_refl _ | exact Nat.le_of_ble_eq_true rfl | exact bytesF_one _ | (simp_all; done) | (simp_all; omega)))) ?_ | refine r_sto rfl (by (first | omega | exact Nat.le_of_ble_eq_true rfl | (simp_all; done) | (simp_all; omega) | ((repeat' refine And.intro ?_ ?_) <;> first | omega | rfl | exact Nat.le_refl _ | exact Nat.le_of_ble_eq_true rfl | exact bytesF_one _ | (simp_all; done) | (simp_all; omega)))) ?_ | refine r_gobj rfl rfl rfl rfl (by (first | omega | exact Nat.le_of_ble_eq_true rfl | (simp_all; done) | (simp_all; omega) | ((repeat' refine And.intro ?_ ?_) <;> first | omega | rfl | exact Nat.le_refl _ | exact Nat.le_of_ble_eq_true rfl | exact bytesF_one _ | (simp_all; done) | (simp_all; omega)))) ?_
          | refine e_hit rfl ?_ | refine e_miss rfl ?_
          | refine ⟨by kernel_rfl, ?_⟩ | ((with_reducible refine c_grd ?_); (fail_if_success (refine c_lit true rfl rfl rfl ?_)); (fail_if_success (refine c_lit false rfl rfl rfl ?_)); refine c_split rfl rfl (fun _ => ?_) (fun _ => ?_)))
        all_goals exact ⟨k + 1, by omega, by omega, ⟨rfl, rfl, rfl, by rw [hn]; rfl, congrArg (D.i .i64) (by omega), trivial⟩, trivial, rfl, fun q hq => by rw [hX] at hq; simp at hq⟩
      | false =>
        have hn : (letB (at' s i) || inM (at' s i) (k + 1)) = (at' marksL k == at' s i) := by rw [hin, ← Bool.or_assoc, ho]; rfl
        repeat' (first
          | with_reducible refine t_seq ?_ | with_reducible refine t_region ?_ | with_reducible refine c_nil ?_ | with_reducible refine n_then ?_
          | with_reducible refine t_ret ?_ | with_reducible refine t_skip ?_ | with_reducible refine t_exit ?_ | with_reducible refine t_block ?_
          | with_reducible refine n_block ?_ | with_reducible refine e_then ?_ | with_reducible refine x_then ?_ | with_reducible refine x_block ?_ | with_reducible refine t_draw ?_
          | refine r_val rfl rfl True.intro ?_ | refine r_gskip rfl rfl rfl ?_ | refine r_gskip2 rfl rfl rfl ?_ | refine r_gval rfl rfl rfl rfl True.intro ?_
          | refine t_true rfl ?_ | refine t_false rfl ?_
          | ((first | refine t_cond_d rfl (fun _ => ?_) (fun _ => ?_) | refine t_cond_i rfl (fun _ => ?_) (fun _ => ?_) | refine t_cond_j rfl (fun _ => ?_) (fun _ => ?_) | refine t_cond_s rfl (fun _ => ?_) (fun _ => ?_) | refine t_cond_n rfl (fun _ => ?_) (fun _ => ?_) | refine t_cond rfl (fun _ => ?_) (fun _ => ?_) | refine c_split_d rfl rfl (fun _ => ?_) (fun _ => ?_) | refine c_split_i rfl rfl (fun _ => ?_) (fun _ => ?_) | refine c_split_j rfl rfl (fun _ => ?_) (fun _ => ?_) | refine c_split_s rfl rfl (fun _ => ?_) (fun _ => ?_) | refine c_split_n rfl rfl (fun _ => ?_) (fun _ => ?_)) <;> try (first | contradiction | (exfalso; omega)))
          | refine r_val rfl rfl (by (first | omega | exact Nat.le_of_ble_eq_true rfl | (simp_all; done) | (simp_all; omega) | ((repeat' refine And.intro ?_ ?_) <;> first | omega | rfl | exact Nat.le_refl _ | exact Nat.le_of_ble_eq_true rfl | exact bytesF_one _ | (simp_all; done) | (simp_all; omega)))) ?_ | refine r_gval rfl rfl rfl rfl (by (first | omega | exact Nat.le_of_ble_eq_true rfl | (simp_all; done) | (simp_all; omega) | ((repeat' refine And.intro ?_ ?_) <;> first | omega | rfl | exact Nat.le_refl _ | exact Nat.le_of_ble_eq_true rfl | exact bytesF_one _ | (simp_all; done) | (simp_all; omega)))) ?_
          | refine r_obj rfl rfl (by (first | omega | exact Nat.le_of_ble_eq_true rfl | (simp_all; done) | (simp_all; omega) | ((repeat' refine And.intro ?_ ?_) <;> first | omega | rfl | exact Nat.le_refl _ | exact Nat.le_of_ble_eq_true rfl | exact bytesF_one _ | (simp_all; done) | (simp_all; omega)))) ?_ | refine r_sto rfl (by (first | omega | exact Nat.le_of_ble_eq_true rfl | (simp_all; done) | (simp_all; omega) | ((repeat' refine And.intro ?_ ?_) <;> first | omega | rfl | exact Nat.le_refl _ | exact Nat.le_of_ble_eq_true rfl | exact bytesF_one _ | (simp_all; done) | (simp_all; omega)))) ?_ | refine r_gobj rfl rfl rfl rfl (by (first | omega | exact Nat.le_of_ble_eq_true rfl | (simp_all; done) | (simp_all; omega) | ((repeat' refine And.intro ?_ ?_) <;> first | omega | rfl | exact Nat.le_refl _ | exact Nat.le_of_ble_eq_true rfl | exact bytesF_one _ | (simp_all; done) | (simp_all; omega)))) ?_
          | refine e_hit rfl ?_ | refine e_miss rfl ?_
          | refine ⟨by kernel_rfl, ?_⟩ | ((with_reducible refine c_grd ?_); (fail_if_success (refine c_lit true rfl rfl rfl ?_)); (fail_if_success (refine c_lit false rfl rfl rfl ?_)); refine c_split rfl rfl (fun _ => ?_) (fun _ => ?_)))
        all_goals exact ⟨k + 1, by omega, by omega, ⟨rfl, rfl, rfl, by rw [hn]; rfl, congrArg (D.i .i64) (by omega), trivial⟩, trivial, rfl, fun q hq => by rw [hX] at hq; simp at hq⟩
    · have : k = 15 := by omega
      subst this
      cases ho : tokC (at' s i) with
      | true =>
        rw [show (letB (at' s i) || inM (at' s i) 15) = true from ho]
        repeat' (first
          | with_reducible refine t_seq ?_ | with_reducible refine t_region ?_ | with_reducible refine c_nil ?_ | with_reducible refine n_then ?_
          | with_reducible refine t_ret ?_ | with_reducible refine t_skip ?_ | with_reducible refine t_exit ?_ | with_reducible refine t_block ?_
          | with_reducible refine n_block ?_ | with_reducible refine e_then ?_ | with_reducible refine x_then ?_ | with_reducible refine x_block ?_ | with_reducible refine t_draw ?_
          | refine r_val rfl rfl True.intro ?_ | refine r_gskip rfl rfl rfl ?_ | refine r_gskip2 rfl rfl rfl ?_ | refine r_gval rfl rfl rfl rfl True.intro ?_
          | refine t_true rfl ?_ | refine t_false rfl ?_
          | ((first | refine t_cond_d rfl (fun _ => ?_) (fun _ => ?_) | refine t_cond_i rfl (fun _ => ?_) (fun _ => ?_) | refine t_cond_j rfl (fun _ => ?_) (fun _ => ?_) | refine t_cond_s rfl (fun _ => ?_) (fun _ => ?_) | refine t_cond_n rfl (fun _ => ?_) (fun _ => ?_) | refine t_cond rfl (fun _ => ?_) (fun _ => ?_) | refine c_split_d rfl rfl (fun _ => ?_) (fun _ => ?_) | refine c_split_i rfl rfl (fun _ => ?_) (fun _ => ?_) | refine c_split_j rfl rfl (fun _ => ?_) (fun _ => ?_) | refine c_split_s rfl rfl (fun _ => ?_) (fun _ => ?_) | refine c_split_n rfl rfl (fun _ => ?_) (fun _ => ?_)) <;> try (first | contradiction | (exfalso; omega)))
          | refine r_val rfl rfl (by (first | omega | exact Nat.le_of_ble_eq_true rfl | (simp_all; done) | (simp_all; omega) | ((repeat' refine And.intro ?_ ?_) <;> first | omega | rfl | exact Nat.le_refl _ | exact Nat.le_of_ble_eq_true rfl | exact bytesF_one _ | (simp_all; done) | (simp_all; omega)))) ?_ | refine r_gval rfl rfl rfl rfl (by (first | omega | exact Nat.le_of_ble_eq_true rfl | (simp_all; done) | (simp_all; omega) | ((repeat' refine And.intro ?_ ?_) <;> first | omega | rfl | exact Nat.le_refl _ | exact Nat.le_of_ble_eq_true rfl | exact bytesF_one _ | (simp_all; done) | (simp_all; omega)))) ?_
          | refine r_obj rfl rfl (by (first | omega | exact Nat.le_of_ble_eq_true rfl | (simp_all; done) | (simp_all; omega) | ((repeat' refine And.intro ?_ ?_) <;> first | omega | rfl | exact Nat.le_refl _ | exact Nat.le_of_ble_eq_true rfl | exact bytesF_one _ | (simp_all; done) | (simp_all; omega)))) ?_ | refine r_sto rfl (by (first | omega | exact Nat.le_of_ble_eq_true rfl | (simp_all; done) | (simp_all; omega) | ((repeat' refine And.intro ?_ ?_) <;> first | omega | rfl | exact Nat.le_refl _ | exact Nat.le_of_ble_eq_true rfl | exact bytesF_one _ | (simp_all; done) | (simp_all; omega)))) ?_ | refine r_gobj rfl rfl rfl rfl (by (first | omega | exact Nat.le_of_ble_eq_true rfl | (simp_all; done) | (simp_all; omega) | ((repeat' refine And.intro ?_ ?_) <;> first | omega | rfl | exact Nat.le_refl _ | exact Nat.le_of_ble_eq_true rfl | exact bytesF_one _ | (simp_all; done) | (simp_all; omega)))) ?_
          | refine e_hit rfl ?_ | refine e_miss rfl ?_
          | refine ⟨by kernel_rfl, ?_⟩ | refine x_end rfl ?_ | refine n_end rfl ?_ | ((with_reducible refine c_grd ?_); (fail_if_success (refine c_lit true rfl rfl rfl ?_)); (fail_if_success (refine c_lit false rfl rfl rfl ?_)); refine c_split rfl rfl (fun _ => ?_) (fun _ => ?_)))
        all_goals exact ⟨i + 1, ⟨by omega, by rw [hst, hall, ho]; rfl⟩, by omega, ⟨rfl, rfl, congrArg (D.i .i64) (by omega), trivial⟩, trivial, rfl, fun q hq => by rw [hX] at hq; simp at hq⟩
      | false =>
        rw [show (letB (at' s i) || inM (at' s i) 15) = false from ho]
        repeat' (first
          | with_reducible refine t_seq ?_ | with_reducible refine t_region ?_ | with_reducible refine c_nil ?_ | with_reducible refine n_then ?_
          | with_reducible refine t_ret ?_ | with_reducible refine t_skip ?_ | with_reducible refine t_exit ?_ | with_reducible refine t_block ?_
          | with_reducible refine n_block ?_ | with_reducible refine e_then ?_ | with_reducible refine x_then ?_ | with_reducible refine x_block ?_ | with_reducible refine t_draw ?_
          | refine r_val rfl rfl True.intro ?_ | refine r_gskip rfl rfl rfl ?_ | refine r_gskip2 rfl rfl rfl ?_ | refine r_gval rfl rfl rfl rfl True.intro ?_
          | refine t_true rfl ?_ | refine t_false rfl ?_
          | ((first | refine t_cond_d rfl (fun _ => ?_) (fun _ => ?_) | refine t_cond_i rfl (fun _ => ?_) (fun _ => ?_) | refine t_cond_j rfl (fun _ => ?_) (fun _ => ?_) | refine t_cond_s rfl (fun _ => ?_) (fun _ => ?_) | refine t_cond_n rfl (fun _ => ?_) (fun _ => ?_) | refine t_cond rfl (fun _ => ?_) (fun _ => ?_) | refine c_split_d rfl rfl (fun _ => ?_) (fun _ => ?_) | refine c_split_i rfl rfl (fun _ => ?_) (fun _ => ?_) | refine c_split_j rfl rfl (fun _ => ?_) (fun _ => ?_) | refine c_split_s rfl rfl (fun _ => ?_) (fun _ => ?_) | refine c_split_n rfl rfl (fun _ => ?_) (fun _ => ?_)) <;> try (first | contradiction | (exfalso; omega)))
          | refine r_val rfl rfl (by (first | omega | exact Nat.le_of_ble_eq_true rfl | (simp_all; done) | (simp_all; omega) | ((repeat' refine And.intro ?_ ?_) <;> first | omega | rfl | exact Nat.le_refl _ | exact Nat.le_of_ble_eq_true rfl | exact bytesF_one _ | (simp_all; done) | (simp_all; omega)))) ?_ | refine r_gval rfl rfl rfl rfl (by (first | omega | exact Nat.le_of_ble_eq_true rfl | (simp_all; done) | (simp_all; omega) | ((repeat' refine And.intro ?_ ?_) <;> first | omega | rfl | exact Nat.le_refl _ | exact Nat.le_of_ble_eq_true rfl | exact bytesF_one _ | (simp_all; done) | (simp_all; omega)))) ?_
          | refine r_obj rfl rfl (by (first | omega | exact Nat.le_of_ble_eq_true rfl | (simp_all; done) | (simp_all; omega) | ((repeat' refine And.intro ?_ ?_) <;> first | omega | rfl | exact Nat.le_refl _ | exact Nat.le_of_ble_eq_true rfl | exact bytesF_one _ | (simp_all; done) | (simp_all; omega)))) ?_ | refine r_sto rfl (by (first | omega | exact Nat.le_of_ble_eq_true rfl | (simp_all; done) | (simp_all; omega) | ((repeat' refine And.intro ?_ ?_) <;> first | omega | rfl | exact Nat.le_refl _ | exact Nat.le_of_ble_eq_true rfl | exact bytesF_one _ | (simp_all; done) | (simp_all; omega)))) ?_ | refine r_gobj rfl rfl rfl rfl (by (first | omega | exact Nat.le_of_ble_eq_true rfl | (simp_all; done) | (simp_all; omega) | ((repeat' refine And.intro ?_ ?_) <;> first | omega | rfl | exact Nat.le_refl _ | exact Nat.le_of_ble_eq_true rfl | exact bytesF_one _ | (simp_all; done) | (simp_all; omega)))) ?_
          | refine e_hit rfl ?_ | refine e_miss rfl ?_
          | refine ⟨by kernel_rfl, ?_⟩ | refine x_end rfl ?_ | refine n_end rfl ?_ | ((with_reducible refine c_grd ?_); (fail_if_success (refine c_lit true rfl rfl rfl ?_)); (fail_if_success (refine c_lit false rfl rfl rfl ?_)); refine c_split rfl rfl (fun _ => ?_) (fun _ => ?_)))
        all_goals rw [tok_bad hil ho]
  · have : i = s.length := by omega
    subst this
    rw [List.take_length] at hall
    have hb : tokB s = decide ((0 : Int) < (s.length : Int)) := by
      unfold tokB
      rw [hall, Bool.and_true]
      cases s with
      | nil => rfl
      | cons a r =>
        rw [Bool.eq_iff_iff, decide_eq_true_eq]
        simp only [List.isEmpty_cons, Bool.not_false, List.length_cons, true_iff]
        omega
    rw [hb]
    repeat' (first
      | with_reducible refine t_seq ?_ | with_reducible refine t_region ?_ | with_reducible refine c_nil ?_ | with_reducible refine n_then ?_
      | with_reducible refine t_ret ?_ | with_reducible refine t_skip ?_ | with_reducible refine t_exit ?_ | with_reducible refine t_block ?_
      | with_reducible refine n_block ?_ | with_reducible refine e_then ?_ | with_reducible refine x_then ?_ | with_reducible refine x_block ?_ | with_reducible refine t_draw ?_
      | refine r_val rfl rfl True.intro ?_ | refine r_gskip rfl rfl rfl ?_ | refine r_gskip2 rfl rfl rfl ?_ | refine r_gval rfl rfl rfl rfl True.intro ?_
      | refine t_true rfl ?_ | refine t_false rfl ?_
      | ((first | refine t_cond_d rfl (fun _ => ?_) (fun _ => ?_) | refine t_cond_i rfl (fun _ => ?_) (fun _ => ?_) | refine t_cond_j rfl (fun _ => ?_) (fun _ => ?_) | refine t_cond_s rfl (fun _ => ?_) (fun _ => ?_) | refine t_cond_n rfl (fun _ => ?_) (fun _ => ?_) | refine t_cond rfl (fun _ => ?_) (fun _ => ?_) | refine c_split_d rfl rfl (fun _ => ?_) (fun _ => ?_) | refine c_split_i rfl rfl (fun _ => ?_) (fun _ => ?_) | refine c_split_j rfl rfl (fun _ => ?_) (fun _ => ?_) | refine c_split_s rfl rfl (fun _ => ?_) (fun _ => ?_) | refine c_split_n rfl rfl (fun _ => ?_) (fun _ => ?_)) <;> try (first | contradiction | (exfalso; omega)))
      | refine r_val rfl rfl (by (first | omega | exact Nat.le_of_ble_eq_true rfl | (simp_all; done) | (simp_all; omega) | ((repeat' refine And.intro ?_ ?_) <;> first | omega | rfl | exact Nat.le_refl _ | exact Nat.le_of_ble_eq_true rfl | exact bytesF_one _ | (simp_all; done) | (simp_all; omega)))) ?_ | refine r_gval rfl rfl rfl rfl (by (first | omega | exact Nat.le_of_ble_eq_true rfl | (simp_all; done) | (simp_all; omega) | ((repeat' refine And.intro ?_ ?_) <;> first | omega | rfl | exact Nat.le_refl _ | exact Nat.le_of_ble_eq_true rfl | exact bytesF_one _ | (simp_all; done) | (simp_all; omega)))) ?_
      | refine r_obj rfl rfl (by (first | omega | exact Nat.le_of_ble_eq_true rfl | (simp_all; done) | (simp_all; omega) | ((repeat' refine And.intro ?_ ?_) <;> first | omega | rfl | exact Nat.le_refl _ | exact Nat.le_of_ble_eq_true rfl | exact bytesF_one _ | (simp_all; done) | (simp_all; omega)))) ?_ | refine r_sto rfl (by (first | omega | exact Nat.le_of_ble_eq_true rfl | (simp_all; done) | (simp_all; omega) | ((repeat' refine And.intro ?_ ?_) <;> first | omega | rfl | exact Nat.le_refl _ | exact Nat.le_of_ble_eq_true rfl | exact bytesF_one _ | (simp_all; done) | (simp_all; omega)))) ?_ | refine r_gobj rfl rfl rfl rfl (by (first | omega | exact Nat.le_of_ble_eq_true rfl | (simp_all; done) | (simp_all; omega) | ((repeat' refine And.intro ?_ ?_) <;> first | omega | rfl | exact Nat.le_refl _ | exact Nat.le_of_ble_eq_true rfl | exact bytesF_one _ | (simp_all; done) | (simp_all; omega)))) ?_
      | refine e_hit rfl ?_ | refine e_miss rfl ?_
      | refine ⟨by kernel_rfl, ?_⟩ | refine x_end rfl ?_ | refine n_end rfl ?_ | ((with_reducible refine c_grd ?_); (fail_if_success (refine c_lit true rfl rfl rfl ?_)); (fail_if_success (refine c_lit false rfl rfl rfl ?_)); refine c_split rfl rfl (fun _ => ?_) (fun _ => ?_)))
    all_goals rfl

end Go.Proofs.YtghdgjabpdfaoaaDoor.Flow
