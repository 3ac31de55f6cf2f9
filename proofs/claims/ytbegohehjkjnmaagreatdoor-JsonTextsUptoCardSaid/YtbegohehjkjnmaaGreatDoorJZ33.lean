/- The texts FlowR, FlowRb, J19, Laid, LaidD, LaidK, one behind the other. -/
import Derived.Test.YtbegohehjkjnmaaGreatDoorJZ21
import Derived.Test.YtbegohehjkjnmaaGreatDoorJZ32
import Derived.OpenShut
import Derived.JoinedCond
import Derived.LaidLaws
import Derived.MakeChecks
import Derived.Lay
import Derived.Shelf.LaysM
namespace Go.Proofs.YtbegohehjkjnmaaGreatDoor.Flow
open Go.ChangeShapes Go.WideShapes Go.ChangeAt Go.RowKit

set_option maxRecDepth 100000
variable {H : Type} {enc : TypeId × Value → H} {W : World}

def strOf : DataW H → List UInt8
  | .lit (.string l) => l
  | _ => []
def intOf : DataW H → Int
  | .lit (.int _ n) => n
  | _ => 0
def boolOf : DataW H → Bool
  | .lit (.bool b) => b
  | _ => false
def kids : DataW H → List (DataW H)
  | .slice es _ => es
  | .agg ps => ps
  | _ => []

def Tells (enc : TypeId × Value → H) (W : World) (t z : Nat) (G : DataW H → List D) : Prop :=
  ∀ fuel cs x, DataW.trod enc Tryz.prog W 0 (fun _ => true) true fuel t cs = some x → cs.length = z ∧ (G x.1).length = z ∧ (G x.1).all D.plain = true ∧ ∀ j, j < z → Rel (allOf W) W noRho ((G x.1).getD j .any) (cs.getD j undef)

theorem tells_str {t : TypeId} (ht : Tryz.prog.underlying t = some .string) : Tells enc W t 1 (fun d => [.s (strOf d)]) := fun fuel cs x h => by
  obtain ⟨s, rfl, rfl, _⟩ := DataW.trod_string ht h
  refine ⟨rfl, rfl, rfl, fun j hj => ?_⟩
  obtain rfl : j = 0 := by omega
  exact .s _ s.data.toList

theorem tells_int {t : TypeId} {k : IntKind} (ht : Tryz.prog.underlying t = some (.int k)) : Tells enc W t 1 (fun d => [.i k (intOf d)]) := fun fuel cs x h => by
  obtain ⟨n, rfl, rfl, _⟩ := DataW.trod_int ht h
  refine ⟨rfl, rfl, rfl, fun j hj => ?_⟩
  obtain rfl : j = 0 := by omega
  exact .i _ k n

theorem tells_bool {t : TypeId} (ht : Tryz.prog.underlying t = some .bool) : Tells enc W t 1 (fun d => [.b (boolOf d)]) := fun fuel cs x h => by
  obtain ⟨b, rfl, rfl⟩ := DataW.trod_bool ht h
  refine ⟨rfl, rfl, rfl, fun j hj => ?_⟩
  obtain rfl : j = 0 := by omega
  exact .b _ b

theorem tells_slice {t e z : Nat} {G : DataW H → List D} (ht : Tryz.prog.underlying t = some (.slice e)) (hc : Tryz.prog.cellsOf e = z) (hz : 0 < z) (hG : Tells enc W e z G) :
    Tells enc W t 1 (fun d => [.sl z (kids d).length (fun i => G ((kids d).getD i .nil))]) := fun fuel cs x h => by
  rcases DataW.trod_slice ht h with ⟨rfl, rfl⟩ | ⟨a, len, cap, elems, rest, n, rfl, rfl, rfl, hb, hl, hm, hlen, hel, _, _⟩
  · refine ⟨rfl, rfl, rfl, fun j hj => ?_⟩
    obtain rfl : j = 0 := by omega
    exact .sl _ z 0 _ none 0 (fun _ _ => undef) (Nat.le_refl _) (by unfold maxLen; omega) (fun i hi => by omega) (fun i j hi => by omega) (fun i j hi => by omega)
  · refine ⟨rfl, rfl, rfl, fun j hj => ?_⟩
    obtain rfl : j = 0 := by omega
    have each : ∀ i, i < len → ∃ cs' y, elems[i]? = some y ∧ W.cells? 0 (a.add (i * z)) z = some cs' ∧ DataW.trod enc Tryz.prog W 0 (fun _ => true) true n e cs' = some y := fun i hi => by
      have h1 := hel i hi
      have hi' : i < elems.length := by omega
      rw [hc, List.getElem?_eq_getElem hi'] at h1
      cases hcs : W.cells? 0 (a.add (i * z)) z with
      | none => rw [hcs] at h1; cases h1
      | some cs' =>
        rw [hcs] at h1
        exact ⟨cs', elems[i], List.getElem?_eq_getElem hi', rfl, h1⟩
    have hlen' : (elems.map (·.1)).length = len := by simp [hlen]
    have hk : ∀ i y, elems[i]? = some y → (elems.map (·.1)).getD i .nil = y.1 := fun i y hy => by
      simp [List.getD_eq_getElem?_getD, hy]
    have hspot : 0 < len → a.spot = none := fun h0 => by
      obtain ⟨cs', y, _, h2, h3⟩ := each 0 h0
      obtain ⟨_, hn, h4⟩ := World.cells?_some h2
      have h5 := h4 0 hz
      have hlt : 0 < cs'.length := by omega
      rw [List.getElem?_eq_getElem hlt] at h5
      cases hsp : a.spot with
      | none => rfl
      | some k =>
        exfalso
        simp only [Nat.zero_mul, Addr.add, if_true, World.cell?, hsp, Option.isSome_some] at h5
        split at h5 <;> simp at h5
    have hcl : ∀ i j, i < len → j < z → ∃ cs' y v, elems[i]? = some y ∧ DataW.trod enc Tryz.prog W 0 (fun _ => true) true n e cs' = some y ∧ cs'[j]? = some v ∧ W.cell? ⟨a.block, a.off + i * z + j, none⟩ = some v := fun i j hi hj => by
      obtain ⟨cs', y, h1, h2, h3⟩ := each i hi
      obtain ⟨_, hn, h4⟩ := World.cells?_some h2
      have h5 := h4 j hj
      have hlt : j < cs'.length := by omega
      rw [List.getElem?_eq_getElem hlt] at h5
      refine ⟨cs', y, cs'[j], h1, h3, List.getElem?_eq_getElem hlt, ?_⟩
      rw [← h5]
      have hsp := hspot (by omega)
      congr 1
      obtain ⟨ab, ao, asp⟩ := a
      simp only at hsp
      subst hsp
      simp only [Addr.add]
      split <;> split <;> simp_all <;> omega
    have hcell := fun i j hi hj => hcl i j hi hj
    show Rel (allOf W) W noRho (.sl z (elems.map (·.1)).length (fun i => G ((elems.map (·.1)).getD i .nil))) (.slice (some a) len cap)
    rw [hlen']
    refine .sl _ z len _ (some a) cap (fun i j => (W.cell? ⟨a.block, a.off + i * z + j, none⟩).getD undef) (by omega) hm (fun i hi => ?_) (fun i j hi hj => ?_) (fun i j hi hj => ?_)
    · obtain ⟨cs', y, h1, _, h3⟩ := each i hi
      rw [hk i y h1]
      have := hG _ _ _ h3
      exact ⟨this.2.1, this.2.2.1⟩
    · obtain ⟨cs', y, v, _, _, _, h4⟩ := hcl i j hi hj
      refine ⟨a.block, a.off, ?_, ?_, by rw [h4]; rfl⟩
      · have hsp := hspot (by omega)
        obtain ⟨ab, ao, asp⟩ := a
        simp only at hsp
        subst hsp
        rfl
      · show a.block < W.heap.size
        unfold World.cell? at h4
        split at h4
        · rename_i hh
          exact (Array.getElem?_eq_some_iff.1 hh).1
        · cases h4
    · obtain ⟨cs', y, v, h1, h2, h3, h4⟩ := hcl i j hi hj
      rw [hk i y h1, h4]
      have := (hG _ _ _ h2).2.2.2 j hj
      rw [List.getD_eq_getElem?_getD (l := cs'), h3] at this
      exact this

inductive TellsF (enc : TypeId × Value → H) (W : World) : List Field → Nat → List (DataW H → List D) → Nat → Prop
  | nil (off : Nat) : TellsF enc W [] off [] off
  | cons (f : Field) (fs : List Field) (off z N : Nat) (G : DataW H → List D) (Gs : List (DataW H → List D)) (ho : f.offset = off) (hc : Tryz.prog.cellsOf f.type = z) (hG : Tells enc W f.type z G) (h : TellsF enc W fs (off + z) Gs N) : TellsF enc W (f :: fs) off (G :: Gs) N

def catG : List (DataW H → List D) → List (DataW H) → List D
  | [], _ => []
  | g :: r, l => g (l.getD 0 .nil) ++ catG r (l.drop 1)

theorem tellsF_rel {n : Nat} {cs : List Value} : ∀ {fs : List Field} {off N : Nat} {Gs : List (DataW H → List D)} {xs : List (DataW H × List MemPlace)}, TellsF enc W fs off Gs N → cs.length = N → xs.length = fs.length →
    (∀ (i : Nat) (f : Field), fs[i]? = some f → DataW.trod enc Tryz.prog W 0 (fun _ => true) true n f.type ((cs.drop f.offset).take (Tryz.prog.cellsOf f.type)) = xs[i]?) →
    (catG Gs (xs.map (·.1))).length + off = N ∧ (catG Gs (xs.map (·.1))).all D.plain = true ∧ ∀ j, off + j < N → Rel (allOf W) W noRho ((catG Gs (xs.map (·.1))).getD j .any) (cs.getD (off + j) undef)
  | [], off, N, Gs, xs, h, hN, hn, hx => by
    cases h
    exact ⟨by simp [catG], rfl, fun j hj => by omega⟩
  | f :: fs, off, N, Gs, xs, h, hN, hn, hx => by
    cases h with
    | cons _ _ _ z _ G Gs ho hc hG h =>
      match xs, hn with
      | x :: xs, hn =>
        have h0 := hx 0 f rfl
        rw [ho, hc] at h0
        obtain ⟨k1, k2, k3, k4⟩ := hG _ _ _ h0
        obtain ⟨i1, i2, i3⟩ := tellsF_rel (xs := xs) h hN (by simpa using hn) (fun i g hg => hx (i + 1) g hg)
        simp only [List.map_cons, catG, List.getD_cons_zero, List.drop_succ_cons, List.drop_zero]
        refine ⟨by rw [List.length_append]; omega, by rw [List.all_append, k3, i2]; rfl, fun j hj => ?_⟩
        by_cases hjz : j < z
        · have e1 : (G x.1 ++ catG Gs (xs.map (·.1))).getD j .any = (G x.1).getD j .any := by
            simp [List.getD_eq_getElem?_getD, List.getElem?_append_left (show j < (G x.1).length by omega)]
          rw [e1]
          have := k4 j hjz
          have e2 : ((cs.drop off).take z).getD j undef = cs.getD (off + j) undef := by
            simp [List.getD_eq_getElem?_getD, hjz]
          rwa [e2] at this
        · have e1 : (G x.1 ++ catG Gs (xs.map (·.1))).getD j .any = (catG Gs (xs.map (·.1))).getD (j - z) .any := by
            simp only [List.getD_eq_getElem?_getD]
            rw [List.getElem?_append_right (by omega), k2]
          rw [e1]
          have := i3 (j - z) (by omega)
          rwa [show off + z + (j - z) = off + j by omega] at this

theorem tells_struct {t z : Nat} {fs : Array Field} {l : List Field} {Gs : List (DataW H → List D)} (ht : Tryz.prog.underlying t = some (.struct fs)) (hl : fs.toList = l) (hc : Tryz.prog.cellsOf t = z) (h : TellsF enc W l 0 Gs z) :
    Tells enc W t z (fun d => catG Gs (kids d)) := fun fuel cs x hx => by
  obtain ⟨xs, n, rfl, rfl, hlen, hn, hf⟩ := DataW.trod_struct ht hx
  rw [hc] at hlen
  have := tellsF_rel (n := n) (xs := xs) h hlen (by rw [hn, ← hl]; simp) (fun i f hi => hf i f (by rw [← hl] at hi; simpa using hi))
  refine ⟨hlen, by simpa [kids] using this.1, this.2.1, fun j hj => by simpa [kids] using this.2.2 j (by omega)⟩

theorem arg_str {base : Nat} {t : TypeId} {v : Value} {d : DataW H} {ps : List MemPlace} (ht : Tryz.prog.underlying t = some .string) (hv : Value.okWide Tryz.prog W .any base t v) (h : DataW.Trod enc Tryz.prog W 0 (fun _ => true) true t v d ps) : Rel (allOf W) W noRho (.s (strOf d)) v := by
  obtain ⟨s, rfl⟩ := okWide_string ht hv
  obtain ⟨fuel, hf⟩ := h
  have := (tells_str ht _ _ _ hf).2.2.2 0 (by omega)
  exact this
theorem arg_int {base : Nat} {t : TypeId} {k : IntKind} {v : Value} {d : DataW H} {ps : List MemPlace} (ht : Tryz.prog.underlying t = some (.int k)) (hv : Value.okWide Tryz.prog W .any base t v) (h : DataW.Trod enc Tryz.prog W 0 (fun _ => true) true t v d ps) : Rel (allOf W) W noRho (.i k (intOf d)) v := by
  obtain ⟨s, rfl⟩ := okWide_int ht hv
  obtain ⟨fuel, hf⟩ := h
  have := (tells_int ht _ _ _ hf).2.2.2 0 (by omega)
  exact this
theorem arg_bool {base : Nat} {t : TypeId} {v : Value} {d : DataW H} {ps : List MemPlace} (ht : Tryz.prog.underlying t = some .bool) (hv : Value.okWide Tryz.prog W .any base t v) (h : DataW.Trod enc Tryz.prog W 0 (fun _ => true) true t v d ps) : Rel (allOf W) W noRho (.b (boolOf d)) v := by
  obtain ⟨s, rfl⟩ := okWide_bool ht hv
  obtain ⟨fuel, hf⟩ := h
  have := (tells_bool ht _ _ _ hf).2.2.2 0 (by omega)
  exact this
theorem arg_slice {base : Nat} {t e z : Nat} {v : Value} {d : DataW H} {ps : List MemPlace} {G : DataW H → List D} (ht : Tryz.prog.underlying t = some (.slice e)) (hc : Tryz.prog.cellsOf e = z) (hz : 0 < z) (hG : Tells enc W e z G)
    (hv : Value.okWide Tryz.prog W .any base t v) (h : DataW.Trod enc Tryz.prog W 0 (fun _ => true) true t v d ps) : Rel (allOf W) W noRho (.sl z (kids d).length (fun i => G ((kids d).getD i .nil))) v := by
  obtain ⟨a, len, cap, rfl⟩ := okWide_slice ht hv
  obtain ⟨fuel, hf⟩ := h
  have := (tells_slice ht hc hz hG _ _ _ hf).2.2.2 0 (by omega)
  exact this
theorem arg_struct {base : Nat} {t z : Nat} {fs : Array Field} {v : Value} {d : DataW H} {ps : List MemPlace} {G : DataW H → List D} (ht : Tryz.prog.underlying t = some (.struct fs)) (hG : Tells enc W t z G)
    (hv : Value.okWide Tryz.prog W .any base t v) (h : DataW.Trod enc Tryz.prog W 0 (fun _ => true) true t v d ps) : Rel (allOf W) W noRho (.ag (G d)) v := by
  obtain ⟨cs, rfl, hs⟩ := okWide_struct ht hv
  obtain ⟨fuel, hf⟩ := h
  obtain ⟨h1, h2, h3, h4⟩ := hG _ _ _ hf
  replace h2 : (G d).length = z := h2
  have h1' : cs.size = z := by simpa [Value.cells] using h1
  refine .ag _ _ cs (by omega) (fun j hj => ?_)
  have := h4 j (by omega)
  simpa [Value.cells, Array.getD_eq_getD_getElem?, List.getD_eq_getElem?_getD] using this

theorem bulk_one (d : DataW H) : 1 ≤ Rows.uptoBulk d := by
  cases d with
  | lit l => cases l <;> simp [Rows.uptoBulk]
  | _ => simp [Rows.uptoBulk]

theorem bulk_mem {d : DataW H} : ∀ {l : List (DataW H)}, d ∈ l → Rows.uptoBulk d ≤ Rows.uptoBulkAll l
  | x :: r, h => by
    simp only [Rows.uptoBulkAll]
    rcases List.mem_cons.1 h with rfl | h
    · omega
    · have := bulk_mem h
      omega

theorem bulk_kids (d : DataW H) : Rows.uptoBulkAll (kids d) ≤ Rows.uptoBulk d := by
  cases d <;> simp [kids, Rows.uptoBulk, Rows.uptoBulkAll] <;> omega

theorem bulk_str (d : DataW H) : (strOf d).length ≤ Rows.uptoBulk d := by
  cases d with
  | lit l => cases l <;> simp [strOf, Rows.uptoBulk]
  | _ => simp [strOf]

end Go.Proofs.YtbegohehjkjnmaaGreatDoor.Flow

namespace Go.Proofs.YtbegohehjkjnmaaGreatDoor.Flow
open Go.ChangeShapes Go.WideShapes Go.ChangeAt Go.RowKit

set_option maxRecDepth 100000
variable {H : Type} {enc : TypeId × Value → H} {W : World}

def TellsP (enc : TypeId × Value → H) (W : World) (P : DataW H → Prop) (t z : Nat) (G : DataW H → List D) : Prop :=
  ∀ fuel cs x, P x.1 → DataW.trod enc Tryz.prog W 0 (fun _ => true) true fuel t cs = some x → cs.length = z ∧ (G x.1).length = z ∧ (G x.1).all D.plain = true ∧ ∀ j, j < z → Rel (allOf W) W noRho ((G x.1).getD j .any) (cs.getD j undef)
theorem Tells.toP {t z : Nat} {G : DataW H → List D} {P : DataW H → Prop} (h : Tells enc W t z G) : TellsP enc W P t z G := fun fuel cs x _ hx => h fuel cs x hx

theorem tells_sliceP {t e z : Nat} {G : DataW H → List D} {P Q : DataW H → Prop} (hPQ : ∀ d, P d → ∀ y ∈ kids d, Q y) (ht : Tryz.prog.underlying t = some (.slice e)) (hc : Tryz.prog.cellsOf e = z) (hz : 0 < z) (hG : TellsP enc W Q e z G) :
    TellsP enc W P t 1 (fun d => [.sl z (kids d).length (fun i => G ((kids d).getD i .nil))]) := fun fuel cs x hp h => by
  rcases DataW.trod_slice ht h with ⟨rfl, rfl⟩ | ⟨a, len, cap, elems, rest, n, rfl, rfl, rfl, hb, hl, hm, hlen, hel, _, _⟩
  · refine ⟨rfl, rfl, rfl, fun j hj => ?_⟩
    obtain rfl : j = 0 := by omega
    exact .sl _ z 0 _ none 0 (fun _ _ => undef) (Nat.le_refl _) (by unfold maxLen; omega) (fun i hi => by omega) (fun i j hi => by omega) (fun i j hi => by omega)
  · refine ⟨rfl, rfl, rfl, fun j hj => ?_⟩
    obtain rfl : j = 0 := by omega
    have each : ∀ i, i < len → ∃ cs' y, elems[i]? = some y ∧ W.cells? 0 (a.add (i * z)) z = some cs' ∧ DataW.trod enc Tryz.prog W 0 (fun _ => true) true n e cs' = some y := fun i hi => by
      have h1 := hel i hi
      have hi' : i < elems.length := by omega
      rw [hc, List.getElem?_eq_getElem hi'] at h1
      cases hcs : W.cells? 0 (a.add (i * z)) z with
      | none => rw [hcs] at h1; cases h1
      | some cs' =>
        rw [hcs] at h1
        exact ⟨cs', elems[i], List.getElem?_eq_getElem hi', rfl, h1⟩
    have hlen' : (elems.map (·.1)).length = len := by simp [hlen]
    have hk : ∀ i y, elems[i]? = some y → (elems.map (·.1)).getD i .nil = y.1 := fun i y hy => by
      simp [List.getD_eq_getElem?_getD, hy]
    have hspot : 0 < len → a.spot = none := fun h0 => by
      obtain ⟨cs', y, _, h2, h3⟩ := each 0 h0
      obtain ⟨_, hn, h4⟩ := World.cells?_some h2
      have h5 := h4 0 hz
      have hlt : 0 < cs'.length := by omega
      rw [List.getElem?_eq_getElem hlt] at h5
      cases hsp : a.spot with
      | none => rfl
      | some k =>
        exfalso
        simp only [Nat.zero_mul, Addr.add, if_true, World.cell?, hsp, Option.isSome_some] at h5
        split at h5 <;> simp at h5
    have hcl : ∀ i j, i < len → j < z → ∃ cs' y v, elems[i]? = some y ∧ DataW.trod enc Tryz.prog W 0 (fun _ => true) true n e cs' = some y ∧ cs'[j]? = some v ∧ W.cell? ⟨a.block, a.off + i * z + j, none⟩ = some v := fun i j hi hj => by
      obtain ⟨cs', y, h1, h2, h3⟩ := each i hi
      obtain ⟨_, hn, h4⟩ := World.cells?_some h2
      have h5 := h4 j hj
      have hlt : j < cs'.length := by omega
      rw [List.getElem?_eq_getElem hlt] at h5
      refine ⟨cs', y, cs'[j], h1, h3, List.getElem?_eq_getElem hlt, ?_⟩
      rw [← h5]
      have hsp := hspot (by omega)
      congr 1
      obtain ⟨ab, ao, asp⟩ := a
      simp only at hsp
      subst hsp
      simp only [Addr.add]
      split <;> split <;> simp_all <;> omega
    have hcell := fun i j hi hj => hcl i j hi hj
    show Rel (allOf W) W noRho (.sl z (elems.map (·.1)).length (fun i => G ((elems.map (·.1)).getD i .nil))) (.slice (some a) len cap)
    rw [hlen']
    refine .sl _ z len _ (some a) cap (fun i j => (W.cell? ⟨a.block, a.off + i * z + j, none⟩).getD undef) (by omega) hm (fun i hi => ?_) (fun i j hi hj => ?_) (fun i j hi hj => ?_)
    · obtain ⟨cs', y, h1, _, h3⟩ := each i hi
      rw [hk i y h1]
      have := hG _ _ _ (hPQ _ hp _ (List.mem_map.2 ⟨y, List.mem_of_getElem? h1, rfl⟩)) h3
      exact ⟨this.2.1, this.2.2.1⟩
    · obtain ⟨cs', y, v, _, _, _, h4⟩ := hcl i j hi hj
      refine ⟨a.block, a.off, ?_, ?_, by rw [h4]; rfl⟩
      · have hsp := hspot (by omega)
        obtain ⟨ab, ao, asp⟩ := a
        simp only at hsp
        subst hsp
        rfl
      · show a.block < W.heap.size
        unfold World.cell? at h4
        split at h4
        · rename_i hh
          exact (Array.getElem?_eq_some_iff.1 hh).1
        · cases h4
    · obtain ⟨cs', y, v, h1, h2, h3, h4⟩ := hcl i j hi hj
      rw [hk i y h1, h4]
      have := (hG _ _ _ (hPQ _ hp _ (List.mem_map.2 ⟨y, List.mem_of_getElem? h1, rfl⟩)) h2).2.2.2 j hj
      rw [List.getD_eq_getElem?_getD (l := cs'), h3] at this
      exact this

inductive TellsFP (enc : TypeId × Value → H) (W : World) (Q : DataW H → Prop) : List Field → Nat → List (DataW H → List D) → Nat → Prop
  | nil (off : Nat) : TellsFP enc W Q [] off [] off
  | cons (f : Field) (fs : List Field) (off z N : Nat) (G : DataW H → List D) (Gs : List (DataW H → List D)) (ho : f.offset = off) (hc : Tryz.prog.cellsOf f.type = z) (hG : TellsP enc W Q f.type z G) (h : TellsFP enc W Q fs (off + z) Gs N) : TellsFP enc W Q (f :: fs) off (G :: Gs) N

theorem tellsF_relP {Q : DataW H → Prop} {n : Nat} {cs : List Value} : ∀ {fs : List Field} {off N : Nat} {Gs : List (DataW H → List D)} {xs : List (DataW H × List MemPlace)}, TellsFP enc W Q fs off Gs N → cs.length = N → xs.length = fs.length →
    (∀ x ∈ xs, Q x.1) → (∀ (i : Nat) (f : Field), fs[i]? = some f → DataW.trod enc Tryz.prog W 0 (fun _ => true) true n f.type ((cs.drop f.offset).take (Tryz.prog.cellsOf f.type)) = xs[i]?) →
    (catG Gs (xs.map (·.1))).length + off = N ∧ (catG Gs (xs.map (·.1))).all D.plain = true ∧ ∀ j, off + j < N → Rel (allOf W) W noRho ((catG Gs (xs.map (·.1))).getD j .any) (cs.getD (off + j) undef)
  | [], off, N, Gs, xs, h, hN, hn, hq, hx => by
    cases h
    exact ⟨by simp [catG], rfl, fun j hj => by omega⟩
  | f :: fs, off, N, Gs, xs, h, hN, hn, hq, hx => by
    cases h with
    | cons _ _ _ z _ G Gs ho hc hG h =>
      match xs, hn with
      | x :: xs, hn =>
        have h0 := hx 0 f rfl
        rw [ho, hc] at h0
        obtain ⟨k1, k2, k3, k4⟩ := hG _ _ _ (hq x (by simp)) h0
        obtain ⟨i1, i2, i3⟩ := tellsF_relP (xs := xs) h hN (by simpa using hn) (fun y hy => hq y (by simp [hy])) (fun i g hg => hx (i + 1) g hg)
        simp only [List.map_cons, catG, List.getD_cons_zero, List.drop_succ_cons, List.drop_zero]
        refine ⟨by rw [List.length_append]; omega, by rw [List.all_append, k3, i2]; rfl, fun j hj => ?_⟩
        by_cases hjz : j < z
        · have e1 : (G x.1 ++ catG Gs (xs.map (·.1))).getD j .any = (G x.1).getD j .any := by
            simp [List.getD_eq_getElem?_getD, List.getElem?_append_left (show j < (G x.1).length by omega)]
          rw [e1]
          have := k4 j hjz
          have e2 : ((cs.drop off).take z).getD j undef = cs.getD (off + j) undef := by
            simp [List.getD_eq_getElem?_getD, hjz]
          rwa [e2] at this
        · have e1 : (G x.1 ++ catG Gs (xs.map (·.1))).getD j .any = (catG Gs (xs.map (·.1))).getD (j - z) .any := by
            simp only [List.getD_eq_getElem?_getD]
            rw [List.getElem?_append_right (by omega), k2]
          rw [e1]
          have := i3 (j - z) (by omega)
          rwa [show off + z + (j - z) = off + j by omega] at this

theorem tells_structP {P Q : DataW H → Prop} (hPQ : ∀ d, P d → ∀ y ∈ kids d, Q y) {t z : Nat} {fs : Array Field} {l : List Field} {Gs : List (DataW H → List D)} (ht : Tryz.prog.underlying t = some (.struct fs)) (hl : fs.toList = l) (hc : Tryz.prog.cellsOf t = z) (h : TellsFP enc W Q l 0 Gs z) :
    TellsP enc W P t z (fun d => catG Gs (kids d)) := fun fuel cs x hp hx => by
  obtain ⟨xs, n, rfl, rfl, hlen, hn, hf⟩ := DataW.trod_struct ht hx
  rw [hc] at hlen
  have := tellsF_relP (n := n) (xs := xs) h hlen (by rw [hn, ← hl]; simp) (fun y hy => hPQ _ hp _ (List.mem_map.2 ⟨y, hy, rfl⟩)) (fun i f hi => hf i f (by rw [← hl] at hi; simpa using hi))
  refine ⟨hlen, by simpa [kids] using this.1, this.2.1, fun j hj => by simpa [kids] using this.2.2 j (by omega)⟩


theorem arg_structP {base : Nat} {t z : Nat} {fs : Array Field} {v : Value} {d : DataW H} {ps : List MemPlace} {G : DataW H → List D} {P : DataW H → Prop} (ht : Tryz.prog.underlying t = some (.struct fs)) (hG : TellsP enc W P t z G) (hp : P d)
    (hv : Value.okWide Tryz.prog W .any base t v) (h : DataW.Trod enc Tryz.prog W 0 (fun _ => true) true t v d ps) : Rel (allOf W) W noRho (.ag (G d)) v := by
  obtain ⟨cs, rfl, hs⟩ := okWide_struct ht hv
  obtain ⟨fuel, hf⟩ := h
  obtain ⟨h1, h2, h3, h4⟩ := hG _ _ _ hp hf
  replace h2 : (G d).length = z := h2
  have h1' : cs.size = z := by simpa [Value.cells] using h1
  refine .ag _ _ cs (by omega) (fun j hj => ?_)
  have := h4 j (by omega)
  simpa [Value.cells, Array.getD_eq_getD_getElem?, List.getD_eq_getElem?_getD] using this
theorem bulk_kid {d y : DataW H} (h : y ∈ kids d) : Rows.uptoBulk y < Rows.uptoBulk d := by
  have h1 := bulk_mem h
  cases d <;> simp [kids] at h
  all_goals
    simp only [kids] at h1
    simp only [Rows.uptoBulk]
    omega

end Go.Proofs.YtbegohehjkjnmaaGreatDoor.Flow

namespace Go.Proofs.YtbegohehjkjnmaaGreatDoor.Flow
open Go

section
variable {H : Type} {enc : TypeId × Value → H} {W : World}
abbrev jk0 (l : List (DataW H)) : DataW H := l.getD 0 .nil
def decC : DataW H → List D := fun d => catG [fun d => [.b (boolOf d)], fun d => [.s (strOf d)], fun d => [.i .i64 (intOf d)]] (kids d)
def jOf : Nat → DataW H → J
  | 0, _ => j0
  | n + 1, d => .mk (intOf (jk0 (kids d))) (boolOf (jk0 ((kids d).drop 1))) (boolOf (jk0 (kids (jk0 (((kids d).drop 1).drop 1))))) (strOf (jk0 ((kids (jk0 (((kids d).drop 1).drop 1))).drop 1))) (intOf (jk0 (((kids (jk0 (((kids d).drop 1).drop 1))).drop 1).drop 1)))
    (strOf (jk0 ((((kids d).drop 1).drop 1).drop 1))) ((kids (jk0 (((((kids d).drop 1).drop 1).drop 1).drop 1))).map (jOf n)) ((kids (jk0 ((((((kids d).drop 1).drop 1).drop 1).drop 1).drop 1))).map strOf)

theorem tells_decJ : Tells enc W 23 3 (decC (H := H)) :=
  tells_struct Tryz.underlying23 rfl (by kernel_rfl) (.cons _ _ 0 1 3 _ _ rfl (by kernel_rfl) (tells_bool Tryz.underlying4) (.cons _ _ 1 1 3 _ _ rfl (by kernel_rfl) (tells_str Tryz.underlying9) (.cons _ _ 2 1 3 _ _ rfl (by kernel_rfl) (tells_int Tryz.underlying3) (.nil 3))))

theorem tx_weak (l : List (DataW H)) : Weak (.sl 1 l.length (fun i => [.s (strOf (l.getD i .nil))])) (.sl 1 (l.map strOf).length (txF (l.map strOf))) := by
  rw [List.length_map]
  refine .sl _ _ _ _ (fun i hi => ⟨rfl, rfl⟩) fun i j hi hj => ?_
  have e : (l.map strOf).getD i [] = strOf (l.getD i .nil) := by simp [List.getD_eq_getElem?_getD, hi]
  unfold txF
  rw [e]
  exact .refl _
theorem js_weak (n : Nat) (l : List (DataW H)) : Weak (.sl 8 l.length (fun i => jP (jOf n (l.getD i .nil)))) (.sl 8 (l.map (jOf n)).length (jF (l.map (jOf n)))) := by
  have e : ∀ i, i < l.length → jF (l.map (jOf n)) i = jP (jOf n (l.getD i .nil)) := fun i hi => by
    rw [jF_at (by simpa using hi), jC_P]
    simp [List.getD_eq_getElem?_getD, hi]
  rw [List.length_map]
  refine .sl _ _ _ _ (fun i hi => ?_) fun i j hi hj => ?_
  · rw [e i hi]
    exact ⟨rfl, rfl⟩
  · rw [e i hi]
    exact .refl _

set_option maxRecDepth 100000 in
theorem tells_json : ∀ n, TellsP enc W (fun d => Rows.uptoBulk d < n) 27 8 (fun d : DataW H => jP (jOf n d))
  | 0 => fun fuel cs x hp => absurd hp (Nat.not_lt_zero _)
  | n + 1 => fun fuel cs x hp hx => by
    have kid : ∀ (m : Nat) (d : DataW H), Rows.uptoBulk d < m + 1 → ∀ y ∈ kids d, Rows.uptoBulk y < m := fun m d h y hy => by
      have := bulk_kid hy
      omega
    have base := tells_structP (enc := enc) (W := W) (P := fun d => Rows.uptoBulk d < n + 1) (Q := fun d => Rows.uptoBulk d < n) (kid n) Tryz.underlying27 rfl (by kernel_rfl)
      (.cons _ _ 0 1 8 _ _ rfl (by kernel_rfl) (tells_int Tryz.underlying3).toP (.cons _ _ 1 1 8 _ _ rfl (by kernel_rfl) (tells_bool Tryz.underlying4).toP (.cons _ _ 2 3 8 _ _ rfl (by kernel_rfl) tells_decJ.toP (.cons _ _ 5 1 8 _ _ rfl (by kernel_rfl) (tells_str Tryz.underlying9).toP
        (.cons _ _ 6 1 8 _ _ rfl (by kernel_rfl) (tells_sliceP (P := fun d => Rows.uptoBulk d < n) (Q := fun d => Rows.uptoBulk d < n) (fun d h y hy => Nat.lt_trans (bulk_kid hy) h) Tryz.underlying24 (by kernel_rfl) (by omega) (tells_json n))
          (.cons _ _ 7 1 8 _ _ rfl (by kernel_rfl) (tells_slice Tryz.underlying25 (by kernel_rfl) (by omega) (tells_str Tryz.underlying9)).toP (.nil 8)))))))
    obtain ⟨h1, h2, h3, h4⟩ := base fuel cs x hp hx
    refine ⟨h1, rfl, rfl, fun j hj => ?_⟩
    match j, hj with
    | 0, _ => exact h4 0 (by omega)
    | 1, _ => exact h4 1 (by omega)
    | 2, _ => exact h4 2 (by omega)
    | 3, _ => exact h4 3 (by omega)
    | 4, _ => exact h4 4 (by omega)
    | 5, _ => exact h4 5 (by omega)
    | 6, _ => exact (h4 6 (by omega)).weak (js_weak n _)
    | 7, _ => exact (h4 7 (by omega)).weak (tx_weak _)

theorem str_in (l : List (DataW H)) : (strOf (jk0 l)).length + Rows.uptoBulkAll (l.drop 1) ≤ Rows.uptoBulkAll l := by
  cases l with
  | nil => exact Nat.le_refl _
  | cons x r =>
    have := bulk_str x
    simp only [List.drop_succ_cons, List.drop_zero, Rows.uptoBulkAll]
    show (strOf x).length + _ ≤ _
    omega
theorem any_in (l : List (DataW H)) : Rows.uptoBulkAll (kids (jk0 l)) + Rows.uptoBulkAll (l.drop 1) ≤ Rows.uptoBulkAll l := by
  cases l with
  | nil => exact Nat.le_refl _
  | cons x r =>
    have := bulk_kids x
    simp only [List.drop_succ_cons, List.drop_zero, Rows.uptoBulkAll]
    show Rows.uptoBulkAll (kids x) + _ ≤ _
    omega
theorem drop_in (l : List (DataW H)) : Rows.uptoBulkAll (l.drop 1) ≤ Rows.uptoBulkAll l := by
  have := any_in l
  omega
theorem str1 (d : DataW H) : (strOf d).length + 1 ≤ Rows.uptoBulk d := by
  unfold strOf
  split
  · simp [Rows.uptoBulk]
  · have := bulk_one d
    simpa using this
theorem tx_in : ∀ l : List (DataW H), txL (l.map strOf) ≤ Rows.uptoBulkAll l
  | [] => Nat.le_refl _
  | x :: r => by
    have := tx_in r
    have := str1 x
    simp only [List.map_cons, txL, Rows.uptoBulkAll]
    omega
theorem bulk_kids1 (d : DataW H) : 1 + Rows.uptoBulkAll (kids d) ≤ Rows.uptoBulk d := by
  have h1 := bulk_one d
  cases d <;> simp only [kids, Rows.uptoBulk, Rows.uptoBulkAll] at h1 ⊢ <;> omega
theorem jb_of : ∀ (n : Nat) (d : DataW H), jb (jOf n d) ≤ Rows.uptoBulk d
  | 0, d => bulk_one d
  | n + 1, d => by
    have each : ∀ l : List (DataW H), jbL (l.map (jOf n)) ≤ Rows.uptoBulkAll l := by
      intro l
      induction l with
      | nil => exact Nat.le_refl _
      | cons x r ih =>
        have := jb_of n x
        simp only [List.map_cons, jbL, Rows.uptoBulkAll]
        omega
    have hd := bulk_kids1 d
    unfold jOf
    rw [jb]
    generalize kids d = l at *
    have a0 := drop_in l
    generalize l.drop 1 = l1 at *
    have a1 := drop_in l1
    generalize l1.drop 1 = l2 at *
    have a2 := any_in l2
    have b1 := str_in ((kids (jk0 l2)).drop 1)
    have b2 := drop_in (kids (jk0 l2))
    generalize l2.drop 1 = l3 at *
    have a3 := str_in l3
    generalize l3.drop 1 = l4 at *
    have a4 := any_in l4
    have b4 := each (kids (jk0 l4))
    generalize l4.drop 1 = l5 at *
    have a5 := any_in l5
    have b5 := tx_in (kids (jk0 l5))
    omega

set_option maxRecDepth 100000 in
theorem arg_json {base : Nat} {v : Value} {d : DataW H} {ps : List MemPlace} (hv : Value.okWide Tryz.prog W .any base 27 v) (h : DataW.Trod enc Tryz.prog W 0 (fun _ => true) true 27 v d ps) :
    Rel (allOf W) W noRho (.ag (jP (jOf (Rows.uptoBulk d + 1) d))) v :=
  arg_structP Tryz.underlying27 (tells_json (Rows.uptoBulk d + 1)) (Nat.lt_succ_self _) hv h
set_option maxRecDepth 100000 in
theorem arg_decJ {base : Nat} {v : Value} {d : DataW H} {ps : List MemPlace} (hv : Value.okWide Tryz.prog W .any base 23 v) (h : DataW.Trod enc Tryz.prog W 0 (fun _ => true) true 23 v d ps) :
    Rel (allOf W) W noRho (.ag (decC d)) v :=
  arg_struct Tryz.underlying23 tells_decJ hv h
set_option maxRecDepth 100000 in
theorem arg_jsonE {base : Nat} {v : Value} {d : DataW H} {ps : List MemPlace} (hv : Value.okWide Tryz.prog W .any base 27 v) (h : DataW.Trod enc Tryz.prog W 0 (fun _ => true) true 27 v d ps) (hb : Rows.uptoBulk d ≤ 1048576) :
    ∃ x : J, jb x ≤ 4194304 ∧ Rel (allOf W) W noRho (.ag (jP x)) v :=
  ⟨_, by have := jb_of (Rows.uptoBulk d + 1) d; omega, arg_json hv h⟩
set_option maxRecDepth 100000 in
theorem arg_decE {base : Nat} {v : Value} {d : DataW H} {ps : List MemPlace} (hv : Value.okWide Tryz.prog W .any base 23 v) (h : DataW.Trod enc Tryz.prog W 0 (fun _ => true) true 23 v d ps) :
    ∃ (n : Bool) (s : List UInt8) (e : Int), Rel (allOf W) W noRho (.ag [.b n, .s s, .i .i64 e]) v :=
  ⟨_, _, _, arg_decJ hv h⟩
end

end Go.Proofs.YtbegohehjkjnmaaGreatDoor.Flow

namespace Go.Proofs.YtbegohehjkjnmaaGreatDoor.Flow
open Go.ChangeShapes Go.WideShapes Go.ChangeAt Go.RowKit

set_option maxRecDepth 100000

section
variable {H : Type}
mutual
def flatD : DataW H → List Value
  | .lit (.int k n) => [.int k n]
  | .lit (.bool b) => [.bool b]
  | .lit (.string l) => [.string ⟨l.toArray⟩]
  | .agg ps => flatDs ps
  | _ => []
def flatDs : List (DataW H) → List Value
  | [] => []
  | d :: r => flatD d ++ flatDs r
end
end

def Reads (t : TypeId) (z : Nat) : Prop :=
  ∀ (W : World) held fuel cs x, DataW.trod (fun _ => ()) Tryz.prog W 0 (fun _ => true) held fuel t cs = some x → cs.length = z ∧ cs = flatD x.1

theorem reads_int {t : TypeId} {k : IntKind} (ht : Tryz.prog.underlying t = some (.int k)) : Reads t 1 := fun W held fuel cs x h => by
  obtain ⟨n, rfl, rfl, _⟩ := DataW.trod_int ht h
  exact ⟨rfl, by simp [flatD]⟩

theorem reads_array {t e z n m : Nat} (ht : Tryz.prog.underlying t = some (.array n e)) (hc : Tryz.prog.cellsOf e = z) (hm : Tryz.prog.cellsOf t = m) (hnm : n * z = m) (hG : Reads e z) : Reads t m := fun W held fuel cs x h => by
  obtain ⟨xs, k, rfl, rfl, hlen, hn, hf⟩ := DataW.trod_array ht h
  rw [hm] at hlen
  rw [hc] at hf
  refine ⟨hlen, ?_⟩
  have key : ∀ (n' : Nat) (ys : List (DataW Unit × List MemPlace)) (cs : List Value), ys.length = n' → cs.length = n' * z → (∀ i, i < n' → DataW.trod (fun _ => ()) Tryz.prog W 0 (fun _ => true) held k e ((cs.drop (i * z)).take z) = ys[i]?) →
      cs = flatDs (ys.map (·.1)) := by
    intro n'
    induction n' with
    | zero =>
      intro ys cs hy hcs _
      obtain rfl : ys = [] := List.length_eq_zero_iff.1 hy
      have : cs = [] := List.length_eq_zero_iff.1 (by omega)
      rw [this]
      simp [flatDs]
    | succ n' ih =>
      intro ys cs hy hcs hf
      match ys, hy with
      | y :: ys, hy =>
        have h0 := hf 0 (by omega)
        obtain ⟨k1, k2⟩ := hG _ _ _ _ _ h0
        rw [Nat.add_mul, Nat.one_mul] at hcs
        have h1 := ih ys (cs.drop z) (by simpa using hy) (by rw [List.length_drop]; omega) (fun i hi => by
          have := hf (i + 1) (by omega)
          rw [List.drop_drop]
          rwa [show z + i * z = (i + 1) * z by rw [Nat.add_mul]; omega])
        simp only [List.map_cons, flatDs]
        rw [← h1, ← k2]
        simp
  have := key n xs cs hn (by omega) hf
  rw [this]
  simp [flatD]

theorem reads_struct2 {t z1 z2 m : Nat} {fs : Array Field} {f1 f2 : Field} (ht : Tryz.prog.underlying t = some (.struct fs)) (hl : fs = #[f1, f2]) (hm : Tryz.prog.cellsOf t = m) (o1 : f1.offset = 0) (o2 : f2.offset = z1)
    (c1 : Tryz.prog.cellsOf f1.type = z1) (c2 : Tryz.prog.cellsOf f2.type = z2) (hz : z1 + z2 = m) (h1 : Reads f1.type z1) (h2 : Reads f2.type z2) : Reads t m := fun W held fuel cs x h => by
  subst hl
  obtain ⟨xs, k, rfl, rfl, hlen, hn, hf⟩ := DataW.trod_struct ht h
  rw [hm] at hlen
  refine ⟨hlen, ?_⟩
  match xs, hn with
  | [a, b], _ =>
    have e1 := hf 0 f1 rfl
    have e2 := hf 1 f2 rfl
    rw [o1, c1] at e1
    rw [o2, c2] at e2
    have r1 := (h1 _ _ _ _ _ e1).2
    have r2 := (h2 _ _ _ _ _ e2).2
    simp only [List.map_cons, List.map_nil, flatD, flatDs, List.append_nil]
    rw [← r1, ← r2]
    have : (cs.drop z1).take z2 = cs.drop z1 := List.take_of_length_le (by rw [List.length_drop]; omega)
    rw [this]
    simp

theorem laid_var {W : World} {name : String} {d : DataW Unit} : ∀ {laid : List (String × DataW Unit)} {ps : List MemPlace}, DataW.LaidVars Tryz.prog W laid ps → (name, d) ∈ laid →
    ∃ g t cs fuel p, Tryz.prog.globalNamed name = some g ∧ (Tryz.prog.globals[g]?).map (·.type) = some t ∧ W.var? Tryz.prog name = some cs ∧ DataW.trod (fun _ => ()) Tryz.prog W 0 (fun _ => true) false fuel t cs.toList = some (d, p)
  | [], _, _, hm => by cases hm
  | (n, e) :: r, ps, h, hm => by
    obtain ⟨g, t, cs, fuel, p, q, h1, h2, h3, h4, h5, _⟩ := h
    rcases List.mem_cons.1 hm with he | hm
    · cases he
      exact ⟨g, t, cs, fuel, p, h1, h2, h3, h4⟩
    · exact laid_var h5 hm

theorem cell_valid {W : World} {b o : Nat} {c : Value} (h : W.cell? ⟨b, o, none⟩ = some c) : b < W.heap.size := by
  by_cases hb : b < W.heap.size
  · exact hb
  · have : W.heap[b]? = none := by simp; omega
    simp [World.cell?, this] at h

theorem rn_of_laid {W : World} {laid : List (String × DataW Unit)} {name : String} {d : DataW Unit} {g t z : Nat} {k : IntKind} {f : Nat → Int} (h : laidMet Tryz.prog laid W) (hm : (name, d) ∈ laid) (hg : Tryz.prog.globalNamed name = some g)
    (ht : (Tryz.prog.globals[g]?).map (·.type) = some t) (hr : Reads t z) (hf : flatD d = (List.range z).map fun j => .int k (f j)) : Rel (allOf W) W noRho (.rn k z f 0) (.pointer (some ⟨g, 0, none⟩)) := by
  obtain ⟨ps, hl, _⟩ := h
  obtain ⟨g', t', cs, fuel, p, h1, h2, h3, h4⟩ := laid_var hl hm
  obtain rfl := Option.some.inj (hg.symm.trans h1)
  obtain rfl := Option.some.inj (ht.symm.trans h2)
  obtain ⟨h5, h6⟩ := hr _ _ _ _ _ h4
  refine .rn _ _ _ _ _ _ fun j hj => ?_
  have : W.cell? ⟨g, j, none⟩ = some (.int k (f j)) := by
    rw [World.var?_cell hg h3 j]
    have e : cs[j]? = cs.toList[j]? := by simp
    rw [e, h6, hf]
    simp [hj]
  exact ⟨cell_valid this, this⟩

theorem len_of_laid {W : World} {laid : List (String × DataW Unit)} {name : String} {d : DataW Unit} {g t z : Nat} (h : laidMet Tryz.prog laid W) (hm : (name, d) ∈ laid) (hg : Tryz.prog.globalNamed name = some g)
    (ht : (Tryz.prog.globals[g]?).map (·.type) = some t) (hr : Reads t (z + 1)) : allOf W g (z + 1) ∧ W.cell? ⟨g, z + 1, none⟩ = none := by
  obtain ⟨ps, hl, _⟩ := h
  obtain ⟨g', t', cs, fuel, p, h1, h2, h3, h4⟩ := laid_var hl hm
  obtain rfl := Option.some.inj (hg.symm.trans h1)
  obtain rfl := Option.some.inj (ht.symm.trans h2)
  obtain ⟨h5, h6⟩ := hr _ _ _ _ _ h4
  have hs : cs.size = z + 1 := by simpa using h5
  have h7 : W.cell? ⟨g, 0, none⟩ = cs[0]? := World.var?_cell hg h3 0
  rw [Array.getElem?_eq_getElem (by omega)] at h7
  refine ⟨cell_valid h7, ?_⟩
  rw [World.var?_cell hg h3 (z + 1)]
  simp [hs]

end Go.Proofs.YtbegohehjkjnmaaGreatDoor.Flow

namespace Go.Proofs.YtbegohehjkjnmaaGreatDoor.Flow
open Go.ChangeShapes Go.WideShapes Go.ChangeAt Go.RowKit

set_option maxRecDepth 100000

abbrev seatLaid : List (String × DataW Unit) := [("math/bits.deBruijn32tab", Rows.laid_math_bits_deBruijn32tab), ("math/bits.deBruijn64tab", Rows.laid_math_bits_deBruijn64tab), ("internal/strconv.uint64pow10", Rows.laid_internal_strconv_uint64pow10), ("unicode/utf8.acceptRanges", Rows.laid_unicode_utf8_acceptRanges), ("unicode/utf8.first", Rows.laid_unicode_utf8_first)]

theorem reads_first : Reads 89 256 := reads_array (n := 256) (z := 1) Tryz.underlying89 (by kernel_rfl) (by kernel_rfl) rfl (reads_int Tryz.underlying5)
theorem reads_acc : Reads 92 32 := reads_array (n := 16) (z := 2) Tryz.underlying92 (by kernel_rfl) (by kernel_rfl) rfl
  (reads_struct2 (z1 := 1) (z2 := 1) Tryz.underlying91 rfl (by kernel_rfl) rfl rfl (by kernel_rfl) (by kernel_rfl) rfl (reads_int Tryz.underlying5) (reads_int Tryz.underlying5))
theorem reads_pow : Reads 128 20 := reads_array (n := 20) (z := 1) Tryz.underlying128 (by kernel_rfl) (by kernel_rfl) rfl (reads_int Tryz.underlying106)

theorem gok_of_laid {W : World} (h0 : laidMetH Tryz.prog seatLaid W) (hb : ∀ g, globSome g = true → ∃ m, allOf W g 0 ∧ W.cell? ⟨g, 0, none⟩ = some (.int .i64 m) := by intro g h; cases h) : GOk (allOf W) W := by
  rw [MakeChecks.laidMetH_plain _ _ _ (by kernel_rfl)] at h0
  refine ⟨fun g => ?_, fun g n hn => ?_, hb⟩
  · by_cases e0 : g = 0
    · subst e0
      exact rn_of_laid (name := "unicode/utf8.first") (d := Rows.laid_unicode_utf8_first) h0 (by simp) (by kernel_rfl) (by kernel_rfl) reads_first (by kernel_rfl)
    · by_cases e1 : g = 1
      · subst e1
        exact rn_of_laid (name := "unicode/utf8.acceptRanges") (d := Rows.laid_unicode_utf8_acceptRanges) h0 (by simp) (by kernel_rfl) (by kernel_rfl) reads_acc (by kernel_rfl)
      · by_cases e2 : g = 3
        · subst e2
          exact rn_of_laid (name := "internal/strconv.uint64pow10") (d := Rows.laid_internal_strconv_uint64pow10) h0 (by simp) (by kernel_rfl) (by kernel_rfl) reads_pow (by kernel_rfl)
        · have e : glob g = .any := by
            unfold glob
            split <;> first | rfl | (exfalso; omega)
          rw [e]
          exact .any ..
  · unfold globLen at hn
    split at hn
    · cases hn
      first | exact len_of_laid (name := "unicode/utf8.first") (d := Rows.laid_unicode_utf8_first) h0 (by simp) (by kernel_rfl) (by kernel_rfl) reads_first | exact len_of_laid (name := "unicode/utf8.acceptRanges") (d := Rows.laid_unicode_utf8_acceptRanges) h0 (by simp) (by kernel_rfl) (by kernel_rfl) reads_acc
    · cases hn
      first | exact len_of_laid (name := "unicode/utf8.acceptRanges") (d := Rows.laid_unicode_utf8_acceptRanges) h0 (by simp) (by kernel_rfl) (by kernel_rfl) reads_acc | exact len_of_laid (name := "unicode/utf8.first") (d := Rows.laid_unicode_utf8_first) h0 (by simp) (by kernel_rfl) (by kernel_rfl) reads_first
    · cases hn
      exact len_of_laid (name := "internal/strconv.uint64pow10") (d := Rows.laid_internal_strconv_uint64pow10) h0 (by simp) (by kernel_rfl) (by kernel_rfl) reads_pow
    · cases hn

end Go.Proofs.YtbegohehjkjnmaaGreatDoor.Flow

namespace Go.Proofs.YtbegohehjkjnmaaGreatDoor.Flow
open Go.ChangeShapes Go.WideShapes Go.ChangeAt Go.RowKit

theorem valid_of_cell {W : World} {b o : Nat} {x : Value} (h : W.cell? ⟨b, o, none⟩ = some x) : allOf W b o := by
  show b < W.heap.size
  by_cases hb : b < W.heap.size
  · exact hb
  · simp [World.cell?, Array.getElem?_eq_none (Nat.le_of_not_lt hb)] at h

set_option maxRecDepth 100000 in
theorem max_there {W : World} (h : W.ShapedOpen Tryz.prog) : ∃ m, W.cell? ⟨2, 0, none⟩ = some (.int .i64 m) :=
  Go.Proofs.cell_of_shapedOpen_int (zero := #[.int .i64 0]) (t := 3) h (of_decide_eq_true (by kernel_rfl)) (by kernel_rfl) rfl (by kernel_rfl) (by kernel_rfl) Tryz.underlying3

theorem big_of_shape {W : World} (h : W.ShapedOpen Tryz.prog) : ∀ g, globSome g = true → ∃ m, allOf W g 0 ∧ W.cell? ⟨g, 0, none⟩ = some (.int .i64 m) := fun g hg => by
  unfold globSome at hg
  split at hg
  · obtain ⟨m, hm⟩ := max_there h
    exact ⟨m, valid_of_cell hm, hm⟩
  · cases hg

end Go.Proofs.YtbegohehjkjnmaaGreatDoor.Flow
