/- The texts G20, Laid, LaidD, LaidK, one behind the other. -/
import Derived.Test.YtcajofhafpkbdaaGreatDoorCF14
import Derived.Test.YtcajofhafpkbdaaGreatDoorCF17
import Derived.LaidLaws
import Derived.MakeChecks
import Derived.Lay
import Derived.Shelf.LaysM
namespace Go.Proofs.YtcajofhafpkbdaaGreatDoor.Flow
open Go

section
variable {H : Type}

theorem zey (l : List (DataW H)) (n i : Nat) : (l.drop n).getD i .nil = l.getD (n + i) .nil := by
  simp [List.getD_eq_getElem?_getD]

def kid (d : DataW H) (i : Nat) : DataW H := (kids d).getD i .nil

theorem bk (d : DataW H) (i : Nat) : Rows.uptoBulk (kid d i) ≤ Rows.uptoBulk d := by
  unfold kid
  by_cases h : i < (kids d).length
  · rw [List.getD_eq_getElem?_getD, List.getElem?_eq_getElem h, Option.getD_some]
    have := ziz (List.getElem_mem h)
    have := zhc d
    omega
  · rw [List.getD_eq_getElem?_getD, List.getElem?_eq_none (by omega), Option.getD_none]
    exact ziC d
theorem bkl (d : DataW H) : (kids d).length ≤ Rows.uptoBulk d := by
  have := zjy (kids d)
  have := zhc d
  omega

def fldOf (d : DataW H) : Fld := (strOf (kid d 0), strOf (kid d 1))
def fldsOf (d : DataW H) : List Fld := (kids d).map fldOf
def txsOf (d : DataW H) : List Txt := (kids d).map strOf
def srcOf (d : DataW H) : SrcR := ⟨strOf (kid d 0), fldsOf (kid d 1), strOf (kid d 2), strOf (kid (kid d 3) 0), strOf (kid (kid d 3) 1), txsOf (kid (kid d 3) 2), txsOf (kid (kid d 3) 3), boolOf (kid (kid d 3) 4), boolOf (kid (kid d 3) 5)⟩
def srcsOf (d : DataW H) : List SrcR := (kids d).map srcOf
def cmpOf (d : DataW H) : CmpR := ⟨strOf (kid d 0), srcsOf (kid d 1), intOf (kid d 2), intOf (kid d 3), intOf (kid d 4)⟩
def cmpsOf (d : DataW H) : List CmpR := (kids d).map cmpOf

theorem zhJ (d : DataW H) (i : Nat) : (fldsOf d).getD i ([], []) = fldOf (kid d i) := zeq fldOf (kids d) .nil i
theorem zje (d : DataW H) (i : Nat) : (txsOf d).getD i [] = strOf (kid d i) := zeq strOf (kids d) .nil i
theorem zeI (d : DataW H) (i : Nat) : (srcsOf d).getD i s0R = srcOf (kid d i) := zeq srcOf (kids d) .nil i
theorem zeE (d : DataW H) (i : Nat) : (cmpsOf d).getD i c0R = cmpOf (kid d i) := zeq cmpOf (kids d) .nil i

def gS (d : DataW H) : List D := [.s (strOf d)]
def gI (d : DataW H) : List D := [.i .i64 (intOf d)]
def gB (d : DataW H) : List D := [.b (boolOf d)]
def gFld (d : DataW H) : List D := catG (List.replicate 2 gS) (kids d)
def gSl (z : Nat) (G : DataW H → List D) (d : DataW H) : List D := [.sl z (kids d).length (fun i => G ((kids d).getD i .nil))]
def gJoin (d : DataW H) : List D := catG [gS, gS, gSl 1 gS, gSl 1 gS, gB, gB] (kids d)
def gSrc (d : DataW H) : List D := catG [gS, gSl 2 gFld, gS, gJoin] (kids d)
def gCmp (d : DataW H) : List D := catG [gS, gSl 9 gSrc, gI, gI, gI] (kids d)

theorem zok (d : DataW H) : gFld d = [.s (fldOf d).1, .s (fldOf d).2] := by
  show [D.s (strOf ((kids d).getD 0 .nil))] ++ ([D.s (strOf (((kids d).drop 1).getD 0 .nil))] ++ []) = _
  rw [zey]
  rfl
theorem zmO (d : DataW H) : gSl 2 gFld d = [.sl 2 (fldsOf d).length (fldF (fldsOf d))] := by
  have h1 : (fldsOf d).length = (kids d).length := by simp [fldsOf]
  have h2 : (fun i => gFld ((kids d).getD i .nil)) = fldF (fldsOf d) := by
    funext i
    unfold fldF
    rw [zok, zhJ]
    rfl
  show [D.sl 2 (kids d).length (fun i => gFld ((kids d).getD i .nil))] = _
  rw [h1, h2]
theorem znY (d : DataW H) : gSl 1 gS d = [.sl 1 (txsOf d).length (txF (txsOf d))] := by
  have h1 : (txsOf d).length = (kids d).length := by simp [txsOf]
  have h2 : (fun i => gS ((kids d).getD i .nil)) = txF (txsOf d) := by
    funext i
    unfold txF
    rw [zje]
    rfl
  show [D.sl 1 (kids d).length (fun i => gS ((kids d).getD i .nil))] = _
  rw [h1, h2]
theorem zmY (d : DataW H) : gJoin d = [.s (strOf (kid d 0)), .s (strOf (kid d 1)), .sl 1 (txsOf (kid d 2)).length (txF (txsOf (kid d 2))), .sl 1 (txsOf (kid d 3)).length (txF (txsOf (kid d 3))), .b (boolOf (kid d 4)), .b (boolOf (kid d 5))] := by
  show gS ((kids d).getD 0 .nil) ++ (gS (((kids d).drop 1).getD 0 .nil) ++ (gSl 1 gS ((((kids d).drop 1).drop 1).getD 0 .nil) ++ (gSl 1 gS (((((kids d).drop 1).drop 1).drop 1).getD 0 .nil) ++ (gB ((((((kids d).drop 1).drop 1).drop 1).drop 1).getD 0 .nil) ++ (gB (((((((kids d).drop 1).drop 1).drop 1).drop 1).drop 1).getD 0 .nil) ++ []))))) = _
  simp only [List.drop_drop, zey, znY]
  rfl
theorem zpf (d : DataW H) : gSrc d = srcP (srcOf d) := by
  show gS ((kids d).getD 0 .nil) ++ (gSl 2 gFld (((kids d).drop 1).getD 0 .nil) ++ (gS ((((kids d).drop 1).drop 1).getD 0 .nil) ++ (gJoin (((((kids d).drop 1).drop 1).drop 1).getD 0 .nil) ++ []))) = _
  simp only [List.drop_drop, zey, zmO, zmY]
  rfl
theorem zmL (d : DataW H) : gSl 9 gSrc d = [.sl 9 (srcsOf d).length (srcF (srcsOf d))] := by
  have h1 : (srcsOf d).length = (kids d).length := by simp [srcsOf]
  have h2 : (fun i => gSrc ((kids d).getD i .nil)) = srcF (srcsOf d) := by
    funext i
    unfold srcF
    rw [zpf, zeI]
    rfl
  show [D.sl 9 (kids d).length (fun i => gSrc ((kids d).getD i .nil))] = _
  rw [h1, h2]
theorem zoy (d : DataW H) : gCmp d = cmpP (cmpOf d) := by
  show gS ((kids d).getD 0 .nil) ++ (gSl 9 gSrc (((kids d).drop 1).getD 0 .nil) ++ (gI ((((kids d).drop 1).drop 1).getD 0 .nil) ++ (gI (((((kids d).drop 1).drop 1).drop 1).getD 0 .nil) ++ (gI ((((((kids d).drop 1).drop 1).drop 1).drop 1).getD 0 .nil) ++ [])))) = _
  simp only [List.drop_drop, zey, zmL]
  rfl
theorem znx (d : DataW H) : gSl 5 gCmp d = [.sl 5 (cmpsOf d).length (cmpF (cmpsOf d))] := by
  have h1 : (cmpsOf d).length = (kids d).length := by simp [cmpsOf]
  have h2 : (fun i => gCmp ((kids d).getD i .nil)) = cmpF (cmpsOf d) := by
    funext i
    unfold cmpF
    rw [zoy, zeE]
    rfl
  show [D.sl 5 (kids d).length (fun i => gCmp ((kids d).getD i .nil))] = _
  rw [h1, h2]

theorem zcS {d : DataW H} (h : Rows.uptoBulk d ≤ 1048576) : bigT (strOf d) := Nat.le_trans (zju d) h
theorem zjp {d : DataW H} (h : Rows.uptoBulk d ≤ 1048576) (i : Nat) : bigT ((txsOf d).getD i []) := by
  rw [zje]
  exact zcS (Nat.le_trans (bk d i) h)
theorem zoX {d : DataW H} (h : Rows.uptoBulk d ≤ 1048576) : bigS (srcOf d) := by
  have h0 := bk d 0
  have h1 := bk d 1
  have h2 := bk d 2
  have h3 := bk d 3
  have k0 := bk (kid d 3) 0
  have k1 := bk (kid d 3) 1
  have k2 := bk (kid d 3) 2
  have k3 := bk (kid d 3) 3
  refine ⟨zcS (by omega), zcS (by omega), zcS (by omega), zcS (by omega), zjp (by omega), zjp (by omega), fun i => ?_⟩
  show bigT ((fldsOf (kid d 1)).getD i ([], [])).1 ∧ bigT ((fldsOf (kid d 1)).getD i ([], [])).2
  rw [zhJ]
  have h4 := bk (kid d 1) i
  have h5 := bk (kid (kid d 1) i) 0
  have h6 := bk (kid (kid d 1) i) 1
  exact ⟨zcS (by omega), zcS (by omega)⟩
theorem zoS {d : DataW H} (h : Rows.uptoBulk d ≤ 1048576) : bigC (cmpOf d) := by
  have h0 := bk d 0
  have h1 := bk d 1
  refine ⟨zcS (by omega), fun i => ?_⟩
  show bigS ((srcsOf (kid d 1)).getD i s0R)
  rw [zeI]
  have h2 := bk (kid d 1) i
  exact zoX (by omega)
theorem zlo {d : DataW H} (h : Rows.uptoBulk d ≤ 1048576) (i : Nat) : bigC ((cmpsOf d).getD i c0R) := by
  rw [zeE]
  exact zoS (Nat.le_trans (bk d i) h)
theorem zlx {d : DataW H} (h : Rows.uptoBulk d ≤ 1048576) : smallS (srcOf d) := by
  have h1 := bk d 1
  have h3 := bk d 3
  have k2 := bk (kid d 3) 2
  have k3 := bk (kid d 3) 3
  have l1 := bkl (kid d 1)
  have l2 := bkl (kid (kid d 3) 2)
  have l3 := bkl (kid (kid d 3) 3)
  refine ⟨?_, ?_, ?_⟩
  · show (fldsOf (kid d 1)).length ≤ _
    simp only [fldsOf, List.length_map]
    omega
  · show (txsOf (kid (kid d 3) 2)).length ≤ _
    simp only [txsOf, List.length_map]
    omega
  · show (txsOf (kid (kid d 3) 3)).length ≤ _
    simp only [txsOf, List.length_map]
    omega
theorem zmz {d : DataW H} (h : Rows.uptoBulk d ≤ 1048576) : smallC (cmpOf d) := by
  have h1 := bk d 1
  have l1 := bkl (kid d 1)
  refine ⟨?_, fun i => ?_⟩
  · show (srcsOf (kid d 1)).length ≤ _
    simp only [srcsOf, List.length_map]
    omega
  · show smallS ((srcsOf (kid d 1)).getD i s0R)
    rw [zeI]
    have h2 := bk (kid d 1) i
    exact zlx (by omega)
theorem zft {d : DataW H} (h : Rows.uptoBulk d ≤ 1048576) : smallL (cmpsOf d) := by
  refine ⟨by have := bkl d; simp only [cmpsOf, List.length_map]; omega, fun i => ?_⟩
  rw [zeE]
  exact zmz (Nat.le_trans (bk d i) h)

variable {enc : TypeId × Value → H} {W : World}
theorem zkO : Tells enc W 46 2 (gFld (H := H)) := zit Tryz.underlying46 (by kernel_rfl) (by kernel_rfl) rfl (zbR Tryz.underlying9)
theorem zhf : Tells enc W 41 1 (gSl 1 (gS (H := H))) := zcB Tryz.underlying41 (by kernel_rfl) (by omega) (zbR Tryz.underlying9)
theorem zjH : Tells enc W 43 6 (gJoin (H := H)) :=
  zcJ Tryz.underlying43 rfl (by kernel_rfl) (.cons _ _ 0 1 6 _ _ rfl (by kernel_rfl) (zbR Tryz.underlying9) (.cons _ _ 1 1 6 _ _ rfl (by kernel_rfl) (zbR Tryz.underlying9) (.cons _ _ 2 1 6 _ _ rfl (by kernel_rfl) zhf (.cons _ _ 3 1 6 _ _ rfl (by kernel_rfl) zhf
    (.cons _ _ 4 1 6 _ _ rfl (by kernel_rfl) (zec Tryz.underlying4) (.cons _ _ 5 1 6 _ _ rfl (by kernel_rfl) (zec Tryz.underlying4) (.nil 6)))))))
theorem zlF : Tells enc W 45 9 (gSrc (H := H)) :=
  zcJ Tryz.underlying45 rfl (by kernel_rfl) (.cons _ _ 0 1 9 _ _ rfl (by kernel_rfl) (zbR Tryz.underlying9) (.cons _ _ 1 1 9 _ _ rfl (by kernel_rfl) (zcB Tryz.underlying40 (by kernel_rfl) (by omega) zkO) (.cons _ _ 2 1 9 _ _ rfl (by kernel_rfl) (zbR Tryz.underlying9) (.cons _ _ 3 6 9 _ _ rfl (by kernel_rfl) zjH (.nil 9)))))
theorem zlr : Tells enc W 27 5 (gCmp (H := H)) :=
  zcJ Tryz.underlying27 rfl (by kernel_rfl) (.cons _ _ 0 1 5 _ _ rfl (by kernel_rfl) (zbR Tryz.underlying9) (.cons _ _ 1 1 5 _ _ rfl (by kernel_rfl) (zcB Tryz.underlying25 (by kernel_rfl) (by omega) zlF) (.cons _ _ 2 1 5 _ _ rfl (by kernel_rfl) (zdI Tryz.underlying3) (.cons _ _ 3 1 5 _ _ rfl (by kernel_rfl) (zdI Tryz.underlying3) (.cons _ _ 4 1 5 _ _ rfl (by kernel_rfl) (zdI Tryz.underlying3) (.nil 5))))))

set_option maxRecDepth 100000 in
theorem zjo {base : Nat} {v : Value} {d : DataW H} {ps : List MemPlace} (hv : Value.okWide Tryz.prog W .any base 22 v) (h : DataW.Trod enc Tryz.prog W 0 (fun _ => true) true 22 v d ps) :
    Rel (allOf W) W noRho (.sl 5 (cmpsOf d).length (cmpF (cmpsOf d))) v := by
  have k := zln (enc := enc) Tryz.underlying22 (by kernel_rfl) (by omega) zlr hv h
  have e : D.sl 5 (kids d).length (fun i => gCmp ((kids d).getD i .nil)) = .sl 5 (cmpsOf d).length (cmpF (cmpsOf d)) := (List.cons.inj (znx d)).1
  rwa [e] at k

end
end Go.Proofs.YtcajofhafpkbdaaGreatDoor.Flow

namespace Go.Proofs.YtcajofhafpkbdaaGreatDoor.Flow
open Go.ChangeShapes Go.WideShapes Go.ChangeAt Go.RowKit

set_option maxRecDepth 100000

section
variable {H : Type}
mutual
def flatD : DataW H → List Value
  | .lit (.int k n) => [.int k n]
  | .lit (.bool b) => [.bool b]
  | .lit (.string l) => [.string ⟨l.toArray⟩]
  | .agg ps => flatDs ps
  | _ => []
def flatDs : List (DataW H) → List Value
  | [] => []
  | d :: r => flatD d ++ flatDs r
end
end

def Reads (t : TypeId) (z : Nat) : Prop :=
  ∀ (W : World) held fuel cs x, DataW.trod (fun _ => ()) Tryz.prog W 0 (fun _ => true) held fuel t cs = some x → cs.length = z ∧ cs = flatD x.1

theorem zdC {t : TypeId} {k : IntKind} (ht : Tryz.prog.underlying t = some (.int k)) : Reads t 1 := fun W held fuel cs x h => by
  obtain ⟨n, rfl, rfl, _⟩ := DataW.trod_int ht h
  exact ⟨rfl, by simp [flatD]⟩

theorem zdr {t e z n m : Nat} (ht : Tryz.prog.underlying t = some (.array n e)) (hc : Tryz.prog.cellsOf e = z) (hm : Tryz.prog.cellsOf t = m) (hnm : n * z = m) (hG : Reads e z) : Reads t m := fun W held fuel cs x h => by
  obtain ⟨xs, k, rfl, rfl, hlen, hn, hf⟩ := DataW.trod_array ht h
  rw [hm] at hlen
  rw [hc] at hf
  refine ⟨hlen, ?_⟩
  have key : ∀ (n' : Nat) (ys : List (DataW Unit × List MemPlace)) (cs : List Value), ys.length = n' → cs.length = n' * z → (∀ i, i < n' → DataW.trod (fun _ => ()) Tryz.prog W 0 (fun _ => true) held k e ((cs.drop (i * z)).take z) = ys[i]?) →
      cs = flatDs (ys.map (·.1)) := by
    intro n'
    induction n' with
    | zero =>
      intro ys cs hy hcs _
      obtain rfl : ys = [] := List.length_eq_zero_iff.1 hy
      have : cs = [] := List.length_eq_zero_iff.1 (by omega)
      rw [this]
      simp [flatDs]
    | succ n' ih =>
      intro ys cs hy hcs hf
      match ys, hy with
      | y :: ys, hy =>
        have h0 := hf 0 (by omega)
        obtain ⟨k1, k2⟩ := hG _ _ _ _ _ h0
        rw [Nat.add_mul, Nat.one_mul] at hcs
        have h1 := ih ys (cs.drop z) (by simpa using hy) (by rw [List.length_drop]; omega) (fun i hi => by
          have := hf (i + 1) (by omega)
          rw [List.drop_drop]
          rwa [show z + i * z = (i + 1) * z by rw [Nat.add_mul]; omega])
        simp only [List.map_cons, flatDs]
        rw [← h1, ← k2]
        simp
  have := key n xs cs hn (by omega) hf
  rw [this]
  simp [flatD]

theorem zgz {t z1 z2 m : Nat} {fs : Array Field} {f1 f2 : Field} (ht : Tryz.prog.underlying t = some (.struct fs)) (hl : fs = #[f1, f2]) (hm : Tryz.prog.cellsOf t = m) (o1 : f1.offset = 0) (o2 : f2.offset = z1)
    (c1 : Tryz.prog.cellsOf f1.type = z1) (c2 : Tryz.prog.cellsOf f2.type = z2) (hz : z1 + z2 = m) (h1 : Reads f1.type z1) (h2 : Reads f2.type z2) : Reads t m := fun W held fuel cs x h => by
  subst hl
  obtain ⟨xs, k, rfl, rfl, hlen, hn, hf⟩ := DataW.trod_struct ht h
  rw [hm] at hlen
  refine ⟨hlen, ?_⟩
  match xs, hn with
  | [a, b], _ =>
    have e1 := hf 0 f1 rfl
    have e2 := hf 1 f2 rfl
    rw [o1, c1] at e1
    rw [o2, c2] at e2
    have r1 := (h1 _ _ _ _ _ e1).2
    have r2 := (h2 _ _ _ _ _ e2).2
    simp only [List.map_cons, List.map_nil, flatD, flatDs, List.append_nil]
    rw [← r1, ← r2]
    have : (cs.drop z1).take z2 = cs.drop z1 := List.take_of_length_le (by rw [List.length_drop]; omega)
    rw [this]
    simp

theorem zgA {W : World} {name : String} {d : DataW Unit} : ∀ {laid : List (String × DataW Unit)} {ps : List MemPlace}, DataW.LaidVars Tryz.prog W laid ps → (name, d) ∈ laid →
    ∃ g t cs fuel p, Tryz.prog.globalNamed name = some g ∧ (Tryz.prog.globals[g]?).map (·.type) = some t ∧ W.var? Tryz.prog name = some cs ∧ DataW.trod (fun _ => ()) Tryz.prog W 0 (fun _ => true) false fuel t cs.toList = some (d, p)
  | [], _, _, hm => by cases hm
  | (n, e) :: r, ps, h, hm => by
    obtain ⟨g, t, cs, fuel, p, q, h1, h2, h3, h4, h5, _⟩ := h
    rcases List.mem_cons.1 hm with he | hm
    · cases he
      exact ⟨g, t, cs, fuel, p, h1, h2, h3, h4⟩
    · exact zgA h5 hm

theorem zfG {W : World} {b o : Nat} {c : Value} (h : W.cell? ⟨b, o, none⟩ = some c) : b < W.heap.size := by
  by_cases hb : b < W.heap.size
  · exact hb
  · have : W.heap[b]? = none := by simp; omega
    simp [World.cell?, this] at h

theorem zee {W : World} {laid : List (String × DataW Unit)} {name : String} {d : DataW Unit} {g t z : Nat} {k : IntKind} {f : Nat → Int} (h : laidMet Tryz.prog laid W) (hm : (name, d) ∈ laid) (hg : Tryz.prog.globalNamed name = some g)
    (ht : (Tryz.prog.globals[g]?).map (·.type) = some t) (hr : Reads t z) (hf : flatD d = (List.range z).map fun j => .int k (f j)) : Rel (allOf W) W noRho (.rn k z f 0) (.pointer (some ⟨g, 0, none⟩)) := by
  obtain ⟨ps, hl, _⟩ := h
  obtain ⟨g', t', cs, fuel, p, h1, h2, h3, h4⟩ := zgA hl hm
  obtain rfl := Option.some.inj (hg.symm.trans h1)
  obtain rfl := Option.some.inj (ht.symm.trans h2)
  obtain ⟨h5, h6⟩ := hr _ _ _ _ _ h4
  refine .rn _ _ _ _ _ _ fun j hj => ?_
  have : W.cell? ⟨g, j, none⟩ = some (.int k (f j)) := by
    rw [World.var?_cell hg h3 j]
    have e : cs[j]? = cs.toList[j]? := by simp
    rw [e, h6, hf]
    simp [hj]
  exact ⟨zfG this, this⟩

theorem zcb {W : World} {laid : List (String × DataW Unit)} {name : String} {d : DataW Unit} {g t z : Nat} (h : laidMet Tryz.prog laid W) (hm : (name, d) ∈ laid) (hg : Tryz.prog.globalNamed name = some g)
    (ht : (Tryz.prog.globals[g]?).map (·.type) = some t) (hr : Reads t (z + 1)) : allOf W g (z + 1) ∧ W.cell? ⟨g, z + 1, none⟩ = none := by
  obtain ⟨ps, hl, _⟩ := h
  obtain ⟨g', t', cs, fuel, p, h1, h2, h3, h4⟩ := zgA hl hm
  obtain rfl := Option.some.inj (hg.symm.trans h1)
  obtain rfl := Option.some.inj (ht.symm.trans h2)
  obtain ⟨h5, h6⟩ := hr _ _ _ _ _ h4
  have hs : cs.size = z + 1 := by simpa using h5
  have h7 : W.cell? ⟨g, 0, none⟩ = cs[0]? := World.var?_cell hg h3 0
  rw [Array.getElem?_eq_getElem (by omega)] at h7
  refine ⟨zfG h7, ?_⟩
  rw [World.var?_cell hg h3 (z + 1)]
  simp [hs]

set_option maxRecDepth 100000

abbrev seatLaid : List (String × DataW Unit) := [("math/bits.deBruijn32tab", Rows.laid_math_bits_deBruijn32tab), ("math/bits.deBruijn64tab", Rows.laid_math_bits_deBruijn64tab), ("internal/strconv.uint64pow10", Rows.laid_internal_strconv_uint64pow10), ("unicode/utf8.acceptRanges", Rows.laid_unicode_utf8_acceptRanges), ("unicode/utf8.first", Rows.laid_unicode_utf8_first)]

theorem zdu : Reads 157 256 := zdr (n := 256) (z := 1) Tryz.underlying157 (by kernel_rfl) (by kernel_rfl) rfl (zdC Tryz.underlying5)
theorem zeS : Reads 160 32 := zdr (n := 16) (z := 2) Tryz.underlying160 (by kernel_rfl) (by kernel_rfl) rfl
  (zgz (z1 := 1) (z2 := 1) Tryz.underlying159 rfl (by kernel_rfl) rfl rfl (by kernel_rfl) (by kernel_rfl) rfl (zdC Tryz.underlying5) (zdC Tryz.underlying5))
theorem zha : Reads 205 20 := zdr (n := 20) (z := 1) Tryz.underlying205 (by kernel_rfl) (by kernel_rfl) rfl (zdC Tryz.underlying99)

theorem zhR {W : World} (h0 : laidMetH Tryz.prog seatLaid W) (hb : ∀ g, globSome g = true → ∃ m, allOf W g 0 ∧ W.cell? ⟨g, 0, none⟩ = some (.int .i64 m) := by intro g h; cases h) : GOk (allOf W) W := by
  rw [MakeChecks.laidMetH_plain _ _ _ (by kernel_rfl)] at h0
  refine ⟨fun g => ?_, fun g n hn => ?_, hb⟩
  · by_cases e0 : g = 0
    · subst e0
      exact zee (name := "unicode/utf8.first") (d := Rows.laid_unicode_utf8_first) h0 (by simp) (by kernel_rfl) (by kernel_rfl) zdu (by kernel_rfl)
    · by_cases e1 : g = 1
      · subst e1
        exact zee (name := "unicode/utf8.acceptRanges") (d := Rows.laid_unicode_utf8_acceptRanges) h0 (by simp) (by kernel_rfl) (by kernel_rfl) zeS (by kernel_rfl)
      · by_cases e2 : g = 3
        · subst e2
          exact zee (name := "internal/strconv.uint64pow10") (d := Rows.laid_internal_strconv_uint64pow10) h0 (by simp) (by kernel_rfl) (by kernel_rfl) zha (by kernel_rfl)
        · have e : glob g = .any := by
            unfold glob
            split <;> first | rfl | (exfalso; omega)
          rw [e]
          exact .any ..
  · unfold globLen at hn
    split at hn
    · cases hn
      first | exact zcb (name := "unicode/utf8.first") (d := Rows.laid_unicode_utf8_first) h0 (by simp) (by kernel_rfl) (by kernel_rfl) zdu | exact zcb (name := "unicode/utf8.acceptRanges") (d := Rows.laid_unicode_utf8_acceptRanges) h0 (by simp) (by kernel_rfl) (by kernel_rfl) zeS
    · cases hn
      first | exact zcb (name := "unicode/utf8.acceptRanges") (d := Rows.laid_unicode_utf8_acceptRanges) h0 (by simp) (by kernel_rfl) (by kernel_rfl) zeS | exact zcb (name := "unicode/utf8.first") (d := Rows.laid_unicode_utf8_first) h0 (by simp) (by kernel_rfl) (by kernel_rfl) zdu
    · cases hn
      exact zcb (name := "internal/strconv.uint64pow10") (d := Rows.laid_internal_strconv_uint64pow10) h0 (by simp) (by kernel_rfl) (by kernel_rfl) zha
    · cases hn

theorem zgF {W : World} {b o : Nat} {x : Value} (h : W.cell? ⟨b, o, none⟩ = some x) : allOf W b o := by
  show b < W.heap.size
  by_cases hb : b < W.heap.size
  · exact hb
  · simp [World.cell?, Array.getElem?_eq_none (Nat.le_of_not_lt hb)] at h

set_option maxRecDepth 100000 in
theorem zmC {W : World} (h : W.ShapedOpen Tryz.prog) : ∃ m, W.cell? ⟨2, 0, none⟩ = some (.int .i64 m) :=
  Go.Proofs.cell_of_shapedOpen_int (zero := #[.int .i64 0]) (t := 3) h (of_decide_eq_true (by kernel_rfl)) (by kernel_rfl) rfl (by kernel_rfl) (by kernel_rfl) Tryz.underlying3

theorem zhG {W : World} (h : W.ShapedOpen Tryz.prog) : ∀ g, globSome g = true → ∃ m, allOf W g 0 ∧ W.cell? ⟨g, 0, none⟩ = some (.int .i64 m) := fun g hg => by
  unfold globSome at hg
  split at hg
  · obtain ⟨m, hm⟩ := zmC h
    exact ⟨m, zgF hm, hm⟩
  · cases hg

end Go.Proofs.YtcajofhafpkbdaaGreatDoor.Flow
