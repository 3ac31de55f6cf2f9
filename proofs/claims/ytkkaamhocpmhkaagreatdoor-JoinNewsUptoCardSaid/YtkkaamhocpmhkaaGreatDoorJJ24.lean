/- The texts H15, H16, Laid, LaidD, LaidH, FlowRb, H17, H18, one behind the other. -/
import Derived.Test.YtkkaamhocpmhkaaGreatDoorJJ9
import Derived.Test.YtkkaamhocpmhkaaGreatDoorJJ21
import Derived.Test.YtkkaamhocpmhkaaGreatDoorJJ23
import Derived.LaidLaws
import Derived.MakeChecks
import Derived.Lay
import Derived.Shelf.LaysM
namespace Go.Proofs.YtkkaamhocpmhkaaGreatDoor.Flow
open Go
def jn0 : JnR := ⟨[], [], [], [], false, false⟩
theorem zjL : Weak (.ag [.s [], .s [], .nilS, .nilS, .b false, .b false]) (.ag (jnP jn0)) := .ag _ _ rfl fun k hk => match k, hk with
  | 0, _ => .refl _
  | 1, _ => .refl _
  | 2, _ => .nil 1 _
  | 3, _ => .nil 1 _
  | 4, _ => .refl _
  | 5, _ => .refl _
theorem zjM (l more : List AtR) : l.length ≤ (overA l more).length ∧ (overA l more).length ≤ l.length + more.length := by
  have h := (zcd (keysA l) more).2
  rw [← zdw] at h
  have e : ∀ x : List AtR, (keysA x).length = x.length := fun x => List.length_map ..
  rw [e, e] at h
  refine ⟨h, ?_⟩
  unfold overA
  clear h e
  induction more generalizing l with
  | nil => exact Nat.le_refl _
  | cons a r ih =>
    have := ih (stepO l a)
    have h2 := zhZ l a
    rw [List.foldl_cons, List.length_cons]
    omega
theorem zot {l more : List AtR} {i : Nat} (h : i < l.length) : ((overA l more).getD i d0A).1 = (l.getD i d0A).1 := by
  have h1 := (zcd (keysA l) more).1
  rw [← zdw] at h1
  have e : (keysA l).length = l.length := List.length_map ..
  rw [← zcj, ← zcj]
  rw [e] at h1
  rw [← h1, List.getD_eq_getElem?_getD, List.getD_eq_getElem?_getD, List.getElem?_take_of_lt h]
theorem zfT {s : Tx} {j : JnR} {l : List AtR} (h : muchJ s j l = false) : l.length ≤ 40 := by
  unfold muchJ at h
  rw [Bool.or_eq_false_iff] at h
  have := of_decide_eq_false h.1
  omega
set_option maxRecDepth 100000 in
set_option maxHeartbeats 8000000 in
theorem znf (l more : List AtR) (hl : l.length ≤ 1048576) (hm : more.length ≤ 1048576) (hbl : ∀ i, (l.getD i ([], v03)).1.length ≤ 4194304 ∧ (l.getD i ([], v03)).2.2.1.length ≤ 4194304) (hbm : ∀ i, (more.getD i ([], v03)).1.length ≤ 4194304 ∧ (more.getD i ([], v03)).2.2.1.length ≤ 4194304) :
    Ctr Tryz.prog 4 [.sl 4 l.length (atrF l), .sl 4 more.length (atrF more)] (.b true) := by
  have cl := zfo
  have m1 := (zdi [] jn0 l (by decide) (by decide) (by decide) (by omega) hbl).weak3 (.refl _) zjL (.refl _)
  have m2 := (zdi [] jn0 more (by decide) (by decide) (by decide) (by omega) hbm).weak3 (.refl _) zjL (.refl _)
  refine zax Tryz.func4 rfl Tryz.ntmps4 Tryz.results4 rfl rfl fun X hL hX => ?_
  cases h1 : muchJ [] jn0 l with
  | true =>
    rw [h1] at m1
    repeat' (first |refine zae (f := 7) rfl rfl Tryz.call7 rfl m1 ?_|refine zae (f := 8) rfl rfl Tryz.call8 rfl cl ?_|with_reducible (first |refine zah ?_|refine zaa ?_|refine zag ?_|refine zad ?_|refine zan ?_|refine zam ?_)|refine zab rfl rfl True.intro ?_|refine zap rfl rfl rfl ?_|refine zau rfl ?_|refine zaq rfl ?_|fail)
    all_goals rfl
  | false =>
  rw [h1] at m1
  cases h2 : muchJ [] jn0 more with
  | true =>
    rw [h2] at m2
    repeat' (first |refine zae (f := 7) rfl rfl Tryz.call7 rfl m1 ?_|refine zaw (f := 7) rfl rfl rfl rfl Tryz.call7 rfl m2 ?_|refine zae (f := 8) rfl rfl Tryz.call8 rfl cl ?_|with_reducible (first |refine zah ?_|refine zaa ?_|refine zag ?_|refine zad ?_|refine zan ?_|refine zam ?_)|refine zab rfl rfl True.intro ?_|refine zaj rfl rfl rfl rfl True.intro ?_|refine zau rfl ?_|refine zaq rfl ?_|fail)
    all_goals rfl
  | false =>
  rw [h2] at m2
  have cO := zht l more hl hm
  have cU := zhK l more hl hm
  rw [zjm] at cU
  have s1 := zfT h1
  have s2 := zfT h2
  have hlen := zjM l more
  have hkey := fun i (h : i < l.length) => zot (more := more) h
  have honce := fun i k (h1 : l.length ≤ i) (h2 : i < k) (h3 : k < (overA l more).length) => ziu h1 h2 h3
  generalize overA l more = A at cO cU hlen hkey honce
  have cS := zdk A (by omega)
  repeat' (first |refine zae (f := 7) rfl rfl Tryz.call7 rfl m1 ?_|refine zaw (f := 7) rfl rfl rfl rfl Tryz.call7 rfl m2 ?_|refine zae (f := 16) rfl rfl Tryz.call16 rfl cO ?_|refine zae (f := 17) rfl rfl Tryz.call17 rfl cU ?_|refine zae (f := 12) rfl rfl Tryz.call12 rfl cS ?_|with_reducible (first |refine zah ?_|refine zaa ?_|refine zag ?_|refine zad ?_|refine zai ?_|refine zaf ?_)|refine zab rfl rfl True.intro ?_|refine zaj rfl rfl rfl rfl True.intro ?_|refine zal rfl ?_|((first |refine zac rfl ?_ ?_)<;>intro<;>try (first |(exfalso;omega)))|fail)
  all_goals try (exfalso; omega)
  clear m1 m2 cO cU cS
  refine T.loop hL (fun i : Nat => [(0, .sl 4 l.length (atrF l)), (5, .sl 4 A.length (atrF A)), (6, .i .i64 i)]) (fun _ => [])
    (fun i => i ≤ A.length) (fun i => A.length - i) 0 (Nat.zero_le _)
    ⟨⟨rfl, rfl, rfl, trivial⟩, trivial, rfl, by rw [hX]; simp⟩ ?_
  intro i g1
  try dsimp only at g1 ⊢
  have hnat : (i : Int).toNat = i := Int.toNat_natCast i
  by_cases hi : i < A.length
  rotate_left
  · have hi' : ¬ (i : Int) < (A.length : Int) := by omega
    repeat' (first |refine zae (f := 8) rfl rfl Tryz.call8 rfl cl ?_|with_reducible (first |refine zah ?_|refine zaa ?_|refine zag ?_|refine zad ?_|refine zan ?_|refine zat ?_|refine zas ?_)|refine zab rfl rfl True.intro ?_|((first |refine zac rfl ?_ ?_)<;>intro<;>try (first |(exfalso;omega)))|refine zaB rfl ?_|refine zaq rfl ?_|fail)
    all_goals rfl
  have hi' : (i : Int) < (A.length : Int) := by omega
  by_cases hil : i < l.length
  · have hil' : (i : Int) < (l.length : Int) := by omega
    have hk := hkey i hil
    have hk' : (A.getD (i : Int).toNat ([], v03)).1 = (l.getD (i : Int).toNat ([], v03)).1 := by rw [hnat]; exact hk
    have hnk : ¬ ((l.length : Int) < (i : Int)) := by omega
    clear honce hkey
    repeat' (first |with_reducible (first |refine zah ?_|refine zaa ?_|refine zag ?_|refine zad ?_|refine zan ?_|refine zai ?_|refine zaf ?_|refine zam ?_|refine zaz ?_|refine zaC ?_)|refine zab rfl rfl True.intro ?_|refine zaj rfl rfl rfl rfl True.intro ?_|((first |refine zac rfl ?_ ?_|refine zaS rfl ?_ ?_|refine zak rfl rfl ?_ ?_)<;>intro<;>try (first |(exfalso;omega)))|((first |refine zaj rfl rfl rfl rfl ?_ ?_);focus (first |omega|exact le_ rfl|((repeat' refine And.intro ?_ ?_)<;>omega)))|with_reducible refine ⟨by kernel_rfl, ?_⟩|refine zaq rfl ?_|fail)
    all_goals first
      | exact ⟨i + 1, by omega, by omega, ⟨rfl, rfl, rfl, trivial⟩, trivial, rfl, by rw [hX]; simp⟩
      | (exfalso; omega)
      | (exfalso; rename_i q; rw [hk', beq_self_eq_true] at q; cases q; done)
      | (refine T.loop hL (fun k : Nat => [(0, .sl 4 l.length (atrF l)), (5, .sl 4 A.length (atrF A)), (6, .i .i64 i), (7, .i .i64 l.length)]) (fun _ => []) (fun _ => True) (fun _ => 0) 0 trivial ⟨⟨rfl, rfl, rfl, rfl, trivial⟩, trivial, rfl, by rw [hX]; simp⟩ ?_)
      | trace_state
    intro k _
    try dsimp only
    repeat' (first |with_reducible (first |refine zah ?_|refine zaa ?_|refine zag ?_|refine zad ?_|refine zat ?_|refine zao ?_|refine zas ?_)|refine zab rfl rfl True.intro ?_|((first |refine zac rfl ?_ ?_)<;>intro<;>try (first |(exfalso;omega)))|((first |refine zab rfl rfl ?_ ?_);focus (first |omega|((repeat' refine And.intro ?_ ?_)<;>omega)))|refine zaB rfl ?_|fail)
    all_goals first
      | exact ⟨i + 1, by omega, by omega, ⟨rfl, rfl, rfl, trivial⟩, trivial, rfl, by rw [hX]; simp⟩
      | (exfalso; omega)
      | trace_state
  have hil' : ¬ (i : Int) < (l.length : Int) := by omega
  repeat' (first |with_reducible (first |refine zah ?_|refine zaa ?_|refine zag ?_|refine zad ?_|refine zai ?_|refine zaf ?_|refine zaC ?_)|refine zab rfl rfl True.intro ?_|refine zap rfl rfl rfl ?_|refine zal rfl ?_|((first |refine zac rfl ?_ ?_|refine zak rfl rfl ?_ ?_)<;>intro<;>try (first |(exfalso;omega)))|with_reducible refine ⟨by kernel_rfl, ?_⟩|fail)
  all_goals try (exfalso; omega)
  refine T.loop hL (fun k : Nat => [(0, .sl 4 l.length (atrF l)), (5, .sl 4 A.length (atrF A)), (6, .i .i64 i), (7, .i .i64 k)]) (fun _ => [])
    (fun k => l.length ≤ k ∧ k ≤ i) (fun k => i - k) l.length ⟨Nat.le_refl _, by omega⟩
    ⟨⟨rfl, rfl, rfl, rfl, trivial⟩, trivial, rfl, by rw [hX]; simp⟩ ?_
  rintro k ⟨f1, f2⟩
  try dsimp only at f1 f2 ⊢
  have knat : (k : Int).toNat = k := Int.toNat_natCast k
  by_cases hk : k < i
  · have hk' : (k : Int) < (i : Int) := by omega
    have hne := honce k i f1 hk hi
    have hne' : ¬ (A.getD (k : Int).toNat ([], v03)).1 = (A.getD (i : Int).toNat ([], v03)).1 := by rw [hnat, knat]; exact fun e => hne e.symm
    clear honce hkey hne
    repeat' (first |with_reducible (first |refine zah ?_|refine zaa ?_|refine zag ?_|refine zad ?_|refine zan ?_|refine zai ?_|refine zaf ?_|refine zao ?_|refine zam ?_|refine zaz ?_|refine zaC ?_)|refine zab rfl rfl True.intro ?_|((first |refine zac rfl ?_ ?_|refine zaQ rfl ?_ ?_)<;>intro<;>try (first |(exfalso;omega)))|((first |refine zab rfl rfl ?_ ?_);focus (first |omega|exact le_ rfl|((repeat' refine And.intro ?_ ?_)<;>omega)))|with_reducible refine ⟨by kernel_rfl, ?_⟩|refine zaq rfl ?_|fail)
    all_goals first
      | exact ⟨k + 1, ⟨by omega, by omega⟩, by omega, ⟨rfl, rfl, rfl, rfl, trivial⟩, trivial, rfl, by rw [hX]; simp⟩
      | (exfalso; omega)
      | (exfalso; rename_i q; exact hne' q)
      | trace_state
  · have hk' : ¬ (k : Int) < (i : Int) := by omega
    repeat' (first |with_reducible (first |refine zah ?_|refine zaa ?_|refine zag ?_|refine zad ?_|refine zat ?_|refine zao ?_|refine zas ?_)|refine zab rfl rfl True.intro ?_|((first |refine zac rfl ?_ ?_)<;>intro<;>try (first |(exfalso;omega)))|((first |refine zab rfl rfl ?_ ?_);focus (first |omega|((repeat' refine And.intro ?_ ?_)<;>omega)))|refine zaB rfl ?_|fail)
    all_goals first
      | exact ⟨i + 1, by omega, by omega, ⟨rfl, rfl, rfl, trivial⟩, trivial, rfl, by rw [hX]; simp⟩
      | (exfalso; omega)
      | trace_state

section
variable {H : Type} {enc : TypeId × Value → H} {W : World}
abbrev kj0 (d : DataW H) : DataW H := (kids d).getD 0 .nil
abbrev kj1 (d : DataW H) : DataW H := ((kids d).drop 1).getD 0 .nil
abbrev kj2 (d : DataW H) : DataW H := (((kids d).drop 1).drop 1).getD 0 .nil
theorem zck (d : DataW H) (l : List (DataW H)) (hl : ∀ x ∈ l, x ∈ kids d) (i : Nat) : Rows.uptoBulk (l.getD i .nil) ≤ Rows.uptoBulk d := by
  by_cases h : i < l.length
  · rw [List.getD_eq_getElem?_getD, List.getElem?_eq_getElem h, Option.getD_some]
    have := zgy (hl _ (List.getElem_mem h))
    have := zdC d
    omega
  · rw [List.getD_eq_getElem?_getD, List.getElem?_eq_none (by omega), Option.getD_none]
    exact zgJ d
def gValJ (d : DataW H) : List D := catG [fun d => [.i .i64 (intOf d)], fun d => [.s (strOf d)], fun d => [.i .u64 (wordOf d : Nat)]] (kids d)
def gAttJ (d : DataW H) : List D := catG [fun d => [.s (strOf d)], gValJ] (kids d)
set_option maxRecDepth 100000 in
theorem zlg : Tells enc W 47 4 (gAttJ (H := H)) :=
  zcs Tryz.underlying47 rfl (by kernel_rfl) (.cons _ _ 0 1 4 _ _ rfl (by kernel_rfl) (zce Tryz.underlying9) (.cons _ _ 1 3 4 _ _ rfl (by kernel_rfl) ziZ (.nil 4)))
def attJ (d : DataW H) : AtR := (strOf (kj0 d), intOf (kj0 (kj1 d)), strOf (kj1 (kj1 d)), ((wordOf (kj2 (kj1 d)) : Nat) : Int))
def attsD (d : DataW H) : List AtR := (kids d).map attJ
theorem zgq : attJ (DataW.nil : DataW H) = ([], v03) := rfl
theorem zlE (d : DataW H) : D.sl 4 (kids d).length (fun i => gAttJ ((kids d).getD i .nil)) = .sl 4 (attsD d).length (atrF (attsD d)) := by
  have h2 : (fun i => gAttJ ((kids d).getD i .nil)) = atrF (attsD d) := by
    funext i
    have e : (attsD d).getD i ([], v03) = attJ ((kids d).getD i .nil) := by
      rw [← zgq (H := H)]
      exact zdn attJ (kids d) .nil i
    unfold atrF
    rw [e]
    rfl
  rw [h2]
  unfold attsD
  rw [List.length_map]
set_option maxRecDepth 100000 in
theorem zgn {base : Nat} {v : Value} {d : DataW H} {ps : List MemPlace} (hv : Value.okWide Tryz.prog W .any base 25 v) (h : DataW.Trod enc Tryz.prog W 0 (fun _ => true) true 25 v d ps) :
    Rel (allOf W) W noRho (.sl 4 (attsD d).length (atrF (attsD d))) v := by
  have k := zmg (enc := enc) Tryz.underlying25 (by kernel_rfl) (by omega) zlg hv h
  rwa [zlE] at k
theorem zgl {d : DataW H} (h : Rows.uptoBulk d ≤ 1048576) : (attsD d).length ≤ 1048576 := by
  have h1 := zgZ (kids d)
  have h2 := zdC d
  unfold attsD
  rw [List.length_map]
  omega
theorem zdX {d : DataW H} (h : Rows.uptoBulk d ≤ 1048576) (i : Nat) : ((attsD d).getD i ([], v03)).1.length ≤ 4194304 ∧ ((attsD d).getD i ([], v03)).2.2.1.length ≤ 4194304 := by
  have e : (attsD d).getD i ([], v03) = attJ ((kids d).getD i .nil) := by
    rw [← zgq (H := H)]
    exact zdn attJ (kids d) .nil i
  rw [e]
  have b0 := zck d (kids d) (fun _ h => h) i
  have b1 := zck ((kids d).getD i .nil) (kids ((kids d).getD i .nil)) (fun _ h => h) 0
  have b2 := zck ((kids d).getD i .nil) ((kids ((kids d).getD i .nil)).drop 1) (fun _ h => List.mem_of_mem_drop h) 0
  have b3 := zck (kj1 ((kids d).getD i .nil)) ((kids (kj1 ((kids d).getD i .nil))).drop 1) (fun _ h => List.mem_of_mem_drop h) 0
  have s1 := zcM (kj0 ((kids d).getD i .nil))
  have s2 := zcM (kj1 (kj1 ((kids d).getD i .nil)))
  show (strOf (kj0 ((kids d).getD i .nil))).length ≤ _ ∧ (strOf (kj1 (kj1 ((kids d).getD i .nil)))).length ≤ _
  have h4 : 1048576 ≤ 4194304 := by decide
  exact ⟨Nat.le_trans s1 (Nat.le_trans b1 (Nat.le_trans b0 (Nat.le_trans h h4))), Nat.le_trans s2 (Nat.le_trans b3 (Nat.le_trans b2 (Nat.le_trans b0 (Nat.le_trans h h4))))⟩
end
end Go.Proofs.YtkkaamhocpmhkaaGreatDoor.Flow

namespace Go.Proofs.YtkkaamhocpmhkaaGreatDoor.Flow
open Go.ChangeShapes Go.WideShapes Go.ChangeAt Go.RowKit
set_option maxRecDepth 100000
section
variable {H : Type}
mutual
def flatD : DataW H → List Value
  | .lit (.int k n) => [.int k n]
  | .lit (.bool b) => [.bool b]
  | .lit (.string l) => [.string ⟨l.toArray⟩]
  | .agg ps => flatDs ps
  | _ => []
def flatDs : List (DataW H) → List Value
  | [] => []
  | d :: r => flatD d ++ flatDs r
end
end
def Reads (t : TypeId) (z : Nat) : Prop :=
  ∀ (W : World) held fuel cs x, DataW.trod (fun _ => ()) Tryz.prog W 0 (fun _ => true) held fuel t cs = some x → cs.length = z ∧ cs = flatD x.1
theorem zdt {t : TypeId} {k : IntKind} (ht : Tryz.prog.underlying t = some (.int k)) : Reads t 1 := fun W held fuel cs x h => by
  obtain ⟨n, rfl, rfl, _⟩ := DataW.trod_int ht h
  exact ⟨rfl, by simp [flatD]⟩
theorem zdg {t e z n m : Nat} (ht : Tryz.prog.underlying t = some (.array n e)) (hc : Tryz.prog.cellsOf e = z) (hm : Tryz.prog.cellsOf t = m) (hnm : n * z = m) (hG : Reads e z) : Reads t m := fun W held fuel cs x h => by
  obtain ⟨xs, k, rfl, rfl, hlen, hn, hf⟩ := DataW.trod_array ht h
  rw [hm] at hlen
  rw [hc] at hf
  refine ⟨hlen, ?_⟩
  have key : ∀ (n' : Nat) (ys : List (DataW Unit × List MemPlace)) (cs : List Value), ys.length = n' → cs.length = n' * z → (∀ i, i < n' → DataW.trod (fun _ => ()) Tryz.prog W 0 (fun _ => true) held k e ((cs.drop (i * z)).take z) = ys[i]?) →
      cs = flatDs (ys.map (·.1)) := by
    intro n'
    induction n' with
    | zero =>
      intro ys cs hy hcs _
      obtain rfl : ys = [] := List.length_eq_zero_iff.1 hy
      have : cs = [] := List.length_eq_zero_iff.1 (by omega)
      rw [this]
      simp [flatDs]
    | succ n' ih =>
      intro ys cs hy hcs hf
      match ys, hy with
      | y :: ys, hy =>
        have h0 := hf 0 (by omega)
        obtain ⟨k1, k2⟩ := hG _ _ _ _ _ h0
        rw [Nat.add_mul, Nat.one_mul] at hcs
        have h1 := ih ys (cs.drop z) (by simpa using hy) (by rw [List.length_drop]; omega) (fun i hi => by
          have := hf (i + 1) (by omega)
          rw [List.drop_drop]
          rwa [show z + i * z = (i + 1) * z by rw [Nat.add_mul]; omega])
        simp only [List.map_cons, flatDs]
        rw [← h1, ← k2]
        simp
  have := key n xs cs hn (by omega) hf
  rw [this]
  simp [flatD]
theorem zhj {t z1 z2 m : Nat} {fs : Array Field} {f1 f2 : Field} (ht : Tryz.prog.underlying t = some (.struct fs)) (hl : fs = #[f1, f2]) (hm : Tryz.prog.cellsOf t = m) (o1 : f1.offset = 0) (o2 : f2.offset = z1)
    (c1 : Tryz.prog.cellsOf f1.type = z1) (c2 : Tryz.prog.cellsOf f2.type = z2) (hz : z1 + z2 = m) (h1 : Reads f1.type z1) (h2 : Reads f2.type z2) : Reads t m := fun W held fuel cs x h => by
  subst hl
  obtain ⟨xs, k, rfl, rfl, hlen, hn, hf⟩ := DataW.trod_struct ht h
  rw [hm] at hlen
  refine ⟨hlen, ?_⟩
  match xs, hn with
  | [a, b], _ =>
    have e1 := hf 0 f1 rfl
    have e2 := hf 1 f2 rfl
    rw [o1, c1] at e1
    rw [o2, c2] at e2
    have r1 := (h1 _ _ _ _ _ e1).2
    have r2 := (h2 _ _ _ _ _ e2).2
    simp only [List.map_cons, List.map_nil, flatD, flatDs, List.append_nil]
    rw [← r1, ← r2]
    have : (cs.drop z1).take z2 = cs.drop z1 := List.take_of_length_le (by rw [List.length_drop]; omega)
    rw [this]
    simp
theorem zgC {W : World} {name : String} {d : DataW Unit} : ∀ {laid : List (String × DataW Unit)} {ps : List MemPlace}, DataW.LaidVars Tryz.prog W laid ps → (name, d) ∈ laid →
    ∃ g t cs fuel p, Tryz.prog.globalNamed name = some g ∧ (Tryz.prog.globals[g]?).map (·.type) = some t ∧ W.var? Tryz.prog name = some cs ∧ DataW.trod (fun _ => ()) Tryz.prog W 0 (fun _ => true) false fuel t cs.toList = some (d, p)
  | [], _, _, hm => by cases hm
  | (n, e) :: r, ps, h, hm => by
    obtain ⟨g, t, cs, fuel, p, q, h1, h2, h3, h4, h5, _⟩ := h
    rcases List.mem_cons.1 hm with he | hm
    · cases he
      exact ⟨g, t, cs, fuel, p, h1, h2, h3, h4⟩
    · exact zgC h5 hm
theorem zfZ {W : World} {b o : Nat} {c : Value} (h : W.cell? ⟨b, o, none⟩ = some c) : b < W.heap.size := by
  by_cases hb : b < W.heap.size
  · exact hb
  · have : W.heap[b]? = none := by simp; omega
    simp [World.cell?, this] at h
theorem zea {W : World} {laid : List (String × DataW Unit)} {name : String} {d : DataW Unit} {g t z : Nat} {k : IntKind} {f : Nat → Int} (h : laidMet Tryz.prog laid W) (hm : (name, d) ∈ laid) (hg : Tryz.prog.globalNamed name = some g)
    (ht : (Tryz.prog.globals[g]?).map (·.type) = some t) (hr : Reads t z) (hf : flatD d = (List.range z).map fun j => .int k (f j)) : Rel (allOf W) W noRho (.rn k z f 0) (.pointer (some ⟨g, 0, none⟩)) := by
  obtain ⟨ps, hl, _⟩ := h
  obtain ⟨g', t', cs, fuel, p, h1, h2, h3, h4⟩ := zgC hl hm
  obtain rfl := Option.some.inj (hg.symm.trans h1)
  obtain rfl := Option.some.inj (ht.symm.trans h2)
  obtain ⟨h5, h6⟩ := hr _ _ _ _ _ h4
  refine .rn _ _ _ _ _ _ fun j hj => ?_
  have : W.cell? ⟨g, j, none⟩ = some (.int k (f j)) := by
    rw [World.var?_cell hg h3 j]
    have e : cs[j]? = cs.toList[j]? := by simp
    rw [e, h6, hf]
    simp [hj]
  exact ⟨zfZ this, this⟩
theorem zbJ {W : World} {laid : List (String × DataW Unit)} {name : String} {d : DataW Unit} {g t z : Nat} (h : laidMet Tryz.prog laid W) (hm : (name, d) ∈ laid) (hg : Tryz.prog.globalNamed name = some g)
    (ht : (Tryz.prog.globals[g]?).map (·.type) = some t) (hr : Reads t (z + 1)) : allOf W g (z + 1) ∧ W.cell? ⟨g, z + 1, none⟩ = none := by
  obtain ⟨ps, hl, _⟩ := h
  obtain ⟨g', t', cs, fuel, p, h1, h2, h3, h4⟩ := zgC hl hm
  obtain rfl := Option.some.inj (hg.symm.trans h1)
  obtain rfl := Option.some.inj (ht.symm.trans h2)
  obtain ⟨h5, h6⟩ := hr _ _ _ _ _ h4
  have hs : cs.size = z + 1 := by simpa using h5
  have h7 : W.cell? ⟨g, 0, none⟩ = cs[0]? := World.var?_cell hg h3 0
  rw [Array.getElem?_eq_getElem (by omega)] at h7
  refine ⟨zfZ h7, ?_⟩
  rw [World.var?_cell hg h3 (z + 1)]
  simp [hs]

set_option maxRecDepth 100000
abbrev seatLaid : List (String × DataW Unit) := [("math/bits.deBruijn32tab", Rows.laid_math_bits_deBruijn32tab), ("math/bits.deBruijn64tab", Rows.laid_math_bits_deBruijn64tab), ("internal/strconv.uint64pow10", Rows.laid_internal_strconv_uint64pow10), ("unicode/utf8.acceptRanges", Rows.laid_unicode_utf8_acceptRanges), ("unicode/utf8.first", Rows.laid_unicode_utf8_first)]
theorem zcZ : Reads 203 256 := zdg (n := 256) (z := 1) Tryz.underlying203 (by kernel_rfl) (by kernel_rfl) rfl (zdt Tryz.underlying5)
theorem zfA : Reads 206 32 := zdg (n := 16) (z := 2) Tryz.underlying206 (by kernel_rfl) (by kernel_rfl) rfl
  (zhj (z1 := 1) (z2 := 1) Tryz.underlying205 rfl (by kernel_rfl) rfl rfl (by kernel_rfl) (by kernel_rfl) rfl (zdt Tryz.underlying5) (zdt Tryz.underlying5))
theorem zhr : Reads 257 20 := zdg (n := 20) (z := 1) Tryz.underlying257 (by kernel_rfl) (by kernel_rfl) rfl (zdt Tryz.underlying43)
theorem zcX {W : World} (h0 : laidMetH Tryz.prog seatLaid W) (hb : ∀ g, globSome g = true → ∃ m, allOf W g 0 ∧ W.cell? ⟨g, 0, none⟩ = some (.int .i64 m) := by intro g h; cases h) : GOk (allOf W) W := by
  rw [MakeChecks.laidMetH_plain _ _ _ (by kernel_rfl)] at h0
  refine ⟨fun g => ?_, fun g n hn => ?_, hb⟩
  · by_cases e0 : g = 0
    · subst e0
      exact zea (name := "unicode/utf8.first") (d := Rows.laid_unicode_utf8_first) h0 (by simp) (by kernel_rfl) (by kernel_rfl) zcZ (by kernel_rfl)
    · by_cases e1 : g = 1
      · subst e1
        exact zea (name := "unicode/utf8.acceptRanges") (d := Rows.laid_unicode_utf8_acceptRanges) h0 (by simp) (by kernel_rfl) (by kernel_rfl) zfA (by kernel_rfl)
      · by_cases e2 : g = 2
        · subst e2
          exact zea (name := "internal/strconv.uint64pow10") (d := Rows.laid_internal_strconv_uint64pow10) h0 (by simp) (by kernel_rfl) (by kernel_rfl) zhr (by kernel_rfl)
        · have e : glob g = .any := by
            unfold glob
            split <;> first | rfl | (exfalso; omega)
          rw [e]
          exact .any ..
  · unfold globLen at hn
    split at hn
    · cases hn
      first | exact zbJ (name := "unicode/utf8.first") (d := Rows.laid_unicode_utf8_first) h0 (by simp) (by kernel_rfl) (by kernel_rfl) zcZ | exact zbJ (name := "unicode/utf8.acceptRanges") (d := Rows.laid_unicode_utf8_acceptRanges) h0 (by simp) (by kernel_rfl) (by kernel_rfl) zfA
    · cases hn
      first | exact zbJ (name := "unicode/utf8.acceptRanges") (d := Rows.laid_unicode_utf8_acceptRanges) h0 (by simp) (by kernel_rfl) (by kernel_rfl) zfA | exact zbJ (name := "unicode/utf8.first") (d := Rows.laid_unicode_utf8_first) h0 (by simp) (by kernel_rfl) (by kernel_rfl) zcZ
    · cases hn
      exact zbJ (name := "internal/strconv.uint64pow10") (d := Rows.laid_internal_strconv_uint64pow10) h0 (by simp) (by kernel_rfl) (by kernel_rfl) zhr
    · cases hn

theorem zgX {W : World} {b o : Nat} {x : Value} (h : W.cell? ⟨b, o, none⟩ = some x) : allOf W b o := by
  show b < W.heap.size
  by_cases hb : b < W.heap.size
  · exact hb
  · simp [World.cell?, Array.getElem?_eq_none (Nat.le_of_not_lt hb)] at h
set_option maxRecDepth 100000 in
theorem zmZ {W : World} (h : W.ShapedOpen Tryz.prog) : ∃ m, W.cell? ⟨3, 0, none⟩ = some (.int .i64 m) :=
  Go.Proofs.cell_of_shapedOpen_int (zero := #[.int .i64 0]) (t := 3) h (of_decide_eq_true (by kernel_rfl)) (by kernel_rfl) rfl (by kernel_rfl) (by kernel_rfl) Tryz.underlying3
theorem zct {W : World} (h : W.ShapedOpen Tryz.prog) : ∀ g, globSome g = true → ∃ m, allOf W g 0 ∧ W.cell? ⟨g, 0, none⟩ = some (.int .i64 m) := fun g hg => by
  unfold globSome at hg
  split at hg
  · obtain ⟨m, hm⟩ := zmZ h
    exact ⟨m, zgX hm, hm⟩
  · cases hg

set_option maxRecDepth 100000
variable {H : Type} {enc : TypeId × Value → H} {W : World}
def TellsP (enc : TypeId × Value → H) (W : World) (P : DataW H → Prop) (t z : Nat) (G : DataW H → List D) : Prop :=
  ∀ fuel cs x, P x.1 → DataW.trod enc Tryz.prog W 0 (fun _ => true) true fuel t cs = some x → cs.length = z ∧ (G x.1).length = z ∧ (G x.1).all D.plain = true ∧ ∀ j, j < z → Rel (allOf W) W noRho ((G x.1).getD j .any) (cs.getD j undef)
inductive TellsFP (enc : TypeId × Value → H) (W : World) (Q : DataW H → Prop) : List Field → Nat → List (DataW H → List D) → Nat → Prop
  | nil (off : Nat) : TellsFP enc W Q [] off [] off
  | cons (f : Field) (fs : List Field) (off z N : Nat) (G : DataW H → List D) (Gs : List (DataW H → List D)) (ho : f.offset = off) (hc : Tryz.prog.cellsOf f.type = z) (hG : TellsP enc W Q f.type z G) (h : TellsFP enc W Q fs (off + z) Gs N) : TellsFP enc W Q (f :: fs) off (G :: Gs) N
end Go.Proofs.YtkkaamhocpmhkaaGreatDoor.Flow

namespace Go.Proofs.YtkkaamhocpmhkaaGreatDoor.Flow
open Go
set_option maxHeartbeats 4000000 in
theorem zdH (nm : Tx) (j : JnR) (h1 : j.only.length ≤ 4194304) (h2 : j.notl.length ≤ 4194304) : Ctr Tryz.prog 45 [.s nm, .ag (jnP j)] (.b (joinedP j nm)) := by
  have cO := zhf j.only nm (by omega)
  have cN := zhf j.notl nm (by omega)
  unfold joinedP
  refine zax Tryz.func45 rfl Tryz.ntmps45 Tryz.results45 rfl rfl fun X hL hX => ?_
  by_cases hz : nm ∈ j.notl
  · rw [if_pos hz]
    rw [decide_eq_true hz] at cN
    repeat' (first |refine zae (f := 35) rfl rfl Tryz.call35 rfl cN ?_|with_reducible (first |refine zah ?_|refine zaa ?_|refine zag ?_|refine zad ?_|refine zan ?_|refine zam ?_)|refine zab rfl rfl True.intro ?_|refine zau rfl ?_|((first |refine zab rfl rfl ?_ ?_|refine zav rfl rfl ?_ ?_);focus (first |exact le_ rfl|((repeat' refine And.intro ?_ ?_)<;>omega)|((repeat' refine And.intro ?_ ?_)<;>first |rfl)))|refine zaq rfl ?_|fail)
    all_goals rfl
  rw [if_neg hz]
  rw [decide_eq_false hz] at cN
  by_cases ho : 0 < j.only.length
  · rw [if_pos ho]
    have ho' : (j.only.length : Int) > 0 := by omega
    repeat' (first |refine zae (f := 35) rfl rfl Tryz.call35 rfl cN ?_|refine zae (f := 35) rfl rfl Tryz.call35 rfl cO ?_|with_reducible (first |refine zah ?_|refine zaa ?_|refine zag ?_|refine zad ?_|refine zan ?_|refine zai ?_|refine zam ?_)|refine zab rfl rfl True.intro ?_|refine zal rfl ?_|((first |refine zac rfl ?_ ?_)<;>intro<;>try (first |(exfalso;omega)))|((first |refine zab rfl rfl ?_ ?_|refine zav rfl rfl ?_ ?_);focus (first |exact le_ rfl|((repeat' refine And.intro ?_ ?_)<;>omega)|((repeat' refine And.intro ?_ ?_)<;>first |rfl)))|refine zaq rfl ?_|fail)
    all_goals first
      | rfl
      | (exfalso; omega)
      | trace_state
  · rw [if_neg ho]
    have ho' : ¬ (j.only.length : Int) > 0 := by omega
    repeat' (first |refine zae (f := 35) rfl rfl Tryz.call35 rfl cN ?_|with_reducible (first |refine zah ?_|refine zaa ?_|refine zag ?_|refine zad ?_|refine zan ?_|refine zai ?_)|refine zab rfl rfl True.intro ?_|refine zal rfl ?_|((first |refine zac rfl ?_ ?_)<;>intro<;>try (first |(exfalso;omega)))|((first |refine zab rfl rfl ?_ ?_|refine zav rfl rfl ?_ ?_);focus (first |exact le_ rfl|((repeat' refine And.intro ?_ ?_)<;>omega)|((repeat' refine And.intro ?_ ?_)<;>first |rfl)))|refine zaq rfl ?_|fail)
    all_goals first
      | (refine congrArg D.b ?_; by_cases h : nm = j.key <;> simp [h]; done)
      | (exfalso; omega)
      | trace_state
def kindV (v : Vl3) : Tx := if v.1 = 1 then stringT else if v.1 = 7 then [66, 111, 111, 108, 101, 97, 110] else numberT
set_option maxHeartbeats 4000000 in
theorem znA (v : Vl3) : Ctr Tryz.prog 48 [.ag (vlC v)] (.s (kindV v)) := by
  unfold kindV
  refine zax Tryz.func48 rfl Tryz.ntmps48 Tryz.results48 rfl rfl fun X hL hX => ?_
  by_cases h1 : v.1 = 1
  · rw [if_pos h1]
    repeat' (first |with_reducible (first |refine zah ?_|refine zaa ?_|refine zag ?_|refine zad ?_|refine zan ?_|refine zaf ?_|refine zam ?_|refine zaz ?_)|refine zab rfl rfl True.intro ?_|((first |refine zac rfl ?_ ?_)<;>intro<;>try (first |(exfalso;omega)))|((first |refine zab rfl rfl ?_ ?_|refine zav rfl rfl ?_ ?_);focus (first |exact le_ rfl|((repeat' refine And.intro ?_ ?_)<;>omega)|((repeat' refine And.intro ?_ ?_)<;>first |rfl)))|refine zaq rfl ?_|fail)
    all_goals first
      | rfl
      | (exfalso; omega)
      | trace_state
  rw [if_neg h1]
  by_cases h7 : v.1 = 7
  · rw [if_pos h7]
    repeat' (first |with_reducible (first |refine zah ?_|refine zaa ?_|refine zag ?_|refine zad ?_|refine zan ?_|refine zaf ?_|refine zam ?_|refine zaz ?_)|refine zab rfl rfl True.intro ?_|((first |refine zac rfl ?_ ?_)<;>intro<;>try (first |(exfalso;omega)))|((first |refine zab rfl rfl ?_ ?_|refine zav rfl rfl ?_ ?_);focus (first |exact le_ rfl|((repeat' refine And.intro ?_ ?_)<;>omega)|((repeat' refine And.intro ?_ ?_)<;>first |rfl)))|refine zaq rfl ?_|fail)
    all_goals first
      | rfl
      | (exfalso; omega)
      | trace_state
  · rw [if_neg h7]
    repeat' (first |with_reducible (first |refine zah ?_|refine zaa ?_|refine zag ?_|refine zad ?_|refine zan ?_|refine zai ?_|refine zaf ?_|refine zao ?_)|refine zab rfl rfl True.intro ?_|((first |refine zac rfl ?_ ?_)<;>intro<;>try (first |(exfalso;omega)))|((first |refine zab rfl rfl ?_ ?_|refine zav rfl rfl ?_ ?_);focus (first |exact le_ rfl|((repeat' refine And.intro ?_ ?_)<;>omega)|((repeat' refine And.intro ?_ ?_)<;>first |rfl)))|refine zaq rfl ?_|fail)
    all_goals first
      | rfl
      | (exfalso; omega)
      | trace_state
set_option maxHeartbeats 4000000 in
theorem zlC (v : Vl3) : Ctr Tryz.prog 49 [.ag (vlC v)] (.s (kindV v)) := by
  unfold kindV
  refine zax Tryz.func49 rfl Tryz.ntmps49 Tryz.results49 rfl rfl fun X hL hX => ?_
  by_cases h1 : v.1 = 1
  · rw [if_pos h1]
    repeat' (first |with_reducible (first |refine zah ?_|refine zaa ?_|refine zag ?_|refine zad ?_|refine zan ?_|refine zam ?_)|refine zab rfl rfl True.intro ?_|((first |refine zac rfl ?_ ?_)<;>intro<;>try (first |(exfalso;omega)))|((first |refine zab rfl rfl ?_ ?_|refine zav rfl rfl ?_ ?_);focus (first |exact le_ rfl|((repeat' refine And.intro ?_ ?_)<;>omega)|((repeat' refine And.intro ?_ ?_)<;>first |rfl)))|refine zaq rfl ?_|fail)
    all_goals first
      | rfl
      | (exfalso; omega)
      | trace_state
  rw [if_neg h1]
  by_cases h7 : v.1 = 7
  · rw [if_pos h7]
    repeat' (first |with_reducible (first |refine zah ?_|refine zaa ?_|refine zag ?_|refine zad ?_|refine zan ?_|refine zai ?_|refine zam ?_)|refine zab rfl rfl True.intro ?_|((first |refine zac rfl ?_ ?_)<;>intro<;>try (first |(exfalso;omega)))|((first |refine zab rfl rfl ?_ ?_|refine zav rfl rfl ?_ ?_);focus (first |exact le_ rfl|((repeat' refine And.intro ?_ ?_)<;>omega)|((repeat' refine And.intro ?_ ?_)<;>first |rfl)))|refine zaq rfl ?_|fail)
    all_goals first
      | rfl
      | (exfalso; omega)
      | trace_state
  · rw [if_neg h7]
    repeat' (first |with_reducible (first |refine zah ?_|refine zaa ?_|refine zag ?_|refine zad ?_|refine zan ?_|refine zai ?_)|refine zab rfl rfl True.intro ?_|((first |refine zac rfl ?_ ?_)<;>intro<;>try (first |(exfalso;omega)))|((first |refine zab rfl rfl ?_ ?_|refine zav rfl rfl ?_ ?_);focus (first |exact le_ rfl|((repeat' refine And.intro ?_ ?_)<;>omega)|((repeat' refine And.intro ?_ ?_)<;>first |rfl)))|refine zaq rfl ?_|fail)
    all_goals first
      | rfl
      | (exfalso; omega)
      | trace_state
theorem T.shutJ {P : Program} {X : Ctx} {n : Nat} {fr : Fr} {ow : Ow} {c : Code} {Q : Exit → Fr → Ow → Prop} (t : Nat) (d d' : D) (ht : getD' t fr = d) (hw : Weak d.shut d') (h : T P X n c ((t, d') :: fr) ow Q) : T P X n c fr ow Q := fun a w hr => by
  refine h a w ?_
  obtain ⟨S, r, hH, hI, hF, hd, hn, hρ⟩ := hr
  refine ⟨S, r, hH, hI, fun u => ?_, hd, hn, hρ⟩
  rw [zaE]
  simp only [updF]
  split
  · rename_i e
    have h1 := hF u
    have e1 : fF fr u = d := by rw [e]; exact ht
    rw [e1] at h1
    exact h1.shut.weak hw
  · exact hF u
theorem okT3 {fr : Fr} {ks : List Tx} {i n m : Nat} {t u : TypeId} {z : Nat} {cs : List D} (h : okAll [70, 68, 101, 3] fr [(70, .var cs), (101, .row t 1 n), (3, .row u z m)] = true) : okAll [70, 68, 101, 3] fr [(70, .var cs), (68, .mp (firstE ks i)), (101, .row t 1 n), (3, .row u z m)] = true := by
  unfold okAll at h ⊢
  rw [List.all_cons, List.all_cons, okFirst]
  rw [List.all_cons] at h
  exact h
theorem znK {f : Nat → Tx} {l : List Nat} {i : Nat} (h : i < l.length) : (l.take (i + 1)).map f = (l.take i).map f ++ [f (l.getD i 0)] := by
  rw [List.take_add_one, List.map_append, List.getElem?_eq_getElem h]
  congr 1
  simp [List.getD_eq_getElem?_getD, h]
set_option maxRecDepth 100000 in
set_option maxHeartbeats 8000000 in
theorem ziq (rows : List (List Tx)) (j : JnR) (n : Nat) (hT : RightT n rows j) (hn : n ≤ 1000000) : CtrO Tryz.prog 19 [.pv 70 0] (tblO rows j) (.sl 1 (columnsJ rows j).length (Csv.rowF (columnsJ rows j))) (tblO rows j) := by
  have hcl := fun k hk => ziM (rows := rows) (j := j) (k := k) hk
  have hnl : (namesR rows).length ≤ n + 1 := (zaI hT.good).1
  have hcn : (colsR rows j).length ≤ (namesR rows).length := by
    unfold colsR
    exact Nat.le_trans (List.length_filter_le ..) (by rw [List.length_range]; exact Nat.le_refl _)
  unfold columnsJ
  refine zdb (ids := [70, 68, 101]) (ids2 := [70, 68, 101]) Tryz.func19 rfl Tryz.ntmps19 Tryz.results19 rfl rfl rfl (fun _ h => h) rfl (zem rows j) fun X hL hX => ?_
  unfold tblO
  generalize hcs : colsR rows j = cs at *
  clear hT
  repeat' (first |refine zen zaZ rfl rfl rfl ?_|refine T.adopt 3 3 9 1 (Csv.rowF []) rfl rfl ?_|with_reducible (first |refine zah ?_|refine zaa ?_|refine zag ?_|refine zad ?_|refine zai ?_|refine zaf ?_)|refine zab rfl rfl True.intro ?_|refine zal rfl ?_|((first |refine zab rfl rfl ?_ ?_);focus (first |exact le_ rfl|((repeat' refine And.intro ?_ ?_)<;>omega)))|fail)
  refine T.loop hL (fun x : Nat × List Tx => [(0, .pv 70 0), (3, .gs 3 1 x.2.length (Csv.rowF x.2)), (11, .gs 101 1 cs.length (colF cs)), (12, .i .i64 cs.length), (13, .i .i64 x.1)]) (fun x => [(70, .var (tblP rows j (.gs 101 1 cs.length (colF cs)))), (68, .mp (firstE (keysR rows (colK rows j)) (rows.length - 1))), (101, .row 3 1 cs.length), (3, .row 9 1 x.2.length)])
    (fun x => x.1 ≤ cs.length ∧ x.2.length = x.1 ∧ x.2 = (cs.take x.1).map (fun i => (namesR rows).getD i [])) (fun x => cs.length - x.1) (0, []) ⟨Nat.zero_le _, rfl, by rw [List.take_zero]; rfl⟩
    ⟨⟨rfl, rfl, rfl, rfl, rfl, trivial⟩, ⟨rfl, rfl, rfl, rfl, trivial⟩, okT3 rfl, by rw [hX]; simp⟩ ?_
  rintro ⟨i, out⟩ ⟨g1, g2, g3⟩
  try dsimp only at g1 g2 g3 ⊢
  have hnat : (i : Int).toNat = i := Int.toNat_natCast i
  by_cases hi : i < cs.length
  rotate_left
  · have hi' : ¬ (i : Int) < (cs.length : Int) := by omega
    rw [List.take_of_length_le (by omega)] at g3
    rw [← g3]
    refine T.shutJ 3 _ (.sl 1 out.length (Csv.rowF out)) rfl (.refl _) ?_
    repeat' (first |with_reducible (first |refine zah ?_|refine zaa ?_|refine zag ?_|refine zad ?_|refine zan ?_|refine zat ?_|refine zas ?_)|refine zab rfl rfl True.intro ?_|((first |refine zac rfl ?_ ?_)<;>intro<;>try (first |(exfalso;omega)))|refine zaB rfl ?_|refine zcm rfl (.refl _) ⟨⟨rfl, rfl, rfl, trivial⟩⟩|fail)
    all_goals first
      | rfl
      | trace_state
  have hi' : (i : Int) < (cs.length : Int) := by omega
  have hnx := znK (f := fun i => (namesR rows).getD i []) hi
  rw [← g3] at hnx
  have hlt := hcl i hi
  have hnm : (namesR rows).length = (rows.getD 0 []).length := rfl
  have b2 : ((cs.getD (i : Int).toNat 0 : Nat) : Int) < ((rows.getD 0 []).length : Int) := by rw [hnat]; omega
  have hnx2 : (cs.take (i + 1)).map (fun i => (namesR rows).getD i []) = out ++ [(rows.getD 0 []).getD ((cs.getD (i : Int).toNat 0 : Nat) : Int).toNat []] := by
    rw [hnx, hnat]
    rfl
  repeat' (first |with_reducible (first |refine zah ?_|refine zaa ?_|refine zag ?_|refine zad ?_|refine zai ?_|refine zaf ?_|refine zao ?_)|refine zab rfl rfl True.intro ?_|((first |refine zac rfl ?_ ?_)<;>intro<;>try (first |(exfalso;omega)))|((first |refine zab rfl rfl ?_ ?_|refine zav rfl rfl ?_ ?_);focus (first |omega|exact le_ rfl|((repeat' refine And.intro ?_ ?_)<;>omega)|((repeat' refine And.intro ?_ ?_)<;>first |omega|rfl)))|fail)
  all_goals first
    | exact ⟨(i + 1, out ++ [(rows.getD 0 []).getD ((cs.getD (i : Int).toNat 0 : Nat) : Int).toNat []]), ⟨by dsimp only; omega, by dsimp only; rw [List.length_append]; simp; omega, by dsimp only; exact hnx2.symm⟩, by dsimp only; omega, ⟨rfl, Csv.gs_row 3 out _ _ rfl, rfl, rfl, rfl, trivial⟩, ⟨rfl, rfl, rfl, by rw [List.length_append]; rfl, trivial⟩, okT3 rfl, by rw [hX]; simp⟩
    | (exfalso; omega)
    | trace_state

set_option maxRecDepth 100000 in
set_option maxHeartbeats 8000000 in
theorem zhd (rows : List (List Tx)) (j : JnR) (n : Nat) (hT : RightT n rows j) (hn : n ≤ 1000000) (h1 : j.only.length ≤ 4194304) (h2 : j.notl.length ≤ 4194304) : Ctr Tryz.prog 21 [.sl 1 rows.length (Csv.tabF rows), .ag (jnP j)] (.sl 1 (columnsJ rows j).length (Csv.rowF (columnsJ rows j))) := by
  have hnl : (namesR rows).length ≤ n + 1 := (zaI hT.good).1
  have hnm : (namesR rows).length = (rows.getD 0 []).length := rfl
  have some1 : (0 : Int) < (rows.length : Int) := by have := hT.some1; omega
  have few := hT.few
  unfold columnsJ colsR
  rw [hnm]
  refine zax Tryz.func21 rfl Tryz.ntmps21 Tryz.results21 rfl rfl fun X hL hX => ?_
  clear hT
  repeat' (first |refine T.adopt 5 5 9 1 (Csv.rowF []) rfl rfl ?_|with_reducible (first |refine zah ?_|refine zaa ?_|refine zag ?_|refine zad ?_|refine zaf ?_)|refine zab rfl rfl True.intro ?_|((first |refine zav rfl rfl ?_ ?_);focus (first |((repeat' refine And.intro ?_ ?_)<;>omega)|((repeat' refine And.intro ?_ ?_)<;>first |rfl)))|fail)
  refine T.loop hL (fun x : Nat × List Tx => [(0, .sl 1 rows.length (Csv.tabF rows)), (3, .pv 3 0), (5, .gs 5 1 x.2.length (Csv.rowF x.2)), (6, .i .i64 x.1)]) (fun x => [(3, .var (jnP j)), (5, .row 9 1 x.2.length)])
    (fun x => x.1 ≤ (rows.getD 0 []).length ∧ x.2.length ≤ x.1 ∧ x.2 = ((List.range x.1).filter (fun i => joinedP j ((namesR rows).getD i []))).map (fun i => (namesR rows).getD i [])) (fun x => (rows.getD 0 []).length - x.1) (0, []) ⟨Nat.zero_le _, Nat.le_refl _, rfl⟩
    ⟨⟨rfl, rfl, rfl, rfl, trivial⟩, ⟨rfl, rfl, trivial⟩, rfl, by rw [hX]; simp⟩ ?_
  rintro ⟨i, out⟩ ⟨g1, g2, g3⟩
  try dsimp only at g1 g2 g3 ⊢
  have hnat : (i : Int).toNat = i := Int.toNat_natCast i
  by_cases hi : i < (rows.getD 0 []).length
  rotate_left
  · have hi' : ¬ (i : Int) < ((rows.getD (Int.toNat 0) []).length : Int) := by
      show ¬ (i : Int) < ((rows.getD 0 []).length : Int)
      omega
    rw [show i = (rows.getD 0 []).length by omega] at g3
    rw [← g3]
    repeat' (first |with_reducible (first |refine zah ?_|refine zaa ?_|refine zag ?_|refine zad ?_|refine zan ?_|refine zat ?_|refine zas ?_)|refine zab rfl rfl True.intro ?_|((first |refine zac rfl ?_ ?_)<;>intro<;>try (first |(exfalso;omega)))|((first |refine zab rfl rfl ?_ ?_);focus (first |omega|exact le_ rfl|((repeat' refine And.intro ?_ ?_)<;>omega)))|refine zaB rfl ?_|refine zaq rfl ?_|fail)
    all_goals first
      | rfl
      | trace_state
  have hi' : (i : Int) < ((rows.getD (Int.toNat 0) []).length : Int) := by
    show (i : Int) < ((rows.getD 0 []).length : Int)
    omega
  have hn2 := zgh (fun x => joinedP j ((namesR rows).getD x [])) i
  have hx := congrArg (List.map (fun i => (namesR rows).getD i [])) hn2
  have cJ := zdH ((rows.getD 0 []).getD (i : Int).toNat []) j h1 h2
  have hjj : joinedP j ((rows.getD 0 []).getD (i : Int).toNat []) = joinedP j ((namesR rows).getD i []) := by rw [hnat]; rfl
  cases hb : joinedP j ((namesR rows).getD i []) with
  | true =>
    rw [hjj, hb] at cJ
    rw [if_pos hb, List.map_append, ← g3] at hx
    have hx2 : out ++ [(rows.getD 0 []).getD (i : Int).toNat []] = ((List.range (i + 1)).filter (fun i => joinedP j ((namesR rows).getD i []))).map (fun i => (namesR rows).getD i []) := by
      rw [hx, hnat]
      rfl
    repeat' (first |refine zae (f := 45) rfl rfl Tryz.call45 rfl cJ ?_|with_reducible (first |refine zah ?_|refine zaa ?_|refine zag ?_|refine zad ?_|refine zai ?_|refine zaf ?_|refine zao ?_|refine zaC ?_)|refine zab rfl rfl True.intro ?_|refine zau rfl ?_|((first |refine zac rfl ?_ ?_)<;>intro<;>try (first |(exfalso;omega)))|((first |refine zab rfl rfl ?_ ?_|refine zav rfl rfl ?_ ?_);focus (first |omega|exact le_ rfl|((repeat' refine And.intro ?_ ?_)<;>omega)|((repeat' refine And.intro ?_ ?_)<;>first |omega|rfl)))|with_reducible refine ⟨by kernel_rfl, ?_⟩|fail)
    all_goals first
      | exact ⟨(i + 1, out ++ [(rows.getD 0 []).getD (i : Int).toNat []]), ⟨by dsimp only; omega, by dsimp only; rw [List.length_append]; simp; omega, hx2⟩, by dsimp only; omega, ⟨rfl, rfl, Csv.gs_row 5 out _ _ rfl, rfl, trivial⟩, ⟨rfl, by rw [List.length_append]; rfl, trivial⟩, rfl, by rw [hX]; simp⟩
      | (exfalso; omega)
      | trace_state
  | false =>
    rw [hjj, hb] at cJ
    rw [if_neg (by rw [hb]; exact Bool.false_ne_true), ← g3] at hx
    repeat' (first |refine zae (f := 45) rfl rfl Tryz.call45 rfl cJ ?_|with_reducible (first |refine zah ?_|refine zaa ?_|refine zag ?_|refine zad ?_|refine zai ?_|refine zaf ?_|refine zao ?_|refine zaC ?_)|refine zab rfl rfl True.intro ?_|refine zal rfl ?_|((first |refine zac rfl ?_ ?_)<;>intro<;>try (first |(exfalso;omega)))|((first |refine zab rfl rfl ?_ ?_);focus (first |omega|exact le_ rfl|((repeat' refine And.intro ?_ ?_)<;>omega)))|with_reducible refine ⟨by kernel_rfl, ?_⟩|fail)
    all_goals first
      | exact ⟨(i + 1, out), ⟨by dsimp only; omega, by dsimp only; omega, hx.symm⟩, by dsimp only; omega, ⟨rfl, rfl, rfl, rfl, trivial⟩, ⟨rfl, rfl, trivial⟩, rfl, by rw [hX]; simp⟩
      | (exfalso; omega)
      | trace_state
end Go.Proofs.YtkkaamhocpmhkaaGreatDoor.Flow
