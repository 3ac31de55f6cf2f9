/- The texts J16, J17, J22, J25, G14, one behind the other. -/
import Derived.Test.YtcajofhafpkbdaaGreatDoorCQ10
import Derived.Test.YtcajofhafpkbdaaGreatDoorCQ13
import Derived.Test.YtcajofhafpkbdaaGreatDoorCQ16
import Derived.Test.YtcajofhafpkbdaaGreatDoorCQ18
namespace Go.Proofs.YtcajofhafpkbdaaGreatDoor.Flow
open Go
theorem Ctr.weakS {P : Program} {f : FuncId} {args : List D} {d d' : D} (h : Ctr P f args d) (hw : Weak d d') : Ctr P f args d' := by
  intro w S vs hv hg hn hr
  refine (h w S vs hv hg hn hr).mono ?_
  rintro e w' ⟨v, S', h1, h2, h3⟩
  exact ⟨v, S', h1, h2.weak hw, h3⟩
def getJ (x : J) (k : List UInt8) : J × Bool := if x.kind = 5 ∧ 0 ≤ idxJ k x.keys ∧ idxJ k x.keys < x.list.length then (x.list.getD (idxJ k x.keys).toNat j0, true) else (j0, false)
def getD (r : J × Bool) : D := .tu [.ag (jP r.1), .b r.2]
theorem zdr : Weak (.tu [.ag j0C, .b false]) (getD (j0, false)) := by
  unfold getD
  refine .tu2 ?_ (.refl _)
  rw [← zla]
  exact zbQ 0 false
set_option maxRecDepth 100000 in
set_option maxHeartbeats 1000000 in
theorem zpS (x : J) (k : List UInt8) (hw : jw x ≤ 4194304) : Ctr Tryz.prog 84 [.ag (jP x), .s k] (getD (getJ x k)) := by
  refine Ctr.weak2 ?_ (zme x) (.refl _)
  have hx := zeq x
  have hl := zbZ x.list
  have c1 := zgs x.keys k (by omega)
  have hm := @zdF k x.keys
  obtain ⟨kd, b, g, d, e, t, l, ks⟩ := x
  replace hx : jw (.mk kd b g d e t l ks) = 1 + jwL l + ks.length := hx
  replace hl : l.length ≤ jwL l := hl
  replace c1 : Ctr Tryz.prog 115 [.sl 1 ks.length (txF ks), .s k] (.i .i64 (idxJ k ks)) := c1
  replace hm : (0 ≤ idxJ k ks ↔ k ∈ ks) ∧ -1 ≤ idxJ k ks ∧ idxJ k ks < ks.length := hm
  show Ctr Tryz.prog 84 [.ag [.i .i64 kd, .b b, .b g, .s d, .i .i64 e, .s t, .sl 8 l.length (jG l), .sl 1 ks.length (txF ks)], .s k] (getD (if kd = 5 ∧ 0 ≤ idxJ k ks ∧ idxJ k ks < l.length then (l.getD (idxJ k ks).toNat j0, true) else (j0, false)))
  replace hm := hm.2
  generalize idxJ k ks = ix at *
  by_cases a0 : kd = 5
  rotate_left
  · rw [if_neg (fun q => a0 q.1)]
    refine zay Tryz.func84 rfl Tryz.ntmps84 Tryz.results84 rfl rfl fun X hL hX => ?_
    repeat' (first |with_reducible (first |refine zag ?_|refine zaa ?_|refine zaf ?_|refine zad ?_|refine zaj ?_|refine zal ?_)|refine zab rfl rfl True.intro ?_|((first |refine zat rfl ?_ ?_)<;>intro<;>try (first |(exfalso;omega)))|((first |refine zab rfl rfl ?_ ?_|refine zao rfl rfl ?_ ?_|refine zar rfl ?_ ?_);focus (first |exact le_ rfl|((repeat' refine And.intro ?_ ?_)<;>omega)|((repeat' refine And.intro ?_ ?_)<;>first |rfl|exact Nat.le_refl _)))|refine zaB rfl ?_|fail)
    all_goals exact zdr
  by_cases a1 : 0 ≤ ix
  rotate_left
  · rw [if_neg (fun q => a1 q.2.1)]
    refine zay Tryz.func84 rfl Tryz.ntmps84 Tryz.results84 rfl rfl fun X hL hX => ?_
    repeat' (first |refine zah (f := 115) rfl rfl Tryz.call115 rfl c1 ?_|with_reducible (first |refine zag ?_|refine zaa ?_|refine zaf ?_|refine zad ?_|refine zaj ?_|refine zai ?_|refine zal ?_)|refine zab rfl rfl True.intro ?_|refine zau rfl rfl rfl ?_|refine zas rfl ?_|((first |refine zat rfl ?_ ?_|refine zan rfl rfl ?_ ?_)<;>intro<;>try (first |(exfalso;omega)))|((first |refine zab rfl rfl ?_ ?_|refine zao rfl rfl ?_ ?_|refine zar rfl ?_ ?_);focus (first |exact le_ rfl|((repeat' refine And.intro ?_ ?_)<;>omega)|((repeat' refine And.intro ?_ ?_)<;>first |rfl|exact Nat.le_refl _)))|refine zaB rfl ?_|fail)
    all_goals exact zdr
  by_cases a2 : ix < l.length
  rotate_left
  · rw [if_neg (fun q => a2 q.2.2)]
    refine zay Tryz.func84 rfl Tryz.ntmps84 Tryz.results84 rfl rfl fun X hL hX => ?_
    repeat' (first |refine zah (f := 115) rfl rfl Tryz.call115 rfl c1 ?_|with_reducible (first |refine zag ?_|refine zaa ?_|refine zaf ?_|refine zad ?_|refine zaj ?_|refine zai ?_|refine zal ?_)|refine zab rfl rfl True.intro ?_|refine zam rfl rfl rfl rfl True.intro ?_|((first |refine zac rfl ?_ ?_|refine zat rfl ?_ ?_|refine zan rfl rfl ?_ ?_)<;>intro<;>try (first |(exfalso;omega)))|((first |refine zab rfl rfl ?_ ?_|refine zam rfl rfl rfl rfl ?_ ?_|refine zao rfl rfl ?_ ?_|refine zar rfl ?_ ?_);focus (first |exact le_ rfl|((repeat' refine And.intro ?_ ?_)<;>omega)|((repeat' refine And.intro ?_ ?_)<;>first |rfl|exact Nat.le_refl _)))|refine zaB rfl ?_|fail)
    all_goals exact zdr
  rw [if_pos ⟨a0, a1, a2⟩]
  refine zay Tryz.func84 rfl Tryz.ntmps84 Tryz.results84 rfl rfl fun X hL hX => ?_
  repeat' (first |refine zah (f := 115) rfl rfl Tryz.call115 rfl c1 ?_|with_reducible (first |refine zag ?_|refine zaa ?_|refine zaf ?_|refine zad ?_|refine zaj ?_|refine zai ?_)|refine zab rfl rfl True.intro ?_|refine zam rfl rfl rfl rfl True.intro ?_|((first |refine zac rfl ?_ ?_|refine zat rfl ?_ ?_|refine zan rfl rfl ?_ ?_)<;>intro<;>try (first |(exfalso;omega)))|((first |refine zab rfl rfl ?_ ?_|refine zam rfl rfl rfl rfl ?_ ?_|refine zao rfl rfl ?_ ?_|refine zar rfl ?_ ?_);focus (first |omega|exact le_ rfl|((repeat' refine And.intro ?_ ?_)<;>omega)|((repeat' refine And.intro ?_ ?_)<;>first |rfl|exact Nat.le_refl _)))|refine zaB rfl ?_|fail)
  all_goals exact .of_eq rfl
set_option maxRecDepth 100000 in
set_option maxHeartbeats 1000000 in
theorem znP (x : J) (k : List UInt8) (hw : jw x ≤ 4194304) : Ctr Tryz.prog 58 [.ag (jP x), .s k] (getD (getJ x k)) := by
  refine Ctr.weak2 ?_ (zme x) (.refl _)
  have hx := zeq x
  have hl := zbZ x.list
  have c1 := zgz x.keys k (by omega)
  have hm := @zdF k x.keys
  obtain ⟨kd, b, g, d, e, t, l, ks⟩ := x
  replace hx : jw (.mk kd b g d e t l ks) = 1 + jwL l + ks.length := hx
  replace hl : l.length ≤ jwL l := hl
  replace c1 : Ctr Tryz.prog 92 [.sl 1 ks.length (txF ks), .s k] (.i .i64 (idxJ k ks)) := c1
  replace hm : (0 ≤ idxJ k ks ↔ k ∈ ks) ∧ -1 ≤ idxJ k ks ∧ idxJ k ks < ks.length := hm
  show Ctr Tryz.prog 58 [.ag [.i .i64 kd, .b b, .b g, .s d, .i .i64 e, .s t, .sl 8 l.length (jG l), .sl 1 ks.length (txF ks)], .s k] (getD (if kd = 5 ∧ 0 ≤ idxJ k ks ∧ idxJ k ks < l.length then (l.getD (idxJ k ks).toNat j0, true) else (j0, false)))
  replace hm := hm.2
  generalize idxJ k ks = ix at *
  by_cases a0 : kd = 5
  rotate_left
  · rw [if_neg (fun q => a0 q.1)]
    refine zay Tryz.func58 rfl Tryz.ntmps58 Tryz.results58 rfl rfl fun X hL hX => ?_
    repeat' (first |refine zah (f := 92) rfl rfl Tryz.call92 rfl c1 ?_|with_reducible (first |refine zag ?_|refine zaa ?_|refine zaf ?_|refine zad ?_|refine zaj ?_|refine zal ?_)|refine zab rfl rfl True.intro ?_|refine zau rfl rfl rfl ?_|refine zas rfl ?_|((first |refine zaQ rfl rfl ?_ ?_)<;>intro<;>try (first |(exfalso;omega)))|((first |refine zab rfl rfl ?_ ?_|refine zao rfl rfl ?_ ?_|refine zar rfl ?_ ?_);focus (first |exact le_ rfl|((repeat' refine And.intro ?_ ?_)<;>omega)|((repeat' refine And.intro ?_ ?_)<;>first |rfl|exact Nat.le_refl _)))|refine zaB rfl ?_|fail)
    all_goals exact zdr
  by_cases a1 : 0 ≤ ix
  rotate_left
  · rw [if_neg (fun q => a1 q.2.1)]
    refine zay Tryz.func58 rfl Tryz.ntmps58 Tryz.results58 rfl rfl fun X hL hX => ?_
    repeat' (first |refine zah (f := 92) rfl rfl Tryz.call92 rfl c1 ?_|with_reducible (first |refine zag ?_|refine zaa ?_|refine zaf ?_|refine zad ?_|refine zaj ?_|refine zal ?_)|refine zab rfl rfl True.intro ?_|refine zau rfl rfl rfl ?_|refine zam rfl rfl rfl rfl True.intro ?_|refine zas rfl ?_|((first |refine zan rfl rfl ?_ ?_|refine zaQ rfl rfl ?_ ?_)<;>intro<;>try (first |(exfalso;omega)))|((first |refine zab rfl rfl ?_ ?_|refine zao rfl rfl ?_ ?_|refine zar rfl ?_ ?_);focus (first |exact le_ rfl|((repeat' refine And.intro ?_ ?_)<;>omega)|((repeat' refine And.intro ?_ ?_)<;>first |rfl|exact Nat.le_refl _)))|refine zaB rfl ?_|fail)
    all_goals exact zdr
  by_cases a2 : ix < l.length
  rotate_left
  · rw [if_neg (fun q => a2 q.2.2)]
    refine zay Tryz.func58 rfl Tryz.ntmps58 Tryz.results58 rfl rfl fun X hL hX => ?_
    repeat' (first |refine zah (f := 92) rfl rfl Tryz.call92 rfl c1 ?_|with_reducible (first |refine zag ?_|refine zaa ?_|refine zaf ?_|refine zad ?_|refine zaj ?_|refine zal ?_)|refine zab rfl rfl True.intro ?_|refine zam rfl rfl rfl rfl True.intro ?_|((first |refine zac rfl ?_ ?_|refine zan rfl rfl ?_ ?_|refine zaQ rfl rfl ?_ ?_)<;>intro<;>try (first |(exfalso;omega)))|((first |refine zab rfl rfl ?_ ?_|refine zam rfl rfl rfl rfl ?_ ?_|refine zao rfl rfl ?_ ?_|refine zar rfl ?_ ?_);focus (first |exact le_ rfl|((repeat' refine And.intro ?_ ?_)<;>omega)|((repeat' refine And.intro ?_ ?_)<;>first |rfl|exact Nat.le_refl _)))|refine zaB rfl ?_|fail)
    all_goals exact zdr
  rw [if_pos ⟨a0, a1, a2⟩]
  refine zay Tryz.func58 rfl Tryz.ntmps58 Tryz.results58 rfl rfl fun X hL hX => ?_
  repeat' (first |refine zah (f := 92) rfl rfl Tryz.call92 rfl c1 ?_|with_reducible (first |refine zag ?_|refine zaa ?_|refine zaf ?_|refine zad ?_|refine zaj ?_|refine zai ?_)|refine zab rfl rfl True.intro ?_|refine zam rfl rfl rfl rfl True.intro ?_|((first |refine zac rfl ?_ ?_|refine zan rfl rfl ?_ ?_|refine zaQ rfl rfl ?_ ?_)<;>intro<;>try (first |(exfalso;omega)))|((first |refine zab rfl rfl ?_ ?_|refine zam rfl rfl rfl rfl ?_ ?_|refine zao rfl rfl ?_ ?_|refine zar rfl ?_ ?_);focus (first |omega|exact le_ rfl|((repeat' refine And.intro ?_ ?_)<;>omega)|((repeat' refine And.intro ?_ ?_)<;>first |rfl|exact Nat.le_refl _)))|refine zaB rfl ?_|fail)
  all_goals exact .of_eq rfl
theorem zeJ (s : List UInt8) : Ctr Tryz.prog 34 [.s s] (.ag (jP (.mk 3 false false [] 0 s [] []))) := by
  refine zay Tryz.func34 rfl Tryz.ntmps34 Tryz.results34 rfl rfl fun X hL hX => ?_
  repeat' (first |with_reducible (first |refine zag ?_|refine zaa ?_|refine zaf ?_|refine zad ?_|refine zaj ?_)|refine zab rfl rfl True.intro ?_|((first |refine zao rfl rfl ?_ ?_|refine zar rfl ?_ ?_);focus (first |((repeat' refine And.intro ?_ ?_)<;>omega)|((repeat' refine And.intro ?_ ?_)<;>first |rfl|exact Nat.le_refl _)))|refine zaB rfl ?_|fail)
  all_goals (rw [← zla]; exact zcg 3 false false [] 0 s)
theorem zpp (n : Bool) (d : List UInt8) (e : Int) : Ctr Tryz.prog 63 [.ag [.b n, .s d, .i .i64 e]] (.ag (jP (.mk 2 false n d e [] [] []))) := Ctr.weakS (zod n d e) (by rw [← zla]; exact zcg 2 false n d e [])

def txL : List (List UInt8) → Nat
  | [] => 0
  | k :: r => k.length + 1 + txL r
mutual
def jb : J → Nat
  | .mk _ _ _ d _ t l ks => 1 + d.length + t.length + jbL l + txL ks
def jbL : List J → Nat
  | [] => 0
  | x :: r => jb x + jbL r
end
theorem zqN (x : J) : jb x = 1 + x.dig.length + x.text.length + jbL x.list + txL x.keys := by
  cases x
  rw [jb]
  rfl
theorem zja : ∀ l : List (List UInt8), l.length ≤ txL l
  | [] => Nat.zero_le _
  | k :: r => by
    have := zja r
    rw [txL, List.length_cons]
    omega
theorem znD : ∀ {l : List J} {i : Nat}, i < l.length → jb (l.getD i j0) ≤ jbL l
  | [], _, h => by simp at h
  | x :: r, 0, _ => by
    rw [jbL]
    exact Nat.le_add_right _ _
  | x :: r, i + 1, h => by
    have := znD (l := r) (i := i) (by simpa using h)
    rw [jbL]
    have e : (x :: r).getD (i + 1) j0 = r.getD i j0 := by simp
    rw [e]
    omega
mutual
theorem zrO : ∀ x : J, jw x ≤ jb x
  | .mk k y n d e t l ks => by
    have := zjc l
    have := zja ks
    rw [jw, jb]
    omega
theorem zjc : ∀ l : List J, jwL l ≤ jbL l
  | [] => Nat.le_refl _
  | x :: r => by
    have := zrO x
    have := zjc r
    rw [jwL, jbL]
    omega
end

def keysOk (ks : List (List UInt8)) : Bool := decide ks.Nodup && ks.all validL
def rightJ : Nat → J → Bool
  | 0, _ => false
  | d + 1, x => if x.kind = 0 ∨ x.kind = 1 then true else if x.kind = 2 then rightB x.neg x.dig x.exp else if x.kind = 3 then validL x.text
    else if x.kind = 5 then ((keysOk x.keys && decide (x.keys.length = x.list.length)) && x.list.all (rightJ d)) else if x.kind = 4 then x.list.all (rightJ d) else false
theorem zhu (d : Nat) (k : Int) (y n : Bool) (dg : List UInt8) (e : Int) (t : List UInt8) (l : List J) (ks : List (List UInt8)) : rightJ (d + 1) (.mk k y n dg e t l ks) =
    if k = 0 ∨ k = 1 then true else if k = 2 then rightB n dg e else if k = 3 then validL t else if k = 5 then ((keysOk ks && decide (ks.length = l.length)) && l.all (rightJ d)) else if k = 4 then l.all (rightJ d) else false := rfl
theorem zms {ks : List (List UInt8)} {i : Nat} (h : i < ks.length) (hm : ks.getD i [] ∈ ks.take i) : keysOk ks = false := by
  unfold keysOk
  rw [decide_eq_false, Bool.false_and]
  intro hn
  obtain ⟨j, hj, he⟩ := List.mem_iff_getElem.1 hm
  rw [List.length_take] at hj
  rw [List.getElem_take] at he
  have h2 := List.pairwise_iff_getElem.1 hn j i (by omega) h (by omega)
  apply h2
  rw [he]
  simp [List.getD_eq_getElem?_getD, h]
theorem zlz {ks : List (List UInt8)} {i : Nat} (h : i < ks.length) (hm : validL (ks.getD i []) = false) : keysOk ks = false := by
  unfold keysOk
  have : ks.all validL = false := by
    rw [List.all_eq_false]
    refine ⟨ks.getD i [], ?_, by rw [hm]; exact Bool.false_ne_true⟩
    rw [show ks.getD i [] = ks[i] by simp [List.getD_eq_getElem?_getD, h]]
    exact List.getElem_mem h
  rw [this, Bool.and_false]
theorem zml {ks : List (List UInt8)} (h : ∀ i, i < ks.length → ks.getD i [] ∉ ks.take i ∧ validL (ks.getD i []) = true) : keysOk ks = true := by
  unfold keysOk
  have e : ∀ i (hi : i < ks.length), ks.getD i [] = ks[i] := fun i hi => by simp [List.getD_eq_getElem?_getD, hi]
  rw [Bool.and_eq_true, decide_eq_true_eq, List.all_eq_true]
  refine ⟨List.pairwise_iff_getElem.2 fun i j hi hj hij he => ?_, fun k hk => ?_⟩
  · apply (h j hj).1
    rw [e j hj, ← he]
    exact List.mem_iff_getElem.2 ⟨i, by rw [List.length_take]; omega, by rw [List.getElem_take]⟩
  · obtain ⟨i, hi, rfl⟩ := List.mem_iff_getElem.1 hk
    have := (h i hi).2
    rwa [e i hi] at this
def mapB (ks : List (List UInt8)) : Ents := ks.map fun k => (k, .b true)
theorem zej {k : List UInt8} : ∀ {ks : List (List UInt8)}, k ∈ ks → mget k (mapB ks) = some (.b true)
  | [], h => by cases h
  | p :: r, h => by
    show (if p = k then some (D.b true) else mget k (mapB r)) = _
    by_cases e : p = k
    · rw [if_pos e]
    · rw [if_neg e]
      exact zej ((List.mem_cons.1 h).resolve_left fun q => e q.symm)
theorem zdA {k : List UInt8} : ∀ {ks : List (List UInt8)}, k ∉ ks → mget k (mapB ks) = none
  | [], _ => rfl
  | p :: r, h => by
    show (if p = k then some (D.b true) else mget k (mapB r)) = _
    rw [if_neg fun e => h (List.mem_cons.2 (.inl e.symm))]
    exact zdA fun q => h (List.mem_cons.2 (.inr q))
theorem zen {k : List UInt8} : ∀ {ks : List (List UInt8)}, k ∉ ks → mput k (.b true) (mapB ks) = mapB (ks ++ [k])
  | [], _ => rfl
  | p :: r, h => by
    show (if p = k then _ else (p, D.b true) :: mput k (.b true) (mapB r)) = _
    rw [if_neg fun e => h (List.mem_cons.2 (.inl e.symm)), zen fun q => h (List.mem_cons.2 (.inr q))]
    rfl
theorem okMB (ls : List Nat) (ks : List (List UInt8)) : (Own.mp (mapB ks)).okIn ls = true := by
  show (mapB ks).all (fun p => p.2.okIn ls) = true
  rw [List.all_eq_true]
  intro p hp
  obtain ⟨q, _, rfl⟩ := List.mem_map.1 hp
  rfl
theorem zli {ks : List (List UInt8)} {i : Nat} (h : i < ks.length) : ks.take (i + 1) = ks.take i ++ [ks.getD i []] := by
  rw [List.take_add_one]
  have : ks[i]? = some (ks.getD i []) := by simp [List.getD_eq_getElem?_getD, h]
  rw [this]
  rfl
theorem znT : ∀ {ks : List (List UInt8)} {i : Nat}, (ks.getD i []).length ≤ txL ks
  | [], _ => by simp
  | k :: r, 0 => by
    rw [txL]
    show k.length ≤ _
    omega
  | k :: r, i + 1 => by
    have := znT (ks := r) (i := i)
    rw [txL, List.getD_cons_succ]
    omega

theorem zaY : Tryz.prog.underlying 74 = some (.map 9 4) := by kernel_rfl
theorem okMV {fr : Fr} {cs : List D} {ks : List (List UInt8)} (h : okAll [6, 1] fr [(1, .var cs)] = true) : okAll [6, 1] fr [(6, .mp (mapB ks)), (1, .var cs)] = true := by
  unfold okAll at h ⊢
  rw [List.all_cons, okMB]
  exact h
set_option maxRecDepth 100000 in
set_option maxHeartbeats 1000000 in
theorem zha (x : J) (hb : jb x ≤ 4194304) : Ctr Tryz.prog 122 [.ag (jQ x)] (.b (keysOk x.keys && decide (x.keys.length = x.list.length))) := by
  have he := zqN x
  have hk := zja x.keys
  have hl : x.list.length ≤ 4194304 := by
    have := zrO x
    have := zbZ x.list
    have := zeq x
    omega
  have hka : ∀ i, (x.keys.getD i []).length ≤ 4194304 := fun i => by
    have := znT (ks := x.keys) (i := i)
    omega
  obtain ⟨k, b, g, d, e, t, l, ks⟩ := x
  replace he : jb (.mk k b g d e t l ks) = 1 + d.length + t.length + jbL l + txL ks := he
  replace hk : ks.length ≤ txL ks := hk
  have hk : ks.length ≤ 4194304 := Nat.le_trans hk (by omega)
  replace hl : l.length ≤ 4194304 := hl
  replace hka : ∀ i, (ks.getD i []).length ≤ 4194304 := hka
  show Ctr Tryz.prog 122 [.ag [.i .i64 k, .b b, .b g, .s d, .i .i64 e, .s t, .sl 8 l.length (jG l), .sl 1 ks.length (txF ks)]] (.b (keysOk ks && decide (ks.length = l.length)))
  clear he hb
  refine zay Tryz.func122 rfl Tryz.ntmps122 Tryz.results122 rfl rfl fun X hL hX => ?_
  repeat' (first |refine zmZ rfl rfl ?_|with_reducible (first |refine zag ?_|refine zaa ?_|refine zaf ?_|refine zad ?_|refine zae ?_)|refine zab rfl rfl True.intro ?_|((first |refine zab rfl rfl ?_ ?_|refine zao rfl rfl ?_ ?_);focus (first |exact le_ rfl|((repeat' refine And.intro ?_ ?_)<;>omega)|((repeat' refine And.intro ?_ ?_)<;>first |rfl)))|fail)
  refine T.loop hL (fun i : Nat => [(1, .pv 1 0), (3, .mh 6), (8, .sl 1 ks.length (txF ks)), (9, .i .i64 ks.length), (10, .i .i64 i)]) (fun i => [(6, .mp (mapB (ks.take i))), (1, .var [.i .i64 k, .b b, .b g, .s d, .i .i64 e, .s t, .sl 8 l.length (jG l), .sl 1 ks.length (txF ks)])])
    (fun i => i ≤ ks.length ∧ ∀ j, j < i → ks.getD j [] ∉ ks.take j ∧ validL (ks.getD j []) = true) (fun i => ks.length - i) 0 ⟨Nat.zero_le _, fun j h => absurd h (Nat.not_lt_zero _)⟩
    ⟨⟨rfl, rfl, rfl, rfl, rfl, trivial⟩, ⟨rfl, rfl, trivial⟩, okMV rfl, by rw [hX]; simp⟩ ?_
  rintro i ⟨g1, g2⟩
  have hnat : (i : Int).toNat = i := Int.toNat_natCast i
  by_cases hil : i < ks.length
  · have hv := zdg (ks.getD (i : Int).toNat []) (by have := hka (i : Int).toNat; omega)
    by_cases hm : ks.getD i [] ∈ ks.take i
    · rw [zms hil hm, Bool.false_and]
      have hg : mget (ks.getD (i : Int).toNat []) (mapB (ks.take i)) = some (.b true) := zej (by rw [hnat]; exact hm)
      repeat' (first |refine zqx zaY Tryz.underlying9 rfl rfl rfl hg rfl ?_|with_reducible (first |refine zag ?_|refine zaa ?_|refine zaf ?_|refine zad ?_|refine zaj ?_|refine zai ?_|refine zae ?_|refine zal ?_|refine zap ?_)|refine zab rfl rfl True.intro ?_|refine zau rfl rfl rfl ?_|refine zas rfl ?_|((first |refine zac rfl ?_ ?_)<;>intro<;>try (first |(exfalso;omega)))|((first |refine zab rfl rfl ?_ ?_);focus (first |omega|exact le_ rfl|((repeat' refine And.intro ?_ ?_)<;>omega)))|refine zaw rfl ?_|fail)
      all_goals rfl
    · have hg : mget (ks.getD (i : Int).toNat []) (mapB (ks.take i)) = none := zdA (by rw [hnat]; exact hm)
      have hp := zen (k := ks.getD (i : Int).toNat []) (ks := ks.take i) (by rw [hnat]; exact hm)
      have ht := zli hil
      cases hq : validL (ks.getD i []) with
      | false =>
        rw [zlz hil hq, Bool.false_and]
        rw [hnat, hq] at hv
        replace hv : Ctr Tryz.prog 69 [.s (ks.getD (i : Int).toNat [])] (.b false) := by rw [hnat]; exact hv
        repeat' (first |refine zjE zaY Tryz.underlying9 rfl rfl rfl rfl hg rfl ?_|refine zaM (f := 69) rfl rfl rfl rfl Tryz.call69 rfl hv ?_|with_reducible (first |refine zag ?_|refine zaa ?_|refine zaf ?_|refine zad ?_|refine zaj ?_|refine zai ?_|refine zae ?_|refine zal ?_|refine zap ?_)|refine zab rfl rfl True.intro ?_|refine zam rfl rfl rfl rfl True.intro ?_|refine zas rfl ?_|((first |refine zac rfl ?_ ?_)<;>intro<;>try (first |(exfalso;omega)))|((first |refine zab rfl rfl ?_ ?_);focus (first |omega|exact le_ rfl|((repeat' refine And.intro ?_ ?_)<;>omega)))|refine zaw rfl ?_|fail)
        all_goals rfl
      | true =>
        rw [hnat, hq] at hv
        replace hv : Ctr Tryz.prog 69 [.s (ks.getD (i : Int).toNat [])] (.b true) := by rw [hnat]; exact hv
        repeat' (first |refine zjE zaY Tryz.underlying9 rfl rfl rfl rfl hg rfl ?_|refine zaM (f := 69) rfl rfl rfl rfl Tryz.call69 rfl hv ?_|refine zgl zaY Tryz.underlying9 rfl rfl rfl rfl rfl ?_|with_reducible (first |refine zag ?_|refine zaa ?_|refine zaf ?_|refine zad ?_|refine zai ?_|refine zae ?_|refine zaq ?_)|refine zab rfl rfl True.intro ?_|refine zam rfl rfl rfl rfl True.intro ?_|refine zak rfl ?_|((first |refine zac rfl ?_ ?_)<;>intro<;>try (first |(exfalso;omega)))|((first |refine zab rfl rfl ?_ ?_);focus (first |omega|exact le_ rfl|((repeat' refine And.intro ?_ ?_)<;>omega)))|fail)
        all_goals exact ⟨i + 1, ⟨by omega, fun j hj => by
          by_cases ej : j = i
          · subst ej; exact ⟨hm, hq⟩
          · exact g2 j (by omega)⟩, by omega, ⟨rfl, rfl, rfl, rfl, congrArg (D.i .i64) (by omega), trivial⟩, ⟨congrArg (fun e => some (Own.mp e)) (by rw [ht]; rw [hnat] at hp ⊢; exact hp), rfl, trivial⟩, okMV rfl, by rw [hX]; simp⟩
  · rw [zml (fun j hj => g2 j (by omega)), Bool.true_and]
    repeat' (first |with_reducible (first |refine zag ?_|refine zaa ?_|refine zaf ?_|refine zad ?_|refine zaj ?_|refine zaz ?_|refine zaA ?_)|refine zab rfl rfl True.intro ?_|((first |refine zac rfl ?_ ?_)<;>intro<;>try (first |(exfalso;omega)))|((first |refine zab rfl rfl ?_ ?_);focus (first |exact le_ rfl|((repeat' refine And.intro ?_ ?_)<;>omega)))|refine zaJ rfl ?_|refine zaw rfl ?_|fail)
    all_goals first | rfl | exact congrArg D.b (decide_eq_decide.2 (by omega))
def badI (p : J → Bool) (l : List J) : Int := if l.all p = true then -1 else (l.findIdx fun x => !p x : Nat)
theorem zoW {p : J → Bool} {l : List J} {i : Nat} (h : i < l.length) (h1 : ∀ j, j < i → p (l.getD j j0) = true) (h2 : p (l.getD i j0) = false) : badI p l = i := by
  have e : ∀ j (hj : j < l.length), l.getD j j0 = l[j] := fun j hj => by simp [List.getD_eq_getElem?_getD, hj]
  have ha : ¬ l.all p = true := fun q => by
    have := List.all_eq_true.1 q l[i] (List.getElem_mem h)
    rw [← e i h, h2] at this
    cases this
  have hf : l.findIdx (fun x => !p x) = i := (List.findIdx_eq h).2 ⟨by rw [← e i h, h2]; rfl, fun j hj => by rw [← e j (by omega), h1 j hj]; rfl⟩
  unfold badI
  rw [if_neg ha, hf]
theorem zmT {p : J → Bool} {l : List J} (h1 : ∀ j, j < l.length → p (l.getD j j0) = true) : badI p l = -1 := by
  unfold badI
  rw [if_pos]
  rw [List.all_eq_true]
  intro x hx
  obtain ⟨i, hi, rfl⟩ := List.mem_iff_getElem.1 hx
  have := h1 i hi
  rwa [show l.getD i j0 = l[i] by simp [List.getD_eq_getElem?_getD, hi]] at this
theorem zru (p : J → Bool) (l : List J) : (0 ≤ badI p l ↔ l.all p = false) := by
  unfold badI
  cases l.all p with
  | true => simp
  | false => simp
set_option maxRecDepth 100000 in
set_option maxHeartbeats 1000000 in
theorem zgh (g : FuncId) (c : D) (p : J → Bool) (l : List J) (hl : l.length ≤ 4194304) (hP : ∀ vs w, (callFunc g vs).run Tryz.prog w = .ok (.enter g vs) w) (hc : ∀ i, i < l.length → Ctr Tryz.prog g [.ag (jP (l.getD i j0)), .rf [c] 0] (.b (!p (l.getD i j0)))) :
    Ctr Tryz.prog 151 [.sl 8 l.length (jG l), .fn g [.rf [c] 0]] (.i .i64 (badI p l)) := by
  refine zay Tryz.func151 rfl Tryz.ntmps151 Tryz.results151 rfl rfl fun X hL hX => ?_
  repeat' (first |with_reducible (first |refine zag ?_|refine zaa ?_|refine zaf ?_|refine zad ?_|refine zae ?_)|refine zab rfl rfl True.intro ?_|fail)
  refine T.loop hL (fun i : Nat => [(0, .sl 8 l.length (jG l)), (1, .fn g [.rf [c] 0]), (7, .i .i64 l.length), (8, .i .i64 i)]) (fun _ => [])
    (fun i => i ≤ l.length ∧ ∀ j, j < i → p (l.getD j j0) = true) (fun i => l.length - i) 0 ⟨Nat.zero_le _, fun j h => absurd h (Nat.not_lt_zero _)⟩
    ⟨⟨rfl, rfl, rfl, rfl, trivial⟩, trivial, rfl, by rw [hX]; simp⟩ ?_
  rintro i ⟨g1, g2⟩
  have hnat : (i : Int).toNat = i := Int.toNat_natCast i
  by_cases hil : i < l.length
  · have h1 := hc i hil
    cases hs : p (l.getD i j0) with
    | true =>
      rw [hs] at h1
      replace h1 : Ctr Tryz.prog g [.ag (jP (l.getD (i : Int).toNat j0)), .rf [c] 0] (.b false) := by rw [hnat]; exact h1
      repeat' (first |refine zah rfl rfl hP rfl h1 ?_|with_reducible (first |refine zag ?_|refine zaa ?_|refine zaf ?_|refine zad ?_|refine zai ?_|refine zae ?_|refine zaq ?_)|refine zab rfl rfl True.intro ?_|refine zak rfl ?_|((first |refine zac rfl ?_ ?_)<;>intro<;>try (first |(exfalso;omega)))|((first |refine zab rfl rfl ?_ ?_);focus (first |omega|exact le_ rfl|((repeat' refine And.intro ?_ ?_)<;>omega)))|fail)
      all_goals exact ⟨i + 1, ⟨by omega, fun j hj => by
        by_cases ej : j = i
        · subst ej; exact hs
        · exact g2 j (by omega)⟩, by omega, ⟨rfl, rfl, rfl, congrArg (D.i .i64) (by omega), trivial⟩, trivial, rfl, by rw [hX]; simp⟩
    | false =>
      rw [hs] at h1
      replace h1 : Ctr Tryz.prog g [.ag (jP (l.getD (i : Int).toNat j0)), .rf [c] 0] (.b true) := by rw [hnat]; exact h1
      rw [zoW hil g2 hs]
      repeat' (first |refine zah rfl rfl hP rfl h1 ?_|with_reducible (first |refine zag ?_|refine zaa ?_|refine zaf ?_|refine zad ?_|refine zaj ?_|refine zai ?_|refine zae ?_|refine zal ?_|refine zap ?_)|refine zab rfl rfl True.intro ?_|refine zas rfl ?_|((first |refine zac rfl ?_ ?_)<;>intro<;>try (first |(exfalso;omega)))|((first |refine zab rfl rfl ?_ ?_);focus (first |omega|exact le_ rfl|((repeat' refine And.intro ?_ ?_)<;>omega)))|refine zaw rfl ?_|fail)
      all_goals rfl
  · rw [zmT (fun j hj => g2 j (by omega))]
    repeat' (first |with_reducible (first |refine zag ?_|refine zaa ?_|refine zaf ?_|refine zad ?_|refine zaj ?_|refine zaz ?_|refine zaA ?_)|refine zab rfl rfl True.intro ?_|((first |refine zac rfl ?_ ?_)<;>intro<;>try (first |(exfalso;omega)))|refine zaJ rfl ?_|refine zaw rfl ?_|fail)
    all_goals rfl
set_option maxRecDepth 100000 in
set_option maxHeartbeats 1000000 in
theorem zhl (g : FuncId) (c : D) (p : J → Bool) (l : List J) (hl : l.length ≤ 4194304) (hP : ∀ vs w, (callFunc g vs).run Tryz.prog w = .ok (.enter g vs) w) (hc : ∀ i, i < l.length → Ctr Tryz.prog g [.ag (jP (l.getD i j0)), .rf [c] 0] (.b (!p (l.getD i j0)))) :
    Ctr Tryz.prog 123 [.sl 8 l.length (jG l), .fn g [.rf [c] 0]] (.b (!l.all p)) := by
  have h1 := zgh g c p l hl hP hc
  have h2 := zru p l
  have h3 : (!l.all p) = decide (0 ≤ badI p l) := by
    cases h : l.all p with
    | true => rw [decide_eq_false (by rw [h2, h]; exact Bool.noConfusion)]; rfl
    | false => rw [decide_eq_true (h2.2 h)]; rfl
  rw [h3]
  generalize badI p l = v at *
  refine zay Tryz.func123 rfl Tryz.ntmps123 Tryz.results123 rfl rfl fun X hL hX => ?_
  repeat' (first |refine zah (f := 151) rfl rfl Tryz.call151 rfl h1 ?_|with_reducible (first |refine zag ?_|refine zaa ?_|refine zaf ?_|refine zad ?_|refine zaj ?_)|refine zab rfl rfl True.intro ?_|refine zaw rfl ?_|fail)
  all_goals rfl
set_option maxRecDepth 100000 in
set_option maxHeartbeats 4000000 in
theorem zlu : ∀ (dp : Nat) (x : J), dp ≤ 64 → jb x ≤ 4194304 → Ctr Tryz.prog 96 [.ag (jP x), .i .i64 dp] (.b (rightJ dp x)) := by
  intro dp
  induction dp with
  | zero =>
    intro x hd hb
    refine Ctr.weak2 ?_ (zme x) (.refl _)
    obtain ⟨k, b, g, d, e, t, l, ks⟩ := x
    show Ctr Tryz.prog 96 [.ag [.i .i64 k, .b b, .b g, .s d, .i .i64 e, .s t, .sl 8 l.length (jG l), .sl 1 ks.length (txF ks)], .i .i64 0] (.b false)
    refine zay Tryz.func96 rfl Tryz.ntmps96 Tryz.results96 rfl rfl fun X hL hX => ?_
    repeat' (first |with_reducible (first |refine zag ?_|refine zaa ?_|refine zaf ?_|refine zad ?_|refine zaj ?_|refine zal ?_)|refine zab rfl rfl True.intro ?_|refine zas rfl ?_|((first |refine zab rfl rfl ?_ ?_|refine zao rfl rfl ?_ ?_);focus (first |exact le_ rfl|((repeat' refine And.intro ?_ ?_)<;>omega)|((repeat' refine And.intro ?_ ?_)<;>first |rfl)))|refine zaw rfl ?_|fail)
    all_goals rfl
  | succ dp ih =>
    intro x hd hb
    have c0 := zha x hb
    refine Ctr.weak2 ?_ (zme x) (.refl _)
    have he := zqN x
    have hl : x.list.length ≤ 4194304 := by
      have := zrO x
      have := zbZ x.list
      have := zeq x
      omega
    have hc : ∀ i, i < x.list.length → Ctr Tryz.prog 96 [.ag (jP (x.list.getD i j0)), .i .i64 dp] (.b (rightJ dp (x.list.getD i j0))) := fun i hi => ih _ (by omega) (by have := znD hi; omega)
    clear ih
    obtain ⟨k, b, g, d, e, t, l, ks⟩ := x
    replace he : jb (.mk k b g d e t l ks) = 1 + d.length + t.length + jbL l + txL ks := he
    replace hl : l.length ≤ 4194304 := hl
    replace hc : ∀ i, i < l.length → Ctr Tryz.prog 96 [.ag (jP (l.getD i j0)), .i .i64 dp] (.b (rightJ dp (l.getD i j0))) := hc
    have hd1 : ((dp + 1 : Nat) : Int) - 1 = dp := by omega
    have hc2 : ∀ i, i < l.length → Ctr Tryz.prog 124 [.ag (jP (l.getD i j0)), .rf [.i .i64 (dp + 1 : Nat)] 0] (.b (!rightJ dp (l.getD i j0))) := fun i hi => by
      have c := hc i hi
      rw [← hd1] at c
      refine zay Tryz.func124 rfl Tryz.ntmps124 Tryz.results124 rfl rfl fun X hL hX => ?_
      repeat' (first |refine zah (f := 96) rfl rfl Tryz.call96 rfl c ?_|with_reducible (first |refine zag ?_|refine zaa ?_|refine zaf ?_|refine zad ?_|refine zaj ?_)|refine zab rfl rfl True.intro ?_|((first |refine zab rfl rfl ?_ ?_|refine zao rfl rfl ?_ ?_);focus (first |omega|exact le_ rfl|((repeat' refine And.intro ?_ ?_)<;>omega)|((repeat' refine And.intro ?_ ?_)<;>first |rfl)))|refine zaw rfl ?_|fail)
      all_goals rfl
    have c3 := zhl 124 (.i .i64 (dp + 1 : Nat)) (rightJ dp) l hl Tryz.call124 hc2
    clear hc hc2
    have c1 := zcz g d e (by omega)
    have c2 := zdg t (by omega)
    replace c0 : Ctr Tryz.prog 122 [.ag [.i .i64 k, .b b, .b g, .s d, .i .i64 e, .s t, .sl 8 l.length (jG l), .sl 1 ks.length (txF ks)]] (.b (keysOk ks && decide (ks.length = l.length))) := c0
    show Ctr Tryz.prog 96 [.ag [.i .i64 k, .b b, .b g, .s d, .i .i64 e, .s t, .sl 8 l.length (jG l), .sl 1 ks.length (txF ks)], .i .i64 (dp + 1 : Nat)] (.b (if k = 0 ∨ k = 1 then true else if k = 2 then rightB g d e else if k = 3 then validL t else if k = 5 then ((keysOk ks && decide (ks.length = l.length)) && l.all (rightJ dp)) else if k = 4 then l.all (rightJ dp) else false))
    generalize l.all (rightJ dp) = ra at *
    generalize (keysOk ks && decide (ks.length = l.length)) = ka at *
    clear hb he
    by_cases a0 : k = 0
    · rw [if_pos (.inl a0)]
      refine zay Tryz.func96 rfl Tryz.ntmps96 Tryz.results96 rfl rfl fun X hL hX => ?_
      repeat' (first |with_reducible (first |refine zag ?_|refine zaa ?_|refine zaf ?_|refine zad ?_|refine zaj ?_|refine zai ?_|refine zaz ?_|refine zae ?_|refine zaA ?_|refine zal ?_|refine zap ?_)|refine zab rfl rfl True.intro ?_|refine zak rfl ?_|((first |refine zac rfl ?_ ?_)<;>intro<;>try (first |(exfalso;omega)))|((first |refine zab rfl rfl ?_ ?_|refine zao rfl rfl ?_ ?_);focus (first |exact le_ rfl|((repeat' refine And.intro ?_ ?_)<;>omega)|((repeat' refine And.intro ?_ ?_)<;>first |rfl)))|refine zaJ rfl ?_|refine zaw rfl ?_|fail)
      all_goals rfl
    by_cases a1 : k = 1
    · rw [if_pos (.inr a1)]
      refine zay Tryz.func96 rfl Tryz.ntmps96 Tryz.results96 rfl rfl fun X hL hX => ?_
      repeat' (first |with_reducible (first |refine zag ?_|refine zaa ?_|refine zaf ?_|refine zad ?_|refine zaj ?_|refine zai ?_|refine zaz ?_|refine zae ?_|refine zaA ?_|refine zal ?_|refine zap ?_)|refine zab rfl rfl True.intro ?_|refine zak rfl ?_|((first |refine zac rfl ?_ ?_)<;>intro<;>try (first |(exfalso;omega)))|((first |refine zab rfl rfl ?_ ?_|refine zao rfl rfl ?_ ?_);focus (first |exact le_ rfl|((repeat' refine And.intro ?_ ?_)<;>omega)|((repeat' refine And.intro ?_ ?_)<;>first |rfl)))|refine zaJ rfl ?_|refine zaw rfl ?_|fail)
      all_goals rfl
    rw [if_neg (fun q => q.elim a0 a1)]
    by_cases a2 : k = 2
    · rw [if_pos a2]
      refine zay Tryz.func96 rfl Tryz.ntmps96 Tryz.results96 rfl rfl fun X hL hX => ?_
      repeat' (first |refine zah (f := 113) rfl rfl Tryz.call113 rfl c1 ?_|with_reducible (first |refine zag ?_|refine zaa ?_|refine zaf ?_|refine zad ?_|refine zaj ?_|refine zai ?_|refine zaz ?_|refine zae ?_|refine zaA ?_|refine zal ?_|refine zap ?_)|refine zab rfl rfl True.intro ?_|refine zak rfl ?_|((first |refine zac rfl ?_ ?_)<;>intro<;>try (first |(exfalso;omega)))|((first |refine zab rfl rfl ?_ ?_|refine zao rfl rfl ?_ ?_);focus (first |exact le_ rfl|((repeat' refine And.intro ?_ ?_)<;>omega)|((repeat' refine And.intro ?_ ?_)<;>first |rfl)))|refine zaJ rfl ?_|refine zfU rfl ?_|refine zaw rfl ?_|fail)
      all_goals rfl
    rw [if_neg a2]
    by_cases a3 : k = 3
    · rw [if_pos a3]
      refine zay Tryz.func96 rfl Tryz.ntmps96 Tryz.results96 rfl rfl fun X hL hX => ?_
      repeat' (first |refine zah (f := 69) rfl rfl Tryz.call69 rfl c2 ?_|with_reducible (first |refine zag ?_|refine zaa ?_|refine zaf ?_|refine zad ?_|refine zaj ?_|refine zai ?_|refine zaz ?_|refine zae ?_|refine zaA ?_|refine zal ?_|refine zap ?_)|refine zab rfl rfl True.intro ?_|refine zak rfl ?_|((first |refine zac rfl ?_ ?_)<;>intro<;>try (first |(exfalso;omega)))|((first |refine zab rfl rfl ?_ ?_|refine zao rfl rfl ?_ ?_);focus (first |exact le_ rfl|((repeat' refine And.intro ?_ ?_)<;>omega)|((repeat' refine And.intro ?_ ?_)<;>first |rfl)))|refine zaJ rfl ?_|refine zfU rfl ?_|refine zaw rfl ?_|fail)
      all_goals rfl
    rw [if_neg a3]
    by_cases a5 : k = 5
    · rw [if_pos a5]
      cases ka with
      | false =>
        refine zay Tryz.func96 rfl Tryz.ntmps96 Tryz.results96 rfl rfl fun X hL hX => ?_
        repeat' (first |refine zah (f := 122) rfl rfl Tryz.call122 rfl c0 ?_|with_reducible (first |refine zag ?_|refine zaa ?_|refine zaf ?_|refine zad ?_|refine zaj ?_|refine zai ?_|refine zaz ?_|refine zae ?_|refine zaA ?_|refine zal ?_|refine zap ?_)|refine zab rfl rfl True.intro ?_|refine zas rfl ?_|refine zak rfl ?_|((first |refine zac rfl ?_ ?_)<;>intro<;>try (first |(exfalso;omega)))|((first |refine zab rfl rfl ?_ ?_|refine zao rfl rfl ?_ ?_);focus (first |exact le_ rfl|((repeat' refine And.intro ?_ ?_)<;>omega)|((repeat' refine And.intro ?_ ?_)<;>first |rfl)))|refine zaJ rfl ?_|refine zfU rfl ?_|refine zaw rfl ?_|fail)
        all_goals rfl
      | true =>
        refine zay Tryz.func96 rfl Tryz.ntmps96 Tryz.results96 rfl rfl fun X hL hX => ?_
        repeat' (first |refine zah (f := 122) rfl rfl Tryz.call122 rfl c0 ?_|refine zmG (f := 123) rfl rfl Tryz.call123 ⟨trivial, ⟨rfl, trivial⟩, trivial⟩ rfl c3 rfl ?_|with_reducible (first |refine zag ?_|refine zaa ?_|refine zaf ?_|refine zad ?_|refine zaj ?_|refine zai ?_|refine zaz ?_|refine zae ?_|refine zaq ?_|refine zaA ?_|refine zal ?_|refine zap ?_)|refine zab rfl rfl True.intro ?_|refine zak rfl ?_|((first |refine zac rfl ?_ ?_)<;>intro<;>try (first |(exfalso;omega)))|((first |refine zab rfl rfl ?_ ?_|refine zao rfl rfl ?_ ?_);focus (first |exact le_ rfl|((repeat' refine And.intro ?_ ?_)<;>omega)|((repeat' refine And.intro ?_ ?_)<;>first |rfl)))|refine zaJ rfl ?_|refine zfU rfl ?_|refine zaw rfl ?_|fail)
        all_goals exact congrArg D.b (by simp)
    rw [if_neg a5]
    by_cases a4 : k = 4
    · rw [if_pos a4]
      refine zay Tryz.func96 rfl Tryz.ntmps96 Tryz.results96 rfl rfl fun X hL hX => ?_
      repeat' (first |refine zmG (f := 123) rfl rfl Tryz.call123 ⟨trivial, ⟨rfl, trivial⟩, trivial⟩ rfl c3 rfl ?_|with_reducible (first |refine zag ?_|refine zaa ?_|refine zaf ?_|refine zad ?_|refine zaj ?_|refine zai ?_|refine zaz ?_|refine zae ?_|refine zaA ?_|refine zal ?_|refine zap ?_)|refine zab rfl rfl True.intro ?_|refine zak rfl ?_|((first |refine zac rfl ?_ ?_)<;>intro<;>try (first |(exfalso;omega)))|((first |refine zab rfl rfl ?_ ?_|refine zao rfl rfl ?_ ?_);focus (first |exact le_ rfl|((repeat' refine And.intro ?_ ?_)<;>omega)|((repeat' refine And.intro ?_ ?_)<;>first |rfl)))|refine zaJ rfl ?_|refine zfU rfl ?_|refine zaw rfl ?_|fail)
      all_goals exact congrArg D.b (by simp)
    rw [if_neg a4]
    refine zay Tryz.func96 rfl Tryz.ntmps96 Tryz.results96 rfl rfl fun X hL hX => ?_
    repeat' (first |with_reducible (first |refine zag ?_|refine zaa ?_|refine zaf ?_|refine zad ?_|refine zaj ?_|refine zai ?_|refine zaz ?_|refine zae ?_|refine zaA ?_)|refine zab rfl rfl True.intro ?_|refine zak rfl ?_|((first |refine zac rfl ?_ ?_)<;>intro<;>try (first |(exfalso;omega)))|((first |refine zab rfl rfl ?_ ?_|refine zao rfl rfl ?_ ?_);focus (first |exact le_ rfl|((repeat' refine And.intro ?_ ?_)<;>omega)|((repeat' refine And.intro ?_ ?_)<;>first |rfl)))|refine zaJ rfl ?_|refine zfU rfl ?_|refine zaw rfl ?_|fail)
    all_goals rfl
theorem zjP (x : J) (hb : jb x ≤ 4194304) : Ctr Tryz.prog 65 [.ag (jP x)] (.b (rightJ 64 x)) := by
  have c1 := zlu 64 x (by decide) hb
  generalize rightJ 64 x = v at *
  replace c1 : Ctr Tryz.prog 96 [.ag (jP x), .i .i64 64] (.b v) := c1
  refine zay Tryz.func65 rfl Tryz.ntmps65 Tryz.results65 rfl rfl fun X hL hX => ?_
  repeat' (first |refine zah (f := 96) rfl rfl Tryz.call96 rfl c1 ?_|with_reducible (first |refine zag ?_|refine zaa ?_|refine zaf ?_|refine zad ?_|refine zaj ?_)|refine zab rfl rfl True.intro ?_|((first |refine zab rfl rfl ?_ ?_|refine zao rfl rfl ?_ ?_);focus (first |exact le_ rfl|((repeat' refine And.intro ?_ ?_)<;>omega)|((repeat' refine And.intro ?_ ?_)<;>first |rfl)))|refine zaw rfl ?_|fail)
  all_goals rfl

def layN (p : Fld) : Txt := p.1
theorem okMBS {fr : Fr} {cs : List D} {ks : List Txt} (h : okAll [7, 1] fr [(1, .var cs)] = true) : okAll [7, 1] fr [(7, .mp (mapB ks)), (1, .var cs)] = true := by
  unfold okAll at h ⊢
  rw [List.all_cons, okMB]
  exact h
set_option maxRecDepth 100000 in
set_option maxHeartbeats 16000000 in
theorem znR (s : SrcR) (hs : fitS s) (hb : bigS s) : Ctr Tryz.prog 38 [.ag (srcP s)] (.b (decide (okSrc s))) := by
  have c1 := zlL s hs
  have c2 := zmo (textsS s) (by have := zlo s; obtain ⟨s1, s2, s3⟩ := hs; omega) (fun i => Nat.le_trans (zly hb i) (by decide))
  have c3 := zna s (zhR hs)
  obtain ⟨s1, s2, s3⟩ := hs
  refine zay Tryz.func38 rfl Tryz.ntmps38 Tryz.results38 rfl rfl fun X hL hX => ?_
  repeat' (first |refine zmZ rfl rfl ?_|with_reducible (first |refine zag ?_|refine zaa ?_|refine zaf ?_|refine zad ?_|refine zae ?_)|refine zab rfl rfl True.intro ?_|((first |refine zab rfl rfl ?_ ?_|refine zao rfl rfl ?_ ?_);focus (first |exact le_ rfl|((repeat' refine And.intro ?_ ?_)<;>omega)|((repeat' refine And.intro ?_ ?_)<;>first |rfl)))|fail)
  refine T.loop hL (fun i : Nat => [(1, .pv 1 0), (3, .mh 7), (9, .sl 2 s.lays.length (fldF s.lays)), (10, .i .i64 s.lays.length), (11, .i .i64 i)]) (fun i => [(7, .mp (mapB ((s.lays.map layN).take i))), (1, .var (srcP s))])
    (fun i => i ≤ s.lays.length ∧ ∀ j, j < i → ∀ k, k < j → ¬ (s.lays.getD k ([], [])).1 = (s.lays.getD j ([], [])).1) (fun i => s.lays.length - i) 0 ⟨Nat.zero_le _, fun j h => absurd h (Nat.not_lt_zero _)⟩
    ⟨⟨rfl, rfl, rfl, rfl, rfl, trivial⟩, ⟨rfl, rfl, trivial⟩, okMBS rfl, by rw [hX]; simp⟩ ?_
  rintro i ⟨g1, g2⟩
  try dsimp only at g1 g2 ⊢
  have hnat : (i : Int).toNat = i := Int.toNat_natCast i
  by_cases hil : i < s.lays.length
  rotate_left
  · have hil' : ¬ (i : Int) < s.lays.length := by omega
    have hdis : disS s := fun j hj k hk => g2 j (by omega) k hk
    have hd : decide (okSrc s) = decide (¬ s.arch = [] ∧ (textsS s).all validL = true ∧ (¬ s.csv = [] ∨ noneJ s)) := decide_eq_decide.2 ⟨fun h => ((zge s).1 h).2, fun h => (zge s).2 ⟨hdis, h⟩⟩
    rw [hd]
    clear hd hdis g2
    generalize textsS s = tl at *
    cases hv : tl.all validL with
    | false =>
      rw [hv] at c2
      repeat' (first |refine zaM (f := 71) rfl rfl rfl rfl Tryz.call71 rfl c1 ?_|refine zaM (f := 70) rfl rfl rfl rfl Tryz.call70 rfl c2 ?_|with_reducible (first |refine zag ?_|refine zaa ?_|refine zaf ?_|refine zad ?_|refine zaj ?_|refine zaz ?_|refine zaA ?_)|refine zab rfl rfl True.intro ?_|refine zau rfl rfl rfl ?_|refine zce rfl rfl rfl ?_|refine zam rfl rfl rfl rfl True.intro ?_|((first |refine zac rfl ?_ ?_|refine zaF rfl rfl ?_ ?_)<;>intro<;>try (first |contradiction))|((first |refine zab rfl rfl ?_ ?_|refine zam rfl rfl rfl rfl ?_ ?_);focus (first |exact le_ rfl|((repeat' refine And.intro ?_ ?_)<;>omega)))|refine zaJ rfl ?_|refine zaw rfl ?_|fail)
      all_goals (refine congrArg D.b ?_; clear c1 c2 c3 hL hX X; first | (simp_all; done) | trace_state)
    | true =>
      rw [hv] at c2
      repeat' (first |refine zaM (f := 71) rfl rfl rfl rfl Tryz.call71 rfl c1 ?_|refine zaM (f := 70) rfl rfl rfl rfl Tryz.call70 rfl c2 ?_|refine zaM (f := 72) rfl rfl rfl rfl Tryz.call72 rfl c3 ?_|with_reducible (first |refine zag ?_|refine zaa ?_|refine zaf ?_|refine zad ?_|refine zaj ?_|refine zaz ?_|refine zaA ?_)|refine zab rfl rfl True.intro ?_|refine zau rfl rfl rfl ?_|refine zce rfl rfl rfl ?_|refine zam rfl rfl rfl rfl True.intro ?_|((first |refine zac rfl ?_ ?_|refine zaF rfl rfl ?_ ?_)<;>intro<;>try (first |contradiction))|((first |refine zab rfl rfl ?_ ?_|refine zam rfl rfl rfl rfl ?_ ?_);focus (first |exact le_ rfl|((repeat' refine And.intro ?_ ?_)<;>omega)))|refine zaJ rfl ?_|refine zaw rfl ?_|fail)
      all_goals (refine congrArg D.b ?_; clear c1 c2 c3 hL hX X; first | (simp_all; done) | trace_state)
  clear c1 c2 c3
  have hil' : (i : Int) < s.lays.length := by omega
  by_cases hm : layN (s.lays.getD i ([], [])) ∈ (s.lays.map layN).take i
  · have hno : ¬ okSrc s := fun h => by
      obtain ⟨k, hk, e⟩ := (zhB (f := layN) (d := ([], [])) hil).1 hm
      exact ((zge s).1 h).1 i hil k hk e
    rw [decide_eq_false hno]
    have hg : mget (s.lays.getD (i : Int).toNat ([], [])).1 (mapB ((s.lays.map layN).take i)) = some (.b true) := zej (by rw [hnat]; exact hm)
    clear g2 hno hm
    repeat' (first |refine zqx zaY Tryz.underlying9 rfl rfl rfl hg rfl ?_|with_reducible (first |refine zag ?_|refine zaa ?_|refine zaf ?_|refine zad ?_|refine zaj ?_|refine zai ?_|refine zae ?_|refine zal ?_|refine zap ?_)|refine zab rfl rfl True.intro ?_|refine zas rfl ?_|((first |refine zac rfl ?_ ?_)<;>intro<;>try (first |contradiction))|((first |refine zab rfl rfl ?_ ?_|refine zao rfl rfl ?_ ?_|refine zar rfl ?_ ?_);focus (first |omega|exact le_ rfl|((repeat' refine And.intro ?_ ?_)<;>omega)|((repeat' refine And.intro ?_ ?_)<;>first |rfl|exact Nat.le_refl _)))|refine zaw rfl ?_|fail)
    all_goals rfl
  · have hg : mget (s.lays.getD (i : Int).toNat ([], [])).1 (mapB ((s.lays.map layN).take i)) = none := zdA (by rw [hnat]; exact hm)
    have hp := zen (k := (s.lays.getD (i : Int).toNat ([], [])).1) (ks := (s.lays.map layN).take i) (by rw [hnat]; exact hm)
    have ht := zhO (f := layN) (d := ([], [])) hil
    have g3 : ∀ j, j < i + 1 → ∀ k, k < j → ¬ (s.lays.getD k ([], [])).1 = (s.lays.getD j ([], [])).1 := fun j hj => by
      by_cases e : j = i
      · subst e
        exact (zko (f := layN) (d := ([], [])) hil).1 hm
      · exact g2 j (by omega)
    rw [← hnat] at ht
    rw [hnat] at ht
    clear g2 hm
    repeat' (first |refine zjE zaY Tryz.underlying9 rfl rfl rfl rfl hg rfl ?_|refine zgl zaY Tryz.underlying9 rfl rfl rfl rfl rfl ?_|with_reducible (first |refine zag ?_|refine zaa ?_|refine zaf ?_|refine zad ?_|refine zai ?_|refine zae ?_|refine zaq ?_)|refine zab rfl rfl True.intro ?_|refine zak rfl ?_|((first |refine zac rfl ?_ ?_)<;>intro<;>try (first |contradiction))|((first |refine zab rfl rfl ?_ ?_|refine zao rfl rfl ?_ ?_|refine zar rfl ?_ ?_);focus (first |omega|exact le_ rfl|((repeat' refine And.intro ?_ ?_)<;>omega)|((repeat' refine And.intro ?_ ?_)<;>first |rfl|exact Nat.le_refl _)))|fail)
    all_goals exact ⟨i + 1, ⟨by omega, g3⟩, by omega, ⟨rfl, rfl, rfl, rfl, rfl, trivial⟩, ⟨congrArg (fun e => some (Own.mp e)) (by rw [ht]; rw [hnat] at hp ⊢; exact hp), rfl, trivial⟩, okMBS rfl, by rw [hX]; simp⟩
end Go.Proofs.YtcajofhafpkbdaaGreatDoor.Flow
