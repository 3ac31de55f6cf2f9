/- The texts J12, J15, J8, J16, J17, J22, J25, G14, one behind the other. -/
import Derived.Test.YtcajofhafpkbdaaGreatDoorCT10
import Derived.Test.YtcajofhafpkbdaaGreatDoorCT11
import Derived.Test.YtcajofhafpkbdaaGreatDoorCT15
import Derived.Test.YtcajofhafpkbdaaGreatDoorCT18
import Derived.Test.YtcajofhafpkbdaaGreatDoorCT19
namespace Go.Proofs.YtcajofhafpkbdaaGreatDoor.Flow
open Go
namespace J
def kind : J → Int | mk k _ _ _ _ _ _ _ => k
def yes : J → Bool | mk _ y _ _ _ _ _ _ => y
def neg : J → Bool | mk _ _ n _ _ _ _ _ => n
def dig : J → List UInt8 | mk _ _ _ d _ _ _ _ => d
def exp : J → Int | mk _ _ _ _ e _ _ _ => e
def text : J → List UInt8 | mk _ _ _ _ _ t _ _ => t
def list : J → List J | mk _ _ _ _ _ _ l _ => l
def keys : J → List (List UInt8) | mk _ _ _ _ _ _ _ ks => ks
end J
def jP (x : J) : List D := [.i .i64 x.kind, .b x.yes, .b x.neg, .s x.dig, .i .i64 x.exp, .s x.text, .sl 8 x.list.length (jF x.list), .sl 1 x.keys.length (txF x.keys)]
theorem zlu (x : J) : jC x = jP x := by
  cases x
  rw [zdT]
  rfl
def jG (l : List J) : Nat → List D := fun i => jP (l.getD i j0)
theorem jF_G (l : List J) : Weak (.sl 8 l.length (jF l)) (.sl 8 l.length (jG l)) := .sl _ _ _ _ (fun i hi => by
    rw [zsd hi, zlu]
    exact ⟨rfl, rfl⟩) fun i j hi hj => by
    rw [zsd hi, zlu]
    exact .refl _
def jQ (x : J) : List D := [.i .i64 x.kind, .b x.yes, .b x.neg, .s x.dig, .i .i64 x.exp, .s x.text, .sl 8 x.list.length (jG x.list), .sl 1 x.keys.length (txF x.keys)]
theorem zrE (x : J) : Weak (.ag (jP x)) (.ag (jQ x)) := .ag _ _ rfl fun j hj => match j, hj with
  | 0, _ => .refl _
  | 1, _ => .refl _
  | 2, _ => .refl _
  | 3, _ => .refl _
  | 4, _ => .refl _
  | 5, _ => .refl _
  | 6, _ => jF_G _
  | 7, _ => .refl _
mutual
def sameJ : J → J → Bool
  | .mk k y n d e t l ks, .mk k' y' n' d' e' t' l' ks' => if k ≠ k' then false else if k = 1 then y == y' else if k = 2 then (n == n' && (d == d' && (e == e' && true))) else if k = 3 then t == t'
    else if k ≠ 4 ∧ k ≠ 5 then true else if l.length ≠ l'.length ∨ k = 5 ∧ ks.length ≠ ks'.length then false else if k = 5 ∧ ks ≠ ks' then false else sameL l l'
def sameL : List J → List J → Bool
  | [], _ => true
  | _ :: _, [] => false
  | x :: r, y :: r' => sameJ x y && sameL r r'
end
theorem zjE : ∀ {l l' : List J} {i : Nat}, i < l.length → sameJ (l.getD i j0) (l'.getD i j0) = false → l.length = l'.length → sameL l l' = false
  | [], _, _, h, _, _ => by simp at h
  | _ :: _, [], _, _, _, h => by simp at h
  | x :: r, y :: r', 0, _, h2, _ => by
    rw [sameL]
    have h2 : sameJ x y = false := h2
    rw [h2]
    rfl
  | x :: r, y :: r', i + 1, h, h2, h3 => by
    rw [sameL, zjE (l := r) (l' := r') (i := i) (by simpa using h) (by simpa using h2) (by simpa using h3), Bool.and_false]
mutual
theorem zmF : ∀ x : J, sameJ x x = true
  | .mk k y n d e t l ks => by
    rw [sameJ]
    have hl := zhi l
    simp [hl]
theorem zhi : ∀ l : List J, sameL l l = true
  | [] => by rw [sameL]
  | x :: r => by rw [sameL, zmF x, zhi r]; rfl
end
mutual
def jw : J → Nat
  | .mk _ _ _ _ _ _ l ks => 1 + jwL l + ks.length
def jwL : List J → Nat
  | [] => 0
  | x :: r => jw x + jwL r
end
theorem zgJ (x : J) : jw x = 1 + jwL x.list + x.keys.length := by
  cases x
  rw [jw]
  rfl
theorem ztO (x : J) : 1 ≤ jw x := by
  rw [zgJ]
  omega
theorem zcH : ∀ l : List J, l.length ≤ jwL l
  | [] => Nat.zero_le _
  | x :: r => by
    have := zcH r
    have := ztO x
    rw [jwL, List.length_cons]
    omega
theorem zof : ∀ {l : List J} {i : Nat}, i < l.length → jw (l.getD i j0) ≤ jwL l
  | [], _, h => by simp at h
  | x :: r, 0, _ => by
    rw [jwL]
    exact Nat.le_add_right _ _
  | x :: r, i + 1, h => by
    have := zof (l := r) (i := i) (by simpa using h)
    rw [jwL]
    have e : (x :: r).getD (i + 1) j0 = r.getD i j0 := by simp
    rw [e]
    omega
theorem znL : ∀ (l : List J) (x : J), jwL (l ++ [x]) = jwL l + jw x
  | [], x => by
    show jw x + 0 = 0 + jw x
    omega
  | y :: r, x => by
    rw [List.cons_append, jwL, jwL, znL r x]
    omega

theorem Ctr.weakS {P : Program} {f : FuncId} {args : List D} {d d' : D} (h : Ctr P f args d) (hw : Weak d d') : Ctr P f args d' := by
  intro w S vs hv hg hn hr
  refine (h w S vs hv hg hn hr).mono ?_
  rintro e w' ⟨v, S', h1, h2, h3⟩
  exact ⟨v, S', h1, h2.weak hw, h3⟩
def getJ (x : J) (k : List UInt8) : J × Bool := if x.kind = 5 ∧ 0 ≤ idxJ k x.keys ∧ idxJ k x.keys < x.list.length then (x.list.getD (idxJ k x.keys).toNat j0, true) else (j0, false)
def getD (r : J × Bool) : D := .tu [.ag (jP r.1), .b r.2]
theorem zik : Weak (.tu [.ag j0C, .b false]) (getD (j0, false)) := by
  unfold getD
  refine .tu2 ?_ (.refl _)
  rw [← zlu]
  exact zdQ 0 false
set_option maxRecDepth 100000 in
set_option maxHeartbeats 1000000 in
theorem zqG (x : J) (k : List UInt8) (hw : jw x ≤ 4194304) : Ctr Tryz.prog 84 [.ag (jP x), .s k] (getD (getJ x k)) := by
  refine Ctr.weak2 ?_ (zrE x) (.refl _)
  have hx := zgJ x
  have hl := zcH x.list
  have c1 := zhf x.keys k (by omega)
  have hm := @zhH k x.keys
  obtain ⟨kd, b, g, d, e, t, l, ks⟩ := x
  replace hx : jw (.mk kd b g d e t l ks) = 1 + jwL l + ks.length := hx
  replace hl : l.length ≤ jwL l := hl
  replace c1 : Ctr Tryz.prog 115 [.sl 1 ks.length (txF ks), .s k] (.i .i64 (idxJ k ks)) := c1
  replace hm : (0 ≤ idxJ k ks ↔ k ∈ ks) ∧ -1 ≤ idxJ k ks ∧ idxJ k ks < ks.length := hm
  show Ctr Tryz.prog 84 [.ag [.i .i64 kd, .b b, .b g, .s d, .i .i64 e, .s t, .sl 8 l.length (jG l), .sl 1 ks.length (txF ks)], .s k] (getD (if kd = 5 ∧ 0 ≤ idxJ k ks ∧ idxJ k ks < l.length then (l.getD (idxJ k ks).toNat j0, true) else (j0, false)))
  replace hm := hm.2
  generalize idxJ k ks = ix at *
  by_cases a0 : kd = 5
  rotate_left
  · rw [if_neg (fun q => a0 q.1)]
    refine zaE Tryz.func84 rfl Tryz.ntmps84 Tryz.results84 rfl rfl fun X hL hX => ?_
    repeat' (first |with_reducible (first |refine zag ?_|refine zaa ?_|refine zaf ?_|refine zad ?_|refine zaj ?_|refine zam ?_)|refine zab rfl rfl True.intro ?_|((first |refine zaC rfl ?_ ?_)<;>intro<;>try (first |(exfalso;omega)))|((first |refine zab rfl rfl ?_ ?_|refine zao rfl rfl ?_ ?_|refine zaw rfl ?_ ?_);focus (first |exact le_ rfl|((repeat' refine And.intro ?_ ?_)<;>omega)|((repeat' refine And.intro ?_ ?_)<;>first |rfl|exact Nat.le_refl _)))|refine zbp rfl ?_|fail)
    all_goals exact zik
  by_cases a1 : 0 ≤ ix
  rotate_left
  · rw [if_neg (fun q => a1 q.2.1)]
    refine zaE Tryz.func84 rfl Tryz.ntmps84 Tryz.results84 rfl rfl fun X hL hX => ?_
    repeat' (first |refine zai (f := 115) rfl rfl Tryz.call115 rfl c1 ?_|with_reducible (first |refine zag ?_|refine zaa ?_|refine zaf ?_|refine zad ?_|refine zaj ?_|refine zah ?_|refine zam ?_)|refine zab rfl rfl True.intro ?_|refine zat rfl rfl rfl ?_|refine zav rfl ?_|((first |refine zaC rfl ?_ ?_|refine zan rfl rfl ?_ ?_)<;>intro<;>try (first |(exfalso;omega)))|((first |refine zab rfl rfl ?_ ?_|refine zao rfl rfl ?_ ?_|refine zaw rfl ?_ ?_);focus (first |exact le_ rfl|((repeat' refine And.intro ?_ ?_)<;>omega)|((repeat' refine And.intro ?_ ?_)<;>first |rfl|exact Nat.le_refl _)))|refine zbp rfl ?_|fail)
    all_goals exact zik
  by_cases a2 : ix < l.length
  rotate_left
  · rw [if_neg (fun q => a2 q.2.2)]
    refine zaE Tryz.func84 rfl Tryz.ntmps84 Tryz.results84 rfl rfl fun X hL hX => ?_
    repeat' (first |refine zai (f := 115) rfl rfl Tryz.call115 rfl c1 ?_|with_reducible (first |refine zag ?_|refine zaa ?_|refine zaf ?_|refine zad ?_|refine zaj ?_|refine zah ?_|refine zam ?_)|refine zab rfl rfl True.intro ?_|refine zak rfl rfl rfl rfl True.intro ?_|((first |refine zac rfl ?_ ?_|refine zaC rfl ?_ ?_|refine zan rfl rfl ?_ ?_)<;>intro<;>try (first |(exfalso;omega)))|((first |refine zab rfl rfl ?_ ?_|refine zak rfl rfl rfl rfl ?_ ?_|refine zao rfl rfl ?_ ?_|refine zaw rfl ?_ ?_);focus (first |exact le_ rfl|((repeat' refine And.intro ?_ ?_)<;>omega)|((repeat' refine And.intro ?_ ?_)<;>first |rfl|exact Nat.le_refl _)))|refine zbp rfl ?_|fail)
    all_goals exact zik
  rw [if_pos ⟨a0, a1, a2⟩]
  refine zaE Tryz.func84 rfl Tryz.ntmps84 Tryz.results84 rfl rfl fun X hL hX => ?_
  repeat' (first |refine zai (f := 115) rfl rfl Tryz.call115 rfl c1 ?_|with_reducible (first |refine zag ?_|refine zaa ?_|refine zaf ?_|refine zad ?_|refine zaj ?_|refine zah ?_)|refine zab rfl rfl True.intro ?_|refine zak rfl rfl rfl rfl True.intro ?_|((first |refine zac rfl ?_ ?_|refine zaC rfl ?_ ?_|refine zan rfl rfl ?_ ?_)<;>intro<;>try (first |(exfalso;omega)))|((first |refine zab rfl rfl ?_ ?_|refine zak rfl rfl rfl rfl ?_ ?_|refine zao rfl rfl ?_ ?_|refine zaw rfl ?_ ?_);focus (first |omega|exact le_ rfl|((repeat' refine And.intro ?_ ?_)<;>omega)|((repeat' refine And.intro ?_ ?_)<;>first |rfl|exact Nat.le_refl _)))|refine zbp rfl ?_|fail)
  all_goals exact .of_eq rfl
theorem zeL (s : List UInt8) : Ctr Tryz.prog 34 [.s s] (.ag (jP (.mk 3 false false [] 0 s [] []))) := by
  refine zaE Tryz.func34 rfl Tryz.ntmps34 Tryz.results34 rfl rfl fun X hL hX => ?_
  repeat' (first |with_reducible (first |refine zag ?_|refine zaa ?_|refine zaf ?_|refine zad ?_|refine zaj ?_)|refine zab rfl rfl True.intro ?_|((first |refine zao rfl rfl ?_ ?_|refine zaw rfl ?_ ?_);focus (first |((repeat' refine And.intro ?_ ?_)<;>omega)|((repeat' refine And.intro ?_ ?_)<;>first |rfl|exact Nat.le_refl _)))|refine zbp rfl ?_|fail)
  all_goals (rw [← zlu]; exact zcx 3 false false [] 0 s)
theorem zql (n : Bool) (d : List UInt8) (e : Int) : Ctr Tryz.prog 63 [.ag [.b n, .s d, .i .i64 e]] (.ag (jP (.mk 2 false n d e [] [] []))) := Ctr.weakS (zpE n d e) (by rw [← zlu]; exact zcx 2 false n d e [])

def txL : List (List UInt8) → Nat
  | [] => 0
  | k :: r => k.length + 1 + txL r
mutual
def jb : J → Nat
  | .mk _ _ _ d _ t l ks => 1 + d.length + t.length + jbL l + txL ks
def jbL : List J → Nat
  | [] => 0
  | x :: r => jb x + jbL r
end
theorem zsW (x : J) : jb x = 1 + x.dig.length + x.text.length + jbL x.list + txL x.keys := by
  cases x
  rw [jb]
  rfl
theorem zks : ∀ l : List (List UInt8), l.length ≤ txL l
  | [] => Nat.zero_le _
  | k :: r => by
    have := zks r
    rw [txL, List.length_cons]
    omega
theorem znu : ∀ {l : List J} {i : Nat}, i < l.length → jb (l.getD i j0) ≤ jbL l
  | [], _, h => by simp at h
  | x :: r, 0, _ => by
    rw [jbL]
    exact Nat.le_add_right _ _
  | x :: r, i + 1, h => by
    have := znu (l := r) (i := i) (by simpa using h)
    rw [jbL]
    have e : (x :: r).getD (i + 1) j0 = r.getD i j0 := by simp
    rw [e]
    omega
mutual
theorem zsA : ∀ x : J, jw x ≤ jb x
  | .mk k y n d e t l ks => by
    have := zkr l
    have := zks ks
    rw [jw, jb]
    omega
theorem zkr : ∀ l : List J, jwL l ≤ jbL l
  | [] => Nat.le_refl _
  | x :: r => by
    have := zsA x
    have := zkr r
    rw [jwL, jbL]
    omega
end

def keysOk (ks : List (List UInt8)) : Bool := decide ks.Nodup && ks.all validL
def rightJ : Nat → J → Bool
  | 0, _ => false
  | d + 1, x => if x.kind = 0 ∨ x.kind = 1 then true else if x.kind = 2 then rightB x.neg x.dig x.exp else if x.kind = 3 then validL x.text
    else if x.kind = 5 then ((keysOk x.keys && decide (x.keys.length = x.list.length)) && x.list.all (rightJ d)) else if x.kind = 4 then x.list.all (rightJ d) else false
theorem zbU (d : Nat) (k : Int) (y n : Bool) (dg : List UInt8) (e : Int) (t : List UInt8) (l : List J) (ks : List (List UInt8)) : rightJ (d + 1) (.mk k y n dg e t l ks) =
    if k = 0 ∨ k = 1 then true else if k = 2 then rightB n dg e else if k = 3 then validL t else if k = 5 then ((keysOk ks && decide (ks.length = l.length)) && l.all (rightJ d)) else if k = 4 then l.all (rightJ d) else false := rfl
theorem zmj {ks : List (List UInt8)} {i : Nat} (h : i < ks.length) (hm : ks.getD i [] ∈ ks.take i) : keysOk ks = false := by
  unfold keysOk
  rw [decide_eq_false, Bool.false_and]
  intro hn
  obtain ⟨j, hj, he⟩ := List.mem_iff_getElem.1 hm
  rw [List.length_take] at hj
  rw [List.getElem_take] at he
  have h2 := List.pairwise_iff_getElem.1 hn j i (by omega) h (by omega)
  apply h2
  rw [he]
  simp [List.getD_eq_getElem?_getD, h]
theorem zmX {ks : List (List UInt8)} {i : Nat} (h : i < ks.length) (hm : validL (ks.getD i []) = false) : keysOk ks = false := by
  unfold keysOk
  have : ks.all validL = false := by
    rw [List.all_eq_false]
    refine ⟨ks.getD i [], ?_, by rw [hm]; exact Bool.false_ne_true⟩
    rw [show ks.getD i [] = ks[i] by simp [List.getD_eq_getElem?_getD, h]]
    exact List.getElem_mem h
  rw [this, Bool.and_false]
theorem znc {ks : List (List UInt8)} (h : ∀ i, i < ks.length → ks.getD i [] ∉ ks.take i ∧ validL (ks.getD i []) = true) : keysOk ks = true := by
  unfold keysOk
  have e : ∀ i (hi : i < ks.length), ks.getD i [] = ks[i] := fun i hi => by simp [List.getD_eq_getElem?_getD, hi]
  rw [Bool.and_eq_true, decide_eq_true_eq, List.all_eq_true]
  refine ⟨List.pairwise_iff_getElem.2 fun i j hi hj hij he => ?_, fun k hk => ?_⟩
  · apply (h j hj).1
    rw [e j hj, ← he]
    exact List.mem_iff_getElem.2 ⟨i, by rw [List.length_take]; omega, by rw [List.getElem_take]⟩
  · obtain ⟨i, hi, rfl⟩ := List.mem_iff_getElem.1 hk
    have := (h i hi).2
    rwa [e i hi] at this
def mapB (ks : List (List UInt8)) : Ents := ks.map fun k => (k, .b true)
theorem zeh {k : List UInt8} : ∀ {ks : List (List UInt8)}, k ∈ ks → mget k (mapB ks) = some (.b true)
  | [], h => by cases h
  | p :: r, h => by
    show (if p = k then some (D.b true) else mget k (mapB r)) = _
    by_cases e : p = k
    · rw [if_pos e]
    · rw [if_neg e]
      exact zeh ((List.mem_cons.1 h).resolve_left fun q => e q.symm)
theorem zdL {k : List UInt8} : ∀ {ks : List (List UInt8)}, k ∉ ks → mget k (mapB ks) = none
  | [], _ => rfl
  | p :: r, h => by
    show (if p = k then some (D.b true) else mget k (mapB r)) = _
    rw [if_neg fun e => h (List.mem_cons.2 (.inl e.symm))]
    exact zdL fun q => h (List.mem_cons.2 (.inr q))
theorem zeI {k : List UInt8} : ∀ {ks : List (List UInt8)}, k ∉ ks → mput k (.b true) (mapB ks) = mapB (ks ++ [k])
  | [], _ => rfl
  | p :: r, h => by
    show (if p = k then _ else (p, D.b true) :: mput k (.b true) (mapB r)) = _
    rw [if_neg fun e => h (List.mem_cons.2 (.inl e.symm)), zeI fun q => h (List.mem_cons.2 (.inr q))]
    rfl
theorem okMB (ls : List Nat) (ks : List (List UInt8)) : (Own.mp (mapB ks)).okIn ls = true := by
  show (mapB ks).all (fun p => p.2.okIn ls) = true
  rw [List.all_eq_true]
  intro p hp
  obtain ⟨q, _, rfl⟩ := List.mem_map.1 hp
  rfl
theorem zmZ {ks : List (List UInt8)} {i : Nat} (h : i < ks.length) : ks.take (i + 1) = ks.take i ++ [ks.getD i []] := by
  rw [List.take_add_one]
  have : ks[i]? = some (ks.getD i []) := by simp [List.getD_eq_getElem?_getD, h]
  rw [this]
  rfl
theorem zoM : ∀ {ks : List (List UInt8)} {i : Nat}, (ks.getD i []).length ≤ txL ks
  | [], _ => by simp
  | k :: r, 0 => by
    rw [txL]
    show k.length ≤ _
    omega
  | k :: r, i + 1 => by
    have := zoM (ks := r) (i := i)
    rw [txL, List.getD_cons_succ]
    omega

theorem zaX : Tryz.prog.underlying 74 = some (.map 9 4) := by kernel_rfl
theorem okMV {fr : Fr} {cs : List D} {ks : List (List UInt8)} (h : okAll [6, 1] fr [(1, .var cs)] = true) : okAll [6, 1] fr [(6, .mp (mapB ks)), (1, .var cs)] = true := by
  unfold okAll at h ⊢
  rw [List.all_cons, okMB]
  exact h
set_option maxRecDepth 100000 in
set_option maxHeartbeats 1000000 in
theorem zib (x : J) (hb : jb x ≤ 4194304) : Ctr Tryz.prog 122 [.ag (jQ x)] (.b (keysOk x.keys && decide (x.keys.length = x.list.length))) := by
  have he := zsW x
  have hk := zks x.keys
  have hl : x.list.length ≤ 4194304 := by
    have := zsA x
    have := zcH x.list
    have := zgJ x
    omega
  have hka : ∀ i, (x.keys.getD i []).length ≤ 4194304 := fun i => by
    have := zoM (ks := x.keys) (i := i)
    omega
  obtain ⟨k, b, g, d, e, t, l, ks⟩ := x
  replace he : jb (.mk k b g d e t l ks) = 1 + d.length + t.length + jbL l + txL ks := he
  replace hk : ks.length ≤ txL ks := hk
  have hk : ks.length ≤ 4194304 := Nat.le_trans hk (by omega)
  replace hl : l.length ≤ 4194304 := hl
  replace hka : ∀ i, (ks.getD i []).length ≤ 4194304 := hka
  show Ctr Tryz.prog 122 [.ag [.i .i64 k, .b b, .b g, .s d, .i .i64 e, .s t, .sl 8 l.length (jG l), .sl 1 ks.length (txF ks)]] (.b (keysOk ks && decide (ks.length = l.length)))
  clear he hb
  refine zaE Tryz.func122 rfl Tryz.ntmps122 Tryz.results122 rfl rfl fun X hL hX => ?_
  repeat' (first |refine zoI rfl rfl ?_|with_reducible (first |refine zag ?_|refine zaa ?_|refine zaf ?_|refine zad ?_|refine zae ?_)|refine zab rfl rfl True.intro ?_|((first |refine zab rfl rfl ?_ ?_|refine zao rfl rfl ?_ ?_);focus (first |exact le_ rfl|((repeat' refine And.intro ?_ ?_)<;>omega)|((repeat' refine And.intro ?_ ?_)<;>first |rfl)))|fail)
  refine T.loop hL (fun i : Nat => [(1, .pv 1 0), (3, .mh 6), (8, .sl 1 ks.length (txF ks)), (9, .i .i64 ks.length), (10, .i .i64 i)]) (fun i => [(6, .mp (mapB (ks.take i))), (1, .var [.i .i64 k, .b b, .b g, .s d, .i .i64 e, .s t, .sl 8 l.length (jG l), .sl 1 ks.length (txF ks)])])
    (fun i => i ≤ ks.length ∧ ∀ j, j < i → ks.getD j [] ∉ ks.take j ∧ validL (ks.getD j []) = true) (fun i => ks.length - i) 0 ⟨Nat.zero_le _, fun j h => absurd h (Nat.not_lt_zero _)⟩
    ⟨⟨rfl, rfl, rfl, rfl, rfl, trivial⟩, ⟨rfl, rfl, trivial⟩, okMV rfl, by rw [hX]; simp⟩ ?_
  rintro i ⟨g1, g2⟩
  have hnat : (i : Int).toNat = i := Int.toNat_natCast i
  by_cases hil : i < ks.length
  · have hv := zdd (ks.getD (i : Int).toNat []) (by have := hka (i : Int).toNat; omega)
    by_cases hm : ks.getD i [] ∈ ks.take i
    · rw [zmj hil hm, Bool.false_and]
      have hg : mget (ks.getD (i : Int).toNat []) (mapB (ks.take i)) = some (.b true) := zeh (by rw [hnat]; exact hm)
      repeat' (first |refine zrG zaX Tryz.underlying9 rfl rfl rfl hg rfl ?_|with_reducible (first |refine zag ?_|refine zaa ?_|refine zaf ?_|refine zad ?_|refine zaj ?_|refine zah ?_|refine zae ?_|refine zam ?_|refine zar ?_)|refine zab rfl rfl True.intro ?_|refine zat rfl rfl rfl ?_|refine zav rfl ?_|((first |refine zac rfl ?_ ?_)<;>intro<;>try (first |(exfalso;omega)))|((first |refine zab rfl rfl ?_ ?_);focus (first |omega|exact le_ rfl|((repeat' refine And.intro ?_ ?_)<;>omega)))|refine zau rfl ?_|fail)
      all_goals rfl
    · have hg : mget (ks.getD (i : Int).toNat []) (mapB (ks.take i)) = none := zdL (by rw [hnat]; exact hm)
      have hp := zeI (k := ks.getD (i : Int).toNat []) (ks := ks.take i) (by rw [hnat]; exact hm)
      have ht := zmZ hil
      cases hq : validL (ks.getD i []) with
      | false =>
        rw [zmX hil hq, Bool.false_and]
        rw [hnat, hq] at hv
        replace hv : Ctr Tryz.prog 69 [.s (ks.getD (i : Int).toNat [])] (.b false) := by rw [hnat]; exact hv
        repeat' (first |refine zku zaX Tryz.underlying9 rfl rfl rfl rfl hg rfl ?_|refine zaK (f := 69) rfl rfl rfl rfl Tryz.call69 rfl hv ?_|with_reducible (first |refine zag ?_|refine zaa ?_|refine zaf ?_|refine zad ?_|refine zaj ?_|refine zah ?_|refine zae ?_|refine zam ?_|refine zar ?_)|refine zab rfl rfl True.intro ?_|refine zak rfl rfl rfl rfl True.intro ?_|refine zav rfl ?_|((first |refine zac rfl ?_ ?_)<;>intro<;>try (first |(exfalso;omega)))|((first |refine zab rfl rfl ?_ ?_);focus (first |omega|exact le_ rfl|((repeat' refine And.intro ?_ ?_)<;>omega)))|refine zau rfl ?_|fail)
        all_goals rfl
      | true =>
        rw [hnat, hq] at hv
        replace hv : Ctr Tryz.prog 69 [.s (ks.getD (i : Int).toNat [])] (.b true) := by rw [hnat]; exact hv
        repeat' (first |refine zku zaX Tryz.underlying9 rfl rfl rfl rfl hg rfl ?_|refine zaK (f := 69) rfl rfl rfl rfl Tryz.call69 rfl hv ?_|refine zgW zaX Tryz.underlying9 rfl rfl rfl rfl rfl ?_|with_reducible (first |refine zag ?_|refine zaa ?_|refine zaf ?_|refine zad ?_|refine zah ?_|refine zae ?_|refine zap ?_)|refine zab rfl rfl True.intro ?_|refine zak rfl rfl rfl rfl True.intro ?_|refine zal rfl ?_|((first |refine zac rfl ?_ ?_)<;>intro<;>try (first |(exfalso;omega)))|((first |refine zab rfl rfl ?_ ?_);focus (first |omega|exact le_ rfl|((repeat' refine And.intro ?_ ?_)<;>omega)))|fail)
        all_goals exact ⟨i + 1, ⟨by omega, fun j hj => by
          by_cases ej : j = i
          · subst ej; exact ⟨hm, hq⟩
          · exact g2 j (by omega)⟩, by omega, ⟨rfl, rfl, rfl, rfl, congrArg (D.i .i64) (by omega), trivial⟩, ⟨congrArg (fun e => some (Own.mp e)) (by rw [ht]; rw [hnat] at hp ⊢; exact hp), rfl, trivial⟩, okMV rfl, by rw [hX]; simp⟩
  · rw [znc (fun j hj => g2 j (by omega)), Bool.true_and]
    repeat' (first |with_reducible (first |refine zag ?_|refine zaa ?_|refine zaf ?_|refine zad ?_|refine zaj ?_|refine zaA ?_|refine zaz ?_)|refine zab rfl rfl True.intro ?_|((first |refine zac rfl ?_ ?_)<;>intro<;>try (first |(exfalso;omega)))|((first |refine zab rfl rfl ?_ ?_);focus (first |exact le_ rfl|((repeat' refine And.intro ?_ ?_)<;>omega)))|refine zaO rfl ?_|refine zau rfl ?_|fail)
    all_goals first | rfl | exact congrArg D.b (decide_eq_decide.2 (by omega))
def badI (p : J → Bool) (l : List J) : Int := if l.all p = true then -1 else (l.findIdx fun x => !p x : Nat)
theorem zpV {p : J → Bool} {l : List J} {i : Nat} (h : i < l.length) (h1 : ∀ j, j < i → p (l.getD j j0) = true) (h2 : p (l.getD i j0) = false) : badI p l = i := by
  have e : ∀ j (hj : j < l.length), l.getD j j0 = l[j] := fun j hj => by simp [List.getD_eq_getElem?_getD, hj]
  have ha : ¬ l.all p = true := fun q => by
    have := List.all_eq_true.1 q l[i] (List.getElem_mem h)
    rw [← e i h, h2] at this
    cases this
  have hf : l.findIdx (fun x => !p x) = i := (List.findIdx_eq h).2 ⟨by rw [← e i h, h2]; rfl, fun j hj => by rw [← e j (by omega), h1 j hj]; rfl⟩
  unfold badI
  rw [if_neg ha, hf]
theorem znW {p : J → Bool} {l : List J} (h1 : ∀ j, j < l.length → p (l.getD j j0) = true) : badI p l = -1 := by
  unfold badI
  rw [if_pos]
  rw [List.all_eq_true]
  intro x hx
  obtain ⟨i, hi, rfl⟩ := List.mem_iff_getElem.1 hx
  have := h1 i hi
  rwa [show l.getD i j0 = l[i] by simp [List.getD_eq_getElem?_getD, hi]] at this
theorem zsI (p : J → Bool) (l : List J) : (0 ≤ badI p l ↔ l.all p = false) := by
  unfold badI
  cases l.all p with
  | true => simp
  | false => simp
set_option maxRecDepth 100000 in
set_option maxHeartbeats 1000000 in
theorem zgK (g : FuncId) (c : D) (p : J → Bool) (l : List J) (hl : l.length ≤ 4194304) (hP : ∀ vs w, (callFunc g vs).run Tryz.prog w = .ok (.enter g vs) w) (hc : ∀ i, i < l.length → Ctr Tryz.prog g [.ag (jP (l.getD i j0)), .rf [c] 0] (.b (!p (l.getD i j0)))) :
    Ctr Tryz.prog 151 [.sl 8 l.length (jG l), .fn g [.rf [c] 0]] (.i .i64 (badI p l)) := by
  refine zaE Tryz.func151 rfl Tryz.ntmps151 Tryz.results151 rfl rfl fun X hL hX => ?_
  repeat' (first |with_reducible (first |refine zag ?_|refine zaa ?_|refine zaf ?_|refine zad ?_|refine zae ?_)|refine zab rfl rfl True.intro ?_|fail)
  refine T.loop hL (fun i : Nat => [(0, .sl 8 l.length (jG l)), (1, .fn g [.rf [c] 0]), (7, .i .i64 l.length), (8, .i .i64 i)]) (fun _ => [])
    (fun i => i ≤ l.length ∧ ∀ j, j < i → p (l.getD j j0) = true) (fun i => l.length - i) 0 ⟨Nat.zero_le _, fun j h => absurd h (Nat.not_lt_zero _)⟩
    ⟨⟨rfl, rfl, rfl, rfl, trivial⟩, trivial, rfl, by rw [hX]; simp⟩ ?_
  rintro i ⟨g1, g2⟩
  have hnat : (i : Int).toNat = i := Int.toNat_natCast i
  by_cases hil : i < l.length
  · have h1 := hc i hil
    cases hs : p (l.getD i j0) with
    | true =>
      rw [hs] at h1
      replace h1 : Ctr Tryz.prog g [.ag (jP (l.getD (i : Int).toNat j0)), .rf [c] 0] (.b false) := by rw [hnat]; exact h1
      repeat' (first |refine zai rfl rfl hP rfl h1 ?_|with_reducible (first |refine zag ?_|refine zaa ?_|refine zaf ?_|refine zad ?_|refine zah ?_|refine zae ?_|refine zap ?_)|refine zab rfl rfl True.intro ?_|refine zal rfl ?_|((first |refine zac rfl ?_ ?_)<;>intro<;>try (first |(exfalso;omega)))|((first |refine zab rfl rfl ?_ ?_);focus (first |omega|exact le_ rfl|((repeat' refine And.intro ?_ ?_)<;>omega)))|fail)
      all_goals exact ⟨i + 1, ⟨by omega, fun j hj => by
        by_cases ej : j = i
        · subst ej; exact hs
        · exact g2 j (by omega)⟩, by omega, ⟨rfl, rfl, rfl, congrArg (D.i .i64) (by omega), trivial⟩, trivial, rfl, by rw [hX]; simp⟩
    | false =>
      rw [hs] at h1
      replace h1 : Ctr Tryz.prog g [.ag (jP (l.getD (i : Int).toNat j0)), .rf [c] 0] (.b true) := by rw [hnat]; exact h1
      rw [zpV hil g2 hs]
      repeat' (first |refine zai rfl rfl hP rfl h1 ?_|with_reducible (first |refine zag ?_|refine zaa ?_|refine zaf ?_|refine zad ?_|refine zaj ?_|refine zah ?_|refine zae ?_|refine zam ?_|refine zar ?_)|refine zab rfl rfl True.intro ?_|refine zav rfl ?_|((first |refine zac rfl ?_ ?_)<;>intro<;>try (first |(exfalso;omega)))|((first |refine zab rfl rfl ?_ ?_);focus (first |omega|exact le_ rfl|((repeat' refine And.intro ?_ ?_)<;>omega)))|refine zau rfl ?_|fail)
      all_goals rfl
  · rw [znW (fun j hj => g2 j (by omega))]
    repeat' (first |with_reducible (first |refine zag ?_|refine zaa ?_|refine zaf ?_|refine zad ?_|refine zaj ?_|refine zaA ?_|refine zaz ?_)|refine zab rfl rfl True.intro ?_|((first |refine zac rfl ?_ ?_)<;>intro<;>try (first |(exfalso;omega)))|refine zaO rfl ?_|refine zau rfl ?_|fail)
    all_goals rfl
set_option maxRecDepth 100000 in
set_option maxHeartbeats 1000000 in
theorem zip (g : FuncId) (c : D) (p : J → Bool) (l : List J) (hl : l.length ≤ 4194304) (hP : ∀ vs w, (callFunc g vs).run Tryz.prog w = .ok (.enter g vs) w) (hc : ∀ i, i < l.length → Ctr Tryz.prog g [.ag (jP (l.getD i j0)), .rf [c] 0] (.b (!p (l.getD i j0)))) :
    Ctr Tryz.prog 123 [.sl 8 l.length (jG l), .fn g [.rf [c] 0]] (.b (!l.all p)) := by
  have h1 := zgK g c p l hl hP hc
  have h2 := zsI p l
  have h3 : (!l.all p) = decide (0 ≤ badI p l) := by
    cases h : l.all p with
    | true => rw [decide_eq_false (by rw [h2, h]; exact Bool.noConfusion)]; rfl
    | false => rw [decide_eq_true (h2.2 h)]; rfl
  rw [h3]
  generalize badI p l = v at *
  refine zaE Tryz.func123 rfl Tryz.ntmps123 Tryz.results123 rfl rfl fun X hL hX => ?_
  repeat' (first |refine zai (f := 151) rfl rfl Tryz.call151 rfl h1 ?_|with_reducible (first |refine zag ?_|refine zaa ?_|refine zaf ?_|refine zad ?_|refine zaj ?_)|refine zab rfl rfl True.intro ?_|refine zau rfl ?_|fail)
  all_goals rfl
set_option maxRecDepth 100000 in
set_option maxHeartbeats 4000000 in
theorem zmw : ∀ (dp : Nat) (x : J), dp ≤ 64 → jb x ≤ 4194304 → Ctr Tryz.prog 96 [.ag (jP x), .i .i64 dp] (.b (rightJ dp x)) := by
  intro dp
  induction dp with
  | zero =>
    intro x hd hb
    refine Ctr.weak2 ?_ (zrE x) (.refl _)
    obtain ⟨k, b, g, d, e, t, l, ks⟩ := x
    show Ctr Tryz.prog 96 [.ag [.i .i64 k, .b b, .b g, .s d, .i .i64 e, .s t, .sl 8 l.length (jG l), .sl 1 ks.length (txF ks)], .i .i64 0] (.b false)
    refine zaE Tryz.func96 rfl Tryz.ntmps96 Tryz.results96 rfl rfl fun X hL hX => ?_
    repeat' (first |with_reducible (first |refine zag ?_|refine zaa ?_|refine zaf ?_|refine zad ?_|refine zaj ?_|refine zam ?_)|refine zab rfl rfl True.intro ?_|refine zav rfl ?_|((first |refine zab rfl rfl ?_ ?_|refine zao rfl rfl ?_ ?_);focus (first |exact le_ rfl|((repeat' refine And.intro ?_ ?_)<;>omega)|((repeat' refine And.intro ?_ ?_)<;>first |rfl)))|refine zau rfl ?_|fail)
    all_goals rfl
  | succ dp ih =>
    intro x hd hb
    have c0 := zib x hb
    refine Ctr.weak2 ?_ (zrE x) (.refl _)
    have he := zsW x
    have hl : x.list.length ≤ 4194304 := by
      have := zsA x
      have := zcH x.list
      have := zgJ x
      omega
    have hc : ∀ i, i < x.list.length → Ctr Tryz.prog 96 [.ag (jP (x.list.getD i j0)), .i .i64 dp] (.b (rightJ dp (x.list.getD i j0))) := fun i hi => ih _ (by omega) (by have := znu hi; omega)
    clear ih
    obtain ⟨k, b, g, d, e, t, l, ks⟩ := x
    replace he : jb (.mk k b g d e t l ks) = 1 + d.length + t.length + jbL l + txL ks := he
    replace hl : l.length ≤ 4194304 := hl
    replace hc : ∀ i, i < l.length → Ctr Tryz.prog 96 [.ag (jP (l.getD i j0)), .i .i64 dp] (.b (rightJ dp (l.getD i j0))) := hc
    have hd1 : ((dp + 1 : Nat) : Int) - 1 = dp := by omega
    have hc2 : ∀ i, i < l.length → Ctr Tryz.prog 124 [.ag (jP (l.getD i j0)), .rf [.i .i64 (dp + 1 : Nat)] 0] (.b (!rightJ dp (l.getD i j0))) := fun i hi => by
      have c := hc i hi
      rw [← hd1] at c
      refine zaE Tryz.func124 rfl Tryz.ntmps124 Tryz.results124 rfl rfl fun X hL hX => ?_
      repeat' (first |refine zai (f := 96) rfl rfl Tryz.call96 rfl c ?_|with_reducible (first |refine zag ?_|refine zaa ?_|refine zaf ?_|refine zad ?_|refine zaj ?_)|refine zab rfl rfl True.intro ?_|((first |refine zab rfl rfl ?_ ?_|refine zao rfl rfl ?_ ?_);focus (first |omega|exact le_ rfl|((repeat' refine And.intro ?_ ?_)<;>omega)|((repeat' refine And.intro ?_ ?_)<;>first |rfl)))|refine zau rfl ?_|fail)
      all_goals rfl
    have c3 := zip 124 (.i .i64 (dp + 1 : Nat)) (rightJ dp) l hl Tryz.call124 hc2
    clear hc hc2
    have c1 := zcs g d e (by omega)
    have c2 := zdd t (by omega)
    replace c0 : Ctr Tryz.prog 122 [.ag [.i .i64 k, .b b, .b g, .s d, .i .i64 e, .s t, .sl 8 l.length (jG l), .sl 1 ks.length (txF ks)]] (.b (keysOk ks && decide (ks.length = l.length))) := c0
    show Ctr Tryz.prog 96 [.ag [.i .i64 k, .b b, .b g, .s d, .i .i64 e, .s t, .sl 8 l.length (jG l), .sl 1 ks.length (txF ks)], .i .i64 (dp + 1 : Nat)] (.b (if k = 0 ∨ k = 1 then true else if k = 2 then rightB g d e else if k = 3 then validL t else if k = 5 then ((keysOk ks && decide (ks.length = l.length)) && l.all (rightJ dp)) else if k = 4 then l.all (rightJ dp) else false))
    generalize l.all (rightJ dp) = ra at *
    generalize (keysOk ks && decide (ks.length = l.length)) = ka at *
    clear hb he
    by_cases a0 : k = 0
    · rw [if_pos (.inl a0)]
      refine zaE Tryz.func96 rfl Tryz.ntmps96 Tryz.results96 rfl rfl fun X hL hX => ?_
      repeat' (first |with_reducible (first |refine zag ?_|refine zaa ?_|refine zaf ?_|refine zad ?_|refine zaj ?_|refine zah ?_|refine zaA ?_|refine zae ?_|refine zaz ?_|refine zam ?_|refine zar ?_)|refine zab rfl rfl True.intro ?_|refine zal rfl ?_|((first |refine zac rfl ?_ ?_)<;>intro<;>try (first |(exfalso;omega)))|((first |refine zab rfl rfl ?_ ?_|refine zao rfl rfl ?_ ?_);focus (first |exact le_ rfl|((repeat' refine And.intro ?_ ?_)<;>omega)|((repeat' refine And.intro ?_ ?_)<;>first |rfl)))|refine zaO rfl ?_|refine zau rfl ?_|fail)
      all_goals rfl
    by_cases a1 : k = 1
    · rw [if_pos (.inr a1)]
      refine zaE Tryz.func96 rfl Tryz.ntmps96 Tryz.results96 rfl rfl fun X hL hX => ?_
      repeat' (first |with_reducible (first |refine zag ?_|refine zaa ?_|refine zaf ?_|refine zad ?_|refine zaj ?_|refine zah ?_|refine zaA ?_|refine zae ?_|refine zaz ?_|refine zam ?_|refine zar ?_)|refine zab rfl rfl True.intro ?_|refine zal rfl ?_|((first |refine zac rfl ?_ ?_)<;>intro<;>try (first |(exfalso;omega)))|((first |refine zab rfl rfl ?_ ?_|refine zao rfl rfl ?_ ?_);focus (first |exact le_ rfl|((repeat' refine And.intro ?_ ?_)<;>omega)|((repeat' refine And.intro ?_ ?_)<;>first |rfl)))|refine zaO rfl ?_|refine zau rfl ?_|fail)
      all_goals rfl
    rw [if_neg (fun q => q.elim a0 a1)]
    by_cases a2 : k = 2
    · rw [if_pos a2]
      refine zaE Tryz.func96 rfl Tryz.ntmps96 Tryz.results96 rfl rfl fun X hL hX => ?_
      repeat' (first |refine zai (f := 113) rfl rfl Tryz.call113 rfl c1 ?_|with_reducible (first |refine zag ?_|refine zaa ?_|refine zaf ?_|refine zad ?_|refine zaj ?_|refine zah ?_|refine zaA ?_|refine zae ?_|refine zaz ?_|refine zam ?_|refine zar ?_)|refine zab rfl rfl True.intro ?_|refine zal rfl ?_|((first |refine zac rfl ?_ ?_)<;>intro<;>try (first |(exfalso;omega)))|((first |refine zab rfl rfl ?_ ?_|refine zao rfl rfl ?_ ?_);focus (first |exact le_ rfl|((repeat' refine And.intro ?_ ?_)<;>omega)|((repeat' refine And.intro ?_ ?_)<;>first |rfl)))|refine zaO rfl ?_|refine zgk rfl ?_|refine zau rfl ?_|fail)
      all_goals rfl
    rw [if_neg a2]
    by_cases a3 : k = 3
    · rw [if_pos a3]
      refine zaE Tryz.func96 rfl Tryz.ntmps96 Tryz.results96 rfl rfl fun X hL hX => ?_
      repeat' (first |refine zai (f := 69) rfl rfl Tryz.call69 rfl c2 ?_|with_reducible (first |refine zag ?_|refine zaa ?_|refine zaf ?_|refine zad ?_|refine zaj ?_|refine zah ?_|refine zaA ?_|refine zae ?_|refine zaz ?_|refine zam ?_|refine zar ?_)|refine zab rfl rfl True.intro ?_|refine zal rfl ?_|((first |refine zac rfl ?_ ?_)<;>intro<;>try (first |(exfalso;omega)))|((first |refine zab rfl rfl ?_ ?_|refine zao rfl rfl ?_ ?_);focus (first |exact le_ rfl|((repeat' refine And.intro ?_ ?_)<;>omega)|((repeat' refine And.intro ?_ ?_)<;>first |rfl)))|refine zaO rfl ?_|refine zgk rfl ?_|refine zau rfl ?_|fail)
      all_goals rfl
    rw [if_neg a3]
    by_cases a5 : k = 5
    · rw [if_pos a5]
      cases ka with
      | false =>
        refine zaE Tryz.func96 rfl Tryz.ntmps96 Tryz.results96 rfl rfl fun X hL hX => ?_
        repeat' (first |refine zai (f := 122) rfl rfl Tryz.call122 rfl c0 ?_|with_reducible (first |refine zag ?_|refine zaa ?_|refine zaf ?_|refine zad ?_|refine zaj ?_|refine zah ?_|refine zaA ?_|refine zae ?_|refine zaz ?_|refine zam ?_|refine zar ?_)|refine zab rfl rfl True.intro ?_|refine zav rfl ?_|refine zal rfl ?_|((first |refine zac rfl ?_ ?_)<;>intro<;>try (first |(exfalso;omega)))|((first |refine zab rfl rfl ?_ ?_|refine zao rfl rfl ?_ ?_);focus (first |exact le_ rfl|((repeat' refine And.intro ?_ ?_)<;>omega)|((repeat' refine And.intro ?_ ?_)<;>first |rfl)))|refine zaO rfl ?_|refine zgk rfl ?_|refine zau rfl ?_|fail)
        all_goals rfl
      | true =>
        refine zaE Tryz.func96 rfl Tryz.ntmps96 Tryz.results96 rfl rfl fun X hL hX => ?_
        repeat' (first |refine zai (f := 122) rfl rfl Tryz.call122 rfl c0 ?_|refine zob (f := 123) rfl rfl Tryz.call123 ⟨trivial, ⟨rfl, trivial⟩, trivial⟩ rfl c3 rfl ?_|with_reducible (first |refine zag ?_|refine zaa ?_|refine zaf ?_|refine zad ?_|refine zaj ?_|refine zah ?_|refine zaA ?_|refine zae ?_|refine zap ?_|refine zaz ?_|refine zam ?_|refine zar ?_)|refine zab rfl rfl True.intro ?_|refine zal rfl ?_|((first |refine zac rfl ?_ ?_)<;>intro<;>try (first |(exfalso;omega)))|((first |refine zab rfl rfl ?_ ?_|refine zao rfl rfl ?_ ?_);focus (first |exact le_ rfl|((repeat' refine And.intro ?_ ?_)<;>omega)|((repeat' refine And.intro ?_ ?_)<;>first |rfl)))|refine zaO rfl ?_|refine zgk rfl ?_|refine zau rfl ?_|fail)
        all_goals exact congrArg D.b (by simp)
    rw [if_neg a5]
    by_cases a4 : k = 4
    · rw [if_pos a4]
      refine zaE Tryz.func96 rfl Tryz.ntmps96 Tryz.results96 rfl rfl fun X hL hX => ?_
      repeat' (first |refine zob (f := 123) rfl rfl Tryz.call123 ⟨trivial, ⟨rfl, trivial⟩, trivial⟩ rfl c3 rfl ?_|with_reducible (first |refine zag ?_|refine zaa ?_|refine zaf ?_|refine zad ?_|refine zaj ?_|refine zah ?_|refine zaA ?_|refine zae ?_|refine zaz ?_|refine zam ?_|refine zar ?_)|refine zab rfl rfl True.intro ?_|refine zal rfl ?_|((first |refine zac rfl ?_ ?_)<;>intro<;>try (first |(exfalso;omega)))|((first |refine zab rfl rfl ?_ ?_|refine zao rfl rfl ?_ ?_);focus (first |exact le_ rfl|((repeat' refine And.intro ?_ ?_)<;>omega)|((repeat' refine And.intro ?_ ?_)<;>first |rfl)))|refine zaO rfl ?_|refine zgk rfl ?_|refine zau rfl ?_|fail)
      all_goals exact congrArg D.b (by simp)
    rw [if_neg a4]
    refine zaE Tryz.func96 rfl Tryz.ntmps96 Tryz.results96 rfl rfl fun X hL hX => ?_
    repeat' (first |with_reducible (first |refine zag ?_|refine zaa ?_|refine zaf ?_|refine zad ?_|refine zaj ?_|refine zah ?_|refine zaA ?_|refine zae ?_|refine zaz ?_)|refine zab rfl rfl True.intro ?_|refine zal rfl ?_|((first |refine zac rfl ?_ ?_)<;>intro<;>try (first |(exfalso;omega)))|((first |refine zab rfl rfl ?_ ?_|refine zao rfl rfl ?_ ?_);focus (first |exact le_ rfl|((repeat' refine And.intro ?_ ?_)<;>omega)|((repeat' refine And.intro ?_ ?_)<;>first |rfl)))|refine zaO rfl ?_|refine zgk rfl ?_|refine zau rfl ?_|fail)
    all_goals rfl
theorem zke (x : J) (hb : jb x ≤ 4194304) : Ctr Tryz.prog 65 [.ag (jP x)] (.b (rightJ 64 x)) := by
  have c1 := zmw 64 x (by decide) hb
  generalize rightJ 64 x = v at *
  replace c1 : Ctr Tryz.prog 96 [.ag (jP x), .i .i64 64] (.b v) := c1
  refine zaE Tryz.func65 rfl Tryz.ntmps65 Tryz.results65 rfl rfl fun X hL hX => ?_
  repeat' (first |refine zai (f := 96) rfl rfl Tryz.call96 rfl c1 ?_|with_reducible (first |refine zag ?_|refine zaa ?_|refine zaf ?_|refine zad ?_|refine zaj ?_)|refine zab rfl rfl True.intro ?_|((first |refine zab rfl rfl ?_ ?_|refine zao rfl rfl ?_ ?_);focus (first |exact le_ rfl|((repeat' refine And.intro ?_ ?_)<;>omega)|((repeat' refine And.intro ?_ ?_)<;>first |rfl)))|refine zau rfl ?_|fail)
  all_goals rfl

def layN (p : Fld) : Txt := p.1
theorem okMBS {fr : Fr} {cs : List D} {ks : List Txt} (h : okAll [7, 1] fr [(1, .var cs)] = true) : okAll [7, 1] fr [(7, .mp (mapB ks)), (1, .var cs)] = true := by
  unfold okAll at h ⊢
  rw [List.all_cons, okMB]
  exact h
set_option maxRecDepth 100000 in
set_option maxHeartbeats 16000000 in
theorem zpm (s : SrcR) (hs : fitS s) (hb : bigS s) : Ctr Tryz.prog 38 [.ag (srcP s)] (.b (decide (okSrc s))) := by
  have c1 := zlX s hs
  have c2 := zmn (textsS s) (by have := zmA s; obtain ⟨s1, s2, s3⟩ := hs; omega) (fun i => Nat.le_trans (zmP hb i) (by decide))
  have c3 := zow s (zoc hs)
  obtain ⟨s1, s2, s3⟩ := hs
  refine zaE Tryz.func38 rfl Tryz.ntmps38 Tryz.results38 rfl rfl fun X hL hX => ?_
  repeat' (first |refine zoI rfl rfl ?_|with_reducible (first |refine zag ?_|refine zaa ?_|refine zaf ?_|refine zad ?_|refine zae ?_)|refine zab rfl rfl True.intro ?_|((first |refine zab rfl rfl ?_ ?_|refine zao rfl rfl ?_ ?_);focus (first |exact le_ rfl|((repeat' refine And.intro ?_ ?_)<;>omega)|((repeat' refine And.intro ?_ ?_)<;>first |rfl)))|fail)
  refine T.loop hL (fun i : Nat => [(1, .pv 1 0), (3, .mh 7), (9, .sl 2 s.lays.length (fldF s.lays)), (10, .i .i64 s.lays.length), (11, .i .i64 i)]) (fun i => [(7, .mp (mapB ((s.lays.map layN).take i))), (1, .var (srcP s))])
    (fun i => i ≤ s.lays.length ∧ ∀ j, j < i → ∀ k, k < j → ¬ (s.lays.getD k ([], [])).1 = (s.lays.getD j ([], [])).1) (fun i => s.lays.length - i) 0 ⟨Nat.zero_le _, fun j h => absurd h (Nat.not_lt_zero _)⟩
    ⟨⟨rfl, rfl, rfl, rfl, rfl, trivial⟩, ⟨rfl, rfl, trivial⟩, okMBS rfl, by rw [hX]; simp⟩ ?_
  rintro i ⟨g1, g2⟩
  try dsimp only at g1 g2 ⊢
  have hnat : (i : Int).toNat = i := Int.toNat_natCast i
  by_cases hil : i < s.lays.length
  rotate_left
  · have hil' : ¬ (i : Int) < s.lays.length := by omega
    have hdis : disS s := fun j hj k hk => g2 j (by omega) k hk
    have hd : decide (okSrc s) = decide (¬ s.arch = [] ∧ (textsS s).all validL = true ∧ (¬ s.csv = [] ∨ noneJ s)) := decide_eq_decide.2 ⟨fun h => ((zfX s).1 h).2, fun h => (zfX s).2 ⟨hdis, h⟩⟩
    rw [hd]
    clear hd hdis g2
    generalize textsS s = tl at *
    cases hv : tl.all validL with
    | false =>
      rw [hv] at c2
      repeat' (first |refine zaK (f := 71) rfl rfl rfl rfl Tryz.call71 rfl c1 ?_|refine zaK (f := 70) rfl rfl rfl rfl Tryz.call70 rfl c2 ?_|with_reducible (first |refine zag ?_|refine zaa ?_|refine zaf ?_|refine zad ?_|refine zaj ?_|refine zaA ?_|refine zaz ?_)|refine zab rfl rfl True.intro ?_|refine zat rfl rfl rfl ?_|refine zdO rfl rfl rfl ?_|refine zak rfl rfl rfl rfl True.intro ?_|((first |refine zac rfl ?_ ?_|refine zaD rfl rfl ?_ ?_)<;>intro<;>try (first |contradiction))|((first |refine zab rfl rfl ?_ ?_|refine zak rfl rfl rfl rfl ?_ ?_);focus (first |exact le_ rfl|((repeat' refine And.intro ?_ ?_)<;>omega)))|refine zaO rfl ?_|refine zau rfl ?_|fail)
      all_goals (refine congrArg D.b ?_; clear c1 c2 c3 hL hX X; first | (simp_all; done) | trace_state)
    | true =>
      rw [hv] at c2
      repeat' (first |refine zaK (f := 71) rfl rfl rfl rfl Tryz.call71 rfl c1 ?_|refine zaK (f := 70) rfl rfl rfl rfl Tryz.call70 rfl c2 ?_|refine zaK (f := 72) rfl rfl rfl rfl Tryz.call72 rfl c3 ?_|with_reducible (first |refine zag ?_|refine zaa ?_|refine zaf ?_|refine zad ?_|refine zaj ?_|refine zaA ?_|refine zaz ?_)|refine zab rfl rfl True.intro ?_|refine zat rfl rfl rfl ?_|refine zdO rfl rfl rfl ?_|refine zak rfl rfl rfl rfl True.intro ?_|((first |refine zac rfl ?_ ?_|refine zaD rfl rfl ?_ ?_)<;>intro<;>try (first |contradiction))|((first |refine zab rfl rfl ?_ ?_|refine zak rfl rfl rfl rfl ?_ ?_);focus (first |exact le_ rfl|((repeat' refine And.intro ?_ ?_)<;>omega)))|refine zaO rfl ?_|refine zau rfl ?_|fail)
      all_goals (refine congrArg D.b ?_; clear c1 c2 c3 hL hX X; first | (simp_all; done) | trace_state)
  clear c1 c2 c3
  have hil' : (i : Int) < s.lays.length := by omega
  by_cases hm : layN (s.lays.getD i ([], [])) ∈ (s.lays.map layN).take i
  · have hno : ¬ okSrc s := fun h => by
      obtain ⟨k, hk, e⟩ := (zhB (f := layN) (d := ([], [])) hil).1 hm
      exact ((zfX s).1 h).1 i hil k hk e
    rw [decide_eq_false hno]
    have hg : mget (s.lays.getD (i : Int).toNat ([], [])).1 (mapB ((s.lays.map layN).take i)) = some (.b true) := zeh (by rw [hnat]; exact hm)
    clear g2 hno hm
    repeat' (first |refine zrG zaX Tryz.underlying9 rfl rfl rfl hg rfl ?_|with_reducible (first |refine zag ?_|refine zaa ?_|refine zaf ?_|refine zad ?_|refine zaj ?_|refine zah ?_|refine zae ?_|refine zam ?_|refine zar ?_)|refine zab rfl rfl True.intro ?_|refine zav rfl ?_|((first |refine zac rfl ?_ ?_)<;>intro<;>try (first |contradiction))|((first |refine zab rfl rfl ?_ ?_|refine zao rfl rfl ?_ ?_|refine zaw rfl ?_ ?_);focus (first |omega|exact le_ rfl|((repeat' refine And.intro ?_ ?_)<;>omega)|((repeat' refine And.intro ?_ ?_)<;>first |rfl|exact Nat.le_refl _)))|refine zau rfl ?_|fail)
    all_goals rfl
  · have hg : mget (s.lays.getD (i : Int).toNat ([], [])).1 (mapB ((s.lays.map layN).take i)) = none := zdL (by rw [hnat]; exact hm)
    have hp := zeI (k := (s.lays.getD (i : Int).toNat ([], [])).1) (ks := (s.lays.map layN).take i) (by rw [hnat]; exact hm)
    have ht := ziL (f := layN) (d := ([], [])) hil
    have g3 : ∀ j, j < i + 1 → ∀ k, k < j → ¬ (s.lays.getD k ([], [])).1 = (s.lays.getD j ([], [])).1 := fun j hj => by
      by_cases e : j = i
      · subst e
        exact (zkN (f := layN) (d := ([], [])) hil).1 hm
      · exact g2 j (by omega)
    rw [← hnat] at ht
    rw [hnat] at ht
    clear g2 hm
    repeat' (first |refine zku zaX Tryz.underlying9 rfl rfl rfl rfl hg rfl ?_|refine zgW zaX Tryz.underlying9 rfl rfl rfl rfl rfl ?_|with_reducible (first |refine zag ?_|refine zaa ?_|refine zaf ?_|refine zad ?_|refine zah ?_|refine zae ?_|refine zap ?_)|refine zab rfl rfl True.intro ?_|refine zal rfl ?_|((first |refine zac rfl ?_ ?_)<;>intro<;>try (first |contradiction))|((first |refine zab rfl rfl ?_ ?_|refine zao rfl rfl ?_ ?_|refine zaw rfl ?_ ?_);focus (first |omega|exact le_ rfl|((repeat' refine And.intro ?_ ?_)<;>omega)|((repeat' refine And.intro ?_ ?_)<;>first |rfl|exact Nat.le_refl _)))|fail)
    all_goals exact ⟨i + 1, ⟨by omega, g3⟩, by omega, ⟨rfl, rfl, rfl, rfl, rfl, trivial⟩, ⟨congrArg (fun e => some (Own.mp e)) (by rw [ht]; rw [hnat] at hp ⊢; exact hp), rfl, trivial⟩, okMBS rfl, by rw [hX]; simp⟩
end Go.Proofs.YtcajofhafpkbdaaGreatDoor.Flow
