/- The texts J4, J5, J6, one behind the other. -/
import Derived.Test.YtcajofhafpkbdaaGreatDoorCT18
namespace Go.Proofs.YtcajofhafpkbdaaGreatDoor.Flow
open Go
section
variable {X : Ctx} {n : Nat} {all rest : List Oper} {fr : Fr} {ow : Ow} {tr : List (List Nat × List Nat)} {K : Fr → Ow → List (List Nat × List Nat) → Prop}
variable {t : Nat} {op : Op} {ty : TypeId} {pos : String} {af : Array Edge} {cs : List D} {p : Prop} {rd : List Nat}
theorem StepAt.told {P : Program} {o : Oper} {F : Nat → D} {O : Nat → Option Own} {d d' : D} {wr : List (Nat × Own)} (h : StepAt P X n o F O d wr) (hd : ∀ S w r v, Rel S w r d v → Rel S w r d' v) : StepAt P X n o F O d' wr := fun a w K Q hr hK =>
  h a w K Q hr fun v w' hrep => hK v w' (by
    obtain ⟨S, r, h1, h2, h3, h4, h5, h6⟩ := hrep
    refine ⟨S, r, h1, h2, fun u => ?_, h4, h5, h6⟩
    have h7 := h3 u
    generalize o.dst = dst at h7
    cases dst with
    | none => exact h7
    | some t0 =>
      by_cases e : u = t0
      · simp only [updF, e, if_true] at h7 ⊢
        exact hd _ _ _ _ h7
      · simp only [updF, e, if_false] at h7 ⊢
        exact h7)
set_option maxRecDepth 100000 in
theorem zfJ (hs : step B (ev fr) (fun k => look k ow) ⟨some t, op, ty, pos, af, none⟩ = some ⟨.ag cs, p, rd, []⟩) (hn : Nat.blt t n = true) (hp : p) (h : CT Tryz.prog X n all rest ((t, .ag (cs.map D.shut)) :: fr) ow (tr ++ [(rd, [])]) K) :
    CT Tryz.prog X n all (⟨some t, op, ty, pos, af, none⟩ :: rest) fr ow tr K := by
  rw [← zct] at hs
  exact CT.cons (e := ⟨.ag (cs.map D.shut), rd, []⟩) (.plain rfl fun F' O' h1 h2 => (zbH (P := Tryz.prog) (X := X) (n := n) hs hp (show t < n from Nat.le_of_ble_eq_true hn) F' O' h1 h2).told fun S w r v hr => hr.shutA) (zaF ..) rfl h
end
theorem zin (l : List (List UInt8)) (v : List UInt8) (gf : Nat → List D) (hg : gf 0 = [.s v]) : catF l.length (txF l) 1 gf = txF (l ++ [v]) := by
  funext j
  unfold catF txF
  by_cases h : j < l.length
  · rw [if_pos h]
    simp [List.getD_eq_getElem?_getD, List.getElem?_append_left h]
  · rw [if_neg h]
    by_cases h2 : j < l.length + 1
    · obtain rfl : j = l.length := by omega
      rw [if_pos h2, Nat.sub_self, hg]
      simp [List.getD_eq_getElem?_getD]
    · rw [if_neg h2]
      simp [List.getD_eq_getElem?_getD, List.getElem?_append_right (show l.length ≤ j by omega)]
      rw [List.getElem?_eq_none (show l.length ≤ j by omega), List.getElem?_eq_none (show [v].length ≤ j - l.length by simp; omega)]
theorem zrF : ∀ (l : List J) (x : J) (i : Nat), jF (l ++ [x]) i = if i = l.length then jC x else jF l i
  | [], x, 0 => by rw [List.nil_append, jF]; rfl
  | [], x, i + 1 => by
    rw [List.nil_append, jF, jF]
    rfl
  | y :: r, x, 0 => by
    rw [List.cons_append, jF, jF]
    rfl
  | y :: r, x, i + 1 => by
    rw [List.cons_append, jF, jF, zrF r x i, List.length_cons]
    by_cases h : i = r.length
    · rw [if_pos h, if_pos (by omega)]
    · rw [if_neg h, if_neg (by omega)]
theorem zfi (l : List J) (x : J) (gf : Nat → List D) (hg : gf 0 = jC x) : catF l.length (jF l) 1 gf = jF (l ++ [x]) := by
  funext j
  rw [zrF]
  unfold catF
  by_cases h : j < l.length
  · rw [if_pos h, if_neg (by omega)]
  · rw [if_neg h]
    by_cases h2 : j < l.length + 1
    · obtain rfl : j = l.length := by omega
      rw [if_pos h2, Nat.sub_self, hg, if_pos rfl]
    · rw [if_neg h2, if_neg (by omega)]
def idxJ (k : List UInt8) : List (List UInt8) → Int
  | [] => -1
  | x :: r => if x = k then 0 else if idxJ k r = -1 then -1 else idxJ k r + 1
theorem zle {k : List UInt8} : ∀ {l : List (List UInt8)} {i : Nat}, (∀ j, j < i → ¬ l.getD j [] = k) → i < l.length → l.getD i [] = k → idxJ k l = i
  | [], _, _, h, _ => by simp at h
  | x :: r, 0, _, _, h => if_pos h
  | x :: r, i + 1, h1, h2, h3 => by
    have h0 : ¬ x = k := h1 0 (by omega)
    have ih := zle (k := k) (l := r) (i := i) (fun j hj => by have := h1 (j + 1) (by omega); simpa using this) (by simpa using h2) (by simpa using h3)
    unfold idxJ
    rw [if_neg h0, ih, if_neg (by omega)]
    push_cast
    rfl
theorem zjt {k : List UInt8} : ∀ {l : List (List UInt8)}, (∀ j, j < l.length → ¬ l.getD j [] = k) → idxJ k l = -1
  | [], _ => rfl
  | x :: r, h1 => by
    have h0 : ¬ x = k := h1 0 (by simp)
    have ih := zjt (k := k) (l := r) (fun j hj => by have := h1 (j + 1) (by simpa using hj); simpa using this)
    unfold idxJ
    rw [if_neg h0, ih]
    rfl
theorem zhH {k : List UInt8} : ∀ {l : List (List UInt8)}, (0 ≤ idxJ k l ↔ k ∈ l) ∧ -1 ≤ idxJ k l ∧ idxJ k l < l.length
  | [] => by simp [idxJ]
  | x :: r => by
    have ih := zhH (k := k) (l := r)
    unfold idxJ
    by_cases h0 : x = k
    · rw [if_pos h0, List.length_cons]
      exact ⟨⟨fun _ => by simp [h0], fun _ => Int.le_refl _⟩, by omega, by omega⟩
    · rw [if_neg h0, List.length_cons]
      have hm : k ∈ x :: r ↔ k ∈ r := by
        rw [List.mem_cons]
        exact ⟨fun h => h.elim (fun e => absurd e.symm h0) id, .inr⟩
      rw [hm, ← ih.1]
      split
      · rename_i h
        exact ⟨⟨fun q => absurd q (by decide), fun q => by omega⟩, by omega, by omega⟩
      · exact ⟨⟨fun q => by omega, fun q => by omega⟩, by omega, by omega⟩
set_option maxRecDepth 100000 in
set_option maxHeartbeats 1000000 in
theorem zhf (l : List (List UInt8)) (k : List UInt8) (hl : l.length ≤ 4194304) : Ctr Tryz.prog 115 [.sl 1 l.length (txF l), .s k] (.i .i64 (idxJ k l)) := by
  refine zaE Tryz.func115 rfl Tryz.ntmps115 Tryz.results115 rfl rfl fun X hL hX => ?_
  repeat' (first |with_reducible (first |refine zag ?_|refine zaa ?_|refine zaf ?_|refine zad ?_|refine zae ?_)|refine zab rfl rfl True.intro ?_|fail)
  refine T.loop hL (fun i : Nat => [(0, .sl 1 l.length (txF l)), (1, .s k), (7, .i .i64 l.length), (8, .i .i64 i)]) (fun _ => [])
    (fun i => i ≤ l.length ∧ ∀ j, j < i → ¬ l.getD j [] = k) (fun i => l.length - i) 0 ⟨Nat.zero_le _, fun j h => absurd h (Nat.not_lt_zero _)⟩
    ⟨⟨rfl, rfl, rfl, rfl, trivial⟩, trivial, rfl, by rw [hX]; simp⟩ ?_
  rintro i ⟨h1, h2⟩
  have hnat : (i : Int).toNat = i := Int.toNat_natCast i
  by_cases hil : i < l.length
  · by_cases hq : l.getD i [] = k
    · have hq' : k = l.getD (i : Int).toNat [] := by rw [hnat]; exact hq.symm
      have hq2 : l.getD (i : Int).toNat [] = k := hq'.symm
      rw [zle h2 hil hq]
      repeat' (first |with_reducible (first |refine zag ?_|refine zaa ?_|refine zaf ?_|refine zad ?_|refine zaj ?_|refine zah ?_|refine zae ?_|refine zap ?_|refine zam ?_|refine zar ?_)|refine zab rfl rfl True.intro ?_|((first |refine zac rfl ?_ ?_|refine zbJ rfl ?_ ?_)<;>intro<;>try (first |(exfalso;omega)))|((first |refine zab rfl rfl ?_ ?_);focus (first |omega|exact le_ rfl|((repeat' refine And.intro ?_ ?_)<;>omega)))|refine zau rfl ?_|fail)
      all_goals first
        | rfl
        | (exfalso; rename_i q; exact q hq')
        | (exfalso; rename_i q; exact q hq2)
    · have hq' : ¬ k = l.getD (i : Int).toNat [] := by rw [hnat]; exact fun e => hq e.symm
      have hq2 : ¬ l.getD (i : Int).toNat [] = k := fun e => hq' e.symm
      repeat' (first |with_reducible (first |refine zag ?_|refine zaa ?_|refine zaf ?_|refine zad ?_|refine zaj ?_|refine zah ?_|refine zae ?_|refine zap ?_|refine zam ?_|refine zar ?_)|refine zab rfl rfl True.intro ?_|((first |refine zac rfl ?_ ?_|refine zbJ rfl ?_ ?_)<;>intro<;>try (first |(exfalso;omega)))|((first |refine zab rfl rfl ?_ ?_);focus (first |omega|exact le_ rfl|((repeat' refine And.intro ?_ ?_)<;>omega)))|refine zau rfl ?_|fail)
      all_goals first
        | (exfalso; rename_i q; exact hq' q)
        | (exfalso; rename_i q; exact hq2 q)
        | exact ⟨i + 1, ⟨by omega, fun j hj => by
            by_cases e : j = i
            · subst e; exact hq
            · exact h2 j (by omega)⟩, by omega, ⟨rfl, rfl, rfl, congrArg (D.i .i64) (by omega), trivial⟩, trivial, rfl, by rw [hX]; simp⟩
  · rw [zjt (fun j hj => h2 j (by omega))]
    repeat' (first |with_reducible (first |refine zag ?_|refine zaa ?_|refine zaf ?_|refine zad ?_|refine zaj ?_|refine zaA ?_|refine zaz ?_)|refine zab rfl rfl True.intro ?_|((first |refine zac rfl ?_ ?_)<;>intro<;>try (first |(exfalso;omega)))|refine zaO rfl ?_|refine zau rfl ?_|fail)
    all_goals rfl
theorem zjm (l : List (List UInt8)) (k : List UInt8) (hl : l.length ≤ 4194304) : Ctr Tryz.prog 134 [.sl 1 l.length (txF l), .s k] (.b (decide (k ∈ l))) := by
  have c1 := zhf l k hl
  have e : decide (k ∈ l) = decide (0 ≤ idxJ k l) := by
    rw [decide_eq_decide]
    exact zhH.1.symm
  rw [e]
  refine zaE Tryz.func134 rfl Tryz.ntmps134 Tryz.results134 rfl rfl fun X hL hX => ?_
  repeat' (first |refine zai (f := 115) rfl rfl Tryz.call115 rfl c1 ?_|with_reducible (first |refine zag ?_|refine zaa ?_|refine zaf ?_|refine zad ?_|refine zaj ?_)|refine zab rfl rfl True.intro ?_|refine zau rfl ?_|fail)
  all_goals rfl
def keyD : Sum (List UInt8 × Nat) (Nat × Int) → Sum (D × Nat) (Nat × Int)
  | .inl (k, n) => .inl (.s k, n)
  | .inr e => .inr e
set_option maxRecDepth 100000 in
set_option maxHeartbeats 2000000 in
theorem zqI (s : List UInt8) (i : Nat) (l : List J) (ks : List (List UInt8)) (hs : s.length ≤ 1048576) (hi : i ≤ s.length) (hk : ks.length ≤ 4194304) :
    RdE 110 [.pv 13 0, .ag [.i .i64 5, .b false, .b false, .s [], .i .i64 0, .s [], .sl 8 l.length (jF l), .sl 1 ks.length (txF ks)]] s i (keyD (jkey s i ks)) := by
  refine zfL Tryz.func110 rfl Tryz.ntmps110 Tryz.results110 rfl (fun d n h => by
    unfold keyD at h
    split at h <;> cases h
    rfl) fun X hL hX => ?_
  have c1 := zbO s i hs hi
  have p1 := @zaV s i
  unfold jkey
  cases h1 : jpeek s i with
  | inr e =>
    obtain ⟨p, e⟩ := e
    rw [h1] at c1
    repeat' (first |(refine zbB (id := 1) 1 ?_;dsimp only [splitOp])|refine zbl 13 rfl Tryz.call77 rfl rfl rfl rfl c1 ?_|with_reducible (first |refine zag ?_|refine zaa ?_|refine zaf ?_|refine zad ?_)|refine zab rfl rfl True.intro ?_|((first |refine zao rfl rfl ?_ ?_);focus (first |((repeat' refine And.intro ?_ ?_)<;>omega)|((repeat' refine And.intro ?_ ?_)<;>first |rfl)))|refine zaW ?_|refine zbe ⟨_, _, rfl, rfl, _, rfl⟩|fail)
  | inl j =>
    rw [h1] at c1
    have p1 := p1 hi h1
    dsimp only
    by_cases hq : at' s j = 34
    · rw [if_neg (fun q => q hq)]
      have c2 := zix s j hs (by omega)
      cases h2 : jtext s j with
      | inr e =>
        obtain ⟨p, e⟩ := e
        rw [h2] at c2
        repeat' (first |(refine zbB (id := 4) 1 ?_;dsimp only [splitOp])|refine zaq (f := 77) 13 rfl rfl Tryz.call77 rfl rfl rfl rfl rfl c1 ?_|refine zbl 13 rfl Tryz.call79 rfl rfl rfl rfl c2 ?_|with_reducible (first |refine zag ?_|refine zaa ?_|refine zaf ?_|refine zad ?_|refine zah ?_)|refine zab rfl rfl True.intro ?_|((first |refine zaC rfl ?_ ?_)<;>intro<;>try (first |(exfalso;omega)))|((first |refine zab rfl rfl ?_ ?_|refine zao rfl rfl ?_ ?_);focus (first |exact le_ rfl|((repeat' refine And.intro ?_ ?_)<;>omega)|((repeat' refine And.intro ?_ ?_)<;>first |rfl)))|refine zaW ?_|refine zbe ⟨_, _, rfl, rfl, _, rfl⟩|fail)
      | inl r =>
        obtain ⟨k, n⟩ := r
        rw [h2] at c2
        have p2 := zhV h2
        dsimp only
        have c3 := zjm ks k hk
        have c4 := zbO s n hs p2.2
        by_cases hm : k ∈ ks
        · rw [if_pos hm]
          rw [decide_eq_true hm] at c3
          have c5 := zbn j 3
          repeat' (first |(refine zbB (id := 6) 1 ?_;dsimp only [splitOp])|refine zaq (f := 77) 13 rfl rfl Tryz.call77 rfl rfl rfl rfl rfl c1 ?_|refine zaq (f := 79) 13 rfl rfl Tryz.call79 rfl rfl rfl rfl rfl c2 ?_|refine zai (f := 134) rfl rfl Tryz.call134 rfl c3 ?_|refine zdb rfl Tryz.call50 rfl c5 ?_|with_reducible (first |refine zag ?_|refine zaa ?_|refine zaf ?_|refine zad ?_|refine zah ?_)|refine zab rfl rfl True.intro ?_|refine zav rfl ?_|((first |refine zaC rfl ?_ ?_)<;>intro<;>try (first |(exfalso;omega)))|((first |refine zab rfl rfl ?_ ?_|refine zao rfl rfl ?_ ?_);focus (first |exact le_ rfl|((repeat' refine And.intro ?_ ?_)<;>omega)|((repeat' refine And.intro ?_ ?_)<;>first |rfl)))|refine zaW ?_|refine zbe ⟨_, _, rfl, rfl, _, rfl⟩|fail)
        · rw [if_neg hm]
          rw [decide_eq_false hm] at c3
          cases h3 : jpeek s n with
          | inr e =>
            obtain ⟨p, e⟩ := e
            rw [h3] at c4
            repeat' (first |(refine zbB (id := 7) 1 ?_;dsimp only [splitOp])|refine zaq (f := 77) 13 rfl rfl Tryz.call77 rfl rfl rfl rfl rfl c1 ?_|refine zaq (f := 79) 13 rfl rfl Tryz.call79 rfl rfl rfl rfl rfl c2 ?_|refine zai (f := 134) rfl rfl Tryz.call134 rfl c3 ?_|refine zbl 13 rfl Tryz.call77 rfl rfl rfl rfl c4 ?_|with_reducible (first |refine zag ?_|refine zaa ?_|refine zaf ?_|refine zad ?_|refine zah ?_)|refine zab rfl rfl True.intro ?_|refine zal rfl ?_|((first |refine zaC rfl ?_ ?_)<;>intro<;>try (first |(exfalso;omega)))|((first |refine zab rfl rfl ?_ ?_|refine zao rfl rfl ?_ ?_);focus (first |exact le_ rfl|((repeat' refine And.intro ?_ ?_)<;>omega)|((repeat' refine And.intro ?_ ?_)<;>first |rfl)))|refine zaW ?_|refine zbe ⟨_, _, rfl, rfl, _, rfl⟩|fail)
          | inl m =>
            rw [h3] at c4
            have p3 := zaV p2.2 h3
            dsimp only
            by_cases h58 : at' s m = 58
            · rw [if_neg (fun q => q h58)]
              repeat' (first |refine zaq (f := 77) 13 rfl rfl Tryz.call77 rfl rfl rfl rfl rfl c1 ?_|refine zaq (f := 77) 13 rfl rfl Tryz.call77 rfl rfl rfl rfl rfl c4 ?_|refine zaq (f := 79) 13 rfl rfl Tryz.call79 rfl rfl rfl rfl rfl c2 ?_|refine zai (f := 134) rfl rfl Tryz.call134 rfl c3 ?_|with_reducible (first |refine zag ?_|refine zaa ?_|refine zaf ?_|refine zad ?_|refine zaj ?_|refine zah ?_)|refine zab rfl rfl True.intro ?_|refine zal rfl ?_|((first |refine zaC rfl ?_ ?_)<;>intro<;>try (first |(exfalso;omega)))|((first |refine zab rfl rfl ?_ ?_|refine zao rfl rfl ?_ ?_|refine zaw rfl ?_ ?_);focus (first |omega|exact le_ rfl|((repeat' refine And.intro ?_ ?_)<;>omega)|((repeat' refine And.intro ?_ ?_)<;>first |rfl|exact Nat.le_refl _)))|refine zcS rfl ⟨_, _, rfl, .refl _, ?_⟩|fail)
              all_goals exact congrArg (fun x => some (Own.var [.s s, .i .i64 x])) (by omega)
            · rw [if_pos h58]
              have c5 := zbn m 3
              repeat' (first |(refine zbB (id := 8) 4 ?_;dsimp only [splitOp])|refine zaq (f := 77) 13 rfl rfl Tryz.call77 rfl rfl rfl rfl rfl c1 ?_|refine zaq (f := 77) 13 rfl rfl Tryz.call77 rfl rfl rfl rfl rfl c4 ?_|refine zaq (f := 79) 13 rfl rfl Tryz.call79 rfl rfl rfl rfl rfl c2 ?_|refine zai (f := 134) rfl rfl Tryz.call134 rfl c3 ?_|refine zdb rfl Tryz.call50 rfl c5 ?_|with_reducible (first |refine zag ?_|refine zaa ?_|refine zaf ?_|refine zad ?_|refine zah ?_)|refine zab rfl rfl True.intro ?_|refine zal rfl ?_|((first |refine zaC rfl ?_ ?_)<;>intro<;>try (first |(exfalso;omega)))|((first |refine zab rfl rfl ?_ ?_|refine zao rfl rfl ?_ ?_);focus (first |exact le_ rfl|((repeat' refine And.intro ?_ ?_)<;>omega)|((repeat' refine And.intro ?_ ?_)<;>first |rfl)))|refine zaW ?_|refine zbe ⟨_, _, rfl, rfl, _, rfl⟩|fail)
    · rw [if_pos hq]
      have c5 := zbn j 3
      repeat' (first |(refine zbB (id := 2) 4 ?_;dsimp only [splitOp])|refine zaq (f := 77) 13 rfl rfl Tryz.call77 rfl rfl rfl rfl rfl c1 ?_|refine zdb rfl Tryz.call50 rfl c5 ?_|with_reducible (first |refine zag ?_|refine zaa ?_|refine zaf ?_|refine zad ?_)|refine zab rfl rfl True.intro ?_|((first |refine zaC rfl ?_ ?_)<;>intro<;>try (first |(exfalso;omega)))|((first |refine zab rfl rfl ?_ ?_|refine zao rfl rfl ?_ ?_);focus (first |exact le_ rfl|((repeat' refine And.intro ?_ ?_)<;>omega)|((repeat' refine And.intro ?_ ?_)<;>first |rfl)))|refine zaW ?_|refine zbe ⟨_, _, rfl, rfl, _, rfl⟩|fail)

def valD : JR → Sum (D × Nat) (Nat × Int)
  | .inl (x, n) => .inl (.ag (jC x), n)
  | .inr e => .inr e
theorem zdT (k : Int) (y n : Bool) (d : List UInt8) (e : Int) (t : List UInt8) (l : List J) (ks : List (List UInt8)) : jC (.mk k y n d e t l ks) = [.i .i64 k, .b y, .b n, .s d, .i .i64 e, .s t, .sl 8 l.length (jF l), .sl 1 ks.length (txF ks)] := by
  unfold jC
  rfl
theorem ziI (mp : Bool) : Weak (.ag (litC (kindM mp) false)) (.ag (jC (manyV mp [] []))) := zdQ (kindM mp) false
theorem zhX {r : JR} : ∀ d n, valD r = .inl (d, n) → d.okIn [13] = true := fun d n h => by
  unfold valD at h
  split at h
  · rename_i x m
    cases h
    cases x
    rw [zdT]
    rfl
  · cases h
set_option maxRecDepth 100000 in
set_option maxHeartbeats 8000000 in
theorem zgH (s : List UInt8) (val : Nat → JR) (d : Nat) (hs : s.length ≤ 1048576) (hd : d ≤ 100) (hv : ValOk s val) (hval : ∀ i, i ≤ s.length → RdE 48 [.pv 13 0, .i .i64 d] s i (valD (val i))) (i : Nat) (hi : i < s.length) :
    RdE 80 [.pv 13 0, .ag (litC (kindM true) false), .i .u8 (endM true), .i .i64 (d + 1 : Nat)] s i (valD (jmany s val true i)) := by
  refine zfL Tryz.func80 rfl Tryz.ntmps80 Tryz.results80 rfl zhX fun X hL hX => ?_
  have hd1 : ((d + 1 : Nat) : Int) - 1 = d := by omega
  have c0 : RdE 77 [.pv 13 0] s (i + 1) (peekD s (jpeek s (i + 1))) := zbO s (i + 1) hs hi
  have p0 := @zaV s (i + 1)
  unfold jmany
  cases h0 : jpeek s (i + 1) with
  | inr e =>
    obtain ⟨p, e⟩ := e
    rw [h0] at c0
    have c0' : CtrP Tryz.prog 77 [.pv 13 0] [(13, .var [.s s, .i .i64 ((i : Int) + 1)])] (pvS p e) [(13, .gone)] := c0
    repeat' (first |(refine zbB (id := 2) 1 ?_;dsimp only [splitOp])|refine zbl 13 rfl Tryz.call77 rfl rfl rfl rfl c0' ?_|with_reducible (first |refine zag ?_|refine zaa ?_|refine zaf ?_|refine zad ?_)|refine zab rfl rfl True.intro ?_|((first |refine zab rfl rfl ?_ ?_|refine zao rfl rfl ?_ ?_|refine zaw rfl ?_ ?_);focus (first |omega|exact le_ rfl|((repeat' refine And.intro ?_ ?_)<;>omega)|((repeat' refine And.intro ?_ ?_)<;>first |rfl|exact Nat.le_refl _)))|refine zaW ?_|refine zbe ⟨_, _, rfl, rfl, _, rfl⟩|fail)
  | inl j =>
    rw [h0] at c0
    have c0' : CtrO Tryz.prog 77 [.pv 13 0] [(13, .var [.s s, .i .i64 ((i : Int) + 1)])] (.i .u8 (at' s j)) [(13, .var [.s s, .i .i64 j])] := c0
    have p0 := p0 hi h0
    dsimp only
    by_cases he : at' s j = endM true
    · rw [if_pos he]
      have he' : at' s j = 125 := he
      repeat' (first |refine zaq (f := 77) 13 rfl rfl Tryz.call77 rfl rfl rfl rfl rfl c0' ?_|with_reducible (first |refine zag ?_|refine zaa ?_|refine zaf ?_|refine zad ?_|refine zaj ?_|refine zam ?_)|refine zab rfl rfl True.intro ?_|((first |refine zac rfl ?_ ?_)<;>intro<;>try (first |(exfalso;omega)))|((first |refine zab rfl rfl ?_ ?_|refine zao rfl rfl ?_ ?_|refine zaw rfl ?_ ?_);focus (first |omega|exact le_ rfl|((repeat' refine And.intro ?_ ?_)<;>omega)|((repeat' refine And.intro ?_ ?_)<;>first |rfl|exact Nat.le_refl _)))|refine zcS rfl ⟨_, _, rfl, ziI true, ?_⟩|fail)
      all_goals exact congrArg (fun x => some (Own.var [.s s, .i .i64 x])) (by omega)
    · rw [if_neg he]
      have he' : ¬ at' s j = 125 := he
      repeat' (first |refine zaq (f := 77) 13 rfl rfl Tryz.call77 rfl rfl rfl rfl rfl c0' ?_|with_reducible (first |refine zag ?_|refine zaa ?_|refine zaf ?_|refine zad ?_|refine zah ?_|refine zae ?_)|refine zab rfl rfl True.intro ?_|((first |refine zac rfl ?_ ?_)<;>intro<;>try (first |(exfalso;omega)))|((first |refine zab rfl rfl ?_ ?_|refine zao rfl rfl ?_ ?_|refine zaw rfl ?_ ?_);focus (first |omega|exact le_ rfl|((repeat' refine And.intro ?_ ?_)<;>omega)|((repeat' refine And.intro ?_ ?_)<;>first |rfl|exact Nat.le_refl _)))|fail)
      refine T.adoptV 5 6 100 55 8 _ (jF []) rfl rfl rfl ?_
      refine T.adoptV 5 7 101 9 1 _ (txF []) rfl rfl rfl ?_
      refine T.loop hL (fun _ : Nat × List J × List (List UInt8) => [(0, .pv 13 0), (2, .i .u8 (endM true)), (3, .i .i64 (d + 1 : Nat)), (5, .pv 5 0), (8, .pv 8 0)]) (fun x => [(13, .var [.s s, .i .i64 (x.1 : Nat)]), (5, .var [.i .i64 (kindM true), .b false, .b false, .s [], .i .i64 0, .s [], .gs 100 8 (x.2.1).length (jF (x.2.1)), .gs 101 1 (x.2.2).length (txF (x.2.2))]), (8, .var j0C), (100, .row 55 8 (x.2.1).length), (101, .row 9 1 (x.2.2).length)])
        (fun x => x.1 ≤ s.length ∧ jgo s val true j [] [] = jgo s val true x.1 x.2.1 x.2.2 ∧ x.2.1.length ≤ x.1 ∧ x.2.2.length ≤ x.1) (fun x => s.length - x.1) (j, [], []) ⟨by omega, rfl, Nat.zero_le _, Nat.zero_le _⟩
        ⟨⟨rfl, rfl, rfl, rfl, rfl, trivial⟩, ⟨rfl, rfl, rfl, rfl, rfl, trivial⟩, rfl, fun q hq => by rw [hX] at hq; simp at hq; simp [hq]⟩ ?_
      rintro ⟨i, l, ks⟩ ⟨hi, hI, hl, hks⟩
      dsimp only at hi hI hl hks ⊢
      rw [hI, zdV hv hi]
      clear hI c0 c0' h0
      have k1 := zqI s i l ks hs hi (by omega)
      unfold jkeys
      rw [if_pos rfl]
      have q1 := @zki s
      cases h1 : jkey s i ks with
      | inr e =>
        obtain ⟨p, e⟩ := e
        rw [h1] at k1
        repeat' (first |(refine zpt (id := 6) 4 ?_;dsimp only [splitOp3])|refine zfJ (t := 34) rfl rfl (le_ rfl) ?_|refine zhT 13 (.s []) rfl Tryz.call110 rfl rfl rfl rfl k1 ?_|with_reducible (first |refine zag ?_|refine zaa ?_|refine zaf ?_|refine zad ?_|refine zae ?_)|refine zab rfl rfl True.intro ?_|refine zav rfl ?_|((first |refine zab rfl rfl ?_ ?_|refine zao rfl rfl ?_ ?_|refine zaw rfl ?_ ?_);focus (first |exact le_ rfl|((repeat' refine And.intro ?_ ?_)<;>omega)|((repeat' refine And.intro ?_ ?_)<;>first |omega|rfl|exact Nat.le_refl _)))|with_reducible refine ⟨by kernel_rfl, ?_⟩|refine zaW ?_|refine zbC ?_|refine zbe ⟨_, _, rfl, rfl, _, rfl⟩|fail)
      | inl r =>
        obtain ⟨k, i1⟩ := r
        rw [h1] at k1
        have q1 := q1 hi h1
        dsimp only
        have v1 := hval i1 q1.2
        rw [← hd1] at v1
        have q2 := hv i1
        cases h2 : val i1 with
        | inr e =>
          obtain ⟨p, e⟩ := e
          rw [h2] at v1
          repeat' (first |(refine zpt (id := 7) 5 ?_;dsimp only [splitOp3])|refine zfJ (t := 34) rfl rfl (le_ rfl) ?_|refine zaq (f := 110) 13 rfl rfl Tryz.call110 rfl rfl rfl rfl rfl k1 ?_|refine zhT 13 (.ag (litC 0 false)) rfl Tryz.call48 rfl rfl rfl rfl v1 ?_|with_reducible (first |refine zag ?_|refine zaa ?_|refine zaf ?_|refine zad ?_|refine zae ?_|refine zaB ?_)|refine zab rfl rfl True.intro ?_|refine zav rfl ?_|((first |refine zab rfl rfl ?_ ?_|refine zao rfl rfl ?_ ?_|refine zaw rfl ?_ ?_);focus (first |omega|exact le_ rfl|((repeat' refine And.intro ?_ ?_)<;>omega)|((repeat' refine And.intro ?_ ?_)<;>first |omega|rfl|exact Nat.le_refl _|exact le_ rfl)))|with_reducible refine ⟨by kernel_rfl, ?_⟩|refine zaW ?_|refine zbC ?_|refine zbe ⟨_, _, rfl, rfl, _, rfl⟩|fail)
        | inl r =>
          obtain ⟨x, i2⟩ := r
          rw [h2] at v1
          have q2 := q2 x i2 q1.2 h2
          dsimp only
          obtain ⟨xk, xy, xn, xd, xe, xt, xl, xs⟩ := x
          replace v1 : RdE 48 [.pv 13 0, .i .i64 (((d + 1 : Nat) : Int) - 1)] s i1 (.inl (.ag [.i .i64 xk, .b xy, .b xn, .s xd, .i .i64 xe, .s xt, .sl 8 xl.length (jF xl), .sl 1 xs.length (txF xs)], i2)) := by
            rw [← zdT]
            exact v1
          have e2 := zfi l (.mk xk xy xn xd xe xt xl xs) (chunk 8 [.i .i64 xk, .b xy, .b xn, .s xd, .i .i64 xe, .s xt, .sl 8 xl.length (jF xl), .sl 1 xs.length (txF xs)]) (by rw [zdT]; rfl)
          have e1 := zin ks k (chunk 1 [.s k]) rfl
          generalize hX2 : J.mk xk xy xn xd xe xt xl xs = x at *
          have hl1 : (l ++ [x]).length = l.length + 1 := by simp
          have hk1 : (ks ++ [k]).length = ks.length + 1 := by simp
          have c3 := zbO s i2 hs q2.2
          cases h3 : jpeek s i2 with
          | inr e =>
            obtain ⟨p, e⟩ := e
            rw [h3] at c3
            repeat' (first |(refine zbB (id := 8) 1 ?_;dsimp only [splitOp])|refine zfJ (t := 34) rfl rfl (le_ rfl) ?_|refine zaq (f := 110) 13 rfl rfl Tryz.call110 rfl rfl rfl rfl rfl k1 ?_|refine zaq (f := 48) 13 rfl rfl Tryz.call48 rfl rfl rfl rfl rfl v1 ?_|refine zbl 13 rfl Tryz.call77 rfl rfl rfl rfl c3 ?_|with_reducible (first |refine zag ?_|refine zaa ?_|refine zaf ?_|refine zad ?_|refine zae ?_|refine zaB ?_)|refine zab rfl rfl True.intro ?_|refine zav rfl ?_|((first |refine zab rfl rfl ?_ ?_|refine zao rfl rfl ?_ ?_|refine zaw rfl ?_ ?_);focus (first |omega|exact le_ rfl|((repeat' refine And.intro ?_ ?_)<;>omega)|((repeat' refine And.intro ?_ ?_)<;>first |omega|rfl|exact Nat.le_refl _|exact le_ rfl)))|with_reducible refine ⟨by kernel_rfl, ?_⟩|refine zaW ?_|refine zbC ?_|refine zbe ⟨_, _, rfl, rfl, _, rfl⟩|fail)
          | inl i3 =>
            rw [h3] at c3
            have q3 := zaV q2.2 h3
            dsimp only
            by_cases hen : at' s i3 = endM true
            · rw [if_pos hen]
              have hen' : at' s i3 = 125 := hen
              repeat' (first |refine zfJ (t := 34) rfl rfl (le_ rfl) ?_|refine zaq (f := 110) 13 rfl rfl Tryz.call110 rfl rfl rfl rfl rfl k1 ?_|refine zaq (f := 48) 13 rfl rfl Tryz.call48 rfl rfl rfl rfl rfl v1 ?_|refine zaq (f := 77) 13 rfl rfl Tryz.call77 rfl rfl rfl rfl rfl c3 ?_|with_reducible (first |refine zag ?_|refine zaa ?_|refine zaf ?_|refine zad ?_|refine zaj ?_|refine zae ?_|refine zam ?_|refine zar ?_|refine zaB ?_)|refine zab rfl rfl True.intro ?_|refine zav rfl ?_|((first |refine zac rfl ?_ ?_)<;>intro<;>try (first |(exfalso;omega)))|((first |refine zab rfl rfl ?_ ?_|refine zao rfl rfl ?_ ?_|refine zaw rfl ?_ ?_);focus (first |omega|exact le_ rfl|((repeat' refine And.intro ?_ ?_)<;>omega)|((repeat' refine And.intro ?_ ?_)<;>first |omega|rfl|exact Nat.le_refl _|exact le_ rfl)))|with_reducible refine ⟨by kernel_rfl, ?_⟩|refine zcS rfl ⟨_, _, rfl, ?_, ?_⟩|fail)
              all_goals first
                | exact congrArg (fun x => some (Own.var [.s s, .i .i64 x])) (by omega)
                | (refine .of_eq ?_; unfold manyV; rw [zdT, hl1, hk1, ← e1, ← e2]; rfl)
                | trace_state
            · rw [if_neg hen]
              have hen' : ¬ at' s i3 = 125 := hen
              by_cases hco : at' s i3 = 44
              · rw [if_pos hco]
                repeat' (first |refine zfJ (t := 34) rfl rfl (le_ rfl) ?_|refine zaq (f := 110) 13 rfl rfl Tryz.call110 rfl rfl rfl rfl rfl k1 ?_|refine zaq (f := 48) 13 rfl rfl Tryz.call48 rfl rfl rfl rfl rfl v1 ?_|refine zaq (f := 77) 13 rfl rfl Tryz.call77 rfl rfl rfl rfl rfl c3 ?_|with_reducible (first |refine zag ?_|refine zaa ?_|refine zaf ?_|refine zad ?_|refine zae ?_|refine zap ?_|refine zaB ?_)|refine zab rfl rfl True.intro ?_|refine zav rfl ?_|((first |refine zac rfl ?_ ?_)<;>intro<;>try (first |(exfalso;omega)))|((first |refine zab rfl rfl ?_ ?_|refine zao rfl rfl ?_ ?_|refine zaw rfl ?_ ?_);focus (first |omega|exact le_ rfl|((repeat' refine And.intro ?_ ?_)<;>omega)|((repeat' refine And.intro ?_ ?_)<;>first |omega|rfl|exact Nat.le_refl _|exact le_ rfl)))|with_reducible refine ⟨by kernel_rfl, ?_⟩|fail)
                all_goals first
                  | exact ⟨(i3 + 1, l ++ [x], (ks ++ [k])), ⟨by dsimp only; omega, rfl, by dsimp only; omega, by dsimp only; omega⟩, by dsimp only; omega, ⟨rfl, rfl, rfl, rfl, rfl, trivial⟩, ⟨congrArg (fun x => some (Own.var [.s s, .i .i64 x])) (by omega), (by rw [hl1, hk1, ← e1, ← e2]; rfl), rfl, (by rw [hl1]; rfl), (by rw [hk1]; rfl), trivial⟩, rfl, fun q hq => by rw [hX] at hq; simp at hq; simp [hq]⟩
                  | trace_state
              · rw [if_neg hco]
                have c5 := zbn i3 3
                repeat' (first |(refine zbB (id := 9) 4 ?_;dsimp only [splitOp])|refine zfJ (t := 34) rfl rfl (le_ rfl) ?_|refine zaq (f := 110) 13 rfl rfl Tryz.call110 rfl rfl rfl rfl rfl k1 ?_|refine zaq (f := 48) 13 rfl rfl Tryz.call48 rfl rfl rfl rfl rfl v1 ?_|refine zaq (f := 77) 13 rfl rfl Tryz.call77 rfl rfl rfl rfl rfl c3 ?_|refine zdb rfl Tryz.call50 rfl c5 ?_|with_reducible (first |refine zag ?_|refine zaa ?_|refine zaf ?_|refine zad ?_|refine zae ?_|refine zaB ?_)|refine zab rfl rfl True.intro ?_|refine zav rfl ?_|((first |refine zac rfl ?_ ?_)<;>intro<;>try (first |(exfalso;omega)))|((first |refine zab rfl rfl ?_ ?_|refine zao rfl rfl ?_ ?_|refine zaw rfl ?_ ?_);focus (first |omega|exact le_ rfl|((repeat' refine And.intro ?_ ?_)<;>omega)|((repeat' refine And.intro ?_ ?_)<;>first |omega|rfl|exact Nat.le_refl _|exact le_ rfl)))|with_reducible refine ⟨by kernel_rfl, ?_⟩|refine zaW ?_|refine zbC ?_|refine zbe ⟨_, _, rfl, rfl, _, rfl⟩|fail)
set_option maxRecDepth 100000 in
set_option maxHeartbeats 8000000 in
theorem zgD (s : List UInt8) (val : Nat → JR) (d : Nat) (hs : s.length ≤ 1048576) (hd : d ≤ 100) (hv : ValOk s val) (hval : ∀ i, i ≤ s.length → RdE 48 [.pv 13 0, .i .i64 d] s i (valD (val i))) (i : Nat) (hi : i < s.length) :
    RdE 80 [.pv 13 0, .ag (litC (kindM false) false), .i .u8 (endM false), .i .i64 (d + 1 : Nat)] s i (valD (jmany s val false i)) := by
  refine zfL Tryz.func80 rfl Tryz.ntmps80 Tryz.results80 rfl zhX fun X hL hX => ?_
  have hd1 : ((d + 1 : Nat) : Int) - 1 = d := by omega
  have c0 : RdE 77 [.pv 13 0] s (i + 1) (peekD s (jpeek s (i + 1))) := zbO s (i + 1) hs hi
  have p0 := @zaV s (i + 1)
  unfold jmany
  cases h0 : jpeek s (i + 1) with
  | inr e =>
    obtain ⟨p, e⟩ := e
    rw [h0] at c0
    have c0' : CtrP Tryz.prog 77 [.pv 13 0] [(13, .var [.s s, .i .i64 ((i : Int) + 1)])] (pvS p e) [(13, .gone)] := c0
    repeat' (first |(refine zbB (id := 2) 1 ?_;dsimp only [splitOp])|refine zbl 13 rfl Tryz.call77 rfl rfl rfl rfl c0' ?_|with_reducible (first |refine zag ?_|refine zaa ?_|refine zaf ?_|refine zad ?_)|refine zab rfl rfl True.intro ?_|((first |refine zab rfl rfl ?_ ?_|refine zao rfl rfl ?_ ?_|refine zaw rfl ?_ ?_);focus (first |omega|exact le_ rfl|((repeat' refine And.intro ?_ ?_)<;>omega)|((repeat' refine And.intro ?_ ?_)<;>first |rfl|exact Nat.le_refl _)))|refine zaW ?_|refine zbe ⟨_, _, rfl, rfl, _, rfl⟩|fail)
  | inl j =>
    rw [h0] at c0
    have c0' : CtrO Tryz.prog 77 [.pv 13 0] [(13, .var [.s s, .i .i64 ((i : Int) + 1)])] (.i .u8 (at' s j)) [(13, .var [.s s, .i .i64 j])] := c0
    have p0 := p0 hi h0
    dsimp only
    by_cases he : at' s j = endM false
    · rw [if_pos he]
      have he' : at' s j = 93 := he
      repeat' (first |refine zaq (f := 77) 13 rfl rfl Tryz.call77 rfl rfl rfl rfl rfl c0' ?_|with_reducible (first |refine zag ?_|refine zaa ?_|refine zaf ?_|refine zad ?_|refine zaj ?_|refine zam ?_)|refine zab rfl rfl True.intro ?_|((first |refine zac rfl ?_ ?_)<;>intro<;>try (first |(exfalso;omega)))|((first |refine zab rfl rfl ?_ ?_|refine zao rfl rfl ?_ ?_|refine zaw rfl ?_ ?_);focus (first |omega|exact le_ rfl|((repeat' refine And.intro ?_ ?_)<;>omega)|((repeat' refine And.intro ?_ ?_)<;>first |rfl|exact Nat.le_refl _)))|refine zcS rfl ⟨_, _, rfl, ziI false, ?_⟩|fail)
      all_goals exact congrArg (fun x => some (Own.var [.s s, .i .i64 x])) (by omega)
    · rw [if_neg he]
      have he' : ¬ at' s j = 93 := he
      repeat' (first |refine zaq (f := 77) 13 rfl rfl Tryz.call77 rfl rfl rfl rfl rfl c0' ?_|with_reducible (first |refine zag ?_|refine zaa ?_|refine zaf ?_|refine zad ?_|refine zah ?_|refine zae ?_)|refine zab rfl rfl True.intro ?_|((first |refine zac rfl ?_ ?_)<;>intro<;>try (first |(exfalso;omega)))|((first |refine zab rfl rfl ?_ ?_|refine zao rfl rfl ?_ ?_|refine zaw rfl ?_ ?_);focus (first |omega|exact le_ rfl|((repeat' refine And.intro ?_ ?_)<;>omega)|((repeat' refine And.intro ?_ ?_)<;>first |rfl|exact Nat.le_refl _)))|fail)
      refine T.adoptV 5 6 100 55 8 _ (jF []) rfl rfl rfl ?_
      refine T.adoptV 5 7 101 9 1 _ (txF []) rfl rfl rfl ?_
      refine T.loop hL (fun _ : Nat × List J × List (List UInt8) => [(0, .pv 13 0), (2, .i .u8 (endM false)), (3, .i .i64 (d + 1 : Nat)), (5, .pv 5 0), (8, .pv 8 0)]) (fun x => [(13, .var [.s s, .i .i64 (x.1 : Nat)]), (5, .var [.i .i64 (kindM false), .b false, .b false, .s [], .i .i64 0, .s [], .gs 100 8 (x.2.1).length (jF (x.2.1)), .gs 101 1 (x.2.2).length (txF (x.2.2))]), (8, .var j0C), (100, .row 55 8 (x.2.1).length), (101, .row 9 1 (x.2.2).length)])
        (fun x => x.1 ≤ s.length ∧ jgo s val false j [] [] = jgo s val false x.1 x.2.1 x.2.2 ∧ x.2.1.length ≤ x.1 ∧ x.2.2.length ≤ x.1) (fun x => s.length - x.1) (j, [], []) ⟨by omega, rfl, Nat.zero_le _, Nat.zero_le _⟩
        ⟨⟨rfl, rfl, rfl, rfl, rfl, trivial⟩, ⟨rfl, rfl, rfl, rfl, rfl, trivial⟩, rfl, fun q hq => by rw [hX] at hq; simp at hq; simp [hq]⟩ ?_
      rintro ⟨i, l, ks⟩ ⟨hi, hI, hl, hks⟩
      dsimp only at hi hI hl hks ⊢
      rw [hI, zdV hv hi]
      clear hI c0 c0' h0
      unfold jkeys
      rw [if_neg Bool.false_ne_true]
      dsimp only
      have q1 : i ≤ i ∧ i ≤ s.length := ⟨Nat.le_refl _, hi⟩
      have v1 := hval i q1.2
      rw [← hd1] at v1
      have q2 := hv i
      cases h2 : val i with
      | inr e =>
        obtain ⟨p, e⟩ := e
        rw [h2] at v1
        repeat' (first |(refine zpt (id := 7) 5 ?_;dsimp only [splitOp3])|refine zhT 13 (.ag (litC 0 false)) rfl Tryz.call48 rfl rfl rfl rfl v1 ?_|with_reducible (first |refine zag ?_|refine zaa ?_|refine zaf ?_|refine zad ?_|refine zah ?_|refine zae ?_)|refine zab rfl rfl True.intro ?_|refine zal rfl ?_|((first |refine zab rfl rfl ?_ ?_|refine zao rfl rfl ?_ ?_|refine zaw rfl ?_ ?_);focus (first |omega|exact le_ rfl|((repeat' refine And.intro ?_ ?_)<;>omega)|((repeat' refine And.intro ?_ ?_)<;>first |omega|rfl|exact le_ rfl)))|with_reducible refine ⟨by kernel_rfl, ?_⟩|refine zaW ?_|refine zbC ?_|refine zbe ⟨_, _, rfl, rfl, _, rfl⟩|fail)
      | inl r =>
        obtain ⟨x, i2⟩ := r
        rw [h2] at v1
        have q2 := q2 x i2 q1.2 h2
        dsimp only
        obtain ⟨xk, xy, xn, xd, xe, xt, xl, xs⟩ := x
        replace v1 : RdE 48 [.pv 13 0, .i .i64 (((d + 1 : Nat) : Int) - 1)] s i (.inl (.ag [.i .i64 xk, .b xy, .b xn, .s xd, .i .i64 xe, .s xt, .sl 8 xl.length (jF xl), .sl 1 xs.length (txF xs)], i2)) := by
          rw [← zdT]
          exact v1
        have e2 := zfi l (.mk xk xy xn xd xe xt xl xs) (chunk 8 [.i .i64 xk, .b xy, .b xn, .s xd, .i .i64 xe, .s xt, .sl 8 xl.length (jF xl), .sl 1 xs.length (txF xs)]) (by rw [zdT]; rfl)
        skip
        generalize hX2 : J.mk xk xy xn xd xe xt xl xs = x at *
        have hl1 : (l ++ [x]).length = l.length + 1 := by simp
        skip
        have c3 := zbO s i2 hs q2.2
        cases h3 : jpeek s i2 with
        | inr e =>
          obtain ⟨p, e⟩ := e
          rw [h3] at c3
          repeat' (first |(refine zbB (id := 8) 1 ?_;dsimp only [splitOp])|refine zaq (f := 48) 13 rfl rfl Tryz.call48 rfl rfl rfl rfl rfl v1 ?_|refine zbl 13 rfl Tryz.call77 rfl rfl rfl rfl c3 ?_|with_reducible (first |refine zag ?_|refine zaa ?_|refine zaf ?_|refine zad ?_|refine zah ?_|refine zae ?_|refine zaB ?_)|refine zab rfl rfl True.intro ?_|refine zal rfl ?_|((first |refine zab rfl rfl ?_ ?_|refine zao rfl rfl ?_ ?_|refine zaw rfl ?_ ?_);focus (first |omega|exact le_ rfl|((repeat' refine And.intro ?_ ?_)<;>omega)|((repeat' refine And.intro ?_ ?_)<;>first |omega|rfl|exact le_ rfl)))|with_reducible refine ⟨by kernel_rfl, ?_⟩|refine zaW ?_|refine zbC ?_|refine zbe ⟨_, _, rfl, rfl, _, rfl⟩|fail)
        | inl i3 =>
          rw [h3] at c3
          have q3 := zaV q2.2 h3
          dsimp only
          by_cases hen : at' s i3 = endM false
          · rw [if_pos hen]
            have hen' : at' s i3 = 93 := hen
            repeat' (first |refine zaq (f := 48) 13 rfl rfl Tryz.call48 rfl rfl rfl rfl rfl v1 ?_|refine zaq (f := 77) 13 rfl rfl Tryz.call77 rfl rfl rfl rfl rfl c3 ?_|with_reducible (first |refine zag ?_|refine zaa ?_|refine zaf ?_|refine zad ?_|refine zaj ?_|refine zah ?_|refine zae ?_|refine zam ?_|refine zar ?_|refine zaB ?_)|refine zab rfl rfl True.intro ?_|refine zal rfl ?_|((first |refine zac rfl ?_ ?_)<;>intro<;>try (first |(exfalso;omega)))|((first |refine zab rfl rfl ?_ ?_|refine zao rfl rfl ?_ ?_|refine zaw rfl ?_ ?_);focus (first |omega|exact le_ rfl|((repeat' refine And.intro ?_ ?_)<;>omega)|((repeat' refine And.intro ?_ ?_)<;>first |omega|rfl|exact Nat.le_refl _|exact le_ rfl)))|with_reducible refine ⟨by kernel_rfl, ?_⟩|refine zcS rfl ⟨_, _, rfl, ?_, ?_⟩|fail)
            all_goals first
              | exact congrArg (fun x => some (Own.var [.s s, .i .i64 x])) (by omega)
              | (refine .of_eq ?_; unfold manyV; rw [zdT, hl1, ← e2]; rfl)
              | trace_state
          · rw [if_neg hen]
            have hen' : ¬ at' s i3 = 93 := hen
            by_cases hco : at' s i3 = 44
            · rw [if_pos hco]
              repeat' (first |refine zaq (f := 48) 13 rfl rfl Tryz.call48 rfl rfl rfl rfl rfl v1 ?_|refine zaq (f := 77) 13 rfl rfl Tryz.call77 rfl rfl rfl rfl rfl c3 ?_|with_reducible (first |refine zag ?_|refine zaa ?_|refine zaf ?_|refine zad ?_|refine zah ?_|refine zae ?_|refine zap ?_|refine zaB ?_)|refine zab rfl rfl True.intro ?_|refine zal rfl ?_|((first |refine zac rfl ?_ ?_)<;>intro<;>try (first |(exfalso;omega)))|((first |refine zab rfl rfl ?_ ?_|refine zao rfl rfl ?_ ?_|refine zaw rfl ?_ ?_);focus (first |omega|exact le_ rfl|((repeat' refine And.intro ?_ ?_)<;>omega)|((repeat' refine And.intro ?_ ?_)<;>first |omega|rfl|exact Nat.le_refl _|exact le_ rfl)))|with_reducible refine ⟨by kernel_rfl, ?_⟩|fail)
              all_goals first
                | exact ⟨(i3 + 1, l ++ [x], ks), ⟨by dsimp only; omega, rfl, by dsimp only; omega, by dsimp only; omega⟩, by dsimp only; omega, ⟨rfl, rfl, rfl, rfl, rfl, trivial⟩, ⟨congrArg (fun x => some (Own.var [.s s, .i .i64 x])) (by omega), (by rw [hl1, ← e2]; rfl), rfl, (by rw [hl1]; rfl), (by rfl), trivial⟩, rfl, fun q hq => by rw [hX] at hq; simp at hq; simp [hq]⟩
                | trace_state
            · rw [if_neg hco]
              have c5 := zbn i3 3
              repeat' (first |(refine zbB (id := 9) 4 ?_;dsimp only [splitOp])|refine zaq (f := 48) 13 rfl rfl Tryz.call48 rfl rfl rfl rfl rfl v1 ?_|refine zaq (f := 77) 13 rfl rfl Tryz.call77 rfl rfl rfl rfl rfl c3 ?_|refine zdb rfl Tryz.call50 rfl c5 ?_|with_reducible (first |refine zag ?_|refine zaa ?_|refine zaf ?_|refine zad ?_|refine zah ?_|refine zae ?_|refine zaB ?_)|refine zab rfl rfl True.intro ?_|refine zal rfl ?_|((first |refine zac rfl ?_ ?_)<;>intro<;>try (first |(exfalso;omega)))|((first |refine zab rfl rfl ?_ ?_|refine zao rfl rfl ?_ ?_|refine zaw rfl ?_ ?_);focus (first |omega|exact le_ rfl|((repeat' refine And.intro ?_ ?_)<;>omega)|((repeat' refine And.intro ?_ ?_)<;>first |omega|rfl|exact le_ rfl)))|with_reducible refine ⟨by kernel_rfl, ?_⟩|refine zaW ?_|refine zbC ?_|refine zbe ⟨_, _, rfl, rfl, _, rfl⟩|fail)

theorem zcx (k : Int) (y n : Bool) (d : List UInt8) (e : Int) (t : List UInt8) : Weak (.ag [.i .i64 k, .b y, .b n, .s d, .i .i64 e, .s t, .nilS, .nilS]) (.ag (jC (.mk k y n d e t [] []))) := by
  rw [zdT]
  refine .ag _ _ rfl fun j hj => ?_
  match j, hj with
  | 0, _ => exact .refl _
  | 1, _ => exact .refl _
  | 2, _ => exact .refl _
  | 3, _ => exact .refl _
  | 4, _ => exact .refl _
  | 5, _ => exact .refl _
  | 6, _ => exact .nil 8 _
  | 7, _ => exact .nil 1 _
set_option maxRecDepth 100000 in
set_option maxHeartbeats 8000000 in
theorem zlV (s : List UInt8) (hs : s.length ≤ 1048576) : ∀ d : Nat, d ≤ 100 → ∀ i, i ≤ s.length → RdE 48 [.pv 13 0, .i .i64 d] s i (valD (jval s d i)) := by
  intro d
  induction d with
  | zero =>
    intro _ i hi
    refine zfL Tryz.func48 rfl Tryz.ntmps48 Tryz.results48 rfl zhX fun X hL hX => ?_
    have c1 := zbO s i hs hi
    unfold jval
    cases h1 : jpeek s i with
    | inr e =>
      obtain ⟨p, e⟩ := e
      rw [h1] at c1
      repeat' (first |(refine zbB (id := 1) 1 ?_;dsimp only [splitOp])|refine zbl 13 rfl Tryz.call77 rfl rfl rfl rfl c1 ?_|with_reducible (first |refine zag ?_|refine zaa ?_|refine zaf ?_|refine zad ?_)|refine zab rfl rfl True.intro ?_|((first |refine zao rfl rfl ?_ ?_);focus (first |((repeat' refine And.intro ?_ ?_)<;>omega)|((repeat' refine And.intro ?_ ?_)<;>first |rfl)))|refine zaW ?_|refine zbe ⟨_, _, rfl, rfl, _, rfl⟩|fail)
    | inl j =>
      rw [h1] at c1
      dsimp only
      have c5 := zbn j 9
      repeat' (first |(refine zbB (id := 3) 4 ?_;dsimp only [splitOp])|refine zaq (f := 77) 13 rfl rfl Tryz.call77 rfl rfl rfl rfl rfl c1 ?_|refine zdb rfl Tryz.call50 rfl c5 ?_|with_reducible (first |refine zag ?_|refine zaa ?_|refine zaf ?_|refine zad ?_)|refine zab rfl rfl True.intro ?_|refine zav rfl ?_|((first |refine zab rfl rfl ?_ ?_|refine zao rfl rfl ?_ ?_);focus (first |exact le_ rfl|((repeat' refine And.intro ?_ ?_)<;>omega)|((repeat' refine And.intro ?_ ?_)<;>first |rfl)))|refine zaW ?_|refine zbe ⟨_, _, rfl, rfl, _, rfl⟩|fail)
  | succ d ih =>
    intro hd i hi
    have ih := ih (by omega)
    refine zfL Tryz.func48 rfl Tryz.ntmps48 Tryz.results48 rfl zhX fun X hL hX => ?_
    have c1 := zbO s i hs hi
    have q1 := @zaV s i
    unfold jval
    cases h1 : jpeek s i with
    | inr e =>
      obtain ⟨p, e⟩ := e
      rw [h1] at c1
      repeat' (first |(refine zbB (id := 1) 1 ?_;dsimp only [splitOp])|refine zbl 13 rfl Tryz.call77 rfl rfl rfl rfl c1 ?_|with_reducible (first |refine zag ?_|refine zaa ?_|refine zaf ?_|refine zad ?_)|refine zab rfl rfl True.intro ?_|((first |refine zao rfl rfl ?_ ?_);focus (first |((repeat' refine And.intro ?_ ?_)<;>omega)|((repeat' refine And.intro ?_ ?_)<;>first |rfl)))|refine zaW ?_|refine zbe ⟨_, _, rfl, rfl, _, rfl⟩|fail)
    | inl j =>
      rw [h1] at c1
      have q1 := q1 hi h1
      have hjl : j ≤ s.length := by omega
      dsimp only
      by_cases b0 : at' s j = 110
      · rw [if_pos b0]
        have w1 := zfW s nullW j 0 false hs (by decide) hjl
        unfold jword at w1 ⊢
        by_cases hp : Lib.hasPrefix (s.drop j) nullW = true
        · rw [if_pos hp] at w1 ⊢
          repeat' (first |refine zaq (f := 77) 13 rfl rfl Tryz.call77 rfl rfl rfl rfl rfl c1 ?_|refine zaq (f := 78) 13 rfl rfl Tryz.call78 rfl rfl rfl rfl rfl w1 ?_|with_reducible (first |refine zag ?_|refine zaa ?_|refine zaf ?_|refine zad ?_|refine zaj ?_|refine zah ?_|refine zae ?_|refine zam ?_|refine zar ?_)|refine zab rfl rfl True.intro ?_|refine zal rfl ?_|((first |refine zac rfl ?_ ?_)<;>intro<;>try (first |(exfalso;omega)))|((first |refine zao rfl rfl ?_ ?_|refine zaw rfl ?_ ?_);focus (first |((repeat' refine And.intro ?_ ?_)<;>omega)|((repeat' refine And.intro ?_ ?_)<;>first |rfl|exact Nat.le_refl _)))|refine zcS rfl ⟨_, _, rfl, ?_, rfl⟩|fail)
          all_goals exact zdQ 0 false
        · rw [if_neg hp] at w1 ⊢
          repeat' (first |(refine zbB (id := 6) 2 ?_;dsimp only [splitOp])|refine zaq (f := 77) 13 rfl rfl Tryz.call77 rfl rfl rfl rfl rfl c1 ?_|refine zbl 13 rfl Tryz.call78 rfl rfl rfl rfl w1 ?_|with_reducible (first |refine zag ?_|refine zaa ?_|refine zaf ?_|refine zad ?_|refine zah ?_|refine zae ?_)|refine zab rfl rfl True.intro ?_|refine zal rfl ?_|((first |refine zac rfl ?_ ?_)<;>intro<;>try (first |(exfalso;omega)))|((first |refine zao rfl rfl ?_ ?_);focus (first |((repeat' refine And.intro ?_ ?_)<;>omega)|((repeat' refine And.intro ?_ ?_)<;>first |rfl)))|refine zaW ?_|refine zbC ?_|refine zbe ⟨_, _, rfl, rfl, _, rfl⟩|fail)
      rw [if_neg b0]
      by_cases b1 : at' s j = 116
      · rw [if_pos b1]
        have w1 := zfW s trueW j 1 true hs (by decide) hjl
        unfold jword at w1 ⊢
        by_cases hp : Lib.hasPrefix (s.drop j) trueW = true
        · rw [if_pos hp] at w1 ⊢
          repeat' (first |refine zaq (f := 77) 13 rfl rfl Tryz.call77 rfl rfl rfl rfl rfl c1 ?_|refine zaq (f := 78) 13 rfl rfl Tryz.call78 rfl rfl rfl rfl rfl w1 ?_|with_reducible (first |refine zag ?_|refine zaa ?_|refine zaf ?_|refine zad ?_|refine zaj ?_|refine zah ?_|refine zae ?_|refine zam ?_|refine zar ?_)|refine zab rfl rfl True.intro ?_|refine zal rfl ?_|((first |refine zac rfl ?_ ?_)<;>intro<;>try (first |(exfalso;omega)))|((first |refine zao rfl rfl ?_ ?_|refine zaw rfl ?_ ?_);focus (first |((repeat' refine And.intro ?_ ?_)<;>omega)|((repeat' refine And.intro ?_ ?_)<;>first |rfl|exact Nat.le_refl _)))|refine zcS rfl ⟨_, _, rfl, ?_, rfl⟩|fail)
          all_goals exact zdQ 1 true
        · rw [if_neg hp] at w1 ⊢
          repeat' (first |(refine zbB (id := 8) 2 ?_;dsimp only [splitOp])|refine zaq (f := 77) 13 rfl rfl Tryz.call77 rfl rfl rfl rfl rfl c1 ?_|refine zbl 13 rfl Tryz.call78 rfl rfl rfl rfl w1 ?_|with_reducible (first |refine zag ?_|refine zaa ?_|refine zaf ?_|refine zad ?_|refine zah ?_|refine zae ?_)|refine zab rfl rfl True.intro ?_|refine zal rfl ?_|((first |refine zac rfl ?_ ?_)<;>intro<;>try (first |(exfalso;omega)))|((first |refine zao rfl rfl ?_ ?_);focus (first |((repeat' refine And.intro ?_ ?_)<;>omega)|((repeat' refine And.intro ?_ ?_)<;>first |rfl)))|refine zaW ?_|refine zbC ?_|refine zbe ⟨_, _, rfl, rfl, _, rfl⟩|fail)
      rw [if_neg b1]
      by_cases b2 : at' s j = 102
      · rw [if_pos b2]
        have w1 := zfW s falseW j 1 false hs (by decide) hjl
        unfold jword at w1 ⊢
        by_cases hp : Lib.hasPrefix (s.drop j) falseW = true
        · rw [if_pos hp] at w1 ⊢
          repeat' (first |refine zaq (f := 77) 13 rfl rfl Tryz.call77 rfl rfl rfl rfl rfl c1 ?_|refine zaq (f := 78) 13 rfl rfl Tryz.call78 rfl rfl rfl rfl rfl w1 ?_|with_reducible (first |refine zag ?_|refine zaa ?_|refine zaf ?_|refine zad ?_|refine zaj ?_|refine zah ?_|refine zae ?_|refine zam ?_|refine zar ?_)|refine zab rfl rfl True.intro ?_|refine zal rfl ?_|((first |refine zac rfl ?_ ?_)<;>intro<;>try (first |(exfalso;omega)))|((first |refine zao rfl rfl ?_ ?_|refine zaw rfl ?_ ?_);focus (first |((repeat' refine And.intro ?_ ?_)<;>omega)|((repeat' refine And.intro ?_ ?_)<;>first |rfl|exact Nat.le_refl _)))|refine zcS rfl ⟨_, _, rfl, ?_, rfl⟩|fail)
          all_goals exact zdQ 1 false
        · rw [if_neg hp] at w1 ⊢
          repeat' (first |(refine zbB (id := 10) 2 ?_;dsimp only [splitOp])|refine zaq (f := 77) 13 rfl rfl Tryz.call77 rfl rfl rfl rfl rfl c1 ?_|refine zbl 13 rfl Tryz.call78 rfl rfl rfl rfl w1 ?_|with_reducible (first |refine zag ?_|refine zaa ?_|refine zaf ?_|refine zad ?_|refine zah ?_|refine zae ?_)|refine zab rfl rfl True.intro ?_|refine zal rfl ?_|((first |refine zac rfl ?_ ?_)<;>intro<;>try (first |(exfalso;omega)))|((first |refine zao rfl rfl ?_ ?_);focus (first |((repeat' refine And.intro ?_ ?_)<;>omega)|((repeat' refine And.intro ?_ ?_)<;>first |rfl)))|refine zaW ?_|refine zbC ?_|refine zbe ⟨_, _, rfl, rfl, _, rfl⟩|fail)
      rw [if_neg b2]
      by_cases b3 : at' s j = 34
      · rw [if_pos b3]
        have w1 := zix s j hs hjl
        cases h2 : jtext s j with
        | inr e =>
          obtain ⟨p, e⟩ := e
          rw [h2] at w1
          repeat' (first |(refine zbB (id := 12) 1 ?_;dsimp only [splitOp])|refine zaq (f := 77) 13 rfl rfl Tryz.call77 rfl rfl rfl rfl rfl c1 ?_|refine zbl 13 rfl Tryz.call79 rfl rfl rfl rfl w1 ?_|with_reducible (first |refine zag ?_|refine zaa ?_|refine zaf ?_|refine zad ?_|refine zah ?_|refine zae ?_)|refine zab rfl rfl True.intro ?_|refine zal rfl ?_|((first |refine zac rfl ?_ ?_)<;>intro<;>try (first |(exfalso;omega)))|((first |refine zao rfl rfl ?_ ?_);focus (first |((repeat' refine And.intro ?_ ?_)<;>omega)|((repeat' refine And.intro ?_ ?_)<;>first |rfl)))|refine zaW ?_|refine zbC ?_|refine zbe ⟨_, _, rfl, rfl, _, rfl⟩|fail)
        | inl r =>
          obtain ⟨t, n⟩ := r
          rw [h2] at w1
          repeat' (first |refine zaq (f := 77) 13 rfl rfl Tryz.call77 rfl rfl rfl rfl rfl c1 ?_|refine zaq (f := 79) 13 rfl rfl Tryz.call79 rfl rfl rfl rfl rfl w1 ?_|with_reducible (first |refine zag ?_|refine zaa ?_|refine zaf ?_|refine zad ?_|refine zaj ?_|refine zah ?_|refine zae ?_|refine zam ?_|refine zar ?_)|refine zab rfl rfl True.intro ?_|refine zal rfl ?_|((first |refine zac rfl ?_ ?_)<;>intro<;>try (first |(exfalso;omega)))|((first |refine zao rfl rfl ?_ ?_|refine zaw rfl ?_ ?_);focus (first |((repeat' refine And.intro ?_ ?_)<;>omega)|((repeat' refine And.intro ?_ ?_)<;>first |rfl|exact Nat.le_refl _)))|refine zcS rfl ⟨_, _, rfl, ?_, rfl⟩|fail)
          all_goals exact zcx 3 false false [] 0 t
      rw [if_neg b3]
      by_cases b4 : at' s j = 91
      · rw [if_pos b4]
        have w1 := zgD s (jval s d) d hs (by omega) (zcb s d) ih j q1.2.1
        cases h2 : jmany s (jval s d) false j with
        | inr e =>
          obtain ⟨p, e⟩ := e
          rw [h2] at w1
          repeat' (first |(refine zbB (id := 14) 3 ?_;dsimp only [splitOp])|refine zaq (f := 77) 13 rfl rfl Tryz.call77 rfl rfl rfl rfl rfl c1 ?_|refine zbl 13 rfl Tryz.call80 rfl rfl rfl rfl w1 ?_|with_reducible (first |refine zag ?_|refine zaa ?_|refine zaf ?_|refine zad ?_|refine zah ?_|refine zae ?_)|refine zab rfl rfl True.intro ?_|refine zal rfl ?_|((first |refine zac rfl ?_ ?_)<;>intro<;>try (first |(exfalso;omega)))|((first |refine zao rfl rfl ?_ ?_);focus (first |((repeat' refine And.intro ?_ ?_)<;>omega)|((repeat' refine And.intro ?_ ?_)<;>first |rfl)))|refine zaW ?_|refine zbC ?_|refine zbe ⟨_, _, rfl, rfl, _, rfl⟩|fail)
        | inl r =>
          obtain ⟨⟨xk, xy, xn, xd, xe, xt, xl, xs⟩, n⟩ := r
          rw [h2] at w1
          replace w1 : RdE 80 [.pv 13 0, .ag (litC (kindM false) false), .i .u8 (endM false), .i .i64 (d + 1 : Nat)] s j (.inl (.ag [.i .i64 xk, .b xy, .b xn, .s xd, .i .i64 xe, .s xt, .sl 8 xl.length (jF xl), .sl 1 xs.length (txF xs)], n)) := by
            rw [← zdT]
            exact w1
          repeat' (first |refine zaq (f := 77) 13 rfl rfl Tryz.call77 rfl rfl rfl rfl rfl c1 ?_|refine zaq (f := 80) 13 rfl rfl Tryz.call80 rfl rfl rfl rfl rfl w1 ?_|with_reducible (first |refine zag ?_|refine zaa ?_|refine zaf ?_|refine zad ?_|refine zaj ?_|refine zah ?_|refine zae ?_|refine zam ?_|refine zar ?_)|refine zab rfl rfl True.intro ?_|refine zal rfl ?_|((first |refine zac rfl ?_ ?_)<;>intro<;>try (first |(exfalso;omega)))|((first |refine zao rfl rfl ?_ ?_|refine zaw rfl ?_ ?_);focus (first |((repeat' refine And.intro ?_ ?_)<;>omega)|((repeat' refine And.intro ?_ ?_)<;>first |rfl|exact Nat.le_refl _)))|refine zcS rfl ⟨_, _, rfl, ?_, rfl⟩|fail)
          all_goals exact .of_eq (by rw [zdT]; rfl)
      rw [if_neg b4]
      by_cases b5 : at' s j = 123
      · rw [if_pos b5]
        have w1 := zgH s (jval s d) d hs (by omega) (zcb s d) ih j q1.2.1
        cases h2 : jmany s (jval s d) true j with
        | inr e =>
          obtain ⟨p, e⟩ := e
          rw [h2] at w1
          repeat' (first |(refine zbB (id := 16) 3 ?_;dsimp only [splitOp])|refine zaq (f := 77) 13 rfl rfl Tryz.call77 rfl rfl rfl rfl rfl c1 ?_|refine zbl 13 rfl Tryz.call80 rfl rfl rfl rfl w1 ?_|with_reducible (first |refine zag ?_|refine zaa ?_|refine zaf ?_|refine zad ?_|refine zah ?_|refine zae ?_)|refine zab rfl rfl True.intro ?_|refine zal rfl ?_|((first |refine zac rfl ?_ ?_)<;>intro<;>try (first |(exfalso;omega)))|((first |refine zao rfl rfl ?_ ?_);focus (first |((repeat' refine And.intro ?_ ?_)<;>omega)|((repeat' refine And.intro ?_ ?_)<;>first |rfl)))|refine zaW ?_|refine zbC ?_|refine zbe ⟨_, _, rfl, rfl, _, rfl⟩|fail)
        | inl r =>
          obtain ⟨⟨xk, xy, xn, xd, xe, xt, xl, xs⟩, n⟩ := r
          rw [h2] at w1
          replace w1 : RdE 80 [.pv 13 0, .ag (litC (kindM true) false), .i .u8 (endM true), .i .i64 (d + 1 : Nat)] s j (.inl (.ag [.i .i64 xk, .b xy, .b xn, .s xd, .i .i64 xe, .s xt, .sl 8 xl.length (jF xl), .sl 1 xs.length (txF xs)], n)) := by
            rw [← zdT]
            exact w1
          repeat' (first |refine zaq (f := 77) 13 rfl rfl Tryz.call77 rfl rfl rfl rfl rfl c1 ?_|refine zaq (f := 80) 13 rfl rfl Tryz.call80 rfl rfl rfl rfl rfl w1 ?_|with_reducible (first |refine zag ?_|refine zaa ?_|refine zaf ?_|refine zad ?_|refine zaj ?_|refine zah ?_|refine zae ?_|refine zam ?_|refine zar ?_)|refine zab rfl rfl True.intro ?_|refine zal rfl ?_|((first |refine zac rfl ?_ ?_)<;>intro<;>try (first |(exfalso;omega)))|((first |refine zao rfl rfl ?_ ?_|refine zaw rfl ?_ ?_);focus (first |((repeat' refine And.intro ?_ ?_)<;>omega)|((repeat' refine And.intro ?_ ?_)<;>first |rfl|exact Nat.le_refl _)))|refine zcS rfl ⟨_, _, rfl, ?_, rfl⟩|fail)
          all_goals exact .of_eq (by rw [zdT]; rfl)
      rw [if_neg b5]
      have w1 := zkC s j hs hjl
      unfold jnum at w1 ⊢
      by_cases hz : (parseG powP (s.drop j)).2.2 = 0
      · rw [if_pos hz] at w1 ⊢
        have hw := zrl (parseG powP (s.drop j)).1
        repeat' (first |refine zaq (f := 77) 13 rfl rfl Tryz.call77 rfl rfl rfl rfl rfl c1 ?_|refine zaq (f := 81) 13 rfl rfl Tryz.call81 rfl rfl rfl rfl rfl w1 ?_|with_reducible (first |refine zag ?_|refine zaa ?_|refine zaf ?_|refine zad ?_|refine zaj ?_|refine zah ?_|refine zae ?_|refine zap ?_)|refine zab rfl rfl True.intro ?_|refine zal rfl ?_|((first |refine zac rfl ?_ ?_)<;>intro<;>try (first |(exfalso;omega)))|((first |refine zao rfl rfl ?_ ?_|refine zaw rfl ?_ ?_);focus (first |((repeat' refine And.intro ?_ ?_)<;>omega)|((repeat' refine And.intro ?_ ?_)<;>first |rfl|exact Nat.le_refl _)))|refine zcS rfl ⟨_, _, rfl, ?_, rfl⟩|fail)
        all_goals exact hw
      · rw [if_neg hz] at w1 ⊢
        repeat' (first |(refine zbB (id := 17) 1 ?_;dsimp only [splitOp])|refine zaq (f := 77) 13 rfl rfl Tryz.call77 rfl rfl rfl rfl rfl c1 ?_|refine zbl 13 rfl Tryz.call81 rfl rfl rfl rfl w1 ?_|with_reducible (first |refine zag ?_|refine zaa ?_|refine zaf ?_|refine zad ?_|refine zah ?_|refine zae ?_|refine zap ?_)|refine zab rfl rfl True.intro ?_|refine zal rfl ?_|((first |refine zac rfl ?_ ?_)<;>intro<;>try (first |(exfalso;omega)))|((first |refine zao rfl rfl ?_ ?_);focus (first |((repeat' refine And.intro ?_ ?_)<;>omega)|((repeat' refine And.intro ?_ ?_)<;>first |rfl)))|refine zaW ?_|refine zbe ⟨_, _, rfl, rfl, _, rfl⟩|fail)
end Go.Proofs.YtcajofhafpkbdaaGreatDoor.Flow
