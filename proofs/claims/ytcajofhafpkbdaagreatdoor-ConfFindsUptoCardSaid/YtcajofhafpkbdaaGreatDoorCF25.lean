/- The texts J4, J5, J6, J12, J15, J8, J16, J17, J22, one behind the other. -/
import Derived.Test.YtcajofhafpkbdaaGreatDoorCF11
import Derived.Test.YtcajofhafpkbdaaGreatDoorCF12
import Derived.Test.YtcajofhafpkbdaaGreatDoorCF18
import Derived.Test.YtcajofhafpkbdaaGreatDoorCF24
namespace Go.Proofs.YtcajofhafpkbdaaGreatDoor.Flow
open Go

section
variable {X : Ctx} {n : Nat} {all rest : List Oper} {fr : Fr} {ow : Ow} {tr : List (List Nat × List Nat)} {K : Fr → Ow → List (List Nat × List Nat) → Prop}
variable {t : Nat} {op : Op} {ty : TypeId} {pos : String} {af : Array Edge} {cs : List D} {p : Prop} {rd : List Nat}
theorem StepAt.told {P : Program} {o : Oper} {F : Nat → D} {O : Nat → Option Own} {d d' : D} {wr : List (Nat × Own)} (h : StepAt P X n o F O d wr) (hd : ∀ S w r v, Rel S w r d v → Rel S w r d' v) : StepAt P X n o F O d' wr := fun a w K Q hr hK =>
  h a w K Q hr fun v w' hrep => hK v w' (by
    obtain ⟨S, r, h1, h2, h3, h4, h5, h6⟩ := hrep
    refine ⟨S, r, h1, h2, fun u => ?_, h4, h5, h6⟩
    have h7 := h3 u
    generalize o.dst = dst at h7
    cases dst with
    | none => exact h7
    | some t0 =>
      by_cases e : u = t0
      · simp only [updF, e, if_true] at h7 ⊢
        exact hd _ _ _ _ h7
      · simp only [updF, e, if_false] at h7 ⊢
        exact h7)
set_option maxRecDepth 100000 in
theorem zpN (hs : step B (ev fr) (fun k => look k ow) ⟨some t, op, ty, pos, af, none⟩ = some ⟨.ag cs, p, rd, []⟩) (hn : Nat.blt t n = true) (hp : p) (h : CT Tryz.prog X n all rest ((t, .ag (cs.map D.shut)) :: fr) ow (tr ++ [(rd, [])]) K) :
    CT Tryz.prog X n all (⟨some t, op, ty, pos, af, none⟩ :: rest) fr ow tr K := by
  rw [← zch] at hs
  exact CT.cons (e := ⟨.ag (cs.map D.shut), rd, []⟩) (.plain rfl fun F' O' h1 h2 => (zbL (P := Tryz.prog) (X := X) (n := n) hs hp (show t < n from Nat.le_of_ble_eq_true hn) F' O' h1 h2).told fun S w r v hr => hr.shutA) (zaX ..) rfl h
end

theorem zmg (l : List (List UInt8)) (v : List UInt8) (gf : Nat → List D) (hg : gf 0 = [.s v]) : catF l.length (txF l) 1 gf = txF (l ++ [v]) := by
  funext j
  unfold catF txF
  by_cases h : j < l.length
  · rw [if_pos h]
    simp [List.getD_eq_getElem?_getD, List.getElem?_append_left h]
  · rw [if_neg h]
    by_cases h2 : j < l.length + 1
    · obtain rfl : j = l.length := by omega
      rw [if_pos h2, Nat.sub_self, hg]
      simp [List.getD_eq_getElem?_getD]
    · rw [if_neg h2]
      simp [List.getD_eq_getElem?_getD, List.getElem?_append_right (show l.length ≤ j by omega)]
      rw [List.getElem?_eq_none (show l.length ≤ j by omega), List.getElem?_eq_none (show [v].length ≤ j - l.length by simp; omega)]
theorem znL : ∀ (l : List J) (x : J) (i : Nat), jF (l ++ [x]) i = if i = l.length then jC x else jF l i
  | [], x, 0 => by rw [List.nil_append, jF]; rfl
  | [], x, i + 1 => by
    rw [List.nil_append, jF, jF]
    rfl
  | y :: r, x, 0 => by
    rw [List.cons_append, jF, jF]
    rfl
  | y :: r, x, i + 1 => by
    rw [List.cons_append, jF, jF, znL r x i, List.length_cons]
    by_cases h : i = r.length
    · rw [if_pos h, if_pos (by omega)]
    · rw [if_neg h, if_neg (by omega)]
theorem zoH : ∀ (l : List J) (i : Nat), l.length ≤ i → jF l i = []
  | [], _, _ => by rw [jF]
  | _ :: r, 0, h => by simp at h
  | _ :: r, i + 1, h => by
    rw [jF]
    exact zoH r i (by simpa using h)
theorem zfz (l : List J) (x : J) (gf : Nat → List D) (hg : gf 0 = jC x) : catF l.length (jF l) 1 gf = jF (l ++ [x]) := by
  funext j
  rw [znL]
  unfold catF
  by_cases h : j < l.length
  · rw [if_pos h, if_neg (by omega)]
  · rw [if_neg h]
    by_cases h2 : j < l.length + 1
    · obtain rfl : j = l.length := by omega
      rw [if_pos h2, Nat.sub_self, hg, if_pos rfl]
    · rw [if_neg h2, if_neg (by omega)]

def idxJ (k : List UInt8) : List (List UInt8) → Int
  | [] => -1
  | x :: r => if x = k then 0 else if idxJ k r = -1 then -1 else idxJ k r + 1
theorem ziA {k : List UInt8} : ∀ {l : List (List UInt8)} {i : Nat}, (∀ j, j < i → ¬ l.getD j [] = k) → i < l.length → l.getD i [] = k → idxJ k l = i
  | [], _, _, h, _ => by simp at h
  | x :: r, 0, _, _, h => if_pos h
  | x :: r, i + 1, h1, h2, h3 => by
    have h0 : ¬ x = k := h1 0 (by omega)
    have ih := ziA (k := k) (l := r) (i := i) (fun j hj => by have := h1 (j + 1) (by omega); simpa using this) (by simpa using h2) (by simpa using h3)
    unfold idxJ
    rw [if_neg h0, ih, if_neg (by omega)]
    push_cast
    rfl
theorem zhw {k : List UInt8} : ∀ {l : List (List UInt8)}, (∀ j, j < l.length → ¬ l.getD j [] = k) → idxJ k l = -1
  | [], _ => rfl
  | x :: r, h1 => by
    have h0 : ¬ x = k := h1 0 (by simp)
    have ih := zhw (k := k) (l := r) (fun j hj => by have := h1 (j + 1) (by simpa using hj); simpa using this)
    unfold idxJ
    rw [if_neg h0, ih]
    rfl
theorem ziR {k : List UInt8} : ∀ {l : List (List UInt8)}, (0 ≤ idxJ k l ↔ k ∈ l) ∧ -1 ≤ idxJ k l ∧ idxJ k l < l.length
  | [] => by simp [idxJ]
  | x :: r => by
    have ih := ziR (k := k) (l := r)
    unfold idxJ
    by_cases h0 : x = k
    · rw [if_pos h0, List.length_cons]
      exact ⟨⟨fun _ => by simp [h0], fun _ => Int.le_refl _⟩, by omega, by omega⟩
    · rw [if_neg h0, List.length_cons]
      have hm : k ∈ x :: r ↔ k ∈ r := by
        rw [List.mem_cons]
        exact ⟨fun h => h.elim (fun e => absurd e.symm h0) id, .inr⟩
      rw [hm, ← ih.1]
      split
      · rename_i h
        exact ⟨⟨fun q => absurd q (by decide), fun q => by omega⟩, by omega, by omega⟩
      · exact ⟨⟨fun q => by omega, fun q => by omega⟩, by omega, by omega⟩

set_option maxRecDepth 100000 in
set_option maxHeartbeats 1000000 in
theorem zjI (l : List (List UInt8)) (k : List UInt8) (hl : l.length ≤ 4194304) : Ctr Tryz.prog 115 [.sl 1 l.length (txF l), .s k] (.i .i64 (idxJ k l)) := by
  refine zbe Tryz.func115 rfl Tryz.ntmps115 Tryz.results115 rfl rfl fun X hL hX => ?_
  repeat' (first |with_reducible (first |refine zaK ?_|refine zaj ?_|refine zaL ?_|refine zaB ?_|refine zaO ?_|refine zaD ?_|refine zaC ?_|refine zar ?_|refine zaq ?_|refine zaI ?_|refine zaE ?_|refine zas ?_|refine zaH ?_)|refine zaw rfl rfl True.intro ?_|refine zau rfl rfl rfl ?_|refine zao rfl rfl rfl ?_|refine zag rfl rfl rfl rfl True.intro ?_|refine zaF rfl ?_|refine zat rfl ?_|((first |refine zal rfl ?_ ?_|refine zan rfl ?_ ?_|refine zak rfl ?_ ?_|refine zam rfl ?_ ?_|refine zap rfl ?_ ?_|refine zaA rfl ?_ ?_|refine zad rfl rfl ?_ ?_|refine zae rfl rfl ?_ ?_|refine zaf rfl rfl ?_ ?_|refine zac rfl rfl ?_ ?_|refine zab rfl rfl ?_ ?_)<;>intro<;>try (first |(rename_i hz;first |exact tf_ hz|exact ft_ hz)|(exfalso;omega)))|((first |refine zaw rfl rfl ?_ ?_|refine zag rfl rfl rfl rfl ?_ ?_|refine zaM rfl rfl ?_ ?_|refine zaJ rfl ?_ ?_|refine zaG rfl rfl rfl rfl ?_ ?_);focus (first |omega|exact le_ rfl|((repeat first |rw [zay]|rw [wi6_]|rw [wi3_]|rw [zai]|rw [zah]);(repeat' refine And.intro ?_ ?_)<;>omega)|((repeat' refine And.intro ?_ ?_)<;>first |omega|rfl|exact Nat.le_refl _|exact le_ rfl|exact zaa _)|(simp_all;done)|(simp_all;omega)))|refine zaP rfl ?_|refine zaz rfl ?_|with_reducible refine ⟨by kernel_rfl, ?_⟩|refine zaQ rfl ?_|refine zaT rfl ?_|((with_reducible refine zaN ?_);(fail_if_success (refine zax true rfl rfl rfl ?_));(fail_if_success (refine zax false rfl rfl rfl ?_));refine zav rfl rfl (fun _ => ?_) (fun _ => ?_)))
  refine T.loop hL (fun i : Nat => [(0, .sl 1 l.length (txF l)), (1, .s k), (7, .i .i64 l.length), (8, .i .i64 i)]) (fun _ => [])
    (fun i => i ≤ l.length ∧ ∀ j, j < i → ¬ l.getD j [] = k) (fun i => l.length - i) 0 ⟨Nat.zero_le _, fun j h => absurd h (Nat.not_lt_zero _)⟩
    ⟨⟨rfl, rfl, rfl, rfl, trivial⟩, trivial, rfl, by rw [hX]; simp⟩ ?_
  rintro i ⟨h1, h2⟩
  have hnat : (i : Int).toNat = i := Int.toNat_natCast i
  by_cases hil : i < l.length
  · by_cases hq : l.getD i [] = k
    · have hq' : k = l.getD (i : Int).toNat [] := by rw [hnat]; exact hq.symm
      have hq2 : l.getD (i : Int).toNat [] = k := hq'.symm
      rw [ziA h2 hil hq]
      repeat' (first |with_reducible (first |refine zaK ?_|refine zaj ?_|refine zaL ?_|refine zaB ?_|refine zaO ?_|refine zaD ?_|refine zaC ?_|refine zar ?_|refine zaq ?_|refine zaI ?_|refine zaE ?_|refine zas ?_|refine zaH ?_)|refine zaw rfl rfl True.intro ?_|refine zau rfl rfl rfl ?_|refine zao rfl rfl rfl ?_|refine zag rfl rfl rfl rfl True.intro ?_|refine zaF rfl ?_|refine zat rfl ?_|((first |refine zal rfl ?_ ?_|refine zan rfl ?_ ?_|refine zak rfl ?_ ?_|refine zam rfl ?_ ?_|refine zap rfl ?_ ?_|refine zaA rfl ?_ ?_|refine zad rfl rfl ?_ ?_|refine zae rfl rfl ?_ ?_|refine zaf rfl rfl ?_ ?_|refine zac rfl rfl ?_ ?_|refine zab rfl rfl ?_ ?_)<;>intro<;>try (first |(rename_i hz;first |exact tf_ hz|exact ft_ hz)|(exfalso;omega)))|((first |refine zaw rfl rfl ?_ ?_|refine zag rfl rfl rfl rfl ?_ ?_|refine zaM rfl rfl ?_ ?_|refine zaJ rfl ?_ ?_|refine zaG rfl rfl rfl rfl ?_ ?_);focus (first |omega|exact le_ rfl|((repeat first |rw [zay]|rw [wi6_]|rw [wi3_]|rw [zai]|rw [zah]);(repeat' refine And.intro ?_ ?_)<;>omega)|((repeat' refine And.intro ?_ ?_)<;>first |omega|rfl|exact Nat.le_refl _|exact le_ rfl|exact zaa _)|(simp_all;done)|(simp_all;omega)))|refine zaP rfl ?_|refine zaz rfl ?_|with_reducible refine ⟨by kernel_rfl, ?_⟩|refine zaQ rfl ?_|refine zaT rfl ?_|((with_reducible refine zaN ?_);(fail_if_success (refine zax true rfl rfl rfl ?_));(fail_if_success (refine zax false rfl rfl rfl ?_));refine zav rfl rfl (fun _ => ?_) (fun _ => ?_)))
      all_goals first
        | rfl
        | (exfalso; rename_i q; exact q hq')
        | (exfalso; rename_i q; exact q hq2)
    · have hq' : ¬ k = l.getD (i : Int).toNat [] := by rw [hnat]; exact fun e => hq e.symm
      have hq2 : ¬ l.getD (i : Int).toNat [] = k := fun e => hq' e.symm
      repeat' (first |with_reducible (first |refine zaK ?_|refine zaj ?_|refine zaL ?_|refine zaB ?_|refine zaO ?_|refine zaD ?_|refine zaC ?_|refine zar ?_|refine zaq ?_|refine zaI ?_|refine zaE ?_|refine zas ?_|refine zaH ?_)|refine zaw rfl rfl True.intro ?_|refine zau rfl rfl rfl ?_|refine zao rfl rfl rfl ?_|refine zag rfl rfl rfl rfl True.intro ?_|refine zaF rfl ?_|refine zat rfl ?_|((first |refine zal rfl ?_ ?_|refine zan rfl ?_ ?_|refine zak rfl ?_ ?_|refine zam rfl ?_ ?_|refine zap rfl ?_ ?_|refine zaA rfl ?_ ?_|refine zad rfl rfl ?_ ?_|refine zae rfl rfl ?_ ?_|refine zaf rfl rfl ?_ ?_|refine zac rfl rfl ?_ ?_|refine zab rfl rfl ?_ ?_)<;>intro<;>try (first |(rename_i hz;first |exact tf_ hz|exact ft_ hz)|(exfalso;omega)))|((first |refine zaw rfl rfl ?_ ?_|refine zag rfl rfl rfl rfl ?_ ?_|refine zaM rfl rfl ?_ ?_|refine zaJ rfl ?_ ?_|refine zaG rfl rfl rfl rfl ?_ ?_);focus (first |omega|exact le_ rfl|((repeat first |rw [zay]|rw [wi6_]|rw [wi3_]|rw [zai]|rw [zah]);(repeat' refine And.intro ?_ ?_)<;>omega)|((repeat' refine And.intro ?_ ?_)<;>first |omega|rfl|exact Nat.le_refl _|exact le_ rfl|exact zaa _)|(simp_all;done)|(simp_all;omega)))|refine zaP rfl ?_|refine zaz rfl ?_|with_reducible refine ⟨by kernel_rfl, ?_⟩|refine zaQ rfl ?_|refine zaT rfl ?_|((with_reducible refine zaN ?_);(fail_if_success (refine zax true rfl rfl rfl ?_));(fail_if_success (refine zax false rfl rfl rfl ?_));refine zav rfl rfl (fun _ => ?_) (fun _ => ?_)))
      all_goals first
        | (exfalso; rename_i q; exact hq' q)
        | (exfalso; rename_i q; exact hq2 q)
        | exact ⟨i + 1, ⟨by omega, fun j hj => by
            by_cases e : j = i
            · subst e; exact hq
            · exact h2 j (by omega)⟩, by omega, ⟨rfl, rfl, rfl, congrArg (D.i .i64) (by omega), trivial⟩, trivial, rfl, by rw [hX]; simp⟩
  · rw [zhw (fun j hj => h2 j (by omega))]
    repeat' (first |with_reducible (first |refine zaK ?_|refine zaj ?_|refine zaL ?_|refine zaB ?_|refine zaO ?_|refine zaD ?_|refine zaC ?_|refine zar ?_|refine zaq ?_|refine zaI ?_|refine zaE ?_|refine zas ?_|refine zaH ?_)|refine zaw rfl rfl True.intro ?_|refine zau rfl rfl rfl ?_|refine zao rfl rfl rfl ?_|refine zag rfl rfl rfl rfl True.intro ?_|refine zaF rfl ?_|refine zat rfl ?_|((first |refine zal rfl ?_ ?_|refine zan rfl ?_ ?_|refine zak rfl ?_ ?_|refine zam rfl ?_ ?_|refine zap rfl ?_ ?_|refine zaA rfl ?_ ?_|refine zad rfl rfl ?_ ?_|refine zae rfl rfl ?_ ?_|refine zaf rfl rfl ?_ ?_|refine zac rfl rfl ?_ ?_|refine zab rfl rfl ?_ ?_)<;>intro<;>try (first |(rename_i hz;first |exact tf_ hz|exact ft_ hz)|(exfalso;omega)))|((first |refine zaw rfl rfl ?_ ?_|refine zag rfl rfl rfl rfl ?_ ?_|refine zaM rfl rfl ?_ ?_|refine zaJ rfl ?_ ?_|refine zaG rfl rfl rfl rfl ?_ ?_);focus (first |omega|exact le_ rfl|((repeat first |rw [zay]|rw [wi6_]|rw [wi3_]|rw [zai]|rw [zah]);(repeat' refine And.intro ?_ ?_)<;>omega)|((repeat' refine And.intro ?_ ?_)<;>first |omega|rfl|exact Nat.le_refl _|exact le_ rfl|exact zaa _)|(simp_all;done)|(simp_all;omega)))|refine zaP rfl ?_|refine zaz rfl ?_|with_reducible refine ⟨by kernel_rfl, ?_⟩|refine zaQ rfl ?_|refine zaT rfl ?_|((with_reducible refine zaN ?_);(fail_if_success (refine zax true rfl rfl rfl ?_));(fail_if_success (refine zax false rfl rfl rfl ?_));refine zav rfl rfl (fun _ => ?_) (fun _ => ?_)))
    all_goals rfl

theorem zgL (l : List (List UInt8)) (k : List UInt8) (hl : l.length ≤ 4194304) : Ctr Tryz.prog 134 [.sl 1 l.length (txF l), .s k] (.b (decide (k ∈ l))) := by
  have c1 := zjI l k hl
  have e : decide (k ∈ l) = decide (0 ≤ idxJ k l) := by
    rw [decide_eq_decide]
    exact ziR.1.symm
  rw [e]
  refine zbe Tryz.func134 rfl Tryz.ntmps134 Tryz.results134 rfl rfl fun X hL hX => ?_
  repeat' (first |refine zaR (f := 115) rfl rfl Tryz.call115 rfl c1 ?_|with_reducible (first |refine zaK ?_|refine zaj ?_|refine zaL ?_|refine zaB ?_|refine zaO ?_|refine zaD ?_|refine zaC ?_|refine zar ?_|refine zaq ?_|refine zaI ?_|refine zaE ?_|refine zas ?_|refine zaH ?_)|refine zaw rfl rfl True.intro ?_|refine zau rfl rfl rfl ?_|refine zao rfl rfl rfl ?_|refine zag rfl rfl rfl rfl True.intro ?_|refine zaF rfl ?_|refine zat rfl ?_|((first |refine zal rfl ?_ ?_|refine zan rfl ?_ ?_|refine zak rfl ?_ ?_|refine zam rfl ?_ ?_|refine zap rfl ?_ ?_|refine zaA rfl ?_ ?_|refine zad rfl rfl ?_ ?_|refine zae rfl rfl ?_ ?_|refine zaf rfl rfl ?_ ?_|refine zac rfl rfl ?_ ?_|refine zab rfl rfl ?_ ?_)<;>intro<;>try (first |(rename_i hz;first |exact tf_ hz|exact ft_ hz)|(exfalso;omega)))|((first |refine zaw rfl rfl ?_ ?_|refine zag rfl rfl rfl rfl ?_ ?_|refine zaM rfl rfl ?_ ?_|refine zaJ rfl ?_ ?_|refine zaG rfl rfl rfl rfl ?_ ?_);focus (first |omega|exact le_ rfl|((repeat first |rw [zay]|rw [wi6_]|rw [wi3_]|rw [zai]|rw [zah]);(repeat' refine And.intro ?_ ?_)<;>omega)|((repeat' refine And.intro ?_ ?_)<;>first |omega|rfl|exact Nat.le_refl _|exact le_ rfl|exact zaa _)|(simp_all;done)|(simp_all;omega)))|refine zaP rfl ?_|refine zaz rfl ?_|with_reducible refine ⟨by kernel_rfl, ?_⟩|refine zaQ rfl ?_|refine zaT rfl ?_|((with_reducible refine zaN ?_);(fail_if_success (refine zax true rfl rfl rfl ?_));(fail_if_success (refine zax false rfl rfl rfl ?_));refine zav rfl rfl (fun _ => ?_) (fun _ => ?_)))
  all_goals rfl

def keyD : Sum (List UInt8 × Nat) (Nat × Int) → Sum (D × Nat) (Nat × Int)
  | .inl (k, n) => .inl (.s k, n)
  | .inr e => .inr e
set_option maxRecDepth 100000 in
set_option maxHeartbeats 2000000 in
theorem key_jctr (s : List UInt8) (i : Nat) (l : List J) (ks : List (List UInt8)) (hs : s.length ≤ 1048576) (hi : i ≤ s.length) (hk : ks.length ≤ 4194304) :
    RdE 110 [.pv 13 0, .ag [.i .i64 5, .b false, .b false, .s [], .i .i64 0, .s [], .sl 8 l.length (jF l), .sl 1 ks.length (txF ks)]] s i (keyD (jkey s i ks)) := by
  refine zoK Tryz.func110 rfl Tryz.ntmps110 Tryz.results110 rfl (fun d n h => by
    unfold keyD at h
    split at h <;> cases h
    rfl) fun X hL hX => ?_
  have c1 := zhp s i hs hi
  have p1 := @zcj s i
  unfold jkey
  cases h1 : jpeek s i with
  | inr e =>
    obtain ⟨p, e⟩ := e
    rw [h1] at c1
    repeat' (first |(refine zfp (id := 1) 1 ?_;dsimp only [splitOp])|refine zij 13 rfl Tryz.call77 rfl rfl rfl rfl c1 ?_|with_reducible (first |refine zaK ?_|refine zaj ?_|refine zaL ?_|refine zaB ?_|refine zaO ?_|refine zaD ?_|refine zaC ?_|refine zar ?_|refine zaq ?_|refine zaI ?_|refine zaE ?_|refine zas ?_|refine zaH ?_)|refine zaw rfl rfl True.intro ?_|refine zau rfl rfl rfl ?_|refine zao rfl rfl rfl ?_|refine zag rfl rfl rfl rfl True.intro ?_|refine zaF rfl ?_|refine zat rfl ?_|((first |refine zal rfl ?_ ?_|refine zan rfl ?_ ?_|refine zak rfl ?_ ?_|refine zam rfl ?_ ?_|refine zap rfl ?_ ?_|refine zaA rfl ?_ ?_|refine zad rfl rfl ?_ ?_|refine zae rfl rfl ?_ ?_|refine zaf rfl rfl ?_ ?_|refine zac rfl rfl ?_ ?_|refine zab rfl rfl ?_ ?_)<;>intro<;>try (first |(rename_i hz;first |exact tf_ hz|exact ft_ hz)|(exfalso;omega)))|((first |refine zaw rfl rfl ?_ ?_|refine zag rfl rfl rfl rfl ?_ ?_|refine zaM rfl rfl ?_ ?_|refine zaJ rfl ?_ ?_|refine zaG rfl rfl rfl rfl ?_ ?_);focus (first |omega|exact le_ rfl|((repeat first |rw [zay]|rw [wi6_]|rw [wi3_]|rw [zai]|rw [zah]);(repeat' refine And.intro ?_ ?_)<;>omega)|((repeat' refine And.intro ?_ ?_)<;>first |omega|rfl|exact Nat.le_refl _|exact le_ rfl|exact zaa _)|(simp_all;done)|(simp_all;omega)))|refine zaP rfl ?_|refine zaz rfl ?_|with_reducible refine ⟨by kernel_rfl, ?_⟩|refine zdm ?_|refine zcn ?_|refine zfx ⟨_, _, rfl, rfl, _, rfl⟩|((with_reducible refine zaN ?_);(fail_if_success (refine zax true rfl rfl rfl ?_));(fail_if_success (refine zax false rfl rfl rfl ?_));refine zav rfl rfl (fun _ => ?_) (fun _ => ?_)))
  | inl j =>
    rw [h1] at c1
    have p1 := p1 hi h1
    dsimp only
    by_cases hq : at' s j = 34
    · rw [if_neg (fun q => q hq)]
      have c2 := zlt s j hs (by omega)
      cases h2 : jtext s j with
      | inr e =>
        obtain ⟨p, e⟩ := e
        rw [h2] at c2
        repeat' (first |(refine zfp (id := 4) 1 ?_;dsimp only [splitOp])|refine zbx (f := 77) 13 rfl rfl Tryz.call77 rfl rfl rfl rfl rfl c1 ?_|refine zij 13 rfl Tryz.call79 rfl rfl rfl rfl c2 ?_|with_reducible (first |refine zaK ?_|refine zaj ?_|refine zaL ?_|refine zaB ?_|refine zaO ?_|refine zaD ?_|refine zaC ?_|refine zar ?_|refine zaq ?_|refine zaI ?_|refine zaE ?_|refine zas ?_|refine zaH ?_)|refine zaw rfl rfl True.intro ?_|refine zau rfl rfl rfl ?_|refine zao rfl rfl rfl ?_|refine zag rfl rfl rfl rfl True.intro ?_|refine zaF rfl ?_|refine zat rfl ?_|((first |refine zal rfl ?_ ?_|refine zan rfl ?_ ?_|refine zak rfl ?_ ?_|refine zam rfl ?_ ?_|refine zap rfl ?_ ?_|refine zaA rfl ?_ ?_|refine zad rfl rfl ?_ ?_|refine zae rfl rfl ?_ ?_|refine zaf rfl rfl ?_ ?_|refine zac rfl rfl ?_ ?_|refine zab rfl rfl ?_ ?_)<;>intro<;>try (first |(rename_i hz;first |exact tf_ hz|exact ft_ hz)|(exfalso;omega)))|((first |refine zaw rfl rfl ?_ ?_|refine zag rfl rfl rfl rfl ?_ ?_|refine zaM rfl rfl ?_ ?_|refine zaJ rfl ?_ ?_|refine zaG rfl rfl rfl rfl ?_ ?_);focus (first |omega|exact le_ rfl|((repeat first |rw [zay]|rw [wi6_]|rw [wi3_]|rw [zai]|rw [zah]);(repeat' refine And.intro ?_ ?_)<;>omega)|((repeat' refine And.intro ?_ ?_)<;>first |omega|rfl|exact Nat.le_refl _|exact le_ rfl|exact zaa _)|(simp_all;done)|(simp_all;omega)))|refine zaP rfl ?_|refine zaz rfl ?_|with_reducible refine ⟨by kernel_rfl, ?_⟩|refine zdm ?_|refine zcn ?_|refine zfx ⟨_, _, rfl, rfl, _, rfl⟩|((with_reducible refine zaN ?_);(fail_if_success (refine zax true rfl rfl rfl ?_));(fail_if_success (refine zax false rfl rfl rfl ?_));refine zav rfl rfl (fun _ => ?_) (fun _ => ?_)))
      | inl r =>
        obtain ⟨k, n⟩ := r
        rw [h2] at c2
        have p2 := zgC h2
        dsimp only
        have c3 := zgL ks k hk
        have c4 := zhp s n hs p2.2
        by_cases hm : k ∈ ks
        · rw [if_pos hm]
          rw [decide_eq_true hm] at c3
          have c5 := zcx j 3
          repeat' (first |(refine zfp (id := 6) 1 ?_;dsimp only [splitOp])|refine zbx (f := 77) 13 rfl rfl Tryz.call77 rfl rfl rfl rfl rfl c1 ?_|refine zbx (f := 79) 13 rfl rfl Tryz.call79 rfl rfl rfl rfl rfl c2 ?_|refine zaR (f := 134) rfl rfl Tryz.call134 rfl c3 ?_|refine zfH rfl Tryz.call50 rfl c5 ?_|with_reducible (first |refine zaK ?_|refine zaj ?_|refine zaL ?_|refine zaB ?_|refine zaO ?_|refine zaD ?_|refine zaC ?_|refine zar ?_|refine zaq ?_|refine zaI ?_|refine zaE ?_|refine zas ?_|refine zaH ?_)|refine zaw rfl rfl True.intro ?_|refine zau rfl rfl rfl ?_|refine zao rfl rfl rfl ?_|refine zag rfl rfl rfl rfl True.intro ?_|refine zaF rfl ?_|refine zat rfl ?_|((first |refine zal rfl ?_ ?_|refine zan rfl ?_ ?_|refine zak rfl ?_ ?_|refine zam rfl ?_ ?_|refine zap rfl ?_ ?_|refine zaA rfl ?_ ?_|refine zad rfl rfl ?_ ?_|refine zae rfl rfl ?_ ?_|refine zaf rfl rfl ?_ ?_|refine zac rfl rfl ?_ ?_|refine zab rfl rfl ?_ ?_)<;>intro<;>try (first |(rename_i hz;first |exact tf_ hz|exact ft_ hz)|(exfalso;omega)))|((first |refine zaw rfl rfl ?_ ?_|refine zag rfl rfl rfl rfl ?_ ?_|refine zaM rfl rfl ?_ ?_|refine zaJ rfl ?_ ?_|refine zaG rfl rfl rfl rfl ?_ ?_);focus (first |omega|exact le_ rfl|((repeat first |rw [zay]|rw [wi6_]|rw [wi3_]|rw [zai]|rw [zah]);(repeat' refine And.intro ?_ ?_)<;>omega)|((repeat' refine And.intro ?_ ?_)<;>first |omega|rfl|exact Nat.le_refl _|exact le_ rfl|exact zaa _)|(simp_all;done)|(simp_all;omega)))|refine zaP rfl ?_|refine zaz rfl ?_|with_reducible refine ⟨by kernel_rfl, ?_⟩|refine zdm ?_|refine zcn ?_|refine zfx ⟨_, _, rfl, rfl, _, rfl⟩|((with_reducible refine zaN ?_);(fail_if_success (refine zax true rfl rfl rfl ?_));(fail_if_success (refine zax false rfl rfl rfl ?_));refine zav rfl rfl (fun _ => ?_) (fun _ => ?_)))
        · rw [if_neg hm]
          rw [decide_eq_false hm] at c3
          cases h3 : jpeek s n with
          | inr e =>
            obtain ⟨p, e⟩ := e
            rw [h3] at c4
            repeat' (first |(refine zfp (id := 7) 1 ?_;dsimp only [splitOp])|refine zbx (f := 77) 13 rfl rfl Tryz.call77 rfl rfl rfl rfl rfl c1 ?_|refine zbx (f := 79) 13 rfl rfl Tryz.call79 rfl rfl rfl rfl rfl c2 ?_|refine zaR (f := 134) rfl rfl Tryz.call134 rfl c3 ?_|refine zij 13 rfl Tryz.call77 rfl rfl rfl rfl c4 ?_|with_reducible (first |refine zaK ?_|refine zaj ?_|refine zaL ?_|refine zaB ?_|refine zaO ?_|refine zaD ?_|refine zaC ?_|refine zar ?_|refine zaq ?_|refine zaI ?_|refine zaE ?_|refine zas ?_|refine zaH ?_)|refine zaw rfl rfl True.intro ?_|refine zau rfl rfl rfl ?_|refine zao rfl rfl rfl ?_|refine zag rfl rfl rfl rfl True.intro ?_|refine zaF rfl ?_|refine zat rfl ?_|((first |refine zal rfl ?_ ?_|refine zan rfl ?_ ?_|refine zak rfl ?_ ?_|refine zam rfl ?_ ?_|refine zap rfl ?_ ?_|refine zaA rfl ?_ ?_|refine zad rfl rfl ?_ ?_|refine zae rfl rfl ?_ ?_|refine zaf rfl rfl ?_ ?_|refine zac rfl rfl ?_ ?_|refine zab rfl rfl ?_ ?_)<;>intro<;>try (first |(rename_i hz;first |exact tf_ hz|exact ft_ hz)|(exfalso;omega)))|((first |refine zaw rfl rfl ?_ ?_|refine zag rfl rfl rfl rfl ?_ ?_|refine zaM rfl rfl ?_ ?_|refine zaJ rfl ?_ ?_|refine zaG rfl rfl rfl rfl ?_ ?_);focus (first |omega|exact le_ rfl|((repeat first |rw [zay]|rw [wi6_]|rw [wi3_]|rw [zai]|rw [zah]);(repeat' refine And.intro ?_ ?_)<;>omega)|((repeat' refine And.intro ?_ ?_)<;>first |omega|rfl|exact Nat.le_refl _|exact le_ rfl|exact zaa _)|(simp_all;done)|(simp_all;omega)))|refine zaP rfl ?_|refine zaz rfl ?_|with_reducible refine ⟨by kernel_rfl, ?_⟩|refine zdm ?_|refine zcn ?_|refine zfx ⟨_, _, rfl, rfl, _, rfl⟩|((with_reducible refine zaN ?_);(fail_if_success (refine zax true rfl rfl rfl ?_));(fail_if_success (refine zax false rfl rfl rfl ?_));refine zav rfl rfl (fun _ => ?_) (fun _ => ?_)))
          | inl m =>
            rw [h3] at c4
            have p3 := zcj p2.2 h3
            dsimp only
            by_cases h58 : at' s m = 58
            · rw [if_neg (fun q => q h58)]
              repeat' (first |refine zbx (f := 77) 13 rfl rfl Tryz.call77 rfl rfl rfl rfl rfl c1 ?_|refine zbx (f := 77) 13 rfl rfl Tryz.call77 rfl rfl rfl rfl rfl c4 ?_|refine zbx (f := 79) 13 rfl rfl Tryz.call79 rfl rfl rfl rfl rfl c2 ?_|refine zaR (f := 134) rfl rfl Tryz.call134 rfl c3 ?_|with_reducible (first |refine zaK ?_|refine zaj ?_|refine zaL ?_|refine zaB ?_|refine zaO ?_|refine zaD ?_|refine zaC ?_|refine zar ?_|refine zaq ?_|refine zaI ?_|refine zaE ?_|refine zas ?_|refine zaH ?_)|refine zaw rfl rfl True.intro ?_|refine zau rfl rfl rfl ?_|refine zao rfl rfl rfl ?_|refine zag rfl rfl rfl rfl True.intro ?_|refine zaF rfl ?_|refine zat rfl ?_|((first |refine zal rfl ?_ ?_|refine zan rfl ?_ ?_|refine zak rfl ?_ ?_|refine zam rfl ?_ ?_|refine zap rfl ?_ ?_|refine zaA rfl ?_ ?_|refine zad rfl rfl ?_ ?_|refine zae rfl rfl ?_ ?_|refine zaf rfl rfl ?_ ?_|refine zac rfl rfl ?_ ?_|refine zab rfl rfl ?_ ?_)<;>intro<;>try (first |(rename_i hz;first |exact tf_ hz|exact ft_ hz)|(exfalso;omega)))|((first |refine zaw rfl rfl ?_ ?_|refine zag rfl rfl rfl rfl ?_ ?_|refine zaM rfl rfl ?_ ?_|refine zaJ rfl ?_ ?_|refine zaG rfl rfl rfl rfl ?_ ?_);focus (first |omega|exact le_ rfl|((repeat first |rw [zay]|rw [wi6_]|rw [wi3_]|rw [zai]|rw [zah]);(repeat' refine And.intro ?_ ?_)<;>omega)|((repeat' refine And.intro ?_ ?_)<;>first |omega|rfl|exact Nat.le_refl _|exact le_ rfl|exact zaa _)|(simp_all;done)|(simp_all;omega)))|refine zaP rfl ?_|refine zaz rfl ?_|with_reducible refine ⟨by kernel_rfl, ?_⟩|refine zpT rfl ⟨_, _, rfl, .refl _, ?_⟩|refine zpq rfl ⟨_, _, rfl, .refl _, ?_⟩|((with_reducible refine zaN ?_);(fail_if_success (refine zax true rfl rfl rfl ?_));(fail_if_success (refine zax false rfl rfl rfl ?_));refine zav rfl rfl (fun _ => ?_) (fun _ => ?_)))
              all_goals exact congrArg (fun x => some (Own.var [.s s, .i .i64 x])) (by omega)
            · rw [if_pos h58]
              have c5 := zcx m 3
              repeat' (first |(refine zfp (id := 8) 4 ?_;dsimp only [splitOp])|refine zbx (f := 77) 13 rfl rfl Tryz.call77 rfl rfl rfl rfl rfl c1 ?_|refine zbx (f := 77) 13 rfl rfl Tryz.call77 rfl rfl rfl rfl rfl c4 ?_|refine zbx (f := 79) 13 rfl rfl Tryz.call79 rfl rfl rfl rfl rfl c2 ?_|refine zaR (f := 134) rfl rfl Tryz.call134 rfl c3 ?_|refine zfH rfl Tryz.call50 rfl c5 ?_|with_reducible (first |refine zaK ?_|refine zaj ?_|refine zaL ?_|refine zaB ?_|refine zaO ?_|refine zaD ?_|refine zaC ?_|refine zar ?_|refine zaq ?_|refine zaI ?_|refine zaE ?_|refine zas ?_|refine zaH ?_)|refine zaw rfl rfl True.intro ?_|refine zau rfl rfl rfl ?_|refine zao rfl rfl rfl ?_|refine zag rfl rfl rfl rfl True.intro ?_|refine zaF rfl ?_|refine zat rfl ?_|((first |refine zal rfl ?_ ?_|refine zan rfl ?_ ?_|refine zak rfl ?_ ?_|refine zam rfl ?_ ?_|refine zap rfl ?_ ?_|refine zaA rfl ?_ ?_|refine zad rfl rfl ?_ ?_|refine zae rfl rfl ?_ ?_|refine zaf rfl rfl ?_ ?_|refine zac rfl rfl ?_ ?_|refine zab rfl rfl ?_ ?_)<;>intro<;>try (first |(rename_i hz;first |exact tf_ hz|exact ft_ hz)|(exfalso;omega)))|((first |refine zaw rfl rfl ?_ ?_|refine zag rfl rfl rfl rfl ?_ ?_|refine zaM rfl rfl ?_ ?_|refine zaJ rfl ?_ ?_|refine zaG rfl rfl rfl rfl ?_ ?_);focus (first |omega|exact le_ rfl|((repeat first |rw [zay]|rw [wi6_]|rw [wi3_]|rw [zai]|rw [zah]);(repeat' refine And.intro ?_ ?_)<;>omega)|((repeat' refine And.intro ?_ ?_)<;>first |omega|rfl|exact Nat.le_refl _|exact le_ rfl|exact zaa _)|(simp_all;done)|(simp_all;omega)))|refine zaP rfl ?_|refine zaz rfl ?_|with_reducible refine ⟨by kernel_rfl, ?_⟩|refine zdm ?_|refine zcn ?_|refine zfx ⟨_, _, rfl, rfl, _, rfl⟩|((with_reducible refine zaN ?_);(fail_if_success (refine zax true rfl rfl rfl ?_));(fail_if_success (refine zax false rfl rfl rfl ?_));refine zav rfl rfl (fun _ => ?_) (fun _ => ?_)))
    · rw [if_pos hq]
      have c5 := zcx j 3
      repeat' (first |(refine zfp (id := 2) 4 ?_;dsimp only [splitOp])|refine zbx (f := 77) 13 rfl rfl Tryz.call77 rfl rfl rfl rfl rfl c1 ?_|refine zfH rfl Tryz.call50 rfl c5 ?_|with_reducible (first |refine zaK ?_|refine zaj ?_|refine zaL ?_|refine zaB ?_|refine zaO ?_|refine zaD ?_|refine zaC ?_|refine zar ?_|refine zaq ?_|refine zaI ?_|refine zaE ?_|refine zas ?_|refine zaH ?_)|refine zaw rfl rfl True.intro ?_|refine zau rfl rfl rfl ?_|refine zao rfl rfl rfl ?_|refine zag rfl rfl rfl rfl True.intro ?_|refine zaF rfl ?_|refine zat rfl ?_|((first |refine zal rfl ?_ ?_|refine zan rfl ?_ ?_|refine zak rfl ?_ ?_|refine zam rfl ?_ ?_|refine zap rfl ?_ ?_|refine zaA rfl ?_ ?_|refine zad rfl rfl ?_ ?_|refine zae rfl rfl ?_ ?_|refine zaf rfl rfl ?_ ?_|refine zac rfl rfl ?_ ?_|refine zab rfl rfl ?_ ?_)<;>intro<;>try (first |(rename_i hz;first |exact tf_ hz|exact ft_ hz)|(exfalso;omega)))|((first |refine zaw rfl rfl ?_ ?_|refine zag rfl rfl rfl rfl ?_ ?_|refine zaM rfl rfl ?_ ?_|refine zaJ rfl ?_ ?_|refine zaG rfl rfl rfl rfl ?_ ?_);focus (first |omega|exact le_ rfl|((repeat first |rw [zay]|rw [wi6_]|rw [wi3_]|rw [zai]|rw [zah]);(repeat' refine And.intro ?_ ?_)<;>omega)|((repeat' refine And.intro ?_ ?_)<;>first |omega|rfl|exact Nat.le_refl _|exact le_ rfl|exact zaa _)|(simp_all;done)|(simp_all;omega)))|refine zaP rfl ?_|refine zaz rfl ?_|with_reducible refine ⟨by kernel_rfl, ?_⟩|refine zdm ?_|refine zcn ?_|refine zfx ⟨_, _, rfl, rfl, _, rfl⟩|((with_reducible refine zaN ?_);(fail_if_success (refine zax true rfl rfl rfl ?_));(fail_if_success (refine zax false rfl rfl rfl ?_));refine zav rfl rfl (fun _ => ?_) (fun _ => ?_)))

def valD : JR → Sum (D × Nat) (Nat × Int)
  | .inl (x, n) => .inl (.ag (jC x), n)
  | .inr e => .inr e
theorem zoq (k : Int) (y n : Bool) (d : List UInt8) (e : Int) (t : List UInt8) (l : List J) (ks : List (List UInt8)) : jC (.mk k y n d e t l ks) = [.i .i64 k, .b y, .b n, .s d, .i .i64 e, .s t, .sl 8 l.length (jF l), .sl 1 ks.length (txF ks)] := by
  unfold jC
  rfl
theorem zpJ (mp : Bool) : Weak (.ag (litC (kindM mp) false)) (.ag (jC (manyV mp [] []))) := ziK (kindM mp) false
theorem valD_ok {r : JR} : ∀ d n, valD r = .inl (d, n) → d.okIn [13] = true := fun d n h => by
  unfold valD at h
  split at h
  · rename_i x m
    cases h
    cases x
    rw [zoq]
    rfl
  · cases h

theorem zdZ (k : Int) (y n : Bool) (d : List UInt8) (e : Int) (t : List UInt8) : Weak (.ag [.i .i64 k, .b y, .b n, .s d, .i .i64 e, .s t, .nilS, .nilS]) (.ag (jC (.mk k y n d e t [] []))) := by
  rw [zoq]
  refine .ag _ _ rfl fun j hj => ?_
  match j, hj with
  | 0, _ => exact .refl _
  | 1, _ => exact .refl _
  | 2, _ => exact .refl _
  | 3, _ => exact .refl _
  | 4, _ => exact .refl _
  | 5, _ => exact .refl _
  | 6, _ => exact .nil 8 _
  | 7, _ => exact .nil 1 _

namespace J
def kind : J → Int | mk k _ _ _ _ _ _ _ => k
def yes : J → Bool | mk _ y _ _ _ _ _ _ => y
def neg : J → Bool | mk _ _ n _ _ _ _ _ => n
def dig : J → List UInt8 | mk _ _ _ d _ _ _ _ => d
def exp : J → Int | mk _ _ _ _ e _ _ _ => e
def text : J → List UInt8 | mk _ _ _ _ _ t _ _ => t
def list : J → List J | mk _ _ _ _ _ _ l _ => l
def keys : J → List (List UInt8) | mk _ _ _ _ _ _ _ ks => ks
end J
def jP (x : J) : List D := [.i .i64 x.kind, .b x.yes, .b x.neg, .s x.dig, .i .i64 x.exp, .s x.text, .sl 8 x.list.length (jF x.list), .sl 1 x.keys.length (txF x.keys)]
theorem zkM (x : J) : jC x = jP x := by
  cases x
  rw [zoq]
  rfl
def jG (l : List J) : Nat → List D := fun i => jP (l.getD i j0)
theorem jF_G (l : List J) : Weak (.sl 8 l.length (jF l)) (.sl 8 l.length (jG l)) := .sl _ _ _ _ (fun i hi => by
    rw [zoU hi, zkM]
    exact ⟨rfl, rfl⟩) fun i j hi hj => by
    rw [zoU hi, zkM]
    exact .refl _
def jQ (x : J) : List D := [.i .i64 x.kind, .b x.yes, .b x.neg, .s x.dig, .i .i64 x.exp, .s x.text, .sl 8 x.list.length (jG x.list), .sl 1 x.keys.length (txF x.keys)]
theorem jP_Q (x : J) : Weak (.ag (jP x)) (.ag (jQ x)) := .ag _ _ rfl fun j hj => match j, hj with
  | 0, _ => .refl _
  | 1, _ => .refl _
  | 2, _ => .refl _
  | 3, _ => .refl _
  | 4, _ => .refl _
  | 5, _ => .refl _
  | 6, _ => jF_G _
  | 7, _ => .refl _

mutual
def sameJ : J → J → Bool
  | .mk k y n d e t l ks, .mk k' y' n' d' e' t' l' ks' => if k ≠ k' then false else if k = 1 then y == y' else if k = 2 then (n == n' && (d == d' && (e == e' && true))) else if k = 3 then t == t'
    else if k ≠ 4 ∧ k ≠ 5 then true else if l.length ≠ l'.length ∨ k = 5 ∧ ks.length ≠ ks'.length then false else if k = 5 ∧ ks ≠ ks' then false else sameL l l'
def sameL : List J → List J → Bool
  | [], _ => true
  | _ :: _, [] => false
  | x :: r, y :: r' => sameJ x y && sameL r r'
end
theorem zmj : ∀ {l l' : List J} {i : Nat}, i < l.length → sameJ (l.getD i j0) (l'.getD i j0) = false → l.length = l'.length → sameL l l' = false
  | [], _, _, h, _, _ => by simp at h
  | _ :: _, [], _, _, _, h => by simp at h
  | x :: r, y :: r', 0, _, h2, _ => by
    rw [sameL]
    have h2 : sameJ x y = false := h2
    rw [h2]
    rfl
  | x :: r, y :: r', i + 1, h, h2, h3 => by
    rw [sameL, zmj (l := r) (l' := r') (i := i) (by simpa using h) (by simpa using h2) (by simpa using h3), Bool.and_false]
theorem zmf : ∀ {l l' : List J}, (∀ i, i < l.length → sameJ (l.getD i j0) (l'.getD i j0) = true) → l.length = l'.length → sameL l l' = true
  | [], _, _, _ => by rw [sameL]
  | _ :: _, [], _, h => by simp at h
  | x :: r, y :: r', h, h3 => by
    rw [sameL, zmf (l := r) (l' := r') (fun i hi => by have := h (i + 1) (by simpa using hi); simpa using this) (by simpa using h3)]
    have h0 : sameJ x y = true := h 0 (by simp)
    rw [h0]
    rfl
mutual
theorem zjK : ∀ x : J, sameJ x x = true
  | .mk k y n d e t l ks => by
    rw [sameJ]
    have hl := zfJ l
    simp [hl]
theorem zfJ : ∀ l : List J, sameL l l = true
  | [] => by rw [sameL]
  | x :: r => by rw [sameL, zjK x, zfJ r]; rfl
end
mutual
def jw : J → Nat
  | .mk _ _ _ _ _ _ l ks => 1 + jwL l + ks.length
def jwL : List J → Nat
  | [] => 0
  | x :: r => jw x + jwL r
end
theorem zoA (x : J) : jw x = 1 + jwL x.list + x.keys.length := by
  cases x
  rw [jw]
  rfl
theorem zps (x : J) : 1 ≤ jw x := by
  rw [zoA]
  omega
theorem zgw : ∀ l : List J, l.length ≤ jwL l
  | [] => Nat.zero_le _
  | x :: r => by
    have := zgw r
    have := zps x
    rw [jwL, List.length_cons]
    omega
theorem zpY : ∀ {l : List J} {i : Nat}, i < l.length → jw (l.getD i j0) ≤ jwL l
  | [], _, h => by simp at h
  | x :: r, 0, _ => by
    rw [jwL]
    exact Nat.le_add_right _ _
  | x :: r, i + 1, h => by
    have := zpY (l := r) (i := i) (by simpa using h)
    rw [jwL]
    have e : (x :: r).getD (i + 1) j0 = r.getD i j0 := by simp
    rw [e]
    omega
theorem zoD : ∀ (l : List J) (x : J), jwL (l ++ [x]) = jwL l + jw x
  | [], x => by
    show jw x + 0 = 0 + jw x
    omega
  | y :: r, x => by
    rw [List.cons_append, jwL, jwL, zoD r x]
    omega
theorem txF_ext {l l' : List (List UInt8)} (h : l.length = l'.length) (h2 : ∀ i, i < l.length → l.getD i [] = l'.getD i []) : l = l' := by
  apply List.ext_getElem h
  intro i h3 h4
  have := h2 i h3
  simpa [List.getD_eq_getElem?_getD, h3, h4] using this

theorem Ctr.weakS {P : Program} {f : FuncId} {args : List D} {d d' : D} (h : Ctr P f args d) (hw : Weak d d') : Ctr P f args d' := by
  intro w S vs hv hg hn hr
  refine (h w S vs hv hg hn hr).mono ?_
  rintro e w' ⟨v, S', h1, h2, h3⟩
  exact ⟨v, S', h1, h2.weak hw, h3⟩

def getJ (x : J) (k : List UInt8) : J × Bool := if x.kind = 5 ∧ 0 ≤ idxJ k x.keys ∧ idxJ k x.keys < x.list.length then (x.list.getD (idxJ k x.keys).toNat j0, true) else (j0, false)
def getD (r : J × Bool) : D := .tu [.ag (jP r.1), .b r.2]
theorem get_none : Weak (.tu [.ag j0C, .b false]) (getD (j0, false)) := by
  unfold getD
  refine .tu2 ?_ (.refl _)
  rw [← zkM]
  exact ziK 0 false
theorem zpo (r : J × Bool) : (getD r).free = true := rfl

theorem zeb (s : List UInt8) : Ctr Tryz.prog 34 [.s s] (.ag (jP (.mk 3 false false [] 0 s [] []))) := by
  refine zbe Tryz.func34 rfl Tryz.ntmps34 Tryz.results34 rfl rfl fun X hL hX => ?_
  repeat' (first |with_reducible (first |refine zaK ?_|refine zaj ?_|refine zaL ?_|refine zaB ?_|refine zaO ?_|refine zaD ?_|refine zaC ?_|refine zar ?_|refine zaq ?_|refine zaI ?_|refine zaE ?_|refine zas ?_|refine zaH ?_)|refine zaw rfl rfl True.intro ?_|refine zau rfl rfl rfl ?_|refine zao rfl rfl rfl ?_|refine zag rfl rfl rfl rfl True.intro ?_|refine zaF rfl ?_|refine zat rfl ?_|((first |refine zal rfl ?_ ?_|refine zan rfl ?_ ?_|refine zak rfl ?_ ?_|refine zam rfl ?_ ?_|refine zap rfl ?_ ?_|refine zaA rfl ?_ ?_|refine zad rfl rfl ?_ ?_|refine zae rfl rfl ?_ ?_|refine zaf rfl rfl ?_ ?_|refine zac rfl rfl ?_ ?_|refine zab rfl rfl ?_ ?_)<;>intro<;>try (first |(rename_i hz;first |exact tf_ hz|exact ft_ hz)|(exfalso;omega)))|((first |refine zaw rfl rfl ?_ ?_|refine zag rfl rfl rfl rfl ?_ ?_|refine zaM rfl rfl ?_ ?_|refine zaJ rfl ?_ ?_|refine zaG rfl rfl rfl rfl ?_ ?_);focus (first |omega|exact le_ rfl|((repeat first |rw [zay]|rw [wi6_]|rw [wi3_]|rw [zai]|rw [zah]);(repeat' refine And.intro ?_ ?_)<;>omega)|((repeat' refine And.intro ?_ ?_)<;>first |omega|rfl|exact Nat.le_refl _|exact le_ rfl|exact zaa _)|(simp_all;done)|(simp_all;omega)))|refine zaP rfl ?_|refine zaz rfl ?_|with_reducible refine ⟨by kernel_rfl, ?_⟩|refine zcV rfl ?_|((with_reducible refine zaN ?_);(fail_if_success (refine zax true rfl rfl rfl ?_));(fail_if_success (refine zax false rfl rfl rfl ?_));refine zav rfl rfl (fun _ => ?_) (fun _ => ?_)))
  all_goals (rw [← zkM]; exact zdZ 3 false false [] 0 s)
theorem zmN (n : Bool) (d : List UInt8) (e : Int) : Ctr Tryz.prog 63 [.ag [.b n, .s d, .i .i64 e]] (.ag (jP (.mk 2 false n d e [] [] []))) := Ctr.weakS (zlP n d e) (by rw [← zkM]; exact zdZ 2 false n d e [])

def txL : List (List UInt8) → Nat
  | [] => 0
  | k :: r => k.length + 1 + txL r
mutual
def jb : J → Nat
  | .mk _ _ _ d _ t l ks => 1 + d.length + t.length + jbL l + txL ks
def jbL : List J → Nat
  | [] => 0
  | x :: r => jb x + jbL r
end
theorem znh (x : J) : jb x = 1 + x.dig.length + x.text.length + jbL x.list + txL x.keys := by
  cases x
  rw [jb]
  rfl
theorem zgt : ∀ l : List (List UInt8), l.length ≤ txL l
  | [] => Nat.zero_le _
  | k :: r => by
    have := zgt r
    rw [txL, List.length_cons]
    omega
theorem ziU : ∀ {l : List J} {i : Nat}, i < l.length → jb (l.getD i j0) ≤ jbL l
  | [], _, h => by simp at h
  | x :: r, 0, _ => by
    rw [jbL]
    exact Nat.le_add_right _ _
  | x :: r, i + 1, h => by
    have := ziU (l := r) (i := i) (by simpa using h)
    rw [jbL]
    have e : (x :: r).getD (i + 1) j0 = r.getD i j0 := by simp
    rw [e]
    omega
mutual
theorem zod : ∀ x : J, jw x ≤ jb x
  | .mk k y n d e t l ks => by
    have := zhZ l
    have := zgt ks
    rw [jw, jb]
    omega
theorem zhZ : ∀ l : List J, jwL l ≤ jbL l
  | [] => Nat.le_refl _
  | x :: r => by
    have := zod x
    have := zhZ r
    rw [jwL, jbL]
    omega
end

def wsum (f : Nat → Int) (len : Nat) (i : Nat) (n : Int) : Int := if i < len ∧ n ≤ 400 then wsum f len (i + 1) (n + f i) else n
termination_by len - i
def ksum (ks : List (List UInt8)) (i : Nat) : Nat := txL (ks.drop i) - (ks.drop i).length
def wgJ : Nat → J → Int
  | 0, _ => 1000
  | d + 1, x => if 400 < x.list.length ∨ 400 < x.keys.length then 1000 else
    wsum (fun i => wgJ d (x.list.getD i j0)) x.list.length 0 (1 + x.text.length + x.dig.length + x.keys.length + (txL x.keys - x.keys.length : Nat))

theorem zoa {f : Nat → Int} {len : Nat} {m : Int} (hf : ∀ i, i < len → 0 ≤ f i ∧ f i ≤ m) : ∀ (k i : Nat) (n : Int), len - i ≤ k → 0 ≤ n → n ≤ wsum f len i n ∧ (wsum f len i n ≤ n ∨ wsum f len i n ≤ 400 + m) := by
  intro k
  induction k with
  | zero =>
    intro i n h hn
    rw [wsum, if_neg (by omega)]
    exact ⟨Int.le_refl _, .inl (Int.le_refl _)⟩
  | succ k ih =>
    intro i n h hn
    rw [wsum]
    by_cases c : i < len ∧ n ≤ 400
    · rw [if_pos c]
      have h1 := hf i c.1
      have h2 := ih (i + 1) (n + f i) (by omega) (by omega)
      exact ⟨by omega, by omega⟩
    · rw [if_neg c]
      exact ⟨Int.le_refl _, .inl (Int.le_refl _)⟩
theorem wgJ_le : ∀ (d : Nat) (x : J), jb x ≤ 4194304 → 0 ≤ wgJ d x ∧ wgJ d x ≤ 4194304 * 2 + 1000 * d := by
  intro d
  induction d with
  | zero => intro x _; exact ⟨by unfold wgJ; omega, by unfold wgJ; omega⟩
  | succ d ih =>
    intro x h
    have hb := znh x
    have hk := zgt x.keys
    unfold wgJ
    split
    · omega
    · have := zoa (f := fun i => wgJ d (x.list.getD i j0)) (len := x.list.length) (m := 4194304 * 2 + 1000 * d) (fun i hi => ih _ (by have := ziU hi; omega)) _ 0 (1 + x.text.length + x.dig.length + x.keys.length + (txL x.keys - x.keys.length : Nat)) (Nat.le_refl _) (by omega)
      omega
def kfront (ks : List (List UInt8)) : Nat → Nat
  | 0 => 0
  | i + 1 => kfront ks i + (ks.getD i []).length
theorem zff (k : List UInt8) (r : List (List UInt8)) : ∀ i, kfront (k :: r) (i + 1) = k.length + kfront r i
  | 0 => by simp [kfront]
  | i + 1 => by
    rw [kfront, zff k r i]
    simp only [kfront]
    simp only [List.getD_cons_succ]
    omega
theorem zjX : ∀ ks : List (List UInt8), kfront ks ks.length + ks.length = txL ks
  | [] => rfl
  | k :: r => by
    have := zjX r
    rw [List.length_cons, zff, txL]
    omega
theorem zpB {ks : List (List UInt8)} : ∀ {i : Nat}, i ≤ ks.length → kfront ks i ≤ kfront ks ks.length := by
  have step : ∀ (i m : Nat), kfront ks i ≤ kfront ks (i + m) := by
    intro i m
    induction m with
    | zero => exact Nat.le_refl _
    | succ m ih =>
      rw [← Nat.add_assoc, kfront]
      omega
  intro i h
  have := step i (ks.length - i)
  rw [show i + (ks.length - i) = ks.length by omega] at this
  exact this

def keysOk (ks : List (List UInt8)) : Bool := decide ks.Nodup && ks.all validL
def rightJ : Nat → J → Bool
  | 0, _ => false
  | d + 1, x => if x.kind = 0 ∨ x.kind = 1 then true else if x.kind = 2 then rightB x.neg x.dig x.exp else if x.kind = 3 then validL x.text
    else if x.kind = 5 then ((keysOk x.keys && decide (x.keys.length = x.list.length)) && x.list.all (rightJ d)) else if x.kind = 4 then x.list.all (rightJ d) else false

theorem zes (d : Nat) (k : Int) (y n : Bool) (dg : List UInt8) (e : Int) (t : List UInt8) (l : List J) (ks : List (List UInt8)) : rightJ (d + 1) (.mk k y n dg e t l ks) =
    if k = 0 ∨ k = 1 then true else if k = 2 then rightB n dg e else if k = 3 then validL t else if k = 5 then ((keysOk ks && decide (ks.length = l.length)) && l.all (rightJ d)) else if k = 4 then l.all (rightJ d) else false := rfl

theorem zfQ {ks : List (List UInt8)} {i : Nat} (h : i < ks.length) (hm : ks.getD i [] ∈ ks.take i) : keysOk ks = false := by
  unfold keysOk
  rw [decide_eq_false, Bool.false_and]
  intro hn
  obtain ⟨j, hj, he⟩ := List.mem_iff_getElem.1 hm
  rw [List.length_take] at hj
  rw [List.getElem_take] at he
  have h2 := List.pairwise_iff_getElem.1 hn j i (by omega) h (by omega)
  apply h2
  rw [he]
  simp [List.getD_eq_getElem?_getD, h]
theorem zfT {ks : List (List UInt8)} {i : Nat} (h : i < ks.length) (hm : validL (ks.getD i []) = false) : keysOk ks = false := by
  unfold keysOk
  have : ks.all validL = false := by
    rw [List.all_eq_false]
    refine ⟨ks.getD i [], ?_, by rw [hm]; exact Bool.false_ne_true⟩
    rw [show ks.getD i [] = ks[i] by simp [List.getD_eq_getElem?_getD, h]]
    exact List.getElem_mem h
  rw [this, Bool.and_false]
theorem zkH {ks : List (List UInt8)} (h : ∀ i, i < ks.length → ks.getD i [] ∉ ks.take i ∧ validL (ks.getD i []) = true) : keysOk ks = true := by
  unfold keysOk
  have e : ∀ i (hi : i < ks.length), ks.getD i [] = ks[i] := fun i hi => by simp [List.getD_eq_getElem?_getD, hi]
  rw [Bool.and_eq_true, decide_eq_true_eq, List.all_eq_true]
  refine ⟨List.pairwise_iff_getElem.2 fun i j hi hj hij he => ?_, fun k hk => ?_⟩
  · apply (h j hj).1
    rw [e j hj, ← he]
    exact List.mem_iff_getElem.2 ⟨i, by rw [List.length_take]; omega, by rw [List.getElem_take]⟩
  · obtain ⟨i, hi, rfl⟩ := List.mem_iff_getElem.1 hk
    have := (h i hi).2
    rwa [e i hi] at this
theorem zpS {ks : List (List UInt8)} (h : keysOk ks = true) : ∀ i, i < ks.length → ks.getD i [] ∉ ks.take i ∧ validL (ks.getD i []) = true := fun i hi => by
  constructor
  · intro hm
    rw [zfQ hi hm] at h
    cases h
  · cases hv : validL (ks.getD i []) with
    | true => rfl
    | false =>
      rw [zfT hi hv] at h
      cases h

def mapB (ks : List (List UInt8)) : Ents := ks.map fun k => (k, .b true)
theorem zdQ {k : List UInt8} : ∀ {ks : List (List UInt8)}, k ∈ ks → mget k (mapB ks) = some (.b true)
  | [], h => by cases h
  | p :: r, h => by
    show (if p = k then some (D.b true) else mget k (mapB r)) = _
    by_cases e : p = k
    · rw [if_pos e]
    · rw [if_neg e]
      exact zdQ ((List.mem_cons.1 h).resolve_left fun q => e q.symm)
theorem zdi {k : List UInt8} : ∀ {ks : List (List UInt8)}, k ∉ ks → mget k (mapB ks) = none
  | [], _ => rfl
  | p :: r, h => by
    show (if p = k then some (D.b true) else mget k (mapB r)) = _
    rw [if_neg fun e => h (List.mem_cons.2 (.inl e.symm))]
    exact zdi fun q => h (List.mem_cons.2 (.inr q))
theorem zdN {k : List UInt8} : ∀ {ks : List (List UInt8)}, k ∉ ks → mput k (.b true) (mapB ks) = mapB (ks ++ [k])
  | [], _ => rfl
  | p :: r, h => by
    show (if p = k then _ else (p, D.b true) :: mput k (.b true) (mapB r)) = _
    rw [if_neg fun e => h (List.mem_cons.2 (.inl e.symm)), zdN fun q => h (List.mem_cons.2 (.inr q))]
    rfl
theorem okMB (ls : List Nat) (ks : List (List UInt8)) : (Own.mp (mapB ks)).okIn ls = true := by
  show (mapB ks).all (fun p => p.2.okIn ls) = true
  rw [List.all_eq_true]
  intro p hp
  obtain ⟨q, _, rfl⟩ := List.mem_map.1 hp
  rfl
theorem zkv {ks : List (List UInt8)} {i : Nat} (h : i < ks.length) : ks.take (i + 1) = ks.take i ++ [ks.getD i []] := by
  rw [List.take_add_one]
  have : ks[i]? = some (ks.getD i []) := by simp [List.getD_eq_getElem?_getD, h]
  rw [this]
  rfl
theorem zkQ : ∀ {ks : List (List UInt8)} {i : Nat}, (ks.getD i []).length ≤ txL ks
  | [], _ => by simp
  | k :: r, 0 => by
    rw [txL]
    show k.length ≤ _
    omega
  | k :: r, i + 1 => by
    have := zkQ (ks := r) (i := i)
    rw [txL, List.getD_cons_succ]
    omega
theorem all_bad {l : List J} {d i : Nat} (h : i < l.length) (hb : rightJ d (l.getD i j0) = false) : l.all (rightJ d) = false := by
  rw [List.all_eq_false]
  refine ⟨l.getD i j0, ?_, by rw [hb]; exact Bool.false_ne_true⟩
  rw [show l.getD i j0 = l[i] by simp [List.getD_eq_getElem?_getD, h]]
  exact List.getElem_mem h
theorem all_ok {l : List J} {d : Nat} (h : ∀ i, i < l.length → rightJ d (l.getD i j0) = true) : l.all (rightJ d) = true := by
  rw [List.all_eq_true]
  intro x hx
  obtain ⟨i, hi, rfl⟩ := List.mem_iff_getElem.1 hx
  have := h i hi
  rwa [show l.getD i j0 = l[i] by simp [List.getD_eq_getElem?_getD, hi]] at this

end Go.Proofs.YtcajofhafpkbdaaGreatDoor.Flow
