/- The texts J28, one behind the other. -/
import Derived.Test.YtcajofhafpkbdaaGreatDoorCF21
import Derived.Test.YtcajofhafpkbdaaGreatDoorCF26
import Derived.Test.YtcajofhafpkbdaaGreatDoorCF30
import Derived.Test.YtcajofhafpkbdaaGreatDoorCF31
namespace Go.Proofs.YtcajofhafpkbdaaGreatDoor.Flow
open Go

theorem CtrO.weakJ {P : Program} {f : FuncId} {args args' : List D} {ow ow' : Ow} {d : D} (hC : CtrO P f args' ow d ow') (hn : args'.length = args.length) (h : ∀ j, j < args.length → Weak (args.getD j .any) (args'.getD j .any)) : CtrO P f args ow d ow' := by
  intro X vs hids hH hI hs hr
  exact hC X vs hids hH hI (hs.trans hn.symm) fun j hj => (hr j (hn ▸ hj)).weak (h j (hn ▸ hj))
theorem CtrO.weakJ2 {P : Program} {f : FuncId} {a b b' : D} {ow ow' : Ow} {d : D} (hC : CtrO P f [a, b'] ow d ow') (h : Weak b b') : CtrO P f [a, b] ow d ow' := hC.weakJ rfl fun j hj => match j, hj with
  | 0, _ => .refl _
  | 1, _ => h
theorem CtrO.weakJ4 {P : Program} {f : FuncId} {a b b' c e : D} {ow ow' : Ow} {d : D} (hC : CtrO P f [a, b', c, e] ow d ow') (h : Weak b b') : CtrO P f [a, b, c, e] ow d ow' := hC.weakJ rfl fun j hj => match j, hj with
  | 0, _ => .refl _
  | 1, _ => h
  | 2, _ => .refl _
  | 3, _ => .refl _

def blV (m : List UInt8) (cs : List D) : Ow := [(3, .bld 110 (.gs 200 1 m.length (bytesF m))), (200, .row 5 1 m.length), (5, .var cs)]
theorem zfg {a m : List UInt8} {cs : List D} : ∀ k ∈ (bl a).map (·.1), k ∈ (blV m cs).map (·.1) := fun k hk => by
  have hk : k ∈ [3, 200] := hk
  show k ∈ [3, 200, 5]
  simp only [List.mem_cons, List.not_mem_nil, or_false] at hk ⊢
  omega

set_option maxRecDepth 100000 in
set_option maxHeartbeats 4000000 in
theorem zfV (k : Int) (b g : Bool) (d : List UInt8) (e : Int) (t : List UInt8) (l : List J) (ks : List (List UInt8)) (op en : List UInt8) (a : List UInt8) (dp : Nat) (mp : Bool) (hmp : mp = decide (k = 5))
    (hb : jbL l + txL ks ≤ 1000000) (hop : op.length ≤ 10) (hen : en.length ≤ 10) (ha : a.length ≤ 200000000000) (hr : l.all (rightJ dp) = true) (hks : mp = true → ks.length = l.length)
    (hp : ∀ i, i < l.length → ∀ a' : List UInt8, a'.length ≤ a.length + 10 + 1010 * (jbL l + txL ks) → CtrO Tryz.prog 66 [.pv 3 0, .ag (jP (l.getD i j0))] (bl a') (.tu []) (bl (a' ++ textJ (l.getD i j0)))) :
    CtrO Tryz.prog 100 [.pv 3 0, .ag [.i .i64 k, .b b, .b g, .s d, .i .i64 e, .s t, .sl 8 l.length (jG l), .sl 1 ks.length (txF ks)], .s op, .s en] (bl a) (.tu []) (bl (a ++ (op ++ partsT mp true l ks ++ en))) := by
  have hll : l.length ≤ 1000000 := by
    have := zhZ l
    have := zgw l
    omega
  have hkk : ∀ i, (ks.getD i []).length ≤ 1000000 := fun i => by
    have := zkQ (ks := ks) (i := i)
    omega
  have hpl := zgk (zld dp) l ks mp true hr
  have hpn : ∀ i, i ≤ l.length → (partN mp l ks i).length ≤ 1010 * (jbL l + txL ks) := fun i hi => by
    have h1 := zhr mp l ks
    have mono : ∀ n i, i + n = l.length → (partN mp l ks i).length ≤ (partN mp l ks l.length).length := by
      intro n
      induction n with
      | zero => intro i h; rw [show i = l.length by omega]; exact Nat.le_refl _
      | succ n ih =>
        intro i h
        have h2 := ih (i + 1) (by omega)
        rw [zfP mp ks (show i < l.length by omega)] at h2
        simp only [List.length_append] at h2
        omega
    have := mono (l.length - i) i (by omega)
    rw [h1] at this
    omega
  have cO := zbw a op (by omega)
  have e0 : a ++ op = (a ++ op) ++ partN mp l ks 0 := by rw [zjE, List.append_nil]
  rw [e0] at cO
  clear e0
  refine zbi Tryz.func100 rfl Tryz.ntmps100 Tryz.results100 rfl rfl rfl rfl rfl fun X hL hX => ?_
  repeat' (first |with_reducible (first |refine zaK ?_|refine zaj ?_|refine zaL ?_|refine zaB ?_|refine zaO ?_|refine zaD ?_|refine zaC ?_|refine zar ?_|refine zaq ?_|refine zaI ?_|refine zaE ?_|refine zas ?_|refine zaH ?_)|refine zaw rfl rfl True.intro ?_|refine zau rfl rfl rfl ?_|refine zao rfl rfl rfl ?_|refine zag rfl rfl rfl rfl True.intro ?_|refine zaF rfl ?_|refine zat rfl ?_|((first |refine zal rfl ?_ ?_|refine zan rfl ?_ ?_|refine zak rfl ?_ ?_|refine zam rfl ?_ ?_|refine zap rfl ?_ ?_|refine zaA rfl ?_ ?_|refine zad rfl rfl ?_ ?_|refine zae rfl rfl ?_ ?_|refine zaf rfl rfl ?_ ?_|refine zac rfl rfl ?_ ?_|refine zab rfl rfl ?_ ?_)<;>intro<;>try (first |(rename_i hz;first |exact tf_ hz|exact ft_ hz)|(exfalso;omega)))|((first |refine zaw rfl rfl ?_ ?_|refine zag rfl rfl rfl rfl ?_ ?_|refine zaM rfl rfl ?_ ?_|refine zaJ rfl ?_ ?_|refine zaG rfl rfl rfl rfl ?_ ?_);focus (first |omega|exact le_ rfl|((repeat first |rw [zay]|rw [wi6_]|rw [wi3_]|rw [zai]|rw [zah]);(repeat' refine And.intro ?_ ?_)<;>omega)|((repeat' refine And.intro ?_ ?_)<;>first |omega|rfl|exact Nat.le_refl _|exact le_ rfl|exact zaa _)|(simp_all;done)|(simp_all;omega)))|refine zaP rfl ?_|refine zaz rfl ?_|with_reducible refine ⟨by kernel_rfl, ?_⟩|refine zbf rfl rfl ?_|refine zbg rfl rfl ?_|refine zaV (f := 97) 3 200 rfl rfl Tryz.call97 rfl rfl rfl rfl rfl rfl rfl rfl rfl cO ?_|((with_reducible refine zaN ?_);(fail_if_success (refine zax true rfl rfl rfl ?_));(fail_if_success (refine zax false rfl rfl rfl ?_));refine zav rfl rfl (fun _ => ?_) (fun _ => ?_)))
  refine T.loop hL (fun i : Nat => [(0, .pv 3 0), (3, .s en), (5, .pv 5 0), (14, .sl 8 l.length (jG l)), (15, .i .i64 l.length), (16, .i .i64 i)]) (fun i => blV ((a ++ op) ++ partN mp l ks i) [.i .i64 k, .b b, .b g, .s d, .i .i64 e, .s t, .sl 8 l.length (jG l), .sl 1 ks.length (txF ks)])
    (fun i => i ≤ l.length) (fun i => l.length - i) 0 (Nat.zero_le _)
    ⟨⟨rfl, rfl, rfl, rfl, rfl, rfl, trivial⟩, ⟨.inl rfl, rfl, rfl, trivial⟩, rfl, by rw [hX]; exact zfg⟩ ?_
  intro i hi
  have hbi := hpn i hi
  have hnat : (i : Int).toNat = i := Int.toNat_natCast i
  by_cases hil : i < l.length
  · have hbs := hpn (i + 1) hil
    have hs := zfP mp ks hil
    rw [hs] at hbs
    simp only [List.length_append] at hbs
    have hjp : jP (l.getD i j0) = jP (l.getD (i : Int).toNat j0) := by rw [hnat]
    cases mp with
    | true =>
      have hk5 : k = 5 := of_decide_eq_true hmp.symm
      have hik : i < ks.length := by have := hks rfl; omega
      have cQ := zgX (ks.getD (i : Int).toNat []) (by have := hkk (i : Int).toNat; omega)
      have hq : quoteL (ks.getD i []) = quoteL (ks.getD (i : Int).toNat []) := by rw [hnat]
      rw [if_pos rfl, hq] at hs hbs
      clear hq
      generalize quoteL (ks.getD (i : Int).toNat []) = Q at *
      simp only [List.length_append, List.length_cons, List.length_nil] at hbs
      by_cases h0 : i = 0
      · rw [if_pos h0] at hbs
        simp only [List.length_nil] at hbs
        have cK := zbw ((a ++ op) ++ partN true l ks i) (Q ++ [58]) (by simp only [List.length_append, List.length_cons, List.length_nil] at *; omega)
        have cP := hp i hil (((a ++ op) ++ partN true l ks i) ++ (Q ++ [58])) (by simp only [List.length_append, List.length_cons, List.length_nil] at *; omega)
        have eF : (((a ++ op) ++ partN true l ks i) ++ (Q ++ [58])) ++ textJ (l.getD i j0) = (a ++ op) ++ partN true l ks (i + 1) := by
          rw [hs, if_pos h0]
          simp only [List.append_assoc, List.append_nil]
        rw [eF] at cP
        have h0i : (i : Int) = 0 := by omega
        rw [hjp] at cP
        clear hs hp hpl hpn hkk hjp
        repeat' (first |refine zaR (f := 99) rfl rfl Tryz.call99 rfl cQ ?_|refine zaV (f := 97) 3 200 rfl rfl Tryz.call97 rfl rfl rfl rfl rfl rfl rfl rfl rfl cK ?_|refine zaV (f := 66) 3 200 rfl rfl Tryz.call66 rfl rfl rfl rfl rfl rfl rfl rfl rfl cP ?_|with_reducible (first |refine zaK ?_|refine zaj ?_|refine zaL ?_|refine zaB ?_|refine zaO ?_|refine zaD ?_|refine zaC ?_|refine zar ?_|refine zaq ?_|refine zaI ?_|refine zaE ?_|refine zas ?_|refine zaH ?_)|refine zaw rfl rfl True.intro ?_|refine zau rfl rfl rfl ?_|refine zao rfl rfl rfl ?_|refine zag rfl rfl rfl rfl True.intro ?_|refine zaF rfl ?_|refine zat rfl ?_|((first |refine zal rfl ?_ ?_|refine zan rfl ?_ ?_|refine zak rfl ?_ ?_|refine zam rfl ?_ ?_|refine zap rfl ?_ ?_|refine zaA rfl ?_ ?_|refine zad rfl rfl ?_ ?_|refine zae rfl rfl ?_ ?_|refine zaf rfl rfl ?_ ?_|refine zac rfl rfl ?_ ?_|refine zab rfl rfl ?_ ?_)<;>intro<;>try (first |(rename_i hz;first |exact tf_ hz|exact ft_ hz)|(exfalso;omega)))|((first |refine zaw rfl rfl ?_ ?_|refine zag rfl rfl rfl rfl ?_ ?_|refine zaM rfl rfl ?_ ?_|refine zaJ rfl ?_ ?_|refine zaG rfl rfl rfl rfl ?_ ?_);focus (first |(simp only [List.length_cons, List.length_nil];omega)|omega|exact le_ rfl|((repeat first |rw [zay]|rw [wi6_]|rw [wi3_]|rw [zai]|rw [zah]);(repeat' refine And.intro ?_ ?_)<;>omega)|((repeat' refine And.intro ?_ ?_)<;>first |omega|rfl|exact Nat.le_refl _|exact le_ rfl|exact zaa _)|(simp_all;done)|(simp_all;omega)))|refine zaP rfl ?_|refine zaz rfl ?_|with_reducible refine ⟨by kernel_rfl, ?_⟩|refine zbf rfl rfl ?_|refine zbg rfl rfl ?_|((with_reducible refine zaN ?_);(fail_if_success (refine zax true rfl rfl rfl ?_));(fail_if_success (refine zax false rfl rfl rfl ?_));refine zav rfl rfl (fun _ => ?_) (fun _ => ?_)))
        all_goals exact ⟨i + 1, by omega, by omega, ⟨rfl, rfl, rfl, rfl, rfl, congrArg (D.i .i64) (by omega), trivial⟩, ⟨.inl rfl, rfl, rfl, trivial⟩, rfl, by rw [hX]; exact zfg⟩
      · rw [if_neg h0] at hbs
        simp only [List.length_cons, List.length_nil] at hbs
        have cC := zbw ((a ++ op) ++ partN true l ks i) [44] (by simp only [List.length_append, List.length_cons, List.length_nil] at *; omega)
        have cK := zbw (((a ++ op) ++ partN true l ks i) ++ [44]) (Q ++ [58]) (by simp only [List.length_append, List.length_cons, List.length_nil] at *; omega)
        have cP := hp i hil ((((a ++ op) ++ partN true l ks i) ++ [44]) ++ (Q ++ [58])) (by simp only [List.length_append, List.length_cons, List.length_nil] at *; omega)
        have eF : ((((a ++ op) ++ partN true l ks i) ++ [44]) ++ (Q ++ [58])) ++ textJ (l.getD i j0) = (a ++ op) ++ partN true l ks (i + 1) := by
          rw [hs, if_neg h0]
          simp only [List.append_assoc]
        rw [eF] at cP
        have h0i : 0 < (i : Int) := by omega
        rw [hjp] at cP
        clear hs hp hpl hpn hkk hjp
        repeat' (first |refine zaV (f := 97) 3 200 rfl rfl Tryz.call97 rfl rfl rfl rfl rfl rfl rfl rfl rfl cC ?_|refine zaR (f := 99) rfl rfl Tryz.call99 rfl cQ ?_|refine zaV (f := 97) 3 200 rfl rfl Tryz.call97 rfl rfl rfl rfl rfl rfl rfl rfl rfl cK ?_|refine zaV (f := 66) 3 200 rfl rfl Tryz.call66 rfl rfl rfl rfl rfl rfl rfl rfl rfl cP ?_|with_reducible (first |refine zaK ?_|refine zaj ?_|refine zaL ?_|refine zaB ?_|refine zaO ?_|refine zaD ?_|refine zaC ?_|refine zar ?_|refine zaq ?_|refine zaI ?_|refine zaE ?_|refine zas ?_|refine zaH ?_)|refine zaw rfl rfl True.intro ?_|refine zau rfl rfl rfl ?_|refine zao rfl rfl rfl ?_|refine zag rfl rfl rfl rfl True.intro ?_|refine zaF rfl ?_|refine zat rfl ?_|((first |refine zal rfl ?_ ?_|refine zan rfl ?_ ?_|refine zak rfl ?_ ?_|refine zam rfl ?_ ?_|refine zap rfl ?_ ?_|refine zaA rfl ?_ ?_|refine zad rfl rfl ?_ ?_|refine zae rfl rfl ?_ ?_|refine zaf rfl rfl ?_ ?_|refine zac rfl rfl ?_ ?_|refine zab rfl rfl ?_ ?_)<;>intro<;>try (first |(rename_i hz;first |exact tf_ hz|exact ft_ hz)|(exfalso;omega)))|((first |refine zaw rfl rfl ?_ ?_|refine zag rfl rfl rfl rfl ?_ ?_|refine zaM rfl rfl ?_ ?_|refine zaJ rfl ?_ ?_|refine zaG rfl rfl rfl rfl ?_ ?_);focus (first |(simp only [List.length_cons, List.length_nil];omega)|omega|exact le_ rfl|((repeat first |rw [zay]|rw [wi6_]|rw [wi3_]|rw [zai]|rw [zah]);(repeat' refine And.intro ?_ ?_)<;>omega)|((repeat' refine And.intro ?_ ?_)<;>first |omega|rfl|exact Nat.le_refl _|exact le_ rfl|exact zaa _)|(simp_all;done)|(simp_all;omega)))|refine zaP rfl ?_|refine zaz rfl ?_|with_reducible refine ⟨by kernel_rfl, ?_⟩|refine zbf rfl rfl ?_|refine zbg rfl rfl ?_|((with_reducible refine zaN ?_);(fail_if_success (refine zax true rfl rfl rfl ?_));(fail_if_success (refine zax false rfl rfl rfl ?_));refine zav rfl rfl (fun _ => ?_) (fun _ => ?_)))
        all_goals exact ⟨i + 1, by omega, by omega, ⟨rfl, rfl, rfl, rfl, rfl, congrArg (D.i .i64) (by omega), trivial⟩, ⟨.inl rfl, rfl, rfl, trivial⟩, rfl, by rw [hX]; exact zfg⟩
    | false =>
      have hk5 : ¬ k = 5 := of_decide_eq_false hmp.symm
      rw [if_neg Bool.false_ne_true] at hs hbs
      simp only [List.length_nil] at hbs
      by_cases h0 : i = 0
      · rw [if_pos h0] at hbs
        simp only [List.length_nil] at hbs
        have cP := hp i hil ((a ++ op) ++ partN false l ks i) (by simp only [List.length_append] at *; omega)
        have eF : ((a ++ op) ++ partN false l ks i) ++ textJ (l.getD i j0) = (a ++ op) ++ partN false l ks (i + 1) := by
          rw [hs, if_pos h0]
          simp only [List.append_assoc, List.append_nil]
        rw [eF] at cP
        have h0i : (i : Int) = 0 := by omega
        rw [hjp] at cP
        clear hs hp hpl hpn hkk hjp
        repeat' (first |refine zaV (f := 66) 3 200 rfl rfl Tryz.call66 rfl rfl rfl rfl rfl rfl rfl rfl rfl cP ?_|with_reducible (first |refine zaK ?_|refine zaj ?_|refine zaL ?_|refine zaB ?_|refine zaO ?_|refine zaD ?_|refine zaC ?_|refine zar ?_|refine zaq ?_|refine zaI ?_|refine zaE ?_|refine zas ?_|refine zaH ?_)|refine zaw rfl rfl True.intro ?_|refine zau rfl rfl rfl ?_|refine zao rfl rfl rfl ?_|refine zag rfl rfl rfl rfl True.intro ?_|refine zaF rfl ?_|refine zat rfl ?_|((first |refine zal rfl ?_ ?_|refine zan rfl ?_ ?_|refine zak rfl ?_ ?_|refine zam rfl ?_ ?_|refine zap rfl ?_ ?_|refine zaA rfl ?_ ?_|refine zad rfl rfl ?_ ?_|refine zae rfl rfl ?_ ?_|refine zaf rfl rfl ?_ ?_|refine zac rfl rfl ?_ ?_|refine zab rfl rfl ?_ ?_)<;>intro<;>try (first |(rename_i hz;first |exact tf_ hz|exact ft_ hz)|(exfalso;omega)))|((first |refine zaw rfl rfl ?_ ?_|refine zag rfl rfl rfl rfl ?_ ?_|refine zaM rfl rfl ?_ ?_|refine zaJ rfl ?_ ?_|refine zaG rfl rfl rfl rfl ?_ ?_);focus (first |(simp only [List.length_cons, List.length_nil];omega)|omega|exact le_ rfl|((repeat first |rw [zay]|rw [wi6_]|rw [wi3_]|rw [zai]|rw [zah]);(repeat' refine And.intro ?_ ?_)<;>omega)|((repeat' refine And.intro ?_ ?_)<;>first |omega|rfl|exact Nat.le_refl _|exact le_ rfl|exact zaa _)|(simp_all;done)|(simp_all;omega)))|refine zaP rfl ?_|refine zaz rfl ?_|with_reducible refine ⟨by kernel_rfl, ?_⟩|refine zbf rfl rfl ?_|refine zbg rfl rfl ?_|((with_reducible refine zaN ?_);(fail_if_success (refine zax true rfl rfl rfl ?_));(fail_if_success (refine zax false rfl rfl rfl ?_));refine zav rfl rfl (fun _ => ?_) (fun _ => ?_)))
        all_goals exact ⟨i + 1, by omega, by omega, ⟨rfl, rfl, rfl, rfl, rfl, congrArg (D.i .i64) (by omega), trivial⟩, ⟨.inl rfl, rfl, rfl, trivial⟩, rfl, by rw [hX]; exact zfg⟩
      · rw [if_neg h0] at hbs
        simp only [List.length_cons, List.length_nil] at hbs
        have cC := zbw ((a ++ op) ++ partN false l ks i) [44] (by simp only [List.length_append, List.length_cons, List.length_nil] at *; omega)
        have cP := hp i hil (((a ++ op) ++ partN false l ks i) ++ [44]) (by simp only [List.length_append, List.length_cons, List.length_nil] at *; omega)
        have eF : (((a ++ op) ++ partN false l ks i) ++ [44]) ++ textJ (l.getD i j0) = (a ++ op) ++ partN false l ks (i + 1) := by
          rw [hs, if_neg h0]
          simp only [List.append_assoc, List.append_nil]
        rw [eF] at cP
        have h0i : 0 < (i : Int) := by omega
        rw [hjp] at cP
        clear hs hp hpl hpn hkk hjp
        repeat' (first |refine zaV (f := 97) 3 200 rfl rfl Tryz.call97 rfl rfl rfl rfl rfl rfl rfl rfl rfl cC ?_|refine zaV (f := 66) 3 200 rfl rfl Tryz.call66 rfl rfl rfl rfl rfl rfl rfl rfl rfl cP ?_|with_reducible (first |refine zaK ?_|refine zaj ?_|refine zaL ?_|refine zaB ?_|refine zaO ?_|refine zaD ?_|refine zaC ?_|refine zar ?_|refine zaq ?_|refine zaI ?_|refine zaE ?_|refine zas ?_|refine zaH ?_)|refine zaw rfl rfl True.intro ?_|refine zau rfl rfl rfl ?_|refine zao rfl rfl rfl ?_|refine zag rfl rfl rfl rfl True.intro ?_|refine zaF rfl ?_|refine zat rfl ?_|((first |refine zal rfl ?_ ?_|refine zan rfl ?_ ?_|refine zak rfl ?_ ?_|refine zam rfl ?_ ?_|refine zap rfl ?_ ?_|refine zaA rfl ?_ ?_|refine zad rfl rfl ?_ ?_|refine zae rfl rfl ?_ ?_|refine zaf rfl rfl ?_ ?_|refine zac rfl rfl ?_ ?_|refine zab rfl rfl ?_ ?_)<;>intro<;>try (first |(rename_i hz;first |exact tf_ hz|exact ft_ hz)|(exfalso;omega)))|((first |refine zaw rfl rfl ?_ ?_|refine zag rfl rfl rfl rfl ?_ ?_|refine zaM rfl rfl ?_ ?_|refine zaJ rfl ?_ ?_|refine zaG rfl rfl rfl rfl ?_ ?_);focus (first |(simp only [List.length_cons, List.length_nil];omega)|omega|exact le_ rfl|((repeat first |rw [zay]|rw [wi6_]|rw [wi3_]|rw [zai]|rw [zah]);(repeat' refine And.intro ?_ ?_)<;>omega)|((repeat' refine And.intro ?_ ?_)<;>first |omega|rfl|exact Nat.le_refl _|exact le_ rfl|exact zaa _)|(simp_all;done)|(simp_all;omega)))|refine zaP rfl ?_|refine zaz rfl ?_|with_reducible refine ⟨by kernel_rfl, ?_⟩|refine zbf rfl rfl ?_|refine zbg rfl rfl ?_|((with_reducible refine zaN ?_);(fail_if_success (refine zax true rfl rfl rfl ?_));(fail_if_success (refine zax false rfl rfl rfl ?_));refine zav rfl rfl (fun _ => ?_) (fun _ => ?_)))
        all_goals exact ⟨i + 1, by omega, by omega, ⟨rfl, rfl, rfl, rfl, rfl, congrArg (D.i .i64) (by omega), trivial⟩, ⟨.inl rfl, rfl, rfl, trivial⟩, rfl, by rw [hX]; exact zfg⟩
  · have hie : i = l.length := by omega
    have cE := zbw ((a ++ op) ++ partN mp l ks i) en (by simp only [List.length_append]; omega)
    have e1 : ((a ++ op) ++ partN mp l ks i) ++ en = a ++ (op ++ partsT mp true l ks ++ en) := by
      rw [hie, zhr]
      simp only [List.append_assoc]
    rw [e1] at cE
    repeat' (first |with_reducible (first |refine zaK ?_|refine zaj ?_|refine zaL ?_|refine zaB ?_|refine zaO ?_|refine zaD ?_|refine zaC ?_|refine zar ?_|refine zaq ?_|refine zaI ?_|refine zaE ?_|refine zas ?_|refine zaH ?_)|refine zaw rfl rfl True.intro ?_|refine zau rfl rfl rfl ?_|refine zao rfl rfl rfl ?_|refine zag rfl rfl rfl rfl True.intro ?_|refine zaF rfl ?_|refine zat rfl ?_|((first |refine zal rfl ?_ ?_|refine zan rfl ?_ ?_|refine zak rfl ?_ ?_|refine zam rfl ?_ ?_|refine zap rfl ?_ ?_|refine zaA rfl ?_ ?_|refine zad rfl rfl ?_ ?_|refine zae rfl rfl ?_ ?_|refine zaf rfl rfl ?_ ?_|refine zac rfl rfl ?_ ?_|refine zab rfl rfl ?_ ?_)<;>intro<;>try (first |(rename_i hz;first |exact tf_ hz|exact ft_ hz)|(exfalso;omega)))|((first |refine zaw rfl rfl ?_ ?_|refine zag rfl rfl rfl rfl ?_ ?_|refine zaM rfl rfl ?_ ?_|refine zaJ rfl ?_ ?_|refine zaG rfl rfl rfl rfl ?_ ?_);focus (first |omega|exact le_ rfl|((repeat first |rw [zay]|rw [wi6_]|rw [wi3_]|rw [zai]|rw [zah]);(repeat' refine And.intro ?_ ?_)<;>omega)|((repeat' refine And.intro ?_ ?_)<;>first |omega|rfl|exact Nat.le_refl _|exact le_ rfl|exact zaa _)|(simp_all;done)|(simp_all;omega)))|refine zaP rfl ?_|refine zaz rfl ?_|with_reducible refine ⟨by kernel_rfl, ?_⟩|refine zbf rfl rfl ?_|refine zbg rfl rfl ?_|refine zaV (f := 97) 3 200 rfl rfl Tryz.call97 rfl rfl rfl rfl rfl rfl rfl rfl rfl cE ?_|((with_reducible refine zaN ?_);(fail_if_success (refine zax true rfl rfl rfl ?_));(fail_if_success (refine zax false rfl rfl rfl ?_));refine zav rfl rfl (fun _ => ?_) (fun _ => ?_)))
    all_goals exact ⟨⟨.inl rfl, rfl, trivial⟩⟩

set_option maxRecDepth 100000 in
set_option maxHeartbeats 4000000 in
theorem znB : ∀ (dp : Nat) (x : J) (a : List UInt8), rightJ dp x = true → jb x ≤ 1000000 → a.length + 1020 * (dp * jb x) ≤ 200000000000 → CtrO Tryz.prog 66 [.pv 3 0, .ag (jP x)] (bl a) (.tu []) (bl (a ++ textJ x)) := by
  intro dp
  induction dp with
  | zero => intro x a h; cases h
  | succ dp ih =>
    intro x a h hb ha
    refine CtrO.weakJ2 ?_ (jP_Q x)
    have he := znh x
    obtain ⟨k, b, g, d, e, t, l, ks⟩ := x
    replace he : jb (.mk k b g d e t l ks) = 1 + d.length + t.length + jbL l + txL ks := he
    have hm : (dp + 1) * jb (.mk k b g d e t l ks) = dp * jb (.mk k b g d e t l ks) + jb (.mk k b g d e t l ks) := Nat.succ_mul _ _
    have hp : l.all (rightJ dp) = true → ∀ i, i < l.length → ∀ a' : List UInt8, a'.length ≤ a.length + 10 + 1010 * (jbL l + txL ks) → CtrO Tryz.prog 66 [.pv 3 0, .ag (jP (l.getD i j0))] (bl a') (.tu []) (bl (a' ++ textJ (l.getD i j0))) := fun hr i hi a' h' => by
      have h1 := ziU hi
      have h2 : dp * jb (l.getD i j0) ≤ dp * jb (.mk k b g d e t l ks) := Nat.mul_le_mul_left _ (by omega)
      refine ih _ a' ?_ (by omega) (by omega)
      rw [show l.getD i j0 = l[i] by simp [List.getD_eq_getElem?_getD, hi]]
      exact List.all_eq_true.1 hr _ (List.getElem_mem hi)
    clear ih
    rw [textJ]
    rw [zes] at h
    show CtrO Tryz.prog 66 [.pv 3 0, .ag [.i .i64 k, .b b, .b g, .s d, .i .i64 e, .s t, .sl 8 l.length (jG l), .sl 1 ks.length (txF ks)]] _ _ _
    by_cases k0 : k = 0
    · rw [if_pos k0]
      have cW := zbw a nullW (by show a.length + 4 ≤ _; omega)
      generalize a ++ nullW = M at *
      refine zbi Tryz.func66 rfl Tryz.ntmps66 Tryz.results66 rfl rfl rfl rfl rfl fun X hL hX => ?_
      repeat' (first |refine zdq 60 rfl rfl rfl rfl rfl ?_|with_reducible (first |refine zaK ?_|refine zaj ?_|refine zaL ?_|refine zaB ?_|refine zaO ?_|refine zaD ?_|refine zaC ?_|refine zar ?_|refine zaq ?_|refine zaI ?_|refine zaE ?_|refine zas ?_|refine zaH ?_)|refine zaw rfl rfl True.intro ?_|refine zau rfl rfl rfl ?_|refine zao rfl rfl rfl ?_|refine zag rfl rfl rfl rfl True.intro ?_|refine zaF rfl ?_|refine zat rfl ?_|((first |refine zal rfl ?_ ?_|refine zan rfl ?_ ?_|refine zak rfl ?_ ?_|refine zam rfl ?_ ?_|refine zap rfl ?_ ?_|refine zaA rfl ?_ ?_|refine zad rfl rfl ?_ ?_|refine zae rfl rfl ?_ ?_|refine zaf rfl rfl ?_ ?_|refine zac rfl rfl ?_ ?_|refine zab rfl rfl ?_ ?_)<;>intro<;>try (first |(rename_i hz;first |exact tf_ hz|exact ft_ hz)|(exfalso;omega)))|((first |refine zaw rfl rfl ?_ ?_|refine zag rfl rfl rfl rfl ?_ ?_|refine zaM rfl rfl ?_ ?_|refine zaJ rfl ?_ ?_|refine zaG rfl rfl rfl rfl ?_ ?_);focus (first |omega|exact le_ rfl|((repeat first |rw [zay]|rw [wi6_]|rw [wi3_]|rw [zai]|rw [zah]);(repeat' refine And.intro ?_ ?_)<;>omega)|((repeat' refine And.intro ?_ ?_)<;>first |omega|rfl|exact Nat.le_refl _|exact le_ rfl|exact zaa _)|(simp_all;done)|(simp_all;omega)))|refine zaP rfl ?_|refine zaz rfl ?_|with_reducible refine ⟨by kernel_rfl, ?_⟩|refine zbf rfl rfl ?_|refine zbg rfl rfl ?_|refine zaV (f := 97) 3 200 rfl rfl Tryz.call97 rfl rfl rfl rfl rfl rfl rfl rfl rfl cW ?_|((with_reducible refine zaN ?_);(fail_if_success (refine zax true rfl rfl rfl ?_));(fail_if_success (refine zax false rfl rfl rfl ?_));refine zav rfl rfl (fun _ => ?_) (fun _ => ?_)))
      all_goals exact ⟨⟨.inl rfl, rfl, trivial⟩⟩
    rw [if_neg k0]
    by_cases k1 : k = 1
    · rw [if_pos k1]
      cases b with
      | true =>
        rw [if_pos rfl]
        have cW := zbw a trueW (by show a.length + 4 ≤ _; omega)
        generalize a ++ trueW = M at *
        refine zbi Tryz.func66 rfl Tryz.ntmps66 Tryz.results66 rfl rfl rfl rfl rfl fun X hL hX => ?_
        repeat' (first |refine zdq 60 rfl rfl rfl rfl rfl ?_|with_reducible (first |refine zaK ?_|refine zaj ?_|refine zaL ?_|refine zaB ?_|refine zaO ?_|refine zaD ?_|refine zaC ?_|refine zar ?_|refine zaq ?_|refine zaI ?_|refine zaE ?_|refine zas ?_|refine zaH ?_)|refine zaw rfl rfl True.intro ?_|refine zau rfl rfl rfl ?_|refine zao rfl rfl rfl ?_|refine zag rfl rfl rfl rfl True.intro ?_|refine zaF rfl ?_|refine zat rfl ?_|((first |refine zal rfl ?_ ?_|refine zan rfl ?_ ?_|refine zak rfl ?_ ?_|refine zam rfl ?_ ?_|refine zap rfl ?_ ?_|refine zaA rfl ?_ ?_|refine zad rfl rfl ?_ ?_|refine zae rfl rfl ?_ ?_|refine zaf rfl rfl ?_ ?_|refine zac rfl rfl ?_ ?_|refine zab rfl rfl ?_ ?_)<;>intro<;>try (first |(rename_i hz;first |exact tf_ hz|exact ft_ hz)|(exfalso;omega)))|((first |refine zaw rfl rfl ?_ ?_|refine zag rfl rfl rfl rfl ?_ ?_|refine zaM rfl rfl ?_ ?_|refine zaJ rfl ?_ ?_|refine zaG rfl rfl rfl rfl ?_ ?_);focus (first |omega|exact le_ rfl|((repeat first |rw [zay]|rw [wi6_]|rw [wi3_]|rw [zai]|rw [zah]);(repeat' refine And.intro ?_ ?_)<;>omega)|((repeat' refine And.intro ?_ ?_)<;>first |omega|rfl|exact Nat.le_refl _|exact le_ rfl|exact zaa _)|(simp_all;done)|(simp_all;omega)))|refine zaP rfl ?_|refine zaz rfl ?_|with_reducible refine ⟨by kernel_rfl, ?_⟩|refine zbf rfl rfl ?_|refine zbg rfl rfl ?_|refine zaV (f := 97) 3 200 rfl rfl Tryz.call97 rfl rfl rfl rfl rfl rfl rfl rfl rfl cW ?_|((with_reducible refine zaN ?_);(fail_if_success (refine zax true rfl rfl rfl ?_));(fail_if_success (refine zax false rfl rfl rfl ?_));refine zav rfl rfl (fun _ => ?_) (fun _ => ?_)))
        all_goals exact ⟨⟨.inl rfl, rfl, trivial⟩⟩
      | false =>
        rw [if_neg Bool.false_ne_true]
        have cW := zbw a falseW (by show a.length + 5 ≤ _; omega)
        generalize a ++ falseW = M at *
        refine zbi Tryz.func66 rfl Tryz.ntmps66 Tryz.results66 rfl rfl rfl rfl rfl fun X hL hX => ?_
        repeat' (first |refine zdq 60 rfl rfl rfl rfl rfl ?_|with_reducible (first |refine zaK ?_|refine zaj ?_|refine zaL ?_|refine zaB ?_|refine zaO ?_|refine zaD ?_|refine zaC ?_|refine zar ?_|refine zaq ?_|refine zaI ?_|refine zaE ?_|refine zas ?_|refine zaH ?_)|refine zaw rfl rfl True.intro ?_|refine zau rfl rfl rfl ?_|refine zao rfl rfl rfl ?_|refine zag rfl rfl rfl rfl True.intro ?_|refine zaF rfl ?_|refine zat rfl ?_|((first |refine zal rfl ?_ ?_|refine zan rfl ?_ ?_|refine zak rfl ?_ ?_|refine zam rfl ?_ ?_|refine zap rfl ?_ ?_|refine zaA rfl ?_ ?_|refine zad rfl rfl ?_ ?_|refine zae rfl rfl ?_ ?_|refine zaf rfl rfl ?_ ?_|refine zac rfl rfl ?_ ?_|refine zab rfl rfl ?_ ?_)<;>intro<;>try (first |(rename_i hz;first |exact tf_ hz|exact ft_ hz)|(exfalso;omega)))|((first |refine zaw rfl rfl ?_ ?_|refine zag rfl rfl rfl rfl ?_ ?_|refine zaM rfl rfl ?_ ?_|refine zaJ rfl ?_ ?_|refine zaG rfl rfl rfl rfl ?_ ?_);focus (first |omega|exact le_ rfl|((repeat first |rw [zay]|rw [wi6_]|rw [wi3_]|rw [zai]|rw [zah]);(repeat' refine And.intro ?_ ?_)<;>omega)|((repeat' refine And.intro ?_ ?_)<;>first |omega|rfl|exact Nat.le_refl _|exact le_ rfl|exact zaa _)|(simp_all;done)|(simp_all;omega)))|refine zaP rfl ?_|refine zaz rfl ?_|with_reducible refine ⟨by kernel_rfl, ?_⟩|refine zbf rfl rfl ?_|refine zbg rfl rfl ?_|refine zaV (f := 97) 3 200 rfl rfl Tryz.call97 rfl rfl rfl rfl rfl rfl rfl rfl rfl cW ?_|((with_reducible refine zaN ?_);(fail_if_success (refine zax true rfl rfl rfl ?_));(fail_if_success (refine zax false rfl rfl rfl ?_));refine zav rfl rfl (fun _ => ?_) (fun _ => ?_)))
        all_goals exact ⟨⟨.inl rfl, rfl, trivial⟩⟩
    rw [if_neg k1]
    rw [if_neg (fun q => q.elim k0 k1)] at h
    by_cases k2 : k = 2
    · rw [if_pos k2] at h ⊢
      have hlt := zgQ (zeu h)
      have cT := znd g d e (by omega)
      have cW := zbw a (textF g d e) (by omega)
      generalize a ++ textF g d e = M at *
      generalize textF g d e = R at *
      refine zbi Tryz.func66 rfl Tryz.ntmps66 Tryz.results66 rfl rfl rfl rfl rfl fun X hL hX => ?_
      repeat' (first |refine zdq 60 rfl rfl rfl rfl rfl ?_|refine zaR (f := 98) rfl rfl Tryz.call98 rfl cT ?_|with_reducible (first |refine zaK ?_|refine zaj ?_|refine zaL ?_|refine zaB ?_|refine zaO ?_|refine zaD ?_|refine zaC ?_|refine zar ?_|refine zaq ?_|refine zaI ?_|refine zaE ?_|refine zas ?_|refine zaH ?_)|refine zaw rfl rfl True.intro ?_|refine zau rfl rfl rfl ?_|refine zao rfl rfl rfl ?_|refine zag rfl rfl rfl rfl True.intro ?_|refine zaF rfl ?_|refine zat rfl ?_|((first |refine zal rfl ?_ ?_|refine zan rfl ?_ ?_|refine zak rfl ?_ ?_|refine zam rfl ?_ ?_|refine zap rfl ?_ ?_|refine zaA rfl ?_ ?_|refine zad rfl rfl ?_ ?_|refine zae rfl rfl ?_ ?_|refine zaf rfl rfl ?_ ?_|refine zac rfl rfl ?_ ?_|refine zab rfl rfl ?_ ?_)<;>intro<;>try (first |(rename_i hz;first |exact tf_ hz|exact ft_ hz)|(exfalso;omega)))|((first |refine zaw rfl rfl ?_ ?_|refine zag rfl rfl rfl rfl ?_ ?_|refine zaM rfl rfl ?_ ?_|refine zaJ rfl ?_ ?_|refine zaG rfl rfl rfl rfl ?_ ?_);focus (first |omega|exact le_ rfl|((repeat first |rw [zay]|rw [wi6_]|rw [wi3_]|rw [zai]|rw [zah]);(repeat' refine And.intro ?_ ?_)<;>omega)|((repeat' refine And.intro ?_ ?_)<;>first |omega|rfl|exact Nat.le_refl _|exact le_ rfl|exact zaa _)|(simp_all;done)|(simp_all;omega)))|refine zaP rfl ?_|refine zaz rfl ?_|with_reducible refine ⟨by kernel_rfl, ?_⟩|refine zbf rfl rfl ?_|refine zbg rfl rfl ?_|refine zaV (f := 97) 3 200 rfl rfl Tryz.call97 rfl rfl rfl rfl rfl rfl rfl rfl rfl cW ?_|((with_reducible refine zaN ?_);(fail_if_success (refine zax true rfl rfl rfl ?_));(fail_if_success (refine zax false rfl rfl rfl ?_));refine zav rfl rfl (fun _ => ?_) (fun _ => ?_)))
      all_goals exact ⟨⟨.inl rfl, rfl, trivial⟩⟩
    rw [if_neg k2] at h ⊢
    by_cases k3 : k = 3
    · rw [if_pos k3] at h ⊢
      have hlt := zgr t
      have cT := zgX t (by omega)
      have cW := zbw a (quoteL t) (by omega)
      generalize a ++ quoteL t = M at *
      generalize quoteL t = R at *
      refine zbi Tryz.func66 rfl Tryz.ntmps66 Tryz.results66 rfl rfl rfl rfl rfl fun X hL hX => ?_
      repeat' (first |refine zdq 60 rfl rfl rfl rfl rfl ?_|refine zaR (f := 99) rfl rfl Tryz.call99 rfl cT ?_|with_reducible (first |refine zaK ?_|refine zaj ?_|refine zaL ?_|refine zaB ?_|refine zaO ?_|refine zaD ?_|refine zaC ?_|refine zar ?_|refine zaq ?_|refine zaI ?_|refine zaE ?_|refine zas ?_|refine zaH ?_)|refine zaw rfl rfl True.intro ?_|refine zau rfl rfl rfl ?_|refine zao rfl rfl rfl ?_|refine zag rfl rfl rfl rfl True.intro ?_|refine zaF rfl ?_|refine zat rfl ?_|((first |refine zal rfl ?_ ?_|refine zan rfl ?_ ?_|refine zak rfl ?_ ?_|refine zam rfl ?_ ?_|refine zap rfl ?_ ?_|refine zaA rfl ?_ ?_|refine zad rfl rfl ?_ ?_|refine zae rfl rfl ?_ ?_|refine zaf rfl rfl ?_ ?_|refine zac rfl rfl ?_ ?_|refine zab rfl rfl ?_ ?_)<;>intro<;>try (first |(rename_i hz;first |exact tf_ hz|exact ft_ hz)|(exfalso;omega)))|((first |refine zaw rfl rfl ?_ ?_|refine zag rfl rfl rfl rfl ?_ ?_|refine zaM rfl rfl ?_ ?_|refine zaJ rfl ?_ ?_|refine zaG rfl rfl rfl rfl ?_ ?_);focus (first |omega|exact le_ rfl|((repeat first |rw [zay]|rw [wi6_]|rw [wi3_]|rw [zai]|rw [zah]);(repeat' refine And.intro ?_ ?_)<;>omega)|((repeat' refine And.intro ?_ ?_)<;>first |omega|rfl|exact Nat.le_refl _|exact le_ rfl|exact zaa _)|(simp_all;done)|(simp_all;omega)))|refine zaP rfl ?_|refine zaz rfl ?_|with_reducible refine ⟨by kernel_rfl, ?_⟩|refine zbf rfl rfl ?_|refine zbg rfl rfl ?_|refine zaV (f := 97) 3 200 rfl rfl Tryz.call97 rfl rfl rfl rfl rfl rfl rfl rfl rfl cW ?_|((with_reducible refine zaN ?_);(fail_if_success (refine zax true rfl rfl rfl ?_));(fail_if_success (refine zax false rfl rfl rfl ?_));refine zav rfl rfl (fun _ => ?_) (fun _ => ?_)))
      all_goals exact ⟨⟨.inl rfl, rfl, trivial⟩⟩
    rw [if_neg k3] at h ⊢
    by_cases k4 : k = 4
    · rw [if_pos k4]
      rw [if_neg (by omega), if_pos k4] at h
      have cP := zfV k b g d e t l ks [91] [93] a dp false (decide_eq_false (by omega)).symm (by omega) (by decide) (by decide) (by omega) h (fun q => by cases q) (hp h)
      generalize a ++ ([91] ++ partsT false true l ks ++ [93]) = M at *
      clear hp
      refine zbi Tryz.func66 rfl Tryz.ntmps66 Tryz.results66 rfl rfl rfl rfl rfl fun X hL hX => ?_
      repeat' (first |refine zdq 60 rfl rfl rfl rfl rfl ?_|with_reducible (first |refine zaK ?_|refine zaj ?_|refine zaL ?_|refine zaB ?_|refine zaO ?_|refine zaD ?_|refine zaC ?_|refine zar ?_|refine zaq ?_|refine zaI ?_|refine zaE ?_|refine zas ?_|refine zaH ?_)|refine zaw rfl rfl True.intro ?_|refine zau rfl rfl rfl ?_|refine zao rfl rfl rfl ?_|refine zag rfl rfl rfl rfl True.intro ?_|refine zaF rfl ?_|refine zat rfl ?_|((first |refine zal rfl ?_ ?_|refine zan rfl ?_ ?_|refine zak rfl ?_ ?_|refine zam rfl ?_ ?_|refine zap rfl ?_ ?_|refine zaA rfl ?_ ?_|refine zad rfl rfl ?_ ?_|refine zae rfl rfl ?_ ?_|refine zaf rfl rfl ?_ ?_|refine zac rfl rfl ?_ ?_|refine zab rfl rfl ?_ ?_)<;>intro<;>try (first |(rename_i hz;first |exact tf_ hz|exact ft_ hz)|(exfalso;omega)))|((first |refine zaw rfl rfl ?_ ?_|refine zag rfl rfl rfl rfl ?_ ?_|refine zaM rfl rfl ?_ ?_|refine zaJ rfl ?_ ?_|refine zaG rfl rfl rfl rfl ?_ ?_);focus (first |omega|exact le_ rfl|((repeat first |rw [zay]|rw [wi6_]|rw [wi3_]|rw [zai]|rw [zah]);(repeat' refine And.intro ?_ ?_)<;>omega)|((repeat' refine And.intro ?_ ?_)<;>first |omega|rfl|exact Nat.le_refl _|exact le_ rfl|exact zaa _)|(simp_all;done)|(simp_all;omega)))|refine zaP rfl ?_|refine zaz rfl ?_|with_reducible refine ⟨by kernel_rfl, ?_⟩|refine zbf rfl rfl ?_|refine zbg rfl rfl ?_|refine zaV (f := 100) 3 200 rfl rfl Tryz.call100 rfl rfl rfl rfl rfl rfl rfl rfl rfl cP ?_|((with_reducible refine zaN ?_);(fail_if_success (refine zax true rfl rfl rfl ?_));(fail_if_success (refine zax false rfl rfl rfl ?_));refine zav rfl rfl (fun _ => ?_) (fun _ => ?_)))
      all_goals exact ⟨⟨.inl rfl, rfl, trivial⟩⟩
    rw [if_neg k4] at h ⊢
    by_cases k5 : k = 5
    · rw [if_pos k5, Bool.and_eq_true, Bool.and_eq_true, decide_eq_true_eq] at h
      have cP := zfV k b g d e t l ks [123] [125] a dp (decide (k = 5)) rfl (by omega) (by decide) (by decide) (by omega) h.2 (fun _ => h.1.2) (hp h.2)
      generalize a ++ ([123] ++ partsT (decide (k = 5)) true l ks ++ [125]) = M at *
      clear hp
      refine zbi Tryz.func66 rfl Tryz.ntmps66 Tryz.results66 rfl rfl rfl rfl rfl fun X hL hX => ?_
      repeat' (first |refine zdq 60 rfl rfl rfl rfl rfl ?_|with_reducible (first |refine zaK ?_|refine zaj ?_|refine zaL ?_|refine zaB ?_|refine zaO ?_|refine zaD ?_|refine zaC ?_|refine zar ?_|refine zaq ?_|refine zaI ?_|refine zaE ?_|refine zas ?_|refine zaH ?_)|refine zaw rfl rfl True.intro ?_|refine zau rfl rfl rfl ?_|refine zao rfl rfl rfl ?_|refine zag rfl rfl rfl rfl True.intro ?_|refine zaF rfl ?_|refine zat rfl ?_|((first |refine zal rfl ?_ ?_|refine zan rfl ?_ ?_|refine zak rfl ?_ ?_|refine zam rfl ?_ ?_|refine zap rfl ?_ ?_|refine zaA rfl ?_ ?_|refine zad rfl rfl ?_ ?_|refine zae rfl rfl ?_ ?_|refine zaf rfl rfl ?_ ?_|refine zac rfl rfl ?_ ?_|refine zab rfl rfl ?_ ?_)<;>intro<;>try (first |(rename_i hz;first |exact tf_ hz|exact ft_ hz)|(exfalso;omega)))|((first |refine zaw rfl rfl ?_ ?_|refine zag rfl rfl rfl rfl ?_ ?_|refine zaM rfl rfl ?_ ?_|refine zaJ rfl ?_ ?_|refine zaG rfl rfl rfl rfl ?_ ?_);focus (first |omega|exact le_ rfl|((repeat first |rw [zay]|rw [wi6_]|rw [wi3_]|rw [zai]|rw [zah]);(repeat' refine And.intro ?_ ?_)<;>omega)|((repeat' refine And.intro ?_ ?_)<;>first |omega|rfl|exact Nat.le_refl _|exact le_ rfl|exact zaa _)|(simp_all;done)|(simp_all;omega)))|refine zaP rfl ?_|refine zaz rfl ?_|with_reducible refine ⟨by kernel_rfl, ?_⟩|refine zbf rfl rfl ?_|refine zbg rfl rfl ?_|refine zaV (f := 100) 3 200 rfl rfl Tryz.call100 rfl rfl rfl rfl rfl rfl rfl rfl rfl cP ?_|((with_reducible refine zaN ?_);(fail_if_success (refine zax true rfl rfl rfl ?_));(fail_if_success (refine zax false rfl rfl rfl ?_));refine zav rfl rfl (fun _ => ?_) (fun _ => ?_)))
      all_goals exact ⟨⟨.inl rfl, rfl, trivial⟩⟩
    · rw [if_neg k5] at h
      cases h

theorem znn {dp : Nat} {x : J} (h : rightJ dp x = true) : 0 < (textJ x).length := by
  obtain ⟨c, r, h1, _⟩ := zcq h
  rw [h1]
  exact Nat.succ_pos _

set_option maxRecDepth 100000 in
set_option maxHeartbeats 1000000 in
theorem zkD (x : J) (hb : jb x ≤ 1000000) : Ctr Tryz.prog 36 [.ag (jP x)] (.s (if rightJ 64 x = true then textJ x else [])) := by
  have cR := zig x (by omega)
  cases hr : rightJ 64 x with
  | false =>
    rw [hr] at cR
    rw [if_neg Bool.false_ne_true]
    refine zbe Tryz.func36 rfl Tryz.ntmps36 Tryz.results36 rfl rfl fun X hL hX => ?_
    repeat' (first |refine zaR (f := 65) rfl rfl Tryz.call65 rfl cR ?_|with_reducible (first |refine zaK ?_|refine zaj ?_|refine zaL ?_|refine zaB ?_|refine zaO ?_|refine zaD ?_|refine zaC ?_|refine zar ?_|refine zaq ?_|refine zaI ?_|refine zaE ?_|refine zas ?_|refine zaH ?_)|refine zaw rfl rfl True.intro ?_|refine zau rfl rfl rfl ?_|refine zao rfl rfl rfl ?_|refine zag rfl rfl rfl rfl True.intro ?_|refine zaF rfl ?_|refine zat rfl ?_|((first |refine zal rfl ?_ ?_|refine zan rfl ?_ ?_|refine zak rfl ?_ ?_|refine zam rfl ?_ ?_|refine zap rfl ?_ ?_|refine zaA rfl ?_ ?_|refine zad rfl rfl ?_ ?_|refine zae rfl rfl ?_ ?_|refine zaf rfl rfl ?_ ?_|refine zac rfl rfl ?_ ?_|refine zab rfl rfl ?_ ?_)<;>intro<;>try (first |(rename_i hz;first |exact tf_ hz|exact ft_ hz)|(exfalso;omega)))|((first |refine zaw rfl rfl ?_ ?_|refine zag rfl rfl rfl rfl ?_ ?_|refine zaM rfl rfl ?_ ?_|refine zaJ rfl ?_ ?_|refine zaG rfl rfl rfl rfl ?_ ?_);focus (first |omega|exact le_ rfl|((repeat first |rw [zay]|rw [wi6_]|rw [wi3_]|rw [zai]|rw [zah]);(repeat' refine And.intro ?_ ?_)<;>omega)|((repeat' refine And.intro ?_ ?_)<;>first |omega|rfl|exact Nat.le_refl _|exact le_ rfl|exact zaa _)|(simp_all;done)|(simp_all;omega)))|refine zaP rfl ?_|refine zaz rfl ?_|with_reducible refine ⟨by kernel_rfl, ?_⟩|refine zaQ rfl ?_|refine zaT rfl ?_|((with_reducible refine zaN ?_);(fail_if_success (refine zax true rfl rfl rfl ?_));(fail_if_success (refine zax false rfl rfl rfl ?_));refine zav rfl rfl (fun _ => ?_) (fun _ => ?_)))
    all_goals rfl
  | true =>
    rw [hr] at cR
    rw [if_pos rfl]
    have hl := zld 64 x hr
    have hp := znn hr
    have cP := znB 64 x [] hr hb (by simp only [List.length_nil]; omega)
    rw [List.nil_append] at cP
    have cS := zjJ (textJ x) hp (by omega)
    generalize textJ x = R at *
    refine zbe Tryz.func36 rfl Tryz.ntmps36 Tryz.results36 rfl rfl fun X hL hX => ?_
    repeat' (first |refine r_bld rfl rfl rfl ?_|refine zaR (f := 65) rfl rfl Tryz.call65 rfl cR ?_|refine T.adoptB 3 200 5 110 (bytesF []) rfl rfl ?_|with_reducible (first |refine zaK ?_|refine zaj ?_|refine zaL ?_|refine zaB ?_|refine zaO ?_|refine zaD ?_|refine zaC ?_|refine zar ?_|refine zaq ?_|refine zaI ?_|refine zaE ?_|refine zas ?_|refine zaH ?_)|refine zaw rfl rfl True.intro ?_|refine zau rfl rfl rfl ?_|refine zao rfl rfl rfl ?_|refine zag rfl rfl rfl rfl True.intro ?_|refine zaF rfl ?_|refine zat rfl ?_|((first |refine zal rfl ?_ ?_|refine zan rfl ?_ ?_|refine zak rfl ?_ ?_|refine zam rfl ?_ ?_|refine zap rfl ?_ ?_|refine zaA rfl ?_ ?_|refine zad rfl rfl ?_ ?_|refine zae rfl rfl ?_ ?_|refine zaf rfl rfl ?_ ?_|refine zac rfl rfl ?_ ?_|refine zab rfl rfl ?_ ?_)<;>intro<;>try (first |(rename_i hz;first |exact tf_ hz|exact ft_ hz)|(exfalso;omega)))|((first |refine zaw rfl rfl ?_ ?_|refine zag rfl rfl rfl rfl ?_ ?_|refine zaM rfl rfl ?_ ?_|refine zaJ rfl ?_ ?_|refine zaG rfl rfl rfl rfl ?_ ?_);focus (first |omega|exact le_ rfl|((repeat first |rw [zay]|rw [wi6_]|rw [wi3_]|rw [zai]|rw [zah]);(repeat' refine And.intro ?_ ?_)<;>omega)|((repeat' refine And.intro ?_ ?_)<;>first |omega|rfl|exact Nat.le_refl _|exact le_ rfl|exact zaa _)|(simp_all;done)|(simp_all;omega)))|refine zaP rfl ?_|refine zaz rfl ?_|with_reducible refine ⟨by kernel_rfl, ?_⟩|refine zaQ rfl ?_|refine zaT rfl ?_|refine zaV (f := 66) 3 200 rfl rfl Tryz.call66 rfl rfl rfl rfl rfl rfl rfl rfl rfl cP ?_|refine zaV (f := 67) 3 200 rfl rfl Tryz.call67 rfl rfl rfl rfl rfl rfl rfl rfl rfl cS ?_|((with_reducible refine zaN ?_);(fail_if_success (refine zax true rfl rfl rfl ?_));(fail_if_success (refine zax false rfl rfl rfl ?_));refine zav rfl rfl (fun _ => ?_) (fun _ => ?_)))
    all_goals rfl

end Go.Proofs.YtcajofhafpkbdaaGreatDoor.Flow
