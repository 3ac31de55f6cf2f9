/- The texts J28, G18, FlowXf, one behind the other. -/
import Derived.Test.YtcajofhafpkbdaaGreatDoorCT17
import Derived.Test.YtcajofhafpkbdaaGreatDoorCT20
import Derived.Test.YtcajofhafpkbdaaGreatDoorCT22
import Derived.Test.YtcajofhafpkbdaaGreatDoorCT23
import Derived.Test.YtcajofhafpkbdaaGreatDoorCT24
namespace Go.Proofs.YtcajofhafpkbdaaGreatDoor.Flow
open Go
theorem CtrO.weakJ {P : Program} {f : FuncId} {args args' : List D} {ow ow' : Ow} {d : D} (hC : CtrO P f args' ow d ow') (hn : args'.length = args.length) (h : ∀ j, j < args.length → Weak (args.getD j .any) (args'.getD j .any)) : CtrO P f args ow d ow' := by
  intro X vs hids hH hI hs hr
  exact hC X vs hids hH hI (hs.trans hn.symm) fun j hj => (hr j (hn ▸ hj)).weak (h j (hn ▸ hj))
theorem CtrO.weakJ2 {P : Program} {f : FuncId} {a b b' : D} {ow ow' : Ow} {d : D} (hC : CtrO P f [a, b'] ow d ow') (h : Weak b b') : CtrO P f [a, b] ow d ow' := hC.weakJ rfl fun j hj => match j, hj with
  | 0, _ => .refl _
  | 1, _ => h
def blV (m : List UInt8) (cs : List D) : Ow := [(3, .bld 110 (.gs 200 1 m.length (bytesF m))), (200, .row 5 1 m.length), (5, .var cs)]
theorem zgm {a m : List UInt8} {cs : List D} : ∀ k ∈ (bl a).map (·.1), k ∈ (blV m cs).map (·.1) := fun k hk => by
  have hk : k ∈ [3, 200] := hk
  show k ∈ [3, 200, 5]
  simp only [List.mem_cons, List.not_mem_nil, or_false] at hk ⊢
  omega
set_option maxRecDepth 100000 in
set_option maxHeartbeats 4000000 in
theorem zhg (k : Int) (b g : Bool) (d : List UInt8) (e : Int) (t : List UInt8) (l : List J) (ks : List (List UInt8)) (op en : List UInt8) (a : List UInt8) (dp : Nat) (mp : Bool) (hmp : mp = decide (k = 5))
    (hb : jbL l + txL ks ≤ 1000000) (hop : op.length ≤ 10) (hen : en.length ≤ 10) (ha : a.length ≤ 200000000000) (hr : l.all (rightJ dp) = true) (hks : mp = true → ks.length = l.length)
    (hp : ∀ i, i < l.length → ∀ a' : List UInt8, a'.length ≤ a.length + 10 + 1010 * (jbL l + txL ks) → CtrO Tryz.prog 66 [.pv 3 0, .ag (jP (l.getD i j0))] (bl a') (.tu []) (bl (a' ++ textJ (l.getD i j0)))) :
    CtrO Tryz.prog 100 [.pv 3 0, .ag [.i .i64 k, .b b, .b g, .s d, .i .i64 e, .s t, .sl 8 l.length (jG l), .sl 1 ks.length (txF ks)], .s op, .s en] (bl a) (.tu []) (bl (a ++ (op ++ partsT mp true l ks ++ en))) := by
  have hll : l.length ≤ 1000000 := by
    have := zkr l
    have := zcH l
    omega
  have hkk : ∀ i, (ks.getD i []).length ≤ 1000000 := fun i => by
    have := zoM (ks := ks) (i := i)
    omega
  have hpl := zhA (zoA dp) l ks mp true hr
  have hpn : ∀ i, i ≤ l.length → (partN mp l ks i).length ≤ 1010 * (jbL l + txL ks) := fun i hi => by
    have h1 := zfY mp l ks
    have mono : ∀ n i, i + n = l.length → (partN mp l ks i).length ≤ (partN mp l ks l.length).length := by
      intro n
      induction n with
      | zero => intro i h; rw [show i = l.length by omega]; exact Nat.le_refl _
      | succ n ih =>
        intro i h
        have h2 := ih (i + 1) (by omega)
        rw [zbW mp ks (show i < l.length by omega)] at h2
        simp only [List.length_append] at h2
        omega
    have := mono (l.length - i) i (by omega)
    rw [h1] at this
    omega
  have cO := zbm a op (by omega)
  have e0 : a ++ op = (a ++ op) ++ partN mp l ks 0 := by rw [zcB, List.append_nil]
  rw [e0] at cO
  clear e0
  refine zaI Tryz.func100 rfl Tryz.ntmps100 Tryz.results100 rfl rfl rfl rfl rfl fun X hL hX => ?_
  repeat' (first |with_reducible (first |refine zag ?_|refine zaa ?_|refine zaf ?_|refine zad ?_|refine zae ?_)|refine zab rfl rfl True.intro ?_|((first |refine zab rfl rfl ?_ ?_|refine zao rfl rfl ?_ ?_);focus (first |exact le_ rfl|((repeat' refine And.intro ?_ ?_)<;>omega)|((repeat' refine And.intro ?_ ?_)<;>first |rfl)))|refine zax (f := 97) 3 200 rfl rfl Tryz.call97 rfl rfl rfl rfl rfl rfl rfl rfl rfl cO ?_|fail)
  refine T.loop hL (fun i : Nat => [(0, .pv 3 0), (3, .s en), (5, .pv 5 0), (14, .sl 8 l.length (jG l)), (15, .i .i64 l.length), (16, .i .i64 i)]) (fun i => blV ((a ++ op) ++ partN mp l ks i) [.i .i64 k, .b b, .b g, .s d, .i .i64 e, .s t, .sl 8 l.length (jG l), .sl 1 ks.length (txF ks)])
    (fun i => i ≤ l.length) (fun i => l.length - i) 0 (Nat.zero_le _)
    ⟨⟨rfl, rfl, rfl, rfl, rfl, rfl, trivial⟩, ⟨.inl rfl, rfl, rfl, trivial⟩, rfl, by rw [hX]; exact zgm⟩ ?_
  intro i hi
  have hbi := hpn i hi
  have hnat : (i : Int).toNat = i := Int.toNat_natCast i
  by_cases hil : i < l.length
  · have hbs := hpn (i + 1) hil
    have hs := zbW mp ks hil
    rw [hs] at hbs
    simp only [List.length_append] at hbs
    have hjp : jP (l.getD i j0) = jP (l.getD (i : Int).toNat j0) := by rw [hnat]
    cases mp with
    | true =>
      have hk5 : k = 5 := of_decide_eq_true hmp.symm
      have hik : i < ks.length := by have := hks rfl; omega
      have cQ := ziE (ks.getD (i : Int).toNat []) (by have := hkk (i : Int).toNat; omega)
      have hq : quoteL (ks.getD i []) = quoteL (ks.getD (i : Int).toNat []) := by rw [hnat]
      rw [if_pos rfl, hq] at hs hbs
      clear hq
      generalize quoteL (ks.getD (i : Int).toNat []) = Q at *
      simp only [List.length_append, List.length_cons, List.length_nil] at hbs
      by_cases h0 : i = 0
      · rw [if_pos h0] at hbs
        simp only [List.length_nil] at hbs
        have cK := zbm ((a ++ op) ++ partN true l ks i) (Q ++ [58]) (by simp only [List.length_append, List.length_cons, List.length_nil] at *; omega)
        have cP := hp i hil (((a ++ op) ++ partN true l ks i) ++ (Q ++ [58])) (by simp only [List.length_append, List.length_cons, List.length_nil] at *; omega)
        have eF : (((a ++ op) ++ partN true l ks i) ++ (Q ++ [58])) ++ textJ (l.getD i j0) = (a ++ op) ++ partN true l ks (i + 1) := by
          rw [hs, if_pos h0]
          simp only [List.append_assoc, List.append_nil]
        rw [eF] at cP
        have h0i : (i : Int) = 0 := by omega
        rw [hjp] at cP
        clear hs hp hpl hpn hkk hjp
        repeat' (first |refine zai (f := 99) rfl rfl Tryz.call99 rfl cQ ?_|refine zax (f := 97) 3 200 rfl rfl Tryz.call97 rfl rfl rfl rfl rfl rfl rfl rfl rfl cK ?_|refine zax (f := 66) 3 200 rfl rfl Tryz.call66 rfl rfl rfl rfl rfl rfl rfl rfl rfl cP ?_|with_reducible (first |refine zag ?_|refine zaa ?_|refine zaf ?_|refine zad ?_|refine zah ?_|refine zae ?_|refine zap ?_)|refine zab rfl rfl True.intro ?_|((first |refine zac rfl ?_ ?_)<;>intro<;>try (first |(exfalso;omega)))|((first |refine zab rfl rfl ?_ ?_|refine zao rfl rfl ?_ ?_|refine zaw rfl ?_ ?_);focus (first |(simp only [List.length_cons, List.length_nil];omega)|omega|exact le_ rfl|((repeat' refine And.intro ?_ ?_)<;>omega)|((repeat' refine And.intro ?_ ?_)<;>first |rfl|exact Nat.le_refl _)))|fail)
        all_goals exact ⟨i + 1, by omega, by omega, ⟨rfl, rfl, rfl, rfl, rfl, congrArg (D.i .i64) (by omega), trivial⟩, ⟨.inl rfl, rfl, rfl, trivial⟩, rfl, by rw [hX]; exact zgm⟩
      · rw [if_neg h0] at hbs
        simp only [List.length_cons, List.length_nil] at hbs
        have cC := zbm ((a ++ op) ++ partN true l ks i) [44] (by simp only [List.length_append, List.length_cons, List.length_nil] at *; omega)
        have cK := zbm (((a ++ op) ++ partN true l ks i) ++ [44]) (Q ++ [58]) (by simp only [List.length_append, List.length_cons, List.length_nil] at *; omega)
        have cP := hp i hil ((((a ++ op) ++ partN true l ks i) ++ [44]) ++ (Q ++ [58])) (by simp only [List.length_append, List.length_cons, List.length_nil] at *; omega)
        have eF : ((((a ++ op) ++ partN true l ks i) ++ [44]) ++ (Q ++ [58])) ++ textJ (l.getD i j0) = (a ++ op) ++ partN true l ks (i + 1) := by
          rw [hs, if_neg h0]
          simp only [List.append_assoc]
        rw [eF] at cP
        have h0i : 0 < (i : Int) := by omega
        rw [hjp] at cP
        clear hs hp hpl hpn hkk hjp
        repeat' (first |refine zax (f := 97) 3 200 rfl rfl Tryz.call97 rfl rfl rfl rfl rfl rfl rfl rfl rfl cC ?_|refine zai (f := 99) rfl rfl Tryz.call99 rfl cQ ?_|refine zax (f := 97) 3 200 rfl rfl Tryz.call97 rfl rfl rfl rfl rfl rfl rfl rfl rfl cK ?_|refine zax (f := 66) 3 200 rfl rfl Tryz.call66 rfl rfl rfl rfl rfl rfl rfl rfl rfl cP ?_|with_reducible (first |refine zag ?_|refine zaa ?_|refine zaf ?_|refine zad ?_|refine zah ?_|refine zae ?_|refine zap ?_)|refine zab rfl rfl True.intro ?_|((first |refine zac rfl ?_ ?_)<;>intro<;>try (first |(exfalso;omega)))|((first |refine zab rfl rfl ?_ ?_|refine zao rfl rfl ?_ ?_|refine zaw rfl ?_ ?_);focus (first |(simp only [List.length_cons, List.length_nil];omega)|omega|exact le_ rfl|((repeat' refine And.intro ?_ ?_)<;>omega)|((repeat' refine And.intro ?_ ?_)<;>first |rfl|exact Nat.le_refl _)))|fail)
        all_goals exact ⟨i + 1, by omega, by omega, ⟨rfl, rfl, rfl, rfl, rfl, congrArg (D.i .i64) (by omega), trivial⟩, ⟨.inl rfl, rfl, rfl, trivial⟩, rfl, by rw [hX]; exact zgm⟩
    | false =>
      have hk5 : ¬ k = 5 := of_decide_eq_false hmp.symm
      rw [if_neg Bool.false_ne_true] at hs hbs
      simp only [List.length_nil] at hbs
      by_cases h0 : i = 0
      · rw [if_pos h0] at hbs
        simp only [List.length_nil] at hbs
        have cP := hp i hil ((a ++ op) ++ partN false l ks i) (by simp only [List.length_append] at *; omega)
        have eF : ((a ++ op) ++ partN false l ks i) ++ textJ (l.getD i j0) = (a ++ op) ++ partN false l ks (i + 1) := by
          rw [hs, if_pos h0]
          simp only [List.append_assoc, List.append_nil]
        rw [eF] at cP
        have h0i : (i : Int) = 0 := by omega
        rw [hjp] at cP
        clear hs hp hpl hpn hkk hjp
        repeat' (first |refine zax (f := 66) 3 200 rfl rfl Tryz.call66 rfl rfl rfl rfl rfl rfl rfl rfl rfl cP ?_|with_reducible (first |refine zag ?_|refine zaa ?_|refine zaf ?_|refine zad ?_|refine zah ?_|refine zae ?_|refine zap ?_)|refine zab rfl rfl True.intro ?_|((first |refine zac rfl ?_ ?_)<;>intro<;>try (first |(exfalso;omega)))|((first |refine zab rfl rfl ?_ ?_|refine zao rfl rfl ?_ ?_|refine zaw rfl ?_ ?_);focus (first |omega|exact le_ rfl|((repeat' refine And.intro ?_ ?_)<;>omega)|((repeat' refine And.intro ?_ ?_)<;>first |rfl|exact Nat.le_refl _)))|fail)
        all_goals exact ⟨i + 1, by omega, by omega, ⟨rfl, rfl, rfl, rfl, rfl, congrArg (D.i .i64) (by omega), trivial⟩, ⟨.inl rfl, rfl, rfl, trivial⟩, rfl, by rw [hX]; exact zgm⟩
      · rw [if_neg h0] at hbs
        simp only [List.length_cons, List.length_nil] at hbs
        have cC := zbm ((a ++ op) ++ partN false l ks i) [44] (by simp only [List.length_append, List.length_cons, List.length_nil] at *; omega)
        have cP := hp i hil (((a ++ op) ++ partN false l ks i) ++ [44]) (by simp only [List.length_append, List.length_cons, List.length_nil] at *; omega)
        have eF : (((a ++ op) ++ partN false l ks i) ++ [44]) ++ textJ (l.getD i j0) = (a ++ op) ++ partN false l ks (i + 1) := by
          rw [hs, if_neg h0]
          simp only [List.append_assoc, List.append_nil]
        rw [eF] at cP
        have h0i : 0 < (i : Int) := by omega
        rw [hjp] at cP
        clear hs hp hpl hpn hkk hjp
        repeat' (first |refine zax (f := 97) 3 200 rfl rfl Tryz.call97 rfl rfl rfl rfl rfl rfl rfl rfl rfl cC ?_|refine zax (f := 66) 3 200 rfl rfl Tryz.call66 rfl rfl rfl rfl rfl rfl rfl rfl rfl cP ?_|with_reducible (first |refine zag ?_|refine zaa ?_|refine zaf ?_|refine zad ?_|refine zah ?_|refine zae ?_|refine zap ?_)|refine zab rfl rfl True.intro ?_|((first |refine zac rfl ?_ ?_)<;>intro<;>try (first |(exfalso;omega)))|((first |refine zab rfl rfl ?_ ?_|refine zao rfl rfl ?_ ?_|refine zaw rfl ?_ ?_);focus (first |omega|exact le_ rfl|((repeat' refine And.intro ?_ ?_)<;>omega)|((repeat' refine And.intro ?_ ?_)<;>first |rfl|exact Nat.le_refl _)))|fail)
        all_goals exact ⟨i + 1, by omega, by omega, ⟨rfl, rfl, rfl, rfl, rfl, congrArg (D.i .i64) (by omega), trivial⟩, ⟨.inl rfl, rfl, rfl, trivial⟩, rfl, by rw [hX]; exact zgm⟩
  · have hie : i = l.length := by omega
    have cE := zbm ((a ++ op) ++ partN mp l ks i) en (by simp only [List.length_append]; omega)
    have e1 : ((a ++ op) ++ partN mp l ks i) ++ en = a ++ (op ++ partsT mp true l ks ++ en) := by
      rw [hie, zfY]
      simp only [List.append_assoc]
    rw [e1] at cE
    repeat' (first |with_reducible (first |refine zag ?_|refine zaa ?_|refine zaf ?_|refine zad ?_|refine zaA ?_|refine zaz ?_)|refine zab rfl rfl True.intro ?_|((first |refine zac rfl ?_ ?_)<;>intro<;>try (first |(exfalso;omega)))|refine zaO rfl ?_|refine zbT rfl rfl ?_|refine zax (f := 97) 3 200 rfl rfl Tryz.call97 rfl rfl rfl rfl rfl rfl rfl rfl rfl cE ?_|fail)
    all_goals exact ⟨⟨.inl rfl, rfl, trivial⟩⟩
set_option maxRecDepth 100000 in
set_option maxHeartbeats 4000000 in
theorem zqg : ∀ (dp : Nat) (x : J) (a : List UInt8), rightJ dp x = true → jb x ≤ 1000000 → a.length + 1020 * (dp * jb x) ≤ 200000000000 → CtrO Tryz.prog 66 [.pv 3 0, .ag (jP x)] (bl a) (.tu []) (bl (a ++ textJ x)) := by
  intro dp
  induction dp with
  | zero => intro x a h; cases h
  | succ dp ih =>
    intro x a h hb ha
    refine CtrO.weakJ2 ?_ (zrE x)
    have he := zsW x
    obtain ⟨k, b, g, d, e, t, l, ks⟩ := x
    replace he : jb (.mk k b g d e t l ks) = 1 + d.length + t.length + jbL l + txL ks := he
    have hm : (dp + 1) * jb (.mk k b g d e t l ks) = dp * jb (.mk k b g d e t l ks) + jb (.mk k b g d e t l ks) := Nat.succ_mul _ _
    have hp : l.all (rightJ dp) = true → ∀ i, i < l.length → ∀ a' : List UInt8, a'.length ≤ a.length + 10 + 1010 * (jbL l + txL ks) → CtrO Tryz.prog 66 [.pv 3 0, .ag (jP (l.getD i j0))] (bl a') (.tu []) (bl (a' ++ textJ (l.getD i j0))) := fun hr i hi a' h' => by
      have h1 := znu hi
      have h2 : dp * jb (l.getD i j0) ≤ dp * jb (.mk k b g d e t l ks) := Nat.mul_le_mul_left _ (by omega)
      refine ih _ a' ?_ (by omega) (by omega)
      rw [show l.getD i j0 = l[i] by simp [List.getD_eq_getElem?_getD, hi]]
      exact List.all_eq_true.1 hr _ (List.getElem_mem hi)
    clear ih
    rw [textJ]
    rw [zbU] at h
    show CtrO Tryz.prog 66 [.pv 3 0, .ag [.i .i64 k, .b b, .b g, .s d, .i .i64 e, .s t, .sl 8 l.length (jG l), .sl 1 ks.length (txF ks)]] _ _ _
    by_cases k0 : k = 0
    · rw [if_pos k0]
      have cW := zbm a nullW (by show a.length + 4 ≤ _; omega)
      generalize a ++ nullW = M at *
      refine zaI Tryz.func66 rfl Tryz.ntmps66 Tryz.results66 rfl rfl rfl rfl rfl fun X hL hX => ?_
      repeat' (first |refine zcQ 60 rfl rfl rfl rfl rfl ?_|with_reducible (first |refine zag ?_|refine zaa ?_|refine zaf ?_|refine zad ?_|refine zae ?_|refine zap ?_)|refine zab rfl rfl True.intro ?_|((first |refine zac rfl ?_ ?_)<;>intro<;>try (first |(exfalso;omega)))|((first |refine zab rfl rfl ?_ ?_);focus (first |exact le_ rfl|((repeat' refine And.intro ?_ ?_)<;>omega)))|refine zbT rfl rfl ?_|refine zax (f := 97) 3 200 rfl rfl Tryz.call97 rfl rfl rfl rfl rfl rfl rfl rfl rfl cW ?_|fail)
      all_goals exact ⟨⟨.inl rfl, rfl, trivial⟩⟩
    rw [if_neg k0]
    by_cases k1 : k = 1
    · rw [if_pos k1]
      cases b with
      | true =>
        rw [if_pos rfl]
        have cW := zbm a trueW (by show a.length + 4 ≤ _; omega)
        generalize a ++ trueW = M at *
        refine zaI Tryz.func66 rfl Tryz.ntmps66 Tryz.results66 rfl rfl rfl rfl rfl fun X hL hX => ?_
        repeat' (first |refine zcQ 60 rfl rfl rfl rfl rfl ?_|with_reducible (first |refine zag ?_|refine zaa ?_|refine zaf ?_|refine zad ?_|refine zae ?_|refine zap ?_)|refine zab rfl rfl True.intro ?_|refine zav rfl ?_|((first |refine zac rfl ?_ ?_)<;>intro<;>try (first |(exfalso;omega)))|((first |refine zab rfl rfl ?_ ?_);focus (first |exact le_ rfl|((repeat' refine And.intro ?_ ?_)<;>omega)))|refine zbT rfl rfl ?_|refine zax (f := 97) 3 200 rfl rfl Tryz.call97 rfl rfl rfl rfl rfl rfl rfl rfl rfl cW ?_|fail)
        all_goals exact ⟨⟨.inl rfl, rfl, trivial⟩⟩
      | false =>
        rw [if_neg Bool.false_ne_true]
        have cW := zbm a falseW (by show a.length + 5 ≤ _; omega)
        generalize a ++ falseW = M at *
        refine zaI Tryz.func66 rfl Tryz.ntmps66 Tryz.results66 rfl rfl rfl rfl rfl fun X hL hX => ?_
        repeat' (first |refine zcQ 60 rfl rfl rfl rfl rfl ?_|with_reducible (first |refine zag ?_|refine zaa ?_|refine zaf ?_|refine zad ?_|refine zae ?_|refine zap ?_)|refine zab rfl rfl True.intro ?_|refine zal rfl ?_|((first |refine zac rfl ?_ ?_)<;>intro<;>try (first |(exfalso;omega)))|((first |refine zab rfl rfl ?_ ?_);focus (first |exact le_ rfl|((repeat' refine And.intro ?_ ?_)<;>omega)))|refine zbT rfl rfl ?_|refine zax (f := 97) 3 200 rfl rfl Tryz.call97 rfl rfl rfl rfl rfl rfl rfl rfl rfl cW ?_|fail)
        all_goals exact ⟨⟨.inl rfl, rfl, trivial⟩⟩
    rw [if_neg k1]
    rw [if_neg (fun q => q.elim k0 k1)] at h
    by_cases k2 : k = 2
    · rw [if_pos k2] at h ⊢
      have hlt := zfZ (zft h)
      have cT := zqu g d e (by omega)
      have cW := zbm a (textF g d e) (by omega)
      generalize a ++ textF g d e = M at *
      generalize textF g d e = R at *
      refine zaI Tryz.func66 rfl Tryz.ntmps66 Tryz.results66 rfl rfl rfl rfl rfl fun X hL hX => ?_
      repeat' (first |refine zcQ 60 rfl rfl rfl rfl rfl ?_|refine zai (f := 98) rfl rfl Tryz.call98 rfl cT ?_|with_reducible (first |refine zag ?_|refine zaa ?_|refine zaf ?_|refine zad ?_|refine zae ?_|refine zap ?_)|refine zab rfl rfl True.intro ?_|((first |refine zac rfl ?_ ?_)<;>intro<;>try (first |(exfalso;omega)))|((first |refine zab rfl rfl ?_ ?_);focus (first |exact le_ rfl|((repeat' refine And.intro ?_ ?_)<;>omega)))|refine zbT rfl rfl ?_|refine zax (f := 97) 3 200 rfl rfl Tryz.call97 rfl rfl rfl rfl rfl rfl rfl rfl rfl cW ?_|fail)
      all_goals exact ⟨⟨.inl rfl, rfl, trivial⟩⟩
    rw [if_neg k2] at h ⊢
    by_cases k3 : k = 3
    · rw [if_pos k3] at h ⊢
      have hlt := zev t
      have cT := ziE t (by omega)
      have cW := zbm a (quoteL t) (by omega)
      generalize a ++ quoteL t = M at *
      generalize quoteL t = R at *
      refine zaI Tryz.func66 rfl Tryz.ntmps66 Tryz.results66 rfl rfl rfl rfl rfl fun X hL hX => ?_
      repeat' (first |refine zcQ 60 rfl rfl rfl rfl rfl ?_|refine zai (f := 99) rfl rfl Tryz.call99 rfl cT ?_|with_reducible (first |refine zag ?_|refine zaa ?_|refine zaf ?_|refine zad ?_|refine zae ?_|refine zap ?_)|refine zab rfl rfl True.intro ?_|((first |refine zac rfl ?_ ?_)<;>intro<;>try (first |(exfalso;omega)))|((first |refine zab rfl rfl ?_ ?_);focus (first |exact le_ rfl|((repeat' refine And.intro ?_ ?_)<;>omega)))|refine zbT rfl rfl ?_|refine zax (f := 97) 3 200 rfl rfl Tryz.call97 rfl rfl rfl rfl rfl rfl rfl rfl rfl cW ?_|fail)
      all_goals exact ⟨⟨.inl rfl, rfl, trivial⟩⟩
    rw [if_neg k3] at h ⊢
    by_cases k4 : k = 4
    · rw [if_pos k4]
      rw [if_neg (by omega), if_pos k4] at h
      have cP := zhg k b g d e t l ks [91] [93] a dp false (decide_eq_false (by omega)).symm (by omega) (by decide) (by decide) (by omega) h (fun q => by cases q) (hp h)
      generalize a ++ ([91] ++ partsT false true l ks ++ [93]) = M at *
      clear hp
      refine zaI Tryz.func66 rfl Tryz.ntmps66 Tryz.results66 rfl rfl rfl rfl rfl fun X hL hX => ?_
      repeat' (first |refine zcQ 60 rfl rfl rfl rfl rfl ?_|with_reducible (first |refine zag ?_|refine zaa ?_|refine zaf ?_|refine zad ?_|refine zae ?_|refine zap ?_)|refine zab rfl rfl True.intro ?_|((first |refine zac rfl ?_ ?_)<;>intro<;>try (first |(exfalso;omega)))|((first |refine zab rfl rfl ?_ ?_);focus (first |exact le_ rfl|((repeat' refine And.intro ?_ ?_)<;>omega)))|refine zbT rfl rfl ?_|refine zax (f := 100) 3 200 rfl rfl Tryz.call100 rfl rfl rfl rfl rfl rfl rfl rfl rfl cP ?_|fail)
      all_goals exact ⟨⟨.inl rfl, rfl, trivial⟩⟩
    rw [if_neg k4] at h ⊢
    by_cases k5 : k = 5
    · rw [if_pos k5, Bool.and_eq_true, Bool.and_eq_true, decide_eq_true_eq] at h
      have cP := zhg k b g d e t l ks [123] [125] a dp (decide (k = 5)) rfl (by omega) (by decide) (by decide) (by omega) h.2 (fun _ => h.1.2) (hp h.2)
      generalize a ++ ([123] ++ partsT (decide (k = 5)) true l ks ++ [125]) = M at *
      clear hp
      refine zaI Tryz.func66 rfl Tryz.ntmps66 Tryz.results66 rfl rfl rfl rfl rfl fun X hL hX => ?_
      repeat' (first |refine zcQ 60 rfl rfl rfl rfl rfl ?_|with_reducible (first |refine zag ?_|refine zaa ?_|refine zaf ?_|refine zad ?_|refine zae ?_|refine zap ?_)|refine zab rfl rfl True.intro ?_|((first |refine zac rfl ?_ ?_)<;>intro<;>try (first |(exfalso;omega)))|((first |refine zab rfl rfl ?_ ?_);focus (first |exact le_ rfl|((repeat' refine And.intro ?_ ?_)<;>omega)))|refine zbT rfl rfl ?_|refine zax (f := 100) 3 200 rfl rfl Tryz.call100 rfl rfl rfl rfl rfl rfl rfl rfl rfl cP ?_|fail)
      all_goals exact ⟨⟨.inl rfl, rfl, trivial⟩⟩
    · rw [if_neg k5] at h
      cases h
theorem zqZ {dp : Nat} {x : J} (h : rightJ dp x = true) : 0 < (textJ x).length := by
  obtain ⟨c, r, h1, _⟩ := zcD h
  rw [h1]
  exact Nat.succ_pos _
set_option maxRecDepth 100000 in
set_option maxHeartbeats 1000000 in
theorem zmU (x : J) (hb : jb x ≤ 1000000) : Ctr Tryz.prog 36 [.ag (jP x)] (.s (if rightJ 64 x = true then textJ x else [])) := by
  have cR := zke x (by omega)
  cases hr : rightJ 64 x with
  | false =>
    rw [hr] at cR
    rw [if_neg Bool.false_ne_true]
    refine zaE Tryz.func36 rfl Tryz.ntmps36 Tryz.results36 rfl rfl fun X hL hX => ?_
    repeat' (first |refine zai (f := 65) rfl rfl Tryz.call65 rfl cR ?_|with_reducible (first |refine zag ?_|refine zaa ?_|refine zaf ?_|refine zad ?_|refine zaj ?_|refine zam ?_)|refine zab rfl rfl True.intro ?_|refine zav rfl ?_|((first |refine zab rfl rfl ?_ ?_|refine zao rfl rfl ?_ ?_);focus (first |exact le_ rfl|((repeat' refine And.intro ?_ ?_)<;>omega)|((repeat' refine And.intro ?_ ?_)<;>first |rfl)))|refine zau rfl ?_|fail)
    all_goals rfl
  | true =>
    rw [hr] at cR
    rw [if_pos rfl]
    have hl := zoA 64 x hr
    have hp := zqZ hr
    have cP := zqg 64 x [] hr hb (by simp only [List.length_nil]; omega)
    rw [List.nil_append] at cP
    have cS := zmN (textJ x) hp (by omega)
    generalize textJ x = R at *
    refine zaE Tryz.func36 rfl Tryz.ntmps36 Tryz.results36 rfl rfl fun X hL hX => ?_
    repeat' (first |refine r_bld rfl rfl rfl ?_|refine zai (f := 65) rfl rfl Tryz.call65 rfl cR ?_|refine T.adoptB 3 200 5 110 (bytesF []) rfl rfl ?_|with_reducible (first |refine zag ?_|refine zaa ?_|refine zaf ?_|refine zad ?_|refine zaj ?_|refine zah ?_)|refine zab rfl rfl True.intro ?_|refine zal rfl ?_|((first |refine zab rfl rfl ?_ ?_|refine zao rfl rfl ?_ ?_);focus (first |exact le_ rfl|((repeat' refine And.intro ?_ ?_)<;>omega)|((repeat' refine And.intro ?_ ?_)<;>first |rfl)))|refine zau rfl ?_|refine zax (f := 66) 3 200 rfl rfl Tryz.call66 rfl rfl rfl rfl rfl rfl rfl rfl rfl cP ?_|refine zax (f := 67) 3 200 rfl rfl Tryz.call67 rfl rfl rfl rfl rfl rfl rfl rfl rfl cS ?_|fail)
    all_goals rfl

def kId : Txt := [105, 100]
def kSources : Txt := [115, 111, 117, 114, 99, 101, 115]
def kBuffer : Txt := [98, 117, 102, 102, 101, 114]
def kMaxzoom : Txt := [109, 97, 120, 122, 111, 111, 109]
def kLimit : Txt := [108, 105, 109, 105, 116]
def cmpJ (c : CmpR) : J := mapJ ([txJ c.id] ++ [listJ (c.srcs.map srcJ)] ++ [numJ c.buf] ++ [numJ c.mx] ++ [numJ c.lim]) ([kId] ++ [kSources] ++ [kBuffer] ++ [kMaxzoom] ++ [kLimit])
def confJ (l : List CmpR) : J := listJ (l.map cmpJ)
def textC (l : List CmpR) : Txt := if okL l then (if rightJ 64 (confJ l) = true then textJ (confJ l) else []) else []
theorem CtrO.shutR {P : Program} {f : FuncId} {args : List D} {ow ow' : Ow} {d : D} (h : CtrO P f args ow d ow') : CtrO P f args ow d.shutA ow' := fun X vs h1 h2 h3 h4 h5 =>
  (h X vs h1 h2 h3 h4 h5).mono fun _ _ ⟨v, S', r', g1, g2, g3⟩ => ⟨v, S', r', g1, g2.shutA, g3⟩
theorem znU (l : List J) (ks : List Txt) (y : J) (key : Txt) (hl : l.length ≤ 4194304) (hk : ks.length ≤ 4194304) : CtrO Tryz.prog 33 [.ag (xG l ks), .s key, .ag (jP y)] (xR l ks) (.ag (jP (mapJ (l ++ [y]) (ks ++ [key])))) (xR (l ++ [y]) (ks ++ [key])) := (zbs l ks y key hl hk).shutR
set_option maxRecDepth 100000 in
set_option maxHeartbeats 16000000 in
theorem ziD (l : List CmpR) (hl : fitL l) (hb : ∀ i, bigC (l.getD i c0R)) (hj : okL l → jb (confJ l) ≤ 1000000) : Ctr Tryz.prog 16 [.sl 5 l.length (cmpF l)] (.s (textC l)) := by
  have cR := zeY l hl hb
  unfold textC
  by_cases hok : okL l
  rotate_left
  · rw [decide_eq_false hok] at cR
    rw [if_neg hok]
    refine zaE Tryz.func16 rfl Tryz.ntmps16 Tryz.results16 rfl rfl fun X hL hX => ?_
    repeat' (first |refine zai (f := 17) rfl rfl Tryz.call17 rfl cR ?_|with_reducible (first |refine zag ?_|refine zaa ?_|refine zaf ?_|refine zad ?_|refine zaj ?_|refine zam ?_)|refine zab rfl rfl True.intro ?_|refine zav rfl ?_|refine zau rfl ?_|fail)
    all_goals rfl
  rw [decide_eq_true hok] at cR
  rw [if_pos hok]
  have cT := (zmU (confJ l) (hj hok)).weak1 (zdB _)
  generalize (if rightJ 64 (confJ l) = true then textJ (confJ l) else []) = out at cT ⊢
  obtain ⟨hl1, hl2⟩ := hl
  refine zaE Tryz.func16 rfl Tryz.ntmps16 Tryz.results16 rfl rfl fun X hL hX => ?_
  repeat' (first |refine T.adoptV 3 6 100 55 8 _ (jF []) rfl rfl rfl ?_|refine zai (f := 17) rfl rfl Tryz.call17 rfl cR ?_|with_reducible (first |refine zag ?_|refine zaa ?_|refine zaf ?_|refine zad ?_|refine zah ?_|refine zae ?_)|refine zab rfl rfl True.intro ?_|refine zal rfl ?_|((first |refine zao rfl rfl ?_ ?_|refine zaw rfl ?_ ?_);focus (first |((repeat' refine And.intro ?_ ?_)<;>omega)|((repeat' refine And.intro ?_ ?_)<;>first |rfl|exact Nat.le_refl _)))|fail)
  refine T.loop hL (fun i : Nat => [(3, .pv 3 0), (14, .sl 5 l.length (cmpF l)), (15, .i .i64 l.length), (16, .i .i64 i)]) (fun i => [(3, .var [.i .i64 4, .b false, .b false, .s [], .i .i64 0, .s [], .gs 100 8 ((l.take i).map cmpJ).length (jF ((l.take i).map cmpJ)), .nilS]), (100, .row 55 8 ((l.take i).map cmpJ).length)])
    (fun i => i ≤ l.length ∧ ((l.take i).map cmpJ).length = i) (fun i => l.length - i) 0 ⟨Nat.zero_le _, by simp⟩
    ⟨⟨rfl, rfl, rfl, rfl, trivial⟩, ⟨rfl, rfl, trivial⟩, rfl, by rw [hX]; simp⟩ ?_
  rintro i ⟨g1, g2⟩
  try dsimp only at g1 g2 ⊢
  have hnat : (i : Int).toNat = i := Int.toNat_natCast i
  by_cases hil : i < l.length
  rotate_left
  · have hil' : ¬ (i : Int) < l.length := by omega
    have ea : l.take i = l := List.take_of_length_le (by omega)
    rw [ea]
    repeat' (first |refine zfJ (t := 62) rfl rfl (le_ rfl) ?_|refine zai (f := 36) rfl rfl Tryz.call36 rfl cT ?_|with_reducible (first |refine zag ?_|refine zaa ?_|refine zaf ?_|refine zad ?_|refine zaj ?_|refine zaA ?_|refine zaz ?_)|refine zab rfl rfl True.intro ?_|((first |refine zac rfl ?_ ?_)<;>intro<;>try (first |(exfalso;omega)))|refine zaO rfl ?_|refine zau rfl ?_|fail)
    all_goals rfl
  clear cT cR
  have hil' : (i : Int) < l.length := by omega
  obtain ⟨hc1, hc2⟩ := hl2 (i : Int).toNat
  obtain ⟨⟨_, _, _, p1, p2, p3, p4, p5, p6⟩, _⟩ := hok i hil
  have e := zeA (f := cmpJ) (d := c0R) hil
  have e1 := zfi ((l.take i).map cmpJ) (cmpJ (l.getD (i : Int).toNat c0R)) (chunk 8 (jP (cmpJ (l.getD (i : Int).toNat c0R)))) (by rw [zlu]; rfl)
  rw [hnat] at e1
  have g3 : ((l.take (i + 1)).map cmpJ).length = ((l.take i).map cmpJ).length + 1 := by rw [e, List.length_append]; rfl
  repeat' (first |refine T.adoptV 6 6 103 55 8 _ (jF []) rfl rfl rfl ?_|with_reducible (first |refine zag ?_|refine zaa ?_|refine zaf ?_|refine zad ?_|refine zah ?_|refine zae ?_)|refine zab rfl rfl True.intro ?_|((first |refine zac rfl ?_ ?_)<;>intro<;>try (first |(exfalso;omega)))|((first |refine zab rfl rfl ?_ ?_|refine zao rfl rfl ?_ ?_|refine zaw rfl ?_ ?_);focus (first |omega|exact le_ rfl|((repeat' refine And.intro ?_ ?_)<;>omega)|((repeat' refine And.intro ?_ ?_)<;>first |rfl|exact Nat.le_refl _)))|fail)
  refine T.loop hL (fun k : Nat => [(3, .pv 3 0), (5, .pv 5 0), (6, .pv 6 0), (14, .sl 5 l.length (cmpF l)), (15, .i .i64 l.length), (16, .i .i64 i), (22, .sl 9 (l.getD (i : Int).toNat c0R).srcs.length (srcF (l.getD (i : Int).toNat c0R).srcs)), (23, .i .i64 (l.getD (i : Int).toNat c0R).srcs.length), (24, .i .i64 k)]) (fun k => [(3, .var [.i .i64 4, .b false, .b false, .s [], .i .i64 0, .s [], .gs 100 8 ((l.take i).map cmpJ).length (jF ((l.take i).map cmpJ)), .nilS]), (5, .var (cmpP (l.getD (i : Int).toNat c0R))), (6, .var [.i .i64 4, .b false, .b false, .s [], .i .i64 0, .s [], .gs 103 8 (((l.getD (i : Int).toNat c0R).srcs.take k).map srcJ).length (jF (((l.getD (i : Int).toNat c0R).srcs.take k).map srcJ)), .nilS]), (100, .row 55 8 ((l.take i).map cmpJ).length), (103, .row 55 8 (((l.getD (i : Int).toNat c0R).srcs.take k).map srcJ).length)])
    (fun k => k ≤ (l.getD (i : Int).toNat c0R).srcs.length ∧ (((l.getD (i : Int).toNat c0R).srcs.take k).map srcJ).length = k) (fun k => (l.getD (i : Int).toNat c0R).srcs.length - k) 0 ⟨Nat.zero_le _, by simp⟩
    ⟨⟨rfl, rfl, rfl, rfl, rfl, rfl, rfl, rfl, rfl, trivial⟩, ⟨rfl, rfl, rfl, rfl, rfl, trivial⟩, rfl, by rw [hX]; simp⟩ ?_
  rintro k ⟨u1, u2⟩
  try dsimp only at u1 u2 ⊢
  have knat : (k : Int).toNat = k := Int.toNat_natCast k
  by_cases hkl : k < (l.getD (i : Int).toNat c0R).srcs.length
  · have hkl' : (k : Int) < (l.getD (i : Int).toNat c0R).srcs.length := by omega
    have c := zkn ((l.getD (i : Int).toNat c0R).srcs.getD (k : Int).toNat s0R) (hc2 _)
    have f := zeA (f := srcJ) (d := s0R) hkl
    have f1 := zfi (((l.getD (i : Int).toNat c0R).srcs.take k).map srcJ) (srcJ ((l.getD (i : Int).toNat c0R).srcs.getD (k : Int).toNat s0R)) (chunk 8 (jP (srcJ ((l.getD (i : Int).toNat c0R).srcs.getD (k : Int).toNat s0R)))) (by rw [zlu]; rfl)
    rw [knat] at f1
    have u3 : (((l.getD (i : Int).toNat c0R).srcs.take (k + 1)).map srcJ).length = (((l.getD (i : Int).toNat c0R).srcs.take k).map srcJ).length + 1 := by rw [f, List.length_append]; rfl
    clear e e1 g3
    repeat' (first |refine zai (f := 32) rfl rfl Tryz.call32 rfl c ?_|with_reducible (first |refine zag ?_|refine zaa ?_|refine zaf ?_|refine zad ?_|refine zah ?_|refine zae ?_|refine zap ?_|refine zaB ?_)|refine zab rfl rfl True.intro ?_|((first |refine zac rfl ?_ ?_)<;>intro<;>try (first |(exfalso;omega)))|((first |refine zab rfl rfl ?_ ?_|refine zao rfl rfl ?_ ?_|refine zaw rfl ?_ ?_);focus (first |omega|exact le_ rfl|((repeat' refine And.intro ?_ ?_)<;>omega)|((repeat' refine And.intro ?_ ?_)<;>first |omega|rfl|exact Nat.le_refl _|exact le_ rfl)))|with_reducible refine ⟨by kernel_rfl, ?_⟩|fail)
    all_goals exact ⟨k + 1, ⟨by omega, by omega⟩, by omega, ⟨rfl, rfl, rfl, rfl, rfl, rfl, rfl, rfl, rfl, trivial⟩, ⟨rfl, rfl, by rw [u3, f, ← f1]; rfl, rfl, by rw [u3]; rfl, trivial⟩, rfl, by rw [hX]; simp⟩
  have hkl' : ¬ (k : Int) < (l.getD (i : Int).toNat c0R).srcs.length := by omega
  have ea : (l.getD (i : Int).toNat c0R).srcs.take k = (l.getD (i : Int).toNat c0R).srcs := List.take_of_length_le (by omega)
  rw [ea]
  rw [← hnat] at p1 p2 p3 p4 p5 p6
  have oI := zeL (l.getD (i : Int).toNat c0R).id
  have wI := ziM (txJ (l.getD (i : Int).toNat c0R).id) kId
  have wS := (zbs [txJ (l.getD (i : Int).toNat c0R).id] [kId] (listJ ((l.getD (i : Int).toNat c0R).srcs.map srcJ)) kSources (by simp) (by simp)).weakThird (zdB _)
  have n1 := zhN (l.getD (i : Int).toNat c0R).buf (by omega) (by omega)
  have n2 := zhN (l.getD (i : Int).toNat c0R).mx (by omega) (by omega)
  have n3 := zhN (l.getD (i : Int).toNat c0R).lim (by omega) (by omega)
  have w1 := zbs ([txJ (l.getD (i : Int).toNat c0R).id] ++ [listJ ((l.getD (i : Int).toNat c0R).srcs.map srcJ)]) ([kId] ++ [kSources]) (numJ (l.getD (i : Int).toNat c0R).buf) kBuffer (by simp) (by simp)
  have w2 := zbs ([txJ (l.getD (i : Int).toNat c0R).id] ++ [listJ ((l.getD (i : Int).toNat c0R).srcs.map srcJ)] ++ [numJ (l.getD (i : Int).toNat c0R).buf]) ([kId] ++ [kSources] ++ [kBuffer]) (numJ (l.getD (i : Int).toNat c0R).mx) kMaxzoom (by simp) (by simp)
  have w3 := znU ([txJ (l.getD (i : Int).toNat c0R).id] ++ [listJ ((l.getD (i : Int).toNat c0R).srcs.map srcJ)] ++ [numJ (l.getD (i : Int).toNat c0R).buf] ++ [numJ (l.getD (i : Int).toNat c0R).mx]) ([kId] ++ [kSources] ++ [kBuffer] ++ [kMaxzoom]) (numJ (l.getD (i : Int).toNat c0R).lim) kLimit (by simp) (by simp)
  clear hok p1 p2 p3 p4 p5 p6
  repeat' (first |refine zai (f := 34) rfl rfl Tryz.call34 rfl oI ?_|refine zai (f := 35) rfl rfl Tryz.call35 rfl n1 ?_|refine zai (f := 35) rfl rfl Tryz.call35 rfl n2 ?_|refine zai (f := 35) rfl rfl Tryz.call35 rfl n3 ?_|refine zbx (f := 33) [] (xR [txJ (l.getD (i : Int).toNat c0R).id] [kId]) [] [101, 102] rfl rfl (by decide) (fun _ h => by cases h) (new2 rfl rfl) rfl rfl Tryz.call33 trivial rfl rfl rfl rfl wI ?_|refine zbx (f := 33) (xR ([txJ (l.getD (i : Int).toNat c0R).id]) ([kId])) (xR ([txJ (l.getD (i : Int).toNat c0R).id] ++ [listJ ((l.getD (i : Int).toNat c0R).srcs.map srcJ)]) ([kId] ++ [kSources])) [101, 102] [101, 102] rfl rfl (by decide) (fun _ h => h) (fun k h1 h2 => absurd h1 h2) rfl rfl Tryz.call33 ⟨rfl, rfl, trivial⟩ rfl rfl rfl rfl wS ?_|refine zbx (f := 33) (xR ([txJ (l.getD (i : Int).toNat c0R).id] ++ [listJ ((l.getD (i : Int).toNat c0R).srcs.map srcJ)]) ([kId] ++ [kSources])) (xR ([txJ (l.getD (i : Int).toNat c0R).id] ++ [listJ ((l.getD (i : Int).toNat c0R).srcs.map srcJ)] ++ [numJ (l.getD (i : Int).toNat c0R).buf]) ([kId] ++ [kSources] ++ [kBuffer])) [101, 102] [101, 102] rfl rfl (by decide) (fun _ h => h) (fun k h1 h2 => absurd h1 h2) rfl rfl Tryz.call33 ⟨rfl, rfl, trivial⟩ rfl rfl rfl rfl w1 ?_|refine zbx (f := 33) (xR ([txJ (l.getD (i : Int).toNat c0R).id] ++ [listJ ((l.getD (i : Int).toNat c0R).srcs.map srcJ)] ++ [numJ (l.getD (i : Int).toNat c0R).buf]) ([kId] ++ [kSources] ++ [kBuffer])) (xR ([txJ (l.getD (i : Int).toNat c0R).id] ++ [listJ ((l.getD (i : Int).toNat c0R).srcs.map srcJ)] ++ [numJ (l.getD (i : Int).toNat c0R).buf] ++ [numJ (l.getD (i : Int).toNat c0R).mx]) ([kId] ++ [kSources] ++ [kBuffer] ++ [kMaxzoom])) [101, 102] [101, 102] rfl rfl (by decide) (fun _ h => h) (fun k h1 h2 => absurd h1 h2) rfl rfl Tryz.call33 ⟨rfl, rfl, trivial⟩ rfl rfl rfl rfl w2 ?_|refine zbx (f := 33) (xR ([txJ (l.getD (i : Int).toNat c0R).id] ++ [listJ ((l.getD (i : Int).toNat c0R).srcs.map srcJ)] ++ [numJ (l.getD (i : Int).toNat c0R).buf] ++ [numJ (l.getD (i : Int).toNat c0R).mx]) ([kId] ++ [kSources] ++ [kBuffer] ++ [kMaxzoom])) (xR ([txJ (l.getD (i : Int).toNat c0R).id] ++ [listJ ((l.getD (i : Int).toNat c0R).srcs.map srcJ)] ++ [numJ (l.getD (i : Int).toNat c0R).buf] ++ [numJ (l.getD (i : Int).toNat c0R).mx] ++ [numJ (l.getD (i : Int).toNat c0R).lim]) ([kId] ++ [kSources] ++ [kBuffer] ++ [kMaxzoom] ++ [kLimit])) [101, 102] [101, 102] rfl rfl (by decide) (fun _ h => h) (fun k h1 h2 => absurd h1 h2) rfl rfl Tryz.call33 ⟨rfl, rfl, trivial⟩ rfl rfl rfl rfl w3 ?_|with_reducible (first |refine zag ?_|refine zaa ?_|refine zaf ?_|refine zad ?_|refine zaA ?_|refine zap ?_|refine zaz ?_|refine zaB ?_)|refine zab rfl rfl True.intro ?_|((first |refine zac rfl ?_ ?_)<;>intro<;>try (first |(exfalso;omega)))|((first |refine zab rfl rfl ?_ ?_|refine zao rfl rfl ?_ ?_|refine zaw rfl ?_ ?_);focus (first |omega|exact le_ rfl|((repeat' refine And.intro ?_ ?_)<;>omega)|((repeat' refine And.intro ?_ ?_)<;>first |omega|rfl|exact Nat.le_refl _|exact le_ rfl)))|refine zaO rfl ?_|with_reducible refine ⟨by kernel_rfl, ?_⟩|fail)
  all_goals exact ⟨i + 1, ⟨by omega, by omega⟩, by omega, ⟨rfl, rfl, rfl, rfl, trivial⟩, ⟨by rw [g3, e, ← e1]; rfl, by rw [g3]; rfl, trivial⟩, rfl, by rw [hX]; simp⟩

def bnd (f : FuncId) (b : Nat) : D := .v (.func (.func f) #[.pointer (some ⟨b, 0, none⟩)] #[])
section
variable {P : Program} {X : Ctx} {n : Nat} {fr : Fr} {ow ow' : Ow} {d : D}
theorem T.pin {c : Code} {Q : Exit → Fr → Ow → Prop} (k : Nat) (cs : List D) (hk : look k ow = some (.var cs)) (hL : Lent X) (h : ∀ (X' : Ctx) (b : Nat), Lent X' → X'.ids = k :: X.ids → X'.r0 k = some (.blk b) → T P X' n c fr ow Q) : T P X n c fr ow Q := fun a w ⟨S, r, hH, hI, hF, hd, hn, hρ⟩ => by
  obtain ⟨b, cur, e, g1, _⟩ := hI.obj k _ hk
  let X' : Ctx := { X with r0 := fun j => if j = k then some (.blk b) else X.r0 j, ids := k :: X.ids }
  have hle : RhoLe X.r0 X'.r0 := fun j l hl => by
    by_cases e : j = k
    · subst e
      obtain ⟨l', h1, h2⟩ := hρ j l hl
      rw [g1] at h1
      cases h1
      exact ⟨.blk b, if_pos rfl, h2⟩
    · exact ⟨l, (if_neg e).trans hl, LocLe.refl l⟩
  have hρ' : RhoLe X'.r0 r := fun j l hl => by
    by_cases e : j = k
    · subst e
      have h1 : some (Loc.blk b) = some l := (if_pos rfl).symm.trans hl
      cases h1
      exact ⟨_, g1, LocLe.refl _⟩
    · exact hρ j l ((if_neg e).symm.trans hl)
  have hL' : Lent X' := fun j hj => by
    by_cases e : j = k
    · subst e
      exact List.mem_cons_self
    · exact List.mem_cons_of_mem _ (hL j fun q => hj ((if_neg e).trans q))
  refine (h X' b hL' rfl (if_pos rfl) a w ⟨S, r, ⟨hH.os, hH.tape, hH.output, hH.size, hH.block, hH.sub, hH.cell, hH.new, hH.valid, hH.glob⟩, ⟨hI.obj, hI.dom, hI.apart, hI.low⟩, hF, hd, hn, hρ'⟩).mono ?_
  rintro e a w ⟨fr', ow', hq, S, r, hH, hI, hF, hd, hn, hρ⟩
  exact ⟨fr', ow', hq, S, r, ⟨hH.os, hH.tape, hH.output, hH.size, hH.block, hH.sub, hH.cell, hH.new, hH.valid, hH.glob⟩, ⟨hI.obj, hI.dom, hI.apart, hI.low⟩, hF, hd, hn, hle.trans hρ⟩
theorem znR {o : Oper} {f : FuncId} {x : Operand} {k b : Nat} (ho : o.op = .makeFunc (.func f) ⟨[x]⟩ ⟨[]⟩) (hx : ev fr x = .pv k 0) (hb : X.r0 k = some (.blk b)) (hd : dstOk o.dst n) :
    ∀ F' O', (∀ y ∈ o.op.operands.toList, evF F' y = evF (fF fr) y) → (∀ j ∈ ([] : List Nat), O' j = fO ow j) → StepAt P X n o F' O' (bnd f b) [] := by
  intro F' O' he hO a w K Q ⟨S, r, hH, hI, hF, hdf, hn, hρ⟩ hK
  have hx' := zce hH.glob hF x
  rw [he x (by simp [ho, Op.operands]), zaT, hx] at hx'
  generalize hv : a.eval x = vx at hx'
  cases hx' with
  | pv _ _ _ b' hb' =>
  obtain ⟨l', h1, h2⟩ := hρ k _ hb
  rw [hb'] at h1
  cases h1
  simp only [LocLe] at h2
  subst h2
  have hrun : (execOp a.eval o).run P w = .ok (.value (.func (.func f) #[.pointer (some ⟨b, 0, none⟩)] #[])) w := by
    simp [execOp, ho, hv, Instr.makeFunc]
  exact OW.value hrun (hK _ w ⟨S, r, hH, hI, zco hF (hn ▸ hd) (.v _ _), by rw [zbi]; exact hdf, by rw [zbK]; exact hn, hρ⟩)
theorem zkF {o : Oper} {f : FuncId} {g : Operand} {xs : List Operand} {ts : Array TypeId} {k0 b0 : Nat} {args : List D} (hP : ∀ vs w, (callFunc f vs).run P w = .ok (.enter f vs) w) (ho : o.op = .call { callee := .value g, args := ⟨xs⟩, argTypes := ts }) (hg : ev fr g = bnd f b0)
    {r : Rho} (hb0 : X.r0 k0 = some (.blk b0)) (hρ : RhoLe X.r0 r) (hxs : .pv k0 0 :: evs fr xs = args) {F : Nat → D} (he : ∀ x ∈ o.op.operands.toList, evF F x = evF (fF fr) x)
    {S : Cells} {w : World} {a : Act} (hr : ∀ x, Rel S w r (evF F x) (a.eval x)) :
    ∃ vs : Array Value, (execOp a.eval o).run P w = .ok (.enter f vs) w ∧ vs.size = args.length ∧ ∀ j, j < args.length → Rel S w r (args.getD j .any) (vs.getD j undef) := by
  have hev : ∀ x ∈ o.op.operands.toList, Rel S w r (ev fr x) (a.eval x) := fun x hx => by
    rw [← zaT, ← he x hx]
    exact hr x
  have h1 := hev g (by simp [ho, Op.operands, Call.operands])
  rw [hg] at h1
  have hx : ∀ x ∈ xs, Rel S w r (ev fr x) (a.eval x) := fun x hx => hev x (by simp [ho, Op.operands, Call.operands, hx])
  generalize hgv : a.eval g = gv at h1
  obtain ⟨l', q1, q2⟩ := hρ k0 _ hb0
  have hl' : l' = .blk b0 := by
    cases l' with
    | blk b' => simp only [LocLe] at q2; rw [q2]
    | row => simp [LocLe] at q2
  subst hl'
  subst hxs
  cases h1
  refine ⟨#[.pointer (some ⟨b0, 0, none⟩)] ++ (xs.map a.eval).toArray, ?_, by simp [zdl], fun j hj => ?_⟩
  · simp only [execOp, ho, Sem.run_bind, resolve, hgv, Deferred.ofValue, Sem.run_pure, Result.andThen_ok, invoke]
    simp [hP]
  · cases j with
    | zero =>
      have e2 : (#[Value.pointer (some ⟨b0, 0, none⟩)] ++ (xs.map a.eval).toArray).getD 0 undef = .pointer (some ⟨b0, 0, none⟩) := by
        rw [Array.getD_eq_getD_getElem?, Array.getElem?_append_left (by simp)]
        simp
      rw [e2]
      exact .pv _ _ _ _ q1
    | succ j =>
      have hj' : j < xs.length := by simpa [zdl] using hj
      have h2 := zko (S := S) (w := w) (r := r) (a := a) hx j hj'
      have e2 : (#[Value.pointer (some ⟨b0, 0, none⟩)] ++ (xs.map a.eval).toArray).getD (j + 1) undef = ((xs.map a.eval).toArray).getD j undef := by
        rw [Array.getD_eq_getD_getElem?, Array.getD_eq_getD_getElem?, Array.getElem?_append_right (by simp)]
        simp
      rw [e2]
      simpa using h2
theorem zne {o : Oper} {f : FuncId} {g : Operand} {xs : List Operand} {ts : Array TypeId} {k0 b0 : Nat} {args : List D} {lo lo' : Ow} {ids ids2 : List Nat} (hP : ∀ vs w, (callFunc f vs).run P w = .ok (.enter f vs) w) (ho : o.op = .call { callee := .value g, args := ⟨xs⟩, argTypes := ts }) (hg : ev fr g = bnd f b0) (hb0 : X.r0 k0 = some (.blk b0)) (hxs : .pv k0 0 :: evs fr xs = args) (hk : hasAll (fun k => look k ow) lo)
    (hi1 : lo.map (·.1) = ids) (hi2 : lo'.map (·.1) = ids2) (hnd : ids2.Nodup) (hsub : ∀ k ∈ ids, k ∈ ids2) (hnew : ∀ k ∈ ids2, k ∉ ids → look k ow = none)
    (hok : (args.map (lendS ids)).all (D.okS ids) = true) (hf1 : lo.all (fun x => x.2.okIn ids) = true) (hf2 : lo'.all (fun x => x.2.okIn ids2) = true) (hf3 : d.okS ids2 = true)
    (hC : CtrO P f (args.map (lendS ids)) lo d lo') (hd : dstOk o.dst n) :
    ∀ F' O', (∀ x ∈ o.op.operands.toList, evF F' x = evF (fF fr) x) → (∀ j ∈ ids2, O' j = fO ow j) → StepAt P X n o F' O' d lo' := by
  intro F' O' he hO a w K' Q' ⟨S, r, hH, hI, hF, hdf, hn, hρ⟩ hK
  obtain ⟨vs, hrun, hsz, hrel⟩ := zkF hP ho hg hb0 hρ hxs he (fun x => zce hH.glob hF x)
  have hOk : ∀ k o, look k lo = some o → O' k = some o := fun k o h => by
    have hm : k ∈ ids := by rw [← hi1]; exact List.mem_map.2 ⟨(k, o), zaL h, rfl⟩
    exact (hO k (hsub k hm)).trans (zbD hk k o h)
  have hmem : ∀ k, k ∈ ids → ∃ o, look k lo = some o := fun k h => zba (by rw [hi1]; exact h)
  have hmem' : ∀ k, k ∈ ids2 → ∃ o, look k lo' = some o := fun k h => zba (by rw [hi2]; exact h)
  have hin : ∀ k o, look k lo = some o → k ∈ ids ∧ o.okIn ids = true := fun k o h => by
    have h1 := zaL h
    rw [List.all_eq_true] at hf1
    exact ⟨by rw [← hi1]; exact List.mem_map.2 ⟨(k, o), h1, rfl⟩, hf1 _ h1⟩
  have hin' : ∀ k o, look k lo' = some o → k ∈ ids2 ∧ o.okIn ids2 = true := fun k o h => by
    have h1 := zaL h
    rw [List.all_eq_true] at hf2
    exact ⟨by rw [← hi2]; exact List.mem_map.2 ⟨(k, o), h1, rfl⟩, hf2 _ h1⟩
  have hblt : ∀ k l b, r k = some l → l.block = some b → b < w.heap.size := fun k l b hl hb => by
    cases ho : O' k with
    | none => rw [hI.dom k ho] at hl; cases hl
    | some o => exact (hI.obj k o ho).blockLt hl hb
  let X' : Ctx := { w0 := w, S0 := S, L := fun b => ∃ k ∈ ids, ∃ l, r k = some l ∧ l.block = some b, r0 := keepR r ids, ids := ids }
  have hH' : Hist X' w S := ⟨rfl, rfl, rfl, Nat.le_refl _, fun _ _ _ => rfl, fun _ _ h => h, fun _ _ _ => rfl, fun _ _ h => .inl h, hH.valid, hH.glob⟩
  have hI' : Inv X' w S X'.r0 (fO lo) := by
    refine ⟨fun k o hk' => ?_, fun k hk' => ?_, fun i j l l' b' hij hl hl' hb' => ?_, fun k l b' hl hb' => ?_⟩
    · obtain ⟨h1, h2⟩ := hin k o hk'
      exact (hI.obj k o (hOk k o hk')).okIn h2 (RhoLe.refl _) (if_pos h1)
    · refine if_neg fun hm => ?_
      obtain ⟨o, ho⟩ := hmem k hm
      rw [show fO lo k = look k lo from rfl, ho] at hk'
      cases hk'
    · have hl : keepR r ids i = some l := hl
      have hl' : keepR r ids j = some l' := hl'
      simp only [keepR] at hl hl'
      split at hl <;> first | (cases hl; done) | skip
      split at hl' <;> first | (cases hl'; done) | skip
      exact hI.apart i j l l' b' hij hl hl' hb'
    · have hl : keepR r ids k = some l := hl
      simp only [keepR] at hl
      split at hl <;> first | (cases hl; done) | skip
      rename_i hm
      exact .inr ⟨k, hm, l, hl, hb'⟩
  have hrel' : ∀ j, j < (args.map (lendS ids)).length → Rel S w X'.r0 ((args.map (lendS ids)).getD j .any) (vs.getD j undef) := by
    intro j hj
    have hj' : j < args.length := by simpa using hj
    have e : (args.map (lendS ids)).getD j .any = lendS ids (args.getD j .any) := by simp [List.getD_eq_getElem?_getD, hj']
    have hokj : (lendS ids (args.getD j .any)).okS ids = true := by
      rw [← e]
      rw [List.all_eq_true] at hok
      refine hok _ ?_
      simp only [List.getD_eq_getElem?_getD, List.getElem?_eq_getElem hj, Option.getD_some]
      exact List.getElem_mem hj
    rw [e]
    exact ((hrel j hj').lendS ids).okS hokj
  refine OW.enter hrun ((hC X' vs hi1.symm hH' hI' (by simpa using hsz) hrel').mono ?_)
  rintro e w' ⟨v, S', r', rfl, g1, g2, g3, g4⟩
  let r2 : Rho := fun k => if k ∈ ids2 then r' k else r k
  have hr2 : RhoLe r r2 := fun k l hl => by
    by_cases hm : k ∈ ids2
    · have hm0 : k ∈ ids := by
        rcases Classical.em (k ∈ ids) with h | h
        · exact h
        · have h0 : O' k = none := (hO k hm).trans (hnew k hm h)
          rw [hI.dom k h0] at hl
          cases hl
      obtain ⟨l', h1, h2⟩ := g4 k l (by show keepR r ids k = some l; rw [keepR, if_pos hm0]; exact hl)
      exact ⟨l', by show (if k ∈ ids2 then r' k else r k) = some l'; rw [if_pos hm]; exact h1, h2⟩
    · exact ⟨l, by show (if k ∈ ids2 then r' k else r k) = some l; rw [if_neg hm]; exact hl, LocLe.refl l⟩
  have hr3 : RhoLe (keepR r' ids2) r2 := fun k l hl => by
    simp only [keepR] at hl
    split at hl <;> first | (cases hl; done) | skip
    rename_i hm
    exact ⟨l, by show (if k ∈ ids2 then r' k else r k) = some l; rw [if_pos hm]; exact hl, LocLe.refl l⟩
  have hXL : ∀ b, X'.L b → X.w0.heap.size ≤ b ∨ X.L b := fun b ⟨k, _, l, hl, hb⟩ => hI.low k l b hl hb
  have hother : ∀ k l b, k ∉ ids2 → r k = some l → l.block = some b → ¬ X'.L b := fun k l b hm hl hb ⟨k', hm', l', hl', hb'⟩ =>
    hI.apart k k' l l' b (fun e => hm (e ▸ hsub k' hm')) hl hl' hb hb'
  refine hK v w' ⟨S', r2, ?_, ?_, zco (fun t => (hF t).mono g2.sub g2.cell r2 hr2) (hn ▸ hd) ((g1.okS hf3).mono (fun _ _ h => h) (fun _ _ _ => rfl) r2 hr3), by rw [zbi]; exact hdf, by rw [zbK]; exact hn, hρ.trans hr2⟩
  · refine ⟨g2.os.trans hH.os, g2.tape.trans hH.tape, g2.output.trans hH.output, Nat.le_trans hH.size g2.size, fun k hk' hl => ?_, fun b o hb => g2.sub b o (hH.sub b o hb), fun b o hb => (g2.cell b o (hH.sub b o hb)).trans (hH.cell b o hb), fun b o hb => ?_, g2.valid, g2.glob⟩
    · refine (g2.block k (Nat.lt_of_lt_of_le hk' hH.size) fun hx => ?_).trans (hH.block k hk' hl)
      rcases hXL k hx with h | h
      · omega
      · exact hl h
    · rcases g2.new b o hb with h | h | h
      · exact hH.new b o h
      · exact .inr (.inl (Nat.le_trans hH.size h))
      · rcases hXL b h with h | h
        · exact .inr (.inl h)
        · exact .inr (.inr h)
  · have hnd' : (lo'.map (·.1)).Nodup := by rw [hi2]; exact hnd
    have hup : ∀ k, k ∉ ids2 → updO O' lo' k = O' k := fun k hm => by
      rw [zaQ hnd', zaY (by rw [hi2]; exact hm)]
    refine ⟨fun k o hk' => ?_, fun k hk' => ?_, fun i j l l' b hij hl hl' hb => ?_, fun k l b hl hb => ?_⟩
    · by_cases hm : k ∈ ids2
      · obtain ⟨o', ho'⟩ := hmem' k hm
        rw [zaQ hnd', ho'] at hk'
        obtain rfl : o' = o := Option.some.inj hk'
        exact (g3.obj k o' ho').okIn (hin' k o' ho').2 hr3 (if_pos hm)
      · rw [hup k hm] at hk'
        refine (hI.obj k o hk').keepL g2.sub g2.cell hr2 (if_neg hm) (fun l b hl hb => g2.block b (hblt k l b hl hb) (hother k l b hm hl hb)) (fun b o hs => ?_)
        rcases g2.new b o hs with h | h | h
        · exact .inl h
        · refine .inr fun l hl hb => ?_
          have := hblt k l b hl hb
          have h : w.heap.size ≤ b := h
          omega
        · exact .inr fun l hl hb => hother k l b hm hl hb h
    · by_cases hm : k ∈ ids2
      · obtain ⟨o', ho'⟩ := hmem' k hm
        rw [zaQ hnd', ho'] at hk'
        cases hk'
      · rw [hup k hm] at hk'
        exact (if_neg hm).trans (hI.dom k hk')
    · have hl : (if i ∈ ids2 then r' i else r i) = some l := hl
      have hl' : (if j ∈ ids2 then r' j else r j) = some l' := hl'
      by_cases h1 : i ∈ ids2
      · rw [if_pos h1] at hl
        by_cases h2 : j ∈ ids2
        · rw [if_pos h2] at hl'
          exact g3.apart i j l l' b hij hl hl' hb
        · rw [if_neg h2] at hl'
          intro hb'
          rcases g3.low i l b hl hb with h | h
          · have := hblt j l' b hl' hb'
            have h : w.heap.size ≤ b := h
            omega
          · exact hother j l' b h2 hl' hb' h
      · rw [if_neg h1] at hl
        by_cases h2 : j ∈ ids2
        · rw [if_pos h2] at hl'
          intro hb'
          rcases g3.low j l' b hl' hb' with h | h
          · have := hblt i l b hl hb
            have h : w.heap.size ≤ b := h
            omega
          · exact hother i l b h1 hl hb h
        · rw [if_neg h2] at hl'
          exact hI.apart i j l l' b hij hl hl' hb
    · have hl : (if k ∈ ids2 then r' k else r k) = some l := hl
      by_cases h1 : k ∈ ids2
      · rw [if_pos h1] at hl
        rcases g3.low k l b hl hb with h | h
        · exact .inl (Nat.le_trans hH.size h)
        · exact hXL b h
      · rw [if_neg h1] at hl
        exact hI.low k l b hl hb
end
section
variable {X : Ctx} {n : Nat} {all rest : List Oper} {fr : Fr} {ow : Ow} {tr : List (List Nat × List Nat)} {K : Fr → Ow → List (List Nat × List Nat) → Prop}
variable {t : Nat} {ty : TypeId} {ps : String} {af : Array Edge} {d : D} {f : FuncId} {args : List D}
theorem ztg {x : Operand} {k b : Nat} (hb : X.r0 k = some (.blk b)) (hx : ev fr x = .pv k 0) (hn : Nat.blt t n = true)
    (h : CT Tryz.prog X n all rest ((t, bnd f b) :: fr) ow (tr ++ [([], [])]) K) : CT Tryz.prog X n all (⟨some t, .makeFunc (.func f) ⟨[x]⟩ ⟨[]⟩, ty, ps, af, none⟩ :: rest) fr ow tr K :=
  CT.cons (e := ⟨bnd f b, [], []⟩) (.plain rfl (znR (o := ⟨some t, .makeFunc (.func f) ⟨[x]⟩ ⟨[]⟩, ty, ps, af, none⟩) rfl hx hb (show t < n by simpa using hn))) (zaF ..) rfl h
theorem zdg (k0 : Nat) {b0 : Nat} {g : Operand} {xs : List Operand} {ts : Array TypeId} (lo lo' : Ow) (ids ids2 : List Nat) (hi1 : lo.map (·.1) = ids) (hi2 : lo'.map (·.1) = ids2) (hnd : ids2.Nodup) (hsub : ∀ k ∈ ids, k ∈ ids2) (hnew : ∀ k ∈ ids2, k ∉ ids → look k ow = none)
    (hb0 : X.r0 k0 = some (.blk b0)) (hg : ev fr g = bnd f b0) (hxs : .pv k0 0 :: evs fr xs = args) (hn : Nat.blt t n = true) (hP : ∀ vs w, (callFunc f vs).run Tryz.prog w = .ok (.enter f vs) w) (hk : hasAll (fun k => look k ow) lo)
    (hok : (args.map (lendS ids)).all (D.okS ids) = true) (hf1 : lo.all (fun x => x.2.okIn ids) = true) (hf2 : lo'.all (fun x => x.2.okIn ids2) = true) (hf3 : d.okS ids2 = true)
    (hC : CtrO Tryz.prog f (args.map (lendS ids)) lo d lo')
    (h : CT Tryz.prog X n all rest ((t, d) :: fr) (lo' ++ ow) (tr ++ [(ids2, lo'.map (·.1))]) K) : CT Tryz.prog X n all (⟨some t, .call { callee := .value g, args := ⟨xs⟩, argTypes := ts }, ty, ps, af, none⟩ :: rest) fr ow tr K :=
  CT.cons (e := ⟨d, ids2, lo'⟩) (.plain rfl (zne (o := ⟨some t, .call { callee := .value g, args := ⟨xs⟩, argTypes := ts }, ty, ps, af, none⟩) (ow := ow) hP rfl hg hb0 hxs hk hi1 hi2 hnd hsub hnew hok hf1 hf2 hf3 hC (show t < n by simpa using hn))) (zaF ..) (zop (by rw [hi2]; exact hnd)) h
end
end Go.Proofs.YtcajofhafpkbdaaGreatDoor.Flow
