/- The texts J3, one behind the other. -/
import Derived.Test.YtcajofhafpkbdaaGreatDoorCF13
import Derived.Test.YtcajofhafpkbdaaGreatDoorCF20
import Derived.Test.YtcajofhafpkbdaaGreatDoorCF23
namespace Go.Proofs.YtcajofhafpkbdaaGreatDoor.Flow
open Go

def pvS (p : Nat) (e : Int) : Value := .iface 83 (.agg #[.int .i64 p, .int .i64 e])
abbrev rdr (s : List UInt8) (i : Nat) : Ow := [(13, .var [.s s, .i .i64 i])]
def RdE (f : FuncId) (args : List D) (s : List UInt8) (i : Nat) (o : Sum (D × Nat) (Nat × Int)) : Prop :=
  match o with
  | .inl (d, n) => CtrO Tryz.prog f args (rdr s i) d (rdr s n)
  | .inr (p, e) => CtrP Tryz.prog f args (rdr s i) (pvS p e) [(13, .gone)]

section
variable {fr : Fr} {ow : Ow} {f : FuncId} {args : List D} {pv : Value}
def EndsR (rs : List ResultVar) (s : List UInt8) (o : Sum (D × Nat) (Nat × Int)) (e : Exit) (fr : Fr) (ow : Ow) : Prop :=
  match o with
  | .inl (d, n) => EndsM rs d (rdr s n) e fr ow
  | .inr (p, er) => EndsP (pvS p er) [(13, .gone)] e fr ow
theorem zpT {rs : List ResultVar} {d2 : D} {s : List UInt8} {o : Sum (D × Nat) (Nat × Int)} (h : resU B fr ow rs = some d2) (he : Stay (∃ d n, o = .inl (d, n) ∧ Weak d2 d ∧ look 13 ow = some (.var [.s s, .i .i64 (n : Nat)]))) : Rtn (EndsR rs s o) fr ow := by
  unfold Rtn
  obtain ⟨d, n, rfl, hw, hl⟩ := he.out
  exact ⟨d2, h, hw, hl, trivial⟩
theorem zpq {rs : List ResultVar} {d2 : D} {s : List UInt8} {o : Sum (D × Nat) (Nat × Int)} (h : resU B fr ow rs = some d2) (he : Stay (∃ d n, o = .inl (d, n) ∧ Weak d2 d ∧ look 13 ow = some (.var [.s s, .i .i64 (n : Nat)]))) : Nrm (EndsR rs s o) fr ow := by
  unfold Nrm
  obtain ⟨d, n, rfl, hw, hl⟩ := he.out
  exact ⟨d2, h, hw, hl, trivial⟩
theorem zfx {rs : List ResultVar} {s : List UInt8} {o : Sum (D × Nat) (Nat × Int)} (he : Stay (∃ p e, o = .inr (p, e) ∧ pv = pvS p e ∧ ∃ o2, look 13 ow = some o2)) : Pnc pv (EndsR rs s o) fr ow := by
  unfold Pnc
  obtain ⟨p, e, rfl, rfl, hl⟩ := he.out
  exact ⟨rfl, hl, trivial⟩
theorem zoK {fn : Func} {c : Code} {N : Nat} {rs : List ResultVar} {s : List UInt8} {i : Nat} {o : Sum (D × Nat) (Nat × Int)} (hf : Tryz.prog.funcs[f]? = some fn) (hb : fn.body = some c) (hN : fn.ntmps = N) (hrs : fn.results = ⟨rs⟩) (hlen : Nat.ble args.length N = true)
    (hd : ∀ d n, o = .inl (d, n) → d.okIn [13] = true) (h : ∀ X : Ctx, Lent X → X.ids = [13] → T Tryz.prog X N c (slots 0 args) (rdr s i) (EndsR rs s o)) : RdE f args s i o := by
  match o, hd, h with
  | .inl (d, n), hd, h => exact zbi hf hb hN hrs hlen rfl rfl (hd d n rfl) rfl h
  | .inr (p, e), hd, h => exact zeY hf hb hN hlen rfl rfl rfl h
end

theorem zcx (p : Nat) (e : Int) : CtrP Tryz.prog 50 [.i .i64 p, .i .i64 e] [] (pvS p e) [] := by
  refine zeY Tryz.func50 rfl Tryz.ntmps50 rfl rfl rfl rfl fun X hL hX => ?_
  repeat' (first |(refine zfp (id := 0) 4 ?_;dsimp only [splitOp])|refine znm Tryz.underlying83 rfl rfl ?_|with_reducible (first |refine zaK ?_|refine zaj ?_|refine zaL ?_|refine zaB ?_|refine zaO ?_|refine zaD ?_|refine zaC ?_|refine zar ?_|refine zaq ?_|refine zaI ?_|refine zaE ?_|refine zas ?_|refine zaH ?_)|refine zaw rfl rfl True.intro ?_|refine zau rfl rfl rfl ?_|refine zao rfl rfl rfl ?_|refine zag rfl rfl rfl rfl True.intro ?_|refine zaF rfl ?_|refine zat rfl ?_|((first |refine zal rfl ?_ ?_|refine zan rfl ?_ ?_|refine zak rfl ?_ ?_|refine zam rfl ?_ ?_|refine zap rfl ?_ ?_|refine zaA rfl ?_ ?_|refine zad rfl rfl ?_ ?_|refine zae rfl rfl ?_ ?_|refine zaf rfl rfl ?_ ?_|refine zac rfl rfl ?_ ?_|refine zab rfl rfl ?_ ?_)<;>intro<;>try (first |(rename_i hz;first |exact tf_ hz|exact ft_ hz)|(exfalso;omega)))|((first |refine zaw rfl rfl ?_ ?_|refine zag rfl rfl rfl rfl ?_ ?_|refine zaM rfl rfl ?_ ?_|refine zaJ rfl ?_ ?_|refine zaG rfl rfl rfl rfl ?_ ?_);focus (first |omega|exact le_ rfl|((repeat first |rw [zay]|rw [wi6_]|rw [wi3_]|rw [zai]|rw [zah]);(repeat' refine And.intro ?_ ?_)<;>omega)|((repeat' refine And.intro ?_ ?_)<;>first |omega|rfl|exact Nat.le_refl _|exact le_ rfl|exact zaa _)|(simp_all;done)|(simp_all;omega)))|refine zaP rfl ?_|refine zaz rfl ?_|with_reducible refine ⟨by kernel_rfl, ?_⟩|refine zoG rfl ?_|refine zdm ?_|refine zcn ?_|refine ziw rfl trivial|((with_reducible refine zaN ?_);(fail_if_success (refine zax true rfl rfl rfl ?_));(fail_if_success (refine zax false rfl rfl rfl ?_));refine zav rfl rfl (fun _ => ?_) (fun _ => ?_)))

theorem zmG : ∀ n : Fin 256, decide (0 ≤ Lib.indexByte [32, 9, 10, 13] (n.1 : Int).toNat.toUInt8) = blkB (UInt8.ofNat n.1) := by decide +kernel
theorem zpK (s : List UInt8) (j : Nat) : decide (0 ≤ Lib.indexByte [32, 9, 10, 13] (at' s j).toNat.toUInt8) = blkB (s.getD j 0) := by
  have h := zmG ⟨(s.getD j 0).toNat, (s.getD j 0).toNat_lt⟩
  rw [show UInt8.ofNat (s.getD j 0).toNat = s.getD j 0 by simp] at h
  exact h
theorem zmZ {s : List UInt8} {i j : Nat} (_h1 : i ≤ j) (h2 : j ≤ skN s i) (h3 : j < s.length) (h4 : blkB (s.getD j 0) = true) : j + 1 ≤ skN s i := by
  rcases Nat.lt_or_ge j (skN s i) with h | h
  · exact h
  · have e : j = skN s i := by omega
    have := zix (s := s) (i := i) (by omega)
    rw [← e, h4] at this
    cases this
theorem zlC {s : List UInt8} {i j : Nat} (h1 : i ≤ j) (h2 : j ≤ skN s i) (h3 : s.length ≤ j ∨ blkB (s.getD j 0) = false) (hi : i ≤ s.length) : skN s i = j := by
  have hle := (zgZ hi).2
  rcases h3 with h3 | h3
  · omega
  · rcases Nat.lt_or_ge j (skN s i) with h | h
    · exfalso
      have key : ∀ (q : List UInt8) (k : Nat), k < (q.takeWhile blkB).length → blkB (q.getD k 0) = true := by
        intro q
        induction q with
        | nil => intro k hk; simp at hk
        | cons c q ih =>
          intro k hk
          rw [List.takeWhile_cons] at hk
          by_cases hc : blkB c = true
          · rw [if_pos hc] at hk
            cases k with
            | zero => exact hc
            | succ k => exact ih k (by simpa using hk)
          · rw [if_neg hc] at hk
            simp at hk
      have := key (s.drop i) (j - i) (by unfold skN at h; omega)
      rw [show (s.drop i).getD (j - i) 0 = s.getD j 0 by simp [List.getD_eq_getElem?_getD, show i + (j - i) = j by omega], h3] at this
      cases this
    · omega

set_option maxRecDepth 100000 in
set_option maxHeartbeats 1000000 in
theorem zmq (s : List UInt8) (i : Nat) (hs : s.length ≤ 1048576) (hi : i ≤ s.length) : CtrO Tryz.prog 49 [.pv 13 0] (rdr s i) (.tu []) (rdr s (skN s i)) := by
  refine zbi Tryz.func49 rfl Tryz.ntmps49 Tryz.results49 rfl rfl rfl rfl rfl fun X hL hX => ?_
  repeat' (first |with_reducible (first |refine zaK ?_|refine zaj ?_|refine zaL ?_|refine zaB ?_|refine zaO ?_|refine zaD ?_|refine zaC ?_|refine zar ?_|refine zaq ?_|refine zaI ?_|refine zaE ?_|refine zas ?_|refine zaH ?_)|refine zaw rfl rfl True.intro ?_|refine zau rfl rfl rfl ?_|refine zao rfl rfl rfl ?_|refine zag rfl rfl rfl rfl True.intro ?_|refine zaF rfl ?_|refine zat rfl ?_|((first |refine zal rfl ?_ ?_|refine zan rfl ?_ ?_|refine zak rfl ?_ ?_|refine zam rfl ?_ ?_|refine zap rfl ?_ ?_|refine zaA rfl ?_ ?_|refine zad rfl rfl ?_ ?_|refine zae rfl rfl ?_ ?_|refine zaf rfl rfl ?_ ?_|refine zac rfl rfl ?_ ?_|refine zab rfl rfl ?_ ?_)<;>intro<;>try (first |(rename_i hz;first |exact tf_ hz|exact ft_ hz)|(exfalso;omega)))|((first |refine zaw rfl rfl ?_ ?_|refine zag rfl rfl rfl rfl ?_ ?_|refine zaM rfl rfl ?_ ?_|refine zaJ rfl ?_ ?_|refine zaG rfl rfl rfl rfl ?_ ?_);focus (first |omega|exact le_ rfl|((repeat first |rw [zay]|rw [wi6_]|rw [wi3_]|rw [zai]|rw [zah]);(repeat' refine And.intro ?_ ?_)<;>omega)|((repeat' refine And.intro ?_ ?_)<;>first |omega|rfl|exact Nat.le_refl _|exact le_ rfl|exact zaa _)|(simp_all;done)|(simp_all;omega)))|refine zaP rfl ?_|refine zaz rfl ?_|with_reducible refine ⟨by kernel_rfl, ?_⟩|((with_reducible refine zaN ?_);(fail_if_success (refine zax true rfl rfl rfl ?_));(fail_if_success (refine zax false rfl rfl rfl ?_));refine zav rfl rfl (fun _ => ?_) (fun _ => ?_)))
  refine T.loop hL (fun _ : Nat => [(0, .pv 13 0)]) (fun j => rdr s j) (fun j => i ≤ j ∧ j ≤ skN s i) (fun j => s.length - j) i ⟨Nat.le_refl _, (zgZ hi).1⟩
    ⟨⟨rfl, trivial⟩, ⟨rfl, trivial⟩, rfl, fun q hq => by rw [hX] at hq; simp at hq; simp [hq]⟩ ?_
  rintro j ⟨h1, h2⟩
  have h3 := (zgZ hi).2
  by_cases hj : j < s.length
  · have c1 := zdy [32, 9, 10, 13] (at' s j)
    have hb := zpK s j
    cases hc : blkB (s.getD j 0) with
    | true =>
      rw [hc, decide_eq_true_eq] at hb
      have hm := zmZ h1 h2 hj hc
      repeat' (first |refine zaY (f := 82) rfl rfl rfl rfl Tryz.call82 rfl c1 ?_|with_reducible (first |refine zaK ?_|refine zaj ?_|refine zaL ?_|refine zaB ?_|refine zaO ?_|refine zaD ?_|refine zaC ?_|refine zar ?_|refine zaq ?_|refine zaI ?_|refine zaE ?_|refine zas ?_|refine zaH ?_)|refine zaw rfl rfl True.intro ?_|refine zau rfl rfl rfl ?_|refine zao rfl rfl rfl ?_|refine zag rfl rfl rfl rfl True.intro ?_|refine zaF rfl ?_|refine zat rfl ?_|((first |refine zal rfl ?_ ?_|refine zan rfl ?_ ?_|refine zak rfl ?_ ?_|refine zam rfl ?_ ?_|refine zap rfl ?_ ?_|refine zaA rfl ?_ ?_|refine zad rfl rfl ?_ ?_|refine zae rfl rfl ?_ ?_|refine zaf rfl rfl ?_ ?_|refine zac rfl rfl ?_ ?_|refine zab rfl rfl ?_ ?_)<;>intro<;>try (first |(rename_i hz;first |exact tf_ hz|exact ft_ hz)|(exfalso;omega)))|((first |refine zaw rfl rfl ?_ ?_|refine zag rfl rfl rfl rfl ?_ ?_|refine zaM rfl rfl ?_ ?_|refine zaJ rfl ?_ ?_|refine zaG rfl rfl rfl rfl ?_ ?_);focus (first |omega|exact le_ rfl|((repeat first |rw [zay]|rw [wi6_]|rw [wi3_]|rw [zai]|rw [zah]);(repeat' refine And.intro ?_ ?_)<;>omega)|((repeat' refine And.intro ?_ ?_)<;>first |omega|rfl|exact Nat.le_refl _|exact le_ rfl|exact zaa _)|(simp_all;done)|(simp_all;omega)))|refine zaP rfl ?_|refine zaz rfl ?_|with_reducible refine ⟨by kernel_rfl, ?_⟩|refine zbf rfl rfl ⟨⟨rfl, trivial⟩⟩|refine zbg rfl rfl ⟨⟨rfl, trivial⟩⟩|((with_reducible refine zaN ?_);(fail_if_success (refine zax true rfl rfl rfl ?_));(fail_if_success (refine zax false rfl rfl rfl ?_));refine zav rfl rfl (fun _ => ?_) (fun _ => ?_)))
      all_goals exact ⟨j + 1, ⟨by omega, hm⟩, by omega, ⟨rfl, trivial⟩, ⟨congrArg (fun x => some (Own.var [.s s, .i .i64 x])) (by omega), trivial⟩, rfl, fun q hq => by rw [hX] at hq; simp at hq; simp [hq]⟩
    | false =>
      rw [hc, decide_eq_false_iff_not] at hb
      rw [zlC h1 h2 (.inr hc) hi]
      repeat' (first |refine zaY (f := 82) rfl rfl rfl rfl Tryz.call82 rfl c1 ?_|with_reducible (first |refine zaK ?_|refine zaj ?_|refine zaL ?_|refine zaB ?_|refine zaO ?_|refine zaD ?_|refine zaC ?_|refine zar ?_|refine zaq ?_|refine zaI ?_|refine zaE ?_|refine zas ?_|refine zaH ?_)|refine zaw rfl rfl True.intro ?_|refine zau rfl rfl rfl ?_|refine zao rfl rfl rfl ?_|refine zag rfl rfl rfl rfl True.intro ?_|refine zaF rfl ?_|refine zat rfl ?_|((first |refine zal rfl ?_ ?_|refine zan rfl ?_ ?_|refine zak rfl ?_ ?_|refine zam rfl ?_ ?_|refine zap rfl ?_ ?_|refine zaA rfl ?_ ?_|refine zad rfl rfl ?_ ?_|refine zae rfl rfl ?_ ?_|refine zaf rfl rfl ?_ ?_|refine zac rfl rfl ?_ ?_|refine zab rfl rfl ?_ ?_)<;>intro<;>try (first |(rename_i hz;first |exact tf_ hz|exact ft_ hz)|(exfalso;omega)))|((first |refine zaw rfl rfl ?_ ?_|refine zag rfl rfl rfl rfl ?_ ?_|refine zaM rfl rfl ?_ ?_|refine zaJ rfl ?_ ?_|refine zaG rfl rfl rfl rfl ?_ ?_);focus (first |omega|exact le_ rfl|((repeat first |rw [zay]|rw [wi6_]|rw [wi3_]|rw [zai]|rw [zah]);(repeat' refine And.intro ?_ ?_)<;>omega)|((repeat' refine And.intro ?_ ?_)<;>first |omega|rfl|exact Nat.le_refl _|exact le_ rfl|exact zaa _)|(simp_all;done)|(simp_all;omega)))|refine zaP rfl ?_|refine zaz rfl ?_|with_reducible refine ⟨by kernel_rfl, ?_⟩|refine zbf rfl rfl ⟨⟨rfl, trivial⟩⟩|refine zbg rfl rfl ⟨⟨rfl, trivial⟩⟩|((with_reducible refine zaN ?_);(fail_if_success (refine zax true rfl rfl rfl ?_));(fail_if_success (refine zax false rfl rfl rfl ?_));refine zav rfl rfl (fun _ => ?_) (fun _ => ?_)))
  · rw [zlC h1 h2 (.inl (by omega)) hi]
    repeat' (first |with_reducible (first |refine zaK ?_|refine zaj ?_|refine zaL ?_|refine zaB ?_|refine zaO ?_|refine zaD ?_|refine zaC ?_|refine zar ?_|refine zaq ?_|refine zaI ?_|refine zaE ?_|refine zas ?_|refine zaH ?_)|refine zaw rfl rfl True.intro ?_|refine zau rfl rfl rfl ?_|refine zao rfl rfl rfl ?_|refine zag rfl rfl rfl rfl True.intro ?_|refine zaF rfl ?_|refine zat rfl ?_|((first |refine zal rfl ?_ ?_|refine zan rfl ?_ ?_|refine zak rfl ?_ ?_|refine zam rfl ?_ ?_|refine zap rfl ?_ ?_|refine zaA rfl ?_ ?_|refine zad rfl rfl ?_ ?_|refine zae rfl rfl ?_ ?_|refine zaf rfl rfl ?_ ?_|refine zac rfl rfl ?_ ?_|refine zab rfl rfl ?_ ?_)<;>intro<;>try (first |(rename_i hz;first |exact tf_ hz|exact ft_ hz)|(exfalso;omega)))|((first |refine zaw rfl rfl ?_ ?_|refine zag rfl rfl rfl rfl ?_ ?_|refine zaM rfl rfl ?_ ?_|refine zaJ rfl ?_ ?_|refine zaG rfl rfl rfl rfl ?_ ?_);focus (first |omega|exact le_ rfl|((repeat first |rw [zay]|rw [wi6_]|rw [wi3_]|rw [zai]|rw [zah]);(repeat' refine And.intro ?_ ?_)<;>omega)|((repeat' refine And.intro ?_ ?_)<;>first |omega|rfl|exact Nat.le_refl _|exact le_ rfl|exact zaa _)|(simp_all;done)|(simp_all;omega)))|refine zaP rfl ?_|refine zaz rfl ?_|with_reducible refine ⟨by kernel_rfl, ?_⟩|refine zbf rfl rfl ⟨⟨rfl, trivial⟩⟩|refine zbg rfl rfl ⟨⟨rfl, trivial⟩⟩|((with_reducible refine zaN ?_);(fail_if_success (refine zax true rfl rfl rfl ?_));(fail_if_success (refine zax false rfl rfl rfl ?_));refine zav rfl rfl (fun _ => ?_) (fun _ => ?_)))

def peekD (s : List UInt8) : Sum Nat (Nat × Int) → Sum (D × Nat) (Nat × Int)
  | .inl j => .inl (.i .u8 (at' s j), j)
  | .inr e => .inr e
set_option maxRecDepth 100000 in
set_option maxHeartbeats 1000000 in
theorem zhp (s : List UInt8) (i : Nat) (hs : s.length ≤ 1048576) (hi : i ≤ s.length) : RdE 77 [.pv 13 0] s i (peekD s (jpeek s i)) := by
  have c1 := zmq s i hs hi
  have hle := zgZ hi
  unfold jpeek
  by_cases h : skN s i < s.length
  · rw [if_pos h]
    refine zbi Tryz.func77 rfl Tryz.ntmps77 Tryz.results77 rfl rfl rfl rfl rfl fun X hL hX => ?_
    repeat' (first |refine zbx (f := 49) 13 rfl rfl Tryz.call49 rfl rfl rfl rfl rfl c1 ?_|with_reducible (first |refine zaK ?_|refine zaj ?_|refine zaL ?_|refine zaB ?_|refine zaO ?_|refine zaD ?_|refine zaC ?_|refine zar ?_|refine zaq ?_|refine zaI ?_|refine zaE ?_|refine zas ?_|refine zaH ?_)|refine zaw rfl rfl True.intro ?_|refine zau rfl rfl rfl ?_|refine zao rfl rfl rfl ?_|refine zag rfl rfl rfl rfl True.intro ?_|refine zaF rfl ?_|refine zat rfl ?_|((first |refine zal rfl ?_ ?_|refine zan rfl ?_ ?_|refine zak rfl ?_ ?_|refine zam rfl ?_ ?_|refine zap rfl ?_ ?_|refine zaA rfl ?_ ?_|refine zad rfl rfl ?_ ?_|refine zae rfl rfl ?_ ?_|refine zaf rfl rfl ?_ ?_|refine zac rfl rfl ?_ ?_|refine zab rfl rfl ?_ ?_)<;>intro<;>try (first |(rename_i hz;first |exact tf_ hz|exact ft_ hz)|(exfalso;omega)))|((first |refine zaw rfl rfl ?_ ?_|refine zag rfl rfl rfl rfl ?_ ?_|refine zaM rfl rfl ?_ ?_|refine zaJ rfl ?_ ?_|refine zaG rfl rfl rfl rfl ?_ ?_);focus (first |omega|exact le_ rfl|((repeat first |rw [zay]|rw [wi6_]|rw [wi3_]|rw [zai]|rw [zah]);(repeat' refine And.intro ?_ ?_)<;>omega)|((repeat' refine And.intro ?_ ?_)<;>first |omega|rfl|exact Nat.le_refl _|exact le_ rfl|exact zaa _)|(simp_all;done)|(simp_all;omega)))|refine zaP rfl ?_|refine zaz rfl ?_|with_reducible refine ⟨by kernel_rfl, ?_⟩|refine zbf rfl rfl ⟨⟨rfl, trivial⟩⟩|refine zbg rfl rfl ⟨⟨rfl, trivial⟩⟩|((with_reducible refine zaN ?_);(fail_if_success (refine zax true rfl rfl rfl ?_));(fail_if_success (refine zax false rfl rfl rfl ?_));refine zav rfl rfl (fun _ => ?_) (fun _ => ?_)))
  · rw [if_neg h]
    have c2 := zcx (skN s i) 2
    refine zeY Tryz.func77 rfl Tryz.ntmps77 rfl rfl rfl rfl fun X hL hX => ?_
    repeat' (first |(refine zfp (id := 3) 4 ?_;dsimp only [splitOp])|refine zbx (f := 49) 13 rfl rfl Tryz.call49 rfl rfl rfl rfl rfl c1 ?_|refine zfH rfl Tryz.call50 rfl c2 ?_|with_reducible (first |refine zaK ?_|refine zaj ?_|refine zaL ?_|refine zaB ?_|refine zaO ?_|refine zaD ?_|refine zaC ?_|refine zar ?_|refine zaq ?_|refine zaI ?_|refine zaE ?_|refine zas ?_|refine zaH ?_)|refine zaw rfl rfl True.intro ?_|refine zau rfl rfl rfl ?_|refine zao rfl rfl rfl ?_|refine zag rfl rfl rfl rfl True.intro ?_|refine zaF rfl ?_|refine zat rfl ?_|((first |refine zal rfl ?_ ?_|refine zan rfl ?_ ?_|refine zak rfl ?_ ?_|refine zam rfl ?_ ?_|refine zap rfl ?_ ?_|refine zaA rfl ?_ ?_|refine zad rfl rfl ?_ ?_|refine zae rfl rfl ?_ ?_|refine zaf rfl rfl ?_ ?_|refine zac rfl rfl ?_ ?_|refine zab rfl rfl ?_ ?_)<;>intro<;>try (first |(rename_i hz;first |exact tf_ hz|exact ft_ hz)|(exfalso;omega)))|((first |refine zaw rfl rfl ?_ ?_|refine zag rfl rfl rfl rfl ?_ ?_|refine zaM rfl rfl ?_ ?_|refine zaJ rfl ?_ ?_|refine zaG rfl rfl rfl rfl ?_ ?_);focus (first |omega|exact le_ rfl|((repeat first |rw [zay]|rw [wi6_]|rw [wi3_]|rw [zai]|rw [zah]);(repeat' refine And.intro ?_ ?_)<;>omega)|((repeat' refine And.intro ?_ ?_)<;>first |omega|rfl|exact Nat.le_refl _|exact le_ rfl|exact zaa _)|(simp_all;done)|(simp_all;omega)))|refine zaP rfl ?_|refine zaz rfl ?_|with_reducible refine ⟨by kernel_rfl, ?_⟩|refine zdm ?_|refine zcn ?_|refine ziw rfl ⟨⟨_, rfl⟩, trivial⟩|((with_reducible refine zaN ?_);(fail_if_success (refine zax true rfl rfl rfl ?_));(fail_if_success (refine zax false rfl rfl rfl ?_));refine zav rfl rfl (fun _ => ?_) (fun _ => ?_)))

def litC (k : Int) (y : Bool) : List D := [.i .i64 k, .b y, .b false, .s [], .i .i64 0, .s [], .nilS, .nilS]
def litJ (k : Int) (y : Bool) : J := .mk k y false [] 0 [] [] []
theorem ziK (k : Int) (y : Bool) : Weak (.ag (litC k y)) (.ag (jC (litJ k y))) := by
  unfold litJ jC
  refine .ag _ _ rfl fun j hj => ?_
  match j, hj with
  | 0, _ => exact .refl _
  | 1, _ => exact .refl _
  | 2, _ => exact .refl _
  | 3, _ => exact .refl _
  | 4, _ => exact .refl _
  | 5, _ => exact .refl _
  | 6, _ => exact .nil 8 _
  | 7, _ => exact .nil 1 _
def wordD (k : Int) (y : Bool) : JR → Sum (D × Nat) (Nat × Int)
  | .inl (_, n) => .inl (.ag (litC k y), n)
  | .inr e => .inr e
theorem zno (s : List UInt8) (i : Nat) : List.drop (i : Int).toNat (List.take (s.length : Int).toNat s) = s.drop i := by
  rw [Int.toNat_natCast, Int.toNat_natCast, List.take_length]

def textD : Sum (List UInt8 × Nat) (Nat × Int) → Sum (D × Nat) (Nat × Int)
  | .inl (t, n) => .inl (.s t, n)
  | .inr e => .inr e
set_option maxRecDepth 100000 in
set_option maxHeartbeats 1000000 in
theorem zlt (s : List UInt8) (i : Nat) (hs : s.length ≤ 1048576) (_hi : i ≤ s.length) : RdE 79 [.pv 13 0] s i (textD (jtext s i)) := by
  have c1 := zoE s i hs
  have hn := @ziF s i
  unfold jtext
  generalize unqF s i = R at *
  obtain ⟨t, n, e⟩ := R
  dsimp only at hn c1 ⊢
  by_cases h : e = 0
  · rw [if_pos h]
    have hn := hn h
    subst h
    obtain ⟨n', rfl⟩ : ∃ n' : Nat, n = n' := ⟨n.toNat, by omega⟩
    rw [Int.toNat_natCast]
    refine zbi Tryz.func79 rfl Tryz.ntmps79 Tryz.results79 rfl rfl rfl rfl rfl fun X hL hX => ?_
    repeat' (first |refine zaR (f := 109) rfl rfl Tryz.call109 rfl c1 ?_|with_reducible (first |refine zaK ?_|refine zaj ?_|refine zaL ?_|refine zaB ?_|refine zaO ?_|refine zaD ?_|refine zaC ?_|refine zar ?_|refine zaq ?_|refine zaI ?_|refine zaE ?_|refine zas ?_|refine zaH ?_)|refine zaw rfl rfl True.intro ?_|refine zau rfl rfl rfl ?_|refine zao rfl rfl rfl ?_|refine zag rfl rfl rfl rfl True.intro ?_|refine zaF rfl ?_|refine zat rfl ?_|((first |refine zal rfl ?_ ?_|refine zan rfl ?_ ?_|refine zak rfl ?_ ?_|refine zam rfl ?_ ?_|refine zap rfl ?_ ?_|refine zaA rfl ?_ ?_|refine zad rfl rfl ?_ ?_|refine zae rfl rfl ?_ ?_|refine zaf rfl rfl ?_ ?_|refine zac rfl rfl ?_ ?_|refine zab rfl rfl ?_ ?_)<;>intro<;>try (first |(rename_i hz;first |exact tf_ hz|exact ft_ hz)|(exfalso;omega)))|((first |refine zaw rfl rfl ?_ ?_|refine zag rfl rfl rfl rfl ?_ ?_|refine zaM rfl rfl ?_ ?_|refine zaJ rfl ?_ ?_|refine zaG rfl rfl rfl rfl ?_ ?_);focus (first |omega|exact le_ rfl|((repeat first |rw [zay]|rw [wi6_]|rw [wi3_]|rw [zai]|rw [zah]);(repeat' refine And.intro ?_ ?_)<;>omega)|((repeat' refine And.intro ?_ ?_)<;>first |omega|rfl|exact Nat.le_refl _|exact le_ rfl|exact zaa _)|(simp_all;done)|(simp_all;omega)))|refine zaP rfl ?_|refine zaz rfl ?_|with_reducible refine ⟨by kernel_rfl, ?_⟩|refine zbf rfl rfl ⟨⟨rfl, trivial⟩⟩|refine zbg rfl rfl ⟨⟨rfl, trivial⟩⟩|((with_reducible refine zaN ?_);(fail_if_success (refine zax true rfl rfl rfl ?_));(fail_if_success (refine zax false rfl rfl rfl ?_));refine zav rfl rfl (fun _ => ?_) (fun _ => ?_)))
  · rw [if_neg h]
    have c2 := zcx i e
    refine zeY Tryz.func79 rfl Tryz.ntmps79 rfl rfl rfl rfl fun X hL hX => ?_
    repeat' (first |(refine zfp (id := 3) 5 ?_;dsimp only [splitOp])|refine zaR (f := 109) rfl rfl Tryz.call109 rfl c1 ?_|refine zfH rfl Tryz.call50 rfl c2 ?_|with_reducible (first |refine zaK ?_|refine zaj ?_|refine zaL ?_|refine zaB ?_|refine zaO ?_|refine zaD ?_|refine zaC ?_|refine zar ?_|refine zaq ?_|refine zaI ?_|refine zaE ?_|refine zas ?_|refine zaH ?_)|refine zaw rfl rfl True.intro ?_|refine zau rfl rfl rfl ?_|refine zao rfl rfl rfl ?_|refine zag rfl rfl rfl rfl True.intro ?_|refine zaF rfl ?_|refine zat rfl ?_|((first |refine zal rfl ?_ ?_|refine zan rfl ?_ ?_|refine zak rfl ?_ ?_|refine zam rfl ?_ ?_|refine zap rfl ?_ ?_|refine zaA rfl ?_ ?_|refine zad rfl rfl ?_ ?_|refine zae rfl rfl ?_ ?_|refine zaf rfl rfl ?_ ?_|refine zac rfl rfl ?_ ?_|refine zab rfl rfl ?_ ?_)<;>intro<;>try (first |(rename_i hz;first |exact tf_ hz|exact ft_ hz)|(exfalso;omega)))|((first |refine zaw rfl rfl ?_ ?_|refine zag rfl rfl rfl rfl ?_ ?_|refine zaM rfl rfl ?_ ?_|refine zaJ rfl ?_ ?_|refine zaG rfl rfl rfl rfl ?_ ?_);focus (first |omega|exact le_ rfl|((repeat first |rw [zay]|rw [wi6_]|rw [wi3_]|rw [zai]|rw [zah]);(repeat' refine And.intro ?_ ?_)<;>omega)|((repeat' refine And.intro ?_ ?_)<;>first |omega|rfl|exact Nat.le_refl _|exact le_ rfl|exact zaa _)|(simp_all;done)|(simp_all;omega)))|refine zaP rfl ?_|refine zaz rfl ?_|with_reducible refine ⟨by kernel_rfl, ?_⟩|refine zdm ?_|refine zcn ?_|refine ziw rfl ⟨⟨_, rfl⟩, trivial⟩|((with_reducible refine zaN ?_);(fail_if_success (refine zax true rfl rfl rfl ?_));(fail_if_success (refine zax false rfl rfl rfl ?_));refine zav rfl rfl (fun _ => ?_) (fun _ => ?_)))

theorem zlP (n : Bool) (d : List UInt8) (e : Int) : Ctr Tryz.prog 63 [.ag [.b n, .s d, .i .i64 e]] (.ag [.i .i64 2, .b false, .b n, .s d, .i .i64 e, .s [], .nilS, .nilS]) := by
  refine zbe Tryz.func63 rfl Tryz.ntmps63 Tryz.results63 rfl rfl fun X hL hX => ?_
  repeat' (first |with_reducible (first |refine zaK ?_|refine zaj ?_|refine zaL ?_|refine zaB ?_|refine zaO ?_|refine zaD ?_|refine zaC ?_|refine zar ?_|refine zaq ?_|refine zaI ?_|refine zaE ?_|refine zas ?_|refine zaH ?_)|refine zaw rfl rfl True.intro ?_|refine zau rfl rfl rfl ?_|refine zao rfl rfl rfl ?_|refine zag rfl rfl rfl rfl True.intro ?_|refine zaF rfl ?_|refine zat rfl ?_|((first |refine zal rfl ?_ ?_|refine zan rfl ?_ ?_|refine zak rfl ?_ ?_|refine zam rfl ?_ ?_|refine zap rfl ?_ ?_|refine zaA rfl ?_ ?_|refine zad rfl rfl ?_ ?_|refine zae rfl rfl ?_ ?_|refine zaf rfl rfl ?_ ?_|refine zac rfl rfl ?_ ?_|refine zab rfl rfl ?_ ?_)<;>intro<;>try (first |(rename_i hz;first |exact tf_ hz|exact ft_ hz)|(exfalso;omega)))|((first |refine zaw rfl rfl ?_ ?_|refine zag rfl rfl rfl rfl ?_ ?_|refine zaM rfl rfl ?_ ?_|refine zaJ rfl ?_ ?_|refine zaG rfl rfl rfl rfl ?_ ?_);focus (first |omega|exact le_ rfl|((repeat first |rw [zay]|rw [wi6_]|rw [wi3_]|rw [zai]|rw [zah]);(repeat' refine And.intro ?_ ?_)<;>omega)|((repeat' refine And.intro ?_ ?_)<;>first |omega|rfl|exact Nat.le_refl _|exact le_ rfl|exact zaa _)|(simp_all;done)|(simp_all;omega)))|refine zaP rfl ?_|refine zaz rfl ?_|with_reducible refine ⟨by kernel_rfl, ?_⟩|refine zaQ rfl ?_|refine zaT rfl ?_|((with_reducible refine zaN ?_);(fail_if_success (refine zax true rfl rfl rfl ?_));(fail_if_success (refine zax false rfl rfl rfl ?_));refine zav rfl rfl (fun _ => ?_) (fun _ => ?_)))
  all_goals rfl

def numC (r : Bool × List UInt8 × Int) : List D := [.i .i64 2, .b false, .b r.1, .s r.2.1, .i .i64 r.2.2, .s [], .nilS, .nilS]
theorem num_weak (r : Bool × List UInt8 × Int) : Weak (.ag (numC r)) (.ag (jC (jnumV r))) := by
  unfold jnumV jC
  refine .ag _ _ rfl fun j hj => ?_
  match j, hj with
  | 0, _ => exact .refl _
  | 1, _ => exact .refl _
  | 2, _ => exact .refl _
  | 3, _ => exact .refl _
  | 4, _ => exact .refl _
  | 5, _ => exact .refl _
  | 6, _ => exact .nil 8 _
  | 7, _ => exact .nil 1 _
def numD (s : List UInt8) (i : Nat) : JR → Sum (D × Nat) (Nat × Int)
  | .inl (_, n) => .inl (.ag (numC (parseG powP (s.drop i)).1), n)
  | .inr e => .inr e
set_option maxRecDepth 100000 in
set_option maxHeartbeats 1000000 in
theorem zoQ (s : List UInt8) (i : Nat) (hs : s.length ≤ 1048576) (hi : i ≤ s.length) : RdE 81 [.pv 13 0] s i (numD s i (jnum s i)) := by
  have c1 : Ctr Tryz.prog 111 [.s (List.drop (i : Int).toNat (List.take (s.length : Int).toNat s))] (.tu [dcV (parseG powP (s.drop i)).1, .i .i64 (parseG powP (s.drop i)).2.1, .i .i64 (parseG powP (s.drop i)).2.2]) := by
    rw [zno]
    exact zlG _ (by rw [List.length_drop]; omega)
  have hn := zjg powP (s.drop i)
  rw [List.length_drop] at hn
  unfold jnum numD
  generalize parseG powP (s.drop i) = R at *
  obtain ⟨⟨ng, dg, ex⟩, n, e⟩ := R
  dsimp only at hn c1 ⊢
  have c3 := zlP ng dg ex
  by_cases h : e = 0
  · rw [if_pos h]
    have hn := hn h
    subst h
    refine zbi Tryz.func81 rfl Tryz.ntmps81 Tryz.results81 rfl rfl rfl rfl rfl fun X hL hX => ?_
    repeat' (first |refine zaR (f := 111) rfl rfl Tryz.call111 rfl c1 ?_|refine zaR (f := 63) rfl rfl Tryz.call63 rfl c3 ?_|with_reducible (first |refine zaK ?_|refine zaj ?_|refine zaL ?_|refine zaB ?_|refine zaO ?_|refine zaD ?_|refine zaC ?_|refine zar ?_|refine zaq ?_|refine zaI ?_|refine zaE ?_|refine zas ?_|refine zaH ?_)|refine zaw rfl rfl True.intro ?_|refine zau rfl rfl rfl ?_|refine zao rfl rfl rfl ?_|refine zag rfl rfl rfl rfl True.intro ?_|refine zaF rfl ?_|refine zat rfl ?_|((first |refine zal rfl ?_ ?_|refine zan rfl ?_ ?_|refine zak rfl ?_ ?_|refine zam rfl ?_ ?_|refine zap rfl ?_ ?_|refine zaA rfl ?_ ?_|refine zad rfl rfl ?_ ?_|refine zae rfl rfl ?_ ?_|refine zaf rfl rfl ?_ ?_|refine zac rfl rfl ?_ ?_|refine zab rfl rfl ?_ ?_)<;>intro<;>try (first |(rename_i hz;first |exact tf_ hz|exact ft_ hz)|(exfalso;omega)))|((first |refine zaw rfl rfl ?_ ?_|refine zag rfl rfl rfl rfl ?_ ?_|refine zaM rfl rfl ?_ ?_|refine zaJ rfl ?_ ?_|refine zaG rfl rfl rfl rfl ?_ ?_);focus (first |omega|exact le_ rfl|((repeat first |rw [zay]|rw [wi6_]|rw [wi3_]|rw [zai]|rw [zah]);(repeat' refine And.intro ?_ ?_)<;>omega)|((repeat' refine And.intro ?_ ?_)<;>first |omega|rfl|exact Nat.le_refl _|exact le_ rfl|exact zaa _)|(simp_all;done)|(simp_all;omega)))|refine zaP rfl ?_|refine zaz rfl ?_|with_reducible refine ⟨by kernel_rfl, ?_⟩|refine zbf rfl rfl ⟨⟨?_, trivial⟩⟩|refine zbg rfl rfl ⟨⟨?_, trivial⟩⟩|((with_reducible refine zaN ?_);(fail_if_success (refine zax true rfl rfl rfl ?_));(fail_if_success (refine zax false rfl rfl rfl ?_));refine zav rfl rfl (fun _ => ?_) (fun _ => ?_)))
    all_goals exact congrArg (fun x => some (Own.var [.s s, .i .i64 x])) (by omega)
  · rw [if_neg h]
    have c2 := zcx i e
    refine zeY Tryz.func81 rfl Tryz.ntmps81 rfl rfl rfl rfl fun X hL hX => ?_
    repeat' (first |(refine zfp (id := 3) 5 ?_;dsimp only [splitOp])|refine zaR (f := 111) rfl rfl Tryz.call111 rfl c1 ?_|refine zfH rfl Tryz.call50 rfl c2 ?_|with_reducible (first |refine zaK ?_|refine zaj ?_|refine zaL ?_|refine zaB ?_|refine zaO ?_|refine zaD ?_|refine zaC ?_|refine zar ?_|refine zaq ?_|refine zaI ?_|refine zaE ?_|refine zas ?_|refine zaH ?_)|refine zaw rfl rfl True.intro ?_|refine zau rfl rfl rfl ?_|refine zao rfl rfl rfl ?_|refine zag rfl rfl rfl rfl True.intro ?_|refine zaF rfl ?_|refine zat rfl ?_|((first |refine zal rfl ?_ ?_|refine zan rfl ?_ ?_|refine zak rfl ?_ ?_|refine zam rfl ?_ ?_|refine zap rfl ?_ ?_|refine zaA rfl ?_ ?_|refine zad rfl rfl ?_ ?_|refine zae rfl rfl ?_ ?_|refine zaf rfl rfl ?_ ?_|refine zac rfl rfl ?_ ?_|refine zab rfl rfl ?_ ?_)<;>intro<;>try (first |(rename_i hz;first |exact tf_ hz|exact ft_ hz)|(exfalso;omega)))|((first |refine zaw rfl rfl ?_ ?_|refine zag rfl rfl rfl rfl ?_ ?_|refine zaM rfl rfl ?_ ?_|refine zaJ rfl ?_ ?_|refine zaG rfl rfl rfl rfl ?_ ?_);focus (first |omega|exact le_ rfl|((repeat first |rw [zay]|rw [wi6_]|rw [wi3_]|rw [zai]|rw [zah]);(repeat' refine And.intro ?_ ?_)<;>omega)|((repeat' refine And.intro ?_ ?_)<;>first |omega|rfl|exact Nat.le_refl _|exact le_ rfl|exact zaa _)|(simp_all;done)|(simp_all;omega)))|refine zaP rfl ?_|refine zaz rfl ?_|with_reducible refine ⟨by kernel_rfl, ?_⟩|refine zdm ?_|refine zcn ?_|refine ziw rfl ⟨⟨_, rfl⟩, trivial⟩|((with_reducible refine zaN ?_);(fail_if_success (refine zax true rfl rfl rfl ?_));(fail_if_success (refine zax false rfl rfl rfl ?_));refine zav rfl rfl (fun _ => ?_) (fun _ => ?_)))

end Go.Proofs.YtcajofhafpkbdaaGreatDoor.Flow
