/- The texts J5, J6, J12, J15, J8, one behind the other. -/
import Derived.Test.YtcajofhafpkbdaaGreatDoorCQ17
namespace Go.Proofs.YtcajofhafpkbdaaGreatDoor.Flow
open Go
def valD : JR → Sum (D × Nat) (Nat × Int)
  | .inl (x, n) => .inl (.ag (jC x), n)
  | .inr e => .inr e
theorem zbz (k : Int) (y n : Bool) (d : List UInt8) (e : Int) (t : List UInt8) (l : List J) (ks : List (List UInt8)) : jC (.mk k y n d e t l ks) = [.i .i64 k, .b y, .b n, .s d, .i .i64 e, .s t, .sl 8 l.length (jF l), .sl 1 ks.length (txF ks)] := by
  unfold jC
  rfl
theorem ziH (mp : Bool) : Weak (.ag (litC (kindM mp) false)) (.ag (jC (manyV mp [] []))) := zbQ (kindM mp) false
theorem zhC {r : JR} : ∀ d n, valD r = .inl (d, n) → d.okIn [13] = true := fun d n h => by
  unfold valD at h
  split at h
  · rename_i x m
    cases h
    cases x
    rw [zbz]
    rfl
  · cases h
set_option maxRecDepth 100000 in
set_option maxHeartbeats 8000000 in
theorem zgj (s : List UInt8) (val : Nat → JR) (d : Nat) (hs : s.length ≤ 1048576) (hd : d ≤ 100) (hv : ValOk s val) (hval : ∀ i, i ≤ s.length → RdE 48 [.pv 13 0, .i .i64 d] s i (valD (val i))) (i : Nat) (hi : i < s.length) :
    RdE 80 [.pv 13 0, .ag (litC (kindM true) false), .i .u8 (endM true), .i .i64 (d + 1 : Nat)] s i (valD (jmany s val true i)) := by
  refine zgc Tryz.func80 rfl Tryz.ntmps80 Tryz.results80 rfl zhC fun X hL hX => ?_
  have hd1 : ((d + 1 : Nat) : Int) - 1 = d := by omega
  have c0 : RdE 77 [.pv 13 0] s (i + 1) (peekD s (jpeek s (i + 1))) := zbU s (i + 1) hs hi
  have p0 := @zaW s (i + 1)
  unfold jmany
  cases h0 : jpeek s (i + 1) with
  | inr e =>
    obtain ⟨p, e⟩ := e
    rw [h0] at c0
    have c0' : CtrP Tryz.prog 77 [.pv 13 0] [(13, .var [.s s, .i .i64 ((i : Int) + 1)])] (pvS p e) [(13, .gone)] := c0
    repeat' (first |(refine zbE (id := 2) 1 ?_;dsimp only [splitOp])|refine zbp 13 rfl Tryz.call77 rfl rfl rfl rfl c0' ?_|with_reducible (first |refine zag ?_|refine zaa ?_|refine zaf ?_|refine zad ?_)|refine zab rfl rfl True.intro ?_|((first |refine zab rfl rfl ?_ ?_|refine zao rfl rfl ?_ ?_|refine zar rfl ?_ ?_);focus (first |omega|exact le_ rfl|((repeat' refine And.intro ?_ ?_)<;>omega)|((repeat' refine And.intro ?_ ?_)<;>first |rfl|exact Nat.le_refl _)))|refine zaX ?_|refine zbi ⟨_, _, rfl, rfl, _, rfl⟩|fail)
  | inl j =>
    rw [h0] at c0
    have c0' : CtrO Tryz.prog 77 [.pv 13 0] [(13, .var [.s s, .i .i64 ((i : Int) + 1)])] (.i .u8 (at' s j)) [(13, .var [.s s, .i .i64 j])] := c0
    have p0 := p0 hi h0
    dsimp only
    by_cases he : at' s j = endM true
    · rw [if_pos he]
      have he' : at' s j = 125 := he
      repeat' (first |refine zav (f := 77) 13 rfl rfl Tryz.call77 rfl rfl rfl rfl rfl c0' ?_|with_reducible (first |refine zag ?_|refine zaa ?_|refine zaf ?_|refine zad ?_|refine zaj ?_|refine zal ?_)|refine zab rfl rfl True.intro ?_|((first |refine zac rfl ?_ ?_)<;>intro<;>try (first |(exfalso;omega)))|((first |refine zab rfl rfl ?_ ?_|refine zao rfl rfl ?_ ?_|refine zar rfl ?_ ?_);focus (first |omega|exact le_ rfl|((repeat' refine And.intro ?_ ?_)<;>omega)|((repeat' refine And.intro ?_ ?_)<;>first |rfl|exact Nat.le_refl _)))|refine zcW rfl ⟨_, _, rfl, ziH true, ?_⟩|fail)
      all_goals exact congrArg (fun x => some (Own.var [.s s, .i .i64 x])) (by omega)
    · rw [if_neg he]
      have he' : ¬ at' s j = 125 := he
      repeat' (first |refine zav (f := 77) 13 rfl rfl Tryz.call77 rfl rfl rfl rfl rfl c0' ?_|with_reducible (first |refine zag ?_|refine zaa ?_|refine zaf ?_|refine zad ?_|refine zai ?_|refine zae ?_)|refine zab rfl rfl True.intro ?_|((first |refine zac rfl ?_ ?_)<;>intro<;>try (first |(exfalso;omega)))|((first |refine zab rfl rfl ?_ ?_|refine zao rfl rfl ?_ ?_|refine zar rfl ?_ ?_);focus (first |omega|exact le_ rfl|((repeat' refine And.intro ?_ ?_)<;>omega)|((repeat' refine And.intro ?_ ?_)<;>first |rfl|exact Nat.le_refl _)))|fail)
      refine T.adoptV 5 6 100 55 8 _ (jF []) rfl rfl rfl ?_
      refine T.adoptV 5 7 101 9 1 _ (txF []) rfl rfl rfl ?_
      refine T.loop hL (fun _ : Nat × List J × List (List UInt8) => [(0, .pv 13 0), (2, .i .u8 (endM true)), (3, .i .i64 (d + 1 : Nat)), (5, .pv 5 0), (8, .pv 8 0)]) (fun x => [(13, .var [.s s, .i .i64 (x.1 : Nat)]), (5, .var [.i .i64 (kindM true), .b false, .b false, .s [], .i .i64 0, .s [], .gs 100 8 (x.2.1).length (jF (x.2.1)), .gs 101 1 (x.2.2).length (txF (x.2.2))]), (8, .var j0C), (100, .row 55 8 (x.2.1).length), (101, .row 9 1 (x.2.2).length)])
        (fun x => x.1 ≤ s.length ∧ jgo s val true j [] [] = jgo s val true x.1 x.2.1 x.2.2 ∧ x.2.1.length ≤ x.1 ∧ x.2.2.length ≤ x.1) (fun x => s.length - x.1) (j, [], []) ⟨by omega, rfl, Nat.zero_le _, Nat.zero_le _⟩
        ⟨⟨rfl, rfl, rfl, rfl, rfl, trivial⟩, ⟨rfl, rfl, rfl, rfl, rfl, trivial⟩, rfl, fun q hq => by rw [hX] at hq; simp at hq; simp [hq]⟩ ?_
      rintro ⟨i, l, ks⟩ ⟨hi, hI, hl, hks⟩
      dsimp only at hi hI hl hks ⊢
      rw [hI, zdJ hv hi]
      clear hI c0 c0' h0
      have k1 := zpa s i l ks hs hi (by omega)
      unfold jkeys
      rw [if_pos rfl]
      have q1 := @zjB s
      cases h1 : jkey s i ks with
      | inr e =>
        obtain ⟨p, e⟩ := e
        rw [h1] at k1
        repeat' (first |(refine znZ (id := 6) 4 ?_;dsimp only [splitOp3])|refine zcV (t := 34) rfl rfl (le_ rfl) ?_|refine zho 13 (.s []) rfl Tryz.call110 rfl rfl rfl rfl k1 ?_|with_reducible (first |refine zag ?_|refine zaa ?_|refine zaf ?_|refine zad ?_|refine zae ?_)|refine zab rfl rfl True.intro ?_|refine zas rfl ?_|((first |refine zab rfl rfl ?_ ?_|refine zao rfl rfl ?_ ?_|refine zar rfl ?_ ?_);focus (first |exact le_ rfl|((repeat' refine And.intro ?_ ?_)<;>omega)|((repeat' refine And.intro ?_ ?_)<;>first |omega|rfl|exact Nat.le_refl _)))|with_reducible refine ⟨by kernel_rfl, ?_⟩|refine zaX ?_|refine zbJ ?_|refine zbi ⟨_, _, rfl, rfl, _, rfl⟩|fail)
      | inl r =>
        obtain ⟨k, i1⟩ := r
        rw [h1] at k1
        have q1 := q1 hi h1
        dsimp only
        have v1 := hval i1 q1.2
        rw [← hd1] at v1
        have q2 := hv i1
        cases h2 : val i1 with
        | inr e =>
          obtain ⟨p, e⟩ := e
          rw [h2] at v1
          repeat' (first |(refine znZ (id := 7) 5 ?_;dsimp only [splitOp3])|refine zcV (t := 34) rfl rfl (le_ rfl) ?_|refine zav (f := 110) 13 rfl rfl Tryz.call110 rfl rfl rfl rfl rfl k1 ?_|refine zho 13 (.ag (litC 0 false)) rfl Tryz.call48 rfl rfl rfl rfl v1 ?_|with_reducible (first |refine zag ?_|refine zaa ?_|refine zaf ?_|refine zad ?_|refine zae ?_|refine zaD ?_)|refine zab rfl rfl True.intro ?_|refine zas rfl ?_|((first |refine zab rfl rfl ?_ ?_|refine zao rfl rfl ?_ ?_|refine zar rfl ?_ ?_);focus (first |omega|exact le_ rfl|((repeat' refine And.intro ?_ ?_)<;>omega)|((repeat' refine And.intro ?_ ?_)<;>first |omega|rfl|exact Nat.le_refl _|exact le_ rfl)))|with_reducible refine ⟨by kernel_rfl, ?_⟩|refine zaX ?_|refine zbJ ?_|refine zbi ⟨_, _, rfl, rfl, _, rfl⟩|fail)
        | inl r =>
          obtain ⟨x, i2⟩ := r
          rw [h2] at v1
          have q2 := q2 x i2 q1.2 h2
          dsimp only
          obtain ⟨xk, xy, xn, xd, xe, xt, xl, xs⟩ := x
          replace v1 : RdE 48 [.pv 13 0, .i .i64 (((d + 1 : Nat) : Int) - 1)] s i1 (.inl (.ag [.i .i64 xk, .b xy, .b xn, .s xd, .i .i64 xe, .s xt, .sl 8 xl.length (jF xl), .sl 1 xs.length (txF xs)], i2)) := by
            rw [← zbz]
            exact v1
          have e2 := zdI l (.mk xk xy xn xd xe xt xl xs) (chunk 8 [.i .i64 xk, .b xy, .b xn, .s xd, .i .i64 xe, .s xt, .sl 8 xl.length (jF xl), .sl 1 xs.length (txF xs)]) (by rw [zbz]; rfl)
          have e1 := zeL ks k (chunk 1 [.s k]) rfl
          generalize hX2 : J.mk xk xy xn xd xe xt xl xs = x at *
          have hl1 : (l ++ [x]).length = l.length + 1 := by simp
          have hk1 : (ks ++ [k]).length = ks.length + 1 := by simp
          have c3 := zbU s i2 hs q2.2
          cases h3 : jpeek s i2 with
          | inr e =>
            obtain ⟨p, e⟩ := e
            rw [h3] at c3
            repeat' (first |(refine zbE (id := 8) 1 ?_;dsimp only [splitOp])|refine zcV (t := 34) rfl rfl (le_ rfl) ?_|refine zav (f := 110) 13 rfl rfl Tryz.call110 rfl rfl rfl rfl rfl k1 ?_|refine zav (f := 48) 13 rfl rfl Tryz.call48 rfl rfl rfl rfl rfl v1 ?_|refine zbp 13 rfl Tryz.call77 rfl rfl rfl rfl c3 ?_|with_reducible (first |refine zag ?_|refine zaa ?_|refine zaf ?_|refine zad ?_|refine zae ?_|refine zaD ?_)|refine zab rfl rfl True.intro ?_|refine zas rfl ?_|((first |refine zab rfl rfl ?_ ?_|refine zao rfl rfl ?_ ?_|refine zar rfl ?_ ?_);focus (first |omega|exact le_ rfl|((repeat' refine And.intro ?_ ?_)<;>omega)|((repeat' refine And.intro ?_ ?_)<;>first |omega|rfl|exact Nat.le_refl _|exact le_ rfl)))|with_reducible refine ⟨by kernel_rfl, ?_⟩|refine zaX ?_|refine zbJ ?_|refine zbi ⟨_, _, rfl, rfl, _, rfl⟩|fail)
          | inl i3 =>
            rw [h3] at c3
            have q3 := zaW q2.2 h3
            dsimp only
            by_cases hen : at' s i3 = endM true
            · rw [if_pos hen]
              have hen' : at' s i3 = 125 := hen
              repeat' (first |refine zcV (t := 34) rfl rfl (le_ rfl) ?_|refine zav (f := 110) 13 rfl rfl Tryz.call110 rfl rfl rfl rfl rfl k1 ?_|refine zav (f := 48) 13 rfl rfl Tryz.call48 rfl rfl rfl rfl rfl v1 ?_|refine zav (f := 77) 13 rfl rfl Tryz.call77 rfl rfl rfl rfl rfl c3 ?_|with_reducible (first |refine zag ?_|refine zaa ?_|refine zaf ?_|refine zad ?_|refine zaj ?_|refine zae ?_|refine zal ?_|refine zap ?_|refine zaD ?_)|refine zab rfl rfl True.intro ?_|refine zas rfl ?_|((first |refine zac rfl ?_ ?_)<;>intro<;>try (first |(exfalso;omega)))|((first |refine zab rfl rfl ?_ ?_|refine zao rfl rfl ?_ ?_|refine zar rfl ?_ ?_);focus (first |omega|exact le_ rfl|((repeat' refine And.intro ?_ ?_)<;>omega)|((repeat' refine And.intro ?_ ?_)<;>first |omega|rfl|exact Nat.le_refl _|exact le_ rfl)))|with_reducible refine ⟨by kernel_rfl, ?_⟩|refine zcW rfl ⟨_, _, rfl, ?_, ?_⟩|fail)
              all_goals first
                | exact congrArg (fun x => some (Own.var [.s s, .i .i64 x])) (by omega)
                | (refine .of_eq ?_; unfold manyV; rw [zbz, hl1, hk1, ← e1, ← e2]; rfl)
                | trace_state
            · rw [if_neg hen]
              have hen' : ¬ at' s i3 = 125 := hen
              by_cases hco : at' s i3 = 44
              · rw [if_pos hco]
                repeat' (first |refine zcV (t := 34) rfl rfl (le_ rfl) ?_|refine zav (f := 110) 13 rfl rfl Tryz.call110 rfl rfl rfl rfl rfl k1 ?_|refine zav (f := 48) 13 rfl rfl Tryz.call48 rfl rfl rfl rfl rfl v1 ?_|refine zav (f := 77) 13 rfl rfl Tryz.call77 rfl rfl rfl rfl rfl c3 ?_|with_reducible (first |refine zag ?_|refine zaa ?_|refine zaf ?_|refine zad ?_|refine zae ?_|refine zaq ?_|refine zaD ?_)|refine zab rfl rfl True.intro ?_|refine zas rfl ?_|((first |refine zac rfl ?_ ?_)<;>intro<;>try (first |(exfalso;omega)))|((first |refine zab rfl rfl ?_ ?_|refine zao rfl rfl ?_ ?_|refine zar rfl ?_ ?_);focus (first |omega|exact le_ rfl|((repeat' refine And.intro ?_ ?_)<;>omega)|((repeat' refine And.intro ?_ ?_)<;>first |omega|rfl|exact Nat.le_refl _|exact le_ rfl)))|with_reducible refine ⟨by kernel_rfl, ?_⟩|fail)
                all_goals first
                  | exact ⟨(i3 + 1, l ++ [x], (ks ++ [k])), ⟨by dsimp only; omega, rfl, by dsimp only; omega, by dsimp only; omega⟩, by dsimp only; omega, ⟨rfl, rfl, rfl, rfl, rfl, trivial⟩, ⟨congrArg (fun x => some (Own.var [.s s, .i .i64 x])) (by omega), (by rw [hl1, hk1, ← e1, ← e2]; rfl), rfl, (by rw [hl1]; rfl), (by rw [hk1]; rfl), trivial⟩, rfl, fun q hq => by rw [hX] at hq; simp at hq; simp [hq]⟩
                  | trace_state
              · rw [if_neg hco]
                have c5 := zbq i3 3
                repeat' (first |(refine zbE (id := 9) 4 ?_;dsimp only [splitOp])|refine zcV (t := 34) rfl rfl (le_ rfl) ?_|refine zav (f := 110) 13 rfl rfl Tryz.call110 rfl rfl rfl rfl rfl k1 ?_|refine zav (f := 48) 13 rfl rfl Tryz.call48 rfl rfl rfl rfl rfl v1 ?_|refine zav (f := 77) 13 rfl rfl Tryz.call77 rfl rfl rfl rfl rfl c3 ?_|refine zdi rfl Tryz.call50 rfl c5 ?_|with_reducible (first |refine zag ?_|refine zaa ?_|refine zaf ?_|refine zad ?_|refine zae ?_|refine zaD ?_)|refine zab rfl rfl True.intro ?_|refine zas rfl ?_|((first |refine zac rfl ?_ ?_)<;>intro<;>try (first |(exfalso;omega)))|((first |refine zab rfl rfl ?_ ?_|refine zao rfl rfl ?_ ?_|refine zar rfl ?_ ?_);focus (first |omega|exact le_ rfl|((repeat' refine And.intro ?_ ?_)<;>omega)|((repeat' refine And.intro ?_ ?_)<;>first |omega|rfl|exact Nat.le_refl _|exact le_ rfl)))|with_reducible refine ⟨by kernel_rfl, ?_⟩|refine zaX ?_|refine zbJ ?_|refine zbi ⟨_, _, rfl, rfl, _, rfl⟩|fail)
set_option maxRecDepth 100000 in
set_option maxHeartbeats 8000000 in
theorem zfr (s : List UInt8) (val : Nat → JR) (d : Nat) (hs : s.length ≤ 1048576) (hd : d ≤ 100) (hv : ValOk s val) (hval : ∀ i, i ≤ s.length → RdE 48 [.pv 13 0, .i .i64 d] s i (valD (val i))) (i : Nat) (hi : i < s.length) :
    RdE 80 [.pv 13 0, .ag (litC (kindM false) false), .i .u8 (endM false), .i .i64 (d + 1 : Nat)] s i (valD (jmany s val false i)) := by
  refine zgc Tryz.func80 rfl Tryz.ntmps80 Tryz.results80 rfl zhC fun X hL hX => ?_
  have hd1 : ((d + 1 : Nat) : Int) - 1 = d := by omega
  have c0 : RdE 77 [.pv 13 0] s (i + 1) (peekD s (jpeek s (i + 1))) := zbU s (i + 1) hs hi
  have p0 := @zaW s (i + 1)
  unfold jmany
  cases h0 : jpeek s (i + 1) with
  | inr e =>
    obtain ⟨p, e⟩ := e
    rw [h0] at c0
    have c0' : CtrP Tryz.prog 77 [.pv 13 0] [(13, .var [.s s, .i .i64 ((i : Int) + 1)])] (pvS p e) [(13, .gone)] := c0
    repeat' (first |(refine zbE (id := 2) 1 ?_;dsimp only [splitOp])|refine zbp 13 rfl Tryz.call77 rfl rfl rfl rfl c0' ?_|with_reducible (first |refine zag ?_|refine zaa ?_|refine zaf ?_|refine zad ?_)|refine zab rfl rfl True.intro ?_|((first |refine zab rfl rfl ?_ ?_|refine zao rfl rfl ?_ ?_|refine zar rfl ?_ ?_);focus (first |omega|exact le_ rfl|((repeat' refine And.intro ?_ ?_)<;>omega)|((repeat' refine And.intro ?_ ?_)<;>first |rfl|exact Nat.le_refl _)))|refine zaX ?_|refine zbi ⟨_, _, rfl, rfl, _, rfl⟩|fail)
  | inl j =>
    rw [h0] at c0
    have c0' : CtrO Tryz.prog 77 [.pv 13 0] [(13, .var [.s s, .i .i64 ((i : Int) + 1)])] (.i .u8 (at' s j)) [(13, .var [.s s, .i .i64 j])] := c0
    have p0 := p0 hi h0
    dsimp only
    by_cases he : at' s j = endM false
    · rw [if_pos he]
      have he' : at' s j = 93 := he
      repeat' (first |refine zav (f := 77) 13 rfl rfl Tryz.call77 rfl rfl rfl rfl rfl c0' ?_|with_reducible (first |refine zag ?_|refine zaa ?_|refine zaf ?_|refine zad ?_|refine zaj ?_|refine zal ?_)|refine zab rfl rfl True.intro ?_|((first |refine zac rfl ?_ ?_)<;>intro<;>try (first |(exfalso;omega)))|((first |refine zab rfl rfl ?_ ?_|refine zao rfl rfl ?_ ?_|refine zar rfl ?_ ?_);focus (first |omega|exact le_ rfl|((repeat' refine And.intro ?_ ?_)<;>omega)|((repeat' refine And.intro ?_ ?_)<;>first |rfl|exact Nat.le_refl _)))|refine zcW rfl ⟨_, _, rfl, ziH false, ?_⟩|fail)
      all_goals exact congrArg (fun x => some (Own.var [.s s, .i .i64 x])) (by omega)
    · rw [if_neg he]
      have he' : ¬ at' s j = 93 := he
      repeat' (first |refine zav (f := 77) 13 rfl rfl Tryz.call77 rfl rfl rfl rfl rfl c0' ?_|with_reducible (first |refine zag ?_|refine zaa ?_|refine zaf ?_|refine zad ?_|refine zai ?_|refine zae ?_)|refine zab rfl rfl True.intro ?_|((first |refine zac rfl ?_ ?_)<;>intro<;>try (first |(exfalso;omega)))|((first |refine zab rfl rfl ?_ ?_|refine zao rfl rfl ?_ ?_|refine zar rfl ?_ ?_);focus (first |omega|exact le_ rfl|((repeat' refine And.intro ?_ ?_)<;>omega)|((repeat' refine And.intro ?_ ?_)<;>first |rfl|exact Nat.le_refl _)))|fail)
      refine T.adoptV 5 6 100 55 8 _ (jF []) rfl rfl rfl ?_
      refine T.adoptV 5 7 101 9 1 _ (txF []) rfl rfl rfl ?_
      refine T.loop hL (fun _ : Nat × List J × List (List UInt8) => [(0, .pv 13 0), (2, .i .u8 (endM false)), (3, .i .i64 (d + 1 : Nat)), (5, .pv 5 0), (8, .pv 8 0)]) (fun x => [(13, .var [.s s, .i .i64 (x.1 : Nat)]), (5, .var [.i .i64 (kindM false), .b false, .b false, .s [], .i .i64 0, .s [], .gs 100 8 (x.2.1).length (jF (x.2.1)), .gs 101 1 (x.2.2).length (txF (x.2.2))]), (8, .var j0C), (100, .row 55 8 (x.2.1).length), (101, .row 9 1 (x.2.2).length)])
        (fun x => x.1 ≤ s.length ∧ jgo s val false j [] [] = jgo s val false x.1 x.2.1 x.2.2 ∧ x.2.1.length ≤ x.1 ∧ x.2.2.length ≤ x.1) (fun x => s.length - x.1) (j, [], []) ⟨by omega, rfl, Nat.zero_le _, Nat.zero_le _⟩
        ⟨⟨rfl, rfl, rfl, rfl, rfl, trivial⟩, ⟨rfl, rfl, rfl, rfl, rfl, trivial⟩, rfl, fun q hq => by rw [hX] at hq; simp at hq; simp [hq]⟩ ?_
      rintro ⟨i, l, ks⟩ ⟨hi, hI, hl, hks⟩
      dsimp only at hi hI hl hks ⊢
      rw [hI, zdJ hv hi]
      clear hI c0 c0' h0
      unfold jkeys
      rw [if_neg Bool.false_ne_true]
      dsimp only
      have q1 : i ≤ i ∧ i ≤ s.length := ⟨Nat.le_refl _, hi⟩
      have v1 := hval i q1.2
      rw [← hd1] at v1
      have q2 := hv i
      cases h2 : val i with
      | inr e =>
        obtain ⟨p, e⟩ := e
        rw [h2] at v1
        repeat' (first |(refine znZ (id := 7) 5 ?_;dsimp only [splitOp3])|refine zho 13 (.ag (litC 0 false)) rfl Tryz.call48 rfl rfl rfl rfl v1 ?_|with_reducible (first |refine zag ?_|refine zaa ?_|refine zaf ?_|refine zad ?_|refine zai ?_|refine zae ?_)|refine zab rfl rfl True.intro ?_|refine zak rfl ?_|((first |refine zab rfl rfl ?_ ?_|refine zao rfl rfl ?_ ?_|refine zar rfl ?_ ?_);focus (first |omega|exact le_ rfl|((repeat' refine And.intro ?_ ?_)<;>omega)|((repeat' refine And.intro ?_ ?_)<;>first |omega|rfl|exact le_ rfl)))|with_reducible refine ⟨by kernel_rfl, ?_⟩|refine zaX ?_|refine zbJ ?_|refine zbi ⟨_, _, rfl, rfl, _, rfl⟩|fail)
      | inl r =>
        obtain ⟨x, i2⟩ := r
        rw [h2] at v1
        have q2 := q2 x i2 q1.2 h2
        dsimp only
        obtain ⟨xk, xy, xn, xd, xe, xt, xl, xs⟩ := x
        replace v1 : RdE 48 [.pv 13 0, .i .i64 (((d + 1 : Nat) : Int) - 1)] s i (.inl (.ag [.i .i64 xk, .b xy, .b xn, .s xd, .i .i64 xe, .s xt, .sl 8 xl.length (jF xl), .sl 1 xs.length (txF xs)], i2)) := by
          rw [← zbz]
          exact v1
        have e2 := zdI l (.mk xk xy xn xd xe xt xl xs) (chunk 8 [.i .i64 xk, .b xy, .b xn, .s xd, .i .i64 xe, .s xt, .sl 8 xl.length (jF xl), .sl 1 xs.length (txF xs)]) (by rw [zbz]; rfl)
        skip
        generalize hX2 : J.mk xk xy xn xd xe xt xl xs = x at *
        have hl1 : (l ++ [x]).length = l.length + 1 := by simp
        skip
        have c3 := zbU s i2 hs q2.2
        cases h3 : jpeek s i2 with
        | inr e =>
          obtain ⟨p, e⟩ := e
          rw [h3] at c3
          repeat' (first |(refine zbE (id := 8) 1 ?_;dsimp only [splitOp])|refine zav (f := 48) 13 rfl rfl Tryz.call48 rfl rfl rfl rfl rfl v1 ?_|refine zbp 13 rfl Tryz.call77 rfl rfl rfl rfl c3 ?_|with_reducible (first |refine zag ?_|refine zaa ?_|refine zaf ?_|refine zad ?_|refine zai ?_|refine zae ?_|refine zaD ?_)|refine zab rfl rfl True.intro ?_|refine zak rfl ?_|((first |refine zab rfl rfl ?_ ?_|refine zao rfl rfl ?_ ?_|refine zar rfl ?_ ?_);focus (first |omega|exact le_ rfl|((repeat' refine And.intro ?_ ?_)<;>omega)|((repeat' refine And.intro ?_ ?_)<;>first |omega|rfl|exact le_ rfl)))|with_reducible refine ⟨by kernel_rfl, ?_⟩|refine zaX ?_|refine zbJ ?_|refine zbi ⟨_, _, rfl, rfl, _, rfl⟩|fail)
        | inl i3 =>
          rw [h3] at c3
          have q3 := zaW q2.2 h3
          dsimp only
          by_cases hen : at' s i3 = endM false
          · rw [if_pos hen]
            have hen' : at' s i3 = 93 := hen
            repeat' (first |refine zav (f := 48) 13 rfl rfl Tryz.call48 rfl rfl rfl rfl rfl v1 ?_|refine zav (f := 77) 13 rfl rfl Tryz.call77 rfl rfl rfl rfl rfl c3 ?_|with_reducible (first |refine zag ?_|refine zaa ?_|refine zaf ?_|refine zad ?_|refine zaj ?_|refine zai ?_|refine zae ?_|refine zal ?_|refine zap ?_|refine zaD ?_)|refine zab rfl rfl True.intro ?_|refine zak rfl ?_|((first |refine zac rfl ?_ ?_)<;>intro<;>try (first |(exfalso;omega)))|((first |refine zab rfl rfl ?_ ?_|refine zao rfl rfl ?_ ?_|refine zar rfl ?_ ?_);focus (first |omega|exact le_ rfl|((repeat' refine And.intro ?_ ?_)<;>omega)|((repeat' refine And.intro ?_ ?_)<;>first |omega|rfl|exact Nat.le_refl _|exact le_ rfl)))|with_reducible refine ⟨by kernel_rfl, ?_⟩|refine zcW rfl ⟨_, _, rfl, ?_, ?_⟩|fail)
            all_goals first
              | exact congrArg (fun x => some (Own.var [.s s, .i .i64 x])) (by omega)
              | (refine .of_eq ?_; unfold manyV; rw [zbz, hl1, ← e2]; rfl)
              | trace_state
          · rw [if_neg hen]
            have hen' : ¬ at' s i3 = 93 := hen
            by_cases hco : at' s i3 = 44
            · rw [if_pos hco]
              repeat' (first |refine zav (f := 48) 13 rfl rfl Tryz.call48 rfl rfl rfl rfl rfl v1 ?_|refine zav (f := 77) 13 rfl rfl Tryz.call77 rfl rfl rfl rfl rfl c3 ?_|with_reducible (first |refine zag ?_|refine zaa ?_|refine zaf ?_|refine zad ?_|refine zai ?_|refine zae ?_|refine zaq ?_|refine zaD ?_)|refine zab rfl rfl True.intro ?_|refine zak rfl ?_|((first |refine zac rfl ?_ ?_)<;>intro<;>try (first |(exfalso;omega)))|((first |refine zab rfl rfl ?_ ?_|refine zao rfl rfl ?_ ?_|refine zar rfl ?_ ?_);focus (first |omega|exact le_ rfl|((repeat' refine And.intro ?_ ?_)<;>omega)|((repeat' refine And.intro ?_ ?_)<;>first |omega|rfl|exact Nat.le_refl _|exact le_ rfl)))|with_reducible refine ⟨by kernel_rfl, ?_⟩|fail)
              all_goals first
                | exact ⟨(i3 + 1, l ++ [x], ks), ⟨by dsimp only; omega, rfl, by dsimp only; omega, by dsimp only; omega⟩, by dsimp only; omega, ⟨rfl, rfl, rfl, rfl, rfl, trivial⟩, ⟨congrArg (fun x => some (Own.var [.s s, .i .i64 x])) (by omega), (by rw [hl1, ← e2]; rfl), rfl, (by rw [hl1]; rfl), (by rfl), trivial⟩, rfl, fun q hq => by rw [hX] at hq; simp at hq; simp [hq]⟩
                | trace_state
            · rw [if_neg hco]
              have c5 := zbq i3 3
              repeat' (first |(refine zbE (id := 9) 4 ?_;dsimp only [splitOp])|refine zav (f := 48) 13 rfl rfl Tryz.call48 rfl rfl rfl rfl rfl v1 ?_|refine zav (f := 77) 13 rfl rfl Tryz.call77 rfl rfl rfl rfl rfl c3 ?_|refine zdi rfl Tryz.call50 rfl c5 ?_|with_reducible (first |refine zag ?_|refine zaa ?_|refine zaf ?_|refine zad ?_|refine zai ?_|refine zae ?_|refine zaD ?_)|refine zab rfl rfl True.intro ?_|refine zak rfl ?_|((first |refine zac rfl ?_ ?_)<;>intro<;>try (first |(exfalso;omega)))|((first |refine zab rfl rfl ?_ ?_|refine zao rfl rfl ?_ ?_|refine zar rfl ?_ ?_);focus (first |omega|exact le_ rfl|((repeat' refine And.intro ?_ ?_)<;>omega)|((repeat' refine And.intro ?_ ?_)<;>first |omega|rfl|exact le_ rfl)))|with_reducible refine ⟨by kernel_rfl, ?_⟩|refine zaX ?_|refine zbJ ?_|refine zbi ⟨_, _, rfl, rfl, _, rfl⟩|fail)

theorem zcg (k : Int) (y n : Bool) (d : List UInt8) (e : Int) (t : List UInt8) : Weak (.ag [.i .i64 k, .b y, .b n, .s d, .i .i64 e, .s t, .nilS, .nilS]) (.ag (jC (.mk k y n d e t [] []))) := by
  rw [zbz]
  refine .ag _ _ rfl fun j hj => ?_
  match j, hj with
  | 0, _ => exact .refl _
  | 1, _ => exact .refl _
  | 2, _ => exact .refl _
  | 3, _ => exact .refl _
  | 4, _ => exact .refl _
  | 5, _ => exact .refl _
  | 6, _ => exact .nil 8 _
  | 7, _ => exact .nil 1 _
set_option maxRecDepth 100000 in
set_option maxHeartbeats 8000000 in
theorem zlq (s : List UInt8) (hs : s.length ≤ 1048576) : ∀ d : Nat, d ≤ 100 → ∀ i, i ≤ s.length → RdE 48 [.pv 13 0, .i .i64 d] s i (valD (jval s d i)) := by
  intro d
  induction d with
  | zero =>
    intro _ i hi
    refine zgc Tryz.func48 rfl Tryz.ntmps48 Tryz.results48 rfl zhC fun X hL hX => ?_
    have c1 := zbU s i hs hi
    unfold jval
    cases h1 : jpeek s i with
    | inr e =>
      obtain ⟨p, e⟩ := e
      rw [h1] at c1
      repeat' (first |(refine zbE (id := 1) 1 ?_;dsimp only [splitOp])|refine zbp 13 rfl Tryz.call77 rfl rfl rfl rfl c1 ?_|with_reducible (first |refine zag ?_|refine zaa ?_|refine zaf ?_|refine zad ?_)|refine zab rfl rfl True.intro ?_|((first |refine zao rfl rfl ?_ ?_);focus (first |((repeat' refine And.intro ?_ ?_)<;>omega)|((repeat' refine And.intro ?_ ?_)<;>first |rfl)))|refine zaX ?_|refine zbi ⟨_, _, rfl, rfl, _, rfl⟩|fail)
    | inl j =>
      rw [h1] at c1
      dsimp only
      have c5 := zbq j 9
      repeat' (first |(refine zbE (id := 3) 4 ?_;dsimp only [splitOp])|refine zav (f := 77) 13 rfl rfl Tryz.call77 rfl rfl rfl rfl rfl c1 ?_|refine zdi rfl Tryz.call50 rfl c5 ?_|with_reducible (first |refine zag ?_|refine zaa ?_|refine zaf ?_|refine zad ?_)|refine zab rfl rfl True.intro ?_|refine zas rfl ?_|((first |refine zab rfl rfl ?_ ?_|refine zao rfl rfl ?_ ?_);focus (first |exact le_ rfl|((repeat' refine And.intro ?_ ?_)<;>omega)|((repeat' refine And.intro ?_ ?_)<;>first |rfl)))|refine zaX ?_|refine zbi ⟨_, _, rfl, rfl, _, rfl⟩|fail)
  | succ d ih =>
    intro hd i hi
    have ih := ih (by omega)
    refine zgc Tryz.func48 rfl Tryz.ntmps48 Tryz.results48 rfl zhC fun X hL hX => ?_
    have c1 := zbU s i hs hi
    have q1 := @zaW s i
    unfold jval
    cases h1 : jpeek s i with
    | inr e =>
      obtain ⟨p, e⟩ := e
      rw [h1] at c1
      repeat' (first |(refine zbE (id := 1) 1 ?_;dsimp only [splitOp])|refine zbp 13 rfl Tryz.call77 rfl rfl rfl rfl c1 ?_|with_reducible (first |refine zag ?_|refine zaa ?_|refine zaf ?_|refine zad ?_)|refine zab rfl rfl True.intro ?_|((first |refine zao rfl rfl ?_ ?_);focus (first |((repeat' refine And.intro ?_ ?_)<;>omega)|((repeat' refine And.intro ?_ ?_)<;>first |rfl)))|refine zaX ?_|refine zbi ⟨_, _, rfl, rfl, _, rfl⟩|fail)
    | inl j =>
      rw [h1] at c1
      have q1 := q1 hi h1
      have hjl : j ≤ s.length := by omega
      dsimp only
      by_cases b0 : at' s j = 110
      · rw [if_pos b0]
        have w1 := zfp s nullW j 0 false hs (by decide) hjl
        unfold jword at w1 ⊢
        by_cases hp : Lib.hasPrefix (s.drop j) nullW = true
        · rw [if_pos hp] at w1 ⊢
          repeat' (first |refine zav (f := 77) 13 rfl rfl Tryz.call77 rfl rfl rfl rfl rfl c1 ?_|refine zav (f := 78) 13 rfl rfl Tryz.call78 rfl rfl rfl rfl rfl w1 ?_|with_reducible (first |refine zag ?_|refine zaa ?_|refine zaf ?_|refine zad ?_|refine zaj ?_|refine zai ?_|refine zae ?_|refine zal ?_|refine zap ?_)|refine zab rfl rfl True.intro ?_|refine zak rfl ?_|((first |refine zac rfl ?_ ?_)<;>intro<;>try (first |(exfalso;omega)))|((first |refine zao rfl rfl ?_ ?_|refine zar rfl ?_ ?_);focus (first |((repeat' refine And.intro ?_ ?_)<;>omega)|((repeat' refine And.intro ?_ ?_)<;>first |rfl|exact Nat.le_refl _)))|refine zcW rfl ⟨_, _, rfl, ?_, rfl⟩|fail)
          all_goals exact zbQ 0 false
        · rw [if_neg hp] at w1 ⊢
          repeat' (first |(refine zbE (id := 6) 2 ?_;dsimp only [splitOp])|refine zav (f := 77) 13 rfl rfl Tryz.call77 rfl rfl rfl rfl rfl c1 ?_|refine zbp 13 rfl Tryz.call78 rfl rfl rfl rfl w1 ?_|with_reducible (first |refine zag ?_|refine zaa ?_|refine zaf ?_|refine zad ?_|refine zai ?_|refine zae ?_)|refine zab rfl rfl True.intro ?_|refine zak rfl ?_|((first |refine zac rfl ?_ ?_)<;>intro<;>try (first |(exfalso;omega)))|((first |refine zao rfl rfl ?_ ?_);focus (first |((repeat' refine And.intro ?_ ?_)<;>omega)|((repeat' refine And.intro ?_ ?_)<;>first |rfl)))|refine zaX ?_|refine zbJ ?_|refine zbi ⟨_, _, rfl, rfl, _, rfl⟩|fail)
      rw [if_neg b0]
      by_cases b1 : at' s j = 116
      · rw [if_pos b1]
        have w1 := zfp s trueW j 1 true hs (by decide) hjl
        unfold jword at w1 ⊢
        by_cases hp : Lib.hasPrefix (s.drop j) trueW = true
        · rw [if_pos hp] at w1 ⊢
          repeat' (first |refine zav (f := 77) 13 rfl rfl Tryz.call77 rfl rfl rfl rfl rfl c1 ?_|refine zav (f := 78) 13 rfl rfl Tryz.call78 rfl rfl rfl rfl rfl w1 ?_|with_reducible (first |refine zag ?_|refine zaa ?_|refine zaf ?_|refine zad ?_|refine zaj ?_|refine zai ?_|refine zae ?_|refine zal ?_|refine zap ?_)|refine zab rfl rfl True.intro ?_|refine zak rfl ?_|((first |refine zac rfl ?_ ?_)<;>intro<;>try (first |(exfalso;omega)))|((first |refine zao rfl rfl ?_ ?_|refine zar rfl ?_ ?_);focus (first |((repeat' refine And.intro ?_ ?_)<;>omega)|((repeat' refine And.intro ?_ ?_)<;>first |rfl|exact Nat.le_refl _)))|refine zcW rfl ⟨_, _, rfl, ?_, rfl⟩|fail)
          all_goals exact zbQ 1 true
        · rw [if_neg hp] at w1 ⊢
          repeat' (first |(refine zbE (id := 8) 2 ?_;dsimp only [splitOp])|refine zav (f := 77) 13 rfl rfl Tryz.call77 rfl rfl rfl rfl rfl c1 ?_|refine zbp 13 rfl Tryz.call78 rfl rfl rfl rfl w1 ?_|with_reducible (first |refine zag ?_|refine zaa ?_|refine zaf ?_|refine zad ?_|refine zai ?_|refine zae ?_)|refine zab rfl rfl True.intro ?_|refine zak rfl ?_|((first |refine zac rfl ?_ ?_)<;>intro<;>try (first |(exfalso;omega)))|((first |refine zao rfl rfl ?_ ?_);focus (first |((repeat' refine And.intro ?_ ?_)<;>omega)|((repeat' refine And.intro ?_ ?_)<;>first |rfl)))|refine zaX ?_|refine zbJ ?_|refine zbi ⟨_, _, rfl, rfl, _, rfl⟩|fail)
      rw [if_neg b1]
      by_cases b2 : at' s j = 102
      · rw [if_pos b2]
        have w1 := zfp s falseW j 1 false hs (by decide) hjl
        unfold jword at w1 ⊢
        by_cases hp : Lib.hasPrefix (s.drop j) falseW = true
        · rw [if_pos hp] at w1 ⊢
          repeat' (first |refine zav (f := 77) 13 rfl rfl Tryz.call77 rfl rfl rfl rfl rfl c1 ?_|refine zav (f := 78) 13 rfl rfl Tryz.call78 rfl rfl rfl rfl rfl w1 ?_|with_reducible (first |refine zag ?_|refine zaa ?_|refine zaf ?_|refine zad ?_|refine zaj ?_|refine zai ?_|refine zae ?_|refine zal ?_|refine zap ?_)|refine zab rfl rfl True.intro ?_|refine zak rfl ?_|((first |refine zac rfl ?_ ?_)<;>intro<;>try (first |(exfalso;omega)))|((first |refine zao rfl rfl ?_ ?_|refine zar rfl ?_ ?_);focus (first |((repeat' refine And.intro ?_ ?_)<;>omega)|((repeat' refine And.intro ?_ ?_)<;>first |rfl|exact Nat.le_refl _)))|refine zcW rfl ⟨_, _, rfl, ?_, rfl⟩|fail)
          all_goals exact zbQ 1 false
        · rw [if_neg hp] at w1 ⊢
          repeat' (first |(refine zbE (id := 10) 2 ?_;dsimp only [splitOp])|refine zav (f := 77) 13 rfl rfl Tryz.call77 rfl rfl rfl rfl rfl c1 ?_|refine zbp 13 rfl Tryz.call78 rfl rfl rfl rfl w1 ?_|with_reducible (first |refine zag ?_|refine zaa ?_|refine zaf ?_|refine zad ?_|refine zai ?_|refine zae ?_)|refine zab rfl rfl True.intro ?_|refine zak rfl ?_|((first |refine zac rfl ?_ ?_)<;>intro<;>try (first |(exfalso;omega)))|((first |refine zao rfl rfl ?_ ?_);focus (first |((repeat' refine And.intro ?_ ?_)<;>omega)|((repeat' refine And.intro ?_ ?_)<;>first |rfl)))|refine zaX ?_|refine zbJ ?_|refine zbi ⟨_, _, rfl, rfl, _, rfl⟩|fail)
      rw [if_neg b2]
      by_cases b3 : at' s j = 34
      · rw [if_pos b3]
        have w1 := ziE s j hs hjl
        cases h2 : jtext s j with
        | inr e =>
          obtain ⟨p, e⟩ := e
          rw [h2] at w1
          repeat' (first |(refine zbE (id := 12) 1 ?_;dsimp only [splitOp])|refine zav (f := 77) 13 rfl rfl Tryz.call77 rfl rfl rfl rfl rfl c1 ?_|refine zbp 13 rfl Tryz.call79 rfl rfl rfl rfl w1 ?_|with_reducible (first |refine zag ?_|refine zaa ?_|refine zaf ?_|refine zad ?_|refine zai ?_|refine zae ?_)|refine zab rfl rfl True.intro ?_|refine zak rfl ?_|((first |refine zac rfl ?_ ?_)<;>intro<;>try (first |(exfalso;omega)))|((first |refine zao rfl rfl ?_ ?_);focus (first |((repeat' refine And.intro ?_ ?_)<;>omega)|((repeat' refine And.intro ?_ ?_)<;>first |rfl)))|refine zaX ?_|refine zbJ ?_|refine zbi ⟨_, _, rfl, rfl, _, rfl⟩|fail)
        | inl r =>
          obtain ⟨t, n⟩ := r
          rw [h2] at w1
          repeat' (first |refine zav (f := 77) 13 rfl rfl Tryz.call77 rfl rfl rfl rfl rfl c1 ?_|refine zav (f := 79) 13 rfl rfl Tryz.call79 rfl rfl rfl rfl rfl w1 ?_|with_reducible (first |refine zag ?_|refine zaa ?_|refine zaf ?_|refine zad ?_|refine zaj ?_|refine zai ?_|refine zae ?_|refine zal ?_|refine zap ?_)|refine zab rfl rfl True.intro ?_|refine zak rfl ?_|((first |refine zac rfl ?_ ?_)<;>intro<;>try (first |(exfalso;omega)))|((first |refine zao rfl rfl ?_ ?_|refine zar rfl ?_ ?_);focus (first |((repeat' refine And.intro ?_ ?_)<;>omega)|((repeat' refine And.intro ?_ ?_)<;>first |rfl|exact Nat.le_refl _)))|refine zcW rfl ⟨_, _, rfl, ?_, rfl⟩|fail)
          all_goals exact zcg 3 false false [] 0 t
      rw [if_neg b3]
      by_cases b4 : at' s j = 91
      · rw [if_pos b4]
        have w1 := zfr s (jval s d) d hs (by omega) (zca s d) ih j q1.2.1
        cases h2 : jmany s (jval s d) false j with
        | inr e =>
          obtain ⟨p, e⟩ := e
          rw [h2] at w1
          repeat' (first |(refine zbE (id := 14) 3 ?_;dsimp only [splitOp])|refine zav (f := 77) 13 rfl rfl Tryz.call77 rfl rfl rfl rfl rfl c1 ?_|refine zbp 13 rfl Tryz.call80 rfl rfl rfl rfl w1 ?_|with_reducible (first |refine zag ?_|refine zaa ?_|refine zaf ?_|refine zad ?_|refine zai ?_|refine zae ?_)|refine zab rfl rfl True.intro ?_|refine zak rfl ?_|((first |refine zac rfl ?_ ?_)<;>intro<;>try (first |(exfalso;omega)))|((first |refine zao rfl rfl ?_ ?_);focus (first |((repeat' refine And.intro ?_ ?_)<;>omega)|((repeat' refine And.intro ?_ ?_)<;>first |rfl)))|refine zaX ?_|refine zbJ ?_|refine zbi ⟨_, _, rfl, rfl, _, rfl⟩|fail)
        | inl r =>
          obtain ⟨⟨xk, xy, xn, xd, xe, xt, xl, xs⟩, n⟩ := r
          rw [h2] at w1
          replace w1 : RdE 80 [.pv 13 0, .ag (litC (kindM false) false), .i .u8 (endM false), .i .i64 (d + 1 : Nat)] s j (.inl (.ag [.i .i64 xk, .b xy, .b xn, .s xd, .i .i64 xe, .s xt, .sl 8 xl.length (jF xl), .sl 1 xs.length (txF xs)], n)) := by
            rw [← zbz]
            exact w1
          repeat' (first |refine zav (f := 77) 13 rfl rfl Tryz.call77 rfl rfl rfl rfl rfl c1 ?_|refine zav (f := 80) 13 rfl rfl Tryz.call80 rfl rfl rfl rfl rfl w1 ?_|with_reducible (first |refine zag ?_|refine zaa ?_|refine zaf ?_|refine zad ?_|refine zaj ?_|refine zai ?_|refine zae ?_|refine zal ?_|refine zap ?_)|refine zab rfl rfl True.intro ?_|refine zak rfl ?_|((first |refine zac rfl ?_ ?_)<;>intro<;>try (first |(exfalso;omega)))|((first |refine zao rfl rfl ?_ ?_|refine zar rfl ?_ ?_);focus (first |((repeat' refine And.intro ?_ ?_)<;>omega)|((repeat' refine And.intro ?_ ?_)<;>first |rfl|exact Nat.le_refl _)))|refine zcW rfl ⟨_, _, rfl, ?_, rfl⟩|fail)
          all_goals exact .of_eq (by rw [zbz]; rfl)
      rw [if_neg b4]
      by_cases b5 : at' s j = 123
      · rw [if_pos b5]
        have w1 := zgj s (jval s d) d hs (by omega) (zca s d) ih j q1.2.1
        cases h2 : jmany s (jval s d) true j with
        | inr e =>
          obtain ⟨p, e⟩ := e
          rw [h2] at w1
          repeat' (first |(refine zbE (id := 16) 3 ?_;dsimp only [splitOp])|refine zav (f := 77) 13 rfl rfl Tryz.call77 rfl rfl rfl rfl rfl c1 ?_|refine zbp 13 rfl Tryz.call80 rfl rfl rfl rfl w1 ?_|with_reducible (first |refine zag ?_|refine zaa ?_|refine zaf ?_|refine zad ?_|refine zai ?_|refine zae ?_)|refine zab rfl rfl True.intro ?_|refine zak rfl ?_|((first |refine zac rfl ?_ ?_)<;>intro<;>try (first |(exfalso;omega)))|((first |refine zao rfl rfl ?_ ?_);focus (first |((repeat' refine And.intro ?_ ?_)<;>omega)|((repeat' refine And.intro ?_ ?_)<;>first |rfl)))|refine zaX ?_|refine zbJ ?_|refine zbi ⟨_, _, rfl, rfl, _, rfl⟩|fail)
        | inl r =>
          obtain ⟨⟨xk, xy, xn, xd, xe, xt, xl, xs⟩, n⟩ := r
          rw [h2] at w1
          replace w1 : RdE 80 [.pv 13 0, .ag (litC (kindM true) false), .i .u8 (endM true), .i .i64 (d + 1 : Nat)] s j (.inl (.ag [.i .i64 xk, .b xy, .b xn, .s xd, .i .i64 xe, .s xt, .sl 8 xl.length (jF xl), .sl 1 xs.length (txF xs)], n)) := by
            rw [← zbz]
            exact w1
          repeat' (first |refine zav (f := 77) 13 rfl rfl Tryz.call77 rfl rfl rfl rfl rfl c1 ?_|refine zav (f := 80) 13 rfl rfl Tryz.call80 rfl rfl rfl rfl rfl w1 ?_|with_reducible (first |refine zag ?_|refine zaa ?_|refine zaf ?_|refine zad ?_|refine zaj ?_|refine zai ?_|refine zae ?_|refine zal ?_|refine zap ?_)|refine zab rfl rfl True.intro ?_|refine zak rfl ?_|((first |refine zac rfl ?_ ?_)<;>intro<;>try (first |(exfalso;omega)))|((first |refine zao rfl rfl ?_ ?_|refine zar rfl ?_ ?_);focus (first |((repeat' refine And.intro ?_ ?_)<;>omega)|((repeat' refine And.intro ?_ ?_)<;>first |rfl|exact Nat.le_refl _)))|refine zcW rfl ⟨_, _, rfl, ?_, rfl⟩|fail)
          all_goals exact .of_eq (by rw [zbz]; rfl)
      rw [if_neg b5]
      have w1 := zjq s j hs hjl
      unfold jnum at w1 ⊢
      by_cases hz : (parseG powP (s.drop j)).2.2 = 0
      · rw [if_pos hz] at w1 ⊢
        have hw := zkp (parseG powP (s.drop j)).1
        repeat' (first |refine zav (f := 77) 13 rfl rfl Tryz.call77 rfl rfl rfl rfl rfl c1 ?_|refine zav (f := 81) 13 rfl rfl Tryz.call81 rfl rfl rfl rfl rfl w1 ?_|with_reducible (first |refine zag ?_|refine zaa ?_|refine zaf ?_|refine zad ?_|refine zaj ?_|refine zai ?_|refine zae ?_|refine zaq ?_)|refine zab rfl rfl True.intro ?_|refine zak rfl ?_|((first |refine zac rfl ?_ ?_)<;>intro<;>try (first |(exfalso;omega)))|((first |refine zao rfl rfl ?_ ?_|refine zar rfl ?_ ?_);focus (first |((repeat' refine And.intro ?_ ?_)<;>omega)|((repeat' refine And.intro ?_ ?_)<;>first |rfl|exact Nat.le_refl _)))|refine zcW rfl ⟨_, _, rfl, ?_, rfl⟩|fail)
        all_goals exact hw
      · rw [if_neg hz] at w1 ⊢
        repeat' (first |(refine zbE (id := 17) 1 ?_;dsimp only [splitOp])|refine zav (f := 77) 13 rfl rfl Tryz.call77 rfl rfl rfl rfl rfl c1 ?_|refine zbp 13 rfl Tryz.call81 rfl rfl rfl rfl w1 ?_|with_reducible (first |refine zag ?_|refine zaa ?_|refine zaf ?_|refine zad ?_|refine zai ?_|refine zae ?_|refine zaq ?_)|refine zab rfl rfl True.intro ?_|refine zak rfl ?_|((first |refine zac rfl ?_ ?_)<;>intro<;>try (first |(exfalso;omega)))|((first |refine zao rfl rfl ?_ ?_);focus (first |((repeat' refine And.intro ?_ ?_)<;>omega)|((repeat' refine And.intro ?_ ?_)<;>first |rfl)))|refine zaX ?_|refine zbi ⟨_, _, rfl, rfl, _, rfl⟩|fail)

namespace J
def kind : J → Int | mk k _ _ _ _ _ _ _ => k
def yes : J → Bool | mk _ y _ _ _ _ _ _ => y
def neg : J → Bool | mk _ _ n _ _ _ _ _ => n
def dig : J → List UInt8 | mk _ _ _ d _ _ _ _ => d
def exp : J → Int | mk _ _ _ _ e _ _ _ => e
def text : J → List UInt8 | mk _ _ _ _ _ t _ _ => t
def list : J → List J | mk _ _ _ _ _ _ l _ => l
def keys : J → List (List UInt8) | mk _ _ _ _ _ _ _ ks => ks
end J
def jP (x : J) : List D := [.i .i64 x.kind, .b x.yes, .b x.neg, .s x.dig, .i .i64 x.exp, .s x.text, .sl 8 x.list.length (jF x.list), .sl 1 x.keys.length (txF x.keys)]
theorem zla (x : J) : jC x = jP x := by
  cases x
  rw [zbz]
  rfl
def jG (l : List J) : Nat → List D := fun i => jP (l.getD i j0)
theorem jF_G (l : List J) : Weak (.sl 8 l.length (jF l)) (.sl 8 l.length (jG l)) := .sl _ _ _ _ (fun i hi => by
    rw [zri hi, zla]
    exact ⟨rfl, rfl⟩) fun i j hi hj => by
    rw [zri hi, zla]
    exact .refl _
def jQ (x : J) : List D := [.i .i64 x.kind, .b x.yes, .b x.neg, .s x.dig, .i .i64 x.exp, .s x.text, .sl 8 x.list.length (jG x.list), .sl 1 x.keys.length (txF x.keys)]
theorem zme (x : J) : Weak (.ag (jP x)) (.ag (jQ x)) := .ag _ _ rfl fun j hj => match j, hj with
  | 0, _ => .refl _
  | 1, _ => .refl _
  | 2, _ => .refl _
  | 3, _ => .refl _
  | 4, _ => .refl _
  | 5, _ => .refl _
  | 6, _ => jF_G _
  | 7, _ => .refl _
mutual
def sameJ : J → J → Bool
  | .mk k y n d e t l ks, .mk k' y' n' d' e' t' l' ks' => if k ≠ k' then false else if k = 1 then y == y' else if k = 2 then (n == n' && (d == d' && (e == e' && true))) else if k = 3 then t == t'
    else if k ≠ 4 ∧ k ≠ 5 then true else if l.length ≠ l'.length ∨ k = 5 ∧ ks.length ≠ ks'.length then false else if k = 5 ∧ ks ≠ ks' then false else sameL l l'
def sameL : List J → List J → Bool
  | [], _ => true
  | _ :: _, [] => false
  | x :: r, y :: r' => sameJ x y && sameL r r'
end
mutual
theorem zmg : ∀ x : J, sameJ x x = true
  | .mk k y n d e t l ks => by
    rw [sameJ]
    have hl := zgn l
    simp [hl]
theorem zgn : ∀ l : List J, sameL l l = true
  | [] => by rw [sameL]
  | x :: r => by rw [sameL, zmg x, zgn r]; rfl
end
mutual
def jw : J → Nat
  | .mk _ _ _ _ _ _ l ks => 1 + jwL l + ks.length
def jwL : List J → Nat
  | [] => 0
  | x :: r => jw x + jwL r
end
theorem zeq (x : J) : jw x = 1 + jwL x.list + x.keys.length := by
  cases x
  rw [jw]
  rfl
theorem zrT (x : J) : 1 ≤ jw x := by
  rw [zeq]
  omega
theorem zbZ : ∀ l : List J, l.length ≤ jwL l
  | [] => Nat.zero_le _
  | x :: r => by
    have := zbZ r
    have := zrT x
    rw [jwL, List.length_cons]
    omega
theorem zkV : ∀ {l : List J} {i : Nat}, i < l.length → jw (l.getD i j0) ≤ jwL l
  | [], _, h => by simp at h
  | x :: r, 0, _ => by
    rw [jwL]
    exact Nat.le_add_right _ _
  | x :: r, i + 1, h => by
    have := zkV (l := r) (i := i) (by simpa using h)
    rw [jwL]
    have e : (x :: r).getD (i + 1) j0 = r.getD i j0 := by simp
    rw [e]
    omega
theorem znC : ∀ (l : List J) (x : J), jwL (l ++ [x]) = jwL l + jw x
  | [], x => by
    show jw x + 0 = 0 + jw x
    omega
  | y :: r, x => by
    rw [List.cons_append, jwL, jwL, znC r x]
    omega

theorem zrQ (s : List UInt8) (j : Nat) : (blkB (s.getD j 0) = true) ↔ (at' s j = 32 ∨ at' s j = 9 ∨ at' s j = 10 ∨ at' s j = 13) := by
  have h : ∀ n : _root_.Fin 256, (blkB (UInt8.ofNat n.1) = true) ↔ ((n.1 : Int) = 32 ∨ (n.1 : Int) = 9 ∨ (n.1 : Int) = 10 ∨ (n.1 : Int) = 13) := by decide +kernel
  have h := h ⟨(s.getD j 0).toNat, (s.getD j 0).toNat_lt⟩
  rw [show UInt8.ofNat (s.getD j 0).toNat = s.getD j 0 by simp] at h
  exact h
set_option maxRecDepth 100000 in
set_option maxHeartbeats 2000000 in
theorem zbF (s : List UInt8) (i : Nat) (hs : s.length ≤ 1048576) (hi : i ≤ s.length) : Ctr Tryz.prog 57 [.s s, .i .i64 i] (.i .i64 (skN s i)) := by
  refine zay Tryz.func57 rfl Tryz.ntmps57 Tryz.results57 rfl rfl fun X hL hX => ?_
  repeat' (first |with_reducible (first |refine zag ?_|refine zaa ?_|refine zaf ?_|refine zad ?_|refine zae ?_)|refine zab rfl rfl True.intro ?_|fail)
  refine T.loop hL (fun j : Nat => [(0, .s s), (1, .i .i64 j)]) (fun _ => []) (fun j => i ≤ j ∧ j ≤ skN s i) (fun j => s.length - j) i ⟨Nat.le_refl _, (zbT hi).1⟩
    ⟨⟨rfl, rfl, trivial⟩, trivial, rfl, by rw [hX]; simp⟩ ?_
  rintro j ⟨h1, h2⟩
  have h3 := (zbT hi).2
  by_cases hj : j < s.length
  · have hb := zrQ s j
    cases hc : blkB (s.getD j 0) with
    | true =>
      have hm := zkL h1 h2 hj hc
      have hb := hb.1 hc
      have fin : ∀ e : ((j : Int) + 1) = ((j + 1 : Nat) : Int), True := fun _ => trivial
      rcases hb with hb | hb | hb | hb
      all_goals
        repeat' (first |with_reducible (first |refine zag ?_|refine zaa ?_|refine zaf ?_|refine zad ?_|refine zai ?_|refine zae ?_|refine zaq ?_)|refine zab rfl rfl True.intro ?_|refine zau rfl rfl rfl ?_|refine zam rfl rfl rfl rfl True.intro ?_|refine zas rfl ?_|((first |refine zac rfl ?_ ?_|refine zan rfl rfl ?_ ?_)<;>intro<;>try (first |(exfalso;omega)))|((first |refine zab rfl rfl ?_ ?_|refine zam rfl rfl rfl rfl ?_ ?_);focus (first |omega|((repeat' refine And.intro ?_ ?_)<;>omega)))|fail)
        all_goals exact ⟨j + 1, ⟨by omega, hm⟩, by omega, ⟨rfl, congrArg (D.i .i64) (by omega), trivial⟩, trivial, rfl, by rw [hX]; simp⟩
    | false =>
      rw [hc] at hb
      have hb : ¬ (at' s j = 32 ∨ at' s j = 9 ∨ at' s j = 10 ∨ at' s j = 13) := fun q => Bool.false_ne_true (hb.2 q)
      have b1 : ¬ at' s j = 32 := fun q => hb (.inl q)
      have b2 : ¬ at' s j = 9 := fun q => hb (.inr (.inl q))
      have b3 : ¬ at' s j = 10 := fun q => hb (.inr (.inr (.inl q)))
      have b4 : ¬ at' s j = 13 := fun q => hb (.inr (.inr (.inr q)))
      clear hb
      rw [zgW h1 h2 (.inr hc) hi]
      repeat' (first |with_reducible (first |refine zag ?_|refine zaa ?_|refine zaf ?_|refine zad ?_|refine zaj ?_|refine zaz ?_|refine zaA ?_)|refine zab rfl rfl True.intro ?_|refine zam rfl rfl rfl rfl True.intro ?_|((first |refine zac rfl ?_ ?_|refine zan rfl rfl ?_ ?_)<;>intro<;>try (first |(exfalso;omega)))|((first |refine zam rfl rfl rfl rfl ?_ ?_);focus (first |omega|((repeat' refine And.intro ?_ ?_)<;>omega)))|refine zaJ rfl ?_|refine zaw rfl ?_|fail)
      all_goals rfl
  · rw [zgW h1 h2 (.inl (by omega)) hi]
    repeat' (first |with_reducible (first |refine zag ?_|refine zaa ?_|refine zaf ?_|refine zad ?_|refine zaj ?_|refine zaz ?_|refine zaA ?_)|refine zab rfl rfl True.intro ?_|refine zau rfl rfl rfl ?_|refine zce rfl rfl rfl ?_|refine zak rfl ?_|((first |refine zan rfl rfl ?_ ?_)<;>intro<;>try (first |(exfalso;omega)))|refine zaJ rfl ?_|refine zaw rfl ?_|fail)
    all_goals rfl
theorem zji {s p : List UInt8} (h : Lib.hasPrefix s p = true) : p.length ≤ s.length := by
  unfold Lib.hasPrefix at h
  exact (List.isPrefixOf_iff_prefix.1 h).length_le
theorem zjQ {s w : List UInt8} {i : Nat} : Lib.hasPrefix (s.drop i) w = true ↔ List.drop i (List.take (i + w.length) s) = w := by
  unfold Lib.hasPrefix
  rw [List.isPrefixOf_iff_prefix, List.prefix_iff_eq_take, List.take_drop]
  exact ⟨fun h => h.symm, fun h => h.symm⟩
set_option maxRecDepth 100000 in
set_option maxHeartbeats 1000000 in
theorem zeH (s w : List UInt8) (i : Nat) (hs : s.length ≤ 1048576) (hw : w.length ≤ 10) (hi : i ≤ s.length) : Ctr Tryz.prog 90 [.s s, .i .i64 i, .s w] (.b (Lib.hasPrefix (s.drop i) w)) := by
  refine zay Tryz.func90 rfl Tryz.ntmps90 Tryz.results90 rfl rfl fun X hL hX => ?_
  have hr := @zji (s.drop i) w
  rw [List.length_drop] at hr
  have ht := @zjQ s w i
  have hi0 : (i : Int).toNat = i := Int.toNat_natCast i
  have hi1 : ((i : Int) + (w.length : Int)).toNat = i + w.length := by omega
  by_cases hl : w.length ≤ s.length - i
  · have hl' : (s.length : Int) - i ≥ w.length := by omega
    repeat' (first |with_reducible (first |refine zag ?_|refine zaa ?_|refine zaf ?_|refine zad ?_|refine zaj ?_)|refine zab rfl rfl True.intro ?_|refine zam rfl rfl rfl rfl True.intro ?_|((first |refine zan rfl rfl ?_ ?_)<;>intro<;>try (first |(exfalso;omega)))|((first |refine zab rfl rfl ?_ ?_|refine zam rfl rfl rfl rfl ?_ ?_);focus (first |omega|((repeat' refine And.intro ?_ ?_)<;>omega)))|refine zaw rfl ?_|fail)
    all_goals exact congrArg D.b (by rw [hi0, hi1, Bool.eq_iff_iff, beq_iff_eq, ht])
  · have hl' : ¬ (s.length : Int) - i ≥ w.length := by omega
    have hf : Lib.hasPrefix (s.drop i) w = false := by
      cases h : Lib.hasPrefix (s.drop i) w with
      | false => rfl
      | true => exact absurd (hr h) hl
    rw [hf]
    repeat' (first |with_reducible (first |refine zag ?_|refine zaa ?_|refine zaf ?_|refine zad ?_|refine zaj ?_)|refine zab rfl rfl True.intro ?_|refine zau rfl rfl rfl ?_|((first |refine zan rfl rfl ?_ ?_)<;>intro<;>try (first |(exfalso;omega)))|((first |refine zab rfl rfl ?_ ?_);focus (first |omega|((repeat' refine And.intro ?_ ?_)<;>omega)))|refine zaw rfl ?_|fail)
    all_goals rfl
set_option maxRecDepth 100000 in
set_option maxHeartbeats 1000000 in
theorem zgz (l : List (List UInt8)) (k : List UInt8) (hl : l.length ≤ 4194304) : Ctr Tryz.prog 92 [.sl 1 l.length (txF l), .s k] (.i .i64 (idxJ k l)) := by
  refine zay Tryz.func92 rfl Tryz.ntmps92 Tryz.results92 rfl rfl fun X hL hX => ?_
  repeat' (first |with_reducible (first |refine zag ?_|refine zaa ?_|refine zaf ?_|refine zad ?_|refine zae ?_)|refine zab rfl rfl True.intro ?_|fail)
  refine T.loop hL (fun i : Nat => [(0, .sl 1 l.length (txF l)), (1, .s k), (5, .i .i64 i)]) (fun _ => [])
    (fun i => i ≤ l.length ∧ ∀ j, j < i → ¬ l.getD j [] = k) (fun i => l.length - i) 0 ⟨Nat.zero_le _, fun j h => absurd h (Nat.not_lt_zero _)⟩
    ⟨⟨rfl, rfl, rfl, trivial⟩, trivial, rfl, by rw [hX]; simp⟩ ?_
  rintro i ⟨h1, h2⟩
  have hnat : (i : Int).toNat = i := Int.toNat_natCast i
  by_cases hil : i < l.length
  · by_cases hq : l.getD i [] = k
    · have hq' : k = l.getD (i : Int).toNat [] := by rw [hnat]; exact hq.symm
      have hq2 : l.getD (i : Int).toNat [] = k := hq'.symm
      rw [zhH h2 hil hq]
      repeat' (first |with_reducible (first |refine zag ?_|refine zaa ?_|refine zaf ?_|refine zad ?_|refine zaj ?_|refine zai ?_|refine zae ?_|refine zaq ?_|refine zal ?_|refine zap ?_)|refine zab rfl rfl True.intro ?_|((first |refine zac rfl ?_ ?_|refine zbx rfl ?_ ?_)<;>intro<;>try (first |(exfalso;omega)))|((first |refine zab rfl rfl ?_ ?_);focus (first |omega|exact le_ rfl|((repeat' refine And.intro ?_ ?_)<;>omega)))|refine zaw rfl ?_|fail)
      all_goals first
        | rfl
        | (exfalso; rename_i q; exact q hq')
        | (exfalso; rename_i q; exact q hq2)
    · have hq' : ¬ k = l.getD (i : Int).toNat [] := by rw [hnat]; exact fun e => hq e.symm
      have hq2 : ¬ l.getD (i : Int).toNat [] = k := fun e => hq' e.symm
      repeat' (first |with_reducible (first |refine zag ?_|refine zaa ?_|refine zaf ?_|refine zad ?_|refine zaj ?_|refine zai ?_|refine zae ?_|refine zaq ?_|refine zal ?_|refine zap ?_)|refine zab rfl rfl True.intro ?_|((first |refine zac rfl ?_ ?_|refine zbx rfl ?_ ?_)<;>intro<;>try (first |(exfalso;omega)))|((first |refine zab rfl rfl ?_ ?_);focus (first |omega|exact le_ rfl|((repeat' refine And.intro ?_ ?_)<;>omega)))|refine zaw rfl ?_|fail)
      all_goals first
        | (exfalso; rename_i q; exact hq' q)
        | (exfalso; rename_i q; exact hq2 q)
        | exact ⟨i + 1, ⟨by omega, fun j hj => by
            by_cases e : j = i
            · subst e; exact hq
            · exact h2 j (by omega)⟩, by omega, ⟨rfl, rfl, congrArg (D.i .i64) (by omega), trivial⟩, trivial, rfl, by rw [hX]; simp⟩
  · rw [zfO (fun j hj => h2 j (by omega))]
    repeat' (first |with_reducible (first |refine zag ?_|refine zaa ?_|refine zaf ?_|refine zad ?_|refine zaj ?_|refine zaz ?_|refine zaA ?_)|refine zab rfl rfl True.intro ?_|((first |refine zac rfl ?_ ?_)<;>intro<;>try (first |(exfalso;omega)))|refine zaJ rfl ?_|refine zaw rfl ?_|fail)
    all_goals rfl
end Go.Proofs.YtcajofhafpkbdaaGreatDoor.Flow
