/- The texts U17, D11, D15, J23, J24, D13, one behind the other. -/
import Derived.Test.YtcajofhafpkbdaaGreatDoorCQ12
import Derived.Test.YtcajofhafpkbdaaGreatDoorCQ17
import Derived.Test.YtcajofhafpkbdaaGreatDoorCQ20
import Derived.Test.YtcajofhafpkbdaaGreatDoorCQ21
namespace Go.Proofs.YtcajofhafpkbdaaGreatDoor.Flow
open Go
theorem zcl {n m : Nat} {b xs : List UInt8} {f g : Nat → List D} (hn : n = b.length) (hm : m = xs.length) (hf : ∀ j, j < n → f j = bytesF b j) (hg : ∀ j, j < m → g j = bytesF xs j) : ∀ j, j < n + m → catF n f m g j = bytesF (b ++ xs) j := by
  subst hn hm
  intro j hj
  unfold catF
  by_cases h : j < b.length
  · rw [if_pos h, hf j h]
    simp [bytesF, List.getD_eq_getElem?_getD, h, List.getElem?_append_left]
  · rw [if_neg h, if_pos hj, hg _ (by omega)]
    simp [bytesF, List.getD_eq_getElem?_getD, List.getElem?_append_right (show b.length ≤ j by omega)]
theorem zmm {n : Nat} {b : List UInt8} {f : Nat → List D} (hn : n = b.length) (hf : ∀ j, j < n → f j = bytesF b j) : bytesOf n f = b := by
  subst hn
  refine Eq.trans ?_ (zbb b)
  unfold bytesOf
  apply List.map_congr_left
  intro j hj
  rw [hf j (by simpa using hj)]
abbrev hexS16 : List UInt8 := ({ data := #[48, 49, 50, 51, 52, 53, 54, 55, 56, 57, 97, 98, 99, 100, 101, 102] } : ByteArray).data.toList
theorem zqu (n : Int) (h0 : 0 ≤ n) (h1 : n < 16) : at' hexS16 n = ((hexD n).toNat : Int) := by
  obtain ⟨n, rfl⟩ := Int.eq_ofNat_of_zero_le h0
  rw [hexS n (by omega)]
  unfold hexD
  rw [zcn _ (by split <;> omega) (by split <;> omega)]
theorem p4 : (2 : Int) ^ Int.toNat 4 = 16 := by decide
set_option maxRecDepth 100000 in
theorem zsq : ∀ x : _root_.Fin 256, bits .and .u8 ((x.val : Nat) : Int) 15 = ((x.val % 16 : Nat) : Int) := by decide
theorem and15 (n : Int) (h : 0 ≤ n) (h2 : n < 256) : bits .and .u8 n 15 = n % 16 := by
  have := zsq ⟨n.toNat, by omega⟩
  simp only at this
  rw [show ((n.toNat : Nat) : Int) = n by omega] at this
  rw [this]
  omega
section
variable {n : Int}
theorem qI_8 (h : n = 8) : qI n = [92, 98] := if_pos h
theorem qI_9 (h : n = 9) : qI n = [92, 116] := by subst h; rfl
theorem qI_10 (h : n = 10) : qI n = [92, 110] := by subst h; rfl
theorem qI_12 (h : n = 12) : qI n = [92, 102] := by subst h; rfl
theorem qI_13 (h : n = 13) : qI n = [92, 114] := by subst h; rfl
theorem qI_34 (h : n = 34) : qI n = [92, 34] := by subst h; rfl
theorem qI_92 (h : n = 92) : qI n = [92, 92] := by subst h; rfl
theorem zsm (c8 : ¬ n = 8) (c9 : ¬ n = 9) (c10 : ¬ n = 10) (c12 : ¬ n = 12) (c13 : ¬ n = 13) (h : n < 32) : qI n = [92, 117, 48, 48, hexD (n / 16), hexD (n % 16)] := by
  unfold qI
  rw [if_neg c8, if_neg c9, if_neg c10, if_neg c12, if_neg c13, if_neg (by omega), if_neg (by omega), if_pos h]
theorem zsC (c34 : ¬ n = 34) (c92 : ¬ n = 92) (h : ¬ n < 32) : qI n = [by8 n] := by
  unfold qI
  rw [if_neg (by omega), if_neg (by omega), if_neg (by omega), if_neg (by omega), if_neg (by omega), if_neg c34, if_neg c92, if_neg h]
end
theorem pt1 {a : Int} {x : UInt8} (h : a = (x.toNat : Int)) : ∀ j, j < 1 → chunk 1 [.i .u8 a] j = bytesF [x] j := fun j hj => by
  subst h
  match j, hj with
  | 0, _ => rfl
theorem pt2 {a b : Int} {x y : UInt8} (h : a = (x.toNat : Int)) (h2 : b = (y.toNat : Int)) : ∀ j, j < 2 → chunk 1 [.i .u8 a, .i .u8 b] j = bytesF [x, y] j := fun j hj => by
  subst h h2
  match j, hj with
  | 0, _ => rfl
  | 1, _ => rfl
theorem pt5 {a b c d e : Int} {x y z u v : UInt8} (h : a = (x.toNat : Int)) (h2 : b = (y.toNat : Int)) (h3 : c = (z.toNat : Int)) (h4 : d = (u.toNat : Int)) (h5 : e = (v.toNat : Int)) : ∀ j, j < 5 → chunk 1 [.i .u8 a, .i .u8 b, .i .u8 c, .i .u8 d, .i .u8 e] j = bytesF [x, y, z, u, v] j := fun j hj => by
  subst h h2 h3 h4 h5
  match j, hj with
  | 0, _ => rfl
  | 1, _ => rfl
  | 2, _ => rfl
  | 3, _ => rfl
  | 4, _ => rfl
set_option maxHeartbeats 2000000 in
theorem zhX (s : List UInt8) (hs : s.length ≤ 1048576) : Ctr Tryz.prog 99 [.s s] (.s (quoteL s)) := by
  have cv := zdg s (by omega)
  unfold quoteL
  cases hv : validL s with
  | false =>
    rw [hv] at cv
    clear hv
    refine zay Tryz.func99 rfl Tryz.ntmps99 Tryz.results99 rfl rfl fun X hL hX => ?_
    repeat' (first |with_reducible (first |refine zag ?_|refine zaa ?_|refine zaf ?_|refine zad ?_|refine zaj ?_|refine zal ?_)|refine zab rfl rfl True.intro ?_|refine zas rfl ?_|refine zaw rfl ?_|refine zah (f := 69) rfl rfl Tryz.call69 rfl cv ?_|fail)
    rfl
  | true =>
    rw [hv] at cv
    clear hv
    rw [if_pos rfl]
    refine zay Tryz.func99 rfl Tryz.ntmps99 Tryz.results99 rfl rfl fun X hL hX => ?_
    repeat' (first |with_reducible (first |refine zag ?_|refine zaa ?_|refine zaf ?_|refine zad ?_|refine zai ?_|refine zae ?_)|refine zab rfl rfl True.intro ?_|refine zak rfl ?_|((first |refine zao rfl rfl ?_ ?_);focus (first |((repeat' refine And.intro ?_ ?_)<;>omega)|((repeat' refine And.intro ?_ ?_)<;>first |omega|rfl)))|refine zah (f := 69) rfl rfl Tryz.call69 rfl cv ?_|fail)
    refine T.loop hL (fun x : Nat × List UInt8 × (Nat → List D) => [(0, .s s), (3, .gs 9 1 x.2.1.length x.2.2), (11, .i .i64 s.length), (12, .i .i64 x.1)]) (fun x => [(9, .row 5 1 x.2.1.length)])
      (fun x => x.1 ≤ s.length ∧ x.2.1 = [34] ++ qL (s.take x.1) ∧ ∀ j, j < x.2.1.length → x.2.2 j = bytesF x.2.1 j) (fun x => s.length - x.1) (0, [34], chunk 1 [.i .u8 34]) ⟨Nat.zero_le _, rfl, pt1 rfl⟩
      ⟨⟨rfl, rfl, rfl, rfl, trivial⟩, ⟨rfl, trivial⟩, rfl, by rw [hX]; intro k hk; cases hk⟩ ?_
    rintro ⟨i, b, f⟩ ⟨g1, g2, g3⟩
    dsimp only at g1 g2 g3 ⊢
    have hb : b.length ≤ 6 * i + 1 := by
      have := znu (s.take i)
      rw [g2, List.length_append]
      have : (s.take i).length ≤ i := by simp; omega
      simp
      omega
    have done : ∀ (fr : Fr) (ow : Ow) (xs : List UInt8) (n : Nat) (f' : Nat → List D), getD' 0 fr = .s s → getD' 3 fr = .gs 9 1 n f' → getD' 11 fr = .i .i64 s.length → getD' 12 fr = .i .i64 (i + 1) → leOw ow [(9, .row 5 1 n)] → i < s.length → qI (at' s i) = xs → n = b.length + xs.length →
        (∀ j, j < b.length + xs.length → f' j = bytesF (b ++ xs) j) →
        ∃ y : Nat × List UInt8 × (Nat → List D), (y.1 ≤ s.length ∧ y.2.1 = [34] ++ qL (s.take y.1) ∧ ∀ j, j < y.2.1.length → y.2.2 j = bytesF y.2.1 j) ∧ s.length - y.1 < s.length - i ∧
          Le X fr ow [(0, .s s), (3, .gs 9 1 y.2.1.length y.2.2), (11, .i .i64 s.length), (12, .i .i64 y.1)] [(9, .row 5 1 y.2.1.length)] := by
      intro fr ow xs n f' q1 q2 q3 q4 q5 q6 q7 q8 q9
      subst q8
      have hl : b.length + xs.length = (b ++ xs).length := List.length_append.symm
      rw [hl] at q9 q5 q2
      exact ⟨(i + 1, b ++ xs, f'), ⟨by dsimp only; omega, by dsimp only; rw [zrH s i q6, q7, g2, List.append_assoc], q9⟩, by dsimp only; omega, ⟨q1, q2, q3, q4, trivial⟩, q5, rfl, by rw [hX]; intro k hk; cases hk⟩
    have l1 : hexS16.length = 16 := rfl
    have hr := zaG s i
    have e4 := p4
    have e15 := and15 _ hr.1 hr.2
    have g3 := fun _ : Unit => g3
    have low : Unit → ∀ j, j < b.length + 6 → catF (b.length + 5) (catF b.length f 5 (chunk 1 [.i .u8 92, .i .u8 117, .i .u8 48, .i .u8 48, .i .u8 (at' hexS16 (at' s i / 2 ^ Int.toNat 4))])) 1 (chunk 1 [.i .u8 (at' hexS16 (bits .and .u8 (at' s i) 15))]) j = bytesF (b ++ [92, 117, 48, 48, hexD (at' s i / 16), hexD (at' s i % 16)]) j := fun _ => by
      have h5 := pt5 (a := 92) (b := 117) (c := 48) (d := 48) (e := at' hexS16 (at' s i / 2 ^ Int.toNat 4)) (x := 92) (y := 117) (z := 48) (u := 48) (v := hexD (at' s i / 16)) rfl rfl rfl rfl (by rw [e4]; exact zqu _ (by omega) (by omega))
      have h1 := pt1 (a := at' hexS16 (bits .and .u8 (at' s i) 15)) (x := hexD (at' s i % 16)) (by rw [e15]; exact zqu _ (by omega) (by omega))
      have := zcl (b := b ++ [92, 117, 48, 48, hexD (at' s i / 16)]) (n := b.length + 5) (m := 1) (xs := [hexD (at' s i % 16)]) (by simp) rfl (zcl (m := 5) rfl rfl (g3 ()) h5) h1
      rw [List.append_assoc] at this
      exact this
    have two : ∀ x : UInt8, at' s i = (x.toNat : Int) → ∀ j, j < b.length + 2 → catF (b.length + 1) (catF b.length f 1 (chunk 1 [.i .u8 92])) 1 (chunk 1 [.i .u8 (at' s i)]) j = bytesF (b ++ [92, x]) j := fun x hx => by
      have := zcl (b := b ++ [92]) (n := b.length + 1) (m := 1) (xs := [x]) (by simp) rfl (zcl (m := 1) rfl rfl (g3 ()) (pt1 (a := 92) (x := 92) rfl)) (pt1 (a := at' s i) (x := x) hx)
      rw [List.append_assoc] at this
      exact this
    by_cases hi : i < s.length
    ·
      repeat' (first |with_reducible (first |refine zag ?_|refine zaa ?_|refine zaf ?_|refine zad ?_|refine zai ?_|refine zaz ?_|refine zae ?_|refine zaq ?_|refine zaA ?_)|refine zab rfl rfl True.intro ?_|((first |refine zac rfl ?_ ?_)<;>intro<;>try (first |(exfalso;omega)))|((first |refine zab rfl rfl ?_ ?_|refine zao rfl rfl ?_ ?_);focus (first |omega|((repeat' refine And.intro ?_ ?_)<;>omega)|((repeat' refine And.intro ?_ ?_)<;>first |omega|rfl)|(simp_all;omega)))|refine zaJ rfl ?_|refine zfU rfl ?_|fail)
      all_goals first
        | exact done _ _ [92, 98] _ _ rfl rfl rfl rfl ⟨rfl, trivial⟩ hi (qI_8 (by assumption)) rfl (zcl rfl rfl (g3 ()) (pt2 rfl rfl))
        | exact done _ _ [92, 116] _ _ rfl rfl rfl rfl ⟨rfl, trivial⟩ hi (qI_9 (by assumption)) rfl (zcl rfl rfl (g3 ()) (pt2 rfl rfl))
        | exact done _ _ [92, 110] _ _ rfl rfl rfl rfl ⟨rfl, trivial⟩ hi (qI_10 (by assumption)) rfl (zcl rfl rfl (g3 ()) (pt2 rfl rfl))
        | exact done _ _ [92, 102] _ _ rfl rfl rfl rfl ⟨rfl, trivial⟩ hi (qI_12 (by assumption)) rfl (zcl rfl rfl (g3 ()) (pt2 rfl rfl))
        | exact done _ _ [92, 114] _ _ rfl rfl rfl rfl ⟨rfl, trivial⟩ hi (qI_13 (by assumption)) rfl (zcl rfl rfl (g3 ()) (pt2 rfl rfl))
        | exact done _ _ [by8 (at' s i)] _ _ rfl rfl rfl rfl ⟨rfl, trivial⟩ hi (zsC (by assumption) (by assumption) (by assumption)) rfl (zcl rfl rfl (g3 ()) (pt1 (zcn _ hr.1 hr.2).symm))
        | exact done _ _ [92, 117, 48, 48, hexD (at' s i / 16), hexD (at' s i % 16)] _ _ rfl rfl rfl rfl ⟨rfl, trivial⟩ hi (zsm (by assumption) (by assumption) (by assumption) (by assumption) (by assumption) (by assumption)) rfl (low ())
        | exact done _ _ [92, 34] _ _ rfl rfl rfl rfl ⟨rfl, trivial⟩ hi (qI_34 (by assumption)) rfl (two 34 (by assumption))
        | exact done _ _ [92, 92] _ _ rfl rfl rfl rfl ⟨rfl, trivial⟩ hi (qI_92 (by assumption)) rfl (two 92 (by assumption))
    · have hfin := zcl (b := b) (m := 1) (xs := [34]) rfl rfl (g3 ()) (pt1 (a := 34) rfl)
      have hfin2 : ∀ j, j < b.length + 1 → ∃ n, catF b.length f 1 (chunk 1 [.i .u8 34]) j = [.i .u8 n] := fun j hj => ⟨_, hfin j hj⟩
      have hfin := fun _ : Unit => hfin
      have g2 := fun _ : Unit => g2
      clear done low two
      repeat' (first |with_reducible (first |refine zag ?_|refine zaa ?_|refine zaf ?_|refine zad ?_|refine zaj ?_|refine zaz ?_|refine zaA ?_)|refine zab rfl rfl True.intro ?_|((first |refine zac rfl ?_ ?_)<;>intro<;>try (first |(exfalso;omega)))|((first |refine zab rfl rfl ?_ ?_|refine zao rfl rfl ?_ ?_);focus (first |exact ⟨rfl, hfin2⟩|((repeat' refine And.intro ?_ ?_)<;>omega)|((repeat' refine And.intro ?_ ?_)<;>first |omega|rfl)))|refine zaJ rfl ?_|refine zaw rfl ?_|fail)
      rw [zmm (n := b.length + 1) (b := b ++ [34]) (by simp) (hfin ()), g2 (), List.take_of_length_le (by omega)]

theorem zpQ (neg : Bool) (s : List UInt8) (e : Int) (hs : s.length ≤ 1048576) (h : ¬ RightP neg s e) : Ctr Tryz.prog 98 [dcD neg s e] (.s []) := by
  have c1 := zcz neg s e (by omega)
  rw [zeN h] at c1
  refine zay Tryz.func98 rfl Tryz.ntmps98 Tryz.results98 rfl rfl fun X hL hX => ?_
  repeat' (first |with_reducible (first |refine zag ?_|refine zaa ?_|refine zaf ?_|refine zad ?_|refine zaj ?_|refine zal ?_)|refine zab rfl rfl True.intro ?_|refine zas rfl ?_|((first |refine zab rfl rfl ?_ ?_|refine zao rfl rfl ?_ ?_);focus (first |exact le_ rfl|((repeat' refine And.intro ?_ ?_)<;>omega)|((repeat' refine And.intro ?_ ?_)<;>first |rfl)))|refine zaw rfl ?_|refine zah (f := 113) rfl rfl Tryz.call113 rfl c1 ?_|fail)
  rfl
section
variable {s : List UInt8} {e : Int}
theorem zow (h : 0 ≤ e) (h2 : s.length + e ≤ 21) : textU s e = s ++ zs e.toNat := if_pos ⟨h, h2⟩
theorem zmN (h : ¬ (0 ≤ e ∧ s.length + e ≤ 21)) (h2 : 1 ≤ s.length + e) (h3 : s.length + e < s.length) : textU s e = s.take (s.length + e).toNat ++ [46] ++ s.drop (s.length + e).toNat := by
  unfold textU
  rw [if_neg h, if_pos ⟨h2, h3⟩]
theorem zmy (h : ¬ (0 ≤ e ∧ s.length + e ≤ 21)) (h2 : -6 ≤ s.length + e) (h3 : s.length + e ≤ 0) : textU s e = [48, 46] ++ zs (-(s.length + e)).toNat ++ s := by
  unfold textU
  rw [if_neg h, if_neg (by omega), if_pos ⟨h2, h3⟩]
theorem zmP (h : ¬ (0 ≤ e ∧ s.length + e ≤ 21)) (h2 : ¬ (1 ≤ s.length + e ∧ s.length + e < s.length)) (h3 : ¬ (-6 ≤ s.length + e ∧ s.length + e ≤ 0)) : textU s e = s.take 1 ++ (if 1 < s.length then [46] ++ s.drop 1 else []) ++ [101] ++ Lib.itoa (s.length + e - 1) := by
  unfold textU
  rw [if_neg h, if_neg h2, if_neg h3]
end
set_option maxHeartbeats 2000000 in
theorem zrh (neg : Bool) (s : List UInt8) (e : Int) (h : RightP neg s e) (h0 : ¬ s.length = 0) : Ctr Tryz.prog 98 [dcD neg s e] (.s ((if neg = true then [45] else []) ++ textU s e)) := by
  obtain ⟨b1, b2, b3, b4⟩ := h.bounds
  have c1 := zcz neg s e (by omega)
  rw [zcy.2 h] at c1
  have c2 := fun h => zjg e h (by omega)
  have c3 := fun h => zjg (-(s.length + e)) h (by omega)
  have c4 := zkT (s.length + e - 1) (by omega) (by omega)
  have l4 := zkH (s.length + e - 1) (by omega) (by omega)
  have u1 := fun h h2 => zow (s := s) (e := e) h h2
  have u2 := fun h h2 h3 => zmN (s := s) (e := e) h h2 h3
  have u3 := fun h h2 h3 => zmy (s := s) (e := e) h h2 h3
  have u4 := fun h h2 h3 => zmP (s := s) (e := e) h h2 h3
  have lz : ∀ n : Nat, (zs n).length = n := fun n => by simp
  generalize textU s e = U at *
  generalize Lib.itoa (s.length + e - 1) = I at *
  clear h
  refine zay Tryz.func98 rfl Tryz.ntmps98 Tryz.results98 rfl rfl fun X hL hX => ?_
  cases neg with
  | false =>
    repeat' (first |with_reducible (first |refine zag ?_|refine zaa ?_|refine zaf ?_|refine zad ?_|refine zaj ?_|refine zai ?_|refine zae ?_|refine zaq ?_|refine zal ?_|refine zap ?_|refine zaD ?_)|refine zab rfl rfl True.intro ?_|refine zau rfl rfl rfl ?_|refine zam rfl rfl rfl rfl True.intro ?_|refine zak rfl ?_|((first |refine zac rfl ?_ ?_|refine zan rfl rfl ?_ ?_)<;>intro<;>try (first |(exfalso;omega)))|((first |refine zab rfl rfl ?_ ?_|refine zao rfl rfl ?_ ?_);focus (first |(simp only [List.length_append, List.length_drop, List.length_take, lz, List.length_cons, List.length_nil];omega)|omega|exact le_ rfl|((repeat' refine And.intro ?_ ?_)<;>omega)|((repeat' refine And.intro ?_ ?_)<;>first |rfl)))|with_reducible refine ⟨by kernel_rfl, ?_⟩|refine zaw rfl ?_|refine zah (f := 113) rfl rfl Tryz.call113 rfl c1 ?_|refine zah (f := 114) rfl rfl Tryz.call114 rfl (c2 (by omega)) ?_|refine zah (f := 114) rfl rfl Tryz.call114 rfl (c3 (by omega)) ?_|refine zah (f := 94) rfl rfl Tryz.call94 rfl c4 ?_|fail)
    · rw [u1 (by omega) (by omega)]
      exact congrArg D.s (by simp)
    · rw [u4 (by omega) (by omega) (by omega), if_pos (show 1 < s.length by omega)]
      exact congrArg D.s (by simp)
    · rw [u4 (by omega) (by omega) (by omega), if_neg (show ¬ 1 < s.length by omega)]
      exact congrArg D.s (by simp)
    · rw [u2 (by omega) (by omega) (by omega)]
      exact congrArg D.s (by simp)
    · rw [u3 (by omega) (by omega) (by omega)]
      exact congrArg D.s (by simp)
    · rw [u4 (by omega) (by omega) (by omega), if_pos (show 1 < s.length by omega)]
      exact congrArg D.s (by simp)
    · rw [u4 (by omega) (by omega) (by omega), if_neg (show ¬ 1 < s.length by omega)]
      exact congrArg D.s (by simp)
  | true =>
    repeat' (first |with_reducible (first |refine zag ?_|refine zaa ?_|refine zaf ?_|refine zad ?_|refine zaj ?_|refine zai ?_|refine zae ?_|refine zaq ?_|refine zal ?_|refine zap ?_|refine zaD ?_)|refine zab rfl rfl True.intro ?_|refine zau rfl rfl rfl ?_|refine zam rfl rfl rfl rfl True.intro ?_|refine zas rfl ?_|refine zak rfl ?_|((first |refine zac rfl ?_ ?_|refine zan rfl rfl ?_ ?_)<;>intro<;>try (first |(exfalso;omega)))|((first |refine zab rfl rfl ?_ ?_|refine zao rfl rfl ?_ ?_);focus (first |(simp only [List.length_append, List.length_drop, List.length_take, lz, List.length_cons, List.length_nil];omega)|omega|exact le_ rfl|((repeat' refine And.intro ?_ ?_)<;>omega)|((repeat' refine And.intro ?_ ?_)<;>first |rfl)))|with_reducible refine ⟨by kernel_rfl, ?_⟩|refine zaw rfl ?_|refine zah (f := 113) rfl rfl Tryz.call113 rfl c1 ?_|refine zah (f := 114) rfl rfl Tryz.call114 rfl (c2 (by omega)) ?_|refine zah (f := 114) rfl rfl Tryz.call114 rfl (c3 (by omega)) ?_|refine zah (f := 94) rfl rfl Tryz.call94 rfl c4 ?_|fail)
    · rw [u1 (by omega) (by omega)]
      exact congrArg D.s (by simp)
    · rw [u4 (by omega) (by omega) (by omega), if_pos (show 1 < s.length by omega)]
      exact congrArg D.s (by simp)
    · rw [u4 (by omega) (by omega) (by omega), if_neg (show ¬ 1 < s.length by omega)]
      exact congrArg D.s (by simp)
    · rw [u2 (by omega) (by omega) (by omega)]
      exact congrArg D.s (by simp)
    · rw [u3 (by omega) (by omega) (by omega)]
      exact congrArg D.s (by simp)
    · rw [u4 (by omega) (by omega) (by omega), if_pos (show 1 < s.length by omega)]
      exact congrArg D.s (by simp)
    · rw [u4 (by omega) (by omega) (by omega), if_neg (show ¬ 1 < s.length by omega)]
      exact congrArg D.s (by simp)

section
variable {x r ds : List UInt8} {a : UInt8} {i : Nat}
theorem zmQ {l : List UInt8} (h : x.drop i = a :: l) : i < x.length := by
  by_cases hi : i < x.length
  · exact hi
  · rw [List.drop_eq_nil_of_le (by omega)] at h
    cases h
theorem zqI (h : x.drop i = a :: r) : at' x i = (a.toNat : Int) := by
  have hi := zmQ h
  rw [zfI hi] at h
  have := (List.cons.inj h).1
  unfold at'
  rw [Int.toNat_natCast, this]
theorem zbV {c : Int} (h : x.drop i = a :: r) : sat x i c ↔ (a.toNat : Int) = c := by
  unfold sat
  rw [zqI h]
  exact ⟨fun h => h.2, fun h2 => ⟨zmQ h, h2⟩⟩
theorem zbo (h : x.drop i = ds ++ r) : x.drop (i + ds.length) = r := by
  rw [← List.drop_drop, h, List.drop_left]
theorem zdX {p : UInt8 → Bool} : ∀ {ds : List UInt8}, (∀ c ∈ ds, p c = true) → p a = false → (ds ++ a :: r).takeWhile p = ds
  | [], _, h => by simp [h]
  | c :: ds, h, h2 => by
    rw [List.cons_append, List.takeWhile_cons, if_pos (h c (by simp)), zdX (fun c hc => h c (by simp [hc])) h2]
theorem zkY (h : x.drop i = ds ++ a :: r) (hd : ∀ c ∈ ds, isD c = true) (ha : isD a = false) : dgT x i = ds := by
  unfold dgT
  rw [h]
  exact zdX hd ha
theorem zhz {c : UInt8} (h : x.drop i = c :: ds ++ a :: r) (hc : ¬ c = 48) (hd : ∀ b ∈ c :: ds, isD b = true) (ha : isD a = false) : whN x i = (c :: ds, i + (c :: ds).length) := by
  rw [zjS, zkY h hd ha]
  rw [zbV (r := ds ++ a :: r) h]
  exact fun h => hc ((zpf (n := 48) (by omega)).1 h)
theorem zkR (h : x.drop i = 48 :: r) : whN x i = ([48], i + 1) := zjm ((zbV h).2 rfl)
theorem zhy (h : x.drop i = a :: r) (ha : ¬ (a.toNat : Int) = 46) : frN x i = ([], i) := zjN (.inl fun h2 => ha ((zbV h).1 h2))
theorem zgU (h : x.drop i = 46 :: (ds ++ a :: r)) (hd : ∀ b ∈ ds, isD b = true) (ha : isD a = false) (h0 : ¬ ds = []) : frN x i = (ds, i + 1 + ds.length) := by
  have h1 : x.drop (i + 1) = ds ++ a :: r := zbo (ds := [46]) h
  have h2 := zkY h1 hd ha
  rw [zju ((zbV h).2 rfl) (by rw [h2]; exact h0), h2]
theorem zfh {pw : List UInt8 → Int} (h : x.drop i = a :: r) (ha : ¬ (a.toNat : Int) = 101) (hb : ¬ (a.toNat : Int) = 69) : exN pw x i = (0, i) := zfA (.inl fun h2 => by
  rw [zbV h, zbV h] at h2
  omega)
theorem zke (k : Nat) (h : k ≤ 1000000) : powP (Lib.decDigits k) = k := by
  induction k using Nat.strongRecOn with
  | ind k ih =>
    by_cases h2 : k < 10
    · rw [zcH h2]
      have e : powP [UInt8.ofNat (48 + k)] = min (10 * 0 + (((UInt8.ofNat (48 + k)).toNat : Int) - 48)) 1099511627776 := rfl
      rw [e, (zfx h2).2]
      omega
    · rw [zfd h2, ziA, ih (k / 10) (by omega) (by omega), (zfx (by omega)).2]
      omega
theorem zkb {k : Int} (h : x.drop i = 101 :: (Lib.itoa k ++ a :: r)) (ha : isD a = false) (h0 : -1000000 ≤ k) (h1 : k ≤ 1000000) : exN powP x i = (k, i + 1 + (Lib.itoa k).length) := by
  have hs := (zbV (c := 101) h).2 rfl
  have h2 : x.drop (i + 1) = Lib.itoa k ++ a :: r := zbo (ds := [101]) h
  unfold Lib.itoa at h2 ⊢
  by_cases hk : k < 0
  · rw [if_pos hk] at h2 ⊢
    have h3 : x.drop (i + 1 + 1) = Lib.decDigits k.natAbs ++ a :: r := zbo (ds := [45]) h2
    have h45 := (zbV (c := 45) h2).2 rfl
    have hg : sgN x (i + 1) = i + 1 + 1 := if_pos (.inr h45)
    have hd := zkY h3 (zje _) ha
    rw [zhJ (.inl hs) (by
      rw [hg, hd]
      obtain ⟨c, l, hc, _⟩ := zhQ k.natAbs (by omega)
      rw [hc]
      simp), hg, hd, if_pos h45, zke _ (by omega)]
    refine Prod.ext ?_ ?_
    · show -((k.natAbs : Nat) : Int) = k
      omega
    · show i + 1 + 1 + _ = i + 1 + (_ :: _).length
      rw [List.length_cons]
      omega
  · rw [if_neg hk] at h2 ⊢
    have hne : ∃ c l, Lib.decDigits k.toNat = c :: l := by
      by_cases h9 : k.toNat < 10
      · exact ⟨_, [], zcH h9⟩
      · obtain ⟨c, l, hc, _⟩ := zhQ k.toNat (by omega)
        exact ⟨c, l, hc⟩
    have hd := zkY h2 (zje _) ha
    obtain ⟨c, l, hc⟩ := hne
    have hcd := zhj (zje k.toNat c (by rw [hc]; simp))
    have h4 : x.drop (i + 1) = c :: (l ++ a :: r) := by rw [h2, hc]; rfl
    have hg : sgN x (i + 1) = i + 1 := if_neg (by rw [zbV h4, zbV h4]; omega)
    rw [zhJ (.inl hs) (by rw [hg, hd, hc]; simp), hg, hd, if_neg (by rw [zbV h4]; omega), zke _ (by omega)]
    refine Prod.ext ?_ rfl
    show ((k.toNat : Nat) : Int) = k
    omega
theorem zdp {pw : List UInt8 → Int} {g i1 i2 i3 : Nat} {neg : Bool} {w f : List UInt8} {k : Int} {d : Bool × List UInt8 × Int} (hg : sg0 x = g) (hn : decide (sat x 0 45) = neg) (hw : whN x g = (w, i1)) (h0 : ¬ w = []) (hf : frN x i1 = (f, i2))
    (hx : exN pw x i2 = (k, i3)) (hr : normF neg (w ++ f) (k - f.length) = (d, 0)) : parseG pw x = (d, i3, 0) := by
  unfold parseG
  rw [hg, hw]
  dsimp only
  rw [if_neg h0, hf]
  dsimp only
  rw [hx, hn]
  dsimp only
  rw [hr]
  rfl
end
theorem zpH {s : List UInt8} (h : digs s) : ∀ c ∈ s, isD c = true := fun c hc => by
  obtain ⟨i, hi, rfl⟩ := List.getElem_of_mem hc
  have := h i hi
  unfold at' at this
  simp only [Int.toNat_natCast, List.getD_eq_getElem?_getD, List.getElem?_eq_getElem hi, Option.getD_some] at this
  exact zbY.2 this
theorem zlA {neg : Bool} {c : UInt8} {m : List UInt8} {e : Int} (h : RightP neg (c :: m) e) (z t : Nat) (e' : Int) (he : e' + t = e) : normF neg (zs z ++ ((c :: m) ++ zs t)) e' = ((neg, c :: m, e), 0) := by
  have hk := zmq h
  have h0 : ¬ (c :: m).length = 0 := by simp
  have hb := h.bounds
  rw [zaR h0] at h
  have hc : ¬ c = 48 := fun hc => h.2.2.1 (by rw [hc]; rfl)
  have e1 : tR (zs z ++ ((c :: m) ++ zs t)) = zs z ++ (c :: m) := by
    rw [← List.append_assoc, tR_zs]
    refine zmS fun d q hq => ?_
    rcases zcM (c :: m) with h2 | ⟨q2, w, h2⟩
    · simp at h2
    · rw [h2, ← List.append_assoc] at hq
      have := List.append_inj_right' hq rfl
      have := (List.cons.inj this).1
      rw [← this]
      exact hk w q2 h2
  unfold normF
  rw [e1, tL_zs, tL_ne hc, if_neg h0, if_neg (by omega), if_neg (by simp only [List.length_append, List.length_replicate]; omega)]
  simp only [List.length_append, List.length_replicate]
  refine Prod.ext (Prod.ext rfl (Prod.ext rfl ?_)) rfl
  dsimp only
  omega
theorem zem : isD 32 = false := by decide
abbrev sgL (neg : Bool) : List UInt8 := if neg = true then [45] else []
theorem zmC (neg : Bool) {c : UInt8} {r : List UInt8} (hc : isD c = true) : sg0 (sgL neg ++ c :: r) = (sgL neg).length ∧ decide (sat (sgL neg ++ c :: r) 0 45) = neg ∧ (sgL neg ++ c :: r).drop (sgL neg).length = c :: r := by
  have hc := zhj hc
  refine ⟨?_, ?_, List.drop_left⟩
  · cases neg with
    | true =>
      unfold sg0
      rw [if_pos]
      · rfl
      · exact (zbV (a := 45) (r := c :: r) rfl).2 rfl
    | false =>
      unfold sg0
      rw [if_neg]
      · rfl
      · show ¬ sat (c :: r) 0 45
        rw [zbV (a := c) (r := r) rfl]
        omega
  · cases neg with
    | true =>
      exact decide_eq_true ((zbV (a := 45) (r := c :: r) rfl).2 rfl)
    | false =>
      refine decide_eq_false ?_
      show ¬ sat (c :: r) 0 45
      rw [zbV (a := c) (r := r) rfl]
      omega
theorem zjl (neg : Bool) (s : List UInt8) (e : Int) (h : RightP neg s e) (h0 : ¬ s.length = 0) (b : List UInt8) :
    parseG powP (sgL neg ++ (textU s e ++ 32 :: b)) = ((neg, s, e), (sgL neg ++ textU s e).length, 0) := by
  match s, h0 with
  | [], h0 => exact absurd rfl h0
  | c :: m, h0 =>
  have hb := h.bounds
  have hd := zpH hb.2.2.2
  have hr := zlA h
  have hR := h
  rw [zaR h0] at hR
  have hc : ¬ c = 48 := fun hc => hR.2.2.1 (by rw [hc]; rfl)
  have hc0 := hd c (by simp)
  clear hR
  by_cases k1 : 0 ≤ e ∧ (c :: m).length + e ≤ 21
  · rw [zow k1.1 k1.2]
    obtain ⟨g1, g2, g3⟩ := zmC neg (c := c) (r := m ++ zs e.toNat ++ 32 :: b) hc0
    have ex : sgL neg ++ ((c :: m) ++ zs e.toNat ++ 32 :: b) = sgL neg ++ c :: (m ++ zs e.toNat ++ 32 :: b) := by simp
    rw [ex]
    generalize sgL neg ++ c :: (m ++ zs e.toNat ++ 32 :: b) = x at *
    have hdz : ∀ b ∈ c :: (m ++ zs e.toNat), isD b = true := fun b hb => by
      rw [← List.cons_append] at hb
      rcases List.mem_append.1 hb with hb | hb
      · exact hd b hb
      · rw [List.eq_of_mem_replicate hb]
        rfl
    have g3 : x.drop (sgL neg).length = c :: (m ++ zs e.toNat) ++ 32 :: b := by rw [g3]; simp
    have w1 := zhz g3 hc hdz zem
    have d2 := zbo g3
    have f1 := zhy d2 (by decide)
    have x1 := zfh (pw := powP) d2 (by decide) (by decide)
    have r1 := hr 0 e.toNat 0 (by omega)
    have e2 : (sgL neg ++ ((c :: m) ++ zs e.toNat)).length = (sgL neg).length + (c :: (m ++ zs e.toNat)).length := by simp
    rw [e2]
    refine zdp g1 g2 w1 (by simp) f1 x1 ?_
    simpa using r1
  · by_cases k2 : 1 ≤ (c :: m).length + e ∧ (c :: m).length + e < (c :: m).length
    · rw [zmN k1 k2.1 k2.2]
      obtain ⟨p, hp⟩ : ∃ p : Nat, ((c :: m).length + e).toNat = p + 1 := ⟨((c :: m).length + e).toNat - 1, by omega⟩
      rw [hp, List.take_succ_cons, List.drop_succ_cons]
      obtain ⟨g1, g2, g3⟩ := zmC neg (c := c) (r := m.take p ++ 46 :: (m.drop p ++ 32 :: b)) hc0
      have ex : sgL neg ++ (c :: m.take p ++ [46] ++ m.drop p ++ 32 :: b) = sgL neg ++ c :: (m.take p ++ 46 :: (m.drop p ++ 32 :: b)) := by simp
      rw [ex]
      generalize sgL neg ++ c :: (m.take p ++ 46 :: (m.drop p ++ 32 :: b)) = x at *
      have hd1 : ∀ b ∈ c :: m.take p, isD b = true := fun b hb => hd b (by
        rcases List.mem_cons.1 hb with rfl | hb
        · simp
        · exact List.mem_cons_of_mem _ (List.mem_of_mem_take hb))
      have hd2 : ∀ b ∈ m.drop p, isD b = true := fun b hb => hd b (List.mem_cons_of_mem _ (List.mem_of_mem_drop hb))
      have hlm : p < m.length := by simp only [List.length_cons] at k2 hp; omega
      have hne : ¬ m.drop p = [] := fun h => by
        have := congrArg List.length h
        simp at this
        omega
      have g3 : x.drop (sgL neg).length = c :: m.take p ++ 46 :: (m.drop p ++ 32 :: b) := by rw [g3]; simp
      have w1 := zhz g3 hc hd1 (by decide)
      have d2 := zbo g3
      have f1 := zgU d2 hd2 zem hne
      have d3 : x.drop ((sgL neg).length + (c :: m.take p).length + 1 + (m.drop p).length) = 32 :: b := zbo (zbo (ds := [46]) d2)
      have x1 := zfh (pw := powP) d3 (by decide) (by decide)
      have r1 := hr 0 0 (0 - ((m.drop p).length : Int)) (by simp only [List.length_drop, List.length_cons] at *; omega)
      have e2 : (sgL neg ++ (c :: m.take p ++ [46] ++ m.drop p)).length = (sgL neg).length + (c :: m.take p).length + 1 + (m.drop p).length := by
        simp only [List.length_append, List.length_cons, List.length_nil]
        omega
      rw [e2]
      refine zdp g1 g2 w1 (by simp) f1 x1 ?_
      have e3 : c :: m.take p ++ m.drop p = zs 0 ++ ((c :: m) ++ zs 0) := by simp
      rw [e3]
      exact r1
    · by_cases k3 : -6 ≤ (c :: m).length + e ∧ (c :: m).length + e ≤ 0
      · rw [zmy k1 k3.1 k3.2]
        generalize hz : (-((c :: m).length + e)).toNat = z
        obtain ⟨g1, g2, g3⟩ := zmC neg (c := 48) (r := 46 :: ((zs z ++ (c :: m)) ++ 32 :: b)) (by decide)
        have ex : sgL neg ++ ([48, 46] ++ zs z ++ (c :: m) ++ 32 :: b) = sgL neg ++ 48 :: 46 :: ((zs z ++ (c :: m)) ++ 32 :: b) := by simp
        rw [ex]
        generalize sgL neg ++ 48 :: 46 :: ((zs z ++ (c :: m)) ++ 32 :: b) = x at *
        have hd1 : ∀ b ∈ zs z ++ (c :: m), isD b = true := fun b hb => by
          rcases List.mem_append.1 hb with hb | hb
          · rw [List.eq_of_mem_replicate hb]
            rfl
          · exact hd b hb
        have w1 := zkR g3
        have d2 : x.drop ((sgL neg).length + 1) = 46 :: ((zs z ++ (c :: m)) ++ 32 :: b) := zbo (ds := [48]) g3
        have f1 := zgU d2 hd1 zem (by simp)
        have d3 : x.drop ((sgL neg).length + 1 + 1 + (zs z ++ (c :: m)).length) = 32 :: b := zbo (zbo (ds := [46]) d2)
        have x1 := zfh (pw := powP) d3 (by decide) (by decide)
        have r1 := hr (z + 1) 0 (0 - ((zs z ++ (c :: m)).length : Int)) (by simp only [List.length_append, List.length_replicate]; omega)
        have e2 : (sgL neg ++ ([48, 46] ++ zs z ++ (c :: m))).length = (sgL neg).length + 1 + 1 + (zs z ++ (c :: m)).length := by
          simp only [List.length_append, List.length_cons, List.length_nil]
          omega
        rw [e2]
        refine zdp g1 g2 w1 (by simp) f1 x1 ?_
        have e3 : [48] ++ (zs z ++ (c :: m)) = zs (z + 1) ++ ((c :: m) ++ zs 0) := by simp [List.replicate_succ]
        rw [e3]
        exact r1
      · rw [zmP k1 k2 k3]
        have q0 : -1000000 ≤ ((c :: m).length : Int) + e - 1 := by omega
        have q1 : ((c :: m).length : Int) + e - 1 ≤ 1000000 := by omega
        have hI : ((c :: m).length : Int) + e - 1 - m.length = e := by simp only [List.length_cons]; omega
        generalize ((c :: m).length : Int) + e - 1 = k at *
        match m with
        | [] =>
          have ex : sgL neg ++ ([c].take 1 ++ (if 1 < [c].length then [46] ++ [c].drop 1 else []) ++ [101] ++ Lib.itoa k ++ 32 :: b) = sgL neg ++ c :: 101 :: (Lib.itoa k ++ 32 :: b) := by simp
          obtain ⟨g1, g2, g3⟩ := zmC neg (c := c) (r := 101 :: (Lib.itoa k ++ 32 :: b)) hc0
          rw [ex]
          generalize sgL neg ++ c :: 101 :: (Lib.itoa k ++ 32 :: b) = x at *
          have w1 := zhz (ds := []) g3 hc hd (by decide)
          have d2 : x.drop ((sgL neg).length + [c].length) = 101 :: (Lib.itoa k ++ 32 :: b) := zbo (ds := [c]) g3
          have f1 := zhy d2 (by decide)
          have x1 := zkb d2 zem q0 q1
          have r1 := hr 0 0 (k - 0) (by simp at hI ⊢; omega)
          have e2 : (sgL neg ++ ([c].take 1 ++ (if 1 < [c].length then [46] ++ [c].drop 1 else []) ++ [101] ++ Lib.itoa k)).length = (sgL neg).length + [c].length + 1 + (Lib.itoa k).length := by
            simp
            omega
          rw [e2]
          refine zdp g1 g2 w1 (by simp) f1 x1 ?_
          simpa using r1
        | d :: m =>
          have hdd := zhj (hd d (by simp))
          have ex : sgL neg ++ ((c :: d :: m).take 1 ++ (if 1 < (c :: d :: m).length then [46] ++ (c :: d :: m).drop 1 else []) ++ [101] ++ Lib.itoa k ++ 32 :: b) = sgL neg ++ c :: 46 :: ((d :: m) ++ 101 :: (Lib.itoa k ++ 32 :: b)) := by simp
          obtain ⟨g1, g2, g3⟩ := zmC neg (c := c) (r := 46 :: ((d :: m) ++ 101 :: (Lib.itoa k ++ 32 :: b))) hc0
          rw [ex]
          generalize sgL neg ++ c :: 46 :: ((d :: m) ++ 101 :: (Lib.itoa k ++ 32 :: b)) = x at *
          have hd1 : ∀ b ∈ d :: m, isD b = true := fun b hb => hd b (List.mem_cons_of_mem _ hb)
          have w1 := zhz (ds := []) g3 hc (fun b hb => hd b (by rw [List.mem_singleton.1 hb]; simp)) (by decide)
          have d2 : x.drop ((sgL neg).length + [c].length) = 46 :: ((d :: m) ++ 101 :: (Lib.itoa k ++ 32 :: b)) := zbo (ds := [c]) g3
          have f1 := zgU d2 hd1 (by decide) (by simp)
          have d3 : x.drop ((sgL neg).length + [c].length + 1 + (d :: m).length) = 101 :: (Lib.itoa k ++ 32 :: b) := zbo (zbo (ds := [46]) d2)
          have x1 := zkb d3 zem q0 q1
          have r1 := hr 0 0 (k - ((d :: m).length : Int)) (by omega)
          have e2 : (sgL neg ++ ((c :: d :: m).take 1 ++ (if 1 < (c :: d :: m).length then [46] ++ (c :: d :: m).drop 1 else []) ++ [101] ++ Lib.itoa k)).length = (sgL neg).length + [c].length + 1 + (d :: m).length + 1 + (Lib.itoa k).length := by
            simp
            omega
          rw [e2]
          refine zdp g1 g2 w1 (by simp) f1 x1 ?_
          have e3 : [c] ++ (d :: m) = zs 0 ++ ((c :: d :: m) ++ zs 0) := by simp
          rw [e3]
          exact r1
theorem zlw (neg : Bool) (s : List UInt8) (e : Int) (h : RightP neg s e) (b : List UInt8) : parseG powP (textF neg s e ++ 32 :: b) = ((neg, s, e), (textF neg s e).length, 0) := by
  unfold textF
  rw [if_neg (fun h2 => h2 h)]
  by_cases h0 : s.length = 0
  · rw [if_pos h0]
    obtain ⟨rfl, rfl⟩ := (zdm h0).1 h
    obtain rfl := zjo h0
    have d0 : ([48] ++ 32 :: b).drop 0 = 48 :: 32 :: b := rfl
    have w1 := zkR d0
    have d1 : ([48] ++ 32 :: b).drop (0 + 1) = 32 :: b := rfl
    exact zdp (neg := false) (by unfold sg0; rw [if_neg (by rw [zbV d0]; decide)]) (decide_eq_false (by rw [zbV d0]; decide)) w1 (by simp) (zhy d1 (by decide)) (zfh d1 (by decide) (by decide)) (zix false _)
  · rw [if_neg h0, List.append_assoc]
    exact zjl neg s e h h0 b

mutual
def textJ : J → List UInt8
  | .mk k y n d e t l ks => if k = 0 then nullW else if k = 1 then (if y = true then trueW else falseW) else if k = 2 then textF n d e else if k = 3 then quoteL t
    else if k = 4 then [91] ++ partsT false true l ks ++ [93] else [123] ++ partsT (decide (k = 5)) true l ks ++ [125]
def partsT (mp : Bool) : Bool → List J → List (List UInt8) → List UInt8
  | _, [], _ => []
  | first, x :: r, ks => aheadT mp first ks ++ textJ x ++ partsT mp false r ks.tail
end
theorem zqK : endsNum 32 := by decide
theorem znY (neg : Bool) (s : List UInt8) (e : Int) (h : RightP neg s e) (b : List UInt8) (hb : b = [] ∨ ∃ a r, b = a :: r ∧ endsNum a) : parseG powP (textF neg s e ++ b) = ((neg, s, e), (textF neg s e).length, 0) := by
  have h1 := zlw neg s e h []
  rw [ziB zqK] at h1
  rcases hb with rfl | ⟨a, r, rfl, ha⟩
  · rw [List.append_nil]
    exact h1
  · rw [ziB ha]
    exact h1

theorem zjD {pw : List UInt8 → Int} {s : List UInt8} (h : (parseG pw s).2.2 = 0) : ∃ c r, s = c :: r ∧ (c = 45 ∨ isD c = true) := by
  by_cases h45 : sat s 0 45
  · match s, h45 with
    | c :: r, h45 => exact ⟨c, r, rfl, .inl (by
        have : ((c.toNat : Nat) : Int) = 45 := h45.2
        exact UInt8.toNat_inj.1 (by show c.toNat = 45; omega))⟩
    | [], h45 => exact absurd h45.1 (Nat.lt_irrefl _)
  · have e0 : sg0 s = 0 := if_neg h45
    have hw : ¬ (whN s 0).1 = [] := fun q => by
      unfold parseG at h
      rw [e0, if_pos q] at h
      cases h
    match s, hw with
    | [], hw => exact absurd rfl hw
    | c :: r, hw =>
      refine ⟨c, r, rfl, .inr ?_⟩
      cases hc : isD c with
      | true => rfl
      | false =>
        exfalso
        apply hw
        unfold whN
        rw [if_neg (fun q => zqn hc q.2)]
        show dgT (c :: r) 0 = []
        unfold dgT
        rw [List.drop_zero, List.takeWhile_cons, hc]
        rfl
theorem znB {neg : Bool} {s : List UInt8} {e : Int} (h : RightP neg s e) : ∃ c r, textF neg s e = c :: r ∧ (c = 45 ∨ isD c = true) := by
  have := znY neg s e h [] (.inl rfl)
  rw [List.append_nil] at this
  exact zjD (by rw [this])
def begins (c : UInt8) : Prop := c = 110 ∨ c = 116 ∨ c = 102 ∨ c = 34 ∨ c = 91 ∨ c = 123 ∨ c = 45 ∨ isD c = true
theorem zgQ {neg : Bool} {s : List UInt8} {e : Int} (h : rightB neg s e = true) : RightP neg s e := of_decide_eq_true h
theorem zmt {d : Nat} {x : J} (h : rightJ d x = true) : ∃ c r, textJ x = c :: r ∧ begins c := by
  cases d with
  | zero => cases h
  | succ d =>
    obtain ⟨k, y, n, dg, e, t, l, ks⟩ := x
    rw [zhu] at h
    rw [textJ]
    by_cases k0 : k = 0
    · subst k0
      exact ⟨110, [117, 108, 108], rfl, .inl rfl⟩
    rw [if_neg k0]
    by_cases k1 : k = 1
    · subst k1
      rw [if_pos rfl]
      cases y with
      | true => exact ⟨116, [114, 117, 101], rfl, .inr (.inl rfl)⟩
      | false => exact ⟨102, [97, 108, 115, 101], rfl, .inr (.inr (.inl rfl))⟩
    rw [if_neg k1]
    rw [if_neg (fun q => q.elim k0 k1)] at h
    by_cases k2 : k = 2
    · subst k2
      rw [if_pos rfl] at h ⊢
      obtain ⟨c, r, h1, h2⟩ := znB (zgQ h)
      exact ⟨c, r, h1, h2.elim (fun q => by rw [q]; exact .inr (.inr (.inr (.inr (.inr (.inr (.inl rfl))))))) fun q => .inr (.inr (.inr (.inr (.inr (.inr (.inr q))))))⟩
    rw [if_neg k2] at h ⊢
    by_cases k3 : k = 3
    · subst k3
      rw [if_pos rfl] at h ⊢
      obtain ⟨r, h1⟩ := zjG h
      exact ⟨34, r, h1, .inr (.inr (.inr (.inl rfl)))⟩
    rw [if_neg k3]
    by_cases k4 : k = 4
    · subst k4
      exact ⟨91, _, rfl, .inr (.inr (.inr (.inr (.inl rfl))))⟩
    rw [if_neg k4]
    exact ⟨123, _, rfl, .inr (.inr (.inr (.inr (.inr (.inl rfl)))))⟩

theorem znv {s : List UInt8} (hd : ∀ c ∈ s, isD c = true) (n : Nat) : ∀ c ∈ s ++ zs n, isD c = true := fun c hc => by
  rcases List.mem_append.1 hc with hc | hc
  · exact hd c hc
  · rw [List.eq_of_mem_replicate hc]
    rfl
theorem zkn {s : List UInt8} (h : digs s) : ∀ c ∈ s, isD c = true := fun c hc => by
  obtain ⟨i, hi, rfl⟩ := List.getElem_of_mem hc
  have := h i hi
  unfold at' at this
  simp only [Int.toNat_natCast, List.getD_eq_getElem?_getD, List.getElem?_eq_getElem hi, Option.getD_some] at this
  exact zbY.2 this
theorem zkd {ds : List UInt8} (hd : ∀ c ∈ ds, isD c = true) {i : Nat} (h : i < ds.length) : ((numL (ds.take (i + 1)) : Nat) : Int) = 10 * (numL (ds.take i) : Nat) + (at' ds i - 48) ∧ 48 ≤ at' ds i ∧ at' ds i ≤ 57 := by
  have hm : ds.getD i 0 ∈ ds := by
    simp only [List.getD_eq_getElem?_getD, List.getElem?_eq_getElem h, Option.getD_some]
    exact List.getElem_mem h
  have h1 := zbY.1 (hd _ hm)
  refine ⟨?_, h1⟩
  rw [zfZ ds i h, zon]
  show _ = 10 * _ + (((ds.getD i 0).toNat : Int) - 48)
  omega
theorem zqk {ds : List UInt8} (hd : ∀ c ∈ ds, isD c = true) (hl : ds.length ≤ 19) (i : Nat) : ((numL (ds.take i) : Nat) : Int) < 10000000000000000000 := by
  have h1 := zoC (ds.take i) fun c hc => hd c (List.mem_of_mem_take hc)
  have h2 : 10 ^ (ds.take i).length ≤ 10 ^ 19 := Nat.pow_le_pow_right (by decide) (by rw [List.length_take]; omega)
  omega
theorem zkD {neg : Bool} {s : List UInt8} {e : Int} (h : ¬ RightP neg s e ∨ e < 0 ∨ 19 < s.length + e) : intF neg s e = (0, false) := if_pos h
theorem zqE {neg : Bool} {s : List UInt8} {e : Int} (h : ¬ (¬ RightP neg s e ∨ e < 0 ∨ 19 < s.length + e)) (h2 : 4611686018427387904 < ((numL (s ++ zs e.toNat) : Nat) : Int)) : intF neg s e = (0, false) := by
  unfold intF
  rw [if_neg h, if_pos (by omega)]
theorem zqf {neg : Bool} {s : List UInt8} {e : Int} (h : ¬ (¬ RightP neg s e ∨ e < 0 ∨ 19 < s.length + e)) (h2 : ¬ 4611686018427387904 < ((numL (s ++ zs e.toNat) : Nat) : Int)) (h3 : neg = true) : intF neg s e = (-((numL (s ++ zs e.toNat) : Nat) : Int), true) := by
  unfold intF
  rw [if_neg h, if_neg (by omega), if_pos h3]
theorem zqs {neg : Bool} {s : List UInt8} {e : Int} (h : ¬ (¬ RightP neg s e ∨ e < 0 ∨ 19 < s.length + e)) (h2 : ¬ 4611686018427387904 < ((numL (s ++ zs e.toNat) : Nat) : Int)) (h3 : ¬ neg = true) : intF neg s e = (((numL (s ++ zs e.toNat) : Nat) : Int), true) := by
  unfold intF
  rw [if_neg h, if_neg (by omega), if_neg h3]
theorem zrp (neg : Bool) (s : List UInt8) (e : Int) (hs : s.length ≤ 1048576) (h : ¬ RightP neg s e) : Ctr Tryz.prog 83 [dcD neg s e] (.tu [.i .i64 0, .b false]) := by
  have c1 := zcz neg s e (by omega)
  rw [zeN h] at c1
  refine zay Tryz.func83 rfl Tryz.ntmps83 Tryz.results83 rfl rfl fun X hL hX => ?_
  repeat' (first |with_reducible (first |refine zag ?_|refine zaa ?_|refine zaf ?_|refine zad ?_|refine zaj ?_|refine zal ?_)|refine zab rfl rfl True.intro ?_|refine zau rfl rfl rfl ?_|refine zas rfl ?_|((first |refine zab rfl rfl ?_ ?_|refine zao rfl rfl ?_ ?_);focus (first |exact le_ rfl|((repeat' refine And.intro ?_ ?_)<;>omega)|((repeat' refine And.intro ?_ ?_)<;>first |rfl)))|refine zaw rfl ?_|refine zah (f := 113) rfl rfl Tryz.call113 rfl c1 ?_|fail)
  all_goals rfl
theorem zpE (neg : Bool) (s : List UInt8) (e : Int) (hs : s.length ≤ 1048576) (h : ¬ RightP neg s e) : Ctr Tryz.prog 30 [dcD neg s e] (.tu [.i .i64 0, .b false]) := by
  have c1 := zgB neg s e (by omega)
  rw [zeN h] at c1
  refine zay Tryz.func30 rfl Tryz.ntmps30 Tryz.results30 rfl rfl fun X hL hX => ?_
  repeat' (first |with_reducible (first |refine zag ?_|refine zaa ?_|refine zaf ?_|refine zad ?_|refine zaj ?_|refine zal ?_)|refine zab rfl rfl True.intro ?_|refine zau rfl rfl rfl ?_|refine zas rfl ?_|((first |refine zab rfl rfl ?_ ?_|refine zao rfl rfl ?_ ?_);focus (first |exact le_ rfl|((repeat' refine And.intro ?_ ?_)<;>omega)|((repeat' refine And.intro ?_ ?_)<;>first |rfl)))|refine zaw rfl ?_|refine zah (f := 59) rfl rfl Tryz.call59 rfl c1 ?_|fail)
  all_goals rfl
set_option maxHeartbeats 1000000 in
theorem zrs (neg : Bool) (s : List UInt8) (e : Int) (hs : s.length ≤ 1048576) : Ctr Tryz.prog 83 [dcD neg s e] (.tu [.i .i64 (intF neg s e).1, .b (intF neg s e).2]) := by
  by_cases h : RightP neg s e
  case neg =>
    rw [zkD (.inl h)]
    exact zrp neg s e hs h
  obtain ⟨b1, b2, b3, b4⟩ := h.bounds
  have c1 := zcz neg s e (by omega)
  rw [zcy.2 h] at c1
  have c2 := fun h0 => zjg e h0 (by omega)
  have hds := znv (zkn b4) e.toNat
  have hlen : (s ++ zs e.toNat).length = s.length + e.toNat := by simp
  have I1 : (e < 0 ∨ 19 < s.length + e) → intF neg s e = (0, false) := fun h2 => zkD (.inr h2)
  have hno : ¬ (e < 0 ∨ 19 < s.length + e) → ¬ (¬ RightP neg s e ∨ e < 0 ∨ 19 < s.length + e) := fun h2 h3 => h3.elim (fun h4 => h4 h) h2
  have I2 := fun h2 => zqE (neg := neg) (s := s) (e := e) (hno h2)
  have I3 := fun h2 => zqf (neg := neg) (s := s) (e := e) (hno h2)
  have I4 := fun h2 => zqs (neg := neg) (s := s) (e := e) (hno h2)
  clear h hno b4
  generalize intF neg s e = R at *
  have lz : (zs e.toNat).length = e.toNat := by simp
  refine zay Tryz.func83 rfl Tryz.ntmps83 Tryz.results83 rfl rfl fun X hL hX => ?_
  repeat' (first |with_reducible (first |refine zag ?_|refine zaa ?_|refine zaf ?_|refine zad ?_|refine zaj ?_|refine zai ?_|refine zae ?_|refine zal ?_|refine zaD ?_)|refine zab rfl rfl True.intro ?_|refine zau rfl rfl rfl ?_|refine zam rfl rfl rfl rfl True.intro ?_|refine zas rfl ?_|((first |refine zac rfl ?_ ?_|refine zan rfl rfl ?_ ?_|refine zaF rfl rfl ?_ ?_)<;>intro<;>try (first |(rename_i hz;exact tf_ hz)))|((first |refine zab rfl rfl ?_ ?_|refine zam rfl rfl rfl rfl ?_ ?_|refine zao rfl rfl ?_ ?_);focus (first |(rw [lz];omega)|omega|exact le_ rfl|((repeat' refine And.intro ?_ ?_)<;>omega)|((repeat' refine And.intro ?_ ?_)<;>first |rfl)))|with_reducible refine ⟨by kernel_rfl, ?_⟩|refine zaw rfl ?_|refine zah (f := 113) rfl rfl Tryz.call113 rfl c1 ?_|refine zah (f := 114) rfl rfl Tryz.call114 rfl (c2 (by omega)) ?_|refine zrF rfl rfl rfl rfl ?_|fail)
  · rw [I1 (by omega)]
  · rw [I1 (by omega)]
  rename_i h1 h2
  replace I2 := I2 (by omega)
  replace I3 := I3 (by omega)
  replace I4 := I4 (by omega)
  have hl19 : (s ++ zs e.toNat).length ≤ 19 := by omega
  have hnum := zqk hds hl19
  have htake := fun i h => zkd hds (i := i) h
  clear I1 c1 c2 hds
  generalize s ++ zs e.toNat = ds at *
  refine T.loop hL (fun k : Nat => [(1, .pv 1 0), (4, .i .u64 (numL (ds.take k) : Nat)), (30, .pv 30 0)]) (fun k => [(1, .var [.b neg, .s s, .i .i64 e]), (30, .ob (.stringIter ⟨ds.toArray⟩ k))]) (fun k => k ≤ ds.length) (fun k => ds.length - k) 0 (Nat.zero_le _)
    ⟨⟨rfl, rfl, rfl, trivial⟩, ⟨rfl, rfl, trivial⟩, rfl, by rw [hX]; intro k hk; cases hk⟩ ?_
  intro k hk
  by_cases hlt : k < ds.length
  · obtain ⟨e1, e2, e3⟩ := htake k hlt
    have n0 := hnum k
    have n1 := hnum (k + 1)
    rw [e1] at n1
    have ew : IntKind.u64.wrap (IntKind.u64.wrap (10 * ((numL (ds.take k) : Nat) : Int)) + IntKind.u64.wrap (IntKind.i32.wrap (at' ds k - 48))) = ((numL (ds.take (k + 1)) : Nat) : Int) := by
      rw [e1]
      simp only [wi3_, zfV]
      omega
    clear I2 I3 I4 hnum htake
    repeat' (first |with_reducible (first |refine zag ?_|refine zaa ?_|refine zaf ?_|refine zad ?_|refine zai ?_|refine zae ?_|refine zaq ?_)|refine zab rfl rfl True.intro ?_|refine zas rfl ?_|refine zst rfl rfl rfl hlt (by omega) ?_|fail)
    exact ⟨k + 1, by omega, by omega, ⟨rfl, congrArg (D.i .u64) ew, rfl, trivial⟩, ⟨rfl, rfl, trivial⟩, rfl, by rw [hX]; intro k hk; cases hk⟩
  · have hfull : ds.take k = ds := List.take_of_length_le (by omega)
    rw [hfull]
    have n0 := hnum ds.length
    rw [List.take_of_length_le (Nat.le_refl _)] at n0
    clear hnum htake hfull
    generalize numL ds = N at *
    repeat' (first |with_reducible (first |refine zag ?_|refine zaa ?_|refine zaf ?_|refine zad ?_|refine zaj ?_|refine zai ?_|refine zaz ?_|refine zaA ?_|refine zal ?_)|refine zab rfl rfl True.intro ?_|refine zak rfl ?_|((first |refine zac rfl ?_ ?_|refine zmR rfl ?_ ?_)<;>intro)|((first |refine zab rfl rfl ?_ ?_);focus (first |exact le_ rfl|((repeat first |rw [wi6_]);(repeat' refine And.intro ?_ ?_)<;>omega)))|refine zaJ rfl ?_|refine zaw rfl ?_|refine zsl rfl rfl rfl (by omega) ?_|fail)
    · rw [I2 (by omega)]
    · rw [I3 (by omega) ‹_›, wi6_]
      exact congrArg (fun x => D.tu [.i .i64 x, .b true]) (by omega)
    · rw [I4 (by omega) (Bool.eq_false_iff.1 ‹_›), wi6_]
      exact congrArg (fun x => D.tu [.i .i64 x, .b true]) (by omega)
set_option maxHeartbeats 1000000 in
theorem zpL (neg : Bool) (s : List UInt8) (e : Int) (hs : s.length ≤ 1048576) : Ctr Tryz.prog 30 [dcD neg s e] (.tu [.i .i64 (intF neg s e).1, .b (intF neg s e).2]) := by
  by_cases h : RightP neg s e
  case neg =>
    rw [zkD (.inl h)]
    exact zpE neg s e hs h
  obtain ⟨b1, b2, b3, b4⟩ := h.bounds
  have c1 := zgB neg s e (by omega)
  rw [zcy.2 h] at c1
  have hds := znv (zkn b4) e.toNat
  have hlen : (s ++ zs e.toNat).length = s.length + e.toNat := by simp
  have I1 : (e < 0 ∨ 19 < s.length + e) → intF neg s e = (0, false) := fun h2 => zkD (.inr h2)
  have hno : ¬ (e < 0 ∨ 19 < s.length + e) → ¬ (¬ RightP neg s e ∨ e < 0 ∨ 19 < s.length + e) := fun h2 h3 => h3.elim (fun h4 => h4 h) h2
  have I2 := fun h2 => zqE (neg := neg) (s := s) (e := e) (hno h2)
  have I3 := fun h2 => zqf (neg := neg) (s := s) (e := e) (hno h2)
  have I4 := fun h2 => zqs (neg := neg) (s := s) (e := e) (hno h2)
  have hup : ∀ p : Int, s.length + e ≤ p → atF s e p = 0 := fun p h => znH s e p h
  have hat : 0 ≤ e → ∀ i : Nat, i < s.length + e.toNat → atF s e (s.length + e - 1 - i) = at' (s ++ zs e.toNat) i - 48 := fun he i hi => by
    rw [zrl, ← zrY s e.toNat i]
    unfold pad
    rw [if_pos (by rw [hlen]; exact hi)]
  clear h hno b4
  generalize intF neg s e = R at *
  refine zay Tryz.func30 rfl Tryz.ntmps30 Tryz.results30 rfl rfl fun X hL hX => ?_
  repeat' (first |with_reducible (first |refine zag ?_|refine zaa ?_|refine zaf ?_|refine zad ?_|refine zaj ?_|refine zai ?_|refine zae ?_|refine zal ?_)|refine zab rfl rfl True.intro ?_|refine zau rfl rfl rfl ?_|refine zam rfl rfl rfl rfl True.intro ?_|refine zas rfl ?_|((first |refine zac rfl ?_ ?_|refine zan rfl rfl ?_ ?_|refine zaF rfl rfl ?_ ?_)<;>intro<;>try (first |(rename_i hz;exact tf_ hz)))|((first |refine zab rfl rfl ?_ ?_|refine zam rfl rfl rfl rfl ?_ ?_|refine zao rfl rfl ?_ ?_);focus (first |omega|exact le_ rfl|((repeat' refine And.intro ?_ ?_)<;>omega)|((repeat' refine And.intro ?_ ?_)<;>first |rfl)))|refine zaw rfl ?_|refine zah (f := 59) rfl rfl Tryz.call59 rfl c1 ?_|fail)
  · rw [I1 (by omega)]
  · rw [I1 (by omega)]
  rename_i h1 h2
  replace I2 := I2 (by omega)
  replace I3 := I3 (by omega)
  replace I4 := I4 (by omega)
  replace hat := hat (by omega)
  have hl19 : (s ++ zs e.toNat).length ≤ 19 := by omega
  have hnum := zqk hds hl19
  have htake := fun i h => zkd hds (i := i) h
  clear I1 c1 hds
  generalize s ++ zs e.toNat = ds at *
  refine T.loop hL (fun k : Nat => [(1, .pv 1 0), (4, .i .u64 (numL (ds.take (k - (20 - ds.length))) : Nat)), (5, .i .i64 (19 - (k : Int)))]) (fun k => [(1, .var [.b neg, .s s, .i .i64 e])]) (fun k => k ≤ 20) (fun k => 20 - k) 0 (Nat.zero_le _)
    ⟨⟨rfl, by rw [Nat.zero_sub]; rfl, rfl, trivial⟩, ⟨rfl, trivial⟩, rfl, by rw [hX]; intro k hk; cases hk⟩ ?_
  intro k hk
  by_cases hlt : k < 20
  · have ca := zpF neg s e (19 - (k : Int)) (by omega) (by omega) (by omega) (by omega) (by omega)
    have n0 := hnum (k - (20 - ds.length))
    have n1 := hnum (k + 1 - (20 - ds.length))
    have ew : IntKind.u64.wrap (IntKind.u64.wrap (10 * ((numL (ds.take (k - (20 - ds.length))) : Nat) : Int)) + IntKind.u64.wrap (atF s e (19 - (k : Int)))) = ((numL (ds.take (k + 1 - (20 - ds.length))) : Nat) : Int) := by
      by_cases hb : 20 - ds.length ≤ k
      · obtain ⟨e1, e2, e3⟩ := htake (k - (20 - ds.length)) (by omega)
        have ea := hat (k - (20 - ds.length)) (by omega)
        rw [show (s.length : Int) + e - 1 - ((k - (20 - ds.length) : Nat) : Int) = 19 - (k : Int) by omega] at ea
        rw [show k + 1 - (20 - ds.length) = k - (20 - ds.length) + 1 by omega] at n1 ⊢
        rw [e1] at n1 ⊢
        rw [ea]
        simp only [zfV]
        omega
      · rw [hup (19 - (k : Int)) (by omega), show k - (20 - ds.length) = 0 by omega, show k + 1 - (20 - ds.length) = 0 by omega]
        rfl
    have ra : 0 ≤ atF s e (19 - (k : Int)) ∧ atF s e (19 - (k : Int)) ≤ 9 := by
      by_cases hb : 20 - ds.length ≤ k
      · obtain ⟨e1, e2, e3⟩ := htake (k - (20 - ds.length)) (by omega)
        have ea := hat (k - (20 - ds.length)) (by omega)
        rw [show (s.length : Int) + e - 1 - ((k - (20 - ds.length) : Nat) : Int) = 19 - (k : Int) by omega] at ea
        omega
      · have := hup (19 - (k : Int)) (by omega)
        omega
    have hs19 : (19 : Int) - k - 1 = 19 - ((k + 1 : Nat) : Int) := by omega
    clear I2 I3 I4 hnum htake hat hup
    generalize atF s e (19 - (k : Int)) = A at *
    repeat' (first |with_reducible (first |refine zag ?_|refine zaa ?_|refine zaf ?_|refine zad ?_|refine zai ?_|refine zae ?_|refine zaq ?_)|refine zab rfl rfl True.intro ?_|((first |refine zac rfl ?_ ?_)<;>intro<;>try (first |(exfalso;omega)))|((first |refine zab rfl rfl ?_ ?_);focus (first |omega|exact le_ rfl|((repeat' refine And.intro ?_ ?_)<;>omega)))|refine zah (f := 60) rfl rfl Tryz.call60 rfl ca ?_|fail)
    exact ⟨k + 1, by omega, by omega, ⟨rfl, congrArg (D.i .u64) ew, congrArg (D.i .i64) hs19, trivial⟩, ⟨rfl, trivial⟩, rfl, by rw [hX]; intro k hk; cases hk⟩
  · have hfull : ds.take (k - (20 - ds.length)) = ds := List.take_of_length_le (by omega)
    rw [hfull]
    have n0 := hnum ds.length
    rw [List.take_of_length_le (Nat.le_refl _)] at n0
    clear hnum htake hfull hat hup
    generalize numL ds = N at *
    repeat' (first |with_reducible (first |refine zag ?_|refine zaa ?_|refine zaf ?_|refine zad ?_|refine zaj ?_|refine zai ?_|refine zaz ?_|refine zaA ?_|refine zal ?_)|refine zab rfl rfl True.intro ?_|((first |refine zac rfl ?_ ?_|refine zmR rfl ?_ ?_)<;>intro<;>try (first |(exfalso;omega)))|((first |refine zab rfl rfl ?_ ?_);focus (first |exact le_ rfl|((repeat first |rw [wi6_]);(repeat' refine And.intro ?_ ?_)<;>omega)))|refine zaJ rfl ?_|refine zaw rfl ?_|fail)
    · rw [I2 (by omega)]
    · rw [I3 (by omega) ‹_›, wi6_]
      exact congrArg (fun x => D.tu [.i .i64 x, .b true]) (by omega)
    · rw [I4 (by omega) (Bool.eq_false_iff.1 ‹_›), wi6_]
      exact congrArg (fun x => D.tu [.i .i64 x, .b true]) (by omega)
end Go.Proofs.YtcajofhafpkbdaaGreatDoor.Flow
