/- The texts U7, U8, U9, D0, D1, one behind the other. -/
import Derived.Test.YtcajofhafpkbdaaGreatDoorCQ8
import Derived.Test.YtcajofhafpkbdaaGreatDoorCQ9
import Derived.Lib.TrimByte
namespace Go.Proofs.YtcajofhafpkbdaaGreatDoor.Flow
open Go
theorem zdg (s : List UInt8) (hs : s.length ≤ 1099511627776) : Ctr Tryz.prog 69 [.s s] (.b (validL s)) := by
  have c := zlj s hs
  refine zay Tryz.func69 rfl Tryz.ntmps69 Tryz.results69 rfl rfl fun X hL hX => ?_
  repeat' (first |with_reducible (first |refine zag ?_|refine zaa ?_|refine zaf ?_|refine zad ?_|refine zaj ?_)|refine zab rfl rfl True.intro ?_|refine zaw rfl ?_|refine zah (f := 101) rfl rfl Tryz.call101 rfl c ?_|fail)
  rfl
theorem zhq (s : List UInt8) (i lo hi : Int) (h0 : 0 ≤ i) : Ctr Tryz.prog 153 [.s s, .i .i64 i, .i .i64 lo, .i .i64 hi] (.b (tlB s i lo hi)) := by
  have hr := zaG s i
  have e : IntKind.i64.wrap (at' s i) = at' s i := by rw [wi6_]; omega
  have ht : tlB s i lo hi = true ↔ i < s.length ∧ lo ≤ at' s i ∧ at' s i ≤ hi := by
    unfold tlB
    simp [and_assoc]
  generalize tlB s i lo hi = b at ht
  refine zay Tryz.func153 rfl Tryz.ntmps153 Tryz.results153 rfl rfl fun X hL hX => ?_
  repeat' (first |with_reducible (first |refine zag ?_|refine zaa ?_|refine zaf ?_|refine zad ?_|refine zaj ?_)|refine zab rfl rfl True.intro ?_|refine zau rfl rfl rfl ?_|refine zam rfl rfl rfl rfl True.intro ?_|((first |refine zan rfl rfl ?_ ?_)<;>intro)|((first |refine zam rfl rfl rfl rfl ?_ ?_);focus (first |omega|((repeat' refine And.intro ?_ ?_)<;>omega)))|refine zaw rfl ?_|fail)
  all_goals
    rw [e] at *
    congr 1
    rw [Bool.eq_iff_iff, ht]
    simp
    omega
theorem zgS (s : List UInt8) (i : Nat) (k lo hi : Int) (hk : 0 ≤ k) (hi' : i ≤ s.length) : tlB s (i + k) lo hi = tlB (s.drop i) k lo hi := by
  obtain ⟨n, rfl⟩ := Int.eq_ofNat_of_zero_le hk
  unfold tlB
  rw [zfT, List.length_drop, show ((i : Int) + (n : Nat)) = ((i + n : Nat) : Int) by omega]
  congr 2
  rw [Bool.eq_iff_iff]
  simp
  omega
set_option maxHeartbeats 1000000 in
theorem zrd (s : List UInt8) (i : Nat) (h : i < s.length) (hs : s.length ≤ 1099511627776) : Ctr Tryz.prog 128 [.s s, .i .i64 i] (.i .i64 (oneL (s.drop i))) := by
  have hr := zaG s i
  have e0 := zfT s i 0
  rw [Nat.add_zero, show ((0 : Nat) : Int) = 0 from rfl] at e0
  have e : IntKind.i64.wrap (at' s i) = at' (s.drop i) 0 := by rw [wi6_, e0]; omega
  have t1 := zgS s i 1 (loF (at' (s.drop i) 0)) (hiF (at' (s.drop i) 0)) (by omega) (by omega)
  have t2 := zgS s i 2 128 191 (by omega) (by omega)
  have t3 := zgS s i 3 128 191 (by omega) (by omega)
  have d1 := zhq s (i + 1) (loF (at' (s.drop i) 0)) (hiF (at' (s.drop i) 0)) (by omega)
  have d2 := zhq s (i + 2) 128 191 (by omega)
  have d3 := zhq s (i + 3) 128 191 (by omega)
  rw [t1] at d1
  rw [t2] at d2
  rw [t3] at d3
  rw [← e0] at hr
  unfold oneL
  unfold loF hiF at *
  generalize at' (s.drop i) 0 = c at *
  clear t1 t2 t3 e0
  generalize tlB (s.drop i) 2 128 191 = b2 at *
  generalize tlB (s.drop i) 3 128 191 = b3 at *
  generalize hb1 : tlB (s.drop i) 1 (if c = 224 then 160 else if c = 240 then 144 else 128) (if c = 237 then 159 else if c = 244 then 143 else 191) = b1 at *
  clear hb1
  refine zay Tryz.func128 rfl Tryz.ntmps128 Tryz.results128 rfl rfl fun X hL hX => ?_
  repeat' (first |with_reducible (first |refine zag ?_|refine zaa ?_|refine zaf ?_|refine zad ?_|refine zaj ?_|refine zai ?_|refine zal ?_)|refine zab rfl rfl True.intro ?_|refine zau rfl rfl rfl ?_|refine zam rfl rfl rfl rfl True.intro ?_|refine zak rfl ?_|((first |refine zac rfl ?_ ?_|refine zbw rfl ?_ ?_|refine zmR rfl ?_ ?_|refine zan rfl rfl ?_ ?_)<;>intro<;>try (first |(exfalso;omega)))|((first |refine zab rfl rfl ?_ ?_|refine zam rfl rfl rfl rfl ?_ ?_);focus (first |omega|((repeat' refine And.intro ?_ ?_)<;>omega)))|refine zaw rfl ?_|refine zah (f := 153) rfl rfl Tryz.call153 rfl (by first |(repeat (first |rw [if_pos (by omega)] at d1|rw [if_neg (by omega)] at d1));exact d1) ?_|refine zaM (f := 153) rfl rfl rfl rfl Tryz.call153 rfl d2 ?_|refine zaM (f := 153) rfl rfl rfl rfl Tryz.call153 rfl d3 ?_|((with_reducible refine c_grd ?_);(fail_if_success (refine zsb true rfl rfl rfl ?_));(fail_if_success (refine zsb false rfl rfl rfl ?_));refine zrk rfl rfl (fun _ => ?_) (fun _ => ?_))|fail)
  all_goals
    clear d1 d2 d3
    generalize IntKind.i64.wrap (at' s i) = w at *
    subst e
    refine congrArg (D.i .i64) ?_
    (repeat' split) <;> first | rfl | (exfalso; omega) | (exfalso; simp_all; done) | (exfalso; simp_all; omega)
theorem zgp (s : List UInt8) (hs : s.length ≤ 1099511627776) : Ctr Tryz.prog 104 [.s s] (.b (validL s)) := by
  refine zay Tryz.func104 rfl Tryz.ntmps104 Tryz.results104 rfl rfl fun X hL hX => ?_
  repeat' (first |with_reducible (first |refine zag ?_|refine zaa ?_|refine zaf ?_|refine zad ?_|refine zae ?_)|refine zab rfl rfl True.intro ?_|fail)
  refine T.loop hL (fun i : Nat => [(0, .s s), (3, .i .i64 i)]) (fun _ => []) (fun i => i ≤ s.length ∧ validL (s.drop i) = validL s) (fun i => s.length - i) 0
    ⟨Nat.zero_le _, rfl⟩ ⟨⟨rfl, rfl, trivial⟩, trivial, rfl, by rw [hX]; intro k hk; cases hk⟩ ?_
  rintro i ⟨g1, g2⟩
  replace g2 := fun _ : Unit => g2
  have hd : (s.drop i).length = s.length - i := List.length_drop
  by_cases hi : i < s.length
  · have c := zrd s i hi hs
    have hle : oneL (s.drop i) ≤ (s.drop i).length := by
      by_cases hasc : at' (s.drop i) 0 < 128
      · unfold oneL
        rw [if_pos hasc]
        omega
      · rw [zfK hasc]
        (repeat' split) <;> omega
    by_cases ho : oneL (s.drop i) = 0
    · have hv := fun _ : Unit => zgA (l := s.drop i) (by omega) ho
      rw [ho] at c
      repeat' (first |with_reducible (first |refine zag ?_|refine zaa ?_|refine zaf ?_|refine zad ?_|refine zaj ?_|refine zai ?_|refine zae ?_|refine zal ?_|refine zap ?_)|refine zab rfl rfl True.intro ?_|refine zas rfl ?_|((first |refine zac rfl ?_ ?_)<;>intro<;>try (first |(exfalso;omega)))|refine zaw rfl ?_|refine zah (f := 128) rfl rfl Tryz.call128 rfl c ?_|fail)
      rw [← g2 (), hv ()]
    · have hv := fun _ : Unit => zdO (l := s.drop i) (by omega) ho
      simp only [List.drop_drop] at hv
      generalize oneL (s.drop i) = k at *
      repeat' (first |with_reducible (first |refine zag ?_|refine zaa ?_|refine zaf ?_|refine zad ?_|refine zai ?_|refine zae ?_|refine zaq ?_)|refine zab rfl rfl True.intro ?_|((first |refine zac rfl ?_ ?_)<;>intro<;>try (first |(exfalso;omega)))|((first |refine zab rfl rfl ?_ ?_);focus (first |omega|((repeat' refine And.intro ?_ ?_)<;>omega)))|refine zah (f := 128) rfl rfl Tryz.call128 rfl c ?_|fail)
      exact ⟨i + k, ⟨by omega, by rw [← g2 (), hv ()]⟩, by omega, ⟨rfl, rfl, trivial⟩, trivial, rfl, by rw [hX]; intro k hk; cases hk⟩
  · have hv := fun _ : Unit => zgD (l := s.drop i) (by omega)
    repeat' (first |with_reducible (first |refine zag ?_|refine zaa ?_|refine zaf ?_|refine zad ?_|refine zaj ?_|refine zaz ?_|refine zaA ?_)|refine zab rfl rfl True.intro ?_|((first |refine zac rfl ?_ ?_)<;>intro<;>try (first |(exfalso;omega)))|refine zaJ rfl ?_|refine zaw rfl ?_|fail)
    rw [← g2 (), hv ()]
theorem znE (c i : Int) (h0 : 0 ≤ i) (h1 : i < 16) (h : c = (if i < 10 then 48 + i else 87 + i) ∨ c = (if i < 10 then 48 + i else 55 + i)) : hexF c = i := by
  unfold hexF
  split at h <;> (repeat' split) <;> omega
theorem zqH (c : Int) (h : ∀ i : Nat, i < 16 → ¬ c = (if (i : Int) < 10 then 48 + (i : Int) else 87 + i) ∧ ¬ c = (if (i : Int) < 10 then 48 + (i : Int) else 55 + i)) : hexF c = -1 := by
  unfold hexF
  split
  · have := h (c - 48).toNat (by omega)
    rw [if_pos (by omega)] at this
    omega
  · split
    · have := (h (c - 87).toNat (by omega)).1
      rw [if_neg (by omega)] at this
      omega
    · split
      · have := (h (c - 55).toNat (by omega)).2
        rw [if_neg (by omega)] at this
        omega
      · rfl
theorem hexS : ∀ i : Nat, i < 16 → at' ({ data := #[48, 49, 50, 51, 52, 53, 54, 55, 56, 57, 97, 98, 99, 100, 101, 102] } : ByteArray).data.toList i = (if (i : Int) < 10 then 48 + (i : Int) else 87 + i) := by decide
theorem hexL : ∀ i : Nat, i < 16 → at' ({ data := #[48, 49, 50, 51, 52, 53, 54, 55, 56, 57, 65, 66, 67, 68, 69, 70] } : ByteArray).data.toList i = (if (i : Int) < 10 then 48 + (i : Int) else 55 + i) := by decide
theorem zpV (c : Int) : Ctr Tryz.prog 158 [.i .u8 c] (.i .i64 (hexF c)) := by
  refine zay Tryz.func158 rfl Tryz.ntmps158 Tryz.results158 rfl rfl fun X hL hX => ?_
  repeat' (first |with_reducible (first |refine zag ?_|refine zaa ?_|refine zaf ?_|refine zad ?_|refine zae ?_)|refine zab rfl rfl True.intro ?_|fail)
  refine T.loop hL (fun i : Nat => [(0, .i .u8 c), (3, .s ({ data := #[48, 49, 50, 51, 52, 53, 54, 55, 56, 57, 97, 98, 99, 100, 101, 102] } : ByteArray).data.toList), (4, .s ({ data := #[48, 49, 50, 51, 52, 53, 54, 55, 56, 57, 65, 66, 67, 68, 69, 70] } : ByteArray).data.toList), (5, .i .i64 i)]) (fun _ => [])
    (fun i => i ≤ 16 ∧ ∀ j : Nat, j < i → ¬ c = (if (j : Int) < 10 then 48 + (j : Int) else 87 + j) ∧ ¬ c = (if (j : Int) < 10 then 48 + (j : Int) else 55 + j)) (fun i => 16 - i) 0
    ⟨Nat.zero_le _, fun j hj => absurd hj (Nat.not_lt_zero _)⟩ ⟨⟨rfl, rfl, rfl, rfl, trivial⟩, trivial, rfl, by rw [hX]; intro k hk; cases hk⟩ ?_
  rintro i ⟨g1, g2⟩
  have l1 : ({ data := #[48, 49, 50, 51, 52, 53, 54, 55, 56, 57, 97, 98, 99, 100, 101, 102] } : ByteArray).data.toList.length = 16 := rfl
  have l2 : ({ data := #[48, 49, 50, 51, 52, 53, 54, 55, 56, 57, 65, 66, 67, 68, 69, 70] } : ByteArray).data.toList.length = 16 := rfl
  repeat' (first |with_reducible (first |refine zag ?_|refine zaa ?_|refine zaf ?_|refine zad ?_|refine zaj ?_|refine zai ?_|refine zaz ?_|refine zae ?_|refine zaq ?_|refine zaA ?_|refine zal ?_|refine zap ?_)|refine zab rfl rfl True.intro ?_|refine zau rfl rfl rfl ?_|refine zam rfl rfl rfl rfl True.intro ?_|refine zas rfl ?_|((first |refine zac rfl ?_ ?_|refine zan rfl rfl ?_ ?_)<;>intro)|((first |refine zab rfl rfl ?_ ?_|refine zam rfl rfl rfl rfl ?_ ?_);focus (first |omega|((repeat' refine And.intro ?_ ?_)<;>omega)))|refine zaJ rfl ?_|refine zaw rfl ?_|fail)
  · rename_i h1 h2
    rw [hexS i (by omega)] at h2
    rw [znE c i (by omega) (by omega) (.inl h2.symm)]
  · rename_i h1 h2 h3
    rw [hexL i (by omega)] at h3
    rw [znE c i (by omega) (by omega) (.inr h3.symm)]
  · rename_i h1 h2 h3
    rw [hexS i (by omega)] at h2
    rw [hexL i (by omega)] at h3
    refine ⟨i + 1, ⟨by omega, fun j hj => ?_⟩, by omega, ⟨rfl, rfl, rfl, rfl, trivial⟩, trivial, rfl, by rw [hX]; intro k hk; cases hk⟩
    by_cases hji : j = i
    · subst hji
      exact ⟨fun h => h2 h.symm, fun h => h3 h.symm⟩
    · exact g2 j (by omega)
  · rw [zqH c (fun j hj => g2 j (by omega))]

def escV (c : Int) : Int := if c = 98 then 8 else if c = 102 then 12 else if c = 110 then 10 else if c = 114 then 13 else if c = 116 then 9 else c
def escE (c : Int) : Int := if c = 98 ∨ c = 102 ∨ c = 110 ∨ c = 114 ∨ c = 116 ∨ c = 34 ∨ c = 92 ∨ c = 47 then 0 else 3
def escP (s : List UInt8) (i : Int) (o : List UInt8) : Int × List UInt8 × Int :=
  if i < s.length then (if at' s i = 117 then codeP s (i + 1) o else (i + 1, o ++ [by8 (escV (at' s i))], escE (at' s i))) else (i, o ++ [0], 2)
theorem zhg {s : List UInt8} {i : Int} {o : List UInt8} {e e' c c' : Int} {ow : Ow} {g : Nat → List D} (hc : c = c') (h0 : 0 ≤ c') (h1 : c' < 256) (he : e = e') (hg : g 0 = [.i .u8 c])
    (h20 : look 20 ow = some (.var [.s s, .i .i64 i, .gs 200 1 (o.length + 1) (catF o.length (bytesF o) 1 g), .i .i64 e])) (h200 : look 200 ow = some (.row 5 1 (o.length + 1))) : leOw ow (rdl s i (o ++ [by8 c']) e') := by
  subst hc
  subst he
  refine ⟨?_, ?_, trivial⟩
  · rw [h20, zjV 200 o (by8 c) g (by rw [hg, zcn c h0 h1])]
    rfl
  · rw [h200]
    simp
theorem zrB (s : List UInt8) (i : Int) (o : List UInt8) (hs : s.length ≤ 1099511627776) (h0 : 0 ≤ i) (h1 : i ≤ s.length) (ho : o.length ≤ 1099511627776) :
    CtrO Tryz.prog 132 [.pv 20 0] (rdl s i o 0) (.tu []) (rdl s (escP s i o).1 (escP s i o).2.1 (escP s i o).2.2) := by
  have hn := zdD s i o 0 hs h0 h1
  unfold escP
  by_cases hi : i < s.length
  · rw [zbG rfl hi] at hn
    dsimp only at hn
    rw [if_pos hi]
    have hr := zaG s i
    have hcode := zpG s (i + 1) o hs (by omega) (by omega) ho
    have hf := zcv s (i + 1) o 0 3
    by_cases hc : at' s i = 117
    · rw [if_pos hc]
      generalize codeP s (i + 1) o = R at *
      rw [hc] at hn
      refine zaK Tryz.func132 rfl Tryz.ntmps132 Tryz.results132 rfl rfl rfl rfl rfl fun X hL hX => ?_
      repeat' (first |with_reducible (first |refine zag ?_|refine zaa ?_|refine zaf ?_|refine zad ?_|refine zaj ?_|refine zae ?_|refine zal ?_|refine zap ?_)|refine zab rfl rfl True.intro ?_|refine zas rfl ?_|refine zbe rfl rfl ?_|refine zaC (f := 131) 20 200 rfl rfl Tryz.call131 rfl rfl rfl rfl rfl rfl rfl rfl rfl hn ?_|refine zaC (f := 154) 20 200 rfl rfl Tryz.call154 rfl rfl rfl rfl rfl rfl rfl rfl rfl hcode ?_|fail)
      exact ⟨⟨rfl, rfl, trivial⟩⟩
    · rw [if_neg hc]
      clear hcode
      refine zaK Tryz.func132 rfl Tryz.ntmps132 Tryz.results132 rfl rfl rfl rfl rfl fun X hL hX => ?_
      repeat' (first |with_reducible (first |refine zag ?_|refine zaa ?_|refine zaf ?_|refine zad ?_|refine zai ?_|refine zae ?_|refine zaq ?_)|refine zab rfl rfl True.intro ?_|((first |refine zac rfl ?_ ?_)<;>intro<;>try (first |(exfalso;omega)))|((first |refine zab rfl rfl ?_ ?_|refine zao rfl rfl ?_ ?_|refine zar rfl ?_ ?_);focus (first |exact le_ rfl|((repeat' refine And.intro ?_ ?_)<;>omega)|((repeat' refine And.intro ?_ ?_)<;>first |omega|rfl|exact le_ rfl)))|refine zcc rfl rfl ?_|refine zaC (f := 131) 20 200 rfl rfl Tryz.call131 rfl rfl rfl rfl rfl rfl rfl rfl rfl hn ?_|refine zaC (f := 133) 20 200 rfl rfl Tryz.call133 rfl rfl rfl rfl rfl rfl rfl rfl rfl hf ?_|fail)
      all_goals
        unfold escV escE
        refine ⟨zhg (by (repeat' split) <;> omega) (by (repeat' split) <;> omega) (by (repeat' split) <;> omega) (by simp only [failF, if_true]; (repeat' split) <;> first | rfl | (exfalso; omega)) rfl rfl rfl⟩
  · rw [zbs rfl hi] at hn
    dsimp only at hn
    rw [if_neg hi]
    have hf := zcv s i o 2 3
    refine zaK Tryz.func132 rfl Tryz.ntmps132 Tryz.results132 rfl rfl rfl rfl rfl fun X hL hX => ?_
    repeat' (first |with_reducible (first |refine zag ?_|refine zaa ?_|refine zaf ?_|refine zad ?_|refine zae ?_|refine zaq ?_)|refine zab rfl rfl True.intro ?_|refine zak rfl ?_|((first |refine zab rfl rfl ?_ ?_|refine zao rfl rfl ?_ ?_|refine zar rfl ?_ ?_);focus (first |exact le_ rfl|((repeat' refine And.intro ?_ ?_)<;>omega)|((repeat' refine And.intro ?_ ?_)<;>first |omega|rfl|exact le_ rfl)))|refine zcc rfl rfl ?_|refine zaC (f := 131) 20 200 rfl rfl Tryz.call131 rfl rfl rfl rfl rfl rfl rfl rfl rfl hn ?_|refine zaC (f := 133) 20 200 rfl rfl Tryz.call133 rfl rfl rfl rfl rfl rfl rfl rfl rfl hf ?_|fail)
    exact ⟨zhg (c' := 0) rfl (by omega) (by omega) rfl rfl rfl rfl⟩

def unqG (s : List UInt8) : Nat → Int → List UInt8 → List UInt8 × Int × Int
  | 0, _, _ => ([], 0, 2)
  | n + 1, i, o =>
    if i < s.length then
      (if at' s i = 34 then (if validL o = true then (o, i + 1, 0) else ([], 0, 3))
      else if at' s i = 92 then (if (escP s (i + 1) o).2.2 = 0 then unqG s n (escP s (i + 1) o).1 (escP s (i + 1) o).2.1 else ([], 0, (escP s (i + 1) o).2.2))
      else if at' s i < 32 then ([], 0, 3)
      else unqG s n (i + 1) (o ++ [by8 (at' s i)]))
    else ([], 0, 2)
def unqF (s : List UInt8) (i : Int) : List UInt8 × Int × Int :=
  if i < 0 ∨ s.length < i then ([], 0, 8)
  else if (mustF s i 0 34).2 = 0 then unqG s (s.length + 1 - (mustF s i 0 34).1.toNat) (mustF s i 0 34).1 [] else ([], 0, (mustF s i 0 34).2)
section
variable {s : List UInt8} {n : Nat} {i : Int} {o : List UInt8}
theorem zef (h : ¬ i < s.length) : unqG s (n + 1) i o = ([], 0, 2) := by rw [unqG, if_neg h]
theorem zcC (h : i < s.length) (h2 : at' s i = 34) (h3 : validL o = true) : unqG s (n + 1) i o = (o, i + 1, 0) := by rw [unqG, if_pos h, if_pos h2, if_pos h3]
theorem zes (h : i < s.length) (h2 : at' s i = 34) (h3 : validL o = false) : unqG s (n + 1) i o = ([], 0, 3) := by rw [unqG, if_pos h, if_pos h2, if_neg (by rw [h3]; decide)]
theorem zet (h : i < s.length) (h2 : at' s i = 92) : unqG s (n + 1) i o = if (escP s (i + 1) o).2.2 = 0 then unqG s n (escP s (i + 1) o).1 (escP s (i + 1) o).2.1 else ([], 0, (escP s (i + 1) o).2.2) := by
  rw [unqG, if_pos h, if_neg (by omega), if_pos h2]
theorem zeu (h : i < s.length) (h2 : ¬ at' s i = 34) (h3 : ¬ at' s i = 92) (h4 : at' s i < 32) : unqG s (n + 1) i o = ([], 0, 3) := by rw [unqG, if_pos h, if_neg h2, if_neg h3, if_pos h4]
theorem zcY (h : i < s.length) (h2 : ¬ at' s i = 34) (h3 : ¬ at' s i = 92) (h4 : ¬ at' s i < 32) : unqG s (n + 1) i o = unqG s n (i + 1) (o ++ [by8 (at' s i)]) := by rw [unqG, if_pos h, if_neg h2, if_neg h3, if_neg h4]
end
theorem zls (s : List UInt8) (j : Int) (h0 : 0 ≤ j) (h1 : j ≤ s.length) : j ≤ (lowP s j).2.1 ∧ (lowP s j).2.1 ≤ s.length := by
  have q1 := zbB s j 0 92 h0 h1
  have q2 := zbB s (mustF s j 0 92).1 (mustF s j 0 92).2 117 (by omega) (by omega)
  have q3 := zfk s (mustF s (mustF s j 0 92).1 (mustF s j 0 92).2 117).1 (mustF s (mustF s j 0 92).1 (mustF s j 0 92).2 117).2 (by omega) (by omega)
  unfold lowP
  dsimp only
  omega
theorem zjt (s : List UInt8) (i : Int) (o : List UInt8) (h0 : 0 ≤ i) (h1 : i ≤ s.length) : i ≤ (codeP s i o).1 ∧ (codeP s i o).1 ≤ s.length ∧ (codeP s i o).2.1.length ≤ o.length + 4 := by
  have hr := zba s 4 0 i h0 h1 (by omega)
  have hl := zls s (fourG s 4 0 i).2.1 (by omega) (by omega)
  unfold codeP
  have u1 := zgR (pairF (fourG s 4 0 i).1 (lowP s (fourG s 4 0 i).2.1).1)
  have u2 := zgR (fourG s 4 0 i).1
  dsimp only
  (repeat' split) <;> dsimp only <;> (try simp only [List.length_append]) <;> omega
theorem zcG (s : List UInt8) (i : Int) (o : List UInt8) (h0 : 0 ≤ i) (h1 : i ≤ s.length) : i ≤ (escP s i o).1 ∧ (escP s i o).1 ≤ s.length ∧ (escP s i o).2.1.length ≤ o.length + 4 := by
  unfold escP
  split
  · have := zjt s (i + 1) o (by omega) (by omega)
    split
    · omega
    · simp only [List.length_append, List.length_cons, List.length_nil]
      omega
  · simp only [List.length_append, List.length_cons, List.length_nil]
    omega
theorem zfN (s : List UInt8) : ∀ (n m : Nat) (i : Int) (o : List UInt8), 0 ≤ i → i ≤ s.length → (s.length : Int) + 1 ≤ i + n → (s.length : Int) + 1 ≤ i + m → unqG s n i o = unqG s m i o
  | 0, _, i, o, h0, h1, h2, _ => by omega
  | n + 1, 0, i, o, h0, h1, _, h2 => by omega
  | n + 1, m + 1, i, o, h0, h1, h2, h3 => by
    by_cases hi : i < s.length
    · by_cases c34 : at' s i = 34
      · cases hv : validL o with
        | true => rw [zcC hi c34 hv, zcC hi c34 hv]
        | false => rw [zes hi c34 hv, zes hi c34 hv]
      · by_cases c92 : at' s i = 92
        · rw [zet hi c92, zet hi c92]
          have er := zcG s (i + 1) o (by omega) (by omega)
          split
          · exact zfN s n m _ _ (by omega) er.2.1 (by omega) (by omega)
          · rfl
        · by_cases c32 : at' s i < 32
          · rw [zeu hi c34 c92 c32, zeu hi c34 c92 c32]
          · rw [zcY hi c34 c92 c32, zcY hi c34 c92 c32]
            exact zfN s n m _ _ (by omega) (by omega) (by omega) (by omega)
    · rw [zef hi, zef hi]
set_option maxHeartbeats 1000000 in
theorem zrt (s : List UInt8) (i : Int) (hs : s.length ≤ 1048576) : Ctr Tryz.prog 109 [.s s, .i .i64 i] (.tu [.s (unqF s i).1, .i .i64 (unqF s i).2.1, .i .i64 (unqF s i).2.2]) := by
  by_cases hb : i < 0 ∨ s.length < i
  · unfold unqF
    rw [if_pos hb]
    refine zay Tryz.func109 rfl Tryz.ntmps109 Tryz.results109 rfl rfl fun X hL hX => ?_
    repeat' (first |with_reducible (first |refine zag ?_|refine zaa ?_|refine zaf ?_|refine zad ?_|refine zaj ?_|refine zal ?_)|refine zab rfl rfl True.intro ?_|refine zau rfl rfl rfl ?_|refine zam rfl rfl rfl rfl True.intro ?_|refine zas rfl ?_|((first |refine zac rfl ?_ ?_|refine zan rfl rfl ?_ ?_)<;>intro<;>try (first |(exfalso;omega)))|refine zaw rfl ?_|fail)
    all_goals rfl
  · have h0 : 0 ≤ i := by omega
    have h1 : i ≤ s.length := by omega
    generalize hR : unqF s i = R
    unfold unqF at hR
    rw [if_neg hb] at hR
    have hm := zhE s i [] 0 34 (by omega) h0 h1
    have hmr := zbB s i 0 34 h0 h1
    generalize mustF s i 0 34 = m at hm hmr hR
    obtain ⟨j, e⟩ := m
    dsimp only at hm hmr hR
    refine zay Tryz.func109 rfl Tryz.ntmps109 Tryz.results109 rfl rfl fun X hL hX => ?_
    replace hR := fun _ : Unit => hR
    repeat' (first |refine T.adoptV 20 2 200 5 1 _ (bytesF []) rfl rfl rfl ?_|with_reducible (first |refine zag ?_|refine zaa ?_|refine zaf ?_|refine zad ?_|refine zai ?_|refine zae ?_)|refine zab rfl rfl True.intro ?_|refine zam rfl rfl rfl rfl True.intro ?_|((first |refine zac rfl ?_ ?_|refine zan rfl rfl ?_ ?_)<;>intro<;>try (first |(exfalso;omega)))|((first |refine zao rfl rfl ?_ ?_);focus (first |((repeat' refine And.intro ?_ ?_)<;>omega)|((repeat' refine And.intro ?_ ?_)<;>first |rfl)))|refine zaC (f := 130) 20 200 rfl rfl Tryz.call130 rfl rfl rfl rfl rfl rfl rfl rfl rfl hm ?_|fail)
    refine T.loop hL (fun x : Int × List UInt8 × Int => [(0, .s s), (7, .pv 20 0)]) (fun x => rdl s x.1 x.2.1 x.2.2)
      (fun x => (x.2.2 = 0 ∧ 0 ≤ x.1 ∧ x.1 ≤ s.length ∧ (x.2.1.length : Int) ≤ 4 * x.1 ∧ (∀ _ : Unit, unqG s (s.length + 1 - x.1.toNat) x.1 x.2.1 = R)) ∨ (¬ x.2.2 = 0 ∧ ∀ _ : Unit, R = ([], 0, x.2.2)))
      (fun x => if x.2.2 = 0 then s.length + 1 - x.1.toNat else 0) (j, [], e) ?_
      ⟨⟨rfl, rfl, trivial⟩, ⟨rfl, rfl, trivial⟩, rfl, by rw [hX]; intro k hk; cases hk⟩ ?_
    · by_cases he : e = 0
      · refine .inl ⟨he, by dsimp only; omega, hmr.2.1, by simp; omega, fun _ => ?_⟩
        have := hR ()
        rw [if_pos he] at this
        exact this
      · refine .inr ⟨he, fun _ => ?_⟩
        have := hR ()
        rw [if_neg he] at this
        exact this.symm
    clear hm hmr hR
    rintro ⟨p, o, e'⟩ hI
    dsimp only at hI ⊢
    have done : ∀ (fr : Fr) (ow : Ow) (p' : Int) (o' : List UInt8) (f : Int), getD' 0 fr = .s s → getD' 7 fr = .pv 20 0 → leOw ow (rdl s p' o' f) → (¬ f = 0 ∧ (∀ _ : Unit, R = ([], 0, f)) ∧ e' = 0 ∧ 0 ≤ p ∧ p ≤ s.length ∨ f = 0 ∧ 0 ≤ p ∧ p < p' ∧ p' ≤ s.length ∧ (o'.length : Int) ≤ 4 * p' ∧ (∀ _ : Unit, unqG s (s.length + 1 - p'.toNat) p' o' = R) ∧ e' = 0) →
        ∃ y : Int × List UInt8 × Int, ((y.2.2 = 0 ∧ 0 ≤ y.1 ∧ y.1 ≤ s.length ∧ (y.2.1.length : Int) ≤ 4 * y.1 ∧ (∀ _ : Unit, unqG s (s.length + 1 - y.1.toNat) y.1 y.2.1 = R)) ∨ (¬ y.2.2 = 0 ∧ ∀ _ : Unit, R = ([], 0, y.2.2))) ∧
          (if y.2.2 = 0 then s.length + 1 - y.1.toNat else 0) < (if e' = 0 then s.length + 1 - p.toNat else 0) ∧ Le X fr ow [(0, .s s), (7, .pv 20 0)] (rdl s y.1 y.2.1 y.2.2) := by
      intro fr ow p' o' f q1 q2 q3 q4
      refine ⟨(p', o', f), ?_, ?_, ⟨q1, q2, trivial⟩, q3, rfl, by rw [hX]; intro k hk; cases hk⟩
      · rcases q4 with ⟨a, b, _⟩ | ⟨a, b, c, d, g, h, _⟩
        · exact .inr ⟨a, b⟩
        · exact .inl ⟨a, by dsimp only; omega, d, g, h⟩
      · dsimp only
        rcases q4 with ⟨a, b, c, d, g⟩ | ⟨a, b, c, d, g, h, k⟩
        · rw [if_neg a, if_pos c]
          omega
        · rw [if_pos a, if_pos k]
          omega
    rcases hI with ⟨he, i0, i1, i2, i3⟩ | ⟨he, i3⟩
    · subst he
      have hn := zdD s p o 0 (by omega) i0 i1
      have ho : o.length ≤ 4194304 := by omega
      by_cases hp : p < s.length
      · rw [zbG rfl hp] at hn
        dsimp only at hn
        have hr := zaG s p
        have hnn : s.length + 1 - p.toNat = (s.length + 1 - (p + 1).toNat) + 1 := by omega
        rw [hnn] at i3
        by_cases c34 : at' s p = 34
        · have cv := zdg o (by omega)
          cases hv : validL o with
          | true =>
            rw [hv] at cv
            have i3 := fun _ : Unit => (i3 ()).symm.trans (zcC hp c34 hv)
            clear hv
            repeat' (first |with_reducible (first |refine zag ?_|refine zaa ?_|refine zaf ?_|refine zad ?_|refine zaj ?_|refine zai ?_|refine zae ?_|refine zal ?_|refine zap ?_|refine zaD ?_)|refine zab rfl rfl True.intro ?_|refine zas rfl ?_|refine zak rfl ?_|((first |refine zac rfl ?_ ?_)<;>intro<;>try (first |(exfalso;omega)))|((first |refine zab rfl rfl ?_ ?_);focus (first |exact le_ rfl|((repeat' refine And.intro ?_ ?_)<;>omega)|((repeat' refine And.intro ?_ ?_)<;>first |omega|exact zdw _)))|with_reducible refine ⟨by kernel_rfl, ?_⟩|refine zaw rfl ?_|refine zaC (f := 131) 20 200 rfl rfl Tryz.call131 rfl rfl rfl rfl rfl rfl rfl rfl rfl hn ?_|refine zah (f := 69) rfl rfl Tryz.call69 rfl (by rw [zbb];exact cv) ?_|fail)
            rw [i3 (), zbb]
          | false =>
            rw [hv] at cv
            have i3 := fun _ : Unit => (i3 ()).symm.trans (zes hp c34 hv)
            clear hv
            repeat' (first |with_reducible (first |refine zag ?_|refine zaa ?_|refine zaf ?_|refine zad ?_|refine zaj ?_|refine zai ?_|refine zae ?_|refine zal ?_|refine zap ?_)|refine zab rfl rfl True.intro ?_|refine zas rfl ?_|refine zak rfl ?_|((first |refine zac rfl ?_ ?_)<;>intro<;>try (first |(exfalso;omega)))|((first |refine zab rfl rfl ?_ ?_);focus (first |exact le_ rfl|((repeat' refine And.intro ?_ ?_)<;>omega)|((repeat' refine And.intro ?_ ?_)<;>first |omega|exact zdw _)))|refine zaw rfl ?_|refine zaC (f := 131) 20 200 rfl rfl Tryz.call131 rfl rfl rfl rfl rfl rfl rfl rfl rfl hn ?_|refine zah (f := 69) rfl rfl Tryz.call69 rfl (by rw [zbb];exact cv) ?_|fail)
            rw [i3 ()]
        · by_cases c92 : at' s p = 92
          · have ce := zrB s (p + 1) o (by omega) (by omega) (by omega) (by omega)
            have er := zcG s (p + 1) o (by omega) (by omega)
            have i3 := fun _ : Unit => (i3 ()).symm.trans (zet hp c92)
            generalize escP s (p + 1) o = E at ce er i3
            obtain ⟨p', o', f⟩ := E
            dsimp only at ce er i3
            repeat' (first |with_reducible (first |refine zag ?_|refine zaa ?_|refine zaf ?_|refine zad ?_|refine zai ?_|refine zae ?_|refine zaq ?_)|refine zab rfl rfl True.intro ?_|refine zas rfl ?_|refine zak rfl ?_|((first |refine zac rfl ?_ ?_)<;>intro<;>try (first |(exfalso;omega)))|((first |refine zab rfl rfl ?_ ?_);focus (first |exact le_ rfl|((repeat' refine And.intro ?_ ?_)<;>omega)))|refine zaC (f := 131) 20 200 rfl rfl Tryz.call131 rfl rfl rfl rfl rfl rfl rfl rfl rfl hn ?_|refine zaC (f := 132) 20 200 rfl rfl Tryz.call132 rfl rfl rfl rfl rfl rfl rfl rfl rfl ce ?_|fail)
            by_cases hf0 : f = 0
            · refine done _ _ p' o' f rfl rfl ⟨rfl, rfl, trivial⟩ (.inr ⟨hf0, i0, by omega, er.2.1, by omega, fun _ => ?_, rfl⟩)
              rw [i3 (), if_pos hf0]
              exact zfN s _ _ p' o' (by omega) er.2.1 (by omega) (by omega)
            · refine done _ _ p' o' f rfl rfl ⟨rfl, rfl, trivial⟩ (.inl ⟨hf0, fun _ => ?_, rfl, i0, i1⟩)
              rw [i3 (), if_neg hf0]
          · have hf := zcv s (p + 1) o 0 3
            by_cases c32 : at' s p < 32
            · have i3 := fun _ : Unit => (i3 ()).symm.trans (zeu hp c34 c92 c32)
              repeat' (first |with_reducible (first |refine zag ?_|refine zaa ?_|refine zaf ?_|refine zad ?_|refine zai ?_|refine zae ?_|refine zaq ?_)|refine zab rfl rfl True.intro ?_|refine zas rfl ?_|refine zak rfl ?_|((first |refine zac rfl ?_ ?_)<;>intro<;>try (first |(exfalso;omega)))|((first |refine zab rfl rfl ?_ ?_);focus (first |exact le_ rfl|((repeat' refine And.intro ?_ ?_)<;>omega)))|refine zaC (f := 131) 20 200 rfl rfl Tryz.call131 rfl rfl rfl rfl rfl rfl rfl rfl rfl hn ?_|refine zaC (f := 133) 20 200 rfl rfl Tryz.call133 rfl rfl rfl rfl rfl rfl rfl rfl rfl hf ?_|fail)
              exact done _ _ (p + 1) o 3 rfl rfl ⟨rfl, rfl, trivial⟩ (.inl ⟨by omega, i3, rfl, i0, i1⟩)
            · have i3 := fun _ : Unit => (i3 ()).symm.trans (zcY hp c34 c92 c32)
              repeat' (first |with_reducible (first |refine zag ?_|refine zaa ?_|refine zaf ?_|refine zad ?_|refine zai ?_|refine zae ?_|refine zaq ?_)|refine zab rfl rfl True.intro ?_|refine zas rfl ?_|refine zak rfl ?_|((first |refine zac rfl ?_ ?_)<;>intro<;>try (first |(exfalso;omega)))|((first |refine zab rfl rfl ?_ ?_|refine zao rfl rfl ?_ ?_|refine zar rfl ?_ ?_);focus (first |exact le_ rfl|((repeat' refine And.intro ?_ ?_)<;>omega)|((repeat' refine And.intro ?_ ?_)<;>first |omega|rfl|exact le_ rfl)))|refine zaC (f := 131) 20 200 rfl rfl Tryz.call131 rfl rfl rfl rfl rfl rfl rfl rfl rfl hn ?_|fail)
              exact done _ _ (p + 1) (o ++ [by8 (at' s p)]) 0 rfl rfl (zhg rfl hr.1 hr.2 rfl rfl rfl rfl) (.inr ⟨rfl, i0, by omega, by omega, by simp; omega, fun _ => (i3 ()).symm, rfl⟩)
      · rw [zbs rfl hp] at hn
        dsimp only at hn
        rw [show s.length + 1 - p.toNat = 0 + 1 by omega] at i3
        have i3 := fun _ : Unit => (i3 ()).symm.trans (zef hp)
        repeat' (first |with_reducible (first |refine zag ?_|refine zaa ?_|refine zaf ?_|refine zad ?_|refine zai ?_|refine zae ?_|refine zaq ?_)|refine zab rfl rfl True.intro ?_|refine zas rfl ?_|((first |refine zab rfl rfl ?_ ?_);focus (first |exact le_ rfl|((repeat' refine And.intro ?_ ?_)<;>omega)))|refine zaC (f := 131) 20 200 rfl rfl Tryz.call131 rfl rfl rfl rfl rfl rfl rfl rfl rfl hn ?_|fail)
        exact done _ _ p o 2 rfl rfl ⟨rfl, rfl, trivial⟩ (.inl ⟨by omega, i3, rfl, i0, i1⟩)
    · clear done
      repeat' (first |with_reducible (first |refine zag ?_|refine zaa ?_|refine zaf ?_|refine zad ?_|refine zaj ?_|refine zaz ?_|refine zaA ?_|refine zaD ?_)|refine zab rfl rfl True.intro ?_|((first |refine zac rfl ?_ ?_)<;>intro<;>try (first |(exfalso;omega)))|((first |refine zab rfl rfl ?_ ?_);focus (first |exact le_ rfl|((repeat' refine And.intro ?_ ?_)<;>omega)))|refine zaJ rfl ?_|with_reducible refine ⟨by kernel_rfl, ?_⟩|refine zaw rfl ?_|fail)
      rw [i3 ()]

abbrev dcD (neg : Bool) (s : List UInt8) (e : Int) : D := .ag [.b neg, .s s, .i .i64 e]
def digs (s : List UInt8) : Prop := ∀ i : Nat, i < s.length → 48 ≤ at' s i ∧ at' s i ≤ 57
def RightP (neg : Bool) (s : List UInt8) (e : Int) : Prop :=
  if s.length = 0 then neg = false ∧ e = 0
  else digs s ∧ s.length ≤ 100 ∧ ¬ at' s 0 = 48 ∧ ¬ at' s (s.length - 1) = 48 ∧ -1000 ≤ e ∧ e ≤ 1000
instance (s : List UInt8) : Decidable (digs s) := by
  unfold digs
  infer_instance
instance (neg : Bool) (s : List UInt8) (e : Int) : Decidable (RightP neg s e) := by
  unfold RightP
  infer_instance
def rightB (neg : Bool) (s : List UInt8) (e : Int) : Bool := decide (RightP neg s e)
theorem zcy {neg : Bool} {s : List UInt8} {e : Int} : rightB neg s e = true ↔ RightP neg s e := by unfold rightB; exact decide_eq_true_iff
theorem zeN {neg : Bool} {s : List UInt8} {e : Int} (h : ¬ RightP neg s e) : rightB neg s e = false := by
  rw [← Bool.not_eq_true, zcy]
  exact h
theorem zaU {neg : Bool} {s : List UInt8} {e : Int} {b : Bool} (h : b = true ↔ RightP neg s e) : D.b b = .b (rightB neg s e) := by
  congr 1
  rw [Bool.eq_iff_iff, h, zcy]
theorem zdm {neg : Bool} {s : List UInt8} {e : Int} (h : s.length = 0) : RightP neg s e ↔ neg = false ∧ e = 0 := by unfold RightP; rw [if_pos h]
theorem zaR {neg : Bool} {s : List UInt8} {e : Int} (h : ¬ s.length = 0) : RightP neg s e ↔ digs s ∧ s.length ≤ 100 ∧ ¬ at' s 0 = 48 ∧ ¬ at' s (s.length - 1) = 48 ∧ -1000 ≤ e ∧ e ≤ 1000 := by unfold RightP; rw [if_neg h]
theorem zjo {s : List UInt8} (h : s.length = 0) : s = [] := List.length_eq_zero_iff.1 h
set_option maxHeartbeats 1000000 in
theorem zcz (neg : Bool) (s : List UInt8) (e : Int) (hs : s.length ≤ 1099511627776) : Ctr Tryz.prog 113 [dcD neg s e] (.b (rightB neg s e)) := by
  refine zay Tryz.func113 rfl Tryz.ntmps113 Tryz.results113 rfl rfl fun X hL hX => ?_
  repeat' (first |with_reducible (first |refine zag ?_|refine zaa ?_|refine zaf ?_|refine zad ?_|refine zaj ?_|refine zai ?_|refine zae ?_|refine zal ?_)|refine zab rfl rfl True.intro ?_|((first |refine zac rfl ?_ ?_)<;>intro)|((first |refine zab rfl rfl ?_ ?_|refine zao rfl rfl ?_ ?_);focus (first |exact le_ rfl|((repeat' refine And.intro ?_ ?_)<;>omega)|((repeat' refine And.intro ?_ ?_)<;>first |rfl)))|refine zaw rfl ?_|fail)
  · rename_i h0
    refine zaU ?_
    rw [zdm (by omega), zjo (show s.length = 0 by omega)]
    simp
  rename_i h0
  have h0 : ¬ s.length = 0 := by omega
  refine T.loop hL (fun i : Nat => [(1, .pv 1 0), (3, .i .i64 s.length), (13, .i .i64 s.length), (14, .i .i64 i)]) (fun _ => [(1, .var [.b neg, .s s, .i .i64 e])]) (fun i => i ≤ s.length ∧ ∀ j : Nat, j < i → 48 ≤ at' s j ∧ at' s j ≤ 57) (fun i => s.length - i) 0
    ⟨Nat.zero_le _, fun j hj => absurd hj (Nat.not_lt_zero _)⟩ ⟨⟨rfl, rfl, rfl, rfl, trivial⟩, ⟨rfl, trivial⟩, rfl, by rw [hX]; intro k hk; cases hk⟩ ?_
  rintro i ⟨g1, g2⟩
  repeat' (first |with_reducible (first |refine zag ?_|refine zaa ?_|refine zaf ?_|refine zad ?_|refine zaj ?_|refine zai ?_|refine zaz ?_|refine zae ?_|refine zaq ?_|refine zaA ?_|refine zal ?_|refine zap ?_)|refine zab rfl rfl True.intro ?_|refine zau rfl rfl rfl ?_|refine zam rfl rfl rfl rfl True.intro ?_|refine zas rfl ?_|((first |refine zac rfl ?_ ?_|refine zan rfl rfl ?_ ?_|refine zaQ rfl rfl ?_ ?_)<;>intro)|((first |refine zab rfl rfl ?_ ?_|refine zam rfl rfl rfl rfl ?_ ?_);focus (first |omega|exact le_ rfl|((repeat' refine And.intro ?_ ?_)<;>omega)))|refine zaJ rfl ?_|refine zaw rfl ?_|fail)
  · exact zaU (iff_of_false (by simp) (by rw [zaR h0]; rintro ⟨h1, _⟩; have := h1 i (by omega); omega))
  · exact zaU (iff_of_false (by simp) (by rw [zaR h0]; rintro ⟨h1, _⟩; have := h1 i (by omega); omega))
  · refine ⟨i + 1, ⟨by omega, fun j hj => ?_⟩, by omega, ⟨rfl, rfl, rfl, rfl, trivial⟩, ⟨rfl, trivial⟩, rfl, by rw [hX]; intro k hk; cases hk⟩
    by_cases hji : j = i
    · subst hji
      exact ⟨by omega, by omega⟩
    · exact g2 j (by omega)
  · refine zaU ?_
    rw [zaR h0, decide_eq_true_iff]
    exact ⟨fun h => ⟨fun j hj => g2 j (by omega), by omega, ‹_›, ‹_›, ‹_›, h⟩, fun h => h.2.2.2.2.2⟩
  · exact zaU (iff_of_false (by simp) (by rw [zaR h0]; rintro ⟨_, _, _, _, h5, _⟩; exact absurd h5 ‹_›))
  · exact zaU (iff_of_false (by simp) (by rw [zaR h0]; rintro ⟨_, _, _, h4, _⟩; exact absurd ‹_› h4))
  · exact zaU (iff_of_false (by simp) (by rw [zaR h0]; rintro ⟨_, _, h3, _⟩; exact absurd ‹_› h3))
  · exact zaU (iff_of_false (by simp) (by rw [zaR h0]; rintro ⟨_, h2, _⟩; omega))
theorem ziu (c : Int) : Ctr Tryz.prog 93 [.i .u8 c] (.b (decide (48 ≤ c ∧ c ≤ 57))) := by
  refine zay Tryz.func93 rfl Tryz.ntmps93 Tryz.results93 rfl rfl fun X hL hX => ?_
  repeat' (first |with_reducible (first |refine zag ?_|refine zaa ?_|refine zaf ?_|refine zad ?_|refine zaj ?_)|refine zab rfl rfl True.intro ?_|refine zau rfl rfl rfl ?_|refine zam rfl rfl rfl rfl True.intro ?_|((first |refine zan rfl rfl ?_ ?_)<;>intro)|refine zaw rfl ?_|fail)
  · congr 1
    simp [*]
  · congr 1
    simp [*]
set_option maxHeartbeats 1000000 in
theorem zgB (neg : Bool) (s : List UInt8) (e : Int) (hs : s.length ≤ 1099511627776) : Ctr Tryz.prog 59 [dcD neg s e] (.b (rightB neg s e)) := by
  refine zay Tryz.func59 rfl Tryz.ntmps59 Tryz.results59 rfl rfl fun X hL hX => ?_
  repeat' (first |with_reducible (first |refine zag ?_|refine zaa ?_|refine zaf ?_|refine zad ?_|refine zaj ?_|refine zai ?_|refine zae ?_|refine zal ?_)|refine zab rfl rfl True.intro ?_|refine zau rfl rfl rfl ?_|refine zam rfl rfl rfl rfl True.intro ?_|refine zas rfl ?_|((first |refine zac rfl ?_ ?_|refine zan rfl rfl ?_ ?_|refine zaF rfl rfl ?_ ?_)<;>intro)|((first |refine zab rfl rfl ?_ ?_|refine zam rfl rfl rfl rfl ?_ ?_|refine zao rfl rfl ?_ ?_);focus (first |omega|exact le_ rfl|((repeat' refine And.intro ?_ ?_)<;>omega)|((repeat' refine And.intro ?_ ?_)<;>first |rfl)))|refine zaw rfl ?_|fail)
  · refine zaU ?_
    rw [zdm (by omega)]
    simp [*]
  · refine zaU ?_
    rw [zdm (by omega)]
    simp [*]
  · exact zaU (iff_of_false (by simp) (by rw [zaR (by omega)]; rintro ⟨_, h2, _⟩; omega))
  · exact zaU (iff_of_false (by simp) (by rw [zaR (by omega)]; rintro ⟨_, _, h3, _⟩; exact absurd ‹_› h3))
  · exact zaU (iff_of_false (by simp) (by rw [zaR (by omega)]; rintro ⟨_, _, _, h4, _⟩; exact absurd ‹_› h4))
  · exact zaU (iff_of_false (by simp) (by rw [zaR (by omega)]; rintro ⟨_, _, _, _, h5, _⟩; omega))
  · exact zaU (iff_of_false (by simp) (by rw [zaR (by omega)]; rintro ⟨_, _, _, _, _, h6⟩; omega))
  rename_i k0 k1 k2 k3 k4 k5
  have h0 : ¬ s.length = 0 := by omega
  refine T.loop hL (fun i : Nat => [(1, .pv 1 0), (3, .i .i64 s.length), (4, .i .i64 i)]) (fun _ => [(1, .var [.b neg, .s s, .i .i64 e])]) (fun i => i ≤ s.length ∧ ∀ j : Nat, j < i → 48 ≤ at' s j ∧ at' s j ≤ 57) (fun i => s.length - i) 0
    ⟨Nat.zero_le _, fun j hj => absurd hj (Nat.not_lt_zero _)⟩ ⟨⟨rfl, rfl, rfl, trivial⟩, ⟨rfl, trivial⟩, rfl, by rw [hX]; intro k hk; cases hk⟩ ?_
  rintro i ⟨g1, g2⟩
  repeat' (first |with_reducible (first |refine zag ?_|refine zaa ?_|refine zaf ?_|refine zad ?_|refine zaj ?_|refine zai ?_|refine zaz ?_|refine zae ?_|refine zaq ?_|refine zaA ?_|refine zal ?_|refine zap ?_)|refine zab rfl rfl True.intro ?_|((first |refine zac rfl ?_ ?_|refine zbw rfl ?_ ?_)<;>intro)|((first |refine zab rfl rfl ?_ ?_);focus (first |omega|exact le_ rfl|((repeat' refine And.intro ?_ ?_)<;>omega)))|refine zaJ rfl ?_|refine zaw rfl ?_|refine zah (f := 93) rfl rfl Tryz.call93 rfl (ziu (at' s i)) ?_|fail)
  · rename_i h1 h2
    exact zaU (iff_of_false (by simp) (by rw [zaR h0]; rintro ⟨h1, _⟩; have := h1 i (by omega); simp at h2; omega))
  · rename_i h1 h2
    have h2 : 48 ≤ at' s i ∧ at' s i ≤ 57 := by simpa using h2
    refine ⟨i + 1, ⟨by omega, fun j hj => ?_⟩, by omega, ⟨rfl, rfl, rfl, trivial⟩, ⟨rfl, trivial⟩, rfl, by rw [hX]; intro k hk; cases hk⟩
    by_cases hji : j = i
    · subst hji
      exact h2
    · exact g2 j (by omega)
  · refine zaU (iff_of_true rfl ?_)
    rw [zaR h0]
    exact ⟨fun j hj => g2 j (by omega), by omega, k2, k3, by omega, by omega⟩
theorem zcM (l : List UInt8) : l = [] ∨ ∃ r w, l = r ++ [w] := by
  rcases List.eq_nil_or_concat l with h | ⟨r, w, h⟩
  · exact .inl h
  · exact .inr ⟨r, w, by simpa using h⟩
theorem zfZ (s : List UInt8) (i : Nat) (h : i < s.length) : s.take (i + 1) = s.take i ++ [s.getD i 0] := by
  rw [List.take_add_one, List.getD_eq_getElem?_getD, List.getElem?_eq_getElem h]
  rfl
theorem RightP.bounds {neg : Bool} {s : List UInt8} {e : Int} (h : RightP neg s e) : s.length ≤ 100 ∧ -1000 ≤ e ∧ e ≤ 1000 ∧ digs s := by
  unfold RightP at h
  split at h
  · rename_i h0
    exact ⟨by omega, by omega, by omega, fun i hi => by omega⟩
  · exact ⟨h.2.1, h.2.2.2.2.1, h.2.2.2.2.2, h.1⟩

abbrev tL (s : List UInt8) : List UInt8 := Lib.trimLeftB s 48
abbrev tR (s : List UInt8) : List UInt8 := Lib.trimRightB s 48
theorem znW (r : List UInt8) (c : UInt8) : at' (r ++ [c]) (r.length : Int) = (c.toNat : Int) := by
  simp [at', List.getD_eq_getElem?_getD]
theorem zgo (r : List UInt8) : tR (r ++ [48]) = tR r := by simp [tR, Lib.trimRightB]
theorem zgq (r : List UInt8) (c : UInt8) (h : ¬ c = 48) : tR (r ++ [c]) = r ++ [c] := by simp [tR, Lib.trimRightB, h]
theorem zpf {c : UInt8} {n : Nat} (h : n < 256) : (c.toNat : Int) = n ↔ c = UInt8.ofNat n := zrD c n h
theorem zrw (s : List UInt8) (h0 : ¬ s.length = 0) (h : at' s (s.length - 1) = 48) : tR (s.take (s.length - 1)) = tR s := by
  rcases zcM s with rfl | ⟨r, c, rfl⟩
  · simp at h0
  · have e : ((r ++ [c]).length : Int) - 1 = r.length := by simp
    rw [e, znW] at h
    obtain rfl : c = 48 := (zpf (n := 48) (by omega)).1 h
    rw [zgo]
    simp
theorem zqJ (s : List UInt8) (h : s.length = 0 ∨ ¬ at' s (s.length - 1) = 48) : tR s = s := by
  rcases zcM s with rfl | ⟨r, c, rfl⟩
  · rfl
  · have e : ((r ++ [c]).length : Int) - 1 = r.length := by simp
    rw [e, znW] at h
    refine zgq r c fun hc => ?_
    subst hc
    rcases h with h | h
    · simp at h
    · exact h rfl
theorem zqP (s : List UInt8) (h0 : ¬ s.length = 0) (h : at' s 0 = 48) : tL (s.drop 1) = tL s := by
  match s, h0 with
  | c :: r, _ =>
    have h : (c.toNat : Int) = 48 := h
    obtain rfl : c = 48 := (zpf (n := 48) (by omega)).1 h
    simp [tL, Lib.trimLeftB]
theorem zrr (s : List UInt8) (h : s.length = 0 ∨ ¬ at' s 0 = 48) : tL s = s := by
  match s with
  | [] => rfl
  | c :: r =>
    have h : ¬ (c.toNat : Int) = 48 := by
      rcases h with h | h
      · simp at h
      · exact h
    have : ¬ c = 48 := fun e => h (by rw [e]; rfl)
    simp [tL, Lib.trimLeftB, this]
theorem zqq (s : List UInt8) : (tL s).length ≤ s.length := by
  unfold tL Lib.trimLeftB
  induction s with
  | nil => simp
  | cons c r ih =>
    rw [List.dropWhile_cons]
    split
    · simp only [List.length_cons]
      omega
    · simp
theorem zqB (s : List UInt8) : (tR s).length ≤ s.length := by
  have := zqq s.reverse
  unfold tR Lib.trimRightB
  unfold tL Lib.trimLeftB at this
  simpa using this
def normF (neg : Bool) (s : List UInt8) (e : Int) : (Bool × List UInt8 × Int) × Int :=
  if (tL (tR s)).length = 0 then ((false, [], 0), 0)
  else if 100 < (tL (tR s)).length then ((false, [], 0), 5)
  else if e + (s.length - (tR s).length) < -1000 ∨ 1000 < e + (s.length - (tR s).length) then ((false, [], 0), 8)
  else ((neg, tL (tR s), e + (s.length - (tR s).length)), 0)
abbrev dcV (x : Bool × List UInt8 × Int) : D := dcD x.1 x.2.1 x.2.2
end Go.Proofs.YtcajofhafpkbdaaGreatDoor.Flow
