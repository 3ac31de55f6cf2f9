/- The texts F10, F11, F12, F13, F14, T4, LibsU, one behind the other. -/
import Derived.Test.YtkkaamhocpmhkaaGreatDoorJJ12
import Derived.Test.YtkkaamhocpmhkaaGreatDoorJJ21
import Derived.Lib.Walk
import Derived.Lib.ItoaMem
import Derived.Lib.AppendIntMem
import Derived.WalkKit
import Derived.BigCall
import Derived.BigGuard
namespace Go.Proofs.YtkkaamhocpmhkaaGreatDoor.Flow
open Go
theorem zcC (l : List Nat) (m c : Nat) (hl : wsm 65536 l) (hm : m < 65536) (hc : c < 65536) (hlen : l.length ≤ 1048576) :
    Ctr Tryz.prog 189 [slW .u64 l, .i .u64 m, .i .u64 c] (slW .u64 (mulG 65536 m c l)) := by
  refine zax Tryz.func189 rfl Tryz.ntmps189 Tryz.results189 rfl rfl fun X hL hX => ?_
  repeat' (first |with_reducible (first |refine zah ?_|refine zaa ?_|refine zag ?_|refine zad ?_|refine zaf ?_)|refine zab rfl rfl True.intro ?_|fail)
  refine T.adoptA 7 100 43 1 (wF .u64 []) rfl rfl ?_
  refine T.loop hL (fun x : Nat × Nat × List Nat => [(0, slW .u64 l), (1, .i .u64 m), (2, .i .u64 x.2.1), (7, .ah 100 1 x.1), (8, .i .i64 x.1)]) (fun x => [(100, .arr 43 1 x.1 (wF .u64 x.2.2))])
    (fun x => x.1 ≤ l.length ∧ x.2.1 < 65536 ∧ x.2.2.length = x.1 ∧ mulG 65536 m c l = x.2.2 ++ mulG 65536 m x.2.1 (l.drop x.1)) (fun x => l.length - x.1) (0, c, []) ⟨Nat.zero_le _, hc, rfl, rfl⟩
    ⟨⟨rfl, rfl, rfl, rfl, rfl, trivial⟩, ⟨⟨_, _, rfl, rfl, fun i hi => absurd hi (Nat.not_lt_zero _)⟩, trivial⟩, rfl, by rw [hX]; intro k hk; cases hk⟩ ?_
  rintro ⟨i, cy, out⟩ ⟨g1, g2, g3, g4⟩
  dsimp only at g1 g2 g3 g4 ⊢
  have hw := zec hl (by omega) i
  generalize hwe : l.getD i 0 = w at hw
  have hmul : w * m ≤ 4294836225 := Nat.mul_le_mul (show w ≤ 65535 by omega) (show m ≤ 65535 by omega)
  have hs : ∀ _ : Unit, IntKind.u64.wrap ((cy : Int) + IntKind.u64.wrap ((l.getD (i : Int).toNat 0 : Nat) * (m : Int))) = ((cy + w * m : Nat) : Int) := fun _ => by
    rw [Int.toNat_natCast, hwe]
    simp only [zar]
    rw [← Int.natCast_mul]
    omega
  have hq : ∀ n : Nat, n < 18446744073709551616 → 0 ≤ (n : Int) ∧ 0 < (65536 : Int) ∧ IntKind.u64.wrap ((n : Int) / 65536) = (n : Int) / 65536 := fun n hn => by
    rw [zar]
    omega
  have hr : ∀ n : Nat, 0 ≤ (n : Int) ∧ 0 < (65536 : Int) := fun n => by omega
  repeat' (first |with_reducible (first |refine zah ?_|refine zaa ?_|refine zag ?_|refine zad ?_|refine zai ?_|refine zat ?_|refine zaf ?_|refine zao ?_|refine zas ?_)|refine zab rfl rfl True.intro ?_|((first |refine zac rfl ?_ ?_)<;>intro)|((first |refine zab rfl rfl ?_ ?_|refine zav rfl rfl ?_ ?_);focus (first |(rw [hs ()];first |exact hq _ (by omega)|exact hr _)|omega|exact le_ rfl|((repeat' refine And.intro ?_ ?_)<;>first |omega|rfl)))|refine zaB rfl ?_|fail)
  · have hi : i < l.length := by omega
    refine ⟨(i + 1, (cy + w * m) / 65536, out ++ [(cy + w * m) % 65536]), ⟨by dsimp only; omega, zgj (by omega) g2 hw, by simp [g3], ?_⟩, by dsimp only; omega,
      ⟨rfl, rfl, by rw [hs ()]; rfl, rfl, rfl, trivial⟩, ⟨⟨_, _, rfl, rfl, fun j _ => ?_⟩, trivial⟩, rfl, by rw [hX]; intro k hk; cases hk⟩
    · rw [g4, zaN hi, hwe, mulG]
      simp
    · refine WL.of_eq (congrFun (zfl .u64 out i _ _ g3.symm ?_) j)
      show [D.i .u64 (_ % 65536)] = _
      rw [hs ()]
      rfl
  have hil : i = l.length := by omega
  refine T.loop hL (fun x : Nat × List Nat => [(2, .i .u64 x.1), (7, .ah 100 1 x.2.length)]) (fun x => [(100, .arr 43 1 x.2.length (wF .u64 x.2))])
    (fun x => x.1 < 65536 ∧ x.2.length ≤ 1048577 ∧ mulG 65536 m c l = x.2 ++ (if 0 < x.1 then [x.1] else []) ∧ (0 < x.1 → x.2.length ≤ 1048576)) (fun x => x.1) (cy, out) ⟨g2, by dsimp only; omega, by rw [g4, List.drop_eq_nil_of_le (by omega), mulG], fun _ => by dsimp only; omega⟩
    ⟨⟨rfl, by rw [g3]; rfl, trivial⟩, ⟨⟨_, _, by rw [g3]; rfl, rfl, fun j _ => WL.rfl' _⟩, trivial⟩, rfl, by rw [hX]; intro k hk; cases hk⟩ ?_
  clear hs hq hr g1 g2 g3 g4 hil hmul hw
  rintro ⟨cz, ou⟩ ⟨k1, k2, k3, k4⟩
  dsimp only at k1 k2 k3 k4 ⊢
  repeat' (first |with_reducible (first |refine zah ?_|refine zaa ?_|refine zag ?_|refine zad ?_|refine zan ?_|refine zai ?_|refine zat ?_|refine zaf ?_|refine zao ?_|refine zas ?_)|refine zab rfl rfl True.intro ?_|((first |refine zac rfl ?_ ?_)<;>intro)|((first |refine zab rfl rfl ?_ ?_|refine zav rfl rfl ?_ ?_);focus (first |omega|((repeat first |rw [zar]);(repeat' refine And.intro ?_ ?_)<;>omega)|((repeat' refine And.intro ?_ ?_)<;>first |omega|rfl)))|refine zaB rfl ?_|refine zeL [6] 100 rfl ⟨rfl, trivial⟩ rfl ?_|fail)
  · refine ⟨(cz / 65536, ou ++ [cz]), ⟨by dsimp only; omega, by simp; omega, ?_, fun h => by dsimp only at h; omega⟩, by dsimp only; omega, ⟨rfl, by simp; rfl, trivial⟩, ⟨⟨_, _, rfl, by simp, fun j _ => ?_⟩, trivial⟩, rfl, by rw [hX]; intro k hk; cases hk⟩
    · dsimp only
      rw [k3, if_pos (by omega), if_neg (by omega), List.append_nil]
    · refine WL.of_eq (congrFun (zfl .u64 ou _ _ _ rfl ?_) j)
      show [D.i .u64 (_ % 65536)] = _
      rw [show (cz : Int) % 65536 = cz by omega]
  · have e : mulG 65536 m c l = ou := by rw [k3, if_neg (by omega), List.append_nil]
    rw [e]
    exact .refl _
theorem znt (l : List Nat) (h1 : l.length ≤ 1099511627776) : Ctr Tryz.prog 231 [slW .u64 l] (slW .u64 (trimG l)) := by
  refine zax Tryz.func231 rfl Tryz.ntmps231 Tryz.results231 rfl rfl fun X hL hX => ?_
  repeat' (first |with_reducible (first |refine zah ?_|refine zaa ?_|refine zag ?_|refine zad ?_|refine zaf ?_)|refine zab rfl rfl True.intro ?_|fail)
  refine T.loop hL (fun n : Nat => [(0, .sl 1 n (wF .u64 l))]) (fun _ => []) (fun n => n ≤ l.length ∧ trimG l = trimG (l.take n)) (fun n => n) l.length
    ⟨Nat.le_refl _, by rw [List.take_length]⟩ ⟨⟨rfl, trivial⟩, trivial, rfl, by rw [hX]; intro k hk; cases hk⟩ ?_
  rintro n ⟨g1, g2⟩
  have hp : 0 < n → ∃ p, n = p + 1 ∧ ((n : Int) - 1).toNat = p := fun h => ⟨n - 1, by omega, by omega⟩
  have e : ∀ p, n = p + 1 → l.take n = l.take p ++ [l.getD p 0] := fun p h => by
    rw [h, List.take_add_one, List.getD_eq_getElem?_getD, List.getElem?_eq_getElem (by omega)]
    rfl
  have fin : trimG l = l.take n → Weak (.sl 1 n (wF .u64 l)) (slW .u64 (trimG l)) := fun h => by
    rw [h]
    refine zcK _ _ _ _ (by simp; omega) (fun i hi => ?_)
    rw [zlM _ _ _ _ hi]
  repeat' (first |with_reducible (first |refine zah ?_|refine zaa ?_|refine zag ?_|refine zad ?_|refine zan ?_|refine zai ?_|refine zat ?_|refine zaf ?_|refine zao ?_|refine zas ?_)|refine zab rfl rfl True.intro ?_|refine zap rfl rfl rfl ?_|refine zaj rfl rfl rfl rfl True.intro ?_|refine zal rfl ?_|((first |refine zac rfl ?_ ?_|refine zak rfl rfl ?_ ?_)<;>intro)|((first |refine zab rfl rfl ?_ ?_|refine zaj rfl rfl rfl rfl ?_ ?_);focus (first |omega|exact le_ rfl|((repeat' refine And.intro ?_ ?_)<;>omega)))|refine zaB rfl ?_|refine zbN rfl ?_|fail)
  · rename_i h2 h3
    obtain ⟨p, rfl, hp⟩ := hp (by omega)
    rw [hp] at h3
    refine ⟨p, ⟨by omega, ?_⟩, by omega, ⟨?_, trivial⟩, trivial, rfl, by rw [hX]; intro k hk; cases hk⟩
    · rw [g2, e p rfl, show l.getD p 0 = 0 by omega, zde]
    · show D.sl 1 (((p + 1 : Nat) : Int) - 1).toNat (fun i => wF .u64 l (0 + i)) = _
      rw [hp, show (fun i => wF .u64 l (0 + i)) = wF .u64 l from funext fun i => by rw [Nat.zero_add]]
  · rename_i h2 h3
    obtain ⟨p, rfl, hp⟩ := hp (by omega)
    rw [hp] at h3
    refine fin ?_
    rw [g2, e p rfl, zeb _ _ (by omega)]
  · refine fin ?_
    rw [g2, show n = 0 by omega]
    rfl
theorem zkb (a b : List Nat) (ha : wsm 65536 a) (hb : wsm 65536 b) (h1 : a.length ≤ 1099511627776) (h2 : b.length ≤ 1099511627776) :
    Ctr Tryz.prog 190 [slW .u64 a, slW .u64 b] (.i .i64 (cmpV (val 65536 a) (val 65536 b))) := by
  have c1 := znt a h1
  have c2 := znt b h2
  obtain ⟨t1, t2, t3, t4⟩ := zdo 65536 _ a rfl
  obtain ⟨s1, s2, s3, s4⟩ := zdo 65536 _ b rfl
  rw [← t1, ← s1]
  have ha := t3 ha
  have hb := s3 hb
  generalize trimG a = p at *
  generalize trimG b = q at *
  refine zax Tryz.func190 rfl Tryz.ntmps190 Tryz.results190 rfl rfl fun X hL hX => ?_
  clear t1 s1 t3 s3
  repeat' (first |with_reducible (first |refine zah ?_|refine zaa ?_|refine zag ?_|refine zad ?_|refine zan ?_|refine zai ?_|refine zaf ?_|refine zam ?_)|refine zab rfl rfl True.intro ?_|((first |refine zac rfl ?_ ?_)<;>intro)|((first |refine zab rfl rfl ?_ ?_);focus (first |omega|((repeat' refine And.intro ?_ ?_)<;>omega)))|refine zaq rfl ?_|refine zae (f := 231) rfl rfl Tryz.call231 rfl c1 ?_|refine zae (f := 231) rfl rfl Tryz.call231 rfl c2 ?_|fail)
  · rw [zgA (zcE (by omega) ha s2 (by omega))]
  · rw [zhl (zcE (by omega) hb t2 (by omega))]
  rename_i k1 k2
  have hlen : p.length = q.length := by omega
  refine T.loop hL (fun j : Nat => [(0, slW .u64 p), (1, slW .u64 q), (5, .i .i64 ((j : Int) - 1))]) (fun _ => []) (fun j => j ≤ p.length ∧ p.drop j = q.drop j) (fun j => j) p.length
    ⟨Nat.le_refl _, by rw [List.drop_eq_nil_of_le (by omega), List.drop_eq_nil_of_le (by omega)]⟩ ⟨⟨rfl, rfl, rfl, trivial⟩, trivial, rfl, by rw [hX]; intro k hk; cases hk⟩ ?_
  rintro j ⟨g1, g2⟩
  have hp : 0 < j → ∃ i, j = i + 1 ∧ ((j : Int) - 1).toNat = i := fun h => ⟨j - 1, by omega, by omega⟩
  repeat' (first |with_reducible (first |refine zah ?_|refine zaa ?_|refine zag ?_|refine zad ?_|refine zan ?_|refine zai ?_|refine zat ?_|refine zaf ?_|refine zao ?_|refine zas ?_|refine zam ?_|refine zaz ?_|refine zaC ?_)|refine zab rfl rfl True.intro ?_|((first |refine zac rfl ?_ ?_)<;>intro)|((first |refine zab rfl rfl ?_ ?_);focus (first |omega|exact le_ rfl|((repeat' refine And.intro ?_ ?_)<;>omega)))|refine zaB rfl ?_|with_reducible refine ⟨by kernel_rfl, ?_⟩|refine zaq rfl ?_|fail)
  · obtain ⟨i, rfl, hi⟩ := hp (by omega)
    rename_i hlt
    rw [hi] at hlt
    rw [zgA (zcF ha hlen (by omega) g2 (by omega))]
  · obtain ⟨i, rfl, hi⟩ := hp (by omega)
    rename_i hlt
    rw [hi] at hlt
    rw [zhl (zcF hb hlen.symm (by omega) g2.symm (by omega))]
  · obtain ⟨i, rfl, hi⟩ := hp (by omega)
    rename_i h3 h4
    rw [hi] at h3 h4
    refine ⟨i, ⟨by omega, ?_⟩, by omega, ⟨rfl, rfl, by rw [show ((i + 1 : Nat) : Int) - 1 - 1 = (i : Int) - 1 by omega]; rfl, trivial⟩, trivial, rfl, by rw [hX]; intro k hk; cases hk⟩
    rw [zaN (show i < p.length by omega), zaN (show i < q.length by omega), g2, show p.getD i 0 = q.getD i 0 by omega]
  · rw [show j = 0 by omega] at g2
    simp only [List.drop_zero] at g2
    rw [g2, zne rfl]

def upG (a : List Nat) (n : Nat) : List Nat := List.replicate (n / 16) 0 ++ mulG 65536 (2 ^ (n % 16)) 0 a
theorem pow16 (n : Nat) : 2 ^ (n % 16) < 65536 := Nat.lt_of_lt_of_le (Nat.pow_lt_pow_right (by omega) (Nat.mod_lt n (by omega))) (by decide)
theorem zpv (a : List Nat) (n : Nat) (ha : wsm 65536 a) : val 65536 (upG a n) = val 65536 a * 2 ^ n ∧ wsm 65536 (upG a n) ∧ (upG a n).length ≤ a.length + n / 16 + 1 := by
  have hlt := pow16 n
  unfold upG
  refine ⟨?_, zdY.2 ⟨zff (by omega) _, zbr (by omega) a 0 (by omega) ha⟩, ?_⟩
  · rw [zdu, zbQ]
    have e : (65536 : Nat) = 2 ^ 16 := by decide
    have e2 : (2 : Nat) ^ n = (2 ^ 16) ^ (n / 16) * 2 ^ (n % 16) := by rw [← Nat.pow_mul, ← Nat.pow_add, Nat.div_add_mod]
    rw [e2, ← e]
    grind
  · have := zbc 65536 (2 ^ (n % 16)) a 0
    simp
    omega
theorem zpO (a : List Nat) (n : Nat) (ha : wsm 65536 a) (h1 : a.length ≤ 1048575) (h2 : n ≤ 1048576) : Ctr Tryz.prog 191 [slW .u64 a, .i .i64 n] (slW .u64 (upG a n)) := by
  have hlt := pow16 n
  have hm := zcC a (2 ^ (n % 16)) 0 ha hlt (by omega) (by omega)
  have hlen := zbc 65536 (2 ^ (n % 16)) a 0
  refine zax Tryz.func191 rfl Tryz.ntmps191 Tryz.results191 rfl rfl fun X hL hX => ?_
  repeat' (first |with_reducible (first |refine zah ?_|refine zaa ?_|refine zag ?_|refine zad ?_|refine zaf ?_)|refine zab rfl rfl True.intro ?_|((first |refine zab rfl rfl ?_ ?_|refine zav rfl rfl ?_ ?_);focus (first |((repeat first |rw [wi6_]);(repeat' refine And.intro ?_ ?_)<;>omega)|((repeat' refine And.intro ?_ ?_)<;>first |omega|rfl)))|fail)
  refine T.loop hL (fun i : Nat => [(0, slW .u64 a), (1, .i .i64 n), (5, .ah 10 1 ((n : Int) / 16).toNat), (6, .i .u64 ((2 ^ i : Nat) : Int)), (7, .i .i64 i)]) (fun _ => [(10, .arr 43 1 ((n : Int) / 16).toNat (fun _ => [.i .u64 0]))]) (fun i => i ≤ n % 16) (fun i => n % 16 - i) 0
    (Nat.zero_le _) ⟨⟨rfl, rfl, rfl, rfl, rfl, trivial⟩, ⟨⟨_, _, rfl, rfl, fun j _ => WL.rfl' _⟩, trivial⟩, rfl, by rw [hX]; intro k hk; cases hk⟩ ?_
  intro i g1
  have hi2 : 2 ^ i ≤ 2 ^ (n % 16) := Nat.pow_le_pow_right (by omega) g1
  by_cases hi : i < n % 16
  · clear hm
    repeat' (first |with_reducible (first |refine zah ?_|refine zaa ?_|refine zag ?_|refine zad ?_|refine zai ?_|refine zaf ?_|refine zao ?_)|refine zab rfl rfl True.intro ?_|((first |refine zac rfl ?_ ?_)<;>intro<;>try (first |(exfalso;omega)))|((first |refine zab rfl rfl ?_ ?_);focus (first |omega|((repeat' refine And.intro ?_ ?_)<;>omega)))|fail)
    refine ⟨i + 1, hi, by omega, ⟨rfl, rfl, rfl, ?_, rfl, trivial⟩, ⟨⟨_, _, rfl, rfl, fun j _ => WL.rfl' _⟩, trivial⟩, rfl, by rw [hX]; intro k hk; cases hk⟩
    show D.i .u64 (IntKind.u64.wrap (2 * ((2 ^ i : Nat) : Int))) = _
    rw [zar, show ((2 ^ (i + 1) : Nat) : Int) = 2 * ((2 ^ i : Nat) : Int) by rw [Nat.pow_succ]; omega]
    generalize 2 ^ i = t at hi2 ⊢
    congr 1
    omega
  · have hi : i = n % 16 := by omega
    subst hi
    repeat' (first |with_reducible (first |refine zah ?_|refine zaa ?_|refine zag ?_|refine zad ?_|refine zan ?_|refine zat ?_|refine zas ?_)|refine zab rfl rfl True.intro ?_|((first |refine zac rfl ?_ ?_)<;>intro<;>try (first |(exfalso;omega)))|((first |refine zab rfl rfl ?_ ?_|refine zav rfl rfl ?_ ?_);focus (first |omega|((repeat' refine And.intro ?_ ?_)<;>omega)|((repeat' refine And.intro ?_ ?_)<;>first |omega|rfl)))|refine zaB rfl ?_|refine zeL [4] 10 rfl ⟨rfl, trivial⟩ rfl ?_|refine zae (f := 189) rfl rfl Tryz.call189 rfl hm ?_|fail)
    have e : ((n : Int) / 16).toNat = n / 16 := by omega
    rw [e]
    refine zcK _ _ _ _ (by simp [upG]) (fun i hi => ?_)
    have h2 := congrFun (znw .u64 (List.replicate (n / 16) 0) (mulG 65536 (2 ^ (n % 16)) 0 a) (wF .u64 (mulG 65536 (2 ^ (n % 16)) 0 a)) (fun _ _ => rfl)) i
    rw [List.length_replicate] at h2
    unfold upG
    rw [← h2]
    unfold catF
    split
    · rename_i h3
      simp [wF, List.getD_eq_getElem?_getD, h3]
    · rfl
theorem zrz (k : IntKind) (l : List Nat) (p x : Nat) (j : Nat) (hp : p < l.length) : putF (wF k l) p (putCells (wF k l p) 0 [.i k (x : Int)]) j = wF k (l.set p x) j := by
  unfold putF putCells
  split
  · rename_i h
    subst h
    simp [wF, List.getD_eq_getElem?_getD, hp]
  · rename_i h
    simp [wF, List.getD_eq_getElem?_getD, Ne.symm h]
theorem zny (B : Nat) : ∀ (l : List Nat) (p x : Nat), p < l.length → val B (l.set p x) + B ^ p * l.getD p 0 = val B l + B ^ p * x
  | [], _, _, h => by simp at h
  | w :: r, 0, x, _ => by simp [val]; omega
  | w :: r, p + 1, x, h => by
    have ih := zny B r p x (by simpa using h)
    simp only [List.set_cons_succ, val, List.getD_cons_succ, Nat.pow_succ]
    have e1 : w + B * val B (r.set p x) + B ^ p * B * r.getD p 0 = w + B * (val B (r.set p x) + B ^ p * r.getD p 0) := by grind
    have e2 : w + B * val B r + B ^ p * B * x = w + B * (val B r + B ^ p * x) := by grind
    rw [e1, e2, ih]
theorem zqF {B : Nat} {l : List Nat} (h : wsm B l) (p x : Nat) (hx : x < B) : wsm B (l.set p x) := fun w hw => by
  rcases List.mem_or_eq_of_mem_set hw with h1 | h1
  · exact h w h1
  · omega
theorem zoC (B : Nat) (l : List Nat) (i : Nat) : val B (l.take (i + 1)) = val B (l.take i) + B ^ i * l.getD i 0 := by
  by_cases h : i < l.length
  · rw [List.take_add_one, zbV, List.getD_eq_getElem?_getD, List.getElem?_eq_getElem h]
    simp [val, Nat.min_eq_left (Nat.le_of_lt h)]
  · rw [List.take_of_length_le (by omega), List.take_of_length_le (by omega), zey h]
    simp
theorem znC {B c s x y p k i V W T : Nat} (h : V + B ^ (k + i) * c = W + B ^ k * T) (hs : s = c + x + y) (hp : p = k + i) {V' : Nat} (hv : V' + B ^ p * x = V + B ^ p * (s % B)) :
    V' + B ^ (k + (i + 1)) * (s / B) = W + B ^ k * (T + B ^ i * y) := by
  subst hp
  have hd := Nat.mod_add_div s B
  have e1 : B ^ (k + (i + 1)) = B ^ (k + i) * B := by rw [← Nat.add_assoc, Nat.pow_succ]
  have e2 : B ^ k * (T + B ^ i * y) = B ^ k * T + B ^ (k + i) * y := by rw [Nat.pow_add]; grind
  rw [e1, e2]
  have e3 : B ^ (k + i) * s = B ^ (k + i) * (s % B) + B ^ (k + i) * B * (s / B) := by
    conv => lhs; rw [← hd]
    grind
  have e4 : B ^ (k + i) * s = B ^ (k + i) * c + B ^ (k + i) * x + B ^ (k + i) * y := by
    rw [hs]
    grind
  omega
def dig (B : Nat) : Nat → Nat → List Nat
  | 0, _ => []
  | n + 1, v => v % B :: dig B n (v / B)
theorem znI {B : Nat} : ∀ {l : List Nat}, wsm B l → dig B l.length (val B l) = l
  | [], _ => rfl
  | w :: r, h => by
    obtain ⟨h1, h2⟩ := zaP.1 h
    have h0 : 0 < B := by omega
    have e1 : (w + B * val B r) % B = w := by rw [Nat.add_mul_mod_self_left, Nat.mod_eq_of_lt h1]
    have e2 : (w + B * val B r) / B = val B r := by rw [Nat.add_mul_div_left _ _ h0, Nat.div_eq_of_lt h1, Nat.zero_add]
    simp only [val, List.length_cons, dig, e1, e2, znI h2]
theorem zpB {B : Nat} (hB : 0 < B) : ∀ (n v : Nat), v < B ^ n → val B (dig B n v) = v ∧ wsm B (dig B n v) ∧ (dig B n v).length = n
  | 0, v, h => by
    have : v = 0 := by simpa using h
    subst this
    exact ⟨rfl, zcl B, rfl⟩
  | n + 1, v, h => by
    have h2 : v / B < B ^ n := by
      rw [Nat.div_lt_iff_lt_mul hB]
      rw [Nat.pow_succ] at h
      exact h
    obtain ⟨i1, i2, i3⟩ := zpB hB n (v / B) h2
    refine ⟨?_, zaP.2 ⟨Nat.mod_lt _ hB, i2⟩, by simp [dig, i3]⟩
    simp only [dig, val, i1]
    exact Nat.mod_add_div v B
theorem zfJ {a : List Nat} {m0 : Nat} (ha : wsm 65536 a) (hm0 : m0 < 18446744073709551616) : val 65536 a * m0 < 65536 ^ (a.length + 4) := by
  have h := zjt ha
  rw [Nat.pow_add]
  have e : (65536 : Nat) ^ 4 = 18446744073709551616 := by decide
  rw [e]
  have h2 : val 65536 a * m0 ≤ val 65536 a * 18446744073709551616 := Nat.mul_le_mul_left _ (by omega)
  have h3 : val 65536 a * 18446744073709551616 < 65536 ^ a.length * 18446744073709551616 := Nat.mul_lt_mul_of_pos_right h (by omega)
  omega
set_option maxHeartbeats 1000000 in
theorem zoF (a : List Nat) (m0 : Nat) (ha : wsm 65536 a) (hm0 : m0 < 18446744073709551616) (h1 : a.length ≤ 1000000) :
    Ctr Tryz.prog 192 [slW .u64 a, .i .u64 m0] (slW .u64 (dig 65536 (a.length + 5) (val 65536 a * m0))) := by
  have hbd := zfJ ha hm0
  refine zax Tryz.func192 rfl Tryz.ntmps192 Tryz.results192 rfl rfl fun X hL hX => ?_
  repeat' (first |with_reducible (first |refine zah ?_|refine zaa ?_|refine zag ?_|refine zad ?_|refine zaf ?_)|refine zab rfl rfl True.intro ?_|((first |refine zab rfl rfl ?_ ?_|refine zav rfl rfl ?_ ?_);focus (first |omega|((repeat' refine And.intro ?_ ?_)<;>omega)|((repeat' refine And.intro ?_ ?_)<;>first |omega|rfl)))|fail)
  have e0 : (List.replicate (a.length + 5) 0).length = a.length + 5 := by simp
  refine T.loop hL (fun x : Nat × Nat × List Nat => [(0, slW .u64 a), (1, .i .u64 x.2.1), (5, .ah 13 1 (a.length + 5)), (6, .i .i64 x.1)]) (fun x => [(13, .arr 43 1 (a.length + 5) (wF .u64 x.2.2))])
    (fun x => x.1 ≤ 4 ∧ x.2.1 < 65536 ^ (4 - x.1) ∧ x.2.2.length = a.length + 5 ∧ wsm 65536 x.2.2 ∧ val 65536 x.2.2 + 65536 ^ x.1 * (val 65536 a * x.2.1) = val 65536 a * m0) (fun x => 4 - x.1) (0, m0, List.replicate (a.length + 5) 0)
    ⟨Nat.zero_le _, hm0, e0, zff (by omega) _, by have := zdu 65536 (a.length + 5) []; simp [val] at this; simp [this]⟩
    ⟨⟨rfl, rfl, by rw [show ((a.length : Int) + 5).toNat = a.length + 5 by omega]; rfl, rfl, trivial⟩, ⟨⟨_, _, rfl, by omega, fun j hj => WL.of_eq ?_⟩, trivial⟩, rfl, by rw [hX]; intro k hk; cases hk⟩ ?_
  · simp [wF, List.getD_eq_getElem?_getD, hj]
  rintro ⟨k, m, out⟩ ⟨g1, g2, g3, g4, g5⟩
  dsimp only at g1 g2 g3 g4 g5 ⊢
  by_cases hk : k < 4
  · have hm64 : m < 18446744073709551616 := Nat.lt_of_lt_of_le g2 (Nat.le_trans (Nat.pow_le_pow_right (by omega) (show 4 - k ≤ 4 by omega)) (by decide))
    have c1 := zcC a (m % 65536) 0 ha (by omega) (by omega) (by omega)
    have lp := zbc 65536 (m % 65536) a 0
    have wp := zbr (B := 65536) (m := m % 65536) (by omega) a 0 (by omega) ha
    have vp : val 65536 (mulG 65536 (m % 65536) 0 a) = val 65536 a * (m % 65536) := zbQ 65536 (m % 65536) a 0
    generalize mulG 65536 (m % 65536) 0 a = part at c1 lp wp vp
    repeat' (first |with_reducible (first |refine zah ?_|refine zaa ?_|refine zag ?_|refine zad ?_|refine zai ?_|refine zaf ?_)|refine zab rfl rfl True.intro ?_|((first |refine zac rfl ?_ ?_)<;>intro<;>try (first |(exfalso;omega)))|((first |refine zab rfl rfl ?_ ?_);focus (first |omega|((repeat first |rw [zar]);(repeat' refine And.intro ?_ ?_)<;>omega)))|refine zae (f := 189) rfl rfl Tryz.call189 rfl c1 ?_|fail)
    refine T.loop hL (fun x : Nat × Nat × List Nat => [(0, slW .u64 a), (1, .i .u64 ((m : Int) / 65536)), (5, .ah 13 1 (a.length + 5)), (6, .i .i64 k), (7, slW .u64 part), (8, .i .u64 x.2.1), (9, .i .i64 x.1)]) (fun x => [(13, .arr 43 1 (a.length + 5) (wF .u64 x.2.2))])
      (fun x => x.1 ≤ a.length + 5 - k ∧ x.2.1 < 2 ∧ x.2.2.length = a.length + 5 ∧ wsm 65536 x.2.2 ∧ val 65536 x.2.2 + 65536 ^ (k + x.1) * x.2.1 = val 65536 out + 65536 ^ k * val 65536 (part.take x.1)) (fun x => a.length + 5 - k - x.1) (0, 0, out)
      ⟨Nat.zero_le _, Nat.zero_lt_two, g3, g4, by simp [val]⟩
      ⟨⟨rfl, rfl, rfl, rfl, rfl, rfl, rfl, trivial⟩, ⟨⟨_, _, rfl, rfl, fun j _ => WL.rfl' _⟩, trivial⟩, rfl, by rw [hX]; intro k hk; cases hk⟩ ?_
    rintro ⟨i, c, ou⟩ ⟨k1, k2, k3, k4, k5⟩
    dsimp only at k1 k2 k3 k4 k5 ⊢
    have ho := zec k4 (by omega) (k + i)
    have hp := zec wp (by omega) i
    have hik : ((i : Int) + k).toNat = k + i := by omega
    have leaf : ∀ (s : Int) (fr : Fr) (ow : Ow), i < a.length + 5 - k → s = ((c + ou.getD (k + i) 0 + part.getD i 0 : Nat) : Int) →
        leFr fr [(0, slW .u64 a), (1, .i .u64 ((m : Int) / 65536)), (5, .ah 13 1 (a.length + 5)), (6, .i .i64 k), (7, slW .u64 part), (8, .i .u64 (s / 65536)), (9, .i .i64 ((i : Int) + 1))] →
        look 13 ow = some (.arr 43 1 (a.length + 5) (putF (wF .u64 ou) ((i : Int) + k).toNat (putCells (wF .u64 ou ((i : Int) + k).toNat) 0 [.i .u64 (s % 65536)]))) →
        ∃ y : Nat × Nat × List Nat, (y.1 ≤ a.length + 5 - k ∧ y.2.1 < 2 ∧ y.2.2.length = a.length + 5 ∧ wsm 65536 y.2.2 ∧ val 65536 y.2.2 + 65536 ^ (k + y.1) * y.2.1 = val 65536 out + 65536 ^ k * val 65536 (part.take y.1)) ∧ a.length + 5 - k - y.1 < a.length + 5 - k - i ∧
          Le X fr ow [(0, slW .u64 a), (1, .i .u64 ((m : Int) / 65536)), (5, .ah 13 1 (a.length + 5)), (6, .i .i64 k), (7, slW .u64 part), (8, .i .u64 y.2.1), (9, .i .i64 y.1)] [(13, .arr 43 1 (a.length + 5) (wF .u64 y.2.2))] := by
      rintro s fr ow hi hs ⟨q1, q2, q3, q4, q5, q6, q7, _⟩ hl
      have hv := zny 65536 ou (k + i) ((c + ou.getD (k + i) 0 + part.getD i 0) % 65536) (by omega)
      refine ⟨(i + 1, (c + ou.getD (k + i) 0 + part.getD i 0) / 65536, ou.set (k + i) ((c + ou.getD (k + i) 0 + part.getD i 0) % 65536)), ⟨by dsimp only; omega, by dsimp only; omega, by simp [k3], zqF k4 _ _ (by omega), ?_⟩, by dsimp only; omega,
        ⟨q1, q2, q3, q4, q5, ?_, q7, trivial⟩, ⟨⟨_, _, hl, rfl, fun j _ => WL.of_eq ?_⟩, trivial⟩, rfl, by rw [hX]; intro k hk; cases hk⟩
      · dsimp only
        rw [zoC]
        exact znC k5 rfl rfl hv
      · rw [q6, hs]
        rfl
      · rw [hik, hs]
        exact zrz .u64 ou (k + i) _ j (by omega)
    have fin : i = a.length + 5 - k → ∀ (fr : Fr) (ow : Ow), leFr fr [(0, slW .u64 a), (1, .i .u64 ((m : Int) / 65536)), (5, .ah 13 1 (a.length + 5)), (6, .i .i64 ((k : Int) + 1))] → look 13 ow = some (.arr 43 1 (a.length + 5) (wF .u64 ou)) →
        ∃ y : Nat × Nat × List Nat, (y.1 ≤ 4 ∧ y.2.1 < 65536 ^ (4 - y.1) ∧ y.2.2.length = a.length + 5 ∧ wsm 65536 y.2.2 ∧ val 65536 y.2.2 + 65536 ^ y.1 * (val 65536 a * y.2.1) = val 65536 a * m0) ∧ 4 - y.1 < 4 - k ∧
          Le X fr ow [(0, slW .u64 a), (1, .i .u64 y.2.1), (5, .ah 13 1 (a.length + 5)), (6, .i .i64 y.1)] [(13, .arr 43 1 (a.length + 5) (wF .u64 y.2.2))] := by
      rintro hi fr ow ⟨q1, q2, q3, q4, _⟩ hl
      have hsum : k + i = a.length + 5 := by omega
      rw [hsum, List.take_of_length_le (show part.length ≤ i by omega), vp] at k5
      have em : 65536 ^ k * (val 65536 a * m) = 65536 ^ k * (val 65536 a * (m % 65536)) + 65536 ^ (k + 1) * (val 65536 a * (m / 65536)) := by
        have hd := Nat.mod_add_div m 65536
        conv => lhs; rw [← hd]
        rw [Nat.pow_succ]
        grind
      have hc : c = 0 := by
        refine Nat.eq_zero_of_not_pos fun hc => ?_
        have h3 : 65536 ^ (a.length + 5) * 1 ≤ 65536 ^ (a.length + 5) * c := Nat.mul_le_mul_left _ hc
        have h4 : 65536 ^ (a.length + 5) = 65536 ^ (a.length + 4) * 65536 := Nat.pow_succ ..
        omega
      subst hc
      rw [Nat.mul_zero, Nat.add_zero] at k5
      refine ⟨(k + 1, m / 65536, ou), ⟨by dsimp only; omega, ?_, k3, k4, ?_⟩, by dsimp only; omega, ⟨q1, q2, q3, q4, trivial⟩, ⟨⟨_, _, hl, rfl, fun j _ => WL.rfl' _⟩, trivial⟩, rfl, by rw [hX]; intro k hk; cases hk⟩
      · dsimp only
        rw [Nat.div_lt_iff_lt_mul (by omega), ← Nat.pow_succ, show (4 - (k + 1)).succ = 4 - k by omega]
        exact g2
      · dsimp only
        omega
    clear c1 g5
    repeat' (first |with_reducible (first |refine zah ?_|refine zaa ?_|refine zag ?_|refine zad ?_|refine zai ?_|refine zat ?_|refine zaf ?_|refine zao ?_|refine zas ?_)|refine zab rfl rfl True.intro ?_|((first |refine zac rfl ?_ ?_)<;>intro)|((first |refine zab rfl rfl ?_ ?_|refine zaH rfl ?_ ?_);focus (first |omega|exact le_ rfl|((repeat first |rw [zar]);(repeat' refine And.intro ?_ ?_)<;>omega)|((repeat' refine And.intro ?_ ?_)<;>first |omega|rfl|exact Nat.le_refl _)))|refine zaB rfl ?_|fail)
    · refine leaf _ _ _ (by omega) ?_ ⟨rfl, rfl, rfl, rfl, rfl, rfl, rfl, trivial⟩ rfl
      rw [hik, Int.toNat_natCast]
      simp only [zar]
      omega
    · refine leaf _ _ _ (by omega) ?_ ⟨rfl, rfl, rfl, rfl, rfl, rfl, rfl, trivial⟩ rfl
      rw [hik, zey (l := part) (by omega)]
      simp only [zar]
      omega
    · exact fin (by omega) _ _ ⟨rfl, rfl, rfl, rfl, trivial⟩ rfl
  · have hk4 : k = 4 := by omega
    subst hk4
    have hm : m = 0 := by
      have : m < 1 := by simpa using g2
      omega
    subst hm
    rw [Nat.mul_zero, Nat.mul_zero, Nat.add_zero] at g5
    have hd := znI g4
    rw [g3, g5] at hd
    repeat' (first |with_reducible (first |refine zah ?_|refine zaa ?_|refine zag ?_|refine zad ?_|refine zan ?_|refine zat ?_|refine zas ?_)|refine zab rfl rfl True.intro ?_|refine zal rfl ?_|refine zaB rfl ?_|refine zeL [4] 13 rfl ⟨rfl, trivial⟩ rfl ?_|fail)
    rw [hd, ← g3]
    exact .refl _

set_option maxHeartbeats 1000000 in
theorem zdU (neg : Bool) (s : List UInt8) (e : Int) (h : RightP neg s e) : Ctr Tryz.prog 137 [dcD neg s e] (.tu [slW .u64 (ratN 65536 s e), slW .u64 (ratD 65536 e)]) := by
  obtain ⟨hs, he1, he2, hd⟩ := h.bounds
  refine zax Tryz.func137 rfl Tryz.ntmps137 Tryz.results137 rfl rfl fun X hL hX => ?_
  repeat' (first |with_reducible (first |refine zah ?_|refine zaa ?_|refine zag ?_|refine zad ?_|refine zaf ?_)|refine zab rfl rfl True.intro ?_|((first |refine zav rfl rfl ?_ ?_);focus (first |((repeat' refine And.intro ?_ ?_)<;>omega)|((repeat' refine And.intro ?_ ?_)<;>first |omega|rfl)))|fail)
  refine T.weakF 4 (slW .u64 []) (.nil 1 _) ?_
  refine T.shutF 5 _ rfl ?_
  refine T.weakF 5 (slW .u64 [1]) (zcK .u64 [1] 1 _ rfl fun i hi => by rw [show i = 0 by omega]; rfl) ?_
  refine T.loop hL (fun i : Nat => [(1, .pv 1 0), (4, slW .u64 (dgW 65536 (s.take i))), (5, slW .u64 [1]), (6, .i .i64 i)]) (fun _ => [(1, .var [.b neg, .s s, .i .i64 e])]) (fun i => i ≤ s.length) (fun i => s.length - i) 0
    (Nat.zero_le _) ⟨⟨rfl, rfl, rfl, rfl, trivial⟩, ⟨rfl, trivial⟩, rfl, by rw [hX]; intro k hk; cases hk⟩ ?_
  intro i g1
  have hw := zjY (B := 65536) (by omega) i (s.take i) (by simp; omega)
  have hr := zaD s i
  have c1 := zcC (dgW 65536 (s.take i)) 10 ((s.getD i 0).toNat - 48) hw.2.1 (by omega) (by have := (s.getD i 0).toNat_lt; omega) (by omega)
  have e1 : i < s.length → IntKind.u64.wrap (IntKind.u64.wrap (at' s i) - 48) = (((s.getD i 0).toNat - 48 : Nat) : Int) := fun hi => by
    obtain ⟨k1, k2, k3⟩ := zpo hd i hi
    rw [zar, zar]
    omega
  repeat' (first |with_reducible (first |refine zah ?_|refine zaa ?_|refine zag ?_|refine zad ?_|refine zai ?_|refine zat ?_|refine zaf ?_|refine zao ?_|refine zas ?_)|refine zab rfl rfl True.intro ?_|((first |refine zac rfl ?_ ?_)<;>intro)|((first |refine zab rfl rfl ?_ ?_);focus (first |omega|exact le_ rfl|((repeat' refine And.intro ?_ ?_)<;>omega)))|refine zaB rfl ?_|refine zae (f := 189) rfl rfl Tryz.call189 rfl (by rw [e1 (by omega)];exact c1) ?_|fail)
  · have hi : i < s.length := by omega
    refine ⟨i + 1, by omega, by omega, ⟨rfl, ?_, rfl, rfl, trivial⟩, ⟨rfl, trivial⟩, rfl, by rw [hX]; intro k hk; cases hk⟩
    rw [zcA s i hi, zgV]
    rfl
  have hi : i = s.length := by omega
  subst hi
  simp only [List.take_length] at hw c1 ⊢
  refine T.loop hL (fun k : Nat => [(1, .pv 1 0), (4, slW .u64 (mulN 65536 k (dgW 65536 s))), (5, slW .u64 [1]), (7, .i .i64 k)]) (fun _ => [(1, .var [.b neg, .s s, .i .i64 e])]) (fun k => k ≤ e.toNat) (fun k => e.toNat - k) 0
    (Nat.zero_le _) ⟨⟨rfl, rfl, rfl, rfl, trivial⟩, ⟨rfl, trivial⟩, rfl, by rw [hX]; intro k hk; cases hk⟩ ?_
  intro k g2
  have hm := zdh (B := 65536) (by omega) k _ hw.2.1
  have c2 := zcC (mulN 65536 k (dgW 65536 s)) 10 0 hm.2.1 (by omega) (by omega) (by omega)
  clear c1 e1
  repeat' (first |with_reducible (first |refine zah ?_|refine zaa ?_|refine zag ?_|refine zad ?_|refine zai ?_|refine zat ?_|refine zaf ?_|refine zao ?_|refine zas ?_)|refine zab rfl rfl True.intro ?_|((first |refine zac rfl ?_ ?_)<;>intro)|((first |refine zab rfl rfl ?_ ?_);focus (first |omega|exact le_ rfl|((repeat' refine And.intro ?_ ?_)<;>omega)))|refine zaB rfl ?_|refine zae (f := 189) rfl rfl Tryz.call189 rfl c2 ?_|fail)
  · exact ⟨k + 1, by omega, by omega, ⟨rfl, rfl, rfl, rfl, trivial⟩, ⟨rfl, trivial⟩, rfl, by rw [hX]; intro k hk; cases hk⟩
  have hk : k = e.toNat := by omega
  subst hk
  refine T.loop hL (fun k : Nat => [(1, .pv 1 0), (4, slW .u64 (ratN 65536 s e)), (5, slW .u64 (mulN 65536 k [1])), (8, .i .i64 k)]) (fun _ => [(1, .var [.b neg, .s s, .i .i64 e])]) (fun k => k ≤ (-e).toNat) (fun k => (-e).toNat - k) 0
    (Nat.zero_le _) ⟨⟨rfl, rfl, rfl, rfl, trivial⟩, ⟨rfl, trivial⟩, rfl, by rw [hX]; intro k hk; cases hk⟩ ?_
  intro k g2
  have hm := zdh (B := 65536) (by omega) k [1] (zaP.2 ⟨by omega, zcl _⟩)
  have c2 := zcC (mulN 65536 k [1]) 10 0 hm.2.1 (by omega) (by omega) (by have := hm.2.2.2; simp at this; omega)
  repeat' (first |with_reducible (first |refine zah ?_|refine zaa ?_|refine zag ?_|refine zad ?_|refine zan ?_|refine zai ?_|refine zat ?_|refine zaf ?_|refine zao ?_|refine zas ?_)|refine zab rfl rfl True.intro ?_|((first |refine zac rfl ?_ ?_)<;>intro)|((first |refine zab rfl rfl ?_ ?_);focus (first |omega|exact le_ rfl|((repeat' refine And.intro ?_ ?_)<;>omega)))|refine zaB rfl ?_|refine zaq rfl ?_|refine zae (f := 189) rfl rfl Tryz.call189 rfl c2 ?_|fail)
  · exact ⟨k + 1, by omega, by omega, ⟨rfl, rfl, rfl, rfl, trivial⟩, ⟨rfl, trivial⟩, rfl, by rw [hX]; intro k hk; cases hk⟩
  have hk : k = (-e).toNat := by omega
  subst hk
  rfl
theorem zbu (a b : List Nat) (m : Nat) (e : Int) (ha : wsm 65536 a) (hb : wsm 65536 b) (hm : m < 18446744073709551616) (la : a.length ≤ 10000) (lb : b.length ≤ 10000) (h1 : -4096 ≤ e) (h2 : e ≤ 4096) :
    Ctr Tryz.prog 138 [slW .u64 a, slW .u64 b, .i .u64 m, .i .i64 e] (.i .i64 (cmpQ (val 65536 a) (val 65536 b) m e)) := by
  have c1 := zoF b m hb hm (by omega)
  have hbd := zfJ hb hm
  obtain ⟨m1, m2, m3⟩ := zpB (B := 65536) (by omega) (b.length + 5) (val 65536 b * m) (Nat.lt_of_lt_of_le hbd (Nat.pow_le_pow_right (by omega) (by omega)))
  generalize dig 65536 (b.length + 5) (val 65536 b * m) = d at c1 m1 m2 m3
  obtain ⟨p1, p2, p3⟩ := zpv d e.toNat m2
  have q1 := zpO d e.toNat m2 (by omega) (by omega)
  have r1 := zkb a (upG d e.toNat) ha p2 (by omega) (by omega)
  obtain ⟨s1, s2, s3⟩ := zpv a (-e).toNat ha
  have q2 := zpO a (-e).toNat ha (by omega) (by omega)
  have r2 := zkb (upG a (-e).toNat) d s2 m2 (by omega) (by omega)
  clear hbd
  refine zax Tryz.func138 rfl Tryz.ntmps138 Tryz.results138 rfl rfl fun X hL hX => ?_
  repeat' (first |with_reducible (first |refine zah ?_|refine zaa ?_|refine zag ?_|refine zad ?_|refine zan ?_|refine zai ?_|refine zam ?_)|refine zab rfl rfl True.intro ?_|((first |refine zac rfl ?_ ?_)<;>intro)|((first |refine zab rfl rfl ?_ ?_);focus (first |omega|((repeat' refine And.intro ?_ ?_)<;>omega)))|refine zaq rfl ?_|refine zae (f := 192) rfl rfl Tryz.call192 rfl c1 ?_|refine zae (f := 191) rfl rfl Tryz.call191 rfl (by rw [show e = ((e.toNat : Nat) : Int) by omega];exact q1) ?_|refine zae (f := 191) rfl rfl Tryz.call191 rfl (by rw [show -e = (((-e).toNat : Nat) : Int) by omega];exact q2) ?_|refine zae (f := 190) rfl rfl Tryz.call190 rfl r1 ?_|refine zae (f := 190) rfl rfl Tryz.call190 rfl r2 ?_|fail)
  · unfold cmpQ
    rw [if_pos ‹_›, p1, m1]
  · unfold cmpQ
    rw [if_neg ‹_›, s1, m1]

theorem zeU (neg : Bool) (s : List UInt8) (e : Int) (h : RightP neg s e) (o : Int) (ho : (overB (numV s e) (denV e) ∧ o = 8) ∨ (¬ overB (numV s e) (denV e) ∧ o = 0)) : Ctr Tryz.prog 86 [dcD neg s e] (.i .i64 o) := by
  obtain ⟨b1, b2, b3, b4⟩ := h.bounds
  have c1 := zbB neg s e (by omega)
  rw [zaY.2 h] at c1
  have c2 := zdU neg s e h
  obtain ⟨n1, n2, n3, n4⟩ := zfE (B := 65536) (by omega) s e
  obtain ⟨d1, d2, d3, d4⟩ := zeH (B := 65536) (by omega) e
  have c3 := zbu (ratN 65536 s e) (ratD 65536 e) 18014398509481983 970 n2 d2 (by omega) (by omega) (by omega) (by omega) (by omega)
  rw [n1, d1] at c3
  unfold overB at ho
  generalize cmpQ (numV s e) (denV e) 18014398509481983 970 = q at c3 ho
  refine zax Tryz.func86 rfl Tryz.ntmps86 Tryz.results86 rfl rfl fun X hL hX => ?_
  repeat' (first |with_reducible (first |refine zah ?_|refine zaa ?_|refine zag ?_|refine zad ?_|refine zan ?_|refine zai ?_|refine zam ?_)|refine zab rfl rfl True.intro ?_|refine zal rfl ?_|((first |refine zac rfl ?_ ?_)<;>intro)|((first |refine zab rfl rfl ?_ ?_|refine zav rfl rfl ?_ ?_);focus (first |exact le_ rfl|((repeat' refine And.intro ?_ ?_)<;>omega)|((repeat' refine And.intro ?_ ?_)<;>first |rfl)))|refine zaq rfl ?_|refine zae (f := 135) rfl rfl Tryz.call135 rfl c1 ?_|refine zae (f := 137) rfl rfl Tryz.call137 rfl c2 ?_|refine zae (f := 138) rfl rfl Tryz.call138 rfl c3 ?_|fail)
  · rw [show o = 8 by omega]
  · rw [show o = 0 by omega]
set_option maxHeartbeats 1000000 in
theorem zji (neg : Bool) (s : List UInt8) (e : Int) (h : RightP neg s e) (b : Nat) (hb : b < 18446744073709551616) (hx : xB (b % 9223372036854775808) < 2047) (hn : decide (9223372036854775808 ≤ b) = neg) :
    Ctr Tryz.prog 140 [dcD neg s e, .i .u64 b] (.b (nearB (numV s e) (denV e) (b % 9223372036854775808))) := by
  obtain ⟨b1, b2, b3, b4⟩ := h.bounds
  have c1 := zdW b hb
  have hp : partsD b = .tu [.b neg, .i .u64 (mB (b % 9223372036854775808)), .i .i64 (eB (b % 9223372036854775808)), .b true] := by
    unfold partsD
    rw [if_neg (by rw [← zgB]; omega), hn]
  rw [hp] at c1
  have c2 := zdU neg s e h
  obtain ⟨n1, n2, n3, n4⟩ := zfE (B := 65536) (by omega) s e
  obtain ⟨d1, d2, d3, d4⟩ := zeH (B := 65536) (by omega) e
  have hm := zld (b % 9223372036854775808)
  have he1 := zpN (b % 9223372036854775808)
  have he2 := zkX (b % 9223372036854775808) (by omega)
  unfold nearB
  generalize mB (b % 9223372036854775808) = m at *
  generalize eB (b % 9223372036854775808) = x at *
  have c3 := zbu (ratN 65536 s e) (ratD 65536 e) (2 * m + 1) (x - 1) n2 d2 (by omega) (by omega) (by omega) (by omega) (by omega)
  have c4 := zbu (ratN 65536 s e) (ratD 65536 e) (2 * m - 1) (x - 1) n2 d2 (by omega) (by omega) (by omega) (by omega) (by omega)
  have c5 := zbu (ratN 65536 s e) (ratD 65536 e) (4 * m - 1) (x - 2) n2 d2 (by omega) (by omega) (by omega) (by omega) (by omega)
  rw [n1, d1] at c3 c4 c5
  have e1 : ∀ _ : Unit, IntKind.u64.wrap (IntKind.u64.wrap (2 * (m : Int)) + 1) = ((2 * m + 1 : Nat) : Int) := fun _ => by
    rw [zar, zar]
    omega
  have e2 : ¬ (m : Int) = 0 → IntKind.u64.wrap (IntKind.u64.wrap (2 * (m : Int)) - 1) = ((2 * m - 1 : Nat) : Int) := fun _ => by
    rw [zar, zar]
    omega
  have e3 : ¬ (m : Int) = 0 → IntKind.u64.wrap (IntKind.u64.wrap (4 * (m : Int)) - 1) = ((4 * m - 1 : Nat) : Int) := fun _ => by
    rw [zar, zar]
    omega
  generalize cmpQ (numV s e) (denV e) (2 * m + 1) (x - 1) = q1 at *
  generalize cmpQ (numV s e) (denV e) (2 * m - 1) (x - 1) = q2 at *
  generalize cmpQ (numV s e) (denV e) (4 * m - 1) (x - 2) = q3 at *
  clear hn hp hx n1 d1
  refine zax Tryz.func140 rfl Tryz.ntmps140 Tryz.results140 rfl rfl fun X hL hX => ?_
  repeat' (first |with_reducible (first |refine zah ?_|refine zaa ?_|refine zag ?_|refine zad ?_|refine zan ?_|refine zai ?_|refine zam ?_)|refine zab rfl rfl True.intro ?_|refine zap rfl rfl rfl ?_|refine zbP rfl rfl rfl ?_|refine zaj rfl rfl rfl rfl True.intro ?_|refine zau rfl ?_|refine zal rfl ?_|((first |refine zac rfl ?_ ?_|refine zaR rfl ?_ ?_|refine zaS rfl ?_ ?_|refine zak rfl rfl ?_ ?_|refine zaT rfl rfl ?_ ?_)<;>intro<;>try (first |(rename_i hz;exact tf_ hz)))|((first |refine zab rfl rfl ?_ ?_|refine zaj rfl rfl rfl rfl ?_ ?_|refine zav rfl rfl ?_ ?_);focus (first |omega|exact le_ rfl|((repeat' refine And.intro ?_ ?_)<;>omega)|((repeat' refine And.intro ?_ ?_)<;>first |rfl)))|refine zaq rfl ?_|refine zae (f := 139) rfl rfl Tryz.call139 rfl c1 ?_|refine zae (f := 137) rfl rfl Tryz.call137 rfl c2 ?_|refine zae (f := 138) rfl rfl Tryz.call138 rfl (by rw [e1 ()];exact c3) ?_|refine zae (f := 138) rfl rfl Tryz.call138 rfl (by rw [e2 ‹_›];exact c4) ?_|refine zae (f := 138) rfl rfl Tryz.call138 rfl (by rw [e3 ‹_›];exact c5) ?_|fail)
  all_goals
    clear c1 c2 c3 c4 c5 e1 e2 e3
    first
      | (exfalso; revert ‹_ = false›; simp; done)
      | (congr 1; rw [Bool.eq_iff_iff]; (repeat' split) <;> simp <;> omega)
      | (congr 1; rw [Bool.eq_iff_iff]; (repeat' split) <;> first | omega | (simp; done) | (simp; omega))

def wNum : Option Int → Int × Bool
  | none => (0, false)
  | some n => (n, true)
theorem zpG {m M : Nat} {e E : Int} (hv : m * 2 ^ e.toNat = M * 2 ^ E.toNat) (he : 0 < e) : 2 * m * 2 ^ (e - 1).toNat = M * 2 ^ E.toNat := by
  rw [← hv, show e.toNat = (e - 1).toNat + 1 by omega, Nat.pow_succ, Nat.mul_comm 2 m, Nat.mul_assoc, Nat.mul_comm 2]
set_option maxHeartbeats 2000000 in
theorem zlu (b : Nat) (hb : b < 18446744073709551616) : Ctr Tryz.prog 91 [.i .u64 b] (.tu [.i .i64 (wNum (wholeF b)).1, .b (wNum (wholeF b)).2]) := by
  have c1 := zdW b hb
  by_cases hx : xP b = 2047
  · have e1 : partsD b = .tu [.b false, .i .u64 0, .i .i64 0, .b false] := if_pos hx
    rw [e1] at c1
    rw [zfS hx]
    show Ctr _ _ _ (.tu [.i .i64 0, .b false])
    clear e1 hx
    refine zax Tryz.func91 rfl Tryz.ntmps91 Tryz.results91 rfl rfl fun X hL hX => ?_
    repeat' (first |with_reducible (first |refine zah ?_|refine zaa ?_|refine zag ?_|refine zad ?_|refine zan ?_|refine zam ?_)|refine zab rfl rfl True.intro ?_|refine zau rfl ?_|refine zaq rfl ?_|refine zae (f := 139) rfl rfl Tryz.call139 rfl c1 ?_|fail)
    all_goals rfl
  · have e1 : partsD b = .tu [.b (decide (9223372036854775808 ≤ b)), .i .u64 (mB (b % 9223372036854775808)), .i .i64 (eB (b % 9223372036854775808)), .b true] := if_neg hx
    rw [e1] at c1
    rw [zgc hx]
    generalize hR : wNum ((whF (hv (mB (b % 9223372036854775808)) (eB (b % 9223372036854775808)))).map fun n => if 9223372036854775808 ≤ b then -(n : Int) else n) = R
    have hx2 : xB (b % 9223372036854775808) < 2047 := by
      rw [zgB]
      unfold xP at hx ⊢
      omega
    have hm := zld (b % 9223372036854775808)
    have he1 := zpN (b % 9223372036854775808)
    have he2 := zkX (b % 9223372036854775808) (by omega)
    have hg : (decide (9223372036854775808 ≤ b)) = true ↔ 9223372036854775808 ≤ b := decide_eq_true_iff
    generalize hneg : decide (9223372036854775808 ≤ b) = neg at *
    generalize hM : mB (b % 9223372036854775808) = m0 at *
    generalize hE : eB (b % 9223372036854775808) = e0 at *
    refine zax Tryz.func91 rfl Tryz.ntmps91 Tryz.results91 rfl rfl fun X hL hX => ?_
    clear e1 hx hx2 hM hE hneg
    repeat' (first |with_reducible (first |refine zah ?_|refine zaa ?_|refine zag ?_|refine zad ?_|refine zai ?_|refine zaf ?_)|refine zab rfl rfl True.intro ?_|refine zal rfl ?_|refine zae (f := 139) rfl rfl Tryz.call139 rfl c1 ?_|fail)
    refine T.loop hL (fun y : Nat × Int => [(4, .b neg), (5, .i .u64 (y.1 : Nat)), (6, .i .i64 y.2)]) (fun _ => []) (fun y => hv y.1 y.2 = hv m0 e0 ∧ y.1 < 9007199254740992 ∧ -1074 ≤ y.2 ∧ y.2 ≤ 1000) (fun y => y.1) (m0, e0)
      ⟨rfl, hm, he1, by dsimp only; omega⟩ ⟨⟨rfl, rfl, rfl, trivial⟩, trivial, rfl, by rw [hX]; intro k hk; cases hk⟩ ?_
    rintro ⟨m, e⟩ ⟨g1, g2, g3, g4⟩
    dsimp only at g1 g2 g3 g4 ⊢
    by_cases hc : e < 0 ∧ m % 2 = 0 ∧ 0 < m
    · have hst := zhm hc
      rw [g1] at hst
      clear g1 c1 hR
      repeat' (first |with_reducible (first |refine zah ?_|refine zaa ?_|refine zag ?_|refine zad ?_|refine zai ?_|refine zaf ?_|refine zao ?_)|refine zab rfl rfl True.intro ?_|refine zaj rfl rfl rfl rfl True.intro ?_|((first |refine zac rfl ?_ ?_|refine zak rfl rfl ?_ ?_)<;>intro<;>try (first |(exfalso;omega)))|((first |refine zab rfl rfl ?_ ?_|refine zaj rfl rfl rfl rfl ?_ ?_);focus (first |omega|((repeat first |rw [zar]);(repeat' refine And.intro ?_ ?_)<;>omega)))|fail)
      exact ⟨(m / 2, e + 1), ⟨hst.symm, by dsimp only; omega, by dsimp only; omega, by dsimp only; omega⟩, by dsimp only; omega, ⟨rfl, congrArg (D.i .u64) (by dsimp only; omega), rfl, trivial⟩, trivial, rfl, by rw [hX]; intro k hk; cases hk⟩
    · rw [zci hc] at g1
      rw [← g1] at hR
      clear g1 c1
      by_cases h0 : m = 0
      · subst h0
        have hz : (whF (0, e)).map (fun n => if 9223372036854775808 ≤ b then -(n : Int) else n) = some 0 := by
          rw [zgH]
          show some (if 9223372036854775808 ≤ b then -((0 : Nat) : Int) else ((0 : Nat) : Int)) = _
          split <;> rfl
        rw [hz] at hR
        subst hR
        clear hz hg
        repeat' (first |with_reducible (first |refine zah ?_|refine zaa ?_|refine zag ?_|refine zad ?_|refine zat ?_|refine zaf ?_|refine zas ?_)|refine zab rfl rfl True.intro ?_|refine zap rfl rfl rfl ?_|refine zaj rfl rfl rfl rfl True.intro ?_|refine zal rfl ?_|((first |refine zak rfl rfl ?_ ?_)<;>intro)|refine zaB rfl ?_|fail)
        all_goals
          refine T.loop hL (fun _ : Unit => [(4, .b neg), (5, .i .u64 0), (6, .i .i64 e)]) (fun _ => []) (fun _ => True) (fun _ => 0) () trivial ⟨⟨rfl, rfl, rfl, trivial⟩, trivial, rfl, by rw [hX]; intro k hk; cases hk⟩ ?_
          intro _ _
          repeat' (first |with_reducible (first |refine zah ?_|refine zaa ?_|refine zag ?_|refine zad ?_|refine zan ?_|refine zai ?_|refine zat ?_|refine zas ?_|refine zam ?_)|refine zab rfl rfl True.intro ?_|refine zap rfl rfl rfl ?_|refine zaj rfl rfl rfl rfl True.intro ?_|refine zal rfl ?_|((first |refine zep rfl ?_ ?_|refine zak rfl rfl ?_ ?_)<;>intro<;>try (first |(exfalso;omega)))|((first |refine zab rfl rfl ?_ ?_);focus (first |((repeat first |rw [wi6_]);(repeat' refine And.intro ?_ ?_)<;>omega)))|refine zaB rfl ?_|refine zaq rfl ?_|fail)
          all_goals rfl
      · by_cases h1 : e < 0
        · rw [ziH h0 h1] at hR
          subst hR
          clear hg
          repeat' (first |with_reducible (first |refine zah ?_|refine zaa ?_|refine zag ?_|refine zad ?_|refine zat ?_|refine zaf ?_|refine zas ?_)|refine zab rfl rfl True.intro ?_|refine zaj rfl rfl rfl rfl True.intro ?_|((first |refine zac rfl ?_ ?_|refine zak rfl rfl ?_ ?_)<;>intro<;>try (first |(exfalso;omega)))|((first |refine zaj rfl rfl rfl rfl ?_ ?_);focus (first |omega|((repeat' refine And.intro ?_ ?_)<;>omega)))|refine zaB rfl ?_|fail)
          all_goals
            refine T.loop hL (fun _ : Unit => [(4, .b neg), (5, .i .u64 (m : Nat)), (6, .i .i64 e)]) (fun _ => []) (fun _ => True) (fun _ => 0) () trivial ⟨⟨rfl, rfl, rfl, trivial⟩, trivial, rfl, by rw [hX]; intro k hk; cases hk⟩ ?_
            intro _ _
            repeat' (first |with_reducible (first |refine zah ?_|refine zaa ?_|refine zag ?_|refine zad ?_|refine zan ?_|refine zat ?_|refine zas ?_|refine zam ?_)|refine zab rfl rfl True.intro ?_|refine zap rfl rfl rfl ?_|refine zaj rfl rfl rfl rfl True.intro ?_|refine zal rfl ?_|((first |refine zac rfl ?_ ?_|refine zak rfl rfl ?_ ?_)<;>intro<;>try (first |(exfalso;omega)))|refine zaB rfl ?_|refine zaq rfl ?_|fail)
            all_goals rfl
        · have hbig : 9007199254740992 < m * 2 ^ e.toNat → R = (0, false) := fun h => by
            rw [← hR, zgo h0 h1 h]
            rfl
          have hok : ¬ 9007199254740992 < m * 2 ^ e.toNat → R = wNum (some (if 9223372036854775808 ≤ b then -((m * 2 ^ e.toNat : Nat) : Int) else ((m * 2 ^ e.toNat : Nat) : Int))) := fun h => by
            rw [← hR, zlN h0 h1 h]
            rfl
          clear hR
          repeat' (first |with_reducible (first |refine zah ?_|refine zaa ?_|refine zag ?_|refine zad ?_|refine zat ?_|refine zaf ?_|refine zas ?_)|refine zab rfl rfl True.intro ?_|refine zap rfl rfl rfl ?_|refine zal rfl ?_|((first |refine zak rfl rfl ?_ ?_)<;>intro<;>try (first |(exfalso;omega)))|refine zaB rfl ?_|fail)
          all_goals
            refine T.loop hL (fun y : Nat × Int => [(4, .b neg), (5, .i .u64 (y.1 : Nat)), (6, .i .i64 y.2)]) (fun _ => []) (fun y => 0 < y.1 ∧ y.1 ≤ 18014398509481984 ∧ 0 ≤ y.2 ∧ y.2 ≤ 1000 ∧ y.1 * 2 ^ y.2.toNat = m * 2 ^ e.toNat) (fun y => y.2.toNat) (m, e)
              ⟨by dsimp only; omega, by dsimp only; omega, by dsimp only; omega, g4, rfl⟩ ⟨⟨rfl, rfl, rfl, trivial⟩, trivial, rfl, by rw [hX]; intro k hk; cases hk⟩ ?_
            rintro ⟨n, i⟩ ⟨q1, q2, q3, q4, q5⟩
            dsimp only at q1 q2 q3 q4 q5 ⊢
            by_cases hc2 : 0 < i ∧ n ≤ 9007199254740992
            · have hup := zpG q5 hc2.1
              have hw : IntKind.u64.wrap (2 * (n : Int)) = ((2 * n : Nat) : Int) := by
                rw [zar]
                omega
              clear hbig hok hg q5
              repeat' (first |with_reducible (first |refine zah ?_|refine zaa ?_|refine zag ?_|refine zad ?_|refine zai ?_|refine zaf ?_|refine zao ?_)|refine zab rfl rfl True.intro ?_|refine zaj rfl rfl rfl rfl True.intro ?_|((first |refine zac rfl ?_ ?_|refine zak rfl rfl ?_ ?_)<;>intro<;>try (first |(exfalso;omega)))|((first |refine zab rfl rfl ?_ ?_);focus (first |omega|((repeat' refine And.intro ?_ ?_)<;>omega)))|fail)
              exact ⟨(2 * n, i - 1), ⟨by dsimp only; omega, by dsimp only; omega, by dsimp only; omega, by dsimp only; omega, hup⟩, by dsimp only; omega, ⟨rfl, congrArg (D.i .u64) hw, rfl, trivial⟩, trivial, rfl, by rw [hX]; intro k hk; cases hk⟩
            · by_cases h5 : 9007199254740992 < n
              · have h6 : 9007199254740992 < m * 2 ^ e.toNat := by
                  rw [← q5]
                  have : n * 1 ≤ n * 2 ^ i.toNat := Nat.mul_le_mul_left _ (Nat.two_pow_pos _)
                  omega
                have hbig := hbig h6
                clear hok h6 q5
                subst hbig
                repeat' (first |with_reducible (first |refine zah ?_|refine zaa ?_|refine zag ?_|refine zad ?_|refine zan ?_|refine zat ?_|refine zas ?_|refine zam ?_)|refine zab rfl rfl True.intro ?_|refine zap rfl rfl rfl ?_|refine zbP rfl rfl rfl ?_|refine zaj rfl rfl rfl rfl True.intro ?_|refine zau rfl ?_|refine zal rfl ?_|((first |refine zak rfl rfl ?_ ?_)<;>intro<;>try (first |(exfalso;omega)))|refine zaB rfl ?_|refine zaq rfl ?_|fail)
                all_goals rfl
              · obtain rfl : i = 0 := by omega
                have q6 : n = m * 2 ^ e.toNat := by
                  rw [← q5]
                  simp
                rw [← q6] at hok
                have hok := hok h5
                have wn : IntKind.i64.wrap (n : Int) = n := by rw [wi6_]; omega
                have hok1 : neg = true → R = (-IntKind.i64.wrap (n : Int), true) := fun h => by rw [hok, if_pos (hg.1 h), wn]; rfl
                have hok2 : ¬ neg = true → R = (IntKind.i64.wrap (n : Int), true) := fun h => by rw [hok, if_neg (fun h2 => h (hg.2 h2)), wn]; rfl
                clear hok hbig hg q5 q6
                repeat' (first |with_reducible (first |refine zah ?_|refine zaa ?_|refine zag ?_|refine zad ?_|refine zan ?_|refine zai ?_|refine zat ?_|refine zas ?_|refine zam ?_)|refine zab rfl rfl True.intro ?_|refine zap rfl rfl rfl ?_|refine zaj rfl rfl rfl rfl True.intro ?_|refine zal rfl ?_|((first |refine zep rfl ?_ ?_|refine zak rfl rfl ?_ ?_)<;>intro<;>try (first |(exfalso;omega)))|((first |refine zab rfl rfl ?_ ?_);focus (first |omega|((repeat' refine And.intro ?_ ?_)<;>omega)))|refine zaB rfl ?_|refine zaq rfl ?_|fail)
                · rw [hok1 ‹_›]
                · rw [hok2 (Bool.eq_false_iff.1 ‹_›)]
end Go.Proofs.YtkkaamhocpmhkaaGreatDoor.Flow

namespace Go.Proofs.YtkkaamhocpmhkaaGreatDoor.Flow
open Go Go.Shelf Go.RowKit Go.Sort Go.Lib
set_option maxHeartbeats 6400000 in
set_option maxRecDepth 100000 in
theorem zgK (u : Nat) (hu64 : u < 18446744073709551616) (w : World) (htab : Lib.TabIs Tryz.prog w "internal/strconv.uint64pow10" .u64 Lib.pow10Tab) :
    Calls Tryz.prog 115 #[.int .u64 u, .int .i64 10] w fun e w' => e = .returned (.string ⟨(Lib.decDigits u).toArray⟩) ∧ ∃ k os, w' = grow (w.drewN k) os := by
  by_cases hs : u < 100
  · go_enter Tryz.func115, Tryz.ntmps115
    go_wp2_with (refine (Tryz.internal_strconv_small u hs _).mono ?_; rintro e w' ⟨rfl, rfl⟩)
    go_ret
    exact ⟨rfl, 0, #[], by simp [World.drewN_zero]⟩
  · have hu1 : 1 ≤ u := by omega
    have hnd20 : Lib.nDigits u ≤ 20 := by have := Lib.numDigits_eq u hu1 hu64; split at this <;> omega
    have hal : Tryz.prog.arrayLen 207 = 24 := by simp [Program.arrayLen, Tryz.underlying207]
    have hsl1 : ∀ W, (Instr.sliceAt 207 (.pointer (some ⟨w.heap.size, 0, none⟩)) none (some (.int .i64 (Lib.nDigits u : Int))) none).run Tryz.prog W = .ok (.slice (some ⟨w.heap.size, 0, none⟩) (Lib.nDigits u) 24) W := fun W => by
      rw [run_sliceAt_array_h W 207 ⟨w.heap.size, 0, none⟩ (by simp [Program.arrayLen, Program.elem, Tryz.underlying207]) .i64 (Lib.nDigits u : Int) (by omega) (by rw [hal]; omega)]
      go_simp
    have hH0 := Lib.holds_zero0 w 207 (Lib.nDigits u) (by omega)
    have hfmt := Tryz.internal_strconv_formatBase10 w.heap.size 0 24 u (Array.replicate (Lib.nDigits u) 0) (w.alloc (.cells Lib.zeros24 207)) hH0 (by rw [Array.size_replicate]; exact Lib.lt_pow_nDigits u) hu64 (by rw [Array.size_replicate]; omega)
    rw [Array.size_replicate] at hfmt
    have HH0 := Lib.hid hH0
    clear hH0 hal
    go_enter Tryz.func115, Tryz.ntmps115
    go_wp2_with (refine (Tryz.internal_strconv_numDigits u hu1 hu64 _ (Lib.tabIs_alloc htab _)).mono ?_; rintro e w' ⟨rfl, rfl⟩)
    refine hfmt.mono ?_
    rintro e w' ⟨rfl, k, v', dk, rfl, hF⟩
    have hcv : (convert 58 9 (.slice (some ⟨w.heap.size, 0, none⟩) (Lib.nDigits u) 24)).run Tryz.prog ((putRow (fun (b : UInt8) => Value.int .u8 (b.toNat : Int)) (w.alloc (.cells Lib.zeros24 207)) w.heap.size 0 dk).drewN k) = .ok (.string ⟨(Lib.decDigits u).toArray⟩) ((putRow (fun (b : UInt8) => Value.int .u8 (b.toNat : Int)) (w.alloc (.cells Lib.zeros24 207)) w.heap.size 0 dk).drewN k) := by
      have h := run_convert_bytes_back (P := Tryz.prog) ((putRow (fun (b : UInt8) => Value.int .u8 (b.toNat : Int)) (w.alloc (.cells Lib.zeros24 207)) w.heap.size 0 dk).drewN k) 58 9 5 ⟨w.heap.size, 0, none⟩ 24 (Lib.decDigits u) Tryz.underlying58 Tryz.underlying5 Tryz.underlying9 (fun j hj => by
        rw [Lib.row_is_numeral hF j hj, Lib.add_plain, World.cell?_drewN]
        exact cell?_putRow (fun (b : UInt8) => Value.int .u8 (b.toNat : Int)) _ w.heap.size 0 _ dk HH0.out (by rw [hF.size, Array.size_replicate]) j (by rw [hF.size]; rw [Lib.decDigits_length] at hj; exact hj))
      rw [Lib.decDigits_length] at h
      exact h
    go_wp2
    go_ret
    obtain ⟨os, eo⟩ := Lib.fin_at w (.cells Lib.zeros24 207) dk k 0
    exact ⟨rfl, k, os, eo⟩
end Go.Proofs.YtkkaamhocpmhkaaGreatDoor.Flow
