/- The texts F7, F8, F9, DO, D6, D1, one behind the other. -/
import Derived.Test.YtkkaamhocpmhkaaGreatDoorJJ9
import Derived.Test.YtkkaamhocpmhkaaGreatDoorJJ11
import Derived.Lib.Bytealg
import Derived.Lib.Small
import Derived.Lib.TrimByte
namespace Go.Proofs.YtkkaamhocpmhkaaGreatDoor.Flow
open Go
theorem zpo {s : List UInt8} (h : digs s) (i : Nat) (hi : i < s.length) : (s.getD i 0).toNat = (at' s i).toNat ∧ 48 ≤ (s.getD i 0).toNat ∧ (s.getD i 0).toNat ≤ 57 := by
  have h1 := h i hi
  have e : at' s i = ((s.getD i 0).toNat : Int) := by simp [at']
  rw [e] at h1 ⊢
  refine ⟨?_, ?_, ?_⟩ <;> omega
set_option maxHeartbeats 1000000 in
theorem zia (neg : Bool) (s : List UInt8) (e : Int) (h : RightP neg s e) : Ctr Tryz.prog 130 [dcD neg s e] (.tu [slW .u32 (ratN 4294967296 s e), slW .u32 (ratD 4294967296 e)]) := by
  obtain ⟨hs, he1, he2, hd⟩ := h.bounds
  refine zax Tryz.func130 rfl Tryz.ntmps130 Tryz.results130 rfl rfl fun X hL hX => ?_
  repeat' (first |with_reducible (first |refine zah ?_|refine zaa ?_|refine zag ?_|refine zad ?_|refine zaf ?_)|refine zab rfl rfl True.intro ?_|((first |refine zab rfl rfl ?_ ?_|refine zav rfl rfl ?_ ?_);focus (first |exact le_ rfl|((repeat' refine And.intro ?_ ?_)<;>omega)|((repeat' refine And.intro ?_ ?_)<;>first |rfl)))|fail)
  refine T.weakF 2 (slW .u32 []) (.nil 1 _) ?_
  refine T.loop hL (fun i : Nat => [(1, .pv 1 0), (2, slW .u32 (dgW 4294967296 (s.take i))), (7, .i .i64 s.length), (8, .i .i64 i)]) (fun _ => [(1, .var [.b neg, .s s, .i .i64 e])]) (fun i => i ≤ s.length) (fun i => s.length - i) 0
    (Nat.zero_le _) ⟨⟨rfl, rfl, rfl, rfl, trivial⟩, ⟨rfl, trivial⟩, rfl, by rw [hX]; intro k hk; cases hk⟩ ?_
  intro i g1
  have hw := zjY (B := 4294967296) (by omega) i (s.take i) (by simp; omega)
  have hr := zaD s i
  have c1 := zcb (dgW 4294967296 (s.take i)) 10 ((s.getD i 0).toNat - 48) hw.2.1 (by omega) (by have := (s.getD i 0).toNat_lt; omega) (by omega)
  have e1 : i < s.length → IntKind.u32.wrap (IntKind.u8.wrap (at' s i - 48)) = (((s.getD i 0).toNat - 48 : Nat) : Int) := fun hi => by
    obtain ⟨k1, k2, k3⟩ := zpo hd i hi
    rw [zlG, zbv]
    omega
  repeat' (first |with_reducible (first |refine zah ?_|refine zaa ?_|refine zag ?_|refine zad ?_|refine zai ?_|refine zat ?_|refine zaf ?_|refine zao ?_|refine zas ?_)|refine zab rfl rfl True.intro ?_|((first |refine zac rfl ?_ ?_)<;>intro)|((first |refine zab rfl rfl ?_ ?_|refine zav rfl rfl ?_ ?_);focus (first |omega|exact le_ rfl|((repeat' refine And.intro ?_ ?_)<;>omega)|((repeat' refine And.intro ?_ ?_)<;>first |omega|rfl)))|refine zaB rfl ?_|refine zae (f := 184) rfl rfl Tryz.call184 rfl (by rw [e1 (by omega)];exact c1) ?_|fail)
  · have hi : i < s.length := by omega
    refine ⟨i + 1, by omega, by omega, ⟨rfl, ?_, rfl, rfl, trivial⟩, ⟨rfl, trivial⟩, rfl, by rw [hX]; intro k hk; cases hk⟩
    rw [zcA s i hi, zgV]
    rfl
  have hi : i = s.length := by omega
  subst hi
  simp only [List.take_length] at hw c1 ⊢
  refine T.shutF 3 _ rfl ?_
  refine T.weakF 3 (slW .u32 [1]) (zcK .u32 [1] 1 _ rfl fun i hi => by rw [show i = 0 by omega]; rfl) ?_
  refine T.loop hL (fun k : Nat => [(1, .pv 1 0), (2, slW .u32 (mulN 4294967296 k (dgW 4294967296 s))), (3, slW .u32 [1]), (23, .i .i64 (max e 0)), (24, .i .i64 k)]) (fun _ => [(1, .var [.b neg, .s s, .i .i64 e])]) (fun k => k ≤ e.toNat) (fun k => e.toNat - k) 0
    (Nat.zero_le _) ⟨⟨rfl, rfl, rfl, rfl, rfl, trivial⟩, ⟨rfl, trivial⟩, rfl, by rw [hX]; intro k hk; cases hk⟩ ?_
  intro k g2
  have hm := zdh (B := 4294967296) (by omega) k _ hw.2.1
  have c2 := zcb (mulN 4294967296 k (dgW 4294967296 s)) 10 0 hm.2.1 (by omega) (by omega) (by omega)
  repeat' (first |with_reducible (first |refine zah ?_|refine zaa ?_|refine zag ?_|refine zad ?_|refine zai ?_|refine zat ?_|refine zaf ?_|refine zao ?_|refine zas ?_)|refine zab rfl rfl True.intro ?_|((first |refine zac rfl ?_ ?_)<;>intro)|((first |refine zab rfl rfl ?_ ?_);focus (first |omega|exact le_ rfl|((repeat' refine And.intro ?_ ?_)<;>omega)))|refine zaB rfl ?_|refine zae (f := 184) rfl rfl Tryz.call184 rfl c2 ?_|fail)
  · exact ⟨k + 1, by omega, by omega, ⟨rfl, rfl, rfl, rfl, rfl, trivial⟩, ⟨rfl, trivial⟩, rfl, by rw [hX]; intro k hk; cases hk⟩
  have hk : k = e.toNat := by omega
  subst hk
  refine T.loop hL (fun k : Nat => [(1, .pv 1 0), (2, slW .u32 (ratN 4294967296 s e)), (3, slW .u32 (mulN 4294967296 k [1])), (32, .i .i64 (max (-e) 0)), (33, .i .i64 k)]) (fun _ => [(1, .var [.b neg, .s s, .i .i64 e])]) (fun k => k ≤ (-e).toNat) (fun k => (-e).toNat - k) 0
    (Nat.zero_le _) ⟨⟨rfl, rfl, rfl, rfl, rfl, trivial⟩, ⟨rfl, trivial⟩, rfl, by rw [hX]; intro k hk; cases hk⟩ ?_
  intro k g2
  have hm := zdh (B := 4294967296) (by omega) k [1] (zaP.2 ⟨by omega, zcl _⟩)
  have c2 := zcb (mulN 4294967296 k [1]) 10 0 hm.2.1 (by omega) (by omega) (by have := hm.2.2.2; simp at this; omega)
  repeat' (first |with_reducible (first |refine zah ?_|refine zaa ?_|refine zag ?_|refine zad ?_|refine zan ?_|refine zai ?_|refine zat ?_|refine zaf ?_|refine zao ?_|refine zas ?_)|refine zab rfl rfl True.intro ?_|((first |refine zac rfl ?_ ?_)<;>intro)|((first |refine zab rfl rfl ?_ ?_);focus (first |omega|((repeat' refine And.intro ?_ ?_)<;>omega)))|refine zaB rfl ?_|refine zaq rfl ?_|refine zae (f := 184) rfl rfl Tryz.call184 rfl c2 ?_|fail)
  · exact ⟨k + 1, by omega, by omega, ⟨rfl, rfl, rfl, rfl, rfl, trivial⟩, ⟨rfl, trivial⟩, rfl, by rw [hX]; intro k hk; cases hk⟩
  have hk : k = (-e).toNat := by omega
  subst hk
  rfl
theorem zcg (a b : List Nat) (m : Nat) (e : Int) (ha : wsm 4294967296 a) (hb : wsm 4294967296 b) (na : nrm a) (hm : m < 18446744073709551616) (la : a.length ≤ 10000) (lb : b.length ≤ 10000) (h1 : -4096 ≤ e) (h2 : e ≤ 4096) :
    Ctr Tryz.prog 131 [slW .u32 a, slW .u32 b, .i .u64 m, .i .i64 e] (.i .i64 (cmpQ (val 4294967296 a) (val 4294967296 b) m e)) := by
  obtain ⟨m1, m2, m3, m4⟩ := zqg b m hb hm
  have c1 := zqi b m hb hm (by omega)
  obtain ⟨p1, p2, p3, p4⟩ := zkg (mulW b m) e.toNat m3
  have q1 := zfu (mulW b m) e.toNat m3 (by omega) (by omega)
  have r1 := znh a (shG (mulW b m) e.toNat) ha p3 na (p2 m2) (by omega) (by omega)
  obtain ⟨s1, s2, s3, s4⟩ := zkg a (-e).toNat ha
  have q2 := zfu a (-e).toNat ha (by omega) (by omega)
  have r2 := znh (shG a (-e).toNat) (mulW b m) s3 m3 (s2 na) m2 (by omega) (by omega)
  refine zax Tryz.func131 rfl Tryz.ntmps131 Tryz.results131 rfl rfl fun X hL hX => ?_
  repeat' (first |with_reducible (first |refine zah ?_|refine zaa ?_|refine zag ?_|refine zad ?_|refine zan ?_|refine zai ?_|refine zam ?_)|refine zab rfl rfl True.intro ?_|((first |refine zac rfl ?_ ?_)<;>intro)|((first |refine zab rfl rfl ?_ ?_);focus (first |omega|((repeat' refine And.intro ?_ ?_)<;>omega)))|refine zaq rfl ?_|refine zae (f := 185) rfl rfl Tryz.call185 rfl c1 ?_|refine zae (f := 187) rfl rfl Tryz.call187 rfl (by rw [show e = ((e.toNat : Nat) : Int) by omega];exact q1) ?_|refine zae (f := 187) rfl rfl Tryz.call187 rfl (by rw [show -e = (((-e).toNat : Nat) : Int) by omega];exact q2) ?_|refine zae (f := 186) rfl rfl Tryz.call186 rfl r1 ?_|refine zae (f := 186) rfl rfl Tryz.call186 rfl r2 ?_|fail)
  · unfold cmpQ
    rw [if_pos ‹_›, p1, m1]
  · unfold cmpQ
    rw [if_neg ‹_›, s1, m1]

theorem zbb (n : Int) (h₀ : 0 ≤ n) (h₁ : n < 2 ^ 64) : IntKind.u64.wrap n = n := by rw [zar]; omega
theorem zek (k : IntKind) (x y : Int) : bits .or k x y = bits .or k y x := by simp [bits, BitVec.or_comm]
def xP (b : Nat) : Nat := b / 4503599627370496 % 2048
def partsD (b : Nat) : D := if xP b = 2047 then .tu [.b false, .i .u64 0, .i .i64 0, .b false] else .tu [.b (decide (9223372036854775808 ≤ b)), .i .u64 (mB (b % 9223372036854775808)), .i .i64 (eB (b % 9223372036854775808)), .b true]
theorem zgB (b : Nat) : xB (b % 9223372036854775808) = xP b := by unfold xB xP; omega
theorem zfe (b : Nat) (hb : b < 18446744073709551616) : Ctr Tryz.prog 118 [.i .u64 b] (partsD b) := by
  have e52 : (2 : Int) ^ Int.toNat 52 = 4503599627370496 := by decide
  have e63 : (2 : Int) ^ Int.toNat 63 = 9223372036854775808 := by decide
  have k1 : IntKind.i64.wrap (bits .and .u64 ((b : Int) / 2 ^ Int.toNat 52) 2047) = ((xP b : Nat) : Int) := by
    have := bits_mask .u64 64 (by decide) zbb 11 (by decide) ((b : Int) / 2 ^ Int.toNat 52) (by rw [e52]; omega) (by rw [e52]; omega)
    rw [show (2047 : Int) = 2 ^ 11 - 1 by decide, this, e52, wi6_]
    unfold xP
    omega
  have k2 : bits .and .u64 (b : Int) 4503599627370495 = ((b % 4503599627370496 : Nat) : Int) := by
    have := bits_mask .u64 64 (by decide) zbb 52 (by decide) (b : Int) (by omega) (by omega)
    rw [show (4503599627370495 : Int) = 2 ^ 52 - 1 by decide, this]
    omega
  have k3 : bits .or .u64 ((b % 4503599627370496 : Nat) : Int) 4503599627370496 = ((b % 4503599627370496 + 4503599627370496 : Nat) : Int) := by
    rw [zek, bits_join .u64 64 (by decide) zbb 52 _ _ (by omega) (by decide) (by decide) (by omega) (by omega) (by omega)]
    omega
  have k4 : ((b : Int) / 2 ^ Int.toNat 63 == 1) = decide (9223372036854775808 ≤ b) := by
    rw [e63, Bool.eq_iff_iff]
    simp
    omega
  have hx : xP b < 2048 := by unfold xP; omega
  have hfr : (partsD b).free = true := by unfold partsD; split <;> rfl
  refine zax Tryz.func118 rfl Tryz.ntmps118 Tryz.results118 rfl hfr fun X hL hX => ?_
  repeat' (first |with_reducible (first |refine zah ?_|refine zaa ?_|refine zag ?_|refine zad ?_|refine zan ?_|refine zai ?_|refine zaf ?_|refine zao ?_|refine zam ?_|refine zaz ?_)|refine zab rfl rfl True.intro ?_|((first |refine zac rfl ?_ ?_)<;>intro)|((first |refine zab rfl rfl ?_ ?_);focus (first |omega|((repeat' refine And.intro ?_ ?_)<;>omega)))|refine zaq rfl ?_|fail)
  · rename_i h
    rw [k1] at h
    unfold partsD
    rw [if_pos (by omega)]
  · rename_i h h2
    rw [k1] at h h2
    unfold partsD
    rw [if_neg (by omega), k2, k4]
    unfold mB eB
    rw [zgB, if_pos (by omega), if_pos (by omega), show b % 9223372036854775808 % 4503599627370496 = b % 4503599627370496 by omega]
  · rename_i h h2
    rw [k1] at h h2
    unfold partsD
    rw [if_neg (by omega), k1, k2, k3, k4]
    unfold mB eB
    rw [zgB, if_neg (by omega), if_neg (by omega), show b % 9223372036854775808 % 4503599627370496 = b % 4503599627370496 by omega]
theorem zdW (b : Nat) (hb : b < 18446744073709551616) : Ctr Tryz.prog 139 [.i .u64 b] (partsD b) := by
  have k1 : IntKind.i64.wrap ((b : Int) / 4503599627370496 % 2048) = ((xP b : Nat) : Int) := by
    rw [wi6_]
    unfold xP
    omega
  have k4 : (decide ((9223372036854775808 : Int) ≤ b)) = decide (9223372036854775808 ≤ b) := by
    rw [Bool.eq_iff_iff]
    simp
    omega
  have hx : xP b < 2048 := by unfold xP; omega
  have hfr : (partsD b).free = true := by unfold partsD; split <;> rfl
  refine zax Tryz.func139 rfl Tryz.ntmps139 Tryz.results139 rfl hfr fun X hL hX => ?_
  repeat' (first |with_reducible (first |refine zah ?_|refine zaa ?_|refine zag ?_|refine zad ?_|refine zan ?_|refine zai ?_|refine zam ?_)|refine zab rfl rfl True.intro ?_|((first |refine zac rfl ?_ ?_)<;>intro)|((first |refine zab rfl rfl ?_ ?_);focus (first |omega|((repeat first |rw [zar]);(repeat' refine And.intro ?_ ?_)<;>omega)))|refine zaq rfl ?_|fail)
  · rename_i h
    rw [k1] at h
    unfold partsD
    rw [if_pos (by omega)]
  · skip
    rename_i h h2
    rw [k1] at h h2
    unfold partsD
    rw [if_neg (by omega), k4]
    unfold mB eB
    rw [zgB, if_pos (by omega), if_pos (by omega), show b % 9223372036854775808 % 4503599627370496 = b % 4503599627370496 by omega]
    rfl
  · rename_i h h2
    rw [k1] at h h2
    unfold partsD
    rw [if_neg (by omega), k1, k4]
    unfold mB eB
    rw [zgB, if_neg (by omega), if_neg (by omega), show b % 9223372036854775808 % 4503599627370496 = b % 4503599627370496 by omega]
    rw [zar, show ((b : Int) % 4503599627370496 + 4503599627370496) % 18446744073709551616 = ((b % 4503599627370496 + 4503599627370496 : Nat) : Int) by omega]
theorem zld (b : Nat) : mB b < 9007199254740992 := by unfold mB; split <;> omega
theorem zkX (b : Nat) (h : xB b < 2048) : eB b ≤ 972 := by unfold eB; split <;> omega
theorem zeK {c : Nat} (hc : c < 9223372036854775808) (h : ¬ xB c < 2047) : partsD c = .tu [.b false, .i .u64 0, .i .i64 0, .b false] := by
  unfold partsD
  rw [if_pos (by rw [← zgB, Nat.mod_eq_of_lt hc]; unfold xB at h ⊢; omega)]
theorem zdf {c : Nat} (hc : c < 9223372036854775808) (h : xB c < 2047) : partsD c = .tu [.b false, .i .u64 (mB c), .i .i64 (eB c), .b true] := by
  unfold partsD
  rw [if_neg (by rw [← zgB, Nat.mod_eq_of_lt hc]; omega), Nat.mod_eq_of_lt hc, show decide (9223372036854775808 ≤ c) = false by simp; omega]
theorem zmS (a b : List Nat) (ha : wsm 4294967296 a) (hb : wsm 4294967296 b) (na : nrm a) (la : a.length ≤ 10000) (lb : b.length ≤ 10000) :
    Ctr Tryz.prog 132 [slW .u32 a, slW .u32 b] (.i .u64 (flB (val 4294967296 a) (val 4294967296 b))) := by
  refine zax Tryz.func132 rfl Tryz.ntmps132 Tryz.results132 rfl rfl fun X hL hX => ?_
  repeat' (first |with_reducible (first |refine zah ?_|refine zaa ?_|refine zag ?_|refine zad ?_|refine zaf ?_)|refine zab rfl rfl True.intro ?_|fail)
  refine T.loop hL (fun x : Nat × Nat => [(0, slW .u32 a), (1, slW .u32 b), (5, .i .u64 x.2), (12, .i .i64 x.1)]) (fun _ => []) (fun x => x.1 ≤ 63 ∧ x.2 % 2 ^ (63 - x.1) = 0 ∧ x.2 < 9223372036854775808 ∧ floorG (pB (val 4294967296 a) (val 4294967296 b)) (63 - x.1) x.2 = flB (val 4294967296 a) (val 4294967296 b)) (fun x => 63 - x.1) (0, 0)
    ⟨Nat.zero_le _, rfl, by decide, rfl⟩ ⟨⟨rfl, rfl, rfl, rfl, trivial⟩, trivial, rfl, by rw [hX]; intro k hk; cases hk⟩ ?_
  rintro ⟨i, f⟩ ⟨g1, g2, g3, g4⟩
  dsimp only at g1 g2 g3 g4 ⊢
  generalize hN : val 4294967296 a = N at *
  generalize hD : val 4294967296 b = D' at *
  by_cases hi : i < 63
  · obtain ⟨k, hk⟩ : ∃ k, 63 - i = k + 1 := ⟨62 - i, by omega⟩
    have hk1 : 63 - (i + 1) = k := by omega
    rw [hk] at g2 g4
    have hpk : 2 ^ (k + 1) ≤ 2 ^ 63 := Nat.pow_le_pow_right (by omega) (by omega)
    have hp2 : (2 : Nat) ^ (k + 1) = 2 * 2 ^ k := by rw [Nat.pow_succ]; omega
    have hp0 : 0 < 2 ^ k := Nat.two_pow_pos k
    have hsum : f + 2 ^ (k + 1) ≤ 2 ^ 63 := by
      have hd : 2 ^ (k + 1) ∣ f := Nat.dvd_of_mod_eq_zero g2
      have hd2 : 2 ^ (k + 1) ∣ 2 ^ 63 := Nat.pow_dvd_pow 2 (by omega)
      obtain ⟨u, hu⟩ := hd
      obtain ⟨v, hv⟩ := hd2
      have huv : u < v := by
        refine Nat.lt_of_mul_lt_mul_left (a := 2 ^ (k + 1)) ?_
        rw [← hu, ← hv]
        exact g3
      rw [hu, hv]
      calc 2 ^ (k + 1) * u + 2 ^ (k + 1) = 2 ^ (k + 1) * (u + 1) := by grind
        _ ≤ 2 ^ (k + 1) * v := Nat.mul_le_mul_left _ huv
    have hc : bits .or .u64 (f : Int) (IntKind.u64.wrap (1 * 2 ^ ((62 : Int) - i).toNat)) = ((f + 2 ^ k : Nat) : Int) := by
      have e1 : ((62 : Int) - i).toNat = k := by omega
      have e2 : (2 : Int) ^ k = ((2 ^ k : Nat) : Int) := (Int.natCast_pow 2 k).symm
      have e3 : (2 : Int) ^ (k + 1) = ((2 ^ (k + 1) : Nat) : Int) := (Int.natCast_pow 2 (k + 1)).symm
      rw [e1, Int.one_mul, e2, zar, show (((2 ^ k : Nat) : Int)) % 18446744073709551616 = ((2 ^ k : Nat) : Int) by omega,
        bits_join .u64 64 (by decide) zbb (k + 1) _ _ (by omega) (by rw [e3]; omega) (by omega) (by omega) (by rw [e3]; omega) (by omega)]
      omega
    have hc63 : f + 2 ^ k < 9223372036854775808 := by omega
    have c1 := zfe (f + 2 ^ k) (by omega)
    have step : floorG (pB N D') k (if pB N D' (f + 2 ^ k) = true then f + 2 ^ k else f) = flB N D' := g4
    have hmod1 : (f + 2 ^ k) % 2 ^ k = 0 := by
      have : f % 2 ^ k = 0 := Nat.mod_eq_zero_of_dvd (Nat.dvd_trans (Nat.pow_dvd_pow 2 (by omega)) (Nat.dvd_of_mod_eq_zero g2))
      rw [Nat.add_mod, this]
      simp
    have hmod2 : f % 2 ^ k = 0 := Nat.mod_eq_zero_of_dvd (Nat.dvd_trans (Nat.pow_dvd_pow 2 (by omega)) (Nat.dvd_of_mod_eq_zero g2))
    by_cases hx : xB (f + 2 ^ k) < 2047
    · rw [zdf hc63 hx] at c1
      have hm := zld (f + 2 ^ k)
      have he1 := zpN (f + 2 ^ k)
      have he2 := zkX (f + 2 ^ k) (by omega)
      have c2 := zcg a b (mB (f + 2 ^ k)) (eB (f + 2 ^ k)) ha hb na (by omega) la lb (by omega) (by omega)
      rw [hN, hD] at c2
      have hpB : pB N D' (f + 2 ^ k) = decide (0 ≤ cmpQ N D' (mB (f + 2 ^ k)) (eB (f + 2 ^ k))) := by
        unfold pB
        rw [decide_eq_true hx, Bool.true_and]
      rw [hpB] at step
      repeat' (first |with_reducible (first |refine zah ?_|refine zaa ?_|refine zag ?_|refine zad ?_|refine zai ?_|refine zaf ?_|refine zao ?_)|refine zab rfl rfl True.intro ?_|refine zaj rfl rfl rfl rfl True.intro ?_|((first |refine zac rfl ?_ ?_)<;>intro<;>try (first |(exfalso;omega)))|((first |refine zab rfl rfl ?_ ?_);focus (first |omega|((repeat' refine And.intro ?_ ?_)<;>omega)))|refine zae (f := 118) rfl rfl Tryz.call118 rfl (by rw [hc];exact c1) ?_|refine zaw (f := 131) rfl rfl rfl rfl Tryz.call131 rfl c2 ?_|fail)
      · rename_i h1
        rw [if_pos (decide_eq_true h1)] at step
        exact ⟨(i + 1, f + 2 ^ k), ⟨hi, by dsimp only; rw [hk1]; exact hmod1, hc63, by dsimp only; rw [hk1]; exact step⟩, by dsimp only; omega, ⟨rfl, rfl, by rw [hc]; rfl, rfl, trivial⟩, trivial, rfl, by rw [hX]; intro k hk; cases hk⟩
      · rename_i h1
        rw [if_neg (by simpa using h1)] at step
        exact ⟨(i + 1, f), ⟨hi, by dsimp only; rw [hk1]; exact hmod2, g3, by dsimp only; rw [hk1]; exact step⟩, by dsimp only; omega, ⟨rfl, rfl, rfl, rfl, trivial⟩, trivial, rfl, by rw [hX]; intro k hk; cases hk⟩
    · rw [zeK hc63 hx] at c1
      have hpB : pB N D' (f + 2 ^ k) = false := by
        unfold pB
        rw [decide_eq_false hx, Bool.false_and]
      rw [hpB, if_neg (by decide)] at step
      repeat' (first |with_reducible (first |refine zah ?_|refine zaa ?_|refine zag ?_|refine zad ?_|refine zai ?_|refine zaf ?_|refine zao ?_)|refine zab rfl rfl True.intro ?_|refine zap rfl rfl rfl ?_|refine zal rfl ?_|((first |refine zac rfl ?_ ?_)<;>intro<;>try (first |(exfalso;omega)))|((first |refine zab rfl rfl ?_ ?_);focus (first |omega|((repeat' refine And.intro ?_ ?_)<;>omega)))|refine zae (f := 118) rfl rfl Tryz.call118 rfl (by rw [hc];exact c1) ?_|fail)
      exact ⟨(i + 1, f), ⟨hi, by dsimp only; rw [hk1]; exact hmod2, g3, by dsimp only; rw [hk1]; exact step⟩, by dsimp only; omega, ⟨rfl, rfl, rfl, rfl, trivial⟩, trivial, rfl, by rw [hX]; intro k hk; cases hk⟩
  · have e0 : f = flB N D' := by
      rw [show 63 - i = 0 by omega] at g4
      exact g4
    repeat' (first |with_reducible (first |refine zah ?_|refine zaa ?_|refine zag ?_|refine zad ?_|refine zan ?_|refine zat ?_|refine zas ?_)|refine zab rfl rfl True.intro ?_|((first |refine zac rfl ?_ ?_)<;>intro<;>try (first |(exfalso;omega)))|refine zaB rfl ?_|refine zaq rfl ?_|fail)
    rw [e0]

def bitsV (neg : Bool) (s : List UInt8) (e : Int) : Nat := roB (numV s e) (denV e) + (if neg = true ∧ ¬ s = [] then 9223372036854775808 else 0)
theorem zqt (k : Nat) : 0 < 10 ^ k := Nat.pow_pos (by omega)
theorem zoe (e : Int) : 0 < denV e := zqt _
theorem znp (neg : Bool) (s : List UInt8) (e : Int) (h : RightP neg s e) (ho : overB (numV s e) (denV e)) : Ctr Tryz.prog 81 [dcD neg s e] (.tu [.i .u64 0, .i .i64 8]) := by
  obtain ⟨b1, b2, b3, b4⟩ := h.bounds
  have c1 := zbE neg s e (by omega)
  rw [zaY.2 h] at c1
  have c2 := zia neg s e h
  obtain ⟨n1, n2, n3, n4⟩ := zfE (B := 4294967296) (by omega) s e
  obtain ⟨d1, d2, d3, d4⟩ := zeH (B := 4294967296) (by omega) e
  have c3 := zcg (ratN 4294967296 s e) (ratD 4294967296 e) 18014398509481983 970 n2 d2 n3 (by omega) (by omega) (by omega) (by omega) (by omega)
  rw [n1, d1] at c3
  unfold overB at ho
  generalize cmpQ (numV s e) (denV e) 18014398509481983 970 = q at c3 ho
  refine zax Tryz.func81 rfl Tryz.ntmps81 Tryz.results81 rfl rfl fun X hL hX => ?_
  repeat' (first |with_reducible (first |refine zah ?_|refine zaa ?_|refine zag ?_|refine zad ?_|refine zan ?_|refine zai ?_|refine zam ?_)|refine zab rfl rfl True.intro ?_|refine zal rfl ?_|((first |refine zac rfl ?_ ?_)<;>intro<;>try (first |contradiction))|((first |refine zab rfl rfl ?_ ?_|refine zav rfl rfl ?_ ?_);focus (first |exact le_ rfl|((repeat' refine And.intro ?_ ?_)<;>omega)|((repeat' refine And.intro ?_ ?_)<;>first |rfl)))|refine zaq rfl ?_|refine zae (f := 127) rfl rfl Tryz.call127 rfl c1 ?_|refine zae (f := 130) rfl rfl Tryz.call130 rfl c2 ?_|refine zae (f := 131) rfl rfl Tryz.call131 rfl c3 ?_|fail)
  rfl
set_option maxHeartbeats 1000000 in
theorem zqX (neg : Bool) (s : List UInt8) (e : Int) (h : RightP neg s e) (ho : ¬ overB (numV s e) (denV e)) : Ctr Tryz.prog 81 [dcD neg s e] (.tu [.i .u64 (bitsV neg s e), .i .i64 0]) := by
  obtain ⟨b1, b2, b3, b4⟩ := h.bounds
  have c1 := zbE neg s e (by omega)
  rw [zaY.2 h] at c1
  have c2 := zia neg s e h
  obtain ⟨n1, n2, n3, n4⟩ := zfE (B := 4294967296) (by omega) s e
  obtain ⟨d1, d2, d3, d4⟩ := zeH (B := 4294967296) (by omega) e
  have c3 := zcg (ratN 4294967296 s e) (ratD 4294967296 e) 18014398509481983 970 n2 d2 n3 (by omega) (by omega) (by omega) (by omega) (by omega)
  have c4 := zmS (ratN 4294967296 s e) (ratD 4294967296 e) n2 d2 n3 (by omega) (by omega)
  rw [n1, d1] at c3 c4
  obtain ⟨f1, f2, f3, f4⟩ := zjR (numV s e) (denV e)
  have hfin := zrK ho
  unfold overB at ho
  have hro : roB (numV s e) (denV e) = if upB (numV s e) (denV e) (flB (numV s e) (denV e)) = true then flB (numV s e) (denV e) + 1 else flB (numV s e) (denV e) := rfl
  have hup : upB (numV s e) (denV e) (flB (numV s e) (denV e)) = (decide (0 < cmpQ (numV s e) (denV e) (2 * mB (flB (numV s e) (denV e)) + 1) (eB (flB (numV s e) (denV e)) - 1)) || (decide (cmpQ (numV s e) (denV e) (2 * mB (flB (numV s e) (denV e)) + 1) (eB (flB (numV s e) (denV e)) - 1) = 0) && decide (mB (flB (numV s e) (denV e)) % 2 = 1))) := rfl
  unfold bitsV
  generalize hN : numV s e = N at *
  generalize hD : denV e = D' at *
  generalize flB N D' = b at *
  generalize roB N D' = r at *
  have c5 := zfe b (by omega)
  rw [zdf (by omega) f1] at c5
  have hm := zld b
  have he1 := zpN b
  have he2 := zkX b (by omega)
  have e2m : ∀ _ : Unit, IntKind.u64.wrap (IntKind.u64.wrap (2 * (mB b : Int)) + 1) = ((2 * mB b + 1 : Nat) : Int) := fun _ => by
    rw [zar, zar]
    omega
  have c6 := zcg (ratN 4294967296 s e) (ratD 4294967296 e) (2 * mB b + 1) (eB b - 1) n2 d2 n3 (by omega) (by omega) (by omega) (by omega) (by omega)
  rw [n1, d1] at c6
  generalize cmpQ N D' 18014398509481983 970 = q at c3 ho
  generalize cmpQ N D' (2 * mB b + 1) (eB b - 1) = hq at c6 hup
  have hb63 : b < 9223372036854775808 := by omega
  clear f2 f3 hD hN n1 d1 f4
  have hr63 : r < 9223372036854775808 := by unfold xB at hfin; omega
  have hsgn : ∀ x : Nat, x < 9223372036854775808 → bits .or .u64 (x : Int) 9223372036854775808 = ((x + 9223372036854775808 : Nat) : Int) := fun x hx => by
    rw [zek, bits_join .u64 64 (by decide) zbb 63 _ _ (by omega) (by decide) (by decide) (by omega) (by omega) (by omega)]
    omega
  have hinc : ∀ x : Nat, x < 9223372036854775808 → IntKind.u64.wrap ((x : Int) + 1) = ((x + 1 : Nat) : Int) := fun x hx => by
    rw [zar]
    omega
  clear hfin f1
  generalize upB N D' b = u at hro hup
  generalize mB b = mm at *
  generalize eB b = ee at *
  have R1 : u = true → r = b + 1 := fun h => by rw [hro, if_pos h]
  have R0 : u = false → r = b := fun h => by rw [hro, if_neg (by rw [h]; decide)]
  have hn : ({ data := #[] } : ByteArray).data.toList = [] := rfl
  have S1 : ∀ x : Nat, r = x → neg = true → (s == ({ data := #[] } : ByteArray).data.toList) = false → D.tu [.i .u64 (bits .or .u64 (x : Int) 9223372036854775808), .i .i64 0] = D.tu [.i .u64 ((r + if neg = true ∧ ¬ s = [] then 9223372036854775808 else 0 : Nat) : Int), .i .i64 0] := by
    intro x hx h1 h2
    subst hx
    rw [hsgn r hr63, if_pos ⟨h1, by rw [hn] at h2; simpa using h2⟩]
  have S2 : ∀ x : Nat, r = x → (neg = true → (s == ({ data := #[] } : ByteArray).data.toList) = true) → D.tu [.i .u64 (x : Int), .i .i64 0] = D.tu [.i .u64 ((r + if neg = true ∧ ¬ s = [] then 9223372036854775808 else 0 : Nat) : Int), .i .i64 0] := by
    intro x hx h1
    subst hx
    rw [if_neg, Nat.add_zero]
    rintro ⟨h2, h3⟩
    have := h1 h2
    rw [hn] at this
    exact h3 (by simpa using this)
  refine zax Tryz.func81 rfl Tryz.ntmps81 Tryz.results81 rfl rfl fun X hL hX => ?_
  repeat' (first |with_reducible (first |refine zah ?_|refine zaa ?_|refine zag ?_|refine zad ?_|refine zan ?_|refine zai ?_)|refine zab rfl rfl True.intro ?_|refine zap rfl rfl rfl ?_|refine zbP rfl rfl rfl ?_|refine zaj rfl rfl rfl rfl True.intro ?_|refine zau rfl ?_|refine zal rfl ?_|((first |refine zac rfl ?_ ?_|refine zaS rfl ?_ ?_|refine zak rfl rfl ?_ ?_)<;>intro<;>try (first |(exfalso;omega)))|((first |refine zab rfl rfl ?_ ?_|refine zaj rfl rfl rfl rfl ?_ ?_|refine zav rfl rfl ?_ ?_);focus (first |omega|exact le_ rfl|((repeat' refine And.intro ?_ ?_)<;>omega)|((repeat' refine And.intro ?_ ?_)<;>first |rfl)))|refine zaq rfl ?_|refine zae (f := 127) rfl rfl Tryz.call127 rfl c1 ?_|refine zae (f := 130) rfl rfl Tryz.call130 rfl c2 ?_|refine zae (f := 131) rfl rfl Tryz.call131 rfl c3 ?_|refine zae (f := 132) rfl rfl Tryz.call132 rfl c4 ?_|refine zae (f := 118) rfl rfl Tryz.call118 rfl c5 ?_|refine zae (f := 131) rfl rfl Tryz.call131 rfl (by rw [e2m ()];exact c6) ?_|((with_reducible refine zrn ?_);(fail_if_success (refine zoW true rfl rfl rfl ?_));(fail_if_success (refine zoW false rfl rfl rfl ?_));refine zlH rfl rfl (fun _ => ?_) (fun _ => ?_))|fail)
  · rw [hinc b hb63]; exact S1 _ (R1 (by rw [hup]; simp [*])) ‹_› ‹_›
  · rw [hinc b hb63]; exact S2 _ (R1 (by rw [hup]; simp [*])) (fun _ => ‹_›)
  · rw [hinc b hb63]; exact S2 _ (R1 (by rw [hup]; simp [*])) (fun h => Bool.noConfusion (h.symm.trans ‹neg = false›))
  · have hu : u = true := by rw [hup]; simp [*]; omega
    rw [hinc b hb63]; exact S1 _ (R1 hu) ‹_› ‹_›
  · have hu : u = true := by rw [hup]; simp [*]; omega
    rw [hinc b hb63]; exact S2 _ (R1 hu) (fun _ => ‹_›)
  · have hu : u = true := by rw [hup]; simp [*]; omega
    rw [hinc b hb63]; exact S2 _ (R1 hu) (fun h => Bool.noConfusion (h.symm.trans ‹neg = false›))
  · have hu : u = false := by rw [hup]; simp [*]; omega
    exact S1 _ (R0 hu) ‹_› ‹_›
  · have hu : u = false := by rw [hup]; simp [*]; omega
    exact S2 _ (R0 hu) (fun _ => ‹_›)
  · have hu : u = false := by rw [hup]; simp [*]; omega
    exact S2 _ (R0 hu) (fun h => Bool.noConfusion (h.symm.trans ‹neg = false›))
  · have hu : u = false := by rw [hup]; simp [*]
    exact S1 _ (R0 hu) ‹_› ‹_›
  · have hu : u = false := by rw [hup]; simp [*]
    exact S2 _ (R0 hu) (fun _ => ‹_›)
  · have hu : u = false := by rw [hup]; simp [*]
    exact S2 _ (R0 hu) (fun h => Bool.noConfusion (h.symm.trans ‹neg = false›))

def atF (s : List UInt8) (e p : Int) : Int := if (s.length : Int) - 1 - (p - e) < 0 ∨ (s.length : Int) ≤ s.length - 1 - (p - e) then 0 else at' s (s.length - 1 - (p - e)) - 48
theorem zoy (neg : Bool) (s : List UInt8) (e p : Int) (hs : s.length ≤ 1000) (h1 : -2000 ≤ e) (h2 : e ≤ 2000) (h3 : -2000 ≤ p) (h4 : p ≤ 2000) :
    Ctr Tryz.prog 136 [dcD neg s e, .i .i64 p] (.i .i64 (atF s e p)) := by
  have hr := zaD s (s.length - 1 - (p - e))
  refine zax Tryz.func136 rfl Tryz.ntmps136 Tryz.results136 rfl rfl fun X hL hX => ?_
  repeat' (first |with_reducible (first |refine zah ?_|refine zaa ?_|refine zag ?_|refine zad ?_|refine zan ?_|refine zai ?_|refine zam ?_)|refine zab rfl rfl True.intro ?_|refine zap rfl rfl rfl ?_|refine zaj rfl rfl rfl rfl True.intro ?_|refine zau rfl ?_|((first |refine zac rfl ?_ ?_|refine zak rfl rfl ?_ ?_)<;>intro)|((first |refine zab rfl rfl ?_ ?_|refine zaj rfl rfl rfl rfl ?_ ?_|refine zav rfl rfl ?_ ?_);focus (first |omega|exact le_ rfl|((repeat first |rw [wi6_]);(repeat' refine And.intro ?_ ?_)<;>omega)|((repeat' refine And.intro ?_ ?_)<;>first |rfl)))|refine zaq rfl ?_|fail)
  · unfold atF
    rw [if_pos (.inl ‹_›)]
  · unfold atF
    rw [if_pos (.inr ‹_›)]
  · unfold atF
    rw [if_neg (by omega), wi6_]
    exact congrArg (D.i .i64) (by omega)

def pad (s : List UInt8) (j : Nat) : Int := if j < s.length then at' s j - 48 else 0
theorem zqD (s : List UInt8) (e : Int) (j : Nat) : atF s e (s.length + e - 1 - j) = pad s j := by
  unfold atF pad
  rw [show (s.length : Int) - 1 - (s.length + e - 1 - j - e) = j by omega]
  by_cases h : j < s.length
  · rw [if_neg (by omega), if_pos h]
  · rw [if_pos (by omega), if_neg h]
theorem zml (s : List UInt8) (e p : Int) (h : s.length + e ≤ p) : atF s e p = 0 := by
  unfold atF
  rw [if_pos (by omega)]
def lastOk (s : List UInt8) : Prop := ∀ c r, s = r ++ [c] → ¬ c = 48

abbrev tL (s : List UInt8) : List UInt8 := Lib.trimLeftB s 48
abbrev tR (s : List UInt8) : List UInt8 := Lib.trimRightB s 48
theorem zjc (r : List UInt8) (c : UInt8) : at' (r ++ [c]) (r.length : Int) = (c.toNat : Int) := by
  simp [at', List.getD_eq_getElem?_getD]
theorem zdQ (r : List UInt8) : tR (r ++ [48]) = tR r := by simp [tR, Lib.trimRightB]
theorem zdT (r : List UInt8) (c : UInt8) (h : ¬ c = 48) : tR (r ++ [c]) = r ++ [c] := by simp [tR, Lib.trimRightB, h]
theorem zkO {c : UInt8} {n : Nat} (h : n < 256) : (c.toNat : Int) = n ↔ c = UInt8.ofNat n := ziK c n h
theorem zqT (s : List UInt8) (h0 : ¬ s.length = 0) (h : at' s (s.length - 1) = 48) : tR (s.take (s.length - 1)) = tR s := by
  rcases zbk s with rfl | ⟨r, c, rfl⟩
  · simp at h0
  · have e : ((r ++ [c]).length : Int) - 1 = r.length := by simp
    rw [e, zjc] at h
    obtain rfl : c = 48 := (zkO (n := 48) (by omega)).1 h
    rw [zdQ]
    simp
theorem zqf (s : List UInt8) (h : s.length = 0 ∨ ¬ at' s (s.length - 1) = 48) : tR s = s := by
  rcases zbk s with rfl | ⟨r, c, rfl⟩
  · rfl
  · have e : ((r ++ [c]).length : Int) - 1 = r.length := by simp
    rw [e, zjc] at h
    refine zdT r c fun hc => ?_
    subst hc
    rcases h with h | h
    · simp at h
    · exact h rfl
theorem zqy (s : List UInt8) (h0 : ¬ s.length = 0) (h : at' s 0 = 48) : tL (s.drop 1) = tL s := by
  match s, h0 with
  | c :: r, _ =>
    have h : (c.toNat : Int) = 48 := h
    obtain rfl : c = 48 := (zkO (n := 48) (by omega)).1 h
    simp [tL, Lib.trimLeftB]
theorem zqn (s : List UInt8) (h : s.length = 0 ∨ ¬ at' s 0 = 48) : tL s = s := by
  match s with
  | [] => rfl
  | c :: r =>
    have h : ¬ (c.toNat : Int) = 48 := by
      rcases h with h | h
      · simp at h
      · exact h
    have : ¬ c = 48 := fun e => h (by rw [e]; rfl)
    simp [tL, Lib.trimLeftB, this]
theorem zma (s : List UInt8) : (tL s).length ≤ s.length := by
  unfold tL Lib.trimLeftB
  induction s with
  | nil => simp
  | cons c r ih =>
    rw [List.dropWhile_cons]
    split
    · simp only [List.length_cons]
      omega
    · simp
theorem zjl (s : List UInt8) : (tR s).length ≤ s.length := by
  have := zma s.reverse
  unfold tR Lib.trimRightB
  unfold tL Lib.trimLeftB at this
  simpa using this
def normF (neg : Bool) (s : List UInt8) (e : Int) : (Bool × List UInt8 × Int) × Int :=
  if (tL (tR s)).length = 0 then ((false, [], 0), 0)
  else if 100 < (tL (tR s)).length then ((false, [], 0), 5)
  else if e + (s.length - (tR s).length) < -1000 ∨ 1000 < e + (s.length - (tR s).length) then ((false, [], 0), 8)
  else ((neg, tL (tR s), e + (s.length - (tR s).length)), 0)
abbrev dcV (x : Bool × List UInt8 × Int) : D := dcD x.1 x.2.1 x.2.2
end Go.Proofs.YtkkaamhocpmhkaaGreatDoor.Flow
