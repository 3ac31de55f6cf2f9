/- The texts D13, U1, U2, U3, U4, U5, U6, U7, one behind the other. -/
import Derived.Test.YtkkaamhocpmhkaaGreatDoorJJ9
import Derived.Test.YtkkaamhocpmhkaaGreatDoorJJ12
import Derived.Test.YtkkaamhocpmhkaaGreatDoorJJ14
import Derived.Test.YtkkaamhocpmhkaaGreatDoorJJ15
import Derived.Laws.BitsLemmas
namespace Go.Proofs.YtkkaamhocpmhkaaGreatDoor.Flow
open Go
theorem zlQ {s : List UInt8} (hd : ∀ c ∈ s, isD c = true) (n : Nat) : ∀ c ∈ s ++ zs n, isD c = true := fun c hc => by
  rcases List.mem_append.1 hc with hc | hc
  · exact hd c hc
  · rw [List.eq_of_mem_replicate hc]
    rfl
theorem zjE {s : List UInt8} (h : digs s) : ∀ c ∈ s, isD c = true := fun c hc => by
  obtain ⟨i, hi, rfl⟩ := List.getElem_of_mem hc
  have := h i hi
  unfold at' at this
  simp only [Int.toNat_natCast, List.getD_eq_getElem?_getD, List.getElem?_eq_getElem hi, Option.getD_some] at this
  exact zby.2 this
theorem zjs {ds : List UInt8} (hd : ∀ c ∈ ds, isD c = true) {i : Nat} (h : i < ds.length) : ((numL (ds.take (i + 1)) : Nat) : Int) = 10 * (numL (ds.take i) : Nat) + (at' ds i - 48) ∧ 48 ≤ at' ds i ∧ at' ds i ≤ 57 := by
  have hm : ds.getD i 0 ∈ ds := by
    simp only [List.getD_eq_getElem?_getD, List.getElem?_eq_getElem h, Option.getD_some]
    exact List.getElem_mem h
  have h1 := zby.1 (hd _ hm)
  refine ⟨?_, h1⟩
  rw [zcA ds i h, znY]
  show _ = 10 * _ + (((ds.getD i 0).toNat : Int) - 48)
  omega
theorem zpy {ds : List UInt8} (hd : ∀ c ∈ ds, isD c = true) (hl : ds.length ≤ 19) (i : Nat) : ((numL (ds.take i) : Nat) : Int) < 10000000000000000000 := by
  have h1 := zmW (ds.take i) fun c hc => hd c (List.mem_of_mem_take hc)
  have h2 : 10 ^ (ds.take i).length ≤ 10 ^ 19 := Nat.pow_le_pow_right (by decide) (by rw [List.length_take]; omega)
  omega
theorem zjp {neg : Bool} {s : List UInt8} {e : Int} (h : ¬ RightP neg s e ∨ e < 0 ∨ 19 < s.length + e) : intF neg s e = (0, false) := if_pos h
theorem zpL {neg : Bool} {s : List UInt8} {e : Int} (h : ¬ (¬ RightP neg s e ∨ e < 0 ∨ 19 < s.length + e)) (h2 : 4611686018427387904 < ((numL (s ++ zs e.toNat) : Nat) : Int)) : intF neg s e = (0, false) := by
  unfold intF
  rw [if_neg h, if_pos (by omega)]
theorem zpE {neg : Bool} {s : List UInt8} {e : Int} (h : ¬ (¬ RightP neg s e ∨ e < 0 ∨ 19 < s.length + e)) (h2 : ¬ 4611686018427387904 < ((numL (s ++ zs e.toNat) : Nat) : Int)) (h3 : neg = true) : intF neg s e = (-((numL (s ++ zs e.toNat) : Nat) : Int), true) := by
  unfold intF
  rw [if_neg h, if_neg (by omega), if_pos h3]
theorem zpx {neg : Bool} {s : List UInt8} {e : Int} (h : ¬ (¬ RightP neg s e ∨ e < 0 ∨ 19 < s.length + e)) (h2 : ¬ 4611686018427387904 < ((numL (s ++ zs e.toNat) : Nat) : Int)) (h3 : ¬ neg = true) : intF neg s e = (((numL (s ++ zs e.toNat) : Nat) : Int), true) := by
  unfold intF
  rw [if_neg h, if_neg (by omega), if_neg h3]
theorem zpV (neg : Bool) (s : List UInt8) (e : Int) (hs : s.length ≤ 1048576) (h : ¬ RightP neg s e) : Ctr Tryz.prog 79 [dcD neg s e] (.tu [.i .i64 0, .b false]) := by
  have c1 := zbE neg s e (by omega)
  rw [zcJ h] at c1
  refine zax Tryz.func79 rfl Tryz.ntmps79 Tryz.results79 rfl rfl fun X hL hX => ?_
  repeat' (first |with_reducible (first |refine zah ?_|refine zaa ?_|refine zag ?_|refine zad ?_|refine zan ?_|refine zam ?_)|refine zab rfl rfl True.intro ?_|refine zap rfl rfl rfl ?_|refine zau rfl ?_|((first |refine zab rfl rfl ?_ ?_|refine zav rfl rfl ?_ ?_);focus (first |exact le_ rfl|((repeat' refine And.intro ?_ ?_)<;>omega)|((repeat' refine And.intro ?_ ?_)<;>first |rfl)))|refine zaq rfl ?_|refine zae (f := 127) rfl rfl Tryz.call127 rfl c1 ?_|fail)
  all_goals rfl
theorem zpg (neg : Bool) (s : List UInt8) (e : Int) (hs : s.length ≤ 1048576) (h : ¬ RightP neg s e) : Ctr Tryz.prog 84 [dcD neg s e] (.tu [.i .i64 0, .b false]) := by
  have c1 := zbB neg s e (by omega)
  rw [zcJ h] at c1
  refine zax Tryz.func84 rfl Tryz.ntmps84 Tryz.results84 rfl rfl fun X hL hX => ?_
  repeat' (first |with_reducible (first |refine zah ?_|refine zaa ?_|refine zag ?_|refine zad ?_|refine zan ?_|refine zam ?_)|refine zab rfl rfl True.intro ?_|refine zap rfl rfl rfl ?_|refine zau rfl ?_|((first |refine zab rfl rfl ?_ ?_|refine zav rfl rfl ?_ ?_);focus (first |exact le_ rfl|((repeat' refine And.intro ?_ ?_)<;>omega)|((repeat' refine And.intro ?_ ?_)<;>first |rfl)))|refine zaq rfl ?_|refine zae (f := 135) rfl rfl Tryz.call135 rfl c1 ?_|fail)
  all_goals rfl
set_option maxHeartbeats 1000000 in
theorem zqo (neg : Bool) (s : List UInt8) (e : Int) (hs : s.length ≤ 1048576) : Ctr Tryz.prog 79 [dcD neg s e] (.tu [.i .i64 (intF neg s e).1, .b (intF neg s e).2]) := by
  by_cases h : RightP neg s e
  case neg =>
    rw [zjp (.inl h)]
    exact zpV neg s e hs h
  obtain ⟨b1, b2, b3, b4⟩ := h.bounds
  have c1 := zbE neg s e (by omega)
  rw [zaY.2 h] at c1
  have c2 := fun h0 => ziP e h0 (by omega)
  have hds := zlQ (zjE b4) e.toNat
  have hlen : (s ++ zs e.toNat).length = s.length + e.toNat := by simp
  have I1 : (e < 0 ∨ 19 < s.length + e) → intF neg s e = (0, false) := fun h2 => zjp (.inr h2)
  have hno : ¬ (e < 0 ∨ 19 < s.length + e) → ¬ (¬ RightP neg s e ∨ e < 0 ∨ 19 < s.length + e) := fun h2 h3 => h3.elim (fun h4 => h4 h) h2
  have I2 := fun h2 => zpL (neg := neg) (s := s) (e := e) (hno h2)
  have I3 := fun h2 => zpE (neg := neg) (s := s) (e := e) (hno h2)
  have I4 := fun h2 => zpx (neg := neg) (s := s) (e := e) (hno h2)
  clear h hno b4
  generalize intF neg s e = R at *
  have lz : (zs e.toNat).length = e.toNat := by simp
  refine zax Tryz.func79 rfl Tryz.ntmps79 Tryz.results79 rfl rfl fun X hL hX => ?_
  repeat' (first |with_reducible (first |refine zah ?_|refine zaa ?_|refine zag ?_|refine zad ?_|refine zan ?_|refine zai ?_|refine zaf ?_|refine zam ?_|refine zaC ?_)|refine zab rfl rfl True.intro ?_|refine zap rfl rfl rfl ?_|refine zaj rfl rfl rfl rfl True.intro ?_|refine zau rfl ?_|((first |refine zac rfl ?_ ?_|refine zak rfl rfl ?_ ?_|refine zaT rfl rfl ?_ ?_)<;>intro<;>try (first |(rename_i hz;exact tf_ hz)))|((first |refine zab rfl rfl ?_ ?_|refine zaj rfl rfl rfl rfl ?_ ?_|refine zav rfl rfl ?_ ?_);focus (first |(rw [lz];omega)|omega|exact le_ rfl|((repeat' refine And.intro ?_ ?_)<;>omega)|((repeat' refine And.intro ?_ ?_)<;>first |rfl)))|with_reducible refine ⟨by kernel_rfl, ?_⟩|refine zaq rfl ?_|refine zae (f := 127) rfl rfl Tryz.call127 rfl c1 ?_|refine zae (f := 128) rfl rfl Tryz.call128 rfl (c2 (by omega)) ?_|refine zpW rfl rfl rfl rfl ?_|fail)
  · rw [I1 (by omega)]
  · rw [I1 (by omega)]
  rename_i h1 h2
  replace I2 := I2 (by omega)
  replace I3 := I3 (by omega)
  replace I4 := I4 (by omega)
  have hl19 : (s ++ zs e.toNat).length ≤ 19 := by omega
  have hnum := zpy hds hl19
  have htake := fun i h => zjs hds (i := i) h
  clear I1 c1 c2 hds
  generalize s ++ zs e.toNat = ds at *
  refine T.loop hL (fun k : Nat => [(1, .pv 1 0), (4, .i .u64 (numL (ds.take k) : Nat)), (30, .pv 30 0)]) (fun k => [(1, .var [.b neg, .s s, .i .i64 e]), (30, .ob (.stringIter ⟨ds.toArray⟩ k))]) (fun k => k ≤ ds.length) (fun k => ds.length - k) 0 (Nat.zero_le _)
    ⟨⟨rfl, rfl, rfl, trivial⟩, ⟨rfl, rfl, trivial⟩, rfl, by rw [hX]; intro k hk; cases hk⟩ ?_
  intro k hk
  by_cases hlt : k < ds.length
  · obtain ⟨e1, e2, e3⟩ := htake k hlt
    have n0 := hnum k
    have n1 := hnum (k + 1)
    rw [e1] at n1
    have ew : IntKind.u64.wrap (IntKind.u64.wrap (10 * ((numL (ds.take k) : Nat) : Int)) + IntKind.u64.wrap (IntKind.i32.wrap (at' ds k - 48))) = ((numL (ds.take (k + 1)) : Nat) : Int) := by
      rw [e1]
      simp only [wi3_, zar]
      omega
    clear I2 I3 I4 hnum htake
    repeat' (first |with_reducible (first |refine zah ?_|refine zaa ?_|refine zag ?_|refine zad ?_|refine zai ?_|refine zaf ?_|refine zao ?_)|refine zab rfl rfl True.intro ?_|refine zau rfl ?_|refine zrq rfl rfl rfl hlt (by omega) ?_|fail)
    exact ⟨k + 1, by omega, by omega, ⟨rfl, congrArg (D.i .u64) ew, rfl, trivial⟩, ⟨rfl, rfl, trivial⟩, rfl, by rw [hX]; intro k hk; cases hk⟩
  · have hfull : ds.take k = ds := List.take_of_length_le (by omega)
    rw [hfull]
    have n0 := hnum ds.length
    rw [List.take_of_length_le (Nat.le_refl _)] at n0
    clear hnum htake hfull
    generalize numL ds = N at *
    repeat' (first |with_reducible (first |refine zah ?_|refine zaa ?_|refine zag ?_|refine zad ?_|refine zan ?_|refine zai ?_|refine zat ?_|refine zas ?_|refine zam ?_)|refine zab rfl rfl True.intro ?_|refine zal rfl ?_|((first |refine zac rfl ?_ ?_|refine zep rfl ?_ ?_)<;>intro)|((first |refine zab rfl rfl ?_ ?_);focus (first |exact le_ rfl|((repeat first |rw [wi6_]);(repeat' refine And.intro ?_ ?_)<;>omega)))|refine zaB rfl ?_|refine zaq rfl ?_|refine zrh rfl rfl rfl (by omega) ?_|fail)
    · rw [I2 (by omega)]
    · rw [I3 (by omega) ‹_›, wi6_]
      exact congrArg (fun x => D.tu [.i .i64 x, .b true]) (by omega)
    · rw [I4 (by omega) (Bool.eq_false_iff.1 ‹_›), wi6_]
      exact congrArg (fun x => D.tu [.i .i64 x, .b true]) (by omega)
set_option maxHeartbeats 1000000 in
theorem zov (neg : Bool) (s : List UInt8) (e : Int) (hs : s.length ≤ 1048576) : Ctr Tryz.prog 84 [dcD neg s e] (.tu [.i .i64 (intF neg s e).1, .b (intF neg s e).2]) := by
  by_cases h : RightP neg s e
  case neg =>
    rw [zjp (.inl h)]
    exact zpg neg s e hs h
  obtain ⟨b1, b2, b3, b4⟩ := h.bounds
  have c1 := zbB neg s e (by omega)
  rw [zaY.2 h] at c1
  have hds := zlQ (zjE b4) e.toNat
  have hlen : (s ++ zs e.toNat).length = s.length + e.toNat := by simp
  have I1 : (e < 0 ∨ 19 < s.length + e) → intF neg s e = (0, false) := fun h2 => zjp (.inr h2)
  have hno : ¬ (e < 0 ∨ 19 < s.length + e) → ¬ (¬ RightP neg s e ∨ e < 0 ∨ 19 < s.length + e) := fun h2 h3 => h3.elim (fun h4 => h4 h) h2
  have I2 := fun h2 => zpL (neg := neg) (s := s) (e := e) (hno h2)
  have I3 := fun h2 => zpE (neg := neg) (s := s) (e := e) (hno h2)
  have I4 := fun h2 => zpx (neg := neg) (s := s) (e := e) (hno h2)
  have hup : ∀ p : Int, s.length + e ≤ p → atF s e p = 0 := fun p h => zml s e p h
  have hat : 0 ≤ e → ∀ i : Nat, i < s.length + e.toNat → atF s e (s.length + e - 1 - i) = at' (s ++ zs e.toNat) i - 48 := fun he i hi => by
    rw [zqD, ← zrG s e.toNat i]
    unfold pad
    rw [if_pos (by rw [hlen]; exact hi)]
  clear h hno b4
  generalize intF neg s e = R at *
  refine zax Tryz.func84 rfl Tryz.ntmps84 Tryz.results84 rfl rfl fun X hL hX => ?_
  repeat' (first |with_reducible (first |refine zah ?_|refine zaa ?_|refine zag ?_|refine zad ?_|refine zan ?_|refine zai ?_|refine zaf ?_|refine zam ?_)|refine zab rfl rfl True.intro ?_|refine zap rfl rfl rfl ?_|refine zaj rfl rfl rfl rfl True.intro ?_|refine zau rfl ?_|((first |refine zac rfl ?_ ?_|refine zak rfl rfl ?_ ?_|refine zaT rfl rfl ?_ ?_)<;>intro<;>try (first |(rename_i hz;exact tf_ hz)))|((first |refine zab rfl rfl ?_ ?_|refine zaj rfl rfl rfl rfl ?_ ?_|refine zav rfl rfl ?_ ?_);focus (first |omega|exact le_ rfl|((repeat' refine And.intro ?_ ?_)<;>omega)|((repeat' refine And.intro ?_ ?_)<;>first |rfl)))|refine zaq rfl ?_|refine zae (f := 135) rfl rfl Tryz.call135 rfl c1 ?_|fail)
  · rw [I1 (by omega)]
  · rw [I1 (by omega)]
  rename_i h1 h2
  replace I2 := I2 (by omega)
  replace I3 := I3 (by omega)
  replace I4 := I4 (by omega)
  replace hat := hat (by omega)
  have hl19 : (s ++ zs e.toNat).length ≤ 19 := by omega
  have hnum := zpy hds hl19
  have htake := fun i h => zjs hds (i := i) h
  clear I1 c1 hds
  generalize s ++ zs e.toNat = ds at *
  refine T.loop hL (fun k : Nat => [(1, .pv 1 0), (4, .i .u64 (numL (ds.take (k - (20 - ds.length))) : Nat)), (5, .i .i64 (19 - (k : Int)))]) (fun k => [(1, .var [.b neg, .s s, .i .i64 e])]) (fun k => k ≤ 20) (fun k => 20 - k) 0 (Nat.zero_le _)
    ⟨⟨rfl, by rw [Nat.zero_sub]; rfl, rfl, trivial⟩, ⟨rfl, trivial⟩, rfl, by rw [hX]; intro k hk; cases hk⟩ ?_
  intro k hk
  by_cases hlt : k < 20
  · have ca := zoy neg s e (19 - (k : Int)) (by omega) (by omega) (by omega) (by omega) (by omega)
    have n0 := hnum (k - (20 - ds.length))
    have n1 := hnum (k + 1 - (20 - ds.length))
    have ew : IntKind.u64.wrap (IntKind.u64.wrap (10 * ((numL (ds.take (k - (20 - ds.length))) : Nat) : Int)) + IntKind.u64.wrap (atF s e (19 - (k : Int)))) = ((numL (ds.take (k + 1 - (20 - ds.length))) : Nat) : Int) := by
      by_cases hb : 20 - ds.length ≤ k
      · obtain ⟨e1, e2, e3⟩ := htake (k - (20 - ds.length)) (by omega)
        have ea := hat (k - (20 - ds.length)) (by omega)
        rw [show (s.length : Int) + e - 1 - ((k - (20 - ds.length) : Nat) : Int) = 19 - (k : Int) by omega] at ea
        rw [show k + 1 - (20 - ds.length) = k - (20 - ds.length) + 1 by omega] at n1 ⊢
        rw [e1] at n1 ⊢
        rw [ea]
        simp only [zar]
        omega
      · rw [hup (19 - (k : Int)) (by omega), show k - (20 - ds.length) = 0 by omega, show k + 1 - (20 - ds.length) = 0 by omega]
        rfl
    have ra : 0 ≤ atF s e (19 - (k : Int)) ∧ atF s e (19 - (k : Int)) ≤ 9 := by
      by_cases hb : 20 - ds.length ≤ k
      · obtain ⟨e1, e2, e3⟩ := htake (k - (20 - ds.length)) (by omega)
        have ea := hat (k - (20 - ds.length)) (by omega)
        rw [show (s.length : Int) + e - 1 - ((k - (20 - ds.length) : Nat) : Int) = 19 - (k : Int) by omega] at ea
        omega
      · have := hup (19 - (k : Int)) (by omega)
        omega
    have hs19 : (19 : Int) - k - 1 = 19 - ((k + 1 : Nat) : Int) := by omega
    clear I2 I3 I4 hnum htake hat hup
    generalize atF s e (19 - (k : Int)) = A at *
    repeat' (first |with_reducible (first |refine zah ?_|refine zaa ?_|refine zag ?_|refine zad ?_|refine zai ?_|refine zaf ?_|refine zao ?_)|refine zab rfl rfl True.intro ?_|((first |refine zac rfl ?_ ?_)<;>intro<;>try (first |(exfalso;omega)))|((first |refine zab rfl rfl ?_ ?_);focus (first |omega|exact le_ rfl|((repeat' refine And.intro ?_ ?_)<;>omega)))|refine zae (f := 136) rfl rfl Tryz.call136 rfl ca ?_|fail)
    exact ⟨k + 1, by omega, by omega, ⟨rfl, congrArg (D.i .u64) ew, congrArg (D.i .i64) hs19, trivial⟩, ⟨rfl, trivial⟩, rfl, by rw [hX]; intro k hk; cases hk⟩
  · have hfull : ds.take (k - (20 - ds.length)) = ds := List.take_of_length_le (by omega)
    rw [hfull]
    have n0 := hnum ds.length
    rw [List.take_of_length_le (Nat.le_refl _)] at n0
    clear hnum htake hfull hat hup
    generalize numL ds = N at *
    repeat' (first |with_reducible (first |refine zah ?_|refine zaa ?_|refine zag ?_|refine zad ?_|refine zan ?_|refine zai ?_|refine zat ?_|refine zas ?_|refine zam ?_)|refine zab rfl rfl True.intro ?_|((first |refine zac rfl ?_ ?_|refine zep rfl ?_ ?_)<;>intro<;>try (first |(exfalso;omega)))|((first |refine zab rfl rfl ?_ ?_);focus (first |exact le_ rfl|((repeat first |rw [wi6_]);(repeat' refine And.intro ?_ ?_)<;>omega)))|refine zaB rfl ?_|refine zaq rfl ?_|fail)
    · rw [I2 (by omega)]
    · rw [I3 (by omega) ‹_›, wi6_]
      exact congrArg (fun x => D.tu [.i .i64 x, .b true]) (by omega)
    · rw [I4 (by omega) (Bool.eq_false_iff.1 ‹_›), wi6_]
      exact congrArg (fun x => D.tu [.i .i64 x, .b true]) (by omega)

section
variable {s : List UInt8} {k : Nat} {n i : Int}
end

section
variable {s : List UInt8} {i j j1 j2 j3 n m e e1 e2 e3 : Int} {o : List UInt8}
end

def tlB (l : List UInt8) (k : Int) (lo hi : Int) : Bool := decide (k < l.length) && decide (lo ≤ at' l k) && decide (at' l k ≤ hi)
def loF (c : Int) : Int := if c = 224 then 160 else if c = 240 then 144 else 128
def hiF (c : Int) : Int := if c = 237 then 159 else if c = 244 then 143 else 191
def oneL (l : List UInt8) : Nat :=
  if at' l 0 < 128 then 1
  else if tlB l 1 (loF (at' l 0)) (hiF (at' l 0)) = false then 0
  else if 194 ≤ at' l 0 ∧ at' l 0 ≤ 223 then 2
  else if 224 ≤ at' l 0 ∧ at' l 0 ≤ 239 ∧ tlB l 2 128 191 = true then 3
  else if 240 ≤ at' l 0 ∧ at' l 0 ≤ 244 ∧ tlB l 2 128 191 = true ∧ tlB l 3 128 191 = true then 4
  else 0
def validN : Nat → List UInt8 → Bool
  | 0, _ => true
  | n + 1, l => if l.length = 0 then true else if oneL l = 0 then false else validN n (l.drop (oneL l))
def validL (l : List UInt8) : Bool := validN l.length l
theorem ziz : ∀ (n m : Nat) (l : List UInt8), l.length ≤ n → l.length ≤ m → validN n l = validN m l
  | 0, m, l, h, _ => by
    have : l.length = 0 := by omega
    cases m with
    | zero => rfl
    | succ m => simp [validN, this]
  | n + 1, 0, l, _, h => by
    have : l.length = 0 := by omega
    simp [validN, this]
  | n + 1, m + 1, l, h1, h2 => by
    unfold validN
    by_cases h0 : l.length = 0
    · simp [h0]
    · rw [if_neg h0, if_neg h0]
      by_cases ho : oneL l = 0
      · rw [if_pos ho, if_pos ho]
      · rw [if_neg ho, if_neg ho]
        exact ziz n m _ (by rw [List.length_drop]; omega) (by rw [List.length_drop]; omega)
theorem zgb {l : List UInt8} (h : l.length = 0) : validL l = true := by
  unfold validL
  rw [h]
  rfl
theorem zfN {l : List UInt8} (h : ¬ l.length = 0) (ho : oneL l = 0) : validL l = false := by
  unfold validL
  obtain ⟨n, hn⟩ : ∃ n, l.length = n + 1 := ⟨l.length - 1, by omega⟩
  rw [hn]
  unfold validN
  rw [if_neg h, if_pos ho]
theorem zcW {l : List UInt8} (h : ¬ l.length = 0) (ho : ¬ oneL l = 0) : validL l = validL (l.drop (oneL l)) := by
  unfold validL
  obtain ⟨n, hn⟩ : ∃ n, l.length = n + 1 := ⟨l.length - 1, by omega⟩
  rw [hn]
  conv => lhs; unfold validN
  rw [if_neg h, if_neg ho]
  exact ziz _ _ _ (by rw [List.length_drop]; omega) (Nat.le_refl _)
theorem zeY (l : List UInt8) (k j : Nat) : at' (l.drop k) j = at' l ((k + j : Nat) : Int) := by
  unfold at'
  simp only [Int.toNat_natCast]
  simp [List.getD_eq_getElem?_getD, List.getElem?_drop]
theorem zbI : ∀ (k : Nat) (l : List UInt8), k ≤ l.length → (∀ j : Nat, j < k → at' l j < 128) → validL (l.drop k) = validL l
  | 0, l, _, _ => by simp
  | k + 1, l, h, ha => by
    have h0 := ha 0 (by omega)
    have ho : oneL l = 1 := by unfold oneL; rw [if_pos (by simpa using h0)]
    rw [zcW (l := l) (by omega) (by omega), ho, ← zbI k (l.drop 1) (by rw [List.length_drop]; omega) (fun j hj => by rw [zeY]; exact ha (1 + j) (by omega)), List.drop_drop, Nat.add_comm 1 k]
def wordV (l : List UInt8) : Int := at' l 0 + 256 * at' l 1 + 65536 * at' l 2 + 16777216 * at' l 3 + 4294967296 * at' l 4 + 1099511627776 * at' l 5 + 281474976710656 * at' l 6 + 72057594037927936 * at' l 7
theorem zaV (n : Int) (h₀ : 0 ≤ n) (h₁ : n < 2 ^ 64) : IntKind.u64.wrap n = n := by rw [zar]; omega
theorem zgY (k : IntKind) (x y : Int) : bits .or k x y = bits .or k y x := by simp [bits, BitVec.or_comm]
theorem ziE (i : Nat) (x y p : Int) (hx : 0 ≤ x) (hx2 : x < 2 ^ i) (hy : 0 ≤ y) (hy2 : y < 256) (_hi : i + 8 ≤ 64) (hp : p = 2 ^ i) (hp2 : y * p < 18446744073709551616) (hx3 : x < 18446744073709551616) (hp0 : 0 ≤ y * p) : bits .or .u64 x (IntKind.u64.wrap (IntKind.u64.wrap y * p)) = x + y * p := by
  rw [zaV y hy (by omega), zaV _ hp0 hp2, zgY, bits_join .u64 64 (by decide) zaV i _ _ hp0 (by rw [hp, Int.mul_emod_left]) hp2 hx hx2 hx3]
  omega
theorem zog (l : List UInt8) (h : 8 ≤ l.length) : Ctr Tryz.prog 167 [.s l] (.i .u64 (wordV l)) := by
  have r0 := zaD l 0
  have r1 := zaD l 1
  have r2 := zaD l 2
  have r3 := zaD l 3
  have r4 := zaD l 4
  have r5 := zaD l 5
  have r6 := zaD l 6
  have r7 := zaD l 7
  refine zax Tryz.func167 rfl Tryz.ntmps167 Tryz.results167 rfl rfl fun X hL hX => ?_
  repeat' (first |with_reducible (first |refine zah ?_|refine zaa ?_|refine zag ?_|refine zad ?_|refine zan ?_|refine zai ?_|refine zaC ?_)|refine zab rfl rfl True.intro ?_|refine zal rfl ?_|((first |refine zab rfl rfl ?_ ?_);focus (first |omega|((repeat' refine And.intro ?_ ?_)<;>omega)))|with_reducible refine ⟨by kernel_rfl, ?_⟩|refine zaq rfl ?_|fail)
  unfold wordV
  generalize at' l 0 = b0 at *
  generalize at' l 1 = b1 at *
  generalize at' l 2 = b2 at *
  generalize at' l 3 = b3 at *
  generalize at' l 4 = b4 at *
  generalize at' l 5 = b5 at *
  generalize at' l 6 = b6 at *
  generalize at' l 7 = b7 at *
  have p8 : (2 : Int) ^ Int.toNat 8 = 256 := by decide
  have p16 : (2 : Int) ^ Int.toNat 16 = 65536 := by decide
  have p24 : (2 : Int) ^ Int.toNat 24 = 16777216 := by decide
  have p32 : (2 : Int) ^ Int.toNat 32 = 4294967296 := by decide
  have p40 : (2 : Int) ^ Int.toNat 40 = 1099511627776 := by decide
  have p48 : (2 : Int) ^ Int.toNat 48 = 281474976710656 := by decide
  have p56 : (2 : Int) ^ Int.toNat 56 = 72057594037927936 := by decide
  rw [p8, p16, p24, p32, p40, p48, p56, zaV b0 r0.1 (by omega)]
  rw [ziE 8 b0 b1 256 (by omega) (by omega) r1.1 r1.2 (by omega) (by decide) (by omega) (by omega) (by omega)]
  rw [ziE 16 _ b2 65536 (by omega) (by omega) r2.1 r2.2 (by omega) (by decide) (by omega) (by omega) (by omega)]
  rw [ziE 24 _ b3 16777216 (by omega) (by omega) r3.1 r3.2 (by omega) (by decide) (by omega) (by omega) (by omega)]
  rw [ziE 32 _ b4 4294967296 (by omega) (by omega) r4.1 r4.2 (by omega) (by decide) (by omega) (by omega) (by omega)]
  rw [ziE 40 _ b5 1099511627776 (by omega) (by omega) r5.1 r5.2 (by omega) (by decide) (by omega) (by omega) (by omega)]
  rw [ziE 48 _ b6 281474976710656 (by omega) (by omega) r6.1 r6.2 (by omega) (by decide) (by omega) (by omega) (by omega)]
  rw [ziE 56 _ b7 72057594037927936 (by omega) (by omega) r7.1 r7.2 (by omega) (by decide) (by omega) (by omega) (by omega)]
  exact congrArg (D.i .u64) (by omega)
theorem zqR (w : Nat) (h : bits .and .u64 (w : Int) 9259542123273814144 = 0) (hw : w < 18446744073709551616) : w / 128 % 2 = 0 ∧ w / 32768 % 2 = 0 ∧ w / 8388608 % 2 = 0 ∧ w / 2147483648 % 2 = 0 ∧ w / 549755813888 % 2 = 0 ∧ w / 140737488355328 % 2 = 0 ∧ w / 36028797018963968 % 2 = 0 ∧ w / 9223372036854775808 % 2 = 0 := by
  have h1 := (bits_nat .u64 64 (by decide) zaV w 9259542123273814144 hw (by decide)).1
  have h2 : w &&& 9259542123273814144 = 0 := by
    have : ((9259542123273814144 : Nat) : Int) = 9259542123273814144 := rfl
    rw [this, h] at h1
    omega
  have key : ∀ i, (9259542123273814144 : Nat).testBit i = true → w / 2 ^ i % 2 = 0 := fun i hi => by
    have h3 : (w &&& 9259542123273814144).testBit i = false := by rw [h2]; exact Nat.zero_testBit i
    rw [Nat.testBit_and, hi, Bool.and_true, Nat.testBit_eq_decide_div_mod_eq] at h3
    have := of_decide_eq_false h3
    omega
  exact ⟨key 7 (by decide), key 15 (by decide), key 23 (by decide), key 31 (by decide), key 39 (by decide), key 47 (by decide), key 55 (by decide), key 63 (by decide)⟩
theorem zbf (l : List UInt8) : 0 ≤ wordV l ∧ wordV l < 18446744073709551616 := by
  have r0 := zaD l 0
  have r1 := zaD l 1
  have r2 := zaD l 2
  have r3 := zaD l 3
  have r4 := zaD l 4
  have r5 := zaD l 5
  have r6 := zaD l 6
  have r7 := zaD l 7
  unfold wordV
  omega
theorem zcc (l : List UInt8) (h : bits .and .u64 (wordV l) 9259542123273814144 = 0) : ∀ j : Nat, j < 8 → at' l j < 128 := by
  have hr := zbf l
  obtain ⟨w, hw⟩ : ∃ w : Nat, wordV l = w := ⟨(wordV l).toNat, by omega⟩
  rw [hw] at h
  obtain ⟨k0, k1, k2, k3, k4, k5, k6, k7⟩ := zqR w h (by omega)
  have r0 := zaD l 0
  have r1 := zaD l 1
  have r2 := zaD l 2
  have r3 := zaD l 3
  have r4 := zaD l 4
  have r5 := zaD l 5
  have r6 := zaD l 6
  have r7 := zaD l 7
  unfold wordV at hw
  intro j hj
  have hj : j = 0 ∨ j = 1 ∨ j = 2 ∨ j = 3 ∨ j = 4 ∨ j = 5 ∨ j = 6 ∨ j = 7 := by omega
  rcases hj with rfl | rfl | rfl | rfl | rfl | rfl | rfl | rfl
  · show at' l 0 < 128; clear k1 k2 k3 k4 k5 k6 k7; omega
  · show at' l 1 < 128; clear k0 k2 k3 k4 k5 k6 k7; omega
  · show at' l 2 < 128; clear k1 k0 k3 k4 k5 k6 k7; omega
  · show at' l 3 < 128; clear k1 k2 k0 k4 k5 k6 k7; omega
  · show at' l 4 < 128; clear k1 k2 k3 k0 k5 k6 k7; omega
  · show at' l 5 < 128; clear k1 k2 k3 k4 k0 k6 k7; omega
  · show at' l 6 < 128; clear k1 k2 k3 k4 k5 k0 k7; omega
  · show at' l 7 < 128; clear k1 k2 k3 k4 k5 k6 k0; omega
theorem zkm (a b : Int) (ha : 0 ≤ a) (ha2 : a < 18446744073709551616) (hb : 0 ≤ b) (hb2 : b < 18446744073709551616) (h : bits .and .u64 (bits .or .u64 a b) 9259542123273814144 = 0) : bits .and .u64 a 9259542123273814144 = 0 ∧ bits .and .u64 b 9259542123273814144 = 0 := by
  obtain ⟨x, rfl⟩ := Int.eq_ofNat_of_zero_le ha
  obtain ⟨y, rfl⟩ := Int.eq_ofNat_of_zero_le hb
  have hx : x < 2 ^ 64 := by omega
  have hy : y < 2 ^ 64 := by omega
  have hM : (9259542123273814144 : Nat) < 2 ^ 64 := by decide
  have c : ((9259542123273814144 : Nat) : Int) = 9259542123273814144 := rfl
  rw [(bits_nat .u64 64 (by decide) zaV x y hx hy).2, ← c, (bits_nat .u64 64 (by decide) zaV (x ||| y) 9259542123273814144 (Nat.or_lt_two_pow hx hy) hM).1, Nat.and_or_distrib_right] at h
  rw [← c, (bits_nat .u64 64 (by decide) zaV x 9259542123273814144 hx hM).1, (bits_nat .u64 64 (by decide) zaV y 9259542123273814144 hy hM).1]
  have h2 : x &&& 9259542123273814144 ||| y &&& 9259542123273814144 = 0 := by omega
  rw [Nat.or_eq_zero_iff] at h2
  rw [h2.1, h2.2]
  exact ⟨rfl, rfl⟩
theorem zkn (a b : Int) (ha : 0 ≤ a) (ha2 : a < 18446744073709551616) (hb : 0 ≤ b) (hb2 : b < 18446744073709551616) : 0 ≤ bits .or .u64 a b ∧ bits .or .u64 a b < 18446744073709551616 := by
  obtain ⟨x, rfl⟩ := Int.eq_ofNat_of_zero_le ha
  obtain ⟨y, rfl⟩ := Int.eq_ofNat_of_zero_le hb
  have hx : x < 2 ^ 64 := by omega
  have hy : y < 2 ^ 64 := by omega
  rw [(bits_nat .u64 64 (by decide) zaV x y hx hy).2]
  have := Nat.or_lt_two_pow hx hy
  omega

theorem zbG (l l' : List UInt8) (e : l = l') (h : 8 ≤ l'.length) : Ctr Tryz.prog 167 [.s l] (.i .u64 (wordV l')) := by
  subst e
  exact zog l h
theorem zbj (l : List UInt8) (k : Nat) (n : Int) (hn : n = k) : ((l.take ((l.length : Int)).toNat).drop n.toNat) = l.drop k := by
  subst hn
  rw [Int.toNat_natCast, Int.toNat_natCast, List.take_length]
theorem sizes (c : Int) (h0 : 128 ≤ c) (h1 : c < 256) :
    (c < 194 ∨ 244 < c) ∧ firstZ c.toNat = 241 ∨ (194 ≤ c ∧ c ≤ 223) ∧ firstZ c.toNat = 2 ∨ c = 224 ∧ firstZ c.toNat = 19 ∨ (225 ≤ c ∧ c ≤ 236 ∨ 238 ≤ c ∧ c ≤ 239) ∧ firstZ c.toNat = 3 ∨ c = 237 ∧ firstZ c.toNat = 35 ∨
      c = 240 ∧ firstZ c.toNat = 52 ∨ (241 ≤ c ∧ c ≤ 243) ∧ firstZ c.toNat = 4 ∨ c = 244 ∧ firstZ c.toNat = 68 := by
  obtain ⟨n, rfl⟩ := Int.eq_ofNat_of_zero_le (show 0 ≤ c by omega)
  rw [Int.toNat_natCast]
  have h : n < 194 ∨ (194 ≤ n ∧ n < 224) ∨ n = 224 ∨ (225 ≤ n ∧ n < 237) ∨ n = 237 ∨ (238 ≤ n ∧ n < 240) ∨ n = 240 ∨ (241 ≤ n ∧ n < 244) ∨ n = 244 ∨ 245 ≤ n := by omega
  rcases h with h | h | h | h | h | h | h | h | h | h
  · have e : firstZ n = 241 := by unfold firstZ; rw [if_neg (by omega), if_pos (by omega)]
    omega
  · have e : firstZ n = 2 := by unfold firstZ; rw [if_neg (by omega), if_neg (by omega), if_pos (by omega)]
    omega
  · have e : firstZ n = 19 := by unfold firstZ; rw [if_neg (by omega), if_neg (by omega), if_neg (by omega), if_pos (by omega)]
    omega
  · have e : firstZ n = 3 := by unfold firstZ; rw [if_neg (by omega), if_neg (by omega), if_neg (by omega), if_neg (by omega), if_pos (by omega)]
    omega
  · have e : firstZ n = 35 := by unfold firstZ; rw [if_neg (by omega), if_neg (by omega), if_neg (by omega), if_neg (by omega), if_neg (by omega), if_pos (by omega)]
    omega
  · have e : firstZ n = 3 := by unfold firstZ; rw [if_neg (by omega), if_neg (by omega), if_neg (by omega), if_neg (by omega), if_neg (by omega), if_neg (by omega), if_pos (by omega)]
    omega
  · have e : firstZ n = 52 := by unfold firstZ; rw [if_neg (by omega), if_neg (by omega), if_neg (by omega), if_neg (by omega), if_neg (by omega), if_neg (by omega), if_neg (by omega), if_pos (by omega)]
    omega
  · have e : firstZ n = 4 := by unfold firstZ; rw [if_neg (by omega), if_neg (by omega), if_neg (by omega), if_neg (by omega), if_neg (by omega), if_neg (by omega), if_neg (by omega), if_neg (by omega), if_pos (by omega)]
    omega
  · have e : firstZ n = 68 := by unfold firstZ; rw [if_neg (by omega), if_neg (by omega), if_neg (by omega), if_neg (by omega), if_neg (by omega), if_neg (by omega), if_neg (by omega), if_neg (by omega), if_neg (by omega), if_pos (by omega)]
    omega
  · have e : firstZ n = 241 := by unfold firstZ; rw [if_neg (by omega), if_neg (by omega), if_neg (by omega), if_neg (by omega), if_neg (by omega), if_neg (by omega), if_neg (by omega), if_neg (by omega), if_neg (by omega), if_neg (by omega)]
    omega
theorem zeM {l : List UInt8} (h : ¬ at' l 0 < 128) : oneL l = if 1 < (l.length : Int) ∧ loF (at' l 0) ≤ at' l 1 ∧ at' l 1 ≤ hiF (at' l 0) then
      (if 194 ≤ at' l 0 ∧ at' l 0 ≤ 223 then 2 else if 224 ≤ at' l 0 ∧ at' l 0 ≤ 239 ∧ 2 < (l.length : Int) ∧ 128 ≤ at' l 2 ∧ at' l 2 ≤ 191 then 3
      else if 240 ≤ at' l 0 ∧ at' l 0 ≤ 244 ∧ 2 < (l.length : Int) ∧ 128 ≤ at' l 2 ∧ at' l 2 ≤ 191 ∧ 3 < (l.length : Int) ∧ 128 ≤ at' l 3 ∧ at' l 3 ≤ 191 then 4 else 0) else 0 := by
  have ht : ∀ (k lo hi : Int), tlB l k lo hi = true ↔ k < l.length ∧ lo ≤ at' l k ∧ at' l k ≤ hi := fun k lo hi => by
    unfold tlB
    simp [and_assoc]
  unfold oneL
  rw [if_neg h]
  by_cases h1 : tlB l 1 (loF (at' l 0)) (hiF (at' l 0)) = true
  · rw [if_neg (by rw [h1]; decide), if_pos ((ht _ _ _).1 h1)]
    simp only [ht, and_assoc]
  · rw [if_pos (by simpa using h1), if_neg (fun h2 => h1 ((ht _ _ _).2 h2))]
set_option maxRecDepth 20000 in
set_option maxHeartbeats 2000000 in
theorem zee (l0 : List UInt8) (_hl0 : l0.length ≤ 1099511627776) : Ctr Tryz.prog 112 [.s l0] (.b (validL l0)) := by
  refine zax Tryz.func112 rfl Tryz.ntmps112 Tryz.results112 rfl rfl fun X hL hX => ?_
  repeat' (first |with_reducible (first |refine zah ?_|refine zaa ?_|refine zag ?_|refine zad ?_|refine zaf ?_)|refine zab rfl rfl True.intro ?_|fail)
  refine T.loop hL (fun l : List UInt8 => [(0, .s l)]) (fun _ => []) (fun l => l.length ≤ l0.length ∧ validL l = validL l0) (fun l => l.length) l0
    ⟨Nat.le_refl _, rfl⟩ ⟨⟨rfl, trivial⟩, trivial, rfl, by rw [hX]; intro k hk; cases hk⟩ ?_
  rintro l ⟨g1, g2⟩
  have hr := zaD l 0
  by_cases hlen : l.length = 0
  · have hv := zgb hlen
    repeat' (first |with_reducible (first |refine zah ?_|refine zaa ?_|refine zag ?_|refine zad ?_|refine zan ?_|refine zat ?_|refine zas ?_)|refine zab rfl rfl True.intro ?_|((first |refine zac rfl ?_ ?_)<;>intro<;>try (first |(exfalso;omega)))|refine zaB rfl ?_|refine zaq rfl ?_|fail)
    rw [← g2, hv]
  by_cases hasc : at' l 0 < 128
  · have hv1 : validL (l.drop 1) = validL l := zbI 1 l (by omega) fun j hj => by rw [show j = 0 by omega]; exact hasc
    have hl1 : (l.drop 1).length = l.length - 1 := List.length_drop
    have e1 := zbj l 1 1 rfl
    generalize l.drop 1 = l1 at hv1 hl1 e1
    rw [g2] at hv1
    have hv9 : 8 ≤ l1.length → bits .and .u64 (wordV l1) 9259542123273814144 = 0 → validL (l1.drop 8) = validL l0 := fun h1 h2 => by rw [zbI 8 l1 h1 (zcc l1 h2), hv1]
    have hl9 : (l1.drop 8).length = l1.length - 8 := List.length_drop
    have e9 := zbj l1 8 8 rfl
    generalize l1.drop 8 = l9 at hv9 hl9 e9
    have hv25 : validL l9 = validL l0 → 16 ≤ l9.length → bits .and .u64 (bits .or .u64 (wordV l9) (wordV (l9.drop 8))) 9259542123273814144 = 0 → validL (l9.drop 16) = validL l0 := fun h0 h1 h2 => by
      have w1 := zbf l9
      have w2 := zbf (l9.drop 8)
      obtain ⟨a1, a2⟩ := zkm _ _ w1.1 w1.2 w2.1 w2.2 h2
      rw [zbI 16 l9 h1 (fun j hj => ?_), h0]
      by_cases h8 : j < 8
      · exact zcc l9 a1 j h8
      · have := zcc _ a2 (j - 8) (by omega)
        rw [zeY, show 8 + (j - 8) = j by omega] at this
        exact this
    have hl25 : (l9.drop 16).length = l9.length - 16 := List.length_drop
    have f8 := zbj l9 8 8 rfl
    have hf8 : (l9.drop 8).length = l9.length - 8 := List.length_drop
    have e25 := zbj l9 16 16 rfl
    generalize l9.drop 16 = l25 at hv25 hl25 e25
    generalize l9.drop 8 = l17 at hv25 f8 hf8
    have leaf : ∀ (m : List UInt8) (fr : Fr) (ow : Ow), m.length < l.length → validL m = validL l0 → leFr fr [(0, .s m)] →
        ∃ y : List UInt8, (y.length ≤ l0.length ∧ validL y = validL l0) ∧ y.length < l.length ∧ Le X fr ow [(0, .s y)] [] := fun m fr ow h1 h2 h3 =>
      ⟨m, ⟨by omega, h2⟩, h1, h3, trivial, rfl, by rw [hX]; intro k hk; cases hk⟩
    repeat' (first |refine T.weakF 0 (.s l1) (.of_eq (congrArg D.s e1)) ?_|refine T.weakF 0 (.s l9) (.of_eq (congrArg D.s e9)) ?_|refine T.weakF 0 (.s l25) (.of_eq (congrArg D.s e25)) ?_|with_reducible (first |refine zah ?_|refine zaa ?_|refine zag ?_|refine zad ?_|refine zai ?_|refine zat ?_|refine zaf ?_|refine zas ?_|refine zaC ?_)|refine zab rfl rfl True.intro ?_|refine zap rfl rfl rfl ?_|refine zaj rfl rfl rfl rfl True.intro ?_|refine zal rfl ?_|((first |refine zac rfl ?_ ?_|refine zak rfl rfl ?_ ?_)<;>intro<;>try (first |(exfalso;omega)))|((first |refine zab rfl rfl ?_ ?_|refine zaj rfl rfl rfl rfl ?_ ?_);focus (first |omega|((repeat' refine And.intro ?_ ?_)<;>omega)))|refine zaB rfl ?_|with_reducible refine ⟨by kernel_rfl, ?_⟩|refine zaw (f := 167) rfl rfl rfl rfl Tryz.call167 rfl (zbG _ l1 rfl (by omega)) ?_|refine zaw (f := 167) rfl rfl rfl rfl Tryz.call167 rfl (zbG _ l9 rfl (by omega)) ?_|refine zaw (f := 167) rfl rfl rfl rfl Tryz.call167 rfl (zbG _ l17 f8 (by omega)) ?_|fail)
    · have hv9 := hv9 (by omega) ‹_›
      have hv25 := hv25 hv9 (by omega) ‹_›
      refine T.loop hL (fun m : List UInt8 => [(0, .s m)]) (fun _ => []) (fun m => m.length < l.length ∧ validL m = validL l0) (fun m => m.length) l25
        ⟨by omega, hv25⟩ ⟨⟨rfl, trivial⟩, trivial, rfl, by rw [hX]; intro k hk; cases hk⟩ ?_
      clear hv9 hv25 hl25 e25 hf8 f8 hl9 e9 hv1 hl1 e1
      rintro m ⟨q1, q2⟩
      have f8 := zbj m 8 8 rfl
      have f16 := zbj m 16 16 rfl
      have f24 := zbj m 24 24 rfl
      have f32 := zbj m 32 32 rfl
      have h8 : (m.drop 8).length = m.length - 8 := List.length_drop
      have h16 : (m.drop 16).length = m.length - 16 := List.length_drop
      have h24 : (m.drop 24).length = m.length - 24 := List.length_drop
      have h32 : (m.drop 32).length = m.length - 32 := List.length_drop
      have hv32 : 32 ≤ m.length → bits .and .u64 (bits .or .u64 (bits .or .u64 (wordV m) (wordV (m.drop 8))) (bits .or .u64 (wordV (m.drop 16)) (wordV (m.drop 24)))) 9259542123273814144 = 0 → validL (m.drop 32) = validL l0 := fun h1 h2 => by
        have w0 := zbf m
        have w1 := zbf (m.drop 8)
        have w2 := zbf (m.drop 16)
        have w3 := zbf (m.drop 24)
        have o1 := zkn _ _ w0.1 w0.2 w1.1 w1.2
        have o2 := zkn _ _ w2.1 w2.2 w3.1 w3.2
        obtain ⟨a1, a2⟩ := zkm _ _ o1.1 o1.2 o2.1 o2.2 h2
        obtain ⟨b0, b1⟩ := zkm _ _ w0.1 w0.2 w1.1 w1.2 a1
        obtain ⟨b2, b3⟩ := zkm _ _ w2.1 w2.2 w3.1 w3.2 a2
        rw [zbI 32 m h1 (fun j hj => ?_), q2]
        have part : ∀ k : Nat, bits .and .u64 (wordV (m.drop k)) 9259542123273814144 = 0 → k ≤ j → j < k + 8 → at' m j < 128 := fun k hk g1 g2 => by
          have := zcc _ hk (j - k) (by omega)
          rw [zeY, show k + (j - k) = j by omega] at this
          exact this
        by_cases c1 : j < 8
        · exact zcc m b0 j c1
        · by_cases c2 : j < 16
          · exact part 8 b1 (by omega) (by omega)
          · by_cases c3 : j < 24
            · exact part 16 b2 (by omega) (by omega)
            · exact part 24 b3 (by omega) (by omega)
      generalize m.drop 8 = m8 at *
      generalize m.drop 16 = m16 at *
      generalize m.drop 24 = m24 at *
      generalize m.drop 32 = m32 at *
      repeat' (first |with_reducible (first |refine zah ?_|refine zaa ?_|refine zag ?_|refine zad ?_|refine zai ?_|refine zat ?_|refine zaf ?_|refine zao ?_|refine zas ?_|refine zaC ?_)|refine zab rfl rfl True.intro ?_|refine zap rfl rfl rfl ?_|refine zaj rfl rfl rfl rfl True.intro ?_|refine zal rfl ?_|((first |refine zac rfl ?_ ?_|refine zak rfl rfl ?_ ?_)<;>intro)|((first |refine zab rfl rfl ?_ ?_|refine zaj rfl rfl rfl rfl ?_ ?_);focus (first |omega|((repeat' refine And.intro ?_ ?_)<;>omega)))|refine zaB rfl ?_|with_reducible refine ⟨by kernel_rfl, ?_⟩|refine zaw (f := 167) rfl rfl rfl rfl Tryz.call167 rfl (zbG _ m rfl (by omega)) ?_|refine zaw (f := 167) rfl rfl rfl rfl Tryz.call167 rfl (zbG _ m8 f8 (by omega)) ?_|refine zaw (f := 167) rfl rfl rfl rfl Tryz.call167 rfl (zbG _ m16 f16 (by omega)) ?_|refine zaw (f := 167) rfl rfl rfl rfl Tryz.call167 rfl (zbG _ m24 f24 (by omega)) ?_|fail)
      · exact ⟨m32, ⟨by omega, hv32 (by omega) ‹_›⟩, by omega, ⟨congrArg D.s f32, trivial⟩, trivial, rfl, by rw [hX]; intro k hk; cases hk⟩
      · exact leaf m _ _ q1 q2 ⟨rfl, trivial⟩
      · exact leaf m _ _ q1 q2 ⟨rfl, trivial⟩
    · exact leaf l9 _ _ (by omega) (hv9 (by omega) ‹_›) ⟨rfl, trivial⟩
    · exact leaf l9 _ _ (by omega) (hv9 (by omega) ‹_›) ⟨rfl, trivial⟩
    · exact leaf l1 _ _ (by omega) hv1 ⟨rfl, trivial⟩
    · exact leaf l1 _ _ (by omega) hv1 ⟨rfl, trivial⟩
  · have hsz := sizes (at' l 0) (by omega) hr.2
    have hF0 : 0 + (at' l 0).toNat * 1 = (at' l 0).toNat := by omega
    rw [← hF0] at hsz
    have hS : IntKind.i64.wrap (bits .and .u8 (firstZ (0 + (at' l 0).toNat * 1)) 7) = firstZ (0 + (at' l 0).toNat * 1) % 8 := by
      have := bits_mask .u8 8 (by decide) wraps_u8 3 (by decide) (firstZ (0 + (at' l 0).toNat * 1)) (by omega) (by omega)
      rw [show (7 : Int) = 2 ^ 3 - 1 by decide, this, wi6_]
      omega
    have e4 : (2 : Int) ^ Int.toNat 4 = 16 := by decide
    have hA : firstZ (0 + (at' l 0).toNat * 1) / 2 ^ Int.toNat 4 = firstZ (0 + (at' l 0).toNat * 1) / 16 := by rw [e4]
    have hlh : (at' l 0 < 194 ∨ 244 < at' l 0) ∨ (accZ (0 + (firstZ (0 + (at' l 0).toNat * 1) / 2 ^ Int.toNat 4).toNat * 2) = loF (at' l 0) ∧ accZ (0 + (firstZ (0 + (at' l 0).toNat * 1) / 2 ^ Int.toNat 4).toNat * 2 + 1) = hiF (at' l 0)) := by
      rcases hsz with ⟨h, _⟩ | ⟨h, hF⟩ | ⟨h, hF⟩ | ⟨h, hF⟩ | ⟨h, hF⟩ | ⟨h, hF⟩ | ⟨h, hF⟩ | ⟨h, hF⟩
      · exact .inl h
      all_goals
        right
        rw [hF]
        unfold loF hiF
        refine ⟨?_, ?_⟩ <;> (repeat' split) <;> first | rfl | (exfalso; omega)
    have f2 := zbj l 2 2 rfl
    have f3 := zbj l 3 3 rfl
    have f4 := zbj l 4 4 rfl
    have good : ∀ k : Nat, oneL l = k → 2 ≤ k → k ≤ l.length → ∀ (fr : Fr) (ow : Ow), leFr fr [(0, .s (l.drop k))] →
        ∃ y : List UInt8, (y.length ≤ l0.length ∧ validL y = validL l0) ∧ y.length < l.length ∧ Le X fr ow [(0, .s y)] [] := fun k h1 h2 h3 fr ow h4 => by
      have hlen2 : (l.drop k).length = l.length - k := List.length_drop
      refine ⟨l.drop k, ⟨by omega, ?_⟩, by omega, h4, trivial, rfl, by rw [hX]; intro k hk; cases hk⟩
      rw [← g2, zcW hlen (by omega), h1]
    repeat' (first |with_reducible (first |refine zah ?_|refine zaa ?_|refine zag ?_|refine zad ?_|refine zan ?_|refine zai ?_|refine zaf ?_|refine zao ?_|refine zam ?_|refine zaz ?_|refine zaC ?_)|refine zab rfl rfl True.intro ?_|refine zap rfl rfl rfl ?_|refine zaj rfl rfl rfl rfl True.intro ?_|refine zau rfl ?_|((first |refine zac rfl ?_ ?_|refine zak rfl rfl ?_ ?_)<;>intro<;>try (first |(exfalso;omega)))|((first |refine zab rfl rfl ?_ ?_|refine zaj rfl rfl rfl rfl ?_ ?_|refine zav rfl rfl ?_ ?_|refine zaH rfl ?_ ?_);focus (first |(rw [hA];omega)|omega|exact le_ rfl|((repeat' refine And.intro ?_ ?_)<;>omega)|((repeat' refine And.intro ?_ ?_)<;>first |rfl|exact Nat.le_refl _)))|with_reducible refine ⟨by kernel_rfl, ?_⟩|refine zaq rfl ?_|fail)
    all_goals
      first
        | (rw [← g2, zfN hlen (by rw [zeM hasc]; (repeat' split) <;> omega)]; done)
        | exact good 2 (by rw [zeM hasc]; (repeat' split) <;> omega) (by omega) (by omega) _ _ ⟨congrArg D.s f2, trivial⟩
        | exact good 3 (by rw [zeM hasc]; (repeat' split) <;> omega) (by omega) (by omega) _ _ ⟨congrArg D.s f3, trivial⟩
        | exact good 4 (by rw [zeM hasc]; (repeat' split) <;> omega) (by omega) (by omega) _ _ ⟨congrArg D.s f4, trivial⟩

theorem zdz (s : List UInt8) (hs : s.length ≤ 1099511627776) : Ctr Tryz.prog 66 [.s s] (.b (validL s)) := by
  have c := zee s hs
  refine zax Tryz.func66 rfl Tryz.ntmps66 Tryz.results66 rfl rfl fun X hL hX => ?_
  repeat' (first |with_reducible (first |refine zah ?_|refine zaa ?_|refine zag ?_|refine zad ?_|refine zan ?_)|refine zab rfl rfl True.intro ?_|refine zaq rfl ?_|refine zae (f := 112) rfl rfl Tryz.call112 rfl c ?_|fail)
  rfl
theorem zgw (s : List UInt8) (i lo hi : Int) (h0 : 0 ≤ i) : Ctr Tryz.prog 114 [.s s, .i .i64 i, .i .i64 lo, .i .i64 hi] (.b (tlB s i lo hi)) := by
  have hr := zaD s i
  have e : IntKind.i64.wrap (at' s i) = at' s i := by rw [wi6_]; omega
  have ht : tlB s i lo hi = true ↔ i < s.length ∧ lo ≤ at' s i ∧ at' s i ≤ hi := by
    unfold tlB
    simp [and_assoc]
  generalize tlB s i lo hi = b at ht
  refine zax Tryz.func114 rfl Tryz.ntmps114 Tryz.results114 rfl rfl fun X hL hX => ?_
  repeat' (first |with_reducible (first |refine zah ?_|refine zaa ?_|refine zag ?_|refine zad ?_|refine zan ?_)|refine zab rfl rfl True.intro ?_|refine zap rfl rfl rfl ?_|refine zaj rfl rfl rfl rfl True.intro ?_|((first |refine zak rfl rfl ?_ ?_)<;>intro)|((first |refine zaj rfl rfl rfl rfl ?_ ?_);focus (first |omega|((repeat' refine And.intro ?_ ?_)<;>omega)))|refine zaq rfl ?_|fail)
  all_goals
    rw [e] at *
    congr 1
    rw [Bool.eq_iff_iff, ht]
    simp
    omega
theorem zgM (s : List UInt8) (i : Nat) (k lo hi : Int) (hk : 0 ≤ k) (hi' : i ≤ s.length) : tlB s (i + k) lo hi = tlB (s.drop i) k lo hi := by
  obtain ⟨n, rfl⟩ := Int.eq_ofNat_of_zero_le hk
  unfold tlB
  rw [zeY, List.length_drop, show ((i : Int) + (n : Nat)) = ((i + n : Nat) : Int) by omega]
  congr 2
  rw [Bool.eq_iff_iff]
  simp
  omega
set_option maxHeartbeats 1000000 in
theorem zqE (s : List UInt8) (i : Nat) (h : i < s.length) (hs : s.length ≤ 1099511627776) : Ctr Tryz.prog 69 [.s s, .i .i64 i] (.i .i64 (oneL (s.drop i))) := by
  have hr := zaD s i
  have e0 := zeY s i 0
  rw [Nat.add_zero, show ((0 : Nat) : Int) = 0 from rfl] at e0
  have e : IntKind.i64.wrap (at' s i) = at' (s.drop i) 0 := by rw [wi6_, e0]; omega
  have t1 := zgM s i 1 (loF (at' (s.drop i) 0)) (hiF (at' (s.drop i) 0)) (by omega) (by omega)
  have t2 := zgM s i 2 128 191 (by omega) (by omega)
  have t3 := zgM s i 3 128 191 (by omega) (by omega)
  have d1 := zgw s (i + 1) (loF (at' (s.drop i) 0)) (hiF (at' (s.drop i) 0)) (by omega)
  have d2 := zgw s (i + 2) 128 191 (by omega)
  have d3 := zgw s (i + 3) 128 191 (by omega)
  rw [t1] at d1
  rw [t2] at d2
  rw [t3] at d3
  rw [← e0] at hr
  unfold oneL
  unfold loF hiF at *
  generalize at' (s.drop i) 0 = c at *
  clear t1 t2 t3 e0
  generalize tlB (s.drop i) 2 128 191 = b2 at *
  generalize tlB (s.drop i) 3 128 191 = b3 at *
  generalize hb1 : tlB (s.drop i) 1 (if c = 224 then 160 else if c = 240 then 144 else 128) (if c = 237 then 159 else if c = 244 then 143 else 191) = b1 at *
  clear hb1
  refine zax Tryz.func69 rfl Tryz.ntmps69 Tryz.results69 rfl rfl fun X hL hX => ?_
  repeat' (first |with_reducible (first |refine zah ?_|refine zaa ?_|refine zag ?_|refine zad ?_|refine zan ?_|refine zai ?_|refine zam ?_)|refine zab rfl rfl True.intro ?_|refine zap rfl rfl rfl ?_|refine zaj rfl rfl rfl rfl True.intro ?_|refine zal rfl ?_|((first |refine zac rfl ?_ ?_|refine zaS rfl ?_ ?_|refine zep rfl ?_ ?_|refine zak rfl rfl ?_ ?_)<;>intro<;>try (first |(exfalso;omega)))|((first |refine zab rfl rfl ?_ ?_|refine zaj rfl rfl rfl rfl ?_ ?_);focus (first |omega|((repeat' refine And.intro ?_ ?_)<;>omega)))|refine zaq rfl ?_|refine zae (f := 114) rfl rfl Tryz.call114 rfl (by first |(repeat (first |rw [if_pos (by omega)] at d1|rw [if_neg (by omega)] at d1));exact d1) ?_|refine zaw (f := 114) rfl rfl rfl rfl Tryz.call114 rfl d2 ?_|refine zaw (f := 114) rfl rfl rfl rfl Tryz.call114 rfl d3 ?_|((with_reducible refine zrn ?_);(fail_if_success (refine zoW true rfl rfl rfl ?_));(fail_if_success (refine zoW false rfl rfl rfl ?_));refine zlH rfl rfl (fun _ => ?_) (fun _ => ?_))|fail)
  all_goals
    clear d1 d2 d3
    generalize IntKind.i64.wrap (at' s i) = w at *
    subst e
    refine congrArg (D.i .i64) ?_
    (repeat' split) <;> first | rfl | (exfalso; omega) | (exfalso; simp_all; done) | (exfalso; simp_all; omega)
theorem zcN (s : List UInt8) (hs : s.length ≤ 1099511627776) : Ctr Tryz.prog 36 [.s s] (.b (validL s)) := by
  refine zax Tryz.func36 rfl Tryz.ntmps36 Tryz.results36 rfl rfl fun X hL hX => ?_
  repeat' (first |with_reducible (first |refine zah ?_|refine zaa ?_|refine zag ?_|refine zad ?_|refine zaf ?_)|refine zab rfl rfl True.intro ?_|fail)
  refine T.loop hL (fun i : Nat => [(0, .s s), (3, .i .i64 i)]) (fun _ => []) (fun i => i ≤ s.length ∧ validL (s.drop i) = validL s) (fun i => s.length - i) 0
    ⟨Nat.zero_le _, rfl⟩ ⟨⟨rfl, rfl, trivial⟩, trivial, rfl, by rw [hX]; intro k hk; cases hk⟩ ?_
  rintro i ⟨g1, g2⟩
  replace g2 := fun _ : Unit => g2
  have hd : (s.drop i).length = s.length - i := List.length_drop
  by_cases hi : i < s.length
  · have c := zqE s i hi hs
    have hle : oneL (s.drop i) ≤ (s.drop i).length := by
      by_cases hasc : at' (s.drop i) 0 < 128
      · unfold oneL
        rw [if_pos hasc]
        omega
      · rw [zeM hasc]
        (repeat' split) <;> omega
    by_cases ho : oneL (s.drop i) = 0
    · have hv := fun _ : Unit => zfN (l := s.drop i) (by omega) ho
      rw [ho] at c
      repeat' (first |with_reducible (first |refine zah ?_|refine zaa ?_|refine zag ?_|refine zad ?_|refine zan ?_|refine zai ?_|refine zaf ?_|refine zam ?_|refine zaz ?_)|refine zab rfl rfl True.intro ?_|refine zau rfl ?_|((first |refine zac rfl ?_ ?_)<;>intro<;>try (first |(exfalso;omega)))|refine zaq rfl ?_|refine zae (f := 69) rfl rfl Tryz.call69 rfl c ?_|fail)
      rw [← g2 (), hv ()]
    · have hv := fun _ : Unit => zcW (l := s.drop i) (by omega) ho
      simp only [List.drop_drop] at hv
      generalize oneL (s.drop i) = k at *
      repeat' (first |with_reducible (first |refine zah ?_|refine zaa ?_|refine zag ?_|refine zad ?_|refine zai ?_|refine zaf ?_|refine zao ?_)|refine zab rfl rfl True.intro ?_|((first |refine zac rfl ?_ ?_)<;>intro<;>try (first |(exfalso;omega)))|((first |refine zab rfl rfl ?_ ?_);focus (first |omega|((repeat' refine And.intro ?_ ?_)<;>omega)))|refine zae (f := 69) rfl rfl Tryz.call69 rfl c ?_|fail)
      exact ⟨i + k, ⟨by omega, by rw [← g2 (), hv ()]⟩, by omega, ⟨rfl, rfl, trivial⟩, trivial, rfl, by rw [hX]; intro k hk; cases hk⟩
  · have hv := fun _ : Unit => zgb (l := s.drop i) (by omega)
    repeat' (first |with_reducible (first |refine zah ?_|refine zaa ?_|refine zag ?_|refine zad ?_|refine zan ?_|refine zat ?_|refine zas ?_)|refine zab rfl rfl True.intro ?_|((first |refine zac rfl ?_ ?_)<;>intro<;>try (first |(exfalso;omega)))|refine zaB rfl ?_|refine zaq rfl ?_|fail)
    rw [← g2 (), hv ()]
end Go.Proofs.YtkkaamhocpmhkaaGreatDoor.Flow
